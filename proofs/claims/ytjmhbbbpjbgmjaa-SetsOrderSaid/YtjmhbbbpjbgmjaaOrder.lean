/-
  The contract of reparteelaw01.SetsOrder.
-/
import Derived.Test.YtjmhbbbpjbgmjaaOrderPlain
import Derived.Test.YtjmhbbbpjbgmjaaOrderMap
import Derived.Test.YtjmhbbbpjbgmjaaAwake
set_option linter.unusedSimpArgs false
set_option linter.unusedVariables false
namespace Go.Proofs.Ytjmhbbbpjbgmjaa
open Go.RowKit Go.Fwd Go.Shelf Go.Proofs

set_option maxRecDepth 100000 in
set_option maxHeartbeats 16000000 in
theorem order_any (A B C : BS) (x : Nat) (hx : x < 256) (w : World) : Calls Try.prog 3 #[sv A, sv B, sv C, .int .u8 x] w (Ret (.bool true) w) := by
  have hbd := ocmp_bounds A B
  obtain ⟨ab, hab⟩ : ∃ v, v = cmpS A B := ⟨_, rfl⟩
  rw [← hab] at hbd
  obtain ⟨bc, hbc⟩ : ∃ v, v = cmpS B C := ⟨_, rfl⟩
  obtain ⟨ac, hac⟩ : ∃ v, v = cmpS A C := ⟨_, rfl⟩
  have hc1 : ∀ W, Calls Try.prog 11 #[sv A, sv B] W (Ret (.int .i64 ab) W) := fun W => by rw [hab]; exact compare_any A B W
  have hc2 : ∀ W, Calls Try.prog 11 #[sv B, sv A] W (Ret (.int .i64 (-ab)) W) := fun W => by rw [hab, ← ocmp_neg A B]; exact compare_any B A W
  have hc3 : ∀ W, Calls Try.prog 11 #[sv B, sv C] W (Ret (.int .i64 bc) W) := fun W => by rw [hbc]; exact compare_any B C W
  have hc4 : ∀ W, Calls Try.prog 11 #[sv A, sv C] W (Ret (.int .i64 ac) W) := fun W => by rw [hac]; exact compare_any A C W
  have hof : ∀ v W, SlAt 1 [.int .u8 (x : Int)] v W → Calls Try.prog 13 #[v] W (Ret (sv (ofS [x])) W) := fun v W h => of_any [x] (by simpa using hx) (by simp) v W h
  obtain ⟨bb, hbb⟩ : ∃ v, v = A.getLsbD x := ⟨_, rfl⟩
  have hcl : ∀ W, Calls Try.prog 11 #[sv (A &&& ~~~ofS [x]), sv A] W (Ret (.int .i64 (if bb then 1 else 0)) W) := fun W => by
    have := compare_any (A &&& ~~~ofS [x]) A W
    rw [ocmp_less A x hx, ← hbb] at this; exact this
  have hhas : ∀ W, Calls Try.prog 14 #[sv A, .int .u8 x] W (Ret (.bool bb) W) := fun W => by rw [hbb]; exact has_any A x W hx
  unfold sv
  go_enter Try.func3, Try.ntmps3
  go_wp2_with (go_at_call 10; refine (awake_any _).mono ?_; rintro e w1 ⟨rfl, hb1⟩)
  have hA : w1.heap[w.heap.size]? = some (.cells (sc A) 24 (0, 0)) := (hb1.block _ (by simp; omega)).trans ((Below.heap_alloc _ _ _ (by simp <;> omega)).trans ((Below.heap_alloc _ _ _ (by simp)).trans (heap_new _ _ _ rfl)))
  have hB : w1.heap[w.heap.size + 1]? = some (.cells (sc B) 24 (0, 0)) := (hb1.block _ (by simp)).trans ((Below.heap_alloc _ _ _ (by simp)).trans (heap_new _ _ _ (by simp)))
  have hC : w1.heap[w.heap.size + 1 + 1]? = some (.cells (sc C) 24 (0, 0)) := (hb1.block _ (by simp)).trans (heap_new _ _ _ (by simp))
  have hE : Ex w.heap.size w w1 := ((((Ex.refl _ _).alloc (Nat.le_refl _) _).alloc (by simp) _).alloc (by simp; omega) _).trans (hb1.mono (by simp; omega))
  clear hb1
  have hlt := (Array.getElem?_eq_some_iff.1 hC).1
  refine wp_region_fwd 16 (by kernel_rfl) (by kernel_rfl) ?_
  simp only [List.take_succ_cons, List.take_zero, List.drop_succ_cons, List.drop_zero]
  refine fwd_l rfl ?_ rfl ?_ hA Try.underlying24 rfl info24 ?_
  · exact trivial
  · rintro ρ W ⟨_, _, _, hr⟩
    simp [Op.operands, Call.operands, readsOf, All, env, Is, Act.eval] at hr
    exact hr
  refine fwd_l rfl ?_ rfl ?_ hB Try.underlying24 rfl info24 ?_
  · exact trivial
  · rintro ρ W ⟨_, _, _, hr⟩
    simp [Op.operands, Call.operands, readsOf, All, env, Is, Act.eval] at hr
    exact hr
  refine fwd_ce (e := .int .i64 (ab)) rfl trivial ?_ ?_
  · rintro ρ W ⟨h1, h2, hW, hr⟩
    try simp [Op.operands, Call.operands, readsOf, All, env, Is, Act.eval] at hr
    refine ⟨11, #[sv A, sv B], ?_, hc1 _⟩
    go_simp
    try first | rfl | exact ⟨rfl, rfl⟩
  refine fwd_l rfl ?_ rfl ?_ hB Try.underlying24 rfl info24 ?_
  · exact trivial
  · rintro ρ W ⟨_, _, _, hr⟩
    simp [Op.operands, Call.operands, readsOf, All, env, Is, Act.eval] at hr
    exact hr
  refine fwd_l rfl ?_ rfl ?_ hA Try.underlying24 rfl info24 ?_
  · exact trivial
  · rintro ρ W ⟨_, _, _, hr⟩
    simp [Op.operands, Call.operands, readsOf, All, env, Is, Act.eval] at hr
    exact hr
  refine fwd_ce (e := .int .i64 (-ab)) rfl trivial ?_ ?_
  · rintro ρ W ⟨h1, h2, hW, hr⟩
    try simp [Op.operands, Call.operands, readsOf, All, env, Is, Act.eval] at hr
    refine ⟨11, #[sv B, sv A], ?_, hc2 _⟩
    go_simp
    try first | rfl | exact ⟨rfl, rfl⟩
  refine fwd_l rfl ?_ rfl ?_ hB Try.underlying24 rfl info24 ?_
  · exact trivial
  · rintro ρ W ⟨_, _, _, hr⟩
    simp [Op.operands, Call.operands, readsOf, All, env, Is, Act.eval] at hr
    exact hr
  refine fwd_l rfl ?_ rfl ?_ hC Try.underlying24 rfl info24 ?_
  · exact trivial
  · rintro ρ W ⟨_, _, _, hr⟩
    simp [Op.operands, Call.operands, readsOf, All, env, Is, Act.eval] at hr
    exact hr
  refine fwd_ce (e := .int .i64 (bc)) rfl trivial ?_ ?_
  · rintro ρ W ⟨h1, h2, hW, hr⟩
    try simp [Op.operands, Call.operands, readsOf, All, env, Is, Act.eval] at hr
    refine ⟨11, #[sv B, sv C], ?_, hc3 _⟩
    go_simp
    try first | rfl | exact ⟨rfl, rfl⟩
  refine fwd_l rfl ?_ rfl ?_ hA Try.underlying24 rfl info24 ?_
  · exact trivial
  · rintro ρ W ⟨_, _, _, hr⟩
    simp [Op.operands, Call.operands, readsOf, All, env, Is, Act.eval] at hr
    exact hr
  refine fwd_l rfl ?_ rfl ?_ hC Try.underlying24 rfl info24 ?_
  · exact trivial
  · rintro ρ W ⟨_, _, _, hr⟩
    simp [Op.operands, Call.operands, readsOf, All, env, Is, Act.eval] at hr
    exact hr
  refine fwd_ce (e := .int .i64 (ac)) rfl trivial ?_ ?_
  · rintro ρ W ⟨h1, h2, hW, hr⟩
    try simp [Op.operands, Call.operands, readsOf, All, env, Is, Act.eval] at hr
    refine ⟨11, #[sv A, sv C], ?_, hc4 _⟩
    go_simp
    try first | rfl | exact ⟨rfl, rfl⟩
  refine fwd_e (e := .int .i64 (ab)) rfl trivial ?_ ?_
  · rintro ρ W ⟨h1, h2, hW, hr⟩
    try simp [Op.operands, Call.operands, readsOf, All, env, Is, Act.eval] at hr
    go_simp
    try rfl
  refine fwd_e (e := .int .i64 (-ab)) rfl trivial ?_ ?_
  · rintro ρ W ⟨h1, h2, hW, hr⟩
    try simp [Op.operands, Call.operands, readsOf, All, env, Is, Act.eval] at hr
    go_simp
    try rfl
  refine fwd_e (e := .int .i64 (bc)) rfl trivial ?_ ?_
  · rintro ρ W ⟨h1, h2, hW, hr⟩
    try simp [Op.operands, Call.operands, readsOf, All, env, Is, Act.eval] at hr
    go_simp
    try rfl
  refine fwd_e (e := .int .i64 (ac)) rfl trivial ?_ ?_
  · rintro ρ W ⟨h1, h2, hW, hr⟩
    try simp [Op.operands, Call.operands, readsOf, All, env, Is, Act.eval] at hr
    go_simp
    try rfl
  refine fwd_nil ?_
  intro w2 hg2
  simp [EndAt, Is, Act.put]
  replace hA := (hg2.block _ (Array.getElem?_eq_some_iff.1 hA).1).trans hA
  replace hB := (hg2.block _ (Array.getElem?_eq_some_iff.1 hB).1).trans hB
  replace hC := (hg2.block _ (Array.getElem?_eq_some_iff.1 hC).1).trans hC
  replace hE := hE.trans (Ex.mono hg2 hE.size)
  have hneg : IntKind.i64.wrap (- -ab) = ab := by simp [IntKind.wrap, IntKind.bits, IntKind.signed]; omega
  clear hc1 hc2 hc3 hc4 hlt hg2
  have hcs : (¬ ab ≤ 0) ∨ (ab ≤ 0 ∧ ¬ bc ≤ 0) ∨ (ab ≤ 0 ∧ bc ≤ 0 ∧ ac ≤ 0) := by
    rw [hab, hbc, hac]
    by_cases h1 : cmpS A B ≤ 0
    · by_cases h2 : cmpS B C ≤ 0
      · exact .inr (.inr ⟨h1, h2, ocmp_trans A B C h1 h2⟩)
      · exact .inr (.inl ⟨h1, h2⟩)
    · exact .inl h1
  have heq : ∀ W : World, (Op.equalIn 10000 24 (.agg #[.int .u64 (wd A 0), .int .u64 (wd A 1), .int .u64 (wd A 2), .int .u64 (wd A 3)]) (.agg #[.int .u64 (wd B 0), .int .u64 (wd B 1), .int .u64 (wd B 2), .int .u64 (wd B 3)])).run Try.prog W = .ok (ab == 0) W := fun W => by
    rw [eqIn24, sv_beq]
    have : (A == B) = (ab == 0) := by
      rw [Bool.eq_iff_iff, beq_iff_eq, beq_iff_eq, hab]; exact (ocmp_zero A B).symm
    rw [this]
  have cA0 : w2.cell? ⟨w.heap.size, 0, none⟩ = some (.int .u64 (wd A 0)) := by rw [cell_of_row _ _ _ _ _ _ hA]; rfl
  have cA1 : w2.cell? ⟨w.heap.size, 1, none⟩ = some (.int .u64 (wd A 1)) := by rw [cell_of_row _ _ _ _ _ _ hA]; rfl
  have cA2 : w2.cell? ⟨w.heap.size, 2, none⟩ = some (.int .u64 (wd A 2)) := by rw [cell_of_row _ _ _ _ _ _ hA]; rfl
  have cA3 : w2.cell? ⟨w.heap.size, 3, none⟩ = some (.int .u64 (wd A 3)) := by rw [cell_of_row _ _ _ _ _ _ hA]; rfl
  have cB0 : w2.cell? ⟨w.heap.size + 1, 0, none⟩ = some (.int .u64 (wd B 0)) := by rw [cell_of_row _ _ _ _ _ _ hB]; rfl
  have cB1 : w2.cell? ⟨w.heap.size + 1, 1, none⟩ = some (.int .u64 (wd B 1)) := by rw [cell_of_row _ _ _ _ _ _ hB]; rfl
  have cB2 : w2.cell? ⟨w.heap.size + 1, 2, none⟩ = some (.int .u64 (wd B 2)) := by rw [cell_of_row _ _ _ _ _ _ hB]; rfl
  have cB3 : w2.cell? ⟨w.heap.size + 1, 3, none⟩ = some (.int .u64 (wd B 3)) := by rw [cell_of_row _ _ _ _ _ _ hB]; rfl
  clear hab hbc hac
  rcases hcs with h1 | ⟨h1, h2⟩ | ⟨h1, h2, h3⟩
  · go_wp2_with fail
    refine wp_region_fwd 6 (by kernel_rfl) (by kernel_rfl) ?_
    simp only [List.take_succ_cons, List.take_zero, List.drop_succ_cons, List.drop_zero]
    refine fwd_l rfl ?_ rfl ?_ hA Try.underlying24 rfl info24 ?_
    · exact trivial
    · rintro ρ W ⟨_, _, _, hr⟩
      simp [Op.operands, Call.operands, readsOf, All, env, Is, Act.eval] at hr
      exact hr
    refine fwd_e (e := .int .u8 x) rfl trivial ?_ ?_
    · rintro ρ W ⟨h1, h2, hW, hr⟩
      try simp [Op.operands, Call.operands, readsOf, All, env, Is, Act.eval] at hr
      go_simp
      try rfl
    refine fwd_s #[.int .u8 x] 1 5 rfl trivial ?_ ?_
    · rintro ρ W ⟨h1, h2, hW, hr⟩
      try simp [Op.operands, Call.operands, readsOf, All, env, Is, Act.eval] at hr
      go_simp
      try rfl
    refine fwd_ce (e := sv (ofS [x])) rfl trivial ?_ ?_
    · rintro ρ W ⟨h1, h2, hW, hr⟩
      try simp [Op.operands, Call.operands, readsOf, All, env, Is, Act.eval] at hr
      refine ⟨13, #[ρ (.tmp 62)], ?_, hof _ _ hr⟩
      go_simp
      try first | rfl | exact ⟨rfl, rfl⟩
    refine fwd_ce (e := sv (A &&& ~~~ofS [x])) rfl trivial ?_ ?_
    · rintro ρ W ⟨h1, h2, hW, hr⟩
      try simp [Op.operands, Call.operands, readsOf, All, env, Is, Act.eval] at hr
      refine ⟨12, #[sv A, sv (ofS [x])], ?_, less_any _ _ _⟩
      go_simp
      try first | rfl | exact ⟨rfl, rfl⟩
    refine fwd_v (fun v W => ∃ b, v = .pointer (some ⟨b, 0, none⟩) ∧ w2.heap.size ≤ b ∧ W.heap[b]? = some (.cells #[.int .u64 0, .int .u64 0, .int .u64 0, .int .u64 0] 24 (0, 0))) ?_ rfl trivial ?_ ?_
    · rintro v W W' hg ⟨b, h1, h2, h3⟩
      exact ⟨b, h1, h2, (hg.block b (Array.getElem?_eq_some_iff.1 h3).1).trans h3⟩
    · rintro ρ W ⟨h1, h2, hW, hr⟩
      go_simp
      exact ⟨(Ex.refl _ _).alloc (Nat.le_refl _) _, _, rfl, hW.size, heap_new _ _ _ rfl⟩
    refine fwd_nil ?_
    intro w3 hg3
    simp [EndAt, Is, Act.put]
    rintro v62 - v13 bl rfl hbl hL
    have hA3 := (hg3.block _ (Array.getElem?_eq_some_iff.1 hA).1).trans hA
    have hE3 := hE.trans (Ex.mono hg3 hE.size)
    have hlA := (Array.getElem?_eq_some_iff.1 hA).1
    refine wpList_store_rowTo' rfl 24 (.tmp 13) (.tmp 64) rfl rfl bl (sc (A &&& ~~~ofS [x])) rfl rfl 24 _ hL info24 rfl (sc_one _) ?_
    have hA4 : (w3.setRow bl (sc (A &&& ~~~ofS [x]))).heap[w.heap.size]? = some (.cells (sc A) 24 (0, 0)) := ((Ex.setRow (B := w2.heap.size) (Ex.refl _ w3) hbl _).block w.heap.size hlA).trans hA3
    have hL4 : (w3.setRow bl (sc (A &&& ~~~ofS [x]))).heap[bl]? = some (.cells (sc (A &&& ~~~ofS [x])) 24 (0, 0)) := setRow_heap _ _ _ _ _ _ hL
    have hE4 : Ex w.heap.size w (w3.setRow bl (sc (A &&& ~~~ofS [x]))) := Ex.setRow hE3 (by omega) _
    generalize w3.setRow bl (sc (A &&& ~~~ofS [x])) = w4 at *
    clear hA hB hC hE hE3 hA3 hg3 hL heq cA0 cA1 cA2 cA3 cB0 cB1 cB2 cB3 hneg
    go_wp2_with fail
    show Code.wp _ _ _ _ ((FwdJ.GM w4.heap.size).π (w4, none))
    refine FwdJ.wp_region_fwd (G := FwdJ.GM w4.heap.size) (w := (w4, none)) (w1 := ({ w4 with drawn := w4.drawn + 1 }, none)) 13 rfl ⟨id, (Ex.refl _ _).drew, fun _ h => h⟩ (fun d hd => ⟨fun _ => ⟨rfl, hd 4 (by simp), hd 5 (by simp), hd 6 (by simp)⟩, fun h => (by rw [hd 3 (by simp)] at h; cases h), fun h => (by rw [hd 6 (by simp)] at h; cases h)⟩) (by kernel_rfl) (by kernel_rfl) ?_
    simp only [List.take_succ_cons, List.take_zero, List.drop_succ_cons, List.drop_zero]
    refine FwdJ.jf_l rfl rfl rfl (by decide) (by decide) (by decide) (by decide) rfl ?_ hL4 Try.underlying24 rfl info24 ?_
    · rintro ρ W ⟨_, _, _, _, hr⟩
      simp [Op.operands, Call.operands, readsOf, FwdJ.All, FwdJ.env, FwdJ.Is, Act.eval] at hr
      exact hr
    refine FwdJ.jf_l rfl rfl rfl (by decide) (by decide) (by decide) (by decide) rfl ?_ hA4 Try.underlying24 rfl info24 ?_
    · rintro ρ W ⟨_, _, _, _, hr⟩
      simp [Op.operands, Call.operands, readsOf, FwdJ.All, FwdJ.env, FwdJ.Is, Act.eval] at hr
      exact hr
    refine FwdJ.jf_c (e := .int .i64 (if bb then 1 else 0)) (Nat.le_refl _) rfl rfl (by decide) (by decide) (by decide) (by decide) ?_ ?_
    · rintro ρ W ⟨h1, h2, _, _, hr⟩
      try simp [Op.operands, Call.operands, readsOf, FwdJ.All, FwdJ.env, FwdJ.Is, Act.eval] at hr
      refine ⟨11, #[sv (A &&& ~~~ofS [x]), sv A], ?_, hcl _⟩
      go_simp
      try first | rfl | exact ⟨rfl, rfl⟩
    refine FwdJ.jf_make (Nat.le_refl _) rfl rfl (fun ρ W => rfl) ?_
    refine FwdJ.jf_ins false (tm := 68) (Nat.le_refl _) rfl rfl rfl ⟨_, List.mem_toArray.2 (List.mem_cons_self ..), rfl, rfl⟩ ?_ ?_ ?_
    · intro ρ W hr
      simp [Op.operands, Call.operands, readsOf, FwdJ.All, FwdJ.env, FwdJ.Is, Act.eval] at hr
      exact hr
    · intro ρ W b es c h1 hv hb hno
      have := FwdJ.run_upd (P := Try.prog) (mt := 29) (.int .i64 0) Try.underlying29 Try.underlying4 hb hno
      simp only [execOp, h1, hv]
      show (do Instr.mapUpdate 29 (.map (some b)) (.bool false) (.int .i64 _); pure Next.skip : Sem Next).run Try.prog W = _
      rw [Sem.run_bind, this]
      rfl
    refine FwdJ.jf_ins true (tm := 68) (Nat.le_refl _) rfl rfl rfl ⟨_, List.mem_toArray.2 (List.mem_cons_self ..), rfl, rfl⟩ ?_ ?_ ?_
    · intro ρ W hr
      simp [Op.operands, Call.operands, readsOf, FwdJ.All, FwdJ.env, FwdJ.Is, Act.eval] at hr
      exact hr
    · intro ρ W b es c h1 hv hb hno
      have := FwdJ.run_upd (P := Try.prog) (mt := 29) (.int .i64 1) Try.underlying29 Try.underlying4 hb hno
      simp only [execOp, h1, hv]
      show (do Instr.mapUpdate 29 (.map (some b)) (.bool true) (.int .i64 _); pure Next.skip : Sem Next).run Try.prog W = _
      rw [Sem.run_bind, this]
      rfl
    refine FwdJ.jf_mv (tm := 68) (Nat.le_refl _) rfl rfl ⟨_, List.mem_toArray.2 (List.mem_cons_self ..), rfl, rfl⟩ ⟨_, List.mem_toArray.2 (List.mem_cons_of_mem _ (List.mem_cons_self ..)), rfl, rfl⟩ ⟨_, List.mem_toArray.2 (List.mem_cons_of_mem _ (List.mem_cons_of_mem _ (List.mem_cons_self ..))), rfl, rfl⟩ ?_ ?_ ?_
    · intro ρ W hr
      simp [Op.operands, Call.operands, readsOf, FwdJ.All, FwdJ.env, FwdJ.Is, Act.eval] at hr
      exact hr
    · intro ρ W; rfl
    refine FwdJ.jf_l rfl rfl rfl (by decide) (by decide) (by decide) (by decide) rfl ?_ hA4 Try.underlying24 rfl info24 ?_
    · rintro ρ W ⟨_, _, _, _, hr⟩
      simp [Op.operands, Call.operands, readsOf, FwdJ.All, FwdJ.env, FwdJ.Is, Act.eval] at hr
      exact hr
    refine FwdJ.jf_e (e := .int .u8 x) (Nat.le_refl _) rfl rfl (by decide) (by decide) (by decide) (by decide) ?_ ?_
    · rintro ρ W ⟨h1, h2, _, _, hr⟩
      try simp [Op.operands, Call.operands, readsOf, FwdJ.All, FwdJ.env, FwdJ.Is, Act.eval] at hr
      go_simp
      try rfl
    refine FwdJ.jf_c (e := .bool bb) (Nat.le_refl _) rfl rfl (by decide) (by decide) (by decide) (by decide) ?_ ?_
    · rintro ρ W ⟨h1, h2, _, _, hr⟩
      try simp [Op.operands, Call.operands, readsOf, FwdJ.All, FwdJ.env, FwdJ.Is, Act.eval] at hr
      refine ⟨14, #[sv A, .int .u8 x], ?_, hhas _⟩
      go_simp
      try first | rfl | exact ⟨rfl, rfl⟩
    refine FwdJ.jf_look bb (tm := 69) (tk := 72) (Nat.le_refl _) rfl rfl (by decide) (by decide) (by decide) (by decide) ⟨_, List.mem_toArray.2 (List.mem_cons_self ..), rfl, rfl⟩ ?_ ?_ ?_
    · intro ρ W hr
      simp [Op.operands, Call.operands, readsOf, FwdJ.All, FwdJ.env, FwdJ.Is, Act.eval] at hr
      exact hr
    · intro ρ W b es c hv hk hb hall hex
      have := FwdJ.run_look (P := Try.prog) (mt := 29) Try.underlying29 Try.underlying4 hb hall hex
      simp only [execOp, hv, hk]
      show (do let v ← Instr.lookup 29 (.map (some b)) (.bool bb) false; pure (Next.value v) : Sem Next).run Try.prog W = _
      rw [Sem.run_bind, this]
      rfl
    refine FwdJ.jf_e (e := .bool true) (Nat.le_refl _) rfl rfl (by decide) (by decide) (by decide) (by decide) ?_ ?_
    · rintro ρ W ⟨h1, h2, _, _, hr⟩
      try simp [Op.operands, Call.operands, readsOf, FwdJ.All, FwdJ.env, FwdJ.Is, Act.eval] at hr
      go_simp
      try rfl
    refine FwdJ.jf_e (e := .bool true) (Nat.le_refl _) rfl rfl (by decide) (by decide) (by decide) (by decide) ?_ ?_
    · rintro ρ W ⟨h1, h2, _, _, hr⟩
      try simp [Op.operands, Call.operands, readsOf, FwdJ.All, FwdJ.env, FwdJ.Is, Act.eval] at hr
      go_simp
      try rfl
    rintro ⟨w5, m5⟩ hle
    have hE5 : Ex w4.heap.size w4 w5 := hle.2.1
    clear hle
    simp [FwdJ.EndAt, FwdJ.Is, Act.put, FwdJ.IsM]
    rintro - b1 rfl - - b2 rfl -
    have hE6 : Ex w.heap.size w w5 := hE4.trans (Ex.mono hE5 hE4.size)
    show wpList _ _ _ ([] : List Oper) _ w5
    clear hcl hhas hbb
    generalize (if bb = true then (1 : Int) else 0) = nb
    go_wp2
    go_ret
    exact ⟨rfl, hE6⟩
  · go_wp2_with fail
    refine wp_region_fwd 6 (by kernel_rfl) (by kernel_rfl) ?_
    simp only [List.take_succ_cons, List.take_zero, List.drop_succ_cons, List.drop_zero]
    refine fwd_l rfl ?_ rfl ?_ hA Try.underlying24 rfl info24 ?_
    · exact trivial
    · rintro ρ W ⟨_, _, _, hr⟩
      simp [Op.operands, Call.operands, readsOf, All, env, Is, Act.eval] at hr
      exact hr
    refine fwd_e (e := .int .u8 x) rfl trivial ?_ ?_
    · rintro ρ W ⟨h1, h2, hW, hr⟩
      try simp [Op.operands, Call.operands, readsOf, All, env, Is, Act.eval] at hr
      go_simp
      try rfl
    refine fwd_s #[.int .u8 x] 1 5 rfl trivial ?_ ?_
    · rintro ρ W ⟨h1, h2, hW, hr⟩
      try simp [Op.operands, Call.operands, readsOf, All, env, Is, Act.eval] at hr
      go_simp
      try rfl
    refine fwd_ce (e := sv (ofS [x])) rfl trivial ?_ ?_
    · rintro ρ W ⟨h1, h2, hW, hr⟩
      try simp [Op.operands, Call.operands, readsOf, All, env, Is, Act.eval] at hr
      refine ⟨13, #[ρ (.tmp 62)], ?_, hof _ _ hr⟩
      go_simp
      try first | rfl | exact ⟨rfl, rfl⟩
    refine fwd_ce (e := sv (A &&& ~~~ofS [x])) rfl trivial ?_ ?_
    · rintro ρ W ⟨h1, h2, hW, hr⟩
      try simp [Op.operands, Call.operands, readsOf, All, env, Is, Act.eval] at hr
      refine ⟨12, #[sv A, sv (ofS [x])], ?_, less_any _ _ _⟩
      go_simp
      try first | rfl | exact ⟨rfl, rfl⟩
    refine fwd_v (fun v W => ∃ b, v = .pointer (some ⟨b, 0, none⟩) ∧ w2.heap.size ≤ b ∧ W.heap[b]? = some (.cells #[.int .u64 0, .int .u64 0, .int .u64 0, .int .u64 0] 24 (0, 0))) ?_ rfl trivial ?_ ?_
    · rintro v W W' hg ⟨b, h1, h2, h3⟩
      exact ⟨b, h1, h2, (hg.block b (Array.getElem?_eq_some_iff.1 h3).1).trans h3⟩
    · rintro ρ W ⟨h1, h2, hW, hr⟩
      go_simp
      exact ⟨(Ex.refl _ _).alloc (Nat.le_refl _) _, _, rfl, hW.size, heap_new _ _ _ rfl⟩
    refine fwd_nil ?_
    intro w3 hg3
    simp [EndAt, Is, Act.put]
    rintro v62 - v13 bl rfl hbl hL
    have hA3 := (hg3.block _ (Array.getElem?_eq_some_iff.1 hA).1).trans hA
    have hE3 := hE.trans (Ex.mono hg3 hE.size)
    have hlA := (Array.getElem?_eq_some_iff.1 hA).1
    refine wpList_store_rowTo' rfl 24 (.tmp 13) (.tmp 64) rfl rfl bl (sc (A &&& ~~~ofS [x])) rfl rfl 24 _ hL info24 rfl (sc_one _) ?_
    have hA4 : (w3.setRow bl (sc (A &&& ~~~ofS [x]))).heap[w.heap.size]? = some (.cells (sc A) 24 (0, 0)) := ((Ex.setRow (B := w2.heap.size) (Ex.refl _ w3) hbl _).block w.heap.size hlA).trans hA3
    have hL4 : (w3.setRow bl (sc (A &&& ~~~ofS [x]))).heap[bl]? = some (.cells (sc (A &&& ~~~ofS [x])) 24 (0, 0)) := setRow_heap _ _ _ _ _ _ hL
    have hE4 : Ex w.heap.size w (w3.setRow bl (sc (A &&& ~~~ofS [x]))) := Ex.setRow hE3 (by omega) _
    generalize w3.setRow bl (sc (A &&& ~~~ofS [x])) = w4 at *
    clear hA hB hC hE hE3 hA3 hg3 hL heq cA0 cA1 cA2 cA3 cB0 cB1 cB2 cB3 hneg
    go_wp2_with fail
    show Code.wp _ _ _ _ ((FwdJ.GM w4.heap.size).π (w4, none))
    refine FwdJ.wp_region_fwd (G := FwdJ.GM w4.heap.size) (w := (w4, none)) (w1 := ({ w4 with drawn := w4.drawn + 1 }, none)) 13 rfl ⟨id, (Ex.refl _ _).drew, fun _ h => h⟩ (fun d hd => ⟨fun _ => ⟨rfl, hd 4 (by simp), hd 5 (by simp), hd 6 (by simp)⟩, fun h => (by rw [hd 3 (by simp)] at h; cases h), fun h => (by rw [hd 6 (by simp)] at h; cases h)⟩) (by kernel_rfl) (by kernel_rfl) ?_
    simp only [List.take_succ_cons, List.take_zero, List.drop_succ_cons, List.drop_zero]
    refine FwdJ.jf_l rfl rfl rfl (by decide) (by decide) (by decide) (by decide) rfl ?_ hL4 Try.underlying24 rfl info24 ?_
    · rintro ρ W ⟨_, _, _, _, hr⟩
      simp [Op.operands, Call.operands, readsOf, FwdJ.All, FwdJ.env, FwdJ.Is, Act.eval] at hr
      exact hr
    refine FwdJ.jf_l rfl rfl rfl (by decide) (by decide) (by decide) (by decide) rfl ?_ hA4 Try.underlying24 rfl info24 ?_
    · rintro ρ W ⟨_, _, _, _, hr⟩
      simp [Op.operands, Call.operands, readsOf, FwdJ.All, FwdJ.env, FwdJ.Is, Act.eval] at hr
      exact hr
    refine FwdJ.jf_c (e := .int .i64 (if bb then 1 else 0)) (Nat.le_refl _) rfl rfl (by decide) (by decide) (by decide) (by decide) ?_ ?_
    · rintro ρ W ⟨h1, h2, _, _, hr⟩
      try simp [Op.operands, Call.operands, readsOf, FwdJ.All, FwdJ.env, FwdJ.Is, Act.eval] at hr
      refine ⟨11, #[sv (A &&& ~~~ofS [x]), sv A], ?_, hcl _⟩
      go_simp
      try first | rfl | exact ⟨rfl, rfl⟩
    refine FwdJ.jf_make (Nat.le_refl _) rfl rfl (fun ρ W => rfl) ?_
    refine FwdJ.jf_ins false (tm := 68) (Nat.le_refl _) rfl rfl rfl ⟨_, List.mem_toArray.2 (List.mem_cons_self ..), rfl, rfl⟩ ?_ ?_ ?_
    · intro ρ W hr
      simp [Op.operands, Call.operands, readsOf, FwdJ.All, FwdJ.env, FwdJ.Is, Act.eval] at hr
      exact hr
    · intro ρ W b es c h1 hv hb hno
      have := FwdJ.run_upd (P := Try.prog) (mt := 29) (.int .i64 0) Try.underlying29 Try.underlying4 hb hno
      simp only [execOp, h1, hv]
      show (do Instr.mapUpdate 29 (.map (some b)) (.bool false) (.int .i64 _); pure Next.skip : Sem Next).run Try.prog W = _
      rw [Sem.run_bind, this]
      rfl
    refine FwdJ.jf_ins true (tm := 68) (Nat.le_refl _) rfl rfl rfl ⟨_, List.mem_toArray.2 (List.mem_cons_self ..), rfl, rfl⟩ ?_ ?_ ?_
    · intro ρ W hr
      simp [Op.operands, Call.operands, readsOf, FwdJ.All, FwdJ.env, FwdJ.Is, Act.eval] at hr
      exact hr
    · intro ρ W b es c h1 hv hb hno
      have := FwdJ.run_upd (P := Try.prog) (mt := 29) (.int .i64 1) Try.underlying29 Try.underlying4 hb hno
      simp only [execOp, h1, hv]
      show (do Instr.mapUpdate 29 (.map (some b)) (.bool true) (.int .i64 _); pure Next.skip : Sem Next).run Try.prog W = _
      rw [Sem.run_bind, this]
      rfl
    refine FwdJ.jf_mv (tm := 68) (Nat.le_refl _) rfl rfl ⟨_, List.mem_toArray.2 (List.mem_cons_self ..), rfl, rfl⟩ ⟨_, List.mem_toArray.2 (List.mem_cons_of_mem _ (List.mem_cons_self ..)), rfl, rfl⟩ ⟨_, List.mem_toArray.2 (List.mem_cons_of_mem _ (List.mem_cons_of_mem _ (List.mem_cons_self ..))), rfl, rfl⟩ ?_ ?_ ?_
    · intro ρ W hr
      simp [Op.operands, Call.operands, readsOf, FwdJ.All, FwdJ.env, FwdJ.Is, Act.eval] at hr
      exact hr
    · intro ρ W; rfl
    refine FwdJ.jf_l rfl rfl rfl (by decide) (by decide) (by decide) (by decide) rfl ?_ hA4 Try.underlying24 rfl info24 ?_
    · rintro ρ W ⟨_, _, _, _, hr⟩
      simp [Op.operands, Call.operands, readsOf, FwdJ.All, FwdJ.env, FwdJ.Is, Act.eval] at hr
      exact hr
    refine FwdJ.jf_e (e := .int .u8 x) (Nat.le_refl _) rfl rfl (by decide) (by decide) (by decide) (by decide) ?_ ?_
    · rintro ρ W ⟨h1, h2, _, _, hr⟩
      try simp [Op.operands, Call.operands, readsOf, FwdJ.All, FwdJ.env, FwdJ.Is, Act.eval] at hr
      go_simp
      try rfl
    refine FwdJ.jf_c (e := .bool bb) (Nat.le_refl _) rfl rfl (by decide) (by decide) (by decide) (by decide) ?_ ?_
    · rintro ρ W ⟨h1, h2, _, _, hr⟩
      try simp [Op.operands, Call.operands, readsOf, FwdJ.All, FwdJ.env, FwdJ.Is, Act.eval] at hr
      refine ⟨14, #[sv A, .int .u8 x], ?_, hhas _⟩
      go_simp
      try first | rfl | exact ⟨rfl, rfl⟩
    refine FwdJ.jf_look bb (tm := 69) (tk := 72) (Nat.le_refl _) rfl rfl (by decide) (by decide) (by decide) (by decide) ⟨_, List.mem_toArray.2 (List.mem_cons_self ..), rfl, rfl⟩ ?_ ?_ ?_
    · intro ρ W hr
      simp [Op.operands, Call.operands, readsOf, FwdJ.All, FwdJ.env, FwdJ.Is, Act.eval] at hr
      exact hr
    · intro ρ W b es c hv hk hb hall hex
      have := FwdJ.run_look (P := Try.prog) (mt := 29) Try.underlying29 Try.underlying4 hb hall hex
      simp only [execOp, hv, hk]
      show (do let v ← Instr.lookup 29 (.map (some b)) (.bool bb) false; pure (Next.value v) : Sem Next).run Try.prog W = _
      rw [Sem.run_bind, this]
      rfl
    refine FwdJ.jf_e (e := .bool true) (Nat.le_refl _) rfl rfl (by decide) (by decide) (by decide) (by decide) ?_ ?_
    · rintro ρ W ⟨h1, h2, _, _, hr⟩
      try simp [Op.operands, Call.operands, readsOf, FwdJ.All, FwdJ.env, FwdJ.Is, Act.eval] at hr
      go_simp
      try rfl
    refine FwdJ.jf_e (e := .bool true) (Nat.le_refl _) rfl rfl (by decide) (by decide) (by decide) (by decide) ?_ ?_
    · rintro ρ W ⟨h1, h2, _, _, hr⟩
      try simp [Op.operands, Call.operands, readsOf, FwdJ.All, FwdJ.env, FwdJ.Is, Act.eval] at hr
      go_simp
      try rfl
    rintro ⟨w5, m5⟩ hle
    have hE5 : Ex w4.heap.size w4 w5 := hle.2.1
    clear hle
    simp [FwdJ.EndAt, FwdJ.Is, Act.put, FwdJ.IsM]
    rintro - b1 rfl - - b2 rfl -
    have hE6 : Ex w.heap.size w w5 := hE4.trans (Ex.mono hE5 hE4.size)
    show wpList _ _ _ ([] : List Oper) _ w5
    clear hcl hhas hbb
    generalize (if bb = true then (1 : Int) else 0) = nb
    go_wp2
    go_ret
    exact ⟨rfl, hE6⟩
  · go_wp2_with fail
    refine wp_region_fwd 6 (by kernel_rfl) (by kernel_rfl) ?_
    simp only [List.take_succ_cons, List.take_zero, List.drop_succ_cons, List.drop_zero]
    refine fwd_l rfl ?_ rfl ?_ hA Try.underlying24 rfl info24 ?_
    · exact trivial
    · rintro ρ W ⟨_, _, _, hr⟩
      simp [Op.operands, Call.operands, readsOf, All, env, Is, Act.eval] at hr
      exact hr
    refine fwd_e (e := .int .u8 x) rfl trivial ?_ ?_
    · rintro ρ W ⟨h1, h2, hW, hr⟩
      try simp [Op.operands, Call.operands, readsOf, All, env, Is, Act.eval] at hr
      go_simp
      try rfl
    refine fwd_s #[.int .u8 x] 1 5 rfl trivial ?_ ?_
    · rintro ρ W ⟨h1, h2, hW, hr⟩
      try simp [Op.operands, Call.operands, readsOf, All, env, Is, Act.eval] at hr
      go_simp
      try rfl
    refine fwd_ce (e := sv (ofS [x])) rfl trivial ?_ ?_
    · rintro ρ W ⟨h1, h2, hW, hr⟩
      try simp [Op.operands, Call.operands, readsOf, All, env, Is, Act.eval] at hr
      refine ⟨13, #[ρ (.tmp 62)], ?_, hof _ _ hr⟩
      go_simp
      try first | rfl | exact ⟨rfl, rfl⟩
    refine fwd_ce (e := sv (A &&& ~~~ofS [x])) rfl trivial ?_ ?_
    · rintro ρ W ⟨h1, h2, hW, hr⟩
      try simp [Op.operands, Call.operands, readsOf, All, env, Is, Act.eval] at hr
      refine ⟨12, #[sv A, sv (ofS [x])], ?_, less_any _ _ _⟩
      go_simp
      try first | rfl | exact ⟨rfl, rfl⟩
    refine fwd_v (fun v W => ∃ b, v = .pointer (some ⟨b, 0, none⟩) ∧ w2.heap.size ≤ b ∧ W.heap[b]? = some (.cells #[.int .u64 0, .int .u64 0, .int .u64 0, .int .u64 0] 24 (0, 0))) ?_ rfl trivial ?_ ?_
    · rintro v W W' hg ⟨b, h1, h2, h3⟩
      exact ⟨b, h1, h2, (hg.block b (Array.getElem?_eq_some_iff.1 h3).1).trans h3⟩
    · rintro ρ W ⟨h1, h2, hW, hr⟩
      go_simp
      exact ⟨(Ex.refl _ _).alloc (Nat.le_refl _) _, _, rfl, hW.size, heap_new _ _ _ rfl⟩
    refine fwd_nil ?_
    intro w3 hg3
    simp [EndAt, Is, Act.put]
    rintro v62 - v13 bl rfl hbl hL
    have hA3 := (hg3.block _ (Array.getElem?_eq_some_iff.1 hA).1).trans hA
    have hE3 := hE.trans (Ex.mono hg3 hE.size)
    have hlA := (Array.getElem?_eq_some_iff.1 hA).1
    refine wpList_store_rowTo' rfl 24 (.tmp 13) (.tmp 64) rfl rfl bl (sc (A &&& ~~~ofS [x])) rfl rfl 24 _ hL info24 rfl (sc_one _) ?_
    have hA4 : (w3.setRow bl (sc (A &&& ~~~ofS [x]))).heap[w.heap.size]? = some (.cells (sc A) 24 (0, 0)) := ((Ex.setRow (B := w2.heap.size) (Ex.refl _ w3) hbl _).block w.heap.size hlA).trans hA3
    have hL4 : (w3.setRow bl (sc (A &&& ~~~ofS [x]))).heap[bl]? = some (.cells (sc (A &&& ~~~ofS [x])) 24 (0, 0)) := setRow_heap _ _ _ _ _ _ hL
    have hE4 : Ex w.heap.size w (w3.setRow bl (sc (A &&& ~~~ofS [x]))) := Ex.setRow hE3 (by omega) _
    generalize w3.setRow bl (sc (A &&& ~~~ofS [x])) = w4 at *
    clear hA hB hC hE hE3 hA3 hg3 hL heq cA0 cA1 cA2 cA3 cB0 cB1 cB2 cB3 hneg
    go_wp2_with fail
    show Code.wp _ _ _ _ ((FwdJ.GM w4.heap.size).π (w4, none))
    refine FwdJ.wp_region_fwd (G := FwdJ.GM w4.heap.size) (w := (w4, none)) (w1 := ({ w4 with drawn := w4.drawn + 1 }, none)) 13 rfl ⟨id, (Ex.refl _ _).drew, fun _ h => h⟩ (fun d hd => ⟨fun _ => ⟨rfl, hd 4 (by simp), hd 5 (by simp), hd 6 (by simp)⟩, fun h => (by rw [hd 3 (by simp)] at h; cases h), fun h => (by rw [hd 6 (by simp)] at h; cases h)⟩) (by kernel_rfl) (by kernel_rfl) ?_
    simp only [List.take_succ_cons, List.take_zero, List.drop_succ_cons, List.drop_zero]
    refine FwdJ.jf_l rfl rfl rfl (by decide) (by decide) (by decide) (by decide) rfl ?_ hL4 Try.underlying24 rfl info24 ?_
    · rintro ρ W ⟨_, _, _, _, hr⟩
      simp [Op.operands, Call.operands, readsOf, FwdJ.All, FwdJ.env, FwdJ.Is, Act.eval] at hr
      exact hr
    refine FwdJ.jf_l rfl rfl rfl (by decide) (by decide) (by decide) (by decide) rfl ?_ hA4 Try.underlying24 rfl info24 ?_
    · rintro ρ W ⟨_, _, _, _, hr⟩
      simp [Op.operands, Call.operands, readsOf, FwdJ.All, FwdJ.env, FwdJ.Is, Act.eval] at hr
      exact hr
    refine FwdJ.jf_c (e := .int .i64 (if bb then 1 else 0)) (Nat.le_refl _) rfl rfl (by decide) (by decide) (by decide) (by decide) ?_ ?_
    · rintro ρ W ⟨h1, h2, _, _, hr⟩
      try simp [Op.operands, Call.operands, readsOf, FwdJ.All, FwdJ.env, FwdJ.Is, Act.eval] at hr
      refine ⟨11, #[sv (A &&& ~~~ofS [x]), sv A], ?_, hcl _⟩
      go_simp
      try first | rfl | exact ⟨rfl, rfl⟩
    refine FwdJ.jf_make (Nat.le_refl _) rfl rfl (fun ρ W => rfl) ?_
    refine FwdJ.jf_ins false (tm := 68) (Nat.le_refl _) rfl rfl rfl ⟨_, List.mem_toArray.2 (List.mem_cons_self ..), rfl, rfl⟩ ?_ ?_ ?_
    · intro ρ W hr
      simp [Op.operands, Call.operands, readsOf, FwdJ.All, FwdJ.env, FwdJ.Is, Act.eval] at hr
      exact hr
    · intro ρ W b es c h1 hv hb hno
      have := FwdJ.run_upd (P := Try.prog) (mt := 29) (.int .i64 0) Try.underlying29 Try.underlying4 hb hno
      simp only [execOp, h1, hv]
      show (do Instr.mapUpdate 29 (.map (some b)) (.bool false) (.int .i64 _); pure Next.skip : Sem Next).run Try.prog W = _
      rw [Sem.run_bind, this]
      rfl
    refine FwdJ.jf_ins true (tm := 68) (Nat.le_refl _) rfl rfl rfl ⟨_, List.mem_toArray.2 (List.mem_cons_self ..), rfl, rfl⟩ ?_ ?_ ?_
    · intro ρ W hr
      simp [Op.operands, Call.operands, readsOf, FwdJ.All, FwdJ.env, FwdJ.Is, Act.eval] at hr
      exact hr
    · intro ρ W b es c h1 hv hb hno
      have := FwdJ.run_upd (P := Try.prog) (mt := 29) (.int .i64 1) Try.underlying29 Try.underlying4 hb hno
      simp only [execOp, h1, hv]
      show (do Instr.mapUpdate 29 (.map (some b)) (.bool true) (.int .i64 _); pure Next.skip : Sem Next).run Try.prog W = _
      rw [Sem.run_bind, this]
      rfl
    refine FwdJ.jf_mv (tm := 68) (Nat.le_refl _) rfl rfl ⟨_, List.mem_toArray.2 (List.mem_cons_self ..), rfl, rfl⟩ ⟨_, List.mem_toArray.2 (List.mem_cons_of_mem _ (List.mem_cons_self ..)), rfl, rfl⟩ ⟨_, List.mem_toArray.2 (List.mem_cons_of_mem _ (List.mem_cons_of_mem _ (List.mem_cons_self ..))), rfl, rfl⟩ ?_ ?_ ?_
    · intro ρ W hr
      simp [Op.operands, Call.operands, readsOf, FwdJ.All, FwdJ.env, FwdJ.Is, Act.eval] at hr
      exact hr
    · intro ρ W; rfl
    refine FwdJ.jf_l rfl rfl rfl (by decide) (by decide) (by decide) (by decide) rfl ?_ hA4 Try.underlying24 rfl info24 ?_
    · rintro ρ W ⟨_, _, _, _, hr⟩
      simp [Op.operands, Call.operands, readsOf, FwdJ.All, FwdJ.env, FwdJ.Is, Act.eval] at hr
      exact hr
    refine FwdJ.jf_e (e := .int .u8 x) (Nat.le_refl _) rfl rfl (by decide) (by decide) (by decide) (by decide) ?_ ?_
    · rintro ρ W ⟨h1, h2, _, _, hr⟩
      try simp [Op.operands, Call.operands, readsOf, FwdJ.All, FwdJ.env, FwdJ.Is, Act.eval] at hr
      go_simp
      try rfl
    refine FwdJ.jf_c (e := .bool bb) (Nat.le_refl _) rfl rfl (by decide) (by decide) (by decide) (by decide) ?_ ?_
    · rintro ρ W ⟨h1, h2, _, _, hr⟩
      try simp [Op.operands, Call.operands, readsOf, FwdJ.All, FwdJ.env, FwdJ.Is, Act.eval] at hr
      refine ⟨14, #[sv A, .int .u8 x], ?_, hhas _⟩
      go_simp
      try first | rfl | exact ⟨rfl, rfl⟩
    refine FwdJ.jf_look bb (tm := 69) (tk := 72) (Nat.le_refl _) rfl rfl (by decide) (by decide) (by decide) (by decide) ⟨_, List.mem_toArray.2 (List.mem_cons_self ..), rfl, rfl⟩ ?_ ?_ ?_
    · intro ρ W hr
      simp [Op.operands, Call.operands, readsOf, FwdJ.All, FwdJ.env, FwdJ.Is, Act.eval] at hr
      exact hr
    · intro ρ W b es c hv hk hb hall hex
      have := FwdJ.run_look (P := Try.prog) (mt := 29) Try.underlying29 Try.underlying4 hb hall hex
      simp only [execOp, hv, hk]
      show (do let v ← Instr.lookup 29 (.map (some b)) (.bool bb) false; pure (Next.value v) : Sem Next).run Try.prog W = _
      rw [Sem.run_bind, this]
      rfl
    refine FwdJ.jf_e (e := .bool true) (Nat.le_refl _) rfl rfl (by decide) (by decide) (by decide) (by decide) ?_ ?_
    · rintro ρ W ⟨h1, h2, _, _, hr⟩
      try simp [Op.operands, Call.operands, readsOf, FwdJ.All, FwdJ.env, FwdJ.Is, Act.eval] at hr
      go_simp
      try rfl
    refine FwdJ.jf_e (e := .bool true) (Nat.le_refl _) rfl rfl (by decide) (by decide) (by decide) (by decide) ?_ ?_
    · rintro ρ W ⟨h1, h2, _, _, hr⟩
      try simp [Op.operands, Call.operands, readsOf, FwdJ.All, FwdJ.env, FwdJ.Is, Act.eval] at hr
      go_simp
      try rfl
    rintro ⟨w5, m5⟩ hle
    have hE5 : Ex w4.heap.size w4 w5 := hle.2.1
    clear hle
    simp [FwdJ.EndAt, FwdJ.Is, Act.put, FwdJ.IsM]
    rintro - b1 rfl - - b2 rfl -
    have hE6 : Ex w.heap.size w w5 := hE4.trans (Ex.mono hE5 hE4.size)
    show wpList _ _ _ ([] : List Oper) _ w5
    clear hcl hhas hbb
    generalize (if bb = true then (1 : Int) else 0) = nb
    go_wp2
    go_ret
    exact ⟨rfl, hE6⟩
end Go.Proofs.Ytjmhbbbpjbgmjaa
