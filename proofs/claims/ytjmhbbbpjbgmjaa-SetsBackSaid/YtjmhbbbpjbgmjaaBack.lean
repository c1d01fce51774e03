/-
  The contract of reparteelaw01.SetsBack.
-/
import Derived.Test.YtjmhbbbpjbgmjaaBackPlain
namespace Go.Proofs.Ytjmhbbbpjbgmjaa
open Go.RowKit Go.Fwd Go.Shelf Go.Proofs

set_option linter.unusedSimpArgs false
set_option linter.unusedVariables false
/-- How many bytes are in spans. -/
def sumS (L : List (Nat × Nat)) : Nat := (L.map fun p => p.2 - p.1 + 1).sum
theorem sumS_take (L : List (Nat × Nat)) (k : Nat) (h : k < L.length) : sumS (L.take (k + 1)) = sumS (L.take k) + (L[k].2 - L[k].1 + 1) := by
  unfold sumS
  rw [List.take_succ_eq_append_getElem h, List.map_append, List.sum_append, List.map_singleton, List.sum_singleton]
theorem sumS_le (L : List (Nat × Nat)) (k : Nat) : sumS (L.take k) ≤ sumS L := by
  have : sumS (L.take k ++ L.drop k) = sumS (L.take k) + sumS (L.drop k) := by unfold sumS; rw [List.map_append, List.sum_append]
  rw [List.take_append_drop] at this
  omega
theorem firstV_eq (o : Option Nat) : firstV o = .tuple #[.int .u8 ((o.getD 0 : Nat) : Int), .bool o.isSome] := by cases o <;> rfl
theorem back_sum (S : BS) : sumS (spansOf S) = (bytesOf S).length := (back_spans S).count

set_option maxRecDepth 100000 in
set_option maxHeartbeats 8000000 in
theorem back_any (S : BS) (w : World) : Calls Try.prog 8 #[sv S] w (Ret (.bool true) w) := by
  have eqS := eqSelf
  have hlb : (bytesOf S).length ≤ 256 := bytesTo_len S 256
  have hll : (spansOf S).length ≤ 256 := Nat.le_trans (spansB_len _) hlb
  have hok := back_spans S
  have hof : ∀ v W, SlAt (bytesOf S).length (u8s (bytesOf S)) v W → Calls Try.prog 13 #[v] W (Ret (sv S) W) := fun v W h => by
    have := of_any (bytesOf S) (fun x hx => (mem_bytesTo.1 hx).1) (by omega) v W h
    rw [back_of] at this; exact this
  have hfs : ∀ v W, SlAt (spansOf S).length (spc (spansOf S)) v W → Calls Try.prog 28 #[v] W (Ret (sv S) W) := fun v W h => by
    have := fromSpans_any (spansOf S) (fun q hq => by have := hok.each q hq; omega) (by omega) v W h
    rw [back_from] at this; exact this
  have h22 := size_any S
  have h26 := bytes_any S
  have h27 := spans_any S
  have h24 := first_any S
  rw [firstV_eq, show firstOf S = (bytesOf S)[0]? from List.head?_eq_getElem?] at h24
  unfold sv
  go_enter Try.func8, Try.ntmps8
  go_wp2_with (go_at_call 10; refine (awake_any _).mono ?_; rintro e w1 ⟨rfl, hb1⟩)
  have hrow : w1.heap[w.heap.size]? = some (.cells (sc S) 24 (0, 0)) := (hb1.block _ (by simp)).trans (heap_new _ _ _ rfl)
  have hE : Ex w.heap.size w w1 := ((Ex.refl _ _).alloc (Nat.le_refl _) _).trans (hb1.mono (by simp))
  clear hb1

  refine wp_region_fwd 6 (by kernel_rfl) (by kernel_rfl) ?_
  simp only [List.take_succ_cons, List.take_zero, List.drop_succ_cons, List.drop_zero]
  refine fwd_l rfl ?_ rfl ?_ hrow Try.underlying24 rfl info24 ?_
  · exact trivial
  · rintro ρ W ⟨_, _, _, hr⟩
    simp [Op.operands, Call.operands, readsOf, All, env, Is, Act.eval] at hr
    exact hr
  refine fwd_c (SlAt (bytesOf S).length (u8s (bytesOf S))) (SlAt.mono _ _) rfl trivial ?_ ?_
  · rintro ρ W ⟨h1, h2, hW, hr⟩
    try simp [Op.operands, Call.operands, readsOf, All, env, Is, Act.eval] at hr
    refine ⟨26, #[sv S], ?_, h26 _⟩
    go_simp
    try first | rfl | exact ⟨rfl, rfl⟩
  refine fwd_l rfl ?_ rfl ?_ hrow Try.underlying24 rfl info24 ?_
  · exact trivial
  · rintro ρ W ⟨_, _, _, hr⟩
    simp [Op.operands, Call.operands, readsOf, All, env, Is, Act.eval] at hr
    exact hr
  refine fwd_c (SlAt (spansOf S).length (spc (spansOf S))) (SlAt.mono _ _) rfl trivial ?_ ?_
  · rintro ρ W ⟨h1, h2, hW, hr⟩
    try simp [Op.operands, Call.operands, readsOf, All, env, Is, Act.eval] at hr
    refine ⟨27, #[sv S], ?_, h27 _⟩
    go_simp
    try first | rfl | exact ⟨rfl, rfl⟩
  refine fwd_m (SlAt (bytesOf S).length (u8s (bytesOf S))) (SlAt.mono _ _) rfl trivial ?_ ?_
  · rintro ρ W ⟨h1, h2, hW, hr⟩
    try simp [Op.operands, Call.operands, readsOf, All, env, Is, Act.eval] at hr
    refine ⟨ρ (.tmp 15), ?_, hr⟩
    go_simp
    try rfl
  refine fwd_m (SlAt (spansOf S).length (spc (spansOf S))) (SlAt.mono _ _) rfl trivial ?_ ?_
  · rintro ρ W ⟨h1, h2, hW, hr⟩
    try simp [Op.operands, Call.operands, readsOf, All, env, Is, Act.eval] at hr
    refine ⟨ρ (.tmp 17), ?_, hr⟩
    go_simp
    try rfl
  refine fwd_nil ?_
  intro w2 hg2
  simp [EndAt, Is, Act.put]
  rintro v15 - v17 - v3 hv3 v4 hv4
  replace hrow := (hg2.block _ (Array.getElem?_eq_some_iff.1 hrow).1).trans hrow
  replace hE := hE.trans (Ex.mono hg2 hE.size)
  go_wp2_with fail
  refine wp_region_fwd 17 (by kernel_rfl) (by kernel_rfl) ?_
  simp only [List.take_succ_cons, List.take_zero, List.drop_succ_cons, List.drop_zero]
  obtain ⟨a3, c3, hs3, hz3⟩ := SlAt.shape hv3
  obtain ⟨a4, c4, hs4, hz4⟩ := SlAt.shape hv4
  refine fwd_e (e := v3) rfl trivial ?_ ?_
  · rintro ρ W ⟨h1, h2, hW, hr⟩
    try simp [Op.operands, Call.operands, readsOf, All, env, Is, Act.eval] at hr
    go_simp
    try rfl
  refine fwd_ce (e := sv S) rfl trivial ?_ ?_
  · rintro ρ W ⟨h1, h2, hW, hr⟩
    try simp [Op.operands, Call.operands, readsOf, All, env, Is, Act.eval] at hr
    refine ⟨13, #[v3], ?_, hof _ _ (SlAt.mono _ _ _ _ _ hW hv3)⟩
    go_simp
    try first | rfl | exact ⟨rfl, rfl⟩
  refine fwd_l rfl ?_ rfl ?_ hrow Try.underlying24 rfl info24 ?_
  · exact trivial
  · rintro ρ W ⟨_, _, _, hr⟩
    simp [Op.operands, Call.operands, readsOf, All, env, Is, Act.eval] at hr
    exact hr
  refine fwd_e (e := .bool false) rfl trivial ?_ ?_
  · rintro ρ W ⟨h1, h2, hW, hr⟩
    try simp [Op.operands, Call.operands, readsOf, All, env, Is, Act.eval] at hr
    simp only [sv, sc] at hr
    go_simp
    try rfl
  refine fwd_e (e := .bool false) rfl trivial ?_ ?_
  · rintro ρ W ⟨h1, h2, hW, hr⟩
    try simp [Op.operands, Call.operands, readsOf, All, env, Is, Act.eval] at hr
    go_simp
    try rfl
  refine fwd_e (e := v4) rfl ⟨_, rfl, by rintro g W h; simp [env, Is] at h; exact h⟩ ?_ ?_
  · rintro ρ W ⟨h1, h2, hW, hr⟩
    try simp [Op.operands, Call.operands, readsOf, All, env, Is, Act.eval] at hr
    go_simp
    try rfl
  refine fwd_ce (e := sv S) rfl ⟨_, rfl, by rintro g W h; simp [env, Is] at h; exact h⟩ ?_ ?_
  · rintro ρ W ⟨h1, h2, hW, hr⟩
    try simp [Op.operands, Call.operands, readsOf, All, env, Is, Act.eval] at hr
    refine ⟨28, #[v4], ?_, hfs _ _ (SlAt.mono _ _ _ _ _ hW hv4)⟩
    go_simp
    try first | rfl | exact ⟨rfl, rfl⟩
  refine fwd_l rfl ?_ rfl ?_ hrow Try.underlying24 rfl info24 ?_
  · exact ⟨_, rfl, by rintro g W h; simp [env, Is] at h; exact h⟩
  · rintro ρ W ⟨_, _, _, hr⟩
    simp [Op.operands, Call.operands, readsOf, All, env, Is, Act.eval] at hr
    exact hr
  refine fwd_e (e := .bool false) rfl ⟨_, rfl, by rintro g W h; simp [env, Is] at h; exact h⟩ ?_ ?_
  · rintro ρ W ⟨h1, h2, hW, hr⟩
    try simp [Op.operands, Call.operands, readsOf, All, env, Is, Act.eval] at hr
    simp only [sv, sc] at hr
    go_simp
    try rfl
  refine fwd_e (e := .bool false) rfl trivial ?_ ?_
  · rintro ρ W ⟨h1, h2, hW, hr⟩
    try simp [Op.operands, Call.operands, readsOf, All, env, Is, Act.eval] at hr
    go_simp
    try rfl
  refine fwd_e (e := .bool false) rfl trivial ?_ ?_
  · rintro ρ W ⟨h1, h2, hW, hr⟩
    try simp [Op.operands, Call.operands, readsOf, All, env, Is, Act.eval] at hr
    go_simp
    try rfl
  refine fwd_l rfl ?_ rfl ?_ hrow Try.underlying24 rfl info24 ?_
  · exact ⟨_, rfl, by rintro g W h; simp [env, Is] at h; exact h⟩
  · rintro ρ W ⟨_, _, _, hr⟩
    simp [Op.operands, Call.operands, readsOf, All, env, Is, Act.eval] at hr
    exact hr
  refine fwd_ce (e := .int .i64 ((bytesOf S).length : Int)) rfl ⟨_, rfl, by rintro g W h; simp [env, Is] at h; exact h⟩ ?_ ?_
  · rintro ρ W ⟨h1, h2, hW, hr⟩
    try simp [Op.operands, Call.operands, readsOf, All, env, Is, Act.eval] at hr
    refine ⟨22, #[sv S], ?_, h22 _⟩
    go_simp
    try first | rfl | exact ⟨rfl, rfl⟩
  refine fwd_e (e := v3) rfl ⟨_, rfl, by rintro g W h; simp [env, Is] at h; exact h⟩ ?_ ?_
  · rintro ρ W ⟨h1, h2, hW, hr⟩
    try simp [Op.operands, Call.operands, readsOf, All, env, Is, Act.eval] at hr
    go_simp
    try rfl
  refine fwd_e (e := .int .i64 ((bytesOf S).length : Int)) rfl ⟨_, rfl, by rintro g W h; simp [env, Is] at h; exact h⟩ ?_ ?_
  · rintro ρ W ⟨h1, h2, hW, hr⟩
    try simp [Op.operands, Call.operands, readsOf, All, env, Is, Act.eval] at hr
    rw [hs3] at hr
    go_simp
    try rfl
  refine fwd_e (e := .bool false) rfl ⟨_, rfl, by rintro g W h; simp [env, Is] at h; exact h⟩ ?_ ?_
  · rintro ρ W ⟨h1, h2, hW, hr⟩
    try simp [Op.operands, Call.operands, readsOf, All, env, Is, Act.eval] at hr
    go_simp
    try rfl
  refine fwd_e (e := .bool false) rfl trivial ?_ ?_
  · rintro ρ W ⟨h1, h2, hW, hr⟩
    try simp [Op.operands, Call.operands, readsOf, All, env, Is, Act.eval] at hr
    go_simp
    try rfl
  refine fwd_nil ?_
  intro w3 hg3
  simp [EndAt, Is, Act.put]
  replace hrow := (hg3.block _ (Array.getElem?_eq_some_iff.1 hrow).1).trans hrow
  replace hE := hE.trans (Ex.mono hg3 hE.size)
  replace hv3 := SlAt.mono _ _ _ _ _ hg3 hv3
  replace hv4 := SlAt.mono _ _ _ _ _ hg3 hv4
  obtain ⟨a3, c3, rfl, hz3⟩ := SlAt.shape hv3
  obtain ⟨a4, c4, rfl, hz4⟩ := SlAt.shape hv4
  go_wp2
  go_loopw [5, 37] (fun nv i wr => ∃ (k : Nat), k ≤ (spansOf S).length ∧ i = .int .i64 k ∧ nv = .int .i64 ((sumS ((spansOf S).take k) : Nat) : Int) ∧ Ex w3.heap.size w3 wr) (fun _ i _ => (spansOf S).length - (intOf i).toNat)
  case atStart => exact ⟨0, Nat.zero_le _, rfl, rfl, Ex.refl _ _⟩
  case round =>
    obtain ⟨k, hk, rfl, rfl, hex⟩ := hrel
    by_cases hlt : k < (spansOf S).length
    · obtain ⟨b, o, rfl, hb, hc⟩ := hz4 (by omega)
      obtain ⟨q1, q2⟩ := spc_get (spansOf S) k hlt
      have hp := hok.each _ (List.getElem_mem hlt)
      have hsn : sumS ((spansOf S).take (k + 1)) = sumS ((spansOf S).take k) + ((spansOf S)[k].2 - (spansOf S)[k].1 + 1) := sumS_take _ _ hlt
      have hsb : sumS ((spansOf S).take (k + 1)) ≤ 256 := Nat.le_trans (sumS_le _ _) (by rw [back_sum S]; omega)
      have hpr : ∀ (h0 : 0 < k), (spansOf S)[k - 1].2 + 1 < (spansOf S)[k].1 := fun h0 => List.pairwise_iff_getElem.1 hok.apart (k - 1) k (by omega) hlt (by omega)
      have hq3 : ∀ (h0 : 0 < k), (spc (spansOf S))[(k - 1) * 2 + 1]? = some (.int .u8 ((spansOf S)[k - 1].2 : Int)) := fun h0 => (spc_get (spansOf S) (k - 1) (by omega)).2
      have c1 : wr.cell? ⟨b, o + k * 2, none⟩ = some (.int .u8 ((spansOf S)[k].1 : Int)) := (hex.cell (p := ⟨b, o + k * 2, none⟩) hb).trans (hc _ _ q1)
      have c2 : wr.cell? ⟨b, o + k * 2 + 1, none⟩ = some (.int .u8 ((spansOf S)[k].2 : Int)) := (hex.cell (p := ⟨b, o + k * 2 + 1, none⟩) hb).trans (hc _ _ q2)
      have c3 : ∀ (h0 : 0 < k), wr.cell? ⟨b, o + (k - 1) * 2 + 1, none⟩ = some (.int .u8 ((spansOf S)[k - 1].2 : Int)) := fun h0 => (hex.cell (p := ⟨b, o + (k - 1) * 2 + 1, none⟩) hb).trans (hc _ _ (hq3 h0))
      clear hc q1 q2 hq3
      generalize sumS ((spansOf S).take k) = nk at *
      have HSN := Lib.hid hsn
      clear hsn
      go_wp2_with fail
      generalize (spansOf S)[k] = x at *
      obtain ⟨lo, hi⟩ := x
      simp only at hp hpr c1 c2 HSN
      obtain ⟨w5, hw5⟩ : ∃ w5, w5 = wr.alloc (.cells #[.int .u8 (lo : Int), .int .u8 (hi : Int)] 49) := ⟨_, rfl⟩
      have d1 : w5.cell? ⟨wr.heap.size, 0, none⟩ = some (.int .u8 (lo : Int)) := by rw [hw5, cell_of_row _ _ _ _ _ _ (heap_new _ _ _ rfl)]; rfl
      have d2 : w5.cell? ⟨wr.heap.size, 1, none⟩ = some (.int .u8 (hi : Int)) := by rw [hw5, cell_of_row _ _ _ _ _ _ (heap_new _ _ _ rfl)]; rfl
      have hsz : wr.heap.size < w5.heap.size := by rw [hw5]; simp
      have hex5 : Ex w3.heap.size w3 w5 := by rw [hw5]; exact hex.alloc hex.size _
      have hbr : b < wr.heap.size := Nat.lt_of_lt_of_le hb hex.size
      have d3 : ∀ (h0 : 0 < k), w5.cell? ⟨b, o + (k - 1) * 2 + 1, none⟩ = some (.int .u8 ((spansOf S)[k - 1].2 : Int)) := fun h0 => by rw [hw5]; exact (((Ex.refl wr.heap.size wr).alloc (Nat.le_refl _) _).cell (p := ⟨b, o + (k - 1) * 2 + 1, none⟩) hbr).trans (c3 h0)
      show Code.wp _ _ _ _ (wr.alloc (.cells #[.int .u8 (lo : Int), .int .u8 (hi : Int)] 49))
      rw [← hw5]
      have hbr5 : b < w5.heap.size := by omega
      clear hw5 c1 c2 c3
      have hgt : decide ((lo : Int) > hi) = false := by simp; omega
      by_cases h0 : k = 0
      · subst h0
        refine wp_region_fwd 23 (by kernel_rfl) (by kernel_rfl) ?_
        simp only [List.take_succ_cons, List.take_zero, List.drop_succ_cons, List.drop_zero]
        refine fwd_e (e := .pointer (some ⟨wr.heap.size, 0, none⟩)) rfl trivial ?_ ?_
        · rintro ρ W ⟨h1, h2, hW, hr⟩
          try simp [Op.operands, Call.operands, readsOf, All, env, Is, Act.eval] at hr
          go_simp
          try rfl
        refine fwd_e (e := .int .u8 (lo : Int)) rfl trivial ?_ ?_
        · rintro ρ W ⟨h1, h2, hW, hr⟩
          try simp [Op.operands, Call.operands, readsOf, All, env, Is, Act.eval] at hr
          obtain ⟨hcW, hfW⟩ := bcell hW
          go_simp
          try rfl
        refine fwd_e (e := .pointer (some ⟨wr.heap.size, 1, none⟩)) rfl trivial ?_ ?_
        · rintro ρ W ⟨h1, h2, hW, hr⟩
          try simp [Op.operands, Call.operands, readsOf, All, env, Is, Act.eval] at hr
          go_simp
          try rfl
        refine fwd_e (e := .int .u8 (hi : Int)) rfl trivial ?_ ?_
        · rintro ρ W ⟨h1, h2, hW, hr⟩
          try simp [Op.operands, Call.operands, readsOf, All, env, Is, Act.eval] at hr
          obtain ⟨hcW, hfW⟩ := bcell hW
          go_simp
          try rfl
        refine fwd_e (e := .bool false) rfl trivial ?_ ?_
        · rintro ρ W ⟨h1, h2, hW, hr⟩
          try simp [Op.operands, Call.operands, readsOf, All, env, Is, Act.eval] at hr
          go_simp
          try rfl
          try first | omega | (simp; omega)
        refine fwd_e (e := .bool false) rfl trivial ?_ ?_
        · rintro ρ W ⟨h1, h2, hW, hr⟩
          try simp [Op.operands, Call.operands, readsOf, All, env, Is, Act.eval] at hr
          go_simp
          try rfl
        refine fwd_e (e := .int .i64 0) rfl ⟨_, rfl, by rintro g W h; simp [env, Is] at h; exact h⟩ ?_ ?_
        · rintro ρ W ⟨h1, h2, hW, hr⟩
          try simp [Op.operands, Call.operands, readsOf, All, env, Is, Act.eval] at hr
          go_simp
          try rfl
        refine fwd_e (e := .bool false) rfl ⟨_, rfl, by rintro g W h; simp [env, Is] at h; exact h⟩ ?_ ?_
        · rintro ρ W ⟨h1, h2, hW, hr⟩
          try simp [Op.operands, Call.operands, readsOf, All, env, Is, Act.eval] at hr
          go_simp
          try rfl
          try first | omega | (simp; omega)
        refine fwd_e (e := .bool false) rfl ⟨_, rfl, by rintro g W h; simp [env, Is] at h; exact h⟩ ?_ ?_
        · rintro ρ W ⟨h1, h2, hW, hr⟩
          try simp [Op.operands, Call.operands, readsOf, All, env, Is, Act.eval] at hr
          go_simp
          try rfl
        refine fwd_pass rfl rfl rfl (by rintro g W h; simp [env, Is] at h; exact h) ?_
        refine fwd_pass rfl rfl rfl (by rintro g W h; simp [env, Is] at h; exact h) ?_
        refine fwd_pass rfl rfl rfl (by rintro g W h; simp [env, Is] at h; exact h) ?_
        refine fwd_pass rfl rfl rfl (by rintro g W h; simp [env, Is] at h; exact h) ?_
        refine fwd_pass rfl rfl rfl (by rintro g W h; simp [env, Is] at h; exact h) ?_
        refine fwd_pass rfl rfl rfl (by rintro g W h; simp [env, Is] at h; exact h) ?_
        refine fwd_pass rfl rfl rfl (by rintro g W h; simp [env, Is] at h; exact h) ?_
        refine fwd_pass rfl rfl rfl (by rintro g W h; simp [env, Is] at h; exact h) ?_
        refine fwd_pass rfl rfl rfl (by rintro g W h; simp [env, Is] at h; exact h) ?_
        refine fwd_pass rfl rfl rfl (by rintro g W h; simp [env, Is] at h; exact h) ?_
        refine fwd_pass rfl rfl rfl (by rintro g W h; simp [env, Is] at h; exact h) ?_
        refine fwd_pass rfl rfl rfl (by rintro g W h; simp [env, Is] at h; exact h) ?_
        refine fwd_e (e := .bool false) rfl ⟨_, rfl, by rintro g W h; simp [env, Is] at h; exact h⟩ ?_ ?_
        · rintro ρ W ⟨h1, h2, hW, hr⟩
          try simp [Op.operands, Call.operands, readsOf, All, env, Is, Act.eval] at hr
          go_simp
          try rfl
        refine fwd_e (e := .bool false) rfl trivial ?_ ?_
        · rintro ρ W ⟨h1, h2, hW, hr⟩
          try simp [Op.operands, Call.operands, readsOf, All, env, Is, Act.eval] at hr
          go_simp
          try rfl
        refine fwd_nil ?_
        intro w6 hg6
        simp [EndAt, Is, Act.put]
        have hex6 := hex5.trans (Ex.mono hg6 hex5.size)
        have hcc := bcell hg6
        have g1 := (hcc.1 wr.heap.size 0 hsz).trans d1
        have g2 := (hcc.1 wr.heap.size 1 hsz).trans d2
        go_wp2
        refine ⟨⟨0 + 1, by omega, by go_num, ?_, hex6⟩, by simp [intOf]; omega⟩
        have hs1 := HSN.out
        rw [hs1] at hsb ⊢
        congr 1
        simp only [wrap64]
        omega
      · have h0' : 0 < k := by omega
        have hp2 := hpr h0'
        have e3 := d3 h0'
        clear d3 hpr
        generalize (spansOf S)[k - 1] = y at *
        obtain ⟨lo', hi'⟩ := y
        simp only at hp2 e3
        refine wp_region_fwd 23 (by kernel_rfl) (by kernel_rfl) ?_
        simp only [List.take_succ_cons, List.take_zero, List.drop_succ_cons, List.drop_zero]
        refine fwd_e (e := .pointer (some ⟨wr.heap.size, 0, none⟩)) rfl trivial ?_ ?_
        · rintro ρ W ⟨h1, h2, hW, hr⟩
          try simp [Op.operands, Call.operands, readsOf, All, env, Is, Act.eval] at hr
          go_simp
          try rfl
        refine fwd_e (e := .int .u8 (lo : Int)) rfl trivial ?_ ?_
        · rintro ρ W ⟨h1, h2, hW, hr⟩
          try simp [Op.operands, Call.operands, readsOf, All, env, Is, Act.eval] at hr
          obtain ⟨hcW, hfW⟩ := bcell hW
          go_simp
          try rfl
        refine fwd_e (e := .pointer (some ⟨wr.heap.size, 1, none⟩)) rfl trivial ?_ ?_
        · rintro ρ W ⟨h1, h2, hW, hr⟩
          try simp [Op.operands, Call.operands, readsOf, All, env, Is, Act.eval] at hr
          go_simp
          try rfl
        refine fwd_e (e := .int .u8 (hi : Int)) rfl trivial ?_ ?_
        · rintro ρ W ⟨h1, h2, hW, hr⟩
          try simp [Op.operands, Call.operands, readsOf, All, env, Is, Act.eval] at hr
          obtain ⟨hcW, hfW⟩ := bcell hW
          go_simp
          try rfl
        refine fwd_e (e := .bool false) rfl trivial ?_ ?_
        · rintro ρ W ⟨h1, h2, hW, hr⟩
          try simp [Op.operands, Call.operands, readsOf, All, env, Is, Act.eval] at hr
          go_simp
          try rfl
          try first | omega | (simp; omega)
        refine fwd_e (e := .bool false) rfl trivial ?_ ?_
        · rintro ρ W ⟨h1, h2, hW, hr⟩
          try simp [Op.operands, Call.operands, readsOf, All, env, Is, Act.eval] at hr
          go_simp
          try rfl
        refine fwd_e (e := .int .i64 (k : Int)) rfl ⟨_, rfl, by rintro g W h; simp [env, Is] at h; exact h⟩ ?_ ?_
        · rintro ρ W ⟨h1, h2, hW, hr⟩
          try simp [Op.operands, Call.operands, readsOf, All, env, Is, Act.eval] at hr
          go_simp
          try rfl
        refine fwd_e (e := .bool true) rfl ⟨_, rfl, by rintro g W h; simp [env, Is] at h; exact h⟩ ?_ ?_
        · rintro ρ W ⟨h1, h2, hW, hr⟩
          try simp [Op.operands, Call.operands, readsOf, All, env, Is, Act.eval] at hr
          go_simp
          try rfl
          try first | omega | (simp; omega)
        refine fwd_e (e := .bool true) rfl ⟨_, rfl, by rintro g W h; simp [env, Is] at h; exact h⟩ ?_ ?_
        · rintro ρ W ⟨h1, h2, hW, hr⟩
          try simp [Op.operands, Call.operands, readsOf, All, env, Is, Act.eval] at hr
          go_simp
          try rfl
        refine fwd_e (e := .pointer (some ⟨wr.heap.size, 0, none⟩)) rfl ⟨_, rfl, by rintro g W h; simp [env, Is] at h; exact h⟩ ?_ ?_
        · rintro ρ W ⟨h1, h2, hW, hr⟩
          try simp [Op.operands, Call.operands, readsOf, All, env, Is, Act.eval] at hr
          go_simp
          try rfl
        refine fwd_e (e := .int .u8 (lo : Int)) rfl ⟨_, rfl, by rintro g W h; simp [env, Is] at h; exact h⟩ ?_ ?_
        · rintro ρ W ⟨h1, h2, hW, hr⟩
          try simp [Op.operands, Call.operands, readsOf, All, env, Is, Act.eval] at hr
          obtain ⟨hcW, hfW⟩ := bcell hW
          go_simp
          try rfl
        refine fwd_e (e := .int .i64 (lo : Int)) rfl ⟨_, rfl, by rintro g W h; simp [env, Is] at h; exact h⟩ ?_ ?_
        · rintro ρ W ⟨h1, h2, hW, hr⟩
          try simp [Op.operands, Call.operands, readsOf, All, env, Is, Act.eval] at hr
          go_simp
          try rfl
          try (simp [IntKind.wrap, IntKind.bits, IntKind.signed]; omega)
        refine fwd_e (e := .slice (some ⟨b, o, none⟩) (spansOf S).length c4) rfl ⟨_, rfl, by rintro g W h; simp [env, Is] at h; exact h⟩ ?_ ?_
        · rintro ρ W ⟨h1, h2, hW, hr⟩
          try simp [Op.operands, Call.operands, readsOf, All, env, Is, Act.eval] at hr
          go_simp
          try rfl
        refine fwd_e (e := .int .i64 (k : Int)) rfl ⟨_, rfl, by rintro g W h; simp [env, Is] at h; exact h⟩ ?_ ?_
        · rintro ρ W ⟨h1, h2, hW, hr⟩
          try simp [Op.operands, Call.operands, readsOf, All, env, Is, Act.eval] at hr
          go_simp
          try rfl
        refine fwd_e (e := .int .i64 ((k - 1 : Nat) : Int)) rfl ⟨_, rfl, by rintro g W h; simp [env, Is] at h; exact h⟩ ?_ ?_
        · rintro ρ W ⟨h1, h2, hW, hr⟩
          try simp [Op.operands, Call.operands, readsOf, All, env, Is, Act.eval] at hr
          go_simp
          try rfl
          try (simp [IntKind.wrap, IntKind.bits, IntKind.signed]; omega)
        refine fwd_e (e := .pointer (some ⟨b, o + (k - 1) * 2, none⟩)) rfl ⟨_, rfl, by rintro g W h; simp [env, Is] at h; exact h⟩ ?_ ?_
        · rintro ρ W ⟨h1, h2, hW, hr⟩
          try simp [Op.operands, Call.operands, readsOf, All, env, Is, Act.eval] at hr
          go_simp
          try rfl
          try (intro h; omega)
        refine fwd_e (e := .pointer (some ⟨b, o + (k - 1) * 2 + 1, none⟩)) rfl ⟨_, rfl, by rintro g W h; simp [env, Is] at h; exact h⟩ ?_ ?_
        · rintro ρ W ⟨h1, h2, hW, hr⟩
          try simp [Op.operands, Call.operands, readsOf, All, env, Is, Act.eval] at hr
          go_simp
          try rfl
        refine fwd_e (e := .int .u8 (hi' : Int)) rfl ⟨_, rfl, by rintro g W h; simp [env, Is] at h; exact h⟩ ?_ ?_
        · rintro ρ W ⟨h1, h2, hW, hr⟩
          try simp [Op.operands, Call.operands, readsOf, All, env, Is, Act.eval] at hr
          obtain ⟨hcW, hfW⟩ := bcell hW
          go_simp
          try rfl
        refine fwd_e (e := .int .i64 (hi' : Int)) rfl ⟨_, rfl, by rintro g W h; simp [env, Is] at h; exact h⟩ ?_ ?_
        · rintro ρ W ⟨h1, h2, hW, hr⟩
          try simp [Op.operands, Call.operands, readsOf, All, env, Is, Act.eval] at hr
          go_simp
          try rfl
          try (simp [IntKind.wrap, IntKind.bits, IntKind.signed]; omega)
        refine fwd_e (e := .int .i64 ((hi' : Int) + 1)) rfl ⟨_, rfl, by rintro g W h; simp [env, Is] at h; exact h⟩ ?_ ?_
        · rintro ρ W ⟨h1, h2, hW, hr⟩
          try simp [Op.operands, Call.operands, readsOf, All, env, Is, Act.eval] at hr
          go_simp
          try rfl
          try (simp [IntKind.wrap, IntKind.bits, IntKind.signed]; omega)
        refine fwd_e (e := .bool false) rfl ⟨_, rfl, by rintro g W h; simp [env, Is] at h; exact h⟩ ?_ ?_
        · rintro ρ W ⟨h1, h2, hW, hr⟩
          try simp [Op.operands, Call.operands, readsOf, All, env, Is, Act.eval] at hr
          go_simp
          try rfl
          try first | omega | (simp; omega)
        refine fwd_e (e := .bool false) rfl ⟨_, rfl, by rintro g W h; simp [env, Is] at h; exact h⟩ ?_ ?_
        · rintro ρ W ⟨h1, h2, hW, hr⟩
          try simp [Op.operands, Call.operands, readsOf, All, env, Is, Act.eval] at hr
          go_simp
          try rfl
        refine fwd_e (e := .bool false) rfl trivial ?_ ?_
        · rintro ρ W ⟨h1, h2, hW, hr⟩
          try simp [Op.operands, Call.operands, readsOf, All, env, Is, Act.eval] at hr
          go_simp
          try rfl
        refine fwd_nil ?_
        intro w6 hg6
        simp [EndAt, Is, Act.put]
        have hex6 := hex5.trans (Ex.mono hg6 hex5.size)
        have hcc := bcell hg6
        have g1 := (hcc.1 wr.heap.size 0 hsz).trans d1
        have g2 := (hcc.1 wr.heap.size 1 hsz).trans d2
        go_wp2
        refine ⟨⟨k + 1, by omega, by go_num, ?_, hex6⟩, by simp [intOf]; omega⟩
        have hs1 := HSN.out
        rw [hs1] at hsb ⊢
        congr 1
        simp only [wrap64]
        omega
    · obtain rfl : k = (spansOf S).length := by omega
      rw [List.take_length, back_sum S]
      have hrowW : wr.heap[w.heap.size]? = some (.cells (sc S) 24 (0, 0)) := (hex.block _ (Array.getElem?_eq_some_iff.1 hrow).1).trans hrow
      obtain ⟨r0, r1, r2, r3⟩ := sc_cells hrowW
      unfold sv at h24
      go_wp2_with (go_at_call 24; refine (h24 _).mono ?_; rintro e w7 ⟨rfl, hb7⟩)
      go_loopw [8, 9, 83] (fun cv bv i wx => ∃ (t : Nat), t ≤ (bytesOf S).length ∧ i = .int .i64 t ∧ cv = .int .u8 (((bytesOf S)[t]?.getD 0 : Nat) : Int) ∧ bv = .bool (bytesOf S)[t]?.isSome ∧ Ex w3.heap.size w3 wx) (fun _ _ i _ => (bytesOf S).length - (intOf i).toNat)
      case atStart => exact ⟨0, Nat.zero_le _, rfl, rfl, rfl, hex.trans (hb7.mono hex.size)⟩
      case round =>
        obtain ⟨t, ht, rfl, rfl, rfl, hex2⟩ := hrel
        have hrowX : wr.heap[w.heap.size]? = some (.cells (sc S) 24 (0, 0)) := (hex2.block _ (Array.getElem?_eq_some_iff.1 hrow).1).trans hrow
        obtain ⟨r0, r1, r2, r3⟩ := sc_cells hrowX
        by_cases ht2 : t < (bytesOf S).length
        · obtain ⟨b', o', rfl, hb', hc'⟩ := hz3 (by omega)
          obtain ⟨x, hx⟩ : ∃ x, (bytesOf S)[t]? = some x := ⟨(bytesOf S)[t], by simp [ht2]⟩
          have hx2 : x < 256 := (mem_bytesTo.1 (List.mem_of_getElem? hx)).1
          have hcx : wr.cell? ⟨b', o' + t, none⟩ = some (.int .u8 (x : Int)) := (hex2.cell (p := ⟨b', o' + t, none⟩) hb').trans (hc' t _ (by simp [u8s, hx]))
          have h29 : ∀ W, Calls Try.prog 29 #[sv S, .int .u8 (x : Int)] W (Ret (.tuple #[.int .u8 (((bytesOf S)[t + 1]?.getD 0 : Nat) : Int), .bool (bytesOf S)[t + 1]?.isSome]) W) := fun W => by
            have := next_any S x hx2 W
            rw [back_next S t x hx, firstV_eq] at this; exact this
          unfold sv at h29
          rw [hx]
          simp only [Option.getD_some, Option.isSome_some]
          clear hc'
          go_wp2_with (go_at_call 29; refine (h29 _).mono ?_; rintro e w8 ⟨rfl, hb8⟩)
          exact ⟨⟨t + 1, by omega, by go_num, rfl, rfl, hex2.trans (hb8.mono hex2.size)⟩, by simp [intOf]; omega⟩
        · obtain rfl : t = (bytesOf S).length := by omega
          rw [List.getElem?_eq_none (Nat.le_refl _)]
          simp only [Option.getD_none, Option.isSome_none]
          go_wp2
          go_ret
          exact ⟨rfl, hE.trans (hex2.mono hE.size)⟩
end Go.Proofs.Ytjmhbbbpjbgmjaa

