/-
  schedule: ScheduleWrong: plain.
-/
import Derived.Test.YtblibgbakbhlkaaGreatDoorZvMe
import Derived.Test.YtblibgbakbhlkaaGreatDoorZvW9
set_option linter.unusedSimpArgs false
set_option linter.unusedVariables false
set_option maxRecDepth 100000
namespace Go.Ab
open Go Go.RowKit Go.Fwd Go.Proofs
theorem mid_ok (how i k c1 c2 c3 : Int) (h1 : i ≤ k ∧ k ≤ i + 1) (h2 : Int.tmod how 5 < 3 → k = i) (e1 : c1 = 320) (e2 : c2 = 320) (e3 : c3 = 320) (hb : 0 ≤ i ∧ i < 100000) : Ok (cutQ (fun _ => True) (fun r => r = true)) ((bif (decide (k < i)) then (some (Sum.inr false)) else (chk (-9223372036854775808 ≤ (i + 1) ∧ (i + 1) < 9223372036854775808) (bif (decide (k > (i + 1))) then (some (Sum.inr false)) else (bif (decide ((Int.tmod how 5) < 3)) then (bif (k != i) then (some (Sum.inr false)) else (bif (c1 != 320) then (some (Sum.inr false)) else (bif (c2 != c1) then (some (Sum.inr false)) else (bif (c3 != c1) then (some (Sum.inr false)) else (some (Sum.inl ())))))) else (bif (c1 != 320) then (some (Sum.inr false)) else (bif (c2 != c1) then (some (Sum.inr false)) else (bif (c3 != c1) then (some (Sum.inr false)) else (some (Sum.inl ()))))))))) : Option (Unit ⊕ Bool)) := by
  subst e1 e2 e3
  refine ok_bif (fun h => by have := of_decide_eq_true h; omega) fun _ => ok_chk (by omega) (ok_bif (fun h => by have := of_decide_eq_true h; omega) fun _ => ok_bif (fun h => ?_) fun h => ?_)
  · have hk := h2 (of_decide_eq_true h)
    subst hk
    exact ok_bif (fun h => by simp at h) fun _ => ok_bif (fun h => by simp at h) fun _ => ok_bif (fun h => by simp at h) fun _ => ok_bif (fun h => by simp at h) fun _ => ok_some trivial
  · exact ok_bif (fun h => by simp at h) fun _ => ok_bif (fun h => by simp at h) fun _ => ok_bif (fun h => by simp at h) fun _ => ok_some trivial
def wrongT (fuel : Nat) (x1 : List Ev) (how at_ n : Int) : Option Bool :=
  (bindE (F_cut fuel x1 []) (fun x6 => (chk (-9223372036854775808 ≤ at_ ∧ at_ < 9223372036854775808) (chk (-9223372036854775808 ≤ ((List.length x6.1 : Int) + 1) ∧ ((List.length x6.1 : Int) + 1) < 9223372036854775808) (chk ((0 ≤ at_ ∧ at_ < 9223372036854775808) ∧ 0 < ((List.length x6.1 : Int) + 1)) (bif (x6.2 != 0) then (some false) else (chk (0 ≤ how ∧ how < 256) (chk (0 ≤ (Int.tmod how 4) ∧ (Int.tmod how 4) < (List.length [(Ck.mk 0 []), (Ck.mk (max how 4) []), (Ck.mk 2 ([(u8of how)] : List UInt8)), (Ck.mk 3 ([0] : List UInt8))] : Int)) (letE (ix [(Ck.mk 0 []), (Ck.mk (max how 4) []), (Ck.mk 2 ([(u8of how)] : List UInt8)), (Ck.mk 3 ([0] : List UInt8))] (Int.tmod how 4)) (fun x7 => (bif (List.isEmpty x6.1) then (chk ((Int.tmod at_ ((List.length x6.1 : Int) + 1)) = 0 ∧ 0 < List.length [x7] ∧ List.length [x7] * 32 ≤ 140737488355328) (bindE (F_join fuel [x7]) (fun x8 => (chk ((Int.tmod at_ ((List.length x6.1 : Int) + 1)) = 0 ∧ 0 < List.length [x7] ∧ List.length [x7] * 32 ≤ 140737488355328) (bindE (F_alike fuel [x7] []) (fun x9 => (bindE (F_cut fuel x1 ([1, (min n (-1))] : List Int)) (fun x10 => (bif (x8.2.1 == (Int.tmod at_ ((List.length x6.1 : Int) + 1))) then (bif (x8.2.2 == 320) then (bif (x9.2 == x8.2.2) then (bif (x10.2 == 2) then (bindE (F_awake fuel) (fun x11 => (some x11))) else (some false)) else (some false)) else (some false)) else (some false)))))))))) else (chk (List.length x6.1 * 32 ≤ 140737488355328) (chk (0 ≤ (Int.tmod at_ ((List.length x6.1 : Int) + 1)) ∧ (Int.tmod at_ ((List.length x6.1 : Int) + 1)) ≤ (List.length x6.1 : Int) ∧ 0 < List.length x6.1 ∧ 0 < List.length [x7] ∧ (List.length x6.1 + List.length [x7]) * 32 ≤ 140737488355328) (letE (insL x6.1 [x7] (Int.tmod at_ ((List.length x6.1 : Int) + 1))) (fun x12 => (bindE (F_join fuel x12) (fun x13 => (chk (List.length x6.1 * 32 ≤ 140737488355328) (chk (0 ≤ (Int.tmod at_ ((List.length x6.1 : Int) + 1)) ∧ (Int.tmod at_ ((List.length x6.1 : Int) + 1)) ≤ (List.length x6.1 : Int) ∧ 0 < List.length x6.1 ∧ 0 < List.length [x7] ∧ (List.length x6.1 + List.length [x7]) * 32 ≤ 140737488355328) (letE (insL x6.1 [x7] (Int.tmod at_ ((List.length x6.1 : Int) + 1))) (fun x14 => (bindE (F_alike fuel x14 []) (fun x15 => (bindE (F_cut fuel x1 ([1, (min n (-1))] : List Int)) (fun x16 => (bif (x13.2.1 == (Int.tmod at_ ((List.length x6.1 : Int) + 1))) then (bif (x13.2.2 == 320) then (bif (x15.2 == x13.2.2) then (bif (x16.2 == 2) then (bindE (F_awake fuel) (fun x17 => (some x17))) else (some false)) else (some false)) else (some false)) else (some false)))))))))))))))))))))))))))
theorem four {how : Int} (h : 0 ≤ how ∧ how < 256) : ∃ c : Ck, ix [(Ck.mk 0 []), (Ck.mk (max how 4) []), (Ck.mk 2 ([(u8of how)] : List UInt8)), (Ck.mk 3 ([0] : List UInt8))] (Int.tmod how 4) = c ∧ c.k ≠ 1 ∧ c.l.length ≤ 1 ∧ (c.l ≠ [] ∨ rightP ⟨c.k, 0⟩ false = false) := by
  have h1 := Int.tmod_nonneg 4 h.1
  have h2 := Int.tmod_lt_of_pos how (show (0 : Int) < 4 by decide)
  generalize Int.tmod how 4 = q at h1 h2
  rcases (show q = 0 ∨ q = 1 ∨ q = 2 ∨ q = 3 by omega) with rfl | rfl | rfl | rfl
  · exact ⟨Ck.mk 0 [], rfl, by decide, by decide, .inr (by decide)⟩
  · refine ⟨Ck.mk (max how 4) [], rfl, ?_, Nat.zero_le _, .inr ?_⟩
    · show max how 4 ≠ 1; omega
    · unfold rightP
      show (if max how 4 = 1 then _ else if max how 4 = 2 ∨ max how 4 = 3 then _ else _) = _
      rw [if_neg (show ¬ (max how 4 = 1) by omega), if_neg (show ¬ (max how 4 = 2 ∨ max how 4 = 3) by omega)]
  · exact ⟨Ck.mk 2 [u8of how], rfl, by show (2 : Int) ≠ 1; decide, Nat.le_refl _, .inl (by simp)⟩
  · exact ⟨Ck.mk 3 [0], rfl, by decide, by decide, .inl (by simp)⟩
theorem five {how : Int} (h : 0 ≤ how ∧ how < 256) : ∃ (x p : List Ev) (e : Ev) (q : List Ev), ix [[(Ev.mk 0 0)], [(Ev.mk (max how 4) 0)], [(Ev.mk 2 (max how 1))], [(Ev.mk 3 0), (Ev.mk 3 0)], [(Ev.mk 3 0), (Ev.mk 1 how)]] (Int.tmod how 5) = x ∧ x = p ++ e :: q ∧ p.length ≤ 1 ∧ q.length = 0 ∧ (Int.tmod how 5 < 3 → p.length = 0) ∧
    ∀ a, okE false a = true → eofs a = false → okE false (a ++ p) = true ∧ rightP e (eofs (a ++ p)) = false := by
  have h1 := Int.tmod_nonneg 5 h.1
  have h2 := Int.tmod_lt_of_pos how (show (0 : Int) < 5 by decide)
  generalize Int.tmod how 5 = q at h1 h2
  rcases (show q = 0 ∨ q = 1 ∨ q = 2 ∨ q = 3 ∨ q = 4 by omega) with rfl | rfl | rfl | rfl | rfl
  · exact ⟨_, [], ⟨0, 0⟩, [], rfl, rfl, Nat.zero_le _, rfl, fun _ => rfl, fun a ha he => by rw [List.append_nil]; exact ⟨ha, by rw [he]; decide⟩⟩
  · refine ⟨_, [], ⟨max how 4, 0⟩, [], rfl, rfl, Nat.zero_le _, rfl, fun _ => rfl, fun a ha he => ?_⟩
    rw [List.append_nil]
    refine ⟨ha, ?_⟩
    rw [he]
    unfold rightP
    show (if max how 4 = 1 then _ else if max how 4 = 2 ∨ max how 4 = 3 then _ else _) = _
    rw [if_neg (show ¬ (max how 4 = 1) by omega), if_neg (show ¬ (max how 4 = 2 ∨ max how 4 = 3) by omega)]
  · refine ⟨_, [], ⟨2, max how 1⟩, [], rfl, rfl, Nat.zero_le _, rfl, fun _ => rfl, fun a ha he => ?_⟩
    rw [List.append_nil]
    refine ⟨ha, ?_⟩
    rw [he]
    unfold rightP
    show (if (2 : Int) = 1 then _ else if (2 : Int) = 2 ∨ (2 : Int) = 3 then (decide (max how 1 = 0) && _) else _) = _
    rw [if_neg (show ¬ ((2 : Int) = 1) by decide), if_pos (show (2 : Int) = 2 ∨ (2 : Int) = 3 by decide), decide_eq_false (show ¬ (max how 1 = 0) by omega)]
    rfl
  · refine ⟨_, [⟨3, 0⟩], ⟨3, 0⟩, [], rfl, rfl, Nat.le_refl _, rfl, fun h => by omega, fun a ha he => ⟨okE_snoc ha (by rw [he]; decide), ?_⟩⟩
    rw [eofs_snoc, he]; decide
  · refine ⟨_, [⟨3, 0⟩], ⟨1, how⟩, [], rfl, rfl, Nat.le_refl _, rfl, fun h => by omega, fun a ha he => ⟨okE_snoc ha (by rw [he]; decide), ?_⟩⟩
    rw [eofs_snoc, he]; rfl
theorem tmod_at {at_ : Int} (h : 0 ≤ at_ ∧ at_ < 256) (L : Nat) : ∃ m : Nat, Int.tmod at_ ((L : Int) + 1) = (m : Int) ∧ m ≤ L := by
  have h1 := Int.tmod_nonneg ((L : Int) + 1) h.1
  have h2 := Int.tmod_lt_of_pos at_ (show (0 : Int) < (L : Int) + 1 by omega)
  exact ⟨(Int.tmod at_ ((L : Int) + 1)).toNat, by omega, by omega⟩
theorem okE_pre {a b : List Ev} (h : okE false (a ++ b) = true) : okE false a = true := by
  rw [okE_app, Bool.and_eq_true] at h; exact h.1
theorem eofs_pre {a b : List Ev} (h : eofs (a ++ b) = false) : eofs a = false := by
  rw [eofs_app, Bool.or_eq_false_iff] at h; exact h.1
theorem law_nil {z : List Int} {cs : List Ck} (h : lawCs z cs) : ∀ c ∈ cs, c.k ≠ 1 → c.l = [] := by
  intro c hc
  obtain ⟨p, r, rfl⟩ := List.append_of_mem hc
  exact (h p c r rfl).1
set_option maxHeartbeats 4000000 in
theorem tail_ok (fuel : Nat) (hfu : 50000 < fuel) (haw : F_awake fuel = some true) (x1 : List Ev) (how at_ n : Int) (hxl : x1.length ≤ 200) (hg : GoodS x1) (he : eofs x1 = false) (hh : 0 ≤ how ∧ how < 256) (ha : 0 ≤ at_ ∧ at_ < 256) : Ok (fun r => r = true) (wrongT fuel x1 how at_ n) := by
  obtain ⟨⟨cs, e1⟩, hcc, rfl, c2, c3, c4⟩ := cut_ok fuel x1 [] (by omega) hxl hg ⟨by simp, fun x hx => by simp at hx⟩
  dsimp only at c2 c3 c4
  have hnil := law_nil c4
  obtain ⟨m, hm, hml⟩ := tmod_at ha cs.length
  obtain ⟨c, hc, hck, hcl, hbad⟩ := four hh
  have hck0 := check_ok fuel x1 (by omega) (by omega) hg.ok
  have hneg := cut_neg fuel x1 n (by omega) hck0
  have hw : wts cs ≤ 200 := by rw [wts_ev cs hnil, c2]; exact hxl
  have hwc : wt c ≤ 2 := by unfold wt; rw [if_neg hck]; omega
  have hpre : ∀ k, (cs.take k).flatMap evP ++ (cs.drop k).flatMap evP = x1 := fun k => by rw [← List.flatMap_append, List.take_append_drop, c2]
  have hj : ∀ k, k ≤ cs.length → F_join fuel (cs.take k ++ c :: cs.drop k) = some ([], (k : Int), 320) := fun k hkl => by
    have hp := hpre k
    have h1 : okE false ((cs.take k).flatMap evP) = true := okE_pre (b := (cs.drop k).flatMap evP) (by rw [hp]; exact hg.ok)
    have h2 : eofs ((cs.take k).flatMap evP) = false := eofs_pre (b := (cs.drop k).flatMap evP) (by rw [hp]; exact he)
    have h3 : ((cs.take k).flatMap evP).length ≤ 200 := by
      have := congrArg List.length hp
      rw [List.length_append] at this; omega
    have h4 : wts (cs.take k) + wts (cs.drop k) = wts cs := by rw [← wts_app, List.take_append_drop]
    have := join_bad fuel (cs.take k) c (cs.drop k) (by omega) (by simp; omega) (by rw [wts_app, wts_cons]; omega) (by omega) h1 (fun x hx => hnil x (List.mem_of_mem_take hx)) hck (by rw [h2]; exact hbad)
    rw [List.length_take, Nat.min_eq_left hkl] at this
    exact this
  have hjm := hj m hml
  have ham := alike_bad (ds := []) hjm
  unfold wrongT
  rw [hcc, bindE_some]
  simp only [hm, hc]
  refine ok_chk (by omega) (ok_chk (by omega) (ok_chk (by omega) (ok_bif (fun h => by simp at h) fun _ => ok_chk (by omega) (ok_chk ?_ ?_))))
  · have h1 := Int.tmod_nonneg 4 hh.1
    have h2 := Int.tmod_lt_of_pos how (show (0 : Int) < 4 by decide)
    exact ⟨h1, by simpa using h2⟩
  · refine ok_letE fun x7 hx7 => ?_
    subst hx7
    refine ok_bif (fun h => ?_) fun h => ?_
    · obtain rfl : cs = [] := List.isEmpty_iff.1 h
      obtain rfl : m = 0 := by simpa using hml
      rw [List.take_nil, List.drop_nil, List.nil_append] at hjm ham
      refine ok_chk (by simp) ?_
      rw [hjm, bindE_some]
      refine ok_chk (by simp) ?_
      rw [ham, bindE_some, hneg, bindE_some]
      exact ok_bif (fun _ => ok_bif (fun _ => ok_bif (fun _ => ok_bif (fun _ => ok_bindE (ok_eq haw) fun a ha => ok_some ha) fun h => by simp at h) fun h => by simp at h) fun h => by simp at h) fun h => by simp at h
    · have hne : 0 < cs.length := List.length_pos_iff.2 fun e0 => by rw [e0] at h; cases h
      have hins : insL cs [c] (m : Int) = cs.take m ++ c :: cs.drop m := by simp [insL]
      refine ok_chk (by omega) (ok_chk ⟨by omega, by omega, hne, by simp, by simp; omega⟩ (ok_letE fun x12 hx12 => ?_))
      rw [hins] at hx12
      subst hx12
      rw [hjm, bindE_some]
      refine ok_chk (by omega) (ok_chk ⟨by omega, by omega, hne, by simp, by simp; omega⟩ (ok_letE fun x14 hx14 => ?_))
      rw [hins] at hx14
      subst hx14
      rw [ham, bindE_some, hneg, bindE_some]
      exact ok_bif (fun _ => ok_bif (fun _ => ok_bif (fun _ => ok_bif (fun _ => ok_bindE (ok_eq haw) fun a ha => ok_some ha) fun h => by simp at h) fun h => by simp at h) fun h => by simp at h) fun h => by simp at h
set_option maxHeartbeats 4000000 in
theorem wrong_eqF (fuel : Nat) (hfu : 50000 < fuel) (haw : F_awake fuel = some true) (l : List UInt8) (how at_ n : Int) (hh : 0 ≤ how ∧ how < 256) (ha : 0 ≤ at_ ∧ at_ < 256) : F_wrong fuel l how at_ n = some true := by
  obtain ⟨x, hx, hxl, hg, he0⟩ := made_ok2 fuel l 0 (by omega) (by omega)
  have he : eofs x = false := by
    cases h : eofs x
    · rfl
    · have := he0 h; omega
  obtain ⟨i, hi, hil⟩ := tmod_at ha x.length
  obtain ⟨w, p, e, q, h5, hw, hp1, hq0, hlt3, hrt⟩ := five hh
  obtain rfl : q = [] := List.length_eq_zero_iff.1 hq0
  have hxp : x.take i ++ x.drop i = x := List.take_append_drop i x
  have hoa : okE false (x.take i) = true := okE_pre (b := x.drop i) (by rw [hxp]; exact hg.ok)
  have hea : eofs (x.take i) = false := eofs_pre (b := x.drop i) (by rw [hxp]; exact he)
  obtain ⟨r1, r2⟩ := hrt _ hoa hea
  have hwl : w.length = p.length + 1 := by rw [hw]; simp
  have hchk : F_check fuel (x.take i ++ w ++ x.drop i) = some (((i + p.length : Nat) : Int), 320) := by
    have h := check_at fuel (x.take i ++ p) e (x.drop i) (by simp; omega) (by simp; omega) r1 r2
    have e1 : x.take i ++ p ++ e :: x.drop i = x.take i ++ w ++ x.drop i := by rw [hw]; simp
    have e2 : (x.take i ++ p).length = i + p.length := by rw [List.length_append, List.length_take, Nat.min_eq_left hil]
    rw [e1, e2] at h
    exact h
  have hcut := cut_bad (z := []) hchk
  have hwr := write_bad hchk
  have htl := tail_ok fuel hfu haw x how at_ n hxl hg he hh ha
  refine Ok.eq ?_
  unfold F_wrong
  rw [hx, bindE_some]
  simp only [hi, h5]
  refine ok_chk (by omega) (ok_chk (by omega) (ok_chk (by omega) (ok_chk ?_ ?_)))
  · have h1 := Int.tmod_nonneg 5 hh.1
    have h2 := Int.tmod_lt_of_pos how (show (0 : Int) < 5 by decide)
    exact ⟨h1, by simpa using h2⟩
  · refine ok_letE fun x2 hx2 => ?_
    subst hx2
    have hmid := mid_ok how (i : Int) ((i + p.length : Nat) : Int) 320 320 320 (by omega) (fun h => by have := hlt3 h; omega) rfl rfl rfl (by omega)
    refine ok_bif (fun h => ?_) fun h => ?_
    · have h0 : x = [] := List.isEmpty_iff.1 h
      have hi0 : i = 0 := by rw [h0] at hil; simpa using hil
      rw [h0, hi0, List.take_nil, List.drop_nil, List.nil_append, List.append_nil] at hchk hcut hwr
      refine ok_chk (by rw [hi0]; simp; omega) ?_
      rw [hchk, bindE_some, hcut, bindE_some, hwr, bindE_some]
      refine ok_cut (fun _ => True) ?_ fun _ _ => ?_
      · rw [hi0] at hmid ⊢
        exact hmid
      · unfold wrongT at htl
        exact htl
    · have hne : 0 < x.length := List.length_pos_iff.2 fun e0 => by rw [e0] at h; cases h
      have hins : insL x w (i : Int) = x.take i ++ w ++ x.drop i := by simp [insL]
      refine ok_chk (by omega) (ok_chk ⟨by omega, by omega, hne, by omega, by omega⟩ (ok_letE fun x12 hx12 => ?_))
      rw [hins] at hx12
      subst hx12
      rw [hchk, bindE_some, hcut, bindE_some, hwr, bindE_some]
      refine ok_cut (fun _ => True) hmid fun _ _ => ?_
      unfold wrongT at htl
      exact htl
theorem wrong_eq (l : List UInt8) (how at_ n : Int) (hh : 0 ≤ how ∧ how < 256) (ha : 0 ≤ at_ ∧ at_ < 256) : F_wrong 100000 l how at_ n = some true := wrong_eqF 100000 (by omega) awake_true l how at_ n hh ha
end Go.Ab

