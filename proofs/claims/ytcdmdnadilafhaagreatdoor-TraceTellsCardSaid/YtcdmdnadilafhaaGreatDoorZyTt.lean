/-
  TraceTells: plain.
-/
import Derived.Test.YtcdmdnadilafhaaGreatDoorZyTy
import Derived.Test.YtcdmdnadilafhaaGreatDoorZyRt
set_option linter.unusedSimpArgs false
set_option linter.unusedVariables false
namespace Go.Ab
open Go Go.RowKit Go.Fwd Go.Proofs
theorem rended_eq (e : Ed) : F_rended e = some (endedB e) := by
  unfold F_rended endedB
  refine bif_i (fun h => ?_) (fun h => bif_i (fun h5 => ?_) (fun h5 => ?_))
  · have h := of_decide_eq_true h
    rw [if_neg (by omega), decide_eq_false (by omega)]
  · have h5 := of_decide_eq_true h5
    rw [if_neg (by omega), decide_eq_false (by omega)]
  have h := of_decide_eq_false h
  have h5 := of_decide_eq_false h5
  refine bif_i (fun h0 => ?_) (fun h0 => bif_i (fun h2 => bif_i (fun hc => ?_) (fun hc => ?_)) (fun h2 => ?_))
  · have h0 := eq_of_beq h0
    split
    · rw [decide_eq_true (by omega)]
    · rw [decide_eq_true (by omega)]
  · have h2 := eq_of_beq h2
    have hc := of_decide_eq_true hc
    rw [if_pos h2]
    congr 1
    rw [decide_eq_decide]
    omega
  · have h2 := eq_of_beq h2
    have hc := of_decide_eq_false hc
    have h0 := ne_of_beq_false h0
    rw [if_pos h2, decide_eq_false (by omega)]
  · have h2 := ne_of_beq_false h2
    have h0 := ne_of_beq_false h0
    rw [if_neg h2, decide_eq_false (by omega)]
theorem rcheck_eq (fuel : Nat) (t : Trc) (hf : t.l.length < fuel) (hf2 : 70000 < fuel) : F_rcheck fuel t = some (checkP t) := by
  unfold F_rcheck
  refine Ok.eq (ok_bif (fun h => ok_some ?_) (fun h => ?_))
  · have h := of_decide_eq_true h
    unfold checkP
    rw [if_pos (by omega)]
  have h := of_decide_eq_false h
  have hm : t.l.length ≤ 65536 := by omega
  refine ok_cut (fun _ => okL 0 t.l) ?_ (fun _ hk => ?_)
  · refine ok_loop (fun (s : Int × Int) => ∃ i : Nat, s.2 = (i : Int) ∧ i ≤ t.l.length ∧ okL 0 (t.l.take i) ∧ s.1 = atL 0 (t.l.take i)) (fun s => t.l.length - s.2.toNat) (fun s hT => ?_) _ _ (by simp; omega) ⟨0, rfl, by omega, by simp [okL], by simp [atL]⟩
    obtain ⟨s1, s2⟩ := s
    obtain ⟨i, g1, g2, g3, g4⟩ := hT
    simp only at g1 g4
    subst g1 g4
    have ha := atL_ge 0 (t.l.take i)
    refine ok_bif (fun hc => ?_) (fun hc => ok_some ?_)
    · have hc : i < t.l.length := by have := of_decide_eq_true hc; simp only at this; omega
      have hn : okL 0 (t.l.take (i + 1)) ↔ rightP (ix t.l (i : Int)) (atL 0 (t.l.take i)) := by
        rw [take_succ1 t.l hc, okL_app]
        simp [g3, okL]
      have hx : atL 0 (t.l.take (i + 1)) = max (atL 0 (t.l.take i)) (ix t.l (i : Int)).to := by rw [take_succ1 t.l hc, atL_app]; rfl
      refine ok_cut (fun j => okL 0 (t.l.take (i + 1)) ∧ j = atL 0 (t.l.take (i + 1))) ?_ (fun j hj => ok_chk (by simp only; omega) (ok_some ⟨⟨i + 1, by simp, by omega, hj.1, hj.2⟩, by simp only; omega⟩))
      refine ok_chk (by simp only; omega) (ok_letE fun x hx' => ?_)
      have hx' : ix t.l (i : Int) = x := hx'
      rw [hx'] at hn hx
      rw [rright_eq, bindE_some]
      refine ok_bif (fun hr => ok_some ?_) (fun hr => ?_)
      · have hr : ¬ rightP x (atL 0 (t.l.take i)) := by
          have : rightB x (atL 0 (t.l.take i)) = false := by simpa using hr
          exact of_decide_eq_false this
        have hnok : nOk 0 t.l = i := by
          conv => lhs; rw [← List.take_append_drop i t.l]
          rw [nOk_app 0 _ _ g3, drop_succ1 t.l hc, hx', nOk, if_neg hr]
          simp; omega
        show (((i : Nat) : Int), (330 : Int)) = checkP t
        unfold checkP
        rw [if_neg (by omega), hnok, if_pos hc]
      · have hr : rightP x (atL 0 (t.l.take i)) := by
          have : rightB x (atL 0 (t.l.take i)) = true := by simpa using hr
          exact of_decide_eq_true this
        obtain ⟨k1, k2, k3, k4, k5, k6⟩ := right_k ha hr
        refine ok_bif (fun hk => ok_some ⟨hn.2 hr, ?_⟩) (fun hk => ok_some ⟨hn.2 hr, ?_⟩)
        · have hk : x.k ≠ 1 := by simpa using hk
          rw [hx]
          rcases hr with ⟨q1, _⟩ | ⟨q1, q2, q3, q4, q5, q6⟩
          · exact absurd q1 hk
          · omega
        · have hk : x.k = 1 := by simpa using hk
          rw [hx, (k5 hk).2]
          show atL 0 (t.l.take i) = _
          omega
    · have hc : i = t.l.length := by have := of_decide_eq_false hc; simp only at this; omega
      show okL 0 t.l
      rw [← List.take_length (l := t.l), ← hc]; exact g3
  · rw [rended_eq, bindE_some]
    have hnok := (nOk_ok 0 t.l).1 hk
    refine ok_bif (fun he => ok_some ?_) (fun he => ok_some ?_)
    · have he : endedB t.e = false := by simpa using he
      unfold checkP
      rw [if_neg (by omega), hnok, if_neg (by omega), if_neg (by simp [he])]
    · have he : endedB t.e = true := by simpa using he
      unfold checkP
      rw [if_neg (by omega), hnok, if_neg (by omega), if_pos he]
theorem rsent_eq (fuel : Nat) (t : Trc) (hf : t.l.length < fuel) (hm : t.l.length ≤ 1000000000) (hb : bytesN t.l ≤ 140737488355328) : F_rsent fuel t = some (sentP t.l) := by
  unfold F_rsent
  refine Ok.eq (ok_cut (fun r => r = sentP t.l) ?_ (fun r h => ok_some h))
  refine ok_loop (fun (s : List UInt8 × Int) => ∃ i : Nat, s.2 = (i : Int) ∧ i ≤ t.l.length ∧ s.1 = sentP (t.l.take i)) (fun s => t.l.length - s.2.toNat) (fun s hT => ?_) _ _ (by simp; omega) ⟨0, rfl, by omega, by simp [sentP]⟩
  obtain ⟨s1, s2⟩ := s
  obtain ⟨i, g1, g2, g3⟩ := hT
  simp only at g1 g3
  subst g1 g3
  refine ok_bif (fun hc => ?_) (fun hc => ok_some ?_)
  · have hc : i < t.l.length := by have := of_decide_eq_true hc; simp only at this; omega
    have hs : sentP (t.l.take (i + 1)) = sentP (t.l.take i) ++ (if (ix t.l (i : Int)).k = 1 then (ix t.l (i : Int)).b else []) := by rw [take_succ1 t.l hc, sentP_app]; simp [sentP]
    have hbn : bytesN t.l = bytesN (t.l.take i) + ((ix t.l (i : Int)).b.length + bytesN (t.l.drop (i + 1))) := by
      conv => lhs; rw [← List.take_append_drop i t.l]
      rw [bytesN_app, drop_succ1 t.l hc, bytesN]
    have hsl := sentP_len (t.l.take i)
    refine ok_cut (fun j => j = sentP (t.l.take (i + 1))) ?_ (fun j hj => ok_chk (by simp only; omega) (ok_some ⟨⟨i + 1, by simp, by omega, hj⟩, by simp only; omega⟩))
    refine ok_chk (by simp only; omega) (ok_letE fun x hx => ok_bif (fun hk => ok_chk (by simp only; omega) (ok_letE fun y hy => ok_chk ?_ (ok_some ?_))) (fun hk => ok_some ?_))
    · have hy : ix t.l (i : Int) = y := hy
      rw [← hy]; simp only; omega
    · have hy : ix t.l (i : Int) = y := hy
      have hx : ix t.l (i : Int) = x := hx
      have hk : x.k = 1 := by simpa using hk
      rw [← hx] at hk
      rw [hs, if_pos hk, hy]
    · have hx : ix t.l (i : Int) = x := hx
      have hk : x.k ≠ 1 := by simpa using hk
      rw [← hx] at hk
      rw [hs, if_neg hk, List.append_nil]
  · have hc : i = t.l.length := by have := of_decide_eq_false hc; simp only at this; omega
    show sentP (t.l.take i) = _
    rw [hc, List.take_length]
theorem rsum_eq (fuel : Nat) (t : Trc) (k : Int) (hk : okL 0 t.l) (hf : t.l.length < fuel) (hm : t.l.length ≤ 65536) : F_rsum fuel t k = some (sumP (fun e => e.k == k) t.l) := by
  unfold F_rsum
  refine Ok.eq (ok_cut (fun r => r = sumP (fun e => e.k == k) t.l) ?_ (fun r h => ok_some h))
  refine ok_loop (fun (s : Int × Int) => ∃ i : Nat, s.2 = (i : Int) ∧ i ≤ t.l.length ∧ s.1 = sumP (fun e => e.k == k) (t.l.take i)) (fun s => t.l.length - s.2.toNat) (fun s hT => ?_) _ _ (by simp; omega) ⟨0, rfl, by omega, by simp [sumP]⟩
  obtain ⟨s1, s2⟩ := s
  obtain ⟨i, g1, g2, g3⟩ := hT
  simp only at g1 g3
  subst g1 g3
  refine ok_bif (fun hc => ?_) (fun hc => ok_some ?_)
  · have hc : i < t.l.length := by have := of_decide_eq_true hc; simp only at this; omega
    have hs : sumP (fun e => e.k == k) (t.l.take (i + 1)) = sumP (fun e => e.k == k) (t.l.take i) + (if (ix t.l (i : Int)).k = k then (ix t.l (i : Int)).to - (ix t.l (i : Int)).fr else 0) := by rw [take_succ1 t.l hc, sumP_app]; simp [sumP]
    have hr := okL_at hk hc
    rw [← ixD] at hr
    obtain ⟨q1, q2, q3, q4, q5⟩ := rightP_bnd (atL_ge 0 (t.l.take i)) hr
    have hb := sumP_bnd (fun e => e.k == k) 0 (t.l.take i) (by omega) (okL_take hk i)
    have hl : (t.l.take i).length ≤ 65536 := by simp; omega
    refine ok_cut (fun j => j = sumP (fun e => e.k == k) (t.l.take (i + 1))) ?_ (fun j hj => ok_chk (by simp only; omega) (ok_some ⟨⟨i + 1, by simp, by omega, hj⟩, by simp only; omega⟩))
    refine ok_chk (by simp only; omega) (ok_letE fun x hx => ?_)
    have hx : ix t.l (i : Int) = x := hx
    rw [hx] at hs q1 q2 q3 q4 q5
    refine ok_bif (fun hkx => ok_chk (by simp only; omega) (ok_letE fun y hy => ?_)) (fun hkx => ok_some ?_)
    · have hy : y = x := by rw [← hx]; exact hy.symm
      subst hy
      refine ok_chk (by simp only; omega) (ok_chk (by simp only; omega) (ok_letE fun z hz => ?_))
      have hz : z = y := by rw [← hx]; exact hz.symm
      subst hz
      refine ok_chk (by simp only; omega) (ok_some ?_)
      rw [hs, if_pos (eq_of_beq hkx)]
      show _ + z.to - z.fr = _
      omega
    · rw [hs, if_neg (ne_of_beq_false hkx)]
      show sumP (fun e => e.k == k) (t.l.take i) = _
      omega
  · have hc : i = t.l.length := by have := of_decide_eq_false hc; simp only at this; omega
    show sumP (fun e => e.k == k) (t.l.take i) = _
    rw [hc, List.take_length]
theorem rlast_eq (e : Ed) (h : endedB e = true) : F_rlast e = some (endP e) := by
  obtain ⟨h1, h2, h3⟩ := endedB_k h
  have l1 := Lib.itoa_length_le e.c (by omega) (by omega)
  unfold F_rlast endP
  by_cases hk : e.k = 2
  · refine bif_t (by simp [hk]) (chk_i (by omega) (letE_s (chk_i (by simp only [List.length_cons, List.length_nil]; omega) ?_)))
    rw [if_pos hk]
  · refine bif_f (by simp [hk]) (chk_i (by omega) (letE_s ?_))
    rw [if_neg hk]
theorem rwrite_eq (fuel : Nat) (t : Trc) (hf : t.l.length < fuel) (hf2 : 2300 < fuel) (h : okT t) : F_rwrite fuel t = some (writeP t) := by
  obtain ⟨h1, h2, h3⟩ := h
  have hel := endP_len h3
  unfold F_rwrite
  refine Ok.eq (ok_cut (fun j => j = linesP t.l) ?_ (fun j hj => ?_))
  · refine ok_loop (fun (s : List UInt8 × Int) => ∃ i : Nat, s.2 = (i : Int) ∧ i ≤ t.l.length ∧ s.1 = linesP (t.l.take i)) (fun s => t.l.length - s.2.toNat) (fun s hT => ?_) _ _ (by simp; omega) ⟨0, rfl, by omega, by simp [linesP]⟩
    obtain ⟨s1, s2⟩ := s
    obtain ⟨i, g1, g2, g3⟩ := hT
    simp only at g1 g3
    subst g1 g3
    refine ok_bif (fun hc => ?_) (fun hc => ok_some ?_)
    · have hc : i < t.l.length := by have := of_decide_eq_true hc; simp only at this; omega
      have hr := okL_at h2 hc
      rw [← ixD] at hr
      have ha := atL_ge 0 (t.l.take i)
      have hll := line_len ha hr
      have htl := lines_len 0 (t.l.take i) (by omega) (okL_take h2 i)
      have htk : (t.l.take i).length ≤ 65536 := by simp; omega
      refine ok_chk (by simp only; omega) (ok_letE fun e he => ?_)
      have he : ix t.l (i : Int) = e := he
      rw [he] at hr hll
      rw [rline_right fuel ha hr (by omega), bindE_some]
      refine ok_chk (by simp only; omega) (ok_chk (by simp only [List.length_append, List.length_cons, List.length_nil]; omega) (ok_chk (by simp only; omega) (ok_some ⟨⟨i + 1, by simp, by omega, ?_⟩, by simp only; omega⟩)))
      simp only
      rw [take_succ1 _ hc, lines_app, he]
      simp [linesP]
    · have hc : i = t.l.length := by have := of_decide_eq_false hc; simp only at this; omega
      show linesP (t.l.take i) = _
      rw [hc, List.take_length]
  · have htl := lines_len 0 t.l (by omega) h2
    rw [rlast_eq t.e h3, bindE_some, hj]
    refine ok_chk (by omega) (ok_chk (by simp only [List.length_append, List.length_cons, List.length_nil]; omega) (ok_some ?_))
    unfold writeP
    rw [List.append_assoc]
theorem okT_check {t : Trc} : (checkP t).2 = 0 ↔ okT t := checkP_ok
theorem write_bad (fuel : Nat) (t : Trc) (hf : t.l.length < fuel) (hk : 0 ≤ t.e.k ∧ t.e.k < 256) (h : ¬ (checkP t).2 = 0) : F_write fuel t = some ([], (checkP t).2) := by
  unfold F_write
  rw [check_eq fuel t hf hk, bindE_some]
  exact bif_t (by simpa using h) rfl
theorem sum_at : ∀ (a : Int) (l : List En), 0 ≤ a → okL a l → sumP (fun _ => true) l = atL a l - a
  | a, [], _, _ => by simp [sumP, atL]
  | a, e :: l, ha, ⟨h1, h2⟩ => by
    rw [sumP, atL, sum_at (max a e.to) l (by omega) h2]
    simp only [if_true]
    rcases h1 with ⟨q1, q2, q3, _⟩ | ⟨q1, q2, q3, q4, q5, q6⟩ <;> omega
theorem few_eq2 (fuel : Nat) (t : Trc) (hf : 101 < fuel) (hm : t.l.length < 2 ^ 63) (hs : ∀ e ∈ t.l, e.b.length < 2 ^ 47) : ∃ v, F_few fuel t = some v ∧ (v = true → t.l.length ≤ 100 ∧ bytesN t.l ≤ 4000) := by
  have hsub : sub t.l 0 (min (List.length t.l : Int) 101) = t.l.take 101 := by
    rw [sub_take]
    rcases Nat.le_total t.l.length 101 with h | h
    · rw [show (min (List.length t.l : Int) 101).toNat = t.l.length by omega, List.take_length, List.take_of_length_le h]
    · rw [show (min (List.length t.l : Int) 101).toNat = 101 by omega]
  have hbig : ∀ l : List En, (∀ e ∈ l, e.b.length < 2 ^ 47) → bytesN l ≤ 2 ^ 47 * l.length := by
    intro l
    induction l with
    | nil => intro _; simp [bytesN]
    | cons e l ih =>
      intro h
      have h1 := ih (fun x hx => h x (by simp [hx]))
      have h2 := h e (by simp)
      rw [bytesN, List.length_cons]
      omega
  have key : Ok (fun v => v = true → t.l.length ≤ 100 ∧ bytesN t.l ≤ 4000) (F_few fuel t) := by
    unfold F_few
    rw [hsub]
    have hl : (t.l.take 101).length ≤ 101 := by simp; omega
    refine ok_cut (fun j => j = (bytesN (t.l.take 101) : Int)) ?_ (fun j hj => ok_bif (fun h1 => ok_some (fun h2 => ?_)) (fun _ => ok_some (fun h => by cases h)))
    · refine ok_chk (by omega) ?_
      refine ok_loop (fun (s : Int × Int) => ∃ i : Nat, s.2 = (i : Int) ∧ i ≤ (t.l.take 101).length ∧ s.1 = (bytesN ((t.l.take 101).take i) : Int)) (fun s => (t.l.take 101).length - s.2.toNat) (fun s hT => ?_) _ _ (by simp only; omega) ⟨0, rfl, by omega, by simp [bytesN]⟩
      obtain ⟨s1, s2⟩ := s
      obtain ⟨i, g1, g2, g3⟩ := hT
      simp only at g1 g3
      subst g1 g3
      generalize hL : t.l.take 101 = L at *
      have hLs : ∀ e ∈ L, e.b.length < 2 ^ 47 := fun e he => hs e (by rw [← hL] at he; exact List.mem_of_mem_take he)
      refine ok_bif (fun hc => ?_) (fun hc => ok_some ?_)
      · have hc : i < L.length := by have := of_decide_eq_true hc; simp only at this; omega
        have hb := hbig (L.take (i + 1)) (fun e he => hLs e (List.mem_of_mem_take he))
        have hbn : bytesN (L.take (i + 1)) = bytesN (L.take i) + (ix L (i : Int)).b.length := by rw [take_succ1 L hc, bytesN_app]; simp [bytesN]
        have hll : (L.take (i + 1)).length ≤ 101 := by simp; omega
        refine ok_chk (by simp only; omega) (ok_letE fun x hx => ok_chk (by simp only; omega) (ok_some ⟨⟨i + 1, by simp, by omega, ?_⟩, by simp only; omega⟩))
        have hx : ix L (i : Int) = x := hx
        rw [hx] at hbn
        simp only
        rw [wrap_i64 (by omega) (by omega), hbn]
        omega
      · have hc : i = L.length := by have := of_decide_eq_false hc; simp only at this; omega
        show (bytesN (L.take i) : Int) = _
        rw [hc, List.take_length]
    · have h1 := of_decide_eq_true h1
      have h2 := of_decide_eq_true h2
      rw [hj, List.take_of_length_le (by omega)] at h2
      omega
  obtain ⟨v, h1, h2⟩ := key
  exact ⟨v, h1, h2⟩
theorem copy_eq' (t : Trc) (h : t.l.length * 40 ≤ 140737488355328) : F_copy t = some t := chk_i h rfl
theorem tells_eq (t : Trc) (hl : t.l.length ≤ 100) (hb : bytesN t.l ≤ 4000) (hk : 0 ≤ t.e.k ∧ t.e.k < 256) : F_tells 200000 t = some true := by
  have hchk := check_eq 200000 t (by omega) hk
  have hrc := rcheck_eq 200000 t (by omega) (by decide)
  have htk := taken_eq 200000 t (by omega) hk
  have hlo := lost_eq 200000 t (by omega) hk
  have hat := at_eq 200000 t (by omega) hk
  have hse := sent_eq 200000 t (by omega) (by decide) (by omega)
  have hrs := rsent_eq 200000 t (by omega) (by omega) (by omega)
  have hle : ∀ a b : Trc, a.l.length ≤ 100 → F_lequal 200000 a b = some (decide (a = b)) := fun a b h => lequal_eq 200000 a b (by omega) (by omega) (by decide)
  obtain ⟨s, hw, hws⟩ : ∃ s, F_write 200000 t = some (s, (checkP t).2) ∧ (okT t → s = writeP t) ∧ (¬ okT t → s = []) := by
    by_cases h : okT t
    · have h0 := okT_check.2 h
      exact ⟨_, by rw [write_eq 200000 t (by omega) (by decide) h, h0], fun _ => rfl, fun hn => absurd h hn⟩
    · exact ⟨[], write_bad 200000 t (by omega) hk (fun e => h (okT_check.1 e)), fun e => absurd e h, fun _ => rfl⟩
  -- the last part
  have tail : ∀ {β : Type} (K : (Int × Int × Int × List UInt8) → Option Bool), (K = fun j2 => (bindE (F_taken 200000 t) (fun x16 => (bif (x16 == j2.1) then (bindE (F_lost 200000 t) (fun x17 => (bif (x17 == j2.2.1) then (bindE (F_at 200000 t) (fun x18 => (bif (x18 == j2.2.2.1) then (some (s == j2.2.2.2)) else (some false)))) else (some false)))) else (some false))))) →
      cutE (τ := Int × Int × Int × (List UInt8)) (bif ((checkP t).2 == 0) then (bindE (F_rsum 200000 t 2) (fun x12 => (bindE (F_rsum 200000 t 3) (fun x13 => (bindE (F_rat 200000 t.l) (fun x14 => (bindE (F_rwrite 200000 t) (fun x15 => (some (Sum.inl (x12, x13, x14, x15))))))))))) else (some (Sum.inl (0, 0, 0, ([] : List UInt8))))) K = some true := by
    intro β K hK
    subst hK
    by_cases h : okT t
    · have h0 := okT_check.2 h
      rw [rsum_eq 200000 t 2 h.2.1 (by omega) (by omega), rsum_eq 200000 t 3 h.2.1 (by omega) (by omega), rat_eq 200000 t.l h.2.1 (by omega) (by omega), rwrite_eq 200000 t (by omega) (by decide) h, htk, hlo, hat, h0, hws.1 h]
      simp only [bindE_some, if_true, sum_at 0 t.l (by omega) h.2.1, Int.sub_zero, beq_self_eq_true, cond_true, cutE_inl]
    · have h0 : ¬ (checkP t).2 = 0 := fun e => h (okT_check.1 e)
      have h1 : ((checkP t).2 == 0) = false := beq_eq_false_iff_ne.2 h0
      rw [htk, hlo, hat, hws.2 h, h1]
      simp only [bindE_some, if_neg h0, beq_self_eq_true, cond_true, cond_false, cutE_inl]
  unfold F_tells
  refine Ok.eq (ok_chk (by omega) (ok_letE fun x hx => ?_))
  subst hx
  have eta : (Trc.mk t.l t.e) = t := rfl
  have eta2 : (Trc.mk t.l (Ed.mk t.e.k t.e.c)) = t := rfl
  simp only [eta, eta2]
  rw [theirs_eq 200000 t (by omega) (by omega), bindE_some, hchk, bindE_some, hrc, bindE_some, hw, bindE_some]
  refine ok_bif (fun h0 => ?_) (fun h0 => ok_chk (by omega) ?_)
  · rw [copy_eq' t (by omega), bindE_some]
    refine ok_bif (fun h => by simp at h) (fun _ => ok_bif (fun h => by simp at h) (fun _ => ok_bif (fun h => by simp at h) (fun _ => ?_)))
    rw [hle t t hl, bindE_some]
    refine ok_bif (fun h => by simp at h) (fun _ => ?_)
    rw [hse, bindE_some, hrs, bindE_some]
    refine ok_bif (fun h => by simp at h) (fun _ => ok_cut (fun _ => True) ?_ (fun _ _ => ?_))
    · have h0 : t.l.length = 0 := by have := eq_of_beq h0; omega
      refine ok_loop (fun (s : Int) => s = 0) (fun s => 0) (fun s hs => ?_) _ _ (by decide) rfl
      exact ok_bif (fun h => by have := of_decide_eq_true h; omega) (fun _ => ok_some trivial)
    · rw [bindE_some]
      refine ok_bif (fun h => by simp at h) (fun _ => ok_eq (tail (β := Unit) _ rfl))
  · refine ok_bif (fun h => by simp at h) (fun _ => ok_bif (fun h => by simp at h) (fun _ => ok_bif (fun h => by simp at h) (fun _ => ok_chk trivial ?_)))
    rw [hle t t hl, bindE_some]
    refine ok_bif (fun h => by simp at h) (fun _ => ?_)
    rw [hse, bindE_some, hrs, bindE_some]
    refine ok_bif (fun h => by simp at h) (fun _ => ok_cut (fun _ => True) ?_ (fun _ _ => ?_))
    · refine ok_loop (fun (s : Int × List En) => ∃ i : Nat, s.1 = (i : Int) ∧ i ≤ t.l.length ∧ s.2.length = t.l.length) (fun s => t.l.length - s.1.toNat) (fun s hT => ?_) _ _ (by simp only; omega) ⟨0, rfl, by omega, rfl⟩
      obtain ⟨s1, s2⟩ := s
      obtain ⟨i, g1, g2, g3⟩ := hT
      simp only at g1 g3
      subst g1
      refine ok_bif (fun hc => ?_) (fun _ => ok_some trivial)
      have hc : i < t.l.length := by have := of_decide_eq_true hc; simp only at this; omega
      exact ok_chk (by simp only; omega) (ok_chk (by simp only; omega) (ok_letE fun x hx => ok_chk (by simp only; omega) (ok_some ⟨⟨i + 1, by simp, by omega, by simp [g3]⟩, by simp only; omega⟩)))
    · rw [bindE_some]
      refine ok_bif (fun h => by simp at h) (fun _ => ok_eq (tail (β := Unit) _ rfl))
theorem tracetells_eq (t : Trc) (hm : t.l.length < 2 ^ 63 ∧ (∀ e ∈ t.l, e.b.length < 2 ^ 47) ∧ 0 ≤ t.e.k ∧ t.e.k < 256) : F_tracetells 200000 t = some true := by
  obtain ⟨v, h1, h2⟩ := few_eq2 200000 t (by decide) hm.1 hm.2.1
  unfold F_tracetells
  rw [h1, bindE_some]
  cases v with
  | false => rfl
  | true =>
    obtain ⟨g1, g2⟩ := h2 rfl
    rw [tells_eq t g1 g2 hm.2.2]
    rfl
end Go.Ab

