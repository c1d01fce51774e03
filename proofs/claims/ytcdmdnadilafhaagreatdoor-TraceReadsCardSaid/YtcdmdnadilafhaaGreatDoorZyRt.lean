/-
  reparteeref33: lines, Read; TraceReads: plain.
-/
import Derived.Test.YtcdmdnadilafhaaGreatDoorZyRq
import Derived.Test.YtcdmdnadilafhaaGreatDoorZyRy
import Derived.Test.YtcdmdnadilafhaaGreatDoorZyPn
set_option linter.unusedSimpArgs false
set_option linter.unusedVariables false
namespace Go.Ab
open Go Go.RowKit Go.Fwd Go.Proofs
theorem rright_eq (e : En) (a : Int) : F_rright e a = some (rightB e a) := by
  unfold rightB
  obtain ⟨k, fr, to, b⟩ := e
  unfold F_rright rightP
  simp only
  by_cases h1 : k = 1
  · subst h1
    refine bif_t rfl ?_
    by_cases h2 : fr = 0
    · by_cases h3 : to = 0
      · refine bif_t (by simp [h2]) (bif_t (by simp [h3]) ?_)
        have e1 : ((List.length b : Int) ≤ 512) ↔ b.length ≤ 512 := by omega
        simp [h2, h3, e1]
      · refine bif_t (by simp [h2]) (bif_f (by simp [h3]) ?_)
        simp [h3]
    · refine bif_f (by simp [h2]) ?_
      simp [h2]
  · refine bif_f (by simpa using h1) ?_
    by_cases h2 : k = 2 ∨ k = 3
    · by_cases h4 : b = []
      · subst h4
        refine cutE_i () ?_ ?_
        · rcases h2 with rfl | rfl
          · exact bif_f rfl (bif_f rfl rfl)
          · exact bif_t rfl (bif_f rfl (bif_f rfl rfl))
        by_cases h3 : fr = a
        · subst h3
          refine bif_f (by simp) ?_
          by_cases h5 : to < fr
          · refine bif_t (decide_eq_true h5) ?_
            have : ¬ fr ≤ to := by omega
            simp [h1, this]
          · refine bif_f (decide_eq_false h5) ?_
            by_cases h6 : to > 1073741824
            · refine bif_t (decide_eq_true h6) ?_
              have : ¬ to ≤ 1073741824 := by omega
              simp [h1, this]
            · refine bif_f (decide_eq_false h6) ?_
              have h5' : fr ≤ to := by omega
              have h6' : to ≤ 1073741824 := by omega
              rcases h2 with rfl | rfl
              · exact bif_t rfl (by simp [h5', h6'])
              · exact bif_f rfl (by simp [h5', h6'])
        · refine bif_t (by simp [h3]) ?_
          simp [h1, h3]
      · refine cutE_r false ?_ (by simp [h1, h4])
        have h4' : (!(b == ([] : List UInt8))) = true := by simp [h4]
        rcases h2 with rfl | rfl
        · exact bif_f rfl (bif_t h4' rfl)
        · exact bif_t rfl (bif_f rfl (bif_t h4' rfl))
    · have g2 : ¬ k = 2 := fun h => h2 (.inl h)
      have g3 : ¬ k = 3 := fun h => h2 (.inr h)
      refine cutE_r false (bif_t (by simp [g2]) (bif_t (by simp [g3]) rfl)) ?_
      simp [h1, g2, g3]
theorem rline_eq (fuel : Nat) (e : En) (hk : 1 ≤ e.k ∧ e.k ≤ 3) (hf : e.b.length < fuel) (hb : e.b.length ≤ 1000000000) (h1 : 0 ≤ e.fr ∧ e.fr < 9223372036854775808) (h2 : 0 ≤ e.to ∧ e.to < 9223372036854775808) : F_rline fuel e = some (lineP e) := by
  have l1 := Lib.itoa_length_le e.fr (by omega) (by omega)
  have l2 := Lib.itoa_length_le e.to (by omega) (by omega)
  have hfl := flat_len e.b
  unfold F_rline lineP
  by_cases k1 : e.k = 1
  · refine bif_t (by simp [k1]) ?_
    rw [rbytes_eq fuel e.b hf hb, bindE_some]
    refine chk_i (by simp only [List.length_cons, List.length_nil]; omega) (chk_i (by simp only [List.length_append, List.length_cons, List.length_nil]; omega) ?_)
    rw [if_pos k1, k1]
    simp [kindAt, quoteP]
  · refine bif_f (by simp [k1]) ?_
    rw [if_neg k1]
    by_cases k2 : e.k = 2
    · refine bif_t (by simp [k2]) (chk_i h1 (letE_s (chk_i (by simp; omega) (chk_i (by simp; omega) (chk_i h2 (letE_s (chk_i (by simp; omega) ?_)))))))
      rw [k2]
      simp [kindAt]
    · have k3 : e.k = 3 := by omega
      refine bif_f (by simp [k2]) (chk_i h1 (letE_s (chk_i (by simp; omega) (chk_i (by simp; omega) (chk_i h2 (letE_s (chk_i (by simp; omega) ?_)))))))
      rw [k3]
      simp [kindAt]
theorem rline_right (fuel : Nat) {e : En} {a : Int} (ha : 0 ≤ a) (h : rightP e a) (hf : 600 < fuel) : F_rline fuel e = some (lineP e) := by
  obtain ⟨h1, h2, h3, h4, h5, h6⟩ := right_k ha h
  exact rline_eq fuel e h1 (by omega) (by omega) (by omega) (by omega)
theorem rat_eq (fuel : Nat) (l : List En) (hl : okL 0 l) (hf : l.length < fuel) (hb : l.length ≤ 1000000000) : F_rat fuel l = some (atL 0 l) := by
  unfold F_rat
  refine Ok.eq (ok_cut (fun t => t = atL 0 l) ?_ (fun t h => ok_some h))
  refine ok_loop (fun (s : Int × Int) => ∃ i : Nat, s.2 = (i : Int) ∧ i ≤ l.length ∧ s.1 = atL 0 (l.take i)) (fun s => l.length - s.2.toNat) (fun s hT => ?_) _ _ (by simp; omega) ⟨0, rfl, by omega, by simp [atL]⟩
  obtain ⟨i, h1, h2, h3⟩ := hT
  obtain ⟨s1, s2⟩ := s
  simp only at h1 h3
  subst h1 h3
  refine ok_bif (fun hc => ?_) (fun hc => ?_)
  · have hc : i < l.length := by have := of_decide_eq_true hc; simp only at this; omega
    have hr := okL_at hl hc
    rw [← ixD] at hr
    have ha := atL_ge 0 (l.take i)
    obtain ⟨k1, k2, k3, k4, k5, k6⟩ := right_k ha hr
    have hnext : atL 0 (l.take (i + 1)) = max (atL 0 (l.take i)) (ix l (i : Int)).to := by rw [take_succ1 l hc, atL_app]; rfl
    refine ok_cut (fun t => t = atL 0 (l.take (i + 1))) ?_ (fun t ht => ok_chk (by omega) (ok_some ⟨⟨i + 1, by simp, by omega, ht⟩, by simp only; omega⟩))
    refine ok_chk (by omega) (ok_letE fun x hx => ok_bif (fun hk => ok_chk (by omega) (ok_letE fun y hy => ok_some ?_)) (fun hk => ok_some ?_))
    · have hk : x.k ≠ 1 := by simpa using hk
      have hy : ix l (i : Int) = y := hy
      have hx : ix l (i : Int) = x := hx
      show y.to = _
      rw [hnext, ← hy]
      rw [← hx] at hk
      rcases hr with ⟨q1, _⟩ | ⟨q1, q2, q3, q4, q5, q6⟩
      · exact absurd q1 hk
      · omega
    · have hk : x.k = 1 := by simpa using hk
      have hx : ix l (i : Int) = x := hx
      rw [← hx] at hk
      show atL 0 (l.take i) = _
      rw [hnext, (k5 hk).2]
      omega
  · have hc : i = l.length := by have := of_decide_eq_false hc; simp only at this; omega
    refine ok_some ?_
    show atL 0 (l.take i) = _
    rw [hc, List.take_length]
theorem rend_ok (fuel : Nat) (t : List UInt8) (hf : t.length < fuel) (hf2 : 20 < fuel) (hb : t.length ≤ 1000000000) : Ok (fun r => r.2 = true → endP r.1 = t ∧ endedB r.1 = true) (F_rend fuel t) := by
  unfold F_rend
  refine ok_cut (fun _ => True) ?_ (fun _ _ => ?_)
  · refine ok_loop (fun (s : Int) => 1 ≤ s ∧ s ≤ 6) (fun s => (6 - s).toNat) (fun s hT => ?_) _ _ (by simp; omega) (by decide)
    refine ok_bif (fun hc => ?_) (fun _ => ok_some trivial)
    have hc := of_decide_eq_true hc
    refine ok_cut (fun _ => True) ?_ (fun _ _ => ok_some ?_)
    · refine ok_chk (by omega) (ok_letE fun n hn => ok_bif (fun h => ok_bif (fun h2 => ok_some (fun _ => ?_)) (fun _ => ok_some trivial)) (fun _ => ok_some trivial))
      have h2 : s ≠ 2 := by simpa using h2
      have h : t = n := eq_of_beq h
      refine ⟨?_, ?_⟩
      · unfold endP; rw [if_neg h2, h, ← hn]
      · unfold endedB; rw [if_neg h2]; exact decide_eq_true ⟨by simp only; omega, by simp only; omega, rfl⟩
    · rw [wrap_u8 (by omega) (by omega)]
      exact ⟨by omega, by omega⟩
  refine ok_bif (fun _ => ok_some (fun h => by cases h)) (fun h5 => ?_)
  have h5 : 5 ≤ t.length := by have := of_decide_eq_false h5; omega
  refine ok_chk (by omega) (ok_letE fun x hx => ok_bif (fun _ => ok_some (fun h => by cases h)) (fun hxe => ok_chk (by omega) (ok_letE fun y hy => ?_)))
  have hxe : x = [101, 120, 105, 116] := by simpa using hxe
  have hx' : t.take 4 = [101, 120, 105, 116] := by rw [← hxe, ← hx, sub_take]; rfl
  have hy' : y = t.drop 4 := by rw [← hy]; exact sub_drop' t 4 (by omega)
  subst hy'
  refine ok_bindE (rnums_ok fuel (t.drop 4) (by simp; omega) hf2 (by simp; omega)) (fun l hl => ok_bif (fun _ => ok_some (fun h => by cases h)) (fun hl1 => ?_))
  have hl1 : l.length = 1 := by have := bne_eq_false_iff_eq.1 hl1; omega
  refine ok_chk (by omega) (ok_bif (fun _ => ok_some (fun h => by cases h)) (fun h255 => ok_chk (by omega) (ok_some (fun _ => ?_))))
  have h255 := of_decide_eq_false h255
  obtain ⟨c, rfl⟩ := List.length_eq_one_iff.1 hl1
  have hl2 := hl.resolve_left (by simp)
  have hc := hl2.2 c (by simp)
  have hi : ix [c] (0 : Int) = c := rfl
  rw [hi] at h255
  have ht : t = [101, 120, 105, 116] ++ (32 :: Lib.itoa c) := by
    rw [← List.take_append_drop 4 t, hx', ← hl2.1]
    simp [numsP]
  refine ⟨?_, ?_⟩
  · show endP ⟨2, c⟩ = t
    rw [ht]; rfl
  · show endedB ⟨2, c⟩ = true
    exact decide_eq_true ⟨hc.1, by simp only; omega⟩
theorem rend_end (fuel : Nat) (e : Ed) (hf : 100 < fuel) (h : endedB e = true) : F_rend fuel (endP e) = some (e, true) := by
  have hl := endP_len h
  obtain ⟨h1, h2, h3⟩ := endedB_k h
  unfold F_rend
  by_cases hk : e.k = 2
  · obtain ⟨_, c1, c2⟩ : e.k = 2 ∧ 0 ≤ e.c ∧ e.c ≤ 255 := by omega
    have he : endP e = [101, 120, 105, 116] ++ (32 :: Lib.itoa e.c) := by unfold endP; rw [if_pos hk]; rfl
    have hn : numsP [e.c] = 32 :: Lib.itoa e.c := by simp [numsP]
    have hlen : 5 ≤ (endP e).length := by rw [he]; simp
    refine Ok.eq (ok_cut (fun _ => True) ?_ (fun _ _ => ?_))
    · refine ok_loop (fun (s : Int) => 1 ≤ s ∧ s ≤ 6) (fun s => (6 - s).toNat) (fun s hT => ?_) _ _ (by simp; omega) (by decide)
      refine ok_bif (fun hc => ?_) (fun _ => ok_some trivial)
      have hc := of_decide_eq_true hc
      refine ok_cut (fun _ => True) ?_ (fun _ _ => ok_some ?_)
      · refine ok_chk (by omega) (ok_letE fun n hn' => ok_bif (fun h => ?_) (fun _ => ok_some trivial))
        exfalso
        have h := eq_of_beq h
        have := (nameE_no s ⟨hT.1, hc⟩).2
        rw [hn', ← h, he] at this
        simp at this
      · rw [wrap_u8 (by omega) (by omega)]
        exact ⟨by omega, by omega⟩
    refine ok_bif (fun h5 => by have := of_decide_eq_true h5; omega) (fun _ => ok_chk (by omega) (ok_letE fun x hx => ?_))
    have hx' : x = [101, 120, 105, 116] := by rw [← hx, sub_take, he]; rfl
    subst hx'
    refine ok_bif (fun h => by simp at h) (fun _ => ok_chk (by omega) (ok_letE fun y hy => ?_))
    have hy' : y = numsP [e.c] := by rw [← hy]; exact (sub_drop' _ 4 (by omega)).trans (by rw [he, hn]; rfl)
    subst hy'
    have hnl : (numsP [e.c]).length ≤ 30 := by rw [hn]; rw [he] at hl; simp at hl ⊢; omega
    rw [rnums_eq fuel [e.c] (fun n hn => by have := List.mem_singleton.1 hn; subst this; omega) (by omega) (by omega) (by omega), bindE_some]
    have hi : ix [e.c] (0 : Int) = e.c := rfl
    rw [hi]
    refine ok_bif (fun h => by simp at h) (fun _ => ok_chk (by simp) (ok_bif (fun h => by have := of_decide_eq_true h; omega) (fun _ => ok_chk (by simp) (ok_some ?_))))
    rw [← hk]
  · have he : endP e = nameE e.k := by unfold endP; rw [if_neg hk]
    have c0 : e.c = 0 := by omega
    refine Ok.eq (ok_cut (fun _ => False) ?_ (fun _ h => h.elim))
    refine ok_loop (fun (s : Int) => 1 ≤ s ∧ s ≤ e.k) (fun s => (6 - s).toNat) (fun s hT => ?_) _ _ (by simp; omega) ⟨by decide, h1⟩
    refine ok_bif (fun hc => ?_) (fun h => by have := of_decide_eq_false h; omega)
    refine ok_cut (fun _ => s ≠ e.k) ?_ (fun _ hne => ok_some ?_)
    · refine ok_chk (by omega) (ok_letE fun n hn' => ok_bif (fun h => ?_) (fun h => ok_some (fun e' => ?_)))
      · have h := eq_of_beq h
        have hs : s = e.k := nameE_inj (by omega) ⟨h1, h2⟩ (by rw [hn', ← h, he])
        refine ok_bif (fun _ => ok_some ?_) (fun h2 => by have := bne_eq_false_iff_eq.1 h2; omega)
        rw [hs]
        show ((⟨e.k, 0⟩ : Ed), true) = _
        rw [← c0]
      · subst e'
        rw [he, ← hn'] at h
        simp at h
    · rw [wrap_u8 (by omega) (by omega)]
      exact ⟨by omega, by omega⟩
theorem rentry_ok (fuel : Nat) (t : List UInt8) (a : Int) (ha : 0 ≤ a) (hf : t.length < fuel) (hf2 : 2300 < fuel) (hb : t.length ≤ 1000000000) : Ok (fun r => r.2 = true → lineP r.1 = t ∧ rightP r.1 a) (F_rentry fuel t a) := by
  unfold F_rentry
  refine ok_bif (fun _ => ok_some (fun h => by cases h)) (fun h5 => ?_)
  have h5 : 5 ≤ t.length := by have := of_decide_eq_false h5; omega
  refine ok_cut (fun j => j.b = [] ∧ (j.k = 0 ∨ (j.k = 2 ∧ t.take 4 = [116, 97, 107, 101]) ∨ (j.k = 3 ∧ t.take 4 = [108, 111, 115, 101]))) ?_ (fun j hj => ?_)
  · refine ok_chk (by omega) (ok_letE fun x hx => ?_)
    have hx' : t.take 5 = x := by rw [← hx, sub_take]; rfl
    have h4 : t.take 4 = x.take 4 := by rw [← hx', List.take_take]; rfl
    refine ok_bif (fun h1 => ok_chk (by omega) (ok_letE fun y hy => ?_)) (fun _ => ok_bif (fun h2 => ok_some ⟨rfl, .inr (.inl ⟨rfl, ?_⟩)⟩) (fun _ => ok_bif (fun h3 => ok_some ⟨rfl, .inr (.inr ⟨rfl, ?_⟩)⟩) (fun _ => ok_some ⟨rfl, .inl rfl⟩)))
    · have hy' : y = t.drop 5 := by rw [← hy]; exact sub_drop' t 5 (by omega)
      subst hy'
      refine ok_bindE (runquote_ok fuel (t.drop 5) (by simp; omega) (by omega) (by simp; omega)) (fun u hu => ok_bif (fun _ => ok_chk (by omega) (ok_bif (fun _ => ?_) (fun _ => ok_some (fun h => by cases h)))) (fun _ => ok_some (fun h => by cases h)))
      rw [rright_eq, bindE_some]
      refine ok_bif (fun hr => ?_) (fun _ => ok_some (fun h => by cases h))
      have hr : rightP ⟨1, 0, 0, u.1⟩ a := of_decide_eq_true hr
      rw [rline_right fuel ha hr (by omega), bindE_some]
      exact ok_some (fun h => ⟨eq_of_beq h, hr⟩)
    · rw [h4, eq_of_beq h2]; rfl
    · rw [h4, eq_of_beq h3]; rfl
  · obtain ⟨jb, hj⟩ := hj
    refine ok_chk (by omega) (ok_letE fun y hy => ?_)
    have hy' : y = t.drop 4 := by rw [← hy]; exact sub_drop' t 4 (by omega)
    subst hy'
    refine ok_bindE (rnums_ok fuel (t.drop 4) (by simp; omega) (by omega) (by simp; omega)) (fun l hl => ok_bif (fun _ => ok_some (fun h => by cases h)) (fun hl2 => ok_bif (fun _ => ok_some (fun h => by cases h)) (fun hk => ?_)))
    have hl2 : l.length = 2 := by have := bne_eq_false_iff_eq.1 hl2; omega
    have hk : j.k ≠ 0 := by simpa using hk
    obtain ⟨p, q, rfl⟩ : ∃ p q, l = [p, q] := by
      match l, hl2 with
      | [p, q], _ => exact ⟨p, q, rfl⟩
    have hl3 := hl.resolve_left (by simp)
    have i0 : ix [p, q] (0 : Int) = p := rfl
    have i1 : ix [p, q] (1 : Int) = q := rfl
    rw [i0, i1]
    refine ok_chk (by simp) (ok_chk (by simp) ?_)
    rw [rright_eq, bindE_some]
    refine ok_some (fun hr => ?_)
    have hr : rightP ⟨j.k, p, q, j.b⟩ a := of_decide_eq_true hr
    refine ⟨?_, hr⟩
    have ht : t = t.take 4 ++ (32 :: (Lib.itoa p ++ 32 :: Lib.itoa q)) := by
      conv => lhs; rw [← List.take_append_drop 4 t, ← hl3.1]
      simp [numsP]
    show lineP ⟨j.k, p, q, j.b⟩ = t
    rw [ht]
    rcases hj with h | ⟨h1, h2⟩ | ⟨h1, h2⟩
    · exact absurd h hk
    · rw [h2, h1]; rfl
    · rw [h2, h1]; rfl
theorem rentry_line (fuel : Nat) (e : En) (a : Int) (ha : 0 ≤ a) (h : rightP e a) (hf : 2300 < fuel) : F_rentry fuel (lineP e) a = some (e, true) := by
  obtain ⟨h1, h2, h3, h4, h5, h6⟩ := right_k ha h
  have hll := line_len ha h
  unfold F_rentry
  have hrb := rightB_t h
  by_cases k1 : e.k = 1
  · obtain ⟨f0, t0⟩ := h5 k1
    have he : (⟨1, 0, 0, e.b⟩ : En) = e := by obtain ⟨k, fr, to, b⟩ := e; simp only at k1 f0 t0; subst k1 f0 t0; rfl
    have hle : lineP e = [115, 101, 110, 100] ++ (32 :: quoteP e.b) := by unfold lineP; rw [if_pos k1, k1]; rfl
    have hlen : 5 ≤ (lineP e).length := by rw [hle]; simp
    refine Ok.eq (ok_bif (fun h5 => by have := of_decide_eq_true h5; omega) (fun _ => ok_cut (fun _ => False) ?_ (fun _ h => h.elim)))
    refine ok_chk (by omega) (ok_letE fun x hx => ?_)
    have hx' : x = [115, 101, 110, 100, 32] := by rw [← hx, sub_take, hle]; rfl
    subst hx'
    refine ok_bif (fun _ => ok_chk (by omega) (ok_letE fun y hy => ?_)) (fun h => by simp at h)
    have hy' : y = quoteP e.b := by rw [← hy]; exact (sub_drop' _ 5 (by omega)).trans (by rw [hle]; rfl)
    subst hy'
    rw [runquote_quote fuel e.b (by omega) (by omega) (by omega), bindE_some]
    have hll2 : ((lineP e).length : Int) - 5 = ((quoteP e.b).length : Int) := by rw [hle]; simp; omega
    refine ok_bif (fun _ => ok_chk (by omega) (ok_bif (fun _ => ?_) (fun h => ?_))) (fun h => by simp at h)
    · simp only
      rw [he, rright_eq, hrb, bindE_some]
      refine ok_bif (fun _ => ?_) (fun h => by cases h)
      rw [rline_right fuel ha h (by omega), bindE_some]
      exact ok_some (by simp)
    · rw [hll2] at h; simp at h
  · have b0 := h6 k1
    have hkk : e.k = 2 ∨ e.k = 3 := by omega
    have hle : lineP e = (kindAt e.k).w ++ (32 :: (Lib.itoa e.fr ++ 32 :: Lib.itoa e.to)) := by unfold lineP; rw [if_neg k1]
    have hw : (kindAt e.k).w.length = 4 := by rcases hkk with h | h <;> rw [h] <;> rfl
    have hlen : 5 ≤ (lineP e).length := by rw [hle]; simp; omega
    have hn : numsP [e.fr, e.to] = 32 :: (Lib.itoa e.fr ++ 32 :: Lib.itoa e.to) := by simp [numsP]
    have hd4 : (lineP e).drop 4 = numsP [e.fr, e.to] := by rw [hle, hn, ← hw, List.drop_left]
    refine Ok.eq (ok_bif (fun h5 => by have := of_decide_eq_true h5; omega) (fun _ => ok_cut (fun j => j = ⟨e.k, 0, 0, []⟩) ?_ (fun j hj => ?_)))
    · refine ok_chk (by omega) (ok_letE fun x hx => ?_)
      have hx' : x = (kindAt e.k).w ++ [32] := by
        rw [← hx, sub_take, hle]
        rcases hkk with h | h <;> rw [h] <;> rfl
      subst hx'
      rcases hkk with h | h
      · rw [h]
        exact ok_bif (fun h => by simp [kindAt] at h) (fun _ => ok_bif (fun _ => ok_some rfl) (fun h => by simp [kindAt] at h))
      · rw [h]
        exact ok_bif (fun h => by simp [kindAt] at h) (fun _ => ok_bif (fun h => by simp [kindAt] at h) (fun _ => ok_bif (fun _ => ok_some rfl) (fun h => by simp [kindAt] at h)))
    · subst hj
      refine ok_chk (by omega) (ok_letE fun y hy => ?_)
      have hy' : y = numsP [e.fr, e.to] := by rw [← hy]; exact (sub_drop' _ 4 (by omega)).trans hd4
      subst hy'
      have hnl : (numsP [e.fr, e.to]).length ≤ 2100 := by rw [← hd4]; simp; omega
      rw [rnums_eq fuel [e.fr, e.to] (fun n hn => by
        rcases List.mem_cons.1 hn with rfl | hn
        · omega
        · have := List.mem_singleton.1 hn; subst this; omega) (by omega) (by omega) (by omega), bindE_some]
      have i0 : ix [e.fr, e.to] (0 : Int) = e.fr := rfl
      have i1 : ix [e.fr, e.to] (1 : Int) = e.to := rfl
      rw [i0, i1]
      have he : (⟨e.k, e.fr, e.to, []⟩ : En) = e := by rw [← b0]
      refine ok_bif (fun h => by simp at h) (fun _ => ok_bif (fun h => by have := eq_of_beq h; simp only at this; omega) (fun _ => ok_chk (by simp) (ok_chk (by simp) ?_)))
      simp only
      rw [he, rright_eq, hrb, bindE_some]
      exact ok_some rfl
theorem rread_S (fuel : Nat) (t : List UInt8) (hf : 2300 < fuel) (hft : t.length < fuel) (hl : t.length ≤ 1048576) : F_rread fuel t = some (readS (t.length + 1) 0 1 [] t) := by
  unfold F_rread
  obtain ⟨R, hR⟩ : ∃ R, R = readS (t.length + 1) 0 1 [] t := ⟨_, rfl⟩
  have h0 : RdS R t.length 0 1 [] t := hR ▸ RdS.start t
  rw [← hR]
  refine Ok.eq (ok_bif (fun h => by have := of_decide_eq_true h; omega) (fun _ => ?_))
  refine ok_cut (fun j => R = (⟨[], ⟨0, 0⟩⟩, j.1, 332)) ?_ (fun j hj => ok_some hj.symm)
  refine ok_loop (fun (s : Int × Int × Int × Trc) => ∃ i f : Nat, s.2.2.1 = (i : Int) ∧ s.2.1 = (f : Int) ∧ f ≤ i ∧ i ≤ t.length ∧ (10 : UInt8) ∉ (t.drop f).take (i - f) ∧ okL 0 s.2.2.2.l ∧ RdS R t.length (atL 0 s.2.2.2.l) s.1 s.2.2.2.l (t.drop f)) (fun s => t.length - s.2.2.1.toNat) (fun s hT => ?_) _ _ (by simp; omega) ⟨0, 0, rfl, rfl, Nat.le_refl _, by omega, by simp, trivial, h0⟩
  obtain ⟨n, f', i', ⟨l, e⟩⟩ := s
  obtain ⟨i, f, g1, g2, g3, g4, g5, g6, hT⟩ := hT
  simp only at g1 g2 g6 hT
  subst g1 g2
  have hm := hT.many
  have hu := hT.num
  have hs := hT.sh
  rw [List.length_drop] at hs
  have ha := atL_ge 0 l
  refine ok_bif (fun hc => ?_) (fun hc => ok_some ?_)
  · have hc : i < t.length := by have := of_decide_eq_true hc; simp only at this; omega
    refine ok_cut (fun (j : Int × Int × Trc) => ∃ f' : Nat, j.2.1 = (f' : Int) ∧ f' ≤ i + 1 ∧ (10 : UInt8) ∉ (t.drop f').take (i + 1 - f') ∧ okL 0 j.2.2.l ∧ RdS R t.length (atL 0 j.2.2.l) j.1 j.2.2.l (t.drop f')) ?_ (fun j hj => ?_)
    · refine ok_chk (by simp only; omega) (ok_letE fun x hx => ?_)
      rw [show ix t ((n, ((f : Nat) : Int), ((i : Nat) : Int), (⟨l, e⟩ : Trc)).2.2.1) = t[i] from ix_nat t i hc] at hx
      refine ok_bif (fun h10 => ok_some ⟨f, rfl, by omega, ?_, g6, hT⟩) (fun h10 => ?_)
      · have h10 : (((x.toNat : Nat) : Int) != 10) = true := h10
        have hx10 : x ≠ 10 := fun e => by subst e; simp at h10
        rw [show i + 1 - f = (i - f) + 1 by omega, List.take_add_one, List.getElem?_drop, show f + (i - f) = i by omega, List.getElem?_eq_getElem hc, hx]
        simp only [Option.toList, List.mem_append, List.mem_singleton]
        rintro (h | h)
        · exact g5 h
        · exact hx10 h.symm
      · have h10 : (((x.toNat : Nat) : Int) != 10) = false := h10
        have hx10 : x = 10 := UInt8.toNat_inj.1 (by have := bne_eq_false_iff_eq.1 h10; show x.toNat = 10; omega)
        subst hx10
        refine ok_chk (by simp only; omega) (ok_letE fun p hp => ok_chk (by simp only; omega) ?_)
        have hp' : p = (t.drop f).take (i - f) := by rw [← hp]; simp [sub]
        have hcat : t.drop f = p ++ 10 :: t.drop (i + 1) := by
          rw [hp']
          conv => lhs; rw [← List.take_append_drop (i - f) (t.drop f)]
          rw [List.drop_drop, show f + (i - f) = i by omega, List.drop_eq_getElem_cons hc, hx]
        rw [← hp'] at g5
        rw [hcat] at hT
        have hpl : p.length ≤ t.length := by rw [hp']; simp; omega
        obtain ⟨d, hd, hd'⟩ := rend_ok fuel p (by omega) (by omega) (by omega)
        rw [hd, bindE_some]
        refine ok_bif (fun hd2 => ?_) (fun hd2 => ?_)
        · obtain ⟨d1, d2⟩ := hd' hd2
          have hr := hT.end_ g5 d2 d1
          refine ok_bif (fun hq => ok_chk (by simp only; omega) (ok_some ?_)) (fun hq => ok_some ?_)
          · have hq : i + 1 < t.length := by have := of_decide_eq_true hq; simp only at this; omega
            rw [if_neg (by intro e; have := congrArg List.length e; simp at this; omega)] at hr
            exact hr.symm
          · have hq : t.length ≤ i + 1 := by have := of_decide_eq_false hq; simp only at this; omega
            rw [if_pos (List.drop_of_length_le hq)] at hr
            exact hr.symm
        · have hne : ¬ ∃ e, endedB e = true ∧ endP e = p := by
            rintro ⟨e0, q1, q2⟩
            have := rend_end fuel e0 (by omega) q1
            rw [q2, hd] at this
            cases this; cases hd2
          rw [rat_eq fuel l g6 (by omega) (by omega), bindE_some]
          obtain ⟨en, he, he'⟩ := rentry_ok fuel p (atL 0 l) ha (by omega) (by omega) (by omega)
          rw [he, bindE_some]
          refine ok_bif (fun hb => ok_some ?_) (fun hb => ?_)
          · refine (hT.none_ g5 hne ?_).symm
            rintro ⟨e0, q1, q2⟩
            have := rentry_line fuel e0 (atL 0 l) ha q1 (by omega)
            rw [q2, he] at this
            rw [Option.some.inj this] at hb
            cases hb
          obtain ⟨e1, e2⟩ := he' (by simpa using hb)
          refine ok_bif (fun h6 => ok_some ?_) (fun h6 => ?_)
          · have h6 : l.length = 65536 := by have := of_decide_eq_true h6; simp only at this; omega
            exact (hT.full g5 hne e2 e1 h6).symm
          · have h6 : ¬ l.length = 65536 := by have := of_decide_eq_false h6; simp only at this; omega
            refine ok_chk (by simp only [List.length_cons, List.length_nil]; omega) (ok_chk (by simp only; omega) (ok_some ⟨i + 1, rfl, by omega, by simp, ?_, ?_⟩))
            · exact (okL_app 0 l [en.1]).2 ⟨g6, e2, trivial⟩
            · have := hT.next g5 hne e2 e1 h6
              rw [show max (atL 0 l) en.1.to = atL 0 (l ++ [en.1]) by rw [atL_app]; rfl] at this
              exact this
    · obtain ⟨f2, k1, k2, k3, k4, k5⟩ := hj
      refine ok_chk (by simp only; omega) (ok_some ⟨⟨i + 1, f2, by simp, k1, k2, by omega, k3, k4, k5⟩, by simp only; omega⟩)
  · have hc : i = t.length := by have := of_decide_eq_false hc; simp only at this; omega
    subst hc
    rw [List.take_of_length_le (by simp)] at g5
    exact hT.no g5
theorem lequal_eq (fuel : Nat) (a b : Trc) (h : a.l.length < fuel) (hm : a.l.length ≤ 1000000000) (hf : fuel < 2 ^ 60) : F_lequal fuel a b = some (decide (a = b)) := by
  unfold F_lequal
  rw [theirs_eq fuel a h hm, bindE_some, rsame_eq fuel a b h hf, bindE_some]
theorem readS_len : ∀ (k : Nat) (a n : Int) (l : List En) (s : List UInt8), l.length ≤ 65536 → (readS k a n l s).1.l.length ≤ 65536
  | 0, a, n, l, s, _ => by simp [readS]
  | k + 1, a, n, l, s, h => by
    rw [readS]
    split
    · split
      · split <;> simp [h]
      · split
        · split
          · simp
          · exact readS_len k _ _ _ _ (by simp; omega)
        · simp
    · simp
theorem tracereads_eq (s : List UInt8) (hs : s.length < 2 ^ 63) : F_tracereads 1100000 s = some true := by
  unfold F_tracereads
  refine Ok.eq (ok_cut (fun _ => s.length ≤ 2000 ∨ (1048576 < s.length ∧ s.length < 1050000)) ?_ (fun _ h => ?_))
  · refine ok_bif (fun h1 => ok_bif (fun _ => ok_some rfl) (fun h2 => ok_bif (fun _ => ok_some rfl) (fun h3 => ok_some (.inr ?_)))) (fun h1 => ok_bif (fun _ => ok_some rfl) (fun _ => ok_some (.inl ?_)))
    · have := of_decide_eq_false h2
      have := of_decide_eq_false h3
      omega
    · have := of_decide_eq_false h1; omega
  · obtain ⟨R, hRl, h1, h2⟩ : ∃ R : Trc × Int × Int, R.1.l.length ≤ 65536 ∧ F_read 1100000 s = some R ∧ F_rread 1100000 s = some R := by
      rcases h with h | h
      · exact ⟨_, readS_len _ _ _ _ _ (by simp), read_S 1100000 s (by omega) (by omega) (by omega), rread_S 1100000 s (by omega) (by omega) (by omega)⟩
      · refine ⟨(⟨[], ⟨0, 0⟩⟩, 0, 3), by simp, ?_, ?_⟩
        · unfold F_read; exact bif_t (decide_eq_true (by omega)) rfl
        · unfold F_rread; exact bif_t (decide_eq_true (by omega)) rfl
    rw [h1, bindE_some, h2, bindE_some, lequal_eq _ _ _ (by omega) (by omega) (by decide), bindE_some]
    refine ok_bif (fun _ => ok_bif (fun _ => ok_bif (fun _ => ok_some rfl) (fun h => by simp at h)) (fun h => by simp at h)) (fun h => by simp at h)
end Go.Ab

