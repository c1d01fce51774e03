/-
  trace: ends, entries, Read: plain.
-/
import Derived.Test.YtcdmdnadilafhaaDoorZtPz
set_option linter.unusedSimpArgs false
set_option linter.unusedVariables false
namespace Go.Ab
open Go Go.RowKit Go.Fwd Go.Proofs
theorem ends_ok (fuel : Nat) (t : List UInt8) (hf : 6 < fuel) (hl : t.length ≤ 1000000000) : Ok (fun r => r.2 = true → endP r.1 = t ∧ endedB r.1 = true ∧ 1 ≤ r.1.k ∧ r.1.k ≤ 5) (F_ends fuel t) := by
  unfold F_ends
  refine ok_chk (by omega) (ok_letE fun x hx => ?_)
  have hcl := cut_len 32 t
  rw [hx] at hcl
  refine ok_cut (fun _ => True) ?_ (fun _ _ => ok_some (fun h => by cases h))
  refine ok_loop (fun (s : Int) => 1 ≤ s ∧ s ≤ 6) (fun s => (6 - s).toNat) (fun s hT => ?_) _ _ (by simp; omega) (by decide)
  refine ok_bif (fun hc => ?_) (fun _ => ok_some trivial)
  have hc := of_decide_eq_true hc
  refine ok_chk (by omega) (ok_letE fun n hn => ok_bif (fun h => ?_) (fun _ => ok_some ?_))
  · have ha := atoi_bnd x.2.1
    refine ok_chk (by omega) (ok_letE fun v hv => ?_)
    rw [hv] at ha
    rw [ended_eq ⟨s, v⟩ (by simp only; omega), bindE_some]
    refine ok_bif (fun he => ?_) (fun _ => ok_some (fun h => by cases h))
    rw [endw_eq ⟨s, v⟩ (by simp only; omega) ha, bindE_some]
    exact ok_some (fun h => ⟨eq_of_beq h, he, by simp only; omega, by simp only; omega⟩)
  · rw [wrap_u8 (by omega) (by omega)]
    exact ⟨by omega, by omega⟩
theorem ends_eq (fuel : Nat) (t w : List UInt8) (e : Ed) (hf : 6 < fuel) (hl : t.length ≤ 1000000000) (hk : 1 ≤ e.k ∧ e.k ≤ 5) (hw : (Lib.cut t [32]).1 = nameE e.k) (hv : atoiP (Lib.cut t [32]).2.1 = e.c) (he : endedB e = true) (ht : endP e = t) : F_ends fuel t = some (e, true) := by
  unfold F_ends
  refine Ok.eq (ok_chk (by omega) (ok_letE fun x hx => ?_))
  have hcl := cut_len 32 t
  rw [hx] at hcl hw hv
  have hb := atoi_bnd x.2.1
  refine ok_cut (fun _ => False) ?_ (fun _ h => h.elim)
  refine ok_loop (fun (s : Int) => 1 ≤ s ∧ s ≤ e.k) (fun s => (6 - s).toNat) (fun s hT => ?_) _ _ (by simp; omega) ⟨by decide, hk.1⟩
  refine ok_bif (fun hc => ?_) (fun h => ?_)
  · refine ok_chk (by omega) (ok_letE fun n hn => ok_bif (fun h => ?_) (fun h => ok_some ?_))
    · have h1 : s = e.k := nameE_inj (by omega) hk (by rw [hn, eq_of_beq h, hw])
      refine ok_chk (by omega) (ok_letE fun v hv' => ?_)
      have h2 : (Ed.mk s v) = e := by rw [h1, ← hv', hv]
      rw [h2, ended_eq e (by omega), bindE_some, he]
      refine ok_bif (fun _ => ?_) (fun h => by cases h)
      rw [endw_eq e (by omega) (by rw [← hv]; exact hb), bindE_some, ht]
      exact ok_some (by simp)
    · have h1 : ¬ s = e.k := fun e' => by rw [← hn, hw, e'] at h; simp at h
      rw [wrap_u8 (by omega) (by omega)]
      exact ⟨by omega, by omega⟩
  · have := of_decide_eq_false h; omega
theorem endedB_k {e : Ed} (h : endedB e = true) : 1 ≤ e.k ∧ e.k ≤ 5 ∧ ((e.k = 2 ∧ 0 ≤ e.c ∧ e.c ≤ 255) ∨ (e.k ≠ 2 ∧ e.c = 0)) := by
  unfold endedB at h
  split at h
  · rename_i hk; have := of_decide_eq_true h; exact ⟨by omega, by omega, .inl ⟨hk, this.1, this.2⟩⟩
  · rename_i hk; have := of_decide_eq_true h; exact ⟨this.1, this.2.1, .inr ⟨hk, this.2.2⟩⟩
theorem endP_len {e : Ed} (h : endedB e = true) : (endP e).length ≤ 26 := by
  obtain ⟨h1, h2, h3⟩ := endedB_k h
  unfold endP
  split
  · have := Lib.itoa_length_le e.c (by omega) (by omega)
    simp; omega
  · have : e.k = 1 ∨ e.k = 2 ∨ e.k = 3 ∨ e.k = 4 ∨ e.k = 5 := by omega
    rcases this with h | h | h | h | h <;> rw [h] <;> decide
theorem ends_end (fuel : Nat) (e : Ed) (hf : 6 < fuel) (h : endedB e = true) : F_ends fuel (endP e) = some (e, true) := by
  have hl := endP_len h
  obtain ⟨h1, h2, h3⟩ := endedB_k h
  by_cases hk : e.k = 2
  · obtain ⟨_, c1, c2⟩ : e.k = 2 ∧ 0 ≤ e.c ∧ e.c ≤ 255 := by omega
    have he : endP e = [101, 120, 105, 116] ++ 32 :: Lib.itoa e.c := by unfold endP; rw [if_pos hk]; rfl
    have hc := cut_at (c := 32) (a := [101, 120, 105, 116]) (r := Lib.itoa e.c) (by decide)
    rw [← he] at hc
    exact ends_eq fuel _ [] e hf (by omega) ⟨h1, h2⟩ (by rw [hc, hk]; rfl) (by rw [hc]; exact atoi_itoa (by omega)) h rfl
  · have he : endP e = nameE e.k := by unfold endP; rw [if_neg hk]
    have hc := cut_no (c := 32) (l := nameE e.k) (nameE_no e.k ⟨h1, h2⟩).2
    have c0 : e.c = 0 := by omega
    exact ends_eq fuel _ [] e hf (by omega) ⟨h1, h2⟩ (by rw [he, hc]) (by rw [he, hc, c0]; rfl) h rfl
theorem line_cut (e : En) : Lib.cut (lineP e) [32] = ((kindAt e.k).w, (if e.k = 1 then quoteP e.b else Lib.itoa e.fr ++ 32 :: Lib.itoa e.to), true) := cut_at (kind_no e.k).2
theorem ends_line (fuel : Nat) (e : En) (hf : 6 < fuel) (hl : (lineP e).length ≤ 1000000000) : ∃ d, F_ends fuel (lineP e) = some (d, false) := by
  have hcl := cut_len 32 (lineP e)
  have key : Ok (fun r => r.2 = false) (F_ends fuel (lineP e)) := by
    unfold F_ends
    refine ok_chk (by omega) (ok_letE fun x hx => ?_)
    rw [line_cut] at hx
    refine ok_cut (fun _ => True) ?_ (fun _ _ => ok_some rfl)
    refine ok_loop (fun (s : Int) => 1 ≤ s ∧ s ≤ 6) (fun s => (6 - s).toNat) (fun s hT => ?_) _ _ (by simp; omega) (by decide)
    refine ok_bif (fun hc => ?_) (fun _ => ok_some trivial)
    have hc := of_decide_eq_true hc
    refine ok_chk (by omega) (ok_letE fun n hn => ok_bif (fun h => ?_) (fun _ => ok_some ?_))
    · exfalso
      refine name_kind (i := s) e.k (by omega) ?_
      rw [hn, eq_of_beq h, ← hx]
    · rw [wrap_u8 (by omega) (by omega)]
      exact ⟨by omega, by omega⟩
  obtain ⟨⟨d, b⟩, h1, h2⟩ := key
  exact ⟨d, by rw [h1]; cases h2; rfl⟩
theorem entry_ok (fuel : Nat) (t : List UInt8) (hf : 6 < fuel) (hft : t.length < fuel) (hl : t.length ≤ 1000000000) : Ok (fun r => r.2 = true → lineP r.1 = t ∧ 1 ≤ r.1.k ∧ r.1.k ≤ 3) (F_entry fuel t) := by
  unfold F_entry
  refine ok_chk (by omega) (ok_letE fun x hx => ?_)
  have hcl := cut_len 32 t
  rw [hx] at hcl
  refine ok_cut (fun j => 0 ≤ j.k ∧ j.k ≤ 3 ∧ j.fr = 0 ∧ j.to = 0 ∧ j.b = []) ?_ (fun j hj => ?_)
  · refine ok_loop (fun (s : Int × En) => (1 ≤ s.1 ∧ s.1 ≤ 4) ∧ 0 ≤ s.2.k ∧ s.2.k ≤ 3 ∧ s.2.fr = 0 ∧ s.2.to = 0 ∧ s.2.b = []) (fun s => (4 - s.1).toNat) (fun s hT => ?_) _ _ (by simp; omega) (by decide)
    obtain ⟨s, j⟩ := s
    obtain ⟨h1, h2⟩ := hT
    simp only at h1 h2
    refine ok_bif (fun hc => ?_) (fun _ => ok_some h2)
    have hc := of_decide_eq_true hc
    simp only at hc
    refine ok_cut (fun j => 0 ≤ j.k ∧ j.k ≤ 3 ∧ j.fr = 0 ∧ j.to = 0 ∧ j.b = []) ?_ (fun j' hj => ok_some ?_)
    · refine ok_chk ⟨h1.1, hc⟩ (ok_bif (fun _ => ok_some ⟨by simp only; omega, by simp only; omega, h2.2.2⟩) (fun _ => ok_some h2))
    · have hw : IntKind.u8.wrap (s + 1) = s + 1 := wrap_u8 (by omega) (by omega)
      simp only [hw]
      exact ⟨⟨⟨by omega, by omega⟩, hj⟩, by omega⟩
  · obtain ⟨k0, k3, f0, t0, b0⟩ := hj
    refine ok_bif (fun _ => ok_some (fun h => by cases h)) (fun hk => ?_)
    have hk0 : ¬ j.k = 0 := by simpa using hk
    refine ok_bif (fun h1 => ?_) (fun h1 => ?_)
    · have h1 : j.k = 1 := eq_of_beq h1
      refine ok_bindE (unquote_ok fuel x.2.1 (by omega) (by omega)) (fun u hu => ok_bif (fun _ => ?_) (fun _ => ok_some (fun h => by cases h)))
      rw [line_eq fuel ⟨j.k, j.fr, j.to, u.1⟩ (by simp only; omega) (by simp only; omega) (by simp only; omega) (by simp only; omega) (by simp only; omega), bindE_some]
      exact ok_some (fun h => ⟨eq_of_beq h, by simp only; omega, k3⟩)
    · have hcl2 := cut_len 32 x.2.1
      refine ok_chk (by omega) (ok_letE fun y hy => ?_)
      rw [hy] at hcl2
      have a1 := atoi_bnd y.1
      have a2 := atoi_bnd y.2.1
      refine ok_chk (by omega) (ok_letE fun v hv => ok_chk (by omega) (ok_letE fun w hw => ?_))
      rw [hv] at a1
      rw [hw] at a2
      rw [line_eq fuel _ (by simp only; omega) (by simp only [b0, List.length_nil]; omega) (by simp only [b0, List.length_nil]; omega) a1 a2, bindE_some]
      exact ok_some (fun h => ⟨eq_of_beq h, by simp only; omega, k3⟩)
theorem right_k {e : En} {a : Int} (ha : 0 ≤ a) (h : rightP e a) : (1 ≤ e.k ∧ e.k ≤ 3) ∧ (0 ≤ e.fr ∧ e.fr ≤ 1073741824) ∧ (0 ≤ e.to ∧ e.to ≤ 1073741824) ∧ e.b.length ≤ 512 ∧ (e.k = 1 → e.fr = 0 ∧ e.to = 0) ∧ (e.k ≠ 1 → e.b = []) := by
  rcases h with ⟨h1, h2, h3, h4⟩ | ⟨h1, h2, h3, h4, h5, h6⟩
  · exact ⟨by omega, by omega, by omega, h4, fun _ => ⟨h2, h3⟩, fun h => absurd h1 h⟩
  · exact ⟨by omega, by omega, by omega, by rw [h3]; simp, fun h => by omega, fun _ => h3⟩
theorem line_len {e : En} {a : Int} (ha : 0 ≤ a) (h : rightP e a) : (lineP e).length ≤ 2100 := by
  obtain ⟨h1, h2, h3, h4, h5, h6⟩ := right_k ha h
  have l1 := Lib.itoa_length_le e.fr (by omega) (by omega)
  have l2 := Lib.itoa_length_le e.to (by omega) (by omega)
  have hw := kind_w e.k
  have hfl := flat_len e.b
  have hq : (quoteP e.b).length = (e.b.flatMap byteP).length + 2 := by simp [quoteP]
  unfold lineP
  split
  · simp only [List.length_append, List.length_cons]; omega
  · simp only [List.length_append, List.length_cons]; omega
theorem line_no10 {e : En} {a : Int} (ha : 0 ≤ a) (h : rightP e a) : (10 : UInt8) ∉ lineP e := by
  obtain ⟨h1, h2, h3, h4, h5, h6⟩ := right_k ha h
  intro hm
  unfold lineP at hm
  rcases List.mem_append.1 hm with hm | hm
  · exact (kind_no e.k).1 hm
  · rcases List.mem_cons.1 hm with hm | hm
    · simp at hm
    · split at hm
      · exact quote_no10 _ hm
      · rcases List.mem_append.1 hm with hm | hm
        · exact itoa_no h2.1 10 (by decide) hm
        · rcases List.mem_cons.1 hm with hm | hm
          · simp at hm
          · exact itoa_no h3.1 10 (by decide) hm
theorem end_no10 {e : Ed} (h : endedB e = true) : (10 : UInt8) ∉ endP e := by
  obtain ⟨h1, h2, h3⟩ := endedB_k h
  intro hm
  unfold endP at hm
  split at hm
  · rcases List.mem_append.1 hm with hm | hm
    · simp at hm
    · exact itoa_no (by omega) 10 (by decide) hm
  · exact (nameE_no e.k ⟨h1, h2⟩).1 hm
theorem entry_line (fuel : Nat) (e : En) (a : Int) (ha : 0 ≤ a) (h : rightP e a) (hf : 2200 < fuel) : F_entry fuel (lineP e) = some (e, true) := by
  obtain ⟨h1, h2, h3, h4, h5, h6⟩ := right_k ha h
  have hl := line_len ha h
  have l1 := Lib.itoa_length_le e.fr (by omega) (by omega)
  have l2 := Lib.itoa_length_le e.to (by omega) (by omega)
  have hline := line_eq fuel e h1 (by omega) (by omega) (by omega) (by omega)
  unfold F_entry
  refine Ok.eq (ok_chk (by omega) (ok_letE fun x hx => ?_))
  rw [line_cut] at hx
  subst hx
  refine ok_cut (fun j => j = ⟨e.k, 0, 0, []⟩) ?_ (fun j hj => ?_)
  · refine ok_loop (fun (s : Int × En) => (1 ≤ s.1 ∧ s.1 ≤ 4) ∧ s.2 = ⟨if e.k < s.1 then e.k else 0, 0, 0, []⟩) (fun s => (4 - s.1).toNat) (fun s hT => ?_) _ _ (by simp; omega) ⟨by decide, by rw [if_neg (by simp only; omega)]⟩
    obtain ⟨s, j⟩ := s
    obtain ⟨g1, g2⟩ := hT
    simp only at g1
    have g2' : j = (⟨if e.k < s then e.k else 0, 0, 0, []⟩ : En) := g2
    clear g2
    subst g2'
    refine ok_bif (fun hc => ?_) (fun hc => ok_some ?_)
    · have hc := of_decide_eq_true hc
      simp only at hc
      have hw : IntKind.u8.wrap (s + 1) = s + 1 := wrap_u8 (by omega) (by omega)
      refine ok_cut (fun j => j = ⟨if e.k < s + 1 then e.k else 0, 0, 0, []⟩) ?_ (fun j' hj => ok_some ?_)
      · refine ok_chk ⟨g1.1, hc⟩ (ok_bif (fun hb => ok_some ?_) (fun hb => ok_some ?_))
        · have : s = e.k := kind_inj ⟨g1.1, hc⟩ h1 (eq_of_beq hb)
          subst this
          simp only
          rw [if_pos (by omega)]
        · have : ¬ s = e.k := fun e' => by simp [e'] at hb
          by_cases hlt : e.k < s
          · show (_ : En) = _
            rw [if_pos hlt, if_pos (by omega)]
          · show (_ : En) = _
            rw [if_neg hlt, if_neg (by omega)]
      · simp only [hw]
        exact ⟨⟨⟨by omega, by omega⟩, hj⟩, by omega⟩
    · have hc := of_decide_eq_false hc
      simp only at hc
      show (_ : En) = _
      rw [if_pos (by omega)]
  · subst hj
    simp only
    refine ok_bif (fun hk => ?_) (fun _ => ?_)
    · have := eq_of_beq hk; omega
    · by_cases k1 : e.k = 1
      · obtain ⟨f0, t0⟩ := h5 k1
        refine ok_bif (fun _ => ?_) (fun hk => by simp [k1] at hk)
        rw [if_pos k1, unquote_quote fuel e.b (by omega) (by omega), bindE_some]
        have he : (⟨e.k, 0, 0, e.b⟩ : En) = e := by
          cases e
          simp only at f0 t0
          rw [f0, t0]
        refine ok_bif (fun _ => ?_) (fun hk => by simp at hk)
        simp only
        rw [he, hline, bindE_some]
        exact ok_some (by simp)
      · have b0 := h6 k1
        refine ok_bif (fun hk => absurd (eq_of_beq hk) k1) (fun _ => ?_)
        rw [if_neg k1]
        have hno := itoa_no h2.1 32 (by decide)
        have hc := cut_at (c := 32) (a := Lib.itoa e.fr) (r := Lib.itoa e.to) hno
        refine ok_chk (by simp only [List.length_append, List.length_cons]; omega) (ok_letE fun y hy => ?_)
        rw [hc] at hy
        subst hy
        refine ok_chk (by simp only; omega) (ok_letE fun v hv => ok_chk (by simp only; omega) (ok_letE fun w hw => ?_))
        simp only at hv hw
        rw [atoi_itoa (by omega)] at hv hw
        subst hv hw
        have he : (⟨e.k, e.fr, e.to, []⟩ : En) = e := by rw [← b0]
        rw [he, hline, bindE_some]
        exact ok_some (by simp)
end Go.Ab

