/-
  trace: Write and Read: plain.
-/
import Derived.Test.YtcdmdnadilafhaaDoorZtRd
set_option linter.unusedSimpArgs false
set_option linter.unusedVariables false
namespace Go.Ab
open Go Go.RowKit Go.Fwd Go.Proofs
/-- What is right. -/
def okT (t : Trc) : Prop := t.l.length ≤ 65536 ∧ okL 0 t.l ∧ endedB t.e = true
theorem check_okT {t : Trc} (h : okT t) : checkP t = (-1, 0) := by
  have h2 := checkP_ok.2 h
  unfold checkP at h2 ⊢
  repeat' split at h2
  all_goals first | (simp at h2; done) | skip
  rename_i a b c
  rw [if_neg a, if_neg b, if_pos c]
theorem lines_len : ∀ (a : Int) (l : List En), 0 ≤ a → okL a l → (linesP l).length ≤ 2101 * l.length
  | _, [], _, _ => by simp [linesP]
  | a, e :: l, ha, ⟨h1, h2⟩ => by
    have := lines_len (max a e.to) l (by omega) h2
    have h3 := line_len ha h1
    unfold linesP at this ⊢
    simp only [List.flatMap_cons, List.length_append, List.length_cons, List.length_nil]
    omega
theorem lines_app (l m : List En) : linesP (l ++ m) = linesP l ++ linesP m := List.flatMap_append
theorem lines_cons (e : En) (l : List En) : linesP (e :: l) = lineP e ++ 10 :: linesP l := by simp [linesP]
theorem take_succ1 {α : Type} [Enc α] (l : List α) {i : Nat} (h : i < l.length) : l.take (i + 1) = l.take i ++ [ix l (i : Int)] := by
  rw [List.take_succ_eq_append_getElem h]; simp [ix, h]
theorem drop_succ1 {α : Type} [Enc α] (l : List α) {i : Nat} (h : i < l.length) : l.drop i = ix l (i : Int) :: l.drop (i + 1) := by
  rw [List.drop_eq_getElem_cons h]; simp [ix, h]
theorem ixD (l : List En) (i : Nat) : ix l (i : Int) = l.getD i Enc.inh := by simp [ix]
theorem write_eq (fuel : Nat) (t : Trc) (hf : t.l.length < fuel) (hf2 : 2200 < fuel) (h : okT t) : F_write fuel t = some (writeP t, 0) := by
  obtain ⟨h1, h2, h3⟩ := h
  obtain ⟨e1, e2, e3⟩ := endedB_k h3
  have hel := endP_len h3
  unfold F_write
  rw [check_eq fuel t hf (by omega), bindE_some, check_okT ⟨h1, h2, h3⟩]
  refine Ok.eq (ok_bif (fun h => by simp at h) (fun _ => ?_))
  refine ok_cut (fun j => j.2 = linesP t.l) ?_ (fun j hj => ?_)
  · refine ok_loop (fun (s : Int × Bool × List UInt8) => ∃ i : Nat, s.1 = (i : Int) ∧ i ≤ t.l.length ∧ s.2.2 = linesP (t.l.take i)) (fun s => t.l.length - s.1.toNat) (fun s hT => ?_) _ _ (by simp; omega) ⟨0, rfl, by omega, by simp [linesP]⟩
    obtain ⟨s1, s2, s3⟩ := s
    obtain ⟨i, g1, g2, g3⟩ := hT
    simp only at g1 g3
    subst g1 g3
    refine ok_bif (fun hc => ?_) (fun hc => ok_some ?_)
    · have hc : i < t.l.length := by have := of_decide_eq_true hc; simp only at this; omega
      have hr := okL_at h2 hc
      rw [← ixD] at hr
      have ha := atL_ge 0 (t.l.take i)
      obtain ⟨k1, k2, k3, k4, k5, k6⟩ := right_k ha hr
      have hll := line_len ha hr
      have htl := lines_len 0 (t.l.take i) (by omega) (okL_take h2 i)
      have htk : (t.l.take i).length ≤ 65536 := by simp; omega
      refine ok_chk (by simp only; omega) (ok_letE fun e he => ?_)
      simp only at he
      rw [he] at hr hll k1 k2 k3 k4
      rw [line_eq fuel e k1 (by omega) (by omega) (by omega) (by omega), bindE_some]
      refine ok_chk (by simp only [List.length_cons, List.length_nil]; omega) (ok_chk (by simp only [List.length_append, List.length_cons, List.length_nil]; omega) (ok_chk (by simp only; omega) (ok_some ⟨⟨i + 1, by simp, by omega, ?_⟩, ?_⟩)))
      · simp only
        rw [take_succ1 _ hc, lines_app, he]
        simp [linesP]
      · simp only; omega
    · have hc : i = t.l.length := by have := of_decide_eq_false hc; simp only at this; omega
      show linesP (t.l.take i) = _
      rw [hc, List.take_length]
  · have htl := lines_len 0 t.l (by omega) h2
    rw [endw_eq t.e (by omega) (by omega), bindE_some]
    refine ok_chk (by simp only [List.length_cons, List.length_nil]; omega) (ok_chk (by rw [hj]; simp only [List.length_append, List.length_cons, List.length_nil]; omega) (ok_some ?_))
    rw [hj]; rfl
/-- Whatever is read. -/
theorem read_ok (fuel : Nat) (t : List UInt8) (hf : 6 < fuel) (hft : t.length < fuel) (hl : t.length ≤ 1048576) :
    Ok (fun r => (r.2 = (0, 0) ∧ okT r.1 ∧ writeP r.1 = t) ∨ (r.1 = ⟨[], ⟨0, 0⟩⟩ ∧ 1 ≤ r.2.1 ∧ r.2.2 = 332)) (F_read fuel t) := by
  unfold F_read
  refine ok_bif (fun h => by have := of_decide_eq_true h; omega) (fun _ => ?_)
  refine ok_cut (fun j => 1 ≤ j.1) ?_ (fun j hj => ok_some (.inr ⟨rfl, hj, rfl⟩))
  refine ok_loop (fun (s : List UInt8 × Int × Int × Trc) => linesP s.2.2.2.l ++ s.1 = t ∧ okL 0 s.2.2.2.l ∧ s.2.1 = atL 0 s.2.2.2.l ∧ s.2.2.1 = (s.2.2.2.l.length : Int) + 1 ∧ s.2.2.2.l.length ≤ 65536) (fun s => s.1.length) (fun s hT => ?_) _ _ hft ⟨rfl, trivial, rfl, rfl, by simp⟩
  obtain ⟨rest, at', n, ⟨l, e⟩⟩ := s
  obtain ⟨h1, h2, h3, h4, h5⟩ := hT
  simp only at h1 h2 h3 h4 h5
  have hrl : rest.length ≤ t.length := by rw [← h1]; simp
  refine ok_chk (by simp only; omega) (ok_letE fun x hx => ?_)
  simp only at hx
  have hs := cut_says 10 rest
  rw [hx] at hs
  refine ok_bif (fun _ => ok_some (show (1 : Int) ≤ n by omega)) (fun hb => ?_)
  have hx2 : x.2.2 = true := by simpa using hb
  have hr : rest = x.1 ++ 10 :: x.2.1 := by
    rcases hs with ⟨_, h⟩ | h
    · exact h
    · rw [h] at hx2; cases hx2
  have hxl := congrArg List.length hr
  simp only [List.length_append, List.length_cons] at hxl
  refine ok_bindE (ends_ok fuel x.1 hf (by omega)) (fun d hd => ok_bif (fun hd2 => ?_) (fun _ => ?_))
  · obtain ⟨d1, d2, d3, d4⟩ := hd hd2
    refine ok_bif (fun _ => ok_chk (by simp only; omega) (ok_some (show (1 : Int) ≤ n + 1 by omega))) (fun hn => ok_some (.inl ⟨rfl, ⟨h5, h2, d2⟩, ?_⟩))
    have hn : x.2.1 = [] := by simpa using hn
    rw [← h1, hr, hn]
    unfold writeP
    show linesP l ++ (endP d.1 ++ [10]) = _
    rw [d1]
  · refine ok_bindE (entry_ok fuel x.1 hf (by omega) (by omega)) (fun en he => ok_bif (fun _ => ok_some (show (1 : Int) ≤ n by omega)) (fun he2 => ?_))
    obtain ⟨e1, e2, e3⟩ := he (by simpa using he2)
    rw [right_eq, bindE_some]
    refine ok_bif (fun _ => ok_some (show (1 : Int) ≤ n by omega)) (fun hrt => ok_bif (fun _ => ok_some (show (1 : Int) ≤ n by omega)) (fun h6 => ?_))
    have hrt : rightP en.1 at' := by
      have : rightB en.1 at' = true := by simpa using hrt
      exact of_decide_eq_true this
    have h6 : ¬ l.length = 65536 := by have := ne_of_beq_false h6; simp only at this; omega
    refine ok_chk (by simp only [List.length_cons, List.length_nil]; omega) (ok_chk (by simp only; omega) (ok_some ⟨⟨?_, ?_, ?_, ?_, ?_⟩, ?_⟩))
    · simp only
      rw [lines_app, lines_cons, ← h1, hr, e1]
      simp [linesP]
    · simp only
      exact (okL_app 0 l [en.1]).2 ⟨h2, by rw [← h3]; exact ⟨hrt, trivial⟩⟩
    · simp only
      rw [atL_app, ← h3]; rfl
    · simp only [List.length_append, List.length_cons, List.length_nil]; omega
    · simp only [List.length_append, List.length_cons, List.length_nil]; omega
    · simp only; omega
/-- What was written is read back. -/
theorem read_write (fuel : Nat) (t : Trc) (h : okT t) (hl : (writeP t).length ≤ 1048576) (hf : (writeP t).length < fuel) (hf2 : 2200 < fuel) : F_read fuel (writeP t) = some (t, 0, 0) := by
  obtain ⟨h1, h2, h3⟩ := h
  obtain ⟨e1, e2, e3⟩ := endedB_k h3
  have hel := endP_len h3
  unfold F_read
  refine Ok.eq (ok_bif (fun h => by have := of_decide_eq_true h; omega) (fun _ => ?_))
  refine ok_cut (fun j => False) ?_ (fun j hj => hj.elim)
  refine ok_loop (fun (s : List UInt8 × Int × Int × Trc) => ∃ i : Nat, i ≤ t.l.length ∧ s.1 = linesP (t.l.drop i) ++ (endP t.e ++ [10]) ∧ s.2.1 = atL 0 (t.l.take i) ∧ s.2.2.1 = (i : Int) + 1 ∧ s.2.2.2.l = t.l.take i) (fun s => s.1.length) (fun s hT => ?_) _ _ hf ⟨0, by omega, rfl, rfl, rfl, rfl⟩
  obtain ⟨rest, at', n, ⟨l, e⟩⟩ := s
  obtain ⟨i, g0, g1, g2, g3, g4⟩ := hT
  simp only at g1 g2 g3 g4
  subst g1 g2 g3 g4
  have hsuf : (linesP (t.l.drop i) ++ (endP t.e ++ [10])).length ≤ (writeP t).length := by
    have : linesP t.l = linesP (t.l.take i) ++ linesP (t.l.drop i) := by rw [← lines_app, List.take_append_drop]
    unfold writeP
    rw [this]
    simp only [List.length_append]; omega
  refine ok_chk (by simp only; omega) (ok_letE fun x hx => ?_)
  simp only at hx
  by_cases hi : i = t.l.length
  · subst hi
    rw [List.drop_length, show linesP [] ++ (endP t.e ++ [10]) = endP t.e ++ 10 :: [] from rfl, cut_at (end_no10 h3)] at hx
    subst hx
    refine ok_bif (fun h => by simp at h) (fun _ => ?_)
    rw [ends_end fuel t.e (by omega) h3, bindE_some]
    refine ok_bif (fun _ => ok_bif (fun h => by simp at h) (fun _ => ok_some ?_)) (fun h => by simp at h)
    show ((⟨t.l.take t.l.length, ⟨t.e.k, t.e.c⟩⟩, 0, 0) : Trc × Int × Int) = _
    rw [List.take_length]
  · have hlt : i < t.l.length := by omega
    have hr := okL_at h2 hlt
    rw [← ixD] at hr
    have ha := atL_ge 0 (t.l.take i)
    have hll := line_len ha hr
    have hno := line_no10 ha hr
    have hd := drop_succ1 t.l hlt
    have ht1 := take_succ1 t.l hlt
    generalize ix t.l (i : Int) = en at hr hll hno hd ht1
    have hcat : linesP (t.l.drop i) ++ (endP t.e ++ [10]) = lineP en ++ 10 :: (linesP (t.l.drop (i + 1)) ++ (endP t.e ++ [10])) := by
      rw [hd, lines_cons]; simp
    rw [hcat, cut_at hno] at hx
    subst hx
    have hlen := congrArg List.length hcat
    simp only [List.length_append, List.length_cons, List.length_nil] at hlen
    refine ok_bif (fun h => by simp at h) (fun _ => ?_)
    obtain ⟨d, hdd⟩ := ends_line fuel en (by omega) (by omega)
    rw [hdd, bindE_some]
    refine ok_bif (fun h => by simp at h) (fun _ => ?_)
    rw [entry_line fuel en _ ha hr hf2, bindE_some]
    refine ok_bif (fun h => by simp at h) (fun _ => ?_)
    rw [right_eq, bindE_some, rightB_t hr]
    refine ok_bif (fun h => by simp at h) (fun _ => ok_bif (fun h => ?_) (fun _ => ?_))
    · have := eq_of_beq h
      simp only [List.length_take] at this
      omega
    · have htk : (t.l.take i).length = i := by simp; omega
      refine ok_chk (by simp only [htk, List.length_cons, List.length_nil]; omega) (ok_chk (by simp only; omega) (ok_some ⟨⟨i + 1, by omega, ?_, ?_, ?_, ?_⟩, ?_⟩))
      · rfl
      · show max (atL 0 (t.l.take i)) en.to = _
        rw [ht1, atL_app]; rfl
      · show (i : Int) + 1 + 1 = ((i + 1 : Nat) : Int) + 1
        omega
      · show t.l.take i ++ [en] = _
        rw [ht1]
      · simp only [List.length_append, List.length_cons, List.length_nil]; omega
end Go.Ab

