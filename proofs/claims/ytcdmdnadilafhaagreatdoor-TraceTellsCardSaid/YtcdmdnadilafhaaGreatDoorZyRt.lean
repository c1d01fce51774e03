/-
  reparteeref33: lines, Read; TraceReads: plain.
-/
import Derived.Test.YtcdmdnadilafhaaGreatDoorZyRn
import Derived.Test.YtcdmdnadilafhaaGreatDoorZyW4
import Derived.Test.YtcdmdnadilafhaaGreatDoorZyPq
import Derived.Test.YtcdmdnadilafhaaGreatDoorZyRy
set_option linter.unusedSimpArgs false
set_option linter.unusedVariables false
namespace Go.Ab
open Go Go.RowKit Go.Fwd Go.Proofs
open Classical in
/-- The end that a line says. -/
noncomputable def endO (t : List UInt8) : Option Ed := if h : ∃ e, endedB e = true ∧ endP e = t then some h.choose else none
theorem endO_none {t : List UInt8} (h : ¬ ∃ e, endedB e = true ∧ endP e = t) : endO t = none := by
  unfold endO; rw [dif_neg h]
open Classical in
/-- The right entry that a line says. -/
noncomputable def entO (a : Int) (t : List UInt8) : Option En := if h : ∃ e, rightP e a ∧ lineP e = t then some h.choose else none
theorem entO_eq {a : Int} (ha : 0 ≤ a) {e : En} {t : List UInt8} (h1 : rightP e a) (h2 : lineP e = t) : entO a t = some e := by
  have h : ∃ e, rightP e a ∧ lineP e = t := ⟨e, h1, h2⟩
  unfold entO
  rw [dif_pos h]
  obtain ⟨c1, c2⟩ := h.choose_spec
  obtain ⟨g, hg⟩ : ∃ g, g = h.choose := ⟨_, rfl⟩
  rw [← hg] at c1 c2 ⊢
  have x := entry_line 3000 e a ha h1 (by decide)
  have y := entry_line 3000 g a ha c1 (by decide)
  rw [c2, ← h2, x] at y
  simp only [Option.some.injEq, Prod.mk.injEq, and_true] at y
  exact congrArg some y.symm
/-- What is read, line by line. -/
noncomputable def readS : Nat → Int → Int → List En → List UInt8 → Trc × Int × Int
  | 0, _, n, _, _ => (⟨[], ⟨0, 0⟩⟩, n, 332)
  | k + 1, a, n, l, s => if (Lib.cut s [10]).2.2 = true then
      (match endO (Lib.cut s [10]).1 with
       | some e => if (Lib.cut s [10]).2.1 = [] then (⟨l, e⟩, 0, 0) else (⟨[], ⟨0, 0⟩⟩, n + 1, 332)
       | none => match entO a (Lib.cut s [10]).1 with
         | some e => if l.length = 65536 then (⟨[], ⟨0, 0⟩⟩, n, 332) else readS k (max a e.to) (n + 1) (l ++ [e]) (Lib.cut s [10]).2.1
         | none => (⟨[], ⟨0, 0⟩⟩, n, 332))
    else (⟨[], ⟨0, 0⟩⟩, n, 332)
theorem readS_no {s : List UInt8} (h : (10 : UInt8) ∉ s) (k : Nat) (a n : Int) (l : List En) : readS k a n l s = (⟨[], ⟨0, 0⟩⟩, n, 332) := by
  cases k with
  | zero => rfl
  | succ k => simp [readS, cut_no h]
theorem readS_at {t r : List UInt8} (h : (10 : UInt8) ∉ t) (k : Nat) (a n : Int) (l : List En) : readS (k + 1) a n l (t ++ 10 :: r) =
    (match endO t with
       | some e => if r = [] then (⟨l, e⟩, 0, 0) else (⟨[], ⟨0, 0⟩⟩, n + 1, 332)
       | none => match entO a t with
         | some e => if l.length = 65536 then (⟨[], ⟨0, 0⟩⟩, n, 332) else readS k (max a e.to) (n + 1) (l ++ [e]) r
         | none => (⟨[], ⟨0, 0⟩⟩, n, 332)) := by
  rw [readS, cut_at h]
  simp only [if_true]
/-- A state of reading. -/
structure RdS (R : Trc × Int × Int) (len : Nat) (a n : Int) (l : List En) (s : List UInt8) : Prop where
  is : ∃ k, s.length < k ∧ readS k a n l s = R
  at_ : a = atL 0 l
  many : l.length ≤ 65536
  num : n = (l.length : Int) + 1
  sh : s.length + l.length ≤ len
theorem RdS.no {R : Trc × Int × Int} {len : Nat} {a n : Int} {l : List En} {s : List UInt8} (h : RdS R len a n l s) (hn : (10 : UInt8) ∉ s) : R = (⟨[], ⟨0, 0⟩⟩, n, 332) := by
  obtain ⟨k, _, hk⟩ := h.is
  rw [← hk, readS_no hn]
theorem RdS.full {R : Trc × Int × Int} {len : Nat} {a n : Int} {l : List En} {t r : List UInt8} (h : RdS R len a n l (t ++ 10 :: r)) (hn : (10 : UInt8) ∉ t) (h1 : ¬ ∃ e, endedB e = true ∧ endP e = t) {e : En} (h2 : rightP e a) (h3 : lineP e = t) (h4 : l.length = 65536) : R = (⟨[], ⟨0, 0⟩⟩, n, 332) := by
  obtain ⟨k, h0, hk⟩ := h.is
  obtain ⟨k, rfl⟩ : ∃ j, k = j + 1 := ⟨k - 1, by omega⟩
  rw [← hk, readS_at hn, endO_none h1, entO_eq (by rw [h.at_]; exact atL_ge 0 l) h2 h3]
  simp only [h4, if_true]
theorem RdS.next {R : Trc × Int × Int} {len : Nat} {a n : Int} {l : List En} {t r : List UInt8} (h : RdS R len a n l (t ++ 10 :: r)) (hn : (10 : UInt8) ∉ t) (h1 : ¬ ∃ e, endedB e = true ∧ endP e = t) {e : En} (h2 : rightP e a) (h3 : lineP e = t) (h4 : ¬ l.length = 65536) : RdS R len (max a e.to) (n + 1) (l ++ [e]) r := by
  obtain ⟨k, h0, hk⟩ := h.is
  obtain ⟨k, rfl⟩ : ∃ j, k = j + 1 := ⟨k - 1, by omega⟩
  have hm := h.many
  have hu := h.num
  have hs := h.sh
  simp only [List.length_append, List.length_cons] at h0 hs
  rw [readS_at hn, endO_none h1, entO_eq (by rw [h.at_]; exact atL_ge 0 l) h2 h3] at hk
  simp only [h4, if_false] at hk
  exact ⟨⟨k, by omega, hk⟩, by rw [atL_app, ← h.at_]; rfl, by simp; omega, by simp; omega, by simp; omega⟩
theorem RdS.start (s : List UInt8) : RdS (readS (s.length + 1) 0 1 [] s) s.length 0 1 [] s := ⟨⟨_, Nat.lt_succ_self _, rfl⟩, rfl, by simp, by simp, by simp⟩
end Go.Ab
set_option linter.unusedSimpArgs false
set_option linter.unusedVariables false
namespace Go.Ab
open Go Go.RowKit Go.Fwd Go.Proofs
theorem rbytes_eq (fuel : Nat) (b : List UInt8) (hf : b.length < fuel) (hb : b.length ≤ 1000000000) : F_rbytes fuel b (RSet.mk false) = some (b.flatMap byteP) := by
  unfold F_rbytes
  refine Ok.eq (ok_cut (fun t => t = b.flatMap byteP) ?_ (fun t h => ok_some h))
  refine ok_loop (fun s => ∃ i : Nat, s.2 = (i : Int) ∧ i ≤ b.length ∧ s.1 = (b.take i).flatMap byteP) (fun s => b.length - s.2.toNat) (fun s hT => ?_) _ _ (by simp; omega) ⟨0, rfl, by omega, by simp⟩
  obtain ⟨i, h1, h2, h3⟩ := hT
  obtain ⟨s1, s2⟩ := s
  simp only at h1 h3
  subst h1 h3
  refine ok_bif (fun hc => ?_) (fun hc => ?_)
  · have hc : i < b.length := by have := of_decide_eq_true hc; omega
    have hx : ix b (i : Int) = b[i] := by simp [ix, hc]
    have hfl := flat_len (b.take i)
    have hbl := byteP_len b[i]
    have htl : (b.take i).length ≤ b.length := by simp; omega
    refine ok_chk (by simp only; omega) (ok_letE fun x hx' => ok_chk rfl (ok_letE fun y hy => ok_chk ?_ (ok_chk (by simp only; omega) (ok_some ?_))))
    · rw [← hy, ← hx', hx]; simp only; omega
    · refine ⟨⟨i + 1, by simp, by omega, ?_⟩, by simp only; omega⟩
      simp only
      rw [← hy, ← hx', hx, List.take_succ_eq_append_getElem hc, List.flatMap_append]
      simp
  · have hc : i = b.length := by have := of_decide_eq_false hc; simp only at this; omega
    exact ok_some (by simp [hc])
/-! ### a byte read by trying -/
end Go.Ab
set_option linter.unusedSimpArgs false
set_option linter.unusedVariables false
namespace Go.Ab
open Go Go.RowKit Go.Fwd Go.Proofs
end Go.Ab
set_option linter.unusedSimpArgs false
set_option linter.unusedVariables false
namespace Go.Ab
open Go Go.RowKit Go.Fwd Go.Proofs

theorem theirs_eq (fuel : Nat) (t : Trc) (hf : t.l.length < fuel) (hm : t.l.length ≤ 1000000000) : F_theirs fuel t = some t := by
  unfold F_theirs
  refine cutE_i t (loopE_i t.l.length (fun i => ((i : Int), Trc.mk (t.l.take i) (Ed.mk t.e.k t.e.c))) ?_ ?_ ?_ hf) rfl
  · simp
  · intro i hi
    refine bif_t (decide_eq_true (by simp only; omega)) (chk_i (by simp only; omega) (letE_s (chk_i ?_ (chk_i (by simp only; omega) ?_))))
    · simp; omega
    · simp only [ix, Int.toNat_natCast]
      have : t.l.take (i + 1) = t.l.take i ++ [t.l.getD i Enc.inh] := by
        rw [List.take_add_one]; simp [hi]
      rw [this]
      rfl
  · refine (bif_f (decide_eq_false (by simp only; omega)) ?_)
    simp
theorem dif_same (a b : Trc) : (difP a b).2 = decide (a ≠ b) := by
  have hl := lcp_le a.l b.l
  have h1 := lcp_pre a.l b.l
  unfold difP
  obtain ⟨al, ae⟩ := a
  obtain ⟨bl, be⟩ := b
  simp only at hl h1 ⊢
  by_cases h : lcp al bl = al.length ∧ lcp al bl = bl.length ∧ ae = be
  · rw [if_pos h]
    obtain ⟨h2, h3, rfl⟩ := h
    have : al = bl := (h1.1 h2).eq_of_length (by omega)
    subst this
    simp
  · rw [if_neg h]
    have hne : Trc.mk al ae ≠ Trc.mk bl be := fun e => by
      cases e
      have := (lcp_pre al al).2 (List.prefix_refl _)
      exact h ⟨this, this, rfl⟩
    simp only [hne, decide_true, ne_eq, not_false_eq_true]
theorem rdiffer_eq (fuel : Nat) (a b : Trc) (h : a.l.length < fuel) (hm : fuel < 2 ^ 60) : F_rdiffer fuel a b = some (difP a b) := by
  have hl := lcp_le a.l b.l
  unfold F_rdiffer
  have hsame : ∀ i : Nat, i < lcp a.l b.l → decide (a.l.getD i Enc.inh ≠ b.l.getD i Enc.inh) = false := fun i hi => decide_eq_false (fun h => h (lcp_same _ _ i hi))
  by_cases hx : lcp a.l b.l = a.l.length ∧ lcp a.l b.l = b.l.length
  · refine cutE_i () (loopE_i (lcp a.l b.l) (fun i => (i : Int)) rfl (fun i hi => cutE_i () (bif_t (decide_eq_true (by omega)) rfl) (bif_f (decide_eq_false (by omega)) (bif_f (decide_eq_false (by omega)) (chk_i (by omega) (letE_s (chk_i (by omega) (letE_s (bif_f (by simp only [ix, Int.toNat_natCast]; exact hsame i hi) (chk_i (by omega) rfl))))))))) ?_ (by omega)) ?_
    · refine cutE_r (Sum.inr (Sum.inl ())) (bif_f (decide_eq_false (by omega)) (bif_f (decide_eq_false (by omega)) rfl)) rfl
    · unfold difP
      by_cases he : a.e = b.e
      · rw [if_pos ⟨hx.1, hx.2, he⟩]
        exact bif_f (decide_eq_false (fun h => h he)) rfl
      · rw [if_neg (fun h => he h.2.2)]
        refine (bif_t (decide_eq_true he) ?_)
        rw [hx.1]
  · have hd : difP a b = ((lcp a.l b.l : Int), true) := by unfold difP; rw [if_neg (fun h => hx ⟨h.1, h.2.1⟩)]
    rw [hd]
    refine cutE_r ((lcp a.l b.l : Int), true) (loopE_i (lcp a.l b.l) (fun i => (i : Int)) rfl (fun i hi => cutE_i () (bif_t (decide_eq_true (by omega)) rfl) (bif_f (decide_eq_false (by omega)) (bif_f (decide_eq_false (by omega)) (chk_i (by omega) (letE_s (chk_i (by omega) (letE_s (bif_f (by simp only [ix, Int.toNat_natCast]; exact hsame i hi) (chk_i (by omega) rfl))))))))) ?_ (by omega)) rfl
    refine cutE_i () ?_ ?_
    · by_cases h1 : lcp a.l b.l < a.l.length
      · exact bif_t (decide_eq_true (by omega)) rfl
      · exact bif_f (decide_eq_false (by omega)) (bif_t (decide_eq_true (by omega)) rfl)
    · by_cases h1 : lcp a.l b.l < a.l.length
      · by_cases h2 : lcp a.l b.l < b.l.length
        · refine bif_f (decide_eq_false (by omega)) (bif_f (decide_eq_false (by omega)) (chk_i (by omega) (letE_s (chk_i (by omega) (letE_s (bif_t ?_ rfl))))))
          simp only [ix, Int.toNat_natCast]
          exact decide_eq_true (lcp_diff _ _ h1 h2)
        · exact bif_f (decide_eq_false (by omega)) (bif_t (decide_eq_true (by omega)) rfl)
      · exact bif_t (decide_eq_true (by omega)) rfl
theorem rsame_eq (fuel : Nat) (a b : Trc) (h : a.l.length < fuel) (hm : fuel < 2 ^ 60) : F_rsame fuel a b = some (decide (a = b)) := by
  unfold F_rsame
  refine bindE_i _ (rdiffer_eq fuel a b h hm) ?_
  rw [dif_same]
  by_cases e : a = b <;> simp [e]
end Go.Ab
set_option linter.unusedSimpArgs false
set_option linter.unusedVariables false
namespace Go.Ab
open Go Go.RowKit Go.Fwd Go.Proofs
theorem rright_eq (e : En) (a : Int) : F_rright e a = some (rightB e a) := by
  unfold rightB
  obtain ⟨k, fr, to, b⟩ := e
  unfold F_rright rightP
  simp only
  by_cases h1 : k = 1
  · subst h1
    refine bif_t rfl ?_
    by_cases h2 : fr = 0
    · by_cases h3 : to = 0
      · refine bif_t (by simp [h2]) (bif_t (by simp [h3]) ?_)
        have e1 : ((List.length b : Int) ≤ 512) ↔ b.length ≤ 512 := by omega
        simp [h2, h3, e1]
      · refine bif_t (by simp [h2]) (bif_f (by simp [h3]) ?_)
        simp [h3]
    · refine bif_f (by simp [h2]) ?_
      simp [h2]
  · refine bif_f (by simpa using h1) ?_
    by_cases h2 : k = 2 ∨ k = 3
    · by_cases h4 : b = []
      · subst h4
        refine cutE_i () ?_ ?_
        · rcases h2 with rfl | rfl
          · exact bif_f rfl (bif_f rfl rfl)
          · exact bif_t rfl (bif_f rfl (bif_f rfl rfl))
        by_cases h3 : fr = a
        · subst h3
          refine bif_f (by simp) ?_
          by_cases h5 : to < fr
          · refine bif_t (decide_eq_true h5) ?_
            have : ¬ fr ≤ to := by omega
            simp [h1, this]
          · refine bif_f (decide_eq_false h5) ?_
            by_cases h6 : to > 1073741824
            · refine bif_t (decide_eq_true h6) ?_
              have : ¬ to ≤ 1073741824 := by omega
              simp [h1, this]
            · refine bif_f (decide_eq_false h6) ?_
              have h5' : fr ≤ to := by omega
              have h6' : to ≤ 1073741824 := by omega
              rcases h2 with rfl | rfl
              · exact bif_t rfl (by simp [h5', h6'])
              · exact bif_f rfl (by simp [h5', h6'])
        · refine bif_t (by simp [h3]) ?_
          simp [h1, h3]
      · refine cutE_r false ?_ (by simp [h1, h4])
        have h4' : (!(b == ([] : List UInt8))) = true := by simp [h4]
        rcases h2 with rfl | rfl
        · exact bif_f rfl (bif_t h4' rfl)
        · exact bif_t rfl (bif_f rfl (bif_t h4' rfl))
    · have g2 : ¬ k = 2 := fun h => h2 (.inl h)
      have g3 : ¬ k = 3 := fun h => h2 (.inr h)
      refine cutE_r false (bif_t (by simp [g2]) (bif_t (by simp [g3]) rfl)) ?_
      simp [h1, g2, g3]
theorem rline_eq (fuel : Nat) (e : En) (hk : 1 ≤ e.k ∧ e.k ≤ 3) (hf : e.b.length < fuel) (hb : e.b.length ≤ 1000000000) (h1 : 0 ≤ e.fr ∧ e.fr < 9223372036854775808) (h2 : 0 ≤ e.to ∧ e.to < 9223372036854775808) : F_rline fuel e = some (lineP e) := by
  have l1 := Lib.itoa_length_le e.fr (by omega) (by omega)
  have l2 := Lib.itoa_length_le e.to (by omega) (by omega)
  have hfl := flat_len e.b
  unfold F_rline lineP
  by_cases k1 : e.k = 1
  · refine bif_t (by simp [k1]) ?_
    rw [rbytes_eq fuel e.b hf hb, bindE_some]
    refine chk_i (by simp only [List.length_cons, List.length_nil]; omega) (chk_i (by simp only [List.length_append, List.length_cons, List.length_nil]; omega) ?_)
    rw [if_pos k1, k1]
    simp [kindAt, quoteP]
  · refine bif_f (by simp [k1]) ?_
    rw [if_neg k1]
    by_cases k2 : e.k = 2
    · refine bif_t (by simp [k2]) (chk_i h1 (letE_s (chk_i (by simp; omega) (chk_i (by simp; omega) (chk_i h2 (letE_s (chk_i (by simp; omega) ?_)))))))
      rw [k2]
      simp [kindAt]
    · have k3 : e.k = 3 := by omega
      refine bif_f (by simp [k2]) (chk_i h1 (letE_s (chk_i (by simp; omega) (chk_i (by simp; omega) (chk_i h2 (letE_s (chk_i (by simp; omega) ?_)))))))
      rw [k3]
      simp [kindAt]
theorem rline_right (fuel : Nat) {e : En} {a : Int} (ha : 0 ≤ a) (h : rightP e a) (hf : 600 < fuel) : F_rline fuel e = some (lineP e) := by
  obtain ⟨h1, h2, h3, h4, h5, h6⟩ := right_k ha h
  exact rline_eq fuel e h1 (by omega) (by omega) (by omega) (by omega)
theorem rat_eq (fuel : Nat) (l : List En) (hl : okL 0 l) (hf : l.length < fuel) (hb : l.length ≤ 1000000000) : F_rat fuel l = some (atL 0 l) := by
  unfold F_rat
  refine Ok.eq (ok_cut (fun t => t = atL 0 l) ?_ (fun t h => ok_some h))
  refine ok_loop (fun (s : Int × Int) => ∃ i : Nat, s.2 = (i : Int) ∧ i ≤ l.length ∧ s.1 = atL 0 (l.take i)) (fun s => l.length - s.2.toNat) (fun s hT => ?_) _ _ (by simp; omega) ⟨0, rfl, by omega, by simp [atL]⟩
  obtain ⟨i, h1, h2, h3⟩ := hT
  obtain ⟨s1, s2⟩ := s
  simp only at h1 h3
  subst h1 h3
  refine ok_bif (fun hc => ?_) (fun hc => ?_)
  · have hc : i < l.length := by have := of_decide_eq_true hc; simp only at this; omega
    have hr := okL_at hl hc
    rw [← ixD] at hr
    have ha := atL_ge 0 (l.take i)
    obtain ⟨k1, k2, k3, k4, k5, k6⟩ := right_k ha hr
    have hnext : atL 0 (l.take (i + 1)) = max (atL 0 (l.take i)) (ix l (i : Int)).to := by rw [take_succ1 l hc, atL_app]; rfl
    refine ok_cut (fun t => t = atL 0 (l.take (i + 1))) ?_ (fun t ht => ok_chk (by omega) (ok_some ⟨⟨i + 1, by simp, by omega, ht⟩, by simp only; omega⟩))
    refine ok_chk (by omega) (ok_letE fun x hx => ok_bif (fun hk => ok_chk (by omega) (ok_letE fun y hy => ok_some ?_)) (fun hk => ok_some ?_))
    · have hk : x.k ≠ 1 := by simpa using hk
      have hy : ix l (i : Int) = y := hy
      have hx : ix l (i : Int) = x := hx
      show y.to = _
      rw [hnext, ← hy]
      rw [← hx] at hk
      rcases hr with ⟨q1, _⟩ | ⟨q1, q2, q3, q4, q5, q6⟩
      · exact absurd q1 hk
      · omega
    · have hk : x.k = 1 := by simpa using hk
      have hx : ix l (i : Int) = x := hx
      rw [← hx] at hk
      show atL 0 (l.take i) = _
      rw [hnext, (k5 hk).2]
      omega
  · have hc : i = l.length := by have := of_decide_eq_false hc; simp only at this; omega
    refine ok_some ?_
    show atL 0 (l.take i) = _
    rw [hc, List.take_length]
theorem lequal_eq (fuel : Nat) (a b : Trc) (h : a.l.length < fuel) (hm : a.l.length ≤ 1000000000) (hf : fuel < 2 ^ 60) : F_lequal fuel a b = some (decide (a = b)) := by
  unfold F_lequal
  rw [theirs_eq fuel a h hm, bindE_some, rsame_eq fuel a b h hf, bindE_some]
end Go.Ab

