/-
  reparteeref33: numbers in decimal digits: plain, and the contract of decimal.
-/
import Derived.Test.YtcdmdnadilafhaaGreatDoorZyPy
import Derived.Lib.AtoiTie
import Derived.Test.YtcdmdnadilafhaaGreatDoorZyRw
set_option linter.unusedSimpArgs false
set_option linter.unusedVariables false
namespace Go.Ab
open Go Go.RowKit Go.Fwd Go.Proofs
theorem idx_no (c : UInt8) : ∀ l : List UInt8, c ∉ l → Lib.index l [c] = -1
  | [], _ => rfl
  | b :: l, h => by
    have h1 : ¬ c = b := fun e => h (by simp [e])
    have h2 : c ∉ l := fun e => h (by simp [e])
    unfold Lib.index
    rw [idx_no c l h2]
    simp [List.isPrefixOf, h1]
theorem idx_at (c : UInt8) (r : List UInt8) : ∀ a : List UInt8, c ∉ a → Lib.index (a ++ c :: r) [c] = (a.length : Int)
  | [], _ => by simp [Lib.index, List.isPrefixOf]
  | b :: a, h => by
    have h1 : ¬ c = b := fun e => h (by simp [e])
    have h2 : c ∉ a := fun e => h (by simp [e])
    have := idx_at c r a h2
    rw [List.cons_append]
    unfold Lib.index
    rw [this]
    have h3 : ¬ ((a.length : Int) = -1) := by omega
    simp [List.isPrefixOf, h1, h3]
theorem cut_no {c : UInt8} {l : List UInt8} (h : c ∉ l) : Lib.cut l [c] = (l, [], false) := by
  unfold Lib.cut; rw [idx_no c l h]; rfl
theorem cut_at {c : UInt8} {a r : List UInt8} (h : c ∉ a) : Lib.cut (a ++ c :: r) [c] = (a, r, true) := by
  unfold Lib.cut; rw [idx_at c r a h]
  rw [if_pos (by omega)]
  simp
theorem dig_mem (u : Nat) : ∀ x ∈ Lib.decDigits u, 48 ≤ x.toNat ∧ x.toNat ≤ 57 := by
  induction u using Nat.strongRecOn with
  | ind u ih =>
    intro x hx
    rw [Lib.decDigits] at hx
    split at hx
    · rename_i h
      have : x = UInt8.ofNat (48 + u) := by simpa using hx
      subst this
      simp; omega
    · rename_i h
      rcases List.mem_append.1 hx with hx | hx
      · exact ih (u / 10) (by omega) x hx
      · have : x = UInt8.ofNat (48 + u % 10) := by simpa using hx
        subst this
        simp; omega
theorem dig_len : ∀ (k u : Nat), u < 10 ^ (k + 1) → (Lib.decDigits u).length ≤ k + 1
  | 0, u, h => by rw [Lib.decDigits_one (by simpa using h)]; simp
  | k + 1, u, h => by
    rw [Lib.decDigits]
    split
    · simp
    · have := dig_len k (u / 10) (by rw [Nat.pow_succ] at h; omega)
      simp; omega
theorem dec_app : ∀ (l m : List UInt8) (a : Nat), Lib.decFrom a (l ++ m) = (Lib.decFrom a l).bind fun n => Lib.decFrom n m
  | [], m, a => rfl
  | b :: l, m, a => by
    simp only [List.cons_append, Lib.decFrom]
    cases h : Lib.digitVal b with
    | none => rfl
    | some d => exact dec_app l m _
theorem dig_val {d : Nat} (h : d < 10) : Lib.digitVal (UInt8.ofNat (48 + d)) = some d := by
  unfold Lib.digitVal
  have : (UInt8.ofNat (48 + d)).toNat = 48 + d := by simp; omega
  rw [this, if_pos (by omega)]
  congr 1; omega
theorem dec_dig (u : Nat) : Lib.decFrom 0 (Lib.decDigits u) = some u := by
  induction u using Nat.strongRecOn with
  | ind u ih =>
    rw [Lib.decDigits]
    split
    · rename_i h
      simp only [Lib.decFrom, dig_val h, Nat.zero_mul, Nat.zero_add]
    · rename_i h
      rw [dec_app, ih (u / 10) (by omega)]
      simp only [Option.bind_some, Lib.decFrom, dig_val (show u % 10 < 10 by omega), Option.some.injEq]
      omega
theorem dig_ne (u : Nat) : ∃ b r, Lib.decDigits u = b :: r := by
  cases h : Lib.decDigits u with
  | nil =>
    rw [Lib.decDigits] at h
    split at h <;> simp at h
  | cons b r => exact ⟨b, r, rfl⟩
theorem atoi_dig (u : Nat) : Lib.atoi (Lib.decDigits u) = some (u : Int) := by
  obtain ⟨b, r, h⟩ := dig_ne u
  have hm := dig_mem u b (by rw [h]; simp)
  have hd := dec_dig u
  rw [h] at hd ⊢
  have h1 : ¬ b = 45 := fun e => by subst e; simp at hm
  have h2 : ¬ b = 43 := fun e => by subst e; simp at hm
  simp [Lib.atoi, h1, h2, Lib.decNat, hd]
theorem itoa_pos {n : Int} (h : 0 ≤ n) : Lib.itoa n = Lib.decDigits n.toNat := by unfold Lib.itoa; rw [if_neg (by omega)]
theorem atoi_itoa {n : Int} (h : 0 ≤ n ∧ n < 1000000000000) : atoiP (Lib.itoa n) = n := by
  rw [itoa_pos h.1]
  have hl := dig_len 11 n.toNat (by omega)
  unfold atoiP
  rw [Lib.atoiAll_short _ (by omega), atoi_dig]
  simp only [Lib.NumEnd.ofOption]
  omega
theorem itoa_mem {n : Int} (h : 0 ≤ n) : ∀ x ∈ Lib.itoa n, 48 ≤ x.toNat ∧ x.toNat ≤ 57 := by rw [itoa_pos h]; exact dig_mem _
theorem itoa_no {n : Int} (h : 0 ≤ n) (c : UInt8) (hc : c.toNat < 45) : c ∉ Lib.itoa n := fun hm => by have := itoa_mem h c hm; omega
theorem kind_no (k : Int) : (10 : UInt8) ∉ (kindAt k).w ∧ (32 : UInt8) ∉ (kindAt k).w := by
  unfold kindAt
  repeat' split
  all_goals (constructor <;> simp)
theorem kind_inj {i j : Int} (hi : 1 ≤ i ∧ i ≤ 3) (hj : 1 ≤ j ∧ j ≤ 3) (h : (kindAt i).w = (kindAt j).w) : i = j := by
  have h1 : i = 1 ∨ i = 2 ∨ i = 3 := by omega
  have h2 : j = 1 ∨ j = 2 ∨ j = 3 := by omega
  rcases h1 with rfl | rfl | rfl <;> rcases h2 with rfl | rfl | rfl <;> first | rfl | (exfalso; revert h; decide)
end Go.Ab
set_option linter.unusedSimpArgs false
set_option linter.unusedVariables false
namespace Go.Ab
open Go Go.RowKit Go.Fwd Go.Proofs
theorem endedB_k {e : Ed} (h : endedB e = true) : 1 ≤ e.k ∧ e.k ≤ 5 ∧ ((e.k = 2 ∧ 0 ≤ e.c ∧ e.c ≤ 255) ∨ (e.k ≠ 2 ∧ e.c = 0)) := by
  unfold endedB at h
  split at h
  · rename_i hk; have := of_decide_eq_true h; exact ⟨by omega, by omega, .inl ⟨hk, this.1, this.2⟩⟩
  · rename_i hk; have := of_decide_eq_true h; exact ⟨this.1, this.2.1, .inr ⟨hk, this.2.2⟩⟩
theorem endP_len {e : Ed} (h : endedB e = true) : (endP e).length ≤ 26 := by
  obtain ⟨h1, h2, h3⟩ := endedB_k h
  unfold endP
  split
  · have := Lib.itoa_length_le e.c (by omega) (by omega)
    simp; omega
  · have : e.k = 1 ∨ e.k = 2 ∨ e.k = 3 ∨ e.k = 4 ∨ e.k = 5 := by omega
    rcases this with h | h | h | h | h <;> rw [h] <;> decide
theorem line_cut (e : En) : Lib.cut (lineP e) [32] = ((kindAt e.k).w, (if e.k = 1 then quoteP e.b else Lib.itoa e.fr ++ 32 :: Lib.itoa e.to), true) := cut_at (kind_no e.k).2
theorem right_k {e : En} {a : Int} (ha : 0 ≤ a) (h : rightP e a) : (1 ≤ e.k ∧ e.k ≤ 3) ∧ (0 ≤ e.fr ∧ e.fr ≤ 1073741824) ∧ (0 ≤ e.to ∧ e.to ≤ 1073741824) ∧ e.b.length ≤ 512 ∧ (e.k = 1 → e.fr = 0 ∧ e.to = 0) ∧ (e.k ≠ 1 → e.b = []) := by
  rcases h with ⟨h1, h2, h3, h4⟩ | ⟨h1, h2, h3, h4, h5, h6⟩
  · exact ⟨by omega, by omega, by omega, h4, fun _ => ⟨h2, h3⟩, fun h => absurd h1 h⟩
  · exact ⟨by omega, by omega, by omega, by rw [h3]; simp, fun h => by omega, fun _ => h3⟩
theorem line_len {e : En} {a : Int} (ha : 0 ≤ a) (h : rightP e a) : (lineP e).length ≤ 2100 := by
  obtain ⟨h1, h2, h3, h4, h5, h6⟩ := right_k ha h
  have l1 := Lib.itoa_length_le e.fr (by omega) (by omega)
  have l2 := Lib.itoa_length_le e.to (by omega) (by omega)
  have hw := kind_w e.k
  have hfl := flat_len e.b
  have hq : (quoteP e.b).length = (e.b.flatMap byteP).length + 2 := by simp [quoteP]
  unfold lineP
  split
  · simp only [List.length_append, List.length_cons]; omega
  · simp only [List.length_append, List.length_cons]; omega
theorem entry_line (fuel : Nat) (e : En) (a : Int) (ha : 0 ≤ a) (h : rightP e a) (hf : 2200 < fuel) : F_entry fuel (lineP e) = some (e, true) := by
  obtain ⟨h1, h2, h3, h4, h5, h6⟩ := right_k ha h
  have hl := line_len ha h
  have l1 := Lib.itoa_length_le e.fr (by omega) (by omega)
  have l2 := Lib.itoa_length_le e.to (by omega) (by omega)
  have hline := line_eq fuel e h1 (by omega) (by omega) (by omega) (by omega)
  unfold F_entry
  refine Ok.eq (ok_chk (by omega) (ok_letE fun x hx => ?_))
  rw [line_cut] at hx
  subst hx
  refine ok_cut (fun j => j = ⟨e.k, 0, 0, []⟩) ?_ (fun j hj => ?_)
  · refine ok_loop (fun (s : Int × En) => (1 ≤ s.1 ∧ s.1 ≤ 4) ∧ s.2 = ⟨if e.k < s.1 then e.k else 0, 0, 0, []⟩) (fun s => (4 - s.1).toNat) (fun s hT => ?_) _ _ (by simp; omega) ⟨by decide, by rw [if_neg (by simp only; omega)]⟩
    obtain ⟨s, j⟩ := s
    obtain ⟨g1, g2⟩ := hT
    simp only at g1
    have g2' : j = (⟨if e.k < s then e.k else 0, 0, 0, []⟩ : En) := g2
    clear g2
    subst g2'
    refine ok_bif (fun hc => ?_) (fun hc => ok_some ?_)
    · have hc := of_decide_eq_true hc
      simp only at hc
      have hw : IntKind.u8.wrap (s + 1) = s + 1 := wrap_u8 (by omega) (by omega)
      refine ok_cut (fun j => j = ⟨if e.k < s + 1 then e.k else 0, 0, 0, []⟩) ?_ (fun j' hj => ok_some ?_)
      · refine ok_chk ⟨g1.1, hc⟩ (ok_bif (fun hb => ok_some ?_) (fun hb => ok_some ?_))
        · have : s = e.k := kind_inj ⟨g1.1, hc⟩ h1 (eq_of_beq hb)
          subst this
          simp only
          rw [if_pos (by omega)]
        · have : ¬ s = e.k := fun e' => by simp [e'] at hb
          by_cases hlt : e.k < s
          · show (_ : En) = _
            rw [if_pos hlt, if_pos (by omega)]
          · show (_ : En) = _
            rw [if_neg hlt, if_neg (by omega)]
      · simp only [hw]
        exact ⟨⟨⟨by omega, by omega⟩, hj⟩, by omega⟩
    · have hc := of_decide_eq_false hc
      simp only at hc
      show (_ : En) = _
      rw [if_pos (by omega)]
  · subst hj
    simp only
    refine ok_bif (fun hk => ?_) (fun _ => ?_)
    · have := eq_of_beq hk; omega
    · by_cases k1 : e.k = 1
      · obtain ⟨f0, t0⟩ := h5 k1
        refine ok_bif (fun _ => ?_) (fun hk => by simp [k1] at hk)
        rw [if_pos k1, unquote_quote fuel e.b (by omega) (by omega), bindE_some]
        have he : (⟨e.k, 0, 0, e.b⟩ : En) = e := by
          cases e
          simp only at f0 t0
          rw [f0, t0]
        refine ok_bif (fun _ => ?_) (fun hk => by simp at hk)
        simp only
        rw [he, hline, bindE_some]
        exact ok_some (by simp)
      · have b0 := h6 k1
        refine ok_bif (fun hk => absurd (eq_of_beq hk) k1) (fun _ => ?_)
        rw [if_neg k1]
        have hno := itoa_no h2.1 32 (by decide)
        have hc := cut_at (c := 32) (a := Lib.itoa e.fr) (r := Lib.itoa e.to) hno
        refine ok_chk (by simp only [List.length_append, List.length_cons]; omega) (ok_letE fun y hy => ?_)
        rw [hc] at hy
        subst hy
        refine ok_chk (by simp only; omega) (ok_letE fun v hv => ok_chk (by simp only; omega) (ok_letE fun w hw => ?_))
        simp only at hv hw
        rw [atoi_itoa (by omega)] at hv hw
        subst hv hw
        have he : (⟨e.k, e.fr, e.to, []⟩ : En) = e := by rw [← b0]
        rw [he, hline, bindE_some]
        exact ok_some (by simp)
end Go.Ab
set_option linter.unusedSimpArgs false
set_option linter.unusedVariables false
namespace Go.Ab
open Go Go.RowKit Go.Fwd Go.Proofs
/-- What is right. -/
def okT (t : Trc) : Prop := t.l.length ≤ 65536 ∧ okL 0 t.l ∧ endedB t.e = true
theorem check_okT {t : Trc} (h : okT t) : checkP t = (-1, 0) := by
  have h2 := checkP_ok.2 h
  unfold checkP at h2 ⊢
  repeat' split at h2
  all_goals first | (simp at h2; done) | skip
  rename_i a b c
  rw [if_neg a, if_neg b, if_pos c]
theorem lines_len : ∀ (a : Int) (l : List En), 0 ≤ a → okL a l → (linesP l).length ≤ 2101 * l.length
  | _, [], _, _ => by simp [linesP]
  | a, e :: l, ha, ⟨h1, h2⟩ => by
    have := lines_len (max a e.to) l (by omega) h2
    have h3 := line_len ha h1
    unfold linesP at this ⊢
    simp only [List.flatMap_cons, List.length_append, List.length_cons, List.length_nil]
    omega
theorem lines_app (l m : List En) : linesP (l ++ m) = linesP l ++ linesP m := List.flatMap_append
theorem take_succ1 {α : Type} [Enc α] (l : List α) {i : Nat} (h : i < l.length) : l.take (i + 1) = l.take i ++ [ix l (i : Int)] := by
  rw [List.take_succ_eq_append_getElem h]; simp [ix, h]
theorem drop_succ1 {α : Type} [Enc α] (l : List α) {i : Nat} (h : i < l.length) : l.drop i = ix l (i : Int) :: l.drop (i + 1) := by
  rw [List.drop_eq_getElem_cons h]; simp [ix, h]
theorem ixD (l : List En) (i : Nat) : ix l (i : Int) = l.getD i Enc.inh := by simp [ix]
theorem write_eq (fuel : Nat) (t : Trc) (hf : t.l.length < fuel) (hf2 : 2200 < fuel) (h : okT t) : F_write fuel t = some (writeP t, 0) := by
  obtain ⟨h1, h2, h3⟩ := h
  obtain ⟨e1, e2, e3⟩ := endedB_k h3
  have hel := endP_len h3
  unfold F_write
  rw [check_eq fuel t hf (by omega), bindE_some, check_okT ⟨h1, h2, h3⟩]
  refine Ok.eq (ok_bif (fun h => by simp at h) (fun _ => ?_))
  refine ok_cut (fun j => j.2 = linesP t.l) ?_ (fun j hj => ?_)
  · refine ok_loop (fun (s : Int × Bool × List UInt8) => ∃ i : Nat, s.1 = (i : Int) ∧ i ≤ t.l.length ∧ s.2.2 = linesP (t.l.take i)) (fun s => t.l.length - s.1.toNat) (fun s hT => ?_) _ _ (by simp; omega) ⟨0, rfl, by omega, by simp [linesP]⟩
    obtain ⟨s1, s2, s3⟩ := s
    obtain ⟨i, g1, g2, g3⟩ := hT
    simp only at g1 g3
    subst g1 g3
    refine ok_bif (fun hc => ?_) (fun hc => ok_some ?_)
    · have hc : i < t.l.length := by have := of_decide_eq_true hc; simp only at this; omega
      have hr := okL_at h2 hc
      rw [← ixD] at hr
      have ha := atL_ge 0 (t.l.take i)
      obtain ⟨k1, k2, k3, k4, k5, k6⟩ := right_k ha hr
      have hll := line_len ha hr
      have htl := lines_len 0 (t.l.take i) (by omega) (okL_take h2 i)
      have htk : (t.l.take i).length ≤ 65536 := by simp; omega
      refine ok_chk (by simp only; omega) (ok_letE fun e he => ?_)
      simp only at he
      rw [he] at hr hll k1 k2 k3 k4
      rw [line_eq fuel e k1 (by omega) (by omega) (by omega) (by omega), bindE_some]
      refine ok_chk (by simp only [List.length_cons, List.length_nil]; omega) (ok_chk (by simp only [List.length_append, List.length_cons, List.length_nil]; omega) (ok_chk (by simp only; omega) (ok_some ⟨⟨i + 1, by simp, by omega, ?_⟩, ?_⟩)))
      · simp only
        rw [take_succ1 _ hc, lines_app, he]
        simp [linesP]
      · simp only; omega
    · have hc : i = t.l.length := by have := of_decide_eq_false hc; simp only at this; omega
      show linesP (t.l.take i) = _
      rw [hc, List.take_length]
  · have htl := lines_len 0 t.l (by omega) h2
    rw [endw_eq t.e (by omega) (by omega), bindE_some]
    refine ok_chk (by simp only [List.length_cons, List.length_nil]; omega) (ok_chk (by rw [hj]; simp only [List.length_append, List.length_cons, List.length_nil]; omega) (ok_some ?_))
    rw [hj]; rfl
end Go.Ab
set_option linter.unusedSimpArgs false
set_option linter.unusedVariables false
namespace Go.Ab
open Go Go.RowKit Go.Fwd Go.Proofs
theorem dg_at {d : Int} (h : 0 ≤ d ∧ d < 10) : sub ([48, 49, 50, 51, 52, 53, 54, 55, 56, 57] : List UInt8) d (d + 1) = [UInt8.ofNat (48 + d.toNat)] := by
  have : d = 0 ∨ d = 1 ∨ d = 2 ∨ d = 3 ∨ d = 4 ∨ d = 5 ∨ d = 6 ∨ d = 7 ∨ d = 8 ∨ d = 9 := by omega
  rcases this with rfl | rfl | rfl | rfl | rfl | rfl | rfl | rfl | rfl | rfl <;> rfl
theorem dec_eq (m n : Int) (h : 0 ≤ n ∧ n < 9223372036854775808) (hm : n ≤ m) : F_dec m n = some (Lib.itoa n) := by
  unfold F_dec
  refine bif_i (fun hc => ?_) (fun hc => ?_)
  · have hc : n < 10 := of_decide_eq_true hc
    refine chk_i (by omega) (chk_i (by simp; omega) (letE_s ?_))
    rw [dg_at ⟨h.1, hc⟩, itoa_pos h.1, Lib.decDigits_one (by omega)]
  · have hc : ¬ n < 10 := of_decide_eq_false hc
    have ht : Int.tdiv n 10 = n / 10 := Int.tdiv_eq_ediv_of_nonneg h.1
    have hr : Int.tmod n 10 = n % 10 := Int.tmod_eq_emod_of_nonneg h.1
    have hw : IntKind.i64.wrap (n / 10) = n / 10 := wrap_i64 (by omega) (by omega)
    have l1 := Lib.itoa_length_le (n / 10) (by omega) (by omega)
    rw [ht, hr, hw]
    refine chk_i (by omega) (letE_s (chk_i (by omega) (chk_i (by simp; omega) (letE_s ?_))))
    rw [dg_at (by omega)]
    refine chk_i (by simp; omega) ?_
    rw [itoa_pos h.1, itoa_pos (show 0 ≤ n / 10 by omega)]
    conv => rhs; rw [Lib.decDigits]
    rw [dif_neg (by omega), show (n / 10).toNat = n.toNat / 10 by omega, show (n % 10).toNat = n.toNat % 10 by omega]
theorem dec_pureN (k : Nat) : (k : Int) ≤ 9223372036854775808 → ∀ x : Int, 0 ≤ x ∧ x < (k : Int) → Pure (ITP Tryz.prog) Tryz.prog 80 [.raw (.int .i64 x)] (.raw (.string (bs (Lib.itoa x)))) := by
  induction k with
  | zero => intro _ x h; omega
  | succ k ih =>
    intro hk x h
    exact dec_sh (k : Int) x (Lib.itoa x) (fun y hy => ih (by omega) y hy) (dec_eq (k : Int) x (by omega) (by omega))
theorem dec_pure (x : Int) (h : 0 ≤ x ∧ x < 9223372036854775808) : Pure (ITP Tryz.prog) Tryz.prog 80 [.raw (.int .i64 x)] (.raw (.string (bs (Lib.itoa x)))) := dec_pureN (x.toNat + 1) (by omega) x (by omega)
end Go.Ab

