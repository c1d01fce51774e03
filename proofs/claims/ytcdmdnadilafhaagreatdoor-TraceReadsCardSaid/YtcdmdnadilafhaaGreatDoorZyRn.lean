/-
  reparteeref33: numbers in decimal digits: plain, and the contract of decimal.
-/
import Derived.Test.YtcdmdnadilafhaaGreatDoorZyPx
import Derived.Lib.AtoiTie
import Derived.Test.YtcdmdnadilafhaaGreatDoorZyRw
set_option linter.unusedSimpArgs false
set_option linter.unusedVariables false
namespace Go.Ab
open Go Go.RowKit Go.Fwd Go.Proofs
theorem sub_drop' {α : Type} (l : List α) (n : Nat) (hn : n ≤ l.length) : sub l (n : Int) (l.length : Int) = l.drop n := by
  simp only [sub, Int.toNat_natCast]
  exact List.take_of_length_le (by simp)
theorem ix_drop {α : Type} [Enc α] {t r : List α} {n : Nat} {a : α} (h : t.drop n = a :: r) : ix t (n : Int) = a ∧ n < t.length := by
  have hl : n < t.length := by
    rcases Nat.lt_or_ge n t.length with h1 | h1
    · exact h1
    · rw [List.drop_of_length_le h1] at h; cases h
  rw [List.drop_eq_getElem_cons hl] at h
  refine ⟨?_, hl⟩
  simp only [List.cons.injEq] at h
  simp [ix, hl, h.1]
theorem byteP_head (c : UInt8) : ∃ a r, byteP c = a :: r ∧ a ≠ 34 := by
  unfold byteP
  repeat' split
  all_goals first
    | exact ⟨_, _, rfl, by decide⟩
    | exact ⟨_, _, rfl, fun h => by simp_all⟩
theorem quote_drop (b : List UInt8) (i : Nat) (hi : i ≤ b.length) : (quoteP b).drop (1 + ((b.take i).flatMap byteP).length) = (b.drop i).flatMap byteP ++ [34] := by
  have h : b.flatMap byteP = (b.take i).flatMap byteP ++ (b.drop i).flatMap byteP := by rw [← List.flatMap_append, List.take_append_drop]
  unfold quoteP
  rw [h, Nat.add_comm, List.cons_append, List.drop_succ_cons, List.append_assoc, List.drop_left]
theorem u8of_nat (c : UInt8) : u8of ((c.toNat : Nat) : Int) = c := by unfold u8of; simp
theorem unquote_quote (fuel : Nat) (b : List UInt8) (hf : b.length < fuel) (hb : b.length ≤ 1000000000) : F_unquote fuel (quoteP b) = some (b, ((quoteP b).length : Int), 0) := by
  have hfl := flat_len b
  have hql : (quoteP b).length = (b.flatMap byteP).length + 2 := by simp [quoteP]
  unfold F_unquote
  refine Ok.eq (ok_bif (fun h => by simp [quoteP] at h) (fun _ => ok_chk (by omega) (ok_letE fun x hx => ok_bif (fun h => ?_) (fun _ => ?_))))
  · have : x = 34 := by rw [← hx]; rfl
    subst this; simp at h
  refine ok_cut (fun _ => False) ?_ (fun _ h => h.elim)
  refine ok_loop (fun s => ∃ i : Nat, i ≤ b.length ∧ s.1 = b.take i ∧ s.2 = ((1 + ((b.take i).flatMap byteP).length : Nat) : Int)) (fun s => b.length - s.1.length) (fun s hT => ?_) _ _ (by simp; omega) ⟨0, by omega, by simp, by simp⟩
  obtain ⟨i, hi, h1, h2⟩ := hT
  obtain ⟨out, at'⟩ := s
  simp only at h1 h2
  subst h1 h2
  have hd := quote_drop b i hi
  have htl : (b.take i).length = i := by simp; omega
  by_cases e : i = b.length
  · subst e
    rw [List.drop_length] at hd
    obtain ⟨k1, k2⟩ := ix_drop (show (quoteP b).drop _ = 34 :: [] from hd)
    rw [List.take_length] at k1 k2 ⊢
    refine ok_bif (fun _ => ?_) (fun h => ?_)
    · refine ok_chk (by omega) (ok_letE fun y hy => ok_bif (fun _ => ok_chk (by omega) (ok_some ?_)) (fun h => ?_))
      · show (_, _, _) = _
        simp only [Prod.mk.injEq, true_and, and_true]
        omega
      · rw [← hy, k1] at h; simp at h
    · have := of_decide_eq_false h; simp only at this; omega
  · have hlt : i < b.length := by omega
    rw [List.drop_eq_getElem_cons hlt, List.flatMap_cons, List.append_assoc] at hd
    obtain ⟨a, r, ha, hne⟩ := byteP_head b[i]
    have hd' := hd
    rw [ha, List.cons_append] at hd'
    obtain ⟨k1, k2⟩ := ix_drop hd'
    have hbl := byteP_len b[i]
    refine ok_bif (fun _ => ?_) (fun h => ?_)
    · refine ok_chk (by omega) (ok_letE fun y hy => ok_bif (fun h => ?_) (fun _ => ok_chk (by omega) (ok_letE fun z hz => ?_)))
      · rw [← hy, k1] at h
        exfalso; apply hne
        apply UInt8.toNat_inj.1
        have := (beq_iff_eq).1 h
        show a.toNat = 34
        omega
      · have hz' : z = byteP b[i] ++ ((b.drop (i + 1)).flatMap byteP ++ [34]) := by
          rw [← hz, sub_drop' _ _ (by omega), hd]
        subst hz'
        rw [readbyte_byte, bindE_some]
        refine ok_bif (fun h => by simp at h) (fun _ => ok_chk (u8n_bnd _) (ok_chk (by simp only [htl, List.length_cons, List.length_nil]; omega) (ok_chk ?_ (ok_some ⟨⟨i + 1, by omega, ?_, ?_⟩, ?_⟩))))
        · simp only; omega
        · simp only [u8of_nat]; rw [List.take_succ_eq_append_getElem hlt]
        · simp only; rw [List.take_succ_eq_append_getElem hlt, List.flatMap_append]; simp; omega
        · simp only [List.length_append, htl, List.length_cons, List.length_nil]; omega
    · have := of_decide_eq_false h; simp only at this; omega
theorem unquote_ok (fuel : Nat) (t : List UInt8) (hf : t.length < fuel) (hb : t.length ≤ 1000000000) : Ok (fun r => r.1.length ≤ t.length) (F_unquote fuel t) := by
  unfold F_unquote
  refine ok_bif (fun _ => ok_some (Nat.zero_le _)) (fun h => ?_)
  have h0 : 0 < t.length := by
    cases t with
    | nil => simp at h
    | cons => simp
  refine ok_chk (by omega) (ok_letE fun x hx => ok_bif (fun _ => ok_some (Nat.zero_le _)) (fun _ => ?_))
  refine ok_cut (fun _ => True) ?_ (fun _ _ => ok_some (Nat.zero_le _))
  refine ok_loop (fun (s : List UInt8 × Int) => 1 ≤ s.2 ∧ s.2 ≤ (t.length : Int) ∧ (s.1.length : Int) + 1 ≤ s.2) (fun s => t.length - s.2.toNat) (fun s hT => ?_) _ _ (by simp; omega) ⟨by decide, by omega, by simp⟩
  obtain ⟨out, at'⟩ := s
  obtain ⟨h1, h2, h3⟩ := hT
  simp only at h1 h2 h3
  refine ok_bif (fun hc => ?_) (fun _ => ok_some trivial)
  have hc := of_decide_eq_true hc
  simp only at hc
  refine ok_chk ⟨by simp only; omega, hc⟩ (ok_letE fun y hy => ok_bif (fun _ => ok_chk (by simp only; omega) (ok_some (by show out.length ≤ _; omega))) (fun _ => ok_chk (by simp only; omega) (ok_letE fun z hz => ?_)))
  have hzl : z.length = t.length - at'.toNat := by
    obtain ⟨n, rfl⟩ : ∃ n : Nat, at' = (n : Int) := ⟨at'.toNat, by omega⟩
    rw [← hz]
    simp only
    rw [sub_drop' _ _ (by omega), List.length_drop, Int.toNat_natCast]
  refine ok_bindE (readbyte_ok z) (fun a ⟨g1, g2⟩ => ok_bif (fun _ => ok_some (Nat.zero_le _)) (fun h => ?_))
  have he : a.2.2 = 0 := by simpa using h
  obtain ⟨g3, g4⟩ := g2 he
  refine ok_chk g1 (ok_chk (by simp only [List.length_cons, List.length_nil]; omega) (ok_chk (by simp only; omega) (ok_some ⟨⟨by simp only; omega, by simp only; omega, by simp only [List.length_append, List.length_cons, List.length_nil]; omega⟩, by simp only; omega⟩)))
end Go.Ab
set_option linter.unusedSimpArgs false
set_option linter.unusedVariables false
namespace Go.Ab
open Go Go.RowKit Go.Fwd Go.Proofs
theorem idx_no (c : UInt8) : ∀ l : List UInt8, c ∉ l → Lib.index l [c] = -1
  | [], _ => rfl
  | b :: l, h => by
    have h1 : ¬ c = b := fun e => h (by simp [e])
    have h2 : c ∉ l := fun e => h (by simp [e])
    unfold Lib.index
    rw [idx_no c l h2]
    simp [List.isPrefixOf, h1]
theorem idx_at (c : UInt8) (r : List UInt8) : ∀ a : List UInt8, c ∉ a → Lib.index (a ++ c :: r) [c] = (a.length : Int)
  | [], _ => by simp [Lib.index, List.isPrefixOf]
  | b :: a, h => by
    have h1 : ¬ c = b := fun e => h (by simp [e])
    have h2 : c ∉ a := fun e => h (by simp [e])
    have := idx_at c r a h2
    rw [List.cons_append]
    unfold Lib.index
    rw [this]
    have h3 : ¬ ((a.length : Int) = -1) := by omega
    simp [List.isPrefixOf, h1, h3]
theorem cut_no {c : UInt8} {l : List UInt8} (h : c ∉ l) : Lib.cut l [c] = (l, [], false) := by
  unfold Lib.cut; rw [idx_no c l h]; rfl
theorem cut_at {c : UInt8} {a r : List UInt8} (h : c ∉ a) : Lib.cut (a ++ c :: r) [c] = (a, r, true) := by
  unfold Lib.cut; rw [idx_at c r a h]
  rw [if_pos (by omega)]
  simp
theorem cut_says (c : UInt8) (l : List UInt8) : ((Lib.cut l [c]).2.2 = true ∧ l = (Lib.cut l [c]).1 ++ c :: (Lib.cut l [c]).2.1) ∨ Lib.cut l [c] = (l, [], false) := by
  by_cases h : c ∈ l
  · obtain ⟨a, r, h1, h2⟩ : ∃ a r, l = a ++ c :: r ∧ c ∉ a := by
      induction l with
      | nil => simp at h
      | cons b l ih =>
        by_cases e : c = b
        · exact ⟨[], l, by simp [e], by simp⟩
        · obtain ⟨a, r, k1, k2⟩ := ih (by simpa [e] using h)
          exact ⟨b :: a, r, by simp [k1], by simp [e, k2]⟩
    subst h1
    rw [cut_at h2]
    exact .inl ⟨rfl, rfl⟩
  · exact .inr (cut_no h)
theorem cut_len (c : UInt8) (l : List UInt8) : (Lib.cut l [c]).1.length ≤ l.length ∧ (Lib.cut l [c]).2.1.length ≤ l.length := by
  rcases cut_says c l with ⟨_, h⟩ | h
  · have := congrArg List.length h
    simp only [List.length_append, List.length_cons] at this
    omega
  · rw [h]; simp
theorem dig_mem (u : Nat) : ∀ x ∈ Lib.decDigits u, 48 ≤ x.toNat ∧ x.toNat ≤ 57 := by
  induction u using Nat.strongRecOn with
  | ind u ih =>
    intro x hx
    rw [Lib.decDigits] at hx
    split at hx
    · rename_i h
      have : x = UInt8.ofNat (48 + u) := by simpa using hx
      subst this
      simp; omega
    · rename_i h
      rcases List.mem_append.1 hx with hx | hx
      · exact ih (u / 10) (by omega) x hx
      · have : x = UInt8.ofNat (48 + u % 10) := by simpa using hx
        subst this
        simp; omega
theorem dig_len : ∀ (k u : Nat), u < 10 ^ (k + 1) → (Lib.decDigits u).length ≤ k + 1
  | 0, u, h => by rw [Lib.decDigits_one (by simpa using h)]; simp
  | k + 1, u, h => by
    rw [Lib.decDigits]
    split
    · simp
    · have := dig_len k (u / 10) (by rw [Nat.pow_succ] at h; omega)
      simp; omega
theorem dec_app : ∀ (l m : List UInt8) (a : Nat), Lib.decFrom a (l ++ m) = (Lib.decFrom a l).bind fun n => Lib.decFrom n m
  | [], m, a => rfl
  | b :: l, m, a => by
    simp only [List.cons_append, Lib.decFrom]
    cases h : Lib.digitVal b with
    | none => rfl
    | some d => exact dec_app l m _
theorem dig_val {d : Nat} (h : d < 10) : Lib.digitVal (UInt8.ofNat (48 + d)) = some d := by
  unfold Lib.digitVal
  have : (UInt8.ofNat (48 + d)).toNat = 48 + d := by simp; omega
  rw [this, if_pos (by omega)]
  congr 1; omega
theorem dec_dig (u : Nat) : Lib.decFrom 0 (Lib.decDigits u) = some u := by
  induction u using Nat.strongRecOn with
  | ind u ih =>
    rw [Lib.decDigits]
    split
    · rename_i h
      simp only [Lib.decFrom, dig_val h, Nat.zero_mul, Nat.zero_add]
    · rename_i h
      rw [dec_app, ih (u / 10) (by omega)]
      simp only [Option.bind_some, Lib.decFrom, dig_val (show u % 10 < 10 by omega), Option.some.injEq]
      omega
theorem dig_ne (u : Nat) : ∃ b r, Lib.decDigits u = b :: r := by
  cases h : Lib.decDigits u with
  | nil =>
    rw [Lib.decDigits] at h
    split at h <;> simp at h
  | cons b r => exact ⟨b, r, rfl⟩
theorem atoi_dig (u : Nat) : Lib.atoi (Lib.decDigits u) = some (u : Int) := by
  obtain ⟨b, r, h⟩ := dig_ne u
  have hm := dig_mem u b (by rw [h]; simp)
  have hd := dec_dig u
  rw [h] at hd ⊢
  have h1 : ¬ b = 45 := fun e => by subst e; simp at hm
  have h2 : ¬ b = 43 := fun e => by subst e; simp at hm
  simp [Lib.atoi, h1, h2, Lib.decNat, hd]
theorem itoa_pos {n : Int} (h : 0 ≤ n) : Lib.itoa n = Lib.decDigits n.toNat := by unfold Lib.itoa; rw [if_neg (by omega)]
theorem atoi_itoa {n : Int} (h : 0 ≤ n ∧ n < 1000000000000) : atoiP (Lib.itoa n) = n := by
  rw [itoa_pos h.1]
  have hl := dig_len 11 n.toNat (by omega)
  unfold atoiP
  rw [Lib.atoiAll_short _ (by omega), atoi_dig]
  simp only [Lib.NumEnd.ofOption]
  omega
theorem itoa_mem {n : Int} (h : 0 ≤ n) : ∀ x ∈ Lib.itoa n, 48 ≤ x.toNat ∧ x.toNat ≤ 57 := by rw [itoa_pos h]; exact dig_mem _
theorem atoi_bnd (l : List UInt8) : -9223372036854775808 ≤ atoiP l ∧ atoiP l < 9223372036854775808 := by
  unfold atoiP
  split
  · rename_i v hv; have := Lib.atoiAll_bounds hv; omega
  · omega
  · unfold Lib.atoiSat; split <;> omega
theorem itoa_no {n : Int} (h : 0 ≤ n) (c : UInt8) (hc : c.toNat < 45) : c ∉ Lib.itoa n := fun hm => by have := itoa_mem h c hm; omega
theorem nameE_no (k : Int) (h : 1 ≤ k ∧ k ≤ 5) : (10 : UInt8) ∉ nameE k ∧ (32 : UInt8) ∉ nameE k := by
  have : k = 1 ∨ k = 2 ∨ k = 3 ∨ k = 4 ∨ k = 5 := by omega
  rcases this with rfl | rfl | rfl | rfl | rfl <;> decide
theorem kind_no (k : Int) : (10 : UInt8) ∉ (kindAt k).w ∧ (32 : UInt8) ∉ (kindAt k).w := by
  unfold kindAt
  repeat' split
  all_goals (constructor <;> simp)
theorem nameE_inj {i j : Int} (hi : 1 ≤ i ∧ i ≤ 5) (hj : 1 ≤ j ∧ j ≤ 5) (h : nameE i = nameE j) : i = j := by
  have h1 : i = 1 ∨ i = 2 ∨ i = 3 ∨ i = 4 ∨ i = 5 := by omega
  have h2 : j = 1 ∨ j = 2 ∨ j = 3 ∨ j = 4 ∨ j = 5 := by omega
  rcases h1 with rfl | rfl | rfl | rfl | rfl <;> rcases h2 with rfl | rfl | rfl | rfl | rfl <;> first | rfl | (exfalso; revert h; decide)
theorem kind_inj {i j : Int} (hi : 1 ≤ i ∧ i ≤ 3) (hj : 1 ≤ j ∧ j ≤ 3) (h : (kindAt i).w = (kindAt j).w) : i = j := by
  have h1 : i = 1 ∨ i = 2 ∨ i = 3 := by omega
  have h2 : j = 1 ∨ j = 2 ∨ j = 3 := by omega
  rcases h1 with rfl | rfl | rfl <;> rcases h2 with rfl | rfl | rfl <;> first | rfl | (exfalso; revert h; decide)
end Go.Ab
set_option linter.unusedSimpArgs false
set_option linter.unusedVariables false
namespace Go.Ab
open Go Go.RowKit Go.Fwd Go.Proofs
theorem ends_ok (fuel : Nat) (t : List UInt8) (hf : 6 < fuel) (hl : t.length ≤ 1000000000) : Ok (fun r => r.2 = true → endP r.1 = t ∧ endedB r.1 = true ∧ 1 ≤ r.1.k ∧ r.1.k ≤ 5) (F_ends fuel t) := by
  unfold F_ends
  refine ok_chk (by omega) (ok_letE fun x hx => ?_)
  have hcl := cut_len 32 t
  rw [hx] at hcl
  refine ok_cut (fun _ => True) ?_ (fun _ _ => ok_some (fun h => by cases h))
  refine ok_loop (fun (s : Int) => 1 ≤ s ∧ s ≤ 6) (fun s => (6 - s).toNat) (fun s hT => ?_) _ _ (by simp; omega) (by decide)
  refine ok_bif (fun hc => ?_) (fun _ => ok_some trivial)
  have hc := of_decide_eq_true hc
  refine ok_chk (by omega) (ok_letE fun n hn => ok_bif (fun h => ?_) (fun _ => ok_some ?_))
  · have ha := atoi_bnd x.2.1
    refine ok_chk (by omega) (ok_letE fun v hv => ?_)
    rw [hv] at ha
    rw [ended_eq ⟨s, v⟩ (by simp only; omega), bindE_some]
    refine ok_bif (fun he => ?_) (fun _ => ok_some (fun h => by cases h))
    rw [endw_eq ⟨s, v⟩ (by simp only; omega) ha, bindE_some]
    exact ok_some (fun h => ⟨eq_of_beq h, he, by simp only; omega, by simp only; omega⟩)
  · rw [wrap_u8 (by omega) (by omega)]
    exact ⟨by omega, by omega⟩
theorem ends_eq (fuel : Nat) (t w : List UInt8) (e : Ed) (hf : 6 < fuel) (hl : t.length ≤ 1000000000) (hk : 1 ≤ e.k ∧ e.k ≤ 5) (hw : (Lib.cut t [32]).1 = nameE e.k) (hv : atoiP (Lib.cut t [32]).2.1 = e.c) (he : endedB e = true) (ht : endP e = t) : F_ends fuel t = some (e, true) := by
  unfold F_ends
  refine Ok.eq (ok_chk (by omega) (ok_letE fun x hx => ?_))
  have hcl := cut_len 32 t
  rw [hx] at hcl hw hv
  have hb := atoi_bnd x.2.1
  refine ok_cut (fun _ => False) ?_ (fun _ h => h.elim)
  refine ok_loop (fun (s : Int) => 1 ≤ s ∧ s ≤ e.k) (fun s => (6 - s).toNat) (fun s hT => ?_) _ _ (by simp; omega) ⟨by decide, hk.1⟩
  refine ok_bif (fun hc => ?_) (fun h => ?_)
  · refine ok_chk (by omega) (ok_letE fun n hn => ok_bif (fun h => ?_) (fun h => ok_some ?_))
    · have h1 : s = e.k := nameE_inj (by omega) hk (by rw [hn, eq_of_beq h, hw])
      refine ok_chk (by omega) (ok_letE fun v hv' => ?_)
      have h2 : (Ed.mk s v) = e := by rw [h1, ← hv', hv]
      rw [h2, ended_eq e (by omega), bindE_some, he]
      refine ok_bif (fun _ => ?_) (fun h => by cases h)
      rw [endw_eq e (by omega) (by rw [← hv]; exact hb), bindE_some, ht]
      exact ok_some (by simp)
    · have h1 : ¬ s = e.k := fun e' => by rw [← hn, hw, e'] at h; simp at h
      rw [wrap_u8 (by omega) (by omega)]
      exact ⟨by omega, by omega⟩
  · have := of_decide_eq_false h; omega
theorem endedB_k {e : Ed} (h : endedB e = true) : 1 ≤ e.k ∧ e.k ≤ 5 ∧ ((e.k = 2 ∧ 0 ≤ e.c ∧ e.c ≤ 255) ∨ (e.k ≠ 2 ∧ e.c = 0)) := by
  unfold endedB at h
  split at h
  · rename_i hk; have := of_decide_eq_true h; exact ⟨by omega, by omega, .inl ⟨hk, this.1, this.2⟩⟩
  · rename_i hk; have := of_decide_eq_true h; exact ⟨this.1, this.2.1, .inr ⟨hk, this.2.2⟩⟩
theorem endP_len {e : Ed} (h : endedB e = true) : (endP e).length ≤ 26 := by
  obtain ⟨h1, h2, h3⟩ := endedB_k h
  unfold endP
  split
  · have := Lib.itoa_length_le e.c (by omega) (by omega)
    simp; omega
  · have : e.k = 1 ∨ e.k = 2 ∨ e.k = 3 ∨ e.k = 4 ∨ e.k = 5 := by omega
    rcases this with h | h | h | h | h <;> rw [h] <;> decide
theorem ends_end (fuel : Nat) (e : Ed) (hf : 6 < fuel) (h : endedB e = true) : F_ends fuel (endP e) = some (e, true) := by
  have hl := endP_len h
  obtain ⟨h1, h2, h3⟩ := endedB_k h
  by_cases hk : e.k = 2
  · obtain ⟨_, c1, c2⟩ : e.k = 2 ∧ 0 ≤ e.c ∧ e.c ≤ 255 := by omega
    have he : endP e = [101, 120, 105, 116] ++ 32 :: Lib.itoa e.c := by unfold endP; rw [if_pos hk]; rfl
    have hc := cut_at (c := 32) (a := [101, 120, 105, 116]) (r := Lib.itoa e.c) (by decide)
    rw [← he] at hc
    exact ends_eq fuel _ [] e hf (by omega) ⟨h1, h2⟩ (by rw [hc, hk]; rfl) (by rw [hc]; exact atoi_itoa (by omega)) h rfl
  · have he : endP e = nameE e.k := by unfold endP; rw [if_neg hk]
    have hc := cut_no (c := 32) (l := nameE e.k) (nameE_no e.k ⟨h1, h2⟩).2
    have c0 : e.c = 0 := by omega
    exact ends_eq fuel _ [] e hf (by omega) ⟨h1, h2⟩ (by rw [he, hc]) (by rw [he, hc, c0]; rfl) h rfl
theorem line_cut (e : En) : Lib.cut (lineP e) [32] = ((kindAt e.k).w, (if e.k = 1 then quoteP e.b else Lib.itoa e.fr ++ 32 :: Lib.itoa e.to), true) := cut_at (kind_no e.k).2
theorem entry_ok (fuel : Nat) (t : List UInt8) (hf : 6 < fuel) (hft : t.length < fuel) (hl : t.length ≤ 1000000000) : Ok (fun r => r.2 = true → lineP r.1 = t ∧ 1 ≤ r.1.k ∧ r.1.k ≤ 3) (F_entry fuel t) := by
  unfold F_entry
  refine ok_chk (by omega) (ok_letE fun x hx => ?_)
  have hcl := cut_len 32 t
  rw [hx] at hcl
  refine ok_cut (fun j => 0 ≤ j.k ∧ j.k ≤ 3 ∧ j.fr = 0 ∧ j.to = 0 ∧ j.b = []) ?_ (fun j hj => ?_)
  · refine ok_loop (fun (s : Int × En) => (1 ≤ s.1 ∧ s.1 ≤ 4) ∧ 0 ≤ s.2.k ∧ s.2.k ≤ 3 ∧ s.2.fr = 0 ∧ s.2.to = 0 ∧ s.2.b = []) (fun s => (4 - s.1).toNat) (fun s hT => ?_) _ _ (by simp; omega) (by decide)
    obtain ⟨s, j⟩ := s
    obtain ⟨h1, h2⟩ := hT
    simp only at h1 h2
    refine ok_bif (fun hc => ?_) (fun _ => ok_some h2)
    have hc := of_decide_eq_true hc
    simp only at hc
    refine ok_cut (fun j => 0 ≤ j.k ∧ j.k ≤ 3 ∧ j.fr = 0 ∧ j.to = 0 ∧ j.b = []) ?_ (fun j' hj => ok_some ?_)
    · refine ok_chk ⟨h1.1, hc⟩ (ok_bif (fun _ => ok_some ⟨by simp only; omega, by simp only; omega, h2.2.2⟩) (fun _ => ok_some h2))
    · have hw : IntKind.u8.wrap (s + 1) = s + 1 := wrap_u8 (by omega) (by omega)
      simp only [hw]
      exact ⟨⟨⟨by omega, by omega⟩, hj⟩, by omega⟩
  · obtain ⟨k0, k3, f0, t0, b0⟩ := hj
    refine ok_bif (fun _ => ok_some (fun h => by cases h)) (fun hk => ?_)
    have hk0 : ¬ j.k = 0 := by simpa using hk
    refine ok_bif (fun h1 => ?_) (fun h1 => ?_)
    · have h1 : j.k = 1 := eq_of_beq h1
      refine ok_bindE (unquote_ok fuel x.2.1 (by omega) (by omega)) (fun u hu => ok_bif (fun _ => ?_) (fun _ => ok_some (fun h => by cases h)))
      rw [line_eq fuel ⟨j.k, j.fr, j.to, u.1⟩ (by simp only; omega) (by simp only; omega) (by simp only; omega) (by simp only; omega) (by simp only; omega), bindE_some]
      exact ok_some (fun h => ⟨eq_of_beq h, by simp only; omega, k3⟩)
    · have hcl2 := cut_len 32 x.2.1
      refine ok_chk (by omega) (ok_letE fun y hy => ?_)
      rw [hy] at hcl2
      have a1 := atoi_bnd y.1
      have a2 := atoi_bnd y.2.1
      refine ok_chk (by omega) (ok_letE fun v hv => ok_chk (by omega) (ok_letE fun w hw => ?_))
      rw [hv] at a1
      rw [hw] at a2
      rw [line_eq fuel _ (by simp only; omega) (by simp only [b0, List.length_nil]; omega) (by simp only [b0, List.length_nil]; omega) a1 a2, bindE_some]
      exact ok_some (fun h => ⟨eq_of_beq h, by simp only; omega, k3⟩)
theorem right_k {e : En} {a : Int} (ha : 0 ≤ a) (h : rightP e a) : (1 ≤ e.k ∧ e.k ≤ 3) ∧ (0 ≤ e.fr ∧ e.fr ≤ 1073741824) ∧ (0 ≤ e.to ∧ e.to ≤ 1073741824) ∧ e.b.length ≤ 512 ∧ (e.k = 1 → e.fr = 0 ∧ e.to = 0) ∧ (e.k ≠ 1 → e.b = []) := by
  rcases h with ⟨h1, h2, h3, h4⟩ | ⟨h1, h2, h3, h4, h5, h6⟩
  · exact ⟨by omega, by omega, by omega, h4, fun _ => ⟨h2, h3⟩, fun h => absurd h1 h⟩
  · exact ⟨by omega, by omega, by omega, by rw [h3]; simp, fun h => by omega, fun _ => h3⟩
theorem line_len {e : En} {a : Int} (ha : 0 ≤ a) (h : rightP e a) : (lineP e).length ≤ 2100 := by
  obtain ⟨h1, h2, h3, h4, h5, h6⟩ := right_k ha h
  have l1 := Lib.itoa_length_le e.fr (by omega) (by omega)
  have l2 := Lib.itoa_length_le e.to (by omega) (by omega)
  have hw := kind_w e.k
  have hfl := flat_len e.b
  have hq : (quoteP e.b).length = (e.b.flatMap byteP).length + 2 := by simp [quoteP]
  unfold lineP
  split
  · simp only [List.length_append, List.length_cons]; omega
  · simp only [List.length_append, List.length_cons]; omega
theorem entry_line (fuel : Nat) (e : En) (a : Int) (ha : 0 ≤ a) (h : rightP e a) (hf : 2200 < fuel) : F_entry fuel (lineP e) = some (e, true) := by
  obtain ⟨h1, h2, h3, h4, h5, h6⟩ := right_k ha h
  have hl := line_len ha h
  have l1 := Lib.itoa_length_le e.fr (by omega) (by omega)
  have l2 := Lib.itoa_length_le e.to (by omega) (by omega)
  have hline := line_eq fuel e h1 (by omega) (by omega) (by omega) (by omega)
  unfold F_entry
  refine Ok.eq (ok_chk (by omega) (ok_letE fun x hx => ?_))
  rw [line_cut] at hx
  subst hx
  refine ok_cut (fun j => j = ⟨e.k, 0, 0, []⟩) ?_ (fun j hj => ?_)
  · refine ok_loop (fun (s : Int × En) => (1 ≤ s.1 ∧ s.1 ≤ 4) ∧ s.2 = ⟨if e.k < s.1 then e.k else 0, 0, 0, []⟩) (fun s => (4 - s.1).toNat) (fun s hT => ?_) _ _ (by simp; omega) ⟨by decide, by rw [if_neg (by simp only; omega)]⟩
    obtain ⟨s, j⟩ := s
    obtain ⟨g1, g2⟩ := hT
    simp only at g1
    have g2' : j = (⟨if e.k < s then e.k else 0, 0, 0, []⟩ : En) := g2
    clear g2
    subst g2'
    refine ok_bif (fun hc => ?_) (fun hc => ok_some ?_)
    · have hc := of_decide_eq_true hc
      simp only at hc
      have hw : IntKind.u8.wrap (s + 1) = s + 1 := wrap_u8 (by omega) (by omega)
      refine ok_cut (fun j => j = ⟨if e.k < s + 1 then e.k else 0, 0, 0, []⟩) ?_ (fun j' hj => ok_some ?_)
      · refine ok_chk ⟨g1.1, hc⟩ (ok_bif (fun hb => ok_some ?_) (fun hb => ok_some ?_))
        · have : s = e.k := kind_inj ⟨g1.1, hc⟩ h1 (eq_of_beq hb)
          subst this
          simp only
          rw [if_pos (by omega)]
        · have : ¬ s = e.k := fun e' => by simp [e'] at hb
          by_cases hlt : e.k < s
          · show (_ : En) = _
            rw [if_pos hlt, if_pos (by omega)]
          · show (_ : En) = _
            rw [if_neg hlt, if_neg (by omega)]
      · simp only [hw]
        exact ⟨⟨⟨by omega, by omega⟩, hj⟩, by omega⟩
    · have hc := of_decide_eq_false hc
      simp only at hc
      show (_ : En) = _
      rw [if_pos (by omega)]
  · subst hj
    simp only
    refine ok_bif (fun hk => ?_) (fun _ => ?_)
    · have := eq_of_beq hk; omega
    · by_cases k1 : e.k = 1
      · obtain ⟨f0, t0⟩ := h5 k1
        refine ok_bif (fun _ => ?_) (fun hk => by simp [k1] at hk)
        rw [if_pos k1, unquote_quote fuel e.b (by omega) (by omega), bindE_some]
        have he : (⟨e.k, 0, 0, e.b⟩ : En) = e := by
          cases e
          simp only at f0 t0
          rw [f0, t0]
        refine ok_bif (fun _ => ?_) (fun hk => by simp at hk)
        simp only
        rw [he, hline, bindE_some]
        exact ok_some (by simp)
      · have b0 := h6 k1
        refine ok_bif (fun hk => absurd (eq_of_beq hk) k1) (fun _ => ?_)
        rw [if_neg k1]
        have hno := itoa_no h2.1 32 (by decide)
        have hc := cut_at (c := 32) (a := Lib.itoa e.fr) (r := Lib.itoa e.to) hno
        refine ok_chk (by simp only [List.length_append, List.length_cons]; omega) (ok_letE fun y hy => ?_)
        rw [hc] at hy
        subst hy
        refine ok_chk (by simp only; omega) (ok_letE fun v hv => ok_chk (by simp only; omega) (ok_letE fun w hw => ?_))
        simp only at hv hw
        rw [atoi_itoa (by omega)] at hv hw
        subst hv hw
        have he : (⟨e.k, e.fr, e.to, []⟩ : En) = e := by rw [← b0]
        rw [he, hline, bindE_some]
        exact ok_some (by simp)
end Go.Ab
set_option linter.unusedSimpArgs false
set_option linter.unusedVariables false
namespace Go.Ab
open Go Go.RowKit Go.Fwd Go.Proofs
theorem take_succ1 {α : Type} [Enc α] (l : List α) {i : Nat} (h : i < l.length) : l.take (i + 1) = l.take i ++ [ix l (i : Int)] := by
  rw [List.take_succ_eq_append_getElem h]; simp [ix, h]
theorem ixD (l : List En) (i : Nat) : ix l (i : Int) = l.getD i Enc.inh := by simp [ix]
end Go.Ab
set_option linter.unusedSimpArgs false
set_option linter.unusedVariables false
namespace Go.Ab
open Go Go.RowKit Go.Fwd Go.Proofs
theorem dg_at {d : Int} (h : 0 ≤ d ∧ d < 10) : sub ([48, 49, 50, 51, 52, 53, 54, 55, 56, 57] : List UInt8) d (d + 1) = [UInt8.ofNat (48 + d.toNat)] := by
  have : d = 0 ∨ d = 1 ∨ d = 2 ∨ d = 3 ∨ d = 4 ∨ d = 5 ∨ d = 6 ∨ d = 7 ∨ d = 8 ∨ d = 9 := by omega
  rcases this with rfl | rfl | rfl | rfl | rfl | rfl | rfl | rfl | rfl | rfl <;> rfl
theorem dec_eq (m n : Int) (h : 0 ≤ n ∧ n < 9223372036854775808) (hm : n ≤ m) : F_dec m n = some (Lib.itoa n) := by
  unfold F_dec
  refine bif_i (fun hc => ?_) (fun hc => ?_)
  · have hc : n < 10 := of_decide_eq_true hc
    refine chk_i (by omega) (chk_i (by simp; omega) (letE_s ?_))
    rw [dg_at ⟨h.1, hc⟩, itoa_pos h.1, Lib.decDigits_one (by omega)]
  · have hc : ¬ n < 10 := of_decide_eq_false hc
    have ht : Int.tdiv n 10 = n / 10 := Int.tdiv_eq_ediv_of_nonneg h.1
    have hr : Int.tmod n 10 = n % 10 := Int.tmod_eq_emod_of_nonneg h.1
    have hw : IntKind.i64.wrap (n / 10) = n / 10 := wrap_i64 (by omega) (by omega)
    have l1 := Lib.itoa_length_le (n / 10) (by omega) (by omega)
    rw [ht, hr, hw]
    refine chk_i (by omega) (letE_s (chk_i (by omega) (chk_i (by simp; omega) (letE_s ?_))))
    rw [dg_at (by omega)]
    refine chk_i (by simp; omega) ?_
    rw [itoa_pos h.1, itoa_pos (show 0 ≤ n / 10 by omega)]
    conv => rhs; rw [Lib.decDigits]
    rw [dif_neg (by omega), show (n / 10).toNat = n.toNat / 10 by omega, show (n % 10).toNat = n.toNat % 10 by omega]
theorem dec_pureN (k : Nat) : (k : Int) ≤ 9223372036854775808 → ∀ x : Int, 0 ≤ x ∧ x < (k : Int) → Pure (ITP Tryz.prog) Tryz.prog 80 [.raw (.int .i64 x)] (.raw (.string (bs (Lib.itoa x)))) := by
  induction k with
  | zero => intro _ x h; omega
  | succ k ih =>
    intro hk x h
    exact dec_sh (k : Int) x (Lib.itoa x) (fun y hy => ih (by omega) y hy) (dec_eq (k : Int) x (by omega) (by omega))
theorem dec_pure (x : Int) (h : 0 ≤ x ∧ x < 9223372036854775808) : Pure (ITP Tryz.prog) Tryz.prog 80 [.raw (.int .i64 x)] (.raw (.string (bs (Lib.itoa x)))) := dec_pureN (x.toNat + 1) (by omega) x (by omega)
end Go.Ab

