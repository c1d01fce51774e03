/-
  trace: lines are read back; what is read of a line.
-/
import Derived.Test.YtcdmdnadilafhaaDoorZtPx
import Derived.Lib.AtoiTie
set_option linter.unusedSimpArgs false
set_option linter.unusedVariables false
namespace Go.Ab
open Go Go.RowKit Go.Fwd Go.Proofs
theorem sub_drop' {α : Type} (l : List α) (n : Nat) (hn : n ≤ l.length) : sub l (n : Int) (l.length : Int) = l.drop n := by
  simp only [sub, Int.toNat_natCast]
  exact List.take_of_length_le (by simp)
theorem ix_drop {α : Type} [Enc α] {t r : List α} {n : Nat} {a : α} (h : t.drop n = a :: r) : ix t (n : Int) = a ∧ n < t.length := by
  have hl : n < t.length := by
    rcases Nat.lt_or_ge n t.length with h1 | h1
    · exact h1
    · rw [List.drop_of_length_le h1] at h; cases h
  rw [List.drop_eq_getElem_cons hl] at h
  refine ⟨?_, hl⟩
  simp only [List.cons.injEq] at h
  simp [ix, hl, h.1]
theorem byteP_head (c : UInt8) : ∃ a r, byteP c = a :: r ∧ a ≠ 34 := by
  unfold byteP
  repeat' split
  all_goals first
    | exact ⟨_, _, rfl, by decide⟩
    | exact ⟨_, _, rfl, fun h => by simp_all⟩
theorem quote_drop (b : List UInt8) (i : Nat) (hi : i ≤ b.length) : (quoteP b).drop (1 + ((b.take i).flatMap byteP).length) = (b.drop i).flatMap byteP ++ [34] := by
  have h : b.flatMap byteP = (b.take i).flatMap byteP ++ (b.drop i).flatMap byteP := by rw [← List.flatMap_append, List.take_append_drop]
  unfold quoteP
  rw [h, Nat.add_comm, List.cons_append, List.drop_succ_cons, List.append_assoc, List.drop_left]
theorem u8of_nat (c : UInt8) : u8of ((c.toNat : Nat) : Int) = c := by unfold u8of; simp
theorem unquote_quote (fuel : Nat) (b : List UInt8) (hf : b.length < fuel) (hb : b.length ≤ 1000000000) : F_unquote fuel (quoteP b) = some (b, ((quoteP b).length : Int), 0) := by
  have hfl := flat_len b
  have hql : (quoteP b).length = (b.flatMap byteP).length + 2 := by simp [quoteP]
  unfold F_unquote
  refine Ok.eq (ok_bif (fun h => by simp [quoteP] at h) (fun _ => ok_chk (by omega) (ok_letE fun x hx => ok_bif (fun h => ?_) (fun _ => ?_))))
  · have : x = 34 := by rw [← hx]; rfl
    subst this; simp at h
  refine ok_cut (fun _ => False) ?_ (fun _ h => h.elim)
  refine ok_loop (fun s => ∃ i : Nat, i ≤ b.length ∧ s.1 = b.take i ∧ s.2 = ((1 + ((b.take i).flatMap byteP).length : Nat) : Int)) (fun s => b.length - s.1.length) (fun s hT => ?_) _ _ (by simp; omega) ⟨0, by omega, by simp, by simp⟩
  obtain ⟨i, hi, h1, h2⟩ := hT
  obtain ⟨out, at'⟩ := s
  simp only at h1 h2
  subst h1 h2
  have hd := quote_drop b i hi
  have htl : (b.take i).length = i := by simp; omega
  by_cases e : i = b.length
  · subst e
    rw [List.drop_length] at hd
    obtain ⟨k1, k2⟩ := ix_drop (show (quoteP b).drop _ = 34 :: [] from hd)
    rw [List.take_length] at k1 k2 ⊢
    refine ok_bif (fun _ => ?_) (fun h => ?_)
    · refine ok_chk (by omega) (ok_letE fun y hy => ok_bif (fun _ => ok_chk (by omega) (ok_some ?_)) (fun h => ?_))
      · show (_, _, _) = _
        simp only [Prod.mk.injEq, true_and, and_true]
        omega
      · rw [← hy, k1] at h; simp at h
    · have := of_decide_eq_false h; simp only at this; omega
  · have hlt : i < b.length := by omega
    rw [List.drop_eq_getElem_cons hlt, List.flatMap_cons, List.append_assoc] at hd
    obtain ⟨a, r, ha, hne⟩ := byteP_head b[i]
    have hd' := hd
    rw [ha, List.cons_append] at hd'
    obtain ⟨k1, k2⟩ := ix_drop hd'
    have hbl := byteP_len b[i]
    refine ok_bif (fun _ => ?_) (fun h => ?_)
    · refine ok_chk (by omega) (ok_letE fun y hy => ok_bif (fun h => ?_) (fun _ => ok_chk (by omega) (ok_letE fun z hz => ?_)))
      · rw [← hy, k1] at h
        exfalso; apply hne
        apply UInt8.toNat_inj.1
        have := (beq_iff_eq).1 h
        show a.toNat = 34
        omega
      · have hz' : z = byteP b[i] ++ ((b.drop (i + 1)).flatMap byteP ++ [34]) := by
          rw [← hz, sub_drop' _ _ (by omega), hd]
        subst hz'
        rw [readbyte_byte, bindE_some]
        refine ok_bif (fun h => by simp at h) (fun _ => ok_chk (u8n_bnd _) (ok_chk (by simp only [htl, List.length_cons, List.length_nil]; omega) (ok_chk ?_ (ok_some ⟨⟨i + 1, by omega, ?_, ?_⟩, ?_⟩))))
        · simp only; omega
        · simp only [u8of_nat]; rw [List.take_succ_eq_append_getElem hlt]
        · simp only; rw [List.take_succ_eq_append_getElem hlt, List.flatMap_append]; simp; omega
        · simp only [List.length_append, htl, List.length_cons, List.length_nil]; omega
    · have := of_decide_eq_false h; simp only at this; omega
/-- Whatever is unquoted. -/
theorem unquote_ok (fuel : Nat) (t : List UInt8) (hf : t.length < fuel) (hb : t.length ≤ 1000000000) : Ok (fun r => r.1.length ≤ t.length) (F_unquote fuel t) := by
  unfold F_unquote
  refine ok_bif (fun _ => ok_some (Nat.zero_le _)) (fun h => ?_)
  have h0 : 0 < t.length := by
    cases t with
    | nil => simp at h
    | cons => simp
  refine ok_chk (by omega) (ok_letE fun x hx => ok_bif (fun _ => ok_some (Nat.zero_le _)) (fun _ => ?_))
  refine ok_cut (fun _ => True) ?_ (fun _ _ => ok_some (Nat.zero_le _))
  refine ok_loop (fun (s : List UInt8 × Int) => 1 ≤ s.2 ∧ s.2 ≤ (t.length : Int) ∧ (s.1.length : Int) + 1 ≤ s.2) (fun s => t.length - s.2.toNat) (fun s hT => ?_) _ _ (by simp; omega) ⟨by decide, by omega, by simp⟩
  obtain ⟨out, at'⟩ := s
  obtain ⟨h1, h2, h3⟩ := hT
  simp only at h1 h2 h3
  refine ok_bif (fun hc => ?_) (fun _ => ok_some trivial)
  have hc := of_decide_eq_true hc
  simp only at hc
  refine ok_chk ⟨by simp only; omega, hc⟩ (ok_letE fun y hy => ok_bif (fun _ => ok_chk (by simp only; omega) (ok_some (by show out.length ≤ _; omega))) (fun _ => ok_chk (by simp only; omega) (ok_letE fun z hz => ?_)))
  have hzl : z.length = t.length - at'.toNat := by
    obtain ⟨n, rfl⟩ : ∃ n : Nat, at' = (n : Int) := ⟨at'.toNat, by omega⟩
    rw [← hz]
    simp only
    rw [sub_drop' _ _ (by omega), List.length_drop, Int.toNat_natCast]
  refine ok_bindE (readbyte_ok z) (fun a ⟨g1, g2⟩ => ok_bif (fun _ => ok_some (Nat.zero_le _)) (fun h => ?_))
  have he : a.2.2 = 0 := by simpa using h
  obtain ⟨g3, g4⟩ := g2 he
  refine ok_chk g1 (ok_chk (by simp only [List.length_cons, List.length_nil]; omega) (ok_chk (by simp only; omega) (ok_some ⟨⟨by simp only; omega, by simp only; omega, by simp only [List.length_append, List.length_cons, List.length_nil]; omega⟩, by simp only; omega⟩)))
end Go.Ab
set_option linter.unusedSimpArgs false
set_option linter.unusedVariables false
namespace Go.Ab
open Go Go.RowKit Go.Fwd Go.Proofs
theorem idx_no (c : UInt8) : ∀ l : List UInt8, c ∉ l → Lib.index l [c] = -1
  | [], _ => rfl
  | b :: l, h => by
    have h1 : ¬ c = b := fun e => h (by simp [e])
    have h2 : c ∉ l := fun e => h (by simp [e])
    unfold Lib.index
    rw [idx_no c l h2]
    simp [List.isPrefixOf, h1]
theorem idx_at (c : UInt8) (r : List UInt8) : ∀ a : List UInt8, c ∉ a → Lib.index (a ++ c :: r) [c] = (a.length : Int)
  | [], _ => by simp [Lib.index, List.isPrefixOf]
  | b :: a, h => by
    have h1 : ¬ c = b := fun e => h (by simp [e])
    have h2 : c ∉ a := fun e => h (by simp [e])
    have := idx_at c r a h2
    rw [List.cons_append]
    unfold Lib.index
    rw [this]
    have h3 : ¬ ((a.length : Int) = -1) := by omega
    simp [List.isPrefixOf, h1, h3]
theorem cut_no {c : UInt8} {l : List UInt8} (h : c ∉ l) : Lib.cut l [c] = (l, [], false) := by
  unfold Lib.cut; rw [idx_no c l h]; rfl
theorem cut_at {c : UInt8} {a r : List UInt8} (h : c ∉ a) : Lib.cut (a ++ c :: r) [c] = (a, r, true) := by
  unfold Lib.cut; rw [idx_at c r a h]
  rw [if_pos (by omega)]
  simp
/-- What a cut says. -/
theorem cut_says (c : UInt8) (l : List UInt8) : ((Lib.cut l [c]).2.2 = true ∧ l = (Lib.cut l [c]).1 ++ c :: (Lib.cut l [c]).2.1) ∨ Lib.cut l [c] = (l, [], false) := by
  by_cases h : c ∈ l
  · obtain ⟨a, r, h1, h2⟩ : ∃ a r, l = a ++ c :: r ∧ c ∉ a := by
      induction l with
      | nil => simp at h
      | cons b l ih =>
        by_cases e : c = b
        · exact ⟨[], l, by simp [e], by simp⟩
        · obtain ⟨a, r, k1, k2⟩ := ih (by simpa [e] using h)
          exact ⟨b :: a, r, by simp [k1], by simp [e, k2]⟩
    subst h1
    rw [cut_at h2]
    exact .inl ⟨rfl, rfl⟩
  · exact .inr (cut_no h)
theorem cut_len (c : UInt8) (l : List UInt8) : (Lib.cut l [c]).1.length ≤ l.length ∧ (Lib.cut l [c]).2.1.length ≤ l.length := by
  rcases cut_says c l with ⟨_, h⟩ | h
  · have := congrArg List.length h
    simp only [List.length_append, List.length_cons] at this
    omega
  · rw [h]; simp
theorem dig_mem (u : Nat) : ∀ x ∈ Lib.decDigits u, 48 ≤ x.toNat ∧ x.toNat ≤ 57 := by
  induction u using Nat.strongRecOn with
  | ind u ih =>
    intro x hx
    rw [Lib.decDigits] at hx
    split at hx
    · rename_i h
      have : x = UInt8.ofNat (48 + u) := by simpa using hx
      subst this
      simp; omega
    · rename_i h
      rcases List.mem_append.1 hx with hx | hx
      · exact ih (u / 10) (by omega) x hx
      · have : x = UInt8.ofNat (48 + u % 10) := by simpa using hx
        subst this
        simp; omega
theorem dig_len : ∀ (k u : Nat), u < 10 ^ (k + 1) → (Lib.decDigits u).length ≤ k + 1
  | 0, u, h => by rw [Lib.decDigits_one (by simpa using h)]; simp
  | k + 1, u, h => by
    rw [Lib.decDigits]
    split
    · simp
    · have := dig_len k (u / 10) (by rw [Nat.pow_succ] at h; omega)
      simp; omega
theorem dec_app : ∀ (l m : List UInt8) (a : Nat), Lib.decFrom a (l ++ m) = (Lib.decFrom a l).bind fun n => Lib.decFrom n m
  | [], m, a => rfl
  | b :: l, m, a => by
    simp only [List.cons_append, Lib.decFrom]
    cases h : Lib.digitVal b with
    | none => rfl
    | some d => exact dec_app l m _
theorem dig_val {d : Nat} (h : d < 10) : Lib.digitVal (UInt8.ofNat (48 + d)) = some d := by
  unfold Lib.digitVal
  have : (UInt8.ofNat (48 + d)).toNat = 48 + d := by simp; omega
  rw [this, if_pos (by omega)]
  congr 1; omega
theorem dec_dig (u : Nat) : Lib.decFrom 0 (Lib.decDigits u) = some u := by
  induction u using Nat.strongRecOn with
  | ind u ih =>
    rw [Lib.decDigits]
    split
    · rename_i h
      simp only [Lib.decFrom, dig_val h, Nat.zero_mul, Nat.zero_add]
    · rename_i h
      rw [dec_app, ih (u / 10) (by omega)]
      simp only [Option.bind_some, Lib.decFrom, dig_val (show u % 10 < 10 by omega), Option.some.injEq]
      omega
theorem dig_ne (u : Nat) : ∃ b r, Lib.decDigits u = b :: r := by
  cases h : Lib.decDigits u with
  | nil =>
    rw [Lib.decDigits] at h
    split at h <;> simp at h
  | cons b r => exact ⟨b, r, rfl⟩
theorem atoi_dig (u : Nat) : Lib.atoi (Lib.decDigits u) = some (u : Int) := by
  obtain ⟨b, r, h⟩ := dig_ne u
  have hm := dig_mem u b (by rw [h]; simp)
  have hd := dec_dig u
  rw [h] at hd ⊢
  have h1 : ¬ b = 45 := fun e => by subst e; simp at hm
  have h2 : ¬ b = 43 := fun e => by subst e; simp at hm
  simp [Lib.atoi, h1, h2, Lib.decNat, hd]
theorem itoa_pos {n : Int} (h : 0 ≤ n) : Lib.itoa n = Lib.decDigits n.toNat := by unfold Lib.itoa; rw [if_neg (by omega)]
theorem atoi_itoa {n : Int} (h : 0 ≤ n ∧ n < 1000000000000) : atoiP (Lib.itoa n) = n := by
  rw [itoa_pos h.1]
  have hl := dig_len 11 n.toNat (by omega)
  unfold atoiP
  rw [Lib.atoiAll_short _ (by omega), atoi_dig]
  simp only [Lib.NumEnd.ofOption]
  omega
theorem itoa_mem {n : Int} (h : 0 ≤ n) : ∀ x ∈ Lib.itoa n, 48 ≤ x.toNat ∧ x.toNat ≤ 57 := by rw [itoa_pos h]; exact dig_mem _
theorem atoi_bnd (l : List UInt8) : -9223372036854775808 ≤ atoiP l ∧ atoiP l < 9223372036854775808 := by
  unfold atoiP
  split
  · rename_i v hv; have := Lib.atoiAll_bounds hv; omega
  · omega
  · unfold Lib.atoiSat; split <;> omega
theorem byteP_no10 (c : UInt8) : (10 : UInt8) ∉ byteP c := of_decide_eq_true (u8_all (fun c => decide ((10 : UInt8) ∉ byteP c)) (by decide +kernel) c)
theorem quote_no10 (b : List UInt8) : (10 : UInt8) ∉ quoteP b := by
  intro h
  unfold quoteP at h
  rcases List.mem_append.1 h with h | h
  · rcases List.mem_cons.1 h with h | h
    · simp at h
    · obtain ⟨c, _, hc⟩ := List.mem_flatMap.1 h
      exact byteP_no10 c hc
  · simp at h
theorem itoa_no {n : Int} (h : 0 ≤ n) (c : UInt8) (hc : c.toNat < 45) : c ∉ Lib.itoa n := fun hm => by have := itoa_mem h c hm; omega
theorem nameE_no (k : Int) (h : 1 ≤ k ∧ k ≤ 5) : (10 : UInt8) ∉ nameE k ∧ (32 : UInt8) ∉ nameE k := by
  have : k = 1 ∨ k = 2 ∨ k = 3 ∨ k = 4 ∨ k = 5 := by omega
  rcases this with rfl | rfl | rfl | rfl | rfl <;> decide
theorem kind_no (k : Int) : (10 : UInt8) ∉ (kindAt k).w ∧ (32 : UInt8) ∉ (kindAt k).w := by
  unfold kindAt
  repeat' split
  all_goals (constructor <;> simp)
theorem nameE_inj {i j : Int} (hi : 1 ≤ i ∧ i ≤ 5) (hj : 1 ≤ j ∧ j ≤ 5) (h : nameE i = nameE j) : i = j := by
  have h1 : i = 1 ∨ i = 2 ∨ i = 3 ∨ i = 4 ∨ i = 5 := by omega
  have h2 : j = 1 ∨ j = 2 ∨ j = 3 ∨ j = 4 ∨ j = 5 := by omega
  rcases h1 with rfl | rfl | rfl | rfl | rfl <;> rcases h2 with rfl | rfl | rfl | rfl | rfl <;> first | rfl | (exfalso; revert h; decide)
theorem name_kind {i : Int} (k : Int) (hi : 1 ≤ i ∧ i ≤ 5) : nameE i ≠ (kindAt k).w := by
  have h1 : i = 1 ∨ i = 2 ∨ i = 3 ∨ i = 4 ∨ i = 5 := by omega
  unfold kindAt
  rcases h1 with rfl | rfl | rfl | rfl | rfl <;> (repeat' split) <;> (simp; try decide)
theorem kind_inj {i j : Int} (hi : 1 ≤ i ∧ i ≤ 3) (hj : 1 ≤ j ∧ j ≤ 3) (h : (kindAt i).w = (kindAt j).w) : i = j := by
  have h1 : i = 1 ∨ i = 2 ∨ i = 3 := by omega
  have h2 : j = 1 ∨ j = 2 ∨ j = 3 := by omega
  rcases h1 with rfl | rfl | rfl <;> rcases h2 with rfl | rfl | rfl <;> first | rfl | (exfalso; revert h; decide)
end Go.Ab

