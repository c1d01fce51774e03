/-
  reparteeref33: numbers and lines: plain.
-/
import Derived.Test.YtcdmdnadilafhaaGreatDoorZyRp
import Derived.Test.YtcdmdnadilafhaaGreatDoorZyRs
set_option linter.unusedSimpArgs false
set_option linter.unusedVariables false
namespace Go.Ab
open Go Go.RowKit Go.Fwd Go.Proofs
def numsP (l : List Int) : List UInt8 := l.flatMap fun n => 32 :: Lib.itoa n
theorem dv_lt {c : UInt8} {d : Nat} (h : Lib.digitVal c = some d) : d < 10 ∧ c = UInt8.ofNat (48 + d) := by
  unfold Lib.digitVal at h
  split at h
  · cases h
    refine ⟨by omega, UInt8.toNat_inj.1 ?_⟩
    simp; omega
  · cases h
theorem dec_canon : ∀ (k : Nat) (ds : List UInt8) (n : Nat), ds.length = k → Lib.decFrom 0 ds = some n → ds ≠ [] → (ds.head? ≠ some 48 ∨ ds.length = 1) → Lib.decDigits n = ds ∧ (1 < ds.length → 10 ≤ n)
  | 0, ds, n, hk, _, hne, _ => absurd (List.length_eq_zero_iff.1 hk) hne
  | k + 1, ds, n, hk, h, hne, hh => by
    obtain ⟨p, c, rfl⟩ : ∃ p c, ds = p ++ [c] := by
      obtain ⟨p, c, h⟩ := (List.eq_nil_or_concat ds).resolve_left hne
      exact ⟨p, c, by simpa using h⟩
    rw [dec_app] at h
    cases hp : Lib.decFrom 0 p with
    | none => rw [hp] at h; cases h
    | some m =>
      rw [hp] at h
      simp only [Option.bind_some, Lib.decFrom] at h
      cases hd : Lib.digitVal c with
      | none => rw [hd] at h; cases h
      | some d =>
        rw [hd] at h
        simp only [Option.some.injEq] at h
        obtain ⟨d1, d2⟩ := dv_lt hd
        by_cases e : p = []
        · subst e
          have hm : m = 0 := by simpa [Lib.decFrom] using hp.symm
          subst hm
          have : n = d := by omega
          subst this
          exact ⟨by rw [Lib.decDigits_one d1, d2]; rfl, fun h => by simp at h⟩
        · have hpl : 0 < p.length := List.length_pos_iff.2 e
          have hhp : p.head? ≠ some 48 := by
            rcases hh with hh | hh
            · rw [List.head?_append] at hh
              obtain ⟨a, q, rfl⟩ := List.exists_cons_of_ne_nil e
              simpa using hh
            · exact absurd (by simpa using hh) e
          obtain ⟨r1, r2⟩ := dec_canon k p m (by simp at hk; omega) hp e (.inl hhp)
          have hm : 1 ≤ m := by
            rcases Nat.lt_or_ge 1 p.length with h1 | h1
            · have := r2 h1; omega
            · obtain ⟨a, rfl⟩ : ∃ a, p = [a] := by
                match p, hpl, h1 with
                | [a], _, _ => exact ⟨a, rfl⟩
              simp only [Lib.decFrom] at hp
              cases ha : Lib.digitVal a with
              | none => rw [ha] at hp; cases hp
              | some v =>
                rw [ha] at hp
                simp only [Option.some.injEq] at hp
                obtain ⟨v1, v2⟩ := dv_lt ha
                have : v ≠ 0 := fun e0 => by subst e0; apply hhp; rw [v2]; rfl
                omega
          have hn : 10 ≤ n := by omega
          refine ⟨?_, fun _ => hn⟩
          rw [Lib.decDigits, dif_neg (by omega), show n / 10 = m by omega, show n % 10 = d by omega, r1, d2]
theorem dig_head (u : Nat) (h : 1 ≤ u) : (Lib.decDigits u).head? ≠ some 48 := by
  induction u using Nat.strongRecOn with
  | ind u ih =>
    rw [Lib.decDigits]
    split
    · rename_i h1
      intro e
      have := congrArg UInt8.toNat (Option.some.inj e)
      simp at this
      omega
    · rename_i h1
      obtain ⟨b, r, e⟩ := dig_ne (u / 10)
      have := ih (u / 10) (by omega) (by omega)
      rw [e] at this ⊢
      simpa using this
theorem dig_nozero (u : Nat) (h : 1 < (Lib.decDigits u).length) : (Lib.decDigits u).head? ≠ some 48 := by
  refine dig_head u ?_
  rcases Nat.eq_zero_or_pos u with rfl | h1
  · rw [Lib.decDigits_one (by decide)] at h; simp at h
  · exact h1
theorem ix_nat {α : Type} [Enc α] (l : List α) (i : Nat) (h : i < l.length) : ix l (i : Int) = l[i] := by simp [ix, h]
theorem ix_nat' {α : Type} [Enc α] (l : List α) (i : Nat) (n : Int) (hn : n = (i : Int)) (h : i < l.length) : ix l n = l[i] := by subst hn; exact ix_nat l i h
theorem rnums_ok (fuel : Nat) (t : List UInt8) (hf : t.length < fuel) (hf2 : 20 < fuel) (ht : t.length ≤ 1000000000) : Ok (fun r => r = [] ∨ (numsP r = t ∧ ∀ n ∈ r, 0 ≤ n ∧ n < 10000000000)) (F_rnums fuel t) := by
  unfold F_rnums
  refine ok_cut (fun r => r = [] ∨ (numsP r = t ∧ ∀ n ∈ r, 0 ≤ n ∧ n < 10000000000)) ?_ (fun r hr => ok_some hr)
  refine ok_loop (fun (s : List Int × Int) => ∃ i : Nat, s.2 = (i : Int) ∧ i ≤ t.length ∧ t.take i = numsP s.1 ∧ s.1.length ≤ i ∧ ∀ n ∈ s.1, 0 ≤ n ∧ n < 10000000000) (fun s => t.length - s.2.toNat) (fun s hT => ?_) _ _ (by simp; omega) ⟨0, rfl, by omega, by simp [numsP], by simp, by simp⟩
  obtain ⟨out, at'⟩ := s
  obtain ⟨i, h1, h2, h3, h4, h5⟩ := hT
  simp only at h1 h3 h4 h5
  subst h1
  refine ok_bif (fun hc => ?_) (fun hc => ?_)
  · have hc : i < t.length := by have := of_decide_eq_true hc; simp only at this; omega
    refine ok_chk (by simp only; omega) (ok_letE fun x hx => ok_bif (fun _ => ok_some (.inl rfl)) (fun h32 => ok_chk (by simp only; omega) ?_))
    have hx32 : t[i] = 32 := by
      have h0 : ix t (i : Int) = t[i] := by simp [ix, hc]
      have h32 : (((x.toNat : Nat) : Int) != 32) = false := h32
      have := bne_eq_false_iff_eq.1 h32
      rw [← h0, hx]
      exact UInt8.toNat_inj.1 (by show x.toNat = 32; omega)
    have hl : (t.drop (i + 1)).length = t.length - (i + 1) := List.length_drop
    obtain ⟨l, hle⟩ : ∃ l, l = t.drop (i + 1) := ⟨_, rfl⟩
    rw [← hle] at hl
    refine ok_cut (fun (s : Int × Int) => ∃ k n : Nat, s.2 = ((i + 1 + k : Nat) : Int) ∧ s.1 = (n : Int) ∧ k ≤ l.length ∧ k ≤ 10 ∧ Lib.decFrom 0 (l.take k) = some n) ?_ (fun s hs => ?_)
    · refine ok_loop (fun (s : Int × Int) => ∃ k n : Nat, s.2 = ((i + 1 + k : Nat) : Int) ∧ s.1 = (n : Int) ∧ k ≤ l.length ∧ k ≤ 10 ∧ Lib.decFrom 0 (l.take k) = some n) (fun s => t.length - s.2.toNat) (fun s hU => ?_) _ _ (by simp; omega) ⟨0, 0, by simp, rfl, by omega, by omega, rfl⟩
      obtain ⟨nn, kk⟩ := s
      obtain ⟨k, n, g1, g2, g3, g4, g5⟩ := hU
      simp only at g1 g2
      subst g1 g2
      have hlt := Lib.decFrom_lt _ _ _ g5
      have hn10 : n < 10000000000 := by
        have h1 : (l.take k).length ≤ 10 := by simp; omega
        have h2 : 10 ^ (l.take k).length ≤ 10 ^ 10 := Nat.pow_le_pow_right (by decide) h1
        have h3 : (10 : Nat) ^ 10 = 10000000000 := by decide
        omega
      have stop : Ok (cutQ (fun s' : Int × Int => (∃ k n : Nat, s'.2 = ((i + 1 + k : Nat) : Int) ∧ s'.1 = (n : Int) ∧ k ≤ l.length ∧ k ≤ 10 ∧ Lib.decFrom 0 (l.take k) = some n) ∧ t.length - s'.2.toNat < t.length - ((i + 1 + k : Nat) : Int).toNat) (cutQ (fun (s : Int × Int) => ∃ k n : Nat, s.2 = ((i + 1 + k : Nat) : Int) ∧ s.1 = (n : Int) ∧ k ≤ l.length ∧ k ≤ 10 ∧ Lib.decFrom 0 (l.take k) = some n) (cutQ (fun s' : List Int × Int => (∃ i : Nat, s'.2 = (i : Int) ∧ i ≤ t.length ∧ t.take i = numsP s'.1 ∧ s'.1.length ≤ i ∧ ∀ n ∈ s'.1, 0 ≤ n ∧ n < 10000000000) ∧ t.length - s'.2.toNat < t.length - ((i : Nat) : Int).toNat) (cutQ (fun r : List Int => r = [] ∨ (numsP r = t ∧ ∀ n ∈ r, 0 ≤ n ∧ n < 10000000000)) (fun r : List Int => r = [] ∨ (numsP r = t ∧ ∀ n ∈ r, 0 ≤ n ∧ n < 10000000000)))))) (some (Sum.inr (Sum.inl ((n : Int), ((i + 1 + k : Nat) : Int))))) := ok_some ⟨k, n, rfl, rfl, g3, g4, g5⟩
      refine ok_bif (fun hd => ?_) (fun _ => stop)
      have hd : i + 1 + k < t.length := by have := of_decide_eq_true hd; simp only at this; omega
      have hck : 0 ≤ ((i + 1 + k : Nat) : Int) ∧ ((i + 1 + k : Nat) : Int) < (t.length : Int) := by omega
      refine ok_chk hck (ok_letE fun y hy => ok_bif (fun h48 => ok_chk hck (ok_letE fun z hz => ok_bif (fun h57 => ok_chk (by simp only; omega) (ok_bif (fun h11 => ?_) (fun _ => stop))) (fun _ => stop))) (fun _ => stop))
      have h11 : k < 10 := by have := of_decide_eq_true h11; simp only at this; omega
      have hzy : z = y := by rw [← hz, ← hy]
      subst hzy
      have y48 : 48 ≤ z.toNat := by have := of_decide_eq_true h48; omega
      have y57 : z.toNat ≤ 57 := by have := of_decide_eq_true h57; omega
      have hlk : l[k]? = some z := by
        rw [hle, List.getElem?_drop, List.getElem?_eq_getElem hd, ← hz]
        exact congrArg some (ix_nat t _ hd).symm
      have hdv : Lib.digitVal z = some (z.toNat - 48) := by unfold Lib.digitVal; rw [if_pos ⟨y48, y57⟩]
      have hstep := Lib.decFrom_take l k 0 n z _ g5 hlk hdv
      refine ok_chk (by simp only; omega) (ok_chk hck (ok_letE fun w hw => ?_))
      have hwy : w = z := by rw [← hw, ← hy]
      subst hwy
      refine ok_chk (by omega) (ok_chk (by simp only; omega) (ok_chk (by simp only; omega) (ok_chk (by simp only; omega) (ok_some ⟨⟨k + 1, n * 10 + (w.toNat - 48), ?_, ?_, by omega, by omega, hstep⟩, ?_⟩))))
      · simp only; omega
      · simp only; omega
      · simp only; omega
    · obtain ⟨nn, kk⟩ := s
      obtain ⟨k, n, g1, g2, g3, g4, g5⟩ := hs
      simp only at g1 g2
      subst g1 g2
      have hlt := Lib.decFrom_lt _ _ _ g5
      have hn10 : n < 10000000000 := by
        have h1 : (l.take k).length ≤ 10 := by simp; omega
        have h2 : 10 ^ (l.take k).length ≤ 10 ^ 10 := Nat.pow_le_pow_right (by decide) h1
        have h3 : (10 : Nat) ^ 10 = 10000000000 := by decide
        omega
      have fin : k ≠ 0 → (ix t ((i : Int) + 1) ≠ 48 ∨ k = 1) → Ok (cutQ (fun s' : List Int × Int => (∃ i : Nat, s'.2 = (i : Int) ∧ i ≤ t.length ∧ t.take i = numsP s'.1 ∧ s'.1.length ≤ i ∧ ∀ n ∈ s'.1, 0 ≤ n ∧ n < 10000000000) ∧ t.length - s'.2.toNat < t.length - ((i : Nat) : Int).toNat) (cutQ (fun r : List Int => r = [] ∨ (numsP r = t ∧ ∀ n ∈ r, 0 ≤ n ∧ n < 10000000000)) (fun r : List Int => r = [] ∨ (numsP r = t ∧ ∀ n ∈ r, 0 ≤ n ∧ n < 10000000000)))) (Go.Ab.chk ((List.length out + List.length [(n : Int)]) * 8 ≤ 140737488355328) (some (Sum.inl ((out ++ [(n : Int)]), ((i + 1 + k : Nat) : Int))))) := fun k0 hz => by
        refine ok_chk (by simp only [List.length_cons, List.length_nil]; omega) (ok_some ⟨⟨i + 1 + k, rfl, by omega, ?_, ?_, ?_⟩, ?_⟩)
        · have hds : (l.take k).length = k := by simp; omega
          have hh : (l.take k).head? ≠ some 48 ∨ (l.take k).length = 1 := by
            rcases hz with hz | hz
            · refine .inl fun e => hz ?_
              have hi1 : i + 1 < t.length := by omega
              rw [List.head?_take, if_neg k0, hle, List.head?_drop, List.getElem?_eq_getElem hi1] at e
              rw [ix_nat' t (i + 1) _ (by omega) hi1]; exact Option.some.inj e
            · exact .inr (by omega)
          obtain ⟨r1, _⟩ := dec_canon k (l.take k) n hds g5 (fun e => by rw [e] at hds; simp at hds; omega) hh
          simp only
          rw [numsP, List.flatMap_append, show i + 1 + k = (i + 1) + k from rfl, List.take_add, ← hle, List.take_succ_eq_append_getElem hc, h3, hx32]
          simp only [List.flatMap_cons, List.flatMap_nil, List.append_nil]
          rw [itoa_pos (by omega), Int.toNat_natCast, r1, List.append_assoc]
          rfl
        · simp only [List.length_append, List.length_cons, List.length_nil]; omega
        · intro m hm
          rcases List.mem_append.1 hm with hm | hm
          · exact h5 m hm
          · have := List.mem_singleton.1 hm; subst this; omega
        · simp only; omega
      refine ok_cut (fun _ => k ≠ 0 ∧ (ix t ((i : Int) + 1) ≠ 48 ∨ k = 1)) ?_ (fun _ hq => fin hq.1 hq.2)
      refine ok_chk (by simp only; omega) (ok_bif (fun _ => ok_some (.inl rfl)) (fun hk0 => ?_))
      have hk0 : k ≠ 0 := fun e => by subst e; have := ne_of_beq_false hk0; apply this; simp
      refine ok_chk (by simp only; omega) (ok_chk (by simp only; omega) (ok_letE fun z hz => ok_bif (fun hz48 => ?_) (fun hz48 => ok_some ⟨hk0, .inl ?_⟩)))
      · refine ok_chk (by simp only; omega) (ok_bif (fun _ => ok_some (.inl rfl)) (fun h => ok_some ⟨hk0, .inr ?_⟩))
        have := of_decide_eq_false h; simp only at this; omega
      · rw [hz]
        intro e
        subst e
        simp at hz48
  · have hc : i = t.length := by have := of_decide_eq_false hc; simp only at this; omega
    subst hc
    rw [List.take_length] at h3
    exact ok_some (.inr ⟨h3.symm, h5⟩)
theorem rnums_eq (fuel : Nat) (l : List Int) (hl : ∀ n ∈ l, 0 ≤ n ∧ n < 10000000000) (hf : (numsP l).length < fuel) (hf2 : 20 < fuel) (ht : (numsP l).length ≤ 1000000000) : F_rnums fuel (numsP l) = some l := by
  unfold F_rnums
  refine Ok.eq (ok_cut (fun r => r = l) ?_ (fun r hr => ok_some hr))
  have hsplit : ∀ j, (numsP l) = numsP (l.take j) ++ numsP (l.drop j) := fun j => by unfold numsP; rw [← List.flatMap_append, List.take_append_drop]
  have hlen : l.length ≤ (numsP l).length := by
    clear hl hf ht hsplit
    induction l with
    | nil => simp
    | cons a l ih => simp only [numsP, List.flatMap_cons, List.length_append, List.length_cons] at ih ⊢; omega
  refine ok_loop (fun (s : List Int × Int) => ∃ j : Nat, j ≤ l.length ∧ s.1 = l.take j ∧ s.2 = ((numsP (l.take j)).length : Int)) (fun s => (numsP l).length - s.2.toNat) (fun s hT => ?_) _ _ (by simp; omega) ⟨0, by omega, by simp, by simp [numsP]⟩
  obtain ⟨out, at'⟩ := s
  obtain ⟨j, h1, h2, h3⟩ := hT
  simp only at h2 h3
  subst h2 h3
  have hsp := hsplit j
  have hspl := congrArg List.length hsp
  rw [List.length_append] at hspl
  have hdrop : (numsP l).drop (numsP (l.take j)).length = numsP (l.drop j) := by
    conv => lhs; rw [hsp]
    exact List.drop_left
  obtain ⟨i, hi⟩ : ∃ i, i = (numsP (l.take j)).length := ⟨_, rfl⟩
  rw [← hi] at hdrop hspl ⊢
  obtain ⟨t, ht0⟩ : ∃ t, t = numsP l := ⟨_, rfl⟩
  rw [← ht0] at hdrop hspl ht hf hlen hsp ⊢
  refine ok_bif (fun hc => ?_) (fun hc => ?_)
  · have hc : i < t.length := by have := of_decide_eq_true hc; simp only at this; omega
    have hj : j < l.length := by
      rcases Nat.lt_or_ge j l.length with h | h
      · exact h
      · rw [List.drop_of_length_le h] at hspl; simp [numsP] at hspl; omega
    have hlj := hl l[j] (List.getElem_mem hj)
    rw [List.drop_eq_getElem_cons hj] at hdrop
    obtain ⟨ds, hds⟩ : ∃ ds, ds = Lib.itoa l[j] := ⟨_, rfl⟩
    have hcan : ds = Lib.decDigits l[j].toNat := by rw [hds, itoa_pos hlj.1]
    have hd10 : ds.length ≤ 10 := by rw [hcan]; exact dig_len 9 _ (by omega)
    have hdec : Lib.decFrom 0 ds = some l[j].toNat := by rw [hcan]; exact dec_dig _
    have hdne : 0 < ds.length := by
      obtain ⟨b, r, e⟩ := dig_ne l[j].toNat
      rw [hcan, e]; simp
    have hdm : ∀ x ∈ ds, 48 ≤ x.toNat ∧ x.toNat ≤ 57 := by rw [hds]; exact itoa_mem hlj.1
    have hdrop2 : t.drop i = 32 :: (ds ++ numsP (l.drop (j + 1))) := by rw [hdrop, hds]; rfl
    obtain ⟨k1, k2⟩ := ix_drop hdrop2
    have hdrop3 : t.drop (i + 1) = ds ++ numsP (l.drop (j + 1)) := by
      have : t.drop (i + 1) = (t.drop i).drop 1 := by rw [List.drop_drop]
      rw [this, hdrop2]; rfl
    have hl3 := congrArg List.length hdrop3
    rw [List.length_drop, List.length_append] at hl3
    have hnx : ∀ k (hk : k < ds.length), i + 1 + k < t.length ∧ ix t ((i + 1 + k : Nat) : Int) = ds[k] := fun k hk => by
      have h0 : i + 1 + k < t.length := by omega
      refine ⟨h0, ?_⟩
      have h1 : (t.drop (i + 1))[k]? = ds[k]? := by rw [hdrop3, List.getElem?_append_left hk]
      rw [List.getElem?_drop, List.getElem?_eq_getElem h0, List.getElem?_eq_getElem hk] at h1
      rw [ix_nat t _ h0]
      exact Option.some.inj h1
    refine ok_chk (by simp only; omega) (ok_letE fun x hx => ok_bif (fun h32 => ?_) (fun _ => ok_chk (by simp only; omega) ?_))
    · rw [← hx, k1] at h32; simp at h32
    refine ok_cut (fun (s : Int × Int) => s.2 = ((i + 1 + ds.length : Nat) : Int) ∧ s.1 = l[j]) ?_ (fun s hs => ?_)
    · refine ok_loop (fun (s : Int × Int) => ∃ k n : Nat, s.2 = ((i + 1 + k : Nat) : Int) ∧ s.1 = (n : Int) ∧ k ≤ ds.length ∧ Lib.decFrom 0 (ds.take k) = some n) (fun s => t.length - s.2.toNat) (fun s hU => ?_) _ _ (by simp; omega) ⟨0, 0, by simp, rfl, by omega, rfl⟩
      obtain ⟨nn, kk⟩ := s
      obtain ⟨k, n, g1, g2, g3, g5⟩ := hU
      simp only at g1 g2
      subst g1 g2
      have hlt := Lib.decFrom_lt _ _ _ g5
      have hn10 : n < 10000000000 := by
        have h1 : (ds.take k).length ≤ 10 := by simp; omega
        have h2 : 10 ^ (ds.take k).length ≤ 10 ^ 10 := Nat.pow_le_pow_right (by decide) h1
        have h3 : (10 : Nat) ^ 10 = 10000000000 := by decide
        omega
      by_cases hk : k = ds.length
      · subst hk
        rw [List.take_length, hdec] at g5
        have hn : (n : Int) = l[j] := by have := Option.some.inj g5; omega
        have fin : ∀ {α β : Type} {A : α → Prop} {B : β → Prop}, Ok (cutQ A (cutQ (fun (s : Int × Int) => s.2 = ((i + 1 + ds.length : Nat) : Int) ∧ s.1 = l[j]) B)) (some (Sum.inr (Sum.inl ((n : Int), ((i + 1 + ds.length : Nat) : Int))))) := ok_some ⟨rfl, hn⟩
        refine ok_bif (fun hd => ?_) (fun _ => fin)
        have hd : i + 1 + ds.length < t.length := by have := of_decide_eq_true hd; simp only at this; omega
        have hck : 0 ≤ ((i + 1 + ds.length : Nat) : Int) ∧ ((i + 1 + ds.length : Nat) : Int) < (t.length : Int) := by omega
        refine ok_chk hck (ok_letE fun y hy => ok_bif (fun h48 => ?_) (fun _ => fin))
        exfalso
        have hy32 : y = 32 := by
          have h0 : ix t ((i + 1 + ds.length : Nat) : Int) = t[i + 1 + ds.length] := ix_nat t _ hd
          rw [← hy, h0]
          have h1 : (t.drop (i + 1))[ds.length]? = (numsP (l.drop (j + 1)))[0]? := by rw [hdrop3, List.getElem?_append_right (Nat.le_refl _), Nat.sub_self]
          rw [List.getElem?_drop, List.getElem?_eq_getElem hd] at h1
          have hne : l.drop (j + 1) ≠ [] := fun e => by rw [e] at hl3; simp [numsP] at hl3; omega
          obtain ⟨a, r, e⟩ := List.exists_cons_of_ne_nil hne
          rw [e] at h1
          exact Option.some.inj h1
        subst hy32
        simp at h48
      · have hk : k < ds.length := by omega
        obtain ⟨hb, hxx⟩ := hnx k hk
        have hmem := hdm ds[k] (List.getElem_mem hk)
        have hdv : Lib.digitVal ds[k] = some (ds[k].toNat - 48) := by unfold Lib.digitVal; rw [if_pos hmem]
        have hstep := Lib.decFrom_take ds k 0 n ds[k] _ g5 (List.getElem?_eq_getElem hk) hdv
        have hck : 0 ≤ ((i + 1 + k : Nat) : Int) ∧ ((i + 1 + k : Nat) : Int) < (t.length : Int) := by omega
        refine ok_bif (fun _ => ok_chk hck (ok_letE fun y hy => ?_)) (fun h => by have := of_decide_eq_false h; simp only at this; omega)
        rw [hxx] at hy
        subst hy
        refine ok_bif (fun _ => ok_chk hck (ok_letE fun z hz => ?_)) (fun h => by have := of_decide_eq_false h; omega)
        rw [hxx] at hz
        subst hz
        refine ok_bif (fun _ => ok_chk (by simp only; omega) (ok_bif (fun _ => ok_chk (by simp only; omega) (ok_chk hck (ok_letE fun w hw => ?_))) (fun h => by have := of_decide_eq_false h; simp only at this; omega))) (fun h => by have := of_decide_eq_false h; omega)
        rw [hxx] at hw
        subst hw
        refine ok_chk (by omega) (ok_chk (by simp only; omega) (ok_chk (by simp only; omega) (ok_chk (by simp only; omega) (ok_some ⟨⟨k + 1, n * 10 + (ds[k].toNat - 48), ?_, ?_, by omega, hstep⟩, ?_⟩))))
        · simp only; omega
        · simp only; omega
        · simp only; omega
    · obtain ⟨nn, kk⟩ := s
      obtain ⟨rfl, rfl⟩ := hs
      simp only
      have fin : Ok (cutQ (fun s' : List Int × Int => (∃ j : Nat, j ≤ l.length ∧ s'.1 = l.take j ∧ s'.2 = ((numsP (l.take j)).length : Int)) ∧ t.length - s'.2.toNat < t.length - ((i : Nat) : Int).toNat) (cutQ (fun r : List Int => r = l) (fun r : List Int => r = l))) (Go.Ab.chk ((List.length (l.take j) + List.length [l[j]]) * 8 ≤ 140737488355328) (some (Sum.inl ((l.take j ++ [l[j]]), ((i + 1 + ds.length : Nat) : Int))))) := by
        refine ok_chk (by simp only [List.length_take, List.length_cons, List.length_nil]; omega) (ok_some ⟨⟨j + 1, by omega, ?_, ?_⟩, ?_⟩)
        · simp only; rw [List.take_succ_eq_append_getElem hj]
        · simp only
          rw [List.take_succ_eq_append_getElem hj, numsP, List.flatMap_append]
          have : (List.flatMap (fun n => 32 :: Lib.itoa n) (l.take j)).length = i := hi.symm
          simp only [List.length_append, List.flatMap_cons, List.flatMap_nil, List.append_nil, List.length_cons, this, ← hds]
          omega
        · simp only; omega
      refine ok_cut (fun _ => True) ?_ (fun _ _ => fin)
      refine ok_chk (by omega) (ok_bif (fun h => by have := eq_of_beq h; omega) (fun _ => ok_chk (by omega) (ok_chk (by omega) (ok_letE fun z hz => ok_bif (fun hz48 => ?_) (fun _ => ok_some trivial)))))
      refine ok_chk (by omega) (ok_bif (fun hk2 => ?_) (fun _ => ok_some trivial))
      exfalso
      have hk2 : 1 < ds.length := by have := of_decide_eq_true hk2; omega
      obtain ⟨hb, hget⟩ := hnx 0 hdne
      have hz0 : z = ds[0] := by
        rw [← hz, ← hget]
        congr 1
      have hz48 : z = 48 := UInt8.toNat_inj.1 (by have := eq_of_beq hz48; show z.toNat = 48; omega)
      have h48 : ds.head? = some 48 := by
        rw [hz48] at hz0
        rw [List.head?_eq_getElem?, List.getElem?_eq_getElem hdne, ← hz0]
      exact dig_nozero l[j].toNat (by rw [← hcan]; omega) (by rw [← hcan]; exact h48)
  · have hc : i = t.length := by have := of_decide_eq_false hc; simp only at this; omega
    have hj : l.drop j = [] := by
      cases hd : l.drop j with
      | nil => rfl
      | cons a r => rw [hd] at hspl; simp [numsP] at hspl; omega
    refine ok_some ?_
    have := List.take_append_drop j l
    rw [hj, List.append_nil] at this
    exact this
end Go.Ab

