/-
  reparteeref02: quoting: plain.
-/
import Derived.Test.YtcdmdnadilafhaaGreatDoorZyRn
set_option linter.unusedSimpArgs false
set_option linter.unusedVariables false
namespace Go.Ab
open Go Go.RowKit Go.Fwd Go.Proofs
theorem rbytes_eq (fuel : Nat) (b : List UInt8) (hf : b.length < fuel) (hb : b.length ≤ 1000000000) : F_rbytes fuel b (RSet.mk false) = some (b.flatMap byteP) := by
  unfold F_rbytes
  refine Ok.eq (ok_cut (fun t => t = b.flatMap byteP) ?_ (fun t h => ok_some h))
  refine ok_loop (fun s => ∃ i : Nat, s.2 = (i : Int) ∧ i ≤ b.length ∧ s.1 = (b.take i).flatMap byteP) (fun s => b.length - s.2.toNat) (fun s hT => ?_) _ _ (by simp; omega) ⟨0, rfl, by omega, by simp⟩
  obtain ⟨i, h1, h2, h3⟩ := hT
  obtain ⟨s1, s2⟩ := s
  simp only at h1 h3
  subst h1 h3
  refine ok_bif (fun hc => ?_) (fun hc => ?_)
  · have hc : i < b.length := by have := of_decide_eq_true hc; omega
    have hx : ix b (i : Int) = b[i] := by simp [ix, hc]
    have hfl := flat_len (b.take i)
    have hbl := byteP_len b[i]
    have htl : (b.take i).length ≤ b.length := by simp; omega
    refine ok_chk (by simp only; omega) (ok_letE fun x hx' => ok_chk rfl (ok_letE fun y hy => ok_chk ?_ (ok_chk (by simp only; omega) (ok_some ?_))))
    · rw [← hy, ← hx', hx]; simp only; omega
    · refine ⟨⟨i + 1, by simp, by omega, ?_⟩, by simp only; omega⟩
      simp only
      rw [← hy, ← hx', hx, List.take_succ_eq_append_getElem hc, List.flatMap_append]
      simp
  · have hc : i = b.length := by have := of_decide_eq_false hc; simp only at this; omega
    exact ok_some (by simp [hc])
def tryF (s : List UInt8) (c : UInt8) : List (List UInt8) → Option (UInt8 × Nat)
  | [] => none
  | f :: fs => bif f.isPrefixOf s then some (c, f.length) else tryF s c fs
def tryP (s : List UInt8) : List UInt8 → Option (UInt8 × Nat)
  | [] => none
  | c :: cs => match tryF s c (formsP c) with
    | some x => some x
    | none => tryP s cs
def mayP : List UInt8 → List UInt8
  | [] => []
  | c :: r => bif c == 92 then [9, 10, 13] ++ (match r with
    | [] => []
    | x :: r => [x] ++ (match r with
      | a :: b :: _ => [u8of (IntKind.u8.wrap (16 * digP a + digP b))]
      | _ => [])) else [c]
theorem dig_bnd (c : UInt8) : 0 ≤ digP c ∧ digP c ≤ 16 := of_decide_eq_true (u8_all (fun c => decide (0 ≤ digP c ∧ digP c ≤ 16)) (by decide +kernel) c)
theorem rmay_eq (s : List UInt8) : F_rmay s = some (mayP s) := by
  unfold F_rmay
  rcases s with _ | ⟨c, r⟩
  · refine bif_t rfl (chk_i (by decide) (letE_s rfl))
  refine bif_f (by simp <;> omega) (chk_i (by simp <;> omega) (letE_s ?_))
  rw [ix0]
  by_cases hc : c = 92
  · subst hc
    refine bif_f (by decide) ?_
    rcases r with _ | ⟨x, r⟩
    · exact bif_f (by decide) (bif_f (by decide) rfl)
    refine bif_t (by simp; omega) (chk_i (by simp; omega) (letE_s ?_))
    rw [ix1]
    refine chk_i (u8n_bnd x) (chk_i (by simp) ?_)
    rw [u8of_nat]
    rcases r with _ | ⟨a, _ | ⟨b, r⟩⟩
    · exact bif_f (by simp) rfl
    · exact bif_f (by simp) rfl
    have da := dig_bnd a
    have db := dig_bnd b
    refine bif_t (by simp; omega) (chk_i (by simp; omega) (letE_s (letE_s ?_)))
    rw [ix2]
    refine chk_i (by omega) (chk_i (by simp; omega) (letE_s (letE_s ?_)))
    rw [ix3]
    refine chk_i (by omega) (chk_i (u8w_bnd _) (chk_i (by simp) ?_))
    rfl
  · have h1 : ((((c).toNat : Nat) : Int) != 92) = true := bne_iff_ne.2 fun e => hc (UInt8.toNat_inj.1 (by show c.toNat = 92; omega))
    refine bif_t h1 (chk_i (by simp; omega) (letE_s ?_))
    have : (min ((List.length (c :: r) : Nat) : Int) 1) = 1 := by simp; omega
    rw [this, sub_take]
    have h2 : (c == 92) = false := beq_eq_false_iff_ne.2 hc
    simp [mayP, h2]
theorem rbegins_eq (s t : List UInt8) : F_rbegins s t = some (t.isPrefixOf s) := by
  unfold F_rbegins
  refine bif_i (fun h => ?_) (fun h => ?_)
  · have h := of_decide_eq_true h
    refine chk_i (by omega) (letE_s ?_)
    rw [sub_take, Int.toNat_natCast]
    congr 1
    rw [Bool.eq_iff_iff, beq_iff_eq, List.isPrefixOf_iff_prefix, List.prefix_iff_eq_take]
    exact eq_comm
  · have h := of_decide_eq_false h
    congr 1
    symm
    rw [Bool.eq_false_iff]
    intro h2
    have := (List.isPrefixOf_iff_prefix.1 h2).length_le
    omega
theorem forms_len (c : UInt8) : (formsP c).length ≤ 10 ∧ ((formsP c).all fun f => decide (1 ≤ f.length ∧ f.length ≤ 4)) = true := of_decide_eq_true (u8_all (fun c => decide ((formsP c).length ≤ 10 ∧ ((formsP c).all fun f => decide (1 ≤ f.length ∧ f.length ≤ 4)) = true)) (by decide +kernel) c)
theorem may_len (s : List UInt8) : (mayP s).length ≤ 5 := by
  rcases s with _ | ⟨c, _ | ⟨x, _ | ⟨a, _ | ⟨b, r⟩⟩⟩⟩ <;> simp only [mayP, List.length_nil] <;> (try omega) <;> cases (c == 92) <;> simp
def rbP (s : List UInt8) : Int × Int × Int := match tryP s (mayP s) with
  | some (c, n) => (((c.toNat : Nat) : Int), (n : Int), 0)
  | none => (0, 0, 20)
theorem rreadbyte_eq (fuel : Nat) (s : List UInt8) (hf : 20 < fuel) (hs : s.length ≤ 1000000000) : F_rreadbyte fuel s (RSet.mk false) = some (rbP s) := by
  unfold F_rreadbyte
  have hml := may_len s
  rw [rmay_eq, bindE_some]
  unfold rbP
  generalize mayP s = all at hml
  refine Ok.eq (ok_cut (fun _ => tryP s all = none) ?_ (fun _ h => ok_some (by rw [h])))
  refine ok_loop (fun (x : Int) => ∃ i : Nat, x = (i : Int) ∧ i ≤ all.length ∧ tryP s (all.drop i) = tryP s all) (fun x => all.length - x.toNat) (fun x hT => ?_) _ _ (by simp; omega) ⟨0, rfl, by omega, rfl⟩
  obtain ⟨i, rfl, h2, h3⟩ := hT
  refine ok_bif (fun hc => ?_) (fun hc => ?_)
  · have hc : i < all.length := by have := of_decide_eq_true hc; omega
    have hx : ix all (i : Int) = all[i] := by simp [ix, hc]
    rw [List.drop_eq_getElem_cons hc, tryP, ← hx] at h3
    have hfl := (forms_len (ix all (i : Int))).1
    refine ok_cut (fun _ => tryF s (ix all (i : Int)) (formsP (ix all (i : Int))) = none) ?_ (fun _ hn => ok_chk (by omega) (ok_some ⟨⟨i + 1, by simp, by omega, ?_⟩, by first | omega | (simp only; omega)⟩))
    · refine ok_chk (by omega) (ok_chk rfl (ok_letE fun l hl => ?_))
      rw [hl] at h3 hfl ⊢
      refine ok_loop (fun (y : Int) => ∃ j : Nat, y = (j : Int) ∧ j ≤ l.length ∧ tryF s (ix all (i : Int)) (l.drop j) = tryF s (ix all (i : Int)) l) (fun y => l.length - y.toNat) (fun y hU => ?_) _ _ (by simp; omega) ⟨0, rfl, by omega, rfl⟩
      obtain ⟨j, rfl, g2, g3⟩ := hU
      refine ok_bif (fun hd => ?_) (fun hd => ?_)
      · have hd : j < l.length := by have := of_decide_eq_true hd; omega
        have hy : ix l (j : Int) = l[j] := by simp [ix, hd]
        rw [List.drop_eq_getElem_cons hd, tryF, ← hy] at g3
        refine ok_chk (by omega) ?_
        rw [rbegins_eq, bindE_some]
        refine ok_bif (fun hp => ok_chk (by omega) (ok_chk (by omega) (ok_some ?_))) (fun hp => ok_chk (by omega) (ok_some ⟨⟨j + 1, by simp, by omega, ?_⟩, by first | omega | (simp only; omega)⟩))
        · rw [hp] at g3
          simp only [cond_true] at g3
          rw [← g3] at h3
          simp only at h3
          rw [← h3]
        · rw [hp] at g3
          simp only [cond_false] at g3
          exact g3
      · have hd : j = l.length := by have := of_decide_eq_false hd; omega
        rw [hd, List.drop_length] at g3
        exact ok_some g3.symm
    · rw [hn] at h3; exact h3
  · have hc : i = all.length := by have := of_decide_eq_false hc; omega
    rw [hc, List.drop_length] at h3
    exact ok_some h3.symm
theorem pre_app : ∀ (f p r : List UInt8), f.length ≤ p.length → f.isPrefixOf (p ++ r) = f.isPrefixOf p
  | [], p, r, _ => by simp
  | a :: f, [], r, h => by simp at h
  | a :: f, b :: p, r, h => by
    rw [List.cons_append, List.isPrefixOf_cons_cons, List.isPrefixOf_cons_cons, pre_app f p r (by simpa using h)]
theorem tryF_app (p r : List UInt8) (c : UInt8) : ∀ fs : List (List UInt8), (∀ f ∈ fs, f.length ≤ p.length) → tryF (p ++ r) c fs = tryF p c fs
  | [], _ => rfl
  | f :: fs, h => by rw [tryF, tryF, pre_app f p r (h f (by simp)), tryF_app p r c fs fun g hg => h g (by simp [hg])]
theorem tryP_app (p r : List UInt8) (hp : p.length = 4) : ∀ l : List UInt8, tryP (p ++ r) l = tryP p l
  | [] => rfl
  | c :: l => by
    rw [tryP, tryP, tryF_app p r c (formsP c) fun f hf => by
      have := of_decide_eq_true (List.all_eq_true.1 (forms_len c).2 f hf); omega, tryP_app p r hp l]
theorem try_hex (c : UInt8) (h : (byteP c).length = 4) : tryP (byteP c) (mayP (byteP c)) = some (c, 4) := by
  have := u8_all (fun c => !decide ((byteP c).length = 4) || decide (tryP (byteP c) (mayP (byteP c)) = some (c, 4))) (by decide +kernel) c
  simpa [h] using this
theorem try_dir (c : UInt8) (h1 : ¬ c = 92) (h2 : 32 ≤ c) (h3 : c ≤ 126) (h4 : ¬ c = 34) (r : List UInt8) : rbP (c :: r) = (((c.toNat : Nat) : Int), 1, 0) := by
  have hb : (c == 92) = false := beq_eq_false_iff_ne.2 h1
  have hm : mayP (c :: r) = [c] := by simp [mayP, hb]
  have hf : ∃ t, formsP c = [c] :: t := by
    unfold formsP
    rw [if_pos ⟨h2, h3, h1, h4⟩]
    exact ⟨_, rfl⟩
  obtain ⟨t, ht⟩ := hf
  unfold rbP
  rw [hm, tryP, ht, tryF]
  simp [List.isPrefixOf]
theorem rreadbyte_byte (c : UInt8) (r : List UInt8) : rbP (byteP c ++ r) = (((c.toNat : Nat) : Int), (((byteP c).length : Nat) : Int), 0) := by
  unfold byteP
  split
  · rename_i h; subst h; rfl
  split
  · rename_i h; subst h; rfl
  split
  · rename_i h; subst h; rfl
  split
  · rename_i g1 g2 g3 h
    have hb : byteP c = [92, 120, hexD (c.toNat / 16), hexD (c.toNat % 16)] := by unfold byteP; rw [if_neg g1, if_neg g2, if_neg g3, if_pos h]
    have hl : (byteP c).length = 4 := by rw [hb]; rfl
    have ht := try_hex c hl
    have hm : mayP ([92, 120, hexD (c.toNat / 16), hexD (c.toNat % 16)] ++ r) = mayP [92, 120, hexD (c.toNat / 16), hexD (c.toNat % 16)] := rfl
    unfold rbP
    rw [hm, tryP_app _ _ rfl, ← hb, ht, hb]
    rfl
  split
  · rename_i h
    rcases h with h | h <;> subst h <;> rfl
  · rename_i h1 h2
    have e1 : 32 ≤ c := UInt8.not_lt.1 fun h => h1 (.inl h)
    have e2 : c ≤ 126 := UInt8.not_lt.1 fun h => h1 (.inr h)
    exact try_dir c (fun h => h2 (.inl h)) e1 e2 (fun h => h2 (.inr h)) r
theorem tryF_some {s : List UInt8} {c d : UInt8} {n : Nat} : ∀ {fs : List (List UInt8)}, (∀ f ∈ fs, 1 ≤ f.length) → tryF s c fs = some (d, n) → 1 ≤ n ∧ n ≤ s.length
  | [], _, h => by cases h
  | f :: fs, hf, h => by
    rw [tryF] at h
    cases hp : f.isPrefixOf s with
    | true =>
      rw [hp] at h
      simp only [cond_true, Option.some.injEq, Prod.mk.injEq] at h
      have := (List.isPrefixOf_iff_prefix.1 hp).length_le
      have := hf f (by simp)
      omega
    | false =>
      rw [hp] at h
      exact tryF_some (fun g hg => hf g (by simp [hg])) h
theorem tryP_some {s : List UInt8} {d : UInt8} {n : Nat} : ∀ {l : List UInt8}, tryP s l = some (d, n) → 1 ≤ n ∧ n ≤ s.length
  | [], h => by cases h
  | c :: l, h => by
    rw [tryP] at h
    cases ht : tryF s c (formsP c) with
    | none => rw [ht] at h; exact tryP_some h
    | some x =>
      rw [ht] at h
      cases h
      exact tryF_some (fun f hf => (of_decide_eq_true (List.all_eq_true.1 (forms_len c).2 f hf)).1) ht
theorem rbP_ok (s : List UInt8) : (0 ≤ (rbP s).1 ∧ (rbP s).1 < 256) ∧ ((rbP s).2.2 = 0 → 1 ≤ (rbP s).2.1 ∧ (rbP s).2.1 ≤ (s.length : Int)) := by
  unfold rbP
  cases h : tryP s (mayP s) with
  | none => exact ⟨by decide, fun h => by simp at h⟩
  | some x =>
    obtain ⟨c, n⟩ := x
    have := tryP_some h
    exact ⟨u8n_bnd c, fun _ => by simp only; omega⟩
theorem runquote_quote (fuel : Nat) (b : List UInt8) (hf : b.length < fuel) (hf2 : 20 < fuel) (hb : b.length ≤ 100000000) : F_runquote fuel (quoteP b) = some (b, ((quoteP b).length : Int), 0) := by
  have hfl := flat_len b
  have hql : (quoteP b).length = (b.flatMap byteP).length + 2 := by simp [quoteP]
  unfold F_runquote
  refine Ok.eq (ok_bif (fun h => by have := eq_of_beq h; omega) (fun _ => ok_chk (by omega) (ok_letE fun x hx => ok_bif (fun h => ?_) (fun _ => ?_))))
  · have : x = 34 := by rw [← hx]; rfl
    subst this; simp at h
  refine ok_cut (fun s => s.1 = b ∧ s.2 = ((1 + (b.flatMap byteP).length : Nat) : Int)) ?_ (fun s hs => ?_)
  · refine ok_loop (fun s => ∃ i : Nat, i ≤ b.length ∧ s.1 = b.take i ∧ s.2 = ((1 + ((b.take i).flatMap byteP).length : Nat) : Int)) (fun s => b.length - s.1.length) (fun s hT => ?_) _ _ (by simp; omega) ⟨0, by omega, by simp, by simp⟩
    obtain ⟨i, hi, h1, h2⟩ := hT
    obtain ⟨out, at'⟩ := s
    simp only at h1 h2
    subst h1 h2
    have hd := quote_drop b i hi
    have htl : (b.take i).length = i := by simp; omega
    by_cases e : i = b.length
    · subst e
      rw [List.drop_length] at hd
      obtain ⟨k1, k2⟩ := ix_drop (show (quoteP b).drop _ = 34 :: [] from hd)
      rw [List.take_length] at k1 k2 ⊢
      refine ok_bif (fun _ => ?_) (fun h => ok_some ⟨rfl, rfl⟩)
      refine ok_chk (by omega) (ok_letE fun y hy => ok_bif (fun h => ?_) (fun _ => ok_some ⟨rfl, rfl⟩))
      rw [← hy, k1] at h; simp at h
    · have hlt : i < b.length := by omega
      rw [List.drop_eq_getElem_cons hlt, List.flatMap_cons, List.append_assoc] at hd
      obtain ⟨a, r, ha, hne⟩ := byteP_head b[i]
      have hd' := hd
      rw [ha, List.cons_append] at hd'
      obtain ⟨k1, k2⟩ := ix_drop hd'
      have hbl := byteP_len b[i]
      refine ok_bif (fun _ => ?_) (fun h => ?_)
      · refine ok_chk (by omega) (ok_letE fun y hy => ok_bif (fun _ => ok_chk (by omega) (ok_letE fun z hz => ?_)) (fun h => ?_))
        · have hz' : z = byteP b[i] ++ ((b.drop (i + 1)).flatMap byteP ++ [34]) := by
            rw [← hz, sub_drop' _ _ (by omega), hd]
          subst hz'
          have hzl := congrArg List.length hd
          simp only [List.length_drop, List.length_append] at hzl
          rw [rreadbyte_eq fuel _ hf2 (by simp only [List.length_append]; omega), rreadbyte_byte, bindE_some]
          refine ok_bif (fun h => by simp at h) (fun _ => ok_chk (u8n_bnd _) (ok_chk (by simp only [htl, List.length_cons, List.length_nil]; omega) (ok_chk ?_ (ok_some ⟨⟨i + 1, by omega, ?_, ?_⟩, ?_⟩))))
          · simp only; omega
          · simp only [u8of_nat]; rw [List.take_succ_eq_append_getElem hlt]
          · simp only; rw [List.take_succ_eq_append_getElem hlt, List.flatMap_append]; simp; omega
          · simp only [List.length_append, htl, List.length_cons, List.length_nil]; omega
        · rw [← hy, k1] at h
          exfalso; apply hne
          apply UInt8.toNat_inj.1
          have h : (((a.toNat : Nat) : Int) != 34) = false := h
          have := (bne_eq_false_iff_eq).1 h
          show a.toNat = 34
          omega
      · have := of_decide_eq_false h; simp only at this; omega
  · obtain ⟨s1, s2⟩ := s
    obtain ⟨hs1, hs2⟩ := hs
    simp only at hs1 hs2
    subst hs1 hs2
    simp only
    refine ok_bif (fun h => by have := eq_of_beq h; omega) (fun _ => ok_chk (by omega) (ok_some ?_))
    simp only [Prod.mk.injEq, true_and, and_true]
    omega
theorem runquote_ok (fuel : Nat) (t : List UInt8) (hf : t.length < fuel) (hf2 : 20 < fuel) (hb : t.length ≤ 1000000000) : Ok (fun r => r.1.length ≤ t.length ∧ (-9223372036854775808 ≤ r.2.1 ∧ r.2.1 < 9223372036854775808)) (F_runquote fuel t) := by
  unfold F_runquote
  refine ok_bif (fun _ => ok_some ⟨Nat.zero_le _, by decide⟩) (fun h => ?_)
  have h0 : 0 < t.length := by have := ne_of_beq_false h; omega
  refine ok_chk (by omega) (ok_letE fun x hx => ok_bif (fun _ => ok_some ⟨Nat.zero_le _, by decide⟩) (fun _ => ?_))
  refine ok_cut (fun s => 1 ≤ s.2 ∧ s.2 ≤ (t.length : Int) ∧ (s.1.length : Int) + 1 ≤ s.2) ?_ (fun s hs => ?_)
  · refine ok_loop (fun (s : List UInt8 × Int) => 1 ≤ s.2 ∧ s.2 ≤ (t.length : Int) ∧ (s.1.length : Int) + 1 ≤ s.2) (fun s => t.length - s.2.toNat) (fun s hT => ?_) _ _ (by simp; omega) ⟨by decide, by omega, by simp⟩
    obtain ⟨out, at'⟩ := s
    obtain ⟨h1, h2, h3⟩ := hT
    simp only at h1 h2 h3
    refine ok_bif (fun hc => ?_) (fun _ => ok_some ⟨h1, h2, h3⟩)
    have hc := of_decide_eq_true hc
    simp only at hc
    refine ok_chk ⟨by simp only; omega, hc⟩ (ok_letE fun y hy => ok_bif (fun _ => ok_chk (by simp only; omega) (ok_letE fun z hz => ?_)) (fun _ => ok_some ⟨h1, h2, h3⟩))
    have hzl : z.length = t.length - at'.toNat := by
      obtain ⟨n, rfl⟩ : ∃ n : Nat, at' = (n : Int) := ⟨at'.toNat, by omega⟩
      rw [← hz]
      simp only
      rw [sub_drop' _ _ (by omega), List.length_drop, Int.toNat_natCast]
    rw [rreadbyte_eq fuel z hf2 (by omega), bindE_some]
    obtain ⟨g1, g2⟩ := rbP_ok z
    refine ok_bif (fun _ => ok_some ⟨Nat.zero_le _, by simp only; omega⟩) (fun h => ?_)
    have he : (rbP z).2.2 = 0 := by simpa using h
    obtain ⟨g3, g4⟩ := g2 he
    refine ok_chk g1 (ok_chk (by simp only [List.length_cons, List.length_nil]; omega) (ok_chk (by simp only; omega) (ok_some ⟨⟨by simp only; omega, by simp only; omega, by simp only [List.length_append, List.length_cons, List.length_nil]; omega⟩, by simp only; omega⟩)))
  · obtain ⟨s1, s2⟩ := s
    obtain ⟨h1, h2, h3⟩ := hs
    simp only at h1 h2 h3 ⊢
    refine ok_bif (fun _ => ok_some ⟨Nat.zero_le _, by simp only; omega⟩) (fun _ => ok_chk (by omega) (ok_some ⟨by simp only; omega, by simp only; omega⟩))
end Go.Ab

