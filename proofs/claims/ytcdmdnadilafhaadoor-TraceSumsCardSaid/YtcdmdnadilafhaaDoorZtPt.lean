/-
  TraceSums: plain.
-/
import Derived.Test.YtcdmdnadilafhaaDoorZtW9
import Derived.Test.YtcdmdnadilafhaaDoorZtPc
set_option linter.unusedSimpArgs false
set_option linter.unusedVariables false
namespace Go.Ab
open Go Go.RowKit Go.Fwd Go.Proofs

def shift (f : Int) (e : En) : En := if e.k = 1 then e else ⟨e.k, e.fr - f, e.to - f, e.b⟩
theorem shift_k (f : Int) (e : En) : (shift f e).k = e.k := by unfold shift; split <;> rfl
theorem shift_b (f : Int) (e : En) : (shift f e).b = e.b := by unfold shift; split <;> rfl
theorem shift_d (f : Int) (e : En) : (shift f e).to - (shift f e).fr = e.to - e.fr := by unfold shift; split <;> simp only <;> omega
theorem okL_shift (f : Int) (hf : 0 ≤ f) : ∀ (a : Int) (l : List En), 0 ≤ a → okL (a + f) l → okL a (l.map (shift f)) ∧ atL a (l.map (shift f)) = atL (a + f) l - f
  | a, [], _, _ => ⟨trivial, by simp [atL]⟩
  | a, e :: l, ha, h => by
    obtain ⟨h1, h2⟩ := h
    have key : rightP (shift f e) a ∧ max a (shift f e).to + f = max (a + f) e.to ∧ 0 ≤ max a (shift f e).to := by
      unfold shift
      rcases h1 with ⟨k1, k2, k3, k4⟩ | ⟨k1, k2, k3, k4, k5, k6⟩
      · rw [if_pos k1]
        exact ⟨.inl ⟨k1, k2, k3, k4⟩, by rw [k3]; omega, by omega⟩
      · have : ¬ e.k = 1 := by omega
        rw [if_neg this]
        exact ⟨.inr ⟨k1, by simp only; omega, k3, by simp only; omega, by simp only; omega, by simp only; omega⟩, by simp only; omega, by omega⟩
    obtain ⟨k1, k2, k3⟩ := key
    rw [← k2] at h2
    obtain ⟨i1, i2⟩ := okL_shift f hf _ l k3 h2
    refine ⟨⟨k1, i1⟩, ?_⟩
    rw [List.map_cons, atL, atL, i2, k2]
theorem sumP_shift (f : Int) (p : En → Bool) (hp : ∀ e, p (shift f e) = p e) : ∀ l, sumP p (l.map (shift f)) = sumP p l
  | [] => rfl
  | e :: l => by rw [List.map_cons, sumP, sumP, hp, shift_d, sumP_shift f p hp l]
theorem sentP_shift (f : Int) : ∀ l, sentP (l.map (shift f)) = sentP l
  | [] => rfl
  | e :: l => by rw [List.map_cons, sentP, sentP, shift_k, shift_b, sentP_shift f l]
theorem bytesN_shift (f : Int) : ∀ l, bytesN (l.map (shift f)) = bytesN l
  | [] => rfl
  | e :: l => by rw [List.map_cons, bytesN, bytesN, shift_b, bytesN_shift f l]
theorem sumP_kinds : ∀ (a : Int) (l : List En), okL a l → sumP (fun e => e.k == 2) l + sumP (fun e => e.k == 3) l = sumP (fun _ => true) l
  | _, [], _ => rfl
  | a, e :: l, h => by
    have ih := sumP_kinds _ l h.2
    simp only [sumP]
    rcases h.1 with ⟨k1, k2, k3, _⟩ | ⟨k1 | k1, _⟩
    · simp [k1, k2, k3]; omega
    · simp [k1]; omega
    · simp [k1]; omega
theorem sumP_at : ∀ (a : Int) (l : List En), 0 ≤ a → okL a l → sumP (fun _ => true) l = atL a l - a
  | a, [], _, _ => by simp [sumP, atL]
  | a, e :: l, ha, h => by
    have ih := sumP_at (max a e.to) l (by omega) h.2
    rw [sumP, atL, ih]
    simp only [if_true]
    rcases h.1 with ⟨k1, k2, k3, _⟩ | ⟨k1, k2, k3, k4, _⟩ <;> omega
theorem sub_drop {α : Type} (l : List α) (n : Nat) (hn : n ≤ l.length) : sub l (n : Int) (l.length : Int) = l.drop n := by
  simp only [sub, Int.toNat_natCast]
  exact List.take_of_length_le (by simp)
theorem bytesN_le : ∀ (l : List En) (m : Nat), (∀ e ∈ l, e.b.length ≤ m) → bytesN l ≤ m * l.length
  | [], m, _ => by simp [bytesN]
  | e :: l, m, h => by
    have h1 := h e (by simp)
    have h2 := bytesN_le l m fun x hx => h x (by simp [hx])
    rw [bytesN, List.length_cons, Nat.mul_succ]; omega
theorem sums_tail (t A b : Trc) (f : Int) (n : Nat) (hn : n ≤ t.l.length) (hlen : t.l.length ≤ 40) (hok : okL 0 t.l) (hb : ∀ e ∈ t.l, e.b.length ≤ 20) (he : endedB t.e = true) (hek : 0 ≤ t.e.k ∧ t.e.k < 256) (hA : A = ⟨t.l.take n, t.e⟩) (hf : f = atL 0 (t.l.take n)) (hB : b = ⟨(t.l.drop n).map (shift f), t.e⟩) :
    ((bindE (F_check 100 t) (fun x32 => (bindE (F_check 100 A) (fun x33 => (bindE (F_check 100 b) (fun x34 => (chk (-9223372036854775808 ≤ (x32.2 + x33.2) ∧ (x32.2 + x33.2) < 9223372036854775808) (chk (-9223372036854775808 ≤ ((x32.2 + x33.2) + x34.2) ∧ ((x32.2 + x33.2) + x34.2) < 9223372036854775808) (bif (((x32.2 + x33.2) + x34.2) == 0) then (bindE (F_taken 100 t) (fun x35 => (bindE (F_lost 100 t) (fun x36 => (chk (-9223372036854775808 ≤ (x35 + x36) ∧ (x35 + x36) < 9223372036854775808) (bindE (F_at 100 t) (fun x37 => (bif ((x35 + x36) == x37) then (bindE (F_at 100 t) (fun x38 => (bindE (F_at 100 A) (fun x39 => (bindE (F_at 100 b) (fun x40 => (chk (-9223372036854775808 ≤ (x39 + x40) ∧ (x39 + x40) < 9223372036854775808) (bif (x38 == (x39 + x40)) then (bindE (F_taken 100 t) (fun x41 => (bindE (F_taken 100 A) (fun x42 => (bindE (F_taken 100 b) (fun x43 => (chk (-9223372036854775808 ≤ (x42 + x43) ∧ (x42 + x43) < 9223372036854775808) (bif (x41 == (x42 + x43)) then (bindE (F_lost 100 t) (fun x44 => (bindE (F_lost 100 A) (fun x45 => (bindE (F_lost 100 b) (fun x46 => (chk (-9223372036854775808 ≤ (x45 + x46) ∧ (x45 + x46) < 9223372036854775808) (bif (x44 == (x45 + x46)) then (bindE (F_sent 100 t) (fun x47 => (bindE (F_sent 100 A) (fun x48 => (bindE (F_sent 100 b) (fun x49 => (chk (List.length x48 + List.length x49 ≤ 9223372036854775807) (bif (x47 == (x48 ++ x49)) then (some true) else (some false))))))))) else (some false))))))))) else (some false))))))))) else (some false))))))))) else (some false))))))))) else (some false)))))))))) : Option Bool) = some true := by
  have hsplit : t.l.take n ++ t.l.drop n = t.l := List.take_append_drop n t.l
  have hok' := (okL_app 0 (t.l.take n) (t.l.drop n)).1 (by rw [hsplit]; exact hok)
  have hf0 : 0 ≤ f := by rw [hf]; exact atL_ge 0 _
  have hsh := okL_shift f hf0 0 (t.l.drop n) (by omega) (by rw [Int.zero_add, hf]; exact hok'.2)
  have ct : (checkP t).2 = 0 := checkP_ok.2 ⟨by omega, hok, he⟩
  have cA : (checkP A).2 = 0 := checkP_ok.2 ⟨by rw [hA]; simp; omega, by rw [hA]; exact hok'.1, by rw [hA]; exact he⟩
  have cb : (checkP b).2 = 0 := checkP_ok.2 ⟨by rw [hB]; simp; omega, by rw [hB]; exact hsh.1, by rw [hB]; exact he⟩
  have lt : t.l.length < 100 := by omega
  have lA : A.l.length < 100 := by rw [hA]; simp; omega
  have lb : b.l.length < 100 := by rw [hB]; simp; omega
  have kA : 0 ≤ A.e.k ∧ A.e.k < 256 := by rw [hA]; exact hek
  have kb : 0 ≤ b.e.k ∧ b.e.k < 256 := by rw [hB]; exact hek
  have b2 : ∀ p : En → Bool, 0 ≤ sumP p t.l ∧ sumP p t.l ≤ 1073741824 * 40 := fun p => by have := sumP_bnd p 0 t.l (by omega) hok; omega
  have bA : ∀ p : En → Bool, 0 ≤ sumP p A.l ∧ sumP p A.l ≤ 1073741824 * 40 := fun p => by
    have := sumP_bnd p 0 A.l (by omega) (by rw [hA]; exact hok'.1)
    have : A.l.length ≤ 40 := by rw [hA]; simp; omega
    omega
  have bb : ∀ p : En → Bool, 0 ≤ sumP p b.l ∧ sumP p b.l ≤ 1073741824 * 40 := fun p => by
    have := sumP_bnd p 0 b.l (by omega) (by rw [hB]; exact hsh.1)
    have : b.l.length ≤ 40 := by rw [hB]; simp; omega
    omega
  have split : ∀ p : En → Bool, (∀ e, p (shift f e) = p e) → sumP p t.l = sumP p A.l + sumP p b.l := fun p hp => by
    rw [hA, hB]
    simp only
    rw [sumP_shift f p hp, ← sumP_app, hsplit]
  have s1 := split (fun _ => true) fun _ => rfl
  have s2 := split (fun e => e.k == 2) fun e => by simp only [shift_k]
  have s3 := split (fun e => e.k == 3) fun e => by simp only [shift_k]
  have hkinds := sumP_kinds 0 t.l hok
  have nt : bytesN t.l ≤ 800 := by have := bytesN_le t.l 20 hb; omega
  have nsplit : bytesN t.l = bytesN A.l + bytesN b.l := by
    rw [hA, hB]
    simp only
    rw [bytesN_shift, ← bytesN_app, hsplit]
  have ssplit : sentP t.l = sentP A.l ++ sentP b.l := by
    rw [hA, hB]
    simp only
    rw [sentP_shift, ← sentP_app, hsplit]
  have lA2 := sentP_len A.l
  have lb2 := sentP_len b.l
  refine bindE_i _ (check_eq 100 t lt hek) (bindE_i _ (check_eq 100 A lA kA) (bindE_i _ (check_eq 100 b lb kb) ?_))
  rw [ct, cA, cb]
  refine chk_i (by omega) (chk_i (by omega) (bif_t rfl ?_))
  refine bindE_i _ (taken_eq 100 t lt hek) (bindE_i _ (lost_eq 100 t lt hek) ?_)
  rw [if_pos ct, if_pos ct]
  have q2 := b2 (fun e => e.k == 2)
  have q3 := b2 (fun e => e.k == 3)
  refine chk_i (by omega) (bindE_i _ (at_eq 100 t lt hek) ?_)
  rw [if_pos ct]
  refine bif_t (by rw [hkinds]; exact beq_self_eq_true _) ?_
  refine bindE_i _ (at_eq 100 t lt hek) (bindE_i _ (at_eq 100 A lA kA) (bindE_i _ (at_eq 100 b lb kb) ?_))
  rw [if_pos ct, if_pos cA, if_pos cb]
  refine chk_i (by have := bA (fun _ => true); have := bb (fun _ => true); omega) (bif_t (by rw [s1]; exact beq_self_eq_true _) ?_)
  refine bindE_i _ (taken_eq 100 t lt hek) (bindE_i _ (taken_eq 100 A lA kA) (bindE_i _ (taken_eq 100 b lb kb) ?_))
  rw [if_pos ct, if_pos cA, if_pos cb]
  refine chk_i (by have := bA (fun e => e.k == 2); have := bb (fun e => e.k == 2); omega) (bif_t (by rw [s2]; exact beq_self_eq_true _) ?_)
  refine bindE_i _ (lost_eq 100 t lt hek) (bindE_i _ (lost_eq 100 A lA kA) (bindE_i _ (lost_eq 100 b lb kb) ?_))
  rw [if_pos ct, if_pos cA, if_pos cb]
  refine chk_i (by have := bA (fun e => e.k == 3); have := bb (fun e => e.k == 3); omega) (bif_t (by rw [s3]; exact beq_self_eq_true _) ?_)
  refine bindE_i _ (sent_eq 100 t lt (by decide) (by omega)) (bindE_i _ (sent_eq 100 A lA (by decide) (by omega)) (bindE_i _ (sent_eq 100 b lb (by decide) (by omega)) ?_))
  refine chk_i (by omega) (bif_t (by rw [ssplit]; exact beq_self_eq_true _) rfl)
theorem tracesums_eq (l : List Sme) (hS : SmB l) (en code cut : Int) (h1 : 0 ≤ en ∧ en < 256) (h2 : 0 ≤ code ∧ code < 256) (h3 : 0 ≤ cut ∧ cut < 256) : F_tracesums 100 l en code cut = some true := by
  obtain ⟨t, ht, hM, hte⟩ := made_ok l hS en code h1 h2
  have hlen := hM.len
  have hok := hM.ok
  have hek := hM.ek
  have hec := hM.ec
  have he : endedB t.e = true := by
    unfold endedB
    by_cases h : t.e.k = 2
    · rw [if_pos h]; exact decide_eq_true (by omega)
    · rw [if_neg h]; exact decide_eq_true (by omega)
  unfold F_tracesums
  refine bindE_i t ht (chk_i (by omega) (chk_i (by omega) (chk_i (by omega) ?_)))
  have hp : 0 ≤ Int.tmod cut ((List.length t.l : Int) + 1) ∧ Int.tmod cut ((List.length t.l : Int) + 1) ≤ (List.length t.l : Int) := by
    rw [Int.tmod_eq_emod_of_nonneg h3.1]
    have e1 := Int.emod_nonneg cut (show ((List.length t.l : Int) + 1) ≠ 0 by omega)
    have e2 := Int.emod_lt_of_pos cut (show 0 < ((List.length t.l : Int) + 1) by omega)
    omega
  generalize Int.tmod cut ((List.length t.l : Int) + 1) = p at hp ⊢
  obtain ⟨n, rfl⟩ := Int.eq_ofNat_of_zero_le hp.1
  have hn : n ≤ t.l.length := by omega
  simp only [sub_take, Int.toNat_natCast, sub_drop t.l n hn]
  have lA : (t.l.take n).length ≤ 40 := by simp; omega
  have lD : (t.l.drop n).length = t.l.length - n := by simp
  have hA : ∃ A : Trc, A = ⟨t.l.take n, t.e⟩ := ⟨_, rfl⟩
  obtain ⟨A, hA⟩ := hA
  have hokA : okL 0 (t.l.take n) := okL_take hok n
  have cA : (checkP A).2 = 0 := checkP_ok.2 ⟨by rw [hA]; simp only; omega, by rw [hA]; exact hokA, by rw [hA]; exact he⟩
  have hat : F_at 100 A = some (atL 0 (t.l.take n)) := by
    rw [at_eq 100 A (by rw [hA]; simp only; omega) (by rw [hA]; simp only; omega), if_pos cA, hA]
    rw [sumP_at 0 (t.l.take n) (by omega) hokA, Int.sub_zero]
  refine chk_i (by omega) (chk_i (by omega) (letE_s ?_))
  simp only [← hA]
  by_cases h0 : (t.l.drop n).length = 0
  · have hD := List.length_eq_zero_iff.1 h0
    refine bif_t (by simp only [h0]; rfl) (chk_i (by omega) (chk_i (by omega) (letE_s (bindE_i _ hat (cutE_i () ?_ ?_)))))
    · refine loopE_i 0 (fun i => (i : Int)) rfl (fun i hi => absurd hi (by omega)) (bif_f (by simp only [h0]; rfl) rfl) (by omega)
    · exact sums_tail t A _ (atL 0 (t.l.take n)) n hn hlen hok hM.b he (by omega) hA rfl (by rw [hD]; rfl)
  · refine bif_f (by simpa using h0) (chk_i (by omega) (chk_i (by omega) (bindE_i _ hat (cutE_i ⟨(t.l.drop n).map (shift (atL 0 (t.l.take n))), t.e⟩ ?_ ?_))))
    · have hf0 := atL_ge 0 (t.l.take n)
      have hok2 := ((okL_app 0 (t.l.take n) (t.l.drop n)).1 (by rw [List.take_append_drop]; exact hok)).2
      generalize atL 0 (t.l.take n) = f at hf0 hok2
      generalize t.l.drop n = D at hok2 h0 lD
      have hDl : D.length ≤ 40 := by omega
      refine loopE_i D.length (fun i => ((i : Int), (D.take i).map (shift f) ++ D.drop i)) rfl ?_ ?_ (by omega)
      · intro i hi
        have hlenS : ((D.take i).map (shift f) ++ D.drop i).length = D.length := by simp; omega
        have hget : ((D.take i).map (shift f) ++ D.drop i).getD i Enc.inh = D.getD i Enc.inh := by
          rw [List.getD_eq_getElem?_getD, List.getD_eq_getElem?_getD, List.getElem?_append_right (by simp; omega)]
          simp
          congr 2; omega
        have hset : ∀ x : En, ((D.take i).map (shift f) ++ D.drop i).set i x = (D.take i).map (shift f) ++ x :: D.drop (i + 1) := fun x => by
          have hl : ((D.take i).map (shift f)).length = i := by simp; omega
          rw [List.set_append, if_neg (by omega), hl, Nat.sub_self, List.drop_eq_getElem_cons hi, List.set_cons_zero]
        have hnext : (D.take (i + 1)).map (shift f) ++ D.drop (i + 1) = (D.take i).map (shift f) ++ shift f (D.getD i Enc.inh) :: D.drop (i + 1) := by
          rw [take_succ' hi, List.map_append]; simp
        have hr := okL_at hok2 hi
        have hbnd := rightP_bnd (a := atL f (D.take i)) (by have := atL_ge f (D.take i); omega) hr
        have hfb : f ≤ 1073741824 ∨ (D.getD i Enc.inh).k = 1 := by
          rcases hr with ⟨k, _⟩ | ⟨_, k2, _, k4, k5, _⟩
          · exact .inr k
          · have := atL_ge f (D.take i); left; omega
        generalize hx : D.getD i Enc.inh = x at hget hnext hbnd hfb
        refine chk_i hlenS (bif_t (decide_eq_true (by simp only; omega)) (cutE_i ((D.take (i + 1)).map (shift f) ++ D.drop (i + 1)) (chk_i (by simp only; omega) (chk_i (by simp only [hlenS]; omega) (letE_s ?_))) (chk_i (by simp only; omega) rfl)))
        simp only [ix, Int.toNat_natCast, hget]
        by_cases hk : x.k = 1
        · refine bif_f (by simp [hk]) ?_
          rw [hnext]
          have : shift f x = x := by unfold shift; rw [if_pos hk]
          rw [this]
          have : (D.take i).map (shift f) ++ D.drop i = (D.take i).map (shift f) ++ x :: D.drop (i + 1) := by
            rw [List.drop_eq_getElem_cons hi]
            have : D[i] = x := by rw [← hx]; simp [hi]
            rw [this]
          rw [this]
        · have hf1 : f ≤ 1073741824 := by rcases hfb with h | h; exact h; exact absurd h hk
          have hset1 : ∀ x y : En, (((D.take i).map (shift f) ++ D.drop i).set i x).getD i Enc.inh = x := fun x y => by
            rw [List.getD_eq_getElem?_getD, List.getElem?_set_self (by omega)]; rfl
          refine bif_t (by simpa using hk) (chk_i (by omega) (chk_i (by omega) (letE_s (chk_i (by omega) (chk_i (by omega) (chk_i (by omega) (letE_s (chk_i (by omega) (chk_i (by simp only [List.length_set]; omega) (letE_s ?_))))))))))
          simp only [hset1 _ x]
          refine chk_i (by omega) (chk_i (by omega) (chk_i (by simp only [List.length_set]; omega) (letE_s ?_)))
          rw [List.set_set, hset, hnext]
          have : shift f x = ⟨x.k, x.fr - f, x.to - f, x.b⟩ := by unfold shift; rw [if_neg hk]
          rw [this]
      · refine chk_i (by simp) (bif_f (decide_eq_false (by simp only; omega)) ?_)
        simp
    · exact sums_tail t A _ (atL 0 (t.l.take n)) n hn hlen hok hM.b he (by omega) hA rfl rfl
end Go.Ab
