/-
  TraceGoes: Made, and the law.
-/
import Derived.Test.YtcdmdnadilafhaaDoorZtW1
import Derived.Test.YtcdmdnadilafhaaDoorZtW3
set_option linter.unusedSimpArgs false
set_option linter.unusedVariables false
namespace Go.Ab
open Go Go.RowKit Go.Fwd Go.Proofs

theorem letE_s {α β : Type} {e : α} {k : α → Option β} {r : Option β} (h : k e = r) : letE e k = r := h
/-- How many entries are alike. -/
def lcp : List En → List En → Nat
  | x :: a, y :: b => if x = y then lcp a b + 1 else 0
  | _, _ => 0
theorem lcp_le : ∀ a b, lcp a b ≤ a.length ∧ lcp a b ≤ b.length
  | x :: a, y :: b => by
    rw [lcp]
    have := lcp_le a b
    split <;> simp <;> omega
  | [], _ => by simp [lcp]
  | _ :: _, [] => by simp [lcp]
theorem lcp_same : ∀ (a b : List En) (i : Nat), i < lcp a b → a.getD i Enc.inh = b.getD i Enc.inh
  | x :: a, y :: b, i, h => by
    rw [lcp] at h
    split at h
    · rename_i e
      cases i with
      | zero => simp [e]
      | succ i => simpa using lcp_same a b i (by omega)
    · omega
  | [], _, i, h => by simp [lcp] at h
  | _ :: _, [], i, h => by simp [lcp] at h
theorem lcp_diff : ∀ (a b : List En), lcp a b < a.length → lcp a b < b.length → a.getD (lcp a b) Enc.inh ≠ b.getD (lcp a b) Enc.inh
  | x :: a, y :: b, h1, h2 => by
    rw [lcp] at h1 h2 ⊢
    split
    · rename_i e
      rw [if_pos e] at h1 h2
      simp at h1 h2
      simpa using lcp_diff a b h1 h2
    · rename_i e; simpa using e
  | [], _, h, _ => by simp at h
  | _ :: _, [], _, h => by simp at h
theorem lcp_pre : ∀ (a b : List En), lcp a b = a.length ↔ a <+: b
  | [], b => by simp [lcp]
  | x :: a, [] => by simp [lcp]
  | x :: a, y :: b => by
    rw [lcp, List.cons_prefix_cons]
    have := lcp_pre a b
    split
    · rename_i e; simp [e, this]
    · rename_i e; simp [e]
def difP (a b : Trc) : Int × Bool := if lcp a.l b.l = a.l.length ∧ lcp a.l b.l = b.l.length ∧ a.e = b.e then (0, false) else ((lcp a.l b.l : Int), true)
theorem differ_eq (fuel : Nat) (a b : Trc) (h : a.l.length < fuel) (hm : fuel < 2 ^ 60) : F_differ fuel a b = some (difP a b) := by
  have hl := lcp_le a.l b.l
  unfold F_differ
  refine cutE_i ((lcp a.l b.l : Nat) : Int) ?_ ?_
  · refine loopE_i (lcp a.l b.l) (fun i => (i : Int)) rfl ?_ ?_ (by omega)
    · intro i hi
      refine bif_t (by simp; omega) ?_
      refine chk_i (by omega) (letE_s (chk_i (by omega) (letE_s ?_)))
      refine bif_t ?_ (chk_i (by omega) rfl)
      simp only [ix, Int.toNat_natCast]
      exact decide_eq_true (lcp_same _ _ i hi)
    · by_cases hx : lcp a.l b.l < a.l.length ∧ lcp a.l b.l < b.l.length
      · refine bif_t (by simp; omega) ?_
        refine chk_i (by omega) (letE_s (chk_i (by omega) (letE_s ?_)))
        refine bif_f ?_ rfl
        simp only [ix, Int.toNat_natCast]
        exact decide_eq_false (lcp_diff _ _ hx.1 hx.2)
      · exact bif_f (by simp; omega) rfl
  · unfold difP
    have c1 : ((((lcp a.l b.l : Nat) : Int)) == (List.length a.l : Int)) = decide (lcp a.l b.l = a.l.length) := by
      by_cases h : lcp a.l b.l = a.l.length
      · simp [h]
      · have : ¬ ((lcp a.l b.l : Nat) : Int) = (List.length a.l : Int) := by omega
        simp [h, this]
    have c2 : ((((lcp a.l b.l : Nat) : Int)) == (List.length b.l : Int)) = decide (lcp a.l b.l = b.l.length) := by
      by_cases h : lcp a.l b.l = b.l.length
      · simp [h]
      · have : ¬ ((lcp a.l b.l : Nat) : Int) = (List.length b.l : Int) := by omega
        simp [h, this]
    rw [c1, c2]
    by_cases h1 : lcp a.l b.l = a.l.length
    · by_cases h2 : lcp a.l b.l = b.l.length
      · by_cases h3 : a.e = b.e
        · rw [if_pos ⟨h1, h2, h3⟩]
          exact cutE_r (0, false) (bif_t (decide_eq_true h1) (bif_t (decide_eq_true h2) (bif_t (decide_eq_true h3) rfl))) rfl
        · rw [if_neg (fun h => h3 h.2.2)]
          exact cutE_i () (bif_t (decide_eq_true h1) (bif_t (decide_eq_true h2) (bif_f (decide_eq_false h3) rfl))) rfl
      · rw [if_neg (fun h => h2 h.2.1)]
        exact cutE_i () (bif_t (decide_eq_true h1) (bif_f (decide_eq_false h2) rfl)) rfl
    · rw [if_neg (fun h => h1 h.1)]
      exact cutE_i () (bif_f (decide_eq_false h1) rfl) rfl
theorem equal_eq (fuel : Nat) (a b : List En) (h : a.length < fuel) (hm : fuel < 2 ^ 60) : F_equal fuel a b = some (decide (a = b)) := by
  have hl := lcp_le a b
  have hp := lcp_pre a b
  unfold F_equal
  by_cases hn : a.length = b.length
  · refine bif_f (by simp [hn]) ?_
    have body : ∀ i : Nat, i < lcp a b → i < a.length ∧ i < b.length := fun i hi => by omega
    by_cases hx : lcp a b = a.length
    · have hab : a = b := (hp.1 hx).eq_of_length hn
      rw [decide_eq_true hab]
      refine cutE_i () (loopE_i (lcp a b) (fun i => (i : Int)) rfl ?_ ?_ (by omega)) rfl
      · intro i hi
        refine bif_t (by simp; omega) ?_
        refine chk_i (by omega) (letE_s (chk_i (by omega) (letE_s ?_)))
        refine bif_f ?_ (chk_i (by omega) rfl)
        simp only [ix, Int.toNat_natCast]
        exact decide_eq_false (fun h => h (lcp_same _ _ i hi))
      · exact bif_f (by simp; omega) rfl
    · have hab : ¬ a = b := fun e => by subst e; exact hx ((lcp_pre a a).2 (List.prefix_refl _))
      rw [decide_eq_false hab]
      refine cutE_r false (loopE_i (lcp a b) (fun i => (i : Int)) rfl ?_ ?_ (by omega)) rfl
      · intro i hi
        refine bif_t (by simp; omega) ?_
        refine chk_i (by omega) (letE_s (chk_i (by omega) (letE_s ?_)))
        refine bif_f ?_ (chk_i (by omega) rfl)
        simp only [ix, Int.toNat_natCast]
        exact decide_eq_false (fun h => h (lcp_same _ _ i hi))
      · refine bif_t (by simp; omega) ?_
        refine chk_i (by omega) (letE_s (chk_i (by omega) (letE_s ?_)))
        refine bif_t ?_ rfl
        simp only [ix, Int.toNat_natCast]
        exact decide_eq_true (lcp_diff _ _ (by omega) (by omega))
  · have : ¬ ((a.length : Nat) : Int) = (b.length : Int) := by omega
    refine bif_t (by simp; omega) ?_
    rw [decide_eq_false (fun e => hn (by rw [e]))]
theorem same_eq (fuel : Nat) (a b : Trc) (h : a.l.length < fuel) (hm : fuel < 2 ^ 60) : F_same fuel a b = some (decide (a = b)) := by
  unfold F_same
  refine bindE_i _ (equal_eq fuel _ _ h hm) ?_
  obtain ⟨al, ae⟩ := a
  obtain ⟨bl, be⟩ := b
  simp only [Trc.mk.injEq]
  by_cases h1 : al = bl
  · rw [decide_eq_true h1]
    refine bif_t rfl ?_
    simp [h1]
  · rw [decide_eq_false h1]
    refine bif_f rfl ?_
    simp [h1]
/-- A trace may become another one. -/
def goesP (a b : Trc) : Bool := decide (a = b) || (decide (a.e = ⟨1, 0⟩) && decide (a.l <+: b.l))
theorem goes_eq (fuel : Nat) (a b : Trc) (h : a.l.length < fuel) (hm : fuel < 2 ^ 60) : F_goes fuel a b = some (goesP a b) := by
  unfold F_goes
  refine bindE_i _ (differ_eq fuel a b h hm) ?_
  have hl := lcp_le a.l b.l
  have hp := lcp_pre a.l b.l
  unfold difP goesP
  by_cases hs : lcp a.l b.l = a.l.length ∧ lcp a.l b.l = b.l.length ∧ a.e = b.e
  · rw [if_pos hs]
    have hab : a = b := by
      obtain ⟨al, ae⟩ := a
      obtain ⟨bl, be⟩ := b
      simp only at hs hp
      have hpre := hp.1 hs.1
      have := hpre.eq_of_length (by omega)
      rw [this, hs.2.2]
    refine bif_t rfl ?_
    rw [decide_eq_true hab]; rfl
  · rw [if_neg hs]
    have hab : ¬ a = b := fun e => by
      subst e
      refine hs ⟨?_, ?_, rfl⟩ <;> exact (lcp_pre a.l a.l).2 (List.prefix_refl _)
    refine bif_f rfl ?_
    rw [decide_eq_false hab, Bool.false_or]
    by_cases he : a.e = ⟨1, 0⟩
    · refine bif_t (decide_eq_true he) ?_
      rw [decide_eq_true he, Bool.true_and]
      by_cases hx : lcp a.l b.l = a.l.length
      · rw [decide_eq_true (hp.1 hx)]; simp [hx]
      · rw [decide_eq_false (fun h => hx (hp.2 h))]
        have : ¬ ((lcp a.l b.l : Nat) : Int) = (List.length a.l : Int) := by omega
        simp [this]
    · refine bif_f (decide_eq_false he) ?_
      rw [decide_eq_false he]; rfl
end Go.Ab
set_option linter.unusedSimpArgs false
set_option linter.unusedVariables false
namespace Go.Ab
open Go Go.RowKit Go.Fwd Go.Proofs

theorem loop_ex {β ρ : Type} {body : β → Option (β ⊕ ρ)} (T : Nat → β → Prop) (Q : ρ → Prop) (N : Nat) (hs : ∀ i s, i < N → T i s → ∃ s', body s = some (.inl s') ∧ T (i + 1) s') (he : ∀ s, T N s → ∃ o, body s = some (.inr o) ∧ Q o) {n : Nat} (hn : N < n) {s0 : β} (h0 : T 0 s0) : ∃ o, loopE body n s0 = some o ∧ Q o := by
  suffices ∀ k i n s, i + k = N → k < n → T i s → ∃ o, loopE body n s = some o ∧ Q o from this N 0 n s0 (by omega) hn h0
  intro k
  induction k with
  | zero =>
    intro i n s hi hk ht
    obtain rfl : i = N := by omega
    match n, hk with
    | n + 1, _ =>
      obtain ⟨o, h1, h2⟩ := he s ht
      exact ⟨o, by rw [loopE, h1], h2⟩
  | succ k ih =>
    intro i n s hi hk ht
    match n, hk with
    | n + 1, hk =>
      obtain ⟨s', h1, h2⟩ := hs i s (by omega) ht
      rw [loopE, h1]
      exact ih (i + 1) n s' (by omega) (by omega) h2
theorem tmod20 (x : Int) : -20 < Int.tmod x 20 ∧ Int.tmod x 20 < 20 := ⟨Int.lt_tmod_of_pos x (by decide), Int.tmod_lt_of_pos x (by decide)⟩
theorem sub_take {α : Type} (l : List α) (j : Int) : sub l 0 j = l.take j.toNat := by simp [sub]
theorem ex_cut {τ ρ : Type} {x : Option (τ ⊕ ρ)} {k : τ → Option ρ} {Q : ρ → Prop} {t : τ} (h : x = some (.inl t)) (hk : ∃ o, k t = some o ∧ Q o) : ∃ o, cutE x k = some o ∧ Q o := by
  rw [h]; exact hk
theorem ex_cutloop {τ ρ : Type} {C : Prop} [Decidable C] {x : Option (τ ⊕ ρ)} {K : τ → Option ρ} {R : τ → Prop} {Q : ρ → Prop} (hC : C) (hx : ∃ o, x = some o ∧ ∃ t, o = .inl t ∧ R t) (hk : ∀ t, R t → ∃ r, K t = some r ∧ Q r) : ∃ r, cutE (chk C x) K = some r ∧ Q r := by
  obtain ⟨o, h, t, rfl, hR⟩ := hx
  obtain ⟨r, h1, h2⟩ := hk t hR
  exact ⟨r, cutE_i t (chk_i hC h) h1, h2⟩
theorem made_eq (l : List Sme) (hlen : l.length < 2 ^ 63) (en code : Int) (h1 : 0 ≤ en ∧ en < 256) (h2 : 0 ≤ code ∧ code < 256) : ∃ t, F_made 100 l en code = some t ∧ t.l.length ≤ 40 := by
  unfold F_made
  have hlS : (List.length (sub l 0 (min (List.length l : Int) 40)) : Int) = ((min l.length 40 : Nat) : Int) := by
    rw [sub_take]; simp; omega
  refine ex_cutloop (R := fun t : Trc => t.l.length ≤ 40) (by omega) (loop_ex (fun i (s : Int × Int × Trc) => s.2.1 = (i : Int) ∧ -20 * (i : Int) ≤ s.1 ∧ s.1 ≤ 20 * (i : Int) ∧ s.2.2.l.length ≤ i) _ (min l.length 40) (fun i s hi hT => ?_) (fun s hT => ?_) (by omega) ⟨rfl, by simp, by simp, by simp⟩) (fun t ht => ?_)
  · obtain ⟨at', idx, t⟩ := s
    obtain ⟨t1, t2, t3, t4⟩ := hT
    simp only at t1 t2 t3 t4
    subst t1
    generalize hx : ix (sub l 0 (min (List.length l : Int) 40)) (i : Int) = x
    have hf := tmod20 x.far
    have ap : ∀ (e : En), (t.l.length + [e].length) * 40 ≤ 140737488355328 := fun e => by simp; omega
    by_cases e0 : (Int.tmod x.k 3 == 0) = true
    · refine ⟨_, bif_t (by simp only [hlS]; exact decide_eq_true (by omega)) (cutE_i (at', (Trc.mk (t.l ++ [En.mk 1 0 0 (sub x.b 0 (min (List.length x.b : Int) 20))]) (Ed.mk t.e.k t.e.c))) (chk_i (by simp only [hlS]; omega) (letE_s ?_)) (chk_i (by simp only; omega) rfl)), ?_⟩
      · simp only [hx]
        refine chk_i (by omega) (cutE_r (Sum.inl (at', (Trc.mk (t.l ++ [En.mk 1 0 0 (sub x.b 0 (min (List.length x.b : Int) 20))]) (Ed.mk t.e.k t.e.c)))) (bif_t e0 (chk_i (by omega) (chk_i (ap _) rfl))) rfl)
      · refine ⟨by simp, by simp; omega, by simp; omega, by simp; omega⟩
    · have e0' : (Int.tmod x.k 3 == 0) = false := by simpa using e0
      by_cases e1 : (Int.tmod x.k 3 == 1) = true
      · refine ⟨_, bif_t (by simp only [hlS]; exact decide_eq_true (by omega)) (cutE_i (at' + Int.tmod x.far 20, (Trc.mk (t.l ++ [En.mk 2 at' (at' + Int.tmod x.far 20) []]) (Ed.mk t.e.k t.e.c))) (chk_i (by simp only [hlS]; omega) (letE_s ?_)) (chk_i (by simp only; omega) rfl)), ?_⟩
        · simp only [hx]
          refine chk_i (by omega) (cutE_i (Int.tmod x.far 20, (Trc.mk (t.l ++ [En.mk 2 at' (at' + Int.tmod x.far 20) []]) (Ed.mk t.e.k t.e.c))) (bif_f e0' (bif_t e1 (chk_i (by omega) (chk_i (ap _) rfl)))) (chk_i (by first | omega | (simp only; omega)) rfl))
        · refine ⟨by simp, by simp; omega, by simp; omega, by simp; omega⟩
      · have e1' : (Int.tmod x.k 3 == 1) = false := by simpa using e1
        refine ⟨_, bif_t (by simp only [hlS]; exact decide_eq_true (by omega)) (cutE_i (at' + (Int.tmod x.far 20 + 1), (Trc.mk (t.l ++ [En.mk 3 at' (at' + (Int.tmod x.far 20 + 1)) []]) (Ed.mk t.e.k t.e.c))) (chk_i (by simp only [hlS]; omega) (letE_s ?_)) (chk_i (by simp only; omega) rfl)), ?_⟩
        · simp only [hx]
          refine chk_i (by omega) (cutE_i (Int.tmod x.far 20 + 1, (Trc.mk (t.l ++ [En.mk 3 at' (at' + (Int.tmod x.far 20 + 1)) []]) (Ed.mk t.e.k t.e.c))) (bif_f e0' (bif_f e1' (chk_i (by omega) (chk_i (by omega) (chk_i (ap _) rfl))))) (chk_i (by first | omega | (simp only; omega)) rfl))
        · refine ⟨by simp, by simp; omega, by simp; omega, by simp; omega⟩
  · obtain ⟨at', idx, t⟩ := s
    obtain ⟨t1, t2, t3, t4⟩ := hT
    simp only at t1 t2 t3 t4
    exact ⟨_, bif_f (by simp only [hlS, t1]; exact decide_eq_false (by omega)) rfl, _, rfl, by simp only; omega⟩
  · by_cases e : (IntKind.u8.wrap (1 + (Int.tmod en 5)) == 2) = true
    · exact ⟨_, cutE_i _ (bif_t e (chk_i (by omega) rfl)) rfl, ht⟩
    · have e' : (IntKind.u8.wrap (1 + (Int.tmod en 5)) == 2) = false := by simpa using e
      exact ⟨_, cutE_i _ (bif_f e' rfl) rfl, ht⟩
theorem tracegoes_eq (l : List Sme) (hlen : l.length < 2 ^ 63) (en code i j : Int) (h1 : 0 ≤ en ∧ en < 256) (h2 : 0 ≤ code ∧ code < 256) (h3 : 0 ≤ i ∧ i < 256) (h4 : 0 ≤ j ∧ j < 256) : F_tracegoes 100 l en code i j = some true := by
  obtain ⟨t, ht, hl⟩ := made_eq l hlen en code h1 h2
  unfold F_tracegoes
  refine bindE_i t ht ?_
  have hp : 0 ≤ Int.tmod i ((List.length t.l : Int) + 1) ∧ Int.tmod i ((List.length t.l : Int) + 1) ≤ (List.length t.l : Int) := by
    rw [Int.tmod_eq_emod_of_nonneg h3.1]
    have e1 := Int.emod_nonneg i (show ((List.length t.l : Int) + 1) ≠ 0 by omega)
    have e2 := Int.emod_lt_of_pos i (show 0 < ((List.length t.l : Int) + 1) by omega)
    omega
  have hq : 0 ≤ Int.tmod j ((List.length t.l : Int) + 1) ∧ Int.tmod j ((List.length t.l : Int) + 1) ≤ (List.length t.l : Int) := by
    rw [Int.tmod_eq_emod_of_nonneg h4.1]
    have e1 := Int.emod_nonneg j (show ((List.length t.l : Int) + 1) ≠ 0 by omega)
    have e2 := Int.emod_lt_of_pos j (show 0 < ((List.length t.l : Int) + 1) by omega)
    omega
  generalize Int.tmod i ((List.length t.l : Int) + 1) = p at hp ⊢
  generalize Int.tmod j ((List.length t.l : Int) + 1) = q at hq ⊢
  obtain ⟨p, rfl⟩ := Int.eq_ofNat_of_zero_le hp.1
  obtain ⟨q, rfl⟩ := Int.eq_ofNat_of_zero_le hq.1
  have hpl : p ≤ t.l.length := by omega
  have hql : q ≤ t.l.length := by omega
  simp only [sub_take, Int.toNat_natCast]
  have lp : (t.l.take p).length = p := by simp; omega
  have lq : (t.l.take q).length = q := by simp; omega
  repeat (with_reducible apply chk_i; · omega)
  refine bindE_i _ (goes_eq 100 t t (by omega) (by decide)) (bif_f (by simp [goesP]) ?_)
  refine bindE_i _ (goes_eq 100 _ t (by simp only [lp]; omega) (by decide)) (bif_f (by simp [goesP, List.take_prefix]) ?_)
  refine bindE_i _ (goes_eq 100 _ t (by simp only [lq]; omega) (by decide)) (bif_f (by simp [goesP, List.take_prefix]) ?_)
  have tk : ∀ a b : Nat, a ≤ t.l.length → b ≤ t.l.length → (t.l.take a <+: t.l.take b ↔ a ≤ b) := fun a b ha hb => by
    constructor
    · intro h
      have := h.length_le
      simp at this; omega
    · intro h
      exact List.take_prefix_take_left h
  have te : ∀ a b : Nat, a ≤ t.l.length → b ≤ t.l.length → (t.l.take a = t.l.take b ↔ a = b) := fun a b ha hb => by
    constructor
    · intro h
      have := congrArg List.length h
      simp at this; omega
    · rintro rfl; rfl
  have gpq : ∀ a b : Nat, a ≤ t.l.length → b ≤ t.l.length → goesP (Trc.mk (t.l.take a) (Ed.mk 1 0)) (Trc.mk (t.l.take b) (Ed.mk 1 0)) = decide (a ≤ b) := fun a b ha hb => by
    have h1 := tk a b ha hb
    have h2 := te a b ha hb
    simp only [goesP, Trc.mk.injEq, and_true, decide_true, Bool.true_and, h1, h2]
    by_cases e : a ≤ b <;> simp [e] <;> omega
  have gov : goesP (Trc.mk (t.l.take p) (Ed.mk 4 0)) t = (decide (t.e = Ed.mk 4 0) && decide (p = t.l.length)) := by
    obtain ⟨tl, te'⟩ := t
    simp only at hpl ⊢
    have h1 : tl.take p = tl ↔ p = tl.length := by
      constructor
      · intro h; have := congrArg List.length h; simp at this; omega
      · rintro rfl; simp
    simp only [goesP, Trc.mk.injEq, h1]
    by_cases e1 : p = tl.length <;> by_cases e2 : te' = Ed.mk 4 0 <;> simp [e1, e2, eq_comm]
  have gta : goesP t (Trc.mk (t.l.take p) (Ed.mk 1 0)) = (decide (t.e = Ed.mk 1 0) && decide (p = t.l.length)) := by
    have hpre := tk t.l.length p (Nat.le_refl _) hpl
    obtain ⟨tl, te'⟩ := t
    simp only [List.take_length] at hpl hpre ⊢
    have h1 : tl = tl.take p ↔ p = tl.length := by
      constructor
      · intro h; have := congrArg List.length h; simp at this; omega
      · rintro rfl; simp
    simp only [goesP, Trc.mk.injEq, h1, hpre]
    by_cases e1 : p = tl.length
    · by_cases e2 : te' = Ed.mk 1 0 <;> simp [e1, e2]
    · have : ¬ tl.length ≤ p := by omega
      by_cases e2 : te' = Ed.mk 1 0 <;> simp [e1, e2, this]
  have cpl : (((p : Nat) : Int) == (List.length t.l : Int)) = decide (p = t.l.length) := by
    by_cases h : p = t.l.length
    · simp [h]
    · have : ¬ ((p : Nat) : Int) = (List.length t.l : Int) := by omega
      simp [h, this]
  have cpq : decide (((p : Nat) : Int) ≤ (q : Int)) = decide (p ≤ q) := by
    by_cases h : p ≤ q
    · simp [h]
    · have : ¬ ((p : Nat) : Int) ≤ (q : Int) := by omega
      simp [h, this]
  simp only [cpl, cpq]
  refine bindE_i _ (goes_eq 100 _ _ (by simp only [lp]; omega) (by decide)) ?_
  rw [gpq p q hpl hql]
  refine bif_f (by simp) ?_
  refine bindE_i _ (goes_eq 100 _ _ (by simp only [lp]; omega) (by decide)) (bif_f (by simp [goesP]) ?_)
  refine bindE_i _ (goes_eq 100 _ _ (by simp only [lp]; omega) (by decide)) (bif_f (by simp [goesP]) ?_)
  refine cutE_i () ?_ ?_
  · refine bindE_i _ (goes_eq 100 _ _ (by simp only [lp]; omega) (by decide)) ?_
    rw [gov]
    by_cases e1 : t.e = Ed.mk 4 0
    · refine bif_t (decide_eq_true e1) (bif_f (by simp [e1]) ?_)
      refine bindE_i _ (goes_eq 100 _ _ (by omega) (by decide)) ?_
      rw [gta]
      by_cases e2 : t.e = Ed.mk 1 0
      · exact bif_t (decide_eq_true e2) (bif_f (by simp [e2]) rfl)
      · exact bif_f (decide_eq_false e2) (bif_f (by simp [e2]) rfl)
    · refine bif_f (decide_eq_false e1) (bif_f (by simp [e1]) ?_)
      refine bindE_i _ (goes_eq 100 _ _ (by omega) (by decide)) ?_
      rw [gta]
      by_cases e2 : t.e = Ed.mk 1 0
      · exact bif_t (decide_eq_true e2) (bif_f (by simp [e2]) rfl)
      · exact bif_f (decide_eq_false e2) (bif_f (by simp [e2]) rfl)
  · refine bindE_i _ (goes_eq 100 _ _ (by simp only [lq]; omega) (by decide)) ?_
    rw [gpq q p hql hpl]
    by_cases e : p ≤ q
    · refine bif_t (decide_eq_true e) ?_
      refine bindE_i _ (same_eq 100 _ _ (by simp only [lp]; omega) (by decide)) ?_
      have : (decide (q ≤ p) == decide ((Trc.mk (t.l.take p) (Ed.mk 1 0)) = (Trc.mk (t.l.take q) (Ed.mk 1 0)))) = true := by
        simp only [Trc.mk.injEq, and_true, te p q hpl hql]
        by_cases e' : q ≤ p
        · have : p = q := by omega
          simp [this]
        · have : ¬ p = q := by omega
          simp [this, e']
      first | exact bif_t this rfl | (simp only [this]; rfl) | trace_state
    · refine bif_f (decide_eq_false e) ?_
      have : q ≤ p := by omega
      first | exact bif_t (decide_eq_true this) rfl | trace_state
end Go.Ab
