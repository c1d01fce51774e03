/-
  trace: what is right; what Made makes is right.
-/
import Derived.Test.YtcdmdnadilafhaaDoorZtW1
import Derived.Test.YtcdmdnadilafhaaDoorZtW3
set_option linter.unusedSimpArgs false
set_option linter.unusedVariables false
namespace Go.Ab
open Go Go.RowKit Go.Fwd Go.Proofs

theorem letE_s {α β : Type} {e : α} {k : α → Option β} {r : Option β} (h : k e = r) : letE e k = r := h
/-- How many entries are alike. -/
def lcp : List En → List En → Nat
  | x :: a, y :: b => if x = y then lcp a b + 1 else 0
  | _, _ => 0
theorem lcp_le : ∀ a b, lcp a b ≤ a.length ∧ lcp a b ≤ b.length
  | x :: a, y :: b => by
    rw [lcp]
    have := lcp_le a b
    split <;> simp <;> omega
  | [], _ => by simp [lcp]
  | _ :: _, [] => by simp [lcp]
theorem lcp_same : ∀ (a b : List En) (i : Nat), i < lcp a b → a.getD i Enc.inh = b.getD i Enc.inh
  | x :: a, y :: b, i, h => by
    rw [lcp] at h
    split at h
    · rename_i e
      cases i with
      | zero => simp [e]
      | succ i => simpa using lcp_same a b i (by omega)
    · omega
  | [], _, i, h => by simp [lcp] at h
  | _ :: _, [], i, h => by simp [lcp] at h
theorem lcp_diff : ∀ (a b : List En), lcp a b < a.length → lcp a b < b.length → a.getD (lcp a b) Enc.inh ≠ b.getD (lcp a b) Enc.inh
  | x :: a, y :: b, h1, h2 => by
    rw [lcp] at h1 h2 ⊢
    split
    · rename_i e
      rw [if_pos e] at h1 h2
      simp at h1 h2
      simpa using lcp_diff a b h1 h2
    · rename_i e; simpa using e
  | [], _, h, _ => by simp at h
  | _ :: _, [], _, h => by simp at h
theorem lcp_pre : ∀ (a b : List En), lcp a b = a.length ↔ a <+: b
  | [], b => by simp [lcp]
  | x :: a, [] => by simp [lcp]
  | x :: a, y :: b => by
    rw [lcp, List.cons_prefix_cons]
    have := lcp_pre a b
    split
    · rename_i e; simp [e, this]
    · rename_i e; simp [e]
theorem equal_eq (fuel : Nat) (a b : List En) (h : a.length < fuel) (hm : fuel < 2 ^ 60) : F_equal fuel a b = some (decide (a = b)) := by
  have hl := lcp_le a b
  have hp := lcp_pre a b
  unfold F_equal
  by_cases hn : a.length = b.length
  · refine bif_f (by simp [hn]) ?_
    have body : ∀ i : Nat, i < lcp a b → i < a.length ∧ i < b.length := fun i hi => by omega
    by_cases hx : lcp a b = a.length
    · have hab : a = b := (hp.1 hx).eq_of_length hn
      rw [decide_eq_true hab]
      refine cutE_i () (loopE_i (lcp a b) (fun i => (i : Int)) rfl ?_ ?_ (by omega)) rfl
      · intro i hi
        refine bif_t (by simp; omega) ?_
        refine chk_i (by omega) (letE_s (chk_i (by omega) (letE_s ?_)))
        refine bif_f ?_ (chk_i (by omega) rfl)
        simp only [ix, Int.toNat_natCast]
        exact decide_eq_false (fun h => h (lcp_same _ _ i hi))
      · exact bif_f (by simp; omega) rfl
    · have hab : ¬ a = b := fun e => by subst e; exact hx ((lcp_pre a a).2 (List.prefix_refl _))
      rw [decide_eq_false hab]
      refine cutE_r false (loopE_i (lcp a b) (fun i => (i : Int)) rfl ?_ ?_ (by omega)) rfl
      · intro i hi
        refine bif_t (by simp; omega) ?_
        refine chk_i (by omega) (letE_s (chk_i (by omega) (letE_s ?_)))
        refine bif_f ?_ (chk_i (by omega) rfl)
        simp only [ix, Int.toNat_natCast]
        exact decide_eq_false (fun h => h (lcp_same _ _ i hi))
      · refine bif_t (by simp; omega) ?_
        refine chk_i (by omega) (letE_s (chk_i (by omega) (letE_s ?_)))
        refine bif_t ?_ rfl
        simp only [ix, Int.toNat_natCast]
        exact decide_eq_true (lcp_diff _ _ (by omega) (by omega))
  · have : ¬ ((a.length : Nat) : Int) = (b.length : Int) := by omega
    refine bif_t (by simp; omega) ?_
    rw [decide_eq_false (fun e => hn (by rw [e]))]
theorem same_eq (fuel : Nat) (a b : Trc) (h : a.l.length < fuel) (hm : fuel < 2 ^ 60) : F_same fuel a b = some (decide (a = b)) := by
  unfold F_same
  refine bindE_i _ (equal_eq fuel _ _ h hm) ?_
  obtain ⟨al, ae⟩ := a
  obtain ⟨bl, be⟩ := b
  simp only [Trc.mk.injEq]
  by_cases h1 : al = bl
  · rw [decide_eq_true h1]
    refine bif_t rfl ?_
    simp [h1]
  · rw [decide_eq_false h1]
    refine bif_f rfl ?_
    simp [h1]
end Go.Ab
set_option linter.unusedSimpArgs false
set_option linter.unusedVariables false
namespace Go.Ab
open Go Go.RowKit Go.Fwd Go.Proofs

theorem loop_ex {β ρ : Type} {body : β → Option (β ⊕ ρ)} (T : Nat → β → Prop) (Q : ρ → Prop) (N : Nat) (hs : ∀ i s, i < N → T i s → ∃ s', body s = some (.inl s') ∧ T (i + 1) s') (he : ∀ s, T N s → ∃ o, body s = some (.inr o) ∧ Q o) {n : Nat} (hn : N < n) {s0 : β} (h0 : T 0 s0) : ∃ o, loopE body n s0 = some o ∧ Q o := by
  suffices ∀ k i n s, i + k = N → k < n → T i s → ∃ o, loopE body n s = some o ∧ Q o from this N 0 n s0 (by omega) hn h0
  intro k
  induction k with
  | zero =>
    intro i n s hi hk ht
    obtain rfl : i = N := by omega
    match n, hk with
    | n + 1, _ =>
      obtain ⟨o, h1, h2⟩ := he s ht
      exact ⟨o, by rw [loopE, h1], h2⟩
  | succ k ih =>
    intro i n s hi hk ht
    match n, hk with
    | n + 1, hk =>
      obtain ⟨s', h1, h2⟩ := hs i s (by omega) ht
      rw [loopE, h1]
      exact ih (i + 1) n s' (by omega) (by omega) h2
theorem tmod20 (x : Int) : -20 < Int.tmod x 20 ∧ Int.tmod x 20 < 20 := ⟨Int.lt_tmod_of_pos x (by decide), Int.tmod_lt_of_pos x (by decide)⟩
theorem sub_take {α : Type} (l : List α) (j : Int) : sub l 0 j = l.take j.toNat := by simp [sub]
theorem ex_cutloop {τ ρ : Type} {C : Prop} [Decidable C] {x : Option (τ ⊕ ρ)} {K : τ → Option ρ} {R : τ → Prop} {Q : ρ → Prop} (hC : C) (hx : ∃ o, x = some o ∧ ∃ t, o = .inl t ∧ R t) (hk : ∀ t, R t → ∃ r, K t = some r ∧ Q r) : ∃ r, cutE (chk C x) K = some r ∧ Q r := by
  obtain ⟨o, h, t, rfl, hR⟩ := hx
  obtain ⟨r, h1, h2⟩ := hk t hR
  exact ⟨r, cutE_i t (chk_i hC h) h1, h2⟩
end Go.Ab
set_option linter.unusedSimpArgs false
set_option linter.unusedVariables false
namespace Go.Ab
open Go Go.RowKit Go.Fwd Go.Proofs

theorem wrap_u8 {x : Int} (h1 : 0 ≤ x) (h2 : x < 256) : IntKind.u8.wrap x = x := by
  have : x % 256 = x := Int.emod_eq_of_lt h1 h2
  simp [IntKind.wrap, IntKind.bits, IntKind.signed, this]
/-- An entry is right behind an offset. -/
def rightP (e : En) (a : Int) : Prop :=
  (e.k = 1 ∧ e.fr = 0 ∧ e.to = 0 ∧ e.b.length ≤ 512) ∨ ((e.k = 2 ∨ e.k = 3) ∧ e.fr = a ∧ e.b = [] ∧ a ≤ e.to ∧ e.to ≤ 1073741824 ∧ (e.k = 2 ∨ a < e.to))
instance (e : En) (a : Int) : Decidable (rightP e a) := by unfold rightP; infer_instance
def atL : Int → List En → Int
  | a, [] => a
  | a, e :: l => atL (max a e.to) l
def okL : Int → List En → Prop
  | _, [] => True
  | a, e :: l => rightP e a ∧ okL (max a e.to) l
theorem atL_app : ∀ (a : Int) (l m : List En), atL a (l ++ m) = atL (atL a l) m
  | _, [], _ => rfl
  | a, e :: l, m => by rw [List.cons_append, atL, atL, atL_app]
theorem okL_app : ∀ (a : Int) (l m : List En), okL a (l ++ m) ↔ okL a l ∧ okL (atL a l) m
  | _, [], _ => by simp [okL, atL]
  | a, e :: l, m => by rw [List.cons_append, okL, okL, atL, okL_app, and_assoc]
theorem atL_ge : ∀ (a : Int) (l : List En), a ≤ atL a l
  | _, [] => Int.le_refl _
  | a, e :: l => by rw [atL]; have := atL_ge (max a e.to) l; omega
structure MadeOk (t : Trc) : Prop where
  len : t.l.length ≤ 40
  ok : okL 0 t.l
  b : ∀ e ∈ t.l, e.b.length ≤ 20
  at' : atL 0 t.l ≤ 800
  ek : 1 ≤ t.e.k ∧ t.e.k ≤ 5
  ec : t.e.c = 0 ∨ t.e.k = 2 ∧ 0 ≤ t.e.c ∧ t.e.c ≤ 255
def SmB (l : List Sme) : Prop := l.length < 2 ^ 63 ∧ ∀ x ∈ l, 0 ≤ x.far
theorem made_ok (l : List Sme) (hS : SmB l) (en code : Int) (h1 : 0 ≤ en ∧ en < 256) (h2 : 0 ≤ code ∧ code < 256) : ∃ t, F_made 100 l en code = some t ∧ MadeOk t ∧ t.e = ⟨1 + Int.tmod en 5, if 1 + Int.tmod en 5 = 2 then code else 0⟩ := by
  obtain ⟨hlen, hfar⟩ := hS
  unfold F_made
  have hlS : (List.length (sub l 0 (min (List.length l : Int) 40)) : Int) = ((min l.length 40 : Nat) : Int) := by
    rw [sub_take]; simp; omega
  refine ex_cutloop (R := fun t : Trc => t.l.length ≤ 40 ∧ okL 0 t.l ∧ (∀ e ∈ t.l, e.b.length ≤ 20) ∧ atL 0 t.l ≤ 800 ∧ t.e = ⟨0, 0⟩) (by omega)
    (loop_ex (fun i (s : Int × Int × Trc) => s.2.1 = (i : Int) ∧ 0 ≤ s.1 ∧ s.1 ≤ 20 * (i : Int) ∧ s.2.2.l.length ≤ i ∧ okL 0 s.2.2.l ∧ atL 0 s.2.2.l = s.1 ∧ (∀ e ∈ s.2.2.l, e.b.length ≤ 20) ∧ s.2.2.e = ⟨0, 0⟩) _ (min l.length 40) (fun i s hi hT => ?_) (fun s hT => ?_) (by omega) ⟨rfl, by simp, by simp, by simp, trivial, rfl, by simp, rfl⟩) (fun t ht => ?_)
  · obtain ⟨at', idx, tl, te⟩ := s
    obtain ⟨t1, t2, t3, t4, t5, t6, t7, t8⟩ := hT
    simp only at t1 t2 t3 t4 t5 t6 t7 t8
    subst t1; subst t8
    have hxm : 0 ≤ (ix (sub l 0 (min (List.length l : Int) 40)) (i : Int)).far := by
      refine hfar _ ?_
      have hlt : i < (sub l 0 (min (List.length l : Int) 40)).length := by omega
      simp only [ix, Int.toNat_natCast]
      rw [List.getD_eq_getElem?_getD, List.getElem?_eq_getElem hlt, Option.getD_some]
      have hmem : ∀ y ∈ sub l 0 (min (List.length l : Int) 40), y ∈ l := fun y hy => by
        rw [sub_take] at hy; exact List.mem_of_mem_take hy
      exact hmem _ (List.getElem_mem hlt)
    generalize hx : ix (sub l 0 (min (List.length l : Int) 40)) (i : Int) = x at hxm
    have hf := tmod20 x.far
    have hf0 : 0 ≤ Int.tmod x.far 20 := Int.tmod_nonneg _ hxm
    have ap : ∀ (e : En), (tl.length + [e].length) * 40 ≤ 140737488355328 := fun e => by simp; omega
    have okapp : ∀ e : En, rightP e at' → okL 0 (tl ++ [e]) := fun e he => (okL_app 0 tl [e]).2 ⟨t5, by rw [t6]; exact ⟨he, trivial⟩⟩
    have atapp : ∀ e : En, atL 0 (tl ++ [e]) = max at' e.to := fun e => by rw [atL_app, t6]; rfl
    have bapp : ∀ e : En, e.b.length ≤ 20 → ∀ y ∈ tl ++ [e], y.b.length ≤ 20 := fun e he y hy => by
      rcases List.mem_append.1 hy with h | h
      · exact t7 y h
      · rw [List.mem_singleton.1 h]; exact he
    by_cases e0 : (Int.tmod x.k 3 == 0) = true
    · have hbl : (sub x.b 0 (min (List.length x.b : Int) 20)).length ≤ 20 := by rw [sub_take]; simp; omega
      refine ⟨_, bif_t (by simp only [hlS]; exact decide_eq_true (by omega)) (cutE_i (at', (Trc.mk (tl ++ [En.mk 1 0 0 (sub x.b 0 (min (List.length x.b : Int) 20))]) (Ed.mk 0 0))) (chk_i (by simp only [hlS]; omega) (letE_s ?_)) (chk_i (by simp only; omega) rfl)), ?_⟩
      · simp only [hx]
        refine chk_i (by omega) (cutE_r (Sum.inl (at', (Trc.mk (tl ++ [En.mk 1 0 0 (sub x.b 0 (min (List.length x.b : Int) 20))]) (Ed.mk 0 0)))) (bif_t e0 (chk_i (by omega) (chk_i (ap _) rfl))) rfl)
      · refine ⟨by simp, by simp only; omega, by simp only; omega, by simp; omega, okapp _ (.inl ⟨rfl, rfl, rfl, by simp only; omega⟩), ?_, bapp _ hbl, rfl⟩
        simp only [atapp]; omega
    · have e0' : (Int.tmod x.k 3 == 0) = false := by simpa using e0
      by_cases e1 : (Int.tmod x.k 3 == 1) = true
      · refine ⟨_, bif_t (by simp only [hlS]; exact decide_eq_true (by omega)) (cutE_i (at' + Int.tmod x.far 20, (Trc.mk (tl ++ [En.mk 2 at' (at' + Int.tmod x.far 20) []]) (Ed.mk 0 0))) (chk_i (by simp only [hlS]; omega) (letE_s ?_)) (chk_i (by simp only; omega) rfl)), ?_⟩
        · simp only [hx]
          refine chk_i (by omega) (cutE_i (Int.tmod x.far 20, (Trc.mk (tl ++ [En.mk 2 at' (at' + Int.tmod x.far 20) []]) (Ed.mk 0 0))) (bif_f e0' (bif_t e1 (chk_i (by omega) (chk_i (ap _) rfl)))) (chk_i (by first | omega | (simp only; omega)) rfl))
        · refine ⟨by simp, by simp only; omega, by simp only; omega, by simp; omega, okapp _ (.inr ⟨.inl rfl, rfl, rfl, by simp only; omega, by simp only; omega, .inl rfl⟩), ?_, bapp _ (by simp), rfl⟩
          simp only [atapp]; omega
      · have e1' : (Int.tmod x.k 3 == 1) = false := by simpa using e1
        refine ⟨_, bif_t (by simp only [hlS]; exact decide_eq_true (by omega)) (cutE_i (at' + (Int.tmod x.far 20 + 1), (Trc.mk (tl ++ [En.mk 3 at' (at' + (Int.tmod x.far 20 + 1)) []]) (Ed.mk 0 0))) (chk_i (by simp only [hlS]; omega) (letE_s ?_)) (chk_i (by simp only; omega) rfl)), ?_⟩
        · simp only [hx]
          refine chk_i (by omega) (cutE_i (Int.tmod x.far 20 + 1, (Trc.mk (tl ++ [En.mk 3 at' (at' + (Int.tmod x.far 20 + 1)) []]) (Ed.mk 0 0))) (bif_f e0' (bif_f e1' (chk_i (by omega) (chk_i (by omega) (chk_i (ap _) rfl))))) (chk_i (by first | omega | (simp only; omega)) rfl))
        · refine ⟨by simp, by simp only; omega, by simp only; omega, by simp; omega, okapp _ (.inr ⟨.inr rfl, rfl, rfl, by simp only; omega, by simp only; omega, .inr (by simp only; omega)⟩), ?_, bapp _ (by simp), rfl⟩
          simp only [atapp]; omega
  · obtain ⟨at', idx, tl, te⟩ := s
    obtain ⟨t1, t2, t3, t4, t5, t6, t7, t8⟩ := hT
    simp only at t1 t2 t3 t4 t5 t6 t7 t8
    exact ⟨_, bif_f (by simp only [hlS, t1]; exact decide_eq_false (by omega)) rfl, _, rfl, by simp only; omega, t5, t7, by simp only [t6]; omega, t8⟩
  · obtain ⟨tl, te⟩ := t
    obtain ⟨r1, r2, r3, r4, r5⟩ := ht
    simp only at r1 r2 r3 r4 r5
    subst r5
    have hm : 0 ≤ Int.tmod en 5 ∧ Int.tmod en 5 < 5 := ⟨Int.tmod_nonneg _ h1.1, Int.tmod_lt_of_pos en (by decide)⟩
    have hw : IntKind.u8.wrap (1 + (Int.tmod en 5)) = 1 + Int.tmod en 5 := wrap_u8 (by omega) (by omega)
    simp only [hw]
    by_cases e : 1 + Int.tmod en 5 = 2
    · refine ⟨_, cutE_i _ (bif_t (by simpa using e) (chk_i (by omega) rfl)) rfl, ⟨r1, r2, r3, r4, by simp only; omega, .inr ⟨by simp only; omega, by simp only; omega, by simp only; omega⟩⟩, by simp [e]⟩
    · refine ⟨_, cutE_i _ (bif_f (by simpa using e) rfl) rfl, ⟨r1, r2, r3, r4, by simp only; omega, .inl rfl⟩, by simp [e]⟩
end Go.Ab

