/-
  package quote: what was quoted is read back; reading anything.
-/
import Derived.Test.YtcdmdnadilafhaaGreatDoorZyPc
import Derived.Test.YtcdmdnadilafhaaGreatDoorZyWb
import Derived.Lib.ItoaLen
import Derived.Lib.AtoiAllCases
set_option linter.unusedSimpArgs false
set_option linter.unusedVariables false
namespace Go.Ab
open Go Go.RowKit Go.Fwd
abbrev cutQ {τ α : Type} (R : τ → Prop) (Q : α → Prop) (o : τ ⊕ α) : Prop := match o with | .inl t => R t | .inr y => Q y
def Ok {α : Type} (Q : α → Prop) (x : Option α) : Prop := ∃ r, x = some r ∧ Q r
section
variable {α β τ ρ : Type} {Q : α → Prop}
theorem ok_chk {p : Prop} [Decidable p] {k : Option α} (h : p) (hk : Ok Q k) : Ok Q (chk p k) := by rw [chk_pos h]; exact hk
theorem ok_letE {e : β} {k : β → Option α} (h : ∀ x, e = x → Ok Q (k x)) : Ok Q (letE e k) := h e rfl
theorem ok_bindE {x : Option β} {k : β → Option α} {R : β → Prop} (h : Ok R x) (hk : ∀ a, R a → Ok Q (k a)) : Ok Q (bindE x k) := by
  obtain ⟨a, rfl, ha⟩ := h; exact hk a ha
theorem ok_bif {c : Bool} {A B : Option α} (ht : c = true → Ok Q A) (hf : c = false → Ok Q B) : Ok Q (bif c then A else B) := by
  cases c with
  | true => exact ht rfl
  | false => exact hf rfl
theorem ok_some {r : α} (h : Q r) : Ok Q (some r) := ⟨r, rfl, h⟩
theorem ok_cut {x : Option (τ ⊕ α)} {k : τ → Option α} (R : τ → Prop) (h : Ok (cutQ R Q) x) (hk : ∀ t, R t → Ok Q (k t)) : Ok Q (cutE x k) := by
  obtain ⟨o, rfl, h⟩ := h
  cases o with
  | inl t => exact hk t h
  | inr y => exact ⟨y, rfl, h⟩
theorem ok_loop {body : β → Option (β ⊕ α)} (T : β → Prop) (m : β → Nat) (hs : ∀ s, T s → Ok (cutQ (fun s' => T s' ∧ m s' < m s) Q) (body s)) : ∀ (n : Nat) (s0 : β), m s0 < n → T s0 → Ok Q (loopE body n s0)
  | 0, s0, h, _ => absurd h (Nat.not_lt_zero _)
  | n + 1, s0, h, h0 => by
    obtain ⟨o, ho, h1⟩ := hs s0 h0
    cases o with
    | inl s' =>
      obtain ⟨r, h2, h3⟩ := ok_loop T m hs n s' (by have := h1.2; omega) h1.1
      exact ⟨r, by simp only [loopE, ho, h2], h3⟩
    | inr y => exact ⟨y, by simp only [loopE, ho], h1⟩
theorem Ok.mono {R : α → Prop} {x : Option α} (h : Ok Q x) (hR : ∀ r, Q r → R r) : Ok R x := by
  obtain ⟨r, h1, h2⟩ := h; exact ⟨r, h1, hR r h2⟩
theorem Ok.eq {x : Option α} {v : α} (h : Ok (fun r => r = v) x) : x = some v := by
  obtain ⟨r, h1, rfl⟩ := h; exact h1
end
end Go.Ab
set_option linter.unusedSimpArgs false
set_option linter.unusedVariables false
namespace Go.Ab
open Go Go.RowKit Go.Fwd Go.Proofs
theorem u8_all (p : UInt8 → Bool) (h : ((List.range 256).all fun n => p n.toUInt8) = true) (c : UInt8) : p c = true := all256 (p := fun c => p c = true) h (fun n _ h => h) c
def quoteP (b : List UInt8) : List UInt8 := 34 :: (b.flatMap byteP) ++ [34]
def lineP (e : En) : List UInt8 := (kindAt e.k).w ++ 32 :: (if e.k = 1 then quoteP e.b else Lib.itoa e.fr ++ 32 :: Lib.itoa e.to)
def endP (e : Ed) : List UInt8 := if e.k = 2 then [101, 120, 105, 116, 32] ++ Lib.itoa e.c else nameE e.k
theorem byteP_len (c : UInt8) : 1 ≤ (byteP c).length ∧ (byteP c).length ≤ 4 := by
  unfold byteP; repeat' split
  all_goals simp
theorem flat_len (b : List UInt8) : (b.flatMap byteP).length ≤ 4 * b.length := by
  induction b with
  | nil => simp
  | cons c b ih => have := byteP_len c; simp only [List.flatMap_cons, List.length_append, List.length_cons]; omega
theorem qbytes_eq (fuel : Nat) (b : List UInt8) (m : QSet) (hf : b.length < fuel) (hb : b.length ≤ 1000000000) : F_qbytes fuel b m = some (b.flatMap byteP) := by
  unfold F_qbytes
  refine Ok.eq (ok_cut (fun t => t.2 = b.flatMap byteP) ?_ (fun t h => ok_some h))
  refine ok_loop (fun s => ∃ i : Nat, s.1 = (i : Int) ∧ i ≤ b.length ∧ s.2.2 = (b.take i).flatMap byteP) (fun s => b.length - s.1.toNat) (fun s hT => ?_) _ _ (by simp; omega) ⟨0, rfl, by omega, by simp⟩
  obtain ⟨i, h1, h2, h3⟩ := hT
  obtain ⟨s1, s2, s3⟩ := s
  simp only at h1 h3
  subst h1 h3
  refine ok_bif (fun hc => ?_) (fun hc => ?_)
  · have hc : i < b.length := by have := of_decide_eq_true hc; omega
    have hx : ix b (i : Int) = b[i] := by simp [ix, hc]
    have hfl := flat_len (b.take i)
    have hbl := byteP_len b[i]
    have htl : (b.take i).length ≤ b.length := by simp; omega
    refine ok_chk (by simp only; omega) (ok_letE fun x hx' => ok_letE fun y hy => ok_chk ?_ (ok_chk (by simp only; omega) (ok_some ?_)))
    · rw [← hy, ← hx', hx]; simp only; omega
    · refine ⟨⟨i + 1, by simp, by omega, ?_⟩, by simp only; omega⟩
      simp only
      rw [← hy, ← hx', hx, List.take_succ_eq_append_getElem hc, List.flatMap_append]
      simp
  · have hc : i = b.length := by have := of_decide_eq_false hc; simp only at this; omega
    exact ok_some (by simp [hc])
theorem quote_eq (fuel : Nat) (b : List UInt8) (hf : b.length < fuel) (hb : b.length ≤ 1000000000) : F_quote fuel b = some (quoteP b) := by
  have := flat_len b
  unfold F_quote
  rw [qbytes_eq fuel b _ hf hb, bindE_some]
  refine chk_i (by simp only [List.length_cons, List.length_nil]; omega) (chk_i (by simp only [List.length_append, List.length_cons, List.length_nil]; omega) ?_)
  simp [quoteP]
theorem kind_w (k : Int) : (kindAt k).w.length ≤ 5 := by
  unfold kindAt
  repeat' split
  all_goals simp
theorem line_eq (fuel : Nat) (e : En) (hk : 1 ≤ e.k ∧ e.k ≤ 3) (hf : e.b.length < fuel) (hb : e.b.length ≤ 1000000000) (h1 : -9223372036854775808 ≤ e.fr ∧ e.fr < 9223372036854775808) (h2 : -9223372036854775808 ≤ e.to ∧ e.to < 9223372036854775808) : F_line fuel e = some (lineP e) := by
  have hw := kind_w e.k
  have l1 := Lib.itoa_length_le e.fr h1.1 (by omega)
  have l2 := Lib.itoa_length_le e.to h2.1 (by omega)
  have hfl := flat_len e.b
  unfold F_line lineP
  refine chk_i hk (chk_i (by simp; omega) ?_)
  by_cases h : e.k = 1
  · refine bif_t (by simpa using h) ?_
    have hq : F_sendw fuel e = some (quoteP e.b) := by unfold F_sendw; rw [quote_eq fuel e.b hf hb, bindE_some]
    have hl : (quoteP e.b).length = (e.b.flatMap byteP).length + 2 := by simp [quoteP]
    rw [hq, bindE_some]
    refine chk_i (by simp only [List.length_append, List.length_cons, List.length_nil]; omega) ?_
    simp [h]
  · refine bif_f (by simpa using h) ?_
    have hs : F_spanw e = some (Lib.itoa e.fr ++ 32 :: Lib.itoa e.to) := by
      unfold F_spanw
      refine chk_i h1 (letE_s (chk_i (by simp; omega) (chk_i h2 (letE_s (chk_i (by simp; omega) ?_)))))
      simp
    rw [hs, bindE_some]
    refine chk_i (by simp only [List.length_append, List.length_cons, List.length_nil]; omega) ?_
    simp [h]
theorem endw_eq (e : Ed) (hk : 0 ≤ e.k ∧ e.k < 256) (hc : -9223372036854775808 ≤ e.c ∧ e.c < 9223372036854775808) : F_endw e = some (endP e) := by
  have l1 := Lib.itoa_length_le e.c hc.1 (by omega)
  unfold F_endw endP
  by_cases h : e.k = 2
  · refine bif_t (by simpa using h) (chk_i hc (letE_s (chk_i (by simp; omega) ?_)))
    simp [h]
  · refine bif_f (by simpa using h) (chk_i hk (letE_s ?_))
    simp [h]
end Go.Ab
set_option linter.unusedSimpArgs false
set_option linter.unusedVariables false
namespace Go.Ab
open Go Go.RowKit Go.Fwd Go.Proofs
section
variable (r : List UInt8)
theorem ix0 (a : UInt8) : ix (a :: r) (0 : Int) = a := rfl
theorem ix1 (a b : UInt8) : ix (a :: b :: r) (1 : Int) = b := rfl
theorem ix2 (a b c : UInt8) : ix (a :: b :: c :: r) (2 : Int) = c := rfl
theorem ix3 (a b c d : UInt8) : ix (a :: b :: c :: d :: r) (3 : Int) = d := rfl
theorem rb_esc (x y : UInt8) (h : (x = 110 ∧ y = 10) ∨ (x = 114 ∧ y = 13) ∨ (x = 116 ∧ y = 9) ∨ (x = 92 ∧ y = 92) ∨ (x = 34 ∧ y = 34)) : F_readbyte (92 :: x :: r) QSet.mk = some (((y.toNat : Nat) : Int), 2, 0) := by
  have h1 : ¬ ((r.length : Int) + 1 + 1 < 2) := by omega
  have h2 : (0 : Int) < (r.length : Int) + 1 + 1 := by omega
  have h3 : (1 : Int) < (r.length : Int) + 1 + 1 := by omega
  rcases h with ⟨rfl, rfl⟩ | ⟨rfl, rfl⟩ | ⟨rfl, rfl⟩ | ⟨rfl, rfl⟩ | ⟨rfl, rfl⟩ <;> (unfold F_readbyte; simp [chk, letE, cutE, ix0, ix1, isMarkP, Lib.indexByte, h1, h2, h3]; try rfl)
theorem rb_dir (c : UInt8) (h1 : ¬ c = 92) (h2 : 32 ≤ c) (h3 : c ≤ 126) (h4 : ¬ c = 34) : F_readbyte (c :: r) QSet.mk = some (((c.toNat : Nat) : Int), 1, 0) := by
  have g0 : (0 : Int) < (r.length : Int) + 1 := by omega
  have g1 : ¬ ((c.toNat : Nat) : Int) = 92 := fun e => h1 (UInt8.toNat_inj.1 (by show c.toNat = 92; omega))
  have g1' : (((c.toNat : Nat) : Int) != 92) = true := bne_iff_ne.2 g1
  have g2 : (32 : Int) ≤ (c.toNat : Nat) := by have : (32 : UInt8).toNat ≤ c.toNat := h2; simp at this; omega
  have g3 : ((c.toNat : Nat) : Int) ≤ 126 := by have : c.toNat ≤ (126 : UInt8).toNat := h3; simp at this; omega
  unfold F_readbyte
  simp [chk, letE, cutE, ix0, isMarkP, g0, g1', g2, g3, h4]
theorem hex_nib : ∀ c : UInt8, (nibP (hexD (c.toNat / 16)) < 16 ∧ nibP (hexD (c.toNat % 16)) < 16) ∧ IntKind.u8.wrap (orI .i64 (shlI .i64 (nibP (hexD (c.toNat / 16))) 4) (nibP (hexD (c.toNat % 16)))) = ((c.toNat : Nat) : Int) := fun c => of_decide_eq_true (u8_all (fun c => decide ((nibP (hexD (c.toNat / 16)) < 16 ∧ nibP (hexD (c.toNat % 16)) < 16) ∧ IntKind.u8.wrap (orI .i64 (shlI .i64 (nibP (hexD (c.toNat / 16))) 4) (nibP (hexD (c.toNat % 16)))) = ((c.toNat : Nat) : Int))) (by decide +kernel) c)
theorem rb_hex (c : UInt8) : F_readbyte (92 :: 120 :: hexD (c.toNat / 16) :: hexD (c.toNat % 16) :: r) QSet.mk = some (((c.toNat : Nat) : Int), 4, 0) := by
  obtain ⟨⟨n1, n2⟩, n3⟩ := hex_nib c
  have g1 : ¬ ((r.length : Int) + 1 + 1 + 1 + 1 < 2) := by omega
  have g2 : (0 : Int) < (r.length : Int) + 1 + 1 + 1 + 1 := by omega
  have g3 : (1 : Int) < (r.length : Int) + 1 + 1 + 1 + 1 := by omega
  have g4 : (3 : Int) < (r.length : Int) + 1 + 1 + 1 + 1 := by omega
  have g5 : (2 : Int) < (r.length : Int) + 1 + 1 + 1 + 1 := by omega
  generalize hexD (c.toNat / 16) = a at *
  generalize hexD (c.toNat % 16) = b at *
  unfold F_readbyte
  simp [chk, letE, cutE, ix0, ix1, ix2, ix3, isMarkP, Lib.indexByte, g1, g2, g3, g4, g5, n1, n2, n3]
theorem readbyte_byte (c : UInt8) : F_readbyte (byteP c ++ r) QSet.mk = some (((c.toNat : Nat) : Int), (((byteP c).length : Nat) : Int), 0) := by
  unfold byteP
  split
  · rename_i h; subst h; exact rb_esc r 110 10 (by decide)
  split
  · rename_i h; subst h; exact rb_esc r 114 13 (by decide)
  split
  · rename_i h; subst h; exact rb_esc r 116 9 (by decide)
  split
  · exact rb_hex r c
  split
  · rename_i h
    rcases h with h | h <;> subst h
    · exact rb_esc r 92 92 (by decide)
    · exact rb_esc r 34 34 (by decide)
  · rename_i h1 h2
    have e1 : 32 ≤ c := UInt8.not_lt.1 fun h => h1 (.inl h)
    have e2 : c ≤ 126 := UInt8.not_lt.1 fun h => h1 (.inr h)
    exact rb_dir r c (fun h => h2 (.inl h)) e1 e2 (fun h => h2 (.inr h))
end
theorem u8w_bnd (x : Int) : 0 ≤ IntKind.u8.wrap x ∧ IntKind.u8.wrap x < 256 := by
  have h1 := Int.emod_nonneg x (b := 256) (by decide)
  have h2 := Int.emod_lt_of_pos x (b := 256) (by decide)
  simp [IntKind.wrap, IntKind.bits, IntKind.signed]
  omega
theorem u8n_bnd (x : UInt8) : (0 : Int) ≤ (x.toNat : Nat) ∧ ((x.toNat : Nat) : Int) < 256 := by have := x.toNat_lt; omega
theorem ixb_le : ∀ (l : List UInt8) (c : UInt8), Lib.indexByte l c < l.length
  | [], c => by simp [Lib.indexByte]
  | a :: l, c => by
    have := ixb_le l c
    unfold Lib.indexByte
    repeat' split
    all_goals (simp only [List.length_cons]; omega)
set_option maxHeartbeats 2000000 in
theorem readbyte_ok (t : List UInt8) : Ok (fun x => (0 ≤ x.1 ∧ x.1 < 256) ∧ (x.2.2 = 0 → 1 ≤ x.2.1 ∧ x.2.1 ≤ (t.length : Int))) (F_readbyte t QSet.mk) := by
  unfold F_readbyte
  have hne : (t == ([] : List UInt8)) = false → 0 < t.length := fun h => by
    cases t with
    | nil => simp at h
    | cons => simp
  refine ok_cut (fun _ => 2 ≤ t.length) ?_ (fun _ hl => ?_)
  · refine ok_bif (fun _ => ok_some ⟨by decide, fun h => by simp at h⟩) (fun h => ?_)
    have h0 := hne h
    clear h hne
    have hc : (0 : Int) ≤ 0 ∧ (0 : Int) < (t.length : Int) := by omega
    repeat' (first | with_reducible refine ok_chk hc ?_ | with_reducible refine ok_letE fun _ _ => ?_ | with_reducible refine ok_bif (fun _ => ?_) (fun _ => ?_) | with_reducible refine ok_some ?_)
    all_goals first
      | exact ⟨by decide, fun h => by simp at h⟩
      | exact ⟨u8n_bnd _, fun _ => ⟨Int.le_refl 1, by show (1 : Int) ≤ _; omega⟩⟩
      | (rename_i h; have h := of_decide_eq_false h; show 2 ≤ t.length; omega)
  · have hc : (0 : Int) ≤ 1 ∧ (1 : Int) < (t.length : Int) := by omega
    have hix := fun c => ixb_le [110, 114, 116] c
    have h2 : (1 : Int) ≤ 2 ∧ (2 : Int) ≤ (t.length : Int) := by omega
    refine ok_chk hc (ok_letE fun x hx => ok_letE fun y hy => ?_)
    have hy2 : y < 3 := by rw [← hy]; exact hix x
    refine ok_cut (fun _ => True) ?_ (fun _ _ => ok_some ⟨by decide, fun h => by simp at h⟩)
    have tail : Ok (cutQ (fun _ => True) (fun (r : Int × Int × Int) => (0 ≤ r.1 ∧ r.1 < 256) ∧ (r.2.2 = 0 → 1 ≤ r.2.1 ∧ r.2.1 ≤ (t.length : Int)))) (bif ((((x).toNat : Nat) : Int) == 92) then (some (Sum.inr ((((x).toNat : Nat) : Int), 2, 0))) else (letE (isMarkP x) (fun x21 => (bif x21 then (some (Sum.inr ((((x).toNat : Nat) : Int), 2, 0))) else (bif (decide (y ≥ 0)) then (chk (0 ≤ y ∧ y < (List.length ([10, 13, 9] : List UInt8) : Int)) (letE (ix ([10, 13, 9] : List UInt8) y) (fun x22 => (some (Sum.inr ((((x22).toNat : Nat) : Int), 2, 0)))))) else (some (Sum.inl ()))))))) := by
      refine ok_bif (fun _ => ok_some ⟨u8n_bnd _, fun _ => h2⟩) (fun _ => ok_letE fun z _ => ok_bif (fun _ => ok_some ⟨u8n_bnd _, fun _ => h2⟩) (fun _ => ok_bif (fun h => ?_) (fun _ => ok_some trivial)))
      have h0 : (0 : Int) ≤ y := of_decide_eq_true h
      exact ok_chk ⟨h0, hy2⟩ (ok_letE fun w _ => ok_some ⟨u8n_bnd _, fun _ => h2⟩)
    refine ok_bif (fun _ => ok_bif (fun h => ?_) (fun _ => tail)) (fun _ => tail)
    have h3 : (3 : Int) < (t.length : Int) := of_decide_eq_true h
    have c2 : (0 : Int) ≤ 2 ∧ (2 : Int) < (t.length : Int) := by omega
    have c3 : (0 : Int) ≤ 3 ∧ (3 : Int) < (t.length : Int) := by omega
    refine ok_chk c2 (ok_letE fun _ _ => ok_letE fun _ _ => ok_bif (fun _ => ?_) (fun _ => tail))
    refine ok_chk c3 (ok_letE fun _ _ => ok_letE fun _ _ => ok_bif (fun _ => ?_) (fun _ => tail))
    refine ok_chk c2 (ok_letE fun _ _ => ok_letE fun _ _ => ok_chk c3 (ok_letE fun _ _ => ok_letE fun _ _ => ok_some ⟨u8w_bnd _, fun _ => ⟨(by decide : (1 : Int) ≤ 4), ?_⟩⟩))
    show (4 : Int) ≤ _
    omega
end Go.Ab

