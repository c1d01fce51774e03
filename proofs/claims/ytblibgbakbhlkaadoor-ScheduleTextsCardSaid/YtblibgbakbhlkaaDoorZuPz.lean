/-
  Cut and Itoa: plain.
-/
import Derived.Test.YtblibgbakbhlkaaDoorZdSh
import Derived.Test.YtblibgbakbhlkaaDoorZuW1
import Derived.Test.YtblibgbakbhlkaaDoorZuEn
import Derived.Lib.AtoiTie
set_option linter.unusedSimpArgs false
set_option linter.unusedVariables false
namespace Go.Ab
open Go Go.RowKit Go.Fwd
abbrev cutQ {τ α : Type} (R : τ → Prop) (Q : α → Prop) (o : τ ⊕ α) : Prop := match o with | .inl t => R t | .inr y => Q y
def Ok {α : Type} (Q : α → Prop) (x : Option α) : Prop := ∃ r, x = some r ∧ Q r
section
variable {α β τ ρ : Type} {Q : α → Prop}
theorem ok_chk {p : Prop} [Decidable p] {k : Option α} (h : p) (hk : Ok Q k) : Ok Q (chk p k) := by rw [chk_pos h]; exact hk
theorem ok_letE {e : β} {k : β → Option α} (h : ∀ x, e = x → Ok Q (k x)) : Ok Q (letE e k) := h e rfl
theorem ok_bindE {x : Option β} {k : β → Option α} {R : β → Prop} (h : Ok R x) (hk : ∀ a, R a → Ok Q (k a)) : Ok Q (bindE x k) := by
  obtain ⟨a, rfl, ha⟩ := h; exact hk a ha
theorem ok_bif {c : Bool} {A B : Option α} (ht : c = true → Ok Q A) (hf : c = false → Ok Q B) : Ok Q (bif c then A else B) := by
  cases c with
  | true => exact ht rfl
  | false => exact hf rfl
theorem ok_some {r : α} (h : Q r) : Ok Q (some r) := ⟨r, rfl, h⟩
theorem ok_cut {x : Option (τ ⊕ α)} {k : τ → Option α} (R : τ → Prop) (h : Ok (cutQ R Q) x) (hk : ∀ t, R t → Ok Q (k t)) : Ok Q (cutE x k) := by
  obtain ⟨o, rfl, h⟩ := h
  cases o with
  | inl t => exact hk t h
  | inr y => exact ⟨y, rfl, h⟩
theorem ok_loop {body : β → Option (β ⊕ α)} (T : β → Prop) (m : β → Nat) (hs : ∀ s, T s → Ok (cutQ (fun s' => T s' ∧ m s' < m s) Q) (body s)) : ∀ (n : Nat) (s0 : β), m s0 < n → T s0 → Ok Q (loopE body n s0)
  | 0, s0, h, _ => absurd h (Nat.not_lt_zero _)
  | n + 1, s0, h, h0 => by
    obtain ⟨o, ho, h1⟩ := hs s0 h0
    cases o with
    | inl s' =>
      obtain ⟨r, h2, h3⟩ := ok_loop T m hs n s' (by have := h1.2; omega) h1.1
      exact ⟨r, by simp only [loopE, ho, h2], h3⟩
    | inr y => exact ⟨y, by simp only [loopE, ho], h1⟩
theorem Ok.mono {R : α → Prop} {x : Option α} (h : Ok Q x) (hR : ∀ r, Q r → R r) : Ok R x := by
  obtain ⟨r, h1, h2⟩ := h; exact ⟨r, h1, hR r h2⟩
theorem Ok.eq {x : Option α} {v : α} (h : Ok (fun r => r = v) x) : x = some v := by
  obtain ⟨r, h1, rfl⟩ := h; exact h1
theorem ok_eq {x : Option α} {v : α} (h : x = some v) : Ok (fun r => r = v) x := ⟨v, h, rfl⟩
end
end Go.Ab
set_option linter.unusedSimpArgs false
set_option linter.unusedVariables false
set_option maxRecDepth 100000
namespace Go.Ab
open Go Go.RowKit Go.Fwd Go.Proofs
theorem u8_all (p : UInt8 → Bool) (h : ((List.range 256).all fun n => p n.toUInt8) = true) (c : UInt8) : p c = true := all256 (p := fun c => p c = true) h (fun n _ h => h) c
def quoteP (b : List UInt8) : List UInt8 := 34 :: (b.flatMap byteP) ++ [34]
theorem byteP_len (c : UInt8) : 1 ≤ (byteP c).length ∧ (byteP c).length ≤ 4 := by
  unfold byteP; repeat' split
  all_goals simp
theorem flat_len (b : List UInt8) : (b.flatMap byteP).length ≤ 4 * b.length := by
  induction b with
  | nil => simp
  | cons c b ih => have := byteP_len c; simp only [List.flatMap_cons, List.length_append, List.length_cons]; omega
theorem qbytes_eq (fuel : Nat) (b : List UInt8) (m : QSet) (hf : b.length < fuel) (hb : b.length ≤ 1000000000) : F_qbytes fuel b m = some (b.flatMap byteP) := by
  unfold F_qbytes
  refine Ok.eq (ok_cut (fun t => t.2 = b.flatMap byteP) ?_ (fun t h => ok_some h))
  refine ok_loop (fun s => ∃ i : Nat, s.1 = (i : Int) ∧ i ≤ b.length ∧ s.2.2 = (b.take i).flatMap byteP) (fun s => b.length - s.1.toNat) (fun s hT => ?_) _ _ (by simp; omega) ⟨0, rfl, by omega, by simp⟩
  obtain ⟨i, h1, h2, h3⟩ := hT
  obtain ⟨s1, s2, s3⟩ := s
  simp only at h1 h3
  subst h1 h3
  refine ok_bif (fun hc => ?_) (fun hc => ?_)
  · have hc : i < b.length := by have := of_decide_eq_true hc; omega
    have hx : ix b (i : Int) = b[i] := by simp [ix, hc]
    have hfl := flat_len (b.take i)
    have hbl := byteP_len b[i]
    have htl : (b.take i).length ≤ b.length := by simp; omega
    refine ok_chk (by simp only; omega) (ok_letE fun x hx' => ok_letE fun y hy => ok_chk ?_ (ok_chk (by simp only; omega) (ok_some ?_)))
    · rw [← hy, ← hx', hx]; simp only; omega
    · refine ⟨⟨i + 1, by simp, by omega, ?_⟩, by simp only; omega⟩
      simp only
      rw [← hy, ← hx', hx, List.take_succ_eq_append_getElem hc, List.flatMap_append]
      simp
  · have hc : i = b.length := by have := of_decide_eq_false hc; simp only at this; omega
    exact ok_some (by simp [hc])
theorem quote_eq (fuel : Nat) (b : List UInt8) (hf : b.length < fuel) (hb : b.length ≤ 1000000000) : F_quote fuel b = some (quoteP b) := by
  have := flat_len b
  unfold F_quote
  rw [qbytes_eq fuel b _ hf hb, bindE_some]
  refine chk_i (by simp only [List.length_cons, List.length_nil]; omega) (chk_i (by simp only [List.length_append, List.length_cons, List.length_nil]; omega) ?_)
  simp [quoteP]
section
variable (r : List UInt8)
theorem ix0 (a : UInt8) : ix (a :: r) (0 : Int) = a := rfl
theorem ix1 (a b : UInt8) : ix (a :: b :: r) (1 : Int) = b := rfl
theorem ix2 (a b c : UInt8) : ix (a :: b :: c :: r) (2 : Int) = c := rfl
theorem ix3 (a b c d : UInt8) : ix (a :: b :: c :: d :: r) (3 : Int) = d := rfl
theorem rb_esc (x y : UInt8) (h : (x = 110 ∧ y = 10) ∨ (x = 114 ∧ y = 13) ∨ (x = 116 ∧ y = 9) ∨ (x = 92 ∧ y = 92) ∨ (x = 34 ∧ y = 34)) : F_readbyte (92 :: x :: r) QSet.mk = some (((y.toNat : Nat) : Int), 2, 0) := by
  have h1 : ¬ ((r.length : Int) + 1 + 1 < 2) := by omega
  have h2 : (0 : Int) < (r.length : Int) + 1 + 1 := by omega
  have h3 : (1 : Int) < (r.length : Int) + 1 + 1 := by omega
  rcases h with ⟨rfl, rfl⟩ | ⟨rfl, rfl⟩ | ⟨rfl, rfl⟩ | ⟨rfl, rfl⟩ | ⟨rfl, rfl⟩ <;> (unfold F_readbyte; simp [chk, letE, cutE, ix0, ix1, isMarkP, Lib.indexByte, h1, h2, h3]; try rfl)
theorem rb_dir (c : UInt8) (h1 : ¬ c = 92) (h2 : 32 ≤ c) (h3 : c ≤ 126) (h4 : ¬ c = 34) : F_readbyte (c :: r) QSet.mk = some (((c.toNat : Nat) : Int), 1, 0) := by
  have g0 : (0 : Int) < (r.length : Int) + 1 := by omega
  have g1 : ¬ ((c.toNat : Nat) : Int) = 92 := fun e => h1 (UInt8.toNat_inj.1 (by show c.toNat = 92; omega))
  have g1' : (((c.toNat : Nat) : Int) != 92) = true := bne_iff_ne.2 g1
  have g2 : (32 : Int) ≤ (c.toNat : Nat) := by have : (32 : UInt8).toNat ≤ c.toNat := h2; simp at this; omega
  have g3 : ((c.toNat : Nat) : Int) ≤ 126 := by have : c.toNat ≤ (126 : UInt8).toNat := h3; simp at this; omega
  unfold F_readbyte
  simp [chk, letE, cutE, ix0, isMarkP, g0, g1', g2, g3, h4]
theorem hex_nib : ∀ c : UInt8, (nibP (hexD (c.toNat / 16)) < 16 ∧ nibP (hexD (c.toNat % 16)) < 16) ∧ IntKind.u8.wrap (orI .i64 (shlI .i64 (nibP (hexD (c.toNat / 16))) 4) (nibP (hexD (c.toNat % 16)))) = ((c.toNat : Nat) : Int) := fun c => of_decide_eq_true (u8_all (fun c => decide ((nibP (hexD (c.toNat / 16)) < 16 ∧ nibP (hexD (c.toNat % 16)) < 16) ∧ IntKind.u8.wrap (orI .i64 (shlI .i64 (nibP (hexD (c.toNat / 16))) 4) (nibP (hexD (c.toNat % 16)))) = ((c.toNat : Nat) : Int))) (by decide +kernel) c)
theorem rb_hex (c : UInt8) : F_readbyte (92 :: 120 :: hexD (c.toNat / 16) :: hexD (c.toNat % 16) :: r) QSet.mk = some (((c.toNat : Nat) : Int), 4, 0) := by
  obtain ⟨⟨n1, n2⟩, n3⟩ := hex_nib c
  have g1 : ¬ ((r.length : Int) + 1 + 1 + 1 + 1 < 2) := by omega
  have g2 : (0 : Int) < (r.length : Int) + 1 + 1 + 1 + 1 := by omega
  have g3 : (1 : Int) < (r.length : Int) + 1 + 1 + 1 + 1 := by omega
  have g4 : (3 : Int) < (r.length : Int) + 1 + 1 + 1 + 1 := by omega
  have g5 : (2 : Int) < (r.length : Int) + 1 + 1 + 1 + 1 := by omega
  generalize hexD (c.toNat / 16) = a at *
  generalize hexD (c.toNat % 16) = b at *
  unfold F_readbyte
  simp [chk, letE, cutE, ix0, ix1, ix2, ix3, isMarkP, Lib.indexByte, g1, g2, g3, g4, g5, n1, n2, n3]
theorem readbyte_byte (c : UInt8) : F_readbyte (byteP c ++ r) QSet.mk = some (((c.toNat : Nat) : Int), (((byteP c).length : Nat) : Int), 0) := by
  unfold byteP
  split
  · rename_i h; subst h; exact rb_esc r 110 10 (by decide)
  split
  · rename_i h; subst h; exact rb_esc r 114 13 (by decide)
  split
  · rename_i h; subst h; exact rb_esc r 116 9 (by decide)
  split
  · exact rb_hex r c
  split
  · rename_i h
    rcases h with h | h <;> subst h
    · exact rb_esc r 92 92 (by decide)
    · exact rb_esc r 34 34 (by decide)
  · rename_i h1 h2
    have e1 : 32 ≤ c := UInt8.not_lt.1 fun h => h1 (.inl h)
    have e2 : c ≤ 126 := UInt8.not_lt.1 fun h => h1 (.inr h)
    exact rb_dir r c (fun h => h2 (.inl h)) e1 e2 (fun h => h2 (.inr h))
end
theorem u8n_bnd (x : UInt8) : (0 : Int) ≤ (x.toNat : Nat) ∧ ((x.toNat : Nat) : Int) < 256 := by have := x.toNat_lt; omega
theorem sub_drop' {α : Type} (l : List α) (n : Nat) (hn : n ≤ l.length) : sub l (n : Int) (l.length : Int) = l.drop n := by
  simp only [sub, Int.toNat_natCast]
  exact List.take_of_length_le (by simp)
theorem ix_drop {α : Type} [Enc α] {t r : List α} {n : Nat} {a : α} (h : t.drop n = a :: r) : ix t (n : Int) = a ∧ n < t.length := by
  have hl : n < t.length := by
    rcases Nat.lt_or_ge n t.length with h1 | h1
    · exact h1
    · rw [List.drop_of_length_le h1] at h; cases h
  rw [List.drop_eq_getElem_cons hl] at h
  refine ⟨?_, hl⟩
  simp only [List.cons.injEq] at h
  simp [ix, hl, h.1]
theorem byteP_head (c : UInt8) : ∃ a r, byteP c = a :: r ∧ a ≠ 34 := by
  unfold byteP
  repeat' split
  all_goals first
    | exact ⟨_, _, rfl, by decide⟩
    | exact ⟨_, _, rfl, fun h => by simp_all⟩
theorem quote_drop (b : List UInt8) (i : Nat) (hi : i ≤ b.length) : (quoteP b).drop (1 + ((b.take i).flatMap byteP).length) = (b.drop i).flatMap byteP ++ [34] := by
  have h : b.flatMap byteP = (b.take i).flatMap byteP ++ (b.drop i).flatMap byteP := by rw [← List.flatMap_append, List.take_append_drop]
  unfold quoteP
  rw [h, Nat.add_comm, List.cons_append, List.drop_succ_cons, List.append_assoc, List.drop_left]
theorem u8of_nat (c : UInt8) : u8of ((c.toNat : Nat) : Int) = c := by unfold u8of; simp
end Go.Ab
set_option linter.unusedSimpArgs false
set_option linter.unusedVariables false
namespace Go.Ab
open Go Go.RowKit Go.Fwd Go.Proofs
theorem ent26 : Ent Tryd.prog 26 := enters_of Tryd.func26 (by kernel_rfl) rfl
theorem ent44 : Ent Tryd.prog 44 := enters_of Tryd.func44 (by kernel_rfl) rfl
theorem ent47 : Ent Tryd.prog 47 := enters_of Tryd.func47 (by kernel_rfl) rfl
theorem hasp_pure (l p : List UInt8) : Pure (ITP Tryd.prog) Tryd.prog 44 [.raw (.string (bs l)), .raw (.string (bs p))] (.raw (.bool (Lib.hasPrefix l p))) :=
  pure_below [.string (bs l), .string (bs p)] ent44 (fun X us h => raws2 h) fun X hI => (Tryd.strings_HasPrefix (bs l) (bs p) X.w).mono fun e w' ⟨h1, h2⟩ => ⟨_, h1, h2 ▸ Below.refl _ _, fun Y => rfl⟩
theorem cutp_pure (l p : List UInt8) : Pure (ITP Tryd.prog) Tryd.prog 47 [.raw (.string (bs l)), .raw (.string (bs p))] (.tup [.raw (.string (bs (Lib.trimPrefix l p, Lib.hasPrefix l p).1)), .raw (.bool (Lib.trimPrefix l p, Lib.hasPrefix l p).2)]) :=
  pure_below [.string (bs l), .string (bs p)] ent47 (fun X us h => raws2 h) fun X hI => (Tryd.strings_CutPrefix (bs l) (bs p) X.w).mono fun e w' ⟨h1, h2⟩ => ⟨_, h1, h2 ▸ Below.refl _ _, fun Y => ⟨_, rfl, _, _, rfl, rfl, _, _, rfl, rfl, rfl⟩⟩
def atoiOk (l : List UInt8) : Bool := match Lib.atoiAll l with
  | .ok _ => true
  | _ => false
theorem atoi_okP (l : List UInt8) (g : l.length ≤ 281474976710656) (h : atoiOk l = true) : Pure (ITP Tryd.prog) Tryd.prog 48 [.raw (.string (bs l))] (.tup [.raw (.int .i64 (atoiP l)), .raw .nilIface]) := by
  unfold atoiOk at h
  unfold atoiP
  split
  · rename_i v hv; exact atoi_ok (bs l) v (by show l.length ≤ _; omega) hv
  · rename_i hv; rw [hv] at h; cases h
  · rename_i hv; rw [hv] at h; cases h
theorem atoi_errP (l : List UInt8) (g : l.length ≤ 281474976710656) (h : atoiOk l = false) : Pure (ITP Tryd.prog) Tryd.prog 48 [.raw (.string (bs l))] (.tup [.raw (.int .i64 (atoiP l)), .iter errRows]) := by
  unfold atoiOk at h
  unfold atoiP
  split
  · rename_i v hv; rw [hv] at h; cases h
  · rename_i hv
    exact pure_below [.string (bs l)] ent48 (fun X us h => raws1 h) fun X hI => by
      obtain ⟨ev, h1, h2⟩ := vars_ok hI 2 (by first | exact .inl rfl | exact .inr rfl)
      exact (Tryd.strconv_Atoi_syntax (bs l) g hv ev X.w h1 h2).mono fun e w' ⟨N, k1, _, _, k2⟩ => ⟨_, k1, k2, fun Y => ⟨_, rfl, _, _, rfl, rfl, _, _, rfl, .inl ⟨rfl, _, _, rfl⟩, rfl⟩⟩
  · rename_i hv
    exact pure_below [.string (bs l)] ent48 (fun X us h => raws1 h) fun X hI => by
      obtain ⟨ev, h1, h2⟩ := vars_ok hI 3 (by first | exact .inr rfl | exact .inl rfl)
      exact (Tryd.strconv_Atoi_range (bs l) g hv ev X.w h1 h2).mono fun e w' ⟨N, k1, _, _, k2⟩ => ⟨_, k1, k2, fun Y => ⟨_, rfl, _, _, rfl, rfl, _, _, rfl, .inl ⟨rfl, _, _, rfl⟩, rfl⟩⟩
theorem at_strs {IT : IterP} {X : Cx} : ∀ (xs : List (List UInt8)) (b o : Nat), At IT X (Enc.cellsL xs) b o → ∀ (j : Nat) (x : List UInt8), xs[j]? = some x → X.w.cell? ⟨b, o + j, none⟩ = some (.string (bs x))
  | [], _, _, _, j, x, h => by simp at h
  | y :: ys, b, o, h, j, x, hj => by
    have h' : At IT X (.raw (.string (bs y)) :: Enc.cellsL ys) b o := h
    rw [At] at h'
    obtain ⟨⟨_, v, hv, _, hr⟩, ht⟩ := h'
    cases j with
    | zero => simp at hj; subst hj; rw [Rep] at hr; rw [← hr]; exact hv
    | succ j => have := at_strs ys b (o + 1) ht j x (by simpa using hj); rw [show o + (j + 1) = o + 1 + j by omega]; exact this
theorem join_pure (xs : List (List UInt8)) (sep : List UInt8) (g : (xs.length : Int) ≤ 140737488355328 ∧ ((Lib.join xs sep).length : Int) ≤ 140737488355328) : Pure (ITP Tryd.prog) Tryd.prog 26 [.list xs.length (Enc.cellsL xs) .none, .raw (.string (bs sep))] (.raw (.string (bs (Lib.join xs sep)))) := by
  refine ⟨ent26, fun X us hI hr => ?_⟩
  have fin : ∀ w', Below X.w.heap.size X.w w' → ∃ v X', Ending.returned (.string (bs (Lib.join xs sep))) = .returned v ∧ X'.w = w' ∧ Ext X X' ∧ Inv (ITP Tryd.prog) St.empty X' ∧ Rep (ITP Tryd.prog) X' (.raw (.string (bs (Lib.join xs sep)))) v := fun w' hx => by
    have hg : Grows X.w w' := ⟨⟨hx.os, hx.tape, hx.output, hx.size, hx.block⟩, Nat.le_refl _⟩
    exact ⟨_, grown X w', rfl, rfl, ext_grown hI hg, inv_grown (itp_mono _) hI hg, rfl⟩
  obtain ⟨v, l, rfl, hv, u, l', rfl, hu, hl⟩ := hr
  have hu : u = .string (bs sep) := hu
  have hl : l' = [] := hl
  subst hu hl
  rw [Rep] at hv
  obtain ⟨a, cap, rfl, ⟨hcap, _⟩, hc, _⟩ := hv
  rcases hc with hc | ⟨b, o, rfl, hat⟩
  · have hn : xs = [] := by
      cases xs with
      | nil => rfl
      | cons x xs => rw [Enc.cons] at hc; cases hc
    subst hn
    exact (Tryd.strings_Join_none a cap (bs sep) X.w).mono fun e w' ⟨h1, h2⟩ => by subst h1 h2; exact fin _ (Below.refl _ _)
  · cases xs with
    | nil => exact (Tryd.strings_Join_none _ cap (bs sep) X.w).mono fun e w' ⟨h1, h2⟩ => by subst h1 h2; exact fin _ (Below.refl _ _)
    | cons x ys =>
      have hlt : b < X.w.heap.size := by
        have h' : At (ITP Tryd.prog) X (.raw (.string (bs x)) :: Enc.cellsL ys) b o := hat
        rw [At] at h'
        exact hI.Flt h'.1.1
      have e1 : ((x :: ys).map bs).map (·.data.toList) = x :: ys := by rw [List.map_map]; exact (List.map_congr_left fun y _ => rfl).trans (List.map_id _)
      have h := Tryd.strings_Join b o cap ((x :: ys).map bs) (bs sep) X.w (fun j y hj => by
        rw [List.getElem?_map, Option.map_eq_some_iff] at hj
        obtain ⟨z, hz, rfl⟩ := hj
        exact at_strs _ b o hat j z hz) hlt (by rw [List.length_map]; omega) (by rw [List.length_map]; exact hcap) (by rw [e1]; show (Lib.join (x :: ys) sep).length ≤ _; omega)
      rw [e1, List.length_map] at h
      exact h.mono fun e w' ⟨h1, h2⟩ => by subst h1; exact fin _ h2
end Go.Ab
set_option linter.unusedSimpArgs false
set_option linter.unusedVariables false
namespace Go.Ab
open Go Go.RowKit Go.Fwd Go.Proofs
theorem idx_no (c : UInt8) : ∀ l : List UInt8, c ∉ l → Lib.index l [c] = -1
  | [], _ => rfl
  | b :: l, h => by
    have h1 : ¬ c = b := fun e => h (by simp [e])
    have h2 : c ∉ l := fun e => h (by simp [e])
    unfold Lib.index
    rw [idx_no c l h2]
    simp [List.isPrefixOf, h1]
theorem idx_at (c : UInt8) (r : List UInt8) : ∀ a : List UInt8, c ∉ a → Lib.index (a ++ c :: r) [c] = (a.length : Int)
  | [], _ => by simp [Lib.index, List.isPrefixOf]
  | b :: a, h => by
    have h1 : ¬ c = b := fun e => h (by simp [e])
    have h2 : c ∉ a := fun e => h (by simp [e])
    have := idx_at c r a h2
    rw [List.cons_append]
    unfold Lib.index
    rw [this]
    have h3 : ¬ ((a.length : Int) = -1) := by omega
    simp [List.isPrefixOf, h1, h3]
theorem cut_no {c : UInt8} {l : List UInt8} (h : c ∉ l) : Lib.cut l [c] = (l, [], false) := by
  unfold Lib.cut; rw [idx_no c l h]; rfl
theorem cut_at {c : UInt8} {a r : List UInt8} (h : c ∉ a) : Lib.cut (a ++ c :: r) [c] = (a, r, true) := by
  unfold Lib.cut; rw [idx_at c r a h]
  rw [if_pos (by omega)]
  simp
theorem dig_mem (u : Nat) : ∀ x ∈ Lib.decDigits u, 48 ≤ x.toNat ∧ x.toNat ≤ 57 := by
  induction u using Nat.strongRecOn with
  | ind u ih =>
    intro x hx
    rw [Lib.decDigits] at hx
    split at hx
    · rename_i h
      have : x = UInt8.ofNat (48 + u) := by simpa using hx
      subst this
      simp; omega
    · rename_i h
      rcases List.mem_append.1 hx with hx | hx
      · exact ih (u / 10) (by omega) x hx
      · have : x = UInt8.ofNat (48 + u % 10) := by simpa using hx
        subst this
        simp; omega
theorem dig_len : ∀ (k u : Nat), u < 10 ^ (k + 1) → (Lib.decDigits u).length ≤ k + 1
  | 0, u, h => by rw [Lib.decDigits_one (by simpa using h)]; simp
  | k + 1, u, h => by
    rw [Lib.decDigits]
    split
    · simp
    · have := dig_len k (u / 10) (by rw [Nat.pow_succ] at h; omega)
      simp; omega
theorem dec_app : ∀ (l m : List UInt8) (a : Nat), Lib.decFrom a (l ++ m) = (Lib.decFrom a l).bind fun n => Lib.decFrom n m
  | [], m, a => rfl
  | b :: l, m, a => by
    simp only [List.cons_append, Lib.decFrom]
    cases h : Lib.digitVal b with
    | none => rfl
    | some d => exact dec_app l m _
theorem dig_val {d : Nat} (h : d < 10) : Lib.digitVal (UInt8.ofNat (48 + d)) = some d := by
  unfold Lib.digitVal
  have : (UInt8.ofNat (48 + d)).toNat = 48 + d := by simp; omega
  rw [this, if_pos (by omega)]
  congr 1; omega
theorem dec_dig (u : Nat) : Lib.decFrom 0 (Lib.decDigits u) = some u := by
  induction u using Nat.strongRecOn with
  | ind u ih =>
    rw [Lib.decDigits]
    split
    · rename_i h
      simp only [Lib.decFrom, dig_val h, Nat.zero_mul, Nat.zero_add]
    · rename_i h
      rw [dec_app, ih (u / 10) (by omega)]
      simp only [Option.bind_some, Lib.decFrom, dig_val (show u % 10 < 10 by omega), Option.some.injEq]
      omega
theorem dig_ne (u : Nat) : ∃ b r, Lib.decDigits u = b :: r := by
  cases h : Lib.decDigits u with
  | nil =>
    rw [Lib.decDigits] at h
    split at h <;> simp at h
  | cons b r => exact ⟨b, r, rfl⟩
theorem atoi_dig (u : Nat) : Lib.atoi (Lib.decDigits u) = some (u : Int) := by
  obtain ⟨b, r, h⟩ := dig_ne u
  have hm := dig_mem u b (by rw [h]; simp)
  have hd := dec_dig u
  rw [h] at hd ⊢
  have h1 : ¬ b = 45 := fun e => by subst e; simp at hm
  have h2 : ¬ b = 43 := fun e => by subst e; simp at hm
  simp [Lib.atoi, h1, h2, Lib.decNat, hd]
theorem itoa_pos {n : Int} (h : 0 ≤ n) : Lib.itoa n = Lib.decDigits n.toNat := by unfold Lib.itoa; rw [if_neg (by omega)]
theorem atoi_itoa {n : Int} (h : 0 ≤ n ∧ n < 1000000000000) : atoiP (Lib.itoa n) = n := by
  rw [itoa_pos h.1]
  have hl := dig_len 11 n.toNat (by omega)
  unfold atoiP
  rw [Lib.atoiAll_short _ (by omega), atoi_dig]
  simp only [Lib.NumEnd.ofOption]
  omega
theorem itoa_mem {n : Int} (h : 0 ≤ n) : ∀ x ∈ Lib.itoa n, 48 ≤ x.toNat ∧ x.toNat ≤ 57 := by rw [itoa_pos h]; exact dig_mem _
theorem itoa_no {n : Int} (h : 0 ≤ n) (c : UInt8) (hc : c.toNat < 45) : c ∉ Lib.itoa n := fun hm => by have := itoa_mem h c hm; omega
end Go.Ab

