/-
  Cut and Itoa: plain.
-/
import Derived.Test.YtblibgbakbhlkaaGreatDoorZvQc
import Derived.Test.YtblibgbakbhlkaaGreatDoorZdSh
import Derived.Test.YtblibgbakbhlkaaGreatDoorZvW1
import Derived.Lib.AtoiTie
set_option linter.unusedSimpArgs false
set_option linter.unusedVariables false
namespace Go.Ab
open Go Go.RowKit Go.Fwd Go.Proofs
theorem ent50 : Ent Tryz.prog 50 := enters_of Tryz.func50 (by kernel_rfl) rfl
theorem ent51 : Ent Tryz.prog 51 := enters_of Tryz.func51 (by kernel_rfl) rfl
theorem ent87 : Ent Tryz.prog 87 := enters_of Tryz.func87 (by kernel_rfl) rfl
theorem hasp_pure (l p : List UInt8) : Pure (ITP Tryz.prog) Tryz.prog 51 [.raw (.string (bs l)), .raw (.string (bs p))] (.raw (.bool (Lib.hasPrefix l p))) :=
  pure_below [.string (bs l), .string (bs p)] ent51 (fun X us h => raws2 h) fun X hI => (Tryz.strings_HasPrefix (bs l) (bs p) X.w).mono fun e w' ⟨h1, h2⟩ => ⟨_, h1, h2 ▸ Below.refl _ _, fun Y => rfl⟩
theorem cutp_pure (l p : List UInt8) : Pure (ITP Tryz.prog) Tryz.prog 87 [.raw (.string (bs l)), .raw (.string (bs p))] (.tup [.raw (.string (bs (Lib.trimPrefix l p, Lib.hasPrefix l p).1)), .raw (.bool (Lib.trimPrefix l p, Lib.hasPrefix l p).2)]) :=
  pure_below [.string (bs l), .string (bs p)] ent87 (fun X us h => raws2 h) fun X hI => (Tryz.strings_CutPrefix (bs l) (bs p) X.w).mono fun e w' ⟨h1, h2⟩ => ⟨_, h1, h2 ▸ Below.refl _ _, fun Y => ⟨_, rfl, _, _, rfl, rfl, _, _, rfl, rfl, rfl⟩⟩
def atoiOk (l : List UInt8) : Bool := match Lib.atoiAll l with
  | .ok _ => true
  | _ => false
theorem atoi_okP (l : List UInt8) (g : l.length ≤ 281474976710656) (h : atoiOk l = true) : Pure (ITP Tryz.prog) Tryz.prog 88 [.raw (.string (bs l))] (.tup [.raw (.int .i64 (atoiP l)), .raw .nilIface]) := by
  unfold atoiOk at h
  unfold atoiP
  split
  · rename_i v hv; exact atoi_ok (bs l) v (by show l.length ≤ _; omega) hv
  · rename_i hv; rw [hv] at h; cases h
  · rename_i hv; rw [hv] at h; cases h
theorem atoi_errP (l : List UInt8) (g : l.length ≤ 281474976710656) (h : atoiOk l = false) : Pure (ITP Tryz.prog) Tryz.prog 88 [.raw (.string (bs l))] (.tup [.raw (.int .i64 (atoiP l)), .iter errRows]) := by
  unfold atoiOk at h
  unfold atoiP
  split
  · rename_i v hv; rw [hv] at h; cases h
  · rename_i hv
    exact pure_below [.string (bs l)] ent88 (fun X us h => raws1 h) fun X hI => by
      obtain ⟨ev, h1, h2⟩ := vars_ok hI 2 (by first | exact .inl rfl | exact .inr rfl)
      exact (Tryz.strconv_Atoi_syntax (bs l) g hv ev X.w h1 h2).mono fun e w' ⟨N, k1, _, _, k2⟩ => ⟨_, k1, k2, fun Y => ⟨_, rfl, _, _, rfl, rfl, _, _, rfl, .inl ⟨rfl, _, _, rfl⟩, rfl⟩⟩
  · rename_i hv
    exact pure_below [.string (bs l)] ent88 (fun X us h => raws1 h) fun X hI => by
      obtain ⟨ev, h1, h2⟩ := vars_ok hI 3 (by first | exact .inr rfl | exact .inl rfl)
      exact (Tryz.strconv_Atoi_range (bs l) g hv ev X.w h1 h2).mono fun e w' ⟨N, k1, _, _, k2⟩ => ⟨_, k1, k2, fun Y => ⟨_, rfl, _, _, rfl, rfl, _, _, rfl, .inl ⟨rfl, _, _, rfl⟩, rfl⟩⟩
theorem at_strs {IT : IterP} {X : Cx} : ∀ (xs : List (List UInt8)) (b o : Nat), At IT X (Enc.cellsL xs) b o → ∀ (j : Nat) (x : List UInt8), xs[j]? = some x → X.w.cell? ⟨b, o + j, none⟩ = some (.string (bs x))
  | [], _, _, _, j, x, h => by simp at h
  | y :: ys, b, o, h, j, x, hj => by
    have h' : At IT X (.raw (.string (bs y)) :: Enc.cellsL ys) b o := h
    rw [At] at h'
    obtain ⟨⟨_, v, hv, _, hr⟩, ht⟩ := h'
    cases j with
    | zero => simp at hj; subst hj; rw [Rep] at hr; rw [← hr]; exact hv
    | succ j => have := at_strs ys b (o + 1) ht j x (by simpa using hj); rw [show o + (j + 1) = o + 1 + j by omega]; exact this
theorem join_pure (xs : List (List UInt8)) (sep : List UInt8) (g : (xs.length : Int) ≤ 140737488355328 ∧ ((Lib.join xs sep).length : Int) ≤ 140737488355328) : Pure (ITP Tryz.prog) Tryz.prog 50 [.list xs.length (Enc.cellsL xs) .none, .raw (.string (bs sep))] (.raw (.string (bs (Lib.join xs sep)))) := by
  refine ⟨ent50, fun X us hI hr => ?_⟩
  have fin : ∀ w', Below X.w.heap.size X.w w' → ∃ v X', Ending.returned (.string (bs (Lib.join xs sep))) = .returned v ∧ X'.w = w' ∧ Ext X X' ∧ Inv (ITP Tryz.prog) St.empty X' ∧ Rep (ITP Tryz.prog) X' (.raw (.string (bs (Lib.join xs sep)))) v := fun w' hx => by
    have hg : Grows X.w w' := ⟨⟨hx.os, hx.tape, hx.output, hx.size, hx.block⟩, Nat.le_refl _⟩
    exact ⟨_, grown X w', rfl, rfl, ext_grown hI hg, inv_grown (itp_mono _) hI hg, rfl⟩
  obtain ⟨v, l, rfl, hv, u, l', rfl, hu, hl⟩ := hr
  have hu : u = .string (bs sep) := hu
  have hl : l' = [] := hl
  subst hu hl
  rw [Rep] at hv
  obtain ⟨a, cap, rfl, ⟨hcap, _⟩, hc, _⟩ := hv
  rcases hc with hc | ⟨b, o, rfl, hat⟩
  · have hn : xs = [] := by
      cases xs with
      | nil => rfl
      | cons x xs => rw [Enc.cons] at hc; cases hc
    subst hn
    exact (Tryz.strings_Join_none a cap (bs sep) X.w).mono fun e w' ⟨h1, h2⟩ => by subst h1 h2; exact fin _ (Below.refl _ _)
  · cases xs with
    | nil => exact (Tryz.strings_Join_none _ cap (bs sep) X.w).mono fun e w' ⟨h1, h2⟩ => by subst h1 h2; exact fin _ (Below.refl _ _)
    | cons x ys =>
      have hlt : b < X.w.heap.size := by
        have h' : At (ITP Tryz.prog) X (.raw (.string (bs x)) :: Enc.cellsL ys) b o := hat
        rw [At] at h'
        exact hI.Flt h'.1.1
      have e1 : ((x :: ys).map bs).map (·.data.toList) = x :: ys := by rw [List.map_map]; exact (List.map_congr_left fun y _ => rfl).trans (List.map_id _)
      have h := Tryz.strings_Join b o cap ((x :: ys).map bs) (bs sep) X.w (fun j y hj => by
        rw [List.getElem?_map, Option.map_eq_some_iff] at hj
        obtain ⟨z, hz, rfl⟩ := hj
        exact at_strs _ b o hat j z hz) hlt (by rw [List.length_map]; omega) (by rw [List.length_map]; exact hcap) (by rw [e1]; show (Lib.join (x :: ys) sep).length ≤ _; omega)
      rw [e1, List.length_map] at h
      exact h.mono fun e w' ⟨h1, h2⟩ => by subst h1; exact fin _ h2
end Go.Ab
set_option linter.unusedSimpArgs false
set_option linter.unusedVariables false
namespace Go.Ab
open Go Go.RowKit Go.Fwd
abbrev cutQ {τ α : Type} (R : τ → Prop) (Q : α → Prop) (o : τ ⊕ α) : Prop := match o with | .inl t => R t | .inr y => Q y
def Ok {α : Type} (Q : α → Prop) (x : Option α) : Prop := ∃ r, x = some r ∧ Q r
section
variable {α β τ ρ : Type} {Q : α → Prop}
theorem ok_chk {p : Prop} [Decidable p] {k : Option α} (h : p) (hk : Ok Q k) : Ok Q (chk p k) := by rw [chk_pos h]; exact hk
theorem ok_letE {e : β} {k : β → Option α} (h : ∀ x, e = x → Ok Q (k x)) : Ok Q (letE e k) := h e rfl
theorem ok_bindE {x : Option β} {k : β → Option α} {R : β → Prop} (h : Ok R x) (hk : ∀ a, R a → Ok Q (k a)) : Ok Q (bindE x k) := by
  obtain ⟨a, rfl, ha⟩ := h; exact hk a ha
theorem ok_bif {c : Bool} {A B : Option α} (ht : c = true → Ok Q A) (hf : c = false → Ok Q B) : Ok Q (bif c then A else B) := by
  cases c with
  | true => exact ht rfl
  | false => exact hf rfl
theorem ok_some {r : α} (h : Q r) : Ok Q (some r) := ⟨r, rfl, h⟩
theorem ok_cut {x : Option (τ ⊕ α)} {k : τ → Option α} (R : τ → Prop) (h : Ok (cutQ R Q) x) (hk : ∀ t, R t → Ok Q (k t)) : Ok Q (cutE x k) := by
  obtain ⟨o, rfl, h⟩ := h
  cases o with
  | inl t => exact hk t h
  | inr y => exact ⟨y, rfl, h⟩
theorem ok_loop {body : β → Option (β ⊕ α)} (T : β → Prop) (m : β → Nat) (hs : ∀ s, T s → Ok (cutQ (fun s' => T s' ∧ m s' < m s) Q) (body s)) : ∀ (n : Nat) (s0 : β), m s0 < n → T s0 → Ok Q (loopE body n s0)
  | 0, s0, h, _ => absurd h (Nat.not_lt_zero _)
  | n + 1, s0, h, h0 => by
    obtain ⟨o, ho, h1⟩ := hs s0 h0
    cases o with
    | inl s' =>
      obtain ⟨r, h2, h3⟩ := ok_loop T m hs n s' (by have := h1.2; omega) h1.1
      exact ⟨r, by simp only [loopE, ho, h2], h3⟩
    | inr y => exact ⟨y, by simp only [loopE, ho], h1⟩
theorem Ok.mono {R : α → Prop} {x : Option α} (h : Ok Q x) (hR : ∀ r, Q r → R r) : Ok R x := by
  obtain ⟨r, h1, h2⟩ := h; exact ⟨r, h1, hR r h2⟩
theorem Ok.eq {x : Option α} {v : α} (h : Ok (fun r => r = v) x) : x = some v := by
  obtain ⟨r, h1, rfl⟩ := h; exact h1
theorem ok_eq {x : Option α} {v : α} (h : x = some v) : Ok (fun r => r = v) x := ⟨v, h, rfl⟩
end
end Go.Ab
set_option linter.unusedSimpArgs false
set_option linter.unusedVariables false
set_option maxRecDepth 100000
namespace Go.Ab
open Go Go.RowKit Go.Fwd Go.Proofs
section
variable (r : List UInt8)
end
theorem u8n_bnd (x : UInt8) : (0 : Int) ≤ (x.toNat : Nat) ∧ ((x.toNat : Nat) : Int) < 256 := by have := x.toNat_lt; omega
theorem sub_drop' {α : Type} (l : List α) (n : Nat) (hn : n ≤ l.length) : sub l (n : Int) (l.length : Int) = l.drop n := by
  simp only [sub, Int.toNat_natCast]
  exact List.take_of_length_le (by simp)
theorem u8of_nat (c : UInt8) : u8of ((c.toNat : Nat) : Int) = c := by unfold u8of; simp
end Go.Ab
set_option linter.unusedSimpArgs false
set_option linter.unusedVariables false
namespace Go.Ab
open Go Go.RowKit Go.Fwd Go.Proofs
end Go.Ab

