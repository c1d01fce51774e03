/-
  schedule: stretches: plain, and its contract.
-/
import Derived.Test.YtblibgbakbhlkaaDoorZdSh
import Derived.Test.YtblibgbakbhlkaaDoorZuW1
import Derived.Test.YtblibgbakbhlkaaDoorZuW2
set_option linter.unusedSimpArgs false
set_option linter.unusedVariables false
namespace Go.Ab
open Go Go.RowKit Go.Fwd
abbrev cutQ {τ α : Type} (R : τ → Prop) (Q : α → Prop) (o : τ ⊕ α) : Prop := match o with | .inl t => R t | .inr y => Q y
def Ok {α : Type} (Q : α → Prop) (x : Option α) : Prop := ∃ r, x = some r ∧ Q r
section
variable {α β τ ρ : Type} {Q : α → Prop}
theorem ok_chk {p : Prop} [Decidable p] {k : Option α} (h : p) (hk : Ok Q k) : Ok Q (chk p k) := by rw [chk_pos h]; exact hk
theorem ok_letE {e : β} {k : β → Option α} (h : ∀ x, e = x → Ok Q (k x)) : Ok Q (letE e k) := h e rfl
theorem ok_bindE {x : Option β} {k : β → Option α} {R : β → Prop} (h : Ok R x) (hk : ∀ a, R a → Ok Q (k a)) : Ok Q (bindE x k) := by
  obtain ⟨a, rfl, ha⟩ := h; exact hk a ha
theorem ok_bif {c : Bool} {A B : Option α} (ht : c = true → Ok Q A) (hf : c = false → Ok Q B) : Ok Q (bif c then A else B) := by
  cases c with
  | true => exact ht rfl
  | false => exact hf rfl
theorem ok_some {r : α} (h : Q r) : Ok Q (some r) := ⟨r, rfl, h⟩
theorem ok_cut {x : Option (τ ⊕ α)} {k : τ → Option α} (R : τ → Prop) (h : Ok (cutQ R Q) x) (hk : ∀ t, R t → Ok Q (k t)) : Ok Q (cutE x k) := by
  obtain ⟨o, rfl, h⟩ := h
  cases o with
  | inl t => exact hk t h
  | inr y => exact ⟨y, rfl, h⟩
theorem ok_loop {body : β → Option (β ⊕ α)} (T : β → Prop) (m : β → Nat) (hs : ∀ s, T s → Ok (cutQ (fun s' => T s' ∧ m s' < m s) Q) (body s)) : ∀ (n : Nat) (s0 : β), m s0 < n → T s0 → Ok Q (loopE body n s0)
  | 0, s0, h, _ => absurd h (Nat.not_lt_zero _)
  | n + 1, s0, h, h0 => by
    obtain ⟨o, ho, h1⟩ := hs s0 h0
    cases o with
    | inl s' =>
      obtain ⟨r, h2, h3⟩ := ok_loop T m hs n s' (by have := h1.2; omega) h1.1
      exact ⟨r, by simp only [loopE, ho, h2], h3⟩
    | inr y => exact ⟨y, by simp only [loopE, ho], h1⟩
theorem Ok.mono {R : α → Prop} {x : Option α} (h : Ok Q x) (hR : ∀ r, Q r → R r) : Ok R x := by
  obtain ⟨r, h1, h2⟩ := h; exact ⟨r, h1, hR r h2⟩
theorem Ok.eq {x : Option α} {v : α} (h : Ok (fun r => r = v) x) : x = some v := by
  obtain ⟨r, h1, rfl⟩ := h; exact h1
theorem ok_eq {x : Option α} {v : α} (h : x = some v) : Ok (fun r => r = v) x := ⟨v, h, rfl⟩
end
end Go.Ab
set_option linter.unusedSimpArgs false
set_option linter.unusedVariables false
set_option maxRecDepth 100000
namespace Go.Ab
open Go Go.RowKit Go.Fwd Go.Proofs
def quoteP (b : List UInt8) : List UInt8 := 34 :: (b.flatMap byteP) ++ [34]
theorem byteP_len (c : UInt8) : 1 ≤ (byteP c).length ∧ (byteP c).length ≤ 4 := by
  unfold byteP; repeat' split
  all_goals simp
theorem flat_len (b : List UInt8) : (b.flatMap byteP).length ≤ 4 * b.length := by
  induction b with
  | nil => simp
  | cons c b ih => have := byteP_len c; simp only [List.flatMap_cons, List.length_append, List.length_cons]; omega
theorem qbytes_eq (fuel : Nat) (b : List UInt8) (m : QSet) (hf : b.length < fuel) (hb : b.length ≤ 1000000000) : F_qbytes fuel b m = some (b.flatMap byteP) := by
  unfold F_qbytes
  refine Ok.eq (ok_cut (fun t => t.2 = b.flatMap byteP) ?_ (fun t h => ok_some h))
  refine ok_loop (fun s => ∃ i : Nat, s.1 = (i : Int) ∧ i ≤ b.length ∧ s.2.2 = (b.take i).flatMap byteP) (fun s => b.length - s.1.toNat) (fun s hT => ?_) _ _ (by simp; omega) ⟨0, rfl, by omega, by simp⟩
  obtain ⟨i, h1, h2, h3⟩ := hT
  obtain ⟨s1, s2, s3⟩ := s
  simp only at h1 h3
  subst h1 h3
  refine ok_bif (fun hc => ?_) (fun hc => ?_)
  · have hc : i < b.length := by have := of_decide_eq_true hc; omega
    have hx : ix b (i : Int) = b[i] := by simp [ix, hc]
    have hfl := flat_len (b.take i)
    have hbl := byteP_len b[i]
    have htl : (b.take i).length ≤ b.length := by simp; omega
    refine ok_chk (by simp only; omega) (ok_letE fun x hx' => ok_letE fun y hy => ok_chk ?_ (ok_chk (by simp only; omega) (ok_some ?_)))
    · rw [← hy, ← hx', hx]; simp only; omega
    · refine ⟨⟨i + 1, by simp, by omega, ?_⟩, by simp only; omega⟩
      simp only
      rw [← hy, ← hx', hx, List.take_succ_eq_append_getElem hc, List.flatMap_append]
      simp
  · have hc : i = b.length := by have := of_decide_eq_false hc; simp only at this; omega
    exact ok_some (by simp [hc])
theorem quote_eq (fuel : Nat) (b : List UInt8) (hf : b.length < fuel) (hb : b.length ≤ 1000000000) : F_quote fuel b = some (quoteP b) := by
  have := flat_len b
  unfold F_quote
  rw [qbytes_eq fuel b _ hf hb, bindE_some]
  refine chk_i (by simp only [List.length_cons, List.length_nil]; omega) (chk_i (by simp only [List.length_append, List.length_cons, List.length_nil]; omega) ?_)
  simp [quoteP]
section
variable (r : List UInt8)
end
theorem u8w_bnd (x : Int) : 0 ≤ IntKind.u8.wrap x ∧ IntKind.u8.wrap x < 256 := by
  have h1 := Int.emod_nonneg x (b := 256) (by decide)
  have h2 := Int.emod_lt_of_pos x (b := 256) (by decide)
  simp [IntKind.wrap, IntKind.bits, IntKind.signed]
  omega
theorem u8n_bnd (x : UInt8) : (0 : Int) ≤ (x.toNat : Nat) ∧ ((x.toNat : Nat) : Int) < 256 := by have := x.toNat_lt; omega
theorem ixb_le : ∀ (l : List UInt8) (c : UInt8), Lib.indexByte l c < l.length
  | [], c => by simp [Lib.indexByte]
  | a :: l, c => by
    have := ixb_le l c
    unfold Lib.indexByte
    repeat' split
    all_goals (simp only [List.length_cons]; omega)
set_option maxHeartbeats 2000000 in
theorem readbyte_ok (t : List UInt8) : Ok (fun x => (0 ≤ x.1 ∧ x.1 < 256) ∧ (x.2.2 = 0 → 1 ≤ x.2.1 ∧ x.2.1 ≤ (t.length : Int))) (F_readbyte t QSet.mk) := by
  unfold F_readbyte
  have hne : (t == ([] : List UInt8)) = false → 0 < t.length := fun h => by
    cases t with
    | nil => simp at h
    | cons => simp
  refine ok_cut (fun _ => 2 ≤ t.length) ?_ (fun _ hl => ?_)
  · refine ok_bif (fun _ => ok_some ⟨by decide, fun h => by simp at h⟩) (fun h => ?_)
    have h0 := hne h
    clear h hne
    have hc : (0 : Int) ≤ 0 ∧ (0 : Int) < (t.length : Int) := by omega
    repeat' (first | with_reducible refine ok_chk hc ?_ | with_reducible refine ok_letE fun _ _ => ?_ | with_reducible refine ok_bif (fun _ => ?_) (fun _ => ?_) | with_reducible refine ok_some ?_)
    all_goals first
      | exact ⟨by decide, fun h => by simp at h⟩
      | exact ⟨u8n_bnd _, fun _ => ⟨Int.le_refl 1, by show (1 : Int) ≤ _; omega⟩⟩
      | (rename_i h; have h := of_decide_eq_false h; show 2 ≤ t.length; omega)
  · have hc : (0 : Int) ≤ 1 ∧ (1 : Int) < (t.length : Int) := by omega
    have hix := fun c => ixb_le [110, 114, 116] c
    have h2 : (1 : Int) ≤ 2 ∧ (2 : Int) ≤ (t.length : Int) := by omega
    refine ok_chk hc (ok_letE fun x hx => ok_letE fun y hy => ?_)
    have hy2 : y < 3 := by rw [← hy]; exact hix x
    refine ok_cut (fun _ => True) ?_ (fun _ _ => ok_some ⟨by decide, fun h => by simp at h⟩)
    have tail : Ok (cutQ (fun _ => True) (fun (r : Int × Int × Int) => (0 ≤ r.1 ∧ r.1 < 256) ∧ (r.2.2 = 0 → 1 ≤ r.2.1 ∧ r.2.1 ≤ (t.length : Int)))) (bif ((((x).toNat : Nat) : Int) == 92) then (some (Sum.inr ((((x).toNat : Nat) : Int), 2, 0))) else (letE (isMarkP x) (fun x21 => (bif x21 then (some (Sum.inr ((((x).toNat : Nat) : Int), 2, 0))) else (bif (decide (y ≥ 0)) then (chk (0 ≤ y ∧ y < (List.length ([10, 13, 9] : List UInt8) : Int)) (letE (ix ([10, 13, 9] : List UInt8) y) (fun x22 => (some (Sum.inr ((((x22).toNat : Nat) : Int), 2, 0)))))) else (some (Sum.inl ()))))))) := by
      refine ok_bif (fun _ => ok_some ⟨u8n_bnd _, fun _ => h2⟩) (fun _ => ok_letE fun z _ => ok_bif (fun _ => ok_some ⟨u8n_bnd _, fun _ => h2⟩) (fun _ => ok_bif (fun h => ?_) (fun _ => ok_some trivial)))
      have h0 : (0 : Int) ≤ y := of_decide_eq_true h
      exact ok_chk ⟨h0, hy2⟩ (ok_letE fun w _ => ok_some ⟨u8n_bnd _, fun _ => h2⟩)
    refine ok_bif (fun _ => ok_bif (fun h => ?_) (fun _ => tail)) (fun _ => tail)
    have h3 : (3 : Int) < (t.length : Int) := of_decide_eq_true h
    have c2 : (0 : Int) ≤ 2 ∧ (2 : Int) < (t.length : Int) := by omega
    have c3 : (0 : Int) ≤ 3 ∧ (3 : Int) < (t.length : Int) := by omega
    refine ok_chk c2 (ok_letE fun _ _ => ok_letE fun _ _ => ok_bif (fun _ => ?_) (fun _ => tail))
    refine ok_chk c3 (ok_letE fun _ _ => ok_letE fun _ _ => ok_bif (fun _ => ?_) (fun _ => tail))
    refine ok_chk c2 (ok_letE fun _ _ => ok_letE fun _ _ => ok_chk c3 (ok_letE fun _ _ => ok_letE fun _ _ => ok_some ⟨u8w_bnd _, fun _ => ⟨(by decide : (1 : Int) ≤ 4), ?_⟩⟩))
    show (4 : Int) ≤ _
    omega
theorem sub_drop' {α : Type} (l : List α) (n : Nat) (hn : n ≤ l.length) : sub l (n : Int) (l.length : Int) = l.drop n := by
  simp only [sub, Int.toNat_natCast]
  exact List.take_of_length_le (by simp)
theorem ix_drop {α : Type} [Enc α] {t r : List α} {n : Nat} {a : α} (h : t.drop n = a :: r) : ix t (n : Int) = a ∧ n < t.length := by
  have hl : n < t.length := by
    rcases Nat.lt_or_ge n t.length with h1 | h1
    · exact h1
    · rw [List.drop_of_length_le h1] at h; cases h
  rw [List.drop_eq_getElem_cons hl] at h
  refine ⟨?_, hl⟩
  simp only [List.cons.injEq] at h
  simp [ix, hl, h.1]
theorem u8of_nat (c : UInt8) : u8of ((c.toNat : Nat) : Int) = c := by unfold u8of; simp
end Go.Ab
set_option linter.unusedSimpArgs false
set_option linter.unusedVariables false
namespace Go.Ab
open Go Go.RowKit Go.Fwd Go.Proofs
def runs : List Ev → List (List Ev)
  | [] => []
  | e :: l => match runs l with
    | (x :: s) :: r => if x.k = e.k then (e :: x :: s) :: r else [e] :: (x :: s) :: r
    | r => [e] :: r
theorem runs_head (e : Ev) : ∀ l : List Ev, ∃ s rest, l = s ++ rest ∧ runs (e :: l) = (e :: s) :: runs rest ∧ (∀ x ∈ s, x.k = e.k) ∧ (∀ x ∈ rest.head?, x.k ≠ e.k)
  | [] => ⟨[], [], rfl, rfl, by simp, by simp⟩
  | x :: l => by
    obtain ⟨s, rest, h1, h2, h3, h4⟩ := runs_head x l
    by_cases hk : x.k = e.k
    · exact ⟨x :: s, rest, by rw [h1]; rfl, by rw [runs, h2]; simp only [hk, if_true], fun y hy => (List.mem_cons.1 hy).elim (fun h => h ▸ hk) (fun h => (h3 y h).trans hk), fun y hy => hk ▸ h4 y hy⟩
    · exact ⟨[], x :: l, rfl, by rw [runs, h2]; simp only [hk, if_false], by simp, fun y hy => by simp at hy; subst hy; exact hk⟩
theorem ix_in {e : Ev} {s rest : List Ev} (h : ∀ x ∈ s, x.k = e.k) {n : Int} (h1 : 1 ≤ n) (h2 : n ≤ s.length) : (ix (e :: (s ++ rest)) n).k = e.k := by
  obtain ⟨k, hk⟩ : ∃ k : Nat, n.toNat = k + 1 := ⟨n.toNat - 1, by omega⟩
  have hl : k < s.length := by omega
  have : ix (e :: (s ++ rest)) n = s[k] := by
    unfold ix; rw [hk, List.getD_cons_succ, List.getD_eq_getElem?_getD, List.getElem?_append_left hl, List.getElem?_eq_getElem hl]; rfl
  rw [this]; exact h _ (List.getElem_mem hl)
theorem ix_out {e : Ev} {s rest : List Ev} (h : ∀ x ∈ rest.head?, x.k ≠ e.k) {n : Int} (h1 : n = s.length + 1) (h2 : 0 < rest.length) : (ix (e :: (s ++ rest)) n).k ≠ e.k := by
  cases rest with
  | nil => simp at h2
  | cons x r =>
    have hk : n.toNat = s.length + 1 := by omega
    have : ix (e :: (s ++ x :: r)) n = x := by
      unfold ix; rw [hk, List.getD_cons_succ, List.getD_eq_getElem?_getD, List.getElem?_append_right (Nat.le_refl _)]; simp
    rw [this]; exact h x rfl
theorem strb_eq (ev : List Ev) (fuel : Nat) (hf : ev.length + 1 < fuel) (hb : (ev.length : Int) < 9223372036854775807) : F_strb fuel ev (runs ev) = some (runs ev).length := by
  refine Ok.eq ?_
  unfold F_strb
  refine ok_loop (fun s => (runs ev).drop s.2 = runs s.1 ∧ s.1.length ≤ ev.length ∧ s.2 + (runs s.1).length = (runs ev).length) (fun s => s.1.length) ?_ fuel (ev, 0) (by show ev.length < _; omega) ⟨by simp, Nat.le_refl _, by simp⟩
  rintro ⟨l, i⟩ ⟨h1, h2, h3⟩
  dsimp only at h1 h2 h3 ⊢
  refine ok_bif (fun hc => ?_) (fun hc => ?_)
  rotate_left
  · have : l = [] := by simp at hc; exact hc
    subst this
    exact ok_some (by simpa [runs] using h3)
  cases l with
  | nil => simp at hc
  | cons e l =>
    obtain ⟨s, rest, e1, e2, e3, e4⟩ := runs_head e l
    have hlen : (e :: l).length = s.length + rest.length + 1 := by rw [e1]; simp
    subst e1
    refine ok_cut (fun j => j = (s.length : Int) + 1) (ok_loop (fun n : Int => 1 ≤ n ∧ n ≤ (s.length : Int) + 1) (fun n => (s.length + 2 : Nat) - n.toNat) ?_ fuel 1 (by
      show s.length + 2 - Int.toNat 1 < fuel
      have h9 : s.length + rest.length + 1 ≤ ev.length := by rw [← hlen]; exact h2
      have : Int.toNat 1 = 1 := rfl
      omega) (by omega)) ?_
    · rintro n ⟨k1, k2⟩
      refine ok_bif (fun hn => ?_) (fun hn => ?_)
      · have hn' : n < ((e :: (s ++ rest)).length : Int) := of_decide_eq_true hn
        refine ok_chk ⟨by omega, hn'⟩ (ok_letE fun x1 hx1 => ok_chk ⟨by omega, by simp; omega⟩ (ok_letE fun x2 hx2 => ok_bif (fun hx => ?_) (fun hx => ?_)))
        · refine ok_chk ⟨by omega, by omega⟩ (ok_some ⟨⟨by omega, ?_⟩, by omega⟩)
          rcases Int.lt_or_eq_of_le k2 with h | h
          · omega
          · exfalso
            have hr : 0 < rest.length := by rw [hlen] at hn'; omega
            have hne := ix_out e4 h hr
            rw [hx1] at hne
            have he : x2 = e := by rw [← hx2]; rfl
            rw [he] at hx
            exact hne (by simpa using hx)
        · refine ok_some ?_
          show n = _
          rcases Int.lt_or_eq_of_le k2 with h | h
          · exfalso
            have hin := ix_in (rest := rest) e3 k1 (by omega : n ≤ s.length)
            rw [hx1] at hin
            have he : x2 = e := by rw [← hx2]; rfl
            rw [he, hin] at hx; simp at hx
          · exact h
      · refine ok_some ?_
        show n = _
        have hn' : ¬ n < ((e :: (s ++ rest)).length : Int) := of_decide_eq_false hn
        rw [hlen] at hn'; omega
    · rintro j rfl
      have s1 : sub (e :: (s ++ rest)) 0 ((s.length : Int) + 1) = e :: s := by
        unfold sub
        rw [show ((s.length : Int) + 1).toNat - (0 : Int).toNat = s.length + 1 by omega]
        simp
      have s2 : sub (e :: (s ++ rest)) ((s.length : Int) + 1) ((e :: (s ++ rest)).length : Int) = rest := by
        unfold sub
        rw [show ((s.length : Int) + 1).toNat = s.length + 1 by omega, List.drop_succ_cons, List.drop_left, List.take_of_length_le (by rw [hlen]; omega)]
      have hrow : (runs ev)[i]? = some (e :: s) := by
        have := congrArg (fun z => z[0]?) h1
        simpa [e2] using this
      refine ok_chk ⟨by omega, by omega, by rw [hlen]; omega⟩ ?_
      rw [s1, s2]
      refine ⟨.inl (rest, i + 1), chkP_i hrow (by rw [chk_pos ⟨by omega, by rw [hlen]; omega, Int.le_refl _⟩]), ⟨?_, ?_, ?_⟩, ?_⟩
      · show (runs ev).drop (i + 1) = runs rest
        rw [← List.drop_drop, h1, e2]; rfl
      · show rest.length ≤ _
        omega
      · show i + 1 + (runs rest).length = _
        rw [e2] at h3; simp at h3; omega
      · show rest.length < (e :: (s ++ rest)).length
        rw [hlen]; omega
theorem strb_it (l : List Ev) (g : (List.length l : Int) < 9223372036854775807) : IterB Tryd.prog 37 23 [.list (List.length l) (Enc.cellsL l) .none] ((runs l).map rowE) := by
  obtain ⟨d, hd⟩ : ∃ d, Tryd.f37.body = some d := ⟨_, rfl⟩
  exact iterb_of mix Tryd.func37 hd fun k => by rw [List.length_map]; exact strb_sh (l.length + 2) l (runs l) (strb_eq l _ (by omega) g) d hd k
theorem ent23 : Ent Tryd.prog 23 := enters_of Tryd.func23 (by kernel_rfl) rfl
set_option maxRecDepth 100000 in
theorem stretches0 (l : List Ev) : Snd (ITP Tryd.prog) Tryd.prog 23 [.list l.length (Enc.cellsL l) .none] St.empty (.clos 37 [.ptr 0 0]) ⟨[(23, [.list l.length (Enc.cellsL l) .none])], [], [], 0, false⟩ := by
  obtain ⟨d, hd⟩ : ∃ d, Tryd.f23.body = some d := ⟨_, rfl⟩
  refine snd_of mix Tryd.func23 hd ent23 ?_
  cases hd
  refine w_start (by dsimp only [abeginS, Tryd.f23, List.length_cons, List.length_nil, Nat.zero_add, Nat.reduceAdd, Nat.reduceSub, List.replicate, List.cons_append, List.nil_append]) (by dsimp only [St.empty]) ?_
  refine w_seq (w_region ?_)
  refine w_opm (a := .ptr 0 0) (σ'' := ⟨[(23, [.list l.length (Enc.cellsL l) .none])], [], [], 0, false⟩) rfl rfl rfl rfl (by dsimp only [aput, List.set]) rfl ?_
  refine w_op (a := .raw .nilFunc) rfl rfl rfl rfl (by dsimp only [aput, List.set]) ?_
  refine w_seq (w_region ?_)
  refine w_op (a := .clos 37 [.ptr 0 0]) rfl rfl rfl rfl (by dsimp only [aput, List.set]) ?_
  refine w_op (a := .clos 37 [.ptr 0 0]) rfl rfl rfl rfl (by dsimp only [aput, List.set]) ?_
  refine end_keep (n := 0) (m := 0) [] [0] 0 rfl rfl rfl ?_
  simp [keepSt, keepBoxes, mapKL, mapK, roomK, mapKL_clo _ _ _ (Enc.cloL l), St.empty]
theorem stretches_snd (l : List Ev) (n : Nat) (σ : St) (hσ : σ.boxes.length = n) : Snd (ITP Tryd.prog) Tryd.prog 23 [.list l.length (Enc.cellsL l) .none] σ (.clos 37 [.ptr n 0]) { σ with boxes := σ.boxes ++ [(23, [.list l.length (Enc.cellsL l) .none])] } := by
  subst hσ
  have h := snd_lift (itp_mono _) (stretches0 l) (args := [.list l.length (Enc.cellsL l) .none]) (by rw [stripL, strip, Enc.stripL]; rfl) (by rw [okTrimL, okTrim, okTrimL_clo _ _ (Enc.cloL l)]; rfl) σ
  simpa [mapK, mapKL, roomK, shz, shBoxes, mapKL_clo _ _ _ (Enc.cloL l)] using h
end Go.Ab

