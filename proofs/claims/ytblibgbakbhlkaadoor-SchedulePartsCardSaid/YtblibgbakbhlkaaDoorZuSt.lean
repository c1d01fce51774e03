/-
  schedule: stretches: plain, and its contract.
-/
import Derived.Test.YtblibgbakbhlkaaDoorZuQc
import Derived.Test.YtblibgbakbhlkaaDoorZdSh
import Derived.Test.YtblibgbakbhlkaaDoorZuW1
import Derived.Lib.AtoiTie
import Derived.Test.YtblibgbakbhlkaaDoorZuW2
set_option linter.unusedSimpArgs false
set_option linter.unusedVariables false
namespace Go.Ab
open Go Go.RowKit Go.Fwd Go.Proofs
theorem ent26 : Ent Tryd.prog 26 := enters_of Tryd.func26 (by kernel_rfl) rfl
theorem ent44 : Ent Tryd.prog 44 := enters_of Tryd.func44 (by kernel_rfl) rfl
theorem ent47 : Ent Tryd.prog 47 := enters_of Tryd.func47 (by kernel_rfl) rfl
theorem hasp_pure (l p : List UInt8) : Pure (ITP Tryd.prog) Tryd.prog 44 [.raw (.string (bs l)), .raw (.string (bs p))] (.raw (.bool (Lib.hasPrefix l p))) :=
  pure_below [.string (bs l), .string (bs p)] ent44 (fun X us h => raws2 h) fun X hI => (Tryd.strings_HasPrefix (bs l) (bs p) X.w).mono fun e w' ⟨h1, h2⟩ => ⟨_, h1, h2 ▸ Below.refl _ _, fun Y => rfl⟩
theorem cutp_pure (l p : List UInt8) : Pure (ITP Tryd.prog) Tryd.prog 47 [.raw (.string (bs l)), .raw (.string (bs p))] (.tup [.raw (.string (bs (Lib.trimPrefix l p, Lib.hasPrefix l p).1)), .raw (.bool (Lib.trimPrefix l p, Lib.hasPrefix l p).2)]) :=
  pure_below [.string (bs l), .string (bs p)] ent47 (fun X us h => raws2 h) fun X hI => (Tryd.strings_CutPrefix (bs l) (bs p) X.w).mono fun e w' ⟨h1, h2⟩ => ⟨_, h1, h2 ▸ Below.refl _ _, fun Y => ⟨_, rfl, _, _, rfl, rfl, _, _, rfl, rfl, rfl⟩⟩
def atoiOk (l : List UInt8) : Bool := match Lib.atoiAll l with
  | .ok _ => true
  | _ => false
theorem atoi_okP (l : List UInt8) (g : l.length ≤ 281474976710656) (h : atoiOk l = true) : Pure (ITP Tryd.prog) Tryd.prog 48 [.raw (.string (bs l))] (.tup [.raw (.int .i64 (atoiP l)), .raw .nilIface]) := by
  unfold atoiOk at h
  unfold atoiP
  split
  · rename_i v hv; exact atoi_ok (bs l) v (by show l.length ≤ _; omega) hv
  · rename_i hv; rw [hv] at h; cases h
  · rename_i hv; rw [hv] at h; cases h
theorem atoi_errP (l : List UInt8) (g : l.length ≤ 281474976710656) (h : atoiOk l = false) : Pure (ITP Tryd.prog) Tryd.prog 48 [.raw (.string (bs l))] (.tup [.raw (.int .i64 (atoiP l)), .iter errRows]) := by
  unfold atoiOk at h
  unfold atoiP
  split
  · rename_i v hv; rw [hv] at h; cases h
  · rename_i hv
    exact pure_below [.string (bs l)] ent48 (fun X us h => raws1 h) fun X hI => by
      obtain ⟨ev, h1, h2⟩ := vars_ok hI 2 (by first | exact .inl rfl | exact .inr rfl)
      exact (Tryd.strconv_Atoi_syntax (bs l) g hv ev X.w h1 h2).mono fun e w' ⟨N, k1, _, _, k2⟩ => ⟨_, k1, k2, fun Y => ⟨_, rfl, _, _, rfl, rfl, _, _, rfl, .inl ⟨rfl, _, _, rfl⟩, rfl⟩⟩
  · rename_i hv
    exact pure_below [.string (bs l)] ent48 (fun X us h => raws1 h) fun X hI => by
      obtain ⟨ev, h1, h2⟩ := vars_ok hI 3 (by first | exact .inr rfl | exact .inl rfl)
      exact (Tryd.strconv_Atoi_range (bs l) g hv ev X.w h1 h2).mono fun e w' ⟨N, k1, _, _, k2⟩ => ⟨_, k1, k2, fun Y => ⟨_, rfl, _, _, rfl, rfl, _, _, rfl, .inl ⟨rfl, _, _, rfl⟩, rfl⟩⟩
theorem at_strs {IT : IterP} {X : Cx} : ∀ (xs : List (List UInt8)) (b o : Nat), At IT X (Enc.cellsL xs) b o → ∀ (j : Nat) (x : List UInt8), xs[j]? = some x → X.w.cell? ⟨b, o + j, none⟩ = some (.string (bs x))
  | [], _, _, _, j, x, h => by simp at h
  | y :: ys, b, o, h, j, x, hj => by
    have h' : At IT X (.raw (.string (bs y)) :: Enc.cellsL ys) b o := h
    rw [At] at h'
    obtain ⟨⟨_, v, hv, _, hr⟩, ht⟩ := h'
    cases j with
    | zero => simp at hj; subst hj; rw [Rep] at hr; rw [← hr]; exact hv
    | succ j => have := at_strs ys b (o + 1) ht j x (by simpa using hj); rw [show o + (j + 1) = o + 1 + j by omega]; exact this
theorem join_pure (xs : List (List UInt8)) (sep : List UInt8) (g : (xs.length : Int) ≤ 140737488355328 ∧ ((Lib.join xs sep).length : Int) ≤ 140737488355328) : Pure (ITP Tryd.prog) Tryd.prog 26 [.list xs.length (Enc.cellsL xs) .none, .raw (.string (bs sep))] (.raw (.string (bs (Lib.join xs sep)))) := by
  refine ⟨ent26, fun X us hI hr => ?_⟩
  have fin : ∀ w', Below X.w.heap.size X.w w' → ∃ v X', Ending.returned (.string (bs (Lib.join xs sep))) = .returned v ∧ X'.w = w' ∧ Ext X X' ∧ Inv (ITP Tryd.prog) St.empty X' ∧ Rep (ITP Tryd.prog) X' (.raw (.string (bs (Lib.join xs sep)))) v := fun w' hx => by
    have hg : Grows X.w w' := ⟨⟨hx.os, hx.tape, hx.output, hx.size, hx.block⟩, Nat.le_refl _⟩
    exact ⟨_, grown X w', rfl, rfl, ext_grown hI hg, inv_grown (itp_mono _) hI hg, rfl⟩
  obtain ⟨v, l, rfl, hv, u, l', rfl, hu, hl⟩ := hr
  have hu : u = .string (bs sep) := hu
  have hl : l' = [] := hl
  subst hu hl
  rw [Rep] at hv
  obtain ⟨a, cap, rfl, ⟨hcap, _⟩, hc, _⟩ := hv
  rcases hc with hc | ⟨b, o, rfl, hat⟩
  · have hn : xs = [] := by
      cases xs with
      | nil => rfl
      | cons x xs => rw [Enc.cons] at hc; cases hc
    subst hn
    exact (Tryd.strings_Join_none a cap (bs sep) X.w).mono fun e w' ⟨h1, h2⟩ => by subst h1 h2; exact fin _ (Below.refl _ _)
  · cases xs with
    | nil => exact (Tryd.strings_Join_none _ cap (bs sep) X.w).mono fun e w' ⟨h1, h2⟩ => by subst h1 h2; exact fin _ (Below.refl _ _)
    | cons x ys =>
      have hlt : b < X.w.heap.size := by
        have h' : At (ITP Tryd.prog) X (.raw (.string (bs x)) :: Enc.cellsL ys) b o := hat
        rw [At] at h'
        exact hI.Flt h'.1.1
      have e1 : ((x :: ys).map bs).map (·.data.toList) = x :: ys := by rw [List.map_map]; exact (List.map_congr_left fun y _ => rfl).trans (List.map_id _)
      have h := Tryd.strings_Join b o cap ((x :: ys).map bs) (bs sep) X.w (fun j y hj => by
        rw [List.getElem?_map, Option.map_eq_some_iff] at hj
        obtain ⟨z, hz, rfl⟩ := hj
        exact at_strs _ b o hat j z hz) hlt (by rw [List.length_map]; omega) (by rw [List.length_map]; exact hcap) (by rw [e1]; show (Lib.join (x :: ys) sep).length ≤ _; omega)
      rw [e1, List.length_map] at h
      exact h.mono fun e w' ⟨h1, h2⟩ => by subst h1; exact fin _ h2
end Go.Ab
set_option linter.unusedSimpArgs false
set_option linter.unusedVariables false
namespace Go.Ab
open Go Go.RowKit Go.Fwd
abbrev cutQ {τ α : Type} (R : τ → Prop) (Q : α → Prop) (o : τ ⊕ α) : Prop := match o with | .inl t => R t | .inr y => Q y
def Ok {α : Type} (Q : α → Prop) (x : Option α) : Prop := ∃ r, x = some r ∧ Q r
section
variable {α β τ ρ : Type} {Q : α → Prop}
theorem ok_chk {p : Prop} [Decidable p] {k : Option α} (h : p) (hk : Ok Q k) : Ok Q (chk p k) := by rw [chk_pos h]; exact hk
theorem ok_letE {e : β} {k : β → Option α} (h : ∀ x, e = x → Ok Q (k x)) : Ok Q (letE e k) := h e rfl
theorem ok_bindE {x : Option β} {k : β → Option α} {R : β → Prop} (h : Ok R x) (hk : ∀ a, R a → Ok Q (k a)) : Ok Q (bindE x k) := by
  obtain ⟨a, rfl, ha⟩ := h; exact hk a ha
theorem ok_bif {c : Bool} {A B : Option α} (ht : c = true → Ok Q A) (hf : c = false → Ok Q B) : Ok Q (bif c then A else B) := by
  cases c with
  | true => exact ht rfl
  | false => exact hf rfl
theorem ok_some {r : α} (h : Q r) : Ok Q (some r) := ⟨r, rfl, h⟩
theorem ok_cut {x : Option (τ ⊕ α)} {k : τ → Option α} (R : τ → Prop) (h : Ok (cutQ R Q) x) (hk : ∀ t, R t → Ok Q (k t)) : Ok Q (cutE x k) := by
  obtain ⟨o, rfl, h⟩ := h
  cases o with
  | inl t => exact hk t h
  | inr y => exact ⟨y, rfl, h⟩
theorem ok_loop {body : β → Option (β ⊕ α)} (T : β → Prop) (m : β → Nat) (hs : ∀ s, T s → Ok (cutQ (fun s' => T s' ∧ m s' < m s) Q) (body s)) : ∀ (n : Nat) (s0 : β), m s0 < n → T s0 → Ok Q (loopE body n s0)
  | 0, s0, h, _ => absurd h (Nat.not_lt_zero _)
  | n + 1, s0, h, h0 => by
    obtain ⟨o, ho, h1⟩ := hs s0 h0
    cases o with
    | inl s' =>
      obtain ⟨r, h2, h3⟩ := ok_loop T m hs n s' (by have := h1.2; omega) h1.1
      exact ⟨r, by simp only [loopE, ho, h2], h3⟩
    | inr y => exact ⟨y, by simp only [loopE, ho], h1⟩
theorem Ok.mono {R : α → Prop} {x : Option α} (h : Ok Q x) (hR : ∀ r, Q r → R r) : Ok R x := by
  obtain ⟨r, h1, h2⟩ := h; exact ⟨r, h1, hR r h2⟩
theorem Ok.eq {x : Option α} {v : α} (h : Ok (fun r => r = v) x) : x = some v := by
  obtain ⟨r, h1, rfl⟩ := h; exact h1
theorem ok_eq {x : Option α} {v : α} (h : x = some v) : Ok (fun r => r = v) x := ⟨v, h, rfl⟩
end
end Go.Ab
set_option linter.unusedSimpArgs false
set_option linter.unusedVariables false
set_option maxRecDepth 100000
namespace Go.Ab
open Go Go.RowKit Go.Fwd Go.Proofs
section
variable (r : List UInt8)
end
theorem u8n_bnd (x : UInt8) : (0 : Int) ≤ (x.toNat : Nat) ∧ ((x.toNat : Nat) : Int) < 256 := by have := x.toNat_lt; omega
theorem sub_drop' {α : Type} (l : List α) (n : Nat) (hn : n ≤ l.length) : sub l (n : Int) (l.length : Int) = l.drop n := by
  simp only [sub, Int.toNat_natCast]
  exact List.take_of_length_le (by simp)
theorem u8of_nat (c : UInt8) : u8of ((c.toNat : Nat) : Int) = c := by unfold u8of; simp
end Go.Ab
set_option linter.unusedSimpArgs false
set_option linter.unusedVariables false
namespace Go.Ab
open Go Go.RowKit Go.Fwd Go.Proofs
end Go.Ab
set_option linter.unusedSimpArgs false
set_option linter.unusedVariables false
namespace Go.Ab
open Go Go.RowKit Go.Fwd Go.Proofs
def runs : List Ev → List (List Ev)
  | [] => []
  | e :: l => match runs l with
    | (x :: s) :: r => if x.k = e.k then (e :: x :: s) :: r else [e] :: (x :: s) :: r
    | r => [e] :: r
theorem runs_head (e : Ev) : ∀ l : List Ev, ∃ s rest, l = s ++ rest ∧ runs (e :: l) = (e :: s) :: runs rest ∧ (∀ x ∈ s, x.k = e.k) ∧ (∀ x ∈ rest.head?, x.k ≠ e.k)
  | [] => ⟨[], [], rfl, rfl, by simp, by simp⟩
  | x :: l => by
    obtain ⟨s, rest, h1, h2, h3, h4⟩ := runs_head x l
    by_cases hk : x.k = e.k
    · exact ⟨x :: s, rest, by rw [h1]; rfl, by rw [runs, h2]; simp only [hk, if_true], fun y hy => (List.mem_cons.1 hy).elim (fun h => h ▸ hk) (fun h => (h3 y h).trans hk), fun y hy => hk ▸ h4 y hy⟩
    · exact ⟨[], x :: l, rfl, by rw [runs, h2]; simp only [hk, if_false], by simp, fun y hy => by simp at hy; subst hy; exact hk⟩
theorem ix_in {e : Ev} {s rest : List Ev} (h : ∀ x ∈ s, x.k = e.k) {n : Int} (h1 : 1 ≤ n) (h2 : n ≤ s.length) : (ix (e :: (s ++ rest)) n).k = e.k := by
  obtain ⟨k, hk⟩ : ∃ k : Nat, n.toNat = k + 1 := ⟨n.toNat - 1, by omega⟩
  have hl : k < s.length := by omega
  have : ix (e :: (s ++ rest)) n = s[k] := by
    unfold ix; rw [hk, List.getD_cons_succ, List.getD_eq_getElem?_getD, List.getElem?_append_left hl, List.getElem?_eq_getElem hl]; rfl
  rw [this]; exact h _ (List.getElem_mem hl)
theorem ix_out {e : Ev} {s rest : List Ev} (h : ∀ x ∈ rest.head?, x.k ≠ e.k) {n : Int} (h1 : n = s.length + 1) (h2 : 0 < rest.length) : (ix (e :: (s ++ rest)) n).k ≠ e.k := by
  cases rest with
  | nil => simp at h2
  | cons x r =>
    have hk : n.toNat = s.length + 1 := by omega
    have : ix (e :: (s ++ x :: r)) n = x := by
      unfold ix; rw [hk, List.getD_cons_succ, List.getD_eq_getElem?_getD, List.getElem?_append_right (Nat.le_refl _)]; simp
    rw [this]; exact h x rfl
theorem strb_eq (ev : List Ev) (fuel : Nat) (hf : ev.length + 1 < fuel) (hb : (ev.length : Int) < 9223372036854775807) : F_strb fuel ev (runs ev) = some (runs ev).length := by
  refine Ok.eq ?_
  unfold F_strb
  refine ok_loop (fun s => (runs ev).drop s.2 = runs s.1 ∧ s.1.length ≤ ev.length ∧ s.2 + (runs s.1).length = (runs ev).length) (fun s => s.1.length) ?_ fuel (ev, 0) (by show ev.length < _; omega) ⟨by simp, Nat.le_refl _, by simp⟩
  rintro ⟨l, i⟩ ⟨h1, h2, h3⟩
  dsimp only at h1 h2 h3 ⊢
  refine ok_bif (fun hc => ?_) (fun hc => ?_)
  rotate_left
  · have : l = [] := by simp at hc; exact hc
    subst this
    exact ok_some (by simpa [runs] using h3)
  cases l with
  | nil => simp at hc
  | cons e l =>
    obtain ⟨s, rest, e1, e2, e3, e4⟩ := runs_head e l
    have hlen : (e :: l).length = s.length + rest.length + 1 := by rw [e1]; simp
    subst e1
    refine ok_cut (fun j => j = (s.length : Int) + 1) (ok_loop (fun n : Int => 1 ≤ n ∧ n ≤ (s.length : Int) + 1) (fun n => (s.length + 2 : Nat) - n.toNat) ?_ fuel 1 (by
      show s.length + 2 - Int.toNat 1 < fuel
      have h9 : s.length + rest.length + 1 ≤ ev.length := by rw [← hlen]; exact h2
      have : Int.toNat 1 = 1 := rfl
      omega) (by omega)) ?_
    · rintro n ⟨k1, k2⟩
      refine ok_bif (fun hn => ?_) (fun hn => ?_)
      · have hn' : n < ((e :: (s ++ rest)).length : Int) := of_decide_eq_true hn
        refine ok_chk ⟨by omega, hn'⟩ (ok_letE fun x1 hx1 => ok_chk ⟨by omega, by simp; omega⟩ (ok_letE fun x2 hx2 => ok_bif (fun hx => ?_) (fun hx => ?_)))
        · refine ok_chk ⟨by omega, by omega⟩ (ok_some ⟨⟨by omega, ?_⟩, by omega⟩)
          rcases Int.lt_or_eq_of_le k2 with h | h
          · omega
          · exfalso
            have hr : 0 < rest.length := by rw [hlen] at hn'; omega
            have hne := ix_out e4 h hr
            rw [hx1] at hne
            have he : x2 = e := by rw [← hx2]; rfl
            rw [he] at hx
            exact hne (by simpa using hx)
        · refine ok_some ?_
          show n = _
          rcases Int.lt_or_eq_of_le k2 with h | h
          · exfalso
            have hin := ix_in (rest := rest) e3 k1 (by omega : n ≤ s.length)
            rw [hx1] at hin
            have he : x2 = e := by rw [← hx2]; rfl
            rw [he, hin] at hx; simp at hx
          · exact h
      · refine ok_some ?_
        show n = _
        have hn' : ¬ n < ((e :: (s ++ rest)).length : Int) := of_decide_eq_false hn
        rw [hlen] at hn'; omega
    · rintro j rfl
      have s1 : sub (e :: (s ++ rest)) 0 ((s.length : Int) + 1) = e :: s := by
        unfold sub
        rw [show ((s.length : Int) + 1).toNat - (0 : Int).toNat = s.length + 1 by omega]
        simp
      have s2 : sub (e :: (s ++ rest)) ((s.length : Int) + 1) ((e :: (s ++ rest)).length : Int) = rest := by
        unfold sub
        rw [show ((s.length : Int) + 1).toNat = s.length + 1 by omega, List.drop_succ_cons, List.drop_left, List.take_of_length_le (by rw [hlen]; omega)]
      have hrow : (runs ev)[i]? = some (e :: s) := by
        have := congrArg (fun z => z[0]?) h1
        simpa [e2] using this
      refine ok_chk ⟨by omega, by omega, by rw [hlen]; omega⟩ ?_
      rw [s1, s2]
      refine ⟨.inl (rest, i + 1), chkP_i hrow (by rw [chk_pos ⟨by omega, by rw [hlen]; omega, Int.le_refl _⟩]), ⟨?_, ?_, ?_⟩, ?_⟩
      · show (runs ev).drop (i + 1) = runs rest
        rw [← List.drop_drop, h1, e2]; rfl
      · show rest.length ≤ _
        omega
      · show i + 1 + (runs rest).length = _
        rw [e2] at h3; simp at h3; omega
      · show rest.length < (e :: (s ++ rest)).length
        rw [hlen]; omega
theorem strb_it (l : List Ev) (g : (List.length l : Int) < 9223372036854775807) : IterB Tryd.prog 37 23 [.list (List.length l) (Enc.cellsL l) .none] ((runs l).map rowE) := by
  obtain ⟨d, hd⟩ : ∃ d, Tryd.f37.body = some d := ⟨_, rfl⟩
  exact iterb_of mix Tryd.func37 hd fun k => by rw [List.length_map]; exact strb_sh (l.length + 2) l (runs l) (strb_eq l _ (by omega) g) d hd k
theorem ent23 : Ent Tryd.prog 23 := enters_of Tryd.func23 (by kernel_rfl) rfl
set_option maxRecDepth 100000 in
theorem stretches0 (l : List Ev) : Snd (ITP Tryd.prog) Tryd.prog 23 [.list l.length (Enc.cellsL l) .none] St.empty (.clos 37 [.ptr 0 0]) ⟨[(23, [.list l.length (Enc.cellsL l) .none])], [], [], 0, false⟩ := by
  obtain ⟨d, hd⟩ : ∃ d, Tryd.f23.body = some d := ⟨_, rfl⟩
  refine snd_of mix Tryd.func23 hd ent23 ?_
  cases hd
  refine w_start (by dsimp only [abeginS, Tryd.f23, List.length_cons, List.length_nil, Nat.zero_add, Nat.reduceAdd, Nat.reduceSub, List.replicate, List.cons_append, List.nil_append]) (by dsimp only [St.empty]) ?_
  refine w_seq (w_region ?_)
  refine w_opm (a := .ptr 0 0) (σ'' := ⟨[(23, [.list l.length (Enc.cellsL l) .none])], [], [], 0, false⟩) rfl rfl rfl rfl (by dsimp only [aput, List.set]) rfl ?_
  refine w_op (a := .raw .nilFunc) rfl rfl rfl rfl (by dsimp only [aput, List.set]) ?_
  refine w_seq (w_region ?_)
  refine w_op (a := .clos 37 [.ptr 0 0]) rfl rfl rfl rfl (by dsimp only [aput, List.set]) ?_
  refine w_op (a := .clos 37 [.ptr 0 0]) rfl rfl rfl rfl (by dsimp only [aput, List.set]) ?_
  refine end_keep (n := 0) (m := 0) [] [0] 0 rfl rfl rfl ?_
  simp [keepSt, keepBoxes, mapKL, mapK, roomK, mapKL_clo _ _ _ (Enc.cloL l), St.empty]
theorem stretches_snd (l : List Ev) (n : Nat) (σ : St) (hσ : σ.boxes.length = n) : Snd (ITP Tryd.prog) Tryd.prog 23 [.list l.length (Enc.cellsL l) .none] σ (.clos 37 [.ptr n 0]) { σ with boxes := σ.boxes ++ [(23, [.list l.length (Enc.cellsL l) .none])] } := by
  subst hσ
  have h := snd_lift (itp_mono _) (stretches0 l) (args := [.list l.length (Enc.cellsL l) .none]) (by rw [stripL, strip, Enc.stripL]; rfl) (by rw [okTrimL, okTrim, okTrimL_clo _ _ (Enc.cloL l)]; rfl) σ
  simpa [mapK, mapKL, roomK, shz, shBoxes, mapKL_clo _ _ _ (Enc.cloL l)] using h
end Go.Ab

