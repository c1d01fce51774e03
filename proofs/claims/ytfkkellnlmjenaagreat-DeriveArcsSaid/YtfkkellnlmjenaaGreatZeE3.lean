/-
  derive: contracts of nullable and plain.
-/
import Derived.Test.YtfkkellnlmjenaaGreatZeE1
import Derived.Test.YtfkkellnlmjenaaGreatZeSs
set_option linter.unusedSimpArgs false
set_option linter.unusedVariables false
namespace Go.Ab
open Go Go.RowKit Go.Fwd
theorem len1 {l : List Tr} (h : l.length = 1) : ∃ x, l = [x] := by
 match l, h with
 | [x], _ => exact ⟨x, rfl⟩
theorem z9c {t : Tr} (h : CR t) (hk : t.k = 5) : ∃ y, t = .mk 5 0#256 t.mn t.mx [y] ∧ zdp t.mn t.mx = true ∧ y.k ≠ 1 ∧ CR y := by
 obtain ⟨k, s, mn, mx, l⟩ := t
 simp only [Tr.k] at hk
 subst hk
 have h1 := (zcd _).1 h
 have hn := zyz h1.1
 have h2 := h1.1
 simp [zdx] at h2
 obtain ⟨y, rfl⟩ := len1 (l := l) (by omega)
 refine ⟨y, by simp [Tr.mn, Tr.mx, hn.1 (by decide)], ?_, ?_, (zau _ _).1 h1.2 |>.1⟩
 ·exact h2.2.1.2
 ·have := h2.2.2; simpa [ztc, Tr.l] using this
theorem zzu {y : Tr} {mn mx : Int} {s : BS} : (pre (.mk 5 s mn mx [y])).length = (pre y).length + 1 := by simp [pre, zan]
theorem z2a {t : Tr} {lo hi : Int} (h : CR t) (hs : (pre t).length ≤ 9998) (hg : qkf lo hi = true) : zik t lo hi = if (lo = 0 ∧ hi = 0) ∨ t.k = 1 then emptyT else if lo = 1 ∧ hi = 1 then t else .mk 5 0#256 lo hi [t] := by
 have hk := h.k0
 have hgd : zmb t = true := by rw [zmb, zht h (by omega), Bool.or_true]
 have e0 : ((t.k : Int) == 0) = false := by simp; omega
 have hb : (!zmb t || (!(lo == 0 && hi == 0) && !(lo == 1 && hi == 1) && !zdp lo hi)) = false := by
  rw [hgd, Bool.not_true, Bool.false_or]
  by_cases h0 : lo = 0 ∧ hi = 0
  ·simp [h0.1, h0.2]
  ·by_cases h1 : lo = 1 ∧ hi = 1
   ·simp [h1.1, h1.2]
   ·have : zdp lo hi = true := by rw [zhy]; rw [zle] at hg; omega
    rw [this]; simp
 unfold zik
 rw [hb, e0]
 simp only [cond_false, Bool.false_and, Bool.or_false]
 by_cases h0 : lo = 0 ∧ hi = 0
 ·rw [if_pos (.inl h0)]; simp [h0.1, h0.2]
 ·have c0 : (lo == 0 && hi == 0) = false := by rw [← Bool.not_eq_true]; simp; omega
  rw [c0, Bool.false_or]
  by_cases h1 : t.k = 1
  ·rw [if_pos (.inr h1)]; simp [h1]
  ·rw [if_neg (by omega), show ((t.k : Int) == 1) = false by simp; omega]
   simp only [cond_false]
   by_cases h2 : lo = 1 ∧ hi = 1
   ·rw [if_pos h2]; simp [h2.1, h2.2]
   ·rw [if_neg h2, show (lo == 1 && hi == 1) = false by rw [← Bool.not_eq_true]; simp; omega]
    simp only [cond_false]
    have hbo : zdp lo hi = true := by rw [zhy]; rw [zle] at hg; omega
    refine zjh (zht ((zcd _).2 ⟨zth h1 hbo, by rw [Tr.l, zau]; exact ⟨h, zcx⟩⟩) ?_)
    rw [zzq]; omega
theorem less_ok {y : Tr} {mn mx : Int} (hy : CR y) (hs : (pre y).length ≤ 9000) (hk : y.k ≠ 1) (hb : zdp mn mx = true) :
 (zmd y mn mx = emptyT ∨ zmd y mn mx = y ∨ ∃ lo hi, zmd y mn mx = .mk 5 0#256 lo hi [y] ∧ zdp lo hi = true) := by
 have hb' := (zhy mn mx).1 hb
 unfold zmd
 generalize hlo : max (mn - 1) 0 = lo
 generalize hhi : (bif mx != -1 then mx - 1 else mx) = hi
 have e : (mx = -1 ∧ hi = -1) ∨ (mx ≠ -1 ∧ hi = mx - 1) := by
  by_cases h : mx = -1
  ·subst h; simp at hhi; omega
  ·rw [show (mx != -1) = true by simpa using h] at hhi; simp at hhi; omega
 have hg : qkf lo hi = true := (zle lo hi).2 (by omega)
 rw [z2a hy (by omega) hg]
 split
 ·exact .inl rfl
 ·split
  ·exact .inr (.inl rfl)
  ·refine .inr (.inr ⟨lo, hi, rfl, ?_⟩)
   rw [zhy]; rw [zle] at hg; omega
theorem qoi {y : Tr} {lo hi : Int} (hy : CR y) (hk : y.k ≠ 1) (hb : zdp lo hi = true) : CR (.mk 5 0#256 lo hi [y]) := (zcd _).2 ⟨zth hk hb, by rw [Tr.l, zau]; exact ⟨hy, zcx⟩⟩
theorem qil {y : Tr} {mn mx : Int} (hy : CR y) (hs : (pre y).length ≤ 9000) (hk : y.k ≠ 1) (hb : zdp mn mx = true) : CR (zmd y mn mx) ∧ (zan (zbs 3 [zmd y mn mx])).length ≤ (pre y).length + 1 ∧ (pre (zmd y mn mx)).length ≤ (pre y).length + 1 ∧ tbT (zmd y mn mx) ≤ tbT y + (pre y).length + 2 := by
 have hf := zfu 3 [zmd y mn mx]
 have hp : (zan [zmd y mn mx]).length = (pre (zmd y mn mx)).length := by simp [zan]
 rcases less_ok hy hs hk hb with h | h | ⟨lo, hi, h, hb2⟩
 ·rw [h] at hf hp ⊢
  refine ⟨(zcd _).2 ⟨zfr, zcx⟩, ?_, ?_, ?_⟩ <;> simp [zcu, zih, emptyT, Tr.k, Tr.l, zan, pre, tbT, zkh] <;> omega
 ·rw [h] at hf hp ⊢
  exact ⟨hy, by omega, by omega, by omega⟩
 ·rw [h] at hf hp ⊢
  refine ⟨qoi hy hk hb2, ?_, ?_, ?_⟩
  ·rw [zzu] at hp; omega
  ·rw [zzu]; omega
  ·rw [qgp rfl]; simp [Tr.l, zkh, zan]
theorem qht : ∀ {l : List Tr}, (∀ x ∈ l, x.k ≠ 1 ∧ x.k ≠ 3) → zbs 3 l = l
 | [], _ => rfl
 | x :: l, h => by
  have hx := h x (by simp)
  rw [zcu, qht fun y hy => h y (List.mem_cons_of_mem _ hy), show ((x.k : Int) == ((3 : Nat) : Int)) = false by simp; omega, show ((x.k : Int) == 1) = false by simp; omega]; simp
theorem qcf : ∀ {l : List Tr}, CRL l → (zan l).length ≤ tbL l
 | [], _ => by rw [zan, tbL]; simp
 | x :: l, h => by
  have := ((zau _ _).1 h).1.tb
  rw [zan, List.length_append, tbL]; omega
theorem zyg {l : List Tr} (h : CRL l) (hk : ∀ x ∈ l, x.k ≠ 1 ∧ x.k ≠ 3) (hs : (zan l).length ≤ 9000) : zkx l = zrf 3 l ∧ CR (zkx l) ∧ zbs 3 [zkx l] = l ∧ tbT (zkx l) = tbL l := by
 have e : zkx l = zrf 3 l := by rw [z1n h (by omega), qht hk]
 have hG : G3 l := ⟨h, hk⟩
 refine ⟨e, ?_, ?_, ?_⟩
 ·rw [e]; exact zno hG
 ·rw [e]; exact qhj hG
 ·rw [e, qnl]
theorem qhx {a : Tr} (h : CR a) (hs : (pre a).length ≤ 9000) : zkx [a, emptyT] = a := by
 have he : CR emptyT := (zcd _).2 ⟨zfr, zcx⟩
 rw [z1n ((zeg _).2 (by simp [h, he])) (by simp [zan, pre, emptyT]; omega), show zbs 3 [a, emptyT] = zbs 3 [a] ++ zbs 3 [emptyT] by rw [← zqk]; rfl, show zbs 3 [emptyT] = [] from rfl, List.append_nil, qew h]
theorem z9h {c : Nat} {n : Nat} (ih : ∀ t, (pre t).length ≤ n → BO t → ∀ y ∈ byT c t, CR y ∧ tbT y ≤ tbT t) : ∀ l : List Tr, (∀ x ∈ l, (pre x).length ≤ n) → CRL l → (∀ x ∈ l, x.k ≠ 1 ∧ x.k ≠ 3) → tbL l ≤ 4000 → ∀ y ∈ zhx c l, CR y ∧ tbT y ≤ tbL l
 | [], _, _, _, _, y, hy => by rw [zhx] at hy; cases hy
 | x :: l, hn, hc, hk, ht, y, hy => by
  have hc' := (zau _ _).1 hc
  have hl := qcf hc'.2
  have ht2 : tbL l ≤ 4000 := by rw [tbL] at ht; omega
  have htx : tbT x ≤ 4000 := by rw [tbL] at ht; omega
  rw [zhx, List.mem_append] at hy
  rcases hy with hy | hy
  ·obtain ⟨y', hy', rfl⟩ := List.mem_map.1 hy
   obtain ⟨a1, a2⟩ := ih x (hn x (by simp)) ⟨hc'.1, htx⟩ y' hy'
   obtain ⟨e1, e2, e3, e4⟩ := zyg hc'.2 (fun z hz => hk z (List.mem_cons_of_mem _ hz)) (by omega)
   have := a1.tb
   have hz := e2.tb
   have := qdi a1 e2 (by omega)
   rw [e3, e4] at this
   refine ⟨this.1, Nat.le_trans this.2 ?_⟩
   rw [tbL]; omega
  ·cases hnl : zes x with
   | false => rw [hnl] at hy; cases hy
   | true =>
    rw [hnl] at hy
    obtain ⟨a1, a2⟩ := z9h ih l (fun z hz => hn z (List.mem_cons_of_mem _ hz)) hc'.2 (fun z hz => hk z (List.mem_cons_of_mem _ hz)) ht2 y hy
    exact ⟨a1, by rw [tbL]; omega⟩
theorem qhg (c : Nat) : ∀ (n : Nat) (t : Tr), (pre t).length ≤ n → BO t → ∀ y ∈ byT c t, CR y ∧ tbT y ≤ tbT t
  | 0, t, hn, _, _, _ => by have : 0 < (pre t).length := by rw [zdi]; simp
                            omega
  | n + 1, t, hn, h, y, hy => by
    have hp : (pre t).length = 1 + (zan t.l).length := by rw [zdi, List.length_cons]; omega
    have hcl := ((zcd t).1 h.1).2
    have hsub : ∀ x ∈ t.l, (pre x).length ≤ n := fun x hx => by have := zcc hx; omega
    have ih := qhg c n
    rw [qcu] at hy
    rcases zkc ((zcd t).1 h.1).1 with hk | hk | hk | hk | hk | hk <;> rw [hk] at hy
    · cases hy
    · have hy : y ∈ (bif t.s.getLsbD c then [emptyT] else []) := hy
      cases hb : t.s.getLsbD c with
      | false => rw [hb] at hy; cases hy
      | true =>
        rw [hb] at hy
        have : y = emptyT := by simpa using hy
        subst this
        exact ⟨(zcd _).2 ⟨zfr, zcx⟩, by rw [show tbT emptyT = 1 by simp [emptyT, tbT, zan, zkh]]; exact z5f t⟩
    · have hy : y ∈ zhx c t.l := hy
      have hc := zge ((zcd t).1 h.1).1 hk
      have hb := h.2
      rw [qbc hk] at hb ⊢
      exact z9h ih t.l hsub hcl hc.2 hb y hy
    · have hy : y ∈ t.l.flatMap (byT c) := hy
      obtain ⟨x, hx, hy⟩ := List.mem_flatMap.1 hy
      have h1 := ztb hx
      have h2 : tbT t = max (1 + (zan t.l).length) (zkh t.l) := zxp (by omega) (by omega)
      have hb := h.2
      obtain ⟨a1, a2⟩ := ih x (hsub x hx) ⟨(zeg _).1 hcl x hx, by omega⟩ y hy
      exact ⟨a1, by omega⟩
    · have hy : y ∈ (z4h c t.l).map (fun x => zkx [x, zmd (hdT t.l) t.mn t.mx]) := hy
      obtain ⟨z, e, hb, hz1, hz⟩ := z9c h.1 hk
      have hl : t.l = [z] := by rw [e]; rfl
      rw [hl, z4h, show hdT [z] = z from rfl] at hy
      obtain ⟨x, hx, rfl⟩ := List.mem_map.1 hy
      have htb : tbT t = tbT z + (pre z).length + 2 := by rw [qgp hk, hl]; simp [zkh, zan]
      have hbt := h.2
      obtain ⟨a1, a2⟩ := ih z (hsub z (by rw [hl]; simp)) ⟨hz, by omega⟩ x hx
      have hzt := hz.tb
      obtain ⟨b1, b2, b3, b4⟩ := qil hz (by omega) hz1 hb
      have := a1.tb
      have hs := qdi a1 b1 (by omega)
      refine ⟨hs.1, Nat.le_trans hs.2 ?_⟩
      split <;> omega
    · cases hy
theorem qfi {c : Nat} {t y : Tr} (h : BO t) (hy : y ∈ byT c t) : BO y ∧ tbT y ≤ tbT t := by
 obtain ⟨a, b⟩ := qhg c _ t (Nat.le_refl _) h y hy
 have := h.2
 exact ⟨⟨a, by omega⟩, b⟩
theorem qns (a b : Nat) : (a + b) ^ 2 = a ^ 2 + 2 * a * b + b ^ 2 := by rw [Nat.pow_two, Nat.pow_two, Nat.pow_two, Nat.add_mul, Nat.mul_add, Nat.mul_add, Nat.mul_assoc 2, Nat.two_mul, Nat.mul_comm b a]; omega
theorem zyd {a b : Nat} (h : a ≤ b) : a ^ 2 ≤ b ^ 2 := Nat.pow_le_pow_left h 2
mutual
theorem tb_sq : ∀ t : Tr, tbT t ≤ ((pre t).length + 1) ^ 2
 | .mk k s mn mx l => by
  have hl := qmp l
  have hm := qnj l
  have h1 := qns ((zan l).length + 1) 1
  have h2 : ((pre (Tr.mk k s mn mx l)).length + 1) = (zan l).length + 1 + 1 := by rw [zxc]; omega
  have h3 : (zan l).length + 1 ≤ ((zan l).length + 1) ^ 2 := by rw [Nat.pow_two]; exact Nat.le_mul_self _
  rw [tbT, h2]
  cases (k : Int) == 3 with
  | true => simp only [cond_true]; omega
  | false =>
   simp only [cond_false]
   cases (k : Int) == 5 with
   | true => simp only [cond_true]; omega
   | false => simp only [cond_false]; omega
theorem qmp : ∀ l : List Tr, tbL l ≤ ((zan l).length + 1) ^ 2
 | [] => by simp [tbL, zan]
 | x :: l => by
  have hx := tb_sq x
  have hl := qmp l
  have h1 := qns ((pre x).length + 1) (zan l).length
  have h2 : (zan (x :: l)).length + 1 = (pre x).length + 1 + (zan l).length := by rw [zan, List.length_append]; omega
  have h3 := zyd (a := (zan l).length + 1) (b := (zan (x :: l)).length + 1) (by rw [h2]; have := zdi x; omega)
  have h4 : (zan l).length + (if l.isEmpty = true then 0 else 1) ≤ 2 * ((pre x).length + 1) * (zan l).length := by
   have hp : 0 < (pre x).length := by rw [zdi]; simp
   have : 2 * 2 * (zan l).length ≤ 2 * ((pre x).length + 1) * (zan l).length := Nat.mul_le_mul_right _ (by omega)
   have := zao l
   cases l with
   | nil => simp [zan]
   | cons y l => simp only [List.isEmpty_cons, Bool.false_eq_true, if_false, List.length_cons] at *; omega
  rw [tbL]
  rw [h2] at h3 ⊢
  omega
theorem qnj : ∀ l : List Tr, zkh l ≤ ((zan l).length + 1) ^ 2
 | [] => by simp [zkh]
 | x :: l => by
  have hx := tb_sq x
  have hl := qnj l
  have h2 : (zan (x :: l)).length = (pre x).length + (zan l).length := by rw [zan, List.length_append]
  have h3 := zyd (a := (zan l).length + 1) (b := (zan (x :: l)).length + 1) (by omega)
  have h4 := zyd (a := (pre x).length + 1) (b := (zan (x :: l)).length + 1) (by omega)
  rw [zkh]; omega
end
theorem bo_of {t : Tr} (h : CR t) (hs : (pre t).length ≤ 60) : BO t := ⟨h, Nat.le_trans (tb_sq t) (Nat.le_trans (zyd (b := 61) (by omega)) (by decide))⟩
end Go.Ab
namespace Go.Ab
open Go Go.RowKit Go.Fwd Go.Proofs
theorem z8c (t : Tr) : t.l.length < (pre t).length := zix t
theorem qmn {t : Tr} (h : CR t) (hk : t.k = 6) : ∃ y, t = .mk 6 0#256 0 0 [y] ∧ CR y := by
 obtain ⟨k, s, mn, mx, l⟩ := t
 simp only [Tr.k] at hk
 subst hk
 have h1 := (zcd _).1 h
 have hn := zyz h1.1
 have h2 := h1.1
 simp [zdx] at h2
 obtain ⟨y, rfl⟩ := len1 (l := l) (by omega)
 have e := hn.2.1 (by decide)
 exact ⟨y, by rw [hn.1 (by decide), e.1, e.2], ((zau _ _).1 h1.2).1⟩
theorem z8p {t : Tr} (h : CR t) (hk : t.k = 5 ∨ t.k = 6) : ∃ y, t.l = [y] ∧ CR y := by
 rcases hk with hk | hk
 ·obtain ⟨y, e, _, _, hy⟩ := z9c h hk; exact ⟨y, by rw [e]; rfl, hy⟩
 ·obtain ⟨y, e, hy⟩ := qmn h hk; exact ⟨y, by rw [e]; rfl, hy⟩
theorem nu1_eq {n : Nat} {x : Tr} (h : (pre x).length < n) (hc : crT x = true) : z5v n x = some (!zes x) := by
 unfold z5v; rw [zdf ⟨h, hc⟩]; rfl
theorem qjl (n : Nat) (t : Tr) (h : (pre t).length < n + 1) (hc : crT t = true) (hn : n < 2 ^ 60) : zyb (n + 1) n t = some (zes t) := by
 have hlen := z8c t
 have hp : (pre t).length = 1 + (zan t.l).length := by rw [zdi, List.length_cons]; omega
 have e1 := qch (fuel := n + 1) (p := fun x => z5v n x) (fun x => !zes x) (l := t.l) (by omega) (by omega) (fun x hx => nu1_eq (by have := zgq hx; omega) (qcx hc hx))
 have e2 := qch (fuel := n + 1) (p := q1 zes n) zes (l := t.l) (by omega) (by omega) (fun x hx => q1_eq (by have := zgq hx; omega) (qcx hc hx))
 unfold zyb
 rw [qit, e1, e2]
 have hsub : ∀ x, t.l = [x] → (pre x).length < n ∧ crT x = true := fun x hl => by
  have hx : x ∈ t.l := by rw [hl]; simp
  have := zgq hx
  exact ⟨by omega, qcx hc hx⟩
 rcases zkc ((zcd t).1 hc).1 with hk | hk | hk | hk | hk | hk <;> rw [hk]
 ·rfl
 ·rfl
 ·show some (!t.l.any fun x => !zes x) = some (t.l.all zes)
  rw [List.not_any_eq_all_not]; simp
 ·rfl
 ·obtain ⟨x, hl, _⟩ := z8p (t := t) hc (.inl hk)
  show (bif t.mn == 0 then some true else _) = some (t.mn == 0 || qeb t.l)
  cases t.mn == 0 with
  | true => rfl
  | false =>
   show chk _ _ = _
   rw [hl]
   exact zm (by simp) (zad fun y e => zm (by have e : x = y := e; subst e; exact hsub x hl) (by have e : x = y := e; subst e; rfl))
 ·obtain ⟨x, hl, _⟩ := z8p (t := t) hc (.inr hk)
  show chk _ _ = _
  rw [hl]
  refine zm (by simp) (zad fun y e => zm (by have e : x = y := e; subst e; exact hsub x hl) (by have e : x = y := e; subst e; show some (zes x) = some (zes x && true); rw [Bool.and_true]))
theorem z0t : ∀ (n : Nat) (t : Tr), ((pre t).length < n ∧ crT t = true) → n ≤ 2 ^ 60 → Pure (ITP Tryz.prog) Tryz.prog 60 [.agg (Enc.cells t)] (.raw (.bool (zes t)))
 | 0, t, h, _ => absurd h.1 (Nat.not_lt_zero _)
 | n + 1, t, h, hn => qje (n + 1) n t _ (fun x hx => z0t n x hx (by omega)) (qjl n t h.1 h.2 (by omega))
theorem qge (t : Tr) (h : (pre t).length < 2 ^ 60 ∧ crT t = true) : Pure (ITP Tryz.prog) Tryz.prog 60 [.agg (Enc.cells t)] (.raw (.bool (zes t))) := z0t (2 ^ 60) t h (Nat.le_refl _)
theorem qeq : ∀ (n : Nat) (t : Tr), (pre t).length ≤ n → CS 998 t → CR (plT t) ∧ (pre (plT t)).length ≤ (pre t).length
 | 0, t, hn, _ => by have := z8c t; omega
 | n + 1, t, hn, h => by
  have hp : (pre t).length = 1 + (zan t.l).length := by rw [zdi, List.length_cons]; omega
  have hcl := ((zcd t).1 h.1).2
  have hh := h.2
  have key : ∀ l : List Tr, (∀ x ∈ l, (pre x).length ≤ n ∧ CS 998 x) → CRL (l.map plT) ∧ (zan (l.map plT)).length ≤ (zan l).length := by
   intro l
   induction l with
   | nil => intro _; exact ⟨zcx, Nat.le_refl _⟩
   | cons x l ih =>
    intro hl
    obtain ⟨a1, a2⟩ := ih fun y hy => hl y (List.mem_cons_of_mem _ hy)
    obtain ⟨b1, b2⟩ := hl x (by simp)
    obtain ⟨c1, c2⟩ := qeq n x b1 b2
    rw [List.map_cons]
    refine ⟨(zau _ _).2 ⟨c1, a1⟩, ?_⟩
    simp only [zan, List.length_append]; omega
  obtain ⟨k1, k2⟩ := key t.l fun x hx => by have := zcc hx; exact ⟨by omega, (zeg _).1 hcl x hx, by omega⟩
  rw [qog]
  rcases zkc ((zcd t).1 h.1).1 with hk | hk | hk | hk | hk | hk <;> rw [hk]
  ·show CR (zvb t) ∧ _; rw [zvb, if_pos (by simp [zbq]; omega)]; exact ⟨h.1, Nat.le_refl _⟩
  ·show CR (zvb t) ∧ _; rw [zvb, if_pos (by simp [zbq]; omega)]; exact ⟨h.1, Nat.le_refl _⟩
  ·show CR (zkx _) ∧ (pre (zkx _)).length ≤ _
   rw [z1n k1 (by omega)]
   have := zlx 3 (zbs 3 (t.l.map plT)); have := zfu 3 (t.l.map plT)
   exact ⟨zno (zju k1), by omega⟩
  ·show CR (orT _) ∧ (pre (orT _)).length ≤ _
   have hl := (zjz ((zcd t).1 h.1).1 hk).1
   have hne : t.l.map plT ≠ [] := fun e => by have := congrArg List.length e; simp at this; simp [this] at hl
   rw [or_eq k1 hne (by omega)]
   have := zlx 4 (zbs 4 (t.l.map plT)); have := zfu 4 (t.l.map plT)
   exact ⟨zxa (zlv k1), by omega⟩
  ·show CR (zik (hdT _) t.mn t.mx) ∧ (pre (zik (hdT _) t.mn t.mx)).length ≤ _
   obtain ⟨y, e, hb, _, hy⟩ := z9c h.1 hk
   have hl : t.l = [y] := by rw [e]; rfl
   rw [hl] at k1 k2 hp ⊢
   show CR (zik (plT y) t.mn t.mx) ∧ (pre (zik (plT y) t.mn t.mx)).length ≤ _
   have hc : CR (plT y) := ((zau _ _).1 k1).1
   have hs : (pre (plT y)).length ≤ (pre y).length := by simpa [zan] using k2
   simp only [zan, List.append_nil] at hp
   have hbb := (zhy _ _).1 hb
   rw [z2a hc (by omega) ((zle _ _).2 (by omega))]
   split
   ·exact ⟨(zcd _).2 ⟨zfr, zcx⟩, by simp [emptyT, pre, zan]; omega⟩
   ·rename_i hn1
    rw [if_neg (by omega)]
    exact ⟨qoi hc (fun e1 => hn1 (.inr e1)) hb, by rw [zzu]; omega⟩
  ·show CR (hdT _) ∧ (pre (hdT _)).length ≤ _
   obtain ⟨y, e, hy⟩ := qmn h.1 hk
   have hl : t.l = [y] := by rw [e]; rfl
   rw [hl] at k1 k2 hp ⊢
   simp only [zan, List.append_nil] at hp
   have hs : (pre (plT y)).length ≤ (pre y).length := by simpa [zan] using k2
   exact ⟨((zau _ _).1 k1).1, by show (pre (plT y)).length ≤ _; omega⟩
theorem mapP_cl {t : Tr} (h : CS 998 t) : CRL (t.l.map plT) ∧ (zan (t.l.map plT)).length ≤ (zan t.l).length := by
 have hp : (pre t).length = 1 + (zan t.l).length := by rw [zdi, List.length_cons]; omega
 have hcl := (zeg t.l).1 ((zcd t).1 h.1).2
 have hh := h.2
 have key : ∀ l : List Tr, (∀ x ∈ l, CS 998 x) → CRL (l.map plT) ∧ (zan (l.map plT)).length ≤ (zan l).length := by
  intro l
  induction l with
  | nil => intro _; exact ⟨zcx, Nat.le_refl _⟩
  | cons x l ih =>
   intro hl
   obtain ⟨a1, a2⟩ := ih fun y hy => hl y (List.mem_cons_of_mem _ hy)
   obtain ⟨c1, c2⟩ := qeq _ x (Nat.le_refl _) (hl x (by simp))
   rw [List.map_cons]
   refine ⟨(zau _ _).2 ⟨c1, a1⟩, ?_⟩
   simp only [zan, List.length_append]; omega
 exact key t.l fun x hx => ⟨hcl x hx, by have := zcc hx; omega⟩
theorem qly (n : Nat) (t : Tr) (h : CS 998 t) (hn : (pre t).length < n + 1) : zrp 1002 n t = some (plT t) := by
 have hp : (pre t).length = 1 + (zan t.l).length := by rw [zdi, List.length_cons]; omega
 have hcl := (zeg t.l).1 ((zcd t).1 h.1).2
 have hh := h.2
 have hlen := zao t.l
 obtain ⟨m1, m2⟩ := mapP_cl h
 rw [qog]
 unfold zrp
 refine zbn (t.l.map plT) ?_ ?_
 ·refine zdm t.l.length (fun i => ((t.l.take i).map plT, (i : Int))) (by simp) (fun i hi => ?_) ?_ (by omega)
  ·refine zbk (by simpa using hi) (zm (by simp only; omega) (zad fun x1 e1 => ?_))
   simp only at e1
   rw [zdh hi] at e1
   have hm : x1 ∈ t.l := e1 ▸ List.getElem_mem hi
   have hx := zcc hm
   refine zm ⟨by omega, hcl x1 hm, by omega⟩ (zad fun x2 e2 => zm (by simp only [List.length_map, List.length_take, List.length_cons, List.length_nil]; omega) (zm (by simp only; omega) ?_))
   subst e2
   rw [List.take_succ_eq_append_getElem hi, List.map_append, e1]; rfl
  ·refine zas (by simp) ?_
   simp
 ·rcases zkc ((zcd t).1 h.1).1 with hk | hk | hk | hk | hk | hk <;> rw [hk]
  ·exact zm (by omega) rfl
  ·exact zm (by omega) rfl
  ·exact zm (by omega) rfl
  ·exact zm (by omega) rfl
  ·obtain ⟨y, hl, _⟩ := z8p h.1 (.inl hk)
   rw [hl] at m2 hp ⊢
   have hs : (pre (plT y)).length ≤ (pre y).length := by simpa [zan] using m2
   simp only [zan, List.append_nil] at hp
   show _ = some (zik (plT y) t.mn t.mx)
   refine zas rfl (zas rfl (zbk rfl ?_))
   exact zm (by simp) (zad fun x e => zm (by have e : plT y = x := e; subst e; omega) (by have e : plT y = x := e; subst e; rfl))
  ·obtain ⟨y, hl, _⟩ := z8p h.1 (.inr hk)
   rw [hl]
   show _ = some (plT y)
   refine zas rfl (zas rfl (zas rfl (zbk rfl ?_)))
   exact zm (by simp) rfl
theorem z1m : ∀ (n : Nat) (t : Tr), ((pre t).length < n ∧ CS 998 t) → Pure (ITP Tryz.prog) Tryz.prog 52 [.agg (Enc.cells t)] (.agg (Enc.cells (plT t)))
 | 0, t, h => absurd h.1 (Nat.not_lt_zero _)
 | n + 1, t, h => qee 1002 n t _ (fun x hx => z1m n x hx) (qly n t h.2 h.1)
theorem zsu (t : Tr) (h : CS 998 t) : Pure (ITP Tryz.prog) Tryz.prog 52 [.agg (Enc.cells t)] (.agg (Enc.cells (plT t))) := z1m 999 t ⟨by have := h.2; omega, h⟩
end Go.Ab
