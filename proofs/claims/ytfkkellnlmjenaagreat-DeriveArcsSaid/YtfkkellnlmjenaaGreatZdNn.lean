/-
  The abstract machine, run: regions in any order by what has been done (states that meet again are looked at once).
-/
import Derived.Test.YtfkkellnlmjenaaGreatZdO
set_option linter.unusedSimpArgs false
set_option linter.unusedVariables false
namespace Go.Ab
open Go Go.RowKit Go.Fwd
abbrev DSt := Array Bool × List AV × St
def zpa (P : Program) (Ψ : CallS) (cp : CallP) (cs : CallS) (o : Oper) (S : List AV) (σ : St) : Option (AV × St) :=
 match zeb S o with
 | some (f, args) => (match Ψ f args σ with
  | some (r, σ') => if σ'.out = σ.out ∧ σ'.stop = σ.stop then some (r, σ') else none
  | none => zwt P cp cs o S σ)
 | none => zwt P cp cs o S σ
theorem zhv {P : Program} {cp : CallP} {cs Ψ : CallS} (hΨ : qad P Ψ) (hcp : qin P cp) (hcs : qad P cs) {o : Oper} {S : List AV} {σ σ' : St} {a : AV} (h : zpa P Ψ cp cs o S σ = some (a, σ')) {K : AV → St → Prop} (hK : K a σ') : zgh (ITP P) P none o S σ K := by
 unfold zpa at h
 split at h
 ·rename_i f args hc
  split at h
  ·rename_i r τ hr
   split at h
   ·rename_i hos
    cases h
    unfold zgh
    rw [hc]
    exact ⟨a, σ', .inl ⟨hΨ _ _ _ _ _ hr, hos⟩, hK⟩
   ·cases h
  ·exact zit hcp hcs h hK
 ·exact zit hcp hcs h hK
def zqn (P : Program) (Ψ : CallS) (cp : CallP) (cs : CallS) (ops : Array Oper) : List Oper → List AV → St → Option (List AV × St)
 | [], S, σ => some (S, σ)
 | o :: l, S, σ => match o.guard with
  | none => match zpa P Ψ cp cs o S σ with
   | some (a, σ') => zqn P Ψ cp cs ops l (zab S o.dst a) σ'
   | none => none
  | some (k, b) => match zgn ops S k with
   | some c => if c = some b then (match zpa P Ψ cp cs o S σ with
    | some (a, σ') => zqn P Ψ cp cs ops l (zab S o.dst a) σ'
    | none => none) else zqn P Ψ cp cs ops l (zab S o.dst (.raw undef)) σ
   | none => none
theorem zhl {P : Program} {cp : CallP} {cs Ψ : CallS} (hΨ : qad P Ψ) (hcp : qin P cp) (hcs : qad P cs) {ops : Array Oper} : ∀ (l : List Oper) (S : List AV) (σ : St) (S' : List AV) (σ' : St), zqn P Ψ cp cs ops l S σ = some (S', σ') → S'.length = S.length ∧ ∀ Q : List AV → St → Prop, Q S' σ' → zcw (ITP P) P none ops Q l S σ
 | [], S, σ, S', σ', h => by simp only [zqn, Option.some.injEq, Prod.mk.injEq] at h; obtain ⟨rfl, rfl⟩ := h; exact ⟨rfl, fun Q h => h⟩
 | o :: l, S, σ, S', σ', h => by
  simp only [zqn] at h
  simp only [zcw]
  cases hg : o.guard with
  | none =>
   rw [hg] at h
   simp only at h ⊢
   split at h <;> try cases h
   rename_i a σ1 hs
   obtain ⟨h1, h2⟩ := zhl hΨ hcp hcs l _ _ _ _ h
   exact ⟨by rw [h1, zbg], fun Q hQ => zhv hΨ hcp hcs hs (h2 Q hQ)⟩
  | some kb =>
   obtain ⟨k, b⟩ := kb
   rw [hg] at h
   simp only at h ⊢
   split at h <;> try cases h
   rename_i c hc
   split at h
   ·rename_i e
    split at h <;> try cases h
    rename_i a σ1 hs
    obtain ⟨h1, h2⟩ := zhl hΨ hcp hcs l _ _ _ _ h
    exact ⟨by rw [h1, zbg], fun Q hQ => ⟨c, hc, by rw [if_pos e]; exact zhv hΨ hcp hcs hs (h2 Q hQ)⟩⟩
   ·rename_i e
    obtain ⟨h1, h2⟩ := zhl hΨ hcp hcs l _ _ _ _ h
    exact ⟨by rw [h1, zbg], fun Q hQ => ⟨c, hc, by rw [if_neg e]; exact h2 Q hQ⟩⟩
def evAt (P : Program) (Ψ : CallS) (cp : CallP) (cs : CallS) (ops : Array Oper) (x : DSt) (i : Nat) : Option DSt :=
 match ops[i]? with
 | none => some (x.1.setIfInBounds i true, x.2.1, x.2.2)
 | some o => match o.guard with
  | none => (match zpa P Ψ cp cs o x.2.1 x.2.2 with
   | some (a, σ') => some (x.1.setIfInBounds i true, zab x.2.1 o.dst a, σ')
   | none => none)
  | some (j, b) => (match zgn ops x.2.1 j with
   | some c => if c = some b then (match zpa P Ψ cp cs o x.2.1 x.2.2 with
    | some (a, σ') => some (x.1.setIfInBounds i true, zab x.2.1 o.dst a, σ')
    | none => none) else some (x.1.setIfInBounds i true, zab x.2.1 o.dst (.raw undef), x.2.2)
   | none => none)
def qll (l : List Bool) : List DSt → Option DSt
 | [] => none
 | y :: L => if y.1.toList == l then some y else qll l L
def ddup : List DSt → List DSt → Option (List DSt)
 | [], H => some H
 | y :: G, H => match qll y.1.toList H with
  | some z => if zlb y.2.1 z.2.1 && eqSt y.2.2 z.2.2 then ddup G H else none
  | none => ddup G (y :: H)
def mapO {α β : Type} (f : α → Option β) : List α → Option (List β)
 | [] => some []
 | x :: l => match f x, mapO f l with
  | some y, some m => some (y :: m)
  | _, _ => none
theorem zyx {α β : Type} {f : α → Option β} : ∀ {l : List α} {m : List β}, mapO f l = some m → ∀ x ∈ l, ∃ y ∈ m, f x = some y
 | [], _, _, x, hx => nomatch hx
 | a :: l, m, h, x, hx => by
  simp only [mapO] at h
  split at h <;> cases h
  rename_i y m2 h1 h2
  rcases List.mem_cons.1 hx with rfl | hx
  ·exact ⟨y, List.mem_cons_self .., h1⟩
  ·obtain ⟨z, hz, hf⟩ := zyx h2 x hx
   exact ⟨z, List.mem_cons_of_mem _ hz, hf⟩
def succ1 (P : Program) (Ψ : CallS) (cp : CallP) (cs : CallS) (ops : Array Oper) (x : DSt) : Option (List DSt) := mapO (evAt P Ψ cp cs ops x) (Region.ready .any ops x.1)
def evD (P : Program) (Ψ : CallS) (cp : CallP) (cs : CallS) (ops : Array Oper) (r : List AV × St) : Nat → List DSt → Bool
 | 0, F => F.all fun x => (Region.ready .any ops x.1).isEmpty && zlb x.2.1 r.1 && eqSt x.2.2 r.2
 | k + 1, F => (F.all fun x => !(Region.ready .any ops x.1).isEmpty || (zlb x.2.1 r.1 && eqSt x.2.2 r.2)) && (match mapO (succ1 P Ψ cp cs ops) F with
  | none => false
  | some G => match ddup G.flatten [] with
   | none => false
   | some H => evD P Ψ cp cs ops r k H)
theorem z3q {l : List Bool} : ∀ {L : List DSt} {z : DSt}, qll l L = some z → z ∈ L ∧ z.1.toList = l
 | [], _, h => nomatch h
 | y :: L, z, h => by
  rw [qll] at h
  split at h
  ·rename_i e; cases h; exact ⟨List.mem_cons_self .., by simpa using e⟩
  ·obtain ⟨h1, h2⟩ := z3q h; exact ⟨List.mem_cons_of_mem _ h1, h2⟩
theorem zyj : ∀ {G H K : List DSt}, ddup G H = some K → (∀ y ∈ G, y ∈ K) ∧ ∀ y ∈ H, y ∈ K
 | [], H, K, h => by simp only [ddup, Option.some.injEq] at h; subst h; exact ⟨fun y hy => (nomatch hy), fun y hy => hy⟩
 | y :: G, H, K, h => by
  rw [ddup] at h
  split at h
  ·rename_i z hz
   split at h
   ·rename_i e
    simp only [Bool.and_eq_true] at e
    obtain ⟨h1, h2⟩ := zyj h
    obtain ⟨m1, m2⟩ := z3q hz
    have : y = z := by
     obtain ⟨⟨y1⟩, y2, y3⟩ := y
     obtain ⟨⟨z1⟩, z2, z3⟩ := z
     simp only at m2 e
     rw [m2, zfd _ _ e.1, z5t e.2]
    exact ⟨fun x hx => (List.mem_cons.1 hx).elim (fun e => by rw [e, this]; exact h2 _ m1) (h1 x), h2⟩
   ·cases h
  ·obtain ⟨h1, h2⟩ := zyj h
   exact ⟨fun x hx => (List.mem_cons.1 hx).elim (fun e => by rw [e]; exact h2 _ (List.mem_cons_self ..)) (h1 x), fun x hx => h2 x (List.mem_cons_of_mem _ hx)⟩
variable {P : Program} {cp : CallP} {cs Ψ : CallS}
theorem z2v (hΨ : qad P Ψ) (hcp : qin P cp) (hcs : qad P cs) {ops : Array Oper} {r : List AV × St} {Q : List AV → St → Prop} (hQ : Q r.1 r.2) :
 ∀ (k : Nat) (F : List DSt), evD P Ψ cp cs ops r k F = true → ∀ x ∈ F, ztd (ITP P) P none ops Q k x.1 x.2.1 x.2.2
 | 0, F, h, x, hx => by
  have h := List.all_eq_true.1 h x hx
  simp only [Bool.and_eq_true, List.isEmpty_iff] at h
  refine ⟨h.1.1, ?_⟩
  rw [zfd _ _ h.1.2, z5t h.2]; exact hQ
 | k + 1, F, h, x, hx => by
  simp only [evD, Bool.and_eq_true] at h
  have h1 := List.all_eq_true.1 h.1 x hx
  have h2 := h.2
  split at h2
  ·cases h2
  rename_i G hG
  split at h2
  ·cases h2
  rename_i H hH
  obtain ⟨d1, _⟩ := zyj hH
  have ih := z2v hΨ hcp hcs hQ k H h2
  refine ⟨fun he => ?_, fun i hi => ?_⟩
  ·rw [he] at h1
   simp only [List.isEmpty_nil, Bool.not_true, Bool.false_or, Bool.and_eq_true] at h1
   rw [zfd _ _ h1.1, z5t h1.2]; exact hQ
  ·obtain ⟨m, hm, hs⟩ := zyx hG x hx
   obtain ⟨y, hy, he⟩ := zyx hs i hi
   have hyK := ih y (d1 y (List.mem_flatten.2 ⟨m, hm, hy⟩))
   unfold evAt at he
   unfold zzl
   cases ho : ops[i]? with
   | none => rw [ho] at he; cases he; exact hyK
   | some o =>
    rw [ho] at he
    simp only at he ⊢
    cases hg : o.guard with
    | none =>
     rw [hg] at he
     simp only at he ⊢
     split at he
     ·rename_i a σ1 hs1
      cases he
      exact zhv hΨ hcp hcs hs1 hyK
     ·cases he
    | some kb =>
     obtain ⟨j, b⟩ := kb
     rw [hg] at he
     simp only at he ⊢
     split at he
     ·rename_i c hc
      refine ⟨c, hc, ?_⟩
      split at he
      ·rename_i e
       rw [if_pos e]
       split at he
       ·rename_i a σ1 hs1
        cases he
        exact zhv hΨ hcp hcs hs1 hyK
       ·cases he
      ·rename_i e
       rw [if_neg e]
       cases he
       exact hyK
     ·cases he
def evQ (H : Bool) (P : Program) (Ω : CallP) (Ψ : CallS) : Nat → Run
 | 0, _, _, _, _ => none
 | k + 1, c, sz, S, σ => match c with
  | .skip => some (.normal, S, σ)
  | .seq x y => match evQ H P Ω Ψ k x sz S σ with
   | some (.normal, S1, σ1) => evQ H P Ω Ψ k y sz S1 σ1
   | r => r
  | .cond c x y => match zej S c with
   | .raw (.bool t) => if t = true then evQ H P Ω Ψ k x sz S σ else evQ H P Ω Ψ k y sz S σ
   | _ => none
  | .block id x => match evQ H P Ω Ψ k x sz S σ with
   | some (.exit j, S1, σ1) => if j = id then some (.normal, S1, σ1) else some (.exit j, S1, σ1)
   | r => r
  | .exit id => some (.exit id, S, σ)
  | .label _ => some (.normal, S, σ)
  | .scope x => evQ H P Ω Ψ k x sz S σ
  | .ret => some (.ret, S, σ)
  | .loop x => match evQ H P Ω Ψ k x sz S σ with
   | some (.normal, S1, σ1) => evQ H P Ω Ψ k (.loop x) sz S1 σ1
   | r => r
  | .region _ ops false => match zqn P Ψ (zme P Ω (evQ H P Ω Ψ k)) (ztu P Ψ (evQ H P Ω Ψ k)) ops ops.toList S σ with
   | some (S1, σ1) => some (.normal, S1, σ1)
   | none => none
  | .region _ ops true => if zzv ops.toList = true then (match (if H = true then qfe P (zme P Ω (evQ H P Ω Ψ k)) (ztu P Ψ (evQ H P Ω Ψ k)) ops sz S σ else none) with
   | some (S2, σ2) => some (.normal, S2, σ2)
   | none => match (if H = true then findB ops sz else none) with
    | some n => (match zla P (zme P Ω (evQ H P Ω Ψ k)) ops sz σ (ops.toList.take n) S [] with
     | some (S1, ps) => match zza P (zme P Ω (evQ H P Ω Ψ k)) (ztu P Ψ (evQ H P Ω Ψ k)) ops (ops.toList.drop n) (zzw σ.boxes.length ps S1) (zxe σ ps) with
      | some (S2, σ2) => some (.normal, S2, σ2)
      | none => none
     | none => none)
    | none => match zqn P Ψ (zme P Ω (evQ H P Ω Ψ k)) (ztu P Ψ (evQ H P Ω Ψ k)) ops ops.toList S σ with
     | some r => if evD P Ψ (zme P Ω (evQ H P Ω Ψ k)) (ztu P Ψ (evQ H P Ω Ψ k)) ops r ops.size [(Array.replicate ops.size false, S, σ)] = true then some (.normal, r.1, r.2) else none
     | none => none) else none
  | .rangeFunc f ps asg body => match zej S f with
   | .iter xs => if Nat.ble ps.size 8 = true ∧ (xs.all fun x => decide (x.length = ps.size)) = true ∧ zec asg = true then zsr (evQ H P Ω Ψ k asg sz) (evQ H P Ω Ψ k body sz) ps S σ.boxes.length xs σ else none
   | _ => none
  | _ => none
theorem z9u {H : Bool} {P : Program} {Ω : CallP} {Ψ : CallS} (hG : Good P Ω Ψ) : ∀ k, EvOk P (evQ H P Ω Ψ k)
 | 0 => fun c sz S σ e S' σ' h => by simp [evQ] at h
 | k + 1 => by
  have ih := z9u (H := H) hG k
  have hcp := z3s hG ih
  have hcs := z3n hG ih
  intro c sz S σ e S' σ' h hl
  cases c with
  | skip => simp only [evQ, Option.some.injEq, Prod.mk.injEq] at h; obtain ⟨rfl, rfl, rfl⟩ := h; exact ⟨hl, fun Q h j => h⟩
  | label id => simp only [evQ, Option.some.injEq, Prod.mk.injEq] at h; obtain ⟨rfl, rfl, rfl⟩ := h; exact ⟨hl, fun Q h j => h⟩
  | scope x => simp only [evQ] at h; obtain ⟨l1, h1⟩ := ih _ _ _ _ _ _ _ h hl; exact ⟨l1, fun Q hQ j => show awp (ITP P) P none j x Q S σ from zdw (h1 Q hQ)⟩
  | exit id => simp only [evQ, Option.some.injEq, Prod.mk.injEq] at h; obtain ⟨rfl, rfl, rfl⟩ := h; exact ⟨hl, fun Q h j => h⟩
  | ret => simp only [evQ, Option.some.injEq, Prod.mk.injEq] at h; obtain ⟨rfl, rfl, rfl⟩ := h; exact ⟨hl, fun Q h j => h⟩
  | seq x y =>
   simp only [evQ] at h
   split at h
   ·rename_i S1 σ1 hx
    obtain ⟨l1, h1⟩ := ih _ _ _ _ _ _ _ hx hl
    obtain ⟨l2, h2⟩ := ih _ _ _ _ _ _ _ h l1
    exact ⟨l2, fun Q hQ j => show awp (ITP P) P none j x (zva _ Q) S σ from zdw (h1 _ ⟨S1, σ1, Wk.refl _ _ _, zdw (h2 Q hQ)⟩)⟩
   ·rename_i hne
    obtain ⟨l1, h1⟩ := ih _ _ _ _ _ _ _ h hl
    refine ⟨l1, fun Q hQ j => show awp (ITP P) P none j x (zva _ Q) S σ from zdw (h1 _ ?_)⟩
    cases e with
    | normal => exact absurd h (hne S' σ')
    | exit id => exact hQ
    | ret => exact hQ
  | cond c x y =>
   simp only [evQ] at h
   split at h <;> try cases h
   rename_i t ht
   cases t with
   | true => obtain ⟨l1, h1⟩ := ih _ _ _ _ _ _ _ h hl; exact ⟨l1, fun Q hQ j => ⟨true, ht, zdw (h1 Q hQ)⟩⟩
   | false => obtain ⟨l1, h1⟩ := ih _ _ _ _ _ _ _ h hl; exact ⟨l1, fun Q hQ j => ⟨false, ht, zdw (h1 Q hQ)⟩⟩
  | block id x =>
   simp only [evQ] at h
   split at h
   ·rename_i j S1 σ1 hx
    obtain ⟨l1, h1⟩ := ih _ _ _ _ _ _ _ hx hl
    split at h
    ·rename_i hj
     simp only [Option.some.injEq, Prod.mk.injEq] at h; obtain ⟨rfl, rfl, rfl⟩ := h
     exact ⟨l1, fun Q hQ j => show awp (ITP P) P none j x (zoq id Q) S σ from zdw (h1 _ (by simp only [zoq]; rw [if_pos hj]; exact hQ))⟩
    ·rename_i hj
     simp only [Option.some.injEq, Prod.mk.injEq] at h; obtain ⟨rfl, rfl, rfl⟩ := h
     exact ⟨l1, fun Q hQ j => show awp (ITP P) P none j x (zoq id Q) S σ from zdw (h1 _ (by simp only [zoq]; rw [if_neg hj]; exact hQ))⟩
   ·rename_i hne
    obtain ⟨l1, h1⟩ := ih _ _ _ _ _ _ _ h hl
    refine ⟨l1, fun Q hQ j => show awp (ITP P) P none j x (zoq id Q) S σ from zdw (h1 _ ?_)⟩
    cases e with
    | normal => exact hQ
    | exit j => exact absurd h (hne j S' σ')
    | ret => exact hQ
  | loop x =>
   simp only [evQ] at h
   split at h
   ·rename_i S1 σ1 hx
    obtain ⟨l1, h1⟩ := ih _ _ _ _ _ _ _ hx hl
    obtain ⟨l2, h2⟩ := ih _ _ _ _ _ _ _ h l1
    refine ⟨l2, fun Q hQ j => ?_⟩
    obtain ⟨m, hm⟩ := h2 Q hQ j
    exact ⟨m + 1, S, σ, Wk.refl _ _ _, zdw (k := j) (h1 _ hm)⟩
   ·rename_i hne
    obtain ⟨l1, h1⟩ := ih _ _ _ _ _ _ _ h hl
    refine ⟨l1, fun Q hQ j => ⟨1, S, σ, Wk.refl _ _ _, zdw (k := j) (h1 _ ?_)⟩⟩
    cases e with
    | normal => exact absurd h (hne S' σ')
    | exit id => exact hQ
    | ret => exact hQ
  | region id ops draw =>
   cases draw with
   | false =>
    simp only [evQ] at h
    split at h <;> try cases h
    rename_i ho
    obtain ⟨l1, h1⟩ := zhl hG.oracleS hcp hcs _ _ _ _ _ ho
    exact ⟨l1.trans hl, fun Q hQ j => h1 _ hQ⟩
   | true =>
    simp only [evQ] at h
    split at h
    rotate_left
    ·cases h
    rename_i hnd
    split at h
    ·rename_i S2 σ2 hd
     cases h
     split at hd
     rotate_left
     ·cases hd
     obtain ⟨n, hc, S1, hh, ho⟩ := z0s hd
     obtain ⟨l1, h1⟩ := ziz hcp _ _ _ hh hl
     obtain ⟨l2, h2⟩ := zim hcp hcs _ _ _ _ _ ho
     exact ⟨l2.trans l1, fun Q hQ j => .inl ⟨n, by rw [hl]; exact hc, hnd, h1 _ (h2 _ hQ)⟩⟩
    ·split at h
     ·rename_i n hn
      split at hn
      rotate_left
      ·cases hn
      split at h <;> try cases h
      rename_i S1 ps hh
      split at h <;> try cases h
      rename_i ho
      obtain ⟨l1, h1⟩ := zgc hcp _ _ _ _ _ hh hl
      obtain ⟨l2, h2⟩ := zim hcp hcs _ _ _ _ _ ho
      exact ⟨l2.trans ((zqo _ _ _).trans l1), fun Q hQ j => .inr (.inl ⟨n, by rw [hl]; exact qmf hn, hnd, h1 _ (h2 _ hQ)⟩)⟩
     ·split at h
      rotate_left
      ·cases h
      rename_i r ho
      split at h
      rotate_left
      ·cases h
      rename_i ha
      cases h
      obtain ⟨l2, h2⟩ := zhl hG.oracleS hcp hcs _ _ _ r.1 r.2 ho
      exact ⟨l2.trans hl, fun Q hQ j => .inr (.inr (z2v hG.oracleS hcp hcs hQ _ _ ha _ (List.mem_cons_self ..)))⟩
  | rangeFunc f ps asg body =>
   simp only [evQ] at h
   split at h <;> try (cases h; done)
   rename_i xs hf
   split at h
   rotate_left
   ·cases h
   rename_i hc
   obtain ⟨h1, h2⟩ := znb (P := P) (asg := asg) (body := body) (S0 := S) (fun S1 σ1 e1 S1' σ1' hl1 h1 => by obtain ⟨k1, k2⟩ := ih _ _ _ _ _ _ _ h1 (hl1.trans hl); exact ⟨k1.trans hl.symm, fun k Q hQ => zdw (k2 Q hQ)⟩) (fun S1 σ1 e1 S1' σ1' hl1 h1 k Q hQ => zdw ((ih _ _ _ _ _ _ _ h1 (hl1.trans hl)).2 Q hQ)) xs σ e S' σ' h
   exact ⟨by rw [h1]; exact hl, fun Q hQ j => .inl ⟨xs, hf, hc.1, hc.2.1, hc.2.2, h2 Q hQ⟩⟩
  | _ => simp [evQ] at h
theorem zal (H : Bool) {P : Program} {Ω : CallP} {Ψ : CallS} (hG : Good P Ω Ψ) (k : Nat) {f : FuncId} {args : List AV} {r : AV} (h : zme P Ω (evQ H P Ω Ψ k) f args = some r) : Pure (ITP P) P f args r := z3s hG (z9u (H := H) hG k) f args r h
def qnb (H : Bool) (P : Program) (Ω : CallP) (Ψ : CallS) (k n : Nat) (fn : Func) (c : Code) (args : List AV) : Option AV :=
 if (zbe fn args).length = fn.ntmps then (match evQ H P Ω Ψ k c fn.ntmps (zbe fn args) St.empty with
  | some (.exit _, _, _) => none
  | some (_, S, σ) => match zbh P fn σ S with
   | some a => some (zfg (frz σ.boxes n) a)
   | none => none
  | none => none) else none
theorem qiz (H : Bool) {P : Program} {Ω : CallP} {Ψ : CallS} (hG : Good P Ω Ψ) (k n : Nat) {f : FuncId} {fn : Func} {c : Code} {args : List AV} {r : AV} (hf : P.funcs[f]? = some fn) (hb : fn.body = some c) (h : qnb H P Ω Ψ k n fn c args = some r) : Pure (ITP P) P f args r := by
 refine zjc hG.mix hf hb (hG.ent f fn hf (by rw [hb]; rfl)) ?_
 unfold qnb at h
 split at h
 rotate_left
 ·cases h
 rename_i hl
 split at h
 ·cases h
 ·rename_i e S σ hne hev
  split at h
  rotate_left
  ·cases h
  rename_i a ha
  cases h
  obtain ⟨_, h1⟩ := z9u (H := H) hG k _ _ _ _ _ _ _ hev hl
  refine zdw (h1 _ ?_)
  cases e with
  | exit id => exact (hne id rfl).elim
  | normal => exact ⟨a, ha, zrw n rfl⟩
  | ret => exact ⟨a, ha, zrw n rfl⟩
 ·cases h
end Go.Ab
