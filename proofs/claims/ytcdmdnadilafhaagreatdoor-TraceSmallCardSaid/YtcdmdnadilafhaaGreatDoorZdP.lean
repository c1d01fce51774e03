/-
  Ways to walk with the abstract machine.
-/
import Derived.Test.YtcdmdnadilafhaaGreatDoorZdN
set_option linter.unusedSimpArgs false
set_option linter.unusedVariables false
namespace Go.Ab
open Go Go.RowKit Go.Fwd
section
variable {P : Program} {cp : CallP} {cs : CallS}
def z0e (P : Program) (cp : CallP) : Prop := ∀ f args r, cp f args = some r → Pure (ITP P) P f args r
def CsOk (P : Program) (cs : CallS) : Prop := ∀ f args σ r σ', cs f args σ = some (r, σ') → Snd (ITP P) P f args σ r σ'
theorem zfm (hcp : z0e P cp) (hcs : CsOk P cs) {o : Oper} {S : List AV} {σ σ' : St} {a : AV} (h : zoo P cp cs o S σ = some (a, σ')) {K : AV → St → Prop} (hK : K a σ') : zed (ITP P) P none o S σ K := by
 unfold zoo at h
 unfold zed
 split at h
 ·rename_i f args hc
  rw [hc]
  simp only
  split at h
  ·rename_i hok
   split at h <;> cases h
   rename_i hr
   exact ⟨a, σ, .inr (.inl ⟨rfl, hok, hcp _ _ _ hr⟩), hK⟩
  ·split at h <;> try cases h
   rename_i hs
   split at h <;> cases h
   rename_i hos
   exact ⟨a, σ', .inl ⟨hcs _ _ _ _ _ hs, hos⟩, hK⟩
 ·rename_i hc
  rw [hc]
  simp only
  split at h <;> try cases h
  rename_i hy
  rw [hy]
  split at h
  ·rename_i r hr
   cases h
   exact .inl ⟨a, σ', .inl hr, hK⟩
  ·exact .inl ⟨a, σ', .inr (.inr (.inl h)), hK⟩
theorem zdl (hcp : z0e P cp) (hcs : CsOk P cs) {ops : Array Oper} : ∀ (l : List Oper) (S : List AV) (σ : St) (S' : List AV) (σ' : St), zn2 P cp cs ops l S σ = some (S', σ') → S'.length = S.length ∧ ∀ Q : List AV → St → Prop, Q S' σ' → zbw (ITP P) P none ops Q l S σ
 | [], S, σ, S', σ', h => by simp only [zn2, Option.some.injEq, Prod.mk.injEq] at h; obtain ⟨rfl, rfl⟩ := h; exact ⟨rfl, fun Q h => h⟩
 | o :: l, S, σ, S', σ', h => by
  simp only [zn2] at h
  simp only [zbw]
  cases hg : o.guard with
  | none =>
   rw [hg] at h
   simp only at h ⊢
   split at h <;> try cases h
   rename_i a σ1 hs
   obtain ⟨h1, h2⟩ := zdl hcp hcs l _ _ _ _ h
   exact ⟨by rw [h1, zau], fun Q hQ => zfm hcp hcs hs (h2 Q hQ)⟩
  | some kb =>
   obtain ⟨k, b⟩ := kb
   rw [hg] at h
   simp only at h ⊢
   split at h <;> try cases h
   rename_i c hc
   split at h
   ·rename_i e
    split at h <;> try cases h
    rename_i a σ1 hs
    obtain ⟨h1, h2⟩ := zdl hcp hcs l _ _ _ _ h
    exact ⟨by rw [h1, zau], fun Q hQ => ⟨c, hc, by rw [if_pos e]; exact zfm hcp hcs hs (h2 Q hQ)⟩⟩
   ·rename_i e
    obtain ⟨h1, h2⟩ := zdl hcp hcs l _ _ _ _ h
    exact ⟨by rw [h1, zau], fun Q hQ => ⟨c, hc, by rw [if_neg e]; exact h2 Q hQ⟩⟩
theorem zev (hcp : z0e P cp) {o : Oper} {S : List AV} {σ : St} {a : AV} (h : zkg P cp o S σ = some a) {K : AV → Prop} (hK : K a) : hstep (ITP P) P o S σ K := by
 unfold zkg at h
 unfold hstep
 split at h
 ·rename_i f args hc
  rw [hc]
  simp only
  split at h <;> try cases h
  rename_i hok
  exact ⟨a, hok, hcp _ _ _ h, hK⟩
 ·rename_i hc
  rw [hc]
  exact ⟨a, .inl h, hK⟩
theorem zfq (hcp : z0e P cp) {ops : Array Oper} {size : Nat} {σ : St} : ∀ (l : List Oper) (S S' : List AV), zkz P cp ops size σ l S = some S' → S.length = size → S'.length = size ∧ ∀ K : List AV → Prop, K S' → zcy (ITP P) P ops σ K l S
 | [], S, S', h, hl => by simp only [zkz, Option.some.injEq] at h; subst h; exact ⟨hl, fun K h => h⟩
 | o :: l, S, S', h, hl => by
  simp only [zkz] at h
  simp only [zcy]
  split at h <;> try cases h
  rename_i hd
  cases hg : o.guard with
  | none =>
   rw [hg] at h
   simp only at h ⊢
   split at h <;> try cases h
   rename_i a hs
   obtain ⟨h1, h2⟩ := zfq hcp l _ _ h (by rw [zau]; exact hl)
   exact ⟨h1, fun K hK => ⟨by rw [hl]; exact hd, .inl (zev hcp hs (h2 K hK))⟩⟩
  | some kb =>
   obtain ⟨k, b⟩ := kb
   rw [hg] at h
   simp only at h ⊢
   split at h <;> try cases h
   rename_i c hc
   split at h
   ·rename_i e
    split at h <;> try cases h
    rename_i a hs
    obtain ⟨h1, h2⟩ := zfq hcp l _ _ h (by rw [zau]; exact hl)
    exact ⟨h1, fun K hK => ⟨by rw [hl]; exact hd, c, hc, by rw [if_pos e]; exact .inl (zev hcp hs (h2 K hK))⟩⟩
   ·rename_i e
    obtain ⟨h1, h2⟩ := zfq hcp l _ _ h (by rw [zau]; exact hl)
    exact ⟨h1, fun K hK => ⟨by rw [hl]; exact hd, c, hc, by rw [if_neg e]; exact h2 K hK⟩⟩
theorem zds (hcp : z0e P cp) {ops : Array Oper} {size : Nat} {σ : St} : ∀ (l : List Oper) (S S' : List AV) (ps ps' : Pend), zg9 P cp ops size σ l S ps = some (S', ps') → S.length = size → S'.length = size ∧ ∀ K : List AV → Pend → Prop, K S' ps' → zc9 (ITP P) P ops σ K l S ps
 | [], S, S', ps, ps', h, hl => by simp only [zg9, Option.some.injEq, Prod.mk.injEq] at h; obtain ⟨rfl, rfl⟩ := h; exact ⟨hl, fun K h => h⟩
 | o :: l, S, S', ps, ps', h, hl => by
  simp only [zg9] at h
  simp only [zc9]
  split at h <;> try cases h
  rename_i hd
  cases hg : o.guard with
  | none =>
   rw [hg] at h
   simp only at h ⊢
   split at h
   ·rename_i a hs
    obtain ⟨h1, h2⟩ := zds hcp l _ _ _ _ h (by rw [zau]; exact hl)
    exact ⟨h1, fun K hK => ⟨by rw [hl]; exact hd.1, hd.2, .inr (zev hcp hs (h2 K hK))⟩⟩
   ·split at h <;> try cases h
    rename_i t d ho hdst
    split at h <;> try cases h
    rename_i z hz
    obtain ⟨h1, h2⟩ := zds hcp l _ _ _ _ h (by rw [List.length_set]; exact hl)
    exact ⟨h1, fun K hK => ⟨by rw [hl]; exact hd.1, hd.2, .inl ⟨trivial, t, d, z, ho, hdst, hz, h2 K hK⟩⟩⟩
  | some kb =>
   obtain ⟨k, b⟩ := kb
   rw [hg] at h
   simp only at h ⊢
   split at h <;> try cases h
   rename_i c hc
   split at h
   ·rename_i e
    split at h <;> try cases h
    rename_i a hs
    obtain ⟨h1, h2⟩ := zds hcp l _ _ _ _ h (by rw [zau]; exact hl)
    exact ⟨h1, fun K hK => ⟨by rw [hl]; exact hd.1, hd.2, .inr ⟨c, hc, by rw [if_pos e]; exact zev hcp hs (h2 K hK)⟩⟩⟩
   ·rename_i e
    obtain ⟨h1, h2⟩ := zds hcp l _ _ _ _ h (by rw [zau]; exact hl)
    exact ⟨h1, fun K hK => ⟨by rw [hl]; exact hd.1, hd.2, .inr ⟨c, hc, by rw [if_neg e]; exact h2 K hK⟩⟩⟩
theorem zk0 : ∀ (ps : Pend) (n : Nat) (S : List AV), (zg2 n ps S).length = S.length
 | [], n, S => rfl
 | p :: ps, n, S => by rw [zg2, zk0 ps, List.length_set]
theorem zsq (S : List AV) (ps : Array Tmp) (x : List AV) : (zvp S ps x).length = S.length := by
 unfold zvp
 generalize ps.toList.zip x = l
 induction l generalizing S with
 | nil => rfl
 | cons p l ih => rw [List.foldl_cons, ih]; simp
theorem zix {asg body : Code} {Ea Eb : List AV → St → Option (AExit × List AV × St)} {ps : Array Tmp} {S0 : List AV} {n : Nat}
 (ha : ∀ S σ e S' σ', S.length = S0.length → Ea S σ = some (e, S', σ') → S'.length = S0.length ∧ ∀ (k : Nat) (Q : AQ), Q e S' σ' → awp (ITP P) P none k asg Q S σ)
 (hb : ∀ S σ e S' σ', S.length = S0.length → Eb S σ = some (e, S', σ') → ∀ (k : Nat) (Q : AQ), Q e S' σ' → awp (ITP P) P none k body Q S σ) :
 ∀ (xs : List (List AV)) (σ : St) (e : AExit) (S' : List AV) (σ' : St), zm6 Ea Eb ps S0 n xs σ = some (e, S', σ') → S' = S0 ∧ ∀ Q : AQ, Q e S' σ' → zer (fun k => awp (ITP P) P none k asg) (fun k => awp (ITP P) P none k body) ps S0 Q n xs σ
 | [], σ, e, S', σ', h => by simp only [zm6, Option.some.injEq, Prod.mk.injEq] at h; obtain ⟨rfl, rfl, rfl⟩ := h; exact ⟨rfl, fun Q h => h⟩
 | x :: xs, σ, e, S', σ', h => by
  simp only [zm6] at h
  split at h <;> try cases h
  rename_i S1 σ1 ha1
  split at h <;> try cases h
  rename_i e2 S2 σ2 hb2
  split at h <;> try cases h
  rename_i hok2
  obtain ⟨a1, a3⟩ := ha _ _ _ _ _ (zsq _ _ _) ha1
  simp only [zer]
  cases e2 with
  | normal =>
   simp only at h
   obtain ⟨h1, h2⟩ := zix ha hb xs _ _ _ _ h
   exact ⟨h1, fun Q hQ => a3 _ _ (hb _ _ _ _ _ a1 hb2 _ _ ⟨hok2, h2 Q hQ⟩)⟩
  | exit id =>
   simp only [Option.some.injEq, Prod.mk.injEq] at h
   obtain ⟨rfl, rfl, rfl⟩ := h
   exact ⟨rfl, fun Q hQ => a3 _ _ (hb _ _ _ _ _ a1 hb2 _ _ ⟨hok2, hQ⟩)⟩
  | ret =>
   simp only [Option.some.injEq, Prod.mk.injEq] at h
   obtain ⟨rfl, rfl, rfl⟩ := h
   exact ⟨rfl, fun Q hQ => a3 _ _ (hb _ _ _ _ _ a1 hb2 _ _ ⟨hok2, hQ⟩)⟩
end
structure Good (P : Program) (Ω : CallP) (Ψ : CallS) : Prop where
 mix : P.follows .mixedOrders = true
 ent : ∀ (f : Nat) fn, P.funcs[f]? = some fn → fn.body.isSome = true → Ent P f
 oracle : z0e P Ω
 oracleS : CsOk P Ψ
def awpT (P : Program) (c : Code) (Q : AQ) (S : List AV) (σ : St) : Prop := ∀ k, awp (ITP P) P none k c Q S σ
theorem zcw {P : Program} {c : Code} {Q : AQ} {S : List AV} {σ : St} {k : Nat} (h : awpT P c Q S σ) : awp (ITP P) P none k c Q S σ := h k
def EvOk (P : Program) (E : Run) : Prop := ∀ c sz S σ e S' σ', E c sz S σ = some (e, S', σ') → S.length = sz → S'.length = sz ∧ ∀ Q : AQ, Q e S' σ' → awpT P c Q S σ
theorem zq4 {P : Program} {Ω : CallP} {Ψ : CallS} (hG : Good P Ω Ψ) {E : Run} (hE : EvOk P E) : z0e P (zgx P Ω E) := by
 intro f args r h
 unfold zgx at h
 split at h
 ·rename_i r' ho
  cases h
  exact hG.oracle _ _ _ ho
 ·split at h <;> try cases h
  rename_i fn hf
  split at h <;> try cases h
  rename_i c hb
  split at h <;> try cases h
  rename_i hl
  have fin : ∀ e S σ, (e = .normal ∨ e = .ret) → E c fn.ntmps (zdb fn args) St.empty = some (e, S, σ) → (match zbl P fn σ S with | some a => if za4 0 a = true then some (zcn a) else none | none => none) = some r → Pure (ITP P) P f args r := fun e S σ he h1 h2 => by
   split at h2 <;> try cases h2
   rename_i a ha
   split at h2 <;> cases h2
   rename_i hok
   obtain ⟨_, h3⟩ := hE _ _ _ _ _ _ _ h1 hl
   refine zt1 hG.mix hf hb (hG.ent f fn hf (by rw [hb]; rfl)) (zcw (h3 _ ?_))
   rcases he with rfl | rfl <;> exact ⟨a, ha, zo2 hok rfl⟩
  split at h
  ·cases h
  ·rename_i e S σ hne he
   refine fin e S σ ?_ he h
   cases e with
   | normal => exact .inl rfl
   | ret => exact .inr rfl
   | exit id => exact absurd rfl (hne id)
  ·cases h
theorem zxk {P : Program} {Ω : CallP} {Ψ : CallS} (hG : Good P Ω Ψ) {E : Run} (hE : EvOk P E) : CsOk P (znd P Ψ E) := by
 intro f args σ r σ' h
 unfold znd at h
 split at h
 ·rename_i r0 hr0
  cases h
  exact hG.oracleS _ _ _ _ _ hr0
 split at h <;> try cases h
 rename_i fn hf
 split at h <;> try cases h
 rename_i c hb
 split at h <;> try cases h
 rename_i hl
 have fin : ∀ e S σ1, (e = .normal ∨ e = .ret) → E c fn.ntmps (zdb fn args) σ = some (e, S, σ1) → (match zbl P fn σ1 S with | some a => if za4 σ.boxes.length a = true ∧ zwz σ.boxes.length σ1 = true then some (a, ze9 σ.boxes.length σ1) else none | none => none) = some (r, σ') → Snd (ITP P) P f args σ r σ' := fun e S σ1 he h1 h2 => by
  split at h2 <;> try cases h2
  rename_i a ha
  split at h2 <;> cases h2
  rename_i hok
  obtain ⟨_, h3⟩ := hE _ _ _ _ _ _ _ h1 hl
  refine zut hG.mix hf hb (hG.ent f fn hf (by rw [hb]; rfl)) (zcw (h3 _ ?_))
  rcases he with rfl | rfl <;> exact ⟨r, ha, zxf hok.1 hok.2 rfl rfl⟩
 split at h
 ·cases h
 ·rename_i e S σ1 hne he
  refine fin e S σ1 ?_ he h
  cases e with
  | normal => exact .inl rfl
  | ret => exact .inr rfl
  | exit id => exact absurd rfl (hne id)
 ·cases h
theorem z1b {ops : Array Oper} {size n : Nat} (h : findB ops size = some n) : chk ops size n = true := by
 unfold findB at h
 simp only at h
 split at h
 ·rename_i hc; cases h; exact hc
 ·cases h
theorem zrh {P : Program} {cp : CallP} {cs : CallS} {ops : Array Oper} {sz : Nat} {S : List AV} {σ : St} {r : List AV × St} (h : zzd P cp cs ops sz S σ = some r) :
 ∃ n, chk ops sz n = true ∧ ∃ S1, zkz P cp ops sz σ (ops.toList.take n) S = some S1 ∧ zn2 P cp cs ops (ops.toList.drop n) S1 σ = some r := by
 obtain ⟨n, _, h⟩ := List.exists_of_findSome?_eq_some h
 unfold z2b at h
 split at h <;> try cases h
 rename_i hc
 split at h <;> try cases h
 rename_i S1 hh
 exact ⟨n, hc, S1, hh, h⟩
theorem zfg {P : Program} {cp : CallP} {cs : CallS} (hcp : z0e P cp) (hcs : CsOk P cs) {ops : Array Oper} {r : List AV × St} {Q : List AV → St → Prop} (hQ : Q r.1 r.2) :
 ∀ (k : Nat) (listed : Array Bool) (S : List AV) (σ : St), zsa P cp cs ops r k listed S σ = true → zma (ITP P) P none ops Q k listed S σ
 | 0, listed, S, σ, h => by
  simp only [zsa, Bool.and_eq_true, List.isEmpty_iff] at h
  refine ⟨h.1.1, ?_⟩
  rw [zd9 _ _ h.1.2, zxs h.2]; exact hQ
 | k + 1, listed, S, σ, h => by
  simp only [zsa, Bool.and_eq_true] at h
  refine ⟨fun he => ?_, fun i hi => ?_⟩
  ·have h1 := h.1
   rw [he] at h1
   simp only [List.isEmpty_nil, Bool.not_true, Bool.false_or, Bool.and_eq_true] at h1
   rw [zd9 _ _ h1.1, zxs h1.2]; exact hQ
  ·have h2 := List.all_eq_true.1 h.2 i hi
   unfold zqm
   cases ho : ops[i]? with
   | none => rw [ho] at h2; exact zfg hcp hcs hQ k _ _ _ h2
   | some o =>
    rw [ho] at h2
    simp only at h2 ⊢
    cases hg : o.guard with
    | none =>
     rw [hg] at h2
     simp only at h2 ⊢
     split at h2
     ·rename_i a σ1 hs
      exact zfm hcp hcs hs (zfg hcp hcs hQ k _ _ _ h2)
     ·cases h2
    | some kb =>
     obtain ⟨j, b⟩ := kb
     rw [hg] at h2
     simp only at h2 ⊢
     split at h2
     ·rename_i c hc
      refine ⟨c, hc, ?_⟩
      split at h2
      ·rename_i e
       rw [if_pos e]
       split at h2
       ·rename_i a σ1 hs
        exact zfm hcp hcs hs (zfg hcp hcs hQ k _ _ _ h2)
       ·cases h2
      ·rename_i e
       rw [if_neg e]
       exact zfg hcp hcs hQ k _ _ _ h2
     ·cases h2
theorem ev_ok {P : Program} {Ω : CallP} {Ψ : CallS} (hG : Good P Ω Ψ) : ∀ k, EvOk P (ev P Ω Ψ k)
 | 0 => fun c sz S σ e S' σ' h => by simp [ev] at h
 | k + 1 => by
  have ih := ev_ok hG k
  have hcp := zq4 hG ih
  have hcs := zxk hG ih
  intro c sz S σ e S' σ' h hl
  cases c with
  | skip => simp only [ev, Option.some.injEq, Prod.mk.injEq] at h; obtain ⟨rfl, rfl, rfl⟩ := h; exact ⟨hl, fun Q h j => h⟩
  | label id => simp only [ev, Option.some.injEq, Prod.mk.injEq] at h; obtain ⟨rfl, rfl, rfl⟩ := h; exact ⟨hl, fun Q h j => h⟩
  | scope x => simp only [ev] at h; obtain ⟨l1, h1⟩ := ih _ _ _ _ _ _ _ h hl; exact ⟨l1, fun Q hQ j => show awp (ITP P) P none j x Q S σ from zcw (h1 Q hQ)⟩
  | exit id => simp only [ev, Option.some.injEq, Prod.mk.injEq] at h; obtain ⟨rfl, rfl, rfl⟩ := h; exact ⟨hl, fun Q h j => h⟩
  | ret => simp only [ev, Option.some.injEq, Prod.mk.injEq] at h; obtain ⟨rfl, rfl, rfl⟩ := h; exact ⟨hl, fun Q h j => h⟩
  | seq x y =>
   simp only [ev] at h
   split at h
   ·rename_i S1 σ1 hx
    obtain ⟨l1, h1⟩ := ih _ _ _ _ _ _ _ hx hl
    obtain ⟨l2, h2⟩ := ih _ _ _ _ _ _ _ h l1
    exact ⟨l2, fun Q hQ j => show awp (ITP P) P none j x (zqg _ Q) S σ from zcw (h1 _ ⟨S1, σ1, Wk.refl _ _ _, zcw (h2 Q hQ)⟩)⟩
   ·rename_i hne
    obtain ⟨l1, h1⟩ := ih _ _ _ _ _ _ _ h hl
    refine ⟨l1, fun Q hQ j => show awp (ITP P) P none j x (zqg _ Q) S σ from zcw (h1 _ ?_)⟩
    cases e with
    | normal => exact absurd h (hne S' σ')
    | exit id => exact hQ
    | ret => exact hQ
  | cond c x y =>
   simp only [ev] at h
   split at h <;> try cases h
   rename_i t ht
   cases t with
   | true => obtain ⟨l1, h1⟩ := ih _ _ _ _ _ _ _ h hl; exact ⟨l1, fun Q hQ j => ⟨true, ht, zcw (h1 Q hQ)⟩⟩
   | false => obtain ⟨l1, h1⟩ := ih _ _ _ _ _ _ _ h hl; exact ⟨l1, fun Q hQ j => ⟨false, ht, zcw (h1 Q hQ)⟩⟩
  | block id x =>
   simp only [ev] at h
   split at h
   ·rename_i j S1 σ1 hx
    obtain ⟨l1, h1⟩ := ih _ _ _ _ _ _ _ hx hl
    split at h
    ·rename_i hj
     simp only [Option.some.injEq, Prod.mk.injEq] at h; obtain ⟨rfl, rfl, rfl⟩ := h
     exact ⟨l1, fun Q hQ j => show awp (ITP P) P none j x (zjj id Q) S σ from zcw (h1 _ (by simp only [zjj]; rw [if_pos hj]; exact hQ))⟩
    ·rename_i hj
     simp only [Option.some.injEq, Prod.mk.injEq] at h; obtain ⟨rfl, rfl, rfl⟩ := h
     exact ⟨l1, fun Q hQ j => show awp (ITP P) P none j x (zjj id Q) S σ from zcw (h1 _ (by simp only [zjj]; rw [if_neg hj]; exact hQ))⟩
   ·rename_i hne
    obtain ⟨l1, h1⟩ := ih _ _ _ _ _ _ _ h hl
    refine ⟨l1, fun Q hQ j => show awp (ITP P) P none j x (zjj id Q) S σ from zcw (h1 _ ?_)⟩
    cases e with
    | normal => exact hQ
    | exit j => exact absurd h (hne j S' σ')
    | ret => exact hQ
  | loop x =>
   simp only [ev] at h
   split at h
   ·rename_i S1 σ1 hx
    obtain ⟨l1, h1⟩ := ih _ _ _ _ _ _ _ hx hl
    obtain ⟨l2, h2⟩ := ih _ _ _ _ _ _ _ h l1
    refine ⟨l2, fun Q hQ j => ?_⟩
    obtain ⟨m, hm⟩ := h2 Q hQ j
    exact ⟨m + 1, S, σ, Wk.refl _ _ _, zcw (k := j) (h1 _ hm)⟩
   ·rename_i hne
    obtain ⟨l1, h1⟩ := ih _ _ _ _ _ _ _ h hl
    refine ⟨l1, fun Q hQ j => ⟨1, S, σ, Wk.refl _ _ _, zcw (k := j) (h1 _ ?_)⟩⟩
    cases e with
    | normal => exact absurd h (hne S' σ')
    | exit id => exact hQ
    | ret => exact hQ
  | region id ops draw =>
   cases draw with
   | false =>
    simp only [ev] at h
    split at h <;> try cases h
    rename_i ho
    obtain ⟨l1, h1⟩ := zdl hcp hcs _ _ _ _ _ ho
    exact ⟨l1.trans hl, fun Q hQ j => h1 _ hQ⟩
   | true =>
    simp only [ev] at h
    split at h
    rotate_left
    ·cases h
    rename_i hnd
    split at h
    ·rename_i S2 σ2 hd
     cases h
     obtain ⟨n, hc, S1, hh, ho⟩ := zrh hd
     obtain ⟨l1, h1⟩ := zfq hcp _ _ _ hh hl
     obtain ⟨l2, h2⟩ := zdl hcp hcs _ _ _ _ _ ho
     exact ⟨l2.trans l1, fun Q hQ j => .inl ⟨n, by rw [hl]; exact hc, hnd, h1 _ (h2 _ hQ)⟩⟩
    ·split at h
     ·rename_i n hn
      split at h <;> try cases h
      rename_i S1 ps hh
      split at h <;> try cases h
      rename_i ho
      obtain ⟨l1, h1⟩ := zds hcp _ _ _ _ _ hh hl
      obtain ⟨l2, h2⟩ := zdl hcp hcs _ _ _ _ _ ho
      exact ⟨l2.trans ((zk0 _ _ _).trans l1), fun Q hQ j => .inr (.inl ⟨n, by rw [hl]; exact z1b hn, hnd, h1 _ (h2 _ hQ)⟩)⟩
     ·split at h
      rotate_left
      ·cases h
      rename_i r ho
      split at h
      rotate_left
      ·cases h
      rename_i ha
      cases h
      obtain ⟨l2, h2⟩ := zdl hcp hcs _ _ _ r.1 r.2 ho
      exact ⟨l2.trans hl, fun Q hQ j => .inr (.inr (.inl (zfg hcp hcs hQ _ _ _ _ ha)))⟩
  | rangeFunc f ps asg body =>
   simp only [ev] at h
   split at h <;> try (cases h; done)
   rename_i xs hf
   split at h
   rotate_left
   ·cases h
   rename_i hc
   obtain ⟨h1, h2⟩ := zix (P := P) (asg := asg) (body := body) (S0 := S) (fun S1 σ1 e1 S1' σ1' hl1 h1 => by obtain ⟨k1, k2⟩ := ih _ _ _ _ _ _ _ h1 (hl1.trans hl); exact ⟨k1.trans hl.symm, fun k Q hQ => zcw (k2 Q hQ)⟩) (fun S1 σ1 e1 S1' σ1' hl1 h1 k Q hQ => zcw ((ih _ _ _ _ _ _ _ h1 (hl1.trans hl)).2 Q hQ)) xs σ e S' σ' h
   exact ⟨by rw [h1]; exact hl, fun Q hQ j => .inl ⟨xs, hf, hc.1, hc.2, h2 Q hQ⟩⟩
  | _ => simp [ev] at h
theorem zt {P : Program} {Ω : CallP} {Ψ : CallS} (hG : Good P Ω Ψ) (k : Nat) {f : FuncId} {args : List AV} {r : AV} (h : zgx P Ω (ev P Ω Ψ k) f args = some r) : Pure (ITP P) P f args r := zq4 hG (ev_ok hG k) f args r h
end Go.Ab
set_option linter.unusedSimpArgs false
set_option linter.unusedVariables false
namespace Go.Ab
open Go Go.RowKit Go.Fwd
section
variable {IT : IterP} {P : Program} {W : Owed} {k0 : Nat}
theorem zj1 {K K' : List AV → St → Prop} {Q Q' : AQ} (hK : ∀ S σ, K S σ → K' S σ) (h : ∀ e S σ, Q e S σ → Q' e S σ) : ∀ e S σ, zqg K Q e S σ → zqg K' Q' e S σ
 | .normal, S, σ, hq => hK S σ hq
 | .exit _, S, σ, hq => h _ S σ hq
 | .ret, S, σ, hq => h _ S σ hq
theorem zho {o : Oper} {S : List AV} {σ : St} {K K' : AV → St → Prop} (h : ∀ a σ, K a σ → K' a σ) (k : zed IT P W o S σ K) : zed IT P W o S σ K' := by
 unfold zed at k ⊢
 split
 ·rename_i hc; rw [hc] at k; obtain ⟨r, σ', k1, k2⟩ := k; exact ⟨r, σ', k1, h _ _ k2⟩
 ·rename_i hc
  rw [hc] at k
  simp only at k
  split
  ·rename_i hy; rw [hy] at k; obtain ⟨rows, row, k1, k2, k3, k4, k5, k6, k7, k8⟩ := k; exact ⟨rows, row, k1, k2, k3, k4, k5, k6, h _ _ k7, h _ _ k8⟩
  ·rename_i hy; rw [hy] at k
   rcases k with ⟨a, σ', k1, k2⟩ | ⟨n, neg, k1, k2, k3⟩
   ·exact .inl ⟨a, σ', k1, h _ _ k2⟩
   ·exact .inr ⟨n, neg, k1, fun e => h _ _ (k2 e), h _ _ k3⟩
theorem zfb {ops : Array Oper} {Q Q' : List AV → St → Prop} (h : ∀ S σ, Q S σ → Q' S σ) : ∀ (l : List Oper) (S : List AV) (σ : St), zbw IT P W ops Q l S σ → zbw IT P W ops Q' l S σ
 | [], S, σ, k => h S σ k
 | o :: l, S, σ, k => by
  simp only [zbw] at k ⊢
  split
  ·rename_i hg; rw [hg] at k; exact zho (fun a σ' => zfb h l _ _) k
  ·rename_i kb b hg
   rw [hg] at k
   obtain ⟨c, k1, k2⟩ := k
   refine ⟨c, k1, ?_⟩
   split
   ·rename_i hc; rw [if_pos hc] at k2; exact zho (fun a σ' => zfb h l _ _) k2
   ·rename_i hc; rw [if_neg hc] at k2; exact zfb h l _ _ k2
theorem ze2 {ops : Array Oper} {Q Q' : List AV → St → Prop} (h : ∀ S σ, Q S σ → Q' S σ) : ∀ (k : Nat) (listed : Array Bool) (S : List AV) (σ : St), zma IT P W ops Q k listed S σ → zma IT P W ops Q' k listed S σ
 | 0, _, S, σ, k => ⟨k.1, h S σ k.2⟩
 | n + 1, listed, S, σ, k => by
  refine ⟨fun he => h _ _ (k.1 he), fun i hi => ?_⟩
  have k := k.2 i hi
  unfold zqm at k ⊢
  cases ho : ops[i]? with
  | none => rw [ho] at k; exact ze2 h n _ _ _ k
  | some o =>
   rw [ho] at k
   simp only at k ⊢
   split
   ·rename_i hg; rw [hg] at k; exact zho (fun a σ' => ze2 h n _ _ _) k
   ·rename_i kb b hg
    rw [hg] at k
    obtain ⟨c, k1, k2⟩ := k
    refine ⟨c, k1, ?_⟩
    split
    ·rename_i hc; rw [if_pos hc] at k2; exact zho (fun a σ' => ze2 h n _ _ _) k2
    ·rename_i hc; rw [if_neg hc] at k2; exact ze2 h n _ _ _ k2
theorem zf5 {o : Oper} {S : List AV} {σ : St} {K K' : AV → Prop} (h : ∀ a, K a → K' a) (k : hstep IT P o S σ K) : hstep IT P o S σ K' := by
 unfold hstep at k ⊢
 split
 ·rename_i hc; rw [hc] at k; obtain ⟨r, k1, k2, k3⟩ := k; exact ⟨r, k1, k2, h _ k3⟩
 ·rename_i hc; rw [hc] at k; obtain ⟨a, k1, k2⟩ := k; exact ⟨a, k1, h _ k2⟩
theorem znz {o : Oper} {S : List AV} {σ : St} {K K' : AV → Prop} (h : ∀ a, K a → K' a) (k : znf IT P o S σ K) : znf IT P o S σ K' :=
 k.imp (zf5 h) fun ⟨f, args, r, n, k1, k2, k3, k4⟩ => ⟨f, args, r, n, k1, k2, k3, h _ k4⟩
theorem zhk {ops : Array Oper} {σ : St} {K K' : List AV → Prop} (h : ∀ S, K S → K' S) : ∀ (l : List Oper) (S : List AV), zcy IT P ops σ K l S → zcy IT P ops σ K' l S
 | [], S, k => h S k
 | o :: l, S, k => by
  simp only [zcy] at k ⊢
  refine ⟨k.1, ?_⟩
  have k := k.2
  split
  ·rename_i hg; rw [hg] at k; exact znz (fun a => zhk h l _) k
  ·rename_i kb b hg
   rw [hg] at k
   obtain ⟨c, k1, k2⟩ := k
   refine ⟨c, k1, ?_⟩
   split
   ·rename_i hc; rw [if_pos hc] at k2; exact znz (fun a => zhk h l _) k2
   ·rename_i hc; rw [if_neg hc] at k2; exact zhk h l _ k2
theorem ze6 {ops : Array Oper} {σ : St} {K K' : List AV → Pend → Prop} (h : ∀ S ps, K S ps → K' S ps) : ∀ (l : List Oper) (S : List AV) (ps : Pend), zc9 IT P ops σ K l S ps → zc9 IT P ops σ K' l S ps
 | [], S, ps, k => h S ps k
 | o :: l, S, ps, k => by
  simp only [zc9] at k ⊢
  refine ⟨k.1, k.2.1, ?_⟩
  rcases k.2.2 with ⟨hg, t, d, z, k1, k2, k3, k4⟩ | k
  ·exact .inl ⟨hg, t, d, z, k1, k2, k3, ze6 h l _ _ k4⟩
  ·right
   split
   ·rename_i hg; rw [hg] at k; exact zf5 (fun a => ze6 h l _ _) k
   ·rename_i kb b hg
    rw [hg] at k
    obtain ⟨c, k1, k2⟩ := k
    refine ⟨c, k1, ?_⟩
    split
    ·rename_i hc; rw [if_pos hc] at k2; exact zf5 (fun a => ze6 h l _ _) k2
    ·rename_i hc; rw [if_neg hc] at k2; exact ze6 h l _ _ k2
theorem zd0 {ops : Array Oper} {σ : St} {pl : List Pe} {K K' : List AV → Prop} (h : ∀ S, K S → K' S) : ∀ (l : List Oper) (n : Nat) (S : List AV), zhc IT P ops σ pl K n l S → zhc IT P ops σ pl K' n l S
 | [], n, S, k => h S k
 | o :: l, n, S, k => by
  simp only [zhc] at k ⊢
  refine ⟨k.1, ?_⟩
  rcases k.2 with ⟨p, hp, k1, k2, k3, k4, k5, k6⟩ | ⟨p, hp, k1, k2, k3, k4, k5, k6, k7, k8, k9, k10⟩ | ⟨k1, k⟩
  ·exact .inl ⟨p, hp, k1, k2, k3, k4, k5, zd0 h l _ _ k6⟩
  ·exact .inr (.inl ⟨p, hp, k1, k2, k3, k4, k5, k6, k7, k8, k9, zd0 h l _ _ k10⟩)
  ·refine .inr (.inr ⟨k1, ?_⟩)
   split
   ·rename_i hg; rw [hg] at k; exact zf5 (fun a => zd0 h l _ _) k
   ·rename_i kb b hg
    rw [hg] at k
    obtain ⟨c, k1, k2⟩ := k
    refine ⟨c, k1, ?_⟩
    split
    ·rename_i hc; rw [if_pos hc] at k2; exact zf5 (fun a => zd0 h l _ _) k2
    ·rename_i hc; rw [if_neg hc] at k2; exact zd0 h l _ _ k2
def WMono (F : AQ → List AV → St → Prop) : Prop := ∀ {Q Q' : AQ}, (∀ e S σ, Q e S σ → Q' e S σ) → ∀ S σ, F Q S σ → F Q' S σ
theorem zld {F : AQ → List AV → St → Prop} {n0 : Nat} (hF : WMono F) {Q Q' : AQ} (h : ∀ e S σ, Q e S σ → Q' e S σ) : ∀ (m : Nat) (S : List AV) (σ : St), zkp F Q n0 m S σ → zkp F Q' n0 m S σ
 | 0, S, σ, k => k
 | m + 1, S, σ, ⟨S', σ', k1, k2⟩ => ⟨S', σ', k1, hF (zj1 (zld hF h m) h) _ _ k2⟩
theorem zik {Fa Fb : Nat → AQ → List AV → St → Prop} {ps : Array Tmp} {S : List AV} {n0 : Nat} (hFa : ∀ k, WMono (Fa k)) (hFb : ∀ k, WMono (Fb k)) {Q Q' : AQ} (h : ∀ e S σ, Q e S σ → Q' e S σ) : ∀ (xs : List (List AV)) (σ : St), zer Fa Fb ps S Q n0 xs σ → zer Fa Fb ps S Q' n0 xs σ
 | [], σ, k => h _ _ _ k
 | x :: xs, σ, k => by
  simp only [zer] at k ⊢
  refine hFa n0 ?_ _ _ k
  intro e S1 σ1 hq
  cases e with
  | normal =>
   refine hFb _ ?_ _ _ hq
   intro e2 S2 σ2 hq2
   cases e2 with
   | normal => exact ⟨hq2.1, zik hFa hFb h xs _ hq2.2⟩
   | exit id => exact ⟨hq2.1, h _ _ _ hq2.2⟩
   | ret => exact ⟨hq2.1, h _ _ _ hq2.2⟩
  | exit id => exact hq
  | ret => exact hq
theorem zc0 {k0 : Nat} : ∀ (c : Code) {Q Q' : AQ}, (∀ e S σ, Q e S σ → Q' e S σ) → ∀ (S : List AV) (σ : St), awp IT P W k0 c Q S σ → awp IT P W k0 c Q' S σ
 | .skip, Q, Q', h, S, σ, k => h _ S σ k
 | .seq x y, Q, Q', h, S, σ, k => zc0 x (zj1 (fun S σ ⟨S', σ', k1, k2⟩ => ⟨S', σ', k1, zc0 y h _ _ k2⟩) h) S σ k
 | .cond c x y, Q, Q', h, S, σ, ⟨t, k1, k2⟩ => ⟨t, k1, by
  split
  ·rename_i ht; rw [if_pos ht] at k2; exact zc0 x h _ _ k2
  ·rename_i ht; rw [if_neg ht] at k2; exact zc0 y h _ _ k2⟩
 | .block id x, Q, Q', h, S, σ, k => zc0 x (fun e S σ hq => by
  cases e with
  | normal => exact h _ _ _ hq
  | ret => exact h _ _ _ hq
  | exit j =>
   simp only [zjj] at hq ⊢
   split
   ·rename_i hj; rw [if_pos hj] at hq; exact h _ _ _ hq
   ·rename_i hj; rw [if_neg hj] at hq; exact h _ _ _ hq) S σ k
 | .loop x, Q, Q', h, S, σ, ⟨m, k⟩ => ⟨m, zld (fun hq => zc0 x hq) h m S σ k⟩
 | .exit id, Q, Q', h, S, σ, k => h _ S σ k
 | .ret, Q, Q', h, S, σ, k => h _ S σ k
 | .region _ ops false, Q, Q', h, S, σ, k => zfb (h .normal) _ _ _ k
 | .region _ ops true, Q, Q', h, S, σ, .inl ⟨n, k1, k2, k3⟩ => .inl ⟨n, k1, k2, zhk (fun S' => zfb (h .normal) _ _ _) _ _ k3⟩
 | .region _ ops true, Q, Q', h, S, σ, .inr (.inl ⟨n, k1, k2, k3⟩) => .inr (.inl ⟨n, k1, k2, ze6 (fun S' ps => zfb (h .normal) _ _ _) _ _ _ k3⟩)
 | .region _ ops true, Q, Q', h, S, σ, .inr (.inr (.inl k)) => .inr (.inr (.inl (ze2 (h .normal) _ _ _ _ k)))
 | .region _ ops true, Q, Q', h, S, σ, .inr (.inr (.inr ⟨n, pl, k1, k2, k3, k4⟩)) => .inr (.inr (.inr ⟨n, pl, k1, k2, k3, zd0 (fun S' => zfb (h .normal) _ _ _) _ _ _ k4⟩))
 | .rangeFunc f ps asg body, Q, Q', h, S, σ, .inl ⟨xs, k1, k2, k3, k4⟩ => .inl ⟨xs, k1, k2, k3, zik (Fa := fun k => awp IT P W k asg) (Fb := fun k => awp IT P W k body) (fun k => fun hq => zc0 asg hq) (fun k => fun hq => zc0 body hq) h xs σ k4⟩
 | .rangeFunc f ps asg body, Q, Q', h, S, σ, .inr ⟨g, n, t, cs, xs, S', k1, k2, k3, k4, k5, k6, k7, k8, k9, q1, q2, q3, q4⟩ => .inr ⟨g, n, t, cs, xs, S', k1, k2, k3, k4, k5, k6, k7, k8, k9, q1, q2, q3, zik (Fa := fun k => awp IT P W k asg) (Fb := fun k => awp IT P W k body) (fun k => fun hq => zc0 asg hq) (fun k => fun hq => zc0 body hq) h xs _ q4⟩
 | .scope x, Q, Q', h, S, σ, k => zc0 x h S σ k
 | .label _, Q, Q', h, S, σ, k => h _ S σ k
 | .goto _, _, _, _, _, _, k => k.elim
 | .refuse _, _, _, _, _, _, k => k.elim
theorem zj {x y : Code} {Q : AQ} {S : List AV} {σ : St} (h : awp IT P W k0 x (zqg (awp IT P W k0 y Q) Q) S σ) : awp IT P W k0 (.seq x y) Q S σ :=
 zc0 x (zj1 (fun S σ k => ⟨S, σ, Wk.refl _ _ _, k⟩) fun _ _ _ k => k) S σ h
def to (n0 : Nat) (S' : List AV) (σ' : St) (Q : AQ) : AQ
 | .normal, S, σ => Wk n0 S σ S' σ'
 | e, S, σ => Q e S σ
theorem zc {id : Nat} {ops : Array Oper} {Q : AQ} {S : List AV} {σ : St} (h : zbw IT P W ops (Q .normal) ops.toList S σ) : awp IT P W k0 (.region id ops false) Q S σ := h
theorem za6 {c : Operand} {x y : Code} {Q : AQ} {S : List AV} {σ : St} (hc : zbz S c = .raw (.bool true)) (h : awp IT P W k0 x Q S σ) : awp IT P W k0 (.cond c x y) Q S σ := ⟨true, hc, h⟩
theorem zbv {c : Operand} {x y : Code} {Q : AQ} {S : List AV} {σ : St} (hc : zbz S c = .raw (.bool false)) (h : awp IT P W k0 y Q S σ) : awp IT P W k0 (.cond c x y) Q S σ := ⟨false, hc, h⟩
theorem w_label {id : Nat} {Q : AQ} {S : List AV} {σ : St} (h : Q .normal S σ) : awp IT P W k0 (.label id) Q S σ := h
theorem w_scope {x : Code} {Q : AQ} {S : List AV} {σ : St} (h : awp IT P W k0 x Q S σ) : awp IT P W k0 (.scope x) Q S σ := h
theorem zr {id : Nat} {x : Code} {Q : AQ} {S : List AV} {σ : St} (h : awp IT P W k0 x (zjj id Q) S σ) : awp IT P W k0 (.block id x) Q S σ := h
theorem zgp {ops : Array Oper} {Q : List AV → St → Prop} {o : Oper} {l : List Oper} {S S' : List AV} {σ σ' : St} {a : AV} (hg : o.guard = none) (hc : zci S o = none) (hy : zcv S o = none) (h : aop P (zbz S) σ o = some (a, σ')) (hS : z6 S o.dst a = S')
 (k : zbw IT P W ops Q l S' σ') : zbw IT P W ops Q (o :: l) S σ := by
 simp only [zbw, hg, zed, hc, hy]
 exact .inl ⟨a, σ', .inl h, by rw [hS]; exact k⟩
theorem zoc {ops : Array Oper} {Q : List AV → St → Prop} {o : Oper} {l : List Oper} {S S' : List AV} {σ : St} (a : AV) (hg : o.guard = none) (hc : zci S o = none) (hy : zcv S o = none) (h : zjl P (zbz S) o a) (hS : z6 S o.dst a = S')
 (k : zbw IT P W ops Q l S' σ) : zbw IT P W ops Q (o :: l) S σ := by
 simp only [zbw, hg, zed, hc, hy]
 exact .inl ⟨a, σ, .inr (.inl ⟨rfl, h⟩), by rw [hS]; exact k⟩
theorem w_call {ops : Array Oper} {Q : List AV → St → Prop} {o : Oper} {l : List Oper} {S S' : List AV} {σ : St} {f : FuncId} {args : List AV} {r : AV} (hp : Pure IT P f (stripL args) r) (hg : o.guard = none) (hc : zci S o = some (f, args)) (hok : zx 0 args = true) (hS : z6 S o.dst r = S')
 (k : zbw IT P W ops Q l S' σ) : zbw IT P W ops Q (o :: l) S σ := by
 simp only [zbw, hg, zed, hc]
 exact ⟨r, σ, .inr (.inl ⟨rfl, hok, hp⟩), by rw [hS]; exact k⟩
theorem zmg {c : Code} {Q : AQ} {S S' : List AV} {σ σ' : St} (hS : S = S') (hσ : σ = σ') (h : awp IT P W k0 c Q S' σ') : awp IT P W k0 c Q S σ := by subst hS hσ; exact h
theorem zga {ops : Array Oper} {Q : List AV → St → Prop} {o : Oper} {l : List Oper} {S S' : List AV} {σ σ' σ'' : St} {a : AV} (hg : o.guard = none) (hc : zci S o = none) (hy : zcv S o = none) (h : aop P (zbz S) σ o = some (a, σ')) (hS : z6 S o.dst a = S') (hσ : σ' = σ'')
 (k : zbw IT P W ops Q l S' σ'') : zbw IT P W ops Q (o :: l) S σ := by
 subst hσ
 exact zgp hg hc hy h hS k
theorem zmn {ops : Array Oper} {Q : List AV → St → Prop} {o : Oper} {l : List Oper} {S S' : List AV} {σ σ' σ'' : St} {a : AV} (hg : o.guard = none) (hc : zci S o = none) (hy : zcv S o = none) (h : zob P (zbz S) σ o = some (a, σ')) (hS : z6 S o.dst a = S') (hσ : σ' = σ'')
 (k : zbw IT P W ops Q l S' σ'') : zbw IT P W ops Q (o :: l) S σ := by
 subst hσ
 simp only [zbw, hg, zed, hc, hy]
 exact .inl ⟨a, σ', .inr (.inr (.inl h)), by rw [hS]; exact k⟩
theorem w_nil {ops : Array Oper} {Q : List AV → St → Prop} {o : Oper} {l : List Oper} {S S1 S2 : List AV} {σ : St} (n : Nat) (neg : Bool) (hg : o.guard = none) (hc : zci S o = none) (hy : zcv S o = none) (h : zqk P (zbz S) o n neg)
 (h1 : z6 S o.dst (.raw (.bool (!neg))) = S1) (h2 : z6 S o.dst (.raw (.bool neg)) = S2) (k1 : n = 0 → zbw IT P W ops Q l S1 σ) (k2 : zbw IT P W ops Q l S2 σ) : zbw IT P W ops Q (o :: l) S σ := by
 simp only [zbw, hg, zed, hc, hy]
 exact .inr ⟨n, neg, h, fun e => by rw [h1]; exact k1 e, by rw [h2]; exact k2⟩
theorem zlp {ops : Array Oper} {Q : List AV → St → Prop} {o : Oper} {l : List Oper} {S S' : List AV} {σ σ' : St} {f : FuncId} {args : List AV} {r : AV} (hp : Snd IT P f args σ r σ') (hg : o.guard = none) (hc : zci S o = some (f, args)) (ho : σ'.out = σ.out ∧ σ'.stop = σ.stop) (hS : z6 S o.dst r = S')
 (k : zbw IT P W ops Q l S' σ') : zbw IT P W ops Q (o :: l) S σ := by
 simp only [zbw, hg, zed, hc]
 exact ⟨r, σ', .inl ⟨hp, ho⟩, by rw [hS]; exact k⟩
theorem z2j {ops : Array Oper} {Q : List AV → St → Prop} {o : Oper} {l : List Oper} {S S' : List AV} {σ : St} {kb : Nat} {b : Bool} {c : Option Bool} (hg : o.guard = some (kb, b)) (hk : zc4 ops S kb = some c) (hcb : c ≠ some b) (hS : z6 S o.dst (.raw undef) = S') (k : zbw IT P W ops Q l S' σ) : zbw IT P W ops Q (o :: l) S σ := by
 simp only [zbw, hg]
 exact ⟨c, hk, by rw [if_neg hcb, hS]; exact k⟩
theorem zai {ops : Array Oper} {Q : List AV → St → Prop} {o : Oper} {l : List Oper} {S : List AV} {σ : St} {kb : Nat} {b : Bool} (hg : o.guard = some (kb, b)) (hk : zc4 ops S kb = some (some b)) (k : zbw IT P W ops Q ({ o with guard := none } :: l) S σ) : zbw IT P W ops Q (o :: l) S σ := by
 simp only [zbw, hg]
 refine ⟨some b, hk, ?_⟩
 rw [if_pos rfl]
 have e : zed IT P W { o with guard := none } S σ = zed IT P W o S σ := rfl
 simp only [zbw] at k
 rw [e] at k
 exact k
end
theorem op_load {P : Program} {ρ : Operand → AV} {σ : St} {o : Oper} {t : TypeId} {x : Operand} {a : AV} (p : AV) (ho : o.op = .load t x) (hx : ρ x = p) (ha : zti P σ t p = some a) : aop P ρ σ o = some (a, σ) := by
 simp only [aop, qop, ho, hx, ha]
theorem zf6 {x : Int} (h1 : -9223372036854775808 ≤ x) (h2 : x < 9223372036854775808) : IntKind.i64.wrap x = x := by
 simp only [IntKind.wrap, IntKind.bits, IntKind.signed]
 simp
 omega
end Go.Ab
