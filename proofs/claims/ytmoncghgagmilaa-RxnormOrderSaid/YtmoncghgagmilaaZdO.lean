/-
  The abstract machine, run: what it says is so.
-/
import Derived.Test.YtmoncghgagmilaaZdN
set_option linter.unusedSimpArgs false
set_option linter.unusedVariables false
namespace Go.Ab
open Go Go.RowKit Go.Fwd
section
variable {P : Program} {cp : CallP} {cs : CallS}
def z8e (P : Program) (cp : CallP) : Prop := ∀ f args r, cp f args = some r → Pure (ITP P) P f args r
def CsOk (P : Program) (cs : CallS) : Prop := ∀ f args σ r σ', cs f args σ = some (r, σ') → Snd (ITP P) P f args σ r σ'
theorem zg0 (hcp : z8e P cp) (hcs : CsOk P cs) {o : Oper} {S : List AV} {σ σ' : St} {a : AV} (h : zqm P cp cs o S σ = some (a, σ')) {K : AV → St → Prop} (hK : K a σ') : zfa (ITP P) P none o S σ K := by
 unfold zqm at h
 unfold zfa
 split at h
 ·rename_i f args hc
  rw [hc]
  simp only
  split at h
  ·rename_i hok
   split at h <;> cases h
   rename_i hr
   exact ⟨a, σ, .inr (.inl ⟨rfl, hok, hcp _ _ _ hr⟩), hK⟩
  ·split at h <;> try cases h
   rename_i hs
   split at h <;> cases h
   rename_i hos
   exact ⟨a, σ', .inl ⟨hcs _ _ _ _ _ hs, hos⟩, hK⟩
 ·rename_i hc
  rw [hc]
  simp only
  split at h <;> try cases h
  rename_i hy
  rw [hy]
  split at h
  ·rename_i r hr
   cases h
   exact .inl ⟨a, σ', .inl hr, hK⟩
  ·exact .inl ⟨a, σ', .inr (.inr (.inl h)), hK⟩
theorem zeq (hcp : z8e P cp) (hcs : CsOk P cs) {ops : Array Oper} : ∀ (l : List Oper) (S : List AV) (σ : St) (S' : List AV) (σ' : St), zoy P cp cs ops l S σ = some (S', σ') → S'.length = S.length ∧ ∀ Q : List AV → St → Prop, Q S' σ' → zb6 (ITP P) P none ops Q l S σ
 | [], S, σ, S', σ', h => by simp only [zoy, Option.some.injEq, Prod.mk.injEq] at h; obtain ⟨rfl, rfl⟩ := h; exact ⟨rfl, fun Q h => h⟩
 | o :: l, S, σ, S', σ', h => by
  simp only [zoy] at h
  simp only [zb6]
  cases hg : o.guard with
  | none =>
   rw [hg] at h
   simp only at h ⊢
   split at h <;> try cases h
   rename_i a σ1 hs
   obtain ⟨h1, h2⟩ := zeq hcp hcs l _ _ _ _ h
   exact ⟨by rw [h1, zay], fun Q hQ => zg0 hcp hcs hs (h2 Q hQ)⟩
  | some kb =>
   obtain ⟨k, b⟩ := kb
   rw [hg] at h
   simp only at h ⊢
   split at h <;> try cases h
   rename_i c hc
   split at h
   ·rename_i e
    split at h <;> try cases h
    rename_i a σ1 hs
    obtain ⟨h1, h2⟩ := zeq hcp hcs l _ _ _ _ h
    exact ⟨by rw [h1, zay], fun Q hQ => ⟨c, hc, by rw [if_pos e]; exact zg0 hcp hcs hs (h2 Q hQ)⟩⟩
   ·rename_i e
    obtain ⟨h1, h2⟩ := zeq hcp hcs l _ _ _ _ h
    exact ⟨by rw [h1, zay], fun Q hQ => ⟨c, hc, by rw [if_neg e]; exact h2 Q hQ⟩⟩
theorem zf4 (hcp : z8e P cp) {o : Oper} {S : List AV} {σ : St} {a : AV} (h : zma P cp o S σ = some a) {K : AV → Prop} (hK : K a) : zgu (ITP P) P o S σ K := by
 unfold zma at h
 unfold zgu
 split at h
 ·rename_i f args hc
  rw [hc]
  simp only
  split at h <;> try cases h
  rename_i hok
  exact ⟨a, hok, hcp _ _ _ h, hK⟩
 ·rename_i hc
  rw [hc]
  exact ⟨a, .inl h, hK⟩
theorem zgz (hcp : z8e P cp) {ops : Array Oper} {size : Nat} {σ : St} : ∀ (l : List Oper) (S S' : List AV), zm3 P cp ops size σ l S = some S' → S.length = size → S'.length = size ∧ ∀ K : List AV → Prop, K S' → ahead (ITP P) P ops σ K l S
 | [], S, S', h, hl => by simp only [zm3, Option.some.injEq] at h; subst h; exact ⟨hl, fun K h => h⟩
 | o :: l, S, S', h, hl => by
  simp only [zm3] at h
  simp only [ahead]
  split at h <;> try cases h
  rename_i hd
  cases hg : o.guard with
  | none =>
   rw [hg] at h
   simp only at h ⊢
   split at h <;> try cases h
   rename_i a hs
   obtain ⟨h1, h2⟩ := zgz hcp l _ _ h (by rw [zay]; exact hl)
   exact ⟨h1, fun K hK => ⟨by rw [hl]; exact hd, .inl (zf4 hcp hs (h2 K hK))⟩⟩
  | some kb =>
   obtain ⟨k, b⟩ := kb
   rw [hg] at h
   simp only at h ⊢
   split at h <;> try cases h
   rename_i c hc
   split at h
   ·rename_i e
    split at h <;> try cases h
    rename_i a hs
    obtain ⟨h1, h2⟩ := zgz hcp l _ _ h (by rw [zay]; exact hl)
    exact ⟨h1, fun K hK => ⟨by rw [hl]; exact hd, c, hc, by rw [if_pos e]; exact .inl (zf4 hcp hs (h2 K hK))⟩⟩
   ·rename_i e
    obtain ⟨h1, h2⟩ := zgz hcp l _ _ h (by rw [zay]; exact hl)
    exact ⟨h1, fun K hK => ⟨by rw [hl]; exact hd, c, hc, by rw [if_neg e]; exact h2 K hK⟩⟩
theorem ze3 (hcp : z8e P cp) {ops : Array Oper} {size : Nat} {σ : St} : ∀ (l : List Oper) (S S' : List AV) (ps ps' : Pend), zin P cp ops size σ l S ps = some (S', ps') → S.length = size → S'.length = size ∧ ∀ K : List AV → Pend → Prop, K S' ps' → zid (ITP P) P ops σ K l S ps
 | [], S, S', ps, ps', h, hl => by simp only [zin, Option.some.injEq, Prod.mk.injEq] at h; obtain ⟨rfl, rfl⟩ := h; exact ⟨hl, fun K h => h⟩
 | o :: l, S, S', ps, ps', h, hl => by
  simp only [zin] at h
  simp only [zid]
  split at h <;> try cases h
  rename_i hd
  cases hg : o.guard with
  | none =>
   rw [hg] at h
   simp only at h ⊢
   split at h
   ·rename_i a hs
    obtain ⟨h1, h2⟩ := ze3 hcp l _ _ _ _ h (by rw [zay]; exact hl)
    exact ⟨h1, fun K hK => ⟨by rw [hl]; exact hd.1, hd.2, .inr (zf4 hcp hs (h2 K hK))⟩⟩
   ·split at h <;> try cases h
    rename_i t d ho hdst
    split at h <;> try cases h
    rename_i z hz
    obtain ⟨h1, h2⟩ := ze3 hcp l _ _ _ _ h (by rw [List.length_set]; exact hl)
    exact ⟨h1, fun K hK => ⟨by rw [hl]; exact hd.1, hd.2, .inl ⟨trivial, t, d, z, ho, hdst, hz, h2 K hK⟩⟩⟩
  | some kb =>
   obtain ⟨k, b⟩ := kb
   rw [hg] at h
   simp only at h ⊢
   split at h <;> try cases h
   rename_i c hc
   split at h
   ·rename_i e
    split at h <;> try cases h
    rename_i a hs
    obtain ⟨h1, h2⟩ := ze3 hcp l _ _ _ _ h (by rw [zay]; exact hl)
    exact ⟨h1, fun K hK => ⟨by rw [hl]; exact hd.1, hd.2, .inr ⟨c, hc, by rw [if_pos e]; exact zf4 hcp hs (h2 K hK)⟩⟩⟩
   ·rename_i e
    obtain ⟨h1, h2⟩ := ze3 hcp l _ _ _ _ h (by rw [zay]; exact hl)
    exact ⟨h1, fun K hK => ⟨by rw [hl]; exact hd.1, hd.2, .inr ⟨c, hc, by rw [if_neg e]; exact h2 K hK⟩⟩⟩
theorem zna : ∀ (ps : Pend) (n : Nat) (S : List AV), (zsx n ps S).length = S.length
 | [], n, S => rfl
 | p :: ps, n, S => by rw [zsx, zna ps, List.length_set]
theorem ztz (S : List AV) (ps : Array Tmp) (x : List AV) : (znf S ps x).length = S.length := by
 unfold znf
 generalize ps.toList.zip x = l
 induction l generalizing S with
 | nil => rfl
 | cons p l ih => rw [List.foldl_cons, ih]; simp
theorem zkj {asg body : Code} {Ea Eb : List AV → St → Option (AExit × List AV × St)} {ps : Array Tmp} {S0 : List AV} {n : Nat}
 (ha : ∀ S σ e S' σ', S.length = S0.length → Ea S σ = some (e, S', σ') → S'.length = S0.length ∧ ∀ (k : Nat) (Q : AQ), Q e S' σ' → awp (ITP P) P none k asg Q S σ)
 (hb : ∀ S σ e S' σ', S.length = S0.length → Eb S σ = some (e, S', σ') → ∀ (k : Nat) (Q : AQ), Q e S' σ' → awp (ITP P) P none k body Q S σ) :
 ∀ (xs : List (List AV)) (σ : St) (e : AExit) (S' : List AV) (σ' : St), zpt Ea Eb ps S0 n xs σ = some (e, S', σ') → S' = S0 ∧ ∀ Q : AQ, Q e S' σ' → ze9 (fun k => awp (ITP P) P none k asg) (fun k => awp (ITP P) P none k body) ps S0 Q n xs σ
 | [], σ, e, S', σ', h => by simp only [zpt, Option.some.injEq, Prod.mk.injEq] at h; obtain ⟨rfl, rfl, rfl⟩ := h; exact ⟨rfl, fun Q h => h⟩
 | x :: xs, σ, e, S', σ', h => by
  simp only [zpt] at h
  split at h <;> try cases h
  rename_i S1 σ1 ha1
  split at h <;> try cases h
  rename_i e2 S2 σ2 hb2
  split at h <;> try cases h
  rename_i hok2
  obtain ⟨a1, a3⟩ := ha _ _ _ _ _ (ztz _ _ _) ha1
  simp only [ze9]
  cases e2 with
  | normal =>
   simp only at h
   obtain ⟨h1, h2⟩ := zkj ha hb xs _ _ _ _ h
   exact ⟨h1, fun Q hQ => a3 _ _ (hb _ _ _ _ _ a1 hb2 _ _ ⟨hok2, h2 Q hQ⟩)⟩
  | exit id =>
   simp only [Option.some.injEq, Prod.mk.injEq] at h
   obtain ⟨rfl, rfl, rfl⟩ := h
   exact ⟨rfl, fun Q hQ => a3 _ _ (hb _ _ _ _ _ a1 hb2 _ _ ⟨hok2, hQ⟩)⟩
  | ret =>
   simp only [Option.some.injEq, Prod.mk.injEq] at h
   obtain ⟨rfl, rfl, rfl⟩ := h
   exact ⟨rfl, fun Q hQ => a3 _ _ (hb _ _ _ _ _ a1 hb2 _ _ ⟨hok2, hQ⟩)⟩
end
structure Good (P : Program) (Ω : CallP) (Ψ : CallS) : Prop where
 mix : P.follows .mixedOrders = true
 ent : ∀ (f : Nat) fn, P.funcs[f]? = some fn → fn.body.isSome = true → Ent P f
 oracle : z8e P Ω
 oracleS : CsOk P Ψ
def awpT (P : Program) (c : Code) (Q : AQ) (S : List AV) (σ : St) : Prop := ∀ k, awp (ITP P) P none k c Q S σ
theorem zdl {P : Program} {c : Code} {Q : AQ} {S : List AV} {σ : St} {k : Nat} (h : awpT P c Q S σ) : awp (ITP P) P none k c Q S σ := h k
def EvOk (P : Program) (E : Run) : Prop := ∀ c sz S σ e S' σ', E c sz S σ = some (e, S', σ') → S.length = sz → S'.length = sz ∧ ∀ Q : AQ, Q e S' σ' → awpT P c Q S σ
theorem zuh {P : Program} {Ω : CallP} {Ψ : CallS} (hG : Good P Ω Ψ) {E : Run} (hE : EvOk P E) : z8e P (zjs P Ω E) := by
 intro f args r h
 unfold zjs at h
 split at h
 ·rename_i r' ho
  cases h
  exact hG.oracle _ _ _ ho
 ·split at h <;> try cases h
  rename_i fn hf
  split at h <;> try cases h
  rename_i c hb
  split at h <;> try cases h
  rename_i hl
  have fin : ∀ e S σ, (e = .normal ∨ e = .ret) → E c fn.ntmps (zbq fn args) St.empty = some (e, S, σ) → (match zbl P fn σ S with | some a => if za5 0 a = true then some (zb7 a) else none | none => none) = some r → Pure (ITP P) P f args r := fun e S σ he h1 h2 => by
   split at h2 <;> try cases h2
   rename_i a ha
   split at h2 <;> cases h2
   rename_i hok
   obtain ⟨_, h3⟩ := hE _ _ _ _ _ _ _ h1 hl
   refine zh5 hG.mix hf hb (hG.ent f fn hf (by rw [hb]; rfl)) (zdl (h3 _ ?_))
   rcases he with rfl | rfl <;> exact ⟨a, ha, zqe hok rfl⟩
  split at h
  ·cases h
  ·rename_i e S σ hne he
   refine fin e S σ ?_ he h
   cases e with
   | normal => exact .inl rfl
   | ret => exact .inr rfl
   | exit id => exact absurd rfl (hne id)
  ·cases h
theorem z4j {P : Program} {Ω : CallP} {Ψ : CallS} (hG : Good P Ω Ψ) {E : Run} (hE : EvOk P E) : CsOk P (zou P Ψ E) := by
 intro f args σ r σ' h
 unfold zou at h
 split at h
 ·rename_i r0 hr0
  cases h
  exact hG.oracleS _ _ _ _ _ hr0
 split at h <;> try cases h
 rename_i fn hf
 split at h <;> try cases h
 rename_i c hb
 split at h <;> try cases h
 rename_i hl
 have fin : ∀ e S σ1, (e = .normal ∨ e = .ret) → E c fn.ntmps (zbq fn args) σ = some (e, S, σ1) → (match zbl P fn σ1 S with | some a => if za5 σ.boxes.length a = true ∧ ztk σ.boxes.length σ1 = true then some (a, zei σ.boxes.length σ1) else none | none => none) = some (r, σ') → Snd (ITP P) P f args σ r σ' := fun e S σ1 he h1 h2 => by
  split at h2 <;> try cases h2
  rename_i a ha
  split at h2 <;> cases h2
  rename_i hok
  obtain ⟨_, h3⟩ := hE _ _ _ _ _ _ _ h1 hl
  refine zy9 hG.mix hf hb (hG.ent f fn hf (by rw [hb]; rfl)) (zdl (h3 _ ?_))
  rcases he with rfl | rfl <;> exact ⟨r, ha, zuw hok.1 hok.2 rfl rfl⟩
 split at h
 ·cases h
 ·rename_i e S σ1 hne he
  refine fin e S σ1 ?_ he h
  cases e with
  | normal => exact .inl rfl
  | ret => exact .inr rfl
  | exit id => exact absurd rfl (hne id)
 ·cases h
theorem z5r {ops : Array Oper} {size n : Nat} (h : findB ops size = some n) : chk ops size n = true := by
 unfold findB at h
 simp only at h
 split at h
 ·rename_i hc; cases h; exact hc
 ·cases h
theorem zvp {P : Program} {cp : CallP} {cs : CallS} {ops : Array Oper} {sz : Nat} {S : List AV} {σ : St} {r : List AV × St} (h : z2b P cp cs ops sz S σ = some r) :
 ∃ n, chk ops sz n = true ∧ ∃ S1, zm3 P cp ops sz σ (ops.toList.take n) S = some S1 ∧ zoy P cp cs ops (ops.toList.drop n) S1 σ = some r := by
 obtain ⟨n, _, h⟩ := List.exists_of_findSome?_eq_some h
 unfold z7n at h
 split at h <;> try cases h
 rename_i hc
 split at h <;> try cases h
 rename_i S1 hh
 exact ⟨n, hc, S1, hh, h⟩
theorem zgp {P : Program} {cp : CallP} {cs : CallS} (hcp : z8e P cp) (hcs : CsOk P cs) {ops : Array Oper} {r : List AV × St} {Q : List AV → St → Prop} (hQ : Q r.1 r.2) :
 ∀ (k : Nat) (listed : Array Bool) (S : List AV) (σ : St), zu1 P cp cs ops r k listed S σ = true → zpe (ITP P) P none ops Q k listed S σ
 | 0, listed, S, σ, h => by
  simp only [zu1, Bool.and_eq_true, List.isEmpty_iff] at h
  refine ⟨h.1.1, ?_⟩
  rw [zfl _ _ h.1.2, z24 h.2]; exact hQ
 | k + 1, listed, S, σ, h => by
  simp only [zu1, Bool.and_eq_true] at h
  refine ⟨fun he => ?_, fun i hi => ?_⟩
  ·have h1 := h.1
   rw [he] at h1
   simp only [List.isEmpty_nil, Bool.not_true, Bool.false_or, Bool.and_eq_true] at h1
   rw [zfl _ _ h1.1, z24 h1.2]; exact hQ
  ·have h2 := List.all_eq_true.1 h.2 i hi
   unfold zr8
   cases ho : ops[i]? with
   | none => rw [ho] at h2; exact zgp hcp hcs hQ k _ _ _ h2
   | some o =>
    rw [ho] at h2
    simp only at h2 ⊢
    cases hg : o.guard with
    | none =>
     rw [hg] at h2
     simp only at h2 ⊢
     split at h2
     ·rename_i a σ1 hs
      exact zg0 hcp hcs hs (zgp hcp hcs hQ k _ _ _ h2)
     ·cases h2
    | some kb =>
     obtain ⟨j, b⟩ := kb
     rw [hg] at h2
     simp only at h2 ⊢
     split at h2
     ·rename_i c hc
      refine ⟨c, hc, ?_⟩
      split at h2
      ·rename_i e
       rw [if_pos e]
       split at h2
       ·rename_i a σ1 hs
        exact zg0 hcp hcs hs (zgp hcp hcs hQ k _ _ _ h2)
       ·cases h2
      ·rename_i e
       rw [if_neg e]
       exact zgp hcp hcs hQ k _ _ _ h2
     ·cases h2
theorem ev_ok {P : Program} {Ω : CallP} {Ψ : CallS} (hG : Good P Ω Ψ) : ∀ k, EvOk P (ev P Ω Ψ k)
 | 0 => fun c sz S σ e S' σ' h => by simp [ev] at h
 | k + 1 => by
  have ih := ev_ok hG k
  have hcp := zuh hG ih
  have hcs := z4j hG ih
  intro c sz S σ e S' σ' h hl
  cases c with
  | skip => simp only [ev, Option.some.injEq, Prod.mk.injEq] at h; obtain ⟨rfl, rfl, rfl⟩ := h; exact ⟨hl, fun Q h j => h⟩
  | label id => simp only [ev, Option.some.injEq, Prod.mk.injEq] at h; obtain ⟨rfl, rfl, rfl⟩ := h; exact ⟨hl, fun Q h j => h⟩
  | scope x => simp only [ev] at h; obtain ⟨l1, h1⟩ := ih _ _ _ _ _ _ _ h hl; exact ⟨l1, fun Q hQ j => show awp (ITP P) P none j x Q S σ from zdl (h1 Q hQ)⟩
  | exit id => simp only [ev, Option.some.injEq, Prod.mk.injEq] at h; obtain ⟨rfl, rfl, rfl⟩ := h; exact ⟨hl, fun Q h j => h⟩
  | ret => simp only [ev, Option.some.injEq, Prod.mk.injEq] at h; obtain ⟨rfl, rfl, rfl⟩ := h; exact ⟨hl, fun Q h j => h⟩
  | seq x y =>
   simp only [ev] at h
   split at h
   ·rename_i S1 σ1 hx
    obtain ⟨l1, h1⟩ := ih _ _ _ _ _ _ _ hx hl
    obtain ⟨l2, h2⟩ := ih _ _ _ _ _ _ _ h l1
    exact ⟨l2, fun Q hQ j => show awp (ITP P) P none j x (zng _ Q) S σ from zdl (h1 _ ⟨S1, σ1, Wk.refl _ _ _, zdl (h2 Q hQ)⟩)⟩
   ·rename_i hne
    obtain ⟨l1, h1⟩ := ih _ _ _ _ _ _ _ h hl
    refine ⟨l1, fun Q hQ j => show awp (ITP P) P none j x (zng _ Q) S σ from zdl (h1 _ ?_)⟩
    cases e with
    | normal => exact absurd h (hne S' σ')
    | exit id => exact hQ
    | ret => exact hQ
  | cond c x y =>
   simp only [ev] at h
   split at h <;> try cases h
   rename_i t ht
   cases t with
   | true => obtain ⟨l1, h1⟩ := ih _ _ _ _ _ _ _ h hl; exact ⟨l1, fun Q hQ j => ⟨true, ht, zdl (h1 Q hQ)⟩⟩
   | false => obtain ⟨l1, h1⟩ := ih _ _ _ _ _ _ _ h hl; exact ⟨l1, fun Q hQ j => ⟨false, ht, zdl (h1 Q hQ)⟩⟩
  | block id x =>
   simp only [ev] at h
   split at h
   ·rename_i j S1 σ1 hx
    obtain ⟨l1, h1⟩ := ih _ _ _ _ _ _ _ hx hl
    split at h
    ·rename_i hj
     simp only [Option.some.injEq, Prod.mk.injEq] at h; obtain ⟨rfl, rfl, rfl⟩ := h
     exact ⟨l1, fun Q hQ j => show awp (ITP P) P none j x (zk6 id Q) S σ from zdl (h1 _ (by simp only [zk6]; rw [if_pos hj]; exact hQ))⟩
    ·rename_i hj
     simp only [Option.some.injEq, Prod.mk.injEq] at h; obtain ⟨rfl, rfl, rfl⟩ := h
     exact ⟨l1, fun Q hQ j => show awp (ITP P) P none j x (zk6 id Q) S σ from zdl (h1 _ (by simp only [zk6]; rw [if_neg hj]; exact hQ))⟩
   ·rename_i hne
    obtain ⟨l1, h1⟩ := ih _ _ _ _ _ _ _ h hl
    refine ⟨l1, fun Q hQ j => show awp (ITP P) P none j x (zk6 id Q) S σ from zdl (h1 _ ?_)⟩
    cases e with
    | normal => exact hQ
    | exit j => exact absurd h (hne j S' σ')
    | ret => exact hQ
  | loop x =>
   simp only [ev] at h
   split at h
   ·rename_i S1 σ1 hx
    obtain ⟨l1, h1⟩ := ih _ _ _ _ _ _ _ hx hl
    obtain ⟨l2, h2⟩ := ih _ _ _ _ _ _ _ h l1
    refine ⟨l2, fun Q hQ j => ?_⟩
    obtain ⟨m, hm⟩ := h2 Q hQ j
    exact ⟨m + 1, S, σ, Wk.refl _ _ _, zdl (k := j) (h1 _ hm)⟩
   ·rename_i hne
    obtain ⟨l1, h1⟩ := ih _ _ _ _ _ _ _ h hl
    refine ⟨l1, fun Q hQ j => ⟨1, S, σ, Wk.refl _ _ _, zdl (k := j) (h1 _ ?_)⟩⟩
    cases e with
    | normal => exact absurd h (hne S' σ')
    | exit id => exact hQ
    | ret => exact hQ
  | region id ops draw =>
   cases draw with
   | false =>
    simp only [ev] at h
    split at h <;> try cases h
    rename_i ho
    obtain ⟨l1, h1⟩ := zeq hcp hcs _ _ _ _ _ ho
    exact ⟨l1.trans hl, fun Q hQ j => h1 _ hQ⟩
   | true =>
    simp only [ev] at h
    split at h
    rotate_left
    ·cases h
    rename_i hnd
    split at h
    ·rename_i S2 σ2 hd
     cases h
     obtain ⟨n, hc, S1, hh, ho⟩ := zvp hd
     obtain ⟨l1, h1⟩ := zgz hcp _ _ _ hh hl
     obtain ⟨l2, h2⟩ := zeq hcp hcs _ _ _ _ _ ho
     exact ⟨l2.trans l1, fun Q hQ j => .inl ⟨n, by rw [hl]; exact hc, hnd, h1 _ (h2 _ hQ)⟩⟩
    ·split at h
     ·rename_i n hn
      split at h <;> try cases h
      rename_i S1 ps hh
      split at h <;> try cases h
      rename_i ho
      obtain ⟨l1, h1⟩ := ze3 hcp _ _ _ _ _ hh hl
      obtain ⟨l2, h2⟩ := zeq hcp hcs _ _ _ _ _ ho
      exact ⟨l2.trans ((zna _ _ _).trans l1), fun Q hQ j => .inr (.inl ⟨n, by rw [hl]; exact z5r hn, hnd, h1 _ (h2 _ hQ)⟩)⟩
     ·split at h
      rotate_left
      ·cases h
      rename_i r ho
      split at h
      rotate_left
      ·cases h
      rename_i ha
      cases h
      obtain ⟨l2, h2⟩ := zeq hcp hcs _ _ _ r.1 r.2 ho
      exact ⟨l2.trans hl, fun Q hQ j => .inr (.inr (.inl (zgp hcp hcs hQ _ _ _ _ ha)))⟩
  | rangeFunc f ps asg body =>
   simp only [ev] at h
   split at h <;> try (cases h; done)
   rename_i xs hf
   split at h
   rotate_left
   ·cases h
   rename_i hc
   obtain ⟨h1, h2⟩ := zkj (P := P) (asg := asg) (body := body) (S0 := S) (fun S1 σ1 e1 S1' σ1' hl1 h1 => by obtain ⟨k1, k2⟩ := ih _ _ _ _ _ _ _ h1 (hl1.trans hl); exact ⟨k1.trans hl.symm, fun k Q hQ => zdl (k2 Q hQ)⟩) (fun S1 σ1 e1 S1' σ1' hl1 h1 k Q hQ => zdl ((ih _ _ _ _ _ _ _ h1 (hl1.trans hl)).2 Q hQ)) xs σ e S' σ' h
   exact ⟨by rw [h1]; exact hl, fun Q hQ j => .inl ⟨xs, hf, hc.1, hc.2.1, hc.2.2, h2 Q hQ⟩⟩
  | _ => simp [ev] at h
theorem zd7 {P : Program} {Ω : CallP} {Ψ : CallS} (hG : Good P Ω Ψ) (k : Nat) {f : FuncId} {args : List AV} {r : AV} (h : zjs P Ω (ev P Ω Ψ k) f args = some r) : Pure (ITP P) P f args r := zuh hG (ev_ok hG k) f args r h
end Go.Ab
