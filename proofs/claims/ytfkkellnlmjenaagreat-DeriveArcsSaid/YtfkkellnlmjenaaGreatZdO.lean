/-
  The abstract machine, run: what it says is so.
-/
import Derived.Test.YtfkkellnlmjenaaGreatZdM
set_option linter.unusedSimpArgs false
set_option linter.unusedVariables false
namespace Go.Ab
open Go Go.RowKit Go.Fwd
def quiet (o : Oper) : Bool :=
 match o.op with
 | .alloc _ | .box _ _ | .store _ _ _ => false
 | .call c => match c.callee with | .builtin .append => false | _ => true
 | _ => true
abbrev CallP := FuncId → List AV → Option AV
abbrev CallS := FuncId → List AV → St → Option (AV × St)
abbrev Run := Code → Nat → List AV → St → Option (AExit × List AV × St)
def zwt (P : Program) (cp : CallP) (cs : CallS) (o : Oper) (S : List AV) (σ : St) : Option (AV × St) :=
 match zeb S o with
 | some (f, args) => if zw 0 args = true then (match cp f (stripL args) with | some r => some (r, σ) | none => none) else (match cs f args σ with | some (r, σ') => if σ'.out = σ.out ∧ σ'.stop = σ.stop then some (r, σ') else none | none => none)
 | none => match zee S o with
  | some _ => none
  | none => match aop P (zej S) σ o with
   | some r => some r
   | none => zxh P (zej S) σ o
def zza (P : Program) (cp : CallP) (cs : CallS) (ops : Array Oper) : List Oper → List AV → St → Option (List AV × St)
 | [], S, σ => some (S, σ)
 | o :: l, S, σ => match o.guard with
  | none => match zwt P cp cs o S σ with
   | some (a, σ') => zza P cp cs ops l (zab S o.dst a) σ'
   | none => none
  | some (k, b) => match zgn ops S k with
   | some c => if c = some b then (match zwt P cp cs o S σ with
    | some (a, σ') => zza P cp cs ops l (zab S o.dst a) σ'
    | none => none) else zza P cp cs ops l (zab S o.dst (.raw undef)) σ
   | none => none
def zqc (P : Program) (cp : CallP) (o : Oper) (S : List AV) (σ : St) : Option AV :=
 match zeb S o with
 | some (f, args) => if zw 0 args = true then cp f (stripL args) else none
 | none => qop P (zej S) σ o
def zqf (P : Program) (cp : CallP) (ops : Array Oper) (size : Nat) (σ : St) : List Oper → List AV → Option (List AV)
 | [], S => some S
 | o :: l, S => if (o.dst.all fun d => decide (d < size)) = true then (match o.guard with
  | none => match zqc P cp o S σ with
   | some a => zqf P cp ops size σ l (zab S o.dst a)
   | none => none
  | some (k, b) => match zgn ops S k with
   | some c => if c = some b then (match zqc P cp o S σ with
    | some a => zqf P cp ops size σ l (zab S o.dst a)
    | none => none) else zqf P cp ops size σ l (zab S o.dst (.raw undef))
   | none => none) else none
def zla (P : Program) (cp : CallP) (ops : Array Oper) (size : Nat) (σ : St) : List Oper → List AV → Pend → Option (List AV × Pend)
 | [], S, ps => some (S, ps)
 | o :: l, S, ps => if (o.dst.all fun d => decide (d < size)) = true ∧ (ps.all fun p => o.dst != some p.1) = true then (match o.guard with
  | none => match zqc P cp o S σ with
   | some a => zla P cp ops size σ l (zab S o.dst a) ps
   | none => match o.op, o.dst with
    | .alloc t, some d => match zjk P t with
     | some z => zla P cp ops size σ l (S.set d .top) (ps ++ [(d, t, z)])
     | none => none
    | _, _ => none
  | some (k, b) => match zgn ops S k with
   | some c => if c = some b then (match zqc P cp o S σ with
    | some a => zla P cp ops size σ l (zab S o.dst a) ps
    | none => none) else zla P cp ops size σ l (zab S o.dst (.raw undef)) ps
   | none => none) else none
def quietB (o : Oper) : Bool := match o.op with | .alloc _ => true | _ => quiet o
def findB (ops : Array Oper) (size : Nat) : Option Nat :=
 let n := (ops.toList.takeWhile quietB).length
 if chk ops size n = true then some n else none
def zsr (Ea : List AV → St → Option (AExit × List AV × St)) (Eb : List AV → St → Option (AExit × List AV × St)) (ps : Array Tmp) (S0 : List AV) (n : Nat) : List (List AV) → St → Option (AExit × List AV × St)
 | [], σ => some (.normal, S0, σ)
 | x :: xs, σ => match Ea (znc S0 ps x) σ with
  | some (.normal, S1, σ1) => (match Eb S1 σ1 with
   | some (e, S2, σ2) => if zzx n σ2 = true then (match e with
    | .normal => zsr Ea Eb ps S0 n xs (zfl n σ2)
    | e => some (e, S0, zfl n σ2)) else none
   | none => none)
  | _ => none
def zme (P : Program) (Ω : CallP) (E : Run) (f : FuncId) (args : List AV) : Option AV :=
 match Ω f args with
 | some r => some r
 | none => match P.funcs[f]? with
  | some fn => match fn.body with
   | some c => if (zbe fn args).length = fn.ntmps then (match E c fn.ntmps (zbe fn args) St.empty with
    | some (.exit _, _, _) => none
    | some (_, S, σ) => match zbh P fn σ S with
     | some a => if zbc 0 a = true then some (zcs a) else none
     | none => none
    | none => none) else none
   | none => none
  | none => none
def ztu (P : Program) (Ψ : CallS) (E : Run) (f : FuncId) (args : List AV) (σ : St) : Option (AV × St) :=
 match Ψ f args σ with
 | some r => some r
 | none => match P.funcs[f]? with
 | some fn => match fn.body with
  | some c => if (zbe fn args).length = fn.ntmps then (match E c fn.ntmps (zbe fn args) σ with
   | some (.exit _, _, _) => none
   | some (_, S, σ1) => match zbh P fn σ1 S with
    | some a => if zbc σ.boxes.length a = true ∧ zzx σ.boxes.length σ1 = true then some (a, zfl σ.boxes.length σ1) else none
    | none => none
   | none => none) else none
  | none => none
 | none => none
def qnv (P : Program) (cp : CallP) (cs : CallS) (ops : Array Oper) (sz : Nat) (S : List AV) (σ : St) (n : Nat) : Option (List AV × St) :=
 if chk ops sz n = true then (match zqf P cp ops sz σ (ops.toList.take n) S with
  | some S1 => zza P cp cs ops (ops.toList.drop n) S1 σ
  | none => none) else none
def qfe (P : Program) (cp : CallP) (cs : CallS) (ops : Array Oper) (sz : Nat) (S : List AV) (σ : St) : Option (List AV × St) :=
 (List.range ((ops.toList.takeWhile quiet).length + 1)).reverse.findSome? (qnv P cp cs ops sz S σ)
section
variable {P : Program} {cp : CallP} {cs : CallS}
def qin (P : Program) (cp : CallP) : Prop := ∀ f args r, cp f args = some r → Pure (ITP P) P f args r
def qad (P : Program) (cs : CallS) : Prop := ∀ f args σ r σ', cs f args σ = some (r, σ') → Snd (ITP P) P f args σ r σ'
theorem zit (hcp : qin P cp) (hcs : qad P cs) {o : Oper} {S : List AV} {σ σ' : St} {a : AV} (h : zwt P cp cs o S σ = some (a, σ')) {K : AV → St → Prop} (hK : K a σ') : zgh (ITP P) P none o S σ K := by
 unfold zwt at h
 unfold zgh
 split at h
 ·rename_i f args hc
  rw [hc]
  simp only
  split at h
  ·rename_i hok
   split at h <;> cases h
   rename_i hr
   exact ⟨a, σ, .inr (.inl ⟨rfl, hok, hcp _ _ _ hr⟩), hK⟩
  ·split at h <;> try cases h
   rename_i hs
   split at h <;> cases h
   rename_i hos
   exact ⟨a, σ', .inl ⟨hcs _ _ _ _ _ hs, hos⟩, hK⟩
 ·rename_i hc
  rw [hc]
  simp only
  split at h <;> try cases h
  rename_i hy
  rw [hy]
  split at h
  ·rename_i r hr
   cases h
   exact .inl ⟨a, σ', .inl hr, hK⟩
  ·exact .inl ⟨a, σ', .inr (.inr (.inl h)), hK⟩
theorem zim (hcp : qin P cp) (hcs : qad P cs) {ops : Array Oper} : ∀ (l : List Oper) (S : List AV) (σ : St) (S' : List AV) (σ' : St), zza P cp cs ops l S σ = some (S', σ') → S'.length = S.length ∧ ∀ Q : List AV → St → Prop, Q S' σ' → zcw (ITP P) P none ops Q l S σ
 | [], S, σ, S', σ', h => by simp only [zza, Option.some.injEq, Prod.mk.injEq] at h; obtain ⟨rfl, rfl⟩ := h; exact ⟨rfl, fun Q h => h⟩
 | o :: l, S, σ, S', σ', h => by
  simp only [zza] at h
  simp only [zcw]
  cases hg : o.guard with
  | none =>
   rw [hg] at h
   simp only at h ⊢
   split at h <;> try cases h
   rename_i a σ1 hs
   obtain ⟨h1, h2⟩ := zim hcp hcs l _ _ _ _ h
   exact ⟨by rw [h1, zbg], fun Q hQ => zit hcp hcs hs (h2 Q hQ)⟩
  | some kb =>
   obtain ⟨k, b⟩ := kb
   rw [hg] at h
   simp only at h ⊢
   split at h <;> try cases h
   rename_i c hc
   split at h
   ·rename_i e
    split at h <;> try cases h
    rename_i a σ1 hs
    obtain ⟨h1, h2⟩ := zim hcp hcs l _ _ _ _ h
    exact ⟨by rw [h1, zbg], fun Q hQ => ⟨c, hc, by rw [if_pos e]; exact zit hcp hcs hs (h2 Q hQ)⟩⟩
   ·rename_i e
    obtain ⟨h1, h2⟩ := zim hcp hcs l _ _ _ _ h
    exact ⟨by rw [h1, zbg], fun Q hQ => ⟨c, hc, by rw [if_neg e]; exact h2 Q hQ⟩⟩
theorem zhu (hcp : qin P cp) {o : Oper} {S : List AV} {σ : St} {a : AV} (h : zqc P cp o S σ = some a) {K : AV → Prop} (hK : K a) : znu (ITP P) P o S σ K := by
 unfold zqc at h
 unfold znu
 split at h
 ·rename_i f args hc
  rw [hc]
  simp only
  split at h <;> try cases h
  rename_i hok
  exact ⟨a, hok, hcp _ _ _ h, hK⟩
 ·rename_i hc
  rw [hc]
  exact ⟨a, .inl h, hK⟩
theorem ziz (hcp : qin P cp) {ops : Array Oper} {size : Nat} {σ : St} : ∀ (l : List Oper) (S S' : List AV), zqf P cp ops size σ l S = some S' → S.length = size → S'.length = size ∧ ∀ K : List AV → Prop, K S' → ahead (ITP P) P ops σ K l S
 | [], S, S', h, hl => by simp only [zqf, Option.some.injEq] at h; subst h; exact ⟨hl, fun K h => h⟩
 | o :: l, S, S', h, hl => by
  simp only [zqf] at h
  simp only [ahead]
  split at h <;> try cases h
  rename_i hd
  cases hg : o.guard with
  | none =>
   rw [hg] at h
   simp only at h ⊢
   split at h <;> try cases h
   rename_i a hs
   obtain ⟨h1, h2⟩ := ziz hcp l _ _ h (by rw [zbg]; exact hl)
   exact ⟨h1, fun K hK => ⟨by rw [hl]; exact hd, .inl (zhu hcp hs (h2 K hK))⟩⟩
  | some kb =>
   obtain ⟨k, b⟩ := kb
   rw [hg] at h
   simp only at h ⊢
   split at h <;> try cases h
   rename_i c hc
   split at h
   ·rename_i e
    split at h <;> try cases h
    rename_i a hs
    obtain ⟨h1, h2⟩ := ziz hcp l _ _ h (by rw [zbg]; exact hl)
    exact ⟨h1, fun K hK => ⟨by rw [hl]; exact hd, c, hc, by rw [if_pos e]; exact .inl (zhu hcp hs (h2 K hK))⟩⟩
   ·rename_i e
    obtain ⟨h1, h2⟩ := ziz hcp l _ _ h (by rw [zbg]; exact hl)
    exact ⟨h1, fun K hK => ⟨by rw [hl]; exact hd, c, hc, by rw [if_neg e]; exact h2 K hK⟩⟩
theorem zgc (hcp : qin P cp) {ops : Array Oper} {size : Nat} {σ : St} : ∀ (l : List Oper) (S S' : List AV) (ps ps' : Pend), zla P cp ops size σ l S ps = some (S', ps') → S.length = size → S'.length = size ∧ ∀ K : List AV → Pend → Prop, K S' ps' → zkl (ITP P) P ops σ K l S ps
 | [], S, S', ps, ps', h, hl => by simp only [zla, Option.some.injEq, Prod.mk.injEq] at h; obtain ⟨rfl, rfl⟩ := h; exact ⟨hl, fun K h => h⟩
 | o :: l, S, S', ps, ps', h, hl => by
  simp only [zla] at h
  simp only [zkl]
  split at h <;> try cases h
  rename_i hd
  cases hg : o.guard with
  | none =>
   rw [hg] at h
   simp only at h ⊢
   split at h
   ·rename_i a hs
    obtain ⟨h1, h2⟩ := zgc hcp l _ _ _ _ h (by rw [zbg]; exact hl)
    exact ⟨h1, fun K hK => ⟨by rw [hl]; exact hd.1, hd.2, .inr (zhu hcp hs (h2 K hK))⟩⟩
   ·split at h <;> try cases h
    rename_i t d ho hdst
    split at h <;> try cases h
    rename_i z hz
    obtain ⟨h1, h2⟩ := zgc hcp l _ _ _ _ h (by rw [List.length_set]; exact hl)
    exact ⟨h1, fun K hK => ⟨by rw [hl]; exact hd.1, hd.2, .inl ⟨trivial, t, d, z, ho, hdst, hz, h2 K hK⟩⟩⟩
  | some kb =>
   obtain ⟨k, b⟩ := kb
   rw [hg] at h
   simp only at h ⊢
   split at h <;> try cases h
   rename_i c hc
   split at h
   ·rename_i e
    split at h <;> try cases h
    rename_i a hs
    obtain ⟨h1, h2⟩ := zgc hcp l _ _ _ _ h (by rw [zbg]; exact hl)
    exact ⟨h1, fun K hK => ⟨by rw [hl]; exact hd.1, hd.2, .inr ⟨c, hc, by rw [if_pos e]; exact zhu hcp hs (h2 K hK)⟩⟩⟩
   ·rename_i e
    obtain ⟨h1, h2⟩ := zgc hcp l _ _ _ _ h (by rw [zbg]; exact hl)
    exact ⟨h1, fun K hK => ⟨by rw [hl]; exact hd.1, hd.2, .inr ⟨c, hc, by rw [if_neg e]; exact h2 K hK⟩⟩⟩
theorem zqo : ∀ (ps : Pend) (n : Nat) (S : List AV), (zzw n ps S).length = S.length
 | [], n, S => rfl
 | p :: ps, n, S => by rw [zzw, zqo ps, List.length_set]
theorem z3p (S : List AV) (ps : Array Tmp) (x : List AV) : (znc S ps x).length = S.length := by
 unfold znc
 generalize ps.toList.zip x = l
 induction l generalizing S with
 | nil => rfl
 | cons p l ih => rw [List.foldl_cons, ih]; simp
theorem znb {asg body : Code} {Ea Eb : List AV → St → Option (AExit × List AV × St)} {ps : Array Tmp} {S0 : List AV} {n : Nat}
 (ha : ∀ S σ e S' σ', S.length = S0.length → Ea S σ = some (e, S', σ') → S'.length = S0.length ∧ ∀ (k : Nat) (Q : AQ), Q e S' σ' → awp (ITP P) P none k asg Q S σ)
 (hb : ∀ S σ e S' σ', S.length = S0.length → Eb S σ = some (e, S', σ') → ∀ (k : Nat) (Q : AQ), Q e S' σ' → awp (ITP P) P none k body Q S σ) :
 ∀ (xs : List (List AV)) (σ : St) (e : AExit) (S' : List AV) (σ' : St), zsr Ea Eb ps S0 n xs σ = some (e, S', σ') → S' = S0 ∧ ∀ Q : AQ, Q e S' σ' → zgl (fun k => awp (ITP P) P none k asg) (fun k => awp (ITP P) P none k body) ps S0 Q n xs σ
 | [], σ, e, S', σ', h => by simp only [zsr, Option.some.injEq, Prod.mk.injEq] at h; obtain ⟨rfl, rfl, rfl⟩ := h; exact ⟨rfl, fun Q h => h⟩
 | x :: xs, σ, e, S', σ', h => by
  simp only [zsr] at h
  split at h <;> try cases h
  rename_i S1 σ1 ha1
  split at h <;> try cases h
  rename_i e2 S2 σ2 hb2
  split at h <;> try cases h
  rename_i hok2
  obtain ⟨a1, a3⟩ := ha _ _ _ _ _ (z3p _ _ _) ha1
  simp only [zgl]
  cases e2 with
  | normal =>
   simp only at h
   obtain ⟨h1, h2⟩ := znb ha hb xs _ _ _ _ h
   exact ⟨h1, fun Q hQ => a3 _ _ (hb _ _ _ _ _ a1 hb2 _ _ ⟨hok2, h2 Q hQ⟩)⟩
  | exit id =>
   simp only [Option.some.injEq, Prod.mk.injEq] at h
   obtain ⟨rfl, rfl, rfl⟩ := h
   exact ⟨rfl, fun Q hQ => a3 _ _ (hb _ _ _ _ _ a1 hb2 _ _ ⟨hok2, hQ⟩)⟩
  | ret =>
   simp only [Option.some.injEq, Prod.mk.injEq] at h
   obtain ⟨rfl, rfl, rfl⟩ := h
   exact ⟨rfl, fun Q hQ => a3 _ _ (hb _ _ _ _ _ a1 hb2 _ _ ⟨hok2, hQ⟩)⟩
end
structure Good (P : Program) (Ω : CallP) (Ψ : CallS) : Prop where
 mix : P.follows .mixedOrders = true
 ent : ∀ (f : Nat) fn, P.funcs[f]? = some fn → fn.body.isSome = true → Ent P f
 oracle : qin P Ω
 oracleS : qad P Ψ
def awpT (P : Program) (c : Code) (Q : AQ) (S : List AV) (σ : St) : Prop := ∀ k, awp (ITP P) P none k c Q S σ
theorem zdw {P : Program} {c : Code} {Q : AQ} {S : List AV} {σ : St} {k : Nat} (h : awpT P c Q S σ) : awp (ITP P) P none k c Q S σ := h k
def EvOk (P : Program) (E : Run) : Prop := ∀ c sz S σ e S' σ', E c sz S σ = some (e, S', σ') → S.length = sz → S'.length = sz ∧ ∀ Q : AQ, Q e S' σ' → awpT P c Q S σ
theorem z3s {P : Program} {Ω : CallP} {Ψ : CallS} (hG : Good P Ω Ψ) {E : Run} (hE : EvOk P E) : qin P (zme P Ω E) := by
 intro f args r h
 unfold zme at h
 split at h
 ·rename_i r' ho
  cases h
  exact hG.oracle _ _ _ ho
 ·split at h <;> try cases h
  rename_i fn hf
  split at h <;> try cases h
  rename_i c hb
  split at h <;> try cases h
  rename_i hl
  have fin : ∀ e S σ, (e = .normal ∨ e = .ret) → E c fn.ntmps (zbe fn args) St.empty = some (e, S, σ) → (match zbh P fn σ S with | some a => if zbc 0 a = true then some (zcs a) else none | none => none) = some r → Pure (ITP P) P f args r := fun e S σ he h1 h2 => by
   split at h2 <;> try cases h2
   rename_i a ha
   split at h2 <;> cases h2
   rename_i hok
   obtain ⟨_, h3⟩ := hE _ _ _ _ _ _ _ h1 hl
   refine zjc hG.mix hf hb (hG.ent f fn hf (by rw [hb]; rfl)) (zdw (h3 _ ?_))
   rcases he with rfl | rfl <;> exact ⟨a, ha, zvp hok rfl⟩
  split at h
  ·cases h
  ·rename_i e S σ hne he
   refine fin e S σ ?_ he h
   cases e with
   | normal => exact .inl rfl
   | ret => exact .inr rfl
   | exit id => exact absurd rfl (hne id)
  ·cases h
theorem z3n {P : Program} {Ω : CallP} {Ψ : CallS} (hG : Good P Ω Ψ) {E : Run} (hE : EvOk P E) : qad P (ztu P Ψ E) := by
 intro f args σ r σ' h
 unfold ztu at h
 split at h
 ·rename_i r0 hr0
  cases h
  exact hG.oracleS _ _ _ _ _ hr0
 split at h <;> try cases h
 rename_i fn hf
 split at h <;> try cases h
 rename_i c hb
 split at h <;> try cases h
 rename_i hl
 have fin : ∀ e S σ1, (e = .normal ∨ e = .ret) → E c fn.ntmps (zbe fn args) σ = some (e, S, σ1) → (match zbh P fn σ1 S with | some a => if zbc σ.boxes.length a = true ∧ zzx σ.boxes.length σ1 = true then some (a, zfl σ.boxes.length σ1) else none | none => none) = some (r, σ') → Snd (ITP P) P f args σ r σ' := fun e S σ1 he h1 h2 => by
  split at h2 <;> try cases h2
  rename_i a ha
  split at h2 <;> cases h2
  rename_i hok
  obtain ⟨_, h3⟩ := hE _ _ _ _ _ _ _ h1 hl
  refine zqq hG.mix hf hb (hG.ent f fn hf (by rw [hb]; rfl)) (zdw (h3 _ ?_))
  rcases he with rfl | rfl <;> exact ⟨r, ha, z0q hok.1 hok.2 rfl rfl⟩
 split at h
 ·cases h
 ·rename_i e S σ1 hne he
  refine fin e S σ1 ?_ he h
  cases e with
  | normal => exact .inl rfl
  | ret => exact .inr rfl
  | exit id => exact absurd rfl (hne id)
 ·cases h
theorem qmf {ops : Array Oper} {size n : Nat} (h : findB ops size = some n) : chk ops size n = true := by
 unfold findB at h
 simp only at h
 split at h
 ·rename_i hc; cases h; exact hc
 ·cases h
theorem z0s {P : Program} {cp : CallP} {cs : CallS} {ops : Array Oper} {sz : Nat} {S : List AV} {σ : St} {r : List AV × St} (h : qfe P cp cs ops sz S σ = some r) :
 ∃ n, chk ops sz n = true ∧ ∃ S1, zqf P cp ops sz σ (ops.toList.take n) S = some S1 ∧ zza P cp cs ops (ops.toList.drop n) S1 σ = some r := by
 obtain ⟨n, _, h⟩ := List.exists_of_findSome?_eq_some h
 unfold qnv at h
 split at h <;> try cases h
 rename_i hc
 split at h <;> try cases h
 rename_i S1 hh
 exact ⟨n, hc, S1, hh, h⟩
end Go.Ab
