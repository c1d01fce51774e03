/-
  The abstract machine, run: what it says is so.
-/
import Derived.Test.YtjmhbbbpjbgmjaaZabAbM
set_option linter.unusedSimpArgs false
set_option linter.unusedVariables false
namespace Go.Ab
open Go Go.RowKit Go.Fwd

def quiet (o : Oper) : Bool :=
  match o.op with
  | .alloc _ | .box _ _ | .store _ _ _ => false
  | .call c => match c.callee with | .builtin .append => false | _ => true
  | _ => true
/-- How many operations may come in any order. -/
def findN (ops : Array Oper) (size : Nat) : Option Nat :=
  let n := (ops.toList.takeWhile quiet).length
  if chk ops size n = true then some n else (List.range n).reverse.find? fun n => chk ops size n

abbrev CallP := FuncId → List AV → Option AV
abbrev CallS := FuncId → List AV → St → Option (AV × St)
abbrev Run := Code → Nat → List AV → St → Option (AExit × List AV × St)

def evStep (P : Program) (cp : CallP) (cs : CallS) (o : Oper) (S : List AV) (σ : St) : Option (AV × St) :=
  match acall S o with
  | some (f, args) => if okTrimL 0 args = true then (match cp f (stripL args) with | some r => some (r, σ) | none => none) else (match cs f args σ with | some (r, σ') => if σ'.out = σ.out ∧ σ'.stop = σ.stop then some (r, σ') else none | none => none)
  | none => match ayield S o with
    | some _ => none
    | none => aop P (aval S) σ o
def evOps (P : Program) (cp : CallP) (cs : CallS) (ops : Array Oper) : List Oper → List AV → St → Option (List AV × St)
  | [], S, σ => some (S, σ)
  | o :: l, S, σ => match o.guard with
    | none => match evStep P cp cs o S σ with
      | some (a, σ') => evOps P cp cs ops l (aput S o.dst a) σ'
      | none => none
    | some (k, b) => match aguard ops S k with
      | some c => if c = some b then (match evStep P cp cs o S σ with
          | some (a, σ') => evOps P cp cs ops l (aput S o.dst a) σ'
          | none => none) else evOps P cp cs ops l (aput S o.dst (.raw undef)) σ
      | none => none
def evHStep (P : Program) (cp : CallP) (o : Oper) (S : List AV) (σ : St) : Option AV :=
  match acall S o with
  | some (f, args) => if okTrimL 0 args = true then cp f (stripL args) else none
  | none => qop P (aval S) σ o
def evHead (P : Program) (cp : CallP) (ops : Array Oper) (size : Nat) (σ : St) : List Oper → List AV → Option (List AV)
  | [], S => some S
  | o :: l, S => if (o.dst.all fun d => decide (d < size)) = true then (match o.guard with
    | none => match evHStep P cp o S σ with
      | some a => evHead P cp ops size σ l (aput S o.dst a)
      | none => none
    | some (k, b) => match aguard ops S k with
      | some c => if c = some b then (match evHStep P cp o S σ with
          | some a => evHead P cp ops size σ l (aput S o.dst a)
          | none => none) else evHead P cp ops size σ l (aput S o.dst (.raw undef))
      | none => none) else none
def evHeadB (P : Program) (cp : CallP) (ops : Array Oper) (size : Nat) (σ : St) : List Oper → List AV → Pend → Option (List AV × Pend)
  | [], S, ps => some (S, ps)
  | o :: l, S, ps => if (o.dst.all fun d => decide (d < size)) = true ∧ (ps.all fun p => o.dst != some p.1) = true then (match o.guard with
    | none => match evHStep P cp o S σ with
      | some a => evHeadB P cp ops size σ l (aput S o.dst a) ps
      | none => match o.op, o.dst with
        | .alloc t, some d => match zeroOf P t with
          | some z => evHeadB P cp ops size σ l (S.set d .top) (ps ++ [(d, t, z)])
          | none => none
        | _, _ => none
    | some (k, b) => match aguard ops S k with
      | some c => if c = some b then (match evHStep P cp o S σ with
          | some a => evHeadB P cp ops size σ l (aput S o.dst a) ps
          | none => none) else evHeadB P cp ops size σ l (aput S o.dst (.raw undef)) ps
      | none => none) else none
def quietB (o : Oper) : Bool := match o.op with | .alloc _ => true | _ => quiet o
def findB (ops : Array Oper) (size : Nat) : Option Nat :=
  let n := (ops.toList.takeWhile quietB).length
  if chk ops size n = true then some n else none
def evRange (Ea : List AV → St → Option (AExit × List AV × St)) (Eb : List AV → St → Option (AExit × List AV × St)) (ps : Array Tmp) (S0 : List AV) (n : Nat) : List (List AV) → St → Option (AExit × List AV × St)
  | [], σ => some (.normal, S0, σ)
  | x :: xs, σ => match Ea (aputs S0 ps x) σ with
    | some (.normal, S1, σ1) => (match Eb S1 σ1 with
      | some (e, S2, σ2) => if okSt n σ2 = true then (match e with
        | .normal => evRange Ea Eb ps S0 n xs (trimSt n σ2)
        | e => some (e, S0, trimSt n σ2)) else none
      | none => none)
    | _ => none
def ecallP (P : Program) (Ω : CallP) (E : Run) (f : FuncId) (args : List AV) : Option AV :=
  match Ω f args with
  | some r => some r
  | none => match P.funcs[f]? with
    | some fn => match fn.body with
      | some c => if (abeginS fn args).length = fn.ntmps then (match E c fn.ntmps (abeginS fn args) St.empty with
        | some (.exit _, _, _) => none
        | some (_, S, σ) => match aResults P fn σ S with
          | some a => if okTrim 0 a = true then some (strip a) else none
          | none => none
        | none => none) else none
      | none => none
    | none => none
def ecallS (P : Program) (E : Run) (f : FuncId) (args : List AV) (σ : St) : Option (AV × St) :=
  match P.funcs[f]? with
  | some fn => match fn.body with
    | some c => if (abeginS fn args).length = fn.ntmps then (match E c fn.ntmps (abeginS fn args) σ with
      | some (.exit _, _, _) => none
      | some (_, S, σ1) => match aResults P fn σ1 S with
        | some a => if okTrim σ.boxes.length a = true ∧ okSt σ.boxes.length σ1 = true then some (a, trimSt σ.boxes.length σ1) else none
        | none => none
      | none => none) else none
    | none => none
  | none => none
/-- **THE RUN.** -/
def ev (P : Program) (Ω : CallP) : Nat → Run
  | 0, _, _, _, _ => none
  | k + 1, c, sz, S, σ => match c with
    | .skip => some (.normal, S, σ)
    | .seq x y => match ev P Ω k x sz S σ with
      | some (.normal, S1, σ1) => ev P Ω k y sz S1 σ1
      | r => r
    | .cond c x y => match aval S c with
      | .raw (.bool t) => if t = true then ev P Ω k x sz S σ else ev P Ω k y sz S σ
      | _ => none
    | .block id x => match ev P Ω k x sz S σ with
      | some (.exit j, S1, σ1) => if j = id then some (.normal, S1, σ1) else some (.exit j, S1, σ1)
      | r => r
    | .exit id => some (.exit id, S, σ)
    | .label _ => some (.normal, S, σ)
    | .scope x => ev P Ω k x sz S σ
    | .ret => some (.ret, S, σ)
    | .loop x => match ev P Ω k x sz S σ with
      | some (.normal, S1, σ1) => ev P Ω k (.loop x) sz S1 σ1
      | r => r
    | .region _ ops false => match evOps P (ecallP P Ω (ev P Ω k)) (ecallS P (ev P Ω k)) ops ops.toList S σ with
      | some (S1, σ1) => some (.normal, S1, σ1)
      | none => none
    | .region _ ops true => match findN ops sz with
      | some n => if noDefer ops.toList = true then (match evHead P (ecallP P Ω (ev P Ω k)) ops sz σ (ops.toList.take n) S with
        | some S1 => match evOps P (ecallP P Ω (ev P Ω k)) (ecallS P (ev P Ω k)) ops (ops.toList.drop n) S1 σ with
          | some (S2, σ2) => some (.normal, S2, σ2)
          | none => none
        | none => none) else none
      | none => match findB ops sz with
        | some n => if noDefer ops.toList = true then (match evHeadB P (ecallP P Ω (ev P Ω k)) ops sz σ (ops.toList.take n) S [] with
          | some (S1, ps) => match evOps P (ecallP P Ω (ev P Ω k)) (ecallS P (ev P Ω k)) ops (ops.toList.drop n) (pendS σ.boxes.length ps S1) (pendσ σ ps) with
            | some (S2, σ2) => some (.normal, S2, σ2)
            | none => none
          | none => none) else none
        | none => none
    | .rangeFunc f ps asg body => match aval S f with
      | .iter xs => if (xs.all fun x => decide (x.length = ps.size)) = true ∧ noRange asg = true then evRange (ev P Ω k asg sz) (ev P Ω k body sz) ps S σ.boxes.length xs σ else none
      | _ => none
    | _ => none
end Go.Ab
set_option linter.unusedSimpArgs false
set_option linter.unusedVariables false
namespace Go.Ab
open Go Go.RowKit Go.Fwd

section
variable {P : Program} {cp : CallP} {cs : CallS}
def CpOk (P : Program) (cp : CallP) : Prop := ∀ f args r, cp f args = some r → Pure (ITP P) P f args r
def CsOk (P : Program) (cs : CallS) : Prop := ∀ f args σ r σ', cs f args σ = some (r, σ') → Snd (ITP P) P f args σ r σ'
theorem evStep_sound (hcp : CpOk P cp) (hcs : CsOk P cs) {o : Oper} {S : List AV} {σ σ' : St} {a : AV} (h : evStep P cp cs o S σ = some (a, σ')) {K : AV → St → Prop} (hK : K a σ') : astep (ITP P) P none o S σ K := by
  unfold evStep at h
  unfold astep
  split at h
  · rename_i f args hc
    rw [hc]
    simp only
    split at h
    · rename_i hok
      split at h <;> cases h
      rename_i hr
      exact ⟨a, σ, .inr (.inl ⟨rfl, hok, hcp _ _ _ hr⟩), hK⟩
    · split at h <;> try cases h
      rename_i hs
      split at h <;> cases h
      rename_i hos
      exact ⟨a, σ', .inl ⟨hcs _ _ _ _ _ hs, hos⟩, hK⟩
  · rename_i hc
    rw [hc]
    simp only
    split at h <;> try cases h
    rename_i hy
    rw [hy]
    exact .inl ⟨a, σ', .inl h, hK⟩
theorem evOps_sound (hcp : CpOk P cp) (hcs : CsOk P cs) {ops : Array Oper} : ∀ (l : List Oper) (S : List AV) (σ : St) (S' : List AV) (σ' : St), evOps P cp cs ops l S σ = some (S', σ') → S'.length = S.length ∧ ∀ Q : List AV → St → Prop, Q S' σ' → aops (ITP P) P none ops Q l S σ
  | [], S, σ, S', σ', h => by simp only [evOps, Option.some.injEq, Prod.mk.injEq] at h; obtain ⟨rfl, rfl⟩ := h; exact ⟨rfl, fun Q h => h⟩
  | o :: l, S, σ, S', σ', h => by
    simp only [evOps] at h
    simp only [aops]
    cases hg : o.guard with
    | none =>
      rw [hg] at h
      simp only at h ⊢
      split at h <;> try cases h
      rename_i a σ1 hs
      obtain ⟨h1, h2⟩ := evOps_sound hcp hcs l _ _ _ _ h
      exact ⟨by rw [h1, aput_length], fun Q hQ => evStep_sound hcp hcs hs (h2 Q hQ)⟩
    | some kb =>
      obtain ⟨k, b⟩ := kb
      rw [hg] at h
      simp only at h ⊢
      split at h <;> try cases h
      rename_i c hc
      split at h
      · rename_i e
        split at h <;> try cases h
        rename_i a σ1 hs
        obtain ⟨h1, h2⟩ := evOps_sound hcp hcs l _ _ _ _ h
        exact ⟨by rw [h1, aput_length], fun Q hQ => ⟨c, hc, by rw [if_pos e]; exact evStep_sound hcp hcs hs (h2 Q hQ)⟩⟩
      · rename_i e
        obtain ⟨h1, h2⟩ := evOps_sound hcp hcs l _ _ _ _ h
        exact ⟨by rw [h1, aput_length], fun Q hQ => ⟨c, hc, by rw [if_neg e]; exact h2 Q hQ⟩⟩
theorem evHStep_sound (hcp : CpOk P cp) {o : Oper} {S : List AV} {σ : St} {a : AV} (h : evHStep P cp o S σ = some a) {K : AV → Prop} (hK : K a) : hstep (ITP P) P o S σ K := by
  unfold evHStep at h
  unfold hstep
  split at h
  · rename_i f args hc
    rw [hc]
    simp only
    split at h <;> try cases h
    rename_i hok
    exact ⟨a, hok, hcp _ _ _ h, hK⟩
  · rename_i hc
    rw [hc]
    exact ⟨a, .inl h, hK⟩
theorem evHead_sound (hcp : CpOk P cp) {ops : Array Oper} {size : Nat} {σ : St} : ∀ (l : List Oper) (S S' : List AV), evHead P cp ops size σ l S = some S' → S.length = size → S'.length = size ∧ ∀ K : List AV → Prop, K S' → ahead (ITP P) P ops σ K l S
  | [], S, S', h, hl => by simp only [evHead, Option.some.injEq] at h; subst h; exact ⟨hl, fun K h => h⟩
  | o :: l, S, S', h, hl => by
    simp only [evHead] at h
    simp only [ahead]
    split at h <;> try cases h
    rename_i hd
    cases hg : o.guard with
    | none =>
      rw [hg] at h
      simp only at h ⊢
      split at h <;> try cases h
      rename_i a hs
      obtain ⟨h1, h2⟩ := evHead_sound hcp l _ _ h (by rw [aput_length]; exact hl)
      exact ⟨h1, fun K hK => ⟨by rw [hl]; exact hd, evHStep_sound hcp hs (h2 K hK)⟩⟩
    | some kb =>
      obtain ⟨k, b⟩ := kb
      rw [hg] at h
      simp only at h ⊢
      split at h <;> try cases h
      rename_i c hc
      split at h
      · rename_i e
        split at h <;> try cases h
        rename_i a hs
        obtain ⟨h1, h2⟩ := evHead_sound hcp l _ _ h (by rw [aput_length]; exact hl)
        exact ⟨h1, fun K hK => ⟨by rw [hl]; exact hd, c, hc, by rw [if_pos e]; exact evHStep_sound hcp hs (h2 K hK)⟩⟩
      · rename_i e
        obtain ⟨h1, h2⟩ := evHead_sound hcp l _ _ h (by rw [aput_length]; exact hl)
        exact ⟨h1, fun K hK => ⟨by rw [hl]; exact hd, c, hc, by rw [if_neg e]; exact h2 K hK⟩⟩
theorem evHeadB_sound (hcp : CpOk P cp) {ops : Array Oper} {size : Nat} {σ : St} : ∀ (l : List Oper) (S S' : List AV) (ps ps' : Pend), evHeadB P cp ops size σ l S ps = some (S', ps') → S.length = size → S'.length = size ∧ ∀ K : List AV → Pend → Prop, K S' ps' → aheadB (ITP P) P ops σ K l S ps
  | [], S, S', ps, ps', h, hl => by simp only [evHeadB, Option.some.injEq, Prod.mk.injEq] at h; obtain ⟨rfl, rfl⟩ := h; exact ⟨hl, fun K h => h⟩
  | o :: l, S, S', ps, ps', h, hl => by
    simp only [evHeadB] at h
    simp only [aheadB]
    split at h <;> try cases h
    rename_i hd
    cases hg : o.guard with
    | none =>
      rw [hg] at h
      simp only at h ⊢
      split at h
      · rename_i a hs
        obtain ⟨h1, h2⟩ := evHeadB_sound hcp l _ _ _ _ h (by rw [aput_length]; exact hl)
        exact ⟨h1, fun K hK => ⟨by rw [hl]; exact hd.1, hd.2, .inr (evHStep_sound hcp hs (h2 K hK))⟩⟩
      · split at h <;> try cases h
        rename_i t d ho hdst
        split at h <;> try cases h
        rename_i z hz
        obtain ⟨h1, h2⟩ := evHeadB_sound hcp l _ _ _ _ h (by rw [List.length_set]; exact hl)
        exact ⟨h1, fun K hK => ⟨by rw [hl]; exact hd.1, hd.2, .inl ⟨trivial, t, d, z, ho, hdst, hz, h2 K hK⟩⟩⟩
    | some kb =>
      obtain ⟨k, b⟩ := kb
      rw [hg] at h
      simp only at h ⊢
      split at h <;> try cases h
      rename_i c hc
      split at h
      · rename_i e
        split at h <;> try cases h
        rename_i a hs
        obtain ⟨h1, h2⟩ := evHeadB_sound hcp l _ _ _ _ h (by rw [aput_length]; exact hl)
        exact ⟨h1, fun K hK => ⟨by rw [hl]; exact hd.1, hd.2, .inr ⟨c, hc, by rw [if_pos e]; exact evHStep_sound hcp hs (h2 K hK)⟩⟩⟩
      · rename_i e
        obtain ⟨h1, h2⟩ := evHeadB_sound hcp l _ _ _ _ h (by rw [aput_length]; exact hl)
        exact ⟨h1, fun K hK => ⟨by rw [hl]; exact hd.1, hd.2, .inr ⟨c, hc, by rw [if_neg e]; exact h2 K hK⟩⟩⟩
theorem pendS_length : ∀ (ps : Pend) (n : Nat) (S : List AV), (pendS n ps S).length = S.length
  | [], n, S => rfl
  | p :: ps, n, S => by rw [pendS, pendS_length ps, List.length_set]
theorem aputs_length (S : List AV) (ps : Array Tmp) (x : List AV) : (aputs S ps x).length = S.length := by
  unfold aputs
  generalize ps.toList.zip x = l
  induction l generalizing S with
  | nil => rfl
  | cons p l ih => rw [List.foldl_cons, ih]; simp
theorem evRange_sound {asg body : Code} {Ea Eb : List AV → St → Option (AExit × List AV × St)} {ps : Array Tmp} {S0 : List AV} {n : Nat}
    (ha : ∀ S σ e S' σ', S.length = S0.length → Ea S σ = some (e, S', σ') → S'.length = S0.length ∧ ∀ Q : AQ, Q e S' σ' → awp (ITP P) P none asg Q S σ)
    (hb : ∀ S σ e S' σ', S.length = S0.length → Eb S σ = some (e, S', σ') → ∀ Q : AQ, Q e S' σ' → awp (ITP P) P none body Q S σ) :
    ∀ (xs : List (List AV)) (σ : St) (e : AExit) (S' : List AV) (σ' : St), evRange Ea Eb ps S0 n xs σ = some (e, S', σ') → S' = S0 ∧ ∀ Q : AQ, Q e S' σ' → arange (awp (ITP P) P none asg) (awp (ITP P) P none body) ps S0 Q n xs σ
  | [], σ, e, S', σ', h => by simp only [evRange, Option.some.injEq, Prod.mk.injEq] at h; obtain ⟨rfl, rfl, rfl⟩ := h; exact ⟨rfl, fun Q h => h⟩
  | x :: xs, σ, e, S', σ', h => by
    simp only [evRange] at h
    split at h <;> try cases h
    rename_i S1 σ1 ha1
    split at h <;> try cases h
    rename_i e2 S2 σ2 hb2
    split at h <;> try cases h
    rename_i hok2
    obtain ⟨a1, a3⟩ := ha _ _ _ _ _ (aputs_length _ _ _) ha1
    simp only [arange]
    cases e2 with
    | normal =>
      simp only at h
      obtain ⟨h1, h2⟩ := evRange_sound ha hb xs _ _ _ _ h
      exact ⟨h1, fun Q hQ => a3 _ (hb _ _ _ _ _ a1 hb2 _ ⟨hok2, h2 Q hQ⟩)⟩
    | exit id =>
      simp only [Option.some.injEq, Prod.mk.injEq] at h
      obtain ⟨rfl, rfl, rfl⟩ := h
      exact ⟨rfl, fun Q hQ => a3 _ (hb _ _ _ _ _ a1 hb2 _ ⟨hok2, hQ⟩)⟩
    | ret =>
      simp only [Option.some.injEq, Prod.mk.injEq] at h
      obtain ⟨rfl, rfl, rfl⟩ := h
      exact ⟨rfl, fun Q hQ => a3 _ (hb _ _ _ _ _ a1 hb2 _ ⟨hok2, hQ⟩)⟩
end

/-- What a run rests on. -/
structure Good (P : Program) (Ω : CallP) : Prop where
  mix : P.follows .mixedOrders = true
  ent : ∀ (f : Nat) fn, P.funcs[f]? = some fn → fn.body.isSome = true → Ent P f
  oracle : CpOk P Ω
/-- What a run of code says. -/
def awpT (P : Program) : Code → AQ → List AV → St → Prop
  | .loop x, Q, S, σ => ∃ m, ∀ n0, arounds (awp (ITP P) P none x) Q n0 m S σ
  | c, Q, S, σ => awp (ITP P) P none c Q S σ
theorem awpT_awp {P : Program} {c : Code} {Q : AQ} {S : List AV} {σ : St} (h : awpT P c Q S σ) : awp (ITP P) P none c Q S σ := by
  cases c with
  | loop x => obtain ⟨m, h⟩ := h; exact ⟨m, h _⟩
  | _ => exact h
def EvOk (P : Program) (E : Run) : Prop := ∀ c sz S σ e S' σ', E c sz S σ = some (e, S', σ') → S.length = sz → S'.length = sz ∧ ∀ Q : AQ, Q e S' σ' → awpT P c Q S σ
theorem ecallP_ok {P : Program} {Ω : CallP} (hG : Good P Ω) {E : Run} (hE : EvOk P E) : CpOk P (ecallP P Ω E) := by
  intro f args r h
  unfold ecallP at h
  split at h
  · rename_i r' ho
    cases h
    exact hG.oracle _ _ _ ho
  · split at h <;> try cases h
    rename_i fn hf
    split at h <;> try cases h
    rename_i c hb
    split at h <;> try cases h
    rename_i hl
    have fin : ∀ e S σ, (e = .normal ∨ e = .ret) → E c fn.ntmps (abeginS fn args) St.empty = some (e, S, σ) → (match aResults P fn σ S with | some a => if okTrim 0 a = true then some (strip a) else none | none => none) = some r → Pure (ITP P) P f args r := fun e S σ he h1 h2 => by
      split at h2 <;> try cases h2
      rename_i a ha
      split at h2 <;> cases h2
      rename_i hok
      obtain ⟨_, h3⟩ := hE _ _ _ _ _ _ _ h1 hl
      refine pure_of hG.mix hf hb (hG.ent f fn hf (by rw [hb]; rfl)) (awpT_awp (h3 _ ?_))
      rcases he with rfl | rfl <;> exact ⟨a, ha, ends_strip hok rfl⟩
    split at h
    · cases h
    · rename_i e S σ hne he
      refine fin e S σ ?_ he h
      cases e with
      | normal => exact .inl rfl
      | ret => exact .inr rfl
      | exit id => exact absurd rfl (hne id)
    · cases h
theorem ecallS_ok {P : Program} {Ω : CallP} (hG : Good P Ω) {E : Run} (hE : EvOk P E) : CsOk P (ecallS P E) := by
  intro f args σ r σ' h
  unfold ecallS at h
  split at h <;> try cases h
  rename_i fn hf
  split at h <;> try cases h
  rename_i c hb
  split at h <;> try cases h
  rename_i hl
  have fin : ∀ e S σ1, (e = .normal ∨ e = .ret) → E c fn.ntmps (abeginS fn args) σ = some (e, S, σ1) → (match aResults P fn σ1 S with | some a => if okTrim σ.boxes.length a = true ∧ okSt σ.boxes.length σ1 = true then some (a, trimSt σ.boxes.length σ1) else none | none => none) = some (r, σ') → Snd (ITP P) P f args σ r σ' := fun e S σ1 he h1 h2 => by
    split at h2 <;> try cases h2
    rename_i a ha
    split at h2 <;> cases h2
    rename_i hok
    obtain ⟨_, h3⟩ := hE _ _ _ _ _ _ _ h1 hl
    refine snd_of hG.mix hf hb (hG.ent f fn hf (by rw [hb]; rfl)) (awpT_awp (h3 _ ?_))
    rcases he with rfl | rfl <;> exact ⟨r, ha, ends_trim hok.1 hok.2 rfl rfl⟩
  split at h
  · cases h
  · rename_i e S σ1 hne he
    refine fin e S σ1 ?_ he h
    cases e with
    | normal => exact .inl rfl
    | ret => exact .inr rfl
    | exit id => exact absurd rfl (hne id)
  · cases h
theorem findB_ok {ops : Array Oper} {size n : Nat} (h : findB ops size = some n) : chk ops size n = true := by
  unfold findB at h
  simp only at h
  split at h
  · rename_i hc; cases h; exact hc
  · cases h
theorem findN_ok {ops : Array Oper} {size n : Nat} (h : findN ops size = some n) : chk ops size n = true := by
  unfold findN at h
  simp only at h
  split at h
  · rename_i hc; cases h; exact hc
  · exact List.find?_some (p := fun n => chk ops size n) h
/-- **WHAT A RUN SAYS IS SO.** -/
theorem ev_ok {P : Program} {Ω : CallP} (hG : Good P Ω) : ∀ k, EvOk P (ev P Ω k)
  | 0 => fun c sz S σ e S' σ' h => by simp [ev] at h
  | k + 1 => by
    have ih := ev_ok hG k
    have hcp := ecallP_ok hG ih
    have hcs := ecallS_ok hG ih
    intro c sz S σ e S' σ' h hl
    cases c with
    | skip => simp only [ev, Option.some.injEq, Prod.mk.injEq] at h; obtain ⟨rfl, rfl, rfl⟩ := h; exact ⟨hl, fun Q h => h⟩
    | label id => simp only [ev, Option.some.injEq, Prod.mk.injEq] at h; obtain ⟨rfl, rfl, rfl⟩ := h; exact ⟨hl, fun Q h => h⟩
    | scope x => simp only [ev] at h; obtain ⟨l1, h1⟩ := ih _ _ _ _ _ _ _ h hl; exact ⟨l1, fun Q hQ => show awp (ITP P) P none x Q S σ from awpT_awp (h1 Q hQ)⟩
    | exit id => simp only [ev, Option.some.injEq, Prod.mk.injEq] at h; obtain ⟨rfl, rfl, rfl⟩ := h; exact ⟨hl, fun Q h => h⟩
    | ret => simp only [ev, Option.some.injEq, Prod.mk.injEq] at h; obtain ⟨rfl, rfl, rfl⟩ := h; exact ⟨hl, fun Q h => h⟩
    | seq x y =>
      simp only [ev] at h
      split at h
      · rename_i S1 σ1 hx
        obtain ⟨l1, h1⟩ := ih _ _ _ _ _ _ _ hx hl
        obtain ⟨l2, h2⟩ := ih _ _ _ _ _ _ _ h l1
        exact ⟨l2, fun Q hQ => show awp (ITP P) P none x (athen _ Q) S σ from awpT_awp (h1 _ ⟨S1, σ1, Wk.refl _ _ _, awpT_awp (h2 Q hQ)⟩)⟩
      · rename_i hne
        obtain ⟨l1, h1⟩ := ih _ _ _ _ _ _ _ h hl
        refine ⟨l1, fun Q hQ => show awp (ITP P) P none x (athen _ Q) S σ from awpT_awp (h1 _ ?_)⟩
        cases e with
        | normal => exact absurd h (hne S' σ')
        | exit id => exact hQ
        | ret => exact hQ
    | cond c x y =>
      simp only [ev] at h
      split at h <;> try cases h
      rename_i t ht
      cases t with
      | true => obtain ⟨l1, h1⟩ := ih _ _ _ _ _ _ _ h hl; exact ⟨l1, fun Q hQ => ⟨true, ht, awpT_awp (h1 Q hQ)⟩⟩
      | false => obtain ⟨l1, h1⟩ := ih _ _ _ _ _ _ _ h hl; exact ⟨l1, fun Q hQ => ⟨false, ht, awpT_awp (h1 Q hQ)⟩⟩
    | block id x =>
      simp only [ev] at h
      split at h
      · rename_i j S1 σ1 hx
        obtain ⟨l1, h1⟩ := ih _ _ _ _ _ _ _ hx hl
        split at h
        · rename_i hj
          simp only [Option.some.injEq, Prod.mk.injEq] at h; obtain ⟨rfl, rfl, rfl⟩ := h
          exact ⟨l1, fun Q hQ => show awp (ITP P) P none x (ablock id Q) S σ from awpT_awp (h1 _ (by simp only [ablock]; rw [if_pos hj]; exact hQ))⟩
        · rename_i hj
          simp only [Option.some.injEq, Prod.mk.injEq] at h; obtain ⟨rfl, rfl, rfl⟩ := h
          exact ⟨l1, fun Q hQ => show awp (ITP P) P none x (ablock id Q) S σ from awpT_awp (h1 _ (by simp only [ablock]; rw [if_neg hj]; exact hQ))⟩
      · rename_i hne
        obtain ⟨l1, h1⟩ := ih _ _ _ _ _ _ _ h hl
        refine ⟨l1, fun Q hQ => show awp (ITP P) P none x (ablock id Q) S σ from awpT_awp (h1 _ ?_)⟩
        cases e with
        | normal => exact hQ
        | exit j => exact absurd h (hne j S' σ')
        | ret => exact hQ
    | loop x =>
      simp only [ev] at h
      split at h
      · rename_i S1 σ1 hx
        obtain ⟨l1, h1⟩ := ih _ _ _ _ _ _ _ hx hl
        obtain ⟨l2, h2⟩ := ih _ _ _ _ _ _ _ h l1
        refine ⟨l2, fun Q hQ => ?_⟩
        obtain ⟨m, hm⟩ := h2 Q hQ
        exact ⟨m + 1, fun n0 => ⟨S, σ, Wk.refl _ _ _, awpT_awp (h1 _ (hm n0))⟩⟩
      · rename_i hne
        obtain ⟨l1, h1⟩ := ih _ _ _ _ _ _ _ h hl
        refine ⟨l1, fun Q hQ => ⟨1, fun n0 => ⟨S, σ, Wk.refl _ _ _, awpT_awp (h1 _ ?_)⟩⟩⟩
        cases e with
        | normal => exact absurd h (hne S' σ')
        | exit id => exact hQ
        | ret => exact hQ
    | region id ops draw =>
      cases draw with
      | false =>
        simp only [ev] at h
        split at h <;> try cases h
        rename_i ho
        obtain ⟨l1, h1⟩ := evOps_sound hcp hcs _ _ _ _ _ ho
        exact ⟨l1.trans hl, fun Q hQ => h1 _ hQ⟩
      | true =>
        simp only [ev] at h
        split at h
        · rename_i n hn
          split at h <;> try cases h
          rename_i hnd
          split at h <;> try cases h
          rename_i S1 hh
          split at h <;> try cases h
          rename_i ho
          obtain ⟨l1, h1⟩ := evHead_sound hcp _ _ _ hh hl
          obtain ⟨l2, h2⟩ := evOps_sound hcp hcs _ _ _ _ _ ho
          exact ⟨l2.trans l1, fun Q hQ => .inl ⟨n, by rw [hl]; exact findN_ok hn, hnd, h1 _ (h2 _ hQ)⟩⟩
        · split at h <;> try cases h
          rename_i n hn
          split at h <;> try cases h
          rename_i hnd
          split at h <;> try cases h
          rename_i S1 ps hh
          split at h <;> try cases h
          rename_i ho
          obtain ⟨l1, h1⟩ := evHeadB_sound hcp _ _ _ _ _ hh hl
          obtain ⟨l2, h2⟩ := evOps_sound hcp hcs _ _ _ _ _ ho
          exact ⟨l2.trans ((pendS_length _ _ _).trans l1), fun Q hQ => .inr ⟨n, by rw [hl]; exact findB_ok hn, hnd, h1 _ (h2 _ hQ)⟩⟩
    | rangeFunc f ps asg body =>
      simp only [ev] at h
      split at h <;> try (cases h; done)
      rename_i xs hf
      split at h
      rotate_left
      · cases h
      rename_i hc
      obtain ⟨h1, h2⟩ := evRange_sound (P := P) (asg := asg) (body := body) (S0 := S) (fun S1 σ1 e1 S1' σ1' hl1 h1 => by obtain ⟨k1, k2⟩ := ih _ _ _ _ _ _ _ h1 (hl1.trans hl); exact ⟨k1.trans hl.symm, fun Q hQ => awpT_awp (k2 Q hQ)⟩) (fun S1 σ1 e1 S1' σ1' hl1 h1 Q hQ => awpT_awp ((ih _ _ _ _ _ _ _ h1 (hl1.trans hl)).2 Q hQ)) xs σ e S' σ' h
      exact ⟨by rw [h1]; exact hl, fun Q hQ => ⟨xs, hf, hc.1, hc.2, h2 Q hQ⟩⟩
    | _ => simp [ev] at h
/-- A closed call, run. -/
theorem run_pure_call {P : Program} {Ω : CallP} (hG : Good P Ω) (k : Nat) {f : FuncId} {args : List AV} {r : AV} (h : ecallP P Ω (ev P Ω k) f args = some r) : Pure (ITP P) P f args r := ecallP_ok hG (ev_ok hG k) f args r h
end Go.Ab
