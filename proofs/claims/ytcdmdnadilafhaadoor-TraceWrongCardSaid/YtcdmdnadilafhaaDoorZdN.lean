/-
  The abstract machine, run.
-/
import Derived.Test.YtcdmdnadilafhaaDoorZdM
set_option linter.unusedSimpArgs false
set_option linter.unusedVariables false
namespace Go.Ab
open Go Go.RowKit Go.Fwd
def quiet (o : Oper) : Bool :=
  match o.op with
  | .alloc _ | .box _ _ | .store _ _ _ => false
  | .call c => match c.callee with | .builtin .append => false | _ => true
  | _ => true
abbrev CallP := FuncId → List AV → Option AV
abbrev CallS := FuncId → List AV → St → Option (AV × St)
abbrev Run := Code → Nat → List AV → St → Option (AExit × List AV × St)
def evStep (P : Program) (cp : CallP) (cs : CallS) (o : Oper) (S : List AV) (σ : St) : Option (AV × St) :=
  match acall S o with
  | some (f, args) => if okTrimL 0 args = true then (match cp f (stripL args) with | some r => some (r, σ) | none => none) else (match cs f args σ with | some (r, σ') => if σ'.out = σ.out ∧ σ'.stop = σ.stop then some (r, σ') else none | none => none)
  | none => match ayield S o with
    | some _ => none
    | none => match aop P (aval S) σ o with
      | some r => some r
      | none => aopB P (aval S) σ o
def evOps (P : Program) (cp : CallP) (cs : CallS) (ops : Array Oper) : List Oper → List AV → St → Option (List AV × St)
  | [], S, σ => some (S, σ)
  | o :: l, S, σ => match o.guard with
    | none => match evStep P cp cs o S σ with
      | some (a, σ') => evOps P cp cs ops l (aput S o.dst a) σ'
      | none => none
    | some (k, b) => match aguard ops S k with
      | some c => if c = some b then (match evStep P cp cs o S σ with
          | some (a, σ') => evOps P cp cs ops l (aput S o.dst a) σ'
          | none => none) else evOps P cp cs ops l (aput S o.dst (.raw undef)) σ
      | none => none
def evHStep (P : Program) (cp : CallP) (o : Oper) (S : List AV) (σ : St) : Option AV :=
  match acall S o with
  | some (f, args) => if okTrimL 0 args = true then cp f (stripL args) else none
  | none => qop P (aval S) σ o
def evHead (P : Program) (cp : CallP) (ops : Array Oper) (size : Nat) (σ : St) : List Oper → List AV → Option (List AV)
  | [], S => some S
  | o :: l, S => if (o.dst.all fun d => decide (d < size)) = true then (match o.guard with
    | none => match evHStep P cp o S σ with
      | some a => evHead P cp ops size σ l (aput S o.dst a)
      | none => none
    | some (k, b) => match aguard ops S k with
      | some c => if c = some b then (match evHStep P cp o S σ with
          | some a => evHead P cp ops size σ l (aput S o.dst a)
          | none => none) else evHead P cp ops size σ l (aput S o.dst (.raw undef))
      | none => none) else none
def evHeadB (P : Program) (cp : CallP) (ops : Array Oper) (size : Nat) (σ : St) : List Oper → List AV → Pend → Option (List AV × Pend)
  | [], S, ps => some (S, ps)
  | o :: l, S, ps => if (o.dst.all fun d => decide (d < size)) = true ∧ (ps.all fun p => o.dst != some p.1) = true then (match o.guard with
    | none => match evHStep P cp o S σ with
      | some a => evHeadB P cp ops size σ l (aput S o.dst a) ps
      | none => match o.op, o.dst with
        | .alloc t, some d => match zeroOf P t with
          | some z => evHeadB P cp ops size σ l (S.set d .top) (ps ++ [(d, t, z)])
          | none => none
        | _, _ => none
    | some (k, b) => match aguard ops S k with
      | some c => if c = some b then (match evHStep P cp o S σ with
          | some a => evHeadB P cp ops size σ l (aput S o.dst a) ps
          | none => none) else evHeadB P cp ops size σ l (aput S o.dst (.raw undef)) ps
      | none => none) else none
def quietB (o : Oper) : Bool := match o.op with | .alloc _ => true | _ => quiet o
def findB (ops : Array Oper) (size : Nat) : Option Nat :=
  let n := (ops.toList.takeWhile quietB).length
  if chk ops size n = true then some n else none
def evRange (Ea : List AV → St → Option (AExit × List AV × St)) (Eb : List AV → St → Option (AExit × List AV × St)) (ps : Array Tmp) (S0 : List AV) (n : Nat) : List (List AV) → St → Option (AExit × List AV × St)
  | [], σ => some (.normal, S0, σ)
  | x :: xs, σ => match Ea (aputs S0 ps x) σ with
    | some (.normal, S1, σ1) => (match Eb S1 σ1 with
      | some (e, S2, σ2) => if okSt n σ2 = true then (match e with
        | .normal => evRange Ea Eb ps S0 n xs (trimSt n σ2)
        | e => some (e, S0, trimSt n σ2)) else none
      | none => none)
    | _ => none
def ecallP (P : Program) (Ω : CallP) (E : Run) (f : FuncId) (args : List AV) : Option AV :=
  match Ω f args with
  | some r => some r
  | none => match P.funcs[f]? with
    | some fn => match fn.body with
      | some c => if (abeginS fn args).length = fn.ntmps then (match E c fn.ntmps (abeginS fn args) St.empty with
        | some (.exit _, _, _) => none
        | some (_, S, σ) => match aResults P fn σ S with
          | some a => if okTrim 0 a = true then some (strip a) else none
          | none => none
        | none => none) else none
      | none => none
    | none => none
def ecallS (P : Program) (Ψ : CallS) (E : Run) (f : FuncId) (args : List AV) (σ : St) : Option (AV × St) :=
  match Ψ f args σ with
  | some r => some r
  | none => match P.funcs[f]? with
  | some fn => match fn.body with
    | some c => if (abeginS fn args).length = fn.ntmps then (match E c fn.ntmps (abeginS fn args) σ with
      | some (.exit _, _, _) => none
      | some (_, S, σ1) => match aResults P fn σ1 S with
        | some a => if okTrim σ.boxes.length a = true ∧ okSt σ.boxes.length σ1 = true then some (a, trimSt σ.boxes.length σ1) else none
        | none => none
      | none => none) else none
    | none => none
  | none => none
def evDraw (P : Program) (cp : CallP) (cs : CallS) (ops : Array Oper) (sz : Nat) (S : List AV) (σ : St) (n : Nat) : Option (List AV × St) :=
  if chk ops sz n = true then (match evHead P cp ops sz σ (ops.toList.take n) S with
    | some S1 => evOps P cp cs ops (ops.toList.drop n) S1 σ
    | none => none) else none
def evDraws (P : Program) (cp : CallP) (cs : CallS) (ops : Array Oper) (sz : Nat) (S : List AV) (σ : St) : Option (List AV × St) :=
  (List.range ((ops.toList.takeWhile quiet).length + 1)).reverse.findSome? (evDraw P cp cs ops sz S σ)
def evAny (P : Program) (cp : CallP) (cs : CallS) (ops : Array Oper) (r : List AV × St) : Nat → Array Bool → List AV → St → Bool
  | 0, listed, S, σ => (Region.ready .any ops listed).isEmpty && eqAVL S r.1 && eqSt σ r.2
  | k + 1, listed, S, σ => (!(Region.ready .any ops listed).isEmpty || (eqAVL S r.1 && eqSt σ r.2)) && (Region.ready .any ops listed).all fun i =>
      match ops[i]? with
      | none => evAny P cp cs ops r k (listed.setIfInBounds i true) S σ
      | some o => match o.guard with
        | none => (match evStep P cp cs o S σ with
          | some (a, σ') => evAny P cp cs ops r k (listed.setIfInBounds i true) (aput S o.dst a) σ'
          | none => false)
        | some (j, b) => (match aguard ops S j with
          | some c => if c = some b then (match evStep P cp cs o S σ with
            | some (a, σ') => evAny P cp cs ops r k (listed.setIfInBounds i true) (aput S o.dst a) σ'
            | none => false) else evAny P cp cs ops r k (listed.setIfInBounds i true) (aput S o.dst (.raw undef)) σ
          | none => false)
def ev (P : Program) (Ω : CallP) (Ψ : CallS) : Nat → Run
  | 0, _, _, _, _ => none
  | k + 1, c, sz, S, σ => match c with
    | .skip => some (.normal, S, σ)
    | .seq x y => match ev P Ω Ψ k x sz S σ with
      | some (.normal, S1, σ1) => ev P Ω Ψ k y sz S1 σ1
      | r => r
    | .cond c x y => match aval S c with
      | .raw (.bool t) => if t = true then ev P Ω Ψ k x sz S σ else ev P Ω Ψ k y sz S σ
      | _ => none
    | .block id x => match ev P Ω Ψ k x sz S σ with
      | some (.exit j, S1, σ1) => if j = id then some (.normal, S1, σ1) else some (.exit j, S1, σ1)
      | r => r
    | .exit id => some (.exit id, S, σ)
    | .label _ => some (.normal, S, σ)
    | .scope x => ev P Ω Ψ k x sz S σ
    | .ret => some (.ret, S, σ)
    | .loop x => match ev P Ω Ψ k x sz S σ with
      | some (.normal, S1, σ1) => ev P Ω Ψ k (.loop x) sz S1 σ1
      | r => r
    | .region _ ops false => match evOps P (ecallP P Ω (ev P Ω Ψ k)) (ecallS P Ψ (ev P Ω Ψ k)) ops ops.toList S σ with
      | some (S1, σ1) => some (.normal, S1, σ1)
      | none => none
    | .region _ ops true => if noDefer ops.toList = true then (match evDraws P (ecallP P Ω (ev P Ω Ψ k)) (ecallS P Ψ (ev P Ω Ψ k)) ops sz S σ with
      | some (S2, σ2) => some (.normal, S2, σ2)
      | none => match findB ops sz with
        | some n => (match evHeadB P (ecallP P Ω (ev P Ω Ψ k)) ops sz σ (ops.toList.take n) S [] with
          | some (S1, ps) => match evOps P (ecallP P Ω (ev P Ω Ψ k)) (ecallS P Ψ (ev P Ω Ψ k)) ops (ops.toList.drop n) (pendS σ.boxes.length ps S1) (pendσ σ ps) with
            | some (S2, σ2) => some (.normal, S2, σ2)
            | none => none
          | none => none)
        | none => match evOps P (ecallP P Ω (ev P Ω Ψ k)) (ecallS P Ψ (ev P Ω Ψ k)) ops ops.toList S σ with
          | some r => if evAny P (ecallP P Ω (ev P Ω Ψ k)) (ecallS P Ψ (ev P Ω Ψ k)) ops r ops.size (Array.replicate ops.size false) S σ = true then some (.normal, r.1, r.2) else none
          | none => none) else none
    | .rangeFunc f ps asg body => match aval S f with
      | .iter xs => if Nat.ble ps.size 8 = true ∧ (xs.all fun x => decide (x.length = ps.size)) = true ∧ noRange asg = true then evRange (ev P Ω Ψ k asg sz) (ev P Ω Ψ k body sz) ps S σ.boxes.length xs σ else none
      | _ => none
    | _ => none
end Go.Ab

