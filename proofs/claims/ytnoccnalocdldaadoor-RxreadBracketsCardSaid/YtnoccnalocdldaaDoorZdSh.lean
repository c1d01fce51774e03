import Derived.Test.YtnoccnalocdldaaDoorZdR
set_option linter.all false
namespace Go.Ab
open Go Go.RowKit Go.Fwd
class Enc (α:Type) where
 inh:α
 cells:α→List AV
 cellsL:List α→List AV
 sz:Nat
 pos:0<sz
 nil:cellsL []=[]
 cons: ∀a l,cellsL (a::l)=cells a++cellsL l
 len: ∀a,(cells a).length=sz
 clo: ∀a,cloL (cells a)=true
section
variable {α:Type} [Enc α]
theorem Enc.cloL: ∀l:List α,Go.Ab.cloL (Enc.cellsL l)=true
 |[]=>by rw[Enc.nil];rfl
 |a::l=>by rw[Enc.cons,zdw,Enc.clo,Enc.cloL l];rfl
theorem Enc.lenL: ∀l:List α,(Enc.cellsL l).length=l.length*Enc.sz α
 |[]=>by rw[Enc.nil];simp
 |a::l=>by rw[Enc.cons,List.length_append,Enc.len,Enc.lenL l,List.length_cons,Nat.succ_mul,Nat.add_comm]
theorem Enc.app: ∀a b:List α,Enc.cellsL (a++b)=Enc.cellsL a++Enc.cellsL b
 |[],b=>by rw[Enc.nil];rfl
 |x::a,b=>by rw[List.cons_append,Enc.cons,Enc.cons,Enc.app a b,List.append_assoc]
theorem Enc.drop: ∀(l:List α) (i:Nat),(Enc.cellsL l).drop (i*Enc.sz α)=Enc.cellsL (l.drop i)
 |l,0=>by simp
 |[],i+1=>by simp[Enc.nil]
 | t::l,i+1=>by
  rw[Enc.cons,List.drop_succ_cons,←Enc.drop l i,List.drop_append,Enc.len]
  have h:(i+1)*Enc.sz α=i*Enc.sz α+Enc.sz α:=Nat.succ_mul _ _
  have:(i+1)*Enc.sz α-Enc.sz α=i*Enc.sz α:=by omega
  rw[this,List.drop_of_length_le (by rw[Enc.len];omega),List.nil_append]
theorem Enc.take (l:List α)(i:Nat):(Enc.cellsL l).take (i*Enc.sz α)=Enc.cellsL (l.take i):=by
 rcases Nat.le_or_ge i l.length with h|h
 ·have h1:=Enc.app (l.take i) (l.drop i)
  rw[List.take_append_drop] at h1
  rw[h1,List.take_append_of_le_length (by rw[Enc.lenL,List.length_take,Nat.min_eq_left h];exact Nat.le_refl _)]
  exact List.take_of_length_le (by rw[Enc.lenL,List.length_take,Nat.min_eq_left h];exact Nat.le_refl _)
 ·rw[List.take_of_length_le h,List.take_of_length_le (by rw[Enc.lenL];exact Nat.mul_le_mul_right _ h)]
def ix (l:List α)(i:Int):α:=l.getD i.toNat Enc.inh
theorem Enc.at {l:List α} {i:Int} (h:0≤i∧i<l.length):(Enc.cellsL l).drop (i.toNat*Enc.sz α)=Enc.cells (ix l i)++Enc.cellsL (l.drop (i.toNat+1)):=by
 have hi:i.toNat<l.length:=by omega
 rw[Enc.drop,List.drop_eq_getElem_cons hi,Enc.cons]
 simp[ix,hi]
theorem Enc.ne {l:List α} {i:Int} (h:0≤i∧i<l.length):Enc.cellsL l≠[]:=by
 intro e
 have:=Enc.lenL l
 rw[e] at this
 have h1:0<l.length:=by omega
 have h2:=Nat.mul_pos h1 (Enc.pos (α:=α))
 simp only[List.length_nil] at this;omega
end
def bs (l:List UInt8):ByteArray:=⟨l.toArray⟩
instance:Enc Int:=⟨0,fun x=>[.raw (.int .i64 x)],fun l=>l.map fun x=> .raw (.int .i64 x),1,by decide,rfl,fun _ _=>rfl,fun _=>rfl,fun _=>rfl⟩
instance:Enc UInt8:=⟨0,fun x=>[.raw (.int .u8 ((x.toNat:Nat):Int))],fun l=>l.map fun x=> .raw (.int .u8 ((x.toNat:Nat):Int)),1,by decide,rfl,fun _ _=>rfl,fun _=>rfl,fun _=>rfl⟩
instance:Enc (List UInt8):=⟨[],fun x=>[.raw (.string (bs x))],fun l=>l.map fun x=> .raw (.string (bs x)),1,by decide,rfl,fun _ _=>rfl,fun _=>rfl,fun _=>rfl⟩
instance:Enc Bool:=⟨false,fun x=>[.raw (.bool x)],fun l=>l.map fun x=> .raw (.bool x),1,by decide,rfl,fun _ _=>rfl,fun _=>rfl,fun _=>rfl⟩
section
variable {α β τ ρ:Type}
def chk (p:Prop) [Decidable p] (k:Option α):Option α:=if p then k else none
theorem zp {p:Prop} [Decidable p] {k:Option α} {r:α} (h:chk p k=some r):p∧k=some r:=by
 unfold chk at h
 split at h
 ·exact⟨‹_›,h⟩
 ·cases h
theorem zem {p:Prop} [Decidable p] {k:Option α} (h:p):chk p k=k:=if_pos h
def zbi (e:α)(k:α→Option β):Option β:=k e
theorem zt {e:α} {k:α→Option β} {r:β} (h:zbi e k=some r): ∃x,e=x∧k x=some r:=⟨e,rfl,h⟩
def zar (x:Option α)(k:α→Option β):Option β:=match x with|some a=>k a|none=>none
theorem zv {x:Option α} {k:α→Option β} {r:β} (h:zar x k=some r): ∃a,x=some a∧k a=some r:=by
 cases x with
 |none=>cases h
 |some a=>exact⟨a,rfl,h⟩
@[simp] theorem bindE_some (a:α) (k:α→Option β):zar (some a) k=k a:=rfl
theorem zaa {c:Bool} {A B:Option α} {r:α} {G:Prop} (h:(bif c then A else B)=some r)(kt:c=true→A=some r→G)(kf:c=false→B=some r→G):G:=by
 cases c with
 |true=>exact kt rfl h
 |false=>exact kf rfl h
def zdr (x:Option (τ ⊕ ρ))(k:τ→Option ρ):Option ρ:=match x with|some (.inl t)=>k t|some (.inr y)=>some y|none=>none
@[simp] theorem cutE_inl (t:τ) (k:τ→Option ρ):zdr (some (.inl t)) k=k t:=rfl
@[simp] theorem cutE_inr (y:ρ) (k:τ→Option ρ):zdr (some (.inr y)) k=some y:=rfl
theorem zq {y r:ρ} {o:τ ⊕ ρ} (h:some (Sum.inr y)=some o)(hr: ∀y,o= .inr y→y=r):some y=some r:=by
 rw[hr y (Option.some.inj h).symm]
def zbo (body:β→Option (β ⊕ ρ)):Nat→β→Option ρ
 |0,_=>none
 |n+1,s=>match body s with|some (.inl s')=>zbo body n s'|some (.inr y)=>some y|none=>none
def zek (body:β→α→Option (β ⊕ ρ)):List α→β→Option (β ⊕ ρ)
 |[],s=>some (.inl s)
 |x::xs,s=>match body s x with|some (.inl s')=>zek body xs s'|some (.inr y)=>some (.inr y)|none=>none
end
section
variable {IT:IterP} {P:Program} {W:Owed} {k0:Nat}
theorem zbh {x y:Code} {Q:AQ} {S:List AV} {σ:St} {τ ρ:Type} {FX:Option (τ ⊕ ρ)} {K:τ→Option ρ} {r:ρ} (h:zdr FX K=some r)(tops:List Nat)(upd:τ→List (Nat×AV))(D:τ→St)
 (hx: ∀o,FX=some o→(∀y,o= .inr y→y=r)→awp IT P W k0 x (ztz (fun S1 σ1=> ∃t,o= .inl t∧Wk k0 S1 σ1 (zbg (zbz S tops) (upd t)) (D t)) Q) S σ)
 (hk: ∀t,K t=some r→awp IT P W k0 y Q (zbg (zbz S tops) (upd t)) (D t)):awp IT P W k0 (.seq x y) Q S σ:=by
 cases FX with
 |none=>cases h
 | some o=>
  refine .inl (zcf x ?_ _ _ (hx o rfl fun y e=>by subst e;exact Option.some.inj h))
  intro e S1 σ1 hq
  cases e with
  | normal=>
   obtain⟨t,rfl,hw⟩:=hq
   exact⟨_,_,hw,hk t h⟩
  |exit id=>exact hq
  |ret=>exact hq
theorem zg {S0:List AV} {S1:List AV} {σ1:St} {n0:Nat} {τ ρ:Type} {o:τ ⊕ ρ} {tops:List Nat} {upd:τ→List (Nat×AV)} {D:τ→St} (t:τ)(h:some (Sum.inl t)=some o)(hw:Wk n0 S1 σ1 (zbg (zbz S0 tops) (upd t)) (D t)):
 ∃t,o= .inl t∧Wk n0 S1 σ1 (zbg (zbz S0 tops) (upd t)) (D t):=⟨t,(Option.some.inj h).symm,hw⟩
def loopQ {β ρ:Type} (n0:Nat)(T:β→List AV)(D:β→St)(p:β ⊕ ρ)(o:ρ)(Q:AQ):AQ
 | .normal,S,σ=> ∃s,p= .inl s∧Wk n0 S σ (T s) (D s)
 |e,S,σ=>(∃y,p= .inr y∧(some y=some o→Q e S σ))∨Q e S σ
theorem zcx {x:Code} {Q:AQ} {S:List AV} {σ:St} {β ρ:Type} {body:β→Option (β ⊕ ρ)} {n:Nat} {s0:β} {o:ρ} (h:zbo body n s0=some o)(tops:List Nat)(upd:β→List (Nat×AV))(D:β→St)
 (h0:Wk k0 S σ (zbg (zbz S tops) (upd s0)) (D s0))
 (hs: ∀s p,body s=some p→awp IT P W k0 x (loopQ k0 (fun s=>zbg (zbz S tops) (upd s)) D p o Q) (zbg (zbz S tops) (upd s)) (D s)):awp IT P W k0 (.loop x) Q S σ:=by
 have key: ∀(n:Nat) (s0:β) S1 σ1,zbo body n s0=some o→Wk k0 S1 σ1 (zbg (zbz S tops) (upd s0)) (D s0)→zpo (awp IT P W k0 x) Q k0 n S1 σ1:=by
  intro n
  induction n with
  |zero=>intro s0 S1 σ1 h;cases h
  | succ n ih=>
   intro s0 S1 σ1 h hw
   rw[zbo] at h
   cases hb:body s0 with
   |none=>rw[hb] at h;cases h
   | some p=>
    rw[hb] at h
    refine⟨_,_,hw,zcf x ?_ _ _ (hs s0 p hb)⟩
    intro e S2 σ2 hq
    cases e with
    | normal=>
     obtain⟨s,rfl,hw2⟩:=hq
     exact ih s S2 σ2 h hw2
    | exit id=>
     rcases hq with⟨y,rfl,hq⟩|hq
     ·exact hq h
     ·exact hq
    | ret=>
     rcases hq with⟨y,rfl,hq⟩|hq
     ·exact hq h
     ·exact hq
 exact⟨n,key n s0 S σ h h0⟩
theorem zbs {S0 S1:List AV} {σ1:St} {n0:Nat} {β ρ:Type} {p:β ⊕ ρ} {tops:List Nat} {upd:β→List (Nat×AV)} {D:β→St} (s:β)(h:some (Sum.inl s)=some p)(hw:Wk n0 S1 σ1 (zbg (zbz S0 tops) (upd s)) (D s)):
 ∃s,p= .inl s∧Wk n0 S1 σ1 (zbg (zbz S0 tops) (upd s)) (D s):=⟨s,(Option.some.inj h).symm,hw⟩
theorem zaj {β ρ:Type} {p:β ⊕ ρ} {o y:ρ} {G H:Prop} (h:some (Sum.inr y)=some p)(k:some y=some o→G):(∃y,p= .inr y∧(some y=some o→G))∨H:= .inl ⟨y,(Option.some.inj h).symm,k⟩
def z6c {β ρ:Type} (S0:List AV)(n0:Nat)(D:β→St)(p:β ⊕ ρ)(r:ρ)(Q:AQ):AQ
 | .normal,_,σ=> ∃s,p= .inl s∧zwb n0 σ=true∧zes n0 σ=D s
 |e,_,σ=>(∃y,p= .inr y∧(some y=some r→zwb n0 σ=true∧Q e S0 (zes n0 σ)))∨(zwb n0 σ=true∧Q e S0 (zes n0 σ))
theorem z1l {ps:Array Tmp} {asg body:Code} {Q:AQ} {S:List AV} {α β ρ:Type} {FB:β→α→Option (β ⊕ ρ)} {K:β→Option ρ} {r:ρ} {n0:Nat} (row:α→List AV)(D:β→St)
 (hs: ∀s x p,FB s x=some p→awp IT P W n0 asg (zzl (fun S1 σ1=>awp IT P W σ1.boxes.length body (z6c S n0 D p r Q) S1 σ1)) (zlh S ps (row x)) (D s))
 (he: ∀s,K s=some r→Q .normal S (D s)): ∀(xs:List α) (s0:β),zdr (zek FB xs s0) K=some r→zev (fun k=>awp IT P W k asg) (fun k=>awp IT P W k body) ps S Q n0 (xs.map row) (D s0):=by
 intro xs
 induction xs with
 |nil=>intro s0 h;exact he s0 h
 | cons x xs ih=>
  intro s0 h
  rw[zek] at h
  cases hb:FB s0 x with
  |none=>rw[hb] at h;cases h
  | some p=>
   rw[hb] at h
   simp only[List.map_cons,zev]
   refine zcf asg ?_ _ _ (hs s0 x p hb)
   intro e S1 σ1 hq
   cases e with
   | normal=>
    refine zcf body ?_ _ _ hq
    intro e2 S2 σ2 hq2
    cases e2 with
    |normal=>obtain⟨s,rfl,q1,q2⟩:=hq2;exact⟨q1,by rw[q2];exact ih s h⟩
    |exit id=>
    rcases hq2 with⟨y,rfl,hq2⟩|hq2
    ·exact hq2 h
    ·exact hq2
    |ret=>
    rcases hq2 with⟨y,rfl,hq2⟩|hq2
    ·exact hq2 h
    ·exact hq2
   |exit id=>exact hq.elim
   |ret=>exact hq.elim
theorem zlt {f:Operand} {ps:Array Tmp} {asg body:Code} {Q:AQ} {S:List AV} {σ:St} {α β ρ:Type} {FB:β→α→Option (β ⊕ ρ)} {xs:List α} {s0:β} {K:β→Option ρ} {r:ρ} (h:zdr (zek FB xs s0) K=some r)(row:α→List AV)(D:β→St)
 (hf:zcc S f= .iter (xs.map row)) (hl: ∀x,(row x).length=ps.size) (hna:zcn asg=true) (h0:σ=D s0)
 (hs: ∀s x p,FB s x=some p→awp IT P W σ.boxes.length asg (zzl (fun S1 σ1=>awp IT P W σ1.boxes.length body (z6c S σ.boxes.length D p r Q) S1 σ1)) (zlh S ps (row x)) (D s))
 (he: ∀s,K s=some r→Q .normal S (D s)) (hps:Nat.ble ps.size 8=true:=by exact rfl):awp IT P W k0 (.rangeFunc f ps asg body) Q S σ:=by
 refine .inl ⟨xs.map row,hf,hps,by simp[List.all_map];intro x _;exact hl x,hna,?_⟩
 rw[h0];rw[h0] at hs;exact z1l row D hs he xs s0 h
theorem z5e {f:Operand} {ps:Array Tmp} {asg body:Code} {Q:AQ} {S S':List AV} {σ σ1:St} {α β ρ:Type} {FB:β→α→Option (β ⊕ ρ)} {xs:List α} {s0:β} {K:β→Option ρ} {r:ρ} (h:zdr (zek FB xs s0) K=some r)(row:α→List AV)(D:β→St)(js hs:List Nat)(m:Nat) {g:Nat} {caps caps0:List AV} {bs bs':List (TypeId×List AV)}
 (hW:W=none) (hit:z8h P g caps0 bs (xs.map row) bs') (hent:Ent P g) (hf:zcc S f= .clos g caps) (hcaps:zaf 0 (bwz js) caps=caps0) (hH:Hand σ js hs m bs σ1) (hfg:Fg (zaf σ.lens.length (gz hs) S) S') (hbk: ∀(i:Nat) (t:TypeId) (cs:List AV),bs[i]? =some (t,cs)→ ∃cs',bs'[i]? =some (t,cs'))
 (hl: ∀x,(row x).length=ps.size) (hna:zcn asg=true) (h0:σ1=D s0)
 (zhv: ∀s x p,FB s x=some p→awp IT P W σ.boxes.length asg (zzl (fun S1 σ1=>awp IT P W σ1.boxes.length body (z6c S' σ.boxes.length D p r (z9e Q S js hs bs' σ.boxes)) S1 σ1)) (zlh S' ps (row x)) (D s))
 (he: ∀s,K s=some r→Q .normal S (zie js hs bs' σ.boxes (D s))):awp IT P W k0 (.rangeFunc f ps asg body) Q S σ:=
 .inr (.inr ⟨g,caps,js,hs,m,bs,bs',xs.map row,S',σ1,hf,hH,hfg,hW,hna,by simp[List.all_map];intro x _;exact hl x,by rw[hcaps];exact hit,hent,hbk,by rw[h0];exact z1l row D zhv he xs s0 h⟩)
theorem zfi {σ1:St} {n0:Nat} {β ρ:Type} {p:β ⊕ ρ} {D:β→St} (s:β)(h:some (Sum.inl s)=some p)(h1:zwb n0 σ1=true)(h2:zes n0 σ1=D s): ∃s,p= .inl s∧zwb n0 σ1=true∧zes n0 σ1=D s:=⟨s,(Option.some.inj h).symm,h1,h2⟩
theorem zbw {c:Operand} {x y:Code} {Q:AQ} {S:List AV} {σ:St} {t:Bool} (ht:t=true)(hc:zcc S c= .raw (.bool t))(k:awp IT P W k0 x Q S σ):awp IT P W k0 (.cond c x y) Q S σ:=⟨true,by rw[hc,ht],by rw[if_pos rfl];exact k⟩
theorem zbv {c:Operand} {x y:Code} {Q:AQ} {S:List AV} {σ:St} {t:Bool} (ht:t=false)(hc:zcc S c= .raw (.bool t))(k:awp IT P W k0 y Q S σ):awp IT P W k0 (.cond c x y) Q S σ:=⟨false,by rw[hc,ht],by rw[if_neg (by decide)];exact k⟩
theorem zey {ops:Array Oper} {Q:List AV→St→Prop} {o:Oper} {l:List Oper} {S S':List AV} {σ:St} (a:AV) {a0:AV} (hg:o.guard=none)(hc:zdj S o=none)(hy:zdt S o=none)(h:qop P (zcc S) σ o=some a0)(ha:zcv a0=a)(hS:zy S o.dst a=S')
 (k:zcq IT P W ops Q l S' σ):zcq IT P W ops Q (o::l) S σ:=by
 simp only[zcq,hg,zfx,hc,hy]
 exact .inl ⟨a,σ,.inr (.inr (.inr (.inl ⟨a0,zbb h,ha.symm⟩))),by rw[hS];exact k⟩
end
section
variable {P:Program} {ρ:Operand→AV} {σ:St} {o:Oper}
theorem qhs {α:Type} [Enc α] {t e:TypeId} {x i:Operand} {l:List α} {st:Room} {k:IntKind} {n:Int} (hb:0≤n∧n<l.length)(ho:o.op= .indexAddr t x i)(hx:ρ x= .list l.length (Enc.cellsL l) st)(hi:ρ i= .raw (.int k n))(hu:P.underlying t=some (.slice e))(hs:zdk P e=some (Enc.sz α)):
 qop P ρ σ o=some (.iptr (Enc.cells (ix l n)++Enc.cellsL (l.drop (n.toNat+1)))):=by
 rw[q_index ho hx hi hu hs ⟨hb.1,hb.2,Enc.ne hb⟩,Enc.at hb]
end
theorem zbu {a:AV} (h:clo a=true):zcv a=a:=z0s a h
theorem zjw {n:Nat} {cs:List AV} {st:Room} (h:cloL cs=true):zcv (.list n cs st)= .list n cs .none:=by rw[zcv,zdl cs h]
theorem zps {n:Nat} {cs:List AV} (h:cloL cs=true)(h0:n=0→cs=[]):zcv (zch n cs)= .list n cs .none:=qcf h h0
theorem zh {a b:AV} {l m:List AV} (h:zcv a=b)(k:stripL l=m):stripL (a::l)=b::m:=by rw[stripL,h,k]
theorem zcl {k n:Nat} {cs:List AV} {st:Room} (h:cloL cs=true):zbp k (.list n cs st)=true:=by rw[zbp,zal k cs h]
theorem za {k:Nat} {a:AV} {l:List AV} (h:zbp k a=true)(m:zad k l=true):zad k (a::l)=true:=by rw[zad,h,m];rfl
theorem zoa {a:AV} {l:List AV} (h:clo a=true)(m:cloL l=true):cloL (a::l)=true:=by rw[cloL,h,m];rfl
theorem zab {cs:List AV} (h:cloL cs=true):clo (.agg cs)=true:=h
theorem qic {n:Nat} {cs:List AV} (h:cloL cs=true):clo (.list n cs .none)=true:=by simp[clo,h]
theorem Enc.z {α:Type} [Enc α] {l:List α}:l.length=0→Enc.cellsL l=[]:=fun h=>by rw[List.length_eq_zero_iff.1 h,Enc.nil]
theorem Enc.stripL {α:Type} [Enc α] (l:List α):Go.Ab.stripL (Enc.cellsL l)=Enc.cellsL l:=zdl _ (Enc.cloL l)
section
variable {P:Program} {ρ:Operand→AV} {σ:St} {o:Oper}
theorem zhr {α:Type} [Enc α] {l:List α} {cs:List AV} {st:Room} (h:qop P ρ σ o=some (.list l.length cs st))(hc:Enc.cellsL l=cs):qop P ρ σ o=some (.list l.length (Enc.cellsL l) st):=by rw[hc];exact h
def sub {α:Type} (l:List α)(i j:Int):List α:=(l.drop i.toNat).take (j.toNat-i.toNat)
theorem q_lenO {α:Type} [Enc α] {c:Call} {x:Operand} {t:TypeId} {l:List α} (ho:o.op= .call c)(hc:c.callee= .builtin .len)(ha:c.args.toList=[x])(hx:ρ x=zch l.length (Enc.cellsL l))(ht:c.argTypes.toList=[t]) {e:TypeId} (hu:P.underlying t=some (.slice e)):qop P ρ σ o=some (.raw (.int .i64 (l.length:Int))):=by
 have:qei P t (zch l.length (Enc.cellsL l))=some (.raw (.int .i64 (l.length:Int))):=by
  unfold zch
  split
  ·rename_i h0;simp[qei,hu,h0]
  ·simp[qei,hu]
 simp[qop,ho,hc,ha,ht,hx,this]
theorem zjr {α:Type} [Enc α] {t e:TypeId} {i:TypeInfo} {z:Value} {st:Room} {bs:List (TypeId×List AV)} {a b:List α} {by':Nat} (hb:(a.length+b.length)*by'≤140737488355328)(hu:P.underlying t=some (.slice e))(hi:P.info? e=some i)(hz:i.zero=some z)(hsz:i.size=Enc.sz α)(hzs:z.cells.size=Enc.sz α)(hby:i.bytes=by'∧0<by'):
 zfm P (zcm bs e a.length (Enc.sz α)) t (zch a.length (Enc.cellsL a)) (.list b.length (Enc.cellsL b) st)=some (zch (a++b).length (Enc.cellsL (a++b)),zcm bs e (a++b).length (Enc.sz α)):=by
 have hm:a.length+b.length≤maxLen:=by
  have h1:a.length+b.length≤(a.length+b.length)*by':=Nat.le_mul_of_pos_right _ hby.2
  have h2:140737488355328≤maxLen:=by decide
  omega
 rw[z8i hu hi hz hsz hzs Enc.pos (Enc.lenL a) (Enc.lenL b) hm (by rw[hby.1];exact hb),List.length_append,Enc.app]
end
section
variable {IT:IterP} {P:Program} {W:Owed} {k0:Nat}
theorem z4o {ops:Array Oper} {Q:List AV→St→Prop} {l:List Oper} {σ σ':St} {S S':List AV} {ps:Pend} {n:Nat} (hn:σ.boxes.length=n)(hσ:zpq σ ps=σ')(hS:zmh n ps S=S')(k:zcq IT P W ops Q l S' σ'):
 zfe IT P ops σ (fun S' ps=>zcq IT P W ops Q l (zmh σ.boxes.length ps S') (zpq σ ps)) [] S ps:=by
 show zcq IT P W ops Q l (zmh σ.boxes.length ps S) (zpq σ ps)
 rw[hn,hσ,hS];exact k
end
theorem zav {n:Nat} {b:TypeId×List AV} {l:List (TypeId×List AV)} (h:zad n b.2=true)(k:(l.all fun bx=>zad n bx.2)=true):((b::l).all fun bx=>zad n bx.2)=true:=by rw[List.all_cons,h,k];rfl
theorem zcw {n:Nat} {σ:St} (h:((σ.boxes.take n).all fun bx=>zad n bx.2)=true):zwb n σ=true:=h
theorem zdy {P:Program} {fn:Func} {S:List AV} {σ:St} {a:AV} {R:Type} {y r:R} (E:R→AV)(hr:some y=some r)(h:zba P fn σ S=some a)(hok:zbp 0 a=true)(hs:zcv a=E y):zxk P fn (E r) .ret S σ:=by
 cases hr;exact z5h h hok hs
def zmx (k:IntKind)(x y:Int):Int:=k.wrap ((BitVec.ofInt k.bits x&&&BitVec.ofInt k.bits y).toNat:Int)
def orI (k:IntKind)(x y:Int):Int:=k.wrap ((BitVec.ofInt k.bits x|||BitVec.ofInt k.bits y).toNat:Int)
def zvz (k:IntKind)(x y:Int):Int:=k.wrap ((BitVec.ofInt k.bits x^^^BitVec.ofInt k.bits y).toNat:Int)
def zge (k:IntKind)(x y:Int):Int:=x.fdiv (2^min y.toNat k.bits)
def zkd (k:IntKind)(x y:Int):Int:=k.wrap (x*2^min y.toNat k.bits)
section
variable {P:Program} {ρ:Operand→AV} {σ:St} {o:Oper}
theorem qii {x y:Operand} {t:TypeId} {c} {k k':IntKind} {m n:Int} (g:0≤n)(ho:o.op= .binOp .shr t x y c)(hx:ρ x= .raw (.int k m))(hy:ρ y= .raw (.int k' n)):qop P ρ σ o=some (.raw (.int k (zge k m n))):=by
 have h: ¬n<0:=by omega
 simp[qop,zfj,ho,Op.operands,hx,hy,zdi,execOp,zbt,eqGuard,binOp,Op.shift,h,zge]
 rfl
theorem qgr {x y:Operand} {t:TypeId} {c} {k k':IntKind} {m n:Int} (g:0≤n)(ho:o.op= .binOp .shl t x y c)(hx:ρ x= .raw (.int k m))(hy:ρ y= .raw (.int k' n)):qop P ρ σ o=some (.raw (.int k (zkd k m n))):=by
 have h: ¬n<0:=by omega
 simp[qop,zfj,ho,Op.operands,hx,hy,zdi,execOp,zbt,eqGuard,binOp,Op.shift,h,zkd]
 rfl
theorem zko {t e:TypeId} {x i:Operand} {len s off sz:Nat} {k:IntKind} {n:Int} (hb:0≤n∧n<len)(ho:o.op= .indexAddr t x i)(hx:ρ x= .ptr s off)(hi:ρ i= .raw (.int k n))(hu:P.underlying t=some (.array len e))(hs:zdk P e=some sz):
 qop P ρ σ o=some (.ptr s (off+n.toNat*sz)):=by
 simp only[qop,ho,hx,hi,zhd,hu,hs,if_pos hb,z7a]
end
open Classical in
noncomputable def z8p {α:Type} (p:Prop)(k:Option α):Option α:=if p then k else none
theorem z4p {α:Type} {p:Prop} {k:Option α} {r:α} (h:z8p p k=some r):p∧k=some r:=by
 unfold z8p at h
 split at h
 ·exact⟨‹_›,h⟩
 ·cases h
theorem qdg {α:Type} {p:Prop} {k r:Option α} (h:p)(hk:k=r):z8p p k=r:=by unfold z8p;rw[if_pos h];exact hk
theorem zrd {IT:IterP} {P:Program} {W:Owed} {α:Type} {row:α→List AV} {rows:List α} {x:α} {ops:Array Oper} {Q:List AV→St→Prop} {o:Oper} {l:List Oper} {S S1 S2:List AV} {σ σ1 σ2:St} {n:Nat} {args:List AV} (hr:rows[σ.out]? =some x)(hs:stripL args=row x)(hok:zad 0 args=true)(hni:zcj args=true) {G:Gen} (hW:W=some G)(hGl:G.l=n)(hGr:G.rows=rows.map row)(hg:o.guard=none)(hc:zdj S o=none)(hy:zdt S o=some (n,args))(hst:σ.stop=false)
 (h1:zy S o.dst (.raw (.bool true))=S1) (h2:zy S o.dst (.raw (.bool false))=S2) (e1:{σ with out:=σ.out+1}=σ1) (e2:{σ with stop:=true}=σ2) (k1:zcq IT P W ops Q l S1 σ1) (k2:zcq IT P W ops Q l S2 σ2):zcq IT P W ops Q (o::l) S σ:=
 w_yield hg hc hy hW hGl hGr (by rw[List.getElem?_map,hr];rfl) hs hok hni hst (by rw[h1,e1];exact k1) (by rw[h2,e2];exact k2)
theorem qhk {v:Value} {l:List AV} (h:zcj l=true):zcj (.raw v::l)=true:=by simp[zcj,zke,h]
theorem zym (n:Nat) {P:Program} (hmix:P.follows .mixedOrders=true) {σ:St} {a:AV} {g:FuncId} {fn f:Func} {c:Code} {caps:List AV} {S:List AV} {α:Type} {row:α→List AV} {rows:List α} (hr:zba P f σ S=some a)(hm:zgb (frz σ.boxes n) a= .clos g caps)(hf:P.funcs[g]? =some fn)(hb:fn.body=some c)(he:Ent P g)
 (hcl:cloL caps=true) (hne:rows.map row≠errRows) (h: ∀G:Gen,G.rows=rows.map row→awp (ITP P) P (some G) 0 c (z7h P fn rows.length) (zat fn (.yld G.l::caps)) St.empty):zxk P f (.iter (rows.map row)) .ret S σ:=
 ⟨a,hr,z9x (caps:=caps) hmix hne (qhr n hm) hf hb he (fun G hGr=>by rw[zdl _ hcl,List.length_map];exact h G hGr) (zal 0 _ hcl)⟩
section
variable {α β τ ρ:Type}
theorem zae {p:Prop} [Decidable p] {k:Option α} {r:Option α} (h:p)(hk:k=r):chk p k=r:=by rw[zem h];exact hk
theorem zap {e:α} {k:α→Option β} {r:Option β} (h: ∀x,e=x→k x=r):zbi e k=r:=h e rfl
theorem zgp {c:Bool} {A B:α} {r:α} (h:c=true)(k:A=r):(bif c then A else B)=r:=by rw[h];exact k
theorem zfy {c:Bool} {A B:α} {r:α} (h:c=false)(k:B=r):(bif c then A else B)=r:=by rw[h];exact k
theorem bif_i {c:Bool} {A B:α} {r:α} (kt:c=true→A=r)(kf:c=false→B=r):(bif c then A else B)=r:=by
 cases c with
 |true=>exact kt rfl
 |false=>exact kf rfl
theorem zbq {x:Option α} {k:α→Option β} {r:Option β} (a:α)(h:x=some a)(hk:k a=r):zar x k=r:=by rw[h];exact hk
theorem zca {x:Option (τ ⊕ ρ)} {k:τ→Option ρ} {r:Option ρ} (t:τ)(h:x=some (.inl t))(hk:k t=r):zdr x k=r:=by rw[h];exact hk
theorem z4u {x:Option (τ ⊕ ρ)} {k:τ→Option ρ} {r:Option ρ} (y:ρ)(h:x=some (.inr y))(hk:some y=r):zdr x k=r:=by rw[h];exact hk
theorem zku {body:β→Option (β ⊕ ρ)} {s0:β} {n:Nat} {o:ρ} (N:Nat)(f:Nat→β)(h0:s0=f 0)(hs: ∀i,i<N→body (f i)=some (.inl (f (i+1))))(he:body (f N)=some (.inr o))(hn:N<n):zbo body n s0=some o:=by
 have key: ∀k i n,i+k=N→k<n→zbo body n (f i)=some o:=by
  intro k
  induction k with
  | zero=>
   intro i n hi hn
   obtain rfl:i=N:=by omega
   match n,hn with
   |n+1,_=>rw[zbo,he]
  | succ k ih=>
   intro i n hi hn
   match n,hn with
   |n+1,_=>rw[zbo,hs i (by omega)];exact ih (i+1) n (by omega) (by omega)
 rw[h0];exact key N 0 n (by omega) hn
theorem loopC_i {τ:Type} {body:β→Option (β ⊕ (τ ⊕ ρ))} {K:τ→Option ρ} {n:Nat} (N:Nat)(T:Nat→β)(R:Nat→Option ρ)(hn:N<n)(hs: ∀i,i≤N→(i<N∧body (T i)=some (.inl (T (i+1)))∧R i=R (i+1))∨(∃y,body (T i)=some (.inr y)∧zdr (some y) K=R i)):zdr (zbo body n (T 0)) K=R 0:=by
 have key: ∀k i n,i+k=N→k<n→zdr (zbo body n (T i)) K=R i:=by
  intro k
  induction k with
  | zero=>
   intro i n hi hn
   obtain rfl:i=N:=by omega
   match n,hn with
   | n+1,_=>
    rcases hs i (Nat.le_refl _) with⟨h,_⟩|⟨y,h1,h2⟩
    ·omega
    ·rw[zbo,h1];exact h2
  | succ k ih=>
   intro i n hi hn
   match n,hn with
   | n+1,_=>
    rcases hs i (by omega) with⟨_,h1,h2⟩|⟨y,h1,h2⟩
    ·rw[zbo,h1,h2];exact ih (i+1) n (by omega) (by omega)
    ·rw[zbo,h1];exact h2
 exact key N 0 n (by omega) hn
end
end Go.Ab
