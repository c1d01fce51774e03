import Derived.Test.YtnoccnalocdldaaGreatDoorZdF
import Derived.Laws.IdiomStrings
import Derived.Lib.BufferRead
import Derived.OrdersIn
import Derived.LoopNIn
set_option linter.all false
open Bool (and_eq_true)
open Option (map_some getD_some)
open List (mem_of_getElem? getElem?_eq_getElem getElem?_append_left all_eq_true getElem?_take getElem?_map mem_map map_cons)
namespace Go.Ab
open Go Go.RowKit Go.Fwd
variable {IT:IterP} {X:Cx} {S:List AV} {P:Program} {U:St} {ρ:Operand->AV}
def zca (S:List AV):Operand->AV
 | .tmp t=>(S[t]?).getD (.raw undef)
 | .const v=>if zop v then zjf v else .raw v
 | .func f=> .clos f []
 | .global g=> .raw (.pointer (some ⟨g,0,none⟩))
def znv (IT:IterP)(X:Cx)(S:List AV)(tmps:Array Value):Prop:=zbk IT X S tmps.toList
theorem zdr {a:Act} (h:znv IT X S a.tmps)(x:Operand):Rep IT X (zca S x) (a.eval x):=by
 cases x with
 | tmp t=>
  simp only[zca,Act.eval];have hl:S.length=a.tmps.size:=by have:=zr h;simpa using this
  rcases Nat.lt_or_ge t S.length with hlt|hge
  ·obtain⟨v,hv,hr⟩:=zeq h t S[t] (by simp[hlt]);have:a.tmps[t]? =some v:=by simpa using hv
   simpa[this,hlt] using hr
  ·have h1:S[t]? =none:=List.getElem?_eq_none hge;have h2:a.tmps[t]? =none:=Array.getElem?_eq_none (by omega);simp[h1,h2,Rep]
 | const v=>
  simp only[zca,Act.eval];split
  ·rename_i h;exact zkn v h
  ·rw[Rep]
 |func f=>simp only[zca,Act.eval,Rep];exact⟨[],rfl,by rw[zbk]⟩
 |global g=>simp[zca,Act.eval,Rep]
theorem zpz {a:Act} (h:znv IT X S a.tmps)(d:Option Tmp) {x:AV} {v:Value} (hx:Rep IT X x v):znv IT X (match d with|some t=>S.set t x|none=>S) (a.put d v).tmps:=by
 cases d with
 |none=>exact h
 | some t=>
  have hl:=zr h;refine zgg (by simp[Act.put];simpa using hl) fun i b u h1 h2=> ?_;simp only[Act.put,Array.toList_setIfInBounds] at h2;by_cases e:t=i
  ·subst e;have hlt:t<S.length:=by have:=(List.getElem?_eq_some_iff.1 h1).1;simpa using this
   rw[List.getElem?_set_self hlt] at h1;rw[List.getElem?_set_self (by rw[<-hl];exact hlt)] at h2;cases h1;cases h2;exact hx
  ·rw[List.getElem?_set_ne e] at h1 h2;obtain⟨u',e',hr⟩:=zeq h i b h1;rw[h2] at e';cases e';exact hr
def zze:List AV->Option (List UInt8)
 |[]=>some []
 | .raw (.int .u8 k)::l=>match zze l with
  |some r=>if 0<=k/\ k<256 then some (UInt8.ofNat k.toNat::r) else none
  |none=>none
 |_=>none
theorem z8r: ∀ {cs:List AV} {l:List UInt8},zze cs=some l->cs=l.map fun x=> .raw (.int .u8 ((x.toNat:Nat):Int))
 |[],l,h=>by simp only[zze,Option.some.injEq] at h;subst h;rfl
 | a ::cs,l,h=>by
  cases a with
  | raw u=>
   cases u with
   | int k n=>
    cases k<;>try(simp only[zze] at h;cases h)
    rw[zze] at h;cases hr:zze cs with
    |none=>rw[hr] at h;cases h
    | some r=>
     rw[hr] at h;simp only at h;split at h<;>cases h
     rename_i hk;rw[map_cons, <-z8r hr];congr 3
     rw[UInt8.toNat_ofNat'];omega
   |_=>simp only[zze] at h;cases h
  |_=>simp only[zze] at h;cases h
def zpw (P:Program)(s t:TypeId):AV->Option AV
 | .list n cs _=>match P.underlying s,P.underlying t with
  | some (.slice e),some .string=>match P.underlying e,zze cs with
   |some (.int .u8),some l=>if l.length=n then some (.raw (.string ⟨l.toArray⟩)) else none
   |_,_=>none
  |_,_=>none
 |_=>none
theorem z7d: ∀ {l:List UInt8} {vs:List Value},zbk IT X (l.map fun x=> .raw (.int .u8 ((x.toNat:Nat):Int))) vs->vs=l.map fun x=> .int .u8 ((x.toNat:Nat):Int)
 |[],vs,h=>by rw[List.map_nil,zbk] at h;exact h
 | x::l,vs,h=>by
  rw[map_cons,zbk] at h;obtain⟨v,r,rfl,h1,h2⟩:=h;rw[Rep] at h1;rw[h1,z7d h2];rfl
theorem zuj {s t:TypeId} {x a:AV} {v:Value} (h:zpw P s t x=some a)(hx:Rep IT X x v): ∃r,(convert s t v).run P X.w= .ok r X.w/\ Rep IT X a r:=by
 unfold zpw at h;split at h<;>try cases h
 rename_i n cs st;split at h<;>try cases h
 rename_i e hs ht;split at h<;>try cases h
 rename_i l he hl;split at h<;>cases h
 rename_i hn;subst hn;have hcs:=z8r hl;rw[Rep] at hx;obtain⟨ad,cap,rfl,_,hc,_⟩:=hx;refine⟨_,?_,by rw[Rep]⟩;rcases hc with hc|⟨b,o,rfl,hat⟩
 ·have:l=[]:=by rw[hc] at hcs;exact List.map_eq_nil_iff.1 hcs.symm
  subst this;cases ad with
  |none=>exact Go.Lib.run_convert_nil_bytes X.w s t e cap hs he ht
  |some ad=>exact Go.run_convert_bytes_back X.w s t e ad cap [] hs he ht (fun j hj=>by simp at hj)
 ·subst hcs;obtain⟨us,u1,u2,u3⟩:=zhc hat
  have hus:=z7d u1;subst hus;exact Go.run_convert_bytes_back X.w s t e ⟨b,o,none⟩ cap l hs he ht (fun j hj=>by rw[zhe];exact u3 j _ (by simp[hj]))
def qop (P:Program)(ρ:Operand->AV)(U:St)(o:Oper):Option AV:=
 match o.op with
 | .move x| .assign x=>some (ρ x)
 | .pick c a b=>match ρ c with| .raw (.bool t)=>some (bif t then ρ a else ρ b)|_=>none
 | .build t parts=>match qdz P t (parts.toList.map fun p=>(p.1,ρ p.2)) with|some a=>some a|none=>zga P ρ o
 | .buildSlice t n parts=>zps P t n (parts.toList.map fun p=>(p.1,ρ p.2))
 | .load t x=>zlw P U t (ρ x)
 | .fieldAddr t x f=>znn P t f (ρ x)
 | .indexAddr t x i=>zie P t (ρ x) (ρ i)
 | .field t x f=>match qih P t f (ρ x) with|some a=>some a|none=>zga P ρ o
 | .index t x i=>match qde P t (ρ x) (ρ i) with|some a=>some a|none=>zga P ρ o
 | .slice t x lo hi mx=>match zls P t (ρ x) (lo.map ρ) (hi.map ρ) (mx.map ρ) with|some a=>some a|none=>zga P ρ o
 | .extract x i=>match ρ x with| .tup vs=>vs[i]? |_=>none
 | .makeFunc (.func f) first caps=>if first.size=0 then some (.clos f (caps.toList.map ρ)) else none
 | .call c=>match c.callee with
  | .builtin .len=>match c.args.toList,c.argTypes.toList with
   |[x],[t]=>match qcz P t (ρ x) with|some a=>some a|none=>zga P ρ o
   |_,_=>none
  | .builtin .append=>none
  | .builtin _=>zga P ρ o
  |_=>none
 | .convert s t x=>match zpw P s t (ρ x) with|some a=>some a|none=>zga P ρ o
 | .nilCheck x=>match ρ x with| .ptr s off=>some (.ptr s off)| .iptr cs=>some (.iptr cs)|_=>zga P ρ o
 | .alloc _| .box _ _| .store _ _ _=>none
 |_=>zga P ρ o
def ResQ (IT:IterP)(X:Cx)(U:St)(a:AV)(r:Result Next):Prop:=
 ∃v X',r= .ok (.value v) X'.w/\ Ext X X'/\ Inv IT U X'/\ Rep IT X' a v/\ Grows X.w X'.w/\ X'.κ=X.κ/\ X'.β=X.β/\ X'.lens=X.lens/\ (X'.O=X.O/\ X'.C=X.C)/\ ∀b i,X'.F b i->X.F b i \/X.w.heap.size<=b
theorem zco {a:AV} {r:Result Next} (v:Value)(h:r= .ok (.value v) X.w)(hI:Inv IT U X)(hr:Rep IT X a v):ResQ IT X U a r:=
 ⟨v,X,h,Ext.refl X,hI,hr,Grows.refl _,rfl,rfl,rfl,⟨rfl,rfl⟩,fun _ _ h=> .inl h⟩
theorem z1m {ρc:Operand->Value} {o:Oper} {a:AV} (h:zga P ρ o=some a)(hρ: ∀x∈o.op.operands,Rep IT X (ρ x) (ρc x))(hI:Inv IT U X):
 ResQ IT X U a ((execOp ρc o).run P X.w):=by
 unfold zga at h;split at h
 ·rename_i hall;have hcongr:(∀cs b,o.op≠ .select cs b)->execOp (zbz ρ) o=execOp ρc o:=fun hs=>execOp_congr o hs fun x hx=>by
   have h1:=all_eq_true.1 hall x (Array.mem_toList_iff.2 hx);obtain⟨u,hu⟩:=Option.isSome_iff_exists.1 h1;rw[z0u hu (hρ x hx)];simp[zbz,hu]
  have fin:(∀cs b,o.op≠ .select cs b)->(match val? P (execOp (zbz ρ) o) with|some (.value v)=>if zop v then some (zjf v) else none|_=>none)=some a->ResQ IT X U a ((execOp ρc o).run P X.w):=fun hs h=>by
   rw[hcongr hs] at h;split at h
   ·rename_i v hv;split at h
    ·rename_i hok;cases h;exact zco v (val?_run _ _ hv _) hI (zkn v hok)
    ·cases h
   ·cases h
  revert h;split
  ·intro h;cases h
  ·rename_i hne;exact fin fun cs b e=>hne cs b e
 ·cases h
theorem zmv {ρc:Operand->Value}: ∀l:List (Nat×Operand),(∀p∈l,Rep IT X (ρ p.2) (ρc p.2))->zss IT X (l.map fun p=>(p.1,ρ p.2)) (l.map fun p=>(p.1,ρc p.2))
 |[],_=>by simp[zss]
 |p::l,h=>by rw[map_cons,map_cons,zss];exact⟨_,_,rfl,h p (by simp),zmv l fun q hq=>h q (by simp[hq])⟩
theorem ztl {ρc:Operand->Value}: ∀l:List Operand,(∀x∈l,Rep IT X (ρ x) (ρc x))->zbk IT X (l.map ρ) (l.map ρc)
 |[],_=>by simp[zbk]
 |x::l,h=>by rw[map_cons,map_cons,zbk];exact⟨_,_,rfl,h x (by simp),ztl l fun y hy=>h y (by simp[hy])⟩
theorem zyb {ρc:Operand->Value} (x:Option Operand)(hρ: ∀y,x=some y->Rep IT X (ρ y) (ρc y)):qip IT X (x.map ρ) (x.map ρc):=by
 cases x with
 |none=>rfl
 |some x=>exact⟨_,rfl,hρ x rfl⟩
theorem zpp (hIT:ITMono IT) {P:Program} {X:Cx} {U:St} {ρ:Operand->AV} {ρc:Operand->Value} {o:Oper} {a:AV} (h:qop P ρ U o=some a)(hρ: ∀x∈o.op.operands,Rep IT X (ρ x) (ρc x))(hI:Inv IT U X):
 ResQ IT X U a ((execOp ρc o).run P X.w):=by
 have raw:zga P ρ o=some a->ResQ IT X U a ((execOp ρc o).run P X.w):=fun h=>z1m h hρ hI;unfold qop at h;split at h
 ·rename_i x ho;cases h;exact zco _ (by simp[execOp,ho]) hI (hρ x (by simp[ho,Op.operands]))
 ·rename_i x ho;cases h;exact zco _ (by simp[execOp,ho]) hI (hρ x (by simp[ho,Op.operands]))
 ·rename_i c x y ho;split at h<;>try cases h
  rename_i t hc;have hcv:=hρ c (by simp[ho,Op.operands]);rw[hc,Rep] at hcv;refine zco (if t then ρc x else ρc y) (by simp[execOp,ho,hcv,asBool]) hI ?_;cases t
  ·exact hρ y (by simp[ho,Op.operands])
  ·exact hρ x (by simp[ho,Op.operands])
 ·rename_i t parts ho;split at h
  ·rename_i b hb;cases h;obtain⟨v,h1,h2⟩:=z2a (P:=P) (qs:=parts.map fun(i,x)=>(i,ρc x)) hb (by simpa using zmv (IT:=IT) (X:=X) (ρ:=ρ) (ρc:=ρc) parts.toList fun p hp=>hρ p.2 (by rw[ho];simp only[Op.operands,List.mem_toArray,mem_map];exact⟨p,hp,rfl⟩));exact zco v (by simp[execOp,ho,h1]) hI h2
  ·exact raw h
 ·rename_i t n parts ho
  obtain⟨v,X',h1,h2,h3,h4,h5⟩: ∃v X',(Instr.buildSlice t n (parts.map fun(i,x)=>(i,ρc x))).run P X.w= .ok v X'.w/\ Ext X X'/\ Inv IT U X'/\ Rep IT X' a v/\
   Grows X.w X'.w/\ X'.κ=X.κ/\ X'.β=X.β/\ X'.lens=X.lens/\ (X'.O=X.O/\ X'.C=X.C)/\ ∀b i,X'.F b i->X.F b i \/X.w.heap.size<=b:=zvq hIT h (by simpa using zmv (IT:=IT) (X:=X) (ρ:=ρ) (ρc:=ρc) parts.toList fun p hp=>hρ p.2 (by rw[ho];simp only[Op.operands,List.mem_toArray,mem_map];exact⟨p,hp,rfl⟩)) hI
  exact⟨v,X',by simp[execOp,ho,h1],h2,h3,h4,h5⟩
 ·rename_i t x ho;obtain⟨v,h1,h2⟩:=zvm h (hρ x (by simp[ho,Op.operands])) hI;exact zco v (by simp[execOp,ho,h1]) hI h2
 ·rename_i t x f ho;obtain⟨v,h1,h2⟩:=zsv h (hρ x (by simp[ho,Op.operands]));exact zco v (by simp[execOp,ho,h1]) hI h2
 ·rename_i t x i ho;obtain⟨v,h1,h2⟩:=zsu h (hρ x (by simp[ho,Op.operands])) (hρ i (by simp[ho,Op.operands]));exact zco v (by simp[execOp,ho,h1]) hI h2
 ·rename_i t x f ho;split at h
  ·rename_i b hb;cases h;obtain⟨v,h1,h2⟩:=z2i hb (hρ x (by simp[ho,Op.operands]));exact zco v (by simp[execOp,ho,h1]) hI h2
  ·exact raw h
 ·rename_i t x i ho;split at h
  ·rename_i b hb;cases h;obtain⟨v,h1,h2⟩:=z3t hb (hρ x (by simp[ho,Op.operands])) (hρ i (by simp[ho,Op.operands]));exact zco v (by simp[execOp,ho,h1]) hI h2
  ·exact raw h
 ·rename_i t x lo hi mx ho;split at h
  ·rename_i b hb;cases h;obtain⟨v,h1,h2⟩:=z1b (P:=P) hb (hρ x (by simp[ho,Op.operands])) (zyb lo fun y e=>hρ y (by simp[ho,Op.operands,e])) (zyb hi fun y e=>hρ y (by simp[ho,Op.operands,e])) (zyb mx fun y e=>hρ y (by simp[ho,Op.operands,e]));exact zco v (by simp[execOp,ho,h1]) hI h2
  ·exact raw h
 ·rename_i x i ho;split at h<;>try cases h
  rename_i vs hx;have hv:=hρ x (by simp[ho,Op.operands]);rw[hx,Rep] at hv;obtain⟨us,e,hr⟩:=hv;obtain⟨u,hu,hr2⟩:=zeq hr i a h;exact zco u (by simp[execOp,ho,e,Instr.extract,hu]) hI hr2
 ·rename_i f first caps ho
  split at h<;>cases h
  rename_i h0;refine zco (.func (.func f) #[] (caps.map ρc)) ?_ hI ?_
  ·have:first= #[]:=Array.eq_empty_of_size_eq_zero h0
   simp[execOp,ho,Instr.makeFunc,this]
  ·rw[Rep];refine⟨caps.toList.map ρc,by congr 1;apply Array.ext';simp,ztl _ fun y hy=>hρ y (by simp[ho,Op.operands];exact .inr (by simpa using hy))⟩
 ·rename_i c ho;split at h
  ·rename_i hc;split at h
   ·rename_i x t hargs htys;split at h
    ·rename_i b hb;cases h;have e1:c.args= #[x]:=by apply Array.ext';simpa using hargs
     obtain⟨v,h1,h2⟩:=qcn (P:=P) (ty:=o.type) hb (hρ x (by simp[ho,Op.operands,Call.operands,e1]));have e2:c.argTypes= #[t]:=by apply Array.ext';simpa using htys
     exact zco v (by simp[execOp,ho,resolve,hc,invoke,builtin,e1,e2,h1]) hI h2
    ·exact raw h
   ·cases h
  ·cases h
  ·exact raw h
  ·cases h
 ·rename_i s t x ho;split at h
  ·rename_i b hb;cases h;obtain⟨v,h1,h2⟩:=zuj (P:=P) hb (hρ x (by simp[ho,Op.operands]));exact zco v (by simp[execOp,ho,h1]) hI h2
  ·exact raw h
 ·rename_i x ho;have hx:=hρ x (by simp[ho,Op.operands]);split at h
  ·rename_i s off he;cases h;rw[he] at hx;have hx2:=hx;rw[Rep] at hx2;obtain⟨b,_,hv⟩:=hx2;exact zco (ρc x) (by simp[execOp,ho,hv]) hI hx
  ·rename_i cs he;cases h;rw[he] at hx;have hx2:=hx;rw[Rep] at hx2;obtain⟨b,o',hv,_⟩:=hx2;exact zco (ρc x) (by simp[execOp,ho,hv]) hI hx
  ·exact raw h
 ·cases h
 ·cases h
 ·cases h
 ·exact raw h
end Go.Ab
namespace Go.Fwd
open Go Go.RowKit
structure FenceOk (F:Fence)(P:Program):Prop where
 fn: ∀f,F.fn f
 depth:F.depth=none
 calls: ∀(n:Nat) (f:FuncId) (args:Array Value) (w:World) (R:Ending->World->Prop),Calls P f args w R->CallsIn F n P f args w R
 rows: ∀(n:Nat) (row:String) (args:Array Value) (w:World) (R:Value->World->Prop),Rows P row args w R->RowsIn F n P row args w R
 rounds: ∀(n l:Nat) (f:FuncId) (tmps:Array Value) (asg body:Code) (w:World) (R:Ending->World->Prop),RoundIn Fence.wide n P l f tmps asg body w R->RoundIn F n P l f tmps asg body w R
theorem zuv {n:Nat} {P:Program} {row:String} {args:Array Value} {w:World} {R:Value->World->Prop} (h:Rows P row args w R):RowsIn Fence.wide n P row args w R:=
 fun c cs _=>let⟨v,w',r,s⟩:=h c cs;⟨v,w',r,stepsIn_wide.2 s⟩
theorem zry (P:Program):FenceOk Fence.wide P:=⟨fun _=>trivial,rfl,fun _ _ _ _ _ h=>callsIn_wide.2 h,fun _ _ _ _ _ h=>zuv h,fun _ _ _ _ _ _ _ _ h=>h⟩
theorem zpd (P:Program)(l:Nat):FenceOk (Fence.wide.inRound l) P:=⟨fun _=>trivial,rfl,fun _ _ _ _ _ h=>CallsIn.inRound l (callsIn_wide.2 h),fun n _ _ _ _ h=>(zuv (n:=n) h:RowsIn Fence.wide n _ _ _ _ _),fun _ _ _ _ _ _ _ _ h=>h⟩
section
variable {F:Fence} {nn:Nat} {P:Program} {ops:Array Oper} {w0:World} {a0:Act} {md:Region.Mode}
theorem znx {Q':Exit->Act->World->Prop}: ∀(l:List Oper) (k:Nat) (listed:Array Bool) (a:Act) (w:World),(∀j,l[j]? =ops[k+j]?)->
 Region.seqB md ops l.length k listed=true->wpListIn F nn P ops Q' l a w->wpAnyIn F nn P md ops Q' l.length listed a w
 |[],_,_,_,_,_,hB,h=>⟨by simpa[Region.seqB] using hB,h⟩
 | o::l,k,listed,a,w,hl,hB,h=>by
  have h0:ops[k]? =some o:=by simpa using(hl 0).symm
  simp only[List.length_cons,Region.seqB,and_eq_true,decide_eq_true_eq] at hB;refine⟨fun h1=>(by rw[hB.1] at h1;cases h1),fun i hi=> ?_⟩;rw[hB.1] at hi;have hik:i=k:=by simpa using hi
  subst hik;have hw:wpOpIn F nn P ops Q' i (wpListIn F nn P ops Q' l) a w:=by unfold wpOpIn;simp only[h0];exact h
  exact wpOpIn_mono (fun a' w' h'=>znx l (i+1) _ a' w' (fun j=>by have:=hl (j+1);simpa[Nat.add_assoc,Nat.add_comm 1 j] using this) hB.2 h') hw
end
end Go.Fwd
namespace Go.Ab
open Go Go.RowKit Go.Fwd
variable {IT:IterP} {X Y:Cx}
mutual
def zbm (n:Nat):AV->Bool
 | .agg cs=>zag n cs
 | .tup cs=>zag n cs
 | .list _ cs _=>zag n cs
 | .ptr s _=>decide (s<n)
 | .bsl s _ _ _ _=>decide (s<n)
 | .iptr cs=>zag n cs
 | .clos _ cs=>zag n cs
 | .iter _=>true
 | .yld _=>true
 | .raw _=>true
 | .top=>true
 | .bad=>true
def zag (n:Nat):List AV->Bool
 |[]=>true
 |a::l=>zbm n a&&zag n l
end
mutual
def zcx:AV->AV
 | .agg cs=> .agg (stripL cs)
 | .tup cs=> .tup (stripL cs)
 | .list n cs _=> .list n (stripL cs) .none
 | .ptr s o=> .ptr s o
 | .bsl s o n sz f=> .bsl s o n sz f
 | .iptr cs=> .iptr (stripL cs)
 | .clos f cs=> .clos f (stripL cs)
 | .iter xs=> .iter xs
 | .yld l=> .yld l
 | .raw v=> .raw v
 | .top=> .top
 | .bad=> .bad
def stripL:List AV->List AV
 |[]=>[]
 |a::l=>zcx a::stripL l
end
theorem znr: ∀l,stripL l=l.map zcx
 |[]=>by simp[stripL]
 |a::l=>by rw[stripL,znr l,map_cons]
theorem zuu (n:Nat): ∀l,zag n l=l.all (zbm n)
 |[]=>by simp[zag]
 |a::l=>by rw[zag,zuu n l,List.all_cons]
mutual
theorem ztm (hIT:ITMono IT) {X Y:Cx} {n:Nat} (hF:Y.F=X.F)(hw:Y.w=X.w)(hβ:Y.β=X.β)(hl:Y.lens=X.lens)(hκ:Y.κ=X.κ.take n): ∀(a:AV) (v:Value),zbm n a=true->Rep IT X a v->Rep IT Y a v
 | .raw u,v,_,hr=>hr
 | .agg cs,v,ho,⟨vs,e,hr,h1⟩=>⟨vs,e,zml hIT hF hw hβ hl hκ cs vs (by simpa[zbm] using ho) hr,h1⟩
 | .tup cs,v,ho,⟨vs,e,hr⟩=>⟨vs,e,zml hIT hF hw hβ hl hκ cs vs (by simpa[zbm] using ho) hr⟩
 | .list m cs st,v,ho,⟨a,cap,e,hcap,hc,hs⟩=>⟨a,cap,e,hcap,hc.imp id fun⟨b,o,e1,e2⟩=>⟨b,o,e1,z5g hIT hF hw hβ hl hκ cs b o (by simpa[zbm] using ho) e2⟩,by cases st<;>simp only[hl,hβ]<;>exact hs⟩
 | .ptr s off,v,ho,⟨b,e1,e2⟩=>⟨b,by rw[hκ,getElem?_take,if_pos (by simpa[zbm] using ho)];exact e1,e2⟩
 | .bsl s off m sz f,v,ho,hr=>Bsl.mono (fun b e1=>by rw[hκ,getElem?_take,if_pos (by simpa[zbm] using ho)];exact e1) hw hr
 | .iptr cs,v,ho,⟨b,o,e,hc⟩=>⟨b,o,e,z5g hIT hF hw hβ hl hκ cs b o (by simpa[zbm] using ho) hc⟩
 | .clos f caps,v,ho,⟨vs,e,hr⟩=>⟨vs,e,zml hIT hF hw hβ hl hκ caps vs (by simpa[zbm] using ho) hr⟩
 | .iter xs,v,ho,h2=>hIT.it _ _ _ _ (fun b o h=>by rw[hF];exact h) (fun b o h=>by rw[hw]) (Szs.eq hw) h2
 | .yld _,_,_,hr=>hr
 | .top,_,_,hr=>hr
 | .bad,_,_,hr=>hr
theorem zml (hIT:ITMono IT) {X Y:Cx} {n:Nat} (hF:Y.F=X.F)(hw:Y.w=X.w)(hβ:Y.β=X.β)(hl:Y.lens=X.lens)(hκ:Y.κ=X.κ.take n): ∀(l:List AV) (vs:List Value),zag n l=true->zbk IT X l vs->zbk IT Y l vs
 |[],_,_,hr=>hr
 | a::l,vs,ho,⟨v,r,e,h1,h2⟩=>by
  rw[zag,and_eq_true] at ho;exact⟨v,r,e,ztm hIT hF hw hβ hl hκ a v ho.1 h1,zml hIT hF hw hβ hl hκ l r ho.2 h2⟩
theorem z5g (hIT:ITMono IT) {X Y:Cx} {n:Nat} (hF:Y.F=X.F)(hw:Y.w=X.w)(hβ:Y.β=X.β)(hl:Y.lens=X.lens)(hκ:Y.κ=X.κ.take n): ∀(cs:List AV) (b o:Nat),zag n cs=true->At IT X cs b o->At IT Y cs b o
 |[],_,_,_,_=>trivial
 | c::cs,b,o,ho,⟨⟨hf,v,hv,h1,hr⟩,ht⟩=>by
  rw[zag,and_eq_true] at ho;exact⟨⟨by rw[hF];exact hf,v,by rw[hw];exact hv,h1,ztm hIT hF hw hβ hl hκ c v ho.1 hr⟩,z5g hIT hF hw hβ hl hκ cs b (o+1) ho.2 ht⟩
end
mutual
theorem zja (hIT:ITMono IT) {X Y:Cx} (hF:Y.F=X.F)(hw:Y.w=X.w): ∀(a:AV) (v:Value),(zbm 0 a=true \/Y.κ=X.κ)->Rep IT X a v->Rep IT Y (zcx a) v
 | .raw u,v,_,hr=>hr
 | .agg cs,v,ho,⟨vs,e,hr,h1⟩=>⟨vs,e,zfu hIT hF hw cs vs (by simpa[zbm] using ho) hr,h1⟩
 | .tup cs,v,ho,⟨vs,e,hr⟩=>⟨vs,e,zfu hIT hF hw cs vs (by simpa[zbm] using ho) hr⟩
 | .list m cs st,v,ho,⟨a,cap,e,hcap,hc,hs⟩=>⟨a,cap,e,hcap,by
  rcases hc with rfl|⟨b,o,e1,e2⟩
  ·exact .inl (by simp[stripL])
  ·exact .inr ⟨b,o,e1,z0l hIT hF hw cs b o (by simpa[zbm] using ho) e2⟩,trivial⟩
 | .ptr s off,v,ho,⟨b,e1,e2⟩=>by
  rcases ho with ho|ho
  ·simp[zbm] at ho
  ·exact⟨b,by rw[ho];exact e1,e2⟩
 | .bsl s off m sz f,v,ho,hr=>by
  rcases ho with ho|ho
  ·simp[zbm] at ho
  ·exact Bsl.mono (fun b e1=>by rw[ho];exact e1) hw hr
 | .iptr cs,v,ho,⟨b,o,e,hc⟩=>⟨b,o,e,z0l hIT hF hw cs b o (by simpa[zbm] using ho) hc⟩
 | .clos f caps,v,ho,⟨vs,e,hr⟩=>⟨vs,e,zfu hIT hF hw caps vs (by simpa[zbm] using ho) hr⟩
 | .iter xs,v,ho,h2=>hIT.it _ _ _ _ (fun b o h=>by rw[hF];exact h) (fun b o h=>by rw[hw]) (Szs.eq hw) h2
 | .yld _,_,_,hr=>hr
 | .top,_,_,hr=>hr
 | .bad,_,_,hr=>hr
theorem zfu (hIT:ITMono IT) {X Y:Cx} (hF:Y.F=X.F)(hw:Y.w=X.w): ∀(l:List AV) (vs:List Value),(zag 0 l=true \/Y.κ=X.κ)->zbk IT X l vs->zbk IT Y (stripL l) vs
 |[],_,_,hr=>hr
 | a::l,vs,ho,⟨v,r,e,h1,h2⟩=>by
  rw[zag,and_eq_true] at ho;exact⟨v,r,e,zja hIT hF hw a v (ho.imp And.left id) h1,zfu hIT hF hw l r (ho.imp And.right id) h2⟩
theorem z0l (hIT:ITMono IT) {X Y:Cx} (hF:Y.F=X.F)(hw:Y.w=X.w): ∀(cs:List AV) (b o:Nat),(zag 0 cs=true \/Y.κ=X.κ)->At IT X cs b o->At IT Y (stripL cs) b o
 |[],_,_,_,_=>trivial
 | c::cs,b,o,ho,⟨⟨hf,v,hv,h1,hr⟩,ht⟩=>by
  rw[zag,and_eq_true] at ho;exact⟨⟨by rw[hF];exact hf,v,by rw[hw];exact hv,h1,zja hIT hF hw c v (ho.imp And.left id) hr⟩,z0l hIT hF hw cs b (o+1) (ho.imp And.right id) ht⟩
end
mutual
theorem zyq (hIT:ITMono IT) {X Y:Cx} (hF:Y.F=X.F)(hw:Y.w=X.w)(h0:X.κ=[])(hl:X.lens=[]): ∀(a:AV) (v:Value),Rep IT X a v->Rep IT Y a v
 | .raw u,v,hr=>hr
 | .agg cs,v,⟨vs,e,hr,h1⟩=>⟨vs,e,zou hIT hF hw h0 hl cs vs hr,h1⟩
 | .tup cs,v,⟨vs,e,hr⟩=>⟨vs,e,zou hIT hF hw h0 hl cs vs hr⟩
 | .list m cs st,v,⟨a,cap,e,hcap,hc,hs⟩=>⟨a,cap,e,hcap,hc.imp id fun⟨b,o,e1,e2⟩=>⟨b,o,e1,z6a hIT hF hw h0 hl cs b o e2⟩,by
  cases st with
  |none=>trivial
  |full=>exact hs
  |own s=>obtain⟨L,k1,_⟩:=hs;rw[hl] at k1;simp at k1⟩
 | .ptr s off,v,⟨b,e1,e2⟩=>by rw[h0] at e1;simp at e1
 | .bsl s off m sz f,v,⟨b,_,_,_,e1,_⟩=>by rw[h0] at e1;simp at e1
 | .iptr cs,v,⟨b,o,e,hc⟩=>⟨b,o,e,z6a hIT hF hw h0 hl cs b o hc⟩
 | .clos f caps,v,⟨vs,e,hr⟩=>⟨vs,e,zou hIT hF hw h0 hl caps vs hr⟩
 | .iter xs,v,h2=>hIT.it _ _ _ _ (fun b o h=>by rw[hF];exact h) (fun b o h=>by rw[hw]) (Szs.eq hw) h2
 | .yld _,_,hr=>hr
 | .top,_,hr=>hr
 | .bad,_,hr=>hr
theorem zou (hIT:ITMono IT) {X Y:Cx} (hF:Y.F=X.F)(hw:Y.w=X.w)(h0:X.κ=[])(hl:X.lens=[]): ∀(l:List AV) (vs:List Value),zbk IT X l vs->zbk IT Y l vs
 |[],_,hr=>hr
 |a::l,vs,⟨v,r,e,h1,h2⟩=>⟨v,r,e,zyq hIT hF hw h0 hl a v h1,zou hIT hF hw h0 hl l r h2⟩
theorem z6a (hIT:ITMono IT) {X Y:Cx} (hF:Y.F=X.F)(hw:Y.w=X.w)(h0:X.κ=[])(hl:X.lens=[]): ∀(cs:List AV) (b o:Nat),At IT X cs b o->At IT Y cs b o
 |[],_,_,_=>trivial
 |c::cs,b,o,⟨⟨hf,v,hv,h1,hr⟩,ht⟩=>⟨⟨by rw[hF];exact hf,v,by rw[hw];exact hv,h1,zyq hIT hF hw h0 hl c v hr⟩,z6a hIT hF hw h0 hl cs b (o+1) ht⟩
end
def St.empty:St:=⟨[],[],[],0,false⟩
def Ent (P:Program)(f:FuncId):Prop:= ∀args w,(callFunc f args).run P w= .ok (.enter f args) w
def Snd (IT:IterP)(P:Program)(f:FuncId)(args:List AV)(U:St)(r:AV)(U':St):Prop:=
 Ent P f/\ ∀(X:Cx) (vs:List Value),Inv IT U X->zbk IT X args vs->Calls P f vs.toArray X.w fun e w'=> ∃v X',e= .returned v/\ X'.w=w'/\ Ext X X'/\ Inv IT U' X'/\ Rep IT X' r v
def Pure (IT:IterP)(P:Program)(f:FuncId)(args:List AV)(r:AV):Prop:=Snd IT P f args St.empty r St.empty
theorem ztu {U:St} (hI:Inv IT U X):Inv IT St.empty ⟨X.F,[],[],[],X.w,fun _=>False,fun _ _=>False⟩ where
 lens:=rfl
 elems:=rfl
 κlen:=rfl
 κnd:=fun s s' b h=>by simp at h
 box:=fun s b t cs h=>by simp at h
 κF:=fun s b t cs h=>by simp at h
 βlen:=rfl
 βnd:=List.nodup_nil
 βκ:=fun r h=>by simp at h
 row:=fun s r L h=>by simp at h
 Ok:=fun b h=>h.elim
 Fcell:=hI.Fcell
 gv:=hI.gv
theorem zmt (hIT:ITMono IT) {P:Program} {f:FuncId} {args args':List AV} {r:AV} (h:Pure IT P f args' r)(hargs:stripL args=args')(hok:zag 0 args=true) {U:St} {X:Cx} (hI:Inv IT U X) {vs:List Value} (hr:zbk IT X args vs):
 Calls P f vs.toArray X.w fun e w'=> ∃v X',e= .returned v/\ X'.w=w'/\ Ext X X'/\ Inv IT U X'/\ Rep IT X' r v/\ Grows X.w X'.w/\ X'.κ=X.κ/\ X'.β=X.β/\ X'.lens=X.lens/\ (X'.O=X.O/\ X'.C=X.C)/\ ∀b i,X'.F b i->X.F b i \/X.w.heap.size<=b:=by
 subst hargs;have h0:zbk IT ⟨X.F,[],[],[],X.w,fun _=>False,fun _ _=>False⟩ (stripL args) vs:=zfu (X:=X) (Y:=⟨X.F,[],[],[],X.w,fun _=>False,fun _ _=>False⟩) hIT rfl rfl args vs (.inl hok) hr;refine(h.2 ⟨X.F,[],[],[],X.w,fun _=>False,fun _ _=>False⟩ vs (ztu hI) h0).mono ?_;rintro e w' ⟨v,Y,rfl,rfl,hE,hIY,hv⟩;have hκ:Y.κ=[]:=by have:=hIY.κlen;simpa[St.empty] using this
 have hl:Y.lens=[]:=hIY.lens;have hblk: ∀b,b<X.w.heap.size->Y.w.heap[b]? =X.w.heap[b]? :=fun b hb=>hE.frame b hb (by simp) (by simp);have hg:Grows X.w Y.w:=⟨⟨hE.os,hE.tape,hE.output,hE.size,hblk⟩,hE.drawn⟩;have hFn: ∀b i,Y.F b i->X.F b i \/X.w.heap.size<=b:=fun b i hf=>by
  rcases hE.Fnew b i hf with h|h|⟨q,hq,_⟩|h
  ·exact .inl h
  ·exact .inr h
  ·simp at hq
  ·simp at h
 have hX:Ext X ⟨Y.F,X.κ,X.β,X.lens,Y.w,X.O,X.C⟩:={
  os:=hE.os,tape:=hE.tape,output:=hE.output,size:=hE.size,drawn:=hE.drawn,F:=hE.F,cell:=hE.cell
  κ:=fun _ _ h=>h
  lens:=fun s L h=>⟨L,h,Nat.le_refl _,fun _=>rfl⟩
  blk:=fun s b hs cur t f h=>⟨cur,(hblk b (hI.κlt (mem_of_getElem? hs))).trans h,rfl⟩
  szs:=Szs.old hblk
  frame:=fun b hb _ _=>hblk b hb
  κnew:=fun _ h=> .inl h
  βnew:=fun r h=> .inl ⟨r,h,rfl⟩
  O:=rfl
  C:=rfl
  Fnew:=fun b i hf=>(hFn b i hf).imp id .inl}
 refine⟨v,⟨Y.F,X.κ,X.β,X.lens,Y.w,X.O,X.C⟩,rfl,rfl,hX,?_,zyq (X:=Y) (Y:=⟨Y.F,X.κ,X.β,X.lens,Y.w,X.O,X.C⟩) hIT rfl rfl hκ hl r v hv,hg,rfl,rfl,rfl,⟨rfl,rfl⟩,hFn⟩;refine {lens:=hI.lens,elems:=hI.elems,κlen:=hI.κlen,κnd:=hI.κnd,box:= ?_,κF:= ?_,βlen:=hI.βlen,βnd:=hI.βnd,βκ:=hI.βκ,row:= ?_,Ok:= ?_,Fcell:=hIY.Fcell}
 ·intro s b t cs hs hb;obtain⟨us,zs,u1,u2,u3⟩:=hI.box s b t cs hs hb;exact⟨us,zs,(hblk b (hI.κlt (mem_of_getElem? hs))).trans u1,zar hIT hX _ _ u2,u3⟩
 ·intro s b t cs hs hb hc o hf;rcases hFn b o hf with h|h
  ·exact hI.κF s b t cs hs hb hc o h
  ·have:=hI.κlt (mem_of_getElem? hs);omega
 ·intro s q L hq hL;obtain⟨cur,fz,c1,c2,c3,c4,c5,c6,c7⟩:=hI.row s q L hq hL;have hlt:=hI.βlt (mem_of_getElem? hq);refine⟨cur,fz,(hblk _ hlt).trans c1,c2,c3,c4,c5,fun o hf=> ?_,c7⟩;rcases hFn _ o hf with h|h
  ·exact c6 o h
  ·omega
 ·intro b ho;obtain⟨⟨cs0,t0,f0,h0⟩,h2,h3,h4⟩:=hI.Ok b ho;have hlt:=hI.Olt ho;exact⟨⟨cs0,t0,f0,(hblk b hlt).trans h0⟩,h2,h3,fun o hf=>(hFn b o hf).elim (h4 o) fun h=>by omega⟩
abbrev FZ:=(Nat->Nat->AV)×(Nat->Nat->Nat->Nat->AV)
mutual
def zhf (g:FZ):AV->AV
 | .raw u=> .raw u
 | .agg cs=> .agg (zdb g cs)
 | .tup cs=> .tup (zdb g cs)
 | .list n cs _=> .list n (zdb g cs) .none
 | .ptr s off=>g.1 s off
 | .bsl s off n sz _=>g.2 s off n sz
 | .iptr cs=> .iptr (zdb g cs)
 | .clos f caps=> .clos f (zdb g caps)
 | .iter xs=> .iter xs
 | .yld l=> .yld l
 | .top=> .top
 | .bad=> .bad
def zdb (g:FZ):List AV->List AV
 |[]=>[]
 |a::l=>zhf g a::zdb g l
end
def frz (bs:List (TypeId×List AV)):Nat->FZ
 |0=>(fun _ _=> .top,fun _ _ _ _=> .top)
 | n+1=>(fun s off=> .iptr (zdb (frz bs n) (((bs[s]?).map fun b=>b.2.drop off).getD [])),
  fun s off m sz=> .list m ((zdb (frz bs n) (((bs[s]?).map fun b=>b.2.drop off).getD [])).take (m*sz)) .none)
mutual
theorem zrg (hIT:ITMono IT) {X Y:Cx} {g:FZ} (hF: ∀b o,X.F b o->Y.F b o)(hw:Y.w=X.w)(hg:(∀s off v,Rep IT X (.ptr s off) v->Rep IT Y (g.1 s off) v)/\ ∀s off n sz f v,Rep IT X (.bsl s off n sz f) v->Rep IT Y (g.2 s off n sz) v): ∀(a:AV) (v:Value),Rep IT X a v->Rep IT Y (zhf g a) v
 | .raw u,v,hr=>hr
 | .agg cs,v,⟨vs,e,hr,h1⟩=>⟨vs,e,zgx hIT hF hw hg cs vs hr,h1⟩
 | .tup cs,v,⟨vs,e,hr⟩=>⟨vs,e,zgx hIT hF hw hg cs vs hr⟩
 | .list m cs st,v,⟨a,cap,e,hcap,hc,hs⟩=>⟨a,cap,e,hcap,hc.imp (fun h=>by subst h;rfl) fun⟨b,o,e1,e2⟩=>⟨b,o,e1,zuh hIT hF hw hg cs b o e2⟩,trivial⟩
 | .ptr s off,v,hr=>hg.1 s off v hr
 | .bsl s off n sz f,v,hr=>hg.2 s off n sz f v hr
 | .iptr cs,v,⟨b,o,e,hc⟩=>⟨b,o,e,zuh hIT hF hw hg cs b o hc⟩
 | .clos f caps,v,⟨vs,e,hr⟩=>⟨vs,e,zgx hIT hF hw hg caps vs hr⟩
 | .iter xs,v,h2=>hIT.it _ _ _ _ hF (fun b o h=>by rw[hw]) (Szs.eq hw) h2
 | .yld _,_,hr=>hr
 | .top,_,hr=>hr
 | .bad,_,hr=>hr
theorem zgx (hIT:ITMono IT) {X Y:Cx} {g:FZ} (hF: ∀b o,X.F b o->Y.F b o)(hw:Y.w=X.w)(hg:(∀s off v,Rep IT X (.ptr s off) v->Rep IT Y (g.1 s off) v)/\ ∀s off n sz f v,Rep IT X (.bsl s off n sz f) v->Rep IT Y (g.2 s off n sz) v): ∀(l:List AV) (vs:List Value),zbk IT X l vs->zbk IT Y (zdb g l) vs
 |[],_,hr=>hr
 |a::l,vs,⟨v,r,e,h1,h2⟩=>⟨v,r,e,zrg hIT hF hw hg a v h1,zgx hIT hF hw hg l r h2⟩
theorem zuh (hIT:ITMono IT) {X Y:Cx} {g:FZ} (hF: ∀b o,X.F b o->Y.F b o)(hw:Y.w=X.w)(hg:(∀s off v,Rep IT X (.ptr s off) v->Rep IT Y (g.1 s off) v)/\ ∀s off n sz f v,Rep IT X (.bsl s off n sz f) v->Rep IT Y (g.2 s off n sz) v): ∀(cs:List AV) (b o:Nat),At IT X cs b o->At IT Y (zdb g cs) b o
 |[],_,_,_=>trivial
 |c::cs,b,o,⟨⟨hf,v,hv,h1,hr⟩,ht⟩=>⟨⟨hF b o hf,v,by rw[hw];exact hv,h1,zrg hIT hF hw hg c v hr⟩,zuh hIT hF hw hg cs b (o+1) ht⟩
end
def qjr (Y:Cx)(b o:Nat):Prop:=Y.F b o \/b∈Y.κ/\ ∃v,Y.w.cell? ⟨b,o,none⟩=some v
theorem qdd (hIT:ITMono IT) {U:St} {Y:Cx} {O C} (hI:Inv IT U Y): ∀n,(∀s off v,Rep IT Y (.ptr s off) v->Rep IT ⟨qjr Y,[],[],[],Y.w,O,C⟩ ((frz U.boxes n).1 s off) v)/\
 ∀s off m sz f v,Rep IT Y (.bsl s off m sz f) v->Rep IT ⟨qjr Y,[],[],[],Y.w,O,C⟩ ((frz U.boxes n).2 s off m sz) v:=by
 intro n;induction n with
 |zero=>exact⟨fun _ _ _ _=>trivial,fun _ _ _ _ _ _ _=>trivial⟩
 | succ n ih=>
  have key: ∀(s b off:Nat),Y.κ[s]? =some b->At IT ⟨qjr Y,[],[],[],Y.w,O,C⟩ (zdb (frz U.boxes n) (((U.boxes[s]?).map fun b=>b.2.drop off).getD [])) b off:=fun s b off hb=>by
   have hs:s<U.boxes.length:=by rw[<-hI.κlen];exact(List.getElem?_eq_some_iff.1 hb).1
   obtain⟨us,zs,u1,u2,u3⟩:=hI.box s b (U.boxes[s]).1 (U.boxes[s]).2 hb (by simp[hs]);simp only[getElem?_eq_getElem hs,map_some,getD_some];have hcell: ∀(i:Nat) v,(us.drop off)[i]? =some v->Y.w.cell? ⟨b,off+i,none⟩=some v:=fun i v hv=>by
    rw[List.getElem?_drop] at hv;have:=(List.getElem?_eq_some_iff.1 hv).1;unfold World.cell?;simp[u1,getElem?_append_left this,hv]
   exact z1e (fun i hi=> .inr ⟨mem_of_getElem? hb,_,hcell i _ (getElem?_eq_getElem hi)⟩) (fun v hv=>u3 v (List.mem_of_mem_drop hv)) (zgx (Y:=⟨qjr Y,[],[],[],Y.w,O,C⟩) hIT (fun b o h=>Or.inl h) rfl ih _ _ (ziq u2 off)) hcell
  refine⟨?_,?_⟩
  ·rintro s off v ⟨b,hb,rfl⟩;exact⟨b,off,rfl,key s b off hb⟩
  ·rintro s off m sz f v ⟨b,cap,cur,t,hb,rfl,hcap,hful,_⟩;exact⟨_,cap,rfl,⟨hcap,fun h=>by cases h⟩,.inr ⟨b,off,rfl,z0e _ (key s b off hb)⟩,trivial⟩
def z0m:AV->Bool
 | .raw _=>true
 |_=>false
def z3d:AV->Bool
 | .raw _=>true
 | .agg cs=>cs.all z0m
 | .tup cs=>cs.all z0m
 |_=>false
theorem zma: ∀(l:List AV) (vs:List Value),l.all z0m=true->zbk IT X l vs->zbk IT Y l vs
 |[],_,_,h=>h
 | a::l,vs,ho,⟨v,r,e,h1,h2⟩=>by
  rw[List.all_cons,and_eq_true] at ho;refine⟨v,r,e,?_,zma l r ho.2 h2⟩;cases a with
  |raw u=>exact h1
  |_=>simp[z0m] at ho
theorem qca {a:AV} {v:Value} (ho:z3d a=true)(h:Rep IT X a v):Rep IT Y a v:=by
 cases a with
 |raw u=>exact h
 |agg cs=>obtain⟨vs,e,h1,h2⟩:=h;exact⟨vs,e,zma cs vs ho h1,h2⟩
 |tup cs=>obtain⟨vs,e,h1⟩:=h;exact⟨vs,e,zma cs vs ho h1⟩
 |_=>simp[z3d] at ho
theorem qle (hIT:ITMono IT) {P:Program} {f:FuncId} {args args':List AV} {r:AV} (n:Nat) {U:St} (h:Pure IT P f args' r)(hargs:zdb (frz U.boxes n) args=args')(hraw:z3d r=true) {X:Cx} (hI:Inv IT U X) {vs:List Value} (hr:zbk IT X args vs):
 Calls P f vs.toArray X.w fun e w'=> ∃v X',e= .returned v/\ X'.w=w'/\ Ext X X'/\ Inv IT U X'/\ Rep IT X' r v:=by
 subst hargs;have h0:zbk IT ⟨qjr X,[],[],[],X.w,fun _=>False,fun _ _=>False⟩ (zdb (frz U.boxes n) args) vs:=zgx (Y:=⟨qjr X,[],[],[],X.w,fun _=>False,fun _ _=>False⟩) hIT (fun b o h=>Or.inl h) rfl (qdd hIT hI n) args vs hr
 have hI0:Inv IT St.empty ⟨qjr X,[],[],[],X.w,fun _=>False,fun _ _=>False⟩:={ztu hI with
  gv:=hIT.gv _ _ _ _ (fun b o h=>Or.inl h) (fun _ _ _=>rfl) (Szs.refl _) hI.gv
  box:=fun s b t cs h=>by simp at h
  κF:=fun s b t cs h=>by simp at h
  row:=fun s r L h=>by simp at h
  Ok:=fun b h=>h.elim
  Fcell:=fun b o hf=>hf.elim (hI.Fcell b o) And.right}
 refine(h.2 ⟨qjr X,[],[],[],X.w,fun _=>False,fun _ _=>False⟩ vs hI0 h0).mono ?_;rintro e w' ⟨v,Y,rfl,rfl,hE,hIY,hv⟩;have hblk: ∀b,b<X.w.heap.size->Y.w.heap[b]? =X.w.heap[b]? :=fun b hb=>hE.frame b hb (by simp) (by simp);have hFn: ∀b i,((Y.F b i/\ b∉X.κ) \/X.F b i)->X.F b i \/X.w.heap.size<=b:=fun b i h=>by
  rcases h with⟨hf,hk⟩|h
  ·rcases hE.Fnew b i hf with(h|⟨h,_⟩)|h|⟨q,hq,_⟩|h
   ·exact .inl h
   ·exact absurd h hk
   ·exact .inr h
   ·simp at hq
   ·simp at h
  ·exact .inl h
 have hX:Ext X ⟨fun b o=>(Y.F b o/\ b∉X.κ) \/X.F b o,X.κ,X.β,X.lens,Y.w,X.O,X.C⟩:={
  os:=hE.os,tape:=hE.tape,output:=hE.output,size:=hE.size,drawn:=hE.drawn
  F:=fun b o h=> .inr h
  cell:=fun b o h=>hE.cell b o (.inl h)
  κ:=fun _ _ h=>h
  lens:=fun s L h=>⟨L,h,Nat.le_refl _,fun _=>rfl⟩
  blk:=fun s b hs cur t f h=>⟨cur,(hblk b (hI.κlt (mem_of_getElem? hs))).trans h,rfl⟩
  szs:=Szs.old hblk
  frame:=fun b hb _ _=>hblk b hb
  κnew:=fun _ h=> .inl h
  βnew:=fun r h=> .inl ⟨r,h,rfl⟩
  O:=rfl
  C:=rfl
  Fnew:=fun b i hf=>(hFn b i hf).imp id .inl}
 refine⟨v,⟨fun b o=>(Y.F b o/\ b∉X.κ) \/X.F b o,X.κ,X.β,X.lens,Y.w,X.O,X.C⟩,rfl,rfl,hX,?_,qca hraw hv⟩;refine {lens:=hI.lens,elems:=hI.elems,κlen:=hI.κlen,κnd:=hI.κnd,box:= ?_,κF:= ?_,βlen:=hI.βlen,βnd:=hI.βnd,βκ:=hI.βκ,row:= ?_,Ok:= ?_,Fcell:=fun b o hf=>hIY.Fcell b o (hf.elim And.left fun h=>hE.F b o (.inl h))}
 ·intro s b t cs hs hb;obtain⟨us,zs,u1,u2,u3⟩:=hI.box s b t cs hs hb;exact⟨us,zs,(hblk b (hI.κlt (mem_of_getElem? hs))).trans u1,zar hIT hX _ _ u2,u3⟩
 ·intro s b t cs hs hb hc o hf;rcases hf with⟨_,hf⟩|hf
  ·exact hf (mem_of_getElem? hs)
  ·exact hI.κF s b t cs hs hb hc o hf
 ·intro s q L hq hL;obtain⟨cur,fz,c1,c2,c3,c4,c5,c6,c7⟩:=hI.row s q L hq hL;have hlt:=hI.βlt (mem_of_getElem? hq);refine⟨cur,fz,(hblk _ hlt).trans c1,c2,c3,c4,c5,fun o hf=> ?_,c7⟩;rcases hFn _ o hf with h|h
  ·exact c6 o h
  ·omega
 ·intro b ho;obtain⟨⟨cs0,t0,f0,h0⟩,h2,h3,h4⟩:=hI.Ok b ho;have hlt:=hI.Olt ho;exact⟨⟨cs0,t0,f0,(hblk b hlt).trans h0⟩,h2,h3,fun o hf=>(hFn b o hf).elim (h4 o) fun h=>by omega⟩
variable {IT:IterP} {U:St} {Y:Cx} {n:Nat}
mutual
def clo:AV->Bool
 | .agg cs=>cloL cs
 | .tup cs=>cloL cs
 | .list _ cs st=>(match st with| .none=>true|_=>false)&&cloL cs
 | .ptr _ _=>false
 | .bsl _ _ _ _ _=>false
 | .iptr cs=>cloL cs
 | .clos _ cs=>cloL cs
 | .iter _=>true
 | .yld _=>true
 | .raw _=>true
 | .top=>true
 | .bad=>true
def cloL:List AV->Bool
 |[]=>true
 |a::l=>clo a&&cloL l
end
theorem zeg: ∀l m,cloL (l++m)=(cloL l&&cloL m)
 |[],m=>by simp[cloL]
 |a::l,m=>by rw[List.cons_append,cloL,cloL,zeg l m,Bool.and_assoc]
mutual
theorem z0x: ∀a:AV,clo a=true->zcx a=a
 | .agg cs,h=>by rw[zcx,zdh cs (by simpa[clo] using h)]
 | .tup cs,h=>by rw[zcx,zdh cs (by simpa[clo] using h)]
 | .list n cs st,h=>by
  simp only[clo,and_eq_true] at h;rw[zcx,zdh cs h.2];cases st<;>first|rfl|simp at h
 | .ptr _ _,h=>by simp[clo] at h
 | .bsl _ _ _ _ _,h=>by simp[clo] at h
 | .iptr cs,h=>by rw[zcx,zdh cs (by simpa[clo] using h)]
 | .clos f cs,h=>by rw[zcx,zdh cs (by simpa[clo] using h)]
 | .iter _,_=>by rw[zcx]
 | .yld _,_=>by rw[zcx]
 | .raw _,_=>by rw[zcx]
 | .top,_=>by rw[zcx]
 | .bad,_=>by rw[zcx]
theorem zdh: ∀l:List AV,cloL l=true->stripL l=l
 |[],_=>by rw[stripL]
 | a::l,h=>by
  rw[cloL,and_eq_true] at h;rw[stripL,z0x a h.1,zdh l h.2]
end
mutual
theorem zz (n:Nat): ∀a:AV,clo a=true->zbm n a=true
 | .agg cs,h=>by rw[zbm,zt n cs (by simpa[clo] using h)]
 | .tup cs,h=>by rw[zbm,zt n cs (by simpa[clo] using h)]
 | .list m cs st,h=>by
  simp only[clo,and_eq_true] at h;rw[zbm,zt n cs h.2]
 | .ptr _ _,h=>by simp[clo] at h
 | .bsl _ _ _ _ _,h=>by simp[clo] at h
 | .iptr cs,h=>by rw[zbm,zt n cs (by simpa[clo] using h)]
 | .clos f cs,h=>by rw[zbm,zt n cs (by simpa[clo] using h)]
 | .iter _,_=>by rw[zbm]
 | .yld _,_=>by rw[zbm]
 | .raw _,_=>by rw[zbm]
 | .top,_=>by rw[zbm]
 | .bad,_=>by rw[zbm]
theorem zt (n:Nat): ∀l:List AV,cloL l=true->zag n l=true
 |[],_=>by rw[zag]
 | a::l,h=>by
  rw[cloL,and_eq_true] at h;rw[zag,zz n a h.1,zt n l h.2];rfl
end
mutual
theorem qai (g:FZ): ∀a:AV,clo a=true->zhf g a=a
 | .agg cs,h=>by rw[zhf,zee g cs (by simpa[clo] using h)]
 | .tup cs,h=>by rw[zhf,zee g cs (by simpa[clo] using h)]
 | .list n cs st,h=>by
  simp only[clo,and_eq_true] at h;rw[zhf,zee g cs h.2];cases st<;>first|rfl|simp at h
 | .ptr _ _,h=>by simp[clo] at h
 | .bsl _ _ _ _ _,h=>by simp[clo] at h
 | .iptr cs,h=>by rw[zhf,zee g cs (by simpa[clo] using h)]
 | .clos f cs,h=>by rw[zhf,zee g cs (by simpa[clo] using h)]
 | .iter _,_=>by rw[zhf]
 | .yld _,_=>by rw[zhf]
 | .raw _,_=>by rw[zhf]
 | .top,_=>by rw[zhf]
 | .bad,_=>by rw[zhf]
theorem zee (g:FZ): ∀l:List AV,cloL l=true->zdb g l=l
 |[],_=>by rw[zdb]
 | a::l,h=>by
  rw[cloL,and_eq_true] at h;rw[zdb,qai g a h.1,zee g l h.2]
end
def qfp (m:Nat):Room->Room
 | .own s=>if s<m then .own s else .none
 |r=>r
mutual
def zhx (m:Nat)(g:FZ):AV->AV
 | .raw u=> .raw u
 | .agg cs=> .agg (zy m g cs)
 | .tup cs=> .tup (zy m g cs)
 | .list n cs st=> .list n (zy m g cs) (match zy m g cs with|c=>qfp m st)
 | .ptr s off=>g.1 s off
 | .bsl s off n sz _=>g.2 s off n sz
 | .iptr cs=> .iptr (zy m g cs)
 | .clos f caps=> .clos f (zy m g caps)
 | .iter xs=> .iter xs
 | .yld l=> .yld l
 | .top=> .top
 | .bad=> .bad
def zy (m:Nat)(g:FZ):List AV->List AV
 |[]=>[]
 |a::l=>zhx m g a::zy m g l
end
theorem zrw (m:Nat)(g:FZ): ∀l,(zy m g l).length=l.length
 |[]=>by simp[zy]
 |a::l=>by simp[zy,zrw m g l]
mutual
theorem zak (m:Nat)(g:FZ): ∀a:AV,clo a=true->zhx m g a=a
 | .agg cs,h=>by rw[zhx,zad m g cs (by simpa[clo] using h)]
 | .tup cs,h=>by rw[zhx,zad m g cs (by simpa[clo] using h)]
 | .list n cs st,h=>by
  simp only[clo,and_eq_true] at h;rw[zhx,zad m g cs h.2];cases st<;>first|rfl|simp at h
 | .ptr _ _,h=>by simp[clo] at h
 | .bsl _ _ _ _ _,h=>by simp[clo] at h
 | .iptr cs,h=>by rw[zhx,zad m g cs (by simpa[clo] using h)]
 | .clos f cs,h=>by rw[zhx,zad m g cs (by simpa[clo] using h)]
 | .iter _,_=>by rw[zhx]
 | .yld _,_=>by rw[zhx]
 | .raw _,_=>by rw[zhx]
 | .top,_=>by rw[zhx]
 | .bad,_=>by rw[zhx]
theorem zad (m:Nat)(g:FZ): ∀l:List AV,cloL l=true->zy m g l=l
 |[],_=>by rw[zy]
 | a::l,h=>by
  rw[cloL,and_eq_true] at h;rw[zy,zak m g a h.1,zad m g l h.2]
end
mutual
theorem zli (hIT:ITMono IT) {X Y:Cx} {m:Nat} {g:FZ} (hF: ∀b o,X.F b o->Y.F b o)(hw:Y.w=X.w)(hl: ∀s,s<m->Y.lens[s]? =X.lens[s]? /\ Y.β[s]? =X.β[s]?)
 (hg:(∀s off v,Rep IT X (.ptr s off) v->Rep IT Y (g.1 s off) v)/\ ∀s off n sz f v,Rep IT X (.bsl s off n sz f) v->Rep IT Y (g.2 s off n sz) v): ∀(a:AV) (v:Value),Rep IT X a v->Rep IT Y (zhx m g a) v
 | .raw u,v,hr=>hr
 | .agg cs,v,⟨vs,e,hr,h1⟩=>⟨vs,e,zdm hIT hF hw hl hg cs vs hr,h1⟩
 | .tup cs,v,⟨vs,e,hr⟩=>⟨vs,e,zdm hIT hF hw hl hg cs vs hr⟩
 | .list n cs st,v,⟨a,cap,e,hcap,hc,hs⟩=>⟨a,cap,e,hcap,hc.imp (fun h=>by subst h;rfl) fun⟨b,o,e1,e2⟩=>⟨b,o,e1,z6n hIT hF hw hl hg cs b o e2⟩,by
  cases st with
  |none=>trivial
  |full=>exact hs
  | own s=>
   simp only[qfp];split
   ·trivial
   ·rename_i h2;split at h2<;>cases h2
   ·rename_i s' h2;split at h2<;>cases h2
    rename_i hlt;obtain⟨L,k1,k2,k3⟩:=hs;rw[zrw];exact⟨L,by rw[(hl s hlt).1];exact k1,k2,fun e'=>by
     obtain⟨r,r1,r2⟩:=k3 e';exact⟨r,by rw[(hl s hlt).2];exact r1,r2⟩⟩⟩
 | .ptr s off,v,hr=>hg.1 s off v hr
 | .bsl s off n sz f,v,hr=>hg.2 s off n sz f v hr
 | .iptr cs,v,⟨b,o,e,hc⟩=>⟨b,o,e,z6n hIT hF hw hl hg cs b o hc⟩
 | .clos f caps,v,⟨vs,e,hr⟩=>⟨vs,e,zdm hIT hF hw hl hg caps vs hr⟩
 | .iter xs,v,h2=>hIT.it _ _ _ _ hF (fun b o h=>by rw[hw]) (Szs.eq hw) h2
 | .yld _,_,hr=>hr
 | .top,_,hr=>hr
 | .bad,_,hr=>hr
theorem zdm (hIT:ITMono IT) {X Y:Cx} {m:Nat} {g:FZ} (hF: ∀b o,X.F b o->Y.F b o)(hw:Y.w=X.w)(hl: ∀s,s<m->Y.lens[s]? =X.lens[s]? /\ Y.β[s]? =X.β[s]?)
 (hg:(∀s off v,Rep IT X (.ptr s off) v->Rep IT Y (g.1 s off) v)/\ ∀s off n sz f v,Rep IT X (.bsl s off n sz f) v->Rep IT Y (g.2 s off n sz) v): ∀(l:List AV) (vs:List Value),zbk IT X l vs->zbk IT Y (zy m g l) vs
 |[],_,hr=>hr
 |a::l,vs,⟨v,r,e,h1,h2⟩=>⟨v,r,e,zli hIT hF hw hl hg a v h1,zdm hIT hF hw hl hg l r h2⟩
theorem z6n (hIT:ITMono IT) {X Y:Cx} {m:Nat} {g:FZ} (hF: ∀b o,X.F b o->Y.F b o)(hw:Y.w=X.w)(hl: ∀s,s<m->Y.lens[s]? =X.lens[s]? /\ Y.β[s]? =X.β[s]?)
 (hg:(∀s off v,Rep IT X (.ptr s off) v->Rep IT Y (g.1 s off) v)/\ ∀s off n sz f v,Rep IT X (.bsl s off n sz f) v->Rep IT Y (g.2 s off n sz) v): ∀(cs:List AV) (b o:Nat),At IT X cs b o->At IT Y (zy m g cs) b o
 |[],_,_,_=>trivial
 |c::cs,b,o,⟨⟨hf,v,hv,h1,hr⟩,ht⟩=>⟨⟨hF b o hf,v,by rw[hw];exact hv,h1,zli hIT hF hw hl hg c v hr⟩,z6n hIT hF hw hl hg cs b (o+1) ht⟩
end
def zgb (n:Nat)(fs js:List Nat)(s:Nat):Option Nat:=
 if s<n then(if fs.contains s then none else some s) else(if js.contains s then some (n+js.idxOf s) else none)
def kz (bs:List (TypeId×List AV))(m n:Nat)(fs js:List Nat):Nat->FZ
 |0=>(fun s off=>match zgb n fs js s with|some s'=> .ptr s' off|none=> .top,fun s off k sz=>match zgb n fs js s with|some s'=> .bsl s' off k sz false|none=> .top)
 | d+1=>(fun s off=>match zgb n fs js s with|some s'=> .ptr s' off|none=> .iptr (zy m (kz bs m n fs js d) (((bs[s]?).map fun b=>b.2.drop off).getD [])),
  fun s off k sz=>match zgb n fs js s with|some s'=> .bsl s' off k sz false|none=> .list k ((zy m (kz bs m n fs js d) (((bs[s]?).map fun b=>b.2.drop off).getD [])).take (k*sz)) .none)
def zcg (bs:List (TypeId×List AV))(m n:Nat)(fs js:List Nat)(d:Nat):List (TypeId×List AV):=
 ((bs.take n).mapIdx fun i b=>(b.1,if fs.contains i then[] else zy m (kz bs m n fs js d) b.2))++js.map fun j=>((bs[j]?).map fun b=>(b.1,zy m (kz bs m n fs js d) b.2)).getD (0,[.bad])
def zeo (U:St)(m n:Nat)(fs js:List Nat)(d:Nat):St:={U with boxes:=zcg U.boxes m n fs js d,lens:=U.lens.take m,elems:=U.elems.take m}
def zcz (U:St)(n:Nat)(js:List Nat):Bool:=decide (n<=U.boxes.length)&&js.all (fun j=>decide (n<=j)&&decide (j<U.boxes.length))&&decide js.Nodup
def FrzK (U:St)(n:Nat)(fs js:List Nat)(Y:Cx)(b o:Nat):Prop:=Y.F b o \/ ∃s bx,Y.κ[s]? =some b/\ U.boxes[s]? =some bx/\ zgb n fs js s=none/\ o<bx.2.length
def zdg (U:St)(m n:Nat)(fs js:List Nat)(Y:Cx):Cx:=
 {Y with F:=FrzK U n fs js Y,κ:=Y.κ.take n++js.map fun j=>Y.κ[j]?.getD 0,β:=Y.β.take m,lens:=Y.lens.take m}
theorem qfi {m:Nat} {fs js:List Nat} (hI:Inv IT U Y)(hok:zcz U n js=true) {s s' b:Nat} (hp:zgb n fs js s=some s')(hs:Y.κ[s]? =some b):(zdg U m n fs js Y).κ[s']? =some b:=by
 simp only[zcz,and_eq_true,decide_eq_true_eq] at hok;obtain⟨⟨h1,h2⟩,h3⟩:=hok;have hl:=hI.κlen
 show(Y.κ.take n++js.map fun j=>Y.κ[j]?.getD 0)[s']? =some b
 unfold zgb at hp;split at hp
 ·rename_i hlt;split at hp<;>cases hp
  rw[getElem?_append_left (by simp;omega),getElem?_take,if_pos hlt];exact hs
 ·split at hp<;>cases hp
  rename_i hc;have hm:s∈js:=by simpa using hc
  have hi:=List.idxOf_lt_length_of_mem hm;have hlen:(Y.κ.take n).length=n:=by simp;omega
  rw[List.getElem?_append_right (by omega),hlen,Nat.add_sub_cancel_left,getElem?_map,getElem?_eq_getElem hi,map_some,List.getElem_idxOf,hs];rfl
theorem z3q {m:Nat} {fs js:List Nat} (hI:Inv IT U Y)(hok:zcz U n js=true) {s' b:Nat} (hs:(zdg U m n fs js Y).κ[s']? =some b):
 ∃s,Y.κ[s]? =some b/\ ((s'<n/\ s=s') \/(n<=s'/\ js[s'-n]? =some s)):=by
 simp only[zcz,and_eq_true,decide_eq_true_eq] at hok;obtain⟨⟨h1,h2⟩,h3⟩:=hok;have hl:=hI.κlen;have hs:(Y.κ.take n++js.map fun j=>Y.κ[j]?.getD 0)[s']? =some b:=hs;have hlen:(Y.κ.take n).length=n:=by simp;omega
 rcases Nat.lt_or_ge s' n with hlt|hge
 ·rw[getElem?_append_left (by omega),getElem?_take,if_pos hlt] at hs;exact⟨s',hs,.inl ⟨hlt,rfl⟩⟩
 ·rw[List.getElem?_append_right (by omega),hlen,getElem?_map] at hs;cases hj:js[s'-n]? with
  |none=>rw[hj] at hs;cases hs
  | some j=>
   rw[hj] at hs;have hjm:=mem_of_getElem? hj;have hjl:=all_eq_true.1 h2 j hjm;simp only[and_eq_true,decide_eq_true_eq] at hjl;have hjk:Y.κ[j]? =some (Y.κ[j]'(by omega)):=getElem?_eq_getElem _;rw[map_some,hjk] at hs;exact⟨j,by rw[hjk];simpa using hs,.inr ⟨hge,rfl⟩⟩
theorem z0q {m d:Nat} {fs js:List Nat} (hok:zcz U n js=true) {s':Nat} {t:TypeId} {cs:List AV} (hb:(zcg U.boxes m n fs js d)[s']? =some (t,cs)) {s:Nat} (hs:(s'<n/\ s=s') \/(n<=s'/\ js[s'-n]? =some s)):
 ∃cs0,U.boxes[s]? =some (t,cs0)/\ ((zgb n fs js s=none/\ cs=[]) \/cs=zy m (kz U.boxes m n fs js d) cs0)/\ (cs≠[]->zgb n fs js s≠none):=by
 simp only[zcz,and_eq_true,decide_eq_true_eq] at hok;obtain⟨⟨h1,h2⟩,h3⟩:=hok;unfold zcg at hb;have hlen:((U.boxes.take n).mapIdx fun i b=>(b.1,if fs.contains i=true then[] else zy m (kz U.boxes m n fs js d) b.2)).length=n:=by simp;omega
 rcases hs with⟨hlt,rfl⟩|⟨hge,hj⟩
 ·rw[getElem?_append_left (by omega),List.getElem?_mapIdx,getElem?_take,if_pos hlt,getElem?_eq_getElem (by omega)] at hb;simp only[map_some,Option.some.injEq,Prod.mk.injEq] at hb;obtain⟨hb1,hb2⟩:=hb;refine⟨U.boxes[s].2,by rw[getElem?_eq_getElem (by omega), <-hb1],?_,?_⟩
  ·by_cases hf:fs.contains s=true
   ·rw[if_pos hf] at hb2;exact .inl ⟨by rw[zgb,if_pos hlt,if_pos hf],hb2.symm⟩
   ·rw[if_neg hf] at hb2;exact .inr hb2.symm
  ·intro hne;by_cases hf:fs.contains s=true
   ·rw[if_pos hf] at hb2;exact absurd hb2.symm hne
   ·rw[zgb,if_pos hlt,if_neg hf];simp
 ·have hjm:=mem_of_getElem? hj;have hjl:=all_eq_true.1 h2 s hjm;simp only[and_eq_true,decide_eq_true_eq] at hjl;rw[List.getElem?_append_right (by omega),hlen,getElem?_map,hj,map_some,getElem?_eq_getElem hjl.2] at hb;simp only[map_some,getD_some,Option.some.injEq,Prod.mk.injEq] at hb;refine⟨U.boxes[s].2,by rw[getElem?_eq_getElem hjl.2, <-hb.1],.inr hb.2.symm,fun _=> ?_⟩;rw[zgb,if_neg (by omega),if_pos (by simpa using hjm)];simp
theorem zpq (hIT:ITMono IT) {U:St} {Y:Cx} (hI:Inv IT U Y) {m n:Nat} {fs js:List Nat} (hok:zcz U n js=true): ∀d,
 (∀s off v,Rep IT Y (.ptr s off) v->Rep IT (zdg U m n fs js Y) ((kz U.boxes m n fs js d).1 s off) v)/\ ∀s off k sz f v,Rep IT Y (.bsl s off k sz f) v->Rep IT (zdg U m n fs js Y) ((kz U.boxes m n fs js d).2 s off k sz) v:=by
 have hrows: ∀s,s<m->(zdg U m n fs js Y).lens[s]? =Y.lens[s]? /\ (zdg U m n fs js Y).β[s]? =Y.β[s]? :=fun s hs=>by
  constructor
  ·show(Y.lens.take m)[s]? =_
   rw[getElem?_take,if_pos hs]
  ·show(Y.β.take m)[s]? =_
   rw[getElem?_take,if_pos hs]
 have kept1: ∀s s' off v,zgb n fs js s=some s'->Rep IT Y (.ptr s off) v->Rep IT (zdg U m n fs js Y) (.ptr s' off) v:=by
  rintro s s' off v hp ⟨b,hb,rfl⟩;exact⟨b,qfi hI hok hp hb,rfl⟩
 have kept2: ∀s s' off k sz f v,zgb n fs js s=some s'->Rep IT Y (.bsl s off k sz f) v->Rep IT (zdg U m n fs js Y) (.bsl s' off k sz false) v:=by
  rintro s s' off k sz f v hp ⟨b,cap,cur,t,hb,rfl,hcap,hful,hrow⟩;exact⟨b,cap,cur,t,qfi hI hok hp hb,rfl,hcap,(fun h=>by cases h),hrow⟩
 intro d;induction d with
 | zero=>
  refine⟨fun s off v hr=> ?_,fun s off k sz f v hr=> ?_⟩
  ·simp only[kz];split
   ·rename_i s' hp;exact kept1 s s' off v hp hr
   ·trivial
  ·simp only[kz];split
   ·rename_i s' hp;exact kept2 s s' off k sz f v hp hr
   ·trivial
 | succ d ih=>
  have key: ∀(s b off:Nat),Y.κ[s]? =some b->zgb n fs js s=none->At IT (zdg U m n fs js Y) (zy m (kz U.boxes m n fs js d) (((U.boxes[s]?).map fun b=>b.2.drop off).getD [])) b off:=fun s b off hb hp=>by
   have hs:s<U.boxes.length:=by rw[<-hI.κlen];exact(List.getElem?_eq_some_iff.1 hb).1
   obtain⟨us,zs,u1,u2,u3⟩:=hI.box s b (U.boxes[s]).1 (U.boxes[s]).2 hb (by simp[hs]);have hul:=zr u2;simp only[getElem?_eq_getElem hs,map_some,getD_some];have hcell: ∀(i:Nat) v,(us.drop off)[i]? =some v->Y.w.cell? ⟨b,off+i,none⟩=some v:=fun i v hv=>by
    rw[List.getElem?_drop] at hv;have:=(List.getElem?_eq_some_iff.1 hv).1;unfold World.cell?;simp[u1,getElem?_append_left this,hv]
   exact z1e (fun i hi=> .inr ⟨s,U.boxes[s],hb,by simp[hs],hp,by simp at hi;omega⟩) (fun v hv=>u3 v (List.mem_of_mem_drop hv)) (zdm (X:=Y) (Y:=zdg U m n fs js Y) hIT (fun b o h=>Or.inl h) rfl hrows ih _ _ (ziq u2 off)) hcell
  refine⟨fun s off v hr=> ?_,fun s off k sz f v hr=> ?_⟩
  ·simp only[kz];split
   ·rename_i s' hp;exact kept1 s s' off v hp hr
   ·rename_i hp;obtain⟨b,hb,rfl⟩:=hr;exact⟨b,off,rfl,key s b off hb hp⟩
  ·simp only[kz];split
   ·rename_i s' hp;exact kept2 s s' off k sz f v hp hr
   ·rename_i hp;obtain⟨b,cap,cur,t,hb,rfl,hcap,hful,_⟩:=hr;exact⟨_,cap,rfl,⟨hcap,fun h=>by cases h⟩,.inr ⟨b,off,rfl,z0e _ (key s b off hb hp)⟩,trivial⟩
theorem zix {m:Nat} {fs js:List Nat}: ∀s,s<m->(zdg U m n fs js Y).lens[s]? =Y.lens[s]? /\ (zdg U m n fs js Y).β[s]? =Y.β[s]? :=fun s hs=>by
 constructor
 ·show(Y.lens.take m)[s]? =_
  rw[getElem?_take,if_pos hs]
 ·show(Y.β.take m)[s]? =_
  rw[getElem?_take,if_pos hs]
theorem keepF (hI:Inv IT U Y) {m n:Nat} {fs js:List Nat} {b o:Nat} (h:(zdg U m n fs js Y).F b o):Y.F b o \/b∈Y.κ:=by
 rcases h with h|⟨s,bx,h1,_⟩
 ·exact .inl h
 ·exact .inr (mem_of_getElem? h1)
theorem qbi (hI:Inv IT U Y) {m n:Nat} {fs js:List Nat} (hok:zcz U n js=true) {b:Nat} (h:b∈(zdg U m n fs js Y).κ):b∈Y.κ:=by
 obtain⟨s',hs,rfl⟩:=List.mem_iff_getElem.1 h;obtain⟨s,h1,_⟩:=z3q hI hok (getElem?_eq_getElem hs);exact mem_of_getElem? h1
theorem zto (hIT:ITMono IT) {U:St} {Y:Cx} (hI:Inv IT U Y) {m n:Nat} {fs js:List Nat} (hok:zcz U n js=true)(d:Nat):Inv IT (zeo U m n fs js d) (zdg U m n fs js Y):=by
 have hok':=hok;simp only[zcz,and_eq_true,decide_eq_true_eq] at hok';obtain⟨⟨h1,h2⟩,h3⟩:=hok';have hl:=hI.κlen;have hrep:=zpq hIT hI (m:=m) (fs:=fs) hok d;refine {lens:= ?_,elems:= ?_,κlen:= ?_,κnd:= ?_,box:= ?_,κF:= ?_,βlen:= ?_,βnd:= ?_,βκ:= ?_,row:= ?_,Ok:= ?_,Fcell:= ?_,gv:=hIT.gv _ _ _ _ (fun b o h=>Or.inl h) (fun _ _ _=>rfl) (Szs.refl _) hI.gv}
 ·show Y.lens.take m=U.lens.take m;rw[hI.lens]
 ·show(Y.β.take m).map (·.elem)=U.elems.take m
  rw[<-hI.elems,List.map_take]
 ·show(Y.κ.take n++js.map fun j=>Y.κ[j]?.getD 0).length=(zcg U.boxes m n fs js d).length
  simp[zcg];omega
 ·intro s1 s2 b k1 k2 hne;obtain⟨r1,a1,b1⟩:=z3q hI hok k1;obtain⟨r2,a2,b2⟩:=z3q hI hok k2;have hne':r1≠r2:=fun e=>by
   subst e;rcases b1 with⟨c1,rfl⟩|⟨c1,c2⟩<;>rcases b2 with⟨d1,d2⟩|⟨d1,d2⟩
   ·exact hne d2
   ·have hjl:=all_eq_true.1 h2 _ (mem_of_getElem? d2);simp only[and_eq_true,decide_eq_true_eq] at hjl;omega
   ·have hjl:=all_eq_true.1 h2 _ (mem_of_getElem? c2);simp only[and_eq_true,decide_eq_true_eq] at hjl;omega
   ·obtain⟨x1,x2⟩:=List.getElem?_eq_some_iff.1 c2;obtain⟨y1,y2⟩:=List.getElem?_eq_some_iff.1 d2;have:=(List.getElem_inj h3 (h₀:=x1) (h₁:=y1)).1 (x2.trans y2.symm);omega
  have fin: ∀(s r:Nat),(zdg U m n fs js Y).κ[s]? =some b->((s<n/\ r=s) \/(n<=s/\ js[s-n]? =some r))->(∃t,U.boxes[r]? =some (t,[]))-> ∃t,(zcg U.boxes m n fs js d)[s]? =some (t,[]):=by
   rintro s r ks hs ⟨t,hb⟩;have hlen:s<(zcg U.boxes m n fs js d).length:=by
    have h4:=(List.getElem?_eq_some_iff.1 ks).1;have h5:s<(Y.κ.take n++js.map fun j=>Y.κ[j]?.getD 0).length:=h4;simp[zcg] at h5⊢;omega
   obtain⟨cs0,e1,e2,_⟩:=z0q (t:=((zcg U.boxes m n fs js d)[s]).1) (cs:=((zcg U.boxes m n fs js d)[s]).2) hok (getElem?_eq_getElem hlen) hs;rw[hb] at e1;cases e1;refine⟨((zcg U.boxes m n fs js d)[s]).1,?_⟩;rw[getElem?_eq_getElem hlen];have:((zcg U.boxes m n fs js d)[s]).2=[]:=by
    rcases e2 with⟨_,e2⟩|e2
    ·exact e2
    ·rw[e2,zy]
   rw[<-this]
  exact(hI.κnd r1 r2 b a1 a2 hne').imp (fin s1 r1 k1 b1) (fin s2 r2 k2 b2)
 ·intro s b t cs hs hb;obtain⟨r,a1,b1⟩:=z3q hI hok hs;obtain⟨cs0,e1,e2,_⟩:=z0q hok hb b1;obtain⟨us,zs,u1,u2,u3⟩:=hI.box r b t cs0 a1 e1;rcases e2 with⟨_,rfl⟩|rfl
  ·exact⟨[],us++zs,u1,by rw[zbk],by simp⟩
  ·exact⟨us,zs,u1,zdm (X:=Y) (Y:=zdg U m n fs js Y) hIT (fun b o h=>Or.inl h) rfl zix hrep _ _ u2,u3⟩
 ·intro s b t cs hs hb hne o hf;obtain⟨r,a1,b1⟩:=z3q hI hok hs;obtain⟨cs0,e1,e2,e3⟩:=z0q hok hb b1;have hp:=e3 hne;have hne0:cs0≠[]:=fun e=>by
   subst e;rcases e2 with⟨_,e2⟩|e2
   ·exact hne e2
   ·exact hne (by rw[e2,zy])
  rcases hf with hf|⟨s2,bx,f1,f2,f3,f4⟩
  ·exact hI.κF r b t cs0 a1 e1 hne0 o hf
  ·have hne2:r≠s2:=fun e=>by subst e;exact hp f3
   rcases hI.κnd r s2 b a1 f1 hne2 with⟨t2,h⟩|⟨t2,h⟩
   ·rw[e1] at h;cases h;exact hne0 rfl
   ·rw[f2] at h;cases h;simp at f4
 ·show(Y.β.take m).length=(Y.lens.take m).length
  simp[hI.βlen]
 ·show((Y.β.take m).map (·.block)).Nodup
  rw[List.map_take];exact hI.βnd.sublist (List.take_sublist _ _)
 ·intro r hr hm;exact hI.βκ r (List.mem_of_mem_take hr) (qbi hI hok hm)
 ·intro s r L hr hL;have hr:(Y.β.take m)[s]? =some r:=hr;have hL:(Y.lens.take m)[s]? =some L:=hL;rw[getElem?_take] at hr hL;split at hr<;>try cases hr
  rename_i hs;rw[if_pos hs] at hL;obtain⟨cur,fz,c1,c2,c3,c4,c5,c6,c7⟩:=hI.row s r L hr hL;refine⟨cur,fz,c1,c2,c3,c4,c5,fun o hf=> ?_,c7⟩;rcases hf with hf|⟨s2,bx,f1,_⟩
  ·exact c6 o hf
  ·exact absurd (mem_of_getElem? f1) (hI.βκ r (mem_of_getElem? hr))
 ·intro b ho;obtain⟨k1,k2,k3,k4⟩:=hI.Ok b ho;refine⟨k1,fun hm=>k2 (qbi hI hok hm),fun r hr=>k3 r (List.mem_of_mem_take hr),fun o hf=> ?_⟩;rcases hf with hf|⟨s2,bx,f1,_⟩
  ·exact k4 o hf
  ·exact absurd (mem_of_getElem? f1) k2
 ·intro b o hf;rcases hf with hf|⟨s,bx,f1,f2,f3,f4⟩
  ·exact hI.Fcell b o hf
  ·obtain⟨t,cs⟩:=bx;obtain⟨us,zs,u1,u2,u3⟩:=hI.box s b t cs f1 f2;have hul:=zr u2;simp only at f4;refine⟨us[o]'(by omega),?_⟩;show Y.w.cell? _=_;rw[cell_of_row _ _ _ _ _ _ u1];rw[List.getElem?_toArray,getElem?_append_left (by omega)];exact getElem?_eq_getElem _
theorem ztk {X:Cx} (hE:Ext X Y)(hI:Inv IT U Y) {m n:Nat} {fs js:List Nat} (hok:zcz U n js=true)(hn:X.κ.length<=n)(hm:X.lens.length<=m):Ext X (zdg U m n fs js Y):=by
  have hok':=hok;simp only[zcz,and_eq_true,decide_eq_true_eq] at hok';have hl:=hI.κlen
  exact { os :=hE.os,tape:=hE.tape,output:=hE.output,size:=hE.size,drawn:=hE.drawn,cell:=hE.cell
          F:=fun b o h=> .inl (hE.F b o h)
          κ :=fun s b hs=>by
            have:=(List.getElem?_eq_some_iff.1 hs).1
            show(Y.κ.take n++js.map fun j=>Y.κ[j]?.getD 0)[s]? =some b
            rw[getElem?_append_left (by simp;omega),getElem?_take,if_pos (by omega)];exact hE.κ s b hs
          lens:=fun s L hs=>by
            have hsm:s<m:=by have:=(List.getElem?_eq_some_iff.1 hs).1;omega
            obtain⟨L',k1,k2,k3⟩:=hE.lens s L hs;obtain⟨q1,q2⟩:=zix (U:=U) (Y:=Y) (n:=n) (fs:=fs) (js:=js) s hsm;exact⟨L',by rw[q1];exact k1,k2,fun e=>by rw[q2];exact k3 e⟩
          blk:=hE.blk
          szs:=hE.szs
          frame:=hE.frame
          κnew:=fun b hb=>hE.κnew b (qbi hI hok hb)
          βnew:=fun r hr=>hE.βnew r (List.mem_of_mem_take hr)
          O:=hE.O
          C:=hE.C
          Fnew :=fun b o h=>by
            rcases keepF hI h with h|h
            . exact hE.Fnew b o h
            . rcases hE.κnew b h with h|h
              . exact .inr (.inr (.inr h))
              . exact .inr (.inl h)}
end Go.Ab
