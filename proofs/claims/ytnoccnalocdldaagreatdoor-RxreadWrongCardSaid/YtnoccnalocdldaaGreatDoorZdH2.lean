import Derived.Test.YtnoccnalocdldaaGreatDoorZdF
import Derived.Laws.IdiomStrings
import Derived.Lib.BufferRead
import Derived.OrdersIn
import Derived.LoopNIn
set_option linter.all false
open Bool (and_eq_true)
open Option (map_some getD_some)
open List (mem_of_getElem? getElem?_eq_getElem getElem?_append_left all_eq_true getElem?_take getElem?_map mem_map map_cons)
namespace Go.Ab
open Go Go.RowKit Go.Fwd
variable {IT:IterP} {X:Cx} {S:List AV} {P:Program} {U:St} {ρ:Operand->AV}
def zby (S:List AV):Operand->AV
 | .tmp t=>(S[t]?).getD (.raw undef)
 | .const v=>if zof v then zje v else .raw v
 | .func f=> .clos f []
 | .global g=> .raw (.pointer (some ⟨g,0,none⟩))
def znw (IT:IterP)(X:Cx)(S:List AV)(tmps:Array Value):Prop:=zbh IT X S tmps.toList
theorem zdo {a:Act} (h:znw IT X S a.tmps)(x:Operand):Rep IT X (zby S x) (a.eval x):=by
 cases x with
 | tmp t=>
  simp only[zby,Act.eval];have hl:S.length=a.tmps.size:=by have:=zp h;simpa using this
  rcases Nat.lt_or_ge t S.length with hlt|hge
  ·obtain⟨v,hv,hr⟩:=zem h t S[t] (by simp[hlt]);have:a.tmps[t]? =some v:=by simpa using hv
   simpa[this,hlt] using hr
  ·have h1:S[t]? =none:=List.getElem?_eq_none hge;have h2:a.tmps[t]? =none:=Array.getElem?_eq_none (by omega);simp[h1,h2,Rep]
 | const v=>
  simp only[zby,Act.eval];split
  ·rename_i h;exact zkc v h
  ·rw[Rep]
 |func f=>simp only[zby,Act.eval,Rep];exact⟨[],rfl,by rw[zbh]⟩
 |global g=>simp[zby,Act.eval,Rep]
theorem zqa {a:Act} (h:znw IT X S a.tmps)(d:Option Tmp) {x:AV} {v:Value} (hx:Rep IT X x v):znw IT X (match d with|some t=>S.set t x|none=>S) (a.put d v).tmps:=by
 cases d with
 |none=>exact h
 | some t=>
  have hl:=zp h;refine zgi (by simp[Act.put];simpa using hl) fun i b u h1 h2=> ?_;simp only[Act.put,Array.toList_setIfInBounds] at h2;by_cases e:t=i
  ·subst e;have hlt:t<S.length:=by have:=(List.getElem?_eq_some_iff.1 h1).1;simpa using this
   rw[List.getElem?_set_self hlt] at h1;rw[List.getElem?_set_self (by rw[<-hl];exact hlt)] at h2;cases h1;cases h2;exact hx
  ·rw[List.getElem?_set_ne e] at h1 h2;obtain⟨u',e',hr⟩:=zem h i b h1;rw[h2] at e';cases e';exact hr
def zzy:List AV->Option (List UInt8)
 |[]=>some []
 | .raw (.int .u8 k)::l=>match zzy l with
  |some r=>if 0<=k/\ k<256 then some (UInt8.ofNat k.toNat::r) else none
  |none=>none
 |_=>none
theorem z8y: ∀ {cs:List AV} {l:List UInt8},zzy cs=some l->cs=l.map fun x=> .raw (.int .u8 ((x.toNat:Nat):Int))
 |[],l,h=>by simp only[zzy,Option.some.injEq] at h;subst h;rfl
 | a ::cs,l,h=>by
  cases a with
  | raw u=>
   cases u with
   | int k n=>
    cases k<;>try(simp only[zzy] at h;cases h)
    rw[zzy] at h;cases hr:zzy cs with
    |none=>rw[hr] at h;cases h
    | some r=>
     rw[hr] at h;simp only at h;split at h<;>cases h
     rename_i hk;rw[map_cons, <-z8y hr];congr 3
     rw[UInt8.toNat_ofNat'];omega
   |_=>simp only[zzy] at h;cases h
  |_=>simp only[zzy] at h;cases h
def zqr (P:Program)(s t:TypeId):AV->Option AV
 | .list n cs _=>match P.underlying s,P.underlying t with
  | some (.slice e),some .string=>match P.underlying e,zzy cs with
   |some (.int .u8),some l=>if l.length=n then some (.raw (.string ⟨l.toArray⟩)) else none
   |_,_=>none
  |_,_=>none
 |_=>none
theorem qak: ∀ {l:List UInt8} {vs:List Value},zbh IT X (l.map fun x=> .raw (.int .u8 ((x.toNat:Nat):Int))) vs->vs=l.map fun x=> .int .u8 ((x.toNat:Nat):Int)
 |[],vs,h=>by rw[List.map_nil,zbh] at h;exact h
 | x::l,vs,h=>by
  rw[map_cons,zbh] at h;obtain⟨v,r,rfl,h1,h2⟩:=h;rw[Rep] at h1;rw[h1,qak h2];rfl
theorem zur {s t:TypeId} {x a:AV} {v:Value} (h:zqr P s t x=some a)(hx:Rep IT X x v): ∃r,(convert s t v).run P X.w= .ok r X.w/\ Rep IT X a r:=by
 unfold zqr at h;split at h<;>try cases h
 rename_i n cs st;split at h<;>try cases h
 rename_i e hs ht;split at h<;>try cases h
 rename_i l he hl;split at h<;>cases h
 rename_i hn;subst hn;have hcs:=z8y hl;rw[Rep] at hx;obtain⟨ad,cap,rfl,_,hc,_⟩:=hx;refine⟨_,?_,by rw[Rep]⟩;rcases hc with hc|⟨b,o,rfl,hat⟩
 ·have:l=[]:=by rw[hc] at hcs;exact List.map_eq_nil_iff.1 hcs.symm
  subst this;cases ad with
  |none=>exact Go.Lib.run_convert_nil_bytes X.w s t e cap hs he ht
  |some ad=>exact Go.run_convert_bytes_back X.w s t e ad cap [] hs he ht (fun j hj=>by simp at hj)
 ·subst hcs;obtain⟨us,u1,u2,u3⟩:=zhb hat
  have hus:=qak u1;subst hus;exact Go.run_convert_bytes_back X.w s t e ⟨b,o,none⟩ cap l hs he ht (fun j hj=>by rw[zhi];exact u3 j _ (by simp[hj]))
def qop (P:Program)(ρ:Operand->AV)(U:St)(o:Oper):Option AV:=
 match o.op with
 | .move x| .assign x=>some (ρ x)
 | .pick c a b=>match ρ c with| .raw (.bool t)=>some (bif t then ρ a else ρ b)|_=>none
 | .build t parts=>match qgu P t (parts.toList.map fun p=>(p.1,ρ p.2)) with|some a=>some a|none=>zfz P ρ o
 | .buildSlice t n parts=>zpx P t n (parts.toList.map fun p=>(p.1,ρ p.2))
 | .load t x=>zlu P U t (ρ x)
 | .fieldAddr t x f=>znd P t f (ρ x)
 | .indexAddr t x i=>zih P t (ρ x) (ρ i)
 | .field t x f=>match qhj P t f (ρ x) with|some a=>some a|none=>zfz P ρ o
 | .index t x i=>match qho P t (ρ x) (ρ i) with|some a=>some a|none=>zfz P ρ o
 | .slice t x lo hi mx=>match zlm P t (ρ x) (lo.map ρ) (hi.map ρ) (mx.map ρ) with|some a=>some a|none=>zfz P ρ o
 | .extract x i=>match ρ x with| .tup vs=>vs[i]? |_=>none
 | .makeFunc (.func f) first caps=>if first.size=0 then some (.clos f (caps.toList.map ρ)) else none
 | .call c=>match c.callee with
  | .builtin .len=>match c.args.toList,c.argTypes.toList with
   |[x],[t]=>match qdj P t (ρ x) with|some a=>some a|none=>zfz P ρ o
   |_,_=>none
  | .builtin .append=>none
  | .builtin _=>zfz P ρ o
  |_=>none
 | .convert s t x=>match zqr P s t (ρ x) with|some a=>some a|none=>zfz P ρ o
 | .nilCheck x=>match ρ x with| .ptr s off=>some (.ptr s off)| .iptr cs=>some (.iptr cs)|_=>zfz P ρ o
 | .alloc _| .box _ _| .store _ _ _=>none
 |_=>zfz P ρ o
def ResQ (IT:IterP)(X:Cx)(U:St)(a:AV)(r:Result Next):Prop:=
 ∃v X',r= .ok (.value v) X'.w/\ Ext X X'/\ Inv IT U X'/\ Rep IT X' a v/\ Grows X.w X'.w/\ X'.κ=X.κ/\ X'.β=X.β/\ X'.lens=X.lens/\ (X'.O=X.O/\ X'.C=X.C)/\ ∀b i,X'.F b i->X.F b i \/X.w.heap.size<=b
theorem zcj {a:AV} {r:Result Next} (v:Value)(h:r= .ok (.value v) X.w)(hI:Inv IT U X)(hr:Rep IT X a v):ResQ IT X U a r:=
 ⟨v,X,h,Ext.refl X,hI,hr,Grows.refl _,rfl,rfl,rfl,⟨rfl,rfl⟩,fun _ _ h=> .inl h⟩
theorem z1b {ρc:Operand->Value} {o:Oper} {a:AV} (h:zfz P ρ o=some a)(hρ: ∀x∈o.op.operands,Rep IT X (ρ x) (ρc x))(hI:Inv IT U X):
 ResQ IT X U a ((execOp ρc o).run P X.w):=by
 unfold zfz at h;split at h
 ·rename_i hall;have hcongr:(∀cs b,o.op≠ .select cs b)->execOp (zbw ρ) o=execOp ρc o:=fun hs=>execOp_congr o hs fun x hx=>by
   have h1:=all_eq_true.1 hall x (Array.mem_toList_iff.2 hx);obtain⟨u,hu⟩:=Option.isSome_iff_exists.1 h1;rw[z4r hu (hρ x hx)];simp[zbw,hu]
  have fin:(∀cs b,o.op≠ .select cs b)->(match val? P (execOp (zbw ρ) o) with|some (.value v)=>if zof v then some (zje v) else none|_=>none)=some a->ResQ IT X U a ((execOp ρc o).run P X.w):=fun hs h=>by
   rw[hcongr hs] at h;split at h
   ·rename_i v hv;split at h
    ·rename_i hok;cases h;exact zcj v (val?_run _ _ hv _) hI (zkc v hok)
    ·cases h
   ·cases h
  revert h;split
  ·intro h;cases h
  ·rename_i hne;exact fin fun cs b e=>hne cs b e
 ·cases h
theorem zmr {ρc:Operand->Value}: ∀l:List (Nat×Operand),(∀p∈l,Rep IT X (ρ p.2) (ρc p.2))->zsw IT X (l.map fun p=>(p.1,ρ p.2)) (l.map fun p=>(p.1,ρc p.2))
 |[],_=>by simp[zsw]
 |p::l,h=>by rw[map_cons,map_cons,zsw];exact⟨_,_,rfl,h p (by simp),zmr l fun q hq=>h q (by simp[hq])⟩
theorem ztn {ρc:Operand->Value}: ∀l:List Operand,(∀x∈l,Rep IT X (ρ x) (ρc x))->zbh IT X (l.map ρ) (l.map ρc)
 |[],_=>by simp[zbh]
 |x::l,h=>by rw[map_cons,map_cons,zbh];exact⟨_,_,rfl,h x (by simp),ztn l fun y hy=>h y (by simp[hy])⟩
theorem z0c {ρc:Operand->Value} (x:Option Operand)(hρ: ∀y,x=some y->Rep IT X (ρ y) (ρc y)):qgs IT X (x.map ρ) (x.map ρc):=by
 cases x with
 |none=>rfl
 |some x=>exact⟨_,rfl,hρ x rfl⟩
theorem zqn (hIT:ITMono IT) {P:Program} {X:Cx} {U:St} {ρ:Operand->AV} {ρc:Operand->Value} {o:Oper} {a:AV} (h:qop P ρ U o=some a)(hρ: ∀x∈o.op.operands,Rep IT X (ρ x) (ρc x))(hI:Inv IT U X):
 ResQ IT X U a ((execOp ρc o).run P X.w):=by
 have raw:zfz P ρ o=some a->ResQ IT X U a ((execOp ρc o).run P X.w):=fun h=>z1b h hρ hI;unfold qop at h;split at h
 ·rename_i x ho;cases h;exact zcj _ (by simp[execOp,ho]) hI (hρ x (by simp[ho,Op.operands]))
 ·rename_i x ho;cases h;exact zcj _ (by simp[execOp,ho]) hI (hρ x (by simp[ho,Op.operands]))
 ·rename_i c x y ho;split at h<;>try cases h
  rename_i t hc;have hcv:=hρ c (by simp[ho,Op.operands]);rw[hc,Rep] at hcv;refine zcj (if t then ρc x else ρc y) (by simp[execOp,ho,hcv,asBool]) hI ?_;cases t
  ·exact hρ y (by simp[ho,Op.operands])
  ·exact hρ x (by simp[ho,Op.operands])
 ·rename_i t parts ho;split at h
  ·rename_i b hb;cases h;obtain⟨v,h1,h2⟩:=z3u (P:=P) (qs:=parts.map fun(i,x)=>(i,ρc x)) hb (by simpa using zmr (IT:=IT) (X:=X) (ρ:=ρ) (ρc:=ρc) parts.toList fun p hp=>hρ p.2 (by rw[ho];simp only[Op.operands,List.mem_toArray,mem_map];exact⟨p,hp,rfl⟩));exact zcj v (by simp[execOp,ho,h1]) hI h2
  ·exact raw h
 ·rename_i t n parts ho
  obtain⟨v,X',h1,h2,h3,h4,h5⟩: ∃v X',(Instr.buildSlice t n (parts.map fun(i,x)=>(i,ρc x))).run P X.w= .ok v X'.w/\ Ext X X'/\ Inv IT U X'/\ Rep IT X' a v/\
   Grows X.w X'.w/\ X'.κ=X.κ/\ X'.β=X.β/\ X'.lens=X.lens/\ (X'.O=X.O/\ X'.C=X.C)/\ ∀b i,X'.F b i->X.F b i \/X.w.heap.size<=b:=zua hIT h (by simpa using zmr (IT:=IT) (X:=X) (ρ:=ρ) (ρc:=ρc) parts.toList fun p hp=>hρ p.2 (by rw[ho];simp only[Op.operands,List.mem_toArray,mem_map];exact⟨p,hp,rfl⟩)) hI
  exact⟨v,X',by simp[execOp,ho,h1],h2,h3,h4,h5⟩
 ·rename_i t x ho;obtain⟨v,h1,h2⟩:=ztx h (hρ x (by simp[ho,Op.operands])) hI;exact zcj v (by simp[execOp,ho,h1]) hI h2
 ·rename_i t x f ho;obtain⟨v,h1,h2⟩:=ztd h (hρ x (by simp[ho,Op.operands]));exact zcj v (by simp[execOp,ho,h1]) hI h2
 ·rename_i t x i ho;obtain⟨v,h1,h2⟩:=ztb h (hρ x (by simp[ho,Op.operands])) (hρ i (by simp[ho,Op.operands]));exact zcj v (by simp[execOp,ho,h1]) hI h2
 ·rename_i t x f ho;split at h
  ·rename_i b hb;cases h;obtain⟨v,h1,h2⟩:=z3p hb (hρ x (by simp[ho,Op.operands]));exact zcj v (by simp[execOp,ho,h1]) hI h2
  ·exact raw h
 ·rename_i t x i ho;split at h
  ·rename_i b hb;cases h;obtain⟨v,h1,h2⟩:=z1f hb (hρ x (by simp[ho,Op.operands])) (hρ i (by simp[ho,Op.operands]));exact zcj v (by simp[execOp,ho,h1]) hI h2
  ·exact raw h
 ·rename_i t x lo hi mx ho;split at h
  ·rename_i b hb;cases h;obtain⟨v,h1,h2⟩:=z1q (P:=P) hb (hρ x (by simp[ho,Op.operands])) (z0c lo fun y e=>hρ y (by simp[ho,Op.operands,e])) (z0c hi fun y e=>hρ y (by simp[ho,Op.operands,e])) (z0c mx fun y e=>hρ y (by simp[ho,Op.operands,e]));exact zcj v (by simp[execOp,ho,h1]) hI h2
  ·exact raw h
 ·rename_i x i ho;split at h<;>try cases h
  rename_i vs hx;have hv:=hρ x (by simp[ho,Op.operands]);rw[hx,Rep] at hv;obtain⟨us,e,hr⟩:=hv;obtain⟨u,hu,hr2⟩:=zem hr i a h;exact zcj u (by simp[execOp,ho,e,Instr.extract,hu]) hI hr2
 ·rename_i f first caps ho
  split at h<;>cases h
  rename_i h0;refine zcj (.func (.func f) #[] (caps.map ρc)) ?_ hI ?_
  ·have:first= #[]:=Array.eq_empty_of_size_eq_zero h0
   simp[execOp,ho,Instr.makeFunc,this]
  ·rw[Rep];refine⟨caps.toList.map ρc,by congr 1;apply Array.ext';simp,ztn _ fun y hy=>hρ y (by simp[ho,Op.operands];exact .inr (by simpa using hy))⟩
 ·rename_i c ho;split at h
  ·rename_i hc;split at h
   ·rename_i x t hargs htys;split at h
    ·rename_i b hb;cases h;have e1:c.args= #[x]:=by apply Array.ext';simpa using hargs
     obtain⟨v,h1,h2⟩:=qax (P:=P) (ty:=o.type) hb (hρ x (by simp[ho,Op.operands,Call.operands,e1]));have e2:c.argTypes= #[t]:=by apply Array.ext';simpa using htys
     exact zcj v (by simp[execOp,ho,resolve,hc,invoke,builtin,e1,e2,h1]) hI h2
    ·exact raw h
   ·cases h
  ·cases h
  ·exact raw h
  ·cases h
 ·rename_i s t x ho;split at h
  ·rename_i b hb;cases h;obtain⟨v,h1,h2⟩:=zur (P:=P) hb (hρ x (by simp[ho,Op.operands]));exact zcj v (by simp[execOp,ho,h1]) hI h2
  ·exact raw h
 ·rename_i x ho;have hx:=hρ x (by simp[ho,Op.operands]);split at h
  ·rename_i s off he;cases h;rw[he] at hx;have hx2:=hx;rw[Rep] at hx2;obtain⟨b,_,hv⟩:=hx2;exact zcj (ρc x) (by simp[execOp,ho,hv]) hI hx
  ·rename_i cs he;cases h;rw[he] at hx;have hx2:=hx;rw[Rep] at hx2;obtain⟨b,o',hv,_⟩:=hx2;exact zcj (ρc x) (by simp[execOp,ho,hv]) hI hx
  ·exact raw h
 ·cases h
 ·cases h
 ·cases h
 ·exact raw h
end Go.Ab
namespace Go.Fwd
open Go Go.RowKit
structure FenceOk (F:Fence)(P:Program):Prop where
 fn: ∀f,F.fn f
 depth:F.depth=none
 calls: ∀(n:Nat) (f:FuncId) (args:Array Value) (w:World) (R:Ending->World->Prop),Calls P f args w R->CallsIn F n P f args w R
 rows: ∀(n:Nat) (row:String) (args:Array Value) (w:World) (R:Value->World->Prop),Rows P row args w R->RowsIn F n P row args w R
 rounds: ∀(n l:Nat) (f:FuncId) (tmps:Array Value) (asg body:Code) (w:World) (R:Ending->World->Prop),RoundIn Fence.wide n P l f tmps asg body w R->RoundIn F n P l f tmps asg body w R
theorem ztz {n:Nat} {P:Program} {row:String} {args:Array Value} {w:World} {R:Value->World->Prop} (h:Rows P row args w R):RowsIn Fence.wide n P row args w R:=
 fun c cs _=>let⟨v,w',r,s⟩:=h c cs;⟨v,w',r,stepsIn_wide.2 s⟩
theorem zsr (P:Program):FenceOk Fence.wide P:=⟨fun _=>trivial,rfl,fun _ _ _ _ _ h=>callsIn_wide.2 h,fun _ _ _ _ _ h=>ztz h,fun _ _ _ _ _ _ _ _ h=>h⟩
theorem zox (P:Program)(l:Nat):FenceOk (Fence.wide.inRound l) P:=⟨fun _=>trivial,rfl,fun _ _ _ _ _ h=>CallsIn.inRound l (callsIn_wide.2 h),fun n _ _ _ _ h=>(ztz (n:=n) h:RowsIn Fence.wide n _ _ _ _ _),fun _ _ _ _ _ _ _ _ h=>h⟩
section
variable {F:Fence} {nn:Nat} {P:Program} {ops:Array Oper} {w0:World} {a0:Act} {md:Region.Mode}
theorem zoe {Q':Exit->Act->World->Prop}: ∀(l:List Oper) (k:Nat) (listed:Array Bool) (a:Act) (w:World),(∀j,l[j]? =ops[k+j]?)->
 Region.seqB md ops l.length k listed=true->wpListIn F nn P ops Q' l a w->wpAnyIn F nn P md ops Q' l.length listed a w
 |[],_,_,_,_,_,hB,h=>⟨by simpa[Region.seqB] using hB,h⟩
 | o::l,k,listed,a,w,hl,hB,h=>by
  have h0:ops[k]? =some o:=by simpa using(hl 0).symm
  simp only[List.length_cons,Region.seqB,and_eq_true,decide_eq_true_eq] at hB;refine⟨fun h1=>(by rw[hB.1] at h1;cases h1),fun i hi=> ?_⟩;rw[hB.1] at hi;have hik:i=k:=by simpa using hi
  subst hik;have hw:wpOpIn F nn P ops Q' i (wpListIn F nn P ops Q' l) a w:=by unfold wpOpIn;simp only[h0];exact h
  exact wpOpIn_mono (fun a' w' h'=>zoe l (i+1) _ a' w' (fun j=>by have:=hl (j+1);simpa[Nat.add_assoc,Nat.add_comm 1 j] using this) hB.2 h') hw
end
end Go.Fwd
namespace Go.Ab
open Go Go.RowKit Go.Fwd
variable {IT:IterP} {X Y:Cx}
mutual
def zbi (n:Nat):AV->Bool
 | .agg cs=>zad n cs
 | .tup cs=>zad n cs
 | .list _ cs _=>zad n cs
 | .ptr s _=>decide (s<n)
 | .bsl s _ _ _ _=>decide (s<n)
 | .iptr cs=>zad n cs
 | .clos _ cs=>zad n cs
 | .iter _=>true
 | .yld _=>true
 | .raw _=>true
 | .top=>true
 | .bad=>true
def zad (n:Nat):List AV->Bool
 |[]=>true
 |a::l=>zbi n a&&zad n l
end
mutual
def zcy:AV->AV
 | .agg cs=> .agg (stripL cs)
 | .tup cs=> .tup (stripL cs)
 | .list n cs _=> .list n (stripL cs) .none
 | .ptr s o=> .ptr s o
 | .bsl s o n sz f=> .bsl s o n sz f
 | .iptr cs=> .iptr (stripL cs)
 | .clos f cs=> .clos f (stripL cs)
 | .iter xs=> .iter xs
 | .yld l=> .yld l
 | .raw v=> .raw v
 | .top=> .top
 | .bad=> .bad
def stripL:List AV->List AV
 |[]=>[]
 |a::l=>zcy a::stripL l
end
theorem znk: ∀l,stripL l=l.map zcy
 |[]=>by simp[stripL]
 |a::l=>by rw[stripL,znk l,map_cons]
theorem zva (n:Nat): ∀l,zad n l=l.all (zbi n)
 |[]=>by simp[zad]
 |a::l=>by rw[zad,zva n l,List.all_cons]
mutual
theorem ztg (hIT:ITMono IT) {X Y:Cx} {n:Nat} (hF:Y.F=X.F)(hw:Y.w=X.w)(hβ:Y.β=X.β)(hl:Y.lens=X.lens)(hκ:Y.κ=X.κ.take n): ∀(a:AV) (v:Value),zbi n a=true->Rep IT X a v->Rep IT Y a v
 | .raw u,v,_,hr=>hr
 | .agg cs,v,ho,⟨vs,e,hr,h1⟩=>⟨vs,e,zmq hIT hF hw hβ hl hκ cs vs (by simpa[zbi] using ho) hr,h1⟩
 | .tup cs,v,ho,⟨vs,e,hr⟩=>⟨vs,e,zmq hIT hF hw hβ hl hκ cs vs (by simpa[zbi] using ho) hr⟩
 | .list m cs st,v,ho,⟨a,cap,e,hcap,hc,hs⟩=>⟨a,cap,e,hcap,hc.imp id fun⟨b,o,e1,e2⟩=>⟨b,o,e1,z4w hIT hF hw hβ hl hκ cs b o (by simpa[zbi] using ho) e2⟩,by cases st<;>simp only[hl,hβ]<;>exact hs⟩
 | .ptr s off,v,ho,⟨b,e1,e2⟩=>⟨b,by rw[hκ,getElem?_take,if_pos (by simpa[zbi] using ho)];exact e1,e2⟩
 | .bsl s off m sz f,v,ho,hr=>Bsl.mono (fun b e1=>by rw[hκ,getElem?_take,if_pos (by simpa[zbi] using ho)];exact e1) hw hr
 | .iptr cs,v,ho,⟨b,o,e,hc⟩=>⟨b,o,e,z4w hIT hF hw hβ hl hκ cs b o (by simpa[zbi] using ho) hc⟩
 | .clos f caps,v,ho,⟨vs,e,hr⟩=>⟨vs,e,zmq hIT hF hw hβ hl hκ caps vs (by simpa[zbi] using ho) hr⟩
 | .iter xs,v,ho,h2=>hIT.it _ _ _ _ (fun b o h=>by rw[hF];exact h) (fun b o h=>by rw[hw]) (Szs.eq hw) h2
 | .yld _,_,_,hr=>hr
 | .top,_,_,hr=>hr
 | .bad,_,_,hr=>hr
theorem zmq (hIT:ITMono IT) {X Y:Cx} {n:Nat} (hF:Y.F=X.F)(hw:Y.w=X.w)(hβ:Y.β=X.β)(hl:Y.lens=X.lens)(hκ:Y.κ=X.κ.take n): ∀(l:List AV) (vs:List Value),zad n l=true->zbh IT X l vs->zbh IT Y l vs
 |[],_,_,hr=>hr
 | a::l,vs,ho,⟨v,r,e,h1,h2⟩=>by
  rw[zad,and_eq_true] at ho;exact⟨v,r,e,ztg hIT hF hw hβ hl hκ a v ho.1 h1,zmq hIT hF hw hβ hl hκ l r ho.2 h2⟩
theorem z4w (hIT:ITMono IT) {X Y:Cx} {n:Nat} (hF:Y.F=X.F)(hw:Y.w=X.w)(hβ:Y.β=X.β)(hl:Y.lens=X.lens)(hκ:Y.κ=X.κ.take n): ∀(cs:List AV) (b o:Nat),zad n cs=true->At IT X cs b o->At IT Y cs b o
 |[],_,_,_,_=>trivial
 | c::cs,b,o,ho,⟨⟨hf,v,hv,h1,hr⟩,ht⟩=>by
  rw[zad,and_eq_true] at ho;exact⟨⟨by rw[hF];exact hf,v,by rw[hw];exact hv,h1,ztg hIT hF hw hβ hl hκ c v ho.1 hr⟩,z4w hIT hF hw hβ hl hκ cs b (o+1) ho.2 ht⟩
end
mutual
theorem zjc (hIT:ITMono IT) {X Y:Cx} (hF:Y.F=X.F)(hw:Y.w=X.w): ∀(a:AV) (v:Value),(zbi 0 a=true \/Y.κ=X.κ)->Rep IT X a v->Rep IT Y (zcy a) v
 | .raw u,v,_,hr=>hr
 | .agg cs,v,ho,⟨vs,e,hr,h1⟩=>⟨vs,e,zfq hIT hF hw cs vs (by simpa[zbi] using ho) hr,h1⟩
 | .tup cs,v,ho,⟨vs,e,hr⟩=>⟨vs,e,zfq hIT hF hw cs vs (by simpa[zbi] using ho) hr⟩
 | .list m cs st,v,ho,⟨a,cap,e,hcap,hc,hs⟩=>⟨a,cap,e,hcap,by
  rcases hc with rfl|⟨b,o,e1,e2⟩
  ·exact .inl (by simp[stripL])
  ·exact .inr ⟨b,o,e1,zzt hIT hF hw cs b o (by simpa[zbi] using ho) e2⟩,trivial⟩
 | .ptr s off,v,ho,⟨b,e1,e2⟩=>by
  rcases ho with ho|ho
  ·simp[zbi] at ho
  ·exact⟨b,by rw[ho];exact e1,e2⟩
 | .bsl s off m sz f,v,ho,hr=>by
  rcases ho with ho|ho
  ·simp[zbi] at ho
  ·exact Bsl.mono (fun b e1=>by rw[ho];exact e1) hw hr
 | .iptr cs,v,ho,⟨b,o,e,hc⟩=>⟨b,o,e,zzt hIT hF hw cs b o (by simpa[zbi] using ho) hc⟩
 | .clos f caps,v,ho,⟨vs,e,hr⟩=>⟨vs,e,zfq hIT hF hw caps vs (by simpa[zbi] using ho) hr⟩
 | .iter xs,v,ho,h2=>hIT.it _ _ _ _ (fun b o h=>by rw[hF];exact h) (fun b o h=>by rw[hw]) (Szs.eq hw) h2
 | .yld _,_,_,hr=>hr
 | .top,_,_,hr=>hr
 | .bad,_,_,hr=>hr
theorem zfq (hIT:ITMono IT) {X Y:Cx} (hF:Y.F=X.F)(hw:Y.w=X.w): ∀(l:List AV) (vs:List Value),(zad 0 l=true \/Y.κ=X.κ)->zbh IT X l vs->zbh IT Y (stripL l) vs
 |[],_,_,hr=>hr
 | a::l,vs,ho,⟨v,r,e,h1,h2⟩=>by
  rw[zad,and_eq_true] at ho;exact⟨v,r,e,zjc hIT hF hw a v (ho.imp And.left id) h1,zfq hIT hF hw l r (ho.imp And.right id) h2⟩
theorem zzt (hIT:ITMono IT) {X Y:Cx} (hF:Y.F=X.F)(hw:Y.w=X.w): ∀(cs:List AV) (b o:Nat),(zad 0 cs=true \/Y.κ=X.κ)->At IT X cs b o->At IT Y (stripL cs) b o
 |[],_,_,_,_=>trivial
 | c::cs,b,o,ho,⟨⟨hf,v,hv,h1,hr⟩,ht⟩=>by
  rw[zad,and_eq_true] at ho;exact⟨⟨by rw[hF];exact hf,v,by rw[hw];exact hv,h1,zjc hIT hF hw c v (ho.imp And.left id) hr⟩,zzt hIT hF hw cs b (o+1) (ho.imp And.right id) ht⟩
end
mutual
theorem z0p (hIT:ITMono IT) {X Y:Cx} (hF:Y.F=X.F)(hw:Y.w=X.w)(h0:X.κ=[])(hl:X.lens=[]): ∀(a:AV) (v:Value),Rep IT X a v->Rep IT Y a v
 | .raw u,v,hr=>hr
 | .agg cs,v,⟨vs,e,hr,h1⟩=>⟨vs,e,zqh hIT hF hw h0 hl cs vs hr,h1⟩
 | .tup cs,v,⟨vs,e,hr⟩=>⟨vs,e,zqh hIT hF hw h0 hl cs vs hr⟩
 | .list m cs st,v,⟨a,cap,e,hcap,hc,hs⟩=>⟨a,cap,e,hcap,hc.imp id fun⟨b,o,e1,e2⟩=>⟨b,o,e1,z7c hIT hF hw h0 hl cs b o e2⟩,by
  cases st with
  |none=>trivial
  |full=>exact hs
  |own s=>obtain⟨L,k1,_⟩:=hs;rw[hl] at k1;simp at k1⟩
 | .ptr s off,v,⟨b,e1,e2⟩=>by rw[h0] at e1;simp at e1
 | .bsl s off m sz f,v,⟨b,_,_,_,e1,_⟩=>by rw[h0] at e1;simp at e1
 | .iptr cs,v,⟨b,o,e,hc⟩=>⟨b,o,e,z7c hIT hF hw h0 hl cs b o hc⟩
 | .clos f caps,v,⟨vs,e,hr⟩=>⟨vs,e,zqh hIT hF hw h0 hl caps vs hr⟩
 | .iter xs,v,h2=>hIT.it _ _ _ _ (fun b o h=>by rw[hF];exact h) (fun b o h=>by rw[hw]) (Szs.eq hw) h2
 | .yld _,_,hr=>hr
 | .top,_,hr=>hr
 | .bad,_,hr=>hr
theorem zqh (hIT:ITMono IT) {X Y:Cx} (hF:Y.F=X.F)(hw:Y.w=X.w)(h0:X.κ=[])(hl:X.lens=[]): ∀(l:List AV) (vs:List Value),zbh IT X l vs->zbh IT Y l vs
 |[],_,hr=>hr
 |a::l,vs,⟨v,r,e,h1,h2⟩=>⟨v,r,e,z0p hIT hF hw h0 hl a v h1,zqh hIT hF hw h0 hl l r h2⟩
theorem z7c (hIT:ITMono IT) {X Y:Cx} (hF:Y.F=X.F)(hw:Y.w=X.w)(h0:X.κ=[])(hl:X.lens=[]): ∀(cs:List AV) (b o:Nat),At IT X cs b o->At IT Y cs b o
 |[],_,_,_=>trivial
 |c::cs,b,o,⟨⟨hf,v,hv,h1,hr⟩,ht⟩=>⟨⟨by rw[hF];exact hf,v,by rw[hw];exact hv,h1,z0p hIT hF hw h0 hl c v hr⟩,z7c hIT hF hw h0 hl cs b (o+1) ht⟩
end
def St.empty:St:=⟨[],[],[],0,false⟩
def Ent (P:Program)(f:FuncId):Prop:= ∀args w,(callFunc f args).run P w= .ok (.enter f args) w
def Snd (IT:IterP)(P:Program)(f:FuncId)(args:List AV)(U:St)(r:AV)(U':St):Prop:=
 Ent P f/\ ∀(X:Cx) (vs:List Value),Inv IT U X->zbh IT X args vs->Calls P f vs.toArray X.w fun e w'=> ∃v X',e= .returned v/\ X'.w=w'/\ Ext X X'/\ Inv IT U' X'/\ Rep IT X' r v
def Pure (IT:IterP)(P:Program)(f:FuncId)(args:List AV)(r:AV):Prop:=Snd IT P f args St.empty r St.empty
theorem zvn {U:St} (hI:Inv IT U X):Inv IT St.empty ⟨X.F,[],[],[],X.w,fun _=>False,fun _ _=>False⟩ where
 lens:=rfl
 elems:=rfl
 κlen:=rfl
 κnd:=fun s s' b h=>by simp at h
 box:=fun s b t cs h=>by simp at h
 κF:=fun s b t cs h=>by simp at h
 βlen:=rfl
 βnd:=List.nodup_nil
 βκ:=fun r h=>by simp at h
 row:=fun s r L h=>by simp at h
 Ok:=fun b h=>h.elim
 Fcell:=hI.Fcell
 gv:=hI.gv
theorem zmc (hIT:ITMono IT) {P:Program} {f:FuncId} {args args':List AV} {r:AV} (h:Pure IT P f args' r)(hargs:stripL args=args')(hok:zad 0 args=true) {U:St} {X:Cx} (hI:Inv IT U X) {vs:List Value} (hr:zbh IT X args vs):
 Calls P f vs.toArray X.w fun e w'=> ∃v X',e= .returned v/\ X'.w=w'/\ Ext X X'/\ Inv IT U X'/\ Rep IT X' r v/\ Grows X.w X'.w/\ X'.κ=X.κ/\ X'.β=X.β/\ X'.lens=X.lens/\ (X'.O=X.O/\ X'.C=X.C)/\ ∀b i,X'.F b i->X.F b i \/X.w.heap.size<=b:=by
 subst hargs;have h0:zbh IT ⟨X.F,[],[],[],X.w,fun _=>False,fun _ _=>False⟩ (stripL args) vs:=zfq (X:=X) (Y:=⟨X.F,[],[],[],X.w,fun _=>False,fun _ _=>False⟩) hIT rfl rfl args vs (.inl hok) hr;refine(h.2 ⟨X.F,[],[],[],X.w,fun _=>False,fun _ _=>False⟩ vs (zvn hI) h0).mono ?_;rintro e w' ⟨v,Y,rfl,rfl,hE,hIY,hv⟩;have hκ:Y.κ=[]:=by have:=hIY.κlen;simpa[St.empty] using this
 have hl:Y.lens=[]:=hIY.lens;have hblk: ∀b,b<X.w.heap.size->Y.w.heap[b]? =X.w.heap[b]? :=fun b hb=>hE.frame b hb (by simp) (by simp);have hg:Grows X.w Y.w:=⟨⟨hE.os,hE.tape,hE.output,hE.size,hblk⟩,hE.drawn⟩;have hFn: ∀b i,Y.F b i->X.F b i \/X.w.heap.size<=b:=fun b i hf=>by
  rcases hE.Fnew b i hf with h|h|⟨q,hq,_⟩|h
  ·exact .inl h
  ·exact .inr h
  ·simp at hq
  ·simp at h
 have hX:Ext X ⟨Y.F,X.κ,X.β,X.lens,Y.w,X.O,X.C⟩:={
  os:=hE.os,tape:=hE.tape,output:=hE.output,size:=hE.size,drawn:=hE.drawn,F:=hE.F,cell:=hE.cell
  κ:=fun _ _ h=>h
  lens:=fun s L h=>⟨L,h,Nat.le_refl _,fun _=>rfl⟩
  blk:=fun s b hs cur t f h=>⟨cur,(hblk b (hI.κlt (mem_of_getElem? hs))).trans h,rfl⟩
  szs:=Szs.old hblk
  frame:=fun b hb _ _=>hblk b hb
  κnew:=fun _ h=> .inl h
  βnew:=fun r h=> .inl ⟨r,h,rfl⟩
  O:=rfl
  C:=rfl
  Fnew:=fun b i hf=>(hFn b i hf).imp id .inl}
 refine⟨v,⟨Y.F,X.κ,X.β,X.lens,Y.w,X.O,X.C⟩,rfl,rfl,hX,?_,z0p (X:=Y) (Y:=⟨Y.F,X.κ,X.β,X.lens,Y.w,X.O,X.C⟩) hIT rfl rfl hκ hl r v hv,hg,rfl,rfl,rfl,⟨rfl,rfl⟩,hFn⟩;refine {lens:=hI.lens,elems:=hI.elems,κlen:=hI.κlen,κnd:=hI.κnd,box:= ?_,κF:= ?_,βlen:=hI.βlen,βnd:=hI.βnd,βκ:=hI.βκ,row:= ?_,Ok:= ?_,Fcell:=hIY.Fcell}
 ·intro s b t cs hs hb;obtain⟨us,zs,u1,u2,u3⟩:=hI.box s b t cs hs hb;exact⟨us,zs,(hblk b (hI.κlt (mem_of_getElem? hs))).trans u1,zas hIT hX _ _ u2,u3⟩
 ·intro s b t cs hs hb hc o hf;rcases hFn b o hf with h|h
  ·exact hI.κF s b t cs hs hb hc o h
  ·have:=hI.κlt (mem_of_getElem? hs);omega
 ·intro s q L hq hL;obtain⟨cur,fz,c1,c2,c3,c4,c5,c6,c7⟩:=hI.row s q L hq hL;have hlt:=hI.βlt (mem_of_getElem? hq);refine⟨cur,fz,(hblk _ hlt).trans c1,c2,c3,c4,c5,fun o hf=> ?_,c7⟩;rcases hFn _ o hf with h|h
  ·exact c6 o h
  ·omega
 ·intro b ho;obtain⟨⟨cs0,t0,f0,h0⟩,h2,h3,h4⟩:=hI.Ok b ho;have hlt:=hI.Olt ho;exact⟨⟨cs0,t0,f0,(hblk b hlt).trans h0⟩,h2,h3,fun o hf=>(hFn b o hf).elim (h4 o) fun h=>by omega⟩
abbrev FZ:=(Nat->Nat->AV)×(Nat->Nat->Nat->Nat->AV)
mutual
def zhh (g:FZ):AV->AV
 | .raw u=> .raw u
 | .agg cs=> .agg (zdb g cs)
 | .tup cs=> .tup (zdb g cs)
 | .list n cs _=> .list n (zdb g cs) .none
 | .ptr s off=>g.1 s off
 | .bsl s off n sz _=>g.2 s off n sz
 | .iptr cs=> .iptr (zdb g cs)
 | .clos f caps=> .clos f (zdb g caps)
 | .iter xs=> .iter xs
 | .yld l=> .yld l
 | .top=> .top
 | .bad=> .bad
def zdb (g:FZ):List AV->List AV
 |[]=>[]
 |a::l=>zhh g a::zdb g l
end
def frz (bs:List (TypeId×List AV)):Nat->FZ
 |0=>(fun _ _=> .top,fun _ _ _ _=> .top)
 | n+1=>(fun s off=> .iptr (zdb (frz bs n) (((bs[s]?).map fun b=>b.2.drop off).getD [])),
  fun s off m sz=> .list m ((zdb (frz bs n) (((bs[s]?).map fun b=>b.2.drop off).getD [])).take (m*sz)) .none)
mutual
theorem zrw (hIT:ITMono IT) {X Y:Cx} {g:FZ} (hF: ∀b o,X.F b o->Y.F b o)(hw:Y.w=X.w)(hg:(∀s off v,Rep IT X (.ptr s off) v->Rep IT Y (g.1 s off) v)/\ ∀s off n sz f v,Rep IT X (.bsl s off n sz f) v->Rep IT Y (g.2 s off n sz) v): ∀(a:AV) (v:Value),Rep IT X a v->Rep IT Y (zhh g a) v
 | .raw u,v,hr=>hr
 | .agg cs,v,⟨vs,e,hr,h1⟩=>⟨vs,e,zgx hIT hF hw hg cs vs hr,h1⟩
 | .tup cs,v,⟨vs,e,hr⟩=>⟨vs,e,zgx hIT hF hw hg cs vs hr⟩
 | .list m cs st,v,⟨a,cap,e,hcap,hc,hs⟩=>⟨a,cap,e,hcap,hc.imp (fun h=>by subst h;rfl) fun⟨b,o,e1,e2⟩=>⟨b,o,e1,zve hIT hF hw hg cs b o e2⟩,trivial⟩
 | .ptr s off,v,hr=>hg.1 s off v hr
 | .bsl s off n sz f,v,hr=>hg.2 s off n sz f v hr
 | .iptr cs,v,⟨b,o,e,hc⟩=>⟨b,o,e,zve hIT hF hw hg cs b o hc⟩
 | .clos f caps,v,⟨vs,e,hr⟩=>⟨vs,e,zgx hIT hF hw hg caps vs hr⟩
 | .iter xs,v,h2=>hIT.it _ _ _ _ hF (fun b o h=>by rw[hw]) (Szs.eq hw) h2
 | .yld _,_,hr=>hr
 | .top,_,hr=>hr
 | .bad,_,hr=>hr
theorem zgx (hIT:ITMono IT) {X Y:Cx} {g:FZ} (hF: ∀b o,X.F b o->Y.F b o)(hw:Y.w=X.w)(hg:(∀s off v,Rep IT X (.ptr s off) v->Rep IT Y (g.1 s off) v)/\ ∀s off n sz f v,Rep IT X (.bsl s off n sz f) v->Rep IT Y (g.2 s off n sz) v): ∀(l:List AV) (vs:List Value),zbh IT X l vs->zbh IT Y (zdb g l) vs
 |[],_,hr=>hr
 |a::l,vs,⟨v,r,e,h1,h2⟩=>⟨v,r,e,zrw hIT hF hw hg a v h1,zgx hIT hF hw hg l r h2⟩
theorem zve (hIT:ITMono IT) {X Y:Cx} {g:FZ} (hF: ∀b o,X.F b o->Y.F b o)(hw:Y.w=X.w)(hg:(∀s off v,Rep IT X (.ptr s off) v->Rep IT Y (g.1 s off) v)/\ ∀s off n sz f v,Rep IT X (.bsl s off n sz f) v->Rep IT Y (g.2 s off n sz) v): ∀(cs:List AV) (b o:Nat),At IT X cs b o->At IT Y (zdb g cs) b o
 |[],_,_,_=>trivial
 |c::cs,b,o,⟨⟨hf,v,hv,h1,hr⟩,ht⟩=>⟨⟨hF b o hf,v,by rw[hw];exact hv,h1,zrw hIT hF hw hg c v hr⟩,zve hIT hF hw hg cs b (o+1) ht⟩
end
def qkc (Y:Cx)(b o:Nat):Prop:=Y.F b o \/b∈Y.κ/\ ∃v,Y.w.cell? ⟨b,o,none⟩=some v
theorem qis (hIT:ITMono IT) {U:St} {Y:Cx} {O C} (hI:Inv IT U Y): ∀n,(∀s off v,Rep IT Y (.ptr s off) v->Rep IT ⟨qkc Y,[],[],[],Y.w,O,C⟩ ((frz U.boxes n).1 s off) v)/\
 ∀s off m sz f v,Rep IT Y (.bsl s off m sz f) v->Rep IT ⟨qkc Y,[],[],[],Y.w,O,C⟩ ((frz U.boxes n).2 s off m sz) v:=by
 intro n;induction n with
 |zero=>exact⟨fun _ _ _ _=>trivial,fun _ _ _ _ _ _ _=>trivial⟩
 | succ n ih=>
  have key: ∀(s b off:Nat),Y.κ[s]? =some b->At IT ⟨qkc Y,[],[],[],Y.w,O,C⟩ (zdb (frz U.boxes n) (((U.boxes[s]?).map fun b=>b.2.drop off).getD [])) b off:=fun s b off hb=>by
   have hs:s<U.boxes.length:=by rw[<-hI.κlen];exact(List.getElem?_eq_some_iff.1 hb).1
   obtain⟨us,zs,u1,u2,u3⟩:=hI.box s b (U.boxes[s]).1 (U.boxes[s]).2 hb (by simp[hs]);simp only[getElem?_eq_getElem hs,map_some,getD_some];have hcell: ∀(i:Nat) v,(us.drop off)[i]? =some v->Y.w.cell? ⟨b,off+i,none⟩=some v:=fun i v hv=>by
    rw[List.getElem?_drop] at hv;have:=(List.getElem?_eq_some_iff.1 hv).1;unfold World.cell?;simp[u1,getElem?_append_left this,hv]
   exact z1n (fun i hi=> .inr ⟨mem_of_getElem? hb,_,hcell i _ (getElem?_eq_getElem hi)⟩) (fun v hv=>u3 v (List.mem_of_mem_drop hv)) (zgx (Y:=⟨qkc Y,[],[],[],Y.w,O,C⟩) hIT (fun b o h=>Or.inl h) rfl ih _ _ (zix u2 off)) hcell
  refine⟨?_,?_⟩
  ·rintro s off v ⟨b,hb,rfl⟩;exact⟨b,off,rfl,key s b off hb⟩
  ·rintro s off m sz f v ⟨b,cap,cur,t,hb,rfl,hcap,hful,_⟩;exact⟨_,cap,rfl,⟨hcap,fun h=>by cases h⟩,.inr ⟨b,off,rfl,zzr _ (key s b off hb)⟩,trivial⟩
def zys:AV->Bool
 | .raw _=>true
 |_=>false
def z4p:AV->Bool
 | .raw _=>true
 | .agg cs=>cs.all zys
 | .tup cs=>cs.all zys
 |_=>false
theorem zmu: ∀(l:List AV) (vs:List Value),l.all zys=true->zbh IT X l vs->zbh IT Y l vs
 |[],_,_,h=>h
 | a::l,vs,ho,⟨v,r,e,h1,h2⟩=>by
  rw[List.all_cons,and_eq_true] at ho;refine⟨v,r,e,?_,zmu l r ho.2 h2⟩;cases a with
  |raw u=>exact h1
  |_=>simp[zys] at ho
theorem qav {a:AV} {v:Value} (ho:z4p a=true)(h:Rep IT X a v):Rep IT Y a v:=by
 cases a with
 |raw u=>exact h
 |agg cs=>obtain⟨vs,e,h1,h2⟩:=h;exact⟨vs,e,zmu cs vs ho h1,h2⟩
 |tup cs=>obtain⟨vs,e,h1⟩:=h;exact⟨vs,e,zmu cs vs ho h1⟩
 |_=>simp[z4p] at ho
theorem qni (hIT:ITMono IT) {P:Program} {f:FuncId} {args args':List AV} {r:AV} (n:Nat) {U:St} (h:Pure IT P f args' r)(hargs:zdb (frz U.boxes n) args=args')(hraw:z4p r=true) {X:Cx} (hI:Inv IT U X) {vs:List Value} (hr:zbh IT X args vs):
 Calls P f vs.toArray X.w fun e w'=> ∃v X',e= .returned v/\ X'.w=w'/\ Ext X X'/\ Inv IT U X'/\ Rep IT X' r v:=by
 subst hargs;have h0:zbh IT ⟨qkc X,[],[],[],X.w,fun _=>False,fun _ _=>False⟩ (zdb (frz U.boxes n) args) vs:=zgx (Y:=⟨qkc X,[],[],[],X.w,fun _=>False,fun _ _=>False⟩) hIT (fun b o h=>Or.inl h) rfl (qis hIT hI n) args vs hr
 have hI0:Inv IT St.empty ⟨qkc X,[],[],[],X.w,fun _=>False,fun _ _=>False⟩:={zvn hI with
  gv:=hIT.gv _ _ _ _ (fun b o h=>Or.inl h) (fun _ _ _=>rfl) (Szs.refl _) hI.gv
  box:=fun s b t cs h=>by simp at h
  κF:=fun s b t cs h=>by simp at h
  row:=fun s r L h=>by simp at h
  Ok:=fun b h=>h.elim
  Fcell:=fun b o hf=>hf.elim (hI.Fcell b o) And.right}
 refine(h.2 ⟨qkc X,[],[],[],X.w,fun _=>False,fun _ _=>False⟩ vs hI0 h0).mono ?_;rintro e w' ⟨v,Y,rfl,rfl,hE,hIY,hv⟩;have hblk: ∀b,b<X.w.heap.size->Y.w.heap[b]? =X.w.heap[b]? :=fun b hb=>hE.frame b hb (by simp) (by simp);have hFn: ∀b i,((Y.F b i/\ b∉X.κ) \/X.F b i)->X.F b i \/X.w.heap.size<=b:=fun b i h=>by
  rcases h with⟨hf,hk⟩|h
  ·rcases hE.Fnew b i hf with(h|⟨h,_⟩)|h|⟨q,hq,_⟩|h
   ·exact .inl h
   ·exact absurd h hk
   ·exact .inr h
   ·simp at hq
   ·simp at h
  ·exact .inl h
 have hX:Ext X ⟨fun b o=>(Y.F b o/\ b∉X.κ) \/X.F b o,X.κ,X.β,X.lens,Y.w,X.O,X.C⟩:={
  os:=hE.os,tape:=hE.tape,output:=hE.output,size:=hE.size,drawn:=hE.drawn
  F:=fun b o h=> .inr h
  cell:=fun b o h=>hE.cell b o (.inl h)
  κ:=fun _ _ h=>h
  lens:=fun s L h=>⟨L,h,Nat.le_refl _,fun _=>rfl⟩
  blk:=fun s b hs cur t f h=>⟨cur,(hblk b (hI.κlt (mem_of_getElem? hs))).trans h,rfl⟩
  szs:=Szs.old hblk
  frame:=fun b hb _ _=>hblk b hb
  κnew:=fun _ h=> .inl h
  βnew:=fun r h=> .inl ⟨r,h,rfl⟩
  O:=rfl
  C:=rfl
  Fnew:=fun b i hf=>(hFn b i hf).imp id .inl}
 refine⟨v,⟨fun b o=>(Y.F b o/\ b∉X.κ) \/X.F b o,X.κ,X.β,X.lens,Y.w,X.O,X.C⟩,rfl,rfl,hX,?_,qav hraw hv⟩;refine {lens:=hI.lens,elems:=hI.elems,κlen:=hI.κlen,κnd:=hI.κnd,box:= ?_,κF:= ?_,βlen:=hI.βlen,βnd:=hI.βnd,βκ:=hI.βκ,row:= ?_,Ok:= ?_,Fcell:=fun b o hf=>hIY.Fcell b o (hf.elim And.left fun h=>hE.F b o (.inl h))}
 ·intro s b t cs hs hb;obtain⟨us,zs,u1,u2,u3⟩:=hI.box s b t cs hs hb;exact⟨us,zs,(hblk b (hI.κlt (mem_of_getElem? hs))).trans u1,zas hIT hX _ _ u2,u3⟩
 ·intro s b t cs hs hb hc o hf;rcases hf with⟨_,hf⟩|hf
  ·exact hf (mem_of_getElem? hs)
  ·exact hI.κF s b t cs hs hb hc o hf
 ·intro s q L hq hL;obtain⟨cur,fz,c1,c2,c3,c4,c5,c6,c7⟩:=hI.row s q L hq hL;have hlt:=hI.βlt (mem_of_getElem? hq);refine⟨cur,fz,(hblk _ hlt).trans c1,c2,c3,c4,c5,fun o hf=> ?_,c7⟩;rcases hFn _ o hf with h|h
  ·exact c6 o h
  ·omega
 ·intro b ho;obtain⟨⟨cs0,t0,f0,h0⟩,h2,h3,h4⟩:=hI.Ok b ho;have hlt:=hI.Olt ho;exact⟨⟨cs0,t0,f0,(hblk b hlt).trans h0⟩,h2,h3,fun o hf=>(hFn b o hf).elim (h4 o) fun h=>by omega⟩
variable {IT:IterP} {U:St} {Y:Cx} {n:Nat}
mutual
def clo:AV->Bool
 | .agg cs=>cloL cs
 | .tup cs=>cloL cs
 | .list _ cs st=>(match st with| .none=>true|_=>false)&&cloL cs
 | .ptr _ _=>false
 | .bsl _ _ _ _ _=>false
 | .iptr cs=>cloL cs
 | .clos _ cs=>cloL cs
 | .iter _=>true
 | .yld _=>true
 | .raw _=>true
 | .top=>true
 | .bad=>true
def cloL:List AV->Bool
 |[]=>true
 |a::l=>clo a&&cloL l
end
theorem zee: ∀l m,cloL (l++m)=(cloL l&&cloL m)
 |[],m=>by simp[cloL]
 |a::l,m=>by rw[List.cons_append,cloL,cloL,zee l m,Bool.and_assoc]
mutual
theorem z2y: ∀a:AV,clo a=true->zcy a=a
 | .agg cs,h=>by rw[zcy,zdl cs (by simpa[clo] using h)]
 | .tup cs,h=>by rw[zcy,zdl cs (by simpa[clo] using h)]
 | .list n cs st,h=>by
  simp only[clo,and_eq_true] at h;rw[zcy,zdl cs h.2];cases st<;>first|rfl|simp at h
 | .ptr _ _,h=>by simp[clo] at h
 | .bsl _ _ _ _ _,h=>by simp[clo] at h
 | .iptr cs,h=>by rw[zcy,zdl cs (by simpa[clo] using h)]
 | .clos f cs,h=>by rw[zcy,zdl cs (by simpa[clo] using h)]
 | .iter _,_=>by rw[zcy]
 | .yld _,_=>by rw[zcy]
 | .raw _,_=>by rw[zcy]
 | .top,_=>by rw[zcy]
 | .bad,_=>by rw[zcy]
theorem zdl: ∀l:List AV,cloL l=true->stripL l=l
 |[],_=>by rw[stripL]
 | a::l,h=>by
  rw[cloL,and_eq_true] at h;rw[stripL,z2y a h.1,zdl l h.2]
end
mutual
theorem zaq (n:Nat): ∀a:AV,clo a=true->zbi n a=true
 | .agg cs,h=>by rw[zbi,zo n cs (by simpa[clo] using h)]
 | .tup cs,h=>by rw[zbi,zo n cs (by simpa[clo] using h)]
 | .list m cs st,h=>by
  simp only[clo,and_eq_true] at h;rw[zbi,zo n cs h.2]
 | .ptr _ _,h=>by simp[clo] at h
 | .bsl _ _ _ _ _,h=>by simp[clo] at h
 | .iptr cs,h=>by rw[zbi,zo n cs (by simpa[clo] using h)]
 | .clos f cs,h=>by rw[zbi,zo n cs (by simpa[clo] using h)]
 | .iter _,_=>by rw[zbi]
 | .yld _,_=>by rw[zbi]
 | .raw _,_=>by rw[zbi]
 | .top,_=>by rw[zbi]
 | .bad,_=>by rw[zbi]
theorem zo (n:Nat): ∀l:List AV,cloL l=true->zad n l=true
 |[],_=>by rw[zad]
 | a::l,h=>by
  rw[cloL,and_eq_true] at h;rw[zad,zaq n a h.1,zo n l h.2];rfl
end
mutual
theorem qcd (g:FZ): ∀a:AV,clo a=true->zhh g a=a
 | .agg cs,h=>by rw[zhh,zec g cs (by simpa[clo] using h)]
 | .tup cs,h=>by rw[zhh,zec g cs (by simpa[clo] using h)]
 | .list n cs st,h=>by
  simp only[clo,and_eq_true] at h;rw[zhh,zec g cs h.2];cases st<;>first|rfl|simp at h
 | .ptr _ _,h=>by simp[clo] at h
 | .bsl _ _ _ _ _,h=>by simp[clo] at h
 | .iptr cs,h=>by rw[zhh,zec g cs (by simpa[clo] using h)]
 | .clos f cs,h=>by rw[zhh,zec g cs (by simpa[clo] using h)]
 | .iter _,_=>by rw[zhh]
 | .yld _,_=>by rw[zhh]
 | .raw _,_=>by rw[zhh]
 | .top,_=>by rw[zhh]
 | .bad,_=>by rw[zhh]
theorem zec (g:FZ): ∀l:List AV,cloL l=true->zdb g l=l
 |[],_=>by rw[zdb]
 | a::l,h=>by
  rw[cloL,and_eq_true] at h;rw[zdb,qcd g a h.1,zec g l h.2]
end
def qez (m:Nat):Room->Room
 | .own s=>if s<m then .own s else .none
 |r=>r
mutual
def zid (m:Nat)(g:FZ):AV->AV
 | .raw u=> .raw u
 | .agg cs=> .agg (zx m g cs)
 | .tup cs=> .tup (zx m g cs)
 | .list n cs st=> .list n (zx m g cs) (match zx m g cs with|c=>qez m st)
 | .ptr s off=>g.1 s off
 | .bsl s off n sz _=>g.2 s off n sz
 | .iptr cs=> .iptr (zx m g cs)
 | .clos f caps=> .clos f (zx m g caps)
 | .iter xs=> .iter xs
 | .yld l=> .yld l
 | .top=> .top
 | .bad=> .bad
def zx (m:Nat)(g:FZ):List AV->List AV
 |[]=>[]
 |a::l=>zid m g a::zx m g l
end
theorem zsp (m:Nat)(g:FZ): ∀l,(zx m g l).length=l.length
 |[]=>by simp[zx]
 |a::l=>by simp[zx,zsp m g l]
mutual
theorem zah (m:Nat)(g:FZ): ∀a:AV,clo a=true->zid m g a=a
 | .agg cs,h=>by rw[zid,zaa m g cs (by simpa[clo] using h)]
 | .tup cs,h=>by rw[zid,zaa m g cs (by simpa[clo] using h)]
 | .list n cs st,h=>by
  simp only[clo,and_eq_true] at h;rw[zid,zaa m g cs h.2];cases st<;>first|rfl|simp at h
 | .ptr _ _,h=>by simp[clo] at h
 | .bsl _ _ _ _ _,h=>by simp[clo] at h
 | .iptr cs,h=>by rw[zid,zaa m g cs (by simpa[clo] using h)]
 | .clos f cs,h=>by rw[zid,zaa m g cs (by simpa[clo] using h)]
 | .iter _,_=>by rw[zid]
 | .yld _,_=>by rw[zid]
 | .raw _,_=>by rw[zid]
 | .top,_=>by rw[zid]
 | .bad,_=>by rw[zid]
theorem zaa (m:Nat)(g:FZ): ∀l:List AV,cloL l=true->zx m g l=l
 |[],_=>by rw[zx]
 | a::l,h=>by
  rw[cloL,and_eq_true] at h;rw[zx,zah m g a h.1,zaa m g l h.2]
end
mutual
theorem zlg (hIT:ITMono IT) {X Y:Cx} {m:Nat} {g:FZ} (hF: ∀b o,X.F b o->Y.F b o)(hw:Y.w=X.w)(hl: ∀s,s<m->Y.lens[s]? =X.lens[s]? /\ Y.β[s]? =X.β[s]?)
 (hg:(∀s off v,Rep IT X (.ptr s off) v->Rep IT Y (g.1 s off) v)/\ ∀s off n sz f v,Rep IT X (.bsl s off n sz f) v->Rep IT Y (g.2 s off n sz) v): ∀(a:AV) (v:Value),Rep IT X a v->Rep IT Y (zid m g a) v
 | .raw u,v,hr=>hr
 | .agg cs,v,⟨vs,e,hr,h1⟩=>⟨vs,e,zdi hIT hF hw hl hg cs vs hr,h1⟩
 | .tup cs,v,⟨vs,e,hr⟩=>⟨vs,e,zdi hIT hF hw hl hg cs vs hr⟩
 | .list n cs st,v,⟨a,cap,e,hcap,hc,hs⟩=>⟨a,cap,e,hcap,hc.imp (fun h=>by subst h;rfl) fun⟨b,o,e1,e2⟩=>⟨b,o,e1,z5t hIT hF hw hl hg cs b o e2⟩,by
  cases st with
  |none=>trivial
  |full=>exact hs
  | own s=>
   simp only[qez];split
   ·trivial
   ·rename_i h2;split at h2<;>cases h2
   ·rename_i s' h2;split at h2<;>cases h2
    rename_i hlt;obtain⟨L,k1,k2,k3⟩:=hs;rw[zsp];exact⟨L,by rw[(hl s hlt).1];exact k1,k2,fun e'=>by
     obtain⟨r,r1,r2⟩:=k3 e';exact⟨r,by rw[(hl s hlt).2];exact r1,r2⟩⟩⟩
 | .ptr s off,v,hr=>hg.1 s off v hr
 | .bsl s off n sz f,v,hr=>hg.2 s off n sz f v hr
 | .iptr cs,v,⟨b,o,e,hc⟩=>⟨b,o,e,z5t hIT hF hw hl hg cs b o hc⟩
 | .clos f caps,v,⟨vs,e,hr⟩=>⟨vs,e,zdi hIT hF hw hl hg caps vs hr⟩
 | .iter xs,v,h2=>hIT.it _ _ _ _ hF (fun b o h=>by rw[hw]) (Szs.eq hw) h2
 | .yld _,_,hr=>hr
 | .top,_,hr=>hr
 | .bad,_,hr=>hr
theorem zdi (hIT:ITMono IT) {X Y:Cx} {m:Nat} {g:FZ} (hF: ∀b o,X.F b o->Y.F b o)(hw:Y.w=X.w)(hl: ∀s,s<m->Y.lens[s]? =X.lens[s]? /\ Y.β[s]? =X.β[s]?)
 (hg:(∀s off v,Rep IT X (.ptr s off) v->Rep IT Y (g.1 s off) v)/\ ∀s off n sz f v,Rep IT X (.bsl s off n sz f) v->Rep IT Y (g.2 s off n sz) v): ∀(l:List AV) (vs:List Value),zbh IT X l vs->zbh IT Y (zx m g l) vs
 |[],_,hr=>hr
 |a::l,vs,⟨v,r,e,h1,h2⟩=>⟨v,r,e,zlg hIT hF hw hl hg a v h1,zdi hIT hF hw hl hg l r h2⟩
theorem z5t (hIT:ITMono IT) {X Y:Cx} {m:Nat} {g:FZ} (hF: ∀b o,X.F b o->Y.F b o)(hw:Y.w=X.w)(hl: ∀s,s<m->Y.lens[s]? =X.lens[s]? /\ Y.β[s]? =X.β[s]?)
 (hg:(∀s off v,Rep IT X (.ptr s off) v->Rep IT Y (g.1 s off) v)/\ ∀s off n sz f v,Rep IT X (.bsl s off n sz f) v->Rep IT Y (g.2 s off n sz) v): ∀(cs:List AV) (b o:Nat),At IT X cs b o->At IT Y (zx m g cs) b o
 |[],_,_,_=>trivial
 |c::cs,b,o,⟨⟨hf,v,hv,h1,hr⟩,ht⟩=>⟨⟨hF b o hf,v,by rw[hw];exact hv,h1,zlg hIT hF hw hl hg c v hr⟩,z5t hIT hF hw hl hg cs b (o+1) ht⟩
end
def zgb (n:Nat)(fs js:List Nat)(s:Nat):Option Nat:=
 if s<n then(if fs.contains s then none else some s) else(if js.contains s then some (n+js.idxOf s) else none)
def kz (bs:List (TypeId×List AV))(m n:Nat)(fs js:List Nat):Nat->FZ
 |0=>(fun s off=>match zgb n fs js s with|some s'=> .ptr s' off|none=> .top,fun s off k sz=>match zgb n fs js s with|some s'=> .bsl s' off k sz false|none=> .top)
 | d+1=>(fun s off=>match zgb n fs js s with|some s'=> .ptr s' off|none=> .iptr (zx m (kz bs m n fs js d) (((bs[s]?).map fun b=>b.2.drop off).getD [])),
  fun s off k sz=>match zgb n fs js s with|some s'=> .bsl s' off k sz false|none=> .list k ((zx m (kz bs m n fs js d) (((bs[s]?).map fun b=>b.2.drop off).getD [])).take (k*sz)) .none)
def zce (bs:List (TypeId×List AV))(m n:Nat)(fs js:List Nat)(d:Nat):List (TypeId×List AV):=
 ((bs.take n).mapIdx fun i b=>(b.1,if fs.contains i then[] else zx m (kz bs m n fs js d) b.2))++js.map fun j=>((bs[j]?).map fun b=>(b.1,zx m (kz bs m n fs js d) b.2)).getD (0,[.bad])
def zeo (U:St)(m n:Nat)(fs js:List Nat)(d:Nat):St:={U with boxes:=zce U.boxes m n fs js d,lens:=U.lens.take m,elems:=U.elems.take m}
def zcx (U:St)(n:Nat)(js:List Nat):Bool:=decide (n<=U.boxes.length)&&js.all (fun j=>decide (n<=j)&&decide (j<U.boxes.length))&&decide js.Nodup
def FrzK (U:St)(n:Nat)(fs js:List Nat)(Y:Cx)(b o:Nat):Prop:=Y.F b o \/ ∃s bx,Y.κ[s]? =some b/\ U.boxes[s]? =some bx/\ zgb n fs js s=none/\ o<bx.2.length
def zdd (U:St)(m n:Nat)(fs js:List Nat)(Y:Cx):Cx:=
 {Y with F:=FrzK U n fs js Y,κ:=Y.κ.take n++js.map fun j=>Y.κ[j]?.getD 0,β:=Y.β.take m,lens:=Y.lens.take m}
theorem qit {m:Nat} {fs js:List Nat} (hI:Inv IT U Y)(hok:zcx U n js=true) {s s' b:Nat} (hp:zgb n fs js s=some s')(hs:Y.κ[s]? =some b):(zdd U m n fs js Y).κ[s']? =some b:=by
 simp only[zcx,and_eq_true,decide_eq_true_eq] at hok;obtain⟨⟨h1,h2⟩,h3⟩:=hok;have hl:=hI.κlen
 show(Y.κ.take n++js.map fun j=>Y.κ[j]?.getD 0)[s']? =some b
 unfold zgb at hp;split at hp
 ·rename_i hlt;split at hp<;>cases hp
  rw[getElem?_append_left (by simp;omega),getElem?_take,if_pos hlt];exact hs
 ·split at hp<;>cases hp
  rename_i hc;have hm:s∈js:=by simpa using hc
  have hi:=List.idxOf_lt_length_of_mem hm;have hlen:(Y.κ.take n).length=n:=by simp;omega
  rw[List.getElem?_append_right (by omega),hlen,Nat.add_sub_cancel_left,getElem?_map,getElem?_eq_getElem hi,map_some,List.getElem_idxOf,hs];rfl
theorem z1j {m:Nat} {fs js:List Nat} (hI:Inv IT U Y)(hok:zcx U n js=true) {s' b:Nat} (hs:(zdd U m n fs js Y).κ[s']? =some b):
 ∃s,Y.κ[s]? =some b/\ ((s'<n/\ s=s') \/(n<=s'/\ js[s'-n]? =some s)):=by
 simp only[zcx,and_eq_true,decide_eq_true_eq] at hok;obtain⟨⟨h1,h2⟩,h3⟩:=hok;have hl:=hI.κlen;have hs:(Y.κ.take n++js.map fun j=>Y.κ[j]?.getD 0)[s']? =some b:=hs;have hlen:(Y.κ.take n).length=n:=by simp;omega
 rcases Nat.lt_or_ge s' n with hlt|hge
 ·rw[getElem?_append_left (by omega),getElem?_take,if_pos hlt] at hs;exact⟨s',hs,.inl ⟨hlt,rfl⟩⟩
 ·rw[List.getElem?_append_right (by omega),hlen,getElem?_map] at hs;cases hj:js[s'-n]? with
  |none=>rw[hj] at hs;cases hs
  | some j=>
   rw[hj] at hs;have hjm:=mem_of_getElem? hj;have hjl:=all_eq_true.1 h2 j hjm;simp only[and_eq_true,decide_eq_true_eq] at hjl;have hjk:Y.κ[j]? =some (Y.κ[j]'(by omega)):=getElem?_eq_getElem _;rw[map_some,hjk] at hs;exact⟨j,by rw[hjk];simpa using hs,.inr ⟨hge,rfl⟩⟩
theorem z0u {m d:Nat} {fs js:List Nat} (hok:zcx U n js=true) {s':Nat} {t:TypeId} {cs:List AV} (hb:(zce U.boxes m n fs js d)[s']? =some (t,cs)) {s:Nat} (hs:(s'<n/\ s=s') \/(n<=s'/\ js[s'-n]? =some s)):
 ∃cs0,U.boxes[s]? =some (t,cs0)/\ ((zgb n fs js s=none/\ cs=[]) \/cs=zx m (kz U.boxes m n fs js d) cs0)/\ (cs≠[]->zgb n fs js s≠none):=by
 simp only[zcx,and_eq_true,decide_eq_true_eq] at hok;obtain⟨⟨h1,h2⟩,h3⟩:=hok;unfold zce at hb;have hlen:((U.boxes.take n).mapIdx fun i b=>(b.1,if fs.contains i=true then[] else zx m (kz U.boxes m n fs js d) b.2)).length=n:=by simp;omega
 rcases hs with⟨hlt,rfl⟩|⟨hge,hj⟩
 ·rw[getElem?_append_left (by omega),List.getElem?_mapIdx,getElem?_take,if_pos hlt,getElem?_eq_getElem (by omega)] at hb;simp only[map_some,Option.some.injEq,Prod.mk.injEq] at hb;obtain⟨hb1,hb2⟩:=hb;refine⟨U.boxes[s].2,by rw[getElem?_eq_getElem (by omega), <-hb1],?_,?_⟩
  ·by_cases hf:fs.contains s=true
   ·rw[if_pos hf] at hb2;exact .inl ⟨by rw[zgb,if_pos hlt,if_pos hf],hb2.symm⟩
   ·rw[if_neg hf] at hb2;exact .inr hb2.symm
  ·intro hne;by_cases hf:fs.contains s=true
   ·rw[if_pos hf] at hb2;exact absurd hb2.symm hne
   ·rw[zgb,if_pos hlt,if_neg hf];simp
 ·have hjm:=mem_of_getElem? hj;have hjl:=all_eq_true.1 h2 s hjm;simp only[and_eq_true,decide_eq_true_eq] at hjl;rw[List.getElem?_append_right (by omega),hlen,getElem?_map,hj,map_some,getElem?_eq_getElem hjl.2] at hb;simp only[map_some,getD_some,Option.some.injEq,Prod.mk.injEq] at hb;refine⟨U.boxes[s].2,by rw[getElem?_eq_getElem hjl.2, <-hb.1],.inr hb.2.symm,fun _=> ?_⟩;rw[zgb,if_neg (by omega),if_pos (by simpa using hjm)];simp
theorem zqk (hIT:ITMono IT) {U:St} {Y:Cx} (hI:Inv IT U Y) {m n:Nat} {fs js:List Nat} (hok:zcx U n js=true): ∀d,
 (∀s off v,Rep IT Y (.ptr s off) v->Rep IT (zdd U m n fs js Y) ((kz U.boxes m n fs js d).1 s off) v)/\ ∀s off k sz f v,Rep IT Y (.bsl s off k sz f) v->Rep IT (zdd U m n fs js Y) ((kz U.boxes m n fs js d).2 s off k sz) v:=by
 have hrows: ∀s,s<m->(zdd U m n fs js Y).lens[s]? =Y.lens[s]? /\ (zdd U m n fs js Y).β[s]? =Y.β[s]? :=fun s hs=>by
  constructor
  ·show(Y.lens.take m)[s]? =_
   rw[getElem?_take,if_pos hs]
  ·show(Y.β.take m)[s]? =_
   rw[getElem?_take,if_pos hs]
 have kept1: ∀s s' off v,zgb n fs js s=some s'->Rep IT Y (.ptr s off) v->Rep IT (zdd U m n fs js Y) (.ptr s' off) v:=by
  rintro s s' off v hp ⟨b,hb,rfl⟩;exact⟨b,qit hI hok hp hb,rfl⟩
 have kept2: ∀s s' off k sz f v,zgb n fs js s=some s'->Rep IT Y (.bsl s off k sz f) v->Rep IT (zdd U m n fs js Y) (.bsl s' off k sz false) v:=by
  rintro s s' off k sz f v hp ⟨b,cap,cur,t,hb,rfl,hcap,hful,hrow⟩;exact⟨b,cap,cur,t,qit hI hok hp hb,rfl,hcap,(fun h=>by cases h),hrow⟩
 intro d;induction d with
 | zero=>
  refine⟨fun s off v hr=> ?_,fun s off k sz f v hr=> ?_⟩
  ·simp only[kz];split
   ·rename_i s' hp;exact kept1 s s' off v hp hr
   ·trivial
  ·simp only[kz];split
   ·rename_i s' hp;exact kept2 s s' off k sz f v hp hr
   ·trivial
 | succ d ih=>
  have key: ∀(s b off:Nat),Y.κ[s]? =some b->zgb n fs js s=none->At IT (zdd U m n fs js Y) (zx m (kz U.boxes m n fs js d) (((U.boxes[s]?).map fun b=>b.2.drop off).getD [])) b off:=fun s b off hb hp=>by
   have hs:s<U.boxes.length:=by rw[<-hI.κlen];exact(List.getElem?_eq_some_iff.1 hb).1
   obtain⟨us,zs,u1,u2,u3⟩:=hI.box s b (U.boxes[s]).1 (U.boxes[s]).2 hb (by simp[hs]);have hul:=zp u2;simp only[getElem?_eq_getElem hs,map_some,getD_some];have hcell: ∀(i:Nat) v,(us.drop off)[i]? =some v->Y.w.cell? ⟨b,off+i,none⟩=some v:=fun i v hv=>by
    rw[List.getElem?_drop] at hv;have:=(List.getElem?_eq_some_iff.1 hv).1;unfold World.cell?;simp[u1,getElem?_append_left this,hv]
   exact z1n (fun i hi=> .inr ⟨s,U.boxes[s],hb,by simp[hs],hp,by simp at hi;omega⟩) (fun v hv=>u3 v (List.mem_of_mem_drop hv)) (zdi (X:=Y) (Y:=zdd U m n fs js Y) hIT (fun b o h=>Or.inl h) rfl hrows ih _ _ (zix u2 off)) hcell
  refine⟨fun s off v hr=> ?_,fun s off k sz f v hr=> ?_⟩
  ·simp only[kz];split
   ·rename_i s' hp;exact kept1 s s' off v hp hr
   ·rename_i hp;obtain⟨b,hb,rfl⟩:=hr;exact⟨b,off,rfl,key s b off hb hp⟩
  ·simp only[kz];split
   ·rename_i s' hp;exact kept2 s s' off k sz f v hp hr
   ·rename_i hp;obtain⟨b,cap,cur,t,hb,rfl,hcap,hful,_⟩:=hr;exact⟨_,cap,rfl,⟨hcap,fun h=>by cases h⟩,.inr ⟨b,off,rfl,zzr _ (key s b off hb hp)⟩,trivial⟩
theorem zit {m:Nat} {fs js:List Nat}: ∀s,s<m->(zdd U m n fs js Y).lens[s]? =Y.lens[s]? /\ (zdd U m n fs js Y).β[s]? =Y.β[s]? :=fun s hs=>by
 constructor
 ·show(Y.lens.take m)[s]? =_
  rw[getElem?_take,if_pos hs]
 ·show(Y.β.take m)[s]? =_
  rw[getElem?_take,if_pos hs]
theorem keepF (hI:Inv IT U Y) {m n:Nat} {fs js:List Nat} {b o:Nat} (h:(zdd U m n fs js Y).F b o):Y.F b o \/b∈Y.κ:=by
 rcases h with h|⟨s,bx,h1,_⟩
 ·exact .inl h
 ·exact .inr (mem_of_getElem? h1)
theorem qbl (hI:Inv IT U Y) {m n:Nat} {fs js:List Nat} (hok:zcx U n js=true) {b:Nat} (h:b∈(zdd U m n fs js Y).κ):b∈Y.κ:=by
 obtain⟨s',hs,rfl⟩:=List.mem_iff_getElem.1 h;obtain⟨s,h1,_⟩:=z1j hI hok (getElem?_eq_getElem hs);exact mem_of_getElem? h1
theorem zth (hIT:ITMono IT) {U:St} {Y:Cx} (hI:Inv IT U Y) {m n:Nat} {fs js:List Nat} (hok:zcx U n js=true)(d:Nat):Inv IT (zeo U m n fs js d) (zdd U m n fs js Y):=by
 have hok':=hok;simp only[zcx,and_eq_true,decide_eq_true_eq] at hok';obtain⟨⟨h1,h2⟩,h3⟩:=hok';have hl:=hI.κlen;have hrep:=zqk hIT hI (m:=m) (fs:=fs) hok d;refine {lens:= ?_,elems:= ?_,κlen:= ?_,κnd:= ?_,box:= ?_,κF:= ?_,βlen:= ?_,βnd:= ?_,βκ:= ?_,row:= ?_,Ok:= ?_,Fcell:= ?_,gv:=hIT.gv _ _ _ _ (fun b o h=>Or.inl h) (fun _ _ _=>rfl) (Szs.refl _) hI.gv}
 ·show Y.lens.take m=U.lens.take m;rw[hI.lens]
 ·show(Y.β.take m).map (·.elem)=U.elems.take m
  rw[<-hI.elems,List.map_take]
 ·show(Y.κ.take n++js.map fun j=>Y.κ[j]?.getD 0).length=(zce U.boxes m n fs js d).length
  simp[zce];omega
 ·intro s1 s2 b k1 k2 hne;obtain⟨r1,a1,b1⟩:=z1j hI hok k1;obtain⟨r2,a2,b2⟩:=z1j hI hok k2;have hne':r1≠r2:=fun e=>by
   subst e;rcases b1 with⟨c1,rfl⟩|⟨c1,c2⟩<;>rcases b2 with⟨d1,d2⟩|⟨d1,d2⟩
   ·exact hne d2
   ·have hjl:=all_eq_true.1 h2 _ (mem_of_getElem? d2);simp only[and_eq_true,decide_eq_true_eq] at hjl;omega
   ·have hjl:=all_eq_true.1 h2 _ (mem_of_getElem? c2);simp only[and_eq_true,decide_eq_true_eq] at hjl;omega
   ·obtain⟨x1,x2⟩:=List.getElem?_eq_some_iff.1 c2;obtain⟨y1,y2⟩:=List.getElem?_eq_some_iff.1 d2;have:=(List.getElem_inj h3 (h₀:=x1) (h₁:=y1)).1 (x2.trans y2.symm);omega
  have fin: ∀(s r:Nat),(zdd U m n fs js Y).κ[s]? =some b->((s<n/\ r=s) \/(n<=s/\ js[s-n]? =some r))->(∃t,U.boxes[r]? =some (t,[]))-> ∃t,(zce U.boxes m n fs js d)[s]? =some (t,[]):=by
   rintro s r ks hs ⟨t,hb⟩;have hlen:s<(zce U.boxes m n fs js d).length:=by
    have h4:=(List.getElem?_eq_some_iff.1 ks).1;have h5:s<(Y.κ.take n++js.map fun j=>Y.κ[j]?.getD 0).length:=h4;simp[zce] at h5⊢;omega
   obtain⟨cs0,e1,e2,_⟩:=z0u (t:=((zce U.boxes m n fs js d)[s]).1) (cs:=((zce U.boxes m n fs js d)[s]).2) hok (getElem?_eq_getElem hlen) hs;rw[hb] at e1;cases e1;refine⟨((zce U.boxes m n fs js d)[s]).1,?_⟩;rw[getElem?_eq_getElem hlen];have:((zce U.boxes m n fs js d)[s]).2=[]:=by
    rcases e2 with⟨_,e2⟩|e2
    ·exact e2
    ·rw[e2,zx]
   rw[<-this]
  exact(hI.κnd r1 r2 b a1 a2 hne').imp (fin s1 r1 k1 b1) (fin s2 r2 k2 b2)
 ·intro s b t cs hs hb;obtain⟨r,a1,b1⟩:=z1j hI hok hs;obtain⟨cs0,e1,e2,_⟩:=z0u hok hb b1;obtain⟨us,zs,u1,u2,u3⟩:=hI.box r b t cs0 a1 e1;rcases e2 with⟨_,rfl⟩|rfl
  ·exact⟨[],us++zs,u1,by rw[zbh],by simp⟩
  ·exact⟨us,zs,u1,zdi (X:=Y) (Y:=zdd U m n fs js Y) hIT (fun b o h=>Or.inl h) rfl zit hrep _ _ u2,u3⟩
 ·intro s b t cs hs hb hne o hf;obtain⟨r,a1,b1⟩:=z1j hI hok hs;obtain⟨cs0,e1,e2,e3⟩:=z0u hok hb b1;have hp:=e3 hne;have hne0:cs0≠[]:=fun e=>by
   subst e;rcases e2 with⟨_,e2⟩|e2
   ·exact hne e2
   ·exact hne (by rw[e2,zx])
  rcases hf with hf|⟨s2,bx,f1,f2,f3,f4⟩
  ·exact hI.κF r b t cs0 a1 e1 hne0 o hf
  ·have hne2:r≠s2:=fun e=>by subst e;exact hp f3
   rcases hI.κnd r s2 b a1 f1 hne2 with⟨t2,h⟩|⟨t2,h⟩
   ·rw[e1] at h;cases h;exact hne0 rfl
   ·rw[f2] at h;cases h;simp at f4
 ·show(Y.β.take m).length=(Y.lens.take m).length
  simp[hI.βlen]
 ·show((Y.β.take m).map (·.block)).Nodup
  rw[List.map_take];exact hI.βnd.sublist (List.take_sublist _ _)
 ·intro r hr hm;exact hI.βκ r (List.mem_of_mem_take hr) (qbl hI hok hm)
 ·intro s r L hr hL;have hr:(Y.β.take m)[s]? =some r:=hr;have hL:(Y.lens.take m)[s]? =some L:=hL;rw[getElem?_take] at hr hL;split at hr<;>try cases hr
  rename_i hs;rw[if_pos hs] at hL;obtain⟨cur,fz,c1,c2,c3,c4,c5,c6,c7⟩:=hI.row s r L hr hL;refine⟨cur,fz,c1,c2,c3,c4,c5,fun o hf=> ?_,c7⟩;rcases hf with hf|⟨s2,bx,f1,_⟩
  ·exact c6 o hf
  ·exact absurd (mem_of_getElem? f1) (hI.βκ r (mem_of_getElem? hr))
 ·intro b ho;obtain⟨k1,k2,k3,k4⟩:=hI.Ok b ho;refine⟨k1,fun hm=>k2 (qbl hI hok hm),fun r hr=>k3 r (List.mem_of_mem_take hr),fun o hf=> ?_⟩;rcases hf with hf|⟨s2,bx,f1,_⟩
  ·exact k4 o hf
  ·exact absurd (mem_of_getElem? f1) k2
 ·intro b o hf;rcases hf with hf|⟨s,bx,f1,f2,f3,f4⟩
  ·exact hI.Fcell b o hf
  ·obtain⟨t,cs⟩:=bx;obtain⟨us,zs,u1,u2,u3⟩:=hI.box s b t cs f1 f2;have hul:=zp u2;simp only at f4;refine⟨us[o]'(by omega),?_⟩;show Y.w.cell? _=_;rw[cell_of_row _ _ _ _ _ _ u1];rw[List.getElem?_toArray,getElem?_append_left (by omega)];exact getElem?_eq_getElem _
theorem ztf {X:Cx} (hE:Ext X Y)(hI:Inv IT U Y) {m n:Nat} {fs js:List Nat} (hok:zcx U n js=true)(hn:X.κ.length<=n)(hm:X.lens.length<=m):Ext X (zdd U m n fs js Y):=by
  have hok':=hok;simp only[zcx,and_eq_true,decide_eq_true_eq] at hok';have hl:=hI.κlen
  exact { os :=hE.os,tape:=hE.tape,output:=hE.output,size:=hE.size,drawn:=hE.drawn,cell:=hE.cell
          F:=fun b o h=> .inl (hE.F b o h)
          κ :=fun s b hs=>by
            have:=(List.getElem?_eq_some_iff.1 hs).1
            show(Y.κ.take n++js.map fun j=>Y.κ[j]?.getD 0)[s]? =some b
            rw[getElem?_append_left (by simp;omega),getElem?_take,if_pos (by omega)];exact hE.κ s b hs
          lens:=fun s L hs=>by
            have hsm:s<m:=by have:=(List.getElem?_eq_some_iff.1 hs).1;omega
            obtain⟨L',k1,k2,k3⟩:=hE.lens s L hs;obtain⟨q1,q2⟩:=zit (U:=U) (Y:=Y) (n:=n) (fs:=fs) (js:=js) s hsm;exact⟨L',by rw[q1];exact k1,k2,fun e=>by rw[q2];exact k3 e⟩
          blk:=hE.blk
          szs:=hE.szs
          frame:=hE.frame
          κnew:=fun b hb=>hE.κnew b (qbl hI hok hb)
          βnew:=fun r hr=>hE.βnew r (List.mem_of_mem_take hr)
          O:=hE.O
          C:=hE.C
          Fnew :=fun b o h=>by
            rcases keepF hI h with h|h
            . exact hE.Fnew b o h
            . rcases hE.κnew b h with h|h
              . exact .inr (.inr (.inr h))
              . exact .inr (.inl h)}
end Go.Ab
