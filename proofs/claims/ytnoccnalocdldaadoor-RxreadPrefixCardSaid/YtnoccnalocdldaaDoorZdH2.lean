import Derived.Test.YtnoccnalocdldaaDoorZdF
import Derived.Laws.IdiomStrings
import Derived.Lib.BufferRead
import Derived.OrdersIn
import Derived.LoopNIn
set_option linter.all false
open Bool (and_eq_true)
open Option (map_some getD_some)
open List (mem_of_getElem? getElem?_eq_getElem getElem?_append_left all_eq_true getElem?_take getElem?_map mem_map map_cons)
namespace Go.Ab
open Go Go.RowKit Go.Fwd
variable {IT:IterP} {X:Cx} {S:List AV} {P:Program} {U:St} {ρ:Operand->AV}
def zcb (S:List AV):Operand->AV
 | .tmp t=>(S[t]?).getD (.raw undef)
 | .const v=>if zou v then zje v else .raw v
 | .func f=> .clos f []
 | .global g=> .raw (.pointer (some ⟨g,0,none⟩))
def zma (IT:IterP)(X:Cx)(S:List AV)(tmps:Array Value):Prop:=zbr IT X S tmps.toList
theorem zdj {a:Act} (h:zma IT X S a.tmps)(x:Operand):Rep IT X (zcb S x) (a.eval x):=by
 cases x with
 | tmp t=>
  simp only[zcb,Act.eval];have hl:S.length=a.tmps.size:=by have:=zq h;simpa using this
  rcases Nat.lt_or_ge t S.length with hlt|hge
  ·obtain⟨v,hv,hr⟩:=zek h t S[t] (by simp[hlt]);have:a.tmps[t]? =some v:=by simpa using hv
   simpa[this,hlt] using hr
  ·have h1:S[t]? =none:=List.getElem?_eq_none hge;have h2:a.tmps[t]? =none:=Array.getElem?_eq_none (by omega);simp[h1,h2,Rep]
 | const v=>
  simp only[zcb,Act.eval];split
  ·rename_i h;exact zhy v h
  ·rw[Rep]
 |func f=>simp only[zcb,Act.eval,Rep];exact⟨[],rfl,by rw[zbr]⟩
 |global g=>simp[zcb,Act.eval,Rep]
theorem zod {a:Act} (h:zma IT X S a.tmps)(d:Option Tmp) {x:AV} {v:Value} (hx:Rep IT X x v):zma IT X (match d with|some t=>S.set t x|none=>S) (a.put d v).tmps:=by
 cases d with
 |none=>exact h
 | some t=>
  have hl:=zq h;refine zfc (by simp[Act.put];simpa using hl) fun i b u h1 h2=> ?_;simp only[Act.put,Array.toList_setIfInBounds] at h2;by_cases e:t=i
  ·subst e;have hlt:t<S.length:=by have:=(List.getElem?_eq_some_iff.1 h1).1;simpa using this
   rw[List.getElem?_set_self hlt] at h1;rw[List.getElem?_set_self (by rw[<-hl];exact hlt)] at h2;cases h1;cases h2;exact hx
  ·rw[List.getElem?_set_ne e] at h1 h2;obtain⟨u',e',hr⟩:=zek h i b h1;rw[h2] at e';cases e';exact hr
def ztv:List AV->Option (List UInt8)
 |[]=>some []
 | .raw (.int .u8 k)::l=>match ztv l with
  |some r=>if 0<=k/\ k<256 then some (UInt8.ofNat k.toNat::r) else none
  |none=>none
 |_=>none
theorem zwm: ∀ {cs:List AV} {l:List UInt8},ztv cs=some l->cs=l.map fun x=> .raw (.int .u8 ((x.toNat:Nat):Int))
 |[],l,h=>by simp only[ztv,Option.some.injEq] at h;subst h;rfl
 | a ::cs,l,h=>by
  cases a with
  | raw u=>
   cases u with
   | int k n=>
    cases k<;>try(simp only[ztv] at h;cases h)
    rw[ztv] at h;cases hr:ztv cs with
    |none=>rw[hr] at h;cases h
    | some r=>
     rw[hr] at h;simp only at h;split at h<;>cases h
     rename_i hk;rw[map_cons, <-zwm hr];congr 3
     rw[UInt8.toNat_ofNat'];omega
   |_=>simp only[ztv] at h;cases h
  |_=>simp only[ztv] at h;cases h
def zos (P:Program)(s t:TypeId):AV->Option AV
 | .list n cs _=>match P.underlying s,P.underlying t with
  | some (.slice e),some .string=>match P.underlying e,ztv cs with
   |some (.int .u8),some l=>if l.length=n then some (.raw (.string ⟨l.toArray⟩)) else none
   |_,_=>none
  |_,_=>none
 |_=>none
theorem zxo: ∀ {l:List UInt8} {vs:List Value},zbr IT X (l.map fun x=> .raw (.int .u8 ((x.toNat:Nat):Int))) vs->vs=l.map fun x=> .int .u8 ((x.toNat:Nat):Int)
 |[],vs,h=>by rw[List.map_nil,zbr] at h;exact h
 | x::l,vs,h=>by
  rw[map_cons,zbr] at h;obtain⟨v,r,rfl,h1,h2⟩:=h;rw[Rep] at h1;rw[h1,zxo h2];rfl
theorem zso {s t:TypeId} {x a:AV} {v:Value} (h:zos P s t x=some a)(hx:Rep IT X x v): ∃r,(convert s t v).run P X.w= .ok r X.w/\ Rep IT X a r:=by
 unfold zos at h;split at h<;>try cases h
 rename_i n cs st;split at h<;>try cases h
 rename_i e hs ht;split at h<;>try cases h
 rename_i l he hl;split at h<;>cases h
 rename_i hn;subst hn;have hcs:=zwm hl;rw[Rep] at hx;obtain⟨ad,cap,rfl,_,hc,_⟩:=hx;refine⟨_,?_,by rw[Rep]⟩;rcases hc with hc|⟨b,o,rfl,hat⟩
 ·have:l=[]:=by rw[hc] at hcs;exact List.map_eq_nil_iff.1 hcs.symm
  subst this;cases ad with
  |none=>exact Go.Lib.run_convert_nil_bytes X.w s t e cap hs he ht
  |some ad=>exact Go.run_convert_bytes_back X.w s t e ad cap [] hs he ht (fun j hj=>by simp at hj)
 ·subst hcs;obtain⟨us,u1,u2,u3⟩:=zga hat
  have hus:=zxo u1;subst hus;exact Go.run_convert_bytes_back X.w s t e ⟨b,o,none⟩ cap l hs he ht (fun j hj=>by rw[zfj];exact u3 j _ (by simp[hj]))
def qop (P:Program)(ρ:Operand->AV)(U:St)(o:Oper):Option AV:=
 match o.op with
 | .move x| .assign x=>some (ρ x)
 | .pick c a b=>match ρ c with| .raw (.bool t)=>some (bif t then ρ a else ρ b)|_=>none
 | .build t parts=>match qbe P t (parts.toList.map fun p=>(p.1,ρ p.2)) with|some a=>some a|none=>zfs P ρ o
 | .buildSlice t n parts=>zoa P t n (parts.toList.map fun p=>(p.1,ρ p.2))
 | .load t x=>zlg P U t (ρ x)
 | .fieldAddr t x f=>zow P t f (ρ x)
 | .indexAddr t x i=>zhn P t (ρ x) (ρ i)
 | .field t x f=>match qbq P t f (ρ x) with|some a=>some a|none=>zfs P ρ o
 | .index t x i=>match qbu P t (ρ x) (ρ i) with|some a=>some a|none=>zfs P ρ o
 | .slice t x lo hi mx=>match zub P t (ρ x) (lo.map ρ) (hi.map ρ) (mx.map ρ) with|some a=>some a|none=>zfs P ρ o
 | .extract x i=>match ρ x with| .tup vs=>vs[i]? |_=>none
 | .makeFunc (.func f) first caps=>if first.size=0 then some (.clos f (caps.toList.map ρ)) else none
 | .call c=>match c.callee with
  | .builtin .len=>match c.args.toList,c.argTypes.toList with
   |[x],[t]=>match qen P t (ρ x) with|some a=>some a|none=>zfs P ρ o
   |_,_=>none
  | .builtin .append=>none
  | .builtin _=>zfs P ρ o
  |_=>none
 | .convert s t x=>match zos P s t (ρ x) with|some a=>some a|none=>zfs P ρ o
 | .nilCheck x=>match ρ x with| .ptr s off=>some (.ptr s off)| .iptr cs=>some (.iptr cs)|_=>zfs P ρ o
 | .alloc _| .box _ _| .store _ _ _=>none
 |_=>zfs P ρ o
def ResQ (IT:IterP)(X:Cx)(U:St)(a:AV)(r:Result Next):Prop:=
 ∃v X',r= .ok (.value v) X'.w/\ Ext X X'/\ Inv IT U X'/\ Rep IT X' a v/\ Grows X.w X'.w/\ X'.κ=X.κ/\ X'.β=X.β/\ X'.lens=X.lens/\ (X'.O=X.O/\ X'.C=X.C)/\ ∀b i,X'.F b i->X.F b i \/X.w.heap.size<=b
theorem zcq {a:AV} {r:Result Next} (v:Value)(h:r= .ok (.value v) X.w)(hI:Inv IT U X)(hr:Rep IT X a v):ResQ IT X U a r:=
 ⟨v,X,h,Ext.refl X,hI,hr,Grows.refl _,rfl,rfl,rfl,⟨rfl,rfl⟩,fun _ _ h=> .inl h⟩
theorem zxr {ρc:Operand->Value} {o:Oper} {a:AV} (h:zfs P ρ o=some a)(hρ: ∀x∈o.op.operands,Rep IT X (ρ x) (ρc x))(hI:Inv IT U X):
 ResQ IT X U a ((execOp ρc o).run P X.w):=by
 unfold zfs at h;split at h
 ·rename_i hall;have hcongr:(∀cs b,o.op≠ .select cs b)->execOp (zce ρ) o=execOp ρc o:=fun hs=>execOp_congr o hs fun x hx=>by
   have h1:=all_eq_true.1 hall x (Array.mem_toList_iff.2 hx);obtain⟨u,hu⟩:=Option.isSome_iff_exists.1 h1;rw[z1b hu (hρ x hx)];simp[zce,hu]
  have fin:(∀cs b,o.op≠ .select cs b)->(match val? P (execOp (zce ρ) o) with|some (.value v)=>if zou v then some (zje v) else none|_=>none)=some a->ResQ IT X U a ((execOp ρc o).run P X.w):=fun hs h=>by
   rw[hcongr hs] at h;split at h
   ·rename_i v hv;split at h
    ·rename_i hok;cases h;exact zcq v (val?_run _ _ hv _) hI (zhy v hok)
    ·cases h
   ·cases h
  revert h;split
  ·intro h;cases h
  ·rename_i hne;exact fin fun cs b e=>hne cs b e
 ·cases h
theorem zle {ρc:Operand->Value}: ∀l:List (Nat×Operand),(∀p∈l,Rep IT X (ρ p.2) (ρc p.2))->zqu IT X (l.map fun p=>(p.1,ρ p.2)) (l.map fun p=>(p.1,ρc p.2))
 |[],_=>by simp[zqu]
 |p::l,h=>by rw[map_cons,map_cons,zqu];exact⟨_,_,rfl,h p (by simp),zle l fun q hq=>h q (by simp[hq])⟩
theorem zrj {ρc:Operand->Value}: ∀l:List Operand,(∀x∈l,Rep IT X (ρ x) (ρc x))->zbr IT X (l.map ρ) (l.map ρc)
 |[],_=>by simp[zbr]
 |x::l,h=>by rw[map_cons,map_cons,zbr];exact⟨_,_,rfl,h x (by simp),zrj l fun y hy=>h y (by simp[hy])⟩
theorem zxb {ρc:Operand->Value} (x:Option Operand)(hρ: ∀y,x=some y->Rep IT X (ρ y) (ρc y)):qbb IT X (x.map ρ) (x.map ρc):=by
 cases x with
 |none=>rfl
 |some x=>exact⟨_,rfl,hρ x rfl⟩
theorem zoo (hIT:ITMono IT) {P:Program} {X:Cx} {U:St} {ρ:Operand->AV} {ρc:Operand->Value} {o:Oper} {a:AV} (h:qop P ρ U o=some a)(hρ: ∀x∈o.op.operands,Rep IT X (ρ x) (ρc x))(hI:Inv IT U X):
 ResQ IT X U a ((execOp ρc o).run P X.w):=by
 have raw:zfs P ρ o=some a->ResQ IT X U a ((execOp ρc o).run P X.w):=fun h=>zxr h hρ hI;unfold qop at h;split at h
 ·rename_i x ho;cases h;exact zcq _ (by simp[execOp,ho]) hI (hρ x (by simp[ho,Op.operands]))
 ·rename_i x ho;cases h;exact zcq _ (by simp[execOp,ho]) hI (hρ x (by simp[ho,Op.operands]))
 ·rename_i c x y ho;split at h<;>try cases h
  rename_i t hc;have hcv:=hρ c (by simp[ho,Op.operands]);rw[hc,Rep] at hcv;refine zcq (if t then ρc x else ρc y) (by simp[execOp,ho,hcv,asBool]) hI ?_;cases t
  ·exact hρ y (by simp[ho,Op.operands])
  ·exact hρ x (by simp[ho,Op.operands])
 ·rename_i t parts ho;split at h
  ·rename_i b hb;cases h;obtain⟨v,h1,h2⟩:=z0h (P:=P) (qs:=parts.map fun(i,x)=>(i,ρc x)) hb (by simpa using zle (IT:=IT) (X:=X) (ρ:=ρ) (ρc:=ρc) parts.toList fun p hp=>hρ p.2 (by rw[ho];simp only[Op.operands,List.mem_toArray,mem_map];exact⟨p,hp,rfl⟩));exact zcq v (by simp[execOp,ho,h1]) hI h2
  ·exact raw h
 ·rename_i t n parts ho
  obtain⟨v,X',h1,h2,h3,h4,h5⟩: ∃v X',(Instr.buildSlice t n (parts.map fun(i,x)=>(i,ρc x))).run P X.w= .ok v X'.w/\ Ext X X'/\ Inv IT U X'/\ Rep IT X' a v/\
   Grows X.w X'.w/\ X'.κ=X.κ/\ X'.β=X.β/\ X'.lens=X.lens/\ (X'.O=X.O/\ X'.C=X.C)/\ ∀b i,X'.F b i->X.F b i \/X.w.heap.size<=b:=zry hIT h (by simpa using zle (IT:=IT) (X:=X) (ρ:=ρ) (ρc:=ρc) parts.toList fun p hp=>hρ p.2 (by rw[ho];simp only[Op.operands,List.mem_toArray,mem_map];exact⟨p,hp,rfl⟩)) hI
  exact⟨v,X',by simp[execOp,ho,h1],h2,h3,h4,h5⟩
 ·rename_i t x ho;obtain⟨v,h1,h2⟩:=zrt h (hρ x (by simp[ho,Op.operands])) hI;exact zcq v (by simp[execOp,ho,h1]) hI h2
 ·rename_i t x f ho;obtain⟨v,h1,h2⟩:=zrb h (hρ x (by simp[ho,Op.operands]));exact zcq v (by simp[execOp,ho,h1]) hI h2
 ·rename_i t x i ho;obtain⟨v,h1,h2⟩:=zqy h (hρ x (by simp[ho,Op.operands])) (hρ i (by simp[ho,Op.operands]));exact zcq v (by simp[execOp,ho,h1]) hI h2
 ·rename_i t x f ho;split at h
  ·rename_i b hb;cases h;obtain⟨v,h1,h2⟩:=z0d hb (hρ x (by simp[ho,Op.operands]));exact zcq v (by simp[execOp,ho,h1]) hI h2
  ·exact raw h
 ·rename_i t x i ho;split at h
  ·rename_i b hb;cases h;obtain⟨v,h1,h2⟩:=zxx hb (hρ x (by simp[ho,Op.operands])) (hρ i (by simp[ho,Op.operands]));exact zcq v (by simp[execOp,ho,h1]) hI h2
  ·exact raw h
 ·rename_i t x lo hi mx ho;split at h
  ·rename_i b hb;cases h;obtain⟨v,h1,h2⟩:=zyj (P:=P) hb (hρ x (by simp[ho,Op.operands])) (zxb lo fun y e=>hρ y (by simp[ho,Op.operands,e])) (zxb hi fun y e=>hρ y (by simp[ho,Op.operands,e])) (zxb mx fun y e=>hρ y (by simp[ho,Op.operands,e]));exact zcq v (by simp[execOp,ho,h1]) hI h2
  ·exact raw h
 ·rename_i x i ho;split at h<;>try cases h
  rename_i vs hx;have hv:=hρ x (by simp[ho,Op.operands]);rw[hx,Rep] at hv;obtain⟨us,e,hr⟩:=hv;obtain⟨u,hu,hr2⟩:=zek hr i a h;exact zcq u (by simp[execOp,ho,e,Instr.extract,hu]) hI hr2
 ·rename_i f first caps ho
  split at h<;>cases h
  rename_i h0;refine zcq (.func (.func f) #[] (caps.map ρc)) ?_ hI ?_
  ·have:first= #[]:=Array.eq_empty_of_size_eq_zero h0
   simp[execOp,ho,Instr.makeFunc,this]
  ·rw[Rep];refine⟨caps.toList.map ρc,by congr 1;apply Array.ext';simp,zrj _ fun y hy=>hρ y (by simp[ho,Op.operands];exact .inr (by simpa using hy))⟩
 ·rename_i c ho;split at h
  ·rename_i hc;split at h
   ·rename_i x t hargs htys;split at h
    ·rename_i b hb;cases h;have e1:c.args= #[x]:=by apply Array.ext';simpa using hargs
     obtain⟨v,h1,h2⟩:=z6m (P:=P) (ty:=o.type) hb (hρ x (by simp[ho,Op.operands,Call.operands,e1]));have e2:c.argTypes= #[t]:=by apply Array.ext';simpa using htys
     exact zcq v (by simp[execOp,ho,resolve,hc,invoke,builtin,e1,e2,h1]) hI h2
    ·exact raw h
   ·cases h
  ·cases h
  ·exact raw h
  ·cases h
 ·rename_i s t x ho;split at h
  ·rename_i b hb;cases h;obtain⟨v,h1,h2⟩:=zso (P:=P) hb (hρ x (by simp[ho,Op.operands]));exact zcq v (by simp[execOp,ho,h1]) hI h2
  ·exact raw h
 ·rename_i x ho;have hx:=hρ x (by simp[ho,Op.operands]);split at h
  ·rename_i s off he;cases h;rw[he] at hx;have hx2:=hx;rw[Rep] at hx2;obtain⟨b,_,hv⟩:=hx2;exact zcq (ρc x) (by simp[execOp,ho,hv]) hI hx
  ·rename_i cs he;cases h;rw[he] at hx;have hx2:=hx;rw[Rep] at hx2;obtain⟨b,o',hv,_⟩:=hx2;exact zcq (ρc x) (by simp[execOp,ho,hv]) hI hx
  ·exact raw h
 ·cases h
 ·cases h
 ·cases h
 ·exact raw h
end Go.Ab
namespace Go.Fwd
open Go Go.RowKit
variable {Q:Exit->Act->World->Prop}
structure FenceOk (F:Fence)(P:Program):Prop where
 fn: ∀f,F.fn f
 depth:F.depth=none
 calls: ∀(n:Nat) (f:FuncId) (args:Array Value) (w:World) (R:Ending->World->Prop),Calls P f args w R->CallsIn F n P f args w R
 rows: ∀(n:Nat) (row:String) (args:Array Value) (w:World) (R:Value->World->Prop),Rows P row args w R->RowsIn F n P row args w R
 rounds: ∀(n l:Nat) (f:FuncId) (tmps:Array Value) (asg body:Code) (w:World) (R:Ending->World->Prop),RoundIn Fence.wide n P l f tmps asg body w R->RoundIn F n P l f tmps asg body w R
theorem zrw {n:Nat} {P:Program} {row:String} {args:Array Value} {w:World} {R:Value->World->Prop} (h:Rows P row args w R):RowsIn Fence.wide n P row args w R:=
 fun c cs _=>let⟨v,w',r,s⟩:=h c cs;⟨v,w',r,stepsIn_wide.2 s⟩
theorem zqr (P:Program):FenceOk Fence.wide P:=⟨fun _=>trivial,rfl,fun _ _ _ _ _ h=>callsIn_wide.2 h,fun _ _ _ _ _ h=>zrw h,fun _ _ _ _ _ _ _ _ h=>h⟩
theorem znf (P:Program)(l:Nat):FenceOk (Fence.wide.inRound l) P:=⟨fun _=>trivial,rfl,fun _ _ _ _ _ h=>CallsIn.inRound l (callsIn_wide.2 h),fun n _ _ _ _ h=>(zrw (n:=n) h:RowsIn Fence.wide n _ _ _ _ _),fun _ _ _ _ _ _ _ _ h=>h⟩
section
variable {F:Fence} {nn:Nat} {P:Program} {ops:Array Oper} {w0:World} {a0:Act} {md:Region.Mode}
theorem zix {Q':Exit->Act->World->Prop}: ∀(l:List Oper) (k:Nat) (listed:Array Bool) (a:Act) (w:World),(∀j,l[j]? =ops[k+j]?)->
 Region.seqB md ops l.length k listed=true->wpListIn F nn P ops Q' l a w->wpAnyIn F nn P md ops Q' l.length listed a w
 |[],_,_,_,_,_,hB,h=>⟨by simpa[Region.seqB] using hB,h⟩
 | o::l,k,listed,a,w,hl,hB,h=>by
  have h0:ops[k]? =some o:=by simpa using(hl 0).symm
  simp only[List.length_cons,Region.seqB,and_eq_true,decide_eq_true_eq] at hB;refine⟨fun h1=>(by rw[hB.1] at h1;cases h1),fun i hi=> ?_⟩;rw[hB.1] at hi;have hik:i=k:=by simpa using hi
  subst hik;have hw:wpOpIn F nn P ops Q' i (wpListIn F nn P ops Q' l) a w:=by unfold wpOpIn;simp only[h0];exact h
  exact wpOpIn_mono (fun a' w' h'=>zix l (i+1) _ a' w' (fun j=>by have:=hl (j+1);simpa[Nat.add_assoc,Nat.add_comm 1 j] using this) hB.2 h') hw
theorem wpIn_of_good {o:Oper} {V:VP} {a:Act} {w:World} {K:Act->World->Prop} (hF:FenceOk F P)(hnd: ∀c,o.op≠ .defer c)(h:OpGood P V w ((execOp a.eval o).run P w))
 (hK: ∀v w',Grows w w'->V v w'->K (a.put o.dst v) w'):o.wpIn F nn P a w K Q:=by
 unfold Oper.wpIn;refine⟨fun f _=>hF.fn f,?_⟩;rw[Oper.semAt_plain F _ _ hnd];generalize (execOp a.eval o).run P w=r at*
 cases r with
 |halt x w'=>exact h.elim
 | ok x w'=>
  cases x<;>simp only[OpGood] at h<;>simp only[Oper.uponIn]
  case value v=>exact hK _ _ h.1 h.2
  case skip=>exact hK _ _ h.1 h.2
  case enter f args=>
   refine⟨fun hd=>(by rw[hF.depth] at hd;cases hd),CallsIn.mono (hF.calls _ _ _ _ _ h.2) ?_⟩;rintro e w'' ⟨v,rfl,hg,hv⟩;exact hK _ _ hg hv
  case row row args=>exact⟨fun hd=>(by rw[hF.depth] at hd;cases hd),RowsIn.mono (hF.rows _ _ _ _ _ h.2) fun v w'' hh=>hK _ _ hh.1 hh.2⟩
theorem anyIn_of_inv (hF:FenceOk F P)(hnd: ∀ {i:Nat} (o:Oper),ops[i]? =some o-> ∀c,o.op≠ .defer c) {Vs:Nat->VP} {n:Nat} {Q:Exit->Act->World->Prop} (hm: ∀j,j<n->Mono (Vs j))(hst: ∀i,i<n-> ∀o,ops[i]? =some o->StepOk P ops w0 a0 (accU ops Vs i) (Vs i) o)
 (hB:zta ops a0.tmps.size n=true) (hback:zvu ops=true) (hn:n<=ops.size) (htail:n=ops.size \/(Region.sinkB .any ops n=true/\ Region.chainB .any ops n=true))
 (hseq:Region.seqB .any ops (ops.size-n) n ((List.replicate n true).toArray++(List.replicate (ops.size-n) false).toArray)=true)
 (hfin: ∀a w,a.tmps.size=a0.tmps.size->a.defers=a0.defers->Grows w0 w->(∀j t,j<n->zbo ops j=some t->Vs j (a.eval (.tmp t)) w)->(∀t,(∀j,j<n->zbo ops j≠some t)->a.eval (.tmp t)=a0.eval (.tmp t))->
  wpListIn F nn P ops Q (ops.toList.drop n) a w):
 ∀(f:Nat) (listed:Array Bool) (a:Act) (w:World),left n listed=f->Inv ops w0 a0 Vs n listed a w->wpAnyIn F nn P .any ops Q (f+(ops.size-n)) listed a w
 | 0, listed,a,w,h0,inv=>by
  have hall:=zib n h0;have hl:listed=(List.replicate n true).toArray++(List.replicate (ops.size-n) false).toArray:=by
   apply Array.ext
   ·simp[inv.head.size];omega
   ·intro i h1 h2;by_cases hin:i<n
    ·have:=hall i hin;simp[h1] at this;rw[this,Array.getElem_append_left (by simpa using hin)];simp
    ·have hs:i<ops.size:=by rw[<-inv.head.size];exact h1
     have:=inv.head.tail i (by omega) hs;simp[h1] at this;rw[this,Array.getElem_append_right (by simp;omega)];simp
  rw[Nat.zero_add];have hlen:(ops.toList.drop n).length=ops.size-n:=by simp
  have:=zix (F:=F) (nn:=nn) (P:=P) (md:= .any) (ops:=ops) (Q':=Q) (ops.toList.drop n) n listed a w (fun j=>by simp) (by rw[hlen,hl];exact hseq)
   (hfin a w inv.size inv.defers inv.grows (fun j t hj hd=>inv.done j t hj hd (hall j hj)) (fun t h=>inv.still t fun j hj hd=>absurd hd (h j hj)))
  rwa[hlen] at this
 | f + 1,listed,a,w,h0,inv=>by
  obtain⟨i0,hi0,hu0,hb0⟩:=zlu n (by rw[h0];exact Nat.succ_ne_zero f);have hr0:i0∈Region.ready .any ops listed:=by
   have hlt:i0<ops.size:=by omega
   refine mem_ready.2 ⟨hu0,ops[i0],by simp[hlt],fun e he hb=> ?_⟩;have h1:=all_eq_true.1 hback i0 (List.mem_range.2 hlt);rw[Array.getElem?_eq_getElem hlt] at h1;have h2:=Array.all_eq_true'.1 h1 e he;have h3:e.on<i0:=by simpa[hb] using h2
   exact zne (by rw[inv.head.size];omega) (hb0 _ h3)
  rw[show f+1+(ops.size-n)=(f+(ops.size-n))+1 by omega];refine⟨fun h=>(by rw[h] at hr0;cases hr0),fun i hi=> ?_⟩;have hlt:i<ops.size:=by obtain⟨_,o,ho,_⟩:=mem_ready.1 hi;exact(Array.getElem?_eq_some_iff.1 ho).1
  have hin:i<n:=by
   rcases Nat.lt_or_ge i n with h|h
   ·exact h
   ·rcases htail with hh|⟨hs,hc⟩
    ·omega
    ·exact absurd hi (tail_waits hs hc (by omega) inv.head _ i0 rfl hi0 hu0 i h)
  obtain⟨hun,o,ho,_⟩:=mem_ready.1 hi;have hleft:left n (listed.setIfInBounds i true)=f:=by have:=zlp hun n hin;omega
  have next: ∀v w',Grows w w'->Vs i v w'->wpAnyIn F nn P .any ops Q (f+(ops.size-n)) (listed.setIfInBounds i true) (a.put o.dst v) w':=fun v w' hg hv=>by
   have:=inv.step hB hm hi hin hg hv;have e:zbo ops i=o.dst:=by simp[zbo,ho]
   rw[e] at this;exact anyIn_of_inv hF hnd hm hst hB hback hn htail hseq hfin f _ _ _ hleft this
  have hlk: ∀t∈zej o.op.operands.toList,env a0 (accU ops Vs i) t (a.eval (.tmp t)) w:=fun t ht=>inv.slot hB hi hin (by simp only[zgn,ho];exact List.mem_append.2 (.inl ht));have hs:=hst i hin o ho a.eval w (zrq a) inv.grows (all_mk hlk);unfold wpOpIn;simp only[ho];cases hgd:o.guard with
  | none=>
   rw[hgd] at hs;simp only[Region.wanted,hgd,if_true];exact wpIn_of_good hF (hnd o ho) hs next
  | some kb=>
   obtain⟨k,b⟩:=kb;rw[hgd] at hs;simp only at hs;obtain⟨d,hd,hs⟩:=hs;have hg:=hs (a.eval (.tmp d)) (inv.slot hB hi hin (by simp only[zgn,ho,hgd,hd];exact List.mem_append.2 (.inr (by simp))));have hy:yielded ops a.tmps k=match a.tmps[d]? with|some (.bool c)=>some c|_=>none:=by
    unfold yielded;have:(ops[k]?).bind (·.dst)=some d:=hd;rw[this];rfl
   by_cases hb:a.eval (.tmp d)= .bool b
   ·have hw:Region.wanted o (yielded ops a.tmps)=true:=by
     simp only[Region.wanted,hgd,hy];have:a.tmps[d]? =some (.bool b):=by
      simp only[Act.eval] at hb;cases hh:a.tmps[d]? with
      |none=>simp[hh,undef] at hb
      |some x=>simp[hh] at hb;rw[hb]
     rw[this];simp
    rw[if_pos hw];exact wpIn_of_good hF (hnd o ho) (hg.1 hb) next
   ·have hw: ¬Region.wanted o (yielded ops a.tmps)=true:=by
     simp only[Region.wanted,hgd,hy];intro h;apply hb;simp only[Act.eval];cases hh:a.tmps[d]? with
     |none=>simp[hh] at h
     |some x=>cases x<;>simp[hh] at h;simp[hh,h]
    rw[if_neg hw];exact⟨fun f _=>hF.fn f,next _ _ (Grows.refl w) (hg.2 hb)⟩
end
theorem wpIn_region_fwd {F:Fence} {nn:Nat} {P:Program} {id:Nat} {a:Act} {w:World} {l:List Oper} (hF:FenceOk F P)(n:Nat)(hm:P.follows .mixedOrders=true)(hnd: ∀o∈l,∀c,o.op≠ .defer c)(hB:chk l.toArray a.tmps.size n=true)
 (h:FwdGo P l.toArray w a (fun acc=> ∀w',Grows w w'->EndAt w' acc a fun a'=>wpListIn F nn P l.toArray Q (l.drop n) a' w') (l.take n) []):(Code.region id l.toArray true).wpIn F nn P Q a w:=by
 simp only[chk,and_eq_true,decide_eq_true_eq,Bool.or_eq_true] at hB;obtain⟨⟨⟨⟨h1,h2⟩,h3⟩,h4⟩,h5⟩:=hB;obtain⟨Vs,_,hs,hf⟩:=fwd_choose (P:=P) (ops:=l.toArray) (w0:=w) (a0:=a) (l.take n) 0 (fun _ _ _=>True) (fun j hj=>z4y hj) h;have hlen:(l.take n).length=n:=by simp at h3⊢;omega
 rw[hlen,Nat.zero_add] at hs hf;refine wpIn_region_any hm ?_
 have key:=anyIn_of_inv (F:=F) (nn:=nn) (P:=P) hF (fun o ho=>hnd o (by simpa using mem_of_getElem? (by simpa using ho))) (ops:=l.toArray) (w0:=w) (a0:=a) (Vs:=Vs) (n:=n) (Q:=Q) (fun j hj=>(hs j (Nat.zero_le _) (by omega)).1) (fun i hi=>(hs i (Nat.zero_le _) (by omega)).2) h1 h2 h3 h4 h5
  (fun a' w' e1 e2 hg hd hst=>by
   have:=end_of_inv (K:=fun a'=>wpListIn F nn P l.toArray Q (l.drop n) a' w') h1 e1 e2 hd hst (hf w' hg);simpa using this)
  (left n (Array.replicate l.toArray.size false)) (Array.replicate l.toArray.size false) a {w with drawn:=w.drawn+1} rfl
  ⟨⟨by simp,fun j oj _ hl=>(by rw[getD_replicate_false] at hl;cases hl),fun t _ ht=>getD_in (by simpa using ht) (getD_replicate_false _ _)⟩,(Grows.refl w).drew,rfl,rfl,
   fun j t hj _ hl=>by
    have:j<l.toArray.size:=by omega
    simp at this;simp[this] at hl,fun _ _=>rfl⟩
 have hleft: ∀m,m<=l.toArray.size->left m (Array.replicate l.toArray.size false)=m:=by
  intro m;induction m with
  |zero=>intro _;rfl
  | succ m ih=>
   intro hm;have:m<l.length:=by simp at hm;omega
   simp only[left,ih (by omega)];simp[this]
 rw[hleft n h3,show n+(l.toArray.size-n)=l.toArray.size by omega] at key;exact key
end Go.Fwd
namespace Go.Ab
open Go Go.RowKit Go.Fwd
variable {IT:IterP} {X Y:Cx}
mutual
def zbs (n:Nat):AV->Bool
 | .agg cs=>zaf n cs
 | .tup cs=>zaf n cs
 | .list _ cs _=>zaf n cs
 | .ptr s _=>decide (s<n)
 | .bsl s _ _ _ _=>decide (s<n)
 | .iptr cs=>zaf n cs
 | .clos _ cs=>zaf n cs
 | .iter _=>true
 | .yld _=>true
 | .raw _=>true
 | .top=>true
 | .bad=>true
def zaf (n:Nat):List AV->Bool
 |[]=>true
 |a::l=>zbs n a&&zaf n l
end
mutual
def zde:AV->AV
 | .agg cs=> .agg (stripL cs)
 | .tup cs=> .tup (stripL cs)
 | .list n cs _=> .list n (stripL cs) .none
 | .ptr s o=> .ptr s o
 | .bsl s o n sz f=> .bsl s o n sz f
 | .iptr cs=> .iptr (stripL cs)
 | .clos f cs=> .clos f (stripL cs)
 | .iter xs=> .iter xs
 | .yld l=> .yld l
 | .raw v=> .raw v
 | .top=> .top
 | .bad=> .bad
def stripL:List AV->List AV
 |[]=>[]
 |a::l=>zde a::stripL l
end
theorem zlx: ∀l,stripL l=l.map zde
 |[]=>by simp[stripL]
 |a::l=>by rw[stripL,zlx l,map_cons]
theorem zst (n:Nat): ∀l,zaf n l=l.all (zbs n)
 |[]=>by simp[zaf]
 |a::l=>by rw[zaf,zst n l,List.all_cons]
mutual
theorem zrd (hIT:ITMono IT) {X Y:Cx} {n:Nat} (hF:Y.F=X.F)(hw:Y.w=X.w)(hβ:Y.β=X.β)(hl:Y.lens=X.lens)(hκ:Y.κ=X.κ.take n): ∀(a:AV) (v:Value),zbs n a=true->Rep IT X a v->Rep IT Y a v
 | .raw u,v,_,hr=>hr
 | .agg cs,v,ho,⟨vs,e,hr,h1⟩=>⟨vs,e,zld hIT hF hw hβ hl hκ cs vs (by simpa[zbs] using ho) hr,h1⟩
 | .tup cs,v,ho,⟨vs,e,hr⟩=>⟨vs,e,zld hIT hF hw hβ hl hκ cs vs (by simpa[zbs] using ho) hr⟩
 | .list m cs st,v,ho,⟨a,cap,e,hcap,hc,hs⟩=>⟨a,cap,e,hcap,hc.imp id fun⟨b,o,e1,e2⟩=>⟨b,o,e1,z1g hIT hF hw hβ hl hκ cs b o (by simpa[zbs] using ho) e2⟩,by cases st<;>simp only[hl,hβ]<;>exact hs⟩
 | .ptr s off,v,ho,⟨b,e1,e2⟩=>⟨b,by rw[hκ,getElem?_take,if_pos (by simpa[zbs] using ho)];exact e1,e2⟩
 | .bsl s off m sz f,v,ho,hr=>Bsl.mono (fun b e1=>by rw[hκ,getElem?_take,if_pos (by simpa[zbs] using ho)];exact e1) hw hr
 | .iptr cs,v,ho,⟨b,o,e,hc⟩=>⟨b,o,e,z1g hIT hF hw hβ hl hκ cs b o (by simpa[zbs] using ho) hc⟩
 | .clos f caps,v,ho,⟨vs,e,hr⟩=>⟨vs,e,zld hIT hF hw hβ hl hκ caps vs (by simpa[zbs] using ho) hr⟩
 | .iter xs,v,ho,h2=>hIT.it _ _ _ _ (fun b o h=>by rw[hF];exact h) (fun b o h=>by rw[hw]) (Szs.eq hw) h2
 | .yld _,_,_,hr=>hr
 | .top,_,_,hr=>hr
 | .bad,_,_,hr=>hr
theorem zld (hIT:ITMono IT) {X Y:Cx} {n:Nat} (hF:Y.F=X.F)(hw:Y.w=X.w)(hβ:Y.β=X.β)(hl:Y.lens=X.lens)(hκ:Y.κ=X.κ.take n): ∀(l:List AV) (vs:List Value),zaf n l=true->zbr IT X l vs->zbr IT Y l vs
 |[],_,_,hr=>hr
 | a::l,vs,ho,⟨v,r,e,h1,h2⟩=>by
  rw[zaf,and_eq_true] at ho;exact⟨v,r,e,zrd hIT hF hw hβ hl hκ a v ho.1 h1,zld hIT hF hw hβ hl hκ l r ho.2 h2⟩
theorem z1g (hIT:ITMono IT) {X Y:Cx} {n:Nat} (hF:Y.F=X.F)(hw:Y.w=X.w)(hβ:Y.β=X.β)(hl:Y.lens=X.lens)(hκ:Y.κ=X.κ.take n): ∀(cs:List AV) (b o:Nat),zaf n cs=true->At IT X cs b o->At IT Y cs b o
 |[],_,_,_,_=>trivial
 | c::cs,b,o,ho,⟨⟨hf,v,hv,h1,hr⟩,ht⟩=>by
  rw[zaf,and_eq_true] at ho;exact⟨⟨by rw[hF];exact hf,v,by rw[hw];exact hv,h1,zrd hIT hF hw hβ hl hκ c v ho.1 hr⟩,z1g hIT hF hw hβ hl hκ cs b (o+1) ho.2 ht⟩
end
mutual
theorem zid (hIT:ITMono IT) {X Y:Cx} (hF:Y.F=X.F)(hw:Y.w=X.w): ∀(a:AV) (v:Value),(zbs 0 a=true \/Y.κ=X.κ)->Rep IT X a v->Rep IT Y (zde a) v
 | .raw u,v,_,hr=>hr
 | .agg cs,v,ho,⟨vs,e,hr,h1⟩=>⟨vs,e,zer hIT hF hw cs vs (by simpa[zbs] using ho) hr,h1⟩
 | .tup cs,v,ho,⟨vs,e,hr⟩=>⟨vs,e,zer hIT hF hw cs vs (by simpa[zbs] using ho) hr⟩
 | .list m cs st,v,ho,⟨a,cap,e,hcap,hc,hs⟩=>⟨a,cap,e,hcap,by
  rcases hc with rfl|⟨b,o,e1,e2⟩
  ·exact .inl (by simp[stripL])
  ·exact .inr ⟨b,o,e1,zwu hIT hF hw cs b o (by simpa[zbs] using ho) e2⟩,trivial⟩
 | .ptr s off,v,ho,⟨b,e1,e2⟩=>by
  rcases ho with ho|ho
  ·simp[zbs] at ho
  ·exact⟨b,by rw[ho];exact e1,e2⟩
 | .bsl s off m sz f,v,ho,hr=>by
  rcases ho with ho|ho
  ·simp[zbs] at ho
  ·exact Bsl.mono (fun b e1=>by rw[ho];exact e1) hw hr
 | .iptr cs,v,ho,⟨b,o,e,hc⟩=>⟨b,o,e,zwu hIT hF hw cs b o (by simpa[zbs] using ho) hc⟩
 | .clos f caps,v,ho,⟨vs,e,hr⟩=>⟨vs,e,zer hIT hF hw caps vs (by simpa[zbs] using ho) hr⟩
 | .iter xs,v,ho,h2=>hIT.it _ _ _ _ (fun b o h=>by rw[hF];exact h) (fun b o h=>by rw[hw]) (Szs.eq hw) h2
 | .yld _,_,_,hr=>hr
 | .top,_,_,hr=>hr
 | .bad,_,_,hr=>hr
theorem zer (hIT:ITMono IT) {X Y:Cx} (hF:Y.F=X.F)(hw:Y.w=X.w): ∀(l:List AV) (vs:List Value),(zaf 0 l=true \/Y.κ=X.κ)->zbr IT X l vs->zbr IT Y (stripL l) vs
 |[],_,_,hr=>hr
 | a::l,vs,ho,⟨v,r,e,h1,h2⟩=>by
  rw[zaf,and_eq_true] at ho;exact⟨v,r,e,zid hIT hF hw a v (ho.imp And.left id) h1,zer hIT hF hw l r (ho.imp And.right id) h2⟩
theorem zwu (hIT:ITMono IT) {X Y:Cx} (hF:Y.F=X.F)(hw:Y.w=X.w): ∀(cs:List AV) (b o:Nat),(zaf 0 cs=true \/Y.κ=X.κ)->At IT X cs b o->At IT Y (stripL cs) b o
 |[],_,_,_,_=>trivial
 | c::cs,b,o,ho,⟨⟨hf,v,hv,h1,hr⟩,ht⟩=>by
  rw[zaf,and_eq_true] at ho;exact⟨⟨by rw[hF];exact hf,v,by rw[hw];exact hv,h1,zid hIT hF hw c v (ho.imp And.left id) hr⟩,zwu hIT hF hw cs b (o+1) (ho.imp And.right id) ht⟩
end
mutual
theorem zxh (hIT:ITMono IT) {X Y:Cx} (hF:Y.F=X.F)(hw:Y.w=X.w)(h0:X.κ=[])(hl:X.lens=[]): ∀(a:AV) (v:Value),Rep IT X a v->Rep IT Y a v
 | .raw u,v,hr=>hr
 | .agg cs,v,⟨vs,e,hr,h1⟩=>⟨vs,e,zoj hIT hF hw h0 hl cs vs hr,h1⟩
 | .tup cs,v,⟨vs,e,hr⟩=>⟨vs,e,zoj hIT hF hw h0 hl cs vs hr⟩
 | .list m cs st,v,⟨a,cap,e,hcap,hc,hs⟩=>⟨a,cap,e,hcap,hc.imp id fun⟨b,o,e1,e2⟩=>⟨b,o,e1,z3m hIT hF hw h0 hl cs b o e2⟩,by
  cases st with
  |none=>trivial
  |full=>exact hs
  |own s=>obtain⟨L,k1,_⟩:=hs;rw[hl] at k1;simp at k1⟩
 | .ptr s off,v,⟨b,e1,e2⟩=>by rw[h0] at e1;simp at e1
 | .bsl s off m sz f,v,⟨b,_,_,_,e1,_⟩=>by rw[h0] at e1;simp at e1
 | .iptr cs,v,⟨b,o,e,hc⟩=>⟨b,o,e,z3m hIT hF hw h0 hl cs b o hc⟩
 | .clos f caps,v,⟨vs,e,hr⟩=>⟨vs,e,zoj hIT hF hw h0 hl caps vs hr⟩
 | .iter xs,v,h2=>hIT.it _ _ _ _ (fun b o h=>by rw[hF];exact h) (fun b o h=>by rw[hw]) (Szs.eq hw) h2
 | .yld _,_,hr=>hr
 | .top,_,hr=>hr
 | .bad,_,hr=>hr
theorem zoj (hIT:ITMono IT) {X Y:Cx} (hF:Y.F=X.F)(hw:Y.w=X.w)(h0:X.κ=[])(hl:X.lens=[]): ∀(l:List AV) (vs:List Value),zbr IT X l vs->zbr IT Y l vs
 |[],_,hr=>hr
 |a::l,vs,⟨v,r,e,h1,h2⟩=>⟨v,r,e,zxh hIT hF hw h0 hl a v h1,zoj hIT hF hw h0 hl l r h2⟩
theorem z3m (hIT:ITMono IT) {X Y:Cx} (hF:Y.F=X.F)(hw:Y.w=X.w)(h0:X.κ=[])(hl:X.lens=[]): ∀(cs:List AV) (b o:Nat),At IT X cs b o->At IT Y cs b o
 |[],_,_,_=>trivial
 |c::cs,b,o,⟨⟨hf,v,hv,h1,hr⟩,ht⟩=>⟨⟨by rw[hF];exact hf,v,by rw[hw];exact hv,h1,zxh hIT hF hw h0 hl c v hr⟩,z3m hIT hF hw h0 hl cs b (o+1) ht⟩
end
def St.empty:St:=⟨[],[],[],0,false⟩
def Ent (P:Program)(f:FuncId):Prop:= ∀args w,(callFunc f args).run P w= .ok (.enter f args) w
def Snd (IT:IterP)(P:Program)(f:FuncId)(args:List AV)(U:St)(r:AV)(U':St):Prop:=
 Ent P f/\ ∀(X:Cx) (vs:List Value),Inv IT U X->zbr IT X args vs->Calls P f vs.toArray X.w fun e w'=> ∃v X',e= .returned v/\ X'.w=w'/\ Ext X X'/\ Inv IT U' X'/\ Rep IT X' r v
def Pure (IT:IterP)(P:Program)(f:FuncId)(args:List AV)(r:AV):Prop:=Snd IT P f args St.empty r St.empty
theorem zok {U:St} (hI:Inv IT U X):Inv IT St.empty ⟨X.F,[],[],[],X.w,fun _=>False,fun _ _=>False⟩ where
 lens:=rfl
 elems:=rfl
 κlen:=rfl
 κnd:=fun s s' b h=>by simp at h
 box:=fun s b t cs h=>by simp at h
 κF:=fun s b t cs h=>by simp at h
 βlen:=rfl
 βnd:=List.nodup_nil
 βκ:=fun r h=>by simp at h
 row:=fun s r L h=>by simp at h
 Ok:=fun b h=>h.elim
 Fcell:=hI.Fcell
 gv:=hI.gv
theorem ziy (hIT:ITMono IT) {P:Program} {f:FuncId} {args args':List AV} {r:AV} (h:Pure IT P f args' r)(hargs:stripL args=args')(hok:zaf 0 args=true) {U:St} {X:Cx} (hI:Inv IT U X) {vs:List Value} (hr:zbr IT X args vs):
 Calls P f vs.toArray X.w fun e w'=> ∃v X',e= .returned v/\ X'.w=w'/\ Ext X X'/\ Inv IT U X'/\ Rep IT X' r v/\ Grows X.w X'.w/\ X'.κ=X.κ/\ X'.β=X.β/\ X'.lens=X.lens/\ (X'.O=X.O/\ X'.C=X.C)/\ ∀b i,X'.F b i->X.F b i \/X.w.heap.size<=b:=by
 subst hargs;have h0:zbr IT ⟨X.F,[],[],[],X.w,fun _=>False,fun _ _=>False⟩ (stripL args) vs:=zer (X:=X) (Y:=⟨X.F,[],[],[],X.w,fun _=>False,fun _ _=>False⟩) hIT rfl rfl args vs (.inl hok) hr;refine(h.2 ⟨X.F,[],[],[],X.w,fun _=>False,fun _ _=>False⟩ vs (zok hI) h0).mono ?_;rintro e w' ⟨v,Y,rfl,rfl,hE,hIY,hv⟩;have hκ:Y.κ=[]:=by have:=hIY.κlen;simpa[St.empty] using this
 have hl:Y.lens=[]:=hIY.lens;have hblk: ∀b,b<X.w.heap.size->Y.w.heap[b]? =X.w.heap[b]? :=fun b hb=>hE.frame b hb (by simp) (by simp);have hg:Grows X.w Y.w:=⟨⟨hE.os,hE.tape,hE.output,hE.size,hblk⟩,hE.drawn⟩;have hFn: ∀b i,Y.F b i->X.F b i \/X.w.heap.size<=b:=fun b i hf=>by
  rcases hE.Fnew b i hf with h|h|⟨q,hq,_⟩|h
  ·exact .inl h
  ·exact .inr h
  ·simp at hq
  ·simp at h
 have hX:Ext X ⟨Y.F,X.κ,X.β,X.lens,Y.w,X.O,X.C⟩:={
  os:=hE.os,tape:=hE.tape,output:=hE.output,size:=hE.size,drawn:=hE.drawn,F:=hE.F,cell:=hE.cell
  κ:=fun _ _ h=>h
  lens:=fun s L h=>⟨L,h,Nat.le_refl _,fun _=>rfl⟩
  blk:=fun s b hs cur t f h=>⟨cur,(hblk b (hI.κlt (mem_of_getElem? hs))).trans h,rfl⟩
  szs:=Szs.old hblk
  frame:=fun b hb _ _=>hblk b hb
  κnew:=fun _ h=> .inl h
  βnew:=fun r h=> .inl ⟨r,h,rfl⟩
  O:=rfl
  C:=rfl
  Fnew:=fun b i hf=>(hFn b i hf).imp id .inl}
 refine⟨v,⟨Y.F,X.κ,X.β,X.lens,Y.w,X.O,X.C⟩,rfl,rfl,hX,?_,zxh (X:=Y) (Y:=⟨Y.F,X.κ,X.β,X.lens,Y.w,X.O,X.C⟩) hIT rfl rfl hκ hl r v hv,hg,rfl,rfl,rfl,⟨rfl,rfl⟩,hFn⟩;refine {lens:=hI.lens,elems:=hI.elems,κlen:=hI.κlen,κnd:=hI.κnd,box:= ?_,κF:= ?_,βlen:=hI.βlen,βnd:=hI.βnd,βκ:=hI.βκ,row:= ?_,Ok:= ?_,Fcell:=hIY.Fcell}
 ·intro s b t cs hs hb;obtain⟨us,zs,u1,u2,u3⟩:=hI.box s b t cs hs hb;exact⟨us,zs,(hblk b (hI.κlt (mem_of_getElem? hs))).trans u1,zaw hIT hX _ _ u2,u3⟩
 ·intro s b t cs hs hb hc o hf;rcases hFn b o hf with h|h
  ·exact hI.κF s b t cs hs hb hc o h
  ·have:=hI.κlt (mem_of_getElem? hs);omega
 ·intro s q L hq hL;obtain⟨cur,fz,c1,c2,c3,c4,c5,c6,c7⟩:=hI.row s q L hq hL;have hlt:=hI.βlt (mem_of_getElem? hq);refine⟨cur,fz,(hblk _ hlt).trans c1,c2,c3,c4,c5,fun o hf=> ?_,c7⟩;rcases hFn _ o hf with h|h
  ·exact c6 o h
  ·omega
 ·intro b ho;obtain⟨⟨cs0,t0,f0,h0⟩,h2,h3,h4⟩:=hI.Ok b ho;have hlt:=hI.Olt ho;exact⟨⟨cs0,t0,f0,(hblk b hlt).trans h0⟩,h2,h3,fun o hf=>(hFn b o hf).elim (h4 o) fun h=>by omega⟩
abbrev FZ:=(Nat->Nat->AV)×(Nat->Nat->Nat->Nat->AV)
mutual
def zgu (g:FZ):AV->AV
 | .raw u=> .raw u
 | .agg cs=> .agg (zct g cs)
 | .tup cs=> .tup (zct g cs)
 | .list n cs _=> .list n (zct g cs) .none
 | .ptr s off=>g.1 s off
 | .bsl s off n sz _=>g.2 s off n sz
 | .iptr cs=> .iptr (zct g cs)
 | .clos f caps=> .clos f (zct g caps)
 | .iter xs=> .iter xs
 | .yld l=> .yld l
 | .top=> .top
 | .bad=> .bad
def zct (g:FZ):List AV->List AV
 |[]=>[]
 |a::l=>zgu g a::zct g l
end
def frz (bs:List (TypeId×List AV)):Nat->FZ
 |0=>(fun _ _=> .top,fun _ _ _ _=> .top)
 | n+1=>(fun s off=> .iptr (zct (frz bs n) (((bs[s]?).map fun b=>b.2.drop off).getD [])),
  fun s off m sz=> .list m ((zct (frz bs n) (((bs[s]?).map fun b=>b.2.drop off).getD [])).take (m*sz)) .none)
mutual
theorem zqa (hIT:ITMono IT) {X Y:Cx} {g:FZ} (hF: ∀b o,X.F b o->Y.F b o)(hw:Y.w=X.w)(hg:(∀s off v,Rep IT X (.ptr s off) v->Rep IT Y (g.1 s off) v)/\ ∀s off n sz f v,Rep IT X (.bsl s off n sz f) v->Rep IT Y (g.2 s off n sz) v): ∀(a:AV) (v:Value),Rep IT X a v->Rep IT Y (zgu g a) v
 | .raw u,v,hr=>hr
 | .agg cs,v,⟨vs,e,hr,h1⟩=>⟨vs,e,zfe hIT hF hw hg cs vs hr,h1⟩
 | .tup cs,v,⟨vs,e,hr⟩=>⟨vs,e,zfe hIT hF hw hg cs vs hr⟩
 | .list m cs st,v,⟨a,cap,e,hcap,hc,hs⟩=>⟨a,cap,e,hcap,hc.imp (fun h=>by subst h;rfl) fun⟨b,o,e1,e2⟩=>⟨b,o,e1,zsv hIT hF hw hg cs b o e2⟩,trivial⟩
 | .ptr s off,v,hr=>hg.1 s off v hr
 | .bsl s off n sz f,v,hr=>hg.2 s off n sz f v hr
 | .iptr cs,v,⟨b,o,e,hc⟩=>⟨b,o,e,zsv hIT hF hw hg cs b o hc⟩
 | .clos f caps,v,⟨vs,e,hr⟩=>⟨vs,e,zfe hIT hF hw hg caps vs hr⟩
 | .iter xs,v,h2=>hIT.it _ _ _ _ hF (fun b o h=>by rw[hw]) (Szs.eq hw) h2
 | .yld _,_,hr=>hr
 | .top,_,hr=>hr
 | .bad,_,hr=>hr
theorem zfe (hIT:ITMono IT) {X Y:Cx} {g:FZ} (hF: ∀b o,X.F b o->Y.F b o)(hw:Y.w=X.w)(hg:(∀s off v,Rep IT X (.ptr s off) v->Rep IT Y (g.1 s off) v)/\ ∀s off n sz f v,Rep IT X (.bsl s off n sz f) v->Rep IT Y (g.2 s off n sz) v): ∀(l:List AV) (vs:List Value),zbr IT X l vs->zbr IT Y (zct g l) vs
 |[],_,hr=>hr
 |a::l,vs,⟨v,r,e,h1,h2⟩=>⟨v,r,e,zqa hIT hF hw hg a v h1,zfe hIT hF hw hg l r h2⟩
theorem zsv (hIT:ITMono IT) {X Y:Cx} {g:FZ} (hF: ∀b o,X.F b o->Y.F b o)(hw:Y.w=X.w)(hg:(∀s off v,Rep IT X (.ptr s off) v->Rep IT Y (g.1 s off) v)/\ ∀s off n sz f v,Rep IT X (.bsl s off n sz f) v->Rep IT Y (g.2 s off n sz) v): ∀(cs:List AV) (b o:Nat),At IT X cs b o->At IT Y (zct g cs) b o
 |[],_,_,_=>trivial
 |c::cs,b,o,⟨⟨hf,v,hv,h1,hr⟩,ht⟩=>⟨⟨hF b o hf,v,by rw[hw];exact hv,h1,zqa hIT hF hw hg c v hr⟩,zsv hIT hF hw hg cs b (o+1) ht⟩
end
def z5a (Y:Cx)(b o:Nat):Prop:=Y.F b o \/b∈Y.κ/\ ∃v,Y.w.cell? ⟨b,o,none⟩=some v
theorem z2y (hIT:ITMono IT) {U:St} {Y:Cx} {O C} (hI:Inv IT U Y): ∀n,(∀s off v,Rep IT Y (.ptr s off) v->Rep IT ⟨z5a Y,[],[],[],Y.w,O,C⟩ ((frz U.boxes n).1 s off) v)/\
 ∀s off m sz f v,Rep IT Y (.bsl s off m sz f) v->Rep IT ⟨z5a Y,[],[],[],Y.w,O,C⟩ ((frz U.boxes n).2 s off m sz) v:=by
 intro n;induction n with
 |zero=>exact⟨fun _ _ _ _=>trivial,fun _ _ _ _ _ _ _=>trivial⟩
 | succ n ih=>
  have key: ∀(s b off:Nat),Y.κ[s]? =some b->At IT ⟨z5a Y,[],[],[],Y.w,O,C⟩ (zct (frz U.boxes n) (((U.boxes[s]?).map fun b=>b.2.drop off).getD [])) b off:=fun s b off hb=>by
   have hs:s<U.boxes.length:=by rw[<-hI.κlen];exact(List.getElem?_eq_some_iff.1 hb).1
   obtain⟨us,zs,u1,u2,u3⟩:=hI.box s b (U.boxes[s]).1 (U.boxes[s]).2 hb (by simp[hs]);simp only[getElem?_eq_getElem hs,map_some,getD_some];have hcell: ∀(i:Nat) v,(us.drop off)[i]? =some v->Y.w.cell? ⟨b,off+i,none⟩=some v:=fun i v hv=>by
    rw[List.getElem?_drop] at hv;have:=(List.getElem?_eq_some_iff.1 hv).1;unfold World.cell?;simp[u1,getElem?_append_left this,hv]
   exact zyh (fun i hi=> .inr ⟨mem_of_getElem? hb,_,hcell i _ (getElem?_eq_getElem hi)⟩) (fun v hv=>u3 v (List.mem_of_mem_drop hv)) (zfe (Y:=⟨z5a Y,[],[],[],Y.w,O,C⟩) hIT (fun b o h=>Or.inl h) rfl ih _ _ (zgv u2 off)) hcell
  refine⟨?_,?_⟩
  ·rintro s off v ⟨b,hb,rfl⟩;exact⟨b,off,rfl,key s b off hb⟩
  ·rintro s off m sz f v ⟨b,cap,cur,t,hb,rfl,hcap,hful,_⟩;exact⟨_,cap,rfl,⟨hcap,fun h=>by cases h⟩,.inr ⟨b,off,rfl,zws _ (key s b off hb)⟩,trivial⟩
def zvy:AV->Bool
 | .raw _=>true
 |_=>false
def ztp:AV->Bool
 | .raw _=>true
 | .agg cs=>cs.all zvy
 | .tup cs=>cs.all zvy
 |_=>false
theorem zli: ∀(l:List AV) (vs:List Value),l.all zvy=true->zbr IT X l vs->zbr IT Y l vs
 |[],_,_,h=>h
 | a::l,vs,ho,⟨v,r,e,h1,h2⟩=>by
  rw[List.all_cons,and_eq_true] at ho;refine⟨v,r,e,?_,zli l r ho.2 h2⟩;cases a with
  |raw u=>exact h1
  |_=>simp[zvy] at ho
theorem zpa {a:AV} {v:Value} (ho:ztp a=true)(h:Rep IT X a v):Rep IT Y a v:=by
 cases a with
 |raw u=>exact h
 |agg cs=>obtain⟨vs,e,h1,h2⟩:=h;exact⟨vs,e,zli cs vs ho h1,h2⟩
 |tup cs=>obtain⟨vs,e,h1⟩:=h;exact⟨vs,e,zli cs vs ho h1⟩
 |_=>simp[ztp] at ho
theorem qhh (hIT:ITMono IT) {P:Program} {f:FuncId} {args args':List AV} {r:AV} (n:Nat) {U:St} (h:Pure IT P f args' r)(hargs:zct (frz U.boxes n) args=args')(hraw:ztp r=true) {X:Cx} (hI:Inv IT U X) {vs:List Value} (hr:zbr IT X args vs):
 Calls P f vs.toArray X.w fun e w'=> ∃v X',e= .returned v/\ X'.w=w'/\ Ext X X'/\ Inv IT U X'/\ Rep IT X' r v:=by
 subst hargs;have h0:zbr IT ⟨z5a X,[],[],[],X.w,fun _=>False,fun _ _=>False⟩ (zct (frz U.boxes n) args) vs:=zfe (Y:=⟨z5a X,[],[],[],X.w,fun _=>False,fun _ _=>False⟩) hIT (fun b o h=>Or.inl h) rfl (z2y hIT hI n) args vs hr
 have hI0:Inv IT St.empty ⟨z5a X,[],[],[],X.w,fun _=>False,fun _ _=>False⟩:={zok hI with
  gv:=hIT.gv _ _ _ _ (fun b o h=>Or.inl h) (fun _ _ _=>rfl) (Szs.refl _) hI.gv
  box:=fun s b t cs h=>by simp at h
  κF:=fun s b t cs h=>by simp at h
  row:=fun s r L h=>by simp at h
  Ok:=fun b h=>h.elim
  Fcell:=fun b o hf=>hf.elim (hI.Fcell b o) And.right}
 refine(h.2 ⟨z5a X,[],[],[],X.w,fun _=>False,fun _ _=>False⟩ vs hI0 h0).mono ?_;rintro e w' ⟨v,Y,rfl,rfl,hE,hIY,hv⟩;have hblk: ∀b,b<X.w.heap.size->Y.w.heap[b]? =X.w.heap[b]? :=fun b hb=>hE.frame b hb (by simp) (by simp);have hFn: ∀b i,((Y.F b i/\ b∉X.κ) \/X.F b i)->X.F b i \/X.w.heap.size<=b:=fun b i h=>by
  rcases h with⟨hf,hk⟩|h
  ·rcases hE.Fnew b i hf with(h|⟨h,_⟩)|h|⟨q,hq,_⟩|h
   ·exact .inl h
   ·exact absurd h hk
   ·exact .inr h
   ·simp at hq
   ·simp at h
  ·exact .inl h
 have hX:Ext X ⟨fun b o=>(Y.F b o/\ b∉X.κ) \/X.F b o,X.κ,X.β,X.lens,Y.w,X.O,X.C⟩:={
  os:=hE.os,tape:=hE.tape,output:=hE.output,size:=hE.size,drawn:=hE.drawn
  F:=fun b o h=> .inr h
  cell:=fun b o h=>hE.cell b o (.inl h)
  κ:=fun _ _ h=>h
  lens:=fun s L h=>⟨L,h,Nat.le_refl _,fun _=>rfl⟩
  blk:=fun s b hs cur t f h=>⟨cur,(hblk b (hI.κlt (mem_of_getElem? hs))).trans h,rfl⟩
  szs:=Szs.old hblk
  frame:=fun b hb _ _=>hblk b hb
  κnew:=fun _ h=> .inl h
  βnew:=fun r h=> .inl ⟨r,h,rfl⟩
  O:=rfl
  C:=rfl
  Fnew:=fun b i hf=>(hFn b i hf).imp id .inl}
 refine⟨v,⟨fun b o=>(Y.F b o/\ b∉X.κ) \/X.F b o,X.κ,X.β,X.lens,Y.w,X.O,X.C⟩,rfl,rfl,hX,?_,zpa hraw hv⟩;refine {lens:=hI.lens,elems:=hI.elems,κlen:=hI.κlen,κnd:=hI.κnd,box:= ?_,κF:= ?_,βlen:=hI.βlen,βnd:=hI.βnd,βκ:=hI.βκ,row:= ?_,Ok:= ?_,Fcell:=fun b o hf=>hIY.Fcell b o (hf.elim And.left fun h=>hE.F b o (.inl h))}
 ·intro s b t cs hs hb;obtain⟨us,zs,u1,u2,u3⟩:=hI.box s b t cs hs hb;exact⟨us,zs,(hblk b (hI.κlt (mem_of_getElem? hs))).trans u1,zaw hIT hX _ _ u2,u3⟩
 ·intro s b t cs hs hb hc o hf;rcases hf with⟨_,hf⟩|hf
  ·exact hf (mem_of_getElem? hs)
  ·exact hI.κF s b t cs hs hb hc o hf
 ·intro s q L hq hL;obtain⟨cur,fz,c1,c2,c3,c4,c5,c6,c7⟩:=hI.row s q L hq hL;have hlt:=hI.βlt (mem_of_getElem? hq);refine⟨cur,fz,(hblk _ hlt).trans c1,c2,c3,c4,c5,fun o hf=> ?_,c7⟩;rcases hFn _ o hf with h|h
  ·exact c6 o h
  ·omega
 ·intro b ho;obtain⟨⟨cs0,t0,f0,h0⟩,h2,h3,h4⟩:=hI.Ok b ho;have hlt:=hI.Olt ho;exact⟨⟨cs0,t0,f0,(hblk b hlt).trans h0⟩,h2,h3,fun o hf=>(hFn b o hf).elim (h4 o) fun h=>by omega⟩
theorem qcq (hIT:ITMono IT) {P:Program} {f:FuncId} {args args':List AV} {r:AV} (n:Nat) {U:St} (h:Pure IT P f args' r)(hargs:zct (frz U.boxes n) args=args')(hraw:ztp r=true) {X:Cx} (hI:Inv IT U X) {vs:List Value} (hr:zbr IT X args vs):
 Calls P f vs.toArray X.w fun e w'=> ∃v,e= .returned v/\ Grows X.w w'/\ Rep IT X r v:=by
 subst hargs;have h0:zbr IT ⟨z5a X,[],[],[],X.w,fun _=>False,fun _ _=>False⟩ (zct (frz U.boxes n) args) vs:=zfe (Y:=⟨z5a X,[],[],[],X.w,fun _=>False,fun _ _=>False⟩) hIT (fun b o h=>Or.inl h) rfl (z2y hIT hI n) args vs hr
 have hI0:Inv IT St.empty ⟨z5a X,[],[],[],X.w,fun _=>False,fun _ _=>False⟩:={zok hI with
  gv:=hIT.gv _ _ _ _ (fun b o h=>Or.inl h) (fun _ _ _=>rfl) (Szs.refl _) hI.gv
  box:=fun s b t cs h=>by simp at h
  κF:=fun s b t cs h=>by simp at h
  row:=fun s r L h=>by simp at h
  Ok:=fun b h=>h.elim
  Fcell:=fun b o hf=>hf.elim (hI.Fcell b o) And.right}
 refine(h.2 ⟨z5a X,[],[],[],X.w,fun _=>False,fun _ _=>False⟩ vs hI0 h0).mono ?_;rintro e w' ⟨v,Y,rfl,rfl,hE,hIY,hv⟩;exact⟨v,rfl,⟨⟨hE.os,hE.tape,hE.output,hE.size,fun b hb=>hE.frame b hb (by simp) (by simp)⟩,hE.drawn⟩,zpa hraw hv⟩
variable {IT:IterP} {U:St} {Y:Cx} {n:Nat}
mutual
def clo:AV->Bool
 | .agg cs=>cloL cs
 | .tup cs=>cloL cs
 | .list _ cs st=>(match st with| .none=>true|_=>false)&&cloL cs
 | .ptr _ _=>false
 | .bsl _ _ _ _ _=>false
 | .iptr cs=>cloL cs
 | .clos _ cs=>cloL cs
 | .iter _=>true
 | .yld _=>true
 | .raw _=>true
 | .top=>true
 | .bad=>true
def cloL:List AV->Bool
 |[]=>true
 |a::l=>clo a&&cloL l
end
theorem zec: ∀l m,cloL (l++m)=(cloL l&&cloL m)
 |[],m=>by simp[cloL]
 |a::l,m=>by rw[List.cons_append,cloL,cloL,zec l m,Bool.and_assoc]
mutual
theorem zzp: ∀a:AV,clo a=true->zde a=a
 | .agg cs,h=>by rw[zde,zdo cs (by simpa[clo] using h)]
 | .tup cs,h=>by rw[zde,zdo cs (by simpa[clo] using h)]
 | .list n cs st,h=>by
  simp only[clo,and_eq_true] at h;rw[zde,zdo cs h.2];cases st<;>first|rfl|simp at h
 | .ptr _ _,h=>by simp[clo] at h
 | .bsl _ _ _ _ _,h=>by simp[clo] at h
 | .iptr cs,h=>by rw[zde,zdo cs (by simpa[clo] using h)]
 | .clos f cs,h=>by rw[zde,zdo cs (by simpa[clo] using h)]
 | .iter _,_=>by rw[zde]
 | .yld _,_=>by rw[zde]
 | .raw _,_=>by rw[zde]
 | .top,_=>by rw[zde]
 | .bad,_=>by rw[zde]
theorem zdo: ∀l:List AV,cloL l=true->stripL l=l
 |[],_=>by rw[stripL]
 | a::l,h=>by
  rw[cloL,and_eq_true] at h;rw[stripL,zzp a h.1,zdo l h.2]
end
mutual
theorem zao (n:Nat): ∀a:AV,clo a=true->zbs n a=true
 | .agg cs,h=>by rw[zbs,zam n cs (by simpa[clo] using h)]
 | .tup cs,h=>by rw[zbs,zam n cs (by simpa[clo] using h)]
 | .list m cs st,h=>by
  simp only[clo,and_eq_true] at h;rw[zbs,zam n cs h.2]
 | .ptr _ _,h=>by simp[clo] at h
 | .bsl _ _ _ _ _,h=>by simp[clo] at h
 | .iptr cs,h=>by rw[zbs,zam n cs (by simpa[clo] using h)]
 | .clos f cs,h=>by rw[zbs,zam n cs (by simpa[clo] using h)]
 | .iter _,_=>by rw[zbs]
 | .yld _,_=>by rw[zbs]
 | .raw _,_=>by rw[zbs]
 | .top,_=>by rw[zbs]
 | .bad,_=>by rw[zbs]
theorem zam (n:Nat): ∀l:List AV,cloL l=true->zaf n l=true
 |[],_=>by rw[zaf]
 | a::l,h=>by
  rw[cloL,and_eq_true] at h;rw[zaf,zao n a h.1,zam n l h.2];rfl
end
mutual
theorem z7o (g:FZ): ∀a:AV,clo a=true->zgu g a=a
 | .agg cs,h=>by rw[zgu,zeb g cs (by simpa[clo] using h)]
 | .tup cs,h=>by rw[zgu,zeb g cs (by simpa[clo] using h)]
 | .list n cs st,h=>by
  simp only[clo,and_eq_true] at h;rw[zgu,zeb g cs h.2];cases st<;>first|rfl|simp at h
 | .ptr _ _,h=>by simp[clo] at h
 | .bsl _ _ _ _ _,h=>by simp[clo] at h
 | .iptr cs,h=>by rw[zgu,zeb g cs (by simpa[clo] using h)]
 | .clos f cs,h=>by rw[zgu,zeb g cs (by simpa[clo] using h)]
 | .iter _,_=>by rw[zgu]
 | .yld _,_=>by rw[zgu]
 | .raw _,_=>by rw[zgu]
 | .top,_=>by rw[zgu]
 | .bad,_=>by rw[zgu]
theorem zeb (g:FZ): ∀l:List AV,cloL l=true->zct g l=l
 |[],_=>by rw[zct]
 | a::l,h=>by
  rw[cloL,and_eq_true] at h;rw[zct,z7o g a h.1,zeb g l h.2]
end
def z9p (m:Nat):Room->Room
 | .own s=>if s<m then .own s else .none
 |r=>r
mutual
def zhl (m:Nat)(g:FZ):AV->AV
 | .raw u=> .raw u
 | .agg cs=> .agg (zad m g cs)
 | .tup cs=> .tup (zad m g cs)
 | .list n cs st=> .list n (zad m g cs) (match zad m g cs with|c=>z9p m st)
 | .ptr s off=>g.1 s off
 | .bsl s off n sz _=>g.2 s off n sz
 | .iptr cs=> .iptr (zad m g cs)
 | .clos f caps=> .clos f (zad m g caps)
 | .iter xs=> .iter xs
 | .yld l=> .yld l
 | .top=> .top
 | .bad=> .bad
def zad (m:Nat)(g:FZ):List AV->List AV
 |[]=>[]
 |a::l=>zhl m g a::zad m g l
end
theorem zqp (m:Nat)(g:FZ): ∀l,(zad m g l).length=l.length
 |[]=>by simp[zad]
 |a::l=>by simp[zad,zqp m g l]
mutual
theorem zd (m:Nat)(g:FZ): ∀a:AV,clo a=true->zhl m g a=a
 | .agg cs,h=>by rw[zhl,zau m g cs (by simpa[clo] using h)]
 | .tup cs,h=>by rw[zhl,zau m g cs (by simpa[clo] using h)]
 | .list n cs st,h=>by
  simp only[clo,and_eq_true] at h;rw[zhl,zau m g cs h.2];cases st<;>first|rfl|simp at h
 | .ptr _ _,h=>by simp[clo] at h
 | .bsl _ _ _ _ _,h=>by simp[clo] at h
 | .iptr cs,h=>by rw[zhl,zau m g cs (by simpa[clo] using h)]
 | .clos f cs,h=>by rw[zhl,zau m g cs (by simpa[clo] using h)]
 | .iter _,_=>by rw[zhl]
 | .yld _,_=>by rw[zhl]
 | .raw _,_=>by rw[zhl]
 | .top,_=>by rw[zhl]
 | .bad,_=>by rw[zhl]
theorem zau (m:Nat)(g:FZ): ∀l:List AV,cloL l=true->zad m g l=l
 |[],_=>by rw[zad]
 | a::l,h=>by
  rw[cloL,and_eq_true] at h;rw[zad,zd m g a h.1,zau m g l h.2]
end
mutual
theorem zka (hIT:ITMono IT) {X Y:Cx} {m:Nat} {g:FZ} (hF: ∀b o,X.F b o->Y.F b o)(hw:Y.w=X.w)(hl: ∀s,s<m->Y.lens[s]? =X.lens[s]? /\ Y.β[s]? =X.β[s]?)
 (hg:(∀s off v,Rep IT X (.ptr s off) v->Rep IT Y (g.1 s off) v)/\ ∀s off n sz f v,Rep IT X (.bsl s off n sz f) v->Rep IT Y (g.2 s off n sz) v): ∀(a:AV) (v:Value),Rep IT X a v->Rep IT Y (zhl m g a) v
 | .raw u,v,hr=>hr
 | .agg cs,v,⟨vs,e,hr,h1⟩=>⟨vs,e,zdg hIT hF hw hl hg cs vs hr,h1⟩
 | .tup cs,v,⟨vs,e,hr⟩=>⟨vs,e,zdg hIT hF hw hl hg cs vs hr⟩
 | .list n cs st,v,⟨a,cap,e,hcap,hc,hs⟩=>⟨a,cap,e,hcap,hc.imp (fun h=>by subst h;rfl) fun⟨b,o,e1,e2⟩=>⟨b,o,e1,z2e hIT hF hw hl hg cs b o e2⟩,by
  cases st with
  |none=>trivial
  |full=>exact hs
  | own s=>
   simp only[z9p];split
   ·trivial
   ·rename_i h2;split at h2<;>cases h2
   ·rename_i s' h2;split at h2<;>cases h2
    rename_i hlt;obtain⟨L,k1,k2,k3⟩:=hs;rw[zqp];exact⟨L,by rw[(hl s hlt).1];exact k1,k2,fun e'=>by
     obtain⟨r,r1,r2⟩:=k3 e';exact⟨r,by rw[(hl s hlt).2];exact r1,r2⟩⟩⟩
 | .ptr s off,v,hr=>hg.1 s off v hr
 | .bsl s off n sz f,v,hr=>hg.2 s off n sz f v hr
 | .iptr cs,v,⟨b,o,e,hc⟩=>⟨b,o,e,z2e hIT hF hw hl hg cs b o hc⟩
 | .clos f caps,v,⟨vs,e,hr⟩=>⟨vs,e,zdg hIT hF hw hl hg caps vs hr⟩
 | .iter xs,v,h2=>hIT.it _ _ _ _ hF (fun b o h=>by rw[hw]) (Szs.eq hw) h2
 | .yld _,_,hr=>hr
 | .top,_,hr=>hr
 | .bad,_,hr=>hr
theorem zdg (hIT:ITMono IT) {X Y:Cx} {m:Nat} {g:FZ} (hF: ∀b o,X.F b o->Y.F b o)(hw:Y.w=X.w)(hl: ∀s,s<m->Y.lens[s]? =X.lens[s]? /\ Y.β[s]? =X.β[s]?)
 (hg:(∀s off v,Rep IT X (.ptr s off) v->Rep IT Y (g.1 s off) v)/\ ∀s off n sz f v,Rep IT X (.bsl s off n sz f) v->Rep IT Y (g.2 s off n sz) v): ∀(l:List AV) (vs:List Value),zbr IT X l vs->zbr IT Y (zad m g l) vs
 |[],_,hr=>hr
 |a::l,vs,⟨v,r,e,h1,h2⟩=>⟨v,r,e,zka hIT hF hw hl hg a v h1,zdg hIT hF hw hl hg l r h2⟩
theorem z2e (hIT:ITMono IT) {X Y:Cx} {m:Nat} {g:FZ} (hF: ∀b o,X.F b o->Y.F b o)(hw:Y.w=X.w)(hl: ∀s,s<m->Y.lens[s]? =X.lens[s]? /\ Y.β[s]? =X.β[s]?)
 (hg:(∀s off v,Rep IT X (.ptr s off) v->Rep IT Y (g.1 s off) v)/\ ∀s off n sz f v,Rep IT X (.bsl s off n sz f) v->Rep IT Y (g.2 s off n sz) v): ∀(cs:List AV) (b o:Nat),At IT X cs b o->At IT Y (zad m g cs) b o
 |[],_,_,_=>trivial
 |c::cs,b,o,⟨⟨hf,v,hv,h1,hr⟩,ht⟩=>⟨⟨hF b o hf,v,by rw[hw];exact hv,h1,zka hIT hF hw hl hg c v hr⟩,z2e hIT hF hw hl hg cs b (o+1) ht⟩
end
def zfm (n:Nat)(fs js:List Nat)(s:Nat):Option Nat:=
 if s<n then(if fs.contains s then none else some s) else(if js.contains s then some (n+js.idxOf s) else none)
def kz (bs:List (TypeId×List AV))(m n:Nat)(fs js:List Nat):Nat->FZ
 |0=>(fun s off=>match zfm n fs js s with|some s'=> .ptr s' off|none=> .top,fun s off k sz=>match zfm n fs js s with|some s'=> .bsl s' off k sz false|none=> .top)
 | d+1=>(fun s off=>match zfm n fs js s with|some s'=> .ptr s' off|none=> .iptr (zad m (kz bs m n fs js d) (((bs[s]?).map fun b=>b.2.drop off).getD [])),
  fun s off k sz=>match zfm n fs js s with|some s'=> .bsl s' off k sz false|none=> .list k ((zad m (kz bs m n fs js d) (((bs[s]?).map fun b=>b.2.drop off).getD [])).take (k*sz)) .none)
def zcn (bs:List (TypeId×List AV))(m n:Nat)(fs js:List Nat)(d:Nat):List (TypeId×List AV):=
 ((bs.take n).mapIdx fun i b=>(b.1,if fs.contains i then[] else zad m (kz bs m n fs js d) b.2))++js.map fun j=>((bs[j]?).map fun b=>(b.1,zad m (kz bs m n fs js d) b.2)).getD (0,[.bad])
def zew (U:St)(m n:Nat)(fs js:List Nat)(d:Nat):St:={U with boxes:=zcn U.boxes m n fs js d,lens:=U.lens.take m,elems:=U.elems.take m}
def zdf (U:St)(n:Nat)(js:List Nat):Bool:=decide (n<=U.boxes.length)&&js.all (fun j=>decide (n<=j)&&decide (j<U.boxes.length))&&decide js.Nodup
def FrzK (U:St)(n:Nat)(fs js:List Nat)(Y:Cx)(b o:Nat):Prop:=Y.F b o \/ ∃s bx,Y.κ[s]? =some b/\ U.boxes[s]? =some bx/\ zfm n fs js s=none/\ o<bx.2.length
def zdc (U:St)(m n:Nat)(fs js:List Nat)(Y:Cx):Cx:=
 {Y with F:=FrzK U n fs js Y,κ:=Y.κ.take n++js.map fun j=>Y.κ[j]?.getD 0,β:=Y.β.take m,lens:=Y.lens.take m}
theorem qda {m:Nat} {fs js:List Nat} (hI:Inv IT U Y)(hok:zdf U n js=true) {s s' b:Nat} (hp:zfm n fs js s=some s')(hs:Y.κ[s]? =some b):(zdc U m n fs js Y).κ[s']? =some b:=by
 simp only[zdf,and_eq_true,decide_eq_true_eq] at hok;obtain⟨⟨h1,h2⟩,h3⟩:=hok;have hl:=hI.κlen
 show(Y.κ.take n++js.map fun j=>Y.κ[j]?.getD 0)[s']? =some b
 unfold zfm at hp;split at hp
 ·rename_i hlt;split at hp<;>cases hp
  rw[getElem?_append_left (by simp;omega),getElem?_take,if_pos hlt];exact hs
 ·split at hp<;>cases hp
  rename_i hc;have hm:s∈js:=by simpa using hc
  have hi:=List.idxOf_lt_length_of_mem hm;have hlen:(Y.κ.take n).length=n:=by simp;omega
  rw[List.getElem?_append_right (by omega),hlen,Nat.add_sub_cancel_left,getElem?_map,getElem?_eq_getElem hi,map_some,List.getElem_idxOf,hs];rfl
theorem zyd {m:Nat} {fs js:List Nat} (hI:Inv IT U Y)(hok:zdf U n js=true) {s' b:Nat} (hs:(zdc U m n fs js Y).κ[s']? =some b):
 ∃s,Y.κ[s]? =some b/\ ((s'<n/\ s=s') \/(n<=s'/\ js[s'-n]? =some s)):=by
 simp only[zdf,and_eq_true,decide_eq_true_eq] at hok;obtain⟨⟨h1,h2⟩,h3⟩:=hok;have hl:=hI.κlen;have hs:(Y.κ.take n++js.map fun j=>Y.κ[j]?.getD 0)[s']? =some b:=hs;have hlen:(Y.κ.take n).length=n:=by simp;omega
 rcases Nat.lt_or_ge s' n with hlt|hge
 ·rw[getElem?_append_left (by omega),getElem?_take,if_pos hlt] at hs;exact⟨s',hs,.inl ⟨hlt,rfl⟩⟩
 ·rw[List.getElem?_append_right (by omega),hlen,getElem?_map] at hs;cases hj:js[s'-n]? with
  |none=>rw[hj] at hs;cases hs
  | some j=>
   rw[hj] at hs;have hjm:=mem_of_getElem? hj;have hjl:=all_eq_true.1 h2 j hjm;simp only[and_eq_true,decide_eq_true_eq] at hjl;have hjk:Y.κ[j]? =some (Y.κ[j]'(by omega)):=getElem?_eq_getElem _;rw[map_some,hjk] at hs;exact⟨j,by rw[hjk];simpa using hs,.inr ⟨hge,rfl⟩⟩
theorem zxm {m d:Nat} {fs js:List Nat} (hok:zdf U n js=true) {s':Nat} {t:TypeId} {cs:List AV} (hb:(zcn U.boxes m n fs js d)[s']? =some (t,cs)) {s:Nat} (hs:(s'<n/\ s=s') \/(n<=s'/\ js[s'-n]? =some s)):
 ∃cs0,U.boxes[s]? =some (t,cs0)/\ ((zfm n fs js s=none/\ cs=[]) \/cs=zad m (kz U.boxes m n fs js d) cs0)/\ (cs≠[]->zfm n fs js s≠none):=by
 simp only[zdf,and_eq_true,decide_eq_true_eq] at hok;obtain⟨⟨h1,h2⟩,h3⟩:=hok;unfold zcn at hb;have hlen:((U.boxes.take n).mapIdx fun i b=>(b.1,if fs.contains i=true then[] else zad m (kz U.boxes m n fs js d) b.2)).length=n:=by simp;omega
 rcases hs with⟨hlt,rfl⟩|⟨hge,hj⟩
 ·rw[getElem?_append_left (by omega),List.getElem?_mapIdx,getElem?_take,if_pos hlt,getElem?_eq_getElem (by omega)] at hb;simp only[map_some,Option.some.injEq,Prod.mk.injEq] at hb;obtain⟨hb1,hb2⟩:=hb;refine⟨U.boxes[s].2,by rw[getElem?_eq_getElem (by omega), <-hb1],?_,?_⟩
  ·by_cases hf:fs.contains s=true
   ·rw[if_pos hf] at hb2;exact .inl ⟨by rw[zfm,if_pos hlt,if_pos hf],hb2.symm⟩
   ·rw[if_neg hf] at hb2;exact .inr hb2.symm
  ·intro hne;by_cases hf:fs.contains s=true
   ·rw[if_pos hf] at hb2;exact absurd hb2.symm hne
   ·rw[zfm,if_pos hlt,if_neg hf];simp
 ·have hjm:=mem_of_getElem? hj;have hjl:=all_eq_true.1 h2 s hjm;simp only[and_eq_true,decide_eq_true_eq] at hjl;rw[List.getElem?_append_right (by omega),hlen,getElem?_map,hj,map_some,getElem?_eq_getElem hjl.2] at hb;simp only[map_some,getD_some,Option.some.injEq,Prod.mk.injEq] at hb;refine⟨U.boxes[s].2,by rw[getElem?_eq_getElem hjl.2, <-hb.1],.inr hb.2.symm,fun _=> ?_⟩;rw[zfm,if_neg (by omega),if_pos (by simpa using hjm)];simp
theorem zom (hIT:ITMono IT) {U:St} {Y:Cx} (hI:Inv IT U Y) {m n:Nat} {fs js:List Nat} (hok:zdf U n js=true): ∀d,
 (∀s off v,Rep IT Y (.ptr s off) v->Rep IT (zdc U m n fs js Y) ((kz U.boxes m n fs js d).1 s off) v)/\ ∀s off k sz f v,Rep IT Y (.bsl s off k sz f) v->Rep IT (zdc U m n fs js Y) ((kz U.boxes m n fs js d).2 s off k sz) v:=by
 have hrows: ∀s,s<m->(zdc U m n fs js Y).lens[s]? =Y.lens[s]? /\ (zdc U m n fs js Y).β[s]? =Y.β[s]? :=fun s hs=>by
  constructor
  ·show(Y.lens.take m)[s]? =_
   rw[getElem?_take,if_pos hs]
  ·show(Y.β.take m)[s]? =_
   rw[getElem?_take,if_pos hs]
 have kept1: ∀s s' off v,zfm n fs js s=some s'->Rep IT Y (.ptr s off) v->Rep IT (zdc U m n fs js Y) (.ptr s' off) v:=by
  rintro s s' off v hp ⟨b,hb,rfl⟩;exact⟨b,qda hI hok hp hb,rfl⟩
 have kept2: ∀s s' off k sz f v,zfm n fs js s=some s'->Rep IT Y (.bsl s off k sz f) v->Rep IT (zdc U m n fs js Y) (.bsl s' off k sz false) v:=by
  rintro s s' off k sz f v hp ⟨b,cap,cur,t,hb,rfl,hcap,hful,hrow⟩;exact⟨b,cap,cur,t,qda hI hok hp hb,rfl,hcap,(fun h=>by cases h),hrow⟩
 intro d;induction d with
 | zero=>
  refine⟨fun s off v hr=> ?_,fun s off k sz f v hr=> ?_⟩
  ·simp only[kz];split
   ·rename_i s' hp;exact kept1 s s' off v hp hr
   ·trivial
  ·simp only[kz];split
   ·rename_i s' hp;exact kept2 s s' off k sz f v hp hr
   ·trivial
 | succ d ih=>
  have key: ∀(s b off:Nat),Y.κ[s]? =some b->zfm n fs js s=none->At IT (zdc U m n fs js Y) (zad m (kz U.boxes m n fs js d) (((U.boxes[s]?).map fun b=>b.2.drop off).getD [])) b off:=fun s b off hb hp=>by
   have hs:s<U.boxes.length:=by rw[<-hI.κlen];exact(List.getElem?_eq_some_iff.1 hb).1
   obtain⟨us,zs,u1,u2,u3⟩:=hI.box s b (U.boxes[s]).1 (U.boxes[s]).2 hb (by simp[hs]);have hul:=zq u2;simp only[getElem?_eq_getElem hs,map_some,getD_some];have hcell: ∀(i:Nat) v,(us.drop off)[i]? =some v->Y.w.cell? ⟨b,off+i,none⟩=some v:=fun i v hv=>by
    rw[List.getElem?_drop] at hv;have:=(List.getElem?_eq_some_iff.1 hv).1;unfold World.cell?;simp[u1,getElem?_append_left this,hv]
   exact zyh (fun i hi=> .inr ⟨s,U.boxes[s],hb,by simp[hs],hp,by simp at hi;omega⟩) (fun v hv=>u3 v (List.mem_of_mem_drop hv)) (zdg (X:=Y) (Y:=zdc U m n fs js Y) hIT (fun b o h=>Or.inl h) rfl hrows ih _ _ (zgv u2 off)) hcell
  refine⟨fun s off v hr=> ?_,fun s off k sz f v hr=> ?_⟩
  ·simp only[kz];split
   ·rename_i s' hp;exact kept1 s s' off v hp hr
   ·rename_i hp;obtain⟨b,hb,rfl⟩:=hr;exact⟨b,off,rfl,key s b off hb hp⟩
  ·simp only[kz];split
   ·rename_i s' hp;exact kept2 s s' off k sz f v hp hr
   ·rename_i hp;obtain⟨b,cap,cur,t,hb,rfl,hcap,hful,_⟩:=hr;exact⟨_,cap,rfl,⟨hcap,fun h=>by cases h⟩,.inr ⟨b,off,rfl,zws _ (key s b off hb hp)⟩,trivial⟩
theorem zhu {m:Nat} {fs js:List Nat}: ∀s,s<m->(zdc U m n fs js Y).lens[s]? =Y.lens[s]? /\ (zdc U m n fs js Y).β[s]? =Y.β[s]? :=fun s hs=>by
 constructor
 ·show(Y.lens.take m)[s]? =_
  rw[getElem?_take,if_pos hs]
 ·show(Y.β.take m)[s]? =_
  rw[getElem?_take,if_pos hs]
theorem keepF (hI:Inv IT U Y) {m n:Nat} {fs js:List Nat} {b o:Nat} (h:(zdc U m n fs js Y).F b o):Y.F b o \/b∈Y.κ:=by
 rcases h with h|⟨s,bx,h1,_⟩
 ·exact .inl h
 ·exact .inr (mem_of_getElem? h1)
theorem z7a (hI:Inv IT U Y) {m n:Nat} {fs js:List Nat} (hok:zdf U n js=true) {b:Nat} (h:b∈(zdc U m n fs js Y).κ):b∈Y.κ:=by
 obtain⟨s',hs,rfl⟩:=List.mem_iff_getElem.1 h;obtain⟨s,h1,_⟩:=zyd hI hok (getElem?_eq_getElem hs);exact mem_of_getElem? h1
theorem zre (hIT:ITMono IT) {U:St} {Y:Cx} (hI:Inv IT U Y) {m n:Nat} {fs js:List Nat} (hok:zdf U n js=true)(d:Nat):Inv IT (zew U m n fs js d) (zdc U m n fs js Y):=by
 have hok':=hok;simp only[zdf,and_eq_true,decide_eq_true_eq] at hok';obtain⟨⟨h1,h2⟩,h3⟩:=hok';have hl:=hI.κlen;have hrep:=zom hIT hI (m:=m) (fs:=fs) hok d;refine {lens:= ?_,elems:= ?_,κlen:= ?_,κnd:= ?_,box:= ?_,κF:= ?_,βlen:= ?_,βnd:= ?_,βκ:= ?_,row:= ?_,Ok:= ?_,Fcell:= ?_,gv:=hIT.gv _ _ _ _ (fun b o h=>Or.inl h) (fun _ _ _=>rfl) (Szs.refl _) hI.gv}
 ·show Y.lens.take m=U.lens.take m;rw[hI.lens]
 ·show(Y.β.take m).map (·.elem)=U.elems.take m
  rw[<-hI.elems,List.map_take]
 ·show(Y.κ.take n++js.map fun j=>Y.κ[j]?.getD 0).length=(zcn U.boxes m n fs js d).length
  simp[zcn];omega
 ·intro s1 s2 b k1 k2 hne;obtain⟨r1,a1,b1⟩:=zyd hI hok k1;obtain⟨r2,a2,b2⟩:=zyd hI hok k2;have hne':r1≠r2:=fun e=>by
   subst e;rcases b1 with⟨c1,rfl⟩|⟨c1,c2⟩<;>rcases b2 with⟨d1,d2⟩|⟨d1,d2⟩
   ·exact hne d2
   ·have hjl:=all_eq_true.1 h2 _ (mem_of_getElem? d2);simp only[and_eq_true,decide_eq_true_eq] at hjl;omega
   ·have hjl:=all_eq_true.1 h2 _ (mem_of_getElem? c2);simp only[and_eq_true,decide_eq_true_eq] at hjl;omega
   ·obtain⟨x1,x2⟩:=List.getElem?_eq_some_iff.1 c2;obtain⟨y1,y2⟩:=List.getElem?_eq_some_iff.1 d2;have:=(List.getElem_inj h3 (h₀:=x1) (h₁:=y1)).1 (x2.trans y2.symm);omega
  have fin: ∀(s r:Nat),(zdc U m n fs js Y).κ[s]? =some b->((s<n/\ r=s) \/(n<=s/\ js[s-n]? =some r))->(∃t,U.boxes[r]? =some (t,[]))-> ∃t,(zcn U.boxes m n fs js d)[s]? =some (t,[]):=by
   rintro s r ks hs ⟨t,hb⟩;have hlen:s<(zcn U.boxes m n fs js d).length:=by
    have h4:=(List.getElem?_eq_some_iff.1 ks).1;have h5:s<(Y.κ.take n++js.map fun j=>Y.κ[j]?.getD 0).length:=h4;simp[zcn] at h5⊢;omega
   obtain⟨cs0,e1,e2,_⟩:=zxm (t:=((zcn U.boxes m n fs js d)[s]).1) (cs:=((zcn U.boxes m n fs js d)[s]).2) hok (getElem?_eq_getElem hlen) hs;rw[hb] at e1;cases e1;refine⟨((zcn U.boxes m n fs js d)[s]).1,?_⟩;rw[getElem?_eq_getElem hlen];have:((zcn U.boxes m n fs js d)[s]).2=[]:=by
    rcases e2 with⟨_,e2⟩|e2
    ·exact e2
    ·rw[e2,zad]
   rw[<-this]
  exact(hI.κnd r1 r2 b a1 a2 hne').imp (fin s1 r1 k1 b1) (fin s2 r2 k2 b2)
 ·intro s b t cs hs hb;obtain⟨r,a1,b1⟩:=zyd hI hok hs;obtain⟨cs0,e1,e2,_⟩:=zxm hok hb b1;obtain⟨us,zs,u1,u2,u3⟩:=hI.box r b t cs0 a1 e1;rcases e2 with⟨_,rfl⟩|rfl
  ·exact⟨[],us++zs,u1,by rw[zbr],by simp⟩
  ·exact⟨us,zs,u1,zdg (X:=Y) (Y:=zdc U m n fs js Y) hIT (fun b o h=>Or.inl h) rfl zhu hrep _ _ u2,u3⟩
 ·intro s b t cs hs hb hne o hf;obtain⟨r,a1,b1⟩:=zyd hI hok hs;obtain⟨cs0,e1,e2,e3⟩:=zxm hok hb b1;have hp:=e3 hne;have hne0:cs0≠[]:=fun e=>by
   subst e;rcases e2 with⟨_,e2⟩|e2
   ·exact hne e2
   ·exact hne (by rw[e2,zad])
  rcases hf with hf|⟨s2,bx,f1,f2,f3,f4⟩
  ·exact hI.κF r b t cs0 a1 e1 hne0 o hf
  ·have hne2:r≠s2:=fun e=>by subst e;exact hp f3
   rcases hI.κnd r s2 b a1 f1 hne2 with⟨t2,h⟩|⟨t2,h⟩
   ·rw[e1] at h;cases h;exact hne0 rfl
   ·rw[f2] at h;cases h;simp at f4
 ·show(Y.β.take m).length=(Y.lens.take m).length
  simp[hI.βlen]
 ·show((Y.β.take m).map (·.block)).Nodup
  rw[List.map_take];exact hI.βnd.sublist (List.take_sublist _ _)
 ·intro r hr hm;exact hI.βκ r (List.mem_of_mem_take hr) (z7a hI hok hm)
 ·intro s r L hr hL;have hr:(Y.β.take m)[s]? =some r:=hr;have hL:(Y.lens.take m)[s]? =some L:=hL;rw[getElem?_take] at hr hL;split at hr<;>try cases hr
  rename_i hs;rw[if_pos hs] at hL;obtain⟨cur,fz,c1,c2,c3,c4,c5,c6,c7⟩:=hI.row s r L hr hL;refine⟨cur,fz,c1,c2,c3,c4,c5,fun o hf=> ?_,c7⟩;rcases hf with hf|⟨s2,bx,f1,_⟩
  ·exact c6 o hf
  ·exact absurd (mem_of_getElem? f1) (hI.βκ r (mem_of_getElem? hr))
 ·intro b ho;obtain⟨k1,k2,k3,k4⟩:=hI.Ok b ho;refine⟨k1,fun hm=>k2 (z7a hI hok hm),fun r hr=>k3 r (List.mem_of_mem_take hr),fun o hf=> ?_⟩;rcases hf with hf|⟨s2,bx,f1,_⟩
  ·exact k4 o hf
  ·exact absurd (mem_of_getElem? f1) k2
 ·intro b o hf;rcases hf with hf|⟨s,bx,f1,f2,f3,f4⟩
  ·exact hI.Fcell b o hf
  ·obtain⟨t,cs⟩:=bx;obtain⟨us,zs,u1,u2,u3⟩:=hI.box s b t cs f1 f2;have hul:=zq u2;simp only at f4;refine⟨us[o]'(by omega),?_⟩;show Y.w.cell? _=_;rw[cell_of_row _ _ _ _ _ _ u1];rw[List.getElem?_toArray,getElem?_append_left (by omega)];exact getElem?_eq_getElem _
theorem zrc {X:Cx} (hE:Ext X Y)(hI:Inv IT U Y) {m n:Nat} {fs js:List Nat} (hok:zdf U n js=true)(hn:X.κ.length<=n)(hm:X.lens.length<=m):Ext X (zdc U m n fs js Y):=by
  have hok':=hok;simp only[zdf,and_eq_true,decide_eq_true_eq] at hok';have hl:=hI.κlen
  exact { os :=hE.os,tape:=hE.tape,output:=hE.output,size:=hE.size,drawn:=hE.drawn,cell:=hE.cell
          F:=fun b o h=> .inl (hE.F b o h)
          κ :=fun s b hs=>by
            have:=(List.getElem?_eq_some_iff.1 hs).1
            show(Y.κ.take n++js.map fun j=>Y.κ[j]?.getD 0)[s]? =some b
            rw[getElem?_append_left (by simp;omega),getElem?_take,if_pos (by omega)];exact hE.κ s b hs
          lens:=fun s L hs=>by
            have hsm:s<m:=by have:=(List.getElem?_eq_some_iff.1 hs).1;omega
            obtain⟨L',k1,k2,k3⟩:=hE.lens s L hs;obtain⟨q1,q2⟩:=zhu (U:=U) (Y:=Y) (n:=n) (fs:=fs) (js:=js) s hsm;exact⟨L',by rw[q1];exact k1,k2,fun e=>by rw[q2];exact k3 e⟩
          blk:=hE.blk
          szs:=hE.szs
          frame:=hE.frame
          κnew:=fun b hb=>hE.κnew b (z7a hI hok hb)
          βnew:=fun r hr=>hE.βnew r (List.mem_of_mem_take hr)
          O:=hE.O
          C:=hE.C
          Fnew :=fun b o h=>by
            rcases keepF hI h with h|h
            . exact hE.Fnew b o h
            . rcases hE.κnew b h with h|h
              . exact .inr (.inr (.inr h))
              . exact .inr (.inl h)}
end Go.Ab
