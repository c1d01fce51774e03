import Derived.Test.YtnoccnalocdldaaDoorZdF
import Derived.Laws.IdiomStrings
import Derived.Lib.BufferRead
set_option linter.all false
namespace Go.Ab
open Go Go.RowKit Go.Fwd
def zcc (S:List AV):Operand→AV
 | .tmp t=>(S[t]?).getD (.raw undef)
 | .const v=>if zpp v then ziu v else .raw v
 | .func f=> .clos f []
 | .global g=> .raw (.pointer (some ⟨g,0,none⟩))
def zmb (IT:IterP)(X:Cx)(S:List AV)(tmps:Array Value):Prop:=zbk IT X S tmps.toList
theorem zdh {IT:IterP} {X:Cx} {S:List AV} {a:Act} (h:zmb IT X S a.tmps)(x:Operand):Rep IT X (zcc S x) (a.eval x):=by
 cases x with
 | tmp t=>
  simp only[zcc,Act.eval]
  have hl:S.length=a.tmps.size:=by have:=zr h;simpa using this
  rcases Nat.lt_or_ge t S.length with hlt|hge
  ·obtain⟨v,hv,hr⟩:=zeg h t S[t] (by simp[hlt])
   have:a.tmps[t]? =some v:=by simpa using hv
   simpa[this,hlt] using hr
  ·have h1:S[t]? =none:=List.getElem?_eq_none hge
   have h2:a.tmps[t]? =none:=Array.getElem?_eq_none (by omega)
   simp[h1,h2,Rep]
 | const v=>
  simp only[zcc,Act.eval]
  split
  ·rename_i h;exact zhk v h
  ·rw[Rep]
 |func f=>simp only[zcc,Act.eval,Rep];exact⟨[],rfl,by rw[zbk]⟩
 |global g=>simp[zcc,Act.eval,Rep]
theorem znl {IT:IterP} {X:Cx} {S:List AV} {a:Act} (h:zmb IT X S a.tmps)(d:Option Tmp) {x:AV} {v:Value} (hx:Rep IT X x v):zmb IT X (match d with|some t=>S.set t x|none=>S) (a.put d v).tmps:=by
 cases d with
 |none=>exact h
 | some t=>
  have hl:=zr h
  refine zfb (by simp[Act.put];simpa using hl) fun i b u h1 h2=> ?_
  simp only[Act.put,Array.toList_setIfInBounds] at h2
  by_cases e:t=i
  ·subst e
   have hlt:t<S.length:=by have:=(List.getElem?_eq_some_iff.1 h1).1;simpa using this
   rw[List.getElem?_set_self hlt] at h1
   rw[List.getElem?_set_self (by rw[←hl];exact hlt)] at h2
   cases h1;cases h2;exact hx
  ·rw[List.getElem?_set_ne e] at h1 h2
   obtain⟨u',e',hr⟩:=zeg h i b h1
   rw[h2] at e';cases e';exact hr
def ztw:List AV→Option (List UInt8)
 |[]=>some []
 | .raw (.int .u8 k)::l=>match ztw l with
  |some r=>if 0≤k∧k<256 then some (UInt8.ofNat k.toNat::r) else none
  |none=>none
 |_=>none
theorem zxa: ∀ {cs:List AV} {l:List UInt8},ztw cs=some l→cs=l.map fun x=> .raw (.int .u8 ((x.toNat:Nat):Int))
 |[],l,h=>by simp only[ztw,Option.some.injEq] at h;subst h;rfl
 | a ::cs,l,h=>by
  cases a with
  | raw u=>
   cases u with
   | int k n=>
    cases k<;>try(simp only[ztw] at h;cases h)
    rw[ztw] at h
    cases hr:ztw cs with
    |none=>rw[hr] at h;cases h
    | some r=>
     rw[hr] at h
     simp only at h
     split at h<;>cases h
     rename_i hk
     rw[List.map_cons,←zxa hr]
     congr 3
     rw[UInt8.toNat_ofNat']
     omega
   |_=>simp only[ztw] at h;cases h
  |_=>simp only[ztw] at h;cases h
def znf (P:Program)(s t:TypeId):AV→Option AV
 | .list n cs _=>match P.underlying s,P.underlying t with
  | some (.slice e),some .string=>match P.underlying e,ztw cs with
   |some (.int .u8),some l=>if l.length=n then some (.raw (.string ⟨l.toArray⟩)) else none
   |_,_=>none
  |_,_=>none
 |_=>none
theorem zxj {IT:IterP} {X:Cx}: ∀ {l:List UInt8} {vs:List Value},zbk IT X (l.map fun x=> .raw (.int .u8 ((x.toNat:Nat):Int))) vs→vs=l.map fun x=> .int .u8 ((x.toNat:Nat):Int)
 |[],vs,h=>by rw[List.map_nil,zbk] at h;exact h
 | x::l,vs,h=>by
  rw[List.map_cons,zbk] at h
  obtain⟨v,r,rfl,h1,h2⟩:=h
  rw[Rep] at h1
  rw[h1,zxj h2];rfl
theorem ztc {IT:IterP} {P:Program} {X:Cx} {s t:TypeId} {x a:AV} {v:Value} (h:znf P s t x=some a)(hx:Rep IT X x v): ∃r,(convert s t v).run P X.w= .ok r X.w∧Rep IT X a r:=by
 unfold znf at h
 split at h<;>try cases h
 rename_i n cs st
 split at h<;>try cases h
 rename_i e hs ht
 split at h<;>try cases h
 rename_i l he hl
 split at h<;>cases h
 rename_i hn
 subst hn
 have hcs:=zxa hl
 rw[Rep] at hx
 obtain⟨ad,cap,rfl,_,hc,_⟩:=hx
 refine⟨_,?_,by rw[Rep]⟩
 rcases hc with hc|⟨b,o,rfl,hat⟩
 ·have:l=[]:=by rw[hc] at hcs;exact List.map_eq_nil_iff.1 hcs.symm
  subst this
  cases ad with
  |none=>exact Go.Lib.run_convert_nil_bytes X.w s t e cap hs he ht
  |some ad=>exact Go.run_convert_bytes_back X.w s t e ad cap [] hs he ht (fun j hj=>by simp at hj)
 ·subst hcs
  obtain⟨us,u1,u2,u3⟩:=zft hat
  have hus:=zxj u1
  subst hus
  exact Go.run_convert_bytes_back X.w s t e ⟨b,o,none⟩ cap l hs he ht (fun j hj=>by rw[zfh];exact u3 j _ (by simp[hj]))
def qop (P:Program)(ρ:Operand→AV)(σ:St)(o:Oper):Option AV:=
 match o.op with
 | .move x| .assign x=>some (ρ x)
 | .pick c a b=>match ρ c with| .raw (.bool t)=>some (bif t then ρ a else ρ b)|_=>none
 | .build t parts=>match qda P t (parts.toList.map fun p=>(p.1,ρ p.2)) with|some a=>some a|none=>zfj P ρ o
 | .buildSlice t n parts=>znh P t n (parts.toList.map fun p=>(p.1,ρ p.2))
 | .load t x=>zlb P σ t (ρ x)
 | .fieldAddr t x f=>zon P t f (ρ x)
 | .indexAddr t x i=>zhd P t (ρ x) (ρ i)
 | .field t x f=>match z9d P t f (ρ x) with|some a=>some a|none=>zfj P ρ o
 | .index t x i=>match qbi P t (ρ x) (ρ i) with|some a=>some a|none=>zfj P ρ o
 | .slice t x lo hi mx=>match zqi P t (ρ x) (lo.map ρ) (hi.map ρ) (mx.map ρ) with|some a=>some a|none=>zfj P ρ o
 | .extract x i=>match ρ x with| .tup vs=>vs[i]? |_=>none
 | .makeFunc (.func f) first caps=>if first.size=0 then some (.clos f (caps.toList.map ρ)) else none
 | .call c=>match c.callee with
  | .builtin .len=>match c.args.toList,c.argTypes.toList with
   |[x],[t]=>match qei P t (ρ x) with|some a=>some a|none=>zfj P ρ o
   |_,_=>none
  | .builtin .append=>none
  | .builtin _=>zfj P ρ o
  |_=>none
 | .convert s t x=>match znf P s t (ρ x) with|some a=>some a|none=>zfj P ρ o
 | .nilCheck x=>match ρ x with| .ptr s off=>some (.ptr s off)| .iptr cs=>some (.iptr cs)|_=>zfj P ρ o
 | .alloc _| .box _ _| .store _ _ _=>none
 |_=>zfj P ρ o
def ResQ (IT:IterP)(X:Cx)(σ:St)(a:AV)(r:Result Next):Prop:=
 ∃v X',r= .ok (.value v) X'.w∧Ext X X'∧Inv IT σ X'∧Rep IT X' a v∧Grows X.w X'.w∧X'.κ=X.κ∧X'.β=X.β∧X'.lens=X.lens∧(X'.O=X.O∧X'.C=X.C)∧ ∀b i,X'.F b i→X.F b i∨X.w.heap.size≤b
theorem zcp {IT:IterP} {X:Cx} {σ:St} {a:AV} {r:Result Next} (v:Value)(h:r= .ok (.value v) X.w)(hI:Inv IT σ X)(hr:Rep IT X a v):ResQ IT X σ a r:=
 ⟨v,X,h,Ext.refl X,hI,hr,Grows.refl _,rfl,rfl,rfl,⟨rfl,rfl⟩,fun _ _ h=> .inl h⟩
theorem zze {IT:IterP} {P:Program} {X:Cx} {σ:St} {ρ:Operand→AV} {ρc:Operand→Value} {o:Oper} {a:AV} (h:zfj P ρ o=some a)(hρ: ∀x∈o.op.operands,Rep IT X (ρ x) (ρc x))(hI:Inv IT σ X):
 ResQ IT X σ a ((execOp ρc o).run P X.w):=by
 unfold zfj at h
 split at h
 ·rename_i hall
  have hcongr:(∀cs b,o.op≠ .select cs b)→execOp (zbt ρ) o=execOp ρc o:=fun hs=>execOp_congr o hs fun x hx=>by
   have h1:=List.all_eq_true.1 hall x (Array.mem_toList_iff.2 hx)
   obtain⟨u,hu⟩:=Option.isSome_iff_exists.1 h1
   rw[zyv hu (hρ x hx)]
   simp[zbt,hu]
  have fin:(∀cs b,o.op≠ .select cs b)→(match val? P (execOp (zbt ρ) o) with|some (.value v)=>if zpp v then some (ziu v) else none|_=>none)=some a→ResQ IT X σ a ((execOp ρc o).run P X.w):=fun hs h=>by
   rw[hcongr hs] at h
   split at h
   ·rename_i v hv
    split at h
    ·rename_i hok
     cases h
     exact zcp v (val?_run _ _ hv _) hI (zhk v hok)
    ·cases h
   ·cases h
  revert h
  split
  ·intro h;cases h
  ·rename_i hne
   exact fin fun cs b e=>hne cs b e
 ·cases h
theorem zks {IT:IterP} {X:Cx} {ρ:Operand→AV} {ρc:Operand→Value}: ∀l:List (Nat×Operand),(∀p∈l,Rep IT X (ρ p.2) (ρc p.2))→zqx IT X (l.map fun p=>(p.1,ρ p.2)) (l.map fun p=>(p.1,ρc p.2))
 |[],_=>by simp[zqx]
 |p::l,h=>by rw[List.map_cons,List.map_cons,zqx];exact⟨_,_,rfl,h p (by simp),zks l fun q hq=>h q (by simp[hq])⟩
theorem zre {IT:IterP} {X:Cx} {ρ:Operand→AV} {ρc:Operand→Value}: ∀l:List Operand,(∀x∈l,Rep IT X (ρ x) (ρc x))→zbk IT X (l.map ρ) (l.map ρc)
 |[],_=>by simp[zbk]
 |x::l,h=>by rw[List.map_cons,List.map_cons,zbk];exact⟨_,_,rfl,h x (by simp),zre l fun y hy=>h y (by simp[hy])⟩
theorem zxg {IT:IterP} {X:Cx} {ρ:Operand→AV} {ρc:Operand→Value} (x:Option Operand)(hρ: ∀y,x=some y→Rep IT X (ρ y) (ρc y)):z9k IT X (x.map ρ) (x.map ρc):=by
 cases x with
 |none=>rfl
 |some x=>exact⟨_,rfl,hρ x rfl⟩
theorem zny {IT:IterP} (hIT:ITMono IT) {P:Program} {X:Cx} {σ:St} {ρ:Operand→AV} {ρc:Operand→Value} {o:Oper} {a:AV} (h:qop P ρ σ o=some a)(hρ: ∀x∈o.op.operands,Rep IT X (ρ x) (ρc x))(hI:Inv IT σ X):
 ResQ IT X σ a ((execOp ρc o).run P X.w):=by
 have raw:zfj P ρ o=some a→ResQ IT X σ a ((execOp ρc o).run P X.w):=fun h=>zze h hρ hI
 unfold qop at h
 split at h
 ·rename_i x ho
  cases h
  exact zcp _ (by simp[execOp,ho]) hI (hρ x (by simp[ho,Op.operands]))
 ·rename_i x ho
  cases h
  exact zcp _ (by simp[execOp,ho]) hI (hρ x (by simp[ho,Op.operands]))
 ·rename_i c x y ho
  split at h<;>try cases h
  rename_i t hc
  have hcv:=hρ c (by simp[ho,Op.operands])
  rw[hc,Rep] at hcv
  refine zcp (if t then ρc x else ρc y) (by simp[execOp,ho,hcv,asBool]) hI ?_
  cases t
  ·exact hρ y (by simp[ho,Op.operands])
  ·exact hρ x (by simp[ho,Op.operands])
 ·rename_i t parts ho
  split at h
  ·rename_i b hb
   cases h
   obtain⟨v,h1,h2⟩:=zyn (P:=P) (qs:=parts.map fun(i,x)=>(i,ρc x)) hb (by simpa using zks (IT:=IT) (X:=X) (ρ:=ρ) (ρc:=ρc) parts.toList fun p hp=>hρ p.2 (by rw[ho];simp only[Op.operands,List.mem_toArray,List.mem_map];exact⟨p,hp,rfl⟩))
   exact zcp v (by simp[execOp,ho,h1]) hI h2
  ·exact raw h
 ·rename_i t n parts ho
  obtain⟨v,X',h1,h2,h3,h4,h5⟩: ∃v X',(Instr.buildSlice t n (parts.map fun(i,x)=>(i,ρc x))).run P X.w= .ok v X'.w∧Ext X X'∧Inv IT σ X'∧Rep IT X' a v∧
   Grows X.w X'.w∧X'.κ=X.κ∧X'.β=X.β∧X'.lens=X.lens∧(X'.O=X.O∧X'.C=X.C)∧ ∀b i,X'.F b i→X.F b i∨X.w.heap.size≤b:=ztm hIT h (by simpa using zks (IT:=IT) (X:=X) (ρ:=ρ) (ρc:=ρc) parts.toList fun p hp=>hρ p.2 (by rw[ho];simp only[Op.operands,List.mem_toArray,List.mem_map];exact⟨p,hp,rfl⟩)) hI
  exact⟨v,X',by simp[execOp,ho,h1],h2,h3,h4,h5⟩
 ·rename_i t x ho
  obtain⟨v,h1,h2⟩:=zsb h (hρ x (by simp[ho,Op.operands])) hI
  exact zcp v (by simp[execOp,ho,h1]) hI h2
 ·rename_i t x f ho
  obtain⟨v,h1,h2⟩:=zqs h (hρ x (by simp[ho,Op.operands]))
  exact zcp v (by simp[execOp,ho,h1]) hI h2
 ·rename_i t x i ho
  obtain⟨v,h1,h2⟩:=zqw h (hρ x (by simp[ho,Op.operands])) (hρ i (by simp[ho,Op.operands]))
  exact zcp v (by simp[execOp,ho,h1]) hI h2
 ·rename_i t x f ho
  split at h
  ·rename_i b hb
   cases h
   obtain⟨v,h1,h2⟩:=zys hb (hρ x (by simp[ho,Op.operands]))
   exact zcp v (by simp[execOp,ho,h1]) hI h2
  ·exact raw h
 ·rename_i t x i ho
  split at h
  ·rename_i b hb
   cases h
   obtain⟨v,h1,h2⟩:=z1b hb (hρ x (by simp[ho,Op.operands])) (hρ i (by simp[ho,Op.operands]))
   exact zcp v (by simp[execOp,ho,h1]) hI h2
  ·exact raw h
 ·rename_i t x lo hi mx ho
  split at h
  ·rename_i b hb
   cases h
   obtain⟨v,h1,h2⟩:=z0d (P:=P) hb (hρ x (by simp[ho,Op.operands])) (zxg lo fun y e=>hρ y (by simp[ho,Op.operands,e])) (zxg hi fun y e=>hρ y (by simp[ho,Op.operands,e])) (zxg mx fun y e=>hρ y (by simp[ho,Op.operands,e]))
   exact zcp v (by simp[execOp,ho,h1]) hI h2
  ·exact raw h
 ·rename_i x i ho
  split at h<;>try cases h
  rename_i vs hx
  have hv:=hρ x (by simp[ho,Op.operands])
  rw[hx,Rep] at hv
  obtain⟨us,e,hr⟩:=hv
  obtain⟨u,hu,hr2⟩:=zeg hr i a h
  exact zcp u (by simp[execOp,ho,e,Instr.extract,hu]) hI hr2
 ·rename_i f first caps ho
  split at h<;>cases h
  rename_i h0
  refine zcp (.func (.func f) #[] (caps.map ρc)) ?_ hI ?_
  ·have:first= #[]:=Array.eq_empty_of_size_eq_zero h0
   simp[execOp,ho,Instr.makeFunc,this]
  ·rw[Rep]
   refine⟨caps.toList.map ρc,by congr 1;apply Array.ext';simp,zre _ fun y hy=>hρ y (by simp[ho,Op.operands];exact .inr (by simpa using hy))⟩
 ·rename_i c ho
  split at h
  ·rename_i hc
   split at h
   ·rename_i x t hargs htys
    split at h
    ·rename_i b hb
     cases h
     have e1:c.args= #[x]:=by apply Array.ext';simpa using hargs
     obtain⟨v,h1,h2⟩:=z7e (P:=P) (ty:=o.type) hb (hρ x (by simp[ho,Op.operands,Call.operands,e1]))
     have e2:c.argTypes= #[t]:=by apply Array.ext';simpa using htys
     exact zcp v (by simp[execOp,ho,resolve,hc,invoke,builtin,e1,e2,h1]) hI h2
    ·exact raw h
   ·cases h
  ·cases h
  ·exact raw h
  ·cases h
 ·rename_i s t x ho
  split at h
  ·rename_i b hb
   cases h
   obtain⟨v,h1,h2⟩:=ztc (P:=P) hb (hρ x (by simp[ho,Op.operands]))
   exact zcp v (by simp[execOp,ho,h1]) hI h2
  ·exact raw h
 ·rename_i x ho
  have hx:=hρ x (by simp[ho,Op.operands])
  split at h
  ·rename_i s off he
   cases h
   rw[he] at hx
   have hx2:=hx
   rw[Rep] at hx2
   obtain⟨b,_,hv⟩:=hx2
   exact zcp (ρc x) (by simp[execOp,ho,hv]) hI hx
  ·rename_i cs he
   cases h
   rw[he] at hx
   have hx2:=hx
   rw[Rep] at hx2
   obtain⟨b,o',hv,_⟩:=hx2
   exact zcp (ρc x) (by simp[execOp,ho,hv]) hI hx
  ·exact raw h
 ·cases h
 ·cases h
 ·cases h
 ·exact raw h
end Go.Ab
