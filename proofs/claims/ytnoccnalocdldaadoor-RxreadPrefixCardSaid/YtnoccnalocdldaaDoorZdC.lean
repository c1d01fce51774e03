import Derived.RangeFuncNested
import Derived.RangeFuncLeaves
import Derived.StillTail
import Derived.Below
import Derived.Maps.AppendAt
import Derived.OwnWalkIn
import Derived.Shelf.Abstract
import Derived.Laws.BytesArg
import Derived.Laws.CopyRow
import Derived.OrdersIn
set_option linter.all false
open Bool (and_eq_true)
open Nat (le_refl le_trans lt_or_ge not_lt_zero)
open List (all_eq_true mem_range)
namespace Go.Fwd
open Go Go.RowKit
variable {c w' W':World} {B' j n:Nat}
abbrev drn (w:World):Nat:=w.drawn
structure Ex (B:Nat)(w w':World):Prop extends Below B w w' where
 drawn:drn w<=drn w'
theorem Ex.refl (B:Nat)(w:World):Ex B w w:=⟨Below.refl B w,le_refl _⟩
theorem Ex.trans {B:Nat} {a b:World} (h:Ex B a b)(k:Ex B b c):Ex B a c:=⟨h.toBelow.trans k.toBelow,le_trans h.drawn k.drawn⟩
theorem Ex.mono {B:Nat} {w:World} (h:Ex B w w')(hB:B'<=B):Ex B' w w':=⟨h.toBelow.mono hB,h.drawn⟩
theorem Ex.drew {B:Nat} {a w:World} (h:Ex B a w):Ex B a w.drew:=⟨h.toBelow.drew,le_trans h.drawn (Nat.le_succ _)⟩
theorem Ex.alloc {B:Nat} {a w:World} (h:Ex B a w)(hB:B<=w.heap.size)(o:Obj):Ex B a (w.alloc o):=⟨h.toBelow.alloc hB o,h.drawn⟩
theorem Ex.setRow {B:Nat} {a w:World} (h:Ex B a w) {g:Nat} (hg:B<=g)(cs:Array Value):Ex B a (w.setRow g cs):=by
 refine⟨h.toBelow.trans ⟨rfl,rfl,rfl,by simp,fun k hk=> ?_⟩,h.drawn⟩;simp only[World.setRow,Array.getElem?_modify];rw[if_neg (by omega)]
structure Turn (B:Nat)(W W':World):Prop where
 os:W'.os=W.os
 tape:W'.tape=W.tape
 output:W'.output=W.output
 size:W.heap.size<=W'.heap.size
 drawn:drn W<=drn W'
 same: ∀(k:Nat) (o:Obj),W.heap[k]? =some o->k<B \/o.isCells=true->W'.heap[k]? =some o
theorem Turn.of_ex {W:World} (B:Nat)(h:Ex W.heap.size W W'):Turn B W W':=
 ⟨h.os,h.tape,h.output,h.size,h.drawn,fun k o hk _=>(h.block k (Array.getElem?_eq_some_iff.1 hk).1).trans hk⟩
theorem Turn.putObj {B:Nat} {W:World} {l:Nat} {o:Obj} (o':Obj)(hB:B<=l)(hl:W.heap[l]? =some o)(ho:o.isCells=false):Turn B W (W.putObj l o'):=
 ⟨rfl,rfl,rfl,by simp,le_refl _,fun k o2 hk h2=>by
  refine(World.putObj_heap_other fun e=> ?_).trans hk;subst e;rcases h2 with h2|h2
  ·omega
  ·rw[hl] at hk;cases hk;rw[ho] at h2;cases h2⟩
theorem Turn.alloc (B:Nat)(W:World)(o:Obj):Turn B W (W.alloc o):=Turn.of_ex B ((Ex.refl _ _).alloc (le_refl _) o)
theorem Turn.ex {B:Nat} {W:World} (h:Turn B W W')(hB:B<=W.heap.size):Ex B W W':=
 ⟨⟨h.os,h.tape,h.output,h.size,fun k hk=>by
  have hlt:k<W.heap.size:=by omega
  rw[h.same k _ (Array.getElem?_eq_getElem hlt) (.inl hk),Array.getElem?_eq_getElem hlt]⟩,h.drawn⟩
def Stable {β:Type} (B:Nat)(J:β->World->Prop):Prop:= ∀s W W',J s W->Turn B W W'->J s W'
theorem Stable.and {β:Type} {B:Nat} {I I':β->World->Prop} (h:Stable B I)(h':Stable B I'):Stable B (fun s W=>I s W/\ I' s W):=fun s W W' hs ht=>⟨h s W W' hs.1 ht,h' s W W' hs.2 ht⟩
section
variable {P:Program} {α:Type}
def Yields (P:Program)(l:Nat)(args:Array Value)(W:World)(R:Ending->World->Prop):Prop:= ∀m,YieldAt Fence.wide m P l args W R
theorem Yields.mono {l:Nat} {args:Array Value} {W:World} {R R':Ending->World->Prop} (h:Yields P l args W R)(hr: ∀e w,R e w->R' e w):Yields P l args W R':=fun m=>by
 obtain⟨fn,tmps,assign,body,hy,hR⟩:=h m;exact⟨fn,tmps,assign,body,hy,hR.mono hr⟩
def qbg (B:Nat)(Kp:World->World->Prop)(I:List α->World->Prop)(Ix:Code->List α->World->Prop)(xs:List α)(W:World):Exit->Act->World->Prop
 | .normal,_,W'=>KeepsFrom B W W'/\ Kp W W'/\ I xs W'
 | .ret,_,W'=>KeepsFrom B W W'/\ Ix .ret xs W'
 | .exit id,_,W'=>KeepsFrom B W W'/\ Ix (.exit id) xs W'
 | .goto t,_,W'=>KeepsFrom B W W'/\ Ix (.goto t) xs W'
 |_,_,_=>False
theorem zmm {B:Nat} {W:World} (h:KeepsFrom B W W')(hB:B<=B'):KeepsFrom B' W W':=⟨h.size,fun k o hk h1 h2=>h.same k o (by omega) h1 h2⟩
theorem zkg {B l:Nat} (W:World)(o:Obj)(h:l<B):KeepsFrom B W (W.putObj l o):=⟨by simp,fun k o' hk h1 _=>(World.putObj_heap_other (by omega)).trans h1⟩
theorem qan {F:Fence} (hF: ∀f,F.fn f) {m B l d:Nat} {fn:FuncId} {tmps:Array Value} {ps:Array Tmp} {assign body:Code} (rec:LoopState->Option Code->Loop)
 (hrec:rec=fun st pe=>{state:=st,pending:=pe,fn,tmps,params:=ps,assign,body,defers:=d}) (hBl:B<=l)
 {encs:α->Array Value} {Kp:World->World->Prop} (hps: ∀x,(encs x).size=ps.size)
 (hKt: ∀A B C:World,Kp A B->Kp B C->Kp A C) (hKT: ∀W W':World,Turn B W W'->B<=W.heap.size->Kp W W')
 {I:List α->World->Prop} {Ix:Code->List α->World->Prop} {A:α->Act->World->Prop} (hI:Stable B I) (hIx: ∀c,Stable B (Ix c)) (hA: ∀x a',Stable B (fun(_:Unit) W=>A x a' W))
 {pre:List α} {x:α} {W:World} (hl:W.heap[l]? =some (.loop (rec .ready none)))
 (hassign: ∀K:Act->World->Prop,(∀a' W',KeepsFrom B W W'->Kp W W'->I pre W'->A x a' W'->K a' W')->assign.wpIn (F.inRound l) m P (Exit.then K (fun _ _ _=>False)) {tmps:=(ps.zip (encs x)).foldl (fun t (p,v)=>t.setIfInBounds p v) tmps,defers:=[]} W)
 (hbody: ∀a' W',(∃r,W'.heap[l]? =some (.loop r)/\ r.defers=d)->I pre W'->A x a' W'->body.wpIn (F.inRound l) m P (qbg B Kp I Ix (pre++[x]) W') a' W'):
 YieldAt F m P l (encs x) W fun e W'=>KeepsFrom (l+1) W W'/\ (∀k o,B<=k->k≠l->W.heap[k]? =some o->o.isCells=false->W'.heap[k]? =some o)/\
  ((e= .returned (.bool true)/\ (I (pre++[x]) W'/\ W'.heap[l]? =some (.loop (rec .ready none)))/\ Kp W W') \/
   (e= .returned (.bool false)/\ ∃c,Ix c (pre++[x]) W'/\ W'.heap[l]? =some (.loop (rec .done (some c))))):=by
 have hy:=run_yield (P:=P) (args:=encs x) hl (by rw[hrec];exact hps x);rw[hrec] at hy;refine⟨fn,_,assign,body,hy,roundIn_of_wpIn (hF fn) (hassign _ ?_)⟩;intro a' Wa hk1 hkp1 hi1 ha1;have hla:=hk1.same _ _ hBl hl rfl;have hlt:l<Wa.heap.size:=(Array.getElem?_eq_some_iff.1 hla).1;refine⟨_,run_beginRound hla (by rw[hrec]),?_⟩;have hT1:=Turn.putObj (B:=B) (.loop {rec .ready none with state:= .busy}) hBl hla rfl;have hlb:(Wa.putObj l (.loop {rec .ready none with state:= .busy})).heap[l]? =some (.loop {rec .ready none with state:= .busy}):=World.putObj_heap_same hlt;have hkp2:=hKt _ _ _ hkp1 (hKT _ _ hT1 (by omega));have hks:KeepsFrom (l+1) Wa (Wa.putObj l (.loop {rec .ready none with state:= .busy})):=zkg Wa _ (by omega);have hks': ∀k o,k≠l->Wa.heap[k]? =some o->(Wa.putObj l (.loop {rec .ready none with state:= .busy})).heap[k]? =some o:=fun k o hk h=>(World.putObj_heap_other hk).trans h;generalize Wa.putObj l (.loop {rec .ready none with state:= .busy})=Wb at*
 refine wpIn_mono (hbody a' Wb ⟨_,hlb,by rw[hrec]⟩ (hI _ _ _ hi1 hT1) (hA x a' () _ _ ha1 hT1)) ?_
 -- behind the body
 have fin: ∀(jump:Option Code) (Wc:World),KeepsFrom B Wb Wc->
  (Instr.endRound l jump).run P Wc= .ok (.bool jump.isNone) (Wc.putObj l (.loop (rec (if jump.isNone then .ready else .done) jump)))/\
  Turn B Wc (Wc.putObj l (.loop (rec (if jump.isNone then .ready else .done) jump)))/\ B<=Wc.heap.size/\
  (Wc.putObj l (.loop (rec (if jump.isNone then .ready else .done) jump))).heap[l]? =some (.loop (rec (if jump.isNone then .ready else .done) jump))/\
  KeepsFrom (l+1) W (Wc.putObj l (.loop (rec (if jump.isNone then .ready else .done) jump)))/\
  ∀k o,B<=k->k≠l->W.heap[k]? =some o->o.isCells=false->(Wc.putObj l (.loop (rec (if jump.isNone then .ready else .done) jump))).heap[k]? =some o:=fun jump Wc hk3=>by
  have hlc:=hk3.same _ _ hBl hlb rfl;have hltc:l<Wc.heap.size:=(Array.getElem?_eq_some_iff.1 hlc).1;have:=run_endRound (P:=P) jump hlc;rw[hrec] at this⊢
  exact⟨this,Turn.putObj _ hBl hlc rfl,by omega,World.putObj_heap_same hltc,
   (((zmm hk1 (by omega)).trans hks).trans (zmm hk3 (by omega))).trans (zkg Wc _ (by omega)),
   fun k o hkB hkl h1 h2=>(World.putObj_heap_other hkl).trans (hk3.same _ _ hkB (hks' _ _ hkl (hk1.same _ _ hkB h1 h2)) h2)⟩
 rintro e a3 Wc hp;cases e with
 | normal=>
  obtain⟨hk3,hkp3,hi3⟩:=hp;obtain⟨hr,hT,hsz,hl4,hk4,hk5⟩:=fin none Wc hk3;exact⟨_,_,hr,hk4,hk5,.inl ⟨rfl,⟨hI _ _ _ hi3 hT,hl4⟩,hKt _ _ _ (hKt _ _ _ hkp2 hkp3) (hKT _ _ hT hsz)⟩⟩
 | ret=>
  obtain⟨hk3,hi3⟩:=hp;obtain⟨hr,hT,hsz,hl4,hk4,hk5⟩:=fin (some .ret) Wc hk3;exact⟨_,_,hr,hk4,hk5,.inr ⟨rfl,.ret,hIx _ _ _ _ hi3 hT,hl4⟩⟩
 | exit id=>
  obtain⟨hk3,hi3⟩:=hp;obtain⟨hr,hT,hsz,hl4,hk4,hk5⟩:=fin (some (.exit id)) Wc hk3;exact⟨_,_,hr,hk4,hk5,.inr ⟨rfl,.exit id,hIx _ _ _ _ hi3 hT,hl4⟩⟩
 | goto t=>
  obtain⟨hk3,hi3⟩:=hp;obtain⟨hr,hT,hsz,hl4,hk4,hk5⟩:=fin (some (.goto t)) Wc hk3;exact⟨_,_,hr,hk4,hk5,.inr ⟨rfl,.goto t,hIx _ _ _ _ hi3 hT,hl4⟩⟩
 |panic ch=>exact hp.elim
 |outgrown=>exact hp.elim
theorem zrm {F:Fence} (hd:F.depth=none) {c:Code} {n m:Nat} {Q:Exit->Act->World->Prop} {a:Act} {w:World} (h:c.wpIn F n P Q a w):c.wpIn F m P Q a w:=
 fun b k cs h1 h2 _=>h b k cs h1 h2 (fun d hdd=>by rw[hd] at hdd;cases hdd)
theorem z7d {B l d:Nat} {fn:FuncId} {tmps:Array Value} {ps:Array Tmp} {assign body:Code} (rec:LoopState->Option Code->Loop)
 (hrec:rec=fun st pe=>{state:=st,pending:=pe,fn,tmps,params:=ps,assign,body,defers:=d}) (hBl:B<=l)
 {encs:α->Array Value} {Kp:World->World->Prop} (hps: ∀x,(encs x).size=ps.size)
 (hKt: ∀A B C:World,Kp A B->Kp B C->Kp A C) (hKT: ∀W W':World,Turn B W W'->B<=W.heap.size->Kp W W')
 {I:List α->World->Prop} {Ix:Code->List α->World->Prop} {A:α->Act->World->Prop} (hI:Stable B I) (hIx: ∀c,Stable B (Ix c)) (hA: ∀x a',Stable B (fun(_:Unit) W=>A x a' W))
 {pre:List α} {x:α} {W:World} (hl:W.heap[l]? =some (.loop (rec .ready none)))
 (hassign: ∀K:Act->World->Prop,(∀a' W',KeepsFrom B W W'->Kp W W'->I pre W'->A x a' W'->K a' W')->assign.wpIn (Fence.wide.inRound l) 0 P (Exit.then K (fun _ _ _=>False)) {tmps:=(ps.zip (encs x)).foldl (fun t (p,v)=>t.setIfInBounds p v) tmps,defers:=[]} W)
 (hbody: ∀a' W',(∃r,W'.heap[l]? =some (.loop r)/\ r.defers=d)->I pre W'->A x a' W'->body.wpIn (Fence.wide.inRound l) 0 P (qbg B Kp I Ix (pre++[x]) W') a' W'):
 Yields P l (encs x) W fun e W'=>KeepsFrom (l+1) W W'/\ (∀k o,B<=k->k≠l->W.heap[k]? =some o->o.isCells=false->W'.heap[k]? =some o)/\
  ((e= .returned (.bool true)/\ (I (pre++[x]) W'/\ W'.heap[l]? =some (.loop (rec .ready none)))/\ Kp W W') \/
   (e= .returned (.bool false)/\ ∃c,Ix c (pre++[x]) W'/\ W'.heap[l]? =some (.loop (rec .done (some c))))):=fun _=>
 qan (F:=Fence.wide) (fun _=>trivial) rec hrec hBl hps hKt hKT hI hIx hA hl (fun K hK=>zrm rfl (hassign K hK)) (fun a' W' h1 h2 h3=>zrm rfl (hbody a' W' h1 h2 h3))
end
def Grows (w w':World):Prop:=Ex w.heap.size w w'
theorem Grows.refl (w:World):Grows w w:=Ex.refl _ _
theorem Grows.trans {a b:World} (h:Grows a b)(k:Grows b c):Grows a c:=Ex.trans h (k.mono h.size)
theorem Grows.drew {a w:World} (h:Grows a w):Grows a {w with drawn:=w.drawn+1}:=Ex.drew h
abbrev VP:=Value->World->Prop
def Mono (V:VP):Prop:= ∀v w w',Grows w w'->V v w->V v w'
def Is (e:Value):VP:=fun v _=>v=e
abbrev Acc:=List (Tmp×VP)
def env (a0:Act):Acc->Tmp->VP
 |[],t=>Is (a0.eval (.tmp t))
 |(d,V)::r,t=>if d=t then V else env a0 r t
def OpGood (P:Program)(V:VP)(w:World):Result Next->Prop
 | .ok (.value v) w'=>Grows w w'/\ V v w'
 | .ok .skip w'=>Grows w w'/\ V undef w'
 | .ok (.enter f args) w'=>Grows w w'/\ Calls P f args w' fun e w''=> ∃v,e= .returned v/\ Grows w w''/\ V v w''
 | .ok (.row row args) w'=>Grows w w'/\ Rows P row args w' fun v w''=>Grows w w''/\ V v w''
 |_=>False
def zej:List Operand->List Tmp
 |[]=>[]
 | .tmp t::r=>t::zej r
 |_::r=>zej r
def All (E:Tmp->VP)(ρ:Operand->Value)(w:World):List Tmp->Prop
 |[]=>True
 |t::r=>E t (ρ (.tmp t)) w/\ All E ρ w r
theorem all_mk {E:Tmp->VP} {ρ:Operand->Value} {w:World}: ∀ {l:List Tmp},(∀t∈l,E t (ρ (.tmp t)) w)->All E ρ w l
 |[],_=>trivial
 |t::_,h=>⟨h t (by simp),all_mk fun u hu=>h u (by simp[hu])⟩
structure Env (ρ:Operand->Value):Prop where
 const: ∀v,ρ (.const v)=v
 func: ∀f,ρ (.func f)= .func (.func f) #[] #[]
 global: ∀g,ρ (.global g)= .pointer (some ⟨g,0,none⟩)
theorem zrq (a:Act):Env a.eval:=⟨fun _=>rfl,fun _=>rfl,fun _=>rfl⟩
def zbo (ops:Array Oper)(k:Nat):Option Tmp:=(ops[k]?).bind (·.dst)
def StepOk (P:Program)(ops:Array Oper)(w0:World)(a0:Act)(acc:Acc)(V:VP)(o:Oper):Prop:=
 ∀ (ρ:Operand->Value) (w:World),Env ρ->Grows w0 w->All (env a0 acc) ρ w (zej o.op.operands.toList)->
  match o.guard with
  |none=>OpGood P V w ((execOp ρ o).run P w)
  |some (k,b)=> ∃d,zbo ops k=some d/\ ∀g,env a0 acc d g w->(g= .bool b->OpGood P V w ((execOp ρ o).run P w))/\ (g≠ .bool b->V undef w)
def accOf (acc:Acc)(d:Option Tmp)(V:VP):Acc:=match d with|some t=>(t,V)::acc|none=>acc
def FwdGo (P:Program)(ops:Array Oper)(w0:World)(a0:Act)(fin:Acc->Prop):List Oper->Acc->Prop
 |[],acc=>fin acc
 |o::rest,acc=> ∃V,Mono V/\ StepOk P ops w0 a0 acc V o/\ FwdGo P ops w0 a0 fin rest (accOf acc o.dst V)
def EndAt (w:World):Acc->Act->(Act->Prop)->Prop
 |[],a,K=>K a
 |(d,V)::r,a,K=>EndAt w r a fun a'=> ∀v,V v w->K (a'.put (some d) v)
def zhs (ops:Array Oper)(i j:Nat):Bool:=match ops[i]? with|some o=>o.after.any fun e=>Region.binds .any e&&e.on==j|none=>false
def zgn (ops:Array Oper)(i:Nat):List Tmp:=
 match ops[i]? with
 |some o=>zej o.op.operands.toList++(match o.guard with|some (k,_)=>(zbo ops k).toList|none=>[])
 |none=>[]
def zta (ops:Array Oper)(size n:Nat):Bool:=
 (List.range n).all fun j=>match zbo ops j with
  |none=>true
  |some d=>decide (d<size)&&(List.range n).all fun i=>(decide (i=j)||zbo ops i !=some d)&&(!(zgn ops i).contains d||(if j<i then zhs ops i j else decide (i<j)&&zhs ops j i))
def zvu (ops:Array Oper):Bool:=(List.range ops.size).all fun i=>match ops[i]? with|some o=>o.after.all fun e=> !Region.binds .any e||decide (e.on<i)|none=>true
def chk (ops:Array Oper)(size n:Nat):Bool:=
 zta ops size n&&zvu ops&&decide (n<=ops.size)&&(decide (n=ops.size)||(Region.sinkB .any ops n&&Region.chainB .any ops n))&&
  Region.seqB .any ops (ops.size-n) n ((List.replicate n true).toArray++(List.replicate (ops.size-n) false).toArray)
def left:Nat->Array Bool->Nat
 |0,_=>0
 |k+1,l=>left k l+if l.getD k true=true then 0 else 1
theorem zlp {i:Nat} {l:Array Bool} (hu:l.getD i true=false): ∀n,i<n->left n (l.setIfInBounds i true)+1=left n l
 |0,h=>absurd h (not_lt_zero _)
 | n +1,h=>by
  have hi:i<l.size:=by
   rcases lt_or_ge i l.size with h'|h'
   ·exact h'
   ·simp[Array.getElem?_eq_none h'] at hu
  by_cases hin:i=n
  ·subst hin;have e: ∀m,m<=i->left m (l.setIfInBounds i true)=left m l:=by
    intro m;induction m with
    |zero=>intro _;rfl
    |succ m ih=>intro hm;simp only[left,ih (by omega)];rw[getD_set_ne true (by omega)]
   simp only[left,e i (le_refl _),hu];have:(l.setIfInBounds i true).getD i true=true:=by simp[hi]
   simp[this]
  ·have:=zlp hu n (by omega);simp only[left];rw[getD_set_ne true hin];omega
theorem zib {l:Array Bool}: ∀n,left n l=0-> ∀i,i<n->l.getD i true=true
 |0,_,i,h=>absurd h (not_lt_zero _)
 | n+1,h0,i,h=>by
  simp only[left] at h0;by_cases hin:i=n
  ·subst hin;by_cases hh:l.getD i true=true
   ·exact hh
   ·simp only[hh] at h0;simp at h0
  ·exact zib n (by omega) i (by omega)
theorem zlu {l:Array Bool}: ∀n,left n l≠0-> ∃i,i<n/\ l.getD i true=false/\ ∀j,j<i->l.getD j true=true
 |0,h=>absurd rfl h
 | n+1,h=>by
  by_cases h0:left n l=0
  ·refine⟨n,by omega,?_,fun j hj=>zib n h0 j hj⟩;simp only[left,h0] at h;cases hh:l.getD n true with
   |false=>rfl
   |true=>simp only[hh] at h;simp at h
  ·obtain⟨i,hi,hu,hb⟩:=zlu n h0;exact⟨i,by omega,hu,hb⟩
section
variable {P:Program} {ops:Array Oper} {w0:World} {a0:Act}
def accU (ops:Array Oper)(Vs:Nat->VP):Nat->Acc
 |0=>[]
 |i+1=>accOf (accU ops Vs i) (zbo ops i) (Vs i)
theorem fwd_choose {fin:Acc->Prop}: ∀(l:List Oper) (k:Nat) (Vs:Nat->VP),(∀j,j<l.length->l[j]? =ops[k+j]?)->
 FwdGo P ops w0 a0 fin l (accU ops Vs k)->
 ∃Ws:Nat->VP,(∀i,i<k->Ws i=Vs i)/\ (∀i,k<=i->i<k+l.length->Mono (Ws i)/\ ∀o,ops[i]? =some o->StepOk P ops w0 a0 (accU ops Ws i) (Ws i) o)/\ fin (accU ops Ws (k+l.length))
 |[],k,Vs,_,h=>⟨Vs,fun _ _=>rfl,fun i h1 h2=>by simp at h2;omega,h⟩
 | o::l,k,Vs,hl,⟨V,hm,hs,hgo⟩=>by
  have h0:ops[k]? =some o:=by simpa using(hl 0 (by simp)).symm
  have eU: ∀(A B:Nat->VP) m,(∀i,i<m->A i=B i)->accU ops A m=accU ops B m:=by
   intro A B m;induction m with
   |zero=>intro _;rfl
   |succ m ih=>intro h;simp only[accU,ih (fun i hi=>h i (by omega)),h m (by omega)]
  let Vs':Nat->VP:=fun i=>if i=k then V else Vs i
  have e1:accU ops Vs' k=accU ops Vs k:=eU _ _ _ fun i hi=>by simp[Vs',Nat.ne_of_lt hi]
  have e2:accU ops Vs' (k+1)=accOf (accU ops Vs k) o.dst V:=by
   simp only[accU,e1,zbo,h0,Option.bind_some];simp[Vs']
  obtain⟨Ws,hw1,hw2,hw3⟩:=fwd_choose l (k+1) Vs' (fun j hj=>by have:=hl (j+1) (by simp;omega);simpa[Nat.add_assoc,Nat.add_comm 1 j] using this) (by rw[e2];exact hgo);have hk:Ws k=V:=by rw[hw1 k (by omega)];simp[Vs']
  have hsame: ∀i,i<k->Ws i=Vs i:=fun i hi=>by rw[hw1 i (by omega)];simp[Vs',Nat.ne_of_lt hi]
  refine⟨Ws,hsame,fun i h1 h2=> ?_,by rw[show k+(o::l).length=k+1+l.length by simp;omega];exact hw3⟩;by_cases hik:i=k
  ·subst hik;rw[hk,eU Ws Vs i hsame];exact⟨hm,fun o' ho'=>by rw[h0] at ho';cases ho';exact hs⟩
  ·exact hw2 i (by omega) (by simp at h2;omega)
theorem env_none {Vs:Nat->VP} {t:Tmp}: ∀i,(∀j,j<i->zbo ops j≠some t)->env a0 (accU ops Vs i) t=Is (a0.eval (.tmp t))
 |0,_=>rfl
 | i+1,h=>by
  simp only[accU];cases hd:zbo ops i with
  |none=>simp only[accOf];exact env_none i fun j hj=>h j (by omega)
  | some d=>
   have:d≠t:=fun e=>h i (by omega) (by rw[hd,e]);simp only[accOf,env,if_neg this];exact env_none i fun j hj=>h j (by omega)
theorem env_some {Vs:Nat->VP} {t:Tmp} (hd:zbo ops j=some t): ∀i,j<i->(∀k,k<i->k≠j->zbo ops k≠some t)->env a0 (accU ops Vs i) t=Vs j
 |0,h,_=>absurd h (not_lt_zero _)
 | i +1,h,hne=>by
  simp only[accU];by_cases hij:j=i
  ·subst hij;simp[hd,accOf,env]
  ·cases hd':zbo ops i with
   |none=>simp only[accOf];exact env_some hd i (by omega) fun k hk hkj=>hne k (by omega) hkj
   | some d=>
    have:d≠t:=fun e=>hne i (by omega) (by omega) (by rw[hd',e]);simp only[accOf,env,if_neg this];exact env_some hd i (by omega) fun k hk hkj=>hne k (by omega) hkj
structure Inv (ops:Array Oper)(w0:World)(a0:Act)(Vs:Nat->VP)(n:Nat)(listed:Array Bool)(a:Act)(w:World):Prop where
 head:HeadInv .any ops n listed
 grows:Grows w0 w
 defers:a.defers=a0.defers
 size:a.tmps.size=a0.tmps.size
 done: ∀j t,j<n->zbo ops j=some t->listed.getD j true=true->Vs j (a.eval (.tmp t)) w
 still: ∀t,(∀j,j<n->zbo ops j=some t->listed.getD j true=false)->a.eval (.tmp t)=a0.eval (.tmp t)
theorem zqs {d:Tmp} {l:List Tmp} (h:d∈l):l.contains d=true:=by simpa using h
theorem zeh {i:Nat} (h:zhs ops i j=true): ∃o,ops[i]? =some o/\ ∃e∈o.after,Region.binds .any e=true/\ e.on=j:=by
 unfold zhs at h;split at h
 ·rename_i o ho;obtain⟨e,he,hb⟩:=Array.any_eq_true'.1 h;simp only[and_eq_true,beq_iff_eq] at hb;exact⟨o,ho,e,he,hb.1,hb.2⟩
 ·cases h
theorem zpn {listed:Array Bool} {i:Nat} (h:listed.getD i false=true):listed.getD i true=true:=by
 rcases lt_or_ge i listed.size with h'|h'
 ·simp[h'] at h⊢;exact h
 ·simp[Array.getElem?_eq_none h']
theorem zne {listed:Array Bool} {i:Nat} (hi:i<listed.size)(h:listed.getD i true=true):listed.getD i false=true:=by
 simp[hi] at h⊢;exact h
theorem zgt {size:Nat} (h:zta ops size n=true) {j:Nat} {d:Tmp} (hj:j<n)(hd:zbo ops j=some d):
 d<size/\ (∀i,i<n->i≠j->zbo ops i≠some d)/\ ∀i,i<n->d∈zgn ops i->(j<i/\ zhs ops i j=true) \/(i<j/\ zhs ops j i=true):=by
 unfold zta at h;have h1:=all_eq_true.1 h j (mem_range.2 hj);rw[hd] at h1;simp only[and_eq_true,decide_eq_true_eq] at h1;obtain⟨h2,h3⟩:=h1;refine⟨h2,fun i hi hne he=> ?_,fun i hi hl=> ?_⟩
 ·have h4:=all_eq_true.1 h3 i (mem_range.2 hi);simp only[and_eq_true,Bool.or_eq_true,decide_eq_true_eq] at h4;rcases h4.1 with h5|h5
  ·exact hne h5
  ·rw[he] at h5;simp at h5
 ·have h4:=all_eq_true.1 h3 i (mem_range.2 hi);simp only[and_eq_true,Bool.or_eq_true] at h4;rcases h4.2 with h5|h5
  ·rw[zqs hl] at h5;simp at h5
  ·split at h5
   ·rename_i hlt;exact .inl ⟨hlt,h5⟩
   ·simp only[and_eq_true,decide_eq_true_eq] at h5;exact .inr h5
theorem Inv.slot {Vs:Nat->VP} {size i:Nat} {listed:Array Bool} {a:Act} {w:World} (inv:Inv ops w0 a0 Vs n listed a w)(hB:zta ops size n=true)
 (hi:i∈Region.ready .any ops listed) (hin:i<n) {t:Tmp} (ht:t∈zgn ops i):env a0 (accU ops Vs i) t (a.eval (.tmp t)) w:=by
 obtain⟨hun,o,ho,hall⟩:=mem_ready.1 hi;by_cases hw: ∃j,j<n/\ zbo ops j=some t
 ·obtain⟨j,hj,hd⟩:=hw;obtain⟨_,hdist,hlk⟩:=zgt hB hj hd;rcases hlk i hin ht with⟨hji,hwt⟩|⟨hij,hwt⟩
  ·obtain⟨o',ho',e,he,hb,hon⟩:=zeh hwt;rw[ho] at ho';cases ho';have hl:=hall e he hb;rw[hon] at hl;rw[env_some hd i hji fun k hk hkj=>hdist k (by omega) hkj];exact inv.done j t hj hd (zpn hl)
  ·obtain⟨o',ho',e,he,hb,hon⟩:=zeh hwt;have hnl:listed.getD j true=false:=by
    cases hl:listed.getD j true with
    |false=>rfl
    | true=>
     have hjs:j<listed.size:=by rw[inv.head.size];exact(Array.getElem?_eq_some_iff.1 ho').1
     have:=inv.head.closed j o' ho' (zne hjs hl) e he hb;rw[hon,getD_both hun] at this;cases this
   rw[env_none i fun k hk hk2=>hdist k (by omega) (by omega) hk2];exact inv.still t fun k hk hk2=>by
    by_cases hkj:k=j
    ·rw[hkj];exact hnl
    ·exact absurd hk2 (hdist k hk hkj)
 ·rw[env_none i fun k hk hk2=>hw ⟨k,by omega,hk2⟩];exact inv.still t fun k hk hk2=>absurd ⟨k,hk,hk2⟩ hw
theorem Act.eval_put_same {a:Act} {t:Tmp} {v:Value} (h:t<a.tmps.size):(a.put (some t) v).eval (.tmp t)=v:=by
 simp[Act.put,Act.eval,h]
theorem Act.size_put (a:Act)(d:Option Tmp)(v:Value):(a.put d v).tmps.size=a.tmps.size:=by cases d<;>simp[Act.put]
theorem Act.defers_put (a:Act)(d:Option Tmp)(v:Value):(a.put d v).defers=a.defers:=by cases d<;>rfl
theorem Inv.step {Vs:Nat->VP} {i:Nat} {listed:Array Bool} {a:Act} {w:World} {v:Value} (inv:Inv ops w0 a0 Vs n listed a w)(hB:zta ops a0.tmps.size n=true)
 (hm: ∀j,j<n->Mono (Vs j)) (hi:i∈Region.ready .any ops listed) (hin:i<n) (hg:Grows w w') (hv:Vs i v w'):
 Inv ops w0 a0 Vs n (listed.setIfInBounds i true) (a.put (zbo ops i) v) w':=by
 have hun:=(mem_ready.1 hi).1;refine⟨inv.head.set hi hin,inv.grows.trans hg,by rw[Act.defers_put];exact inv.defers,by rw[Act.size_put];exact inv.size,fun j t hj hd hl=> ?_,fun t h=> ?_⟩
 ·by_cases hji:j=i
  ·subst hji;rw[hd,Act.eval_put_same (by rw[inv.size];exact(zgt hB hj hd).1)];exact hv
  ·rw[getD_set_ne true (Ne.symm hji)] at hl;rw[Act.eval_put fun d h1 h2=>(zgt hB hj hd).2.1 i hin (Ne.symm hji) (by rw[h1];cases h2;rfl)];exact hm j hj _ _ _ hg (inv.done j t hj hd hl)
 ·have hne:zbo ops i≠some t:=fun he=>by
   have:=h i hin he;have hs:i<listed.size:=by
    rcases lt_or_ge i listed.size with h'|h'
    ·exact h'
    ·simp[Array.getElem?_eq_none h'] at hun
   simp[hs] at this
  rw[Act.eval_put fun d h1 h2=>hne (by rw[h1];cases h2;rfl)];exact inv.still t fun j hj hd=>by
   have:=h j hj hd;by_cases hji:j=i
   ·subst hji;exact absurd hd hne
   ·rwa[getD_set_ne true (Ne.symm hji)] at this
theorem end_of_inv {Vs:Nat->VP} {a:Act} {w:World} (hB:zta ops a0.tmps.size n=true)(hs:a.tmps.size=a0.tmps.size)(hd:a.defers=a0.defers)
 (done: ∀j t,j<n->zbo ops j=some t->Vs j (a.eval (.tmp t)) w) (still: ∀t,(∀j,j<n->zbo ops j≠some t)->a.eval (.tmp t)=a0.eval (.tmp t)) {K:Act->Prop}
 (h:EndAt w (accU ops Vs n) a0 K):K a:=by
 have key: ∀m,m<=n-> ∀(K:Act->Prop),EndAt w (accU ops Vs m) a0 K-> ∃b:Act,K b/\ b.tmps.size=a0.tmps.size/\ b.defers=a0.defers/\ (∀j t,j<m->zbo ops j=some t->b.eval (.tmp t)=a.eval (.tmp t))/\
  (∀t,(∀j,j<m->zbo ops j≠some t)->b.eval (.tmp t)=a0.eval (.tmp t)):=by
  intro m;induction m with
  |zero=>intro _ K h;exact⟨a0,h,rfl,rfl,fun j t hj=>absurd hj (not_lt_zero _),fun _ _=>rfl⟩
  | succ m ih=>
   intro hm K h;simp only[accU] at h;cases hdm:zbo ops m with
   | none=>
    rw[hdm] at h;obtain⟨b,h1,h2,h3,h4,h5⟩:=ih (by omega) K h;refine⟨b,h1,h2,h3,fun j t hj hd=> ?_,fun t hh=>h5 t fun j hj=>hh j (by omega)⟩;by_cases hjm:j=m
    ·rw[hjm,hdm] at hd;cases hd
    ·exact h4 j t (by omega) hd
   | some d=>
    rw[hdm] at h;simp only[accOf,EndAt] at h;obtain⟨b,h1,h2,h3,h4,h5⟩:=ih (by omega) _ h;have hsp:=zgt hB (show m<n by omega) hdm;refine⟨b.put (some d) (a.eval (.tmp d)),h1 _ (done m d (by omega) hdm),by rw[Act.size_put];exact h2,by rw[Act.defers_put];exact h3,fun j t hj hd'=> ?_,fun t hh=> ?_⟩
    ·by_cases hjm:j=m
     ·rw[hjm,hdm] at hd';cases hd';exact Act.eval_put_same (by rw[h2];exact hsp.1)
     ·rw[Act.eval_put fun d' e1 e2=>by cases e1;cases e2;exact hsp.2.1 j (by omega) hjm hd'];exact h4 j t (by omega) hd'
    ·rw[Act.eval_put fun d' e1 e2=>by cases e1;cases e2;exact hh m (by omega) hdm];exact h5 t fun j hj=>hh j (by omega)
 obtain⟨b,h1,h2,h3,h4,h5⟩:=key n (le_refl _) K h;have:b=a:=by
  have et:b.tmps=a.tmps:=by
   apply Array.ext (by rw[h2,hs]);intro t ht1 ht2;have e:b.eval (.tmp t)=a.eval (.tmp t):=by
    by_cases hw: ∃j,j<n/\ zbo ops j=some t
    ·obtain⟨j,hj,hd'⟩:=hw;exact h4 j t hj hd'
    ·rw[h5 t fun j hj he=>hw ⟨j,hj,he⟩,still t fun j hj he=>hw ⟨j,hj,he⟩]
   simpa[Act.eval,ht1,ht2] using e
  cases a;cases b;simp_all
 rw[<-this];exact h1
end
theorem z4y {l:List Oper} (hj:j<(l.take n).length):(l.take n)[j]? =l.toArray[0+j]? :=by
 have:j<n:=by simp at hj;omega
 simp[this]
def Ret (v:Value)(w:World)(e:Ending)(w':World):Prop:=e= .returned v/\ Ex w.heap.size w w'
def RetV (V:VP)(w:World)(e:Ending)(w':World):Prop:= ∃v,e= .returned v/\ Ex w.heap.size w w'/\ V v w'
theorem Ret.v {P:Program} {f:FuncId} {args:Array Value} {w:World} {v:Value} (h:Calls P f args w (Ret v w)):Calls P f args w (RetV (Is v) w):=h.mono fun _ _ h=>⟨v,h.1,h.2,rfl⟩
theorem zeu (w:World)(o:Obj)(n:Nat)(h:n=w.heap.size):(w.alloc o).heap[n]? =some o:=by subst h;exact heap_alloc_new w o
structure Grew (w w':World)(row:Option Nat):Prop extends w.grownBy w' row where
 drawn:drn w<=drn w'
def SlAt (n:Nat)(cs:List Value)(v:Value)(w:World):Prop:=
 (v= .slice none 0 0/\ n=0/\ cs=[]) \/ ∃b o cap,v= .slice (some ⟨b,o,none⟩) n cap/\ b<w.heap.size/\ ∀(i:Nat) (x:Value),cs[i]? =some x->w.cell? ⟨b,o+i,none⟩=some x
theorem SlAt.mono (n:Nat)(cs:List Value):Mono (SlAt n cs):=by
 rintro v w w' hg (⟨rfl,h1,h2⟩|⟨b,o,cap,rfl,hb,hc⟩)
 ·exact .inl ⟨rfl,h1,h2⟩
 ·exact .inr ⟨b,o,cap,rfl,Nat.lt_of_lt_of_le hb hg.size,fun i x hx=>(hg.toBelow.cell (p:=⟨b,o+i,none⟩) hb).trans (hc i x hx)⟩
section
variable {P:Program} {ops:Array Oper} {w0:World} {a0:Act} {fin:Acc->Prop} {o:Oper} {rest:List Oper} {acc:Acc}
abbrev Uses (w0:World)(a0:Act)(acc:Acc)(o:Oper)(ρ:Operand->Value)(W:World):Prop:=
 (∀v,ρ (.const v)=v)/\ (∀f,ρ (.func f)= .func (.func f) #[] #[])/\ Grows w0 W/\ All (env a0 acc) ρ W (zej o.op.operands.toList)
end
end Go.Fwd
namespace Go.Fwd
open Go Go.RowKit
section
variable {P:Program} {ops:Array Oper} {w0:World} {a0:Act} {fin:Acc->Prop} {o:Oper} {rest:List Oper} {acc:Acc}
abbrev Met (ops:Array Oper)(a0:Act)(acc:Acc)(o:Oper):Prop:=
 match o.guard with|none=>True|some (k,b)=> ∃d,zbo ops k=some d/\ ∀g W,env a0 acc d g W->g= .bool b
def PtrAt (cs:List Value)(v:Value)(w:World):Prop:= ∃b o,v= .pointer (some ⟨b,o,none⟩)/\ b<w.heap.size/\ ∀(i:Nat) (x:Value),cs[i]? =some x->w.cell? ⟨b,o+i,none⟩=some x
theorem PtrAt.mono (cs:List Value):Mono (PtrAt cs):=by
 rintro v w w' hg ⟨b,o,rfl,hb,hc⟩;exact⟨b,o,rfl,Nat.lt_of_lt_of_le hb hg.size,fun i x hx=>(hg.toBelow.cell (p:=⟨b,o+i,none⟩) hb).trans (hc i x hx)⟩
theorem SlAt.shape {n:Nat} {cs:List Value} {v:Value} {w:World} (h:SlAt n cs v w): ∃a cap,v= .slice a n cap/\ (0<n-> ∃b o,a=some ⟨b,o,none⟩/\ b<w.heap.size/\ ∀(i:Nat) (x:Value),cs[i]? =some x->w.cell? ⟨b,o+i,none⟩=some x):=by
 rcases h with⟨rfl,h1,h2⟩|⟨b,o,cap,rfl,hb,hc⟩
 ·subst h1;exact⟨none,0,rfl,fun h=>by omega⟩
 ·exact⟨_,cap,rfl,fun _=>⟨b,o,rfl,hb,hc⟩⟩
end
theorem endAt_all {w:World}: ∀ {acc:Acc} {a:Act} {K:Act->Prop},
 (∀a',a'.tmps.size=a.tmps.size->a'.defers=a.defers->(∀t,t<a.tmps.size->env a acc t (a'.eval (.tmp t)) w)->K a')->EndAt w acc a K
 |[],a,K,h=>h a rfl rfl fun _ _=>rfl
 | (d,V)::r,a,K,h=>by
  show EndAt w r a fun a'=> ∀v,V v w->K (a'.put (some d) v);refine endAt_all fun a' h1 h2 h3 v hv=>h _ (by simp[Act.put,h1]) (by simp[Act.put,h2]) fun t ht=> ?_;simp only[env];by_cases hd:d=t
  ·rw[if_pos hd,hd];have:(a'.put (some t) v).eval (.tmp t)=v:=by simp[Act.put,Act.eval,h1,ht]
   rw[this];exact hv
  ·rw[if_neg hd];have:(a'.put (some d) v).eval (.tmp t)=a'.eval (.tmp t):=by simp[Act.put,Act.eval,Array.getElem?_setIfInBounds,hd]
   rw[this];exact h3 t ht
end Go.Fwd
namespace Go.Ab
open Go Go.RowKit Go.Fwd
variable {W':World}
inductive Room where
 |none|own (s:Nat)|full
 deriving DecidableEq,Inhabited
inductive AV where
 |raw (v:Value)
 |agg (cs:List AV)
 |tup (vs:List AV)
 |list (n:Nat) (cs:List AV) (st:Room)
 |ptr (s off:Nat)
 |bsl (s off n sz:Nat) (f:Bool)
 |iptr (cs:List AV)
 |clos (f:FuncId) (caps:List AV)
 |iter (xs:List (List AV))
 |yld (l:Nat)
 |top
 |bad
 deriving Inhabited
structure Row where
 block:Nat
 elem:TypeId
 size:Nat
 cap:Nat
structure Cx where
 F:Nat->Nat->Prop
 κ:List Nat
 β:List Row
 lens:List Nat
 w:World
 O:Nat->Prop
 C:Nat->Nat->Prop
structure IterP where
 it:Value->List (List AV)->Cx->Prop
 /-- What is known of package variables: cells that are never written. -/
 gv:(Nat->Nat->Prop)->World->Prop
def Bsl (X:Cx)(s off n sz:Nat)(f:Bool)(v:Value):Prop:=
 ∃b cap cur t,X.κ[s]? =some b/\ v= .slice (some ⟨b,off,none⟩) n cap/\ n<=cap/\ (f=true->cap=n)/\ X.w.heap[b]? =some (.cells cur t (0,0))/\ off+cap*sz<=cur.size
mutual
def Rep (IT:IterP)(X:Cx):AV->Value->Prop
 | .raw u,v=>v=u
 | .agg cs,v=> ∃vs:List Value,v= .agg vs.toArray/\ zbr IT X cs vs/\ ∀u∈vs,u.oneCell'=true
 | .tup cs,v=> ∃vs:List Value,v= .tuple vs.toArray/\ zbr IT X cs vs
 | .list n cs st,v=> ∃a cap,v= .slice a n cap/\ (n<=cap/\ (a=none->cap=0))/\ (cs=[] \/ ∃b o,a=some ⟨b,o,none⟩/\ At IT X cs b o)/\
  (match st with
   | .none=>True
   | .full=>cap=n
   | .own s=> ∃L,X.lens[s]? =some L/\ cs.length<=L/\ (cs.length=L-> ∃r,X.β[s]? =some r/\ a=some ⟨r.block,0,none⟩/\ cap=r.cap/\ cs.length=n*r.size))
 | .ptr s off,v=> ∃b,X.κ[s]? =some b/\ v= .pointer (some ⟨b,off,none⟩)
 | .bsl s off n sz f,v=>Bsl X s off n sz f v
 | .iptr cs,v=> ∃b o,v= .pointer (some ⟨b,o,none⟩)/\ At IT X cs b o
 | .clos f caps,v=> ∃vs:List Value,v= .func (.func f) #[] vs.toArray/\ zbr IT X caps vs
 | .iter xs,v=>IT.it v xs X
 | .yld l,v=>v= .func (.yield l) #[] #[]
 | .top,_=>True
 | .bad,_=>False
def zbr (IT:IterP)(X:Cx):List AV->List Value->Prop
 |[],vs=>vs=[]
 |a::l,vs=> ∃v r,vs=v::r/\ Rep IT X a v/\ zbr IT X l r
def At (IT:IterP)(X:Cx):List AV->Nat->Nat->Prop
 |[],_,_=>True
 |c::cs,b,o=>(X.F b o/\ ∃v,X.w.cell? ⟨b,o,none⟩=some v/\ v.oneCell'=true/\ Rep IT X c v)/\ At IT X cs b (o+1)
end
def Szs (W W':World):Prop:= ∀(k:Nat) (cs:Array Value) (t:TypeId) (f:Nat×Nat),W.heap[k]? =some (.cells cs t f)-> ∃cs' t' f',W'.heap[k]? =some (.cells cs' t' f')/\ cs'.size=cs.size
theorem Szs.refl (W:World):Szs W W:=fun _ cs t f h=>⟨cs,t,f,h,rfl⟩
theorem Szs.trans {A B C:World} (h:Szs A B)(k:Szs B C):Szs A C:=fun i cs t f e=>by
 obtain⟨c1,t1,f1,e1,s1⟩:=h i cs t f e;obtain⟨c2,t2,f2,e2,s2⟩:=k i c1 t1 f1 e1;exact⟨c2,t2,f2,e2,s2.trans s1⟩
theorem Szs.eq {W:World} (h:W'=W):Szs W W':=h▸Szs.refl _
theorem Szs.heap {W:World} (h:W'.heap=W.heap):Szs W W':=fun k cs t f e=>⟨cs,t,f,by rw[h];exact e,rfl⟩
theorem Szs.old {W:World} (h: ∀k,k<W.heap.size->W'.heap[k]? =W.heap[k]?):Szs W W':=fun k cs t f e=>⟨cs,t,f,(h k (Array.getElem?_eq_some_iff.1 e).1).trans e,rfl⟩
theorem Szs.one {W:World} (b:Nat)(h: ∀k,k<W.heap.size->k≠b->W'.heap[k]? =W.heap[k]?)(hb: ∀cs t f,W.heap[b]? =some (.cells cs t f)-> ∃cs' t' f',W'.heap[b]? =some (.cells cs' t' f')/\ cs'.size=cs.size):Szs W W':=fun k cs t f e=>by
 by_cases hk:k=b
 ·subst hk;exact hb cs t f e
 ·exact⟨cs,t,f,(h k (Array.getElem?_eq_some_iff.1 e).1 hk).trans e,rfl⟩
structure Sub (X X':Cx):Prop where
 F: ∀(b o:Nat),X.F b o->X'.F b o
 cell: ∀(b o:Nat),X.F b o->X'.w.cell? ⟨b,o,none⟩=X.w.cell? ⟨b,o,none⟩
 κ: ∀(s b:Nat),X.κ[s]? =some b->X'.κ[s]? =some b
 lens: ∀(s L:Nat),X.lens[s]? =some L-> ∃L',X'.lens[s]? =some L'/\ L<=L'/\ (L'=L->X'.β[s]? =X.β[s]?)
 blk: ∀(s b:Nat),X.κ[s]? =some b-> ∀(cur:Array Value) (t:TypeId) (f:Nat×Nat),X.w.heap[b]? =some (.cells cur t f)-> ∃cur',X'.w.heap[b]? =some (.cells cur' t f)/\ cur'.size=cur.size
 szs:Szs X.w X'.w
theorem Bsl.sub {X X':Cx} (h:Sub X X') {s off n sz:Nat} {f:Bool} {v:Value} (hr:Bsl X s off n sz f v):Bsl X' s off n sz f v:=by
 obtain⟨b,cap,cur,t,h1,h2,h3,h4,h5,h6⟩:=hr;obtain⟨cur',k1,k2⟩:=h.blk s b h1 cur t _ h5;exact⟨b,cap,cur',t,h.κ s b h1,h2,h3,h4,k1,by omega⟩
theorem Bsl.mono {X Y:Cx} {s off n sz:Nat} {f:Bool} {v:Value} (hκ: ∀b,X.κ[s]? =some b->Y.κ[s]? =some b)(hw:Y.w=X.w)(hr:Bsl X s off n sz f v):Bsl Y s off n sz f v:=by
 obtain⟨b,cap,cur,t,h1,h2,h3,h4,h5,h6⟩:=hr;exact⟨b,cap,cur,t,hκ b h1,h2,h3,h4,by rw[hw];exact h5,h6⟩
structure Ext (X X':Cx):Prop extends Sub X X' where
 os:X'.w.os=X.w.os
 tape:X'.w.tape=X.w.tape
 output:X'.w.output=X.w.output
 size:X.w.heap.size<=X'.w.heap.size
 drawn:drn X.w<=drn X'.w
 frame: ∀(b:Nat),b<X.w.heap.size->b∉X.κ->(∀r∈X.β,r.block≠b)->X'.w.heap[b]? =X.w.heap[b]?
 κnew: ∀b∈X'.κ,b∈X.κ \/X.w.heap.size<=b
 βnew: ∀r∈X'.β,(∃q∈X.β,q.block=r.block) \/X.w.heap.size<=r.block
 O:X'.O=X.O
 C:X'.C=X.C
 Fnew: ∀(b o:Nat),X'.F b o->X.F b o \/X.w.heap.size<=b \/(∃q∈X.β,q.block=b) \/b∈X.κ
theorem Ext.refl (X:Cx):Ext X X where
 os:=rfl
 tape:=rfl
 output:=rfl
 size:=le_refl _
 drawn:=le_refl _
 F:=fun _ _ h=>h
 cell:=fun _ _ _=>rfl
 κ:=fun _ _ h=>h
 lens:=fun s L h=>⟨L,h,le_refl _,fun _=>rfl⟩
 blk:=fun _ _ _ cur _ _ h=>⟨cur,h,rfl⟩
 szs:=Szs.refl _
 frame:=fun _ _ _ _=>rfl
 κnew:=fun _ h=> .inl h
 βnew:=fun r h=> .inl ⟨r,h,rfl⟩
 O:=rfl
 C:=rfl
 Fnew:=fun _ _ h=> .inl h
theorem Ext.trans {X Y Z:Cx} (h:Ext X Y)(k:Ext Y Z):Ext X Z where
 os:=k.os.trans h.os
 tape:=k.tape.trans h.tape
 output:=k.output.trans h.output
 size:=le_trans h.size k.size
 drawn:=le_trans h.drawn k.drawn
 F:=fun b o hf=>k.F b o (h.F b o hf)
 cell:=fun b o hf=>(k.cell b o (h.F b o hf)).trans (h.cell b o hf)
 κ:=fun s b hs=>k.κ s b (h.κ s b hs)
 lens:=fun s L hs=>by
  obtain⟨L1,h1,h2,h3⟩:=h.lens s L hs;obtain⟨L2,k1,k2,k3⟩:=k.lens s L1 h1;exact⟨L2,k1,le_trans h2 k2,fun e=>by
   have e1:L2=L1:=by omega
   have e2:L1=L:=by omega
   rw[k3 e1,h3 e2]⟩
 blk:=fun s b hs cur t f hc=>by
  obtain⟨c1,h1,h2⟩:=h.blk s b hs cur t f hc;obtain⟨c2,k1,k2⟩:=k.blk s b (h.κ s b hs) c1 t f h1;exact⟨c2,k1,k2.trans h2⟩
 szs:=h.szs.trans k.szs
 frame:=fun b hb hκ hβ=>by
  refine(k.frame b (Nat.lt_of_lt_of_le hb h.size) (fun hm=> ?_) (fun r hr e=> ?_)).trans (h.frame b hb hκ hβ)
  ·rcases h.κnew b hm with h1|h1
   ·exact hκ h1
   ·omega
  ·rcases h.βnew r hr with⟨q,hq,e'⟩|h1
   ·exact hβ q hq (e'.trans e)
   ·omega
 κnew:=fun b hb=>by
  rcases k.κnew b hb with h1|h1
  ·exact h.κnew b h1
  ·exact .inr (le_trans h.size h1)
 βnew:=fun r hr=>by
  rcases k.βnew r hr with⟨q,hq,e⟩|h1
  ·rcases h.βnew q hq with⟨p,hp,e'⟩|h2
   ·exact .inl ⟨p,hp,e'.trans e⟩
   ·exact .inr (e▸h2)
  ·exact .inr (le_trans h.size h1)
 O:=k.O.trans h.O
 C:=k.C.trans h.C
 Fnew:=fun b o hf=>by
  rcases k.Fnew b o hf with h1|h1|⟨q,hq,e⟩|h1
  ·exact h.Fnew b o h1
  ·exact .inr (.inl (le_trans h.size h1))
  ·rcases h.βnew q hq with⟨p,hp,e'⟩|h2
   ·exact .inr (.inr (.inl ⟨p,hp,e'.trans e⟩))
   ·exact .inr (.inl (e▸h2))
  ·rcases h.κnew b h1 with h2|h2
   ·exact .inr (.inr (.inr h2))
   ·exact .inr (.inl h2)
def errRows:List (List AV):=[List.replicate 9 .bad]
@[reducible] def AV.err:AV:= .iter errRows
structure ITMono (IT:IterP):Prop where
 it: ∀v xs X X',(∀b o,X.F b o->X'.F b o)->(∀b o,X.F b o->X'.w.cell? ⟨b,o,none⟩=X.w.cell? ⟨b,o,none⟩)->Szs X.w X'.w->IT.it v xs X->IT.it v xs X'
 gv: ∀F F' w w',(∀b o,F b o->F' b o)->(∀b o,F b o->w'.cell? ⟨b,o,none⟩=w.cell? ⟨b,o,none⟩)->Szs w w'->IT.gv F w->IT.gv F' w'
 err: ∀v X,IT.it v errRows X-> ∃t p,v= .iface t p
theorem qab {IT:IterP} (hIT:ITMono IT) {X X':Cx} (h:Sub X X')(g:IT.gv X.F X.w):IT.gv X'.F X'.w:=hIT.gv _ _ _ _ h.F h.cell h.szs g
theorem qdj {IT:IterP} (hIT:ITMono IT) {X X':Cx} (h:Ext X X')(g:IT.gv X.F X.w):IT.gv X'.F X'.w:=qab hIT h.toSub g
mutual
theorem zhq {IT:IterP} (hIT:ITMono IT) {X X':Cx} (h:Sub X X'): ∀(a:AV) (v:Value),Rep IT X a v->Rep IT X' a v
 | .raw u,v,hr=>hr
 | .agg cs,v,⟨vs,e,hr,h1⟩=>⟨vs,e,zby hIT h cs vs hr,h1⟩
 | .tup cs,v,⟨vs,e,hr⟩=>⟨vs,e,zby hIT h cs vs hr⟩
 | .list n cs st,v,⟨a,cap,e,hcap,hc,hs⟩=>by
  refine⟨a,cap,e,hcap,hc.imp id fun⟨b,o,e1,e2⟩=>⟨b,o,e1,z5h hIT h cs b o e2⟩,?_⟩;cases st with
  |none=>trivial
  |full=>exact hs
  | own s=>
   obtain⟨L,h1,h2,h3⟩:=hs;obtain⟨L',k1,k2,k3⟩:=h.lens s L h1;refine⟨L',k1,le_trans h2 k2,fun e'=> ?_⟩;obtain⟨r,r1,r2⟩:=h3 (by omega);exact⟨r,by rw[k3 (by omega)];exact r1,r2⟩
 | .ptr s off,v,⟨b,e1,e2⟩=>⟨b,h.κ s b e1,e2⟩
 | .bsl s off n sz f,v,hr=>hr.sub h
 | .iptr cs,v,⟨b,o,e,hc⟩=>⟨b,o,e,z5h hIT h cs b o hc⟩
 | .clos f caps,v,⟨vs,e,hr⟩=>⟨vs,e,zby hIT h caps vs hr⟩
 | .iter xs,v,h2=>hIT.it _ _ _ _ h.F h.cell h.szs h2
 | .yld l,v,hr=>hr
 | .top,_,hr=>hr
 | .bad,_,hr=>hr
theorem zby {IT:IterP} (hIT:ITMono IT) {X X':Cx} (h:Sub X X'): ∀(l:List AV) (vs:List Value),zbr IT X l vs->zbr IT X' l vs
 |[],_,hr=>hr
 |a::l,vs,⟨v,r,e,h1,h2⟩=>⟨v,r,e,zhq hIT h a v h1,zby hIT h l r h2⟩
theorem z5h {IT:IterP} (hIT:ITMono IT) {X X':Cx} (h:Sub X X'): ∀(cs:List AV) (b o:Nat),At IT X cs b o->At IT X' cs b o
 |[],_,_,_=>trivial
 |c::cs,b,o,⟨⟨hf,v,hv,h1,hr⟩,ht⟩=>⟨⟨h.F b o hf,v,(h.cell b o hf).trans hv,h1,zhq hIT h c v hr⟩,z5h hIT h cs b (o+1) ht⟩
end
theorem zes {IT:IterP} (hIT:ITMono IT) {X X':Cx} (h:Ext X X')(a:AV)(v:Value):Rep IT X a v->Rep IT X' a v:=zhq hIT h.toSub a v
theorem zaw {IT:IterP} (hIT:ITMono IT) {X X':Cx} (h:Ext X X')(l:List AV)(vs:List Value):zbr IT X l vs->zbr IT X' l vs:=zby hIT h.toSub l vs
theorem z1t {IT:IterP} (hIT:ITMono IT) {X X':Cx} (h:Ext X X')(cs:List AV)(b o:Nat):At IT X cs b o->At IT X' cs b o:=z5h hIT h.toSub cs b o
variable {P:Program} {IT:IterP} {X:Cx} {o:Nat}
structure St where
 boxes:List (TypeId×List AV)
 lens:List Nat
 elems:List TypeId
 out:Nat:=0
 stop:Bool:=false
 deriving Inhabited
structure Inv (IT:IterP)(U:St)(X:Cx):Prop where
 lens:X.lens=U.lens
 elems:X.β.map (·.elem)=U.elems
 κlen:X.κ.length=U.boxes.length
 κnd: ∀(s s' b:Nat),X.κ[s]? =some b->X.κ[s']? =some b->s≠s'->(∃t,U.boxes[s]? =some (t,[])) \/(∃t,U.boxes[s']? =some (t,[]))
 box: ∀(s b:Nat) (t:TypeId) (cs:List AV),X.κ[s]? =some b->U.boxes[s]? =some (t,cs)->
  ∃vs zs:List Value,X.w.heap[b]? =some (.cells (vs++zs).toArray t (0,0))/\ zbr IT X cs vs/\ ∀v∈vs,v.oneCell'=true
 κF: ∀(s b:Nat) (t:TypeId) (cs:List AV),X.κ[s]? =some b->U.boxes[s]? =some (t,cs)->cs≠[]-> ∀o,¬X.F b o
 βlen:X.β.length=X.lens.length
 βnd:(X.β.map (·.block)).Nodup
 βκ: ∀r∈X.β,r.block∉X.κ
 row: ∀(s:Nat) (r:Row) (L:Nat),X.β[s]? =some r->X.lens[s]? =some L-> ∃cur fz,X.w.heap[r.block]? =some (.cells cur r.elem fz)/\ cur.size=r.cap*r.size/\ r.cap<=maxLen/\ 0<r.size/\ L<=cur.size/\
  (∀o,X.F r.block o->o<L)/\ fz.2<=L
 Ok: ∀(b:Nat),X.O b->(∃cs t f,X.w.heap[b]? =some (.cells cs t f))/\ b∉X.κ/\ (∀r∈X.β,r.block≠b)/\ ∀o,X.F b o->X.C b o
 Fcell: ∀(b o:Nat),X.F b o-> ∃v,X.w.cell? ⟨b,o,none⟩=some v
 gv:IT.gv X.F X.w:=by first|exact qdj (by assumption) (by assumption) (Inv.gv (by assumption))|exact Inv.gv (by assumption)
def val? (P:Program) {α:Type}:Sem α->Option α
 | .pure a=>some a
 | .program k=>val? P (k P)
 | .mark _ k=>val? P k
 |_=>none
theorem val?_run {α:Type}: ∀(s:Sem α) (a:α),val? P s=some a-> ∀w,s.run P w= .ok a w:=by
 intro s;induction s with
 |pure b=>intro a h w;simp[val?] at h;subst h;rfl
 |program k ih=>intro a h w;exact ih P a h w
 |mark m k ih=>intro a h w;exact ih a h w
 |_=>intro a h;cases h
theorem val?_bind {α β:Type} (s:Sem α)(f:α->Sem β):val? P (s.bind f)=(val? P s).bind fun a=>val? P (f a):=by
 induction s with
 |pure a=>rfl
 |program k ih=>exact ih P
 |mark m k ih=>exact ih
 |_=>rfl
def zit:Value->AV
 | .slice none 0 0=> .list 0 [] .full
 |v=> .raw v
def zje:Value->AV
 | .agg cs=> .agg (cs.toList.map zit)
 |v=>zit v
def zjp:AV->Option Value
 | .raw v=>some v
 |_=>none
def zea:List AV->Option (List Value)
 |[]=>some []
 |a::l=>match zjp a,zea l with|some v,some r=>some (v::r)|_,_=>none
def zdv:AV->Option Value
 | .raw v=>some v
 | .agg cs=>(zea cs).map fun vs=> .agg vs.toArray
 |_=>none
def zcg:AV->List AV
 | .agg cs=>cs
 |a=>[a]
def rd (P:Program)(t:TypeId)(cs:List AV):Option AV:=
 match P.underlying t,P.info? t with
 |some (.struct _),some i|some (.array _ _),some i=>if i.size<=cs.length then some (.agg (cs.take i.size)) else none
 |some _,some _=>cs.head?
 |_,_=>none
theorem zq: ∀ {l:List AV} {vs:List Value},zbr IT X l vs->l.length=vs.length
 |[],vs,h=>by rw[zbr] at h;rw[h];rfl
 | a::l,vs,h=>by
  rw[zbr] at h;obtain⟨v,r,e,_,h⟩:=h;rw[e,List.length_cons,List.length_cons,zq h]
theorem zek: ∀ {l:List AV} {vs:List Value},zbr IT X l vs-> ∀(i:Nat) a,l[i]? =some a-> ∃v,vs[i]? =some v/\ Rep IT X a v
 |[],vs,h,i,a,e=>by simp at e
 | b::l,vs,h,i,a,e=>by
  rw[zbr] at h;obtain⟨v,r,rfl,h1,h2⟩:=h;cases i with
  |zero=>simp at e;subst e;exact⟨v,rfl,h1⟩
  |succ i=>simp at e;simpa using zek h2 i a e
theorem zfc: ∀ {l:List AV} {vs:List Value},l.length=vs.length->(∀(i:Nat) a v,l[i]? =some a->vs[i]? =some v->Rep IT X a v)->zbr IT X l vs
 |[],vs,h,_=>by rw[zbr];exact List.length_eq_zero_iff.1 h.symm
 |b::l,[],h,_=>by simp at h
 | b::l,v::vs,h,k=>by
  rw[zbr];exact⟨v,vs,rfl,k 0 b v rfl rfl,zfc (by simpa using h) fun i a u h1 h2=>k (i+1) a u (by simpa using h1) (by simpa using h2)⟩
theorem zbp {l m:List AV} {vs us:List Value} (h:zbr IT X l vs)(k:zbr IT X m us):zbr IT X (l++m) (vs++us):=by
 have hl:=zq h;refine zfc (by simp[hl,zq k]) fun i a v h1 h2=> ?_;rcases lt_or_ge i l.length with hi|hi
 ·rw[List.getElem?_append_left hi] at h1;rw[List.getElem?_append_left (by omega)] at h2;obtain⟨v',e,hr⟩:=zek h i a h1;rw[h2] at e;cases e;exact hr
 ·rw[List.getElem?_append_right hi] at h1;rw[List.getElem?_append_right (by omega)] at h2;rw[hl] at h1;obtain⟨v',e,hr⟩:=zek k _ a h1;rw[h2] at e;cases e;exact hr
theorem zgv {l:List AV} {vs:List Value} (h:zbr IT X l vs)(n:Nat):zbr IT X (l.drop n) (vs.drop n):=by
 refine zfc (by simp[zq h]) fun i a v h1 h2=> ?_;rw[List.getElem?_drop] at h1 h2;obtain⟨v',e,hr⟩:=zek h _ a h1;rw[h2] at e;cases e;exact hr
theorem zef {l:List AV} {vs:List Value} (h:zbr IT X l vs)(n:Nat):zbr IT X (l.take n) (vs.take n):=by
 refine zfc (by simp[zq h]) fun i a v h1 h2=> ?_;rw[List.getElem?_take] at h1 h2;split at h1
 ·rename_i hi;rw[if_pos hi] at h2;obtain⟨v',e,hr⟩:=zek h _ a h1;rw[h2] at e;cases e;exact hr
 ·cases h1
theorem zjj (v:Value):Rep IT X (zit v) v:=by
 unfold zit;split
 ·rw[Rep];exact⟨none,0,rfl,⟨le_refl _,fun _=>rfl⟩,.inl rfl,rfl⟩
 ·rw[Rep]
def zou:Value->Bool
 | .agg cs=>cs.toList.all (·.oneCell')
 |_=>true
theorem zhy (v:Value)(h:zou v=true):Rep IT X (zje v) v:=by
 unfold zje;split
 ·rename_i cs;rw[Rep];refine⟨cs.toList,by simp,zfc (by simp) fun i a v h1 h2=> ?_,fun u hu=>by simpa using all_eq_true.1 h u hu⟩;rw[List.getElem?_map,h2] at h1;simp at h1;subst h1;exact zjj v
 ·exact zjj _
theorem zqk: ∀ {l:List AV} {us vs:List Value},zea l=some us->zbr IT X l vs->vs=us
 |[],us,vs,h,k=>by rw[zbr] at k;simp[zea] at h;rw[k,h]
 | a ::l,us,vs,h,k=>by
  rw[zbr] at k;obtain⟨v,r,rfl,h1,h2⟩:=k;cases a with
  | raw u=>
   simp only[zea,zjp] at h;cases hr:zea l with
   |none=>rw[hr] at h;cases h
   | some us'=>
    rw[hr] at h;simp at h;rw[Rep] at h1;rw[<-h,h1,zqk hr h2]
  |_=>simp[zea,zjp] at h
theorem z1b {a:AV} {u v:Value} (h:zdv a=some u)(k:Rep IT X a v):v=u:=by
 cases a with
 |raw w=>simp[zdv] at h;rw[Rep] at k;rw[k,h]
 | agg cs=>
  simp only[zdv,Option.map_eq_some_iff] at h;obtain⟨us,h1,rfl⟩:=h;rw[Rep] at k;obtain⟨vs,rfl,k2,_⟩:=k;rw[zqk h1 k2]
 |_=>simp[zdv] at h
def z6r (IT:IterP)(X:Cx)(cs:List AV)(b o:Nat):Prop:=
 ∃vs:List Value,zbr IT X cs vs/\ (∀v∈vs,v.oneCell'=true)/\ ∀(j:Nat) v,vs[j]? =some v->X.w.cell? ⟨b,o+j,none⟩=some v
theorem zga: ∀ {cs:List AV} {b o:Nat},At IT X cs b o->z6r IT X cs b o
 |[],b,o,_=>⟨[],by rw[zbr],by simp,by simp⟩
 | c ::cs,b,o,h=>by
  rw[At] at h;obtain⟨⟨hf,v,hv,h1,hr⟩,ht⟩:=h;obtain⟨vs,k1,k2,k3⟩:=zga ht;refine⟨v::vs,by rw[zbr];exact⟨v,vs,rfl,hr,k1⟩,fun u hu=> ?_,fun j u hj=> ?_⟩
  ·rcases List.mem_cons.1 hu with rfl|hu
   ·exact h1
   ·exact k2 u hu
  ·cases j with
   |zero=>simp at hj;subst hj;exact hv
   | succ j=>
    have:=k3 j u (by simpa using hj);rw[show o+(j+1)=o+1+j by omega];exact this
theorem zwl: ∀ {cs:List AV} {b o:Nat} (n:Nat),At IT X cs b o->At IT X (cs.drop n) b (o+n)
 |cs,b,o,0,h=>by simpa using h
 |[],b,o,n+1,_=>by simp[At]
 | c::cs,b,o,n+1,h=>by
  rw[At] at h;have:=zwl n h.2;rw[List.drop_succ_cons,show o+(n+1)=o+1+n by omega];exact this
theorem zws: ∀ {cs:List AV} {b o:Nat} (n:Nat),At IT X cs b o->At IT X (cs.take n) b o
 |cs,b,o,0,h=>by simp[At]
 |[],b,o,n+1,_=>by simp[At]
 | c::cs,b,o,n+1,h=>by
  rw[At] at h;rw[List.take_succ_cons,At];exact⟨h.1,zws n h.2⟩
theorem z6x {cs:List AV} {b:Nat} (h:z6r IT X cs b o)(n:Nat):z6r IT X (cs.drop n) b (o+n):=by
 obtain⟨vs,k1,k2,k3⟩:=h;refine⟨vs.drop n,zgv k1 n,fun v hv=>k2 v (List.mem_of_mem_drop hv),fun j v hj=> ?_⟩;rw[List.getElem?_drop] at hj;rw[Nat.add_assoc];exact k3 _ v hj
theorem zjg {t:TypeId} {d:TypeDesc} (h:P.underlying t=some d)(w:World):(isAgg t).run P w= .ok (match d with| .struct _| .array _ _=>true|_=>false) w:=by
 unfold isAgg underlying;cases d<;>simp[program,Sem.run,h]
theorem zjc {t:TypeId} {i:TypeInfo} (h:P.info? t=some i)(w:World):(sizeOf t).run P w= .ok i.size w:=by
 unfold sizeOf typeInfo;simp[program,Sem.run,h]
theorem zuv {t:TypeId} {cs:List AV} {a:AV} {b:Nat} (h:rd P t cs=some a)(hc:z6r IT X cs b o):
 ∃v,(loadVar t ⟨b,o,none⟩).run P X.w= .ok v X.w/\ Rep IT X a v:=by
 obtain⟨vs,k1,k2,k3⟩:=hc;have hadd: ∀j,(⟨b,o,none⟩:Addr).add j=⟨b,o+j,none⟩:=fun j=>by unfold Addr.add;split<;>simp_all
 unfold rd at h;cases hu:P.underlying t with
 |none=>rw[hu] at h;cases P.info? t<;>simp at h
 | some d=>
  cases hi:P.info? t with
  |none=>rw[hu,hi] at h;cases d<;>simp at h
  | some i=>
   rw[hu,hi] at h;have agg:(if i.size<=cs.length then some (AV.agg (cs.take i.size)) else none)=some a->((loadCells ⟨b,o,none⟩ i.size).run P X.w= .ok (vs.take i.size).toArray X.w)/\ Rep IT X a (.agg (vs.take i.size).toArray):=by
    intro h;split at h
    ·rename_i hle;simp at h;subst h;have hl:=zq k1;have hlen:(vs.take i.size).length=i.size:=by simp;omega
     refine⟨?_,?_⟩
     ·have:=run_loadCells_list (P:=P) X.w ⟨b,o,none⟩ (vs.take i.size) (fun j v hj=>by
       rw[hadd];rw[List.getElem?_take] at hj;split at hj
       ·exact k3 j v hj
       ·cases hj)
      rw[hlen] at this;exact this
     ·rw[Rep];exact⟨_,rfl,zef k1 _,fun u hu=>k2 u (List.mem_of_mem_take hu)⟩
    ·cases h
   have one:cs.head? =some a-> ∃v,(load ⟨b,o,none⟩).run P X.w= .ok v X.w/\ Rep IT X a v:=by
    intro h;have h0:cs[0]? =some a:=by rw[<-List.head?_eq_getElem?];exact h
    obtain⟨v,hv,hr⟩:=zek k1 0 a h0;have:=k3 0 v hv;refine⟨v,?_,hr⟩;simp only[Nat.add_zero] at this;simp[load,Sem.run,this]
   unfold loadVar;cases d with
   | struct fs=>
    obtain⟨h1,h2⟩:=agg h;exact⟨_,by simp[zjg hu,zjc hi,h1],h2⟩
   | array n e=>
    obtain⟨h1,h2⟩:=agg h;exact⟨_,by simp[zjg hu,zjc hi,h1],h2⟩
   | _=>
    obtain⟨v,h1,h2⟩:=one h;exact⟨v,by simp only[Sem.run_bind,zjg hu,Result.andThen_ok,Bool.false_eq_true,if_false,h1],h2⟩
variable {IT:IterP} {X:Cx} {U:St} {P:Program} {n:Nat} {j:Value}
def Res (IT:IterP)(X:Cx)(U':St)(a:AV)(r:Result Next):Prop:=
 ∃v X',(r= .ok (.value v) X'.w \/(r= .ok .skip X'.w/\ v=undef))/\ Ext X X'/\ Inv IT U' X'/\ Rep IT X' a v
def zce (ρ:Operand->AV)(x:Operand):Value:=(zdv (ρ x)).getD undef
def zfs (P:Program)(ρ:Operand->AV)(o:Oper):Option AV:=
 if o.op.operands.toList.all (fun x=>(zdv (ρ x)).isSome) then
  match o.op with
  | .select _ _=>none
  | _=>match val? P (execOp (zce ρ) o) with
   |some (.value v)=>if zou v then some (zje v) else none
   |_=>none
 else none
theorem zfj (b o n:Nat):(⟨b,o,none⟩:Addr).add n=⟨b,o+n,none⟩:=by unfold Addr.add;split<;>simp_all
def zlg (P:Program)(U:St)(t:TypeId):AV->Option AV
 | .iptr cs=>rd P t cs
 | .ptr s off=>match U.boxes[s]? with|some bx=>rd P t (bx.2.drop off)|none=>none
 |_=>none
theorem znv (hI:Inv IT U X) {s b:Nat} {bx:TypeId×List AV} (hs:X.κ[s]? =some b)(hb:U.boxes[s]? =some bx)(off:Nat):z6r IT X (bx.2.drop off) b off:=by
 obtain⟨vs,zs,h1,h2,h3⟩:=hI.box s b bx.1 bx.2 hs hb;have:z6r IT X bx.2 b 0:=⟨vs,h2,h3,fun j v hj=>by
  rw[Nat.zero_add,cell_of_row _ _ _ _ _ _ h1];have:=(List.getElem?_eq_some_iff.1 hj).1;rw[List.getElem?_toArray,List.getElem?_append_left this];exact hj⟩
 have:=z6x this off;rwa[Nat.zero_add] at this
theorem zrt {t:TypeId} {x a:AV} {u:Value} (h:zlg P U t x=some a)(hx:Rep IT X x u)(hI:Inv IT U X):
 ∃v,(Instr.loadAt t u).run P X.w= .ok v X.w/\ Rep IT X a v:=by
 cases x with
 | iptr cs=>
  rw[Rep] at hx;obtain⟨b,o,rfl,hat⟩:=hx;obtain⟨v,h1,h2⟩:=zuv (b:=b) (o:=o) h (zga hat);exact⟨v,by simp[Instr.loadAt,Instr.sureAddr,h1],h2⟩
 | ptr s off=>
  rw[Rep] at hx;obtain⟨b,hb,rfl⟩:=hx;simp only[zlg] at h;cases hs:U.boxes[s]? with
  |none=>rw[hs] at h;cases h
  | some bx=>
   rw[hs] at h;obtain⟨v,h1,h2⟩:=zuv (b:=b) (o:=off) h (znv hI hb hs off);exact⟨v,by simp[Instr.loadAt,Instr.sureAddr,h1],h2⟩
 |_=>cases h
def z7t (n:Nat):AV->Option AV
 | .ptr s off=>some (.ptr s (off+n))
 | .iptr cs=>some (.iptr (cs.drop n))
 |_=>none
theorem zsk {x a:AV} {u:Value} (h:z7t n x=some a)(hx:Rep IT X x u): ∃ad,u= .pointer (some ad)/\ Rep IT X a (.pointer (some (ad.add n))):=by
 cases x with
 | iptr cs=>
  rw[Rep] at hx;obtain⟨b,o,rfl,hat⟩:=hx;simp[z7t] at h;subst h;refine⟨_,rfl,?_⟩;rw[Rep];exact⟨b,o+n,by rw[zfj],zwl n hat⟩
 | ptr s off=>
  rw[Rep] at hx;obtain⟨b,hb,rfl⟩:=hx;simp[z7t] at h;subst h;refine⟨_,rfl,?_⟩;rw[Rep];exact⟨b,hb,by rw[zfj]⟩
 |_=>cases h
def zdm (P:Program)(t:TypeId):Option Nat:=(P.info? t).map (·.size)
theorem zed {t:TypeId} (h:zdm P t=some n)(w:World):(sizeOf t).run P w= .ok n w:=by
 unfold zdm at h;cases hi:P.info? t with
 |none=>simp[hi] at h
 |some i=>simp[hi] at h;rw[zjc hi,h]
def zow (P:Program)(t:TypeId)(f:Nat)(x:AV):Option AV:=
 match P.underlying t with
 | some (.struct fs)=>match fs[f]? with
  | some fd=>match zdm P fd.type with
   |some n=>if n=0 then none else z7t fd.offset x
   |none=>none
  |none=>none
 |_=>none
theorem zrb {t:TypeId} {f:Nat} {x a:AV} {u:Value} (h:zow P t f x=some a)(hx:Rep IT X x u):
 ∃v,(Instr.fieldAt t u f).run P X.w= .ok v X.w/\ Rep IT X a v:=by
 unfold zow at h;split at h<;>try cases h
 rename_i fs hu;split at h<;>try cases h
 rename_i fd hf;split at h<;>try cases h
 rename_i n hn;split at h
 ·cases h
 rename_i h0;obtain⟨ad,rfl,hr⟩:=zsk h hx;refine⟨_,?_,hr⟩;simp[Instr.fieldAt,underlying,program,Sem.run,hu,hf,Instr.sureAddr,fieldPlace,zed hn,h0]
def zhn (P:Program)(t:TypeId)(x i:AV):Option AV:=
 match i with
 | .raw (.int k n)=>match P.underlying t with
  | some (.array len e)=>match zdm P e with
   |some sz=>if 0<=n/\ n<len then z7t (n.toNat*sz) x else none
   |none=>none
  | some (.slice e)=>match zdm P e,x with
   |some sz,.list len cs _=>if 0<=n/\ n<len/\ cs≠[] then some (.iptr (cs.drop (n.toNat*sz))) else none
   |some sz,.bsl s off len _ _=>if 0<=n/\ n<len then some (.ptr s (off+n.toNat*sz)) else none
   |_,_=>none
  |_=>none
 |_=>none
theorem zqy {t:TypeId} {x i a:AV} {u:Value} (h:zhn P t x i=some a)(hx:Rep IT X x u)(hi:Rep IT X i j):
 ∃v,(Instr.indexAt t u j).run P X.w= .ok v X.w/\ Rep IT X a v:=by
 unfold zhn at h;split at h<;>try cases h
 rename_i k n;rw[Rep] at hi;subst hi;split at h<;>try cases h
 ·rename_i len e hu;split at h<;>try cases h
  rename_i sz hn;split at h
  ·rename_i hb;obtain⟨ad,rfl,hr⟩:=zsk h hx;refine⟨_,?_,hr⟩;simp[Instr.indexAt,asIntOf,underlying,program,Sem.run,hu,Instr.sureAddr,zed hn,hb]
  ·cases h
 ·rename_i e hu;split at h<;>try cases h
  ·rename_i sz len cs st hn;split at h
   ·rename_i hb;cases h;rw[Rep] at hx;obtain⟨ad,cap,rfl,_,hc,_⟩:=hx;rcases hc with hc|⟨b,o,rfl,hat⟩
    ·exact absurd hc hb.2.2
    ·refine⟨.pointer (some ((⟨b,o,none⟩:Addr).add (n.toNat*sz))),?_,?_⟩
     ·simp[Instr.indexAt,asIntOf,underlying,program,Sem.run,hu,zed hn,hb.1,hb.2.1]
     ·rw[Rep];exact⟨b,o+n.toNat*sz,by rw[zfj],zwl _ hat⟩
   ·cases h
  ·rename_i sz s off len sz' f hn;split at h
   ·rename_i hb;cases h;rw[Rep] at hx;obtain⟨b,cap,cur,t0,hk,rfl,_⟩:=hx;refine⟨.pointer (some ((⟨b,off,none⟩:Addr).add (n.toNat*sz))),?_,?_⟩
    ·simp[Instr.indexAt,asIntOf,underlying,program,Sem.run,hu,zed hn,hb.1,hb.2]
    ·rw[Rep];exact⟨b,hk,by rw[zfj]⟩
   ·cases h
def qfn (P:Program)(t:TypeId)(cs:List AV)(off:Nat):Option AV:=rd P t (cs.drop off)
theorem zuq {t:TypeId} {cs:List AV} {off:Nat} {a:AV} {vs:List Value} (h:qfn P t cs off=some a)(hr:zbr IT X cs vs)(h1: ∀v∈vs,v.oneCell'=true):
 ∃v,(part t vs.toArray off).run P X.w= .ok v X.w/\ Rep IT X a v:=by
 unfold qfn rd at h;have hd:=zgv hr off;cases hu:P.underlying t with
 |none=>rw[hu] at h;cases P.info? t<;>simp at h
 | some d=>
  cases hi:P.info? t with
  |none=>rw[hu,hi] at h;cases d<;>simp at h
  | some i=>
   rw[hu,hi] at h;have agg:(if i.size<=(cs.drop off).length then some (AV.agg ((cs.drop off).take i.size)) else none)=some a->Rep IT X a (.agg (vs.toArray.extract off (off+i.size))):=by
    intro h;split at h
    ·cases h;rw[Rep];refine⟨(vs.drop off).take i.size,?_,zef hd _,fun u hu=>h1 u (List.mem_of_mem_drop (List.mem_of_mem_take hu))⟩;congr 1
     apply Array.ext';simp[List.extract_eq_take_drop]
    ·cases h
   unfold part;cases d with
   |struct fs=>exact⟨_,by simp[zjg hu,zjc hi],agg h⟩
   |array n e=>exact⟨_,by simp[zjg hu,zjc hi],agg h⟩
   | _=>
    simp only[List.head?_drop] at h;obtain⟨v,hv,hr'⟩:=zek hr off a h;refine⟨v,?_,hr'⟩;have:vs.toArray[off]? =some v:=by simpa using hv
    simp only[Sem.run_bind,zjg hu,Result.andThen_ok,Bool.false_eq_true,if_false,this,Sem.run_pure]
def qbq (P:Program)(t:TypeId)(f:Nat):AV->Option AV
 | .agg cs=>match P.underlying t with
  | some (.struct fs)=>match fs[f]? with
   |some fd=>qfn P fd.type cs fd.offset
   |none=>none
  |_=>none
 |_=>none
theorem z0d {t:TypeId} {f:Nat} {x a:AV} {u:Value} (h:qbq P t f x=some a)(hx:Rep IT X x u):
 ∃v,(Instr.field t u f).run P X.w= .ok v X.w/\ Rep IT X a v:=by
 cases x with
 | agg cs=>
  rw[Rep] at hx;obtain⟨vs,rfl,hr,h1⟩:=hx;simp only[qbq] at h;split at h<;>try cases h
  rename_i fs hu;split at h<;>try cases h
  rename_i fd hf;obtain⟨v,k1,k2⟩:=zuq h hr h1;exact⟨v,by simp[Instr.field,underlying,program,Sem.run,hu,hf,asAgg,k1],k2⟩
 |_=>cases h
def qbu (P:Program)(t:TypeId)(x i:AV):Option AV:=
 match i,x with
 | .raw (.int k n),.agg cs=>match P.underlying t with
  | some (.array len e)=>match zdm P e with
   |some sz=>if 0<=n/\ n<len then qfn P e cs (n.toNat*sz) else none
   |none=>none
  |_=>none
 |_,_=>none
theorem zxx {t:TypeId} {x i a:AV} {u:Value} (h:qbu P t x i=some a)(hx:Rep IT X x u)(hi:Rep IT X i j):
 ∃v,(Instr.index t u j).run P X.w= .ok v X.w/\ Rep IT X a v:=by
 unfold qbu at h;split at h<;>try cases h
 rename_i k n cs;rw[Rep] at hi;subst hi;rw[Rep] at hx;obtain⟨vs,rfl,hr,h1⟩:=hx;split at h<;>try cases h
 rename_i len e hu;split at h<;>try cases h
 rename_i sz hn;split at h
 ·rename_i hb;obtain⟨v,k1,k2⟩:=zuq h hr h1;exact⟨v,by simp[Instr.index,asIntOf,underlying,program,Sem.run,hu,zed hn,hb,k1],k2⟩
 ·cases h
end Go.Ab
