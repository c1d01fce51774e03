import Derived.RangeFuncNested
import Derived.RangeFuncLeaves
import Derived.StillTail
import Derived.Below
import Derived.Maps.AppendAt
import Derived.OwnWalkIn
import Derived.Shelf.Abstract
import Derived.Laws.BytesArg
import Derived.Laws.CopyRow
import Derived.OrdersIn
import Derived.Great.BuildSlice
import Derived.Lib.FrozenHead2
set_option linter.all false
open Bool (and_eq_true)
open Nat (le_refl le_trans zero_add lt_or_ge)
open List (length_cons length_append mem_of_getElem? getElem?_eq_getElem getElem?_append_left mem_append all_eq_true mem_cons getElem?_set_ne getElem?_set_self getElem?_take mem_range mem_of_mem_take getElem?_map mem_map)
namespace Go.Fwd
open Go Go.RowKit
variable {c w' W':World} {B' j n:Nat}
abbrev drn (w:World):Nat:=w.drawn
structure Ex (B:Nat)(w w':World):Prop extends Below B w w' where
 drawn:drn w<=drn w'
theorem Ex.refl (B:Nat)(w:World):Ex B w w:=⟨Below.refl B w,le_refl _⟩
theorem Ex.trans {B:Nat} {a b:World} (h:Ex B a b)(k:Ex B b c):Ex B a c:=⟨h.toBelow.trans k.toBelow,le_trans h.drawn k.drawn⟩
theorem Ex.mono {B:Nat} {w:World} (h:Ex B w w')(hB:B'<=B):Ex B' w w':=⟨h.toBelow.mono hB,h.drawn⟩
theorem Ex.drew {B:Nat} {a w:World} (h:Ex B a w):Ex B a w.drew:=⟨h.toBelow.drew,le_trans h.drawn (Nat.le_succ _)⟩
theorem Ex.alloc {B:Nat} {a w:World} (h:Ex B a w)(hB:B<=w.heap.size)(o:Obj):Ex B a (w.alloc o):=⟨h.toBelow.alloc hB o,h.drawn⟩
theorem Ex.setRow {B:Nat} {a w:World} (h:Ex B a w) {g:Nat} (hg:B<=g)(cs:Array Value):Ex B a (w.setRow g cs):=by
 refine⟨h.toBelow.trans ⟨rfl,rfl,rfl,by simp,fun k hk=> ?_⟩,h.drawn⟩;simp only[World.setRow,Array.getElem?_modify];rw[if_neg (by omega)]
structure Turn (B:Nat)(W W':World):Prop where
 os:W'.os=W.os
 tape:W'.tape=W.tape
 output:W'.output=W.output
 size:W.heap.size<=W'.heap.size
 drawn:drn W<=drn W'
 same: ∀(k:Nat) (o:Obj),W.heap[k]? =some o->k<B \/o.isCells=true->W'.heap[k]? =some o
theorem Turn.of_ex {W:World} (B:Nat)(h:Ex W.heap.size W W'):Turn B W W':=
 ⟨h.os,h.tape,h.output,h.size,h.drawn,fun k o hk _=>(h.block k (Array.getElem?_eq_some_iff.1 hk).1).trans hk⟩
theorem Turn.putObj {B:Nat} {W:World} {l:Nat} {o:Obj} (o':Obj)(hB:B<=l)(hl:W.heap[l]? =some o)(ho:o.isCells=false):Turn B W (W.putObj l o'):=
 ⟨rfl,rfl,rfl,by simp,le_refl _,fun k o2 hk h2=>by
  refine(World.putObj_heap_other fun e=> ?_).trans hk;subst e;rcases h2 with h2|h2
  ·omega
  ·rw[hl] at hk;cases hk;rw[ho] at h2;cases h2⟩
theorem Turn.alloc (B:Nat)(W:World)(o:Obj):Turn B W (W.alloc o):=Turn.of_ex B ((Ex.refl _ _).alloc (le_refl _) o)
theorem Turn.ex {B:Nat} {W:World} (h:Turn B W W')(hB:B<=W.heap.size):Ex B W W':=
 ⟨⟨h.os,h.tape,h.output,h.size,fun k hk=>by
  have hlt:k<W.heap.size:=by omega
  rw[h.same k _ (Array.getElem?_eq_getElem hlt) (.inl hk),Array.getElem?_eq_getElem hlt]⟩,h.drawn⟩
def Stable {β:Type} (B:Nat)(J:β->World->Prop):Prop:= ∀s W W',J s W->Turn B W W'->J s W'
theorem Stable.and {β:Type} {B:Nat} {I I':β->World->Prop} (h:Stable B I)(h':Stable B I'):Stable B (fun s W=>I s W/\ I' s W):=fun s W W' hs ht=>⟨h s W W' hs.1 ht,h' s W W' hs.2 ht⟩
section
variable {P:Program} {α:Type}
def Yields (P:Program)(l:Nat)(args:Array Value)(W:World)(R:Ending->World->Prop):Prop:= ∀m,YieldAt Fence.wide m P l args W R
theorem Yields.mono {l:Nat} {args:Array Value} {W:World} {R R':Ending->World->Prop} (h:Yields P l args W R)(hr: ∀e w,R e w->R' e w):Yields P l args W R':=fun m=>by
 obtain⟨fn,tmps,assign,body,hy,hR⟩:=h m;exact⟨fn,tmps,assign,body,hy,hR.mono hr⟩
def qhj (B:Nat)(Kp:World->World->Prop)(I:List α->World->Prop)(Ix:Code->List α->World->Prop)(xs:List α)(W:World):Exit->Act->World->Prop
 | .normal,_,W'=>KeepsFrom B W W'/\ Kp W W'/\ I xs W'
 | .ret,_,W'=>KeepsFrom B W W'/\ Ix .ret xs W'
 | .exit id,_,W'=>KeepsFrom B W W'/\ Ix (.exit id) xs W'
 | .goto t,_,W'=>KeepsFrom B W W'/\ Ix (.goto t) xs W'
 |_,_,_=>False
theorem zob {B:Nat} {W:World} (h:KeepsFrom B W W')(hB:B<=B'):KeepsFrom B' W W':=⟨h.size,fun k o hk h1 h2=>h.same k o (by omega) h1 h2⟩
theorem zlp {B l:Nat} (W:World)(o:Obj)(h:l<B):KeepsFrom B W (W.putObj l o):=⟨by simp,fun k o' hk h1 _=>(World.putObj_heap_other (by omega)).trans h1⟩
theorem qgn {F:Fence} (hF: ∀f,F.fn f) {m B l d:Nat} {fn:FuncId} {tmps:Array Value} {ps:Array Tmp} {assign body:Code} (rec:LoopState->Option Code->Loop)
 (hrec:rec=fun st pe=>{state:=st,pending:=pe,fn,tmps,params:=ps,assign,body,defers:=d}) (hBl:B<=l)
 {encs:α->Array Value} {Kp:World->World->Prop} (hps: ∀x,(encs x).size=ps.size)
 (hKt: ∀A B C:World,Kp A B->Kp B C->Kp A C) (hKT: ∀W W':World,Turn B W W'->B<=W.heap.size->Kp W W')
 {I:List α->World->Prop} {Ix:Code->List α->World->Prop} {A:α->Act->World->Prop} (hI:Stable B I) (hIx: ∀c,Stable B (Ix c)) (hA: ∀x a',Stable B (fun(_:Unit) W=>A x a' W))
 {pre:List α} {x:α} {W:World} (hl:W.heap[l]? =some (.loop (rec .ready none)))
 (hassign: ∀K:Act->World->Prop,(∀a' W',KeepsFrom B W W'->Kp W W'->I pre W'->A x a' W'->K a' W')->assign.wpIn (F.inRound l) m P (Exit.then K (fun _ _ _=>False)) {tmps:=(ps.zip (encs x)).foldl (fun t (p,v)=>t.setIfInBounds p v) tmps,defers:=[]} W)
 (hbody: ∀a' W',(∃r,W'.heap[l]? =some (.loop r)/\ r.defers=d)->I pre W'->A x a' W'->body.wpIn (F.inRound l) m P (qhj B Kp I Ix (pre++[x]) W') a' W'):
 YieldAt F m P l (encs x) W fun e W'=>KeepsFrom (l+1) W W'/\ (∀k o,B<=k->k≠l->W.heap[k]? =some o->o.isCells=false->W'.heap[k]? =some o)/\
  ((e= .returned (.bool true)/\ (I (pre++[x]) W'/\ W'.heap[l]? =some (.loop (rec .ready none)))/\ Kp W W') \/
   (e= .returned (.bool false)/\ ∃c,Ix c (pre++[x]) W'/\ W'.heap[l]? =some (.loop (rec .done (some c))))):=by
 have hy:=run_yield (P:=P) (args:=encs x) hl (by rw[hrec];exact hps x);rw[hrec] at hy;refine⟨fn,_,assign,body,hy,roundIn_of_wpIn (hF fn) (hassign _ ?_)⟩;intro a' Wa hk1 hkp1 hi1 ha1;have hla:=hk1.same _ _ hBl hl rfl;have hlt:l<Wa.heap.size:=(Array.getElem?_eq_some_iff.1 hla).1;refine⟨_,run_beginRound hla (by rw[hrec]),?_⟩;have hT1:=Turn.putObj (B:=B) (.loop {rec .ready none with state:= .busy}) hBl hla rfl;have hlb:(Wa.putObj l (.loop {rec .ready none with state:= .busy})).heap[l]? =some (.loop {rec .ready none with state:= .busy}):=World.putObj_heap_same hlt;have hkp2:=hKt _ _ _ hkp1 (hKT _ _ hT1 (by omega));have hks:KeepsFrom (l+1) Wa (Wa.putObj l (.loop {rec .ready none with state:= .busy})):=zlp Wa _ (by omega);have hks': ∀k o,k≠l->Wa.heap[k]? =some o->(Wa.putObj l (.loop {rec .ready none with state:= .busy})).heap[k]? =some o:=fun k o hk h=>(World.putObj_heap_other hk).trans h;generalize Wa.putObj l (.loop {rec .ready none with state:= .busy})=Wb at*
 refine wpIn_mono (hbody a' Wb ⟨_,hlb,by rw[hrec]⟩ (hI _ _ _ hi1 hT1) (hA x a' () _ _ ha1 hT1)) ?_
 -- behind the body
 have fin: ∀(jump:Option Code) (Wc:World),KeepsFrom B Wb Wc->
  (Instr.endRound l jump).run P Wc= .ok (.bool jump.isNone) (Wc.putObj l (.loop (rec (if jump.isNone then .ready else .done) jump)))/\
  Turn B Wc (Wc.putObj l (.loop (rec (if jump.isNone then .ready else .done) jump)))/\ B<=Wc.heap.size/\
  (Wc.putObj l (.loop (rec (if jump.isNone then .ready else .done) jump))).heap[l]? =some (.loop (rec (if jump.isNone then .ready else .done) jump))/\
  KeepsFrom (l+1) W (Wc.putObj l (.loop (rec (if jump.isNone then .ready else .done) jump)))/\
  ∀k o,B<=k->k≠l->W.heap[k]? =some o->o.isCells=false->(Wc.putObj l (.loop (rec (if jump.isNone then .ready else .done) jump))).heap[k]? =some o:=fun jump Wc hk3=>by
  have hlc:=hk3.same _ _ hBl hlb rfl;have hltc:l<Wc.heap.size:=(Array.getElem?_eq_some_iff.1 hlc).1;have:=run_endRound (P:=P) jump hlc;rw[hrec] at this⊢
  exact⟨this,Turn.putObj _ hBl hlc rfl,by omega,World.putObj_heap_same hltc,
   (((zob hk1 (by omega)).trans hks).trans (zob hk3 (by omega))).trans (zlp Wc _ (by omega)),
   fun k o hkB hkl h1 h2=>(World.putObj_heap_other hkl).trans (hk3.same _ _ hkB (hks' _ _ hkl (hk1.same _ _ hkB h1 h2)) h2)⟩
 rintro e a3 Wc hp;cases e with
 | normal=>
  obtain⟨hk3,hkp3,hi3⟩:=hp;obtain⟨hr,hT,hsz,hl4,hk4,hk5⟩:=fin none Wc hk3;exact⟨_,_,hr,hk4,hk5,.inl ⟨rfl,⟨hI _ _ _ hi3 hT,hl4⟩,hKt _ _ _ (hKt _ _ _ hkp2 hkp3) (hKT _ _ hT hsz)⟩⟩
 | ret=>
  obtain⟨hk3,hi3⟩:=hp;obtain⟨hr,hT,hsz,hl4,hk4,hk5⟩:=fin (some .ret) Wc hk3;exact⟨_,_,hr,hk4,hk5,.inr ⟨rfl,.ret,hIx _ _ _ _ hi3 hT,hl4⟩⟩
 | exit id=>
  obtain⟨hk3,hi3⟩:=hp;obtain⟨hr,hT,hsz,hl4,hk4,hk5⟩:=fin (some (.exit id)) Wc hk3;exact⟨_,_,hr,hk4,hk5,.inr ⟨rfl,.exit id,hIx _ _ _ _ hi3 hT,hl4⟩⟩
 | goto t=>
  obtain⟨hk3,hi3⟩:=hp;obtain⟨hr,hT,hsz,hl4,hk4,hk5⟩:=fin (some (.goto t)) Wc hk3;exact⟨_,_,hr,hk4,hk5,.inr ⟨rfl,.goto t,hIx _ _ _ _ hi3 hT,hl4⟩⟩
 |panic ch=>exact hp.elim
 |outgrown=>exact hp.elim
theorem ztr {F:Fence} (hd:F.depth=none) {c:Code} {n m:Nat} {Q:Exit->Act->World->Prop} {a:Act} {w:World} (h:c.wpIn F n P Q a w):c.wpIn F m P Q a w:=
 fun b k cs h1 h2 _=>h b k cs h1 h2 (fun d hdd=>by rw[hd] at hdd;cases hdd)
theorem qbr {B l d:Nat} {fn:FuncId} {tmps:Array Value} {ps:Array Tmp} {assign body:Code} (rec:LoopState->Option Code->Loop)
 (hrec:rec=fun st pe=>{state:=st,pending:=pe,fn,tmps,params:=ps,assign,body,defers:=d}) (hBl:B<=l)
 {encs:α->Array Value} {Kp:World->World->Prop} (hps: ∀x,(encs x).size=ps.size)
 (hKt: ∀A B C:World,Kp A B->Kp B C->Kp A C) (hKT: ∀W W':World,Turn B W W'->B<=W.heap.size->Kp W W')
 {I:List α->World->Prop} {Ix:Code->List α->World->Prop} {A:α->Act->World->Prop} (hI:Stable B I) (hIx: ∀c,Stable B (Ix c)) (hA: ∀x a',Stable B (fun(_:Unit) W=>A x a' W))
 {pre:List α} {x:α} {W:World} (hl:W.heap[l]? =some (.loop (rec .ready none)))
 (hassign: ∀K:Act->World->Prop,(∀a' W',KeepsFrom B W W'->Kp W W'->I pre W'->A x a' W'->K a' W')->assign.wpIn (Fence.wide.inRound l) 0 P (Exit.then K (fun _ _ _=>False)) {tmps:=(ps.zip (encs x)).foldl (fun t (p,v)=>t.setIfInBounds p v) tmps,defers:=[]} W)
 (hbody: ∀a' W',(∃r,W'.heap[l]? =some (.loop r)/\ r.defers=d)->I pre W'->A x a' W'->body.wpIn (Fence.wide.inRound l) 0 P (qhj B Kp I Ix (pre++[x]) W') a' W'):
 Yields P l (encs x) W fun e W'=>KeepsFrom (l+1) W W'/\ (∀k o,B<=k->k≠l->W.heap[k]? =some o->o.isCells=false->W'.heap[k]? =some o)/\
  ((e= .returned (.bool true)/\ (I (pre++[x]) W'/\ W'.heap[l]? =some (.loop (rec .ready none)))/\ Kp W W') \/
   (e= .returned (.bool false)/\ ∃c,Ix c (pre++[x]) W'/\ W'.heap[l]? =some (.loop (rec .done (some c))))):=fun _=>
 qgn (F:=Fence.wide) (fun _=>trivial) rec hrec hBl hps hKt hKT hI hIx hA hl (fun K hK=>ztr rfl (hassign K hK)) (fun a' W' h1 h2 h3=>ztr rfl (hbody a' W' h1 h2 h3))
end
def Grows (w w':World):Prop:=Ex w.heap.size w w'
theorem Grows.refl (w:World):Grows w w:=Ex.refl _ _
theorem Grows.trans {a b:World} (h:Grows a b)(k:Grows b c):Grows a c:=Ex.trans h (k.mono h.size)
theorem Grows.drew {a w:World} (h:Grows a w):Grows a {w with drawn:=w.drawn+1}:=Ex.drew h
abbrev VP:=Value->World->Prop
def Mono (V:VP):Prop:= ∀v w w',Grows w w'->V v w->V v w'
def Is (e:Value):VP:=fun v _=>v=e
abbrev Acc:=List (Tmp×VP)
def env (a0:Act):Acc->Tmp->VP
 |[],t=>Is (a0.eval (.tmp t))
 |(d,V)::r,t=>if d=t then V else env a0 r t
def OpGood (P:Program)(V:VP)(w:World):Result Next->Prop
 | .ok (.value v) w'=>Grows w w'/\ V v w'
 | .ok .skip w'=>Grows w w'/\ V undef w'
 | .ok (.enter f args) w'=>Grows w w'/\ Calls P f args w' fun e w''=> ∃v,e= .returned v/\ Grows w w''/\ V v w''
 | .ok (.row row args) w'=>Grows w w'/\ Rows P row args w' fun v w''=>Grows w w''/\ V v w''
 |_=>False
def zhp:List Operand->List Tmp
 |[]=>[]
 | .tmp t::r=>t::zhp r
 |_::r=>zhp r
def All (E:Tmp->VP)(ρ:Operand->Value)(w:World):List Tmp->Prop
 |[]=>True
 |t::r=>E t (ρ (.tmp t)) w/\ All E ρ w r
structure Env (ρ:Operand->Value):Prop where
 const: ∀v,ρ (.const v)=v
 func: ∀f,ρ (.func f)= .func (.func f) #[] #[]
 global: ∀g,ρ (.global g)= .pointer (some ⟨g,0,none⟩)
theorem z0l (a:Act):Env a.eval:=⟨fun _=>rfl,fun _=>rfl,fun _=>rfl⟩
def zby (ops:Array Oper)(k:Nat):Option Tmp:=(ops[k]?).bind (·.dst)
def accOf (acc:Acc)(d:Option Tmp)(V:VP):Acc:=match d with|some t=>(t,V)::acc|none=>acc
def EndAt (w:World):Acc->Act->(Act->Prop)->Prop
 |[],a,K=>K a
 |(d,V)::r,a,K=>EndAt w r a fun a'=> ∀v,V v w->K (a'.put (some d) v)
def zik (ops:Array Oper)(i j:Nat):Bool:=match ops[i]? with|some o=>o.after.any fun e=>Region.binds .any e&&e.on==j|none=>false
def zhy (ops:Array Oper)(i:Nat):List Tmp:=
 match ops[i]? with
 |some o=>zhp o.op.operands.toList++(match o.guard with|some (k,_)=>(zby ops k).toList|none=>[])
 |none=>[]
def z3l (ops:Array Oper)(size n:Nat):Bool:=
 (List.range n).all fun j=>match zby ops j with
  |none=>true
  |some d=>decide (d<size)&&(List.range n).all fun i=>(decide (i=j)||zby ops i !=some d)&&(!(zhy ops i).contains d||(if j<i then zik ops i j else decide (i<j)&&zik ops j i))
def z1o (ops:Array Oper):Bool:=(List.range ops.size).all fun i=>match ops[i]? with|some o=>o.after.all fun e=> !Region.binds .any e||decide (e.on<i)|none=>true
def chk (ops:Array Oper)(size n:Nat):Bool:=
 z3l ops size n&&z1o ops&&decide (n<=ops.size)&&(decide (n=ops.size)||(Region.sinkB .any ops n&&Region.chainB .any ops n))&&
  Region.seqB .any ops (ops.size-n) n ((List.replicate n true).toArray++(List.replicate (ops.size-n) false).toArray)
def left:Nat->Array Bool->Nat
 |0,_=>0
 |k+1,l=>left k l+if l.getD k true=true then 0 else 1
theorem zpg {i:Nat} {l:Array Bool} (hu:l.getD i true=false): ∀n,i<n->left n (l.setIfInBounds i true)+1=left n l
 |0,h=>absurd h (Nat.not_lt_zero _)
 | n +1,h=>by
  have hi:i<l.size:=by
   rcases lt_or_ge i l.size with h'|h'
   ·exact h'
   ·simp[Array.getElem?_eq_none h'] at hu
  by_cases hin:i=n
  ·subst hin;have e: ∀m,m<=i->left m (l.setIfInBounds i true)=left m l:=by
    intro m;induction m with
    |zero=>intro _;rfl
    |succ m ih=>intro hm;simp only[left,ih (by omega)];rw[getD_set_ne true (by omega)]
   simp only[left,e i (le_refl _),hu];have:(l.setIfInBounds i true).getD i true=true:=by simp[hi]
   simp[this]
  ·have:=zpg hu n (by omega);simp only[left];rw[getD_set_ne true hin];omega
theorem zkp {l:Array Bool}: ∀n,left n l=0-> ∀i,i<n->l.getD i true=true
 |0,_,i,h=>absurd h (Nat.not_lt_zero _)
 | n+1,h0,i,h=>by
  simp only[left] at h0;by_cases hin:i=n
  ·subst hin;by_cases hh:l.getD i true=true
   ·exact hh
   ·simp only[hh] at h0;simp at h0
  ·exact zkp n (by omega) i (by omega)
theorem zpo {l:Array Bool}: ∀n,left n l≠0-> ∃i,i<n/\ l.getD i true=false/\ ∀j,j<i->l.getD j true=true
 |0,h=>absurd rfl h
 | n+1,h=>by
  by_cases h0:left n l=0
  ·refine⟨n,by omega,?_,fun j hj=>zkp n h0 j hj⟩;simp only[left,h0] at h;cases hh:l.getD n true with
   |false=>rfl
   |true=>simp only[hh] at h;simp at h
  ·obtain⟨i,hi,hu,hb⟩:=zpo n h0;exact⟨i,by omega,hu,hb⟩
section
variable {P:Program} {ops:Array Oper} {w0:World} {a0:Act}
def accU (ops:Array Oper)(Vs:Nat->VP):Nat->Acc
 |0=>[]
 |i+1=>accOf (accU ops Vs i) (zby ops i) (Vs i)
theorem env_none {Vs:Nat->VP} {t:Tmp}: ∀i,(∀j,j<i->zby ops j≠some t)->env a0 (accU ops Vs i) t=Is (a0.eval (.tmp t))
 |0,_=>rfl
 | i+1,h=>by
  simp only[accU];cases hd:zby ops i with
  |none=>simp only[accOf];exact env_none i fun j hj=>h j (by omega)
  | some d=>
   have:d≠t:=fun e=>h i (by omega) (by rw[hd,e]);simp only[accOf,env,if_neg this];exact env_none i fun j hj=>h j (by omega)
theorem env_some {Vs:Nat->VP} {t:Tmp} (hd:zby ops j=some t): ∀i,j<i->(∀k,k<i->k≠j->zby ops k≠some t)->env a0 (accU ops Vs i) t=Vs j
 |0,h,_=>absurd h (Nat.not_lt_zero _)
 | i +1,h,hne=>by
  simp only[accU];by_cases hij:j=i
  ·subst hij;simp[hd,accOf,env]
  ·cases hd':zby ops i with
   |none=>simp only[accOf];exact env_some hd i (by omega) fun k hk hkj=>hne k (by omega) hkj
   | some d=>
    have:d≠t:=fun e=>hne i (by omega) (by omega) (by rw[hd',e]);simp only[accOf,env,if_neg this];exact env_some hd i (by omega) fun k hk hkj=>hne k (by omega) hkj
structure Inv (ops:Array Oper)(w0:World)(a0:Act)(Vs:Nat->VP)(n:Nat)(listed:Array Bool)(a:Act)(w:World):Prop where
 head:HeadInv .any ops n listed
 grows:Grows w0 w
 defers:a.defers=a0.defers
 size:a.tmps.size=a0.tmps.size
 done: ∀j t,j<n->zby ops j=some t->listed.getD j true=true->Vs j (a.eval (.tmp t)) w
 still: ∀t,(∀j,j<n->zby ops j=some t->listed.getD j true=false)->a.eval (.tmp t)=a0.eval (.tmp t)
theorem zsu {d:Tmp} {l:List Tmp} (h:d∈l):l.contains d=true:=by simpa using h
theorem zfz {i:Nat} (h:zik ops i j=true): ∃o,ops[i]? =some o/\ ∃e∈o.after,Region.binds .any e=true/\ e.on=j:=by
 unfold zik at h;split at h
 ·rename_i o ho;obtain⟨e,he,hb⟩:=Array.any_eq_true'.1 h;simp only[and_eq_true,beq_iff_eq] at hb;exact⟨o,ho,e,he,hb.1,hb.2⟩
 ·cases h
theorem zuy {listed:Array Bool} {i:Nat} (h:listed.getD i false=true):listed.getD i true=true:=by
 rcases lt_or_ge i listed.size with h'|h'
 ·simp[h'] at h⊢;exact h
 ·simp[Array.getElem?_eq_none h']
theorem zvv {listed:Array Bool} {i:Nat} (hi:i<listed.size)(h:listed.getD i true=true):listed.getD i false=true:=by
 simp[hi] at h⊢;exact h
theorem zkg {size:Nat} (h:z3l ops size n=true) {j:Nat} {d:Tmp} (hj:j<n)(hd:zby ops j=some d):
 d<size/\ (∀i,i<n->i≠j->zby ops i≠some d)/\ ∀i,i<n->d∈zhy ops i->(j<i/\ zik ops i j=true) \/(i<j/\ zik ops j i=true):=by
 unfold z3l at h;have h1:=all_eq_true.1 h j (mem_range.2 hj);rw[hd] at h1;simp only[and_eq_true,decide_eq_true_eq] at h1;obtain⟨h2,h3⟩:=h1;refine⟨h2,fun i hi hne he=> ?_,fun i hi hl=> ?_⟩
 ·have h4:=all_eq_true.1 h3 i (mem_range.2 hi);simp only[and_eq_true,Bool.or_eq_true,decide_eq_true_eq] at h4;rcases h4.1 with h5|h5
  ·exact hne h5
  ·rw[he] at h5;simp at h5
 ·have h4:=all_eq_true.1 h3 i (mem_range.2 hi);simp only[and_eq_true,Bool.or_eq_true] at h4;rcases h4.2 with h5|h5
  ·rw[zsu hl] at h5;simp at h5
  ·split at h5
   ·rename_i hlt;exact .inl ⟨hlt,h5⟩
   ·simp only[and_eq_true,decide_eq_true_eq] at h5;exact .inr h5
theorem Act.eval_put_same {a:Act} {t:Tmp} {v:Value} (h:t<a.tmps.size):(a.put (some t) v).eval (.tmp t)=v:=by
 simp[Act.put,Act.eval,h]
theorem Act.size_put (a:Act)(d:Option Tmp)(v:Value):(a.put d v).tmps.size=a.tmps.size:=by cases d<;>simp[Act.put]
theorem Act.defers_put (a:Act)(d:Option Tmp)(v:Value):(a.put d v).defers=a.defers:=by cases d<;>rfl
theorem Inv.step {Vs:Nat->VP} {i:Nat} {listed:Array Bool} {a:Act} {w:World} {v:Value} (inv:Inv ops w0 a0 Vs n listed a w)(hB:z3l ops a0.tmps.size n=true)
 (hm: ∀j,j<n->Mono (Vs j)) (hi:i∈Region.ready .any ops listed) (hin:i<n) (hg:Grows w w') (hv:Vs i v w'):
 Inv ops w0 a0 Vs n (listed.setIfInBounds i true) (a.put (zby ops i) v) w':=by
 have hun:=(mem_ready.1 hi).1;refine⟨inv.head.set hi hin,inv.grows.trans hg,by rw[Act.defers_put];exact inv.defers,by rw[Act.size_put];exact inv.size,fun j t hj hd hl=> ?_,fun t h=> ?_⟩
 ·by_cases hji:j=i
  ·subst hji;rw[hd,Act.eval_put_same (by rw[inv.size];exact(zkg hB hj hd).1)];exact hv
  ·rw[getD_set_ne true (Ne.symm hji)] at hl;rw[Act.eval_put fun d h1 h2=>(zkg hB hj hd).2.1 i hin (Ne.symm hji) (by rw[h1];cases h2;rfl)];exact hm j hj _ _ _ hg (inv.done j t hj hd hl)
 ·have hne:zby ops i≠some t:=fun he=>by
   have:=h i hin he;have hs:i<listed.size:=by
    rcases lt_or_ge i listed.size with h'|h'
    ·exact h'
    ·simp[Array.getElem?_eq_none h'] at hun
   simp[hs] at this
  rw[Act.eval_put fun d h1 h2=>hne (by rw[h1];cases h2;rfl)];exact inv.still t fun j hj hd=>by
   have:=h j hj hd;by_cases hji:j=i
   ·subst hji;exact absurd hd hne
   ·rwa[getD_set_ne true (Ne.symm hji)] at this
end
theorem qmz {l:List Oper} (hj:j<(l.take n).length):(l.take n)[j]? =l.toArray[0+j]? :=by
 have:j<n:=by simp at hj;omega
 simp[this]
def Ret (v:Value)(w:World)(e:Ending)(w':World):Prop:=e= .returned v/\ Ex w.heap.size w w'
def RetV (V:VP)(w:World)(e:Ending)(w':World):Prop:= ∃v,e= .returned v/\ Ex w.heap.size w w'/\ V v w'
theorem Ret.v {P:Program} {f:FuncId} {args:Array Value} {w:World} {v:Value} (h:Calls P f args w (Ret v w)):Calls P f args w (RetV (Is v) w):=h.mono fun _ _ h=>⟨v,h.1,h.2,rfl⟩
theorem zfl (w:World)(o:Obj)(n:Nat)(h:n=w.heap.size):(w.alloc o).heap[n]? =some o:=by subst h;exact heap_alloc_new w o
structure Grew (w w':World)(row:Option Nat):Prop extends w.grownBy w' row where
 drawn:drn w<=drn w'
def SlAt (n:Nat)(cs:List Value)(v:Value)(w:World):Prop:=
 (v= .slice none 0 0/\ n=0/\ cs=[]) \/ ∃b o cap,v= .slice (some ⟨b,o,none⟩) n cap/\ b<w.heap.size/\ ∀(i:Nat) (x:Value),cs[i]? =some x->w.cell? ⟨b,o+i,none⟩=some x
theorem SlAt.mono (n:Nat)(cs:List Value):Mono (SlAt n cs):=by
 rintro v w w' hg (⟨rfl,h1,h2⟩|⟨b,o,cap,rfl,hb,hc⟩)
 ·exact .inl ⟨rfl,h1,h2⟩
 ·exact .inr ⟨b,o,cap,rfl,Nat.lt_of_lt_of_le hb hg.size,fun i x hx=>(hg.toBelow.cell (p:=⟨b,o+i,none⟩) hb).trans (hc i x hx)⟩
section
variable {P:Program} {ops:Array Oper} {w0:World} {a0:Act} {fin:Acc->Prop} {o:Oper} {rest:List Oper} {acc:Acc}
abbrev Uses (w0:World)(a0:Act)(acc:Acc)(o:Oper)(ρ:Operand->Value)(W:World):Prop:=
 (∀v,ρ (.const v)=v)/\ (∀f,ρ (.func f)= .func (.func f) #[] #[])/\ Grows w0 W/\ All (env a0 acc) ρ W (zhp o.op.operands.toList)
end
end Go.Fwd
namespace Go.Fwd
open Go Go.RowKit
section
variable {P:Program} {ops:Array Oper} {w0:World} {a0:Act} {fin:Acc->Prop} {o:Oper} {rest:List Oper} {acc:Acc}
abbrev Met (ops:Array Oper)(a0:Act)(acc:Acc)(o:Oper):Prop:=
 match o.guard with|none=>True|some (k,b)=> ∃d,zby ops k=some d/\ ∀g W,env a0 acc d g W->g= .bool b
def PtrAt (cs:List Value)(v:Value)(w:World):Prop:= ∃b o,v= .pointer (some ⟨b,o,none⟩)/\ b<w.heap.size/\ ∀(i:Nat) (x:Value),cs[i]? =some x->w.cell? ⟨b,o+i,none⟩=some x
theorem PtrAt.mono (cs:List Value):Mono (PtrAt cs):=by
 rintro v w w' hg ⟨b,o,rfl,hb,hc⟩;exact⟨b,o,rfl,Nat.lt_of_lt_of_le hb hg.size,fun i x hx=>(hg.toBelow.cell (p:=⟨b,o+i,none⟩) hb).trans (hc i x hx)⟩
theorem SlAt.shape {n:Nat} {cs:List Value} {v:Value} {w:World} (h:SlAt n cs v w): ∃a cap,v= .slice a n cap/\ (0<n-> ∃b o,a=some ⟨b,o,none⟩/\ b<w.heap.size/\ ∀(i:Nat) (x:Value),cs[i]? =some x->w.cell? ⟨b,o+i,none⟩=some x):=by
 rcases h with⟨rfl,h1,h2⟩|⟨b,o,cap,rfl,hb,hc⟩
 ·subst h1;exact⟨none,0,rfl,fun h=>by omega⟩
 ·exact⟨_,cap,rfl,fun _=>⟨b,o,rfl,hb,hc⟩⟩
end
end Go.Fwd
namespace Go.Ab
variable {W':World}
abbrev I64 (x:Int):Prop:= -9223372036854775808<=x/\ x<9223372036854775808
open Go Go.RowKit Go.Fwd
inductive Room where
 |none|own (s:Nat)|full
 deriving DecidableEq,Inhabited
inductive AV where
 |raw (v:Value)
 |agg (cs:List AV)
 |tup (vs:List AV)
 |list (n:Nat) (cs:List AV) (st:Room)
 |ptr (s off:Nat)
 |bsl (s off n sz:Nat) (f:Bool)
 |iptr (cs:List AV)
 |clos (f:FuncId) (caps:List AV)
 |iter (xs:List (List AV))
 |yld (l:Nat)
 |top
 |bad
 deriving Inhabited
structure Row where
 block:Nat
 elem:TypeId
 size:Nat
 cap:Nat
structure Cx where
 F:Nat->Nat->Prop
 κ:List Nat
 β:List Row
 lens:List Nat
 w:World
 O:Nat->Prop
 C:Nat->Nat->Prop
structure IterP where
 it:Value->List (List AV)->Cx->Prop
 /-- What is known of package variables: cells that are never written. -/
 gv:(Nat->Nat->Prop)->World->Prop
def Bsl (X:Cx)(s off n sz:Nat)(f:Bool)(v:Value):Prop:=
 ∃b cap cur t,X.κ[s]? =some b/\ v= .slice (some ⟨b,off,none⟩) n cap/\ n<=cap/\ (f=true->cap=n)/\ X.w.heap[b]? =some (.cells cur t (0,0))/\ off+cap*sz<=cur.size
mutual
def Rep (IT:IterP)(X:Cx):AV->Value->Prop
 | .raw u,v=>v=u
 | .agg cs,v=> ∃vs:List Value,v= .agg vs.toArray/\ zbo IT X cs vs/\ ∀u∈vs,u.oneCell'=true
 | .tup cs,v=> ∃vs:List Value,v= .tuple vs.toArray/\ zbo IT X cs vs
 | .list n cs st,v=> ∃a cap,v= .slice a n cap/\ (n<=cap/\ (a=none->cap=0))/\ (cs=[] \/ ∃b o,a=some ⟨b,o,none⟩/\ At IT X cs b o)/\
  (match st with
   | .none=>True
   | .full=>cap=n
   | .own s=> ∃L,X.lens[s]? =some L/\ cs.length<=L/\ (cs.length=L-> ∃r,X.β[s]? =some r/\ a=some ⟨r.block,0,none⟩/\ cap=r.cap/\ cs.length=n*r.size))
 | .ptr s off,v=> ∃b,X.κ[s]? =some b/\ v= .pointer (some ⟨b,off,none⟩)
 | .bsl s off n sz f,v=>Bsl X s off n sz f v
 | .iptr cs,v=> ∃b o,v= .pointer (some ⟨b,o,none⟩)/\ At IT X cs b o
 | .clos f caps,v=> ∃vs:List Value,v= .func (.func f) #[] vs.toArray/\ zbo IT X caps vs
 | .iter xs,v=>IT.it v xs X
 | .yld l,v=>v= .func (.yield l) #[] #[]
 | .top,_=>True
 | .bad,_=>False
def zbo (IT:IterP)(X:Cx):List AV->List Value->Prop
 |[],vs=>vs=[]
 |a::l,vs=> ∃v r,vs=v::r/\ Rep IT X a v/\ zbo IT X l r
def At (IT:IterP)(X:Cx):List AV->Nat->Nat->Prop
 |[],_,_=>True
 |c::cs,b,o=>(X.F b o/\ ∃v,X.w.cell? ⟨b,o,none⟩=some v/\ v.oneCell'=true/\ Rep IT X c v)/\ At IT X cs b (o+1)
end
def Szs (W W':World):Prop:= ∀(k:Nat) (cs:Array Value) (t:TypeId) (f:Nat×Nat),W.heap[k]? =some (.cells cs t f)-> ∃cs' t' f',W'.heap[k]? =some (.cells cs' t' f')/\ cs'.size=cs.size
theorem Szs.refl (W:World):Szs W W:=fun _ cs t f h=>⟨cs,t,f,h,rfl⟩
theorem Szs.trans {A B C:World} (h:Szs A B)(k:Szs B C):Szs A C:=fun i cs t f e=>by
 obtain⟨c1,t1,f1,e1,s1⟩:=h i cs t f e;obtain⟨c2,t2,f2,e2,s2⟩:=k i c1 t1 f1 e1;exact⟨c2,t2,f2,e2,s2.trans s1⟩
theorem Szs.eq {W:World} (h:W'=W):Szs W W':=h▸Szs.refl _
theorem Szs.heap {W:World} (h:W'.heap=W.heap):Szs W W':=fun k cs t f e=>⟨cs,t,f,by rw[h];exact e,rfl⟩
theorem Szs.old {W:World} (h: ∀k,k<W.heap.size->W'.heap[k]? =W.heap[k]?):Szs W W':=fun k cs t f e=>⟨cs,t,f,(h k (Array.getElem?_eq_some_iff.1 e).1).trans e,rfl⟩
theorem Szs.one {W:World} (b:Nat)(h: ∀k,k<W.heap.size->k≠b->W'.heap[k]? =W.heap[k]?)(hb: ∀cs t f,W.heap[b]? =some (.cells cs t f)-> ∃cs' t' f',W'.heap[b]? =some (.cells cs' t' f')/\ cs'.size=cs.size):Szs W W':=fun k cs t f e=>by
 by_cases hk:k=b
 ·subst hk;exact hb cs t f e
 ·exact⟨cs,t,f,(h k (Array.getElem?_eq_some_iff.1 e).1 hk).trans e,rfl⟩
structure Sub (X X':Cx):Prop where
 F: ∀(b o:Nat),X.F b o->X'.F b o
 cell: ∀(b o:Nat),X.F b o->X'.w.cell? ⟨b,o,none⟩=X.w.cell? ⟨b,o,none⟩
 κ: ∀(s b:Nat),X.κ[s]? =some b->X'.κ[s]? =some b
 lens: ∀(s L:Nat),X.lens[s]? =some L-> ∃L',X'.lens[s]? =some L'/\ L<=L'/\ (L'=L->X'.β[s]? =X.β[s]?)
 blk: ∀(s b:Nat),X.κ[s]? =some b-> ∀(cur:Array Value) (t:TypeId) (f:Nat×Nat),X.w.heap[b]? =some (.cells cur t f)-> ∃cur',X'.w.heap[b]? =some (.cells cur' t f)/\ cur'.size=cur.size
 szs:Szs X.w X'.w
theorem Bsl.sub {X X':Cx} (h:Sub X X') {s off n sz:Nat} {f:Bool} {v:Value} (hr:Bsl X s off n sz f v):Bsl X' s off n sz f v:=by
 obtain⟨b,cap,cur,t,h1,h2,h3,h4,h5,h6⟩:=hr;obtain⟨cur',k1,k2⟩:=h.blk s b h1 cur t _ h5;exact⟨b,cap,cur',t,h.κ s b h1,h2,h3,h4,k1,by omega⟩
theorem Bsl.mono {X Y:Cx} {s off n sz:Nat} {f:Bool} {v:Value} (hκ: ∀b,X.κ[s]? =some b->Y.κ[s]? =some b)(hw:Y.w=X.w)(hr:Bsl X s off n sz f v):Bsl Y s off n sz f v:=by
 obtain⟨b,cap,cur,t,h1,h2,h3,h4,h5,h6⟩:=hr;exact⟨b,cap,cur,t,hκ b h1,h2,h3,h4,by rw[hw];exact h5,h6⟩
structure Ext (X X':Cx):Prop extends Sub X X' where
 os:X'.w.os=X.w.os
 tape:X'.w.tape=X.w.tape
 output:X'.w.output=X.w.output
 size:X.w.heap.size<=X'.w.heap.size
 drawn:drn X.w<=drn X'.w
 frame: ∀(b:Nat),b<X.w.heap.size->b∉X.κ->(∀r∈X.β,r.block≠b)->X'.w.heap[b]? =X.w.heap[b]?
 κnew: ∀b∈X'.κ,b∈X.κ \/X.w.heap.size<=b
 βnew: ∀r∈X'.β,(∃q∈X.β,q.block=r.block) \/X.w.heap.size<=r.block
 O:X'.O=X.O
 C:X'.C=X.C
 Fnew: ∀(b o:Nat),X'.F b o->X.F b o \/X.w.heap.size<=b \/(∃q∈X.β,q.block=b) \/b∈X.κ
theorem Ext.refl (X:Cx):Ext X X where
 os:=rfl
 tape:=rfl
 output:=rfl
 size:=le_refl _
 drawn:=le_refl _
 F:=fun _ _ h=>h
 cell:=fun _ _ _=>rfl
 κ:=fun _ _ h=>h
 lens:=fun s L h=>⟨L,h,le_refl _,fun _=>rfl⟩
 blk:=fun _ _ _ cur _ _ h=>⟨cur,h,rfl⟩
 szs:=Szs.refl _
 frame:=fun _ _ _ _=>rfl
 κnew:=fun _ h=> .inl h
 βnew:=fun r h=> .inl ⟨r,h,rfl⟩
 O:=rfl
 C:=rfl
 Fnew:=fun _ _ h=> .inl h
theorem Ext.trans {X Y Z:Cx} (h:Ext X Y)(k:Ext Y Z):Ext X Z where
 os:=k.os.trans h.os
 tape:=k.tape.trans h.tape
 output:=k.output.trans h.output
 size:=le_trans h.size k.size
 drawn:=le_trans h.drawn k.drawn
 F:=fun b o hf=>k.F b o (h.F b o hf)
 cell:=fun b o hf=>(k.cell b o (h.F b o hf)).trans (h.cell b o hf)
 κ:=fun s b hs=>k.κ s b (h.κ s b hs)
 lens:=fun s L hs=>by
  obtain⟨L1,h1,h2,h3⟩:=h.lens s L hs;obtain⟨L2,k1,k2,k3⟩:=k.lens s L1 h1;exact⟨L2,k1,le_trans h2 k2,fun e=>by
   have e1:L2=L1:=by omega
   have e2:L1=L:=by omega
   rw[k3 e1,h3 e2]⟩
 blk:=fun s b hs cur t f hc=>by
  obtain⟨c1,h1,h2⟩:=h.blk s b hs cur t f hc;obtain⟨c2,k1,k2⟩:=k.blk s b (h.κ s b hs) c1 t f h1;exact⟨c2,k1,k2.trans h2⟩
 szs:=h.szs.trans k.szs
 frame:=fun b hb hκ hβ=>by
  refine(k.frame b (Nat.lt_of_lt_of_le hb h.size) (fun hm=> ?_) (fun r hr e=> ?_)).trans (h.frame b hb hκ hβ)
  ·rcases h.κnew b hm with h1|h1
   ·exact hκ h1
   ·omega
  ·rcases h.βnew r hr with⟨q,hq,e'⟩|h1
   ·exact hβ q hq (e'.trans e)
   ·omega
 κnew:=fun b hb=>by
  rcases k.κnew b hb with h1|h1
  ·exact h.κnew b h1
  ·exact .inr (le_trans h.size h1)
 βnew:=fun r hr=>by
  rcases k.βnew r hr with⟨q,hq,e⟩|h1
  ·rcases h.βnew q hq with⟨p,hp,e'⟩|h2
   ·exact .inl ⟨p,hp,e'.trans e⟩
   ·exact .inr (e▸h2)
  ·exact .inr (le_trans h.size h1)
 O:=k.O.trans h.O
 C:=k.C.trans h.C
 Fnew:=fun b o hf=>by
  rcases k.Fnew b o hf with h1|h1|⟨q,hq,e⟩|h1
  ·exact h.Fnew b o h1
  ·exact .inr (.inl (le_trans h.size h1))
  ·rcases h.βnew q hq with⟨p,hp,e'⟩|h2
   ·exact .inr (.inr (.inl ⟨p,hp,e'.trans e⟩))
   ·exact .inr (.inl (e▸h2))
  ·rcases h.κnew b h1 with h2|h2
   ·exact .inr (.inr (.inr h2))
   ·exact .inr (.inl h2)
def errRows:List (List AV):=[List.replicate 9 .bad]
@[reducible] def AV.err:AV:= .iter errRows
structure ITMono (IT:IterP):Prop where
 it: ∀v xs X X',(∀b o,X.F b o->X'.F b o)->(∀b o,X.F b o->X'.w.cell? ⟨b,o,none⟩=X.w.cell? ⟨b,o,none⟩)->Szs X.w X'.w->IT.it v xs X->IT.it v xs X'
 gv: ∀F F' w w',(∀b o,F b o->F' b o)->(∀b o,F b o->w'.cell? ⟨b,o,none⟩=w.cell? ⟨b,o,none⟩)->Szs w w'->IT.gv F w->IT.gv F' w'
 err: ∀v X,IT.it v errRows X-> ∃t p,v= .iface t p
theorem qfy {IT:IterP} (hIT:ITMono IT) {X X':Cx} (h:Sub X X')(g:IT.gv X.F X.w):IT.gv X'.F X'.w:=hIT.gv _ _ _ _ h.F h.cell h.szs g
theorem qjm {IT:IterP} (hIT:ITMono IT) {X X':Cx} (h:Ext X X')(g:IT.gv X.F X.w):IT.gv X'.F X'.w:=qfy hIT h.toSub g
mutual
theorem zmh {IT:IterP} (hIT:ITMono IT) {X X':Cx} (h:Sub X X'): ∀(a:AV) (v:Value),Rep IT X a v->Rep IT X' a v
 | .raw u,v,hr=>hr
 | .agg cs,v,⟨vs,e,hr,h1⟩=>⟨vs,e,zbw hIT h cs vs hr,h1⟩
 | .tup cs,v,⟨vs,e,hr⟩=>⟨vs,e,zbw hIT h cs vs hr⟩
 | .list n cs st,v,⟨a,cap,e,hcap,hc,hs⟩=>by
  refine⟨a,cap,e,hcap,hc.imp id fun⟨b,o,e1,e2⟩=>⟨b,o,e1,z9p hIT h cs b o e2⟩,?_⟩;cases st with
  |none=>trivial
  |full=>exact hs
  | own s=>
   obtain⟨L,h1,h2,h3⟩:=hs;obtain⟨L',k1,k2,k3⟩:=h.lens s L h1;refine⟨L',k1,le_trans h2 k2,fun e'=> ?_⟩;obtain⟨r,r1,r2⟩:=h3 (by omega);exact⟨r,by rw[k3 (by omega)];exact r1,r2⟩
 | .ptr s off,v,⟨b,e1,e2⟩=>⟨b,h.κ s b e1,e2⟩
 | .bsl s off n sz f,v,hr=>hr.sub h
 | .iptr cs,v,⟨b,o,e,hc⟩=>⟨b,o,e,z9p hIT h cs b o hc⟩
 | .clos f caps,v,⟨vs,e,hr⟩=>⟨vs,e,zbw hIT h caps vs hr⟩
 | .iter xs,v,h2=>hIT.it _ _ _ _ h.F h.cell h.szs h2
 | .yld l,v,hr=>hr
 | .top,_,hr=>hr
 | .bad,_,hr=>hr
theorem zbw {IT:IterP} (hIT:ITMono IT) {X X':Cx} (h:Sub X X'): ∀(l:List AV) (vs:List Value),zbo IT X l vs->zbo IT X' l vs
 |[],_,hr=>hr
 |a::l,vs,⟨v,r,e,h1,h2⟩=>⟨v,r,e,zmh hIT h a v h1,zbw hIT h l r h2⟩
theorem z9p {IT:IterP} (hIT:ITMono IT) {X X':Cx} (h:Sub X X'): ∀(cs:List AV) (b o:Nat),At IT X cs b o->At IT X' cs b o
 |[],_,_,_=>trivial
 |c::cs,b,o,⟨⟨hf,v,hv,h1,hr⟩,ht⟩=>⟨⟨h.F b o hf,v,(h.cell b o hf).trans hv,h1,zmh hIT h c v hr⟩,z9p hIT h cs b (o+1) ht⟩
end
theorem zfk {IT:IterP} (hIT:ITMono IT) {X X':Cx} (h:Ext X X')(a:AV)(v:Value):Rep IT X a v->Rep IT X' a v:=zmh hIT h.toSub a v
theorem zau {IT:IterP} (hIT:ITMono IT) {X X':Cx} (h:Ext X X')(l:List AV)(vs:List Value):zbo IT X l vs->zbo IT X' l vs:=zbw hIT h.toSub l vs
theorem z5k {IT:IterP} (hIT:ITMono IT) {X X':Cx} (h:Ext X X')(cs:List AV)(b o:Nat):At IT X cs b o->At IT X' cs b o:=z9p hIT h.toSub cs b o
end Go.Ab
namespace Go.Ab
open Go Go.RowKit Go.Fwd
variable {P:Program} {IT:IterP} {X:Cx} {o:Nat}
structure St where
 boxes:List (TypeId×List AV)
 lens:List Nat
 elems:List TypeId
 out:Nat:=0
 stop:Bool:=false
 deriving Inhabited
structure Inv (IT:IterP)(U:St)(X:Cx):Prop where
 lens:X.lens=U.lens
 elems:X.β.map (·.elem)=U.elems
 κlen:X.κ.length=U.boxes.length
 κnd: ∀(s s' b:Nat),X.κ[s]? =some b->X.κ[s']? =some b->s≠s'->(∃t,U.boxes[s]? =some (t,[])) \/(∃t,U.boxes[s']? =some (t,[]))
 box: ∀(s b:Nat) (t:TypeId) (cs:List AV),X.κ[s]? =some b->U.boxes[s]? =some (t,cs)->
  ∃vs zs:List Value,X.w.heap[b]? =some (.cells (vs++zs).toArray t (0,0))/\ zbo IT X cs vs/\ ∀v∈vs,v.oneCell'=true
 κF: ∀(s b:Nat) (t:TypeId) (cs:List AV),X.κ[s]? =some b->U.boxes[s]? =some (t,cs)->cs≠[]-> ∀o,¬X.F b o
 βlen:X.β.length=X.lens.length
 βnd:(X.β.map (·.block)).Nodup
 βκ: ∀r∈X.β,r.block∉X.κ
 row: ∀(s:Nat) (r:Row) (L:Nat),X.β[s]? =some r->X.lens[s]? =some L-> ∃cur fz,X.w.heap[r.block]? =some (.cells cur r.elem fz)/\ cur.size=r.cap*r.size/\ r.cap<=maxLen/\ 0<r.size/\ L<=cur.size/\
  (∀o,X.F r.block o->o<L)/\ fz.2<=L
 Ok: ∀(b:Nat),X.O b->(∃cs t f,X.w.heap[b]? =some (.cells cs t f))/\ b∉X.κ/\ (∀r∈X.β,r.block≠b)/\ ∀o,X.F b o->X.C b o
 Fcell: ∀(b o:Nat),X.F b o-> ∃v,X.w.cell? ⟨b,o,none⟩=some v
 gv:IT.gv X.F X.w:=by first|exact qjm (by assumption) (by assumption) (Inv.gv (by assumption))|exact Inv.gv (by assumption)
def val? (P:Program) {α:Type}:Sem α->Option α
 | .pure a=>some a
 | .program k=>val? P (k P)
 | .mark _ k=>val? P k
 |_=>none
theorem val?_run {α:Type}: ∀(s:Sem α) (a:α),val? P s=some a-> ∀w,s.run P w= .ok a w:=by
 intro s;induction s with
 |pure b=>intro a h w;simp[val?] at h;subst h;rfl
 |program k ih=>intro a h w;exact ih P a h w
 |mark m k ih=>intro a h w;exact ih a h w
 |_=>intro a h;cases h
theorem val?_bind {α β:Type} (s:Sem α)(f:α->Sem β):val? P (s.bind f)=(val? P s).bind fun a=>val? P (f a):=by
 induction s with
 |pure a=>rfl
 |program k ih=>exact ih P
 |mark m k ih=>exact ih
 |_=>rfl
def zjr:Value->AV
 | .slice none 0 0=> .list 0 [] .full
 |v=> .raw v
def zja:Value->AV
 | .agg cs=> .agg (cs.toList.map zjr)
 |v=>zjr v
def zkw:AV->Option Value
 | .raw v=>some v
 |_=>none
def zeg:List AV->Option (List Value)
 |[]=>some []
 |a::l=>match zkw a,zeg l with|some v,some r=>some (v::r)|_,_=>none
def zdv:AV->Option Value
 | .raw v=>some v
 | .agg cs=>(zeg cs).map fun vs=> .agg vs.toArray
 |_=>none
def cellsOf:AV->List AV
 | .agg cs=>cs
 |a=>[a]
def rd (P:Program)(t:TypeId)(cs:List AV):Option AV:=
 match P.underlying t,P.info? t with
 |some (.struct _),some i|some (.array _ _),some i=>if i.size<=cs.length then some (.agg (cs.take i.size)) else none
 |some _,some _=>cs.head?
 |_,_=>none
theorem zu: ∀ {l:List AV} {vs:List Value},zbo IT X l vs->l.length=vs.length
 |[],vs,h=>by rw[zbo] at h;rw[h];rfl
 | a::l,vs,h=>by
  rw[zbo] at h;obtain⟨v,r,e,_,h⟩:=h;rw[e,length_cons,length_cons,zu h]
theorem zet: ∀ {l:List AV} {vs:List Value},zbo IT X l vs-> ∀(i:Nat) a,l[i]? =some a-> ∃v,vs[i]? =some v/\ Rep IT X a v
 |[],vs,h,i,a,e=>by simp at e
 | b::l,vs,h,i,a,e=>by
  rw[zbo] at h;obtain⟨v,r,rfl,h1,h2⟩:=h;cases i with
  |zero=>simp at e;subst e;exact⟨v,rfl,h1⟩
  |succ i=>simp at e;simpa using zet h2 i a e
theorem zgk: ∀ {l:List AV} {vs:List Value},l.length=vs.length->(∀(i:Nat) a v,l[i]? =some a->vs[i]? =some v->Rep IT X a v)->zbo IT X l vs
 |[],vs,h,_=>by rw[zbo];exact List.length_eq_zero_iff.1 h.symm
 |b::l,[],h,_=>by simp at h
 | b::l,v::vs,h,k=>by
  rw[zbo];exact⟨v,vs,rfl,k 0 b v rfl rfl,zgk (by simpa using h) fun i a u h1 h2=>k (i+1) a u (by simpa using h1) (by simpa using h2)⟩
theorem zbq {l m:List AV} {vs us:List Value} (h:zbo IT X l vs)(k:zbo IT X m us):zbo IT X (l++m) (vs++us):=by
 have hl:=zu h;refine zgk (by simp[hl,zu k]) fun i a v h1 h2=> ?_;rcases lt_or_ge i l.length with hi|hi
 ·rw[getElem?_append_left hi] at h1;rw[getElem?_append_left (by omega)] at h2;obtain⟨v',e,hr⟩:=zet h i a h1;rw[h2] at e;cases e;exact hr
 ·rw[List.getElem?_append_right hi] at h1;rw[List.getElem?_append_right (by omega)] at h2;rw[hl] at h1;obtain⟨v',e,hr⟩:=zet k _ a h1;rw[h2] at e;cases e;exact hr
theorem zir {l:List AV} {vs:List Value} (h:zbo IT X l vs)(n:Nat):zbo IT X (l.drop n) (vs.drop n):=by
 refine zgk (by simp[zu h]) fun i a v h1 h2=> ?_;rw[List.getElem?_drop] at h1 h2;obtain⟨v',e,hr⟩:=zet h _ a h1;rw[h2] at e;cases e;exact hr
theorem zil {l:List AV} {vs:List Value} (h:zbo IT X l vs)(n:Nat):zbo IT X (l.take n) (vs.take n):=by
 refine zgk (by simp[zu h]) fun i a v h1 h2=> ?_;rw[getElem?_take] at h1 h2;split at h1
 ·rename_i hi;rw[if_pos hi] at h2;obtain⟨v',e,hr⟩:=zet h _ a h1;rw[h2] at e;cases e;exact hr
 ·cases h1
theorem zkm (v:Value):Rep IT X (zjr v) v:=by
 unfold zjr;split
 ·rw[Rep];exact⟨none,0,rfl,⟨le_refl _,fun _=>rfl⟩,.inl rfl,rfl⟩
 ·rw[Rep]
def zog:Value->Bool
 | .agg cs=>cs.toList.all (·.oneCell')
 |_=>true
theorem zkc (v:Value)(h:zog v=true):Rep IT X (zja v) v:=by
 unfold zja;split
 ·rename_i cs;rw[Rep];refine⟨cs.toList,by simp,zgk (by simp) fun i a v h1 h2=> ?_,fun u hu=>by simpa using all_eq_true.1 h u hu⟩;rw[getElem?_map,h2] at h1;simp at h1;subst h1;exact zkm v
 ·exact zkm _
theorem zsd: ∀ {l:List AV} {us vs:List Value},zeg l=some us->zbo IT X l vs->vs=us
 |[],us,vs,h,k=>by rw[zbo] at k;simp[zeg] at h;rw[k,h]
 | a ::l,us,vs,h,k=>by
  rw[zbo] at k;obtain⟨v,r,rfl,h1,h2⟩:=k;cases a with
  | raw u=>
   simp only[zeg,zkw] at h;cases hr:zeg l with
   |none=>rw[hr] at h;cases h
   | some us'=>
    rw[hr] at h;simp at h;rw[Rep] at h1;rw[<-h,h1,zsd hr h2]
  |_=>simp[zeg,zkw] at h
theorem z4s {a:AV} {u v:Value} (h:zdv a=some u)(k:Rep IT X a v):v=u:=by
 cases a with
 |raw w=>simp[zdv] at h;rw[Rep] at k;rw[k,h]
 | agg cs=>
  simp only[zdv,Option.map_eq_some_iff] at h;obtain⟨us,h1,rfl⟩:=h;rw[Rep] at k;obtain⟨vs,rfl,k2,_⟩:=k;rw[zsd h1 k2]
 |_=>simp[zdv] at h
def qbf (IT:IterP)(X:Cx)(cs:List AV)(b o:Nat):Prop:=
 ∃vs:List Value,zbo IT X cs vs/\ (∀v∈vs,v.oneCell'=true)/\ ∀(j:Nat) v,vs[j]? =some v->X.w.cell? ⟨b,o+j,none⟩=some v
theorem zha: ∀ {cs:List AV} {b o:Nat},At IT X cs b o->qbf IT X cs b o
 |[],b,o,_=>⟨[],by rw[zbo],by simp,by simp⟩
 | c ::cs,b,o,h=>by
  rw[At] at h;obtain⟨⟨hf,v,hv,h1,hr⟩,ht⟩:=h;obtain⟨vs,k1,k2,k3⟩:=zha ht;refine⟨v::vs,by rw[zbo];exact⟨v,vs,rfl,hr,k1⟩,fun u hu=> ?_,fun j u hj=> ?_⟩
  ·rcases mem_cons.1 hu with rfl|hu
   ·exact h1
   ·exact k2 u hu
  ·cases j with
   |zero=>simp at hj;subst hj;exact hv
   | succ j=>
    have:=k3 j u (by simpa using hj);rw[show o+(j+1)=o+1+j by omega];exact this
theorem zzg: ∀ {cs:List AV} {b o:Nat} (n:Nat),At IT X cs b o->At IT X (cs.drop n) b (o+n)
 |cs,b,o,0,h=>by simpa using h
 |[],b,o,n+1,_=>by simp[At]
 | c::cs,b,o,n+1,h=>by
  rw[At] at h;have:=zzg n h.2;rw[List.drop_succ_cons,show o+(n+1)=o+1+n by omega];exact this
theorem zzp: ∀ {cs:List AV} {b o:Nat} (n:Nat),At IT X cs b o->At IT X (cs.take n) b o
 |cs,b,o,0,h=>by simp[At]
 |[],b,o,n+1,_=>by simp[At]
 | c::cs,b,o,n+1,h=>by
  rw[At] at h;rw[List.take_succ_cons,At];exact⟨h.1,zzp n h.2⟩
theorem qbm {cs:List AV} {b:Nat} (h:qbf IT X cs b o)(n:Nat):qbf IT X (cs.drop n) b (o+n):=by
 obtain⟨vs,k1,k2,k3⟩:=h;refine⟨vs.drop n,zir k1 n,fun v hv=>k2 v (List.mem_of_mem_drop hv),fun j v hj=> ?_⟩;rw[List.getElem?_drop] at hj;rw[Nat.add_assoc];exact k3 _ v hj
theorem zki {t:TypeId} {d:TypeDesc} (h:P.underlying t=some d)(w:World):(isAgg t).run P w= .ok (match d with| .struct _| .array _ _=>true|_=>false) w:=by
 unfold isAgg underlying;cases d<;>simp[program,Sem.run,h]
theorem zkb {t:TypeId} {i:TypeInfo} (h:P.info? t=some i)(w:World):(sizeOf t).run P w= .ok i.size w:=by
 unfold sizeOf typeInfo;simp[program,Sem.run,h]
theorem zxg {t:TypeId} {cs:List AV} {a:AV} {b:Nat} (h:rd P t cs=some a)(hc:qbf IT X cs b o):
 ∃v,(loadVar t ⟨b,o,none⟩).run P X.w= .ok v X.w/\ Rep IT X a v:=by
 obtain⟨vs,k1,k2,k3⟩:=hc;have hadd: ∀j,(⟨b,o,none⟩:Addr).add j=⟨b,o+j,none⟩:=fun j=>by unfold Addr.add;split<;>simp_all
 unfold rd at h;cases hu:P.underlying t with
 |none=>rw[hu] at h;cases P.info? t<;>simp at h
 | some d=>
  cases hi:P.info? t with
  |none=>rw[hu,hi] at h;cases d<;>simp at h
  | some i=>
   rw[hu,hi] at h;have agg:(if i.size<=cs.length then some (AV.agg (cs.take i.size)) else none)=some a->((loadCells ⟨b,o,none⟩ i.size).run P X.w= .ok (vs.take i.size).toArray X.w)/\ Rep IT X a (.agg (vs.take i.size).toArray):=by
    intro h;split at h
    ·rename_i hle;simp at h;subst h;have hl:=zu k1;have hlen:(vs.take i.size).length=i.size:=by simp;omega
     refine⟨?_,?_⟩
     ·have:=run_loadCells_list (P:=P) X.w ⟨b,o,none⟩ (vs.take i.size) (fun j v hj=>by
       rw[hadd];rw[getElem?_take] at hj;split at hj
       ·exact k3 j v hj
       ·cases hj)
      rw[hlen] at this;exact this
     ·rw[Rep];exact⟨_,rfl,zil k1 _,fun u hu=>k2 u (mem_of_mem_take hu)⟩
    ·cases h
   have one:cs.head? =some a-> ∃v,(load ⟨b,o,none⟩).run P X.w= .ok v X.w/\ Rep IT X a v:=by
    intro h;have h0:cs[0]? =some a:=by rw[<-List.head?_eq_getElem?];exact h
    obtain⟨v,hv,hr⟩:=zet k1 0 a h0;have:=k3 0 v hv;refine⟨v,?_,hr⟩;simp only[Nat.add_zero] at this;simp[load,Sem.run,this]
   unfold loadVar;cases d with
   | struct fs=>
    obtain⟨h1,h2⟩:=agg h;exact⟨_,by simp[zki hu,zkb hi,h1],h2⟩
   | array n e=>
    obtain⟨h1,h2⟩:=agg h;exact⟨_,by simp[zki hu,zkb hi,h1],h2⟩
   | _=>
    obtain⟨v,h1,h2⟩:=one h;exact⟨v,by simp only[Sem.run_bind,zki hu,Result.andThen_ok,Bool.false_eq_true,if_false,h1],h2⟩
variable {IT:IterP} {X:Cx} {U:St} {P:Program} {n:Nat} {j:Value}
def Res (IT:IterP)(X:Cx)(U':St)(a:AV)(r:Result Next):Prop:=
 ∃v X',(r= .ok (.value v) X'.w \/(r= .ok .skip X'.w/\ v=undef))/\ Ext X X'/\ Inv IT U' X'/\ Rep IT X' a v
def zca (ρ:Operand->AV)(x:Operand):Value:=(zdv (ρ x)).getD undef
def zgb (P:Program)(ρ:Operand->AV)(o:Oper):Option AV:=
 if o.op.operands.toList.all (fun x=>(zdv (ρ x)).isSome) then
  match o.op with
  | .select _ _=>none
  | _=>match val? P (execOp (zca ρ) o) with
   |some (.value v)=>if zog v then some (zja v) else none
   |_=>none
 else none
theorem zhg (b o n:Nat):(⟨b,o,none⟩:Addr).add n=⟨b,o+n,none⟩:=by unfold Addr.add;split<;>simp_all
def zlv (P:Program)(U:St)(t:TypeId):AV->Option AV
 | .iptr cs=>rd P t cs
 | .ptr s off=>match U.boxes[s]? with|some bx=>rd P t (bx.2.drop off)|none=>none
 |_=>none
theorem zus (hI:Inv IT U X) {s b:Nat} {bx:TypeId×List AV} (hs:X.κ[s]? =some b)(hb:U.boxes[s]? =some bx)(off:Nat):qbf IT X (bx.2.drop off) b off:=by
 obtain⟨vs,zs,h1,h2,h3⟩:=hI.box s b bx.1 bx.2 hs hb;have:qbf IT X bx.2 b 0:=⟨vs,h2,h3,fun j v hj=>by
  rw[zero_add,cell_of_row _ _ _ _ _ _ h1];have:=(List.getElem?_eq_some_iff.1 hj).1;rw[List.getElem?_toArray,getElem?_append_left this];exact hj⟩
 have:=qbm this off;rwa[zero_add] at this
theorem ztx {t:TypeId} {x a:AV} {u:Value} (h:zlv P U t x=some a)(hx:Rep IT X x u)(hI:Inv IT U X):
 ∃v,(Instr.loadAt t u).run P X.w= .ok v X.w/\ Rep IT X a v:=by
 cases x with
 | iptr cs=>
  rw[Rep] at hx;obtain⟨b,o,rfl,hat⟩:=hx;obtain⟨v,h1,h2⟩:=zxg (b:=b) (o:=o) h (zha hat);exact⟨v,by simp[Instr.loadAt,Instr.sureAddr,h1],h2⟩
 | ptr s off=>
  rw[Rep] at hx;obtain⟨b,hb,rfl⟩:=hx;simp only[zlv] at h;cases hs:U.boxes[s]? with
  |none=>rw[hs] at h;cases h
  | some bx=>
   rw[hs] at h;obtain⟨v,h1,h2⟩:=zxg (b:=b) (o:=off) h (zus hI hb hs off);exact⟨v,by simp[Instr.loadAt,Instr.sureAddr,h1],h2⟩
 |_=>cases h
def qcn (n:Nat):AV->Option AV
 | .ptr s off=>some (.ptr s (off+n))
 | .iptr cs=>some (.iptr (cs.drop n))
 |_=>none
theorem zum {x a:AV} {u:Value} (h:qcn n x=some a)(hx:Rep IT X x u): ∃ad,u= .pointer (some ad)/\ Rep IT X a (.pointer (some (ad.add n))):=by
 cases x with
 | iptr cs=>
  rw[Rep] at hx;obtain⟨b,o,rfl,hat⟩:=hx;simp[qcn] at h;subst h;refine⟨_,rfl,?_⟩;rw[Rep];exact⟨b,o+n,by rw[zhg],zzg n hat⟩
 | ptr s off=>
  rw[Rep] at hx;obtain⟨b,hb,rfl⟩:=hx;simp[qcn] at h;subst h;refine⟨_,rfl,?_⟩;rw[Rep];exact⟨b,hb,by rw[zhg]⟩
 |_=>cases h
def zcp (P:Program)(t:TypeId):Option Nat:=(P.info? t).map (·.size)
theorem zel {t:TypeId} (h:zcp P t=some n)(w:World):(sizeOf t).run P w= .ok n w:=by
 unfold zcp at h;cases hi:P.info? t with
 |none=>simp[hi] at h
 |some i=>simp[hi] at h;rw[zkb hi,h]
def znb (P:Program)(t:TypeId)(f:Nat)(x:AV):Option AV:=
 match P.underlying t with
 | some (.struct fs)=>match fs[f]? with
  | some fd=>match zcp P fd.type with
   |some n=>if n=0 then none else qcn fd.offset x
   |none=>none
  |none=>none
 |_=>none
theorem zte {t:TypeId} {f:Nat} {x a:AV} {u:Value} (h:znb P t f x=some a)(hx:Rep IT X x u):
 ∃v,(Instr.fieldAt t u f).run P X.w= .ok v X.w/\ Rep IT X a v:=by
 unfold znb at h;split at h<;>try cases h
 rename_i fs hu;split at h<;>try cases h
 rename_i fd hf;split at h<;>try cases h
 rename_i n hn;split at h
 ·cases h
 rename_i h0;obtain⟨ad,rfl,hr⟩:=zum h hx;refine⟨_,?_,hr⟩;simp[Instr.fieldAt,underlying,program,Sem.run,hu,hf,Instr.sureAddr,fieldPlace,zel hn,h0]
def zie (P:Program)(t:TypeId)(x i:AV):Option AV:=
 match i with
 | .raw (.int k n)=>match P.underlying t with
  | some (.array len e)=>match zcp P e with
   |some sz=>if 0<=n/\ n<len then qcn (n.toNat*sz) x else none
   |none=>none
  | some (.slice e)=>match zcp P e,x with
   |some sz,.list len cs _=>if 0<=n/\ n<len/\ cs≠[] then some (.iptr (cs.drop (n.toNat*sz))) else none
   |some sz,.bsl s off len _ _=>if 0<=n/\ n<len then some (.ptr s (off+n.toNat*sz)) else none
   |_,_=>none
  |_=>none
 |_=>none
theorem ztb {t:TypeId} {x i a:AV} {u:Value} (h:zie P t x i=some a)(hx:Rep IT X x u)(hi:Rep IT X i j):
 ∃v,(Instr.indexAt t u j).run P X.w= .ok v X.w/\ Rep IT X a v:=by
 unfold zie at h;split at h<;>try cases h
 rename_i k n;rw[Rep] at hi;subst hi;split at h<;>try cases h
 ·rename_i len e hu;split at h<;>try cases h
  rename_i sz hn;split at h
  ·rename_i hb;obtain⟨ad,rfl,hr⟩:=zum h hx;refine⟨_,?_,hr⟩;simp[Instr.indexAt,asIntOf,underlying,program,Sem.run,hu,Instr.sureAddr,zel hn,hb]
  ·cases h
 ·rename_i e hu;split at h<;>try cases h
  ·rename_i sz len cs st hn;split at h
   ·rename_i hb;cases h;rw[Rep] at hx;obtain⟨ad,cap,rfl,_,hc,_⟩:=hx;rcases hc with hc|⟨b,o,rfl,hat⟩
    ·exact absurd hc hb.2.2
    ·refine⟨.pointer (some ((⟨b,o,none⟩:Addr).add (n.toNat*sz))),?_,?_⟩
     ·simp[Instr.indexAt,asIntOf,underlying,program,Sem.run,hu,zel hn,hb.1,hb.2.1]
     ·rw[Rep];exact⟨b,o+n.toNat*sz,by rw[zhg],zzg _ hat⟩
   ·cases h
  ·rename_i sz s off len sz' f hn;split at h
   ·rename_i hb;cases h;rw[Rep] at hx;obtain⟨b,cap,cur,t0,hk,rfl,_⟩:=hx;refine⟨.pointer (some ((⟨b,off,none⟩:Addr).add (n.toNat*sz))),?_,?_⟩
    ·simp[Instr.indexAt,asIntOf,underlying,program,Sem.run,hu,zel hn,hb.1,hb.2]
    ·rw[Rep];exact⟨b,hk,by rw[zhg]⟩
   ·cases h
def qmb (P:Program)(t:TypeId)(cs:List AV)(off:Nat):Option AV:=rd P t (cs.drop off)
theorem zwz {t:TypeId} {cs:List AV} {off:Nat} {a:AV} {vs:List Value} (h:qmb P t cs off=some a)(hr:zbo IT X cs vs)(h1: ∀v∈vs,v.oneCell'=true):
 ∃v,(part t vs.toArray off).run P X.w= .ok v X.w/\ Rep IT X a v:=by
 unfold qmb rd at h;have hd:=zir hr off;cases hu:P.underlying t with
 |none=>rw[hu] at h;cases P.info? t<;>simp at h
 | some d=>
  cases hi:P.info? t with
  |none=>rw[hu,hi] at h;cases d<;>simp at h
  | some i=>
   rw[hu,hi] at h;have agg:(if i.size<=(cs.drop off).length then some (AV.agg ((cs.drop off).take i.size)) else none)=some a->Rep IT X a (.agg (vs.toArray.extract off (off+i.size))):=by
    intro h;split at h
    ·cases h;rw[Rep];refine⟨(vs.drop off).take i.size,?_,zil hd _,fun u hu=>h1 u (List.mem_of_mem_drop (mem_of_mem_take hu))⟩;congr 1
     apply Array.ext';simp[List.extract_eq_take_drop]
    ·cases h
   unfold part;cases d with
   |struct fs=>exact⟨_,by simp[zki hu,zkb hi],agg h⟩
   |array n e=>exact⟨_,by simp[zki hu,zkb hi],agg h⟩
   | _=>
    simp only[List.head?_drop] at h;obtain⟨v,hv,hr'⟩:=zet hr off a h;refine⟨v,?_,hr'⟩;have:vs.toArray[off]? =some v:=by simpa using hv
    simp only[Sem.run_bind,zki hu,Result.andThen_ok,Bool.false_eq_true,if_false,this,Sem.run_pure]
def qhx (P:Program)(t:TypeId)(f:Nat):AV->Option AV
 | .agg cs=>match P.underlying t with
  | some (.struct fs)=>match fs[f]? with
   |some fd=>qmb P fd.type cs fd.offset
   |none=>none
  |_=>none
 |_=>none
theorem z3r {t:TypeId} {f:Nat} {x a:AV} {u:Value} (h:qhx P t f x=some a)(hx:Rep IT X x u):
 ∃v,(Instr.field t u f).run P X.w= .ok v X.w/\ Rep IT X a v:=by
 cases x with
 | agg cs=>
  rw[Rep] at hx;obtain⟨vs,rfl,hr,h1⟩:=hx;simp only[qhx] at h;split at h<;>try cases h
  rename_i fs hu;split at h<;>try cases h
  rename_i fd hf;obtain⟨v,k1,k2⟩:=zwz h hr h1;exact⟨v,by simp[Instr.field,underlying,program,Sem.run,hu,hf,asAgg,k1],k2⟩
 |_=>cases h
def qib (P:Program)(t:TypeId)(x i:AV):Option AV:=
 match i,x with
 | .raw (.int k n),.agg cs=>match P.underlying t with
  | some (.array len e)=>match zcp P e with
   |some sz=>if 0<=n/\ n<len then qmb P e cs (n.toNat*sz) else none
   |none=>none
  |_=>none
 |_,_=>none
theorem z1b {t:TypeId} {x i a:AV} {u:Value} (h:qib P t x i=some a)(hx:Rep IT X x u)(hi:Rep IT X i j):
 ∃v,(Instr.index t u j).run P X.w= .ok v X.w/\ Rep IT X a v:=by
 unfold qib at h;split at h<;>try cases h
 rename_i k n cs;rw[Rep] at hi;subst hi;rw[Rep] at hx;obtain⟨vs,rfl,hr,h1⟩:=hx;split at h<;>try cases h
 rename_i len e hu;split at h<;>try cases h
 rename_i sz hn;split at h
 ·rename_i hb;obtain⟨v,k1,k2⟩:=zwz h hr h1;exact⟨v,by simp[Instr.index,asIntOf,underlying,program,Sem.run,hu,zel hn,hb,k1],k2⟩
 ·cases h
variable {IT:IterP} {U:St} {X:Cx}
theorem Inv.κlt (hI:Inv IT U X) {b:Nat} (hb:b∈X.κ):b<X.w.heap.size:=by
 obtain⟨s,hs,rfl⟩:=List.mem_iff_getElem.1 hb;have hs':X.κ[s]? =some X.κ[s]:=by simp[hs]
 have hl:=hI.κlen;obtain⟨t,cs,he⟩: ∃t cs,U.boxes[s]? =some (t,cs):=⟨(U.boxes[s]'(by omega)).1,(U.boxes[s]'(by omega)).2,by rw[getElem?_eq_getElem (by omega)]⟩;obtain⟨vs,zs,h1,_⟩:=hI.box s _ t cs hs' he;exact(Array.getElem?_eq_some_iff.1 h1).1
theorem Inv.βlt (hI:Inv IT U X) {r:Row} (hr:r∈X.β):r.block<X.w.heap.size:=by
 obtain⟨s,hs,rfl⟩:=List.mem_iff_getElem.1 hr;have hs':X.β[s]? =some X.β[s]:=by simp[hs]
 have hl:=hI.βlen;obtain⟨cur,fz,h1,_⟩:=hI.row s _ (X.lens[s]'(by omega)) hs' (by rw[getElem?_eq_getElem (by omega)]);exact(Array.getElem?_eq_some_iff.1 h1).1
theorem Inv.Olt (hI:Inv IT U X) {b:Nat} (h:X.O b):b<X.w.heap.size:=by
 obtain⟨⟨cs,t,f,h⟩,_⟩:=hI.Ok b h;exact(Array.getElem?_eq_some_iff.1 h).1
theorem z0q {w:World} {b o:Nat} {v:Value} (h:w.cell? ⟨b,o,none⟩=some v):b<w.heap.size:=by
 unfold World.cell? at h;cases hb:w.heap[b]? with
 |none=>simp[hb] at h
 |some x=>exact(Array.getElem?_eq_some_iff.1 hb).1
theorem Inv.Flt (hI:Inv IT U X) {b o:Nat} (hf:X.F b o):b<X.w.heap.size:=by
 obtain⟨v,hv⟩:=hI.Fcell b o hf;exact z0q hv
theorem zzh (hIT:ITMono IT) {U:St} {X:Cx} (hI:Inv IT U X) {s b:Nat} {t:TypeId} {cs cs':List AV} {vs' zs:List Value} (hs:X.κ[s]? =some b)(hb:U.boxes[s]? =some (t,cs))(hne:cs≠[])
 (hsize: ∀cur t f,X.w.heap[b]? =some (.cells cur t f)->cur.size=(vs'++zs).length) (hr:zbo IT X cs' vs') (h1: ∀v∈vs',v.oneCell'=true):
 Ext X {X with w:=X.w.setRow b (vs'++zs).toArray}/\ Inv IT {U with boxes:=U.boxes.set s (t,cs')} {X with w:=X.w.setRow b (vs'++zs).toArray}:=by
 obtain⟨vs,zs0,k1,k2,k3⟩:=hI.box s b t cs hs hb;have hbm:b∈X.κ:=mem_of_getElem? hs;have hnew:(X.w.setRow b (vs'++zs).toArray).heap[b]? =some (.cells (vs'++zs).toArray t (0,0)):=setRow_heap _ _ _ _ _ _ k1;have hcell: ∀(b' o:Nat),X.F b' o->(X.w.setRow b (vs'++zs).toArray).cell? ⟨b',o,none⟩=X.w.cell? ⟨b',o,none⟩:=fun b' o hf=>
  cell_setRow_other _ _ _ _ fun e=>hI.κF s b t cs hs hb hne o (e▸hf)
 have hdead: ∀(s':Nat) (t':TypeId) (c:List AV),X.κ[s']? =some b->s'≠s->U.boxes[s']? =some (t',c)->c=[]:=fun s' t' c h2 h3 h4=>by
  rcases hI.κnd s' s b h2 hs h3 with⟨t2,h5⟩|⟨t2,h5⟩
  ·rw[h4] at h5;cases h5;rfl
  ·rw[hb] at h5;cases h5;exact absurd rfl hne
 have hE:Ext X {X with w:=X.w.setRow b (vs'++zs).toArray}:={
  os:=rfl,tape:=rfl,output:=rfl,size:=by simp,drawn:=(by first|exact le_refl _|exact Nat.le_succ _)
  F:=fun _ _ h=>h
  cell:=hcell
  κ:=fun _ _ h=>h
  lens:=fun s L h=>⟨L,h,le_refl _,fun _=>rfl⟩
  blk:=fun s' b' _ cur t' f h=>by
   by_cases e:b'=b
   ·subst e;rw[k1] at h;have h2:=hsize _ _ _ k1;cases h;exact⟨_,hnew,by simpa using h2.symm⟩
   ·exact⟨cur,(setRow_other _ _ _ _ e).trans h,rfl⟩
  szs:=Szs.one b (fun k _ e=>setRow_other _ _ _ _ e) fun cs t f h=>by
   rw[k1] at h;have h2:=hsize _ _ _ k1;cases h;exact⟨_,_,_,hnew,by simpa using h2.symm⟩
  frame:=fun b' _ hk _=>setRow_other _ _ _ _ fun e=>hk (e▸hbm)
  κnew:=fun _ h=> .inl h
  βnew:=fun r h=> .inl ⟨r,h,rfl⟩
  O:=rfl
  C:=rfl
  Fnew:=fun _ _ h=> .inl h}
 refine⟨hE,{hI with
  gv:=qjm hIT hE hI.gv
  lens:=hI.lens
  elems:=hI.elems
  κlen:=by simpa using hI.κlen
  κnd:=fun s1 s2 b' h2 h3 h4=> ?_
  κF:=fun s' b' t' c hs' hb' hc o hf=> ?_
  box:=fun s' b' t' c hs' hb'=> ?_
  row:=fun s' r L hr' hL=> ?_
  Ok:=fun b' ho=>by
   obtain⟨⟨cs0,t0,f0,h0⟩,h2,h3,h4⟩:=hI.Ok b' ho;exact⟨⟨cs0,t0,f0,(setRow_other _ _ _ _ (by intro e;subst e;exact h2 hbm)).trans h0⟩,h2,h3,h4⟩
  Fcell:=fun b' o hf=>by
   obtain⟨v,hv⟩:=hI.Fcell b' o hf;exact⟨v,(hcell b' o hf).trans hv⟩}⟩
 ·have put: ∀(s':Nat),s'≠s-> ∀t0,U.boxes[s']? =some (t0,[])-> ∃t0,(U.boxes.set s (t,cs'))[s']? =some (t0,[]):=fun s' e t0 h=>⟨t0,by rw[getElem?_set_ne (Ne.symm e)];exact h⟩;by_cases e1:s1=s
  ·subst e1;rw[hs] at h2;cases h2;obtain⟨c2,hc2⟩: ∃c2,U.boxes[s2]? =some c2:=by
    have:s2<X.κ.length:=(List.getElem?_eq_some_iff.1 h3).1;have hl:=hI.κlen;exact⟨U.boxes[s2]'(by omega),getElem?_eq_getElem _⟩
   obtain⟨t2,c2⟩:=c2;have:=hdead s2 t2 c2 h3 (Ne.symm h4) hc2;subst this;exact .inr (put s2 (Ne.symm h4) t2 hc2)
  ·by_cases e2:s2=s
   ·subst e2;rw[hs] at h3;cases h3;obtain⟨c2,hc2⟩: ∃c2,U.boxes[s1]? =some c2:=by
     have:s1<X.κ.length:=(List.getElem?_eq_some_iff.1 h2).1;have hl:=hI.κlen;exact⟨U.boxes[s1]'(by omega),getElem?_eq_getElem _⟩
    obtain⟨t2,c2⟩:=c2;have:=hdead s1 t2 c2 h2 h4 hc2;subst this;exact .inl (put s1 h4 t2 hc2)
   ·exact(hI.κnd s1 s2 b' h2 h3 h4).imp (fun⟨t0,h⟩=>put s1 e1 t0 h) (fun⟨t0,h⟩=>put s2 e2 t0 h)
 ·by_cases e:s'=s
  ·subst e;rw[hs] at hs';cases hs';have hlt:s'<U.boxes.length:=(List.getElem?_eq_some_iff.1 hb).1;have hb2:some (t,cs')=some (t',c):=by
    have:(U.boxes.set s' (t,cs'))[s']? =some (t',c):=hb';rwa[getElem?_set_self hlt] at this
   cases hb2;exact⟨vs',zs,hnew,zau hIT hE _ _ hr,h1⟩
  ·have hb2:U.boxes[s']? =some (t',c):=by
    have:(U.boxes.set s (t,cs'))[s']? =some (t',c):=hb';rwa[getElem?_set_ne (Ne.symm e)] at this
   obtain⟨us,zs',u1,u2,u3⟩:=hI.box s' b' t' c hs' hb2;by_cases hbb:b'=b
   ·subst hbb;have hc:=hdead s' t' c hs' e hb2;subst hc;rw[k1] at u1;simp only[Option.some.injEq,Obj.cells.injEq] at u1;obtain⟨_,rfl,_⟩:=u1;exact⟨[],vs'++zs,hnew,by rw[zbo],by simp⟩
   ·exact⟨us,zs',(setRow_other _ _ _ _ hbb).trans u1,zau hIT hE _ _ u2,u3⟩
 ·by_cases e:s'=s
  ·subst e;rw[hs] at hs';cases hs';exact hI.κF s' b t cs hs hb hne o hf
  ·have hb2:U.boxes[s']? =some (t',c):=by
    have:(U.boxes.set s (t,cs'))[s']? =some (t',c):=hb';rwa[getElem?_set_ne (Ne.symm e)] at this
   exact hI.κF s' b' t' c hs' hb2 hc o hf
 ·obtain⟨cur,fz,c1,c2⟩:=hI.row s' r L hr' hL;have hne:r.block≠b:=fun e=>hI.βκ r (mem_of_getElem? hr') (e▸hbm);exact⟨cur,fz,(setRow_other _ _ _ _ hne).trans c1,c2⟩
theorem zuf (hI:Inv IT U X)(o:Obj)(G:Nat->Prop)(κn:List Nat)(hκ: ∀b∈κn,b=X.w.heap.size):
 Ext X {X with w:=X.w.alloc o,F:=fun b i=>X.F b i \/(b=X.w.heap.size/\ G i),κ:=X.κ++κn} where
 os:=rfl
 tape:=rfl
 output:=rfl
 size:=by simp
 drawn:=(by first|exact le_refl _|exact Nat.le_succ _)
 F:=fun _ _ h=> .inl h
 cell:=fun b i hf=>World.cell?_of_block (Below.heap_alloc _ _ _ (hI.Flt hf))
 κ :=fun s b h=>by
  have:=(List.getElem?_eq_some_iff.1 h).1
  show(X.κ++κn)[s]? =some b
  rw[getElem?_append_left this];exact h
 lens:=fun s L h=>⟨L,h,le_refl _,fun _=>rfl⟩
 blk:=fun s b hs cur t f h=>⟨cur,(Below.heap_alloc _ _ _ (hI.κlt (mem_of_getElem? hs))).trans h,rfl⟩
 szs:=Szs.old fun k hk=>Below.heap_alloc _ _ _ hk
 frame:=fun b hb _ _=>Below.heap_alloc _ _ _ hb
 κnew:=fun b h=>by
  rcases mem_append.1 h with h|h
  ·exact .inl h
  ·exact .inr (by rw[hκ b h];exact le_refl _)
 βnew:=fun r h=> .inl ⟨r,h,rfl⟩
 O:=rfl
 C:=rfl
 Fnew:=fun b i h=>by
  rcases h with h|⟨h,_⟩
  ·exact .inl h
  ·exact .inr (.inl (h▸le_refl _))
theorem z8v (hIT:ITMono IT) {U:St} {X:Cx} (hI:Inv IT U X) {t:TypeId} {cs:List AV} {vs:List Value} (zs:List Value)(hr:zbo IT X cs vs)(h1: ∀v∈vs,v.oneCell'=true):
 ∃X',X'.w=X.w.alloc (.cells (vs++zs).toArray t)/\ Ext X X'/\ Inv IT {U with boxes:=U.boxes++[(t,cs)]} X'/\ Rep IT X' (.ptr U.boxes.length 0) (.pointer (some ⟨X.w.heap.size,0,none⟩)):=by
 have hE:=zuf hI (.cells (vs++zs).toArray t) (fun _=>False) [X.w.heap.size] (fun b h=>by simpa using h);refine⟨_,rfl,hE,?_,?_⟩
 ·refine {lens:=hI.lens,elems:=hI.elems,κlen:=by simp[hI.κlen],κnd:= ?_,box:= ?_,κF:= ?_,βlen:=hI.βlen,βnd:=hI.βnd,βκ:= ?_,row:= ?_,Ok:= ?_,Fcell:= ?_}
  ·intro s s' b h2 h3 h4;have old: ∀s,(X.κ++[X.w.heap.size])[s]? =some b->(X.κ[s]? =some b/\ s<U.boxes.length) \/(s=X.κ.length/\ b=X.w.heap.size):=fun s h=>by
    have hl:=hI.κlen;rcases lt_or_ge s X.κ.length with hlt|hge
    ·rw[getElem?_append_left hlt] at h;exact .inl ⟨h,by omega⟩
    ·have:=(List.getElem?_eq_some_iff.1 h).1;simp at this;have e:s=X.κ.length:=by omega
     subst e;simp at h;exact .inr ⟨rfl,h.symm⟩
   have up: ∀s,s<U.boxes.length->(∃t,U.boxes[s]? =some (t,[]))-> ∃t',(U.boxes++[(t,cs)])[s]? =some (t',[]):=fun s hs ⟨t0,h⟩=>⟨t0,by rw[getElem?_append_left hs];exact h⟩;rcases old s h2 with⟨k2,l2⟩|⟨k2,l2⟩
   ·rcases old s' h3 with⟨k3,l3⟩|⟨k3,l3⟩
    ·exact(hI.κnd s s' b k2 k3 h4).imp (up s l2) (up s' l3)
    ·have:=hI.κlt (mem_of_getElem? k2);omega
   ·rcases old s' h3 with⟨k3,l3⟩|⟨k3,l3⟩
    ·have:=hI.κlt (mem_of_getElem? k3);omega
    ·omega
  ·intro s b t' c hs hb;have hlen:=hI.κlen;rcases lt_or_ge s X.κ.length with hlt|hge
   ·have hs':X.κ[s]? =some b:=by rw[<-hs];exact(getElem?_append_left hlt).symm
    have hb':U.boxes[s]? =some (t',c):=by rw[<-hb];exact(getElem?_append_left (by omega)).symm
    obtain⟨us,zs',u1,u2,u3⟩:=hI.box s b t' c hs' hb';exact⟨us,zs',(Below.heap_alloc _ _ _ (hI.κlt (mem_of_getElem? hs'))).trans u1,zau hIT hE _ _ u2,u3⟩
   ·have h0:s=X.κ.length:=by
     have:=(List.getElem?_eq_some_iff.1 hs).1;simp at this;omega
    subst h0;have e1:b=X.w.heap.size:=by
     have:(X.κ++[X.w.heap.size])[X.κ.length]? =some b:=hs;simp at this;exact this.symm
    have e2:(t,cs)=(t',c):=by
     have:(U.boxes++[(t,cs)])[X.κ.length]? =some (t',c):=hb;rw[hlen] at this;simpa using this
    cases e2;subst e1;exact⟨vs,zs,zfl _ _ _ rfl,zau hIT hE _ _ hr,h1⟩
  ·intro s b t' c hs hb hc o hf;rcases hf with hf|⟨_,hf⟩
   ·have hlen:=hI.κlen;rcases lt_or_ge s X.κ.length with hlt|hge
    ·have hs':X.κ[s]? =some b:=by rw[<-hs];exact(getElem?_append_left hlt).symm
     have hb':U.boxes[s]? =some (t',c):=by rw[<-hb];exact(getElem?_append_left (by omega)).symm
     exact hI.κF s b t' c hs' hb' hc o hf
    ·have h0:s=X.κ.length:=by
      have:=(List.getElem?_eq_some_iff.1 hs).1;simp at this;omega
     subst h0;have e1:b=X.w.heap.size:=by
      have:(X.κ++[X.w.heap.size])[X.κ.length]? =some b:=hs;simp at this;exact this.symm
     have:=hI.Flt hf;omega
   ·exact hf
  ·intro r hr' hm;rcases mem_append.1 hm with hm|hm
   ·exact hI.βκ r hr' hm
   ·have:=hI.βlt hr';simp at hm;omega
  ·intro s r L hr' hL;obtain⟨cur,fz,c1,c2,c3,c4,c5,c6,c7⟩:=hI.row s r L hr' hL;refine⟨cur,fz,(Below.heap_alloc _ _ _ (hI.βlt (mem_of_getElem? hr'))).trans c1,c2,c3,c4,c5,fun o hf=> ?_,c7⟩;rcases hf with hf|⟨_,hf⟩
   ·exact c6 o hf
   ·exact hf.elim
  ·intro b ho;obtain⟨⟨cs0,t0,f0,h0⟩,h2,h3,h4⟩:=hI.Ok b ho;have hlt:=hI.Olt ho;refine⟨⟨cs0,t0,f0,(Below.heap_alloc _ _ _ hlt).trans h0⟩,fun hm=> ?_,h3,fun o hf=>hf.elim (h4 o) fun h=>h.2.elim⟩;rcases mem_append.1 hm with hm|hm
   ·exact h2 hm
   ·simp at hm;omega
  ·intro b o hf;rcases hf with hf|⟨_,hf⟩
   ·obtain⟨v,hv⟩:=hI.Fcell b o hf;exact⟨v,(hE.cell b o hf).trans hv⟩
   ·exact hf.elim
 ·rw[Rep];refine⟨X.w.heap.size,?_,rfl⟩
  show(X.κ++[X.w.heap.size])[U.boxes.length]? =_
  rw[<-hI.κlen];simp
theorem z0i (hIT:ITMono IT) {U:St} {X:Cx} (hI:Inv IT U X) {t:TypeId} {cs:List AV} {vs:List Value} (hr:zbo IT X cs vs)(h1: ∀v∈vs,v.oneCell'=true):
 ∃X',X'.w=X.w.alloc (.cells vs.toArray t)/\ Ext X X'/\ Inv IT {U with boxes:=U.boxes++[(t,cs)]} X'/\ Rep IT X' (.ptr U.boxes.length 0) (.pointer (some ⟨X.w.heap.size,0,none⟩)):=by
 obtain⟨X',h1,h2⟩:=z8v hIT hI (t:=t) [] hr h1;exact⟨X',by rw[h1,List.append_nil],h2⟩
theorem z1j {b:Nat}: ∀ {cs:List AV} {vs:List Value} {o:Nat},(∀j,j<vs.length->X.F b (o+j))->(∀v∈vs,v.oneCell'=true)->zbo IT X cs vs->(∀(j:Nat) v,vs[j]? =some v->X.w.cell? ⟨b,o+j,none⟩=some v)->At IT X cs b o
 |[],vs,o,_,_,_,_=>by rw[At];trivial
 | a::l,vs,o,hf,h1,h,hc=>by
  rw[zbo] at h;obtain⟨v,r,rfl,h2,h3⟩:=h;rw[At];refine⟨⟨by simpa using hf 0 (by simp),v,by simpa using hc 0 v rfl,h1 v (by simp),h2⟩,z1j (fun j hj=> ?_) (fun u hu=>h1 u (by simp[hu])) h3 fun j u hu=> ?_⟩
  ·have:=hf (j+1) (by simp;omega);rwa[show o+(j+1)=o+1+j by omega] at this
  ·have:=hc (j+1) u (by simpa using hu);rwa[show o+(j+1)=o+1+j by omega] at this
theorem qcw (hIT:ITMono IT) {U:St} {X:Cx} (hI:Inv IT U X)(t:TypeId) {cs:List AV} {vs:List Value} (hr:zbo IT X cs vs)(h1: ∀v∈vs,v.oneCell'=true):
 ∃ X',X'.w=X.w.alloc (.cells vs.toArray t)/\ Ext X X'/\ Inv IT U X'/\ At IT X' cs X.w.heap.size 0/\
  Grows X.w X'.w/\ X'.κ=X.κ/\ X'.β=X.β/\ X'.lens=X.lens/\ (X'.O=X.O/\ X'.C=X.C)/\ ∀b i,X'.F b i->X.F b i \/X.w.heap.size<=b:=by
 have hE:=zuf hI (.cells vs.toArray t) (fun i=>i<vs.length) [] (fun b h=>by simp at h);refine⟨_,rfl,hE,?_,?_,(Ex.refl _ _).alloc (le_refl _) _,by simp,rfl,rfl,⟨rfl,rfl⟩,fun b i h=>h.imp id fun h=>Nat.le_of_eq h.1.symm⟩
 ·refine {lens:=hI.lens,elems:=hI.elems,κlen:=by simpa using hI.κlen,κnd:=by simpa using hI.κnd,box:= ?_,κF:= ?_,βlen:=hI.βlen,βnd:=hI.βnd,βκ:=by simpa using hI.βκ,row:= ?_,Ok:= ?_,Fcell:= ?_}
  ·intro s b t' c hs hb;have hs':X.κ[s]? =some b:=by simpa using hs
   obtain⟨us,zs',u1,u2,u3⟩:=hI.box s b t' c hs' hb;exact⟨us,zs',(Below.heap_alloc _ _ _ (hI.κlt (mem_of_getElem? hs'))).trans u1,zau hIT hE _ _ u2,u3⟩
  ·intro s b t' c hs hb hc o hf;have hs':X.κ[s]? =some b:=by simpa using hs
   rcases hf with hf|⟨e,_⟩
   ·exact hI.κF s b t' c hs' hb hc o hf
   ·have:=hI.κlt (mem_of_getElem? hs');omega
  ·intro s r L hr' hL;obtain⟨cur,fz,c1,c2,c3,c4,c5,c6,c7⟩:=hI.row s r L hr' hL;have hlt:=hI.βlt (mem_of_getElem? hr');refine⟨cur,fz,(Below.heap_alloc _ _ _ hlt).trans c1,c2,c3,c4,c5,fun o hf=> ?_,c7⟩;rcases hf with hf|⟨e,_⟩
   ·exact c6 o hf
   ·omega
  ·intro b ho;obtain⟨⟨cs0,t0,f0,h0⟩,h2,h3,h4⟩:=hI.Ok b ho;have hlt:=hI.Olt ho;exact⟨⟨cs0,t0,f0,(Below.heap_alloc _ _ _ hlt).trans h0⟩,by simpa using h2,h3,fun o hf=>hf.elim (h4 o) fun h=>by omega⟩
  ·intro b o hf;rcases hf with hf|⟨e,hf⟩
   ·obtain⟨v,hv⟩:=hI.Fcell b o hf;exact⟨v,(hE.cell b o hf).trans hv⟩
   ·subst e;refine⟨vs[o],?_⟩
    show(X.w.alloc _).cell? _=_
    rw[cell_of_row _ _ _ _ _ _ (zfl _ _ _ rfl)];simp[hf]
 ·refine z1j (fun j hj=> .inr ⟨rfl,by omega⟩) h1 (zau hIT hE _ _ hr) fun j u hu=> ?_
  show(X.w.alloc _).cell? _=_
  rw[cell_of_row _ _ _ _ _ _ (zfl _ _ _ rfl),zero_add];simpa using hu
variable {IT:IterP} {X:Cx} {P:Program}
def zhs:AV->Bool
 | .raw u=>u.oneCell'
 | .agg _| .list _ _ _| .ptr _ _| .bsl _ _ _ _ _| .iptr _| .clos _ _| .yld _=>true
 |_=>false
theorem zmo {a:AV} {v:Value} (h:zhs a=true)(k:Rep IT X a v):zbo IT X (cellsOf a) v.cells.toList/\ ∀u∈v.cells.toList,u.oneCell'=true:=by
 have one:v.oneCell'=true->v.cells= #[v]->Rep IT X a v->zbo IT X [a] v.cells.toList/\ ∀u∈v.cells.toList,u.oneCell'=true:=fun h1 h2 h3=>by
  rw[h2,zbo];exact⟨⟨v,[],by simp,h3,by rw[zbo]⟩,by simpa using h1⟩
 cases a with
 | raw u=>
  have hk:=k;rw[Rep] at k;subst k;exact one h (by cases v<;>first|rfl|simp[zhs,Value.oneCell'] at h) hk
 | agg cs=>
  rw[Rep] at k;obtain⟨vs,rfl,k1,k2⟩:=k;exact⟨by simpa[cellsOf,Value.cells] using k1,by simpa[Value.cells] using k2⟩
 | list n cs st=>
  have hk:=k;rw[Rep] at k;obtain⟨_,_,rfl,_⟩:=k;exact one rfl rfl hk
 | ptr s off=>
  have hk:=k;rw[Rep] at k;obtain⟨_,_,rfl⟩:=k;exact one rfl rfl hk
 | bsl s off n sz f=>
  have hk:=k;rw[Rep] at k;obtain⟨_,_,_,_,_,rfl,_⟩:=k;exact one rfl rfl hk
 | iptr cs=>
  have hk:=k;rw[Rep] at k;obtain⟨_,_,rfl,_⟩:=k;exact one rfl rfl hk
 | clos f c=>
  have hk:=k;rw[Rep] at k;obtain⟨_,rfl,_⟩:=k;exact one rfl rfl hk
 | yld l=>
  have hk:=k;rw[Rep] at k;subst k;exact one rfl rfl hk
 |_=>cases h
def zqq (P:Program)(U:St)(t:TypeId)(x y:AV):Option St:=
 match x with
 | .ptr s off=>match U.boxes[s]?,zcp P t with
  |some bx,some n=>if zhs y=true/\ (cellsOf y).length=n/\ off+n<=bx.2.length/\ 0<n then some {U with boxes:=U.boxes.set s (bx.1,bx.2.take off++cellsOf y++bx.2.drop (off+n))} else none
  |_,_=>none
 |_=>none
theorem z4m (hIT:ITMono IT) {P:Program} {X:Cx} {U U':St} {t:TypeId} {x y:AV} {u v:Value} (h:zqq P U t x y=some U')(hx:Rep IT X x u)(hy:Rep IT X y v)(hI:Inv IT U X):
 ∃X',(Instr.storeAt t u v).run P X.w= .ok () X'.w/\ Ext X X'/\ Inv IT U' X':=by
 unfold zqq at h;split at h<;>try cases h
 rename_i s off;rw[Rep] at hx;obtain⟨b,hb,rfl⟩:=hx;split at h<;>try cases h
 rename_i bx n hbx hn;obtain⟨t0,cs⟩:=bx;split at h<;>try cases h
 rename_i hc;obtain⟨hc1,hc2,hc3,hc4⟩:=hc;obtain⟨k1,k2⟩:=zmo hc1 hy;obtain⟨vs,zs,u1,u2,u3⟩:=hI.box s b t0 cs hb hbx;have hl:=zu u2;have hl2:=zu k1;simp only at hc3;have hst:=run_storeCells_at P b off t0 v.cells.toList 0 (vs++zs).toArray X.w u1 (by simp at hl2⊢;omega) k2;simp only[Nat.add_zero] at hst;have hsz:v.cells.size=n:=by simp at hl2;omega
 have hlist:v.cells.toList.length=n:=by simpa using hsz
 rw[hlist] at hst
 obtain⟨e1,e2⟩:=zzh hIT hI (zs:=zs) hb hbx (by intro e;subst e;simp at hc3;omega) (fun cur t f hc=>by rw[u1] at hc;cases hc;simp at hl2⊢;omega) (zbq (zbq (zil u2 off) k1) (zir u2 (off+n)))
  (fun w hw=>by
   rcases mem_append.1 hw with hw|hw
   ·rcases mem_append.1 hw with hw|hw
    ·exact u3 w (mem_of_mem_take hw)
    ·exact k2 w hw
   ·exact u3 w (List.mem_of_mem_drop hw))
 have hrow:(vs++zs).take off++v.cells.toList++(vs++zs).drop (off+n)=vs.take off++v.cells.toList++vs.drop (off+n)++zs:=by
  rw[List.take_append_of_le_length (by omega),List.drop_append_of_le_length (by omega)];simp
 refine⟨_,?_,e1,e2⟩;simp only[Instr.storeAt,Instr.sureAddr,storeVar,Sem.run_bind,Sem.run_pure,Result.andThen_ok,zel hn,hsz];simp only[<-hrow];simpa using hst
theorem zqv {t:TypeId} {v:Value} (w:World):(newVar t v).run P w= .ok ⟨w.heap.size,0,none⟩ (w.alloc (.cells v.cells t)):=by
 rfl
def aBox (U:St)(t:TypeId)(x:AV):Option (AV×St):=
 if zhs x=true then some (.ptr U.boxes.length 0,{U with boxes:=U.boxes++[(t,cellsOf x)]}) else none
theorem zxt (hIT:ITMono IT) {P:Program} {X:Cx} {U U':St} {t:TypeId} {x a:AV} {v:Value} (h:aBox U t x=some (a,U'))(hx:Rep IT X x v)(hI:Inv IT U X):
 ∃X',(Instr.box t v).run P X.w= .ok (.pointer (some ⟨X.w.heap.size,0,none⟩)) X'.w/\ Ext X X'/\ Inv IT U' X'/\ Rep IT X' a (.pointer (some ⟨X.w.heap.size,0,none⟩)):=by
 unfold aBox at h;split at h<;>cases h
 rename_i hc;obtain⟨k1,k2⟩:=zmo hc hx;obtain⟨X',e1,e2,e3,e4⟩:=z0i hIT hI (t:=t) k1 k2;refine⟨X',?_,e2,e3,e4⟩;simp only[Instr.box,Sem.run_bind,zqv,Result.andThen_ok,Sem.run_pure,e1]
def zsl (P:Program)(U:St)(t:TypeId):Option (AV×St):=
 match P.info? t with
 | some i=>match i.zero with
  |some z=>if zog z=true then aBox U t (zja z) else none
  |none=>none
 |none=>none
theorem zkv {t:TypeId} {i:TypeInfo} {z:Value} (h:P.info? t=some i)(hz:i.zero=some z)(w:World):(zeroValue t).run P w= .ok z w:=by
 simp[zeroValue,typeInfo,program,Sem.run,h,hz]
theorem z4a (hIT:ITMono IT) {P:Program} {X:Cx} {U U':St} {t:TypeId} {a:AV} {old:Value} (h:zsl P U t=some (a,U'))(hI:Inv IT U X):
 ∃X',(Instr.alloc t true old).run P X.w= .ok (.pointer (some ⟨X.w.heap.size,0,none⟩)) X'.w/\ Ext X X'/\ Inv IT U' X'/\ Rep IT X' a (.pointer (some ⟨X.w.heap.size,0,none⟩)):=by
 unfold zsl at h;split at h<;>try cases h
 rename_i i hi;split at h<;>try cases h
 rename_i z hz;split at h<;>try cases h
 rename_i hok;obtain⟨X',e1,e2,e3,e4⟩:=zxt hIT (P:=P) h (zkc z hok) hI;refine⟨X',?_,e2,e3,e4⟩;have:(Instr.alloc t true old).run P X.w=(Instr.box t z).run P X.w:=by
  cases old<;>simp[Instr.alloc,Instr.box,zkv hi hz]
 rw[this];exact e1
def zyx (zgd:Nat->Option (Nat×Nat)):List AV->List (Nat×AV)->Option (List AV)
 |cells,[]=>some cells
 | cells,(i,a)::rest=>match zgd i with
  |none=>none
  |some (off,size)=>if zhs a=true/\ (cellsOf a).length=size/\ off+size<=cells.length then zyx zgd (cells.take off++cellsOf a++cells.drop (off+size)) rest else none
theorem zww (off:Nat): ∀(l:List Value) (k:Nat) (cs:Array Value),off+k+l.length<=cs.size->
 ((l.zipIdx k).foldl (fun cs (x:Value×Nat)=>cs.setIfInBounds (off+x.2) x.1) cs)=(cs.toList.take (off+k)++l++cs.toList.drop (off+k+l.length)).toArray
 |[],k,cs,_=>by simp
 | v::l,k,cs,h=>by
  rw[List.zipIdx_cons,List.foldl_cons,zww off l (k+1) _ (by simp at h⊢;omega)];apply Array.ext';have:=list_seg_step cs.toList (off+k) v l (by simp at h⊢;omega);simpa[Nat.add_assoc] using this
def zsw (IT:IterP)(X:Cx):List (Nat×AV)->List (Nat×Value)->Prop
 |[],qs=>qs=[]
 |p::ps,qs=> ∃v r,qs=(p.1,v)::r/\ Rep IT X p.2 v/\ zsw IT X ps r
theorem zri {zgd:Nat->Option (Nat×Nat)}: ∀ {ps:List (Nat×AV)} {qs:List (Nat×Value)} {cells cells':List AV} {vs:List Value},zyx zgd cells ps=some cells'->zsw IT X ps qs->zbo IT X cells vs->
 (∀v∈vs,v.oneCell'=true)-> ∃vs',Instr.fill zgd vs.toArray qs=some vs'.toArray/\ zbo IT X cells' vs'/\ ∀v∈vs',v.oneCell'=true
 | [],_,cells,cells',vs,h,hp,hr,h1=>by
  rw[zsw] at hp;subst hp;simp only[zyx,Option.some.injEq] at h;subst h;exact⟨vs,rfl,hr,h1⟩
 | (i, a)::ps,_,cells,cells',vs,h,hp,hr,h1=>by
  rw[zsw] at hp;obtain⟨v,qs,rfl,hv,hp⟩:=hp;simp only[zyx] at h;cases hpl:zgd i with
  |none=>rw[hpl] at h;cases h
  | some os=>
   obtain⟨off,size⟩:=os;rw[hpl] at h;simp only at h;split at h<;>try cases h
   rename_i hc;obtain⟨hc1,hc2,hc3⟩:=hc;obtain⟨k1,k2⟩:=zmo hc1 hv;have hl:=zu hr;have hl2:=zu k1;have hsz:v.cells.size=size:=by simp at hl2;omega
   have hlist:v.cells.toList.length=size:=by simpa using hsz
   have hfold:(v.cells.zipIdx.foldl (fun cs (x:Value×Nat)=>cs.setIfInBounds (off+x.2) x.1) vs.toArray)=(vs.take off++v.cells.toList++vs.drop (off+size)).toArray:=by
    have:=zww off v.cells.toList 0 vs.toArray (by simp;omega);rw[hlist] at this;simp only[Nat.add_zero] at this;rw[<-this, <-Array.foldl_toList,Array.toList_zipIdx]
   obtain⟨vs',e1,e2,e3⟩:=zri h hp (zbq (zbq (zil hr off) k1) (zir hr (off+size)))
    (fun w hw=>by
     rcases mem_append.1 hw with hw|hw
     ·rcases mem_append.1 hw with hw|hw
      ·exact h1 w (mem_of_mem_take hw)
      ·exact k2 w hw
     ·exact h1 w (List.mem_of_mem_drop hw))
   refine⟨vs',?_,e2,e3⟩;simp only[Instr.fill,hpl];rw[if_neg (by simp[hsz];omega)];rw[<-e1];congr 1
def zop (z:Value):List AV:=z.cells.toList.map zjr
theorem qej (l:List Value):zbo IT X (l.map zjr) l:=by
 refine zgk (by simp) fun i a v h1 h2=> ?_;rw[getElem?_map,h2] at h1;simp at h1;subst h1;exact zkm v
def qhh (P:Program)(t:TypeId)(parts:List (Nat×AV)):Option AV:=
 match P.info? t,P.underlying t with
 | some it,some (.array _ e)=>
  match it.zero,P.info? e with
  |some z,some ie=>if z.cells.toList.all (·.oneCell')=true then(zyx (fun i=>some (i*ie.size,ie.size)) (zop z) parts).map .agg else none
  |_,_=>none
 | some it,some (.struct fields)=>
  match it.zero,fields.toList.mapM (fun f=>(P.info? f.type).map fun i=>(f.offset,i.size)) with
  |some z,some places=>if z.cells.toList.all (·.oneCell')=true then(zyx (places.toArray[·]?) (zop z) parts).map .agg else none
  |_,_=>none
 |_,_=>none
theorem z3w {t:TypeId} {ps:List (Nat×AV)} {qs:Array (Nat×Value)} {a:AV} (h:qhh P t ps=some a)(hp:zsw IT X ps qs.toList):
 ∃v,(Instr.build t qs).run P X.w= .ok v X.w/\ Rep IT X a v:=by
 have fin: ∀(zgd:Nat->Option (Nat×Nat)) (z:Value),z.cells.toList.all (·.oneCell')=true->(zyx zgd (zop z) ps).map AV.agg=some a->(∀cells,Instr.fill zgd z.cells qs.toList=some cells->P.built t qs.toList=some cells)->
  ∃v,(Instr.build t qs).run P X.w= .ok v X.w/\ Rep IT X a v:=fun zgd z h1 h2 h3=>by
  simp only[Option.map_eq_some_iff] at h2;obtain⟨cells',h2,rfl⟩:=h2;obtain⟨vs',e1,e2,e3⟩:=zri h2 hp (qej z.cells.toList) (fun v hv=>all_eq_true.1 h1 v hv);refine⟨_,run_build X.w t qs _ (h3 _ (by simpa using e1)),?_⟩;rw[Rep];exact⟨vs',rfl,e2,e3⟩
 unfold qhh at h;split at h<;>try cases h
 ·rename_i it n e hi hu;split at h<;>try cases h
  rename_i z ie hz hie;split at h<;>try cases h
  rename_i h1;exact fin _ z h1 h fun cells hc=>by simp only[Program.built,hi,hu,hz,hie,hc]
 ·rename_i it fields hi hu;split at h<;>try cases h
  rename_i z places hz hpl;split at h<;>try cases h
  rename_i h1;exact fin _ z h1 h fun cells hc=>by simp only[Program.built,hi,hu,hz,hpl,hc]
def zle (P:Program)(t:TypeId)(len:Nat)(parts:List (Nat×AV)):Option (List AV×TypeId×Nat):=
 match P.underlying t with
 | some (.slice e)=>match P.info? e with
  | some ie=>match ie.zero with
   | some z=>
    if len=0 then(match parts with|[]=>some ([],e,ie.size)|_=>none)
    else if z.cells.toList.all (·.oneCell')=true/\ z.cells.size≠0/\ len*ie.size<=2^24/\ len*ie.size≠0 then
     (zyx (fun i=>some (i*ie.size,ie.size)) ((List.range (len*ie.size)).map fun k=>(zop z)[k%z.cells.size]?.getD .bad) parts).map fun cells=>(cells,e,ie.size)
    else none
   |none=>none
  |none=>none
 |_=>none
theorem zmm {t e:TypeId} {len sz:Nat} {ps:List (Nat×AV)} {qs:Array (Nat×Value)} {cs:List AV} (h:zle P t len ps=some (cs,e,sz))(hp:zsw IT X ps qs.toList):
 ∃vs:List Value,(Instr.buildSlice t len qs).run P X.w= .ok (.slice (some ⟨X.w.heap.size,0,none⟩) len len) (X.w.alloc (.cells vs.toArray e))/\ zbo IT X cs vs/\ ∀v∈vs,v.oneCell'=true:=by
 unfold zle at h;split at h<;>try cases h
 rename_i e' hu;split at h<;>try cases h
 rename_i ie hie;split at h<;>try cases h
 rename_i z hz;split at h
 ·rename_i h0;subst h0;split at h<;>cases h
  rw[zsw] at hp;refine⟨[],?_,by rw[zbo],by simp⟩;simp[Instr.buildSlice,underlying,sizeOf,typeInfo,program,Sem.run,hu,hie,hp,Instr.fill,newRow,newObj,Array.range_zero']
 split at h<;>try cases h
 rename_i hc;obtain⟨hc1,hc2,hc3,hc4⟩:=hc;simp only[Option.map_eq_some_iff,Prod.mk.injEq] at h;obtain⟨cells',h2,rfl,rfl,rfl⟩:=h;have hz0:zbo IT X ((List.range (len*ie.size)).map fun k=>(zop z)[k%z.cells.size]?.getD .bad) ((List.range (len*ie.size)).map (z.cells[· %z.cells.size]!)):=by
  refine zgk (by simp) fun i x v h1 h2=> ?_;rw[getElem?_map] at h1 h2;cases hr:(List.range (len*ie.size))[i]? with
  |none=>rw[hr] at h1;cases h1
  | some k=>
   rw[hr] at h1 h2;simp only[Option.map_some,Option.some.injEq] at h1 h2;have hlt:k%z.cells.size<z.cells.size:=Nat.mod_lt _ (Nat.pos_of_ne_zero hc2);subst h1 h2;have e1:(zop z)[k%z.cells.size]?.getD .bad=zjr z.cells[k%z.cells.size]:=by
    simp[zop,hlt]
   have e2:z.cells[k%z.cells.size]! =z.cells[k%z.cells.size]:=getElem!_pos z.cells (k%z.cells.size) hlt;rw[e1,e2];exact zkm _
 have hz1: ∀v∈(List.range (len*ie.size)).map (z.cells[· %z.cells.size]!),v.oneCell'=true:=by
  intro v hv;obtain⟨k,_,rfl⟩:=mem_map.1 hv;have hlt:k%z.cells.size<z.cells.size:=Nat.mod_lt _ (Nat.pos_of_ne_zero hc2);rw[getElem!_pos z.cells (k%z.cells.size) hlt];exact all_eq_true.1 hc1 _ (by simp)
 obtain⟨vs',e1,e2,e3⟩:=zri h2 hp hz0 hz1;exact⟨vs',run_buildSlice X.w t e' len qs vs'.toArray ie z hu hie hz (by omega) hc4 (by
  rw[<-e1];congr 1;apply Array.ext';simp),e2,e3⟩
def zqa (P:Program)(t:TypeId)(len:Nat)(parts:List (Nat×AV)):Option AV:=
 (zle P t len parts).map fun r=> .list len r.1 .full
theorem zua (hIT:ITMono IT) {P:Program} {X:Cx} {U:St} {t:TypeId} {len:Nat} {ps:List (Nat×AV)} {qs:Array (Nat×Value)} {a:AV} (h:zqa P t len ps=some a)(hp:zsw IT X ps qs.toList)(hI:Inv IT U X):
 ∃ v X',(Instr.buildSlice t len qs).run P X.w= .ok v X'.w/\ Ext X X'/\ Inv IT U X'/\ Rep IT X' a v/\
  Grows X.w X'.w/\ X'.κ=X.κ/\ X'.β=X.β/\ X'.lens=X.lens/\ (X'.O=X.O/\ X'.C=X.C)/\ ∀b i,X'.F b i->X.F b i \/X.w.heap.size<=b:=by
 unfold zqa at h;simp only[Option.map_eq_some_iff] at h;obtain⟨⟨cs,e,sz⟩,h,rfl⟩:=h;obtain⟨vs',e1,e2,e3⟩:=zmm h hp;obtain⟨X',x1,x2,x3,x4,x5⟩:=qcw hIT hI e e2 e3;refine⟨.slice (some ⟨X.w.heap.size,0,none⟩) len len,X',by rw[x1];exact e1,x2,x3,?_,x5⟩;rw[Rep];exact⟨_,_,rfl,⟨le_refl _,fun h=>by cases h⟩,.inr ⟨_,_,rfl,x4⟩,rfl⟩
def qnr (P:Program)(U:St)(t:TypeId)(len:Nat)(parts:List (Nat×AV)):Option (AV×St):=
 match zle P t len parts with
 |some (cs,e,sz)=>if cs.length=len*sz then some (.bsl U.boxes.length 0 len sz true,{U with boxes:=U.boxes++[(e,cs)]}) else none
 |none=>none
theorem z7h (hIT:ITMono IT) {P:Program} {X:Cx} {U U':St} {t:TypeId} {len:Nat} {ps:List (Nat×AV)} {qs:Array (Nat×Value)} {a:AV} (h:qnr P U t len ps=some (a,U'))(hp:zsw IT X ps qs.toList)(hI:Inv IT U X):
 ∃v X',(Instr.buildSlice t len qs).run P X.w= .ok v X'.w/\ Ext X X'/\ Inv IT U' X'/\ Rep IT X' a v:=by
 unfold qnr at h;split at h<;>try cases h
 rename_i cs e sz hl;split at h<;>cases h
 rename_i hlen;obtain⟨vs,e1,e2,e3⟩:=zmm hl hp;obtain⟨X',x1,x2,x3,x4⟩:=z0i hIT hI (t:=e) e2 e3;refine⟨_,X',(by rw[x1];exact e1),x2,x3,?_⟩;obtain⟨b,hb1,hb2⟩: ∃b,X'.κ[U.boxes.length]? =some b/\ Value.pointer (some ⟨X.w.heap.size,0,none⟩)= .pointer (some ⟨b,0,none⟩):=x4;have hb3:b=X.w.heap.size:=by simp at hb2;exact hb2.symm
 subst hb3;show Bsl X' _ _ _ _ _ _;have hl:=zu e2;refine⟨_,_,vs.toArray,e,hb1,rfl,le_refl _,fun _=>rfl,?_,by simp;omega⟩;rw[x1];exact zfl _ _ _ rfl
variable {IT:IterP} {P:Program} {X:Cx} {n:Nat}
def zig:AV->Nat->Option Nat
 | .raw (.int k n),y=>if 0<=n/\ n<=y then some n.toNat else none
 |_,_=>none
theorem zhk {x:AV} {v:Value} {y y':Nat} {c:BoundsCode} (h:zig x y=some n)(hx:Rep IT X x v)(hy:y<=y'):(Instr.sliceBound v y' c).run P X.w= .ok n X.w/\ n<=y:=by
 unfold zig at h;split at h<;>try cases h
 rename_i k i;split at h<;>cases h
 rename_i hc;rw[Rep] at hx;subst hx;refine⟨?_,by omega⟩;have:0<=i/\ i<=(y':Int):=⟨hc.1,by have:=hc.2;omega⟩;simp only[Instr.sliceBound,asIntOf,Sem.run_bind,Sem.run_pure,Result.andThen_ok,if_pos this]
def zep (n:Nat)(lo hi mx:Option AV):Option (Nat×Nat×Bool):=
 match mx with
 | some m=>match hi with
  | some h=>match zig m n with
   | some m=>match zig h m with
    | some h=>match lo with
     |some l=>match zig l h with|some l=>some (l,h,m==h)|none=>none
     |none=>some (0,h,m==h)
    |none=>none
   |none=>none
  |none=>none
 | none=>
  match(match hi with|some h=>zig h n|none=>some n) with
  | some h=>match lo with
   |some l=>match zig l h with|some l=>some (l,h,false)|none=>none
   |none=>some (0,h,false)
  |none=>none
def qhf (IT:IterP)(X:Cx):Option AV->Option Value->Prop
 |none,v=>v=none
 |some a,v=> ∃u,v=some u/\ Rep IT X a u
theorem zlf {cap:Nat} {lo hi mx:Option AV} {l h:Nat} {f:Bool} {lo' hi' mx':Option Value} (hb:zep n lo hi mx=some (l,h,f))(hl:qhf IT X lo lo')(hh:qhf IT X hi hi')(hm:qhf IT X mx mx')
 (hc:n<=cap): ∃m,(Instr.sliceBounds true n cap lo' hi' mx').run P X.w= .ok (l,h,m) X.w/\ l<=h/\ h<=n/\ h<=m/\ m<=cap/\ (f=true->m=h)/\ (mx=none->m=cap):=by
 unfold zep at hb;cases mx with
 | some am=>
  obtain⟨m',rfl,hm⟩:=hm;cases hi with
  |none=>simp at hb
  | some ah=>
   obtain⟨h',rfl,hh⟩:=hh;simp only at hb;split at hb<;>try cases hb
   rename_i m em;split at hb<;>try cases hb
   rename_i hv eh;obtain⟨r1,q1⟩:=zhk (P:=P) (c:= .slice3Acap) em hm hc;obtain⟨r2,q2⟩:=zhk (P:=P) (c:= .slice3B) eh hh (le_refl m);cases lo with
   | none=>
    cases hl;simp at hb;obtain⟨rfl,rfl,rfl⟩:=hb;exact⟨m,by simp[Instr.sliceBounds,r1,r2],by omega,by omega,by omega,by omega,by simp,by simp⟩
   | some al=>
    obtain⟨l',rfl,hl⟩:=hl;simp only at hb;split at hb<;>try cases hb
    rename_i lv el;obtain⟨r3,q3⟩:=zhk (P:=P) (c:= .slice3C) el hl (le_refl _);exact⟨m,by simp[Instr.sliceBounds,r1,r2,r3],by omega,by omega,by omega,by omega,by simp,by simp⟩
 | none=>
  cases hm;have hhi: ∀hv,(match hi with|some h=>zig h n|none=>some n)=some hv->((match hi',(none:Option Value) with|some v,some _=>Instr.sliceBound v cap .slice3B|some v,none=>Instr.sliceBound v cap .sliceAcap|none,none=>pure n|none,some _=>stuck "Slice: max without high" :Sem Nat).run P X.w= .ok hv X.w)/\ hv<=n:=fun hv e=>by
   cases hi with
   |none=>cases hh;simp at e;subst e;exact⟨by simp,le_refl _⟩
   | some ah=>
    obtain⟨h',rfl,hh⟩:=hh;exact zhk e hh hc
  simp only at hb;split at hb<;>try cases hb
  rename_i hv eh;obtain⟨r2,q2⟩:=hhi hv eh;cases lo with
  | none=>
   cases hl;simp at hb;obtain⟨rfl,rfl,rfl⟩:=hb;refine⟨cap,?_,by omega,by omega,by omega,by omega,by simp,by simp⟩;cases hi'<;>simp at r2<;>simp[Instr.sliceBounds,r2]
  | some al=>
   obtain⟨l',rfl,hl⟩:=hl;simp only at hb;split at hb<;>try cases hb
   rename_i lv el;obtain⟨r3,q3⟩:=zhk (P:=P) (c:= .sliceB) el hl (le_refl _);refine⟨cap,?_,by omega,by omega,by omega,by omega,by simp,by simp⟩;cases hi'<;>simp at r2<;>simp[Instr.sliceBounds,r2,r3]
def zln (P:Program)(t:TypeId)(x:AV)(lo hi mx:Option AV):Option AV:=
 match P.underlying t,x with
 | some (.slice e),.list n cs st=>match zcp P e,zep n lo hi mx with
  | some sz,some (l,h,f)=>
   if cs.length=n*sz then
    some (.list (h-l) ((cs.drop (l*sz)).take ((h-l)*sz))
     (if f then .full else if l=0/\ h=n/\ mx.isNone then st else if h=n/\ mx.isNone/\ st= .full then .full else .none))
   else none
  |_,_=>none
 | some (.slice e),.bsl s off n sz f=>match zcp P e,zep n lo hi mx with
  | some sz',some (l,h,g)=>
   if sz'=sz then
    (if l<h then some (.bsl s (off+l*sz) (h-l) sz (g||(f&&h==n&&mx.isNone))) else some (.list 0 [] (if g||(f&&h==n&&mx.isNone) then .full else .none)))
   else none
  |_,_=>none
 |_,_=>none
theorem zqy {t e:TypeId} {cs:List AV} {st:Room} {a:AV} {v:Value} {lo hi mx:Option AV} {lo' hi' mx':Option Value} (hu:P.underlying t=some (.slice e))(h:(match zcp P e,zep n lo hi mx with
 | some sz,some (l,h,f)=>
  if cs.length=n*sz then
   some (AV.list (h-l) ((cs.drop (l*sz)).take ((h-l)*sz))
    (if f then .full else if l=0/\ h=n/\ mx.isNone then st else if h=n/\ mx.isNone/\ st= .full then .full else .none))
  else none
 |_,_=>none)=some a) (hx:Rep IT X (.list n cs st) v) (hl:qhf IT X lo lo') (hh:qhf IT X hi hi') (hm:qhf IT X mx mx'):
 ∃u,(Instr.sliceAt t v lo' hi' mx').run P X.w= .ok u X.w/\ Rep IT X a u:=by
 split at h<;>try cases h
 rename_i sz l hv f hsz hb;split at h<;>try cases h
 rename_i hlen;rw[Rep] at hx;obtain⟨ad,cap,rfl,⟨hcap,hnil⟩,hc,hst⟩:=hx;obtain⟨m,r,b1,b2,b3,b4,b5,b6⟩:=zlf (P:=P) hb hl hh hm hcap;refine⟨.slice (if m=l then ad else ad.map (·.add (l*sz))) (hv-l) (m-l),?_,?_⟩
 ·simp[Instr.sliceAt,Instr.slice,underlying,program,Sem.run,hu,r,zel hsz]
 ·rw [Rep];refine⟨_,_,rfl,⟨by omega,fun hn=> ?_⟩,?_,?_⟩
  ·split at hn
   ·omega
   ·have:=hnil (by simpa using hn);omega
  ·rcases hc with rfl|⟨b,o,rfl,hat⟩
   ·left;simp
   ·by_cases hml:m=l
    ·left
     have:hv-l=0:=by omega
     simp[this]
    ·right
     rw[if_neg hml];exact⟨b,o+l*sz,by rw[Option.map_some,zhg],zzp _ (zzg _ hat)⟩
  ·split
   ·trivial
   ·rename_i hs;split at hs
    ·rename_i hf;have:=b5 hf;omega
    ·split at hs
     ·rename_i h1 h2;obtain⟨rfl,rfl,hmx⟩:=h2;subst hs;have:=b6 (by simpa using hmx);simp only at hst;omega
     ·split at hs
      ·rename_i h3;obtain⟨rfl,hmx,rfl⟩:=h3;have:=b6 (by simpa using hmx);simp only at hst;omega
      ·cases hs
   ·rename_i s hs;split at hs
    ·cases hs
    ·split at hs
     ·rename_i h1 h2;obtain⟨rfl,rfl,hmx⟩:=h2;subst hs;obtain⟨L,k1,k2,k3⟩:=hst;have e0:(cs.drop (0*sz)).take ((hv-0)*sz)=cs:=by
       rw[Nat.zero_mul,List.drop_zero,Nat.sub_zero, <-hlen,List.take_length]
      rw[e0];refine⟨L,k1,k2,fun e'=> ?_⟩;obtain⟨r',k4,rfl,rfl,k6⟩:=k3 e';have hmc:=b6 (by simpa using hmx);refine⟨r',k4,?_,by omega,by simpa using k6⟩;split
      ·rfl
      ·simp[Addr.add]
     ·split at hs
      ·cases hs
      ·cases hs
theorem z1m {t:TypeId} {x a:AV} {v:Value} {lo hi mx:Option AV} {lo' hi' mx':Option Value} (h:zln P t x lo hi mx=some a)(hx:Rep IT X x v)(hl:qhf IT X lo lo')(hh:qhf IT X hi hi')(hm:qhf IT X mx mx'):
 ∃u,(Instr.sliceAt t v lo' hi' mx').run P X.w= .ok u X.w/\ Rep IT X a u:=by
 unfold zln at h;split at h<;>try cases h
 ·exact zqy ‹_› h hx hl hh hm
 rename_i e s off n sz f hu;split at h<;>try cases h
 rename_i sz' l hv g hsz hb;split at h<;>try cases h
 rename_i hlen;subst hlen;rw[Rep] at hx;obtain⟨b,cap,cur,t0,hk,rfl,hcap,hful,hrow,hfit⟩:=hx;obtain⟨m,r,b1,b2,b3,b4,b5,b6⟩:=zlf (P:=P) hb hl hh hm hcap;have hrun:(Instr.sliceAt t (.slice (some ⟨b,off,none⟩) n cap) lo' hi' mx').run P X.w= .ok (.slice (if m=l then some ⟨b,off,none⟩ else some ((⟨b,off,none⟩:Addr).add (l*sz'))) (hv-l) (m-l)) X.w:=by
  simp only[Instr.sliceAt,Instr.slice,underlying,program,Sem.run,hu,r,zel hsz,Sem.run_bind,Result.andThen_ok,Sem.run_pure];split<;>rfl
 have hg:(g||(f&&hv==n&&mx.isNone))=true->m=hv:=fun hh2=>by
  rw[Bool.or_eq_true] at hh2;rcases hh2 with h2|h2
  ·exact b5 h2
  ·simp only[and_eq_true,beq_iff_eq,Option.isNone_iff_eq_none] at h2;obtain⟨⟨h3,h4⟩,h5⟩:=h2;rw[b6 h5,hful h3,h4]
 refine⟨_,hrun,?_⟩;split at h
 ·rename_i hlt;cases h;rw[Rep];refine⟨b,m-l,cur,t0,hk,by rw[if_neg (by omega),zhg],by omega,fun e=>by have:=hg e;omega,hrow,?_⟩;have h1:off+m*sz'<=cur.size:=le_trans (Nat.add_le_add_left (Nat.mul_le_mul_right _ b4) _) hfit;have h2:l*sz'+(m-l)*sz'=m*sz':=by rw[<-Nat.add_mul];congr 1;omega
  omega
 ·rename_i hlt;cases h;have hlv:hv=l:=by omega
  subst hlv;rw[Rep];refine⟨_,m-hv,by rw[Nat.sub_self],⟨by omega,fun hn=>by split at hn<;>cases hn⟩,.inl rfl,?_⟩;split
  ·trivial
  ·rename_i hs;split at hs
   ·rename_i hg2;have:=hg hg2;omega
   ·cases hs
  ·rename_i s0 hs;split at hs<;>cases hs
def qdr (P:Program)(t:TypeId):AV->Option AV
 | .list n _ _=>match P.underlying t with|some (.slice _)=>some (.raw (.int .i64 n))|_=>none
 | .bsl _ _ n _ _=>match P.underlying t with|some (.slice _)=>some (.raw (.int .i64 n))|_=>none
 |_=>none
theorem qba {t ty:TypeId} {x a:AV} {v:Value} (h:qdr P t x=some a)(hx:Rep IT X x v): ∃u,(Builtin.len_ #[t] ty #[v]).run P X.w= .ok u X.w/\ Rep IT X a u:=by
 cases x with
 | list n cs st=>
  simp only[qdr] at h;split at h<;>cases h
  rename_i e hu;rw[Rep] at hx;obtain⟨ad,cap,rfl,_⟩:=hx;exact⟨.int .i64 n,by simp[Builtin.len_,underlying,program,Sem.run,hu,goInt],by rw[Rep]⟩
 | bsl s off n sz f=>
  simp only[qdr] at h;split at h<;>cases h
  rename_i e hu;rw[Rep] at hx;obtain⟨b,cap,cur,t0,_,rfl,_⟩:=hx;exact⟨.int .i64 n,by simp[Builtin.len_,underlying,program,Sem.run,hu,goInt],by rw[Rep]⟩
 |_=>cases h
def zgi (P:Program)(U:St)(t:TypeId)(x y:AV):Option (AV×St):=
 match P.underlying t,x,y with
 | some (.slice e),.list n cs st,.list m ds _=>match P.info? e with
  | some i=>match i.zero with
   | some z=>
    if m=0/\ ds=[] then some (.list n cs st,U)
    else if cs.length=n*i.size/\ ds.length=m*i.size/\ 0<m/\ z.cells.size=i.size/\ 0<i.size/\ n+m<=maxLen/\ (n+m)*i.bytes<=140737488355328 then
     match st with
     | .none=>none
     | .full=>some (.list (n+m) (cs++ds) (.own U.lens.length),{U with lens:=U.lens++[(n+m)*i.size],elems:=U.elems++[e]})
     | .own s=>if U.lens[s]? =some cs.length/\ U.elems[s]? =some e/\ 0<n then some (.list (n+m) (cs++ds) (.own s),{U with lens:=U.lens.set s ((n+m)*i.size)}) else none
    else none
   |none=>none
  |none=>none
 |_,_,_=>none
theorem zrq (hIT:ITMono IT) {U:St} {X:Cx} (hI:Inv IT U X) {e:TypeId} {vs zs:List Value} {cs:List AV} (hr:zbo IT X cs vs)(h1: ∀v∈vs,v.oneCell'=true)(size cap:Nat)(hsz:0<size)(hcap:cap<=maxLen)(hlen:(vs++zs).length=cap*size)
 {β':List Row} {lens':List Nat} {elems':List TypeId} (hlens: ∀(s L:Nat),X.lens[s]? =some L-> ∃L',lens'[s]? =some L'/\ L<=L'/\ (L'=L->β'[s]? =X.β[s]?)) (hbl:β'.length=lens'.length) (hel:β'.map (·.elem)=elems')
 (hrow: ∀(s:Nat) (r:Row) (L:Nat),β'[s]? =some r->lens'[s]? =some L->(X.β[s]? =some r/\ X.lens[s]? =some L) \/(r=⟨X.w.heap.size,e,size,cap⟩/\ L=vs.length)) (hnd:(β'.map (·.block)).Nodup):
 ∃X',X'.w=X.w.drew.alloc (.cells (vs++zs).toArray e)/\ Ext X X'/\ Inv IT {U with lens:=lens',elems:=elems'} X'/\ At IT X' cs X.w.heap.size 0/\ X'.β=β'/\ X'.lens=lens':=by
 have hnw:(X.w.drew.alloc (.cells (vs++zs).toArray e)).heap[X.w.heap.size]? =some (.cells (vs++zs).toArray e (0,0)):=heap_alloc_new X.w.drew _;have hmem: ∀r∈β',r∈X.β \/r.block=X.w.heap.size:=fun r hr'=>by
  obtain⟨s,hs,rfl⟩:=List.mem_iff_getElem.1 hr';rcases hrow s _ (lens'[s]'(by omega)) (getElem?_eq_getElem hs) (getElem?_eq_getElem _) with h|⟨h,_⟩
  ·exact .inl (mem_of_getElem? h.1)
  ·exact .inr (by rw[h])
 have hE:Ext X {F:=fun b i=>X.F b i \/(b=X.w.heap.size/\ i<vs.length),κ:=X.κ,β:=β',lens:=lens',w:=X.w.drew.alloc (.cells (vs++zs).toArray e),O:=X.O,C:=X.C}:={
  os:=rfl,tape:=rfl,output:=rfl,size:=by simp,drawn:=Nat.le_succ _
  F:=fun _ _ h=> .inl h
  cell:=fun b i hf=>World.cell?_of_block (heap_alloc_old X.w.drew _ _ (hI.Flt hf))
  κ:=fun _ _ h=>h
  lens:=hlens
  blk:=fun s b hs cur t f h=>⟨cur,(heap_alloc_old X.w.drew _ _ (hI.κlt (mem_of_getElem? hs))).trans h,rfl⟩
  szs:=Szs.old fun k hk=>heap_alloc_old X.w.drew _ _ hk
  frame:=fun b hb _ _=>heap_alloc_old X.w.drew _ _ hb
  κnew:=fun _ h=> .inl h
  βnew:=fun r hr'=>by
   rcases hmem r hr' with h|h
   ·exact .inl ⟨r,h,rfl⟩
   ·exact .inr (Nat.le_of_eq h.symm)
  O:=rfl
  C:=rfl
  Fnew:=fun b i h=>by
   rcases h with h|⟨h,_⟩
   ·exact .inl h
   ·exact .inr (.inl (Nat.le_of_eq h.symm))}
 refine⟨_,rfl,hE,?_,?_,rfl,rfl⟩
 ·refine {lens:=rfl,elems:=hel,κlen:=hI.κlen,κnd:=hI.κnd,box:= ?_,κF:= ?_,βlen:=hbl,βnd:=hnd,βκ:= ?_,row:= ?_,Ok:= ?_,Fcell:= ?_}
  ·intro s b t' c hs hb;obtain⟨us,zs',u1,u2,u3⟩:=hI.box s b t' c hs hb;exact⟨us,zs',(heap_alloc_old X.w.drew _ _ (hI.κlt (mem_of_getElem? hs))).trans u1,zau hIT hE _ _ u2,u3⟩
  ·intro s b t' c hs hb hc o hf;rcases hf with hf|⟨e,_⟩
   ·exact hI.κF s b t' c hs hb hc o hf
   ·have:=hI.κlt (mem_of_getElem? hs);omega
  ·intro r hr' hm;rcases hmem r hr' with h|h
   ·exact hI.βκ r h hm
   ·have:=hI.κlt hm;omega
  ·intro s r L hr' hL;rcases hrow s r L hr' hL with⟨k1,k2⟩|⟨rfl,rfl⟩
   ·obtain⟨cur,fz,c1,c2,c3,c4,c5,c6,c7⟩:=hI.row s r L k1 k2;have hlt:=hI.βlt (mem_of_getElem? k1);refine⟨cur,fz,(heap_alloc_old X.w.drew _ _ hlt).trans c1,c2,c3,c4,c5,fun o hf=> ?_,c7⟩;rcases hf with hf|⟨e,_⟩
    ·exact c6 o hf
    ·omega
   ·refine⟨(vs++zs).toArray,(0,0),heap_alloc_new X.w.drew _,by simpa using hlen,hcap,hsz,by simp,fun o hf=> ?_,Nat.zero_le _⟩;rcases hf with hf|⟨_,hf⟩
    ·have:=hI.Flt hf;simp at this
    ·exact hf
  ·intro b ho;obtain⟨⟨cs0,t0,f0,h0⟩,h2,h3,h4⟩:=hI.Ok b ho;have hlt:=hI.Olt ho;refine⟨⟨cs0,t0,f0,(heap_alloc_old X.w.drew _ _ hlt).trans h0⟩,h2,fun r hr'=> ?_,fun o hf=>hf.elim (h4 o) fun h=>by omega⟩;rcases hmem r hr' with h|h
   ·exact h3 r h
   ·omega
  ·intro b o hf;rcases hf with hf|⟨e,hf⟩
   ·obtain⟨v,hv⟩:=hI.Fcell b o hf;exact⟨v,(hE.cell b o hf).trans hv⟩
   ·subst e;refine⟨vs[o],?_⟩
    show(X.w.drew.alloc _).cell? _=_
    rw[cell_of_row _ _ _ _ _ _ hnw];simp[getElem?_append_left hf,hf]
 ·refine z1j (fun j hj=> .inr ⟨rfl,by omega⟩) h1 (zau hIT hE _ _ hr) fun j u hu=> ?_
  show(X.w.drew.alloc _).cell? _=_
  rw[cell_of_row _ _ _ _ _ _ hnw,zero_add];have:=(List.getElem?_eq_some_iff.1 hu).1;simpa[getElem?_append_left this] using hu
theorem zrd (hIT:ITMono IT) {U:St} {X:Cx} (hI:Inv IT U X) {s:Nat} {r:Row} {L:Nat} {us:List Value} {ds:List AV} {cur:Array Value} {fz:Nat×Nat} (hs:X.β[s]? =some r)(hL:X.lens[s]? =some L)
 (hcur:X.w.heap[r.block]? =some (.cells cur r.elem fz)) (hr:zbo IT X ds us) (h1: ∀v∈us,v.oneCell'=true) (hpos:0<us.length) (hfit:L+us.length<=cur.size):
 ∃X',X'.w=X.w.setRow r.block (cur.toList.take L++us++cur.toList.drop (L+us.length)).toArray/\ Ext X X'/\ Inv IT {U with lens:=U.lens.set s (L+us.length)} X'/\ At IT X' ds r.block L/\ X'.β=X.β/\ X'.lens=X.lens.set s (L+us.length):=by
 have hrm:=mem_of_getElem? hs;obtain⟨cur',fz',c1,c2,c3,c4,c5,c6,c7⟩:=hI.row s r L hs hL;obtain⟨rfl,rfl⟩:cur'=cur/\ fz'=fz:=by rw[hcur] at c1;cases c1;exact⟨rfl,rfl⟩
 have hsl:s<X.lens.length:=(List.getElem?_eq_some_iff.1 hL).1;have hsz:(cur'.toList.take L++us++cur'.toList.drop (L+us.length)).length=cur'.size:=by simp;omega
 have hnew:(X.w.setRow r.block (cur'.toList.take L++us++cur'.toList.drop (L+us.length)).toArray).heap[r.block]? =some (.cells (cur'.toList.take L++us++cur'.toList.drop (L+us.length)).toArray r.elem fz'):=setRow_heap _ _ _ _ _ _ hcur
 have hE:Ext X {F:=fun b i=>X.F b i \/(b=r.block/\ i<L+us.length),κ:=X.κ,β:=X.β,lens:=X.lens.set s (L+us.length),w:=X.w.setRow r.block (cur'.toList.take L++us++cur'.toList.drop (L+us.length)).toArray,O:=X.O,C:=X.C}:={
  os:=rfl,tape:=rfl,output:=rfl,size:=by simp,drawn:=(by first|exact le_refl _|exact Nat.le_succ _)
  F:=fun _ _ h=> .inl h
  cell:=fun b i hf=>by
   show(X.w.setRow _ _).cell? _=_
   by_cases e:b=r.block
   ·subst e;have:=c6 i hf;rw[cell_of_row _ _ _ _ _ _ hnew,cell_of_row _ _ _ _ _ _ hcur];rw[<-Array.getElem?_toList, <-Array.getElem?_toList];simp only[List.append_assoc];rw[getElem?_append_left (by simp;omega),getElem?_take,if_pos this]
   ·exact cell_setRow_other _ _ _ _ e
  κ:=fun _ _ h=>h
  lens:=fun s' L' h=>by
   by_cases e:s'=s
   ·subst e;rw[hL] at h;cases h;exact⟨L+us.length,by simp[hsl],by omega,fun e=>by omega⟩
   ·exact⟨L',by rw[getElem?_set_ne (Ne.symm e)];exact h,le_refl _,fun _=>rfl⟩
  blk:=fun s' b hs' cu t f h=>⟨cu,(setRow_other _ _ _ _ (show b≠r.block from fun e=>hI.βκ r hrm (e▸mem_of_getElem? hs'))).trans h,rfl⟩
  szs:=Szs.one r.block (fun k _ e=>setRow_other _ _ _ _ e) fun cs t f h=>by
   rw[hcur] at h;cases h;exact⟨_,_,_,hnew,by simpa using hsz⟩
  frame:=fun b _ _ hβ=>setRow_other _ _ _ _ fun e=>hβ r hrm e.symm
  κnew:=fun _ h=> .inl h
  βnew:=fun q h=> .inl ⟨q,h,rfl⟩
  O:=rfl
  C:=rfl
  Fnew:=fun b i h=>by
   rcases h with h|⟨h,_⟩
   ·exact .inl h
   ·exact .inr (.inr (.inl ⟨r,hrm,h.symm⟩))}
 have hother: ∀(s':Nat) (q:Row),X.β[s']? =some q->s'≠s->q.block≠r.block:=fun s' q hq hne e=>hne (by
  have h1:=(List.getElem?_eq_some_iff.1 hq).1;have h2:=(List.getElem?_eq_some_iff.1 hs).1;have e1:(X.β.map (·.block))[s']'(by simpa using h1)=q.block:=by simp[(List.getElem?_eq_some_iff.1 hq).2]
  have e2:(X.β.map (·.block))[s]'(by simpa using h2)=r.block:=by simp[(List.getElem?_eq_some_iff.1 hs).2]
  exact(List.getElem_inj hI.βnd).1 (e1.trans (e.trans e2.symm)))
 refine⟨_,rfl,hE,?_,?_,rfl,rfl⟩
 ·refine {lens:=by rw[hI.lens],elems:=hI.elems,κlen:=hI.κlen,κnd:=hI.κnd,box:= ?_,κF:= ?_,βlen:=by simpa using hI.βlen,βnd:=hI.βnd,βκ:=hI.βκ,row:= ?_,Ok:= ?_,Fcell:= ?_}
  ·intro s' b t' c hs' hb;obtain⟨ws,zs',u1,u2,u3⟩:=hI.box s' b t' c hs' hb;have hne:b≠r.block:=fun e=>hI.βκ r hrm (e▸mem_of_getElem? hs');exact⟨ws,zs',(setRow_other _ _ _ _ hne).trans u1,zau hIT hE _ _ u2,u3⟩
  ·intro s' b t' c hs' hb hc o hf;rcases hf with hf|⟨e,_⟩
   ·exact hI.κF s' b t' c hs' hb hc o hf
   ·exact hI.βκ r hrm (e▸mem_of_getElem? hs')
  ·intro s' q L' hq hL';by_cases e:s'=s
   ·subst e;rw[hs] at hq;cases hq;have:L'=L+us.length:=by
     have:(X.lens.set s' (L+us.length))[s']? =some L':=hL';rw[getElem?_set_self hsl] at this;simpa using this.symm
    subst this;refine⟨_,_,hnew,by simp only[List.size_toArray,hsz];exact c2,c3,c4,by simp only[List.size_toArray,hsz];exact hfit,fun o hf=> ?_,by omega⟩;rcases hf with hf|⟨_,hf⟩
    ·have:=c6 o hf;omega
    ·exact hf
   ·have hL2:X.lens[s']? =some L':=by
     have:(X.lens.set s (L+us.length))[s']? =some L':=hL';rwa[getElem?_set_ne (Ne.symm e)] at this
    obtain⟨cu,fz,d1,d2,d3,d4,d5,d6,d7⟩:=hI.row s' q L' hq hL2;have hne:=hother s' q hq e;refine⟨cu,fz,(setRow_other _ _ _ _ hne).trans d1,d2,d3,d4,d5,fun o hf=> ?_,d7⟩;rcases hf with hf|⟨e,_⟩
    ·exact d6 o hf
    ·exact absurd e hne
  ·intro b ho;obtain⟨⟨cs0,t0,f0,h0⟩,h2,h3,h4⟩:=hI.Ok b ho;have hne:=h3 r hrm;exact⟨⟨cs0,t0,f0,(setRow_other _ _ _ _ (Ne.symm hne)).trans h0⟩,h2,h3,fun o hf=>hf.elim (h4 o) fun h=>absurd h.1.symm hne⟩
  ·intro b o hf;rcases hf with hf|⟨rfl,hf⟩
   ·obtain⟨v,hv⟩:=hI.Fcell b o hf;exact⟨v,(hE.cell b o hf).trans hv⟩
   ·refine⟨(cur'.toList.take L++us++cur'.toList.drop (L+us.length))[o]'(by omega),?_⟩
    show(X.w.setRow _ _).cell? _=_
    rw[cell_of_row _ _ _ _ _ _ hnew, <-Array.getElem?_toList];exact getElem?_eq_getElem _
 ·refine z1j (fun j hj=> .inr ⟨rfl,by omega⟩) h1 (zau hIT hE _ _ hr) fun j u hu=> ?_;have hj:=(List.getElem?_eq_some_iff.1 hu).1
  show(X.w.setRow _ _).cell? _=_
  rw[cell_of_row _ _ _ _ _ _ hnew, <-Array.getElem?_toList];simp only[List.append_assoc];rw[List.getElem?_append_right (by simp;omega)];have:L+j-(cur'.toList.take L).length=j:=by simp;omega
  rw[this,getElem?_append_left hj];exact hu
theorem zpu {b:Nat}: ∀ {cs ds:List AV} {o:Nat},At IT X cs b o->At IT X ds b (o+cs.length)->At IT X (cs++ds) b o
 |[],ds,o,_,h=>by simpa using h
 | c::cs,ds,o,h1,h2=>by
  rw[At] at h1;rw[List.cons_append,At];exact⟨h1.1,zpu h1.2 (by rw[length_cons] at h2;rwa[show o+1+cs.length=o+(cs.length+1) by omega])⟩
theorem zge: ∀(l:List Nat) (s b:Nat),l.Nodup->b∉l->(l.set s b).Nodup
 |[],s,b,_,_=>by simp
 | c::l,0,b,h,hf=>by
  rw[List.nodup_cons] at h;simp only[mem_cons,not_or] at hf;rw[List.set_cons_zero,List.nodup_cons];exact⟨hf.2,h.2⟩
 | c::l,s+1,b,h,hf=>by
  rw[List.nodup_cons] at h;simp only[mem_cons,not_or] at hf;rw[List.set_cons_succ,List.nodup_cons];refine⟨fun hm=> ?_,zge l s b h.2 hf.2⟩;rcases List.mem_or_eq_of_mem_set hm with h'|h'
  ·exact h.1 h'
  ·exact hf.1 h'.symm
theorem zzj (hIT:ITMono IT) {P:Program} {X:Cx} {U U':St} {t ty:TypeId} {x y a:AV} {v u:Value} (h:zgi P U t x y=some (a,U'))(hx:Rep IT X x v)(hy:Rep IT X y u)(hI:Inv IT U X):
 ∃r X',(Builtin.append_ #[t,t] ty #[v,u]).run P X.w= .ok r X'.w/\ Ext X X'/\ Inv IT U' X'/\ Rep IT X' a r:=by
 unfold zgi at h;split at h<;>try cases h
 rename_i e n cs st m ds st2 hu;split at h<;>try cases h
 rename_i i hi;split at h<;>try cases h
 rename_i z hz;have hx0:=hx;rw[Rep] at hx hy;obtain⟨ad,cap,rfl,⟨hcap,hnil⟩,hc,hst⟩:=hx;obtain⟨ad2,cap2,rfl,⟨hcap2,hnil2⟩,hc2,_⟩:=hy;split at h
 ·rename_i hm;obtain⟨rfl,rfl⟩:=hm;cases h;refine⟨.slice ad n cap,X,?_,Ext.refl X,hI,hx0⟩;have hn:n+0<=cap:=by omega
  cases ad<;>cases ad2<;>simp[Builtin.append_,run_underlying hu,sizeOf,typeInfo,program,Sem.run,hi,Builtin.lenOf,Builtin.firstCells,loadCells,loadCellsFrom,storeCells,hcap]
 ·split at h<;>try cases h
  rename_i hcond;obtain⟨q1,q2,q3,q4,q5,q6,q7⟩:=hcond;have hds:ds≠[]:=fun e=>by
   rw[e] at q2;have:=Nat.mul_pos q3 q5;simp at q2;omega
  obtain⟨b2,o2,rfl,hat2⟩:=hc2.resolve_left hds;obtain⟨us,u1,u2,u3⟩:=zha hat2;have hul:=zu u1;have hnews: ∀(j:Nat) w,us[j]? =some w->X.w.cell? ((⟨b2,o2,none⟩:Addr).add j)=some w:=fun j w hj=>by rw[zhg];exact u3 j w hj
  have hup:0<us.length:=by have:=Nat.mul_pos q3 q5;omega
  have hml:((n+m:Nat):Int)<=9223372036854775807:=by unfold maxLen at q6;omega
  have hnm:(n+m)*i.size=n*i.size+m*i.size:=Nat.add_mul _ _ _
  -- the old cells
  obtain⟨vs,v1,v2,v3⟩: ∃vs:List Value,zbo IT X cs vs/\ (∀w∈vs,w.oneCell'=true)/\ ∀b o,ad=some ⟨b,o,none⟩-> ∀(j:Nat) w,vs[j]? =some w->X.w.cell? ((⟨b,o,none⟩:Addr).add j)=some w:=by
   rcases hc with rfl|⟨b,o,rfl,hat⟩
   ·exact⟨[],by rw[zbo],by simp,by simp⟩
   ·obtain⟨vs,w1,w2,w3⟩:=zha hat
    exact⟨vs,w1,w2,fun b' o' e' j w hj=>by cases e';rw[zhg];exact w3 j w hj⟩
  have hvl:=zu v1;have hone: ∀w∈vs++us,w.oneCell'=true:=fun w hw=>(mem_append.1 hw).elim (v2 w) (u2 w);have hz2: ∀c,n+m<=c->(vs++us++(Builtin.zeroCells z.cells (c-(n+m))).toList).length=c*i.size:=fun c hcc=>by
   have:=size_zeroCells z.cells (c-(n+m));simp only[length_append,Array.length_toList,this,q4, <-hvl, <-hul,q1,q2, <-Nat.add_mul];congr 1;omega
  -- where it grows
  have grow: ∀(c0:Nat) (hlt:c0<n+m),c0=cap-> ∃r,(Builtin.append_ #[t,t] ty #[.slice ad n cap,.slice (some ⟨b2,o2,none⟩) m cap2]).run P X.w=
   .ok (.slice (some ⟨X.w.heap.size,0,none⟩) (n+m) r) (X.w.drew.alloc (.cells (vs++us++(Builtin.zeroCells z.cells (r-(n+m))).toList).toArray e))/\ n+m<=r/\ r<=maxLen:=fun c0 hlt ec=>by
   subst ec;refine⟨grownCap X.w (n+m) c0 e,?_,grownCap_ge _ _ _ _,grownCap_le_maxLen _ _ _ _ q6⟩;rcases hc with rfl|⟨b,o,rfl,hat⟩
   ·have hn0:n=0:=by
     have:n*i.size=0:=by simpa using q1.symm
     rcases Nat.mul_eq_zero.1 this with h|h
     ·exact h
     ·omega
    subst hn0;have hvs:vs=[]:=by rw[zbo] at v1;exact v1
    subst hvs;cases ad with
    | none=>
     obtain rfl:c0=0:=hnil rfl;have hr:=run_append_nil (P:=P) X.w t ty e i z hu hi hz ⟨b2,o2,none⟩ m cap2 us (by omega) hnews q3 (by omega) (by simp at q7;omega);simp only[zero_add] at hr⊢;rw[hr];congr 2
     simp
    | some ad=>
     have hr:=run_append_grow (P:=P) X.w t ty e i z hu hi hz ad 0 c0 [] (by simp) (by simp) ⟨b2,o2,none⟩ m cap2 us (by omega) hnews (by omega) (by omega) (growslice_fits hlt q7);rw[hr];congr 2
     simp
   ·have hr:=run_append_grow (P:=P) X.w t ty e i z hu hi hz ⟨b,o,none⟩ n c0 vs (by omega) (v3 b o rfl) ⟨b2,o2,none⟩ m cap2 us (by omega) hnews (by omega) (by omega) (growslice_fits hlt q7);rw[hr];congr 2
    simp
  have hlens:X.lens=U.lens:=hI.lens;have hbl:=hI.βlen;have hvu:(vs++us).length=(n+m)*i.size:=by rw[length_append, <-hvl, <-hul];omega
  have hcd:(cs++ds).length=(n+m)*i.size:=by rw[length_append];omega
  cases st with
  |none=>cases h
  | full=>
   simp only[Option.some.injEq,Prod.mk.injEq] at h;obtain⟨rfl,rfl⟩:=h;simp only at hst;subst hst;obtain⟨r,g1,g2,g3⟩:=grow cap (by omega) rfl
   obtain⟨X',x1,x2,x3,x4,x5,x6⟩:=zrq hIT hI (e:=e) (zbq v1 u1) hone i.size r q5 g3 (hz2 r g2)
    (β':=X.β++[⟨X.w.heap.size,e,i.size,r⟩]) (lens':=U.lens++[(cap+m)*i.size]) (elems':=U.elems++[e])
    (fun s L hs=>⟨L,by rw[<-hlens,getElem?_append_left (List.getElem?_eq_some_iff.1 hs).1];exact hs,le_refl _,fun _=>by
     rw[getElem?_append_left];rw[hbl];exact(List.getElem?_eq_some_iff.1 hs).1⟩)
    (by simp[hbl,hlens]) (by simp[hI.elems])
    (fun s q L hq hL=>by
     rcases lt_or_ge s X.β.length with hlt|hge
     ·rw[getElem?_append_left hlt] at hq;rw[<-hlens,getElem?_append_left (by omega)] at hL;exact .inl ⟨hq,hL⟩
     ·right
      have h0:s=X.β.length:=by
       have:=(List.getElem?_eq_some_iff.1 hq).1;simp at this;omega
      subst h0;rw[<-hlens,hbl] at hL;simp at hq hL;exact⟨hq.symm,by rw[hvu];exact hL.symm⟩)
    (by
     rw[List.map_append];refine List.nodup_append.2 ⟨hI.βnd,by simp,fun a ha b hb e=> ?_⟩;obtain⟨q,hq,rfl⟩:=mem_map.1 ha;have:=hI.βlt hq;simp at hb;omega)
   refine⟨_,X',by rw[x1];exact g1,x2,x3,?_⟩;rw[Rep];refine⟨_,_,rfl,⟨g2,fun e=>by cases e⟩,.inr ⟨_,_,rfl,x4⟩,(cap+m)*i.size,?_,by omega,fun _=>⟨⟨X.w.heap.size,e,i.size,r⟩,?_,rfl,rfl,hcd⟩⟩
   ·rw[x6];simp
   ·rw[x5, <-hlens, <-hbl];simp
  | own s=>
   simp only at h;split at h<;>try cases h
   rename_i hown;obtain⟨w1,w2,w3⟩:=hown;obtain⟨L,k1,k2,k3⟩:=hst;have hLc:cs.length=L:=by rw[hlens] at k1;rw[k1] at w1;exact(Option.some.inj w1).symm
   obtain⟨r,k4,k5,rfl,k7⟩:=k3 hLc;subst hLc;have hsr:r.size=i.size:=by
    have:n*r.size=n*i.size:=by omega
    exact Nat.eq_of_mul_eq_mul_left w3 this
   have hre:r.elem=e:=by
    have h1:(X.β.map (·.elem))[s]? =some e:=by rw[hI.elems];exact w2
    rw[getElem?_map,k4] at h1;simpa using h1
   have hsl:s<X.lens.length:=(List.getElem?_eq_some_iff.1 k1).1;obtain⟨cur,fz,c1,c2,c3,c4,c5,c6,c7⟩:=hI.row s r cs.length k4 k1;subst k5;by_cases hroom:n+m<=r.cap
   ·have hfit:cs.length+us.length<=cur.size:=by
     rw[c2,hsr];have:=Nat.mul_le_mul_right i.size hroom;omega
    obtain⟨X',x1,x2,x3,x4,x5,x6⟩:=zrd hIT hI k4 k1 c1 u1 u2 hup hfit;have hr:=run_append_roomF (P:=P) X.w t ty e i hu hi r.block n r.cap cur fz (by rw[<-hre];exact c1) (by omega) ⟨b2,o2,none⟩ m cap2 us (by omega) hnews u2 hroom (by omega);have hlen2:cs.length+us.length=(n+m)*i.size:=by omega
    rw[hlen2] at x3 x6;refine⟨.slice (some ⟨r.block,0,none⟩) (n+m) r.cap,X',?_,x2,x3,?_⟩
    ·rw[x1,hr,q1]
    ·rw[Rep];have hold:At IT X' cs r.block 0:=z5k hIT x2 _ _ _ (by
      rcases hc with rfl|⟨b,o,e1,hat⟩
      ·rw[At];trivial
      ·cases e1;exact hat)
     refine⟨_,_,rfl,⟨hroom,fun e=>by cases e⟩,.inr ⟨_,_,rfl,zpu hold (by rw[zero_add];exact x4)⟩,(n+m)*i.size,?_,by omega,fun _=>⟨r,by rw[x5];exact k4,rfl,rfl,by rw[hcd,hsr]⟩⟩;rw[x6];simp[hsl]
   ·obtain⟨c,g1,g2,g3⟩:=grow r.cap (by omega) rfl
    obtain⟨X',x1,x2,x3,x4,x5,x6⟩:=zrq hIT hI (e:=e) (zbq v1 u1) hone i.size c q5 g3 (hz2 c g2)
     (β':=X.β.set s ⟨X.w.heap.size,e,i.size,c⟩) (lens':=U.lens.set s ((n+m)*i.size)) (elems':=U.elems)
     (fun s' L hs=>by
      by_cases es:s'=s
      ·subst es;rw[k1] at hs;cases hs;have:=Nat.mul_pos q3 q5;exact⟨(n+m)*i.size,by rw[<-hlens];simp[hsl],by omega,fun e=>by omega⟩
      ·exact⟨L,by rw[<-hlens,getElem?_set_ne (Ne.symm es)];exact hs,le_refl _,fun _=>by rw[getElem?_set_ne (Ne.symm es)]⟩)
     (by simp[hbl,hlens])
     (by
      rw[<-hI.elems,List.map_set];apply List.ext_getElem?;intro j;by_cases ej:s=j
      ·subst ej;rw[getElem?_set_self (by simp;omega),getElem?_map,k4];simp[hre]
      ·rw[getElem?_set_ne ej])
     (fun s' q L hq hL=>by
      by_cases es:s'=s
      ·subst es;right
       rw[getElem?_set_self (by omega)] at hq;rw[<-hlens,getElem?_set_self hsl] at hL;cases hq;cases hL;exact⟨rfl,hvu.symm⟩
      ·left
       rw[getElem?_set_ne (Ne.symm es)] at hq;rw[<-hlens,getElem?_set_ne (Ne.symm es)] at hL;exact⟨hq,hL⟩)
     (by
      rw[List.map_set];have hnd:=hI.βnd;have hfresh:X.w.heap.size∉X.β.map (·.block):=fun hm=>by
       obtain⟨q,hq,e'⟩:=mem_map.1 hm;have:=hI.βlt hq;omega
      exact zge _ _ _ hnd hfresh)
    refine⟨_,X',by rw[x1];exact g1,x2,x3,?_⟩;rw[Rep];refine⟨_,_,rfl,⟨g2,fun e=>by cases e⟩,.inr ⟨_,_,rfl,x4⟩,(n+m)*i.size,?_,by omega,fun _=>⟨⟨X.w.heap.size,e,i.size,c⟩,?_,rfl,rfl,hcd⟩⟩
    ·rw[x6, <-hlens];simp[hsl]
    ·rw[x5,getElem?_set_self (by omega)]
end Go.Ab
