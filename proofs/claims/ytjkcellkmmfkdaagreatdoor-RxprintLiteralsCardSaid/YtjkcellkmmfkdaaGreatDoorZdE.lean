import Derived.RangeFuncNested
import Derived.RangeFuncLeaves
import Derived.StillTail
import Derived.Below
import Derived.Maps.AppendAt
import Derived.OwnWalkIn
import Derived.Shelf.Abstract
import Derived.Laws.BytesArg
import Derived.Laws.CopyRow
import Derived.OrdersIn
import Derived.Great.BuildSlice
set_option linter.all false
open Bool (and_eq_true)
open Nat (le_refl le_trans zero_add lt_or_ge)
open List (mem_of_getElem? getElem?_append_left mem_append all_eq_true mem_range mem_of_mem_take getElem?_map)
namespace Go.Fwd
open Go Go.RowKit
variable {w' c W' w1:World} {B' n j:Nat} {R:Ending->World->Prop} {g:Operand} {Q:Exit->Act->World->Prop}
theorem zue {p:Program} {w:World} {at_:Addr} {u:TypeId} {k:Addr} {v:Value} {b:Bool} {t:List Addr} (h:World.viewStore p w at_ u k v b= .ok (w',t)):w'.drawn=w.drawn:=by
 unfold World.viewStore at h;simp only[bind,Except.bind,pure,Except.pure,throw,throwThe,MonadExceptOf.throw] at h;repeat' (split at h)
 all_goals first
  |(cases h;done)
  |(simp only[Except.ok.injEq,Prod.mk.injEq] at h;rw[<-h.1])
theorem qib {α:Type}: ∀(x:Ask α) (w:World),w.drawn<=(w.ask x).2.drawn:=by
 intro x;induction x with
 |done a=>intro w;simp[World.ask]
 | ask what range k ih=>
  intro w;simp only[World.ask];split
  ·exact ih _ _
  ·exact le_trans (Nat.le_succ w.drawn) (ih _ {w with drawn:=w.drawn+1})
theorem qgg (w:World)(c:Sys):w.drawn<=(w.sys c).2.drawn:=by
 unfold World.sys;split
 ·exact le_refl _
 ·rename_i h;have:=qib (Kernel.perform c w.os) w;rw[h] at this;exact this
theorem qdu {P:Program} {α:Type}: ∀(s:Sem α) (w:World) (a:α) (w':World),s.run P w= .ok a w'->w.drawn<=w'.drawn:=by
 intro s;induction s with
 |pure a=>intro w b w' h;simp only[Sem.run,Result.ok.injEq] at h;rw[h.2];exact le_refl _
 | load m a k ih=>
  intro w b w' h;simp only[Sem.run] at h;split at h
  ·exact ih _ _ _ _ h
  ·split at h
   ·exact ih _ _ _ _ h
   ·cases h
 | store m a v k ih=>
  intro w b w' h;cases v<;>simp only[Sem.run] at h<;>try(cases h;done)
  all_goals
   split at h
   ·split at h
    ·cases h
    ·have h2:=ih _ _ _ h;exact h2
   ·split at h
    ·rename_i hf
     refine le_trans ?_ (ih _ _ _ h)
     unfold World.farStore at hf
     split at hf
     ·split at hf
      ·rename_i hv;cases hf;rw[zue hv];exact le_refl _
      ·cases hf
     ·cases hf
    ·cases h
 |new o k ih=>intro w b w' h;simp only[Sem.run] at h;have h2:=ih _ _ _ _ h;exact h2
 |shape r k ih=>intro w b w' h;simp only[Sem.run] at h;exact ih _ _ _ _ h
 | freeze a n k ih=>
  intro w b w' h;simp only[Sem.run] at h;refine le_trans ?_ (ih _ _ _ h);unfold World.freeze;split<;>exact le_refl _
 |frozen a k ih=>intro w b w' h;simp only[Sem.run] at h;exact ih _ _ _ _ h
 | getObj r k ih=>
  intro w b w' h;simp only[Sem.run] at h;split at h
  ·cases h
  ·exact ih _ _ _ _ h
  ·cases h
 | setObj r o k ih=>
  intro w b w' h;simp only[Sem.run] at h;split at h
  ·cases h
  ·have:=ih _ _ _ h;exact this
  ·cases h
 | choose q k ih=>
  intro w b w' h;simp only[Sem.run] at h;split at h
  ·exact ih _ _ _ _ h
  ·exact le_trans (Nat.le_succ w.drawn) (ih _ _ _ _ h)
 |sys c k ih=>intro w b w' h;simp only[Sem.run] at h;exact le_trans (qgg w c) (ih _ _ _ _ h)
 |program k ih=>intro w b w' h;simp only[Sem.run] at h;exact ih _ _ _ _ h
 |mark m k ih=>intro w b w' h;simp only[Sem.run] at h;exact ih _ _ _ h
 |halt x=>intro w b w' h;simp[Sem.run] at h
abbrev drn (_:World):Nat:=0
structure Ex (B:Nat)(w w':World):Prop extends Below B w w' where
 drawn:drn w<=drn w'
theorem Ex.refl (B:Nat)(w:World):Ex B w w:=⟨Below.refl B w,le_refl _⟩
theorem Ex.trans {B:Nat} {a b:World} (h:Ex B a b)(k:Ex B b c):Ex B a c:=⟨h.toBelow.trans k.toBelow,le_trans h.drawn k.drawn⟩
theorem Ex.mono {B:Nat} {w:World} (h:Ex B w w')(hB:B'<=B):Ex B' w w':=⟨h.toBelow.mono hB,h.drawn⟩
theorem Ex.drew {B:Nat} {a w:World} (h:Ex B a w):Ex B a w.drew:=⟨h.toBelow.drew,h.drawn⟩
theorem Ex.alloc {B:Nat} {a w:World} (h:Ex B a w)(hB:B<=w.heap.size)(o:Obj):Ex B a (w.alloc o):=⟨h.toBelow.alloc hB o,h.drawn⟩
theorem Ex.setCell {B:Nat} {a w:World} (h:Ex B a w) {p:Addr} (hp:B<=p.block)(u:Value):Ex B a (w.setCell p u):=⟨h.toBelow.setCell hp u,h.drawn⟩
theorem Ex.setRow {B:Nat} {a w:World} (h:Ex B a w) {g:Nat} (hg:B<=g)(cs:Array Value):Ex B a (w.setRow g cs):=by
 refine⟨h.toBelow.trans ⟨rfl,rfl,rfl,by simp,fun k hk=> ?_⟩,h.drawn⟩;simp only[World.setRow,Array.getElem?_modify];rw[if_neg (by omega)]
structure Turn (B:Nat)(W W':World):Prop where
 os:W'.os=W.os
 tape:W'.tape=W.tape
 output:W'.output=W.output
 size:W.heap.size<=W'.heap.size
 drawn:drn W<=drn W'
 same: ∀(k:Nat) (o:Obj),W.heap[k]? =some o->k<B \/o.isCells=true->W'.heap[k]? =some o
theorem Turn.of_ex {W:World} (B:Nat)(h:Ex W.heap.size W W'):Turn B W W':=
 ⟨h.os,h.tape,h.output,h.size,h.drawn,fun k o hk _=>(h.block k (Array.getElem?_eq_some_iff.1 hk).1).trans hk⟩
theorem Turn.putObj {B:Nat} {W:World} {l:Nat} {o:Obj} (o':Obj)(hB:B<=l)(hl:W.heap[l]? =some o)(ho:o.isCells=false):Turn B W (W.putObj l o'):=
 ⟨rfl,rfl,rfl,by simp,le_refl _,fun k o2 hk h2=>by
  refine(World.putObj_heap_other fun e=> ?_).trans hk;subst e;rcases h2 with h2|h2
  ·omega
  ·rw[hl] at hk;cases hk;rw[ho] at h2;cases h2⟩
theorem Turn.alloc (B:Nat)(W:World)(o:Obj):Turn B W (W.alloc o):=Turn.of_ex B ((Ex.refl _ _).alloc (le_refl _) o)
theorem Turn.less {B:Nat} {W:World} (h:Turn B' W W')(hB:B<=B'):Turn B W W':=
 ⟨h.os,h.tape,h.output,h.size,h.drawn,fun k o hk h2=>h.same k o hk (h2.imp (fun h=>by omega) id)⟩
theorem Turn.ex {B:Nat} {W:World} (h:Turn B W W')(hB:B<=W.heap.size):Ex B W W':=
 ⟨⟨h.os,h.tape,h.output,h.size,fun k hk=>by
  have hlt:k<W.heap.size:=by omega
  rw[h.same k _ (Array.getElem?_eq_getElem hlt) (.inl hk),Array.getElem?_eq_getElem hlt]⟩,h.drawn⟩
def Stable {β:Type} (B:Nat)(J:β->World->Prop):Prop:= ∀s W W',J s W->Turn B W W'->J s W'
theorem Stable.and {β:Type} {B:Nat} {I I':β->World->Prop} (h:Stable B I)(h':Stable B I'):Stable B (fun s W=>I s W/\ I' s W):=fun s W W' hs ht=>⟨h s W W' hs.1 ht,h' s W W' hs.2 ht⟩
theorem z6v {β:Type} (B:Nat)(p:β->Prop):Stable B (fun s (_:World)=>p s):=fun _ _ _ hs _=>hs
theorem qbc {β:Type} (B b:Nat)(t:TypeId)(f:Nat×Nat)(cs:β->Array Value):Stable B (fun s W=>W.heap[b]? =some (.cells (cs s) t f)):=fun _ _ _ hs ht=>ht.same _ _ hs (.inr rfl)
theorem qft {β:Type} {B:Nat} {w:World} (hn:n<=B)(hw:n<=w.heap.size):Stable B (fun(_:β) W=>Ex n w W):=fun _ W W' hs ht=>
 hs.trans (((ht.less hn).ex (le_trans hw hs.size)))
theorem z2z {β:Type} (B:Nat):Stable B (fun(_:β) (_:World)=>False):=fun _ _ _ hs _=>hs
section
variable {P:Program} {α:Type}
def Yields (P:Program)(l:Nat)(args:Array Value)(W:World)(R:Ending->World->Prop):Prop:= ∀m,YieldAt Fence.wide m P l args W R
theorem Yields.mono {l:Nat} {args:Array Value} {W:World} {R':Ending->World->Prop} (h:Yields P l args W R)(hr: ∀e w,R e w->R' e w):Yields P l args W R':=fun m=>by
 obtain⟨fn,tmps,assign,body,hy,hR⟩:=h m;exact⟨fn,tmps,assign,body,hy,hR.mono hr⟩
def Iter (P:Program)(g:Nat)(lb:Array Value)(encs:α->Array Value)(Kp:World->World->Prop)(S Sp:List α->Prop)(w:World):Prop:=
 ∀ (l:Nat) (J Jx:List α->World->Prop) (W:World),Ex w.heap.size w W->Stable W.heap.size J->Stable W.heap.size Jx->
  (∀pre x W1,J pre W1->Sp (pre++[x])->Yields P l (encs x) W1 fun e W'=>KeepsFrom W.heap.size W1 W'/\
   ((e= .returned (.bool true)/\ J (pre++[x]) W'/\ Kp W1 W') \/(e= .returned (.bool false)/\ Jx (pre++[x]) W')))->
  J [] W->
  Calls P g (#[.func (.yield l) #[] #[]]++lb) W fun e W'=>(∃v,e= .returned v)/\ ((∃xs,S xs/\ J xs W') \/(∃pre,Sp pre/\ Jx pre W'))
def zys (B:Nat)(Kp:World->World->Prop)(I:List α->World->Prop)(Ix:Code->List α->World->Prop)(xs:List α)(W:World):Exit->Act->World->Prop
 | .normal,_,W'=>KeepsFrom B W W'/\ Kp W W'/\ I xs W'
 | .ret,_,W'=>KeepsFrom B W W'/\ Ix .ret xs W'
 | .exit id,_,W'=>KeepsFrom B W W'/\ Ix (.exit id) xs W'
 | .goto t,_,W'=>KeepsFrom B W W'/\ Ix (.goto t) xs W'
 |_,_,_=>False
theorem zji {B:Nat} {W:World} (h:KeepsFrom B W W')(hB:B<=B'):KeepsFrom B' W W':=⟨h.size,fun k o hk h1 h2=>h.same k o (by omega) h1 h2⟩
theorem zku {B l:Nat} (W:World)(o:Obj)(h:l<B):KeepsFrom B W (W.putObj l o):=⟨by simp,fun k o' hk h1 _=>(World.putObj_heap_other (by omega)).trans h1⟩
theorem qfd {F:Fence} (hF: ∀f,F.fn f) {m B l d:Nat} {fn:FuncId} {tmps:Array Value} {ps:Array Tmp} {assign body:Code} (rec:LoopState->Option Code->Loop)
 (hrec:rec=fun st pe=>{state:=st,pending:=pe,fn,tmps,params:=ps,assign,body,defers:=d}) (hBl:B<=l)
 {encs:α->Array Value} {Kp:World->World->Prop} (hps: ∀x,(encs x).size=ps.size)
 (hKt: ∀A B C:World,Kp A B->Kp B C->Kp A C) (hKT: ∀W W':World,Turn B W W'->B<=W.heap.size->Kp W W')
 {I:List α->World->Prop} {Ix:Code->List α->World->Prop} {A:α->Act->World->Prop} (hI:Stable B I) (hIx: ∀c,Stable B (Ix c)) (hA: ∀x a',Stable B (fun(_:Unit) W=>A x a' W))
 {pre:List α} {x:α} {W:World} (hl:W.heap[l]? =some (.loop (rec .ready none)))
 (hassign: ∀K:Act->World->Prop,(∀a' W',KeepsFrom B W W'->Kp W W'->I pre W'->A x a' W'->K a' W')->assign.wpIn (F.inRound l) m P (Exit.then K (fun _ _ _=>False)) {tmps:=(ps.zip (encs x)).foldl (fun t (p,v)=>t.setIfInBounds p v) tmps,defers:=[]} W)
 (hbody: ∀a' W',(∃r,W'.heap[l]? =some (.loop r)/\ r.defers=d)->I pre W'->A x a' W'->body.wpIn (F.inRound l) m P (zys B Kp I Ix (pre++[x]) W') a' W'):
 YieldAt F m P l (encs x) W fun e W'=>KeepsFrom (l+1) W W'/\ (∀k o,B<=k->k≠l->W.heap[k]? =some o->o.isCells=false->W'.heap[k]? =some o)/\
  ((e= .returned (.bool true)/\ (I (pre++[x]) W'/\ W'.heap[l]? =some (.loop (rec .ready none)))/\ Kp W W') \/
   (e= .returned (.bool false)/\ ∃c,Ix c (pre++[x]) W'/\ W'.heap[l]? =some (.loop (rec .done (some c))))):=by
 have hy:=run_yield (P:=P) (args:=encs x) hl (by rw[hrec];exact hps x);rw[hrec] at hy;refine⟨fn,_,assign,body,hy,roundIn_of_wpIn (hF fn) (hassign _ ?_)⟩;intro a' Wa hk1 hkp1 hi1 ha1;have hla:=hk1.same _ _ hBl hl rfl;have hlt:l<Wa.heap.size:=(Array.getElem?_eq_some_iff.1 hla).1;refine⟨_,run_beginRound hla (by rw[hrec]),?_⟩;have hT1:=Turn.putObj (B:=B) (.loop {rec .ready none with state:= .busy}) hBl hla rfl;have hlb:(Wa.putObj l (.loop {rec .ready none with state:= .busy})).heap[l]? =some (.loop {rec .ready none with state:= .busy}):=World.putObj_heap_same hlt;have hkp2:=hKt _ _ _ hkp1 (hKT _ _ hT1 (by omega));have hks:KeepsFrom (l+1) Wa (Wa.putObj l (.loop {rec .ready none with state:= .busy})):=zku Wa _ (by omega);have hks': ∀k o,k≠l->Wa.heap[k]? =some o->(Wa.putObj l (.loop {rec .ready none with state:= .busy})).heap[k]? =some o:=fun k o hk h=>(World.putObj_heap_other hk).trans h;generalize Wa.putObj l (.loop {rec .ready none with state:= .busy})=Wb at*
 refine wpIn_mono (hbody a' Wb ⟨_,hlb,by rw[hrec]⟩ (hI _ _ _ hi1 hT1) (hA x a' () _ _ ha1 hT1)) ?_
 -- behind the body
 have fin: ∀(jump:Option Code) (Wc:World),KeepsFrom B Wb Wc->
  (Instr.endRound l jump).run P Wc= .ok (.bool jump.isNone) (Wc.putObj l (.loop (rec (if jump.isNone then .ready else .done) jump)))/\
  Turn B Wc (Wc.putObj l (.loop (rec (if jump.isNone then .ready else .done) jump)))/\ B<=Wc.heap.size/\
  (Wc.putObj l (.loop (rec (if jump.isNone then .ready else .done) jump))).heap[l]? =some (.loop (rec (if jump.isNone then .ready else .done) jump))/\
  KeepsFrom (l+1) W (Wc.putObj l (.loop (rec (if jump.isNone then .ready else .done) jump)))/\
  ∀k o,B<=k->k≠l->W.heap[k]? =some o->o.isCells=false->(Wc.putObj l (.loop (rec (if jump.isNone then .ready else .done) jump))).heap[k]? =some o:=fun jump Wc hk3=>by
  have hlc:=hk3.same _ _ hBl hlb rfl;have hltc:l<Wc.heap.size:=(Array.getElem?_eq_some_iff.1 hlc).1;have:=run_endRound (P:=P) jump hlc;rw[hrec] at this⊢
  exact⟨this,Turn.putObj _ hBl hlc rfl,by omega,World.putObj_heap_same hltc,
   (((zji hk1 (by omega)).trans hks).trans (zji hk3 (by omega))).trans (zku Wc _ (by omega)),
   fun k o hkB hkl h1 h2=>(World.putObj_heap_other hkl).trans (hk3.same _ _ hkB (hks' _ _ hkl (hk1.same _ _ hkB h1 h2)) h2)⟩
 rintro e a3 Wc hp;cases e with
 | normal=>
  obtain⟨hk3,hkp3,hi3⟩:=hp;obtain⟨hr,hT,hsz,hl4,hk4,hk5⟩:=fin none Wc hk3;exact⟨_,_,hr,hk4,hk5,.inl ⟨rfl,⟨hI _ _ _ hi3 hT,hl4⟩,hKt _ _ _ (hKt _ _ _ hkp2 hkp3) (hKT _ _ hT hsz)⟩⟩
 | ret=>
  obtain⟨hk3,hi3⟩:=hp;obtain⟨hr,hT,hsz,hl4,hk4,hk5⟩:=fin (some .ret) Wc hk3;exact⟨_,_,hr,hk4,hk5,.inr ⟨rfl,.ret,hIx _ _ _ _ hi3 hT,hl4⟩⟩
 | exit id=>
  obtain⟨hk3,hi3⟩:=hp;obtain⟨hr,hT,hsz,hl4,hk4,hk5⟩:=fin (some (.exit id)) Wc hk3;exact⟨_,_,hr,hk4,hk5,.inr ⟨rfl,.exit id,hIx _ _ _ _ hi3 hT,hl4⟩⟩
 | goto t=>
  obtain⟨hk3,hi3⟩:=hp;obtain⟨hr,hT,hsz,hl4,hk4,hk5⟩:=fin (some (.goto t)) Wc hk3;exact⟨_,_,hr,hk4,hk5,.inr ⟨rfl,.goto t,hIx _ _ _ _ hi3 hT,hl4⟩⟩
 |panic ch=>exact hp.elim
 |outgrown=>exact hp.elim
theorem zmv {F:Fence} (hd:F.depth=none) {c:Code} {n m:Nat} {Q:Exit->Act->World->Prop} {a:Act} {w:World} (h:c.wpIn F n P Q a w):c.wpIn F m P Q a w:=
 fun b k cs h1 h2 _=>h b k cs h1 h2 (fun d hdd=>by rw[hd] at hdd;cases hdd)
theorem zwp {B l d:Nat} {fn:FuncId} {tmps:Array Value} {ps:Array Tmp} {assign body:Code} (rec:LoopState->Option Code->Loop)
 (hrec:rec=fun st pe=>{state:=st,pending:=pe,fn,tmps,params:=ps,assign,body,defers:=d}) (hBl:B<=l)
 {encs:α->Array Value} {Kp:World->World->Prop} (hps: ∀x,(encs x).size=ps.size)
 (hKt: ∀A B C:World,Kp A B->Kp B C->Kp A C) (hKT: ∀W W':World,Turn B W W'->B<=W.heap.size->Kp W W')
 {I:List α->World->Prop} {Ix:Code->List α->World->Prop} {A:α->Act->World->Prop} (hI:Stable B I) (hIx: ∀c,Stable B (Ix c)) (hA: ∀x a',Stable B (fun(_:Unit) W=>A x a' W))
 {pre:List α} {x:α} {W:World} (hl:W.heap[l]? =some (.loop (rec .ready none)))
 (hassign: ∀K:Act->World->Prop,(∀a' W',KeepsFrom B W W'->Kp W W'->I pre W'->A x a' W'->K a' W')->assign.wpIn (Fence.wide.inRound l) 0 P (Exit.then K (fun _ _ _=>False)) {tmps:=(ps.zip (encs x)).foldl (fun t (p,v)=>t.setIfInBounds p v) tmps,defers:=[]} W)
 (hbody: ∀a' W',(∃r,W'.heap[l]? =some (.loop r)/\ r.defers=d)->I pre W'->A x a' W'->body.wpIn (Fence.wide.inRound l) 0 P (zys B Kp I Ix (pre++[x]) W') a' W'):
 Yields P l (encs x) W fun e W'=>KeepsFrom (l+1) W W'/\ (∀k o,B<=k->k≠l->W.heap[k]? =some o->o.isCells=false->W'.heap[k]? =some o)/\
  ((e= .returned (.bool true)/\ (I (pre++[x]) W'/\ W'.heap[l]? =some (.loop (rec .ready none)))/\ Kp W W') \/
   (e= .returned (.bool false)/\ ∃c,Ix c (pre++[x]) W'/\ W'.heap[l]? =some (.loop (rec .done (some c))))):=fun _=>
 qfd (F:=Fence.wide) (fun _=>trivial) rec hrec hBl hps hKt hKT hI hIx hA hl (fun K hK=>zmv rfl (hassign K hK)) (fun a' W' h1 h2 h3=>zmv rfl (hbody a' W' h1 h2 h3))
theorem qhp {ps:Array Tmp} {assign body:Code} {a:Act} {w:World} {gf:Nat} {lb:Array Value}
 (hg:a.eval g= .func (.func gf) #[] lb) (eg: ∀args w,(callFunc gf args).run P w= .ok (.enter gf args) w)
 {encs:α->Array Value} {Kp:World->World->Prop} {S Sp:List α->Prop} (hit:Iter P gf lb encs Kp S Sp w) (hps: ∀x,(encs x).size=ps.size)
 (hKt: ∀A B C:World,Kp A B->Kp B C->Kp A C) (hKT: ∀W W':World,Turn w.heap.size W W'->w.heap.size<=W.heap.size->Kp W W')
 (I:List α->World->Prop) (Ix:Code->List α->World->Prop) (A:α->Act->World->Prop) (hI:Stable w.heap.size I) (hIx: ∀c,Stable w.heap.size (Ix c)) (hA: ∀x a',Stable w.heap.size (fun(_:Unit) W=>A x a' W)) (h0:I [] w)
 (hassign: ∀l pre x W,I pre W->Sp (pre++[x])-> ∀K:Act->World->Prop,(∀a' W',KeepsFrom w.heap.size W W'->Kp W W'->I pre W'->A x a' W'->K a' W')->
  assign.wpIn (Fence.wide.inRound l) 0 P (Exit.then K (fun _ _ _=>False)) {tmps:=(ps.zip (encs x)).foldl (fun t (p,v)=>t.setIfInBounds p v) a.tmps,defers:=[]} W)
 (hbody: ∀l pre x a' W,w.heap.size<=l->(∃r,W.heap[l]? =some (.loop r)/\ r.defers=w.heap.size)->I pre W->A x a' W->Sp (pre++[x])->body.wpIn (Fence.wide.inRound l) 0 P (zys w.heap.size Kp I Ix (pre++[x]) W) a' W)
 (hdone: ∀D xs W,w.heap.size<=D->S xs->I xs W->W.heap[D]? =some (.deferred (some []))->Q .normal {a with defers:={target:= .collected D,args:= #[]}::a.defers} W)
 (hstop: ∀D c pre W,w.heap.size<=D->Sp pre->Ix c pre W->W.heap[D]? =some (.deferred (some []))->c.wpIn Fence.wide n P Q {a with defers:={target:= .collected D,args:= #[]}::a.defers} W):
 (Code.rangeFunc g ps assign body).wpIn Fence.wide n P Q a w:=by
 refine zmv (n:=1) rfl (wpIn_rangeFunc ?_);intro fn _;obtain⟨rec,hrec⟩: ∃rec:LoopState->Option Code->Loop,rec=fun st pe=>{state:=st,pending:=pe,fn,tmps:=a.tmps,params:=ps,assign,body,defers:=w.heap.size}:=⟨_,rfl⟩;have hrun:=run_enterLoop_outer (P:=P) (w:=w) fn a.tmps ps assign body;obtain⟨W1,hW1⟩: ∃W1,(w.alloc (.deferred (some []))).alloc (.loop (rec .ready none))=W1:=⟨_,rfl⟩;have hE:Ex w.heap.size w W1:=by rw[<-hW1];exact((Ex.refl _ _).alloc (le_refl _) _).alloc (by simp) _
 have hT:Turn w.heap.size w W1:=by rw[<-hW1];exact Turn.of_ex _ (((Ex.refl _ _).alloc (le_refl _) _).alloc (by simp) _)
 have hL:W1.heap[w.heap.size+1]? =some (.loop (rec .ready none)):=by
  rw[<-hW1];have:=World.alloc_heap_new (w.alloc (.deferred (some []))) (.loop (rec .ready none));rwa[World.size_alloc] at this
 have hD:W1.heap[w.heap.size]? =some (.deferred (some [])):=by
  rw[<-hW1];exact(Below.heap_alloc _ _ _ (by simp)).trans (World.alloc_heap_new w _)
 have hsz:W1.heap.size=w.heap.size+2:=by rw[<-hW1];simp
 have hrun':(Instr.enterLoop fn a.tmps ps assign body Fence.wide.round).run P w= .ok (w.heap.size+1,[{target:= .collected w.heap.size,args:= #[]}]) W1:=by
  rw[<-hW1,hrec];exact hrun
 clear hW1 hrun
 refine⟨w.heap.size+1,[{target:= .collected w.heap.size,args:= #[]}],W1,{target:= .fn (.func gf) lb,args:= #[.func (.yield (w.heap.size+1)) #[] #[]]},W1,gf,
  #[.func (.yield (w.heap.size+1)) #[] #[]]++lb,W1,hrun',?_,fun _ _=>trivial,?_,fun h=>by simp[Fence.wide] at h,callsIn_wide.2 ?_⟩
 ·simp only[resolve,hg];simp[go_sem]
 ·simp[invoke,go_sem,eg]
 ·refine(hit (w.heap.size+1) (fun pre W=>I pre W/\ W.heap[w.heap.size+1]? =some (.loop (rec .ready none))/\ W.heap[w.heap.size]? =some (.deferred (some [])))
   (fun pre W=> ∃c,Ix c pre W/\ W.heap[w.heap.size+1]? =some (.loop (rec .done (some c)))/\ W.heap[w.heap.size]? =some (.deferred (some []))) W1 hE
   (fun s X Y hs ht=>⟨hI _ _ _ hs.1 (ht.less (by omega)),ht.same _ _ hs.2.1 (.inl (by omega)),ht.same _ _ hs.2.2 (.inl (by omega))⟩)
   (fun s X Y hs ht=>by obtain⟨c,h1,h2,h3⟩:=hs;exact⟨c,hIx c _ _ _ h1 (ht.less (by omega)),ht.same _ _ h2 (.inl (by omega)),ht.same _ _ h3 (.inl (by omega))⟩)
   ?_ ⟨hI _ _ _ h0 hT,hL,hD⟩).mono ?_
  ·rintro pre x W ⟨hi,hl,hd⟩ hsp;refine(zwp (B:=w.heap.size) rec hrec (by omega) hps hKt hKT hI hIx hA hl (hassign _ pre x W hi hsp) (fun a' W' hr h1 h2=>hbody _ pre x a' W' (by omega) hr h1 h2 hsp)).mono ?_;rintro e W' ⟨hk,hk',h⟩;refine⟨zji hk (by omega),?_⟩;have hd':=hk' _ _ (le_refl _) (by omega) hd rfl;rcases h with⟨rfl,⟨h1,h2⟩,h3⟩|⟨rfl,c,h1,h2⟩
   ·exact .inl ⟨rfl,⟨h1,h2,hd'⟩,h3⟩
   ·exact .inr ⟨rfl,c,h1,h2,hd'⟩
  ·rintro e W2 ⟨⟨v,rfl⟩,(⟨xs,hS,hi,hl,hd⟩|⟨pre,hSp,c,hi,hl,hd⟩)⟩
   ·have hr:=run_endLoop (P:=P) hl (by rw[hrec];simp);have ht:Turn w.heap.size W2 (W2.putObj (w.heap.size+1) (.loop {rec .ready none with state:= .exhausted})):=Turn.putObj _ (by omega) hl rfl;exact⟨none,_,by rw[hrec] at hr⊢;exact hr,hdone _ xs _ (le_refl _) hS (hI _ _ _ hi ht) ((World.putObj_heap_other (by omega)).trans hd)⟩
   ·have hr:=run_endLoop (P:=P) hl (by rw[hrec];simp);have ht:Turn w.heap.size W2 (W2.putObj (w.heap.size+1) (.loop {rec .done (some c) with state:= .exhausted})):=Turn.putObj _ (by omega) hl rfl;exact⟨some c,_,by rw[hrec] at hr⊢;exact hr,zmv rfl (hstop _ c pre _ (le_refl _) hSp (hIx c _ _ _ hi ht) ((World.putObj_heap_other (by omega)).trans hd))⟩
end
def Grows (w w':World):Prop:=Ex w.heap.size w w'
theorem Grows.refl (w:World):Grows w w:=Ex.refl _ _
theorem Grows.trans {a b:World} (h:Grows a b)(k:Grows b c):Grows a c:=Ex.trans h (k.mono h.size)
theorem Grows.drew {a w:World} (h:Grows a w):Grows a {w with drawn:=w.drawn+1}:=Ex.drew h
abbrev VP:=Value->World->Prop
def Mono (V:VP):Prop:= ∀v w w',Grows w w'->V v w->V v w'
def Is (e:Value):VP:=fun v _=>v=e
abbrev Acc:=List (Tmp×VP)
def env (a0:Act):Acc->Tmp->VP
 |[],t=>Is (a0.eval (.tmp t))
 |(d,V)::r,t=>if d=t then V else env a0 r t
def OpGood (P:Program)(V:VP)(w:World):Result Next->Prop
 | .ok (.value v) w'=>Grows w w'/\ V v w'
 | .ok .skip w'=>Grows w w'/\ V undef w'
 | .ok (.enter f args) w'=>Grows w w'/\ Calls P f args w' fun e w''=> ∃v,e= .returned v/\ Grows w w''/\ V v w''
 | .ok (.row row args) w'=>Grows w w'/\ Rows P row args w' fun v w''=>Grows w w''/\ V v w''
 |_=>False
def zhd:List Operand->List Tmp
 |[]=>[]
 | .tmp t::r=>t::zhd r
 |_::r=>zhd r
def All (E:Tmp->VP)(ρ:Operand->Value)(w:World):List Tmp->Prop
 |[]=>True
 |t::r=>E t (ρ (.tmp t)) w/\ All E ρ w r
structure Env (ρ:Operand->Value):Prop where
 const: ∀v,ρ (.const v)=v
 func: ∀f,ρ (.func f)= .func (.func f) #[] #[]
 global: ∀g,ρ (.global g)= .pointer (some ⟨g,0,none⟩)
theorem z0g (a:Act):Env a.eval:=⟨fun _=>rfl,fun _=>rfl,fun _=>rfl⟩
def zbp (ops:Array Oper)(k:Nat):Option Tmp:=(ops[k]?).bind (·.dst)
def accOf (acc:Acc)(d:Option Tmp)(V:VP):Acc:=match d with|some t=>(t,V)::acc|none=>acc
def EndAt (w:World):Acc->Act->(Act->Prop)->Prop
 |[],a,K=>K a
 |(d,V)::r,a,K=>EndAt w r a fun a'=> ∀v,V v w->K (a'.put (some d) v)
def zhi (ops:Array Oper)(i j:Nat):Bool:=match ops[i]? with|some o=>o.after.any fun e=>Region.binds .any e&&e.on==j|none=>false
def zgl (ops:Array Oper)(i:Nat):List Tmp:=
 match ops[i]? with
 |some o=>zhd o.op.operands.toList++(match o.guard with|some (k,_)=>(zbp ops k).toList|none=>[])
 |none=>[]
def z3f (ops:Array Oper)(size n:Nat):Bool:=
 (List.range n).all fun j=>match zbp ops j with
  |none=>true
  |some d=>decide (d<size)&&(List.range n).all fun i=>(decide (i=j)||zbp ops i !=some d)&&(!(zgl ops i).contains d||(if j<i then zhi ops i j else decide (i<j)&&zhi ops j i))
def zyg (ops:Array Oper):Bool:=(List.range ops.size).all fun i=>match ops[i]? with|some o=>o.after.all fun e=> !Region.binds .any e||decide (e.on<i)|none=>true
def chk (ops:Array Oper)(size n:Nat):Bool:=
 z3f ops size n&&zyg ops&&decide (n<=ops.size)&&(decide (n=ops.size)||(Region.sinkB .any ops n&&Region.chainB .any ops n))&&
  Region.seqB .any ops (ops.size-n) n ((List.replicate n true).toArray++(List.replicate (ops.size-n) false).toArray)
def left:Nat->Array Bool->Nat
 |0,_=>0
 |k+1,l=>left k l+if l.getD k true=true then 0 else 1
theorem zoj {i:Nat} {l:Array Bool} (hu:l.getD i true=false): ∀n,i<n->left n (l.setIfInBounds i true)+1=left n l
 |0,h=>absurd h (Nat.not_lt_zero _)
 | n +1,h=>by
  have hi:i<l.size:=by
   rcases lt_or_ge i l.size with h'|h'
   ·exact h'
   ·simp[Array.getElem?_eq_none h'] at hu
  by_cases hin:i=n
  ·subst hin;have e: ∀m,m<=i->left m (l.setIfInBounds i true)=left m l:=by
    intro m;induction m with
    |zero=>intro _;rfl
    |succ m ih=>intro hm;simp only[left,ih (by omega)];rw[getD_set_ne true (by omega)]
   simp only[left,e i (le_refl _),hu];have:(l.setIfInBounds i true).getD i true=true:=by simp[hi]
   simp[this]
  ·have:=zoj hu n (by omega);simp only[left];rw[getD_set_ne true hin];omega
theorem zjz {l:Array Bool}: ∀n,left n l=0-> ∀i,i<n->l.getD i true=true
 |0,_,i,h=>absurd h (Nat.not_lt_zero _)
 | n+1,h0,i,h=>by
  simp only[left] at h0;by_cases hin:i=n
  ·subst hin;by_cases hh:l.getD i true=true
   ·exact hh
   ·simp only[hh] at h0;simp at h0
  ·exact zjz n (by omega) i (by omega)
theorem zoo {l:Array Bool}: ∀n,left n l≠0-> ∃i,i<n/\ l.getD i true=false/\ ∀j,j<i->l.getD j true=true
 |0,h=>absurd rfl h
 | n+1,h=>by
  by_cases h0:left n l=0
  ·refine⟨n,by omega,?_,fun j hj=>zjz n h0 j hj⟩;simp only[left,h0] at h;cases hh:l.getD n true with
   |false=>rfl
   |true=>simp only[hh] at h;simp at h
  ·obtain⟨i,hi,hu,hb⟩:=zoo n h0;exact⟨i,by omega,hu,hb⟩
section
variable {P:Program} {ops:Array Oper} {w0:World} {a0:Act}
def accU (ops:Array Oper)(Vs:Nat->VP):Nat->Acc
 |0=>[]
 |i+1=>accOf (accU ops Vs i) (zbp ops i) (Vs i)
theorem env_none {Vs:Nat->VP} {t:Tmp}: ∀i,(∀j,j<i->zbp ops j≠some t)->env a0 (accU ops Vs i) t=Is (a0.eval (.tmp t))
 |0,_=>rfl
 | i+1,h=>by
  simp only[accU];cases hd:zbp ops i with
  |none=>simp only[accOf];exact env_none i fun j hj=>h j (by omega)
  | some d=>
   have:d≠t:=fun e=>h i (by omega) (by rw[hd,e]);simp only[accOf,env,if_neg this];exact env_none i fun j hj=>h j (by omega)
theorem env_some {Vs:Nat->VP} {t:Tmp} (hd:zbp ops j=some t): ∀i,j<i->(∀k,k<i->k≠j->zbp ops k≠some t)->env a0 (accU ops Vs i) t=Vs j
 |0,h,_=>absurd h (Nat.not_lt_zero _)
 | i +1,h,hne=>by
  simp only[accU];by_cases hij:j=i
  ·subst hij;simp[hd,accOf,env]
  ·cases hd':zbp ops i with
   |none=>simp only[accOf];exact env_some hd i (by omega) fun k hk hkj=>hne k (by omega) hkj
   | some d=>
    have:d≠t:=fun e=>hne i (by omega) (by omega) (by rw[hd',e]);simp only[accOf,env,if_neg this];exact env_some hd i (by omega) fun k hk hkj=>hne k (by omega) hkj
structure Inv (ops:Array Oper)(w0:World)(a0:Act)(Vs:Nat->VP)(n:Nat)(listed:Array Bool)(a:Act)(w:World):Prop where
 head:HeadInv .any ops n listed
 grows:Grows w0 w
 defers:a.defers=a0.defers
 size:a.tmps.size=a0.tmps.size
 done: ∀j t,j<n->zbp ops j=some t->listed.getD j true=true->Vs j (a.eval (.tmp t)) w
 still: ∀t,(∀j,j<n->zbp ops j=some t->listed.getD j true=false)->a.eval (.tmp t)=a0.eval (.tmp t)
theorem zrz {d:Tmp} {l:List Tmp} (h:d∈l):l.contains d=true:=by simpa using h
theorem zef {i:Nat} (h:zhi ops i j=true): ∃o,ops[i]? =some o/\ ∃e∈o.after,Region.binds .any e=true/\ e.on=j:=by
 unfold zhi at h;split at h
 ·rename_i o ho;obtain⟨e,he,hb⟩:=Array.any_eq_true'.1 h;simp only[and_eq_true,beq_iff_eq] at hb;exact⟨o,ho,e,he,hb.1,hb.2⟩
 ·cases h
theorem zup {listed:Array Bool} {i:Nat} (h:listed.getD i false=true):listed.getD i true=true:=by
 rcases lt_or_ge i listed.size with h'|h'
 ·simp[h'] at h⊢;exact h
 ·simp[Array.getElem?_eq_none h']
theorem zvo {listed:Array Bool} {i:Nat} (hi:i<listed.size)(h:listed.getD i true=true):listed.getD i false=true:=by
 simp[hi] at h⊢;exact h
theorem zju {size:Nat} (h:z3f ops size n=true) {j:Nat} {d:Tmp} (hj:j<n)(hd:zbp ops j=some d):
 d<size/\ (∀i,i<n->i≠j->zbp ops i≠some d)/\ ∀i,i<n->d∈zgl ops i->(j<i/\ zhi ops i j=true) \/(i<j/\ zhi ops j i=true):=by
 unfold z3f at h;have h1:=all_eq_true.1 h j (mem_range.2 hj);rw[hd] at h1;simp only[and_eq_true,decide_eq_true_eq] at h1;obtain⟨h2,h3⟩:=h1;refine⟨h2,fun i hi hne he=> ?_,fun i hi hl=> ?_⟩
 ·have h4:=all_eq_true.1 h3 i (mem_range.2 hi);simp only[and_eq_true,Bool.or_eq_true,decide_eq_true_eq] at h4;rcases h4.1 with h5|h5
  ·exact hne h5
  ·rw[he] at h5;simp at h5
 ·have h4:=all_eq_true.1 h3 i (mem_range.2 hi);simp only[and_eq_true,Bool.or_eq_true] at h4;rcases h4.2 with h5|h5
  ·rw[zrz hl] at h5;simp at h5
  ·split at h5
   ·rename_i hlt;exact .inl ⟨hlt,h5⟩
   ·simp only[and_eq_true,decide_eq_true_eq] at h5;exact .inr h5
theorem Act.eval_put_same {a:Act} {t:Tmp} {v:Value} (h:t<a.tmps.size):(a.put (some t) v).eval (.tmp t)=v:=by
 simp[Act.put,Act.eval,h]
theorem Act.size_put (a:Act)(d:Option Tmp)(v:Value):(a.put d v).tmps.size=a.tmps.size:=by cases d<;>simp[Act.put]
theorem Act.defers_put (a:Act)(d:Option Tmp)(v:Value):(a.put d v).defers=a.defers:=by cases d<;>rfl
theorem Inv.step {Vs:Nat->VP} {i:Nat} {listed:Array Bool} {a:Act} {w:World} {v:Value} (inv:Inv ops w0 a0 Vs n listed a w)(hB:z3f ops a0.tmps.size n=true)
 (hm: ∀j,j<n->Mono (Vs j)) (hi:i∈Region.ready .any ops listed) (hin:i<n) (hg:Grows w w') (hv:Vs i v w'):
 Inv ops w0 a0 Vs n (listed.setIfInBounds i true) (a.put (zbp ops i) v) w':=by
 have hun:=(mem_ready.1 hi).1;refine⟨inv.head.set hi hin,inv.grows.trans hg,by rw[Act.defers_put];exact inv.defers,by rw[Act.size_put];exact inv.size,fun j t hj hd hl=> ?_,fun t h=> ?_⟩
 ·by_cases hji:j=i
  ·subst hji;rw[hd,Act.eval_put_same (by rw[inv.size];exact(zju hB hj hd).1)];exact hv
  ·rw[getD_set_ne true (Ne.symm hji)] at hl;rw[Act.eval_put fun d h1 h2=>(zju hB hj hd).2.1 i hin (Ne.symm hji) (by rw[h1];cases h2;rfl)];exact hm j hj _ _ _ hg (inv.done j t hj hd hl)
 ·have hne:zbp ops i≠some t:=fun he=>by
   have:=h i hin he;have hs:i<listed.size:=by
    rcases lt_or_ge i listed.size with h'|h'
    ·exact h'
    ·simp[Array.getElem?_eq_none h'] at hun
   simp[hs] at this
  rw[Act.eval_put fun d h1 h2=>hne (by rw[h1];cases h2;rfl)];exact inv.still t fun j hj hd=>by
   have:=h j hj hd;by_cases hji:j=i
   ·subst hji;exact absurd hd hne
   ·rwa[getD_set_ne true (Ne.symm hji)] at this
end
theorem qlg {l:List Oper} (hj:j<(l.take n).length):(l.take n)[j]? =l.toArray[0+j]? :=by
 have:j<n:=by simp at hj;omega
 simp[this]
def Ret (v:Value)(w:World)(e:Ending)(w':World):Prop:=e= .returned v/\ Ex w.heap.size w w'
def RetV (V:VP)(w:World)(e:Ending)(w':World):Prop:= ∃v,e= .returned v/\ Ex w.heap.size w w'/\ V v w'
theorem Ret.v {P:Program} {f:FuncId} {args:Array Value} {w:World} {v:Value} (h:Calls P f args w (Ret v w)):Calls P f args w (RetV (Is v) w):=h.mono fun _ _ h=>⟨v,h.1,h.2,rfl⟩
theorem zea (w:World)(o:Obj)(n:Nat)(h:n=w.heap.size):(w.alloc o).heap[n]? =some o:=by subst h;exact heap_alloc_new w o
structure Grew (w w':World)(row:Option Nat):Prop extends w.grownBy w' row where
 drawn:drn w<=drn w'
theorem zme {F:Fence} {P:Program} (w:World) {ops:Array Oper} {rest:List Oper} {o:Oper} {a:Act} {Q:Exit->Act->World->Prop}
 (hg:o.guard=none) (s x:Operand) (t:TypeId) (hop:o.op=Op.call {callee:=Callee.builtin Builtin.append,args:= #[s,x],argTypes:= #[t,t]})
 (base:Nat) (e:TypeId) (i:TypeInfo) (z:Value) (size bytes:Nat) (h1:P.underlying t=some (.slice e)) (h2:P.info? e=some i) (h3:i.zero=some z) (h4:i.size=size) (h5:i.bytes=bytes) (h6:z.cells.size=size) (h7:0<size)
 (v:Value) (k:Nat) (xs:List Value) (hs:a.eval s=v) (hown:w.ownsRow base e size v k xs) (ad:Addr) (m c:Nat) (news:List Value) (hx:a.eval x= .slice (some ad) m c) (hn:news.length=m*size)
 (hc: ∀j u,news[j]? =some u->w.cell? (ad.add j)=some u) (h1c: ∀u∈news,u.oneCell'=true) (b1:k+m<=maxLen) (b2:(k+m)*bytes<=140737488355328) (b3:base<=w.heap.size)
 (hK: ∀v' w',w'.ownsRow base e size v' (k+m) (xs++news)->Grew w w' v.ownBlock->(v'= .slice none 0 0↔v= .slice none 0 0/\ m=0)->wpListIn F n P ops Q rest (a.put o.dst v') w'):
 wpListIn F n P ops Q (o::rest) a w:=by
 refine wpListIn_plain hg fun K hK'=> ?_;obtain⟨v',w',hrun,r1,r2,r3⟩:=run_append_own (P:=P) w base t o.type e i z size bytes h1 h2 h3 h4 h5 h6 h7 v k xs hown ad m c news hn hc h1c b1 b2 b3;have hd:=qdu _ _ _ _ hrun;unfold Oper.wpIn;refine⟨?_,?_⟩
 ·simp[Oper.about,hop,resolve,Target.leads,Sem.run_pure]
 ·rw[Oper.semAt_plain F _ _ (by rw[hop];intro c hc';cases hc')];simp[execOp,hop,resolve,invoke,builtin,hs,hx,hrun,Result.andThen];exact hK' _ _ (hK v' w' r1 ⟨r2,le_refl 0⟩ r3)
theorem z0y (w:World)(news:List Value)(t:TypeId): ∀j u,news[j]? =some u->(w.alloc (.cells news.toArray t)).cell? ((⟨w.heap.size,0,none⟩:Addr).add j)=some u:=by
 intro j u hj;have e:(⟨w.heap.size,0,none⟩:Addr).add j=⟨w.heap.size,j,none⟩:=by unfold Addr.add;split<;>simp_all
 rw[e,cell_of_row _ _ _ _ _ _ (zea w _ _ rfl)];simpa using hj
theorem zud {W:World} {B:Nat} {t e:TypeId} {cs:Array Value} {f:Nat×Nat} (h:W.heap[B]? =some (.cells cs t f))(hte:t≠e) {base size k:Nat} {v:Value} {xs:List Value} (hr:W.ownsRow base e size v k xs):some B≠v.ownBlock:=by
 rcases hr.2 with⟨rfl,_⟩|⟨g,cap,cur,rfl,_,hgb,_⟩
 ·simp[Value.ownBlock]
 ·intro e';obtain rfl:B=g:=by simpa[Value.ownBlock] using e'
  have:=h.symm.trans hgb;simp at this;exact hte this.2.1
theorem zls {W:World} {B:Nat} {t e:TypeId} {cs:Array Value} {f:Nat×Nat} {base size k:Nat} {v:Value} {xs:List Value} {tmp:Obj} (h:W.heap[B]? =some (.cells cs t f))(hte:t≠e)(hr:W.ownsRow base e size v k xs)
 (hgrow:Grew (W.alloc tmp) w1 v.ownBlock):w1.heap[B]? =some (.cells cs t f):=by
 have hlt:=(Array.getElem?_eq_some_iff.1 h).1;rw[hgrow.block B (by simp;omega) (zud h hte hr),Below.heap_alloc _ _ _ hlt];exact h
theorem qbw {w:World} {base:Nat} {e:TypeId} {size:Nat} {v:Value} {xs:List Value} (h:w.ownsRow base e size v n xs): ∃a cap,v= .slice a n cap:=by
 rcases h.2 with⟨rfl,rfl⟩|⟨g,cap,cur,rfl,_⟩
 ·exact⟨_,_,rfl⟩
 ·exact⟨_,_,rfl⟩
theorem ex_grew {B base:Nat} {w0 W:World} {e:TypeId} {size k:Nat} {v:Value} {xs:List Value} {tmp:Obj} (h:Ex B w0 W)(hB:B<=W.heap.size)(hbase:B<=base)(hr:W.ownsRow base e size v k xs)(hgrow:Grew (W.alloc tmp) w1 v.ownBlock):Ex B w0 w1:=
 ⟨(h.toBelow.alloc hB tmp).grown hgrow.togrownBy (by simp;omega) (fun j ej=>by
  rcases hr.2 with⟨rfl,_⟩|⟨g,cap,cur,rfl,hb,_,_⟩
  ·simp[Value.ownBlock] at ej
  ·obtain rfl:g=j:=by simpa[Value.ownBlock] using ej
   omega),le_trans h.drawn hgrow.drawn⟩
theorem z5s {β:Type} {B:Nat} (base:Nat)(e:TypeId)(size:Nat)(v:β->Value)(n:β->Nat)(xs:β->List Value):Stable B (fun s W=>W.ownsRow base e size (v s) (n s) (xs s)):=by
 rintro s W W' ⟨h1,h2⟩ ht;refine⟨h1,h2.imp id ?_⟩;rintro⟨g,cap,cur,hv,hb,hg,r⟩;exact⟨g,cap,cur,hv,hb,ht.same _ _ hg (.inr rfl),r⟩
theorem zvw {β:Type} {B:Nat} (b:Nat)(t:TypeId)(base:Nat)(e:TypeId)(size:Nat)(n:β->Nat)(xs:β->List Value):Stable B (fun s W=> ∃v,Boxed W b t v/\ W.ownsRow base e size v (n s) (xs s)):=by
 rintro s W W' ⟨v,hv,ho⟩ ht;exact⟨v,ht.same _ _ hv (.inr rfl),z5s base e size (fun _:Unit=>v) (fun _=>n s) (fun _=>xs s) () _ _ ho ht⟩
theorem zrj {W:World} {B0 b:Nat} {t e:TypeId} {size:Nat} {v v':Value} {base k m:Nat} {xs ys:List Value} {tmp:Obj} {w0:World}
 (hv:Boxed W b t v) (hte:t≠e) (hrow:W.ownsRow base e size v k xs) (hE:Ex B0 w0 W) (hB:B0<=W.heap.size) (hB0:B0<=base) (hb:B0<=b)
 (hown':w1.ownsRow base e size v' m ys) (hgrow:Grew (W.alloc tmp) w1 v.ownBlock):
 Boxed w1 b t v/\ Boxed (w1.setCell ⟨b,0,none⟩ v') b t v'/\ (w1.setCell ⟨b,0,none⟩ v').ownsRow base e size v' m ys/\ KeepsOthers W (w1.setCell ⟨b,0,none⟩ v')/\ Ex B0 w0 (w1.setCell ⟨b,0,none⟩ v'):=by
 have hv1:Boxed w1 b t v:=zls hv hte hrow hgrow;refine⟨hv1,hv1.set v',hown'.kept (grownBy_setCell' w1 b v') (.inr (hv1.not_row hte hown').symm),?_,(ex_grew hE hB hB0 hrow hgrow).setCell hb v'⟩;refine((KeepsOthers.alloc W tmp).trans (KeepsOthers.of_grownBy hgrow.togrownBy fun j o ej hj=> ?_)).trans (KeepsOthers.setCell _ _ _);rcases(hrow.alloc tmp).2 with⟨rfl,_⟩|⟨g,cap,cur,rfl,_,hgb,_⟩
 ·simp[Value.ownBlock] at ej
 ·obtain rfl:g=j:=by simpa[Value.ownBlock] using ej
  rw[hgb] at hj;cases hj;rfl
def SlAt (n:Nat)(cs:List Value)(v:Value)(w:World):Prop:=
 (v= .slice none 0 0/\ n=0/\ cs=[]) \/ ∃b o cap,v= .slice (some ⟨b,o,none⟩) n cap/\ b<w.heap.size/\ ∀(i:Nat) (x:Value),cs[i]? =some x->w.cell? ⟨b,o+i,none⟩=some x
theorem SlAt.mono (n:Nat)(cs:List Value):Mono (SlAt n cs):=by
 rintro v w w' hg (⟨rfl,h1,h2⟩|⟨b,o,cap,rfl,hb,hc⟩)
 ·exact .inl ⟨rfl,h1,h2⟩
 ·exact .inr ⟨b,o,cap,rfl,Nat.lt_of_lt_of_le hb hg.size,fun i x hx=>(hg.toBelow.cell (p:=⟨b,o+i,none⟩) hb).trans (hc i x hx)⟩
theorem ex_put {B l:Nat} {w0 W:World} (h:Ex B w0 W) {o:Obj} (o':Obj)(hl:W.heap[l]? =some o)(ho:o.isCells=false)(hB:B<=l)(hs:B<=W.heap.size):Ex B w0 (W.putObj l o'):=
 h.trans ((Turn.putObj o' hB hl ho).ex hs)
theorem qfl {P:Program} {fn:Func} {e:Exit} {a:Act} {W:World} {D:Nat} {v:Value} (he:e= .normal \/e= .ret)(ha:a.defers=[{target:= .collected D,args:= #[]}])
 (hD:W.heap[D]? =some (.deferred (some []))) (hres:(results fn a.tmps).run P (W.putObj D (.deferred none))= .ok v (W.putObj D (.deferred none))) (hR:R (.returned v) (W.putObj D (.deferred none))):bodyPostM Fence.wide n P fn R e a W:=by
 have key:LeavesInM Fence.wide n P fn a.tmps R a.defers .returning W:=by
  rw[ha];exact⟨by simp,.inl ⟨_,_,rfl,run_takeDeferred hD,⟨_,hres,hR⟩⟩⟩
 rcases he with rfl|rfl<;>exact key
def zpi (b:Nat)(W W':World):Prop:=W'.heap[b]? =W.heap[b]?
theorem qao {b:Nat} (A B C:World)(h:zpi b A B)(k:zpi b B C):zpi b A C:=Eq.trans k h
theorem qca {b:Nat} {w:World} (hb:b<w.heap.size)(W W':World)(ht:Turn w.heap.size W W')(hs:w.heap.size<=W.heap.size):zpi b W W':=(ht.ex hs).block b hb
theorem qan {P:Program} {α:Type} {ps:Array Tmp} {assign body:Code} {a:Act} {w:World} {gf:Nat} {lb:Array Value}
 (hg:a.eval g= .func (.func gf) #[] lb) (eg: ∀args w,(callFunc gf args).run P w= .ok (.enter gf args) w)
 {encs:α->Array Value} {Kp:World->World->Prop} {S Sp:List α->Prop} (hit:Iter P gf lb encs Kp S Sp w) (hps: ∀x,(encs x).size=ps.size)
 (hKr: ∀W,Kp W W) (hKt: ∀A B C:World,Kp A B->Kp B C->Kp A C) (hKT: ∀W W':World,Turn w.heap.size W W'->w.heap.size<=W.heap.size->Kp W W')
 (I:List α->World->Prop) (Ix:Code->List α->World->Prop) (hI:Stable w.heap.size I) (hIx: ∀c,Stable w.heap.size (Ix c)) (h0:I [] w) (a₁:α->Act)
 (hassign: ∀l x W (K:Act->World->Prop),K (a₁ x) W->assign.wpIn (Fence.wide.inRound l) 0 P (Exit.then K (fun _ _ _=>False)) {tmps:=(ps.zip (encs x)).foldl (fun t (p,v)=>t.setIfInBounds p v) a.tmps,defers:=[]} W)
 (hbody: ∀l pre x W,w.heap.size<=l->(∃r,W.heap[l]? =some (.loop r)/\ r.defers=w.heap.size)->I pre W->Sp (pre++[x])->body.wpIn (Fence.wide.inRound l) 0 P (zys w.heap.size Kp I Ix (pre++[x]) W) (a₁ x) W)
 (hdone: ∀D xs W,w.heap.size<=D->S xs->I xs W->W.heap[D]? =some (.deferred (some []))->Q .normal {a with defers:={target:= .collected D,args:= #[]}::a.defers} W)
 (hstop: ∀D c pre W,w.heap.size<=D->Sp pre->Ix c pre W->W.heap[D]? =some (.deferred (some []))->c.wpIn Fence.wide n P Q {a with defers:={target:= .collected D,args:= #[]}::a.defers} W):
 (Code.rangeFunc g ps assign body).wpIn Fence.wide n P Q a w:=
 qhp hg eg hit hps hKt hKT I Ix (fun x a' _=>a'=a₁ x) hI hIx (fun _ _=>z6v _ _) h0
  (fun l pre x W hi _ K hK=>hassign l x W K (hK _ _ (KeepsFrom.refl _ _) (hKr W) hi rfl))
  (fun l pre x a' W hl hr hi ha hs=>by subst ha;exact hbody l pre x W hl hr hi hs) hdone hstop
section
variable {P:Program} {ops:Array Oper} {w0:World} {a0:Act} {fin:Acc->Prop} {o:Oper} {rest:List Oper} {acc:Acc}
abbrev Uses (w0:World)(a0:Act)(acc:Acc)(o:Oper)(ρ:Operand->Value)(W:World):Prop:=
 (∀v,ρ (.const v)=v)/\ (∀f,ρ (.func f)= .func (.func f) #[] #[])/\ Grows w0 W/\ All (env a0 acc) ρ W (zhd o.op.operands.toList)
end
end Go.Fwd
namespace Go.Fwd
open Go Go.RowKit
section
variable {P:Program} {ops:Array Oper} {w0:World} {a0:Act} {fin:Acc->Prop} {o:Oper} {rest:List Oper} {acc:Acc}
abbrev Met (ops:Array Oper)(a0:Act)(acc:Acc)(o:Oper):Prop:=
 match o.guard with|none=>True|some (k,b)=> ∃d,zbp ops k=some d/\ ∀g W,env a0 acc d g W->g= .bool b
def PtrAt (cs:List Value)(v:Value)(w:World):Prop:= ∃b o,v= .pointer (some ⟨b,o,none⟩)/\ b<w.heap.size/\ ∀(i:Nat) (x:Value),cs[i]? =some x->w.cell? ⟨b,o+i,none⟩=some x
theorem PtrAt.mono (cs:List Value):Mono (PtrAt cs):=by
 rintro v w w' hg ⟨b,o,rfl,hb,hc⟩;exact⟨b,o,rfl,Nat.lt_of_lt_of_le hb hg.size,fun i x hx=>(hg.toBelow.cell (p:=⟨b,o+i,none⟩) hb).trans (hc i x hx)⟩
theorem SlAt.shape {n:Nat} {cs:List Value} {v:Value} {w:World} (h:SlAt n cs v w): ∃a cap,v= .slice a n cap/\ (0<n-> ∃b o,a=some ⟨b,o,none⟩/\ b<w.heap.size/\ ∀(i:Nat) (x:Value),cs[i]? =some x->w.cell? ⟨b,o+i,none⟩=some x):=by
 rcases h with⟨rfl,h1,h2⟩|⟨b,o,cap,rfl,hb,hc⟩
 ·subst h1;exact⟨none,0,rfl,fun h=>by omega⟩
 ·exact⟨_,cap,rfl,fun _=>⟨b,o,rfl,hb,hc⟩⟩
end
end Go.Fwd
namespace Go.Ab
open Go Go.RowKit Go.Fwd
variable {W':World}
inductive Room where
 |none|own (s:Nat)|full
 deriving DecidableEq,Inhabited
inductive AV where
 |raw (v:Value)
 |agg (cs:List AV)
 |tup (vs:List AV)
 |list (n:Nat) (cs:List AV) (st:Room)
 |ptr (s off:Nat)
 |bsl (s off n sz:Nat) (f:Bool)
 |iptr (cs:List AV)
 |clos (f:FuncId) (caps:List AV)
 |iter (xs:List (List AV))
 |yld (l:Nat)
 |top
 |bad
 deriving Inhabited
structure Row where
 block:Nat
 elem:TypeId
 size:Nat
 cap:Nat
structure Cx where
 F:Nat->Nat->Prop
 κ:List Nat
 β:List Row
 lens:List Nat
 w:World
 O:Nat->Prop
 C:Nat->Nat->Prop
structure IterP where
 it:Value->List (List AV)->Cx->Prop
 /-- What is known of package variables: cells that are never written. -/
 gv:(Nat->Nat->Prop)->World->Prop
def Bsl (X:Cx)(s off n sz:Nat)(f:Bool)(v:Value):Prop:=
 ∃b cap cur t,X.κ[s]? =some b/\ v= .slice (some ⟨b,off,none⟩) n cap/\ n<=cap/\ (f=true->cap=n)/\ X.w.heap[b]? =some (.cells cur t (0,0))/\ off+cap*sz<=cur.size
mutual
def Rep (IT:IterP)(X:Cx):AV->Value->Prop
 | .raw u,v=>v=u
 | .agg cs,v=> ∃vs:List Value,v= .agg vs.toArray/\ zbf IT X cs vs/\ ∀u∈vs,u.oneCell'=true
 | .tup cs,v=> ∃vs:List Value,v= .tuple vs.toArray/\ zbf IT X cs vs
 | .list n cs st,v=> ∃a cap,v= .slice a n cap/\ (n<=cap/\ (a=none->cap=0))/\ (cs=[] \/ ∃b o,a=some ⟨b,o,none⟩/\ At IT X cs b o)/\
  (match st with
   | .none=>True
   | .full=>cap=n
   | .own s=> ∃L,X.lens[s]? =some L/\ cs.length<=L/\ (cs.length=L-> ∃r,X.β[s]? =some r/\ a=some ⟨r.block,0,none⟩/\ cap=r.cap/\ cs.length=n*r.size))
 | .ptr s off,v=> ∃b,X.κ[s]? =some b/\ v= .pointer (some ⟨b,off,none⟩)
 | .bsl s off n sz f,v=>Bsl X s off n sz f v
 | .iptr cs,v=> ∃b o,v= .pointer (some ⟨b,o,none⟩)/\ At IT X cs b o
 | .clos f caps,v=> ∃vs:List Value,v= .func (.func f) #[] vs.toArray/\ zbf IT X caps vs
 | .iter xs,v=>IT.it v xs X
 | .yld l,v=>v= .func (.yield l) #[] #[]
 | .top,_=>True
 | .bad,_=>False
def zbf (IT:IterP)(X:Cx):List AV->List Value->Prop
 |[],vs=>vs=[]
 |a::l,vs=> ∃v r,vs=v::r/\ Rep IT X a v/\ zbf IT X l r
def At (IT:IterP)(X:Cx):List AV->Nat->Nat->Prop
 |[],_,_=>True
 |c::cs,b,o=>(X.F b o/\ ∃v,X.w.cell? ⟨b,o,none⟩=some v/\ v.oneCell'=true/\ Rep IT X c v)/\ At IT X cs b (o+1)
end
def Szs (W W':World):Prop:= ∀(k:Nat) (cs:Array Value) (t:TypeId) (f:Nat×Nat),W.heap[k]? =some (.cells cs t f)-> ∃cs' t' f',W'.heap[k]? =some (.cells cs' t' f')/\ cs'.size=cs.size
theorem Szs.refl (W:World):Szs W W:=fun _ cs t f h=>⟨cs,t,f,h,rfl⟩
theorem Szs.trans {A B C:World} (h:Szs A B)(k:Szs B C):Szs A C:=fun i cs t f e=>by
 obtain⟨c1,t1,f1,e1,s1⟩:=h i cs t f e;obtain⟨c2,t2,f2,e2,s2⟩:=k i c1 t1 f1 e1;exact⟨c2,t2,f2,e2,s2.trans s1⟩
theorem Szs.eq {W:World} (h:W'=W):Szs W W':=h▸Szs.refl _
theorem Szs.heap {W:World} (h:W'.heap=W.heap):Szs W W':=fun k cs t f e=>⟨cs,t,f,by rw[h];exact e,rfl⟩
theorem Szs.old {W:World} (h: ∀k,k<W.heap.size->W'.heap[k]? =W.heap[k]?):Szs W W':=fun k cs t f e=>⟨cs,t,f,(h k (Array.getElem?_eq_some_iff.1 e).1).trans e,rfl⟩
theorem Szs.one {W:World} (b:Nat)(h: ∀k,k<W.heap.size->k≠b->W'.heap[k]? =W.heap[k]?)(hb: ∀cs t f,W.heap[b]? =some (.cells cs t f)-> ∃cs' t' f',W'.heap[b]? =some (.cells cs' t' f')/\ cs'.size=cs.size):Szs W W':=fun k cs t f e=>by
 by_cases hk:k=b
 ·subst hk;exact hb cs t f e
 ·exact⟨cs,t,f,(h k (Array.getElem?_eq_some_iff.1 e).1 hk).trans e,rfl⟩
structure Sub (X X':Cx):Prop where
 F: ∀(b o:Nat),X.F b o->X'.F b o
 cell: ∀(b o:Nat),X.F b o->X'.w.cell? ⟨b,o,none⟩=X.w.cell? ⟨b,o,none⟩
 κ: ∀(s b:Nat),X.κ[s]? =some b->X'.κ[s]? =some b
 lens: ∀(s L:Nat),X.lens[s]? =some L-> ∃L',X'.lens[s]? =some L'/\ L<=L'/\ (L'=L->X'.β[s]? =X.β[s]?)
 blk: ∀(s b:Nat),X.κ[s]? =some b-> ∀(cur:Array Value) (t:TypeId) (f:Nat×Nat),X.w.heap[b]? =some (.cells cur t f)-> ∃cur',X'.w.heap[b]? =some (.cells cur' t f)/\ cur'.size=cur.size
 szs:Szs X.w X'.w
theorem Bsl.sub {X X':Cx} (h:Sub X X') {s off n sz:Nat} {f:Bool} {v:Value} (hr:Bsl X s off n sz f v):Bsl X' s off n sz f v:=by
 obtain⟨b,cap,cur,t,h1,h2,h3,h4,h5,h6⟩:=hr;obtain⟨cur',k1,k2⟩:=h.blk s b h1 cur t _ h5;exact⟨b,cap,cur',t,h.κ s b h1,h2,h3,h4,k1,by omega⟩
theorem Bsl.mono {X Y:Cx} {s off n sz:Nat} {f:Bool} {v:Value} (hκ: ∀b,X.κ[s]? =some b->Y.κ[s]? =some b)(hw:Y.w=X.w)(hr:Bsl X s off n sz f v):Bsl Y s off n sz f v:=by
 obtain⟨b,cap,cur,t,h1,h2,h3,h4,h5,h6⟩:=hr;exact⟨b,cap,cur,t,hκ b h1,h2,h3,h4,by rw[hw];exact h5,h6⟩
structure Ext (X X':Cx):Prop extends Sub X X' where
 os:X'.w.os=X.w.os
 tape:X'.w.tape=X.w.tape
 output:X'.w.output=X.w.output
 size:X.w.heap.size<=X'.w.heap.size
 drawn:drn X.w<=drn X'.w
 frame: ∀(b:Nat),b<X.w.heap.size->b∉X.κ->(∀r∈X.β,r.block≠b)->X'.w.heap[b]? =X.w.heap[b]?
 κnew: ∀b∈X'.κ,b∈X.κ \/X.w.heap.size<=b
 βnew: ∀r∈X'.β,(∃q∈X.β,q.block=r.block) \/X.w.heap.size<=r.block
 O:X'.O=X.O
 C:X'.C=X.C
 Fnew: ∀(b o:Nat),X'.F b o->X.F b o \/X.w.heap.size<=b \/(∃q∈X.β,q.block=b) \/b∈X.κ
theorem Ext.refl (X:Cx):Ext X X where
 os:=rfl
 tape:=rfl
 output:=rfl
 size:=le_refl _
 drawn:=le_refl _
 F:=fun _ _ h=>h
 cell:=fun _ _ _=>rfl
 κ:=fun _ _ h=>h
 lens:=fun s L h=>⟨L,h,le_refl _,fun _=>rfl⟩
 blk:=fun _ _ _ cur _ _ h=>⟨cur,h,rfl⟩
 szs:=Szs.refl _
 frame:=fun _ _ _ _=>rfl
 κnew:=fun _ h=> .inl h
 βnew:=fun r h=> .inl ⟨r,h,rfl⟩
 O:=rfl
 C:=rfl
 Fnew:=fun _ _ h=> .inl h
theorem Ext.trans {X Y Z:Cx} (h:Ext X Y)(k:Ext Y Z):Ext X Z where
 os:=k.os.trans h.os
 tape:=k.tape.trans h.tape
 output:=k.output.trans h.output
 size:=le_trans h.size k.size
 drawn:=le_trans h.drawn k.drawn
 F:=fun b o hf=>k.F b o (h.F b o hf)
 cell:=fun b o hf=>(k.cell b o (h.F b o hf)).trans (h.cell b o hf)
 κ:=fun s b hs=>k.κ s b (h.κ s b hs)
 lens:=fun s L hs=>by
  obtain⟨L1,h1,h2,h3⟩:=h.lens s L hs;obtain⟨L2,k1,k2,k3⟩:=k.lens s L1 h1;exact⟨L2,k1,le_trans h2 k2,fun e=>by
   have e1:L2=L1:=by omega
   have e2:L1=L:=by omega
   rw[k3 e1,h3 e2]⟩
 blk:=fun s b hs cur t f hc=>by
  obtain⟨c1,h1,h2⟩:=h.blk s b hs cur t f hc;obtain⟨c2,k1,k2⟩:=k.blk s b (h.κ s b hs) c1 t f h1;exact⟨c2,k1,k2.trans h2⟩
 szs:=h.szs.trans k.szs
 frame:=fun b hb hκ hβ=>by
  refine(k.frame b (Nat.lt_of_lt_of_le hb h.size) (fun hm=> ?_) (fun r hr e=> ?_)).trans (h.frame b hb hκ hβ)
  ·rcases h.κnew b hm with h1|h1
   ·exact hκ h1
   ·omega
  ·rcases h.βnew r hr with⟨q,hq,e'⟩|h1
   ·exact hβ q hq (e'.trans e)
   ·omega
 κnew:=fun b hb=>by
  rcases k.κnew b hb with h1|h1
  ·exact h.κnew b h1
  ·exact .inr (le_trans h.size h1)
 βnew:=fun r hr=>by
  rcases k.βnew r hr with⟨q,hq,e⟩|h1
  ·rcases h.βnew q hq with⟨p,hp,e'⟩|h2
   ·exact .inl ⟨p,hp,e'.trans e⟩
   ·exact .inr (e▸h2)
  ·exact .inr (le_trans h.size h1)
 O:=k.O.trans h.O
 C:=k.C.trans h.C
 Fnew:=fun b o hf=>by
  rcases k.Fnew b o hf with h1|h1|⟨q,hq,e⟩|h1
  ·exact h.Fnew b o h1
  ·exact .inr (.inl (le_trans h.size h1))
  ·rcases h.βnew q hq with⟨p,hp,e'⟩|h2
   ·exact .inr (.inr (.inl ⟨p,hp,e'.trans e⟩))
   ·exact .inr (.inl (e▸h2))
  ·rcases h.κnew b h1 with h2|h2
   ·exact .inr (.inr (.inr h2))
   ·exact .inr (.inl h2)
def errRows:List (List AV):=[List.replicate 9 .bad]
@[reducible] def AV.err:AV:= .iter errRows
structure ITMono (IT:IterP):Prop where
 it: ∀v xs X X',(∀b o,X.F b o->X'.F b o)->(∀b o,X.F b o->X'.w.cell? ⟨b,o,none⟩=X.w.cell? ⟨b,o,none⟩)->Szs X.w X'.w->IT.it v xs X->IT.it v xs X'
 gv: ∀F F' w w',(∀b o,F b o->F' b o)->(∀b o,F b o->w'.cell? ⟨b,o,none⟩=w.cell? ⟨b,o,none⟩)->Szs w w'->IT.gv F w->IT.gv F' w'
 err: ∀v X,IT.it v errRows X-> ∃t p,v= .iface t p
theorem qev {IT:IterP} (hIT:ITMono IT) {X X':Cx} (h:Sub X X')(g:IT.gv X.F X.w):IT.gv X'.F X'.w:=hIT.gv _ _ _ _ h.F h.cell h.szs g
theorem z3s {IT:IterP} (hIT:ITMono IT) {X X':Cx} (h:Ext X X')(g:IT.gv X.F X.w):IT.gv X'.F X'.w:=qev hIT h.toSub g
mutual
theorem zll {IT:IterP} (hIT:ITMono IT) {X X':Cx} (h:Sub X X'): ∀(a:AV) (v:Value),Rep IT X a v->Rep IT X' a v
 | .raw u,v,hr=>hr
 | .agg cs,v,⟨vs,e,hr,h1⟩=>⟨vs,e,zbu hIT h cs vs hr,h1⟩
 | .tup cs,v,⟨vs,e,hr⟩=>⟨vs,e,zbu hIT h cs vs hr⟩
 | .list n cs st,v,⟨a,cap,e,hcap,hc,hs⟩=>by
  refine⟨a,cap,e,hcap,hc.imp id fun⟨b,o,e1,e2⟩=>⟨b,o,e1,z9g hIT h cs b o e2⟩,?_⟩;cases st with
  |none=>trivial
  |full=>exact hs
  | own s=>
   obtain⟨L,h1,h2,h3⟩:=hs;obtain⟨L',k1,k2,k3⟩:=h.lens s L h1;refine⟨L',k1,le_trans h2 k2,fun e'=> ?_⟩;obtain⟨r,r1,r2⟩:=h3 (by omega);exact⟨r,by rw[k3 (by omega)];exact r1,r2⟩
 | .ptr s off,v,⟨b,e1,e2⟩=>⟨b,h.κ s b e1,e2⟩
 | .bsl s off n sz f,v,hr=>hr.sub h
 | .iptr cs,v,⟨b,o,e,hc⟩=>⟨b,o,e,z9g hIT h cs b o hc⟩
 | .clos f caps,v,⟨vs,e,hr⟩=>⟨vs,e,zbu hIT h caps vs hr⟩
 | .iter xs,v,h2=>hIT.it _ _ _ _ h.F h.cell h.szs h2
 | .yld l,v,hr=>hr
 | .top,_,hr=>hr
 | .bad,_,hr=>hr
theorem zbu {IT:IterP} (hIT:ITMono IT) {X X':Cx} (h:Sub X X'): ∀(l:List AV) (vs:List Value),zbf IT X l vs->zbf IT X' l vs
 |[],_,hr=>hr
 |a::l,vs,⟨v,r,e,h1,h2⟩=>⟨v,r,e,zll hIT h a v h1,zbu hIT h l r h2⟩
theorem z9g {IT:IterP} (hIT:ITMono IT) {X X':Cx} (h:Sub X X'): ∀(cs:List AV) (b o:Nat),At IT X cs b o->At IT X' cs b o
 |[],_,_,_=>trivial
 |c::cs,b,o,⟨⟨hf,v,hv,h1,hr⟩,ht⟩=>⟨⟨h.F b o hf,v,(h.cell b o hf).trans hv,h1,zll hIT h c v hr⟩,z9g hIT h cs b (o+1) ht⟩
end
theorem zfe {IT:IterP} (hIT:ITMono IT) {X X':Cx} (h:Ext X X')(a:AV)(v:Value):Rep IT X a v->Rep IT X' a v:=zll hIT h.toSub a v
theorem zam {IT:IterP} (hIT:ITMono IT) {X X':Cx} (h:Ext X X')(l:List AV)(vs:List Value):zbf IT X l vs->zbf IT X' l vs:=zbu hIT h.toSub l vs
theorem z5j {IT:IterP} (hIT:ITMono IT) {X X':Cx} (h:Ext X X')(cs:List AV)(b o:Nat):At IT X cs b o->At IT X' cs b o:=z9g hIT h.toSub cs b o
variable {P:Program} {IT:IterP} {X:Cx} {o:Nat}
structure St where
 boxes:List (TypeId×List AV)
 lens:List Nat
 elems:List TypeId
 out:Nat:=0
 stop:Bool:=false
 deriving Inhabited
structure Inv (IT:IterP)(U:St)(X:Cx):Prop where
 lens:X.lens=U.lens
 elems:X.β.map (·.elem)=U.elems
 κlen:X.κ.length=U.boxes.length
 κnd: ∀(s s' b:Nat),X.κ[s]? =some b->X.κ[s']? =some b->s≠s'->(∃t,U.boxes[s]? =some (t,[])) \/(∃t,U.boxes[s']? =some (t,[]))
 box: ∀(s b:Nat) (t:TypeId) (cs:List AV),X.κ[s]? =some b->U.boxes[s]? =some (t,cs)->
  ∃vs zs:List Value,X.w.heap[b]? =some (.cells (vs++zs).toArray t (0,0))/\ zbf IT X cs vs/\ ∀v∈vs,v.oneCell'=true
 κF: ∀(s b:Nat) (t:TypeId) (cs:List AV),X.κ[s]? =some b->U.boxes[s]? =some (t,cs)->cs≠[]-> ∀o,¬X.F b o
 βlen:X.β.length=X.lens.length
 βnd:(X.β.map (·.block)).Nodup
 βκ: ∀r∈X.β,r.block∉X.κ
 row: ∀(s:Nat) (r:Row) (L:Nat),X.β[s]? =some r->X.lens[s]? =some L-> ∃cur fz,X.w.heap[r.block]? =some (.cells cur r.elem fz)/\ cur.size=r.cap*r.size/\ r.cap<=maxLen/\ 0<r.size/\ L<=cur.size/\
  (∀o,X.F r.block o->o<L)/\ fz.2<=L
 Ok: ∀(b:Nat),X.O b->(∃cs t f,X.w.heap[b]? =some (.cells cs t f))/\ b∉X.κ/\ (∀r∈X.β,r.block≠b)/\ ∀o,X.F b o->X.C b o
 Fcell: ∀(b o:Nat),X.F b o-> ∃v,X.w.cell? ⟨b,o,none⟩=some v
 gv:IT.gv X.F X.w:=by first|exact z3s (by assumption) (by assumption) (Inv.gv (by assumption))|exact Inv.gv (by assumption)
def val? (P:Program) {α:Type}:Sem α->Option α
 | .pure a=>some a
 | .program k=>val? P (k P)
 | .mark _ k=>val? P k
 |_=>none
theorem val?_run {α:Type}: ∀(s:Sem α) (a:α),val? P s=some a-> ∀w,s.run P w= .ok a w:=by
 intro s;induction s with
 |pure b=>intro a h w;simp[val?] at h;subst h;rfl
 |program k ih=>intro a h w;exact ih P a h w
 |mark m k ih=>intro a h w;exact ih a h w
 |_=>intro a h;cases h
theorem val?_bind {α β:Type} (s:Sem α)(f:α->Sem β):val? P (s.bind f)=(val? P s).bind fun a=>val? P (f a):=by
 induction s with
 |pure a=>rfl
 |program k ih=>exact ih P
 |mark m k ih=>exact ih
 |_=>rfl
def zkx:Value->AV
 | .slice none 0 0=> .list 0 [] .full
 |v=> .raw v
def zlu:Value->AV
 | .agg cs=> .agg (cs.toList.map zkx)
 |v=>zkx v
def zkf:AV->Option Value
 | .raw v=>some v
 |_=>none
def zer:List AV->Option (List Value)
 |[]=>some []
 |a::l=>match zkf a,zer l with|some v,some r=>some (v::r)|_,_=>none
def zdr:AV->Option Value
 | .raw v=>some v
 | .agg cs=>(zer cs).map fun vs=> .agg vs.toArray
 |_=>none
def cellsOf:AV->List AV
 | .agg cs=>cs
 |a=>[a]
def rd (P:Program)(t:TypeId)(cs:List AV):Option AV:=
 match P.underlying t,P.info? t with
 |some (.struct _),some i|some (.array _ _),some i=>if i.size<=cs.length then some (.agg (cs.take i.size)) else none
 |some _,some _=>cs.head?
 |_,_=>none
theorem zq: ∀ {l:List AV} {vs:List Value},zbf IT X l vs->l.length=vs.length
 |[],vs,h=>by rw[zbf] at h;rw[h];rfl
 | a::l,vs,h=>by
  rw[zbf] at h;obtain⟨v,r,e,_,h⟩:=h;rw[e,List.length_cons,List.length_cons,zq h]
theorem zei: ∀ {l:List AV} {vs:List Value},zbf IT X l vs-> ∀(i:Nat) a,l[i]? =some a-> ∃v,vs[i]? =some v/\ Rep IT X a v
 |[],vs,h,i,a,e=>by simp at e
 | b::l,vs,h,i,a,e=>by
  rw[zbf] at h;obtain⟨v,r,rfl,h1,h2⟩:=h;cases i with
  |zero=>simp at e;subst e;exact⟨v,rfl,h1⟩
  |succ i=>simp at e;simpa using zei h2 i a e
theorem zfw: ∀ {l:List AV} {vs:List Value},l.length=vs.length->(∀(i:Nat) a v,l[i]? =some a->vs[i]? =some v->Rep IT X a v)->zbf IT X l vs
 |[],vs,h,_=>by rw[zbf];exact List.length_eq_zero_iff.1 h.symm
 |b::l,[],h,_=>by simp at h
 | b::l,v::vs,h,k=>by
  rw[zbf];exact⟨v,vs,rfl,k 0 b v rfl rfl,zfw (by simpa using h) fun i a u h1 h2=>k (i+1) a u (by simpa using h1) (by simpa using h2)⟩
theorem zbm {l m:List AV} {vs us:List Value} (h:zbf IT X l vs)(k:zbf IT X m us):zbf IT X (l++m) (vs++us):=by
 have hl:=zq h;refine zfw (by simp[hl,zq k]) fun i a v h1 h2=> ?_;rcases lt_or_ge i l.length with hi|hi
 ·rw[getElem?_append_left hi] at h1;rw[getElem?_append_left (by omega)] at h2;obtain⟨v',e,hr⟩:=zei h i a h1;rw[h2] at e;cases e;exact hr
 ·rw[List.getElem?_append_right hi] at h1;rw[List.getElem?_append_right (by omega)] at h2;rw[hl] at h1;obtain⟨v',e,hr⟩:=zei k _ a h1;rw[h2] at e;cases e;exact hr
theorem zih {l:List AV} {vs:List Value} (h:zbf IT X l vs)(n:Nat):zbf IT X (l.drop n) (vs.drop n):=by
 refine zfw (by simp[zq h]) fun i a v h1 h2=> ?_;rw[List.getElem?_drop] at h1 h2;obtain⟨v',e,hr⟩:=zei h _ a h1;rw[h2] at e;cases e;exact hr
theorem zib {l:List AV} {vs:List Value} (h:zbf IT X l vs)(n:Nat):zbf IT X (l.take n) (vs.take n):=by
 refine zfw (by simp[zq h]) fun i a v h1 h2=> ?_;rw[List.getElem?_take] at h1 h2;split at h1
 ·rename_i hi;rw[if_pos hi] at h2;obtain⟨v',e,hr⟩:=zei h _ a h1;rw[h2] at e;cases e;exact hr
 ·cases h1
theorem zjx (v:Value):Rep IT X (zkx v) v:=by
 unfold zkx;split
 ·rw[Rep];exact⟨none,0,rfl,⟨le_refl _,fun _=>rfl⟩,.inl rfl,rfl⟩
 ·rw[Rep]
def zpx:Value->Bool
 | .agg cs=>cs.toList.all (·.oneCell')
 |_=>true
theorem zjr (v:Value)(h:zpx v=true):Rep IT X (zlu v) v:=by
 unfold zlu;split
 ·rename_i cs;rw[Rep];refine⟨cs.toList,by simp,zfw (by simp) fun i a v h1 h2=> ?_,fun u hu=>by simpa using all_eq_true.1 h u hu⟩;rw[getElem?_map,h2] at h1;simp at h1;subst h1;exact zjx v
 ·exact zjx _
theorem zrm: ∀ {l:List AV} {us vs:List Value},zer l=some us->zbf IT X l vs->vs=us
 |[],us,vs,h,k=>by rw[zbf] at k;simp[zer] at h;rw[k,h]
 | a ::l,us,vs,h,k=>by
  rw[zbf] at k;obtain⟨v,r,rfl,h1,h2⟩:=k;cases a with
  | raw u=>
   simp only[zer,zkf] at h;cases hr:zer l with
   |none=>rw[hr] at h;cases h
   | some us'=>
    rw[hr] at h;simp at h;rw[Rep] at h1;rw[<-h,h1,zrm hr h2]
  |_=>simp[zer,zkf] at h
theorem z4p {a:AV} {u v:Value} (h:zdr a=some u)(k:Rep IT X a v):v=u:=by
 cases a with
 |raw w=>simp[zdr] at h;rw[Rep] at k;rw[k,h]
 | agg cs=>
  simp only[zdr,Option.map_eq_some_iff] at h;obtain⟨us,h1,rfl⟩:=h;rw[Rep] at k;obtain⟨vs,rfl,k2,_⟩:=k;rw[zrm h1 k2]
 |_=>simp[zdr] at h
def qbh (IT:IterP)(X:Cx)(cs:List AV)(b o:Nat):Prop:=
 ∃vs:List Value,zbf IT X cs vs/\ (∀v∈vs,v.oneCell'=true)/\ ∀(j:Nat) v,vs[j]? =some v->X.w.cell? ⟨b,o+j,none⟩=some v
theorem zgp: ∀ {cs:List AV} {b o:Nat},At IT X cs b o->qbh IT X cs b o
 |[],b,o,_=>⟨[],by rw[zbf],by simp,by simp⟩
 | c ::cs,b,o,h=>by
  rw[At] at h;obtain⟨⟨hf,v,hv,h1,hr⟩,ht⟩:=h;obtain⟨vs,k1,k2,k3⟩:=zgp ht;refine⟨v::vs,by rw[zbf];exact⟨v,vs,rfl,hr,k1⟩,fun u hu=> ?_,fun j u hj=> ?_⟩
  ·rcases List.mem_cons.1 hu with rfl|hu
   ·exact h1
   ·exact k2 u hu
  ·cases j with
   |zero=>simp at hj;subst hj;exact hv
   | succ j=>
    have:=k3 j u (by simpa using hj);rw[show o+(j+1)=o+1+j by omega];exact this
theorem zza: ∀ {cs:List AV} {b o:Nat} (n:Nat),At IT X cs b o->At IT X (cs.drop n) b (o+n)
 |cs,b,o,0,h=>by simpa using h
 |[],b,o,n+1,_=>by simp[At]
 | c::cs,b,o,n+1,h=>by
  rw[At] at h;have:=zza n h.2;rw[List.drop_succ_cons,show o+(n+1)=o+1+n by omega];exact this
theorem zzn: ∀ {cs:List AV} {b o:Nat} (n:Nat),At IT X cs b o->At IT X (cs.take n) b o
 |cs,b,o,0,h=>by simp[At]
 |[],b,o,n+1,_=>by simp[At]
 | c::cs,b,o,n+1,h=>by
  rw[At] at h;rw[List.take_succ_cons,At];exact⟨h.1,zzn n h.2⟩
theorem qbo {cs:List AV} {b:Nat} (h:qbh IT X cs b o)(n:Nat):qbh IT X (cs.drop n) b (o+n):=by
 obtain⟨vs,k1,k2,k3⟩:=h;refine⟨vs.drop n,zih k1 n,fun v hv=>k2 v (List.mem_of_mem_drop hv),fun j v hj=> ?_⟩;rw[List.getElem?_drop] at hj;rw[Nat.add_assoc];exact k3 _ v hj
theorem zjv {t:TypeId} {d:TypeDesc} (h:P.underlying t=some d)(w:World):(isAgg t).run P w= .ok (match d with| .struct _| .array _ _=>true|_=>false) w:=by
 unfold isAgg underlying;cases d<;>simp[program,Sem.run,h]
theorem zjq {t:TypeId} {i:TypeInfo} (h:P.info? t=some i)(w:World):(sizeOf t).run P w= .ok i.size w:=by
 unfold sizeOf typeInfo;simp[program,Sem.run,h]
theorem zxc {t:TypeId} {cs:List AV} {a:AV} {b:Nat} (h:rd P t cs=some a)(hc:qbh IT X cs b o):
 ∃v,(loadVar t ⟨b,o,none⟩).run P X.w= .ok v X.w/\ Rep IT X a v:=by
 obtain⟨vs,k1,k2,k3⟩:=hc;have hadd: ∀j,(⟨b,o,none⟩:Addr).add j=⟨b,o+j,none⟩:=fun j=>by unfold Addr.add;split<;>simp_all
 unfold rd at h;cases hu:P.underlying t with
 |none=>rw[hu] at h;cases P.info? t<;>simp at h
 | some d=>
  cases hi:P.info? t with
  |none=>rw[hu,hi] at h;cases d<;>simp at h
  | some i=>
   rw[hu,hi] at h;have agg:(if i.size<=cs.length then some (AV.agg (cs.take i.size)) else none)=some a->((loadCells ⟨b,o,none⟩ i.size).run P X.w= .ok (vs.take i.size).toArray X.w)/\ Rep IT X a (.agg (vs.take i.size).toArray):=by
    intro h;split at h
    ·rename_i hle;simp at h;subst h;have hl:=zq k1;have hlen:(vs.take i.size).length=i.size:=by simp;omega
     refine⟨?_,?_⟩
     ·have:=run_loadCells_list (P:=P) X.w ⟨b,o,none⟩ (vs.take i.size) (fun j v hj=>by
       rw[hadd];rw[List.getElem?_take] at hj;split at hj
       ·exact k3 j v hj
       ·cases hj)
      rw[hlen] at this;exact this
     ·rw[Rep];exact⟨_,rfl,zib k1 _,fun u hu=>k2 u (mem_of_mem_take hu)⟩
    ·cases h
   have one:cs.head? =some a-> ∃v,(load ⟨b,o,none⟩).run P X.w= .ok v X.w/\ Rep IT X a v:=by
    intro h;have h0:cs[0]? =some a:=by rw[<-List.head?_eq_getElem?];exact h
    obtain⟨v,hv,hr⟩:=zei k1 0 a h0;have:=k3 0 v hv;refine⟨v,?_,hr⟩;simp only[Nat.add_zero] at this;simp[load,Sem.run,this]
   unfold loadVar;cases d with
   | struct fs=>
    obtain⟨h1,h2⟩:=agg h;exact⟨_,by simp[zjv hu,zjq hi,h1],h2⟩
   | array n e=>
    obtain⟨h1,h2⟩:=agg h;exact⟨_,by simp[zjv hu,zjq hi,h1],h2⟩
   | _=>
    obtain⟨v,h1,h2⟩:=one h;exact⟨v,by simp only[Sem.run_bind,zjv hu,Result.andThen_ok,Bool.false_eq_true,if_false,h1],h2⟩
variable {IT:IterP} {X:Cx} {U:St} {P:Program} {n:Nat} {j:Value}
def Res (IT:IterP)(X:Cx)(U':St)(a:AV)(r:Result Next):Prop:=
 ∃v X',(r= .ok (.value v) X'.w \/(r= .ok .skip X'.w/\ v=undef))/\ Ext X X'/\ Inv IT U' X'/\ Rep IT X' a v
def zch (ρ:Operand->AV)(x:Operand):Value:=(zdr (ρ x)).getD undef
def zfi (P:Program)(ρ:Operand->AV)(o:Oper):Option AV:=
 if o.op.operands.toList.all (fun x=>(zdr (ρ x)).isSome) then
  match o.op with
  | .select _ _=>none
  | _=>match val? P (execOp (zch ρ) o) with
   |some (.value v)=>if zpx v then some (zlu v) else none
   |_=>none
 else none
theorem zgg (b o n:Nat):(⟨b,o,none⟩:Addr).add n=⟨b,o+n,none⟩:=by unfold Addr.add;split<;>simp_all
def zzk (P:Program)(U:St)(t:TypeId):AV->Option AV
 | .iptr cs=>rd P t cs
 | .ptr s off=>match U.boxes[s]? with|some bx=>rd P t (bx.2.drop off)|none=>none
 |_=>none
theorem zui (hI:Inv IT U X) {s b:Nat} {bx:TypeId×List AV} (hs:X.κ[s]? =some b)(hb:U.boxes[s]? =some bx)(off:Nat):qbh IT X (bx.2.drop off) b off:=by
 obtain⟨vs,zs,h1,h2,h3⟩:=hI.box s b bx.1 bx.2 hs hb;have:qbh IT X bx.2 b 0:=⟨vs,h2,h3,fun j v hj=>by
  rw[zero_add,cell_of_row _ _ _ _ _ _ h1];have:=(List.getElem?_eq_some_iff.1 hj).1;rw[List.getElem?_toArray,getElem?_append_left this];exact hj⟩
 have:=qbo this off;rwa[zero_add] at this
theorem ztd {t:TypeId} {x a:AV} {u:Value} (h:zzk P U t x=some a)(hx:Rep IT X x u)(hI:Inv IT U X):
 ∃v,(Instr.loadAt t u).run P X.w= .ok v X.w/\ Rep IT X a v:=by
 cases x with
 | iptr cs=>
  rw[Rep] at hx;obtain⟨b,o,rfl,hat⟩:=hx;obtain⟨v,h1,h2⟩:=zxc (b:=b) (o:=o) h (zgp hat);exact⟨v,by simp[Instr.loadAt,Instr.sureAddr,h1],h2⟩
 | ptr s off=>
  rw[Rep] at hx;obtain⟨b,hb,rfl⟩:=hx;simp only[zzk] at h;cases hs:U.boxes[s]? with
  |none=>rw[hs] at h;cases h
  | some bx=>
   rw[hs] at h;obtain⟨v,h1,h2⟩:=zxc (b:=b) (o:=off) h (zui hI hb hs off);exact⟨v,by simp[Instr.loadAt,Instr.sureAddr,h1],h2⟩
 |_=>cases h
def qcm (n:Nat):AV->Option AV
 | .ptr s off=>some (.ptr s (off+n))
 | .iptr cs=>some (.iptr (cs.drop n))
 |_=>none
theorem zub {x a:AV} {u:Value} (h:qcm n x=some a)(hx:Rep IT X x u): ∃ad,u= .pointer (some ad)/\ Rep IT X a (.pointer (some (ad.add n))):=by
 cases x with
 | iptr cs=>
  rw[Rep] at hx;obtain⟨b,o,rfl,hat⟩:=hx;simp[qcm] at h;subst h;refine⟨_,rfl,?_⟩;rw[Rep];exact⟨b,o+n,by rw[zgg],zza n hat⟩
 | ptr s off=>
  rw[Rep] at hx;obtain⟨b,hb,rfl⟩:=hx;simp[qcm] at h;subst h;refine⟨_,rfl,?_⟩;rw[Rep];exact⟨b,hb,by rw[zgg]⟩
 |_=>cases h
def zfh (P:Program)(t:TypeId):Option Nat:=(P.info? t).map (·.size)
theorem zeb {t:TypeId} (h:zfh P t=some n)(w:World):(sizeOf t).run P w= .ok n w:=by
 unfold zfh at h;cases hi:P.info? t with
 |none=>simp[hi] at h
 |some i=>simp[hi] at h;rw[zjq hi,h]
def zqb (P:Program)(t:TypeId)(f:Nat)(x:AV):Option AV:=
 match P.underlying t with
 | some (.struct fs)=>match fs[f]? with
  | some fd=>match zfh P fd.type with
   |some n=>if n=0 then none else qcm fd.offset x
   |none=>none
  |none=>none
 |_=>none
theorem zsh {t:TypeId} {f:Nat} {x a:AV} {u:Value} (h:zqb P t f x=some a)(hx:Rep IT X x u):
 ∃v,(Instr.fieldAt t u f).run P X.w= .ok v X.w/\ Rep IT X a v:=by
 unfold zqb at h;split at h<;>try cases h
 rename_i fs hu;split at h<;>try cases h
 rename_i fd hf;split at h<;>try cases h
 rename_i n hn;split at h
 ·cases h
 rename_i h0;obtain⟨ad,rfl,hr⟩:=zub h hx;refine⟨_,?_,hr⟩;simp[Instr.fieldAt,underlying,program,Sem.run,hu,hf,Instr.sureAddr,fieldPlace,zeb hn,h0]
def zhv (P:Program)(t:TypeId)(x i:AV):Option AV:=
 match i with
 | .raw (.int k n)=>match P.underlying t with
  | some (.array len e)=>match zfh P e with
   |some sz=>if 0<=n/\ n<len then qcm (n.toNat*sz) x else none
   |none=>none
  | some (.slice e)=>match zfh P e,x with
   |some sz,.list len cs _=>if 0<=n/\ n<len/\ cs≠[] then some (.iptr (cs.drop (n.toNat*sz))) else none
   |some sz,.bsl s off len _ _=>if 0<=n/\ n<len then some (.ptr s (off+n.toNat*sz)) else none
   |_,_=>none
  |_=>none
 |_=>none
theorem zsf {t:TypeId} {x i a:AV} {u:Value} (h:zhv P t x i=some a)(hx:Rep IT X x u)(hi:Rep IT X i j):
 ∃v,(Instr.indexAt t u j).run P X.w= .ok v X.w/\ Rep IT X a v:=by
 unfold zhv at h;split at h<;>try cases h
 rename_i k n;rw[Rep] at hi;subst hi;split at h<;>try cases h
 ·rename_i len e hu;split at h<;>try cases h
  rename_i sz hn;split at h
  ·rename_i hb;obtain⟨ad,rfl,hr⟩:=zub h hx;refine⟨_,?_,hr⟩;simp[Instr.indexAt,asIntOf,underlying,program,Sem.run,hu,Instr.sureAddr,zeb hn,hb]
  ·cases h
 ·rename_i e hu;split at h<;>try cases h
  ·rename_i sz len cs st hn;split at h
   ·rename_i hb;cases h;rw[Rep] at hx;obtain⟨ad,cap,rfl,_,hc,_⟩:=hx;rcases hc with hc|⟨b,o,rfl,hat⟩
    ·exact absurd hc hb.2.2
    ·refine⟨.pointer (some ((⟨b,o,none⟩:Addr).add (n.toNat*sz))),?_,?_⟩
     ·simp[Instr.indexAt,asIntOf,underlying,program,Sem.run,hu,zeb hn,hb.1,hb.2.1]
     ·rw[Rep];exact⟨b,o+n.toNat*sz,by rw[zgg],zza _ hat⟩
   ·cases h
  ·rename_i sz s off len sz' f hn;split at h
   ·rename_i hb;cases h;rw[Rep] at hx;obtain⟨b,cap,cur,t0,hk,rfl,_⟩:=hx;refine⟨.pointer (some ((⟨b,off,none⟩:Addr).add (n.toNat*sz))),?_,?_⟩
    ·simp[Instr.indexAt,asIntOf,underlying,program,Sem.run,hu,zeb hn,hb.1,hb.2]
    ·rw[Rep];exact⟨b,hk,by rw[zgg]⟩
   ·cases h
def qki (P:Program)(t:TypeId)(cs:List AV)(off:Nat):Option AV:=rd P t (cs.drop off)
theorem zwv {t:TypeId} {cs:List AV} {off:Nat} {a:AV} {vs:List Value} (h:qki P t cs off=some a)(hr:zbf IT X cs vs)(h1: ∀v∈vs,v.oneCell'=true):
 ∃v,(part t vs.toArray off).run P X.w= .ok v X.w/\ Rep IT X a v:=by
 unfold qki rd at h;have hd:=zih hr off;cases hu:P.underlying t with
 |none=>rw[hu] at h;cases P.info? t<;>simp at h
 | some d=>
  cases hi:P.info? t with
  |none=>rw[hu,hi] at h;cases d<;>simp at h
  | some i=>
   rw[hu,hi] at h;have agg:(if i.size<=(cs.drop off).length then some (AV.agg ((cs.drop off).take i.size)) else none)=some a->Rep IT X a (.agg (vs.toArray.extract off (off+i.size))):=by
    intro h;split at h
    ·cases h;rw[Rep];refine⟨(vs.drop off).take i.size,?_,zib hd _,fun u hu=>h1 u (List.mem_of_mem_drop (mem_of_mem_take hu))⟩;congr 1
     apply Array.ext';simp[List.extract_eq_take_drop]
    ·cases h
   unfold part;cases d with
   |struct fs=>exact⟨_,by simp[zjv hu,zjq hi],agg h⟩
   |array n e=>exact⟨_,by simp[zjv hu,zjq hi],agg h⟩
   | _=>
    simp only[List.head?_drop] at h;obtain⟨v,hv,hr'⟩:=zei hr off a h;refine⟨v,?_,hr'⟩;have:vs.toArray[off]? =some v:=by simpa using hv
    simp only[Sem.run_bind,zjv hu,Result.andThen_ok,Bool.false_eq_true,if_false,this,Sem.run_pure]
def qgo (P:Program)(t:TypeId)(f:Nat):AV->Option AV
 | .agg cs=>match P.underlying t with
  | some (.struct fs)=>match fs[f]? with
   |some fd=>qki P fd.type cs fd.offset
   |none=>none
  |_=>none
 |_=>none
theorem z3k {t:TypeId} {f:Nat} {x a:AV} {u:Value} (h:qgo P t f x=some a)(hx:Rep IT X x u):
 ∃v,(Instr.field t u f).run P X.w= .ok v X.w/\ Rep IT X a v:=by
 cases x with
 | agg cs=>
  rw[Rep] at hx;obtain⟨vs,rfl,hr,h1⟩:=hx;simp only[qgo] at h;split at h<;>try cases h
  rename_i fs hu;split at h<;>try cases h
  rename_i fd hf;obtain⟨v,k1,k2⟩:=zwv h hr h1;exact⟨v,by simp[Instr.field,underlying,program,Sem.run,hu,hf,asAgg,k1],k2⟩
 |_=>cases h
def qgs (P:Program)(t:TypeId)(x i:AV):Option AV:=
 match i,x with
 | .raw (.int k n),.agg cs=>match P.underlying t with
  | some (.array len e)=>match zfh P e with
   |some sz=>if 0<=n/\ n<len then qki P e cs (n.toNat*sz) else none
   |none=>none
  |_=>none
 |_,_=>none
theorem z0x {t:TypeId} {x i a:AV} {u:Value} (h:qgs P t x i=some a)(hx:Rep IT X x u)(hi:Rep IT X i j):
 ∃v,(Instr.index t u j).run P X.w= .ok v X.w/\ Rep IT X a v:=by
 unfold qgs at h;split at h<;>try cases h
 rename_i k n cs;rw[Rep] at hi;subst hi;rw[Rep] at hx;obtain⟨vs,rfl,hr,h1⟩:=hx;split at h<;>try cases h
 rename_i len e hu;split at h<;>try cases h
 rename_i sz hn;split at h
 ·rename_i hb;obtain⟨v,k1,k2⟩:=zwv h hr h1;exact⟨v,by simp[Instr.index,asIntOf,underlying,program,Sem.run,hu,zeb hn,hb,k1],k2⟩
 ·cases h
variable {IT:IterP} {U:St} {X:Cx}
theorem Inv.κlt (hI:Inv IT U X) {b:Nat} (hb:b∈X.κ):b<X.w.heap.size:=by
 obtain⟨s,hs,rfl⟩:=List.mem_iff_getElem.1 hb;have hs':X.κ[s]? =some X.κ[s]:=by simp[hs]
 have hl:=hI.κlen;obtain⟨t,cs,he⟩: ∃t cs,U.boxes[s]? =some (t,cs):=⟨(U.boxes[s]'(by omega)).1,(U.boxes[s]'(by omega)).2,by rw[List.getElem?_eq_getElem (by omega)]⟩;obtain⟨vs,zs,h1,_⟩:=hI.box s _ t cs hs' he;exact(Array.getElem?_eq_some_iff.1 h1).1
theorem Inv.βlt (hI:Inv IT U X) {r:Row} (hr:r∈X.β):r.block<X.w.heap.size:=by
 obtain⟨s,hs,rfl⟩:=List.mem_iff_getElem.1 hr;have hs':X.β[s]? =some X.β[s]:=by simp[hs]
 have hl:=hI.βlen;obtain⟨cur,fz,h1,_⟩:=hI.row s _ (X.lens[s]'(by omega)) hs' (by rw[List.getElem?_eq_getElem (by omega)]);exact(Array.getElem?_eq_some_iff.1 h1).1
theorem Inv.Olt (hI:Inv IT U X) {b:Nat} (h:X.O b):b<X.w.heap.size:=by
 obtain⟨⟨cs,t,f,h⟩,_⟩:=hI.Ok b h;exact(Array.getElem?_eq_some_iff.1 h).1
theorem z0q {w:World} {b o:Nat} {v:Value} (h:w.cell? ⟨b,o,none⟩=some v):b<w.heap.size:=by
 unfold World.cell? at h;cases hb:w.heap[b]? with
 |none=>simp[hb] at h
 |some x=>exact(Array.getElem?_eq_some_iff.1 hb).1
theorem Inv.Flt (hI:Inv IT U X) {b o:Nat} (hf:X.F b o):b<X.w.heap.size:=by
 obtain⟨v,hv⟩:=hI.Fcell b o hf;exact z0q hv
theorem zur (hIT:ITMono IT) {U:St} {X:Cx} (hI:Inv IT U X) {s b:Nat} {t:TypeId} {cs cs':List AV} {vs' zs:List Value} (hs:X.κ[s]? =some b)(hb:U.boxes[s]? =some (t,cs))(hne:cs≠[])
 (hsize: ∀cur t f,X.w.heap[b]? =some (.cells cur t f)->cur.size=(vs'++zs).length) (hr:zbf IT X cs' vs') (h1: ∀v∈vs',v.oneCell'=true):
 Ext X {X with w:=X.w.setRow b (vs'++zs).toArray}/\ Inv IT {U with boxes:=U.boxes.set s (t,cs')} {X with w:=X.w.setRow b (vs'++zs).toArray}:=by
 obtain⟨vs,zs0,k1,k2,k3⟩:=hI.box s b t cs hs hb;have hbm:b∈X.κ:=mem_of_getElem? hs;have hnew:(X.w.setRow b (vs'++zs).toArray).heap[b]? =some (.cells (vs'++zs).toArray t (0,0)):=setRow_heap _ _ _ _ _ _ k1;have hcell: ∀(b' o:Nat),X.F b' o->(X.w.setRow b (vs'++zs).toArray).cell? ⟨b',o,none⟩=X.w.cell? ⟨b',o,none⟩:=fun b' o hf=>
  cell_setRow_other _ _ _ _ fun e=>hI.κF s b t cs hs hb hne o (e▸hf)
 have hdead: ∀(s':Nat) (t':TypeId) (c:List AV),X.κ[s']? =some b->s'≠s->U.boxes[s']? =some (t',c)->c=[]:=fun s' t' c h2 h3 h4=>by
  rcases hI.κnd s' s b h2 hs h3 with⟨t2,h5⟩|⟨t2,h5⟩
  ·rw[h4] at h5;cases h5;rfl
  ·rw[hb] at h5;cases h5;exact absurd rfl hne
 have hE:Ext X {X with w:=X.w.setRow b (vs'++zs).toArray}:={
  os:=rfl,tape:=rfl,output:=rfl,size:=by simp,drawn:=(by first|exact le_refl _|exact Nat.le_succ _)
  F:=fun _ _ h=>h
  cell:=hcell
  κ:=fun _ _ h=>h
  lens:=fun s L h=>⟨L,h,le_refl _,fun _=>rfl⟩
  blk:=fun s' b' _ cur t' f h=>by
   by_cases e:b'=b
   ·subst e;rw[k1] at h;have h2:=hsize _ _ _ k1;cases h;exact⟨_,hnew,by simpa using h2.symm⟩
   ·exact⟨cur,(setRow_other _ _ _ _ e).trans h,rfl⟩
  szs:=Szs.one b (fun k _ e=>setRow_other _ _ _ _ e) fun cs t f h=>by
   rw[k1] at h;have h2:=hsize _ _ _ k1;cases h;exact⟨_,_,_,hnew,by simpa using h2.symm⟩
  frame:=fun b' _ hk _=>setRow_other _ _ _ _ fun e=>hk (e▸hbm)
  κnew:=fun _ h=> .inl h
  βnew:=fun r h=> .inl ⟨r,h,rfl⟩
  O:=rfl
  C:=rfl
  Fnew:=fun _ _ h=> .inl h}
 refine⟨hE,{hI with
  gv:=z3s hIT hE hI.gv
  lens:=hI.lens
  elems:=hI.elems
  κlen:=by simpa using hI.κlen
  κnd:=fun s1 s2 b' h2 h3 h4=> ?_
  κF:=fun s' b' t' c hs' hb' hc o hf=> ?_
  box:=fun s' b' t' c hs' hb'=> ?_
  row:=fun s' r L hr' hL=> ?_
  Ok:=fun b' ho=>by
   obtain⟨⟨cs0,t0,f0,h0⟩,h2,h3,h4⟩:=hI.Ok b' ho;exact⟨⟨cs0,t0,f0,(setRow_other _ _ _ _ (by intro e;subst e;exact h2 hbm)).trans h0⟩,h2,h3,h4⟩
  Fcell:=fun b' o hf=>by
   obtain⟨v,hv⟩:=hI.Fcell b' o hf;exact⟨v,(hcell b' o hf).trans hv⟩}⟩
 ·have put: ∀(s':Nat),s'≠s-> ∀t0,U.boxes[s']? =some (t0,[])-> ∃t0,(U.boxes.set s (t,cs'))[s']? =some (t0,[]):=fun s' e t0 h=>⟨t0,by rw[List.getElem?_set_ne (Ne.symm e)];exact h⟩;by_cases e1:s1=s
  ·subst e1;rw[hs] at h2;cases h2;obtain⟨c2,hc2⟩: ∃c2,U.boxes[s2]? =some c2:=by
    have:s2<X.κ.length:=(List.getElem?_eq_some_iff.1 h3).1;have hl:=hI.κlen;exact⟨U.boxes[s2]'(by omega),List.getElem?_eq_getElem _⟩
   obtain⟨t2,c2⟩:=c2;have:=hdead s2 t2 c2 h3 (Ne.symm h4) hc2;subst this;exact .inr (put s2 (Ne.symm h4) t2 hc2)
  ·by_cases e2:s2=s
   ·subst e2;rw[hs] at h3;cases h3;obtain⟨c2,hc2⟩: ∃c2,U.boxes[s1]? =some c2:=by
     have:s1<X.κ.length:=(List.getElem?_eq_some_iff.1 h2).1;have hl:=hI.κlen;exact⟨U.boxes[s1]'(by omega),List.getElem?_eq_getElem _⟩
    obtain⟨t2,c2⟩:=c2;have:=hdead s1 t2 c2 h2 h4 hc2;subst this;exact .inl (put s1 h4 t2 hc2)
   ·exact(hI.κnd s1 s2 b' h2 h3 h4).imp (fun⟨t0,h⟩=>put s1 e1 t0 h) (fun⟨t0,h⟩=>put s2 e2 t0 h)
 ·by_cases e:s'=s
  ·subst e;rw[hs] at hs';cases hs';have hlt:s'<U.boxes.length:=(List.getElem?_eq_some_iff.1 hb).1;have hb2:some (t,cs')=some (t',c):=by
    have:(U.boxes.set s' (t,cs'))[s']? =some (t',c):=hb';rwa[List.getElem?_set_self hlt] at this
   cases hb2;exact⟨vs',zs,hnew,zam hIT hE _ _ hr,h1⟩
  ·have hb2:U.boxes[s']? =some (t',c):=by
    have:(U.boxes.set s (t,cs'))[s']? =some (t',c):=hb';rwa[List.getElem?_set_ne (Ne.symm e)] at this
   obtain⟨us,zs',u1,u2,u3⟩:=hI.box s' b' t' c hs' hb2;by_cases hbb:b'=b
   ·subst hbb;have hc:=hdead s' t' c hs' e hb2;subst hc;rw[k1] at u1;simp only[Option.some.injEq,Obj.cells.injEq] at u1;obtain⟨_,rfl,_⟩:=u1;exact⟨[],vs'++zs,hnew,by rw[zbf],by simp⟩
   ·exact⟨us,zs',(setRow_other _ _ _ _ hbb).trans u1,zam hIT hE _ _ u2,u3⟩
 ·by_cases e:s'=s
  ·subst e;rw[hs] at hs';cases hs';exact hI.κF s' b t cs hs hb hne o hf
  ·have hb2:U.boxes[s']? =some (t',c):=by
    have:(U.boxes.set s (t,cs'))[s']? =some (t',c):=hb';rwa[List.getElem?_set_ne (Ne.symm e)] at this
   exact hI.κF s' b' t' c hs' hb2 hc o hf
 ·obtain⟨cur,fz,c1,c2⟩:=hI.row s' r L hr' hL;have hne:r.block≠b:=fun e=>hI.βκ r (mem_of_getElem? hr') (e▸hbm);exact⟨cur,fz,(setRow_other _ _ _ _ hne).trans c1,c2⟩
theorem ztr (hI:Inv IT U X)(o:Obj)(G:Nat->Prop)(κn:List Nat)(hκ: ∀b∈κn,b=X.w.heap.size):
 Ext X {X with w:=X.w.alloc o,F:=fun b i=>X.F b i \/(b=X.w.heap.size/\ G i),κ:=X.κ++κn} where
 os:=rfl
 tape:=rfl
 output:=rfl
 size:=by simp
 drawn:=(by first|exact le_refl _|exact Nat.le_succ _)
 F:=fun _ _ h=> .inl h
 cell:=fun b i hf=>World.cell?_of_block (Below.heap_alloc _ _ _ (hI.Flt hf))
 κ :=fun s b h=>by
  have:=(List.getElem?_eq_some_iff.1 h).1
  show(X.κ++κn)[s]? =some b
  rw[getElem?_append_left this];exact h
 lens:=fun s L h=>⟨L,h,le_refl _,fun _=>rfl⟩
 blk:=fun s b hs cur t f h=>⟨cur,(Below.heap_alloc _ _ _ (hI.κlt (mem_of_getElem? hs))).trans h,rfl⟩
 szs:=Szs.old fun k hk=>Below.heap_alloc _ _ _ hk
 frame:=fun b hb _ _=>Below.heap_alloc _ _ _ hb
 κnew:=fun b h=>by
  rcases mem_append.1 h with h|h
  ·exact .inl h
  ·exact .inr (by rw[hκ b h];exact le_refl _)
 βnew:=fun r h=> .inl ⟨r,h,rfl⟩
 O:=rfl
 C:=rfl
 Fnew:=fun b i h=>by
  rcases h with h|⟨h,_⟩
  ·exact .inl h
  ·exact .inr (.inl (h▸le_refl _))
theorem z8x (hIT:ITMono IT) {U:St} {X:Cx} (hI:Inv IT U X) {t:TypeId} {cs:List AV} {vs:List Value} (zs:List Value)(hr:zbf IT X cs vs)(h1: ∀v∈vs,v.oneCell'=true):
 ∃X',X'.w=X.w.alloc (.cells (vs++zs).toArray t)/\ Ext X X'/\ Inv IT {U with boxes:=U.boxes++[(t,cs)]} X'/\ Rep IT X' (.ptr U.boxes.length 0) (.pointer (some ⟨X.w.heap.size,0,none⟩)):=by
 have hE:=ztr hI (.cells (vs++zs).toArray t) (fun _=>False) [X.w.heap.size] (fun b h=>by simpa using h);refine⟨_,rfl,hE,?_,?_⟩
 ·refine {lens:=hI.lens,elems:=hI.elems,κlen:=by simp[hI.κlen],κnd:= ?_,box:= ?_,κF:= ?_,βlen:=hI.βlen,βnd:=hI.βnd,βκ:= ?_,row:= ?_,Ok:= ?_,Fcell:= ?_}
  ·intro s s' b h2 h3 h4;have old: ∀s,(X.κ++[X.w.heap.size])[s]? =some b->(X.κ[s]? =some b/\ s<U.boxes.length) \/(s=X.κ.length/\ b=X.w.heap.size):=fun s h=>by
    have hl:=hI.κlen;rcases lt_or_ge s X.κ.length with hlt|hge
    ·rw[getElem?_append_left hlt] at h;exact .inl ⟨h,by omega⟩
    ·have:=(List.getElem?_eq_some_iff.1 h).1;simp at this;have e:s=X.κ.length:=by omega
     subst e;simp at h;exact .inr ⟨rfl,h.symm⟩
   have up: ∀s,s<U.boxes.length->(∃t,U.boxes[s]? =some (t,[]))-> ∃t',(U.boxes++[(t,cs)])[s]? =some (t',[]):=fun s hs ⟨t0,h⟩=>⟨t0,by rw[getElem?_append_left hs];exact h⟩;rcases old s h2 with⟨k2,l2⟩|⟨k2,l2⟩
   ·rcases old s' h3 with⟨k3,l3⟩|⟨k3,l3⟩
    ·exact(hI.κnd s s' b k2 k3 h4).imp (up s l2) (up s' l3)
    ·have:=hI.κlt (mem_of_getElem? k2);omega
   ·rcases old s' h3 with⟨k3,l3⟩|⟨k3,l3⟩
    ·have:=hI.κlt (mem_of_getElem? k3);omega
    ·omega
  ·intro s b t' c hs hb;have hlen:=hI.κlen;rcases lt_or_ge s X.κ.length with hlt|hge
   ·have hs':X.κ[s]? =some b:=by rw[<-hs];exact(getElem?_append_left hlt).symm
    have hb':U.boxes[s]? =some (t',c):=by rw[<-hb];exact(getElem?_append_left (by omega)).symm
    obtain⟨us,zs',u1,u2,u3⟩:=hI.box s b t' c hs' hb';exact⟨us,zs',(Below.heap_alloc _ _ _ (hI.κlt (mem_of_getElem? hs'))).trans u1,zam hIT hE _ _ u2,u3⟩
   ·have h0:s=X.κ.length:=by
     have:=(List.getElem?_eq_some_iff.1 hs).1;simp at this;omega
    subst h0;have e1:b=X.w.heap.size:=by
     have:(X.κ++[X.w.heap.size])[X.κ.length]? =some b:=hs;simp at this;exact this.symm
    have e2:(t,cs)=(t',c):=by
     have:(U.boxes++[(t,cs)])[X.κ.length]? =some (t',c):=hb;rw[hlen] at this;simpa using this
    cases e2;subst e1;exact⟨vs,zs,zea _ _ _ rfl,zam hIT hE _ _ hr,h1⟩
  ·intro s b t' c hs hb hc o hf;rcases hf with hf|⟨_,hf⟩
   ·have hlen:=hI.κlen;rcases lt_or_ge s X.κ.length with hlt|hge
    ·have hs':X.κ[s]? =some b:=by rw[<-hs];exact(getElem?_append_left hlt).symm
     have hb':U.boxes[s]? =some (t',c):=by rw[<-hb];exact(getElem?_append_left (by omega)).symm
     exact hI.κF s b t' c hs' hb' hc o hf
    ·have h0:s=X.κ.length:=by
      have:=(List.getElem?_eq_some_iff.1 hs).1;simp at this;omega
     subst h0;have e1:b=X.w.heap.size:=by
      have:(X.κ++[X.w.heap.size])[X.κ.length]? =some b:=hs;simp at this;exact this.symm
     have:=hI.Flt hf;omega
   ·exact hf
  ·intro r hr' hm;rcases mem_append.1 hm with hm|hm
   ·exact hI.βκ r hr' hm
   ·have:=hI.βlt hr';simp at hm;omega
  ·intro s r L hr' hL;obtain⟨cur,fz,c1,c2,c3,c4,c5,c6,c7⟩:=hI.row s r L hr' hL;refine⟨cur,fz,(Below.heap_alloc _ _ _ (hI.βlt (mem_of_getElem? hr'))).trans c1,c2,c3,c4,c5,fun o hf=> ?_,c7⟩;rcases hf with hf|⟨_,hf⟩
   ·exact c6 o hf
   ·exact hf.elim
  ·intro b ho;obtain⟨⟨cs0,t0,f0,h0⟩,h2,h3,h4⟩:=hI.Ok b ho;have hlt:=hI.Olt ho;refine⟨⟨cs0,t0,f0,(Below.heap_alloc _ _ _ hlt).trans h0⟩,fun hm=> ?_,h3,fun o hf=>hf.elim (h4 o) fun h=>h.2.elim⟩;rcases mem_append.1 hm with hm|hm
   ·exact h2 hm
   ·simp at hm;omega
  ·intro b o hf;rcases hf with hf|⟨_,hf⟩
   ·obtain⟨v,hv⟩:=hI.Fcell b o hf;exact⟨v,(hE.cell b o hf).trans hv⟩
   ·exact hf.elim
 ·rw[Rep];refine⟨X.w.heap.size,?_,rfl⟩
  show(X.κ++[X.w.heap.size])[U.boxes.length]? =_
  rw[<-hI.κlen];simp
theorem z0d (hIT:ITMono IT) {U:St} {X:Cx} (hI:Inv IT U X) {t:TypeId} {cs:List AV} {vs:List Value} (hr:zbf IT X cs vs)(h1: ∀v∈vs,v.oneCell'=true):
 ∃X',X'.w=X.w.alloc (.cells vs.toArray t)/\ Ext X X'/\ Inv IT {U with boxes:=U.boxes++[(t,cs)]} X'/\ Rep IT X' (.ptr U.boxes.length 0) (.pointer (some ⟨X.w.heap.size,0,none⟩)):=by
 obtain⟨X',h1,h2⟩:=z8x hIT hI (t:=t) [] hr h1;exact⟨X',by rw[h1,List.append_nil],h2⟩
theorem z1d {b:Nat}: ∀ {cs:List AV} {vs:List Value} {o:Nat},(∀j,j<vs.length->X.F b (o+j))->(∀v∈vs,v.oneCell'=true)->zbf IT X cs vs->(∀(j:Nat) v,vs[j]? =some v->X.w.cell? ⟨b,o+j,none⟩=some v)->At IT X cs b o
 |[],vs,o,_,_,_,_=>by rw[At];trivial
 | a::l,vs,o,hf,h1,h,hc=>by
  rw[zbf] at h;obtain⟨v,r,rfl,h2,h3⟩:=h;rw[At];refine⟨⟨by simpa using hf 0 (by simp),v,by simpa using hc 0 v rfl,h1 v (by simp),h2⟩,z1d (fun j hj=> ?_) (fun u hu=>h1 u (by simp[hu])) h3 fun j u hu=> ?_⟩
  ·have:=hf (j+1) (by simp;omega);rwa[show o+(j+1)=o+1+j by omega] at this
  ·have:=hc (j+1) u (by simpa using hu);rwa[show o+(j+1)=o+1+j by omega] at this
theorem qcq (hIT:ITMono IT) {U:St} {X:Cx} (hI:Inv IT U X)(t:TypeId) {cs:List AV} {vs:List Value} (hr:zbf IT X cs vs)(h1: ∀v∈vs,v.oneCell'=true):
 ∃ X',X'.w=X.w.alloc (.cells vs.toArray t)/\ Ext X X'/\ Inv IT U X'/\ At IT X' cs X.w.heap.size 0/\
  Grows X.w X'.w/\ X'.κ=X.κ/\ X'.β=X.β/\ X'.lens=X.lens/\ (X'.O=X.O/\ X'.C=X.C)/\ ∀b i,X'.F b i->X.F b i \/X.w.heap.size<=b:=by
 have hE:=ztr hI (.cells vs.toArray t) (fun i=>i<vs.length) [] (fun b h=>by simp at h);refine⟨_,rfl,hE,?_,?_,(Ex.refl _ _).alloc (le_refl _) _,by simp,rfl,rfl,⟨rfl,rfl⟩,fun b i h=>h.imp id fun h=>Nat.le_of_eq h.1.symm⟩
 ·refine {lens:=hI.lens,elems:=hI.elems,κlen:=by simpa using hI.κlen,κnd:=by simpa using hI.κnd,box:= ?_,κF:= ?_,βlen:=hI.βlen,βnd:=hI.βnd,βκ:=by simpa using hI.βκ,row:= ?_,Ok:= ?_,Fcell:= ?_}
  ·intro s b t' c hs hb;have hs':X.κ[s]? =some b:=by simpa using hs
   obtain⟨us,zs',u1,u2,u3⟩:=hI.box s b t' c hs' hb;exact⟨us,zs',(Below.heap_alloc _ _ _ (hI.κlt (mem_of_getElem? hs'))).trans u1,zam hIT hE _ _ u2,u3⟩
  ·intro s b t' c hs hb hc o hf;have hs':X.κ[s]? =some b:=by simpa using hs
   rcases hf with hf|⟨e,_⟩
   ·exact hI.κF s b t' c hs' hb hc o hf
   ·have:=hI.κlt (mem_of_getElem? hs');omega
  ·intro s r L hr' hL;obtain⟨cur,fz,c1,c2,c3,c4,c5,c6,c7⟩:=hI.row s r L hr' hL;have hlt:=hI.βlt (mem_of_getElem? hr');refine⟨cur,fz,(Below.heap_alloc _ _ _ hlt).trans c1,c2,c3,c4,c5,fun o hf=> ?_,c7⟩;rcases hf with hf|⟨e,_⟩
   ·exact c6 o hf
   ·omega
  ·intro b ho;obtain⟨⟨cs0,t0,f0,h0⟩,h2,h3,h4⟩:=hI.Ok b ho;have hlt:=hI.Olt ho;exact⟨⟨cs0,t0,f0,(Below.heap_alloc _ _ _ hlt).trans h0⟩,by simpa using h2,h3,fun o hf=>hf.elim (h4 o) fun h=>by omega⟩
  ·intro b o hf;rcases hf with hf|⟨e,hf⟩
   ·obtain⟨v,hv⟩:=hI.Fcell b o hf;exact⟨v,(hE.cell b o hf).trans hv⟩
   ·subst e;refine⟨vs[o],?_⟩
    show(X.w.alloc _).cell? _=_
    rw[cell_of_row _ _ _ _ _ _ (zea _ _ _ rfl)];simp[hf]
 ·refine z1d (fun j hj=> .inr ⟨rfl,by omega⟩) h1 (zam hIT hE _ _ hr) fun j u hu=> ?_
  show(X.w.alloc _).cell? _=_
  rw[cell_of_row _ _ _ _ _ _ (zea _ _ _ rfl),zero_add];simpa using hu
variable {IT:IterP} {X:Cx} {P:Program}
def ziw:AV->Bool
 | .raw u=>u.oneCell'
 | .agg _| .list _ _ _| .ptr _ _| .bsl _ _ _ _ _| .iptr _| .clos _ _| .yld _=>true
 |_=>false
theorem zlr {a:AV} {v:Value} (h:ziw a=true)(k:Rep IT X a v):zbf IT X (cellsOf a) v.cells.toList/\ ∀u∈v.cells.toList,u.oneCell'=true:=by
 have one:v.oneCell'=true->v.cells= #[v]->Rep IT X a v->zbf IT X [a] v.cells.toList/\ ∀u∈v.cells.toList,u.oneCell'=true:=fun h1 h2 h3=>by
  rw[h2,zbf];exact⟨⟨v,[],by simp,h3,by rw[zbf]⟩,by simpa using h1⟩
 cases a with
 | raw u=>
  have hk:=k;rw[Rep] at k;subst k;exact one h (by cases v<;>first|rfl|simp[ziw,Value.oneCell'] at h) hk
 | agg cs=>
  rw[Rep] at k;obtain⟨vs,rfl,k1,k2⟩:=k;exact⟨by simpa[cellsOf,Value.cells] using k1,by simpa[Value.cells] using k2⟩
 | list n cs st=>
  have hk:=k;rw[Rep] at k;obtain⟨_,_,rfl,_⟩:=k;exact one rfl rfl hk
 | ptr s off=>
  have hk:=k;rw[Rep] at k;obtain⟨_,_,rfl⟩:=k;exact one rfl rfl hk
 | bsl s off n sz f=>
  have hk:=k;rw[Rep] at k;obtain⟨_,_,_,_,_,rfl,_⟩:=k;exact one rfl rfl hk
 | iptr cs=>
  have hk:=k;rw[Rep] at k;obtain⟨_,_,rfl,_⟩:=k;exact one rfl rfl hk
 | clos f c=>
  have hk:=k;rw[Rep] at k;obtain⟨_,rfl,_⟩:=k;exact one rfl rfl hk
 | yld l=>
  have hk:=k;rw[Rep] at k;subst k;exact one rfl rfl hk
 |_=>cases h
def zpp (P:Program)(U:St)(t:TypeId)(x y:AV):Option St:=
 match x with
 | .ptr s off=>match U.boxes[s]?,zfh P t with
  |some bx,some n=>if ziw y=true/\ (cellsOf y).length=n/\ off+n<=bx.2.length/\ 0<n then some {U with boxes:=U.boxes.set s (bx.1,bx.2.take off++cellsOf y++bx.2.drop (off+n))} else none
  |_,_=>none
 |_=>none
theorem z4k (hIT:ITMono IT) {P:Program} {X:Cx} {U U':St} {t:TypeId} {x y:AV} {u v:Value} (h:zpp P U t x y=some U')(hx:Rep IT X x u)(hy:Rep IT X y v)(hI:Inv IT U X):
 ∃X',(Instr.storeAt t u v).run P X.w= .ok () X'.w/\ Ext X X'/\ Inv IT U' X':=by
 unfold zpp at h;split at h<;>try cases h
 rename_i s off;rw[Rep] at hx;obtain⟨b,hb,rfl⟩:=hx;split at h<;>try cases h
 rename_i bx n hbx hn;obtain⟨t0,cs⟩:=bx;split at h<;>try cases h
 rename_i hc;obtain⟨hc1,hc2,hc3,hc4⟩:=hc;obtain⟨k1,k2⟩:=zlr hc1 hy;obtain⟨vs,zs,u1,u2,u3⟩:=hI.box s b t0 cs hb hbx;have hl:=zq u2;have hl2:=zq k1;simp only at hc3;have hst:=run_storeCells_at P b off t0 v.cells.toList 0 (vs++zs).toArray X.w u1 (by simp at hl2⊢;omega) k2;simp only[Nat.add_zero] at hst;have hsz:v.cells.size=n:=by simp at hl2;omega
 have hlist:v.cells.toList.length=n:=by simpa using hsz
 rw[hlist] at hst
 obtain⟨e1,e2⟩:=zur hIT hI (zs:=zs) hb hbx (by intro e;subst e;simp at hc3;omega) (fun cur t f hc=>by rw[u1] at hc;cases hc;simp at hl2⊢;omega) (zbm (zbm (zib u2 off) k1) (zih u2 (off+n)))
  (fun w hw=>by
   rcases mem_append.1 hw with hw|hw
   ·rcases mem_append.1 hw with hw|hw
    ·exact u3 w (mem_of_mem_take hw)
    ·exact k2 w hw
   ·exact u3 w (List.mem_of_mem_drop hw))
 have hrow:(vs++zs).take off++v.cells.toList++(vs++zs).drop (off+n)=vs.take off++v.cells.toList++vs.drop (off+n)++zs:=by
  rw[List.take_append_of_le_length (by omega),List.drop_append_of_le_length (by omega)];simp
 refine⟨_,?_,e1,e2⟩;simp only[Instr.storeAt,Instr.sureAddr,storeVar,Sem.run_bind,Sem.run_pure,Result.andThen_ok,zeb hn,hsz];simp only[<-hrow];simpa using hst
theorem zpz {t:TypeId} {v:Value} (w:World):(newVar t v).run P w= .ok ⟨w.heap.size,0,none⟩ (w.alloc (.cells v.cells t)):=by
 rfl
def aBox (U:St)(t:TypeId)(x:AV):Option (AV×St):=
 if ziw x=true then some (.ptr U.boxes.length 0,{U with boxes:=U.boxes++[(t,cellsOf x)]}) else none
theorem zxq (hIT:ITMono IT) {P:Program} {X:Cx} {U U':St} {t:TypeId} {x a:AV} {v:Value} (h:aBox U t x=some (a,U'))(hx:Rep IT X x v)(hI:Inv IT U X):
 ∃X',(Instr.box t v).run P X.w= .ok (.pointer (some ⟨X.w.heap.size,0,none⟩)) X'.w/\ Ext X X'/\ Inv IT U' X'/\ Rep IT X' a (.pointer (some ⟨X.w.heap.size,0,none⟩)):=by
 unfold aBox at h;split at h<;>cases h
 rename_i hc;obtain⟨k1,k2⟩:=zlr hc hx;obtain⟨X',e1,e2,e3,e4⟩:=z0d hIT hI (t:=t) k1 k2;refine⟨X',?_,e2,e3,e4⟩;simp only[Instr.box,Sem.run_bind,zpz,Result.andThen_ok,Sem.run_pure,e1]
def z8z (P:Program)(U:St)(t:TypeId):Option (AV×St):=
 match P.info? t with
 | some i=>match i.zero with
  |some z=>if zpx z=true then aBox U t (zlu z) else none
  |none=>none
 |none=>none
theorem zke {t:TypeId} {i:TypeInfo} {z:Value} (h:P.info? t=some i)(hz:i.zero=some z)(w:World):(zeroValue t).run P w= .ok z w:=by
 simp[zeroValue,typeInfo,program,Sem.run,h,hz]
theorem z3u (hIT:ITMono IT) {P:Program} {X:Cx} {U U':St} {t:TypeId} {a:AV} {old:Value} (h:z8z P U t=some (a,U'))(hI:Inv IT U X):
 ∃X',(Instr.alloc t true old).run P X.w= .ok (.pointer (some ⟨X.w.heap.size,0,none⟩)) X'.w/\ Ext X X'/\ Inv IT U' X'/\ Rep IT X' a (.pointer (some ⟨X.w.heap.size,0,none⟩)):=by
 unfold z8z at h;split at h<;>try cases h
 rename_i i hi;split at h<;>try cases h
 rename_i z hz;split at h<;>try cases h
 rename_i hok;obtain⟨X',e1,e2,e3,e4⟩:=zxq hIT (P:=P) h (zjr z hok) hI;refine⟨X',?_,e2,e3,e4⟩;have:(Instr.alloc t true old).run P X.w=(Instr.box t z).run P X.w:=by
  cases old<;>simp[Instr.alloc,Instr.box,zke hi hz]
 rw[this];exact e1
def z2d (zft:Nat->Option (Nat×Nat)):List AV->List (Nat×AV)->Option (List AV)
 |cells,[]=>some cells
 | cells,(i,a)::rest=>match zft i with
  |none=>none
  |some (off,size)=>if ziw a=true/\ (cellsOf a).length=size/\ off+size<=cells.length then z2d zft (cells.take off++cellsOf a++cells.drop (off+size)) rest else none
theorem zwq (off:Nat): ∀(l:List Value) (k:Nat) (cs:Array Value),off+k+l.length<=cs.size->
 ((l.zipIdx k).foldl (fun cs (x:Value×Nat)=>cs.setIfInBounds (off+x.2) x.1) cs)=(cs.toList.take (off+k)++l++cs.toList.drop (off+k+l.length)).toArray
 |[],k,cs,_=>by simp
 | v::l,k,cs,h=>by
  rw[List.zipIdx_cons,List.foldl_cons,zwq off l (k+1) _ (by simp at h⊢;omega)];apply Array.ext';have:=list_seg_step cs.toList (off+k) v l (by simp at h⊢;omega);simpa[Nat.add_assoc] using this
def zsc (IT:IterP)(X:Cx):List (Nat×AV)->List (Nat×Value)->Prop
 |[],qs=>qs=[]
 |p::ps,qs=> ∃v r,qs=(p.1,v)::r/\ Rep IT X p.2 v/\ zsc IT X ps r
theorem zqr {zft:Nat->Option (Nat×Nat)}: ∀ {ps:List (Nat×AV)} {qs:List (Nat×Value)} {cells cells':List AV} {vs:List Value},z2d zft cells ps=some cells'->zsc IT X ps qs->zbf IT X cells vs->
 (∀v∈vs,v.oneCell'=true)-> ∃vs',Instr.fill zft vs.toArray qs=some vs'.toArray/\ zbf IT X cells' vs'/\ ∀v∈vs',v.oneCell'=true
 | [],_,cells,cells',vs,h,hp,hr,h1=>by
  rw[zsc] at hp;subst hp;simp only[z2d,Option.some.injEq] at h;subst h;exact⟨vs,rfl,hr,h1⟩
 | (i, a)::ps,_,cells,cells',vs,h,hp,hr,h1=>by
  rw[zsc] at hp;obtain⟨v,qs,rfl,hv,hp⟩:=hp;simp only[z2d] at h;cases hpl:zft i with
  |none=>rw[hpl] at h;cases h
  | some os=>
   obtain⟨off,size⟩:=os;rw[hpl] at h;simp only at h;split at h<;>try cases h
   rename_i hc;obtain⟨hc1,hc2,hc3⟩:=hc;obtain⟨k1,k2⟩:=zlr hc1 hv;have hl:=zq hr;have hl2:=zq k1;have hsz:v.cells.size=size:=by simp at hl2;omega
   have hlist:v.cells.toList.length=size:=by simpa using hsz
   have hfold:(v.cells.zipIdx.foldl (fun cs (x:Value×Nat)=>cs.setIfInBounds (off+x.2) x.1) vs.toArray)=(vs.take off++v.cells.toList++vs.drop (off+size)).toArray:=by
    have:=zwq off v.cells.toList 0 vs.toArray (by simp;omega);rw[hlist] at this;simp only[Nat.add_zero] at this;rw[<-this, <-Array.foldl_toList,Array.toList_zipIdx]
   obtain⟨vs',e1,e2,e3⟩:=zqr h hp (zbm (zbm (zib hr off) k1) (zih hr (off+size)))
    (fun w hw=>by
     rcases mem_append.1 hw with hw|hw
     ·rcases mem_append.1 hw with hw|hw
      ·exact h1 w (mem_of_mem_take hw)
      ·exact k2 w hw
     ·exact h1 w (List.mem_of_mem_drop hw))
   refine⟨vs',?_,e2,e3⟩;simp only[Instr.fill,hpl];rw[if_neg (by simp[hsz];omega)];rw[<-e1];congr 1
def znw (z:Value):List AV:=z.cells.toList.map zkx
theorem qdt (l:List Value):zbf IT X (l.map zkx) l:=by
 refine zfw (by simp) fun i a v h1 h2=> ?_;rw[getElem?_map,h2] at h1;simp at h1;subst h1;exact zjx v
def qfw (P:Program)(t:TypeId)(parts:List (Nat×AV)):Option AV:=
 match P.info? t,P.underlying t with
 | some it,some (.array _ e)=>
  match it.zero,P.info? e with
  |some z,some ie=>if z.cells.toList.all (·.oneCell')=true then(z2d (fun i=>some (i*ie.size,ie.size)) (znw z) parts).map .agg else none
  |_,_=>none
 | some it,some (.struct fields)=>
  match it.zero,fields.toList.mapM (fun f=>(P.info? f.type).map fun i=>(f.offset,i.size)) with
  |some z,some places=>if z.cells.toList.all (·.oneCell')=true then(z2d (places.toArray[·]?) (znw z) parts).map .agg else none
  |_,_=>none
 |_,_=>none
theorem z3m {t:TypeId} {ps:List (Nat×AV)} {qs:Array (Nat×Value)} {a:AV} (h:qfw P t ps=some a)(hp:zsc IT X ps qs.toList):
 ∃v,(Instr.build t qs).run P X.w= .ok v X.w/\ Rep IT X a v:=by
 have fin: ∀(zft:Nat->Option (Nat×Nat)) (z:Value),z.cells.toList.all (·.oneCell')=true->(z2d zft (znw z) ps).map AV.agg=some a->(∀cells,Instr.fill zft z.cells qs.toList=some cells->P.built t qs.toList=some cells)->
  ∃v,(Instr.build t qs).run P X.w= .ok v X.w/\ Rep IT X a v:=fun zft z h1 h2 h3=>by
  simp only[Option.map_eq_some_iff] at h2;obtain⟨cells',h2,rfl⟩:=h2;obtain⟨vs',e1,e2,e3⟩:=zqr h2 hp (qdt z.cells.toList) (fun v hv=>all_eq_true.1 h1 v hv);refine⟨_,run_build X.w t qs _ (h3 _ (by simpa using e1)),?_⟩;rw[Rep];exact⟨vs',rfl,e2,e3⟩
 unfold qfw at h;split at h<;>try cases h
 ·rename_i it n e hi hu;split at h<;>try cases h
  rename_i z ie hz hie;split at h<;>try cases h
  rename_i h1;exact fin _ z h1 h fun cells hc=>by simp only[Program.built,hi,hu,hz,hie,hc]
 ·rename_i it fields hi hu;split at h<;>try cases h
  rename_i z places hz hpl;split at h<;>try cases h
  rename_i h1;exact fin _ z h1 h fun cells hc=>by simp only[Program.built,hi,hu,hz,hpl,hc]
def zow (P:Program)(t:TypeId)(len:Nat)(parts:List (Nat×AV)):Option (List AV×TypeId×Nat):=
 match P.underlying t with
 | some (.slice e)=>match P.info? e with
  | some ie=>match ie.zero with
   | some z=>
    if len=0 then(match parts with|[]=>some ([],e,ie.size)|_=>none)
    else if z.cells.toList.all (·.oneCell')=true/\ z.cells.size≠0/\ len*ie.size<=2^24/\ len*ie.size≠0 then
     (z2d (fun i=>some (i*ie.size,ie.size)) ((List.range (len*ie.size)).map fun k=>(znw z)[k%z.cells.size]?.getD .bad) parts).map fun cells=>(cells,e,ie.size)
    else none
   |none=>none
  |none=>none
 |_=>none
theorem zlp {t e:TypeId} {len sz:Nat} {ps:List (Nat×AV)} {qs:Array (Nat×Value)} {cs:List AV} (h:zow P t len ps=some (cs,e,sz))(hp:zsc IT X ps qs.toList):
 ∃vs:List Value,(Instr.buildSlice t len qs).run P X.w= .ok (.slice (some ⟨X.w.heap.size,0,none⟩) len len) (X.w.alloc (.cells vs.toArray e))/\ zbf IT X cs vs/\ ∀v∈vs,v.oneCell'=true:=by
 unfold zow at h;split at h<;>try cases h
 rename_i e' hu;split at h<;>try cases h
 rename_i ie hie;split at h<;>try cases h
 rename_i z hz;split at h
 ·rename_i h0;subst h0;split at h<;>cases h
  rw[zsc] at hp;refine⟨[],?_,by rw[zbf],by simp⟩;simp[Instr.buildSlice,underlying,sizeOf,typeInfo,program,Sem.run,hu,hie,hp,Instr.fill,newRow,newObj,Array.range_zero']
 split at h<;>try cases h
 rename_i hc;obtain⟨hc1,hc2,hc3,hc4⟩:=hc;simp only[Option.map_eq_some_iff,Prod.mk.injEq] at h;obtain⟨cells',h2,rfl,rfl,rfl⟩:=h;have hz0:zbf IT X ((List.range (len*ie.size)).map fun k=>(znw z)[k%z.cells.size]?.getD .bad) ((List.range (len*ie.size)).map (z.cells[· %z.cells.size]!)):=by
  refine zfw (by simp) fun i x v h1 h2=> ?_;rw[getElem?_map] at h1 h2;cases hr:(List.range (len*ie.size))[i]? with
  |none=>rw[hr] at h1;cases h1
  | some k=>
   rw[hr] at h1 h2;simp only[Option.map_some,Option.some.injEq] at h1 h2;have hlt:k%z.cells.size<z.cells.size:=Nat.mod_lt _ (Nat.pos_of_ne_zero hc2);subst h1 h2;have e1:(znw z)[k%z.cells.size]?.getD .bad=zkx z.cells[k%z.cells.size]:=by
    simp[znw,hlt]
   have e2:z.cells[k%z.cells.size]! =z.cells[k%z.cells.size]:=getElem!_pos z.cells (k%z.cells.size) hlt;rw[e1,e2];exact zjx _
 have hz1: ∀v∈(List.range (len*ie.size)).map (z.cells[· %z.cells.size]!),v.oneCell'=true:=by
  intro v hv;obtain⟨k,_,rfl⟩:=List.mem_map.1 hv;have hlt:k%z.cells.size<z.cells.size:=Nat.mod_lt _ (Nat.pos_of_ne_zero hc2);rw[getElem!_pos z.cells (k%z.cells.size) hlt];exact all_eq_true.1 hc1 _ (by simp)
 obtain⟨vs',e1,e2,e3⟩:=zqr h2 hp hz0 hz1;exact⟨vs',run_buildSlice X.w t e' len qs vs'.toArray ie z hu hie hz (by omega) hc4 (by
  rw[<-e1];congr 1;apply Array.ext';simp),e2,e3⟩
def zux (P:Program)(t:TypeId)(len:Nat)(parts:List (Nat×AV)):Option AV:=
 (zow P t len parts).map fun r=> .list len r.1 .full
theorem ztm (hIT:ITMono IT) {P:Program} {X:Cx} {U:St} {t:TypeId} {len:Nat} {ps:List (Nat×AV)} {qs:Array (Nat×Value)} {a:AV} (h:zux P t len ps=some a)(hp:zsc IT X ps qs.toList)(hI:Inv IT U X):
 ∃ v X',(Instr.buildSlice t len qs).run P X.w= .ok v X'.w/\ Ext X X'/\ Inv IT U X'/\ Rep IT X' a v/\
  Grows X.w X'.w/\ X'.κ=X.κ/\ X'.β=X.β/\ X'.lens=X.lens/\ (X'.O=X.O/\ X'.C=X.C)/\ ∀b i,X'.F b i->X.F b i \/X.w.heap.size<=b:=by
 unfold zux at h;simp only[Option.map_eq_some_iff] at h;obtain⟨⟨cs,e,sz⟩,h,rfl⟩:=h;obtain⟨vs',e1,e2,e3⟩:=zlp h hp;obtain⟨X',x1,x2,x3,x4,x5⟩:=qcq hIT hI e e2 e3;refine⟨.slice (some ⟨X.w.heap.size,0,none⟩) len len,X',by rw[x1];exact e1,x2,x3,?_,x5⟩;rw[Rep];exact⟨_,_,rfl,⟨le_refl _,fun h=>by cases h⟩,.inr ⟨_,_,rfl,x4⟩,rfl⟩
def qly (P:Program)(U:St)(t:TypeId)(len:Nat)(parts:List (Nat×AV)):Option (AV×St):=
 match zow P t len parts with
 |some (cs,e,sz)=>if cs.length=len*sz then some (.bsl U.boxes.length 0 len sz true,{U with boxes:=U.boxes++[(e,cs)]}) else none
 |none=>none
theorem z7d (hIT:ITMono IT) {P:Program} {X:Cx} {U U':St} {t:TypeId} {len:Nat} {ps:List (Nat×AV)} {qs:Array (Nat×Value)} {a:AV} (h:qly P U t len ps=some (a,U'))(hp:zsc IT X ps qs.toList)(hI:Inv IT U X):
 ∃v X',(Instr.buildSlice t len qs).run P X.w= .ok v X'.w/\ Ext X X'/\ Inv IT U' X'/\ Rep IT X' a v:=by
 unfold qly at h;split at h<;>try cases h
 rename_i cs e sz hl;split at h<;>cases h
 rename_i hlen;obtain⟨vs,e1,e2,e3⟩:=zlp hl hp;obtain⟨X',x1,x2,x3,x4⟩:=z0d hIT hI (t:=e) e2 e3;refine⟨_,X',(by rw[x1];exact e1),x2,x3,?_⟩;obtain⟨b,hb1,hb2⟩: ∃b,X'.κ[U.boxes.length]? =some b/\ Value.pointer (some ⟨X.w.heap.size,0,none⟩)= .pointer (some ⟨b,0,none⟩):=x4;have hb3:b=X.w.heap.size:=by simp at hb2;exact hb2.symm
 subst hb3;show Bsl X' _ _ _ _ _ _;have hl:=zq e2;refine⟨_,_,vs.toArray,e,hb1,rfl,le_refl _,fun _=>rfl,?_,by simp;omega⟩;rw[x1];exact zea _ _ _ rfl
end Go.Ab
