import Derived.RangeFuncNested
import Derived.RangeFuncLeaves
import Derived.StillTail
import Derived.Below
import Derived.Maps.AppendAt
import Derived.OwnWalkIn
import Derived.Shelf.Abstract
set_option linter.all false
namespace Go.Fwd
open Go Go.RowKit
abbrev drn (w:World):Nat:=w.drawn
structure Ex (B:Nat)(w w':World):Prop extends Below B w w' where
 drawn:drn w≤drn w'
theorem Ex.refl (B:Nat)(w:World):Ex B w w:=⟨Below.refl B w,Nat.le_refl _⟩
theorem Ex.trans {B:Nat} {a b c:World} (h:Ex B a b)(k:Ex B b c):Ex B a c:=⟨h.toBelow.trans k.toBelow,Nat.le_trans h.drawn k.drawn⟩
theorem Ex.mono {B B':Nat} {w w':World} (h:Ex B w w')(hB:B'≤B):Ex B' w w':=⟨h.toBelow.mono hB,h.drawn⟩
theorem Ex.drew {B:Nat} {a w:World} (h:Ex B a w):Ex B a w.drew:=⟨h.toBelow.drew,Nat.le_trans h.drawn (Nat.le_succ _)⟩
theorem Ex.alloc {B:Nat} {a w:World} (h:Ex B a w)(hB:B≤w.heap.size)(o:Obj):Ex B a (w.alloc o):=⟨h.toBelow.alloc hB o,h.drawn⟩
theorem Ex.setRow {B:Nat} {a w:World} (h:Ex B a w) {g:Nat} (hg:B≤g)(cs:Array Value):Ex B a (w.setRow g cs):=by
 refine⟨h.toBelow.trans ⟨rfl,rfl,rfl,by simp,fun k hk=> ?_⟩,h.drawn⟩
 simp only[World.setRow,Array.getElem?_modify]
 rw[if_neg (by omega)]
structure Turn (B:Nat)(W W':World):Prop where
 os:W'.os=W.os
 tape:W'.tape=W.tape
 output:W'.output=W.output
 size:W.heap.size≤W'.heap.size
 drawn:drn W≤drn W'
 same: ∀(k:Nat) (o:Obj),W.heap[k]? =some o→k<B∨o.isCells=true→W'.heap[k]? =some o
theorem Turn.of_ex {W W':World} (B:Nat)(h:Ex W.heap.size W W'):Turn B W W':=
 ⟨h.os,h.tape,h.output,h.size,h.drawn,fun k o hk _=>(h.block k (Array.getElem?_eq_some_iff.1 hk).1).trans hk⟩
theorem Turn.putObj {B:Nat} {W:World} {l:Nat} {o:Obj} (o':Obj)(hB:B≤l)(hl:W.heap[l]? =some o)(ho:o.isCells=false):Turn B W (W.putObj l o'):=
 ⟨rfl,rfl,rfl,by simp,Nat.le_refl _,fun k o2 hk h2=>by
  refine(World.putObj_heap_other fun e=> ?_).trans hk
  subst e
  rcases h2 with h2|h2
  ·omega
  ·rw[hl] at hk;cases hk;rw[ho] at h2;cases h2⟩
theorem Turn.alloc (B:Nat)(W:World)(o:Obj):Turn B W (W.alloc o):=Turn.of_ex B ((Ex.refl _ _).alloc (Nat.le_refl _) o)
theorem Turn.ex {B:Nat} {W W':World} (h:Turn B W W')(hB:B≤W.heap.size):Ex B W W':=
 ⟨⟨h.os,h.tape,h.output,h.size,fun k hk=>by
  have hlt:k<W.heap.size:=by omega
  rw[h.same k _ (Array.getElem?_eq_getElem hlt) (.inl hk),Array.getElem?_eq_getElem hlt]⟩,h.drawn⟩
def Stable {β:Type} (B:Nat)(J:β→World→Prop):Prop:= ∀s W W',J s W→Turn B W W'→J s W'
theorem Stable.and {β:Type} {B:Nat} {I I':β→World→Prop} (h:Stable B I)(h':Stable B I'):Stable B (fun s W=>I s W∧I' s W):=fun s W W' hs ht=>⟨h s W W' hs.1 ht,h' s W W' hs.2 ht⟩
section
variable {P:Program} {α:Type}
def Yields (P:Program)(l:Nat)(args:Array Value)(W:World)(R:Ending→World→Prop):Prop:= ∀m,YieldAt Fence.wide m P l args W R
theorem Yields.mono {l:Nat} {args:Array Value} {W:World} {R R':Ending→World→Prop} (h:Yields P l args W R)(hr: ∀e w,R e w→R' e w):Yields P l args W R':=fun m=>by
 obtain⟨fn,tmps,assign,body,hy,hR⟩:=h m
 exact⟨fn,tmps,assign,body,hy,hR.mono hr⟩
def qcd (B:Nat)(Kp:World→World→Prop)(I:List α→World→Prop)(Ix:Code→List α→World→Prop)(xs:List α)(W:World):Exit→Act→World→Prop
 | .normal,_,W'=>KeepsFrom B W W'∧Kp W W'∧I xs W'
 | .ret,_,W'=>KeepsFrom B W W'∧Ix .ret xs W'
 | .exit id,_,W'=>KeepsFrom B W W'∧Ix (.exit id) xs W'
 | .goto t,_,W'=>KeepsFrom B W W'∧Ix (.goto t) xs W'
 |_,_,_=>False
theorem zme {B B':Nat} {W W':World} (h:KeepsFrom B W W')(hB:B≤B'):KeepsFrom B' W W':=⟨h.size,fun k o hk h1 h2=>h.same k o (by omega) h1 h2⟩
theorem zkc {B l:Nat} (W:World)(o:Obj)(h:l<B):KeepsFrom B W (W.putObj l o):=⟨by simp,fun k o' hk h1 _=>(World.putObj_heap_other (by omega)).trans h1⟩
theorem qdm {F:Fence} (hF: ∀f,F.fn f) {m B l d:Nat} {fn:FuncId} {tmps:Array Value} {ps:Array Tmp} {assign body:Code} (rec:LoopState→Option Code→Loop)
 (hrec:rec=fun st pe=>{state:=st,pending:=pe,fn,tmps,params:=ps,assign,body,defers:=d}) (hBl:B≤l)
 {encs:α→Array Value} {Kp:World→World→Prop} (hps: ∀x,(encs x).size=ps.size)
 (hKt: ∀A B C:World,Kp A B→Kp B C→Kp A C) (hKT: ∀W W':World,Turn B W W'→B≤W.heap.size→Kp W W')
 {I:List α→World→Prop} {Ix:Code→List α→World→Prop} {A:α→Act→World→Prop} (hI:Stable B I) (hIx: ∀c,Stable B (Ix c)) (hA: ∀x a',Stable B (fun(_:Unit) W=>A x a' W))
 {pre:List α} {x:α} {W:World} (hl:W.heap[l]? =some (.loop (rec .ready none)))
 (hassign: ∀K:Act→World→Prop,(∀a' W',KeepsFrom B W W'→Kp W W'→I pre W'→A x a' W'→K a' W')→assign.wpIn (F.inRound l) m P (Exit.then K (fun _ _ _=>False)) {tmps:=(ps.zip (encs x)).foldl (fun t (p,v)=>t.setIfInBounds p v) tmps,defers:=[]} W)
 (hbody: ∀a' W',(∃r,W'.heap[l]? =some (.loop r)∧r.defers=d)→I pre W'→A x a' W'→body.wpIn (F.inRound l) m P (qcd B Kp I Ix (pre++[x]) W') a' W'):
 YieldAt F m P l (encs x) W fun e W'=>KeepsFrom (l+1) W W'∧(∀k o,B≤k→k≠l→W.heap[k]? =some o→o.isCells=false→W'.heap[k]? =some o)∧
  ((e= .returned (.bool true)∧(I (pre++[x]) W'∧W'.heap[l]? =some (.loop (rec .ready none)))∧Kp W W')∨
   (e= .returned (.bool false)∧ ∃c,Ix c (pre++[x]) W'∧W'.heap[l]? =some (.loop (rec .done (some c))))):=by
 have hy:=run_yield (P:=P) (args:=encs x) hl (by rw[hrec];exact hps x)
 rw[hrec] at hy
 refine⟨fn,_,assign,body,hy,roundIn_of_wpIn (hF fn) (hassign _ ?_)⟩
 intro a' Wa hk1 hkp1 hi1 ha1
 have hla:=hk1.same _ _ hBl hl rfl
 have hlt:l<Wa.heap.size:=(Array.getElem?_eq_some_iff.1 hla).1
 refine⟨_,run_beginRound hla (by rw[hrec]),?_⟩
 have hT1:=Turn.putObj (B:=B) (.loop {rec .ready none with state:= .busy}) hBl hla rfl
 have hlb:(Wa.putObj l (.loop {rec .ready none with state:= .busy})).heap[l]? =some (.loop {rec .ready none with state:= .busy}):=World.putObj_heap_same hlt
 have hkp2:=hKt _ _ _ hkp1 (hKT _ _ hT1 (by omega))
 have hks:KeepsFrom (l+1) Wa (Wa.putObj l (.loop {rec .ready none with state:= .busy})):=zkc Wa _ (by omega)
 have hks': ∀k o,k≠l→Wa.heap[k]? =some o→(Wa.putObj l (.loop {rec .ready none with state:= .busy})).heap[k]? =some o:=fun k o hk h=>(World.putObj_heap_other hk).trans h
 generalize Wa.putObj l (.loop {rec .ready none with state:= .busy})=Wb at*
 refine wpIn_mono (hbody a' Wb ⟨_,hlb,by rw[hrec]⟩ (hI _ _ _ hi1 hT1) (hA x a' () _ _ ha1 hT1)) ?_
 -- behind the body
 have fin: ∀(jump:Option Code) (Wc:World),KeepsFrom B Wb Wc→
  (Instr.endRound l jump).run P Wc= .ok (.bool jump.isNone) (Wc.putObj l (.loop (rec (if jump.isNone then .ready else .done) jump)))∧
  Turn B Wc (Wc.putObj l (.loop (rec (if jump.isNone then .ready else .done) jump)))∧B≤Wc.heap.size∧
  (Wc.putObj l (.loop (rec (if jump.isNone then .ready else .done) jump))).heap[l]? =some (.loop (rec (if jump.isNone then .ready else .done) jump))∧
  KeepsFrom (l+1) W (Wc.putObj l (.loop (rec (if jump.isNone then .ready else .done) jump)))∧
  ∀k o,B≤k→k≠l→W.heap[k]? =some o→o.isCells=false→(Wc.putObj l (.loop (rec (if jump.isNone then .ready else .done) jump))).heap[k]? =some o:=fun jump Wc hk3=>by
  have hlc:=hk3.same _ _ hBl hlb rfl
  have hltc:l<Wc.heap.size:=(Array.getElem?_eq_some_iff.1 hlc).1
  have:=run_endRound (P:=P) jump hlc
  rw[hrec] at this⊢
  exact⟨this,Turn.putObj _ hBl hlc rfl,by omega,World.putObj_heap_same hltc,
   (((zme hk1 (by omega)).trans hks).trans (zme hk3 (by omega))).trans (zkc Wc _ (by omega)),
   fun k o hkB hkl h1 h2=>(World.putObj_heap_other hkl).trans (hk3.same _ _ hkB (hks' _ _ hkl (hk1.same _ _ hkB h1 h2)) h2)⟩
 rintro e a3 Wc hp
 cases e with
 | normal=>
  obtain⟨hk3,hkp3,hi3⟩:=hp
  obtain⟨hr,hT,hsz,hl4,hk4,hk5⟩:=fin none Wc hk3
  exact⟨_,_,hr,hk4,hk5,.inl ⟨rfl,⟨hI _ _ _ hi3 hT,hl4⟩,hKt _ _ _ (hKt _ _ _ hkp2 hkp3) (hKT _ _ hT hsz)⟩⟩
 | ret=>
  obtain⟨hk3,hi3⟩:=hp
  obtain⟨hr,hT,hsz,hl4,hk4,hk5⟩:=fin (some .ret) Wc hk3
  exact⟨_,_,hr,hk4,hk5,.inr ⟨rfl,.ret,hIx _ _ _ _ hi3 hT,hl4⟩⟩
 | exit id=>
  obtain⟨hk3,hi3⟩:=hp
  obtain⟨hr,hT,hsz,hl4,hk4,hk5⟩:=fin (some (.exit id)) Wc hk3
  exact⟨_,_,hr,hk4,hk5,.inr ⟨rfl,.exit id,hIx _ _ _ _ hi3 hT,hl4⟩⟩
 | goto t=>
  obtain⟨hk3,hi3⟩:=hp
  obtain⟨hr,hT,hsz,hl4,hk4,hk5⟩:=fin (some (.goto t)) Wc hk3
  exact⟨_,_,hr,hk4,hk5,.inr ⟨rfl,.goto t,hIx _ _ _ _ hi3 hT,hl4⟩⟩
 |panic ch=>exact hp.elim
 |outgrown=>exact hp.elim
theorem zrh {F:Fence} (hd:F.depth=none) {c:Code} {n m:Nat} {Q:Exit→Act→World→Prop} {a:Act} {w:World} (h:c.wpIn F n P Q a w):c.wpIn F m P Q a w:=
 fun b k cs h1 h2 _=>h b k cs h1 h2 (fun d hdd=>by rw[hd] at hdd;cases hdd)
theorem z8o {B l d:Nat} {fn:FuncId} {tmps:Array Value} {ps:Array Tmp} {assign body:Code} (rec:LoopState→Option Code→Loop)
 (hrec:rec=fun st pe=>{state:=st,pending:=pe,fn,tmps,params:=ps,assign,body,defers:=d}) (hBl:B≤l)
 {encs:α→Array Value} {Kp:World→World→Prop} (hps: ∀x,(encs x).size=ps.size)
 (hKt: ∀A B C:World,Kp A B→Kp B C→Kp A C) (hKT: ∀W W':World,Turn B W W'→B≤W.heap.size→Kp W W')
 {I:List α→World→Prop} {Ix:Code→List α→World→Prop} {A:α→Act→World→Prop} (hI:Stable B I) (hIx: ∀c,Stable B (Ix c)) (hA: ∀x a',Stable B (fun(_:Unit) W=>A x a' W))
 {pre:List α} {x:α} {W:World} (hl:W.heap[l]? =some (.loop (rec .ready none)))
 (hassign: ∀K:Act→World→Prop,(∀a' W',KeepsFrom B W W'→Kp W W'→I pre W'→A x a' W'→K a' W')→assign.wpIn (Fence.wide.inRound l) 0 P (Exit.then K (fun _ _ _=>False)) {tmps:=(ps.zip (encs x)).foldl (fun t (p,v)=>t.setIfInBounds p v) tmps,defers:=[]} W)
 (hbody: ∀a' W',(∃r,W'.heap[l]? =some (.loop r)∧r.defers=d)→I pre W'→A x a' W'→body.wpIn (Fence.wide.inRound l) 0 P (qcd B Kp I Ix (pre++[x]) W') a' W'):
 Yields P l (encs x) W fun e W'=>KeepsFrom (l+1) W W'∧(∀k o,B≤k→k≠l→W.heap[k]? =some o→o.isCells=false→W'.heap[k]? =some o)∧
  ((e= .returned (.bool true)∧(I (pre++[x]) W'∧W'.heap[l]? =some (.loop (rec .ready none)))∧Kp W W')∨
   (e= .returned (.bool false)∧ ∃c,Ix c (pre++[x]) W'∧W'.heap[l]? =some (.loop (rec .done (some c))))):=fun _=>
 qdm (F:=Fence.wide) (fun _=>trivial) rec hrec hBl hps hKt hKT hI hIx hA hl (fun K hK=>zrh rfl (hassign K hK)) (fun a' W' h1 h2 h3=>zrh rfl (hbody a' W' h1 h2 h3))
end
def Grows (w w':World):Prop:=Ex w.heap.size w w'
theorem Grows.refl (w:World):Grows w w:=Ex.refl _ _
theorem Grows.trans {a b c:World} (h:Grows a b)(k:Grows b c):Grows a c:=Ex.trans h (k.mono h.size)
theorem Grows.drew {a w:World} (h:Grows a w):Grows a {w with drawn:=w.drawn+1}:=Ex.drew h
abbrev VP:=Value→World→Prop
def Mono (V:VP):Prop:= ∀v w w',Grows w w'→V v w→V v w'
def Is (e:Value):VP:=fun v _=>v=e
abbrev Acc:=List (Tmp×VP)
def env (a0:Act):Acc→Tmp→VP
 |[],t=>Is (a0.eval (.tmp t))
 |(d,V)::r,t=>if d=t then V else env a0 r t
def OpGood (P:Program)(V:VP)(w:World):Result Next→Prop
 | .ok (.value v) w'=>Grows w w'∧V v w'
 | .ok .skip w'=>Grows w w'∧V undef w'
 | .ok (.enter f args) w'=>Grows w w'∧Calls P f args w' fun e w''=> ∃v,e= .returned v∧Grows w w''∧V v w''
 | .ok (.row row args) w'=>Grows w w'∧Rows P row args w' fun v w''=>Grows w w''∧V v w''
 |_=>False
def zef:List Operand→List Tmp
 |[]=>[]
 | .tmp t::r=>t::zef r
 |_::r=>zef r
def All (E:Tmp→VP)(ρ:Operand→Value)(w:World):List Tmp→Prop
 |[]=>True
 |t::r=>E t (ρ (.tmp t)) w∧All E ρ w r
theorem all_mk {E:Tmp→VP} {ρ:Operand→Value} {w:World}: ∀ {l:List Tmp},(∀t∈l,E t (ρ (.tmp t)) w)→All E ρ w l
 |[],_=>trivial
 |t::_,h=>⟨h t (by simp),all_mk fun u hu=>h u (by simp[hu])⟩
structure Env (ρ:Operand→Value):Prop where
 const: ∀v,ρ (.const v)=v
 func: ∀f,ρ (.func f)= .func (.func f) #[] #[]
 global: ∀g,ρ (.global g)= .pointer (some ⟨g,0,none⟩)
theorem zrf (a:Act):Env a.eval:=⟨fun _=>rfl,fun _=>rfl,fun _=>rfl⟩
def zbl (ops:Array Oper)(k:Nat):Option Tmp:=(ops[k]?).bind (·.dst)
def StepOk (P:Program)(ops:Array Oper)(w0:World)(a0:Act)(acc:Acc)(V:VP)(o:Oper):Prop:=
 ∀ (ρ:Operand→Value) (w:World),Env ρ→Grows w0 w→All (env a0 acc) ρ w (zef o.op.operands.toList)→
  match o.guard with
  |none=>OpGood P V w ((execOp ρ o).run P w)
  |some (k,b)=> ∃d,zbl ops k=some d∧ ∀g,env a0 acc d g w→(g= .bool b→OpGood P V w ((execOp ρ o).run P w))∧(g≠ .bool b→V undef w)
def accOf (acc:Acc)(d:Option Tmp)(V:VP):Acc:=match d with|some t=>(t,V)::acc|none=>acc
def FwdGo (P:Program)(ops:Array Oper)(w0:World)(a0:Act)(fin:Acc→Prop):List Oper→Acc→Prop
 |[],acc=>fin acc
 |o::rest,acc=> ∃V,Mono V∧StepOk P ops w0 a0 acc V o∧FwdGo P ops w0 a0 fin rest (accOf acc o.dst V)
def EndAt (w:World):Acc→Act→(Act→Prop)→Prop
 |[],a,K=>K a
 |(d,V)::r,a,K=>EndAt w r a fun a'=> ∀v,V v w→K (a'.put (some d) v)
def zhg (ops:Array Oper)(i j:Nat):Bool:=match ops[i]? with|some o=>o.after.any fun e=>Region.binds .any e&&e.on==j|none=>false
def zgg (ops:Array Oper)(i:Nat):List Tmp:=
 match ops[i]? with
 |some o=>zef o.op.operands.toList++(match o.guard with|some (k,_)=>(zbl ops k).toList|none=>[])
 |none=>[]
def zrz (ops:Array Oper)(size n:Nat):Bool:=
 (List.range n).all fun j=>match zbl ops j with
  |none=>true
  |some d=>decide (d<size)&&(List.range n).all fun i=>(decide (i=j)||zbl ops i !=some d)&&(!(zgg ops i).contains d||(if j<i then zhg ops i j else decide (i<j)&&zhg ops j i))
def zvp (ops:Array Oper):Bool:=(List.range ops.size).all fun i=>match ops[i]? with|some o=>o.after.all fun e=> !Region.binds .any e||decide (e.on<i)|none=>true
def chk (ops:Array Oper)(size n:Nat):Bool:=
 zrz ops size n&&zvp ops&&decide (n≤ops.size)&&(decide (n=ops.size)||(Region.sinkB .any ops n&&Region.chainB .any ops n))&&
  Region.seqB .any ops (ops.size-n) n ((List.replicate n true).toArray++(List.replicate (ops.size-n) false).toArray)
def left:Nat→Array Bool→Nat
 |0,_=>0
 |k+1,l=>left k l+if l.getD k true=true then 0 else 1
theorem zlv {i:Nat} {l:Array Bool} (hu:l.getD i true=false): ∀n,i<n→left n (l.setIfInBounds i true)+1=left n l
 |0,h=>absurd h (Nat.not_lt_zero _)
 | n +1,h=>by
  have hi:i<l.size:=by
   rcases Nat.lt_or_ge i l.size with h'|h'
   ·exact h'
   ·simp[Array.getElem?_eq_none h'] at hu
  by_cases hin:i=n
  ·subst hin
   have e: ∀m,m≤i→left m (l.setIfInBounds i true)=left m l:=by
    intro m
    induction m with
    |zero=>intro _;rfl
    |succ m ih=>intro hm;simp only[left,ih (by omega)];rw[getD_set_ne true (by omega)]
   simp only[left,e i (Nat.le_refl _),hu]
   have:(l.setIfInBounds i true).getD i true=true:=by simp[hi]
   simp[this]
  ·have:=zlv hu n (by omega)
   simp only[left]
   rw[getD_set_ne true hin]
   omega
theorem zhm {l:Array Bool}: ∀n,left n l=0→ ∀i,i<n→l.getD i true=true
 |0,_,i,h=>absurd h (Nat.not_lt_zero _)
 | n+1,h0,i,h=>by
  simp only[left] at h0
  by_cases hin:i=n
  ·subst hin
   by_cases hh:l.getD i true=true
   ·exact hh
   ·simp only[hh] at h0;simp at h0
  ·exact zhm n (by omega) i (by omega)
theorem zln {l:Array Bool}: ∀n,left n l≠0→ ∃i,i<n∧l.getD i true=false∧ ∀j,j<i→l.getD j true=true
 |0,h=>absurd rfl h
 | n+1,h=>by
  by_cases h0:left n l=0
  ·refine⟨n,by omega,?_,fun j hj=>zhm n h0 j hj⟩
   simp only[left,h0] at h
   cases hh:l.getD n true with
   |false=>rfl
   |true=>simp only[hh] at h;simp at h
  ·obtain⟨i,hi,hu,hb⟩:=zln n h0
   exact⟨i,by omega,hu,hb⟩
section
variable {P:Program} {ops:Array Oper} {w0:World} {a0:Act}
def accU (ops:Array Oper)(Vs:Nat→VP):Nat→Acc
 |0=>[]
 |i+1=>accOf (accU ops Vs i) (zbl ops i) (Vs i)
theorem fwd_choose {fin:Acc→Prop}: ∀(l:List Oper) (k:Nat) (Vs:Nat→VP),(∀j,j<l.length→l[j]? =ops[k+j]?)→
 FwdGo P ops w0 a0 fin l (accU ops Vs k)→
 ∃Ws:Nat→VP,(∀i,i<k→Ws i=Vs i)∧(∀i,k≤i→i<k+l.length→Mono (Ws i)∧ ∀o,ops[i]? =some o→StepOk P ops w0 a0 (accU ops Ws i) (Ws i) o)∧fin (accU ops Ws (k+l.length))
 |[],k,Vs,_,h=>⟨Vs,fun _ _=>rfl,fun i h1 h2=>by simp at h2;omega,h⟩
 | o::l,k,Vs,hl,⟨V,hm,hs,hgo⟩=>by
  have h0:ops[k]? =some o:=by simpa using(hl 0 (by simp)).symm
  have eU: ∀(A B:Nat→VP) m,(∀i,i<m→A i=B i)→accU ops A m=accU ops B m:=by
   intro A B m
   induction m with
   |zero=>intro _;rfl
   |succ m ih=>intro h;simp only[accU,ih (fun i hi=>h i (by omega)),h m (by omega)]
  let Vs':Nat→VP:=fun i=>if i=k then V else Vs i
  have e1:accU ops Vs' k=accU ops Vs k:=eU _ _ _ fun i hi=>by simp[Vs',Nat.ne_of_lt hi]
  have e2:accU ops Vs' (k+1)=accOf (accU ops Vs k) o.dst V:=by
   simp only[accU,e1,zbl,h0,Option.bind_some];simp[Vs']
  obtain⟨Ws,hw1,hw2,hw3⟩:=fwd_choose l (k+1) Vs' (fun j hj=>by have:=hl (j+1) (by simp;omega);simpa[Nat.add_assoc,Nat.add_comm 1 j] using this) (by rw[e2];exact hgo)
  have hk:Ws k=V:=by rw[hw1 k (by omega)];simp[Vs']
  have hsame: ∀i,i<k→Ws i=Vs i:=fun i hi=>by rw[hw1 i (by omega)];simp[Vs',Nat.ne_of_lt hi]
  refine⟨Ws,hsame,fun i h1 h2=> ?_,by rw[show k+(o::l).length=k+1+l.length by simp;omega];exact hw3⟩
  by_cases hik:i=k
  ·subst hik
   rw[hk,eU Ws Vs i hsame]
   exact⟨hm,fun o' ho'=>by rw[h0] at ho';cases ho';exact hs⟩
  ·exact hw2 i (by omega) (by simp at h2;omega)
theorem env_none {Vs:Nat→VP} {t:Tmp}: ∀i,(∀j,j<i→zbl ops j≠some t)→env a0 (accU ops Vs i) t=Is (a0.eval (.tmp t))
 |0,_=>rfl
 | i+1,h=>by
  simp only[accU]
  cases hd:zbl ops i with
  |none=>simp only[accOf];exact env_none i fun j hj=>h j (by omega)
  | some d=>
   have:d≠t:=fun e=>h i (by omega) (by rw[hd,e])
   simp only[accOf,env,if_neg this];exact env_none i fun j hj=>h j (by omega)
theorem env_some {Vs:Nat→VP} {t:Tmp} {j:Nat} (hd:zbl ops j=some t): ∀i,j<i→(∀k,k<i→k≠j→zbl ops k≠some t)→env a0 (accU ops Vs i) t=Vs j
 |0,h,_=>absurd h (Nat.not_lt_zero _)
 | i +1,h,hne=>by
  simp only[accU]
  by_cases hij:j=i
  ·subst hij;simp[hd,accOf,env]
  ·cases hd':zbl ops i with
   |none=>simp only[accOf];exact env_some hd i (by omega) fun k hk hkj=>hne k (by omega) hkj
   | some d=>
    have:d≠t:=fun e=>hne i (by omega) (by omega) (by rw[hd',e])
    simp only[accOf,env,if_neg this];exact env_some hd i (by omega) fun k hk hkj=>hne k (by omega) hkj
structure Inv (ops:Array Oper)(w0:World)(a0:Act)(Vs:Nat→VP)(n:Nat)(listed:Array Bool)(a:Act)(w:World):Prop where
 head:HeadInv .any ops n listed
 grows:Grows w0 w
 defers:a.defers=a0.defers
 size:a.tmps.size=a0.tmps.size
 done: ∀j t,j<n→zbl ops j=some t→listed.getD j true=true→Vs j (a.eval (.tmp t)) w
 still: ∀t,(∀j,j<n→zbl ops j=some t→listed.getD j true=false)→a.eval (.tmp t)=a0.eval (.tmp t)
theorem zqk {d:Tmp} {l:List Tmp} (h:d∈l):l.contains d=true:=by simpa using h
theorem zee {i j:Nat} (h:zhg ops i j=true): ∃o,ops[i]? =some o∧ ∃e∈o.after,Region.binds .any e=true∧e.on=j:=by
 unfold zhg at h
 split at h
 ·rename_i o ho
  obtain⟨e,he,hb⟩:=Array.any_eq_true'.1 h
  simp only[Bool.and_eq_true,beq_iff_eq] at hb
  exact⟨o,ho,e,he,hb.1,hb.2⟩
 ·cases h
theorem zpj {listed:Array Bool} {i:Nat} (h:listed.getD i false=true):listed.getD i true=true:=by
 rcases Nat.lt_or_ge i listed.size with h'|h'
 ·simp[h'] at h⊢;exact h
 ·simp[Array.getElem?_eq_none h']
theorem zmk {listed:Array Bool} {i:Nat} (hi:i<listed.size)(h:listed.getD i true=true):listed.getD i false=true:=by
 simp[hi] at h⊢;exact h
theorem zgj {size n:Nat} (h:zrz ops size n=true) {j:Nat} {d:Tmp} (hj:j<n)(hd:zbl ops j=some d):
 d<size∧(∀i,i<n→i≠j→zbl ops i≠some d)∧ ∀i,i<n→d∈zgg ops i→(j<i∧zhg ops i j=true)∨(i<j∧zhg ops j i=true):=by
 unfold zrz at h
 have h1:=List.all_eq_true.1 h j (List.mem_range.2 hj)
 rw[hd] at h1
 simp only[Bool.and_eq_true,decide_eq_true_eq] at h1
 obtain⟨h2,h3⟩:=h1
 refine⟨h2,fun i hi hne he=> ?_,fun i hi hl=> ?_⟩
 ·have h4:=List.all_eq_true.1 h3 i (List.mem_range.2 hi)
  simp only[Bool.and_eq_true,Bool.or_eq_true,decide_eq_true_eq] at h4
  rcases h4.1 with h5|h5
  ·exact hne h5
  ·rw[he] at h5;simp at h5
 ·have h4:=List.all_eq_true.1 h3 i (List.mem_range.2 hi)
  simp only[Bool.and_eq_true,Bool.or_eq_true] at h4
  rcases h4.2 with h5|h5
  ·rw[zqk hl] at h5;simp at h5
  ·split at h5
   ·rename_i hlt;exact .inl ⟨hlt,h5⟩
   ·simp only[Bool.and_eq_true,decide_eq_true_eq] at h5;exact .inr h5
theorem Inv.slot {Vs:Nat→VP} {n size i:Nat} {listed:Array Bool} {a:Act} {w:World} (inv:Inv ops w0 a0 Vs n listed a w)(hB:zrz ops size n=true)
 (hi:i∈Region.ready .any ops listed) (hin:i<n) {t:Tmp} (ht:t∈zgg ops i):env a0 (accU ops Vs i) t (a.eval (.tmp t)) w:=by
 obtain⟨hun,o,ho,hall⟩:=mem_ready.1 hi
 by_cases hw: ∃j,j<n∧zbl ops j=some t
 ·obtain⟨j,hj,hd⟩:=hw
  obtain⟨_,hdist,hlk⟩:=zgj hB hj hd
  rcases hlk i hin ht with⟨hji,hwt⟩|⟨hij,hwt⟩
  ·obtain⟨o',ho',e,he,hb,hon⟩:=zee hwt
   rw[ho] at ho';cases ho'
   have hl:=hall e he hb
   rw[hon] at hl
   rw[env_some hd i hji fun k hk hkj=>hdist k (by omega) hkj]
   exact inv.done j t hj hd (zpj hl)
  ·obtain⟨o',ho',e,he,hb,hon⟩:=zee hwt
   have hnl:listed.getD j true=false:=by
    cases hl:listed.getD j true with
    |false=>rfl
    | true=>
     have hjs:j<listed.size:=by rw[inv.head.size];exact(Array.getElem?_eq_some_iff.1 ho').1
     have:=inv.head.closed j o' ho' (zmk hjs hl) e he hb
     rw[hon,getD_both hun] at this;cases this
   rw[env_none i fun k hk hk2=>hdist k (by omega) (by omega) hk2]
   exact inv.still t fun k hk hk2=>by
    by_cases hkj:k=j
    ·rw[hkj];exact hnl
    ·exact absurd hk2 (hdist k hk hkj)
 ·rw[env_none i fun k hk hk2=>hw ⟨k,by omega,hk2⟩]
  exact inv.still t fun k hk hk2=>absurd ⟨k,hk,hk2⟩ hw
theorem Act.eval_put_same {a:Act} {t:Tmp} {v:Value} (h:t<a.tmps.size):(a.put (some t) v).eval (.tmp t)=v:=by
 simp[Act.put,Act.eval,h]
theorem Act.size_put (a:Act)(d:Option Tmp)(v:Value):(a.put d v).tmps.size=a.tmps.size:=by cases d<;>simp[Act.put]
theorem Act.defers_put (a:Act)(d:Option Tmp)(v:Value):(a.put d v).defers=a.defers:=by cases d<;>rfl
theorem Inv.step {Vs:Nat→VP} {n i:Nat} {listed:Array Bool} {a:Act} {w w':World} {v:Value} (inv:Inv ops w0 a0 Vs n listed a w)(hB:zrz ops a0.tmps.size n=true)
 (hm: ∀j,j<n→Mono (Vs j)) (hi:i∈Region.ready .any ops listed) (hin:i<n) (hg:Grows w w') (hv:Vs i v w'):
 Inv ops w0 a0 Vs n (listed.setIfInBounds i true) (a.put (zbl ops i) v) w':=by
 have hun:=(mem_ready.1 hi).1
 refine⟨inv.head.set hi hin,inv.grows.trans hg,by rw[Act.defers_put];exact inv.defers,by rw[Act.size_put];exact inv.size,fun j t hj hd hl=> ?_,fun t h=> ?_⟩
 ·by_cases hji:j=i
  ·subst hji
   rw[hd,Act.eval_put_same (by rw[inv.size];exact(zgj hB hj hd).1)]
   exact hv
  ·rw[getD_set_ne true (Ne.symm hji)] at hl
   rw[Act.eval_put fun d h1 h2=>(zgj hB hj hd).2.1 i hin (Ne.symm hji) (by rw[h1];cases h2;rfl)]
   exact hm j hj _ _ _ hg (inv.done j t hj hd hl)
 ·have hne:zbl ops i≠some t:=fun he=>by
   have:=h i hin he
   have hs:i<listed.size:=by
    rcases Nat.lt_or_ge i listed.size with h'|h'
    ·exact h'
    ·simp[Array.getElem?_eq_none h'] at hun
   simp[hs] at this
  rw[Act.eval_put fun d h1 h2=>hne (by rw[h1];cases h2;rfl)]
  exact inv.still t fun j hj hd=>by
   have:=h j hj hd
   by_cases hji:j=i
   ·subst hji;exact absurd hd hne
   ·rwa[getD_set_ne true (Ne.symm hji)] at this
theorem end_of_inv {Vs:Nat→VP} {n:Nat} {a:Act} {w:World} (hB:zrz ops a0.tmps.size n=true)(hs:a.tmps.size=a0.tmps.size)(hd:a.defers=a0.defers)
 (done: ∀j t,j<n→zbl ops j=some t→Vs j (a.eval (.tmp t)) w) (still: ∀t,(∀j,j<n→zbl ops j≠some t)→a.eval (.tmp t)=a0.eval (.tmp t)) {K:Act→Prop}
 (h:EndAt w (accU ops Vs n) a0 K):K a:=by
 have key: ∀m,m≤n→ ∀(K:Act→Prop),EndAt w (accU ops Vs m) a0 K→ ∃b:Act,K b∧b.tmps.size=a0.tmps.size∧b.defers=a0.defers∧(∀j t,j<m→zbl ops j=some t→b.eval (.tmp t)=a.eval (.tmp t))∧
  (∀t,(∀j,j<m→zbl ops j≠some t)→b.eval (.tmp t)=a0.eval (.tmp t)):=by
  intro m
  induction m with
  |zero=>intro _ K h;exact⟨a0,h,rfl,rfl,fun j t hj=>absurd hj (Nat.not_lt_zero _),fun _ _=>rfl⟩
  | succ m ih=>
   intro hm K h
   simp only[accU] at h
   cases hdm:zbl ops m with
   | none=>
    rw[hdm] at h
    obtain⟨b,h1,h2,h3,h4,h5⟩:=ih (by omega) K h
    refine⟨b,h1,h2,h3,fun j t hj hd=> ?_,fun t hh=>h5 t fun j hj=>hh j (by omega)⟩
    by_cases hjm:j=m
    ·rw[hjm,hdm] at hd;cases hd
    ·exact h4 j t (by omega) hd
   | some d=>
    rw[hdm] at h
    simp only[accOf,EndAt] at h
    obtain⟨b,h1,h2,h3,h4,h5⟩:=ih (by omega) _ h
    have hsp:=zgj hB (show m<n by omega) hdm
    refine⟨b.put (some d) (a.eval (.tmp d)),h1 _ (done m d (by omega) hdm),by rw[Act.size_put];exact h2,by rw[Act.defers_put];exact h3,fun j t hj hd'=> ?_,fun t hh=> ?_⟩
    ·by_cases hjm:j=m
     ·rw[hjm,hdm] at hd';cases hd'
      exact Act.eval_put_same (by rw[h2];exact hsp.1)
     ·rw[Act.eval_put fun d' e1 e2=>by cases e1;cases e2;exact hsp.2.1 j (by omega) hjm hd']
      exact h4 j t (by omega) hd'
    ·rw[Act.eval_put fun d' e1 e2=>by cases e1;cases e2;exact hh m (by omega) hdm]
     exact h5 t fun j hj=>hh j (by omega)
 obtain⟨b,h1,h2,h3,h4,h5⟩:=key n (Nat.le_refl _) K h
 have:b=a:=by
  have et:b.tmps=a.tmps:=by
   apply Array.ext (by rw[h2,hs])
   intro t ht1 ht2
   have e:b.eval (.tmp t)=a.eval (.tmp t):=by
    by_cases hw: ∃j,j<n∧zbl ops j=some t
    ·obtain⟨j,hj,hd'⟩:=hw;exact h4 j t hj hd'
    ·rw[h5 t fun j hj he=>hw ⟨j,hj,he⟩,still t fun j hj he=>hw ⟨j,hj,he⟩]
   simpa[Act.eval,ht1,ht2] using e
  cases a;cases b;simp_all
 rw[←this];exact h1
end
theorem z4a {l:List Oper} {n j:Nat} (hj:j<(l.take n).length):(l.take n)[j]? =l.toArray[0+j]? :=by
 have:j<n:=by simp at hj;omega
 simp[this]
def Ret (v:Value)(w:World)(e:Ending)(w':World):Prop:=e= .returned v∧Ex w.heap.size w w'
def RetV (V:VP)(w:World)(e:Ending)(w':World):Prop:= ∃v,e= .returned v∧Ex w.heap.size w w'∧V v w'
theorem Ret.v {P:Program} {f:FuncId} {args:Array Value} {w:World} {v:Value} (h:Calls P f args w (Ret v w)):Calls P f args w (RetV (Is v) w):=h.mono fun _ _ h=>⟨v,h.1,h.2,rfl⟩
theorem zeq (w:World)(o:Obj)(n:Nat)(h:n=w.heap.size):(w.alloc o).heap[n]? =some o:=by subst h;exact heap_alloc_new w o
structure Grew (w w':World)(row:Option Nat):Prop extends w.grownBy w' row where
 drawn:drn w≤drn w'
def SlAt (n:Nat)(cs:List Value)(v:Value)(w:World):Prop:=
 (v= .slice none 0 0∧n=0∧cs=[])∨ ∃b o cap,v= .slice (some ⟨b,o,none⟩) n cap∧b<w.heap.size∧ ∀(i:Nat) (x:Value),cs[i]? =some x→w.cell? ⟨b,o+i,none⟩=some x
theorem SlAt.mono (n:Nat)(cs:List Value):Mono (SlAt n cs):=by
 rintro v w w' hg (⟨rfl,h1,h2⟩|⟨b,o,cap,rfl,hb,hc⟩)
 ·exact .inl ⟨rfl,h1,h2⟩
 ·exact .inr ⟨b,o,cap,rfl,Nat.lt_of_lt_of_le hb hg.size,fun i x hx=>(hg.toBelow.cell (p:=⟨b,o+i,none⟩) hb).trans (hc i x hx)⟩
section
variable {P:Program} {ops:Array Oper} {w0:World} {a0:Act} {fin:Acc→Prop} {o:Oper} {rest:List Oper} {acc:Acc}
abbrev Uses (w0:World)(a0:Act)(acc:Acc)(o:Oper)(ρ:Operand→Value)(W:World):Prop:=
 (∀v,ρ (.const v)=v)∧(∀f,ρ (.func f)= .func (.func f) #[] #[])∧Grows w0 W∧All (env a0 acc) ρ W (zef o.op.operands.toList)
end
end Go.Fwd
