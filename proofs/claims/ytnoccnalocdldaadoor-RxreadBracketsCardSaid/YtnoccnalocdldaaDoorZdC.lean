import Derived.Test.YtnoccnalocdldaaDoorZdBase
import Derived.Laws.BytesArg
import Derived.Laws.CopyRow
import Derived.OrdersIn
set_option linter.all false
namespace Go.Fwd
open Go Go.RowKit
section
variable {P:Program} {ops:Array Oper} {w0:World} {a0:Act} {fin:Acc→Prop} {o:Oper} {rest:List Oper} {acc:Acc}
abbrev Met (ops:Array Oper)(a0:Act)(acc:Acc)(o:Oper):Prop:=
 match o.guard with|none=>True|some (k,b)=> ∃d,zbl ops k=some d∧ ∀g W,env a0 acc d g W→g= .bool b
def PtrAt (cs:List Value)(v:Value)(w:World):Prop:= ∃b o,v= .pointer (some ⟨b,o,none⟩)∧b<w.heap.size∧ ∀(i:Nat) (x:Value),cs[i]? =some x→w.cell? ⟨b,o+i,none⟩=some x
theorem PtrAt.mono (cs:List Value):Mono (PtrAt cs):=by
 rintro v w w' hg ⟨b,o,rfl,hb,hc⟩
 exact⟨b,o,rfl,Nat.lt_of_lt_of_le hb hg.size,fun i x hx=>(hg.toBelow.cell (p:=⟨b,o+i,none⟩) hb).trans (hc i x hx)⟩
theorem SlAt.shape {n:Nat} {cs:List Value} {v:Value} {w:World} (h:SlAt n cs v w): ∃a cap,v= .slice a n cap∧(0<n→ ∃b o,a=some ⟨b,o,none⟩∧b<w.heap.size∧ ∀(i:Nat) (x:Value),cs[i]? =some x→w.cell? ⟨b,o+i,none⟩=some x):=by
 rcases h with⟨rfl,h1,h2⟩|⟨b,o,cap,rfl,hb,hc⟩
 ·subst h1;exact⟨none,0,rfl,fun h=>by omega⟩
 ·exact⟨_,cap,rfl,fun _=>⟨b,o,rfl,hb,hc⟩⟩
end
theorem endAt_all {w:World}: ∀ {acc:Acc} {a:Act} {K:Act→Prop},
 (∀a',a'.tmps.size=a.tmps.size→a'.defers=a.defers→(∀t,t<a.tmps.size→env a acc t (a'.eval (.tmp t)) w)→K a')→EndAt w acc a K
 |[],a,K,h=>h a rfl rfl fun _ _=>rfl
 | (d,V)::r,a,K,h=>by
  show EndAt w r a fun a'=> ∀v,V v w→K (a'.put (some d) v)
  refine endAt_all fun a' h1 h2 h3 v hv=>h _ (by simp[Act.put,h1]) (by simp[Act.put,h2]) fun t ht=> ?_
  simp only[env]
  by_cases hd:d=t
  ·rw[if_pos hd,hd]
   have:(a'.put (some t) v).eval (.tmp t)=v:=by simp[Act.put,Act.eval,h1,ht]
   rw[this];exact hv
  ·rw[if_neg hd]
   have:(a'.put (some d) v).eval (.tmp t)=a'.eval (.tmp t):=by simp[Act.put,Act.eval,Array.getElem?_setIfInBounds,hd]
   rw[this];exact h3 t ht
end Go.Fwd
namespace Go.Ab
open Go Go.RowKit Go.Fwd
inductive Room where
 |none|own (s:Nat)|full
 deriving DecidableEq,Inhabited
inductive AV where
 |raw (v:Value)
 |agg (cs:List AV)
 |tup (vs:List AV)
 |list (n:Nat) (cs:List AV) (st:Room)
 |ptr (s off:Nat)
 |bsl (s off n sz:Nat) (f:Bool)
 |iptr (cs:List AV)
 |clos (f:FuncId) (caps:List AV)
 |iter (xs:List (List AV))
 |yld (l:Nat)
 |top
 |bad
 deriving Inhabited
structure Row where
 block:Nat
 elem:TypeId
 size:Nat
 cap:Nat
structure Cx where
 F:Nat→Nat→Prop
 κ:List Nat
 β:List Row
 lens:List Nat
 w:World
 O:Nat→Prop
 C:Nat→Nat→Prop
structure IterP where
 it:Value→List (List AV)→Cx→Prop
 /-- What is known of package variables: cells that are never written. -/
 gv:(Nat→Nat→Prop)→World→Prop
def Bsl (X:Cx)(s off n sz:Nat)(f:Bool)(v:Value):Prop:=
 ∃b cap cur t,X.κ[s]? =some b∧v= .slice (some ⟨b,off,none⟩) n cap∧n≤cap∧(f=true→cap=n)∧X.w.heap[b]? =some (.cells cur t (0,0))∧off+cap*sz≤cur.size
mutual
def Rep (IT:IterP)(X:Cx):AV→Value→Prop
 | .raw u,v=>v=u
 | .agg cs,v=> ∃vs:List Value,v= .agg vs.toArray∧zbk IT X cs vs∧ ∀u∈vs,u.oneCell'=true
 | .tup cs,v=> ∃vs:List Value,v= .tuple vs.toArray∧zbk IT X cs vs
 | .list n cs st,v=> ∃a cap,v= .slice a n cap∧(n≤cap∧(a=none→cap=0))∧(cs=[]∨ ∃b o,a=some ⟨b,o,none⟩∧At IT X cs b o)∧
  (match st with
   | .none=>True
   | .full=>cap=n
   | .own s=> ∃L,X.lens[s]? =some L∧cs.length≤L∧(cs.length=L→ ∃r,X.β[s]? =some r∧a=some ⟨r.block,0,none⟩∧cap=r.cap∧cs.length=n*r.size))
 | .ptr s off,v=> ∃b,X.κ[s]? =some b∧v= .pointer (some ⟨b,off,none⟩)
 | .bsl s off n sz f,v=>Bsl X s off n sz f v
 | .iptr cs,v=> ∃b o,v= .pointer (some ⟨b,o,none⟩)∧At IT X cs b o
 | .clos f caps,v=> ∃vs:List Value,v= .func (.func f) #[] vs.toArray∧zbk IT X caps vs
 | .iter xs,v=>IT.it v xs X
 | .yld l,v=>v= .func (.yield l) #[] #[]
 | .top,_=>True
 | .bad,_=>False
def zbk (IT:IterP)(X:Cx):List AV→List Value→Prop
 |[],vs=>vs=[]
 |a::l,vs=> ∃v r,vs=v::r∧Rep IT X a v∧zbk IT X l r
def At (IT:IterP)(X:Cx):List AV→Nat→Nat→Prop
 |[],_,_=>True
 |c::cs,b,o=>(X.F b o∧ ∃v,X.w.cell? ⟨b,o,none⟩=some v∧v.oneCell'=true∧Rep IT X c v)∧At IT X cs b (o+1)
end
def Szs (W W':World):Prop:= ∀(k:Nat) (cs:Array Value) (t:TypeId) (f:Nat×Nat),W.heap[k]? =some (.cells cs t f)→ ∃cs' t' f',W'.heap[k]? =some (.cells cs' t' f')∧cs'.size=cs.size
theorem Szs.refl (W:World):Szs W W:=fun _ cs t f h=>⟨cs,t,f,h,rfl⟩
theorem Szs.trans {A B C:World} (h:Szs A B)(k:Szs B C):Szs A C:=fun i cs t f e=>by
 obtain⟨c1,t1,f1,e1,s1⟩:=h i cs t f e
 obtain⟨c2,t2,f2,e2,s2⟩:=k i c1 t1 f1 e1
 exact⟨c2,t2,f2,e2,s2.trans s1⟩
theorem Szs.eq {W W':World} (h:W'=W):Szs W W':=h▸Szs.refl _
theorem Szs.heap {W W':World} (h:W'.heap=W.heap):Szs W W':=fun k cs t f e=>⟨cs,t,f,by rw[h];exact e,rfl⟩
theorem Szs.old {W W':World} (h: ∀k,k<W.heap.size→W'.heap[k]? =W.heap[k]?):Szs W W':=fun k cs t f e=>⟨cs,t,f,(h k (Array.getElem?_eq_some_iff.1 e).1).trans e,rfl⟩
theorem Szs.one {W W':World} (b:Nat)(h: ∀k,k<W.heap.size→k≠b→W'.heap[k]? =W.heap[k]?)(hb: ∀cs t f,W.heap[b]? =some (.cells cs t f)→ ∃cs' t' f',W'.heap[b]? =some (.cells cs' t' f')∧cs'.size=cs.size):Szs W W':=fun k cs t f e=>by
 by_cases hk:k=b
 ·subst hk;exact hb cs t f e
 ·exact⟨cs,t,f,(h k (Array.getElem?_eq_some_iff.1 e).1 hk).trans e,rfl⟩
structure Sub (X X':Cx):Prop where
 F: ∀(b o:Nat),X.F b o→X'.F b o
 cell: ∀(b o:Nat),X.F b o→X'.w.cell? ⟨b,o,none⟩=X.w.cell? ⟨b,o,none⟩
 κ: ∀(s b:Nat),X.κ[s]? =some b→X'.κ[s]? =some b
 lens: ∀(s L:Nat),X.lens[s]? =some L→ ∃L',X'.lens[s]? =some L'∧L≤L'∧(L'=L→X'.β[s]? =X.β[s]?)
 blk: ∀(s b:Nat),X.κ[s]? =some b→ ∀(cur:Array Value) (t:TypeId) (f:Nat×Nat),X.w.heap[b]? =some (.cells cur t f)→ ∃cur',X'.w.heap[b]? =some (.cells cur' t f)∧cur'.size=cur.size
 szs:Szs X.w X'.w
theorem Bsl.sub {X X':Cx} (h:Sub X X') {s off n sz:Nat} {f:Bool} {v:Value} (hr:Bsl X s off n sz f v):Bsl X' s off n sz f v:=by
 obtain⟨b,cap,cur,t,h1,h2,h3,h4,h5,h6⟩:=hr
 obtain⟨cur',k1,k2⟩:=h.blk s b h1 cur t _ h5
 exact⟨b,cap,cur',t,h.κ s b h1,h2,h3,h4,k1,by omega⟩
theorem Bsl.mono {X Y:Cx} {s off n sz:Nat} {f:Bool} {v:Value} (hκ: ∀b,X.κ[s]? =some b→Y.κ[s]? =some b)(hw:Y.w=X.w)(hr:Bsl X s off n sz f v):Bsl Y s off n sz f v:=by
 obtain⟨b,cap,cur,t,h1,h2,h3,h4,h5,h6⟩:=hr
 exact⟨b,cap,cur,t,hκ b h1,h2,h3,h4,by rw[hw];exact h5,h6⟩
structure Ext (X X':Cx):Prop extends Sub X X' where
 os:X'.w.os=X.w.os
 tape:X'.w.tape=X.w.tape
 output:X'.w.output=X.w.output
 size:X.w.heap.size≤X'.w.heap.size
 drawn:drn X.w≤drn X'.w
 frame: ∀(b:Nat),b<X.w.heap.size→b∉X.κ→(∀r∈X.β,r.block≠b)→X'.w.heap[b]? =X.w.heap[b]?
 κnew: ∀b∈X'.κ,b∈X.κ∨X.w.heap.size≤b
 βnew: ∀r∈X'.β,(∃q∈X.β,q.block=r.block)∨X.w.heap.size≤r.block
 O:X'.O=X.O
 C:X'.C=X.C
 Fnew: ∀(b o:Nat),X'.F b o→X.F b o∨X.w.heap.size≤b∨(∃q∈X.β,q.block=b)∨b∈X.κ
theorem Ext.refl (X:Cx):Ext X X where
 os:=rfl
 tape:=rfl
 output:=rfl
 size:=Nat.le_refl _
 drawn:=Nat.le_refl _
 F:=fun _ _ h=>h
 cell:=fun _ _ _=>rfl
 κ:=fun _ _ h=>h
 lens:=fun s L h=>⟨L,h,Nat.le_refl _,fun _=>rfl⟩
 blk:=fun _ _ _ cur _ _ h=>⟨cur,h,rfl⟩
 szs:=Szs.refl _
 frame:=fun _ _ _ _=>rfl
 κnew:=fun _ h=> .inl h
 βnew:=fun r h=> .inl ⟨r,h,rfl⟩
 O:=rfl
 C:=rfl
 Fnew:=fun _ _ h=> .inl h
theorem Ext.trans {X Y Z:Cx} (h:Ext X Y)(k:Ext Y Z):Ext X Z where
 os:=k.os.trans h.os
 tape:=k.tape.trans h.tape
 output:=k.output.trans h.output
 size:=Nat.le_trans h.size k.size
 drawn:=Nat.le_trans h.drawn k.drawn
 F:=fun b o hf=>k.F b o (h.F b o hf)
 cell:=fun b o hf=>(k.cell b o (h.F b o hf)).trans (h.cell b o hf)
 κ:=fun s b hs=>k.κ s b (h.κ s b hs)
 lens:=fun s L hs=>by
  obtain⟨L1,h1,h2,h3⟩:=h.lens s L hs
  obtain⟨L2,k1,k2,k3⟩:=k.lens s L1 h1
  exact⟨L2,k1,Nat.le_trans h2 k2,fun e=>by
   have e1:L2=L1:=by omega
   have e2:L1=L:=by omega
   rw[k3 e1,h3 e2]⟩
 blk:=fun s b hs cur t f hc=>by
  obtain⟨c1,h1,h2⟩:=h.blk s b hs cur t f hc
  obtain⟨c2,k1,k2⟩:=k.blk s b (h.κ s b hs) c1 t f h1
  exact⟨c2,k1,k2.trans h2⟩
 szs:=h.szs.trans k.szs
 frame:=fun b hb hκ hβ=>by
  refine(k.frame b (Nat.lt_of_lt_of_le hb h.size) (fun hm=> ?_) (fun r hr e=> ?_)).trans (h.frame b hb hκ hβ)
  ·rcases h.κnew b hm with h1|h1
   ·exact hκ h1
   ·omega
  ·rcases h.βnew r hr with⟨q,hq,e'⟩|h1
   ·exact hβ q hq (e'.trans e)
   ·omega
 κnew:=fun b hb=>by
  rcases k.κnew b hb with h1|h1
  ·exact h.κnew b h1
  ·exact .inr (Nat.le_trans h.size h1)
 βnew:=fun r hr=>by
  rcases k.βnew r hr with⟨q,hq,e⟩|h1
  ·rcases h.βnew q hq with⟨p,hp,e'⟩|h2
   ·exact .inl ⟨p,hp,e'.trans e⟩
   ·exact .inr (e▸h2)
  ·exact .inr (Nat.le_trans h.size h1)
 O:=k.O.trans h.O
 C:=k.C.trans h.C
 Fnew:=fun b o hf=>by
  rcases k.Fnew b o hf with h1|h1|⟨q,hq,e⟩|h1
  ·exact h.Fnew b o h1
  ·exact .inr (.inl (Nat.le_trans h.size h1))
  ·rcases h.βnew q hq with⟨p,hp,e'⟩|h2
   ·exact .inr (.inr (.inl ⟨p,hp,e'.trans e⟩))
   ·exact .inr (.inl (e▸h2))
  ·rcases h.κnew b h1 with h2|h2
   ·exact .inr (.inr (.inr h2))
   ·exact .inr (.inl h2)
def errRows:List (List AV):=[List.replicate 9 .bad]
@[reducible] def AV.err:AV:= .iter errRows
structure ITMono (IT:IterP):Prop where
 it: ∀v xs X X',(∀b o,X.F b o→X'.F b o)→(∀b o,X.F b o→X'.w.cell? ⟨b,o,none⟩=X.w.cell? ⟨b,o,none⟩)→Szs X.w X'.w→IT.it v xs X→IT.it v xs X'
 gv: ∀F F' w w',(∀b o,F b o→F' b o)→(∀b o,F b o→w'.cell? ⟨b,o,none⟩=w.cell? ⟨b,o,none⟩)→Szs w w'→IT.gv F w→IT.gv F' w'
 err: ∀v X,IT.it v errRows X→ ∃t p,v= .iface t p
theorem qaf {IT:IterP} (hIT:ITMono IT) {X X':Cx} (h:Sub X X')(g:IT.gv X.F X.w):IT.gv X'.F X'.w:=hIT.gv _ _ _ _ h.F h.cell h.szs g
theorem qan {IT:IterP} (hIT:ITMono IT) {X X':Cx} (h:Ext X X')(g:IT.gv X.F X.w):IT.gv X'.F X'.w:=qaf hIT h.toSub g
mutual
theorem zht {IT:IterP} (hIT:ITMono IT) {X X':Cx} (h:Sub X X'): ∀(a:AV) (v:Value),Rep IT X a v→Rep IT X' a v
 | .raw u,v,hr=>hr
 | .agg cs,v,⟨vs,e,hr,h1⟩=>⟨vs,e,zbx hIT h cs vs hr,h1⟩
 | .tup cs,v,⟨vs,e,hr⟩=>⟨vs,e,zbx hIT h cs vs hr⟩
 | .list n cs st,v,⟨a,cap,e,hcap,hc,hs⟩=>by
  refine⟨a,cap,e,hcap,hc.imp id fun⟨b,o,e1,e2⟩=>⟨b,o,e1,z4v hIT h cs b o e2⟩,?_⟩
  cases st with
  |none=>trivial
  |full=>exact hs
  | own s=>
   obtain⟨L,h1,h2,h3⟩:=hs
   obtain⟨L',k1,k2,k3⟩:=h.lens s L h1
   refine⟨L',k1,Nat.le_trans h2 k2,fun e'=> ?_⟩
   obtain⟨r,r1,r2⟩:=h3 (by omega)
   exact⟨r,by rw[k3 (by omega)];exact r1,r2⟩
 | .ptr s off,v,⟨b,e1,e2⟩=>⟨b,h.κ s b e1,e2⟩
 | .bsl s off n sz f,v,hr=>hr.sub h
 | .iptr cs,v,⟨b,o,e,hc⟩=>⟨b,o,e,z4v hIT h cs b o hc⟩
 | .clos f caps,v,⟨vs,e,hr⟩=>⟨vs,e,zbx hIT h caps vs hr⟩
 | .iter xs,v,h2=>hIT.it _ _ _ _ h.F h.cell h.szs h2
 | .yld l,v,hr=>hr
 | .top,_,hr=>hr
 | .bad,_,hr=>hr
theorem zbx {IT:IterP} (hIT:ITMono IT) {X X':Cx} (h:Sub X X'): ∀(l:List AV) (vs:List Value),zbk IT X l vs→zbk IT X' l vs
 |[],_,hr=>hr
 |a::l,vs,⟨v,r,e,h1,h2⟩=>⟨v,r,e,zht hIT h a v h1,zbx hIT h l r h2⟩
theorem z4v {IT:IterP} (hIT:ITMono IT) {X X':Cx} (h:Sub X X'): ∀(cs:List AV) (b o:Nat),At IT X cs b o→At IT X' cs b o
 |[],_,_,_=>trivial
 |c::cs,b,o,⟨⟨hf,v,hv,h1,hr⟩,ht⟩=>⟨⟨h.F b o hf,v,(h.cell b o hf).trans hv,h1,zht hIT h c v hr⟩,z4v hIT h cs b (o+1) ht⟩
end
theorem zep {IT:IterP} (hIT:ITMono IT) {X X':Cx} (h:Ext X X')(a:AV)(v:Value):Rep IT X a v→Rep IT X' a v:=zht hIT h.toSub a v
theorem zaw {IT:IterP} (hIT:ITMono IT) {X X':Cx} (h:Ext X X')(l:List AV)(vs:List Value):zbk IT X l vs→zbk IT X' l vs:=zbx hIT h.toSub l vs
theorem z2s {IT:IterP} (hIT:ITMono IT) {X X':Cx} (h:Ext X X')(cs:List AV)(b o:Nat):At IT X cs b o→At IT X' cs b o:=z4v hIT h.toSub cs b o
structure St where
 boxes:List (TypeId×List AV)
 lens:List Nat
 elems:List TypeId
 out:Nat:=0
 stop:Bool:=false
 deriving Inhabited
structure Inv (IT:IterP)(σ:St)(X:Cx):Prop where
 lens:X.lens=σ.lens
 elems:X.β.map (·.elem)=σ.elems
 κlen:X.κ.length=σ.boxes.length
 κnd: ∀(s s' b:Nat),X.κ[s]? =some b→X.κ[s']? =some b→s≠s'→(∃t,σ.boxes[s]? =some (t,[]))∨(∃t,σ.boxes[s']? =some (t,[]))
 box: ∀(s b:Nat) (t:TypeId) (cs:List AV),X.κ[s]? =some b→σ.boxes[s]? =some (t,cs)→
  ∃vs zs:List Value,X.w.heap[b]? =some (.cells (vs++zs).toArray t (0,0))∧zbk IT X cs vs∧ ∀v∈vs,v.oneCell'=true
 κF: ∀(s b:Nat) (t:TypeId) (cs:List AV),X.κ[s]? =some b→σ.boxes[s]? =some (t,cs)→cs≠[]→ ∀o,¬X.F b o
 βlen:X.β.length=X.lens.length
 βnd:(X.β.map (·.block)).Nodup
 βκ: ∀r∈X.β,r.block∉X.κ
 row: ∀(s:Nat) (r:Row) (L:Nat),X.β[s]? =some r→X.lens[s]? =some L→ ∃cur fz,X.w.heap[r.block]? =some (.cells cur r.elem fz)∧cur.size=r.cap*r.size∧r.cap≤maxLen∧0<r.size∧L≤cur.size∧
  (∀o,X.F r.block o→o<L)∧fz.2≤L
 Ok: ∀(b:Nat),X.O b→(∃cs t f,X.w.heap[b]? =some (.cells cs t f))∧b∉X.κ∧(∀r∈X.β,r.block≠b)∧ ∀o,X.F b o→X.C b o
 Fcell: ∀(b o:Nat),X.F b o→ ∃v,X.w.cell? ⟨b,o,none⟩=some v
 gv:IT.gv X.F X.w:=by first|exact qan (by assumption) (by assumption) (Inv.gv (by assumption))|exact Inv.gv (by assumption)
def val? (P:Program) {α:Type}:Sem α→Option α
 | .pure a=>some a
 | .program k=>val? P (k P)
 | .mark _ k=>val? P k
 |_=>none
theorem val?_run {P:Program} {α:Type}: ∀(s:Sem α) (a:α),val? P s=some a→ ∀w,s.run P w= .ok a w:=by
 intro s
 induction s with
 |pure b=>intro a h w;simp[val?] at h;subst h;rfl
 |program k ih=>intro a h w;exact ih P a h w
 |mark m k ih=>intro a h w;exact ih a h w
 |_=>intro a h;cases h
theorem val?_bind {P:Program} {α β:Type} (s:Sem α)(f:α→Sem β):val? P (s.bind f)=(val? P s).bind fun a=>val? P (f a):=by
 induction s with
 |pure a=>rfl
 |program k ih=>exact ih P
 |mark m k ih=>exact ih
 |_=>rfl
def zih:Value→AV
 | .slice none 0 0=> .list 0 [] .full
 |v=> .raw v
def ziu:Value→AV
 | .agg cs=> .agg (cs.toList.map zih)
 |v=>zih v
def zgs:AV→Option Value
 | .raw v=>some v
 |_=>none
def zdg:List AV→Option (List Value)
 |[]=>some []
 |a::l=>match zgs a,zdg l with|some v,some r=>some (v::r)|_,_=>none
def zdi:AV→Option Value
 | .raw v=>some v
 | .agg cs=>(zdg cs).map fun vs=> .agg vs.toArray
 |_=>none
def cellsOf:AV→List AV
 | .agg cs=>cs
 |a=>[a]
def rd (P:Program)(t:TypeId)(cs:List AV):Option AV:=
 match P.underlying t,P.info? t with
 |some (.struct _),some i|some (.array _ _),some i=>if i.size≤cs.length then some (.agg (cs.take i.size)) else none
 |some _,some _=>cs.head?
 |_,_=>none
theorem zr {IT:IterP} {X:Cx}: ∀ {l:List AV} {vs:List Value},zbk IT X l vs→l.length=vs.length
 |[],vs,h=>by rw[zbk] at h;rw[h];rfl
 | a::l,vs,h=>by
  rw[zbk] at h
  obtain⟨v,r,e,_,h⟩:=h
  rw[e,List.length_cons,List.length_cons,zr h]
theorem zeg {IT:IterP} {X:Cx}: ∀ {l:List AV} {vs:List Value},zbk IT X l vs→ ∀(i:Nat) a,l[i]? =some a→ ∃v,vs[i]? =some v∧Rep IT X a v
 |[],vs,h,i,a,e=>by simp at e
 | b::l,vs,h,i,a,e=>by
  rw[zbk] at h
  obtain⟨v,r,rfl,h1,h2⟩:=h
  cases i with
  |zero=>simp at e;subst e;exact⟨v,rfl,h1⟩
  |succ i=>simp at e;simpa using zeg h2 i a e
theorem zfb {IT:IterP} {X:Cx}: ∀ {l:List AV} {vs:List Value},l.length=vs.length→(∀(i:Nat) a v,l[i]? =some a→vs[i]? =some v→Rep IT X a v)→zbk IT X l vs
 |[],vs,h,_=>by rw[zbk];exact List.length_eq_zero_iff.1 h.symm
 |b::l,[],h,_=>by simp at h
 | b::l,v::vs,h,k=>by
  rw[zbk]
  exact⟨v,vs,rfl,k 0 b v rfl rfl,zfb (by simpa using h) fun i a u h1 h2=>k (i+1) a u (by simpa using h1) (by simpa using h2)⟩
theorem zbn {IT:IterP} {X:Cx} {l m:List AV} {vs us:List Value} (h:zbk IT X l vs)(k:zbk IT X m us):zbk IT X (l++m) (vs++us):=by
 have hl:=zr h
 refine zfb (by simp[hl,zr k]) fun i a v h1 h2=> ?_
 rcases Nat.lt_or_ge i l.length with hi|hi
 ·rw[List.getElem?_append_left hi] at h1
  rw[List.getElem?_append_left (by omega)] at h2
  obtain⟨v',e,hr⟩:=zeg h i a h1
  rw[h2] at e;cases e;exact hr
 ·rw[List.getElem?_append_right hi] at h1
  rw[List.getElem?_append_right (by omega)] at h2
  rw[hl] at h1
  obtain⟨v',e,hr⟩:=zeg k _ a h1
  rw[h2] at e;cases e;exact hr
theorem zgo {IT:IterP} {X:Cx} {l:List AV} {vs:List Value} (h:zbk IT X l vs)(n:Nat):zbk IT X (l.drop n) (vs.drop n):=by
 refine zfb (by simp[zr h]) fun i a v h1 h2=> ?_
 rw[List.getElem?_drop] at h1 h2
 obtain⟨v',e,hr⟩:=zeg h _ a h1
 rw[h2] at e;cases e;exact hr
theorem zdz {IT:IterP} {X:Cx} {l:List AV} {vs:List Value} (h:zbk IT X l vs)(n:Nat):zbk IT X (l.take n) (vs.take n):=by
 refine zfb (by simp[zr h]) fun i a v h1 h2=> ?_
 rw[List.getElem?_take] at h1 h2
 split at h1
 ·rename_i hi
  rw[if_pos hi] at h2
  obtain⟨v',e,hr⟩:=zeg h _ a h1
  rw[h2] at e;cases e;exact hr
 ·cases h1
theorem ziq {IT:IterP} {X:Cx} (v:Value):Rep IT X (zih v) v:=by
 unfold zih
 split
 ·rw[Rep];exact⟨none,0,rfl,⟨Nat.le_refl _,fun _=>rfl⟩,.inl rfl,rfl⟩
 ·rw[Rep]
def zpp:Value→Bool
 | .agg cs=>cs.toList.all (·.oneCell')
 |_=>true
theorem zhk {IT:IterP} {X:Cx} (v:Value)(h:zpp v=true):Rep IT X (ziu v) v:=by
 unfold ziu
 split
 ·rename_i cs
  rw[Rep]
  refine⟨cs.toList,by simp,zfb (by simp) fun i a v h1 h2=> ?_,fun u hu=>by simpa using List.all_eq_true.1 h u hu⟩
  rw[List.getElem?_map,h2] at h1
  simp at h1;subst h1
  exact ziq v
 ·exact ziq _
theorem zqq {IT:IterP} {X:Cx}: ∀ {l:List AV} {us vs:List Value},zdg l=some us→zbk IT X l vs→vs=us
 |[],us,vs,h,k=>by rw[zbk] at k;simp[zdg] at h;rw[k,h]
 | a ::l,us,vs,h,k=>by
  rw[zbk] at k
  obtain⟨v,r,rfl,h1,h2⟩:=k
  cases a with
  | raw u=>
   simp only[zdg,zgs] at h
   cases hr:zdg l with
   |none=>rw[hr] at h;cases h
   | some us'=>
    rw[hr] at h
    simp at h
    rw[Rep] at h1
    rw[←h,h1,zqq hr h2]
  |_=>simp[zdg,zgs] at h
theorem zyv {IT:IterP} {X:Cx} {a:AV} {u v:Value} (h:zdi a=some u)(k:Rep IT X a v):v=u:=by
 cases a with
 |raw w=>simp[zdi] at h;rw[Rep] at k;rw[k,h]
 | agg cs=>
  simp only[zdi,Option.map_eq_some_iff] at h
  obtain⟨us,h1,rfl⟩:=h
  rw[Rep] at k
  obtain⟨vs,rfl,k2,_⟩:=k
  rw[zqq h1 k2]
 |_=>simp[zdi] at h
def z7y (IT:IterP)(X:Cx)(cs:List AV)(b o:Nat):Prop:=
 ∃vs:List Value,zbk IT X cs vs∧(∀v∈vs,v.oneCell'=true)∧ ∀(j:Nat) v,vs[j]? =some v→X.w.cell? ⟨b,o+j,none⟩=some v
theorem zft {IT:IterP} {X:Cx}: ∀ {cs:List AV} {b o:Nat},At IT X cs b o→z7y IT X cs b o
 |[],b,o,_=>⟨[],by rw[zbk],by simp,by simp⟩
 | c ::cs,b,o,h=>by
  rw[At] at h
  obtain⟨⟨hf,v,hv,h1,hr⟩,ht⟩:=h
  obtain⟨vs,k1,k2,k3⟩:=zft ht
  refine⟨v::vs,by rw[zbk];exact⟨v,vs,rfl,hr,k1⟩,fun u hu=> ?_,fun j u hj=> ?_⟩
  ·rcases List.mem_cons.1 hu with rfl|hu
   ·exact h1
   ·exact k2 u hu
  ·cases j with
   |zero=>simp at hj;subst hj;exact hv
   | succ j=>
    have:=k3 j u (by simpa using hj)
    rw[show o+(j+1)=o+1+j by omega];exact this
theorem zxv {IT:IterP} {X:Cx}: ∀ {cs:List AV} {b o:Nat} (n:Nat),At IT X cs b o→At IT X (cs.drop n) b (o+n)
 |cs,b,o,0,h=>by simpa using h
 |[],b,o,n+1,_=>by simp[At]
 | c::cs,b,o,n+1,h=>by
  rw[At] at h
  have:=zxv n h.2
  rw[List.drop_succ_cons,show o+(n+1)=o+1+n by omega];exact this
theorem zvm {IT:IterP} {X:Cx}: ∀ {cs:List AV} {b o:Nat} (n:Nat),At IT X cs b o→At IT X (cs.take n) b o
 |cs,b,o,0,h=>by simp[At]
 |[],b,o,n+1,_=>by simp[At]
 | c::cs,b,o,n+1,h=>by
  rw[At] at h
  rw[List.take_succ_cons,At]
  exact⟨h.1,zvm n h.2⟩
theorem z6w {IT:IterP} {X:Cx} {cs:List AV} {b o:Nat} (h:z7y IT X cs b o)(n:Nat):z7y IT X (cs.drop n) b (o+n):=by
 obtain⟨vs,k1,k2,k3⟩:=h
 refine⟨vs.drop n,zgo k1 n,fun v hv=>k2 v (List.mem_of_mem_drop hv),fun j v hj=> ?_⟩
 rw[List.getElem?_drop] at hj
 rw[Nat.add_assoc];exact k3 _ v hj
theorem ziw {P:Program} {t:TypeId} {d:TypeDesc} (h:P.underlying t=some d)(w:World):(isAgg t).run P w= .ok (match d with| .struct _| .array _ _=>true|_=>false) w:=by
 unfold isAgg underlying
 cases d<;>simp[program,Sem.run,h]
theorem zjb {P:Program} {t:TypeId} {i:TypeInfo} (h:P.info? t=some i)(w:World):(sizeOf t).run P w= .ok i.size w:=by
 unfold sizeOf typeInfo
 simp[program,Sem.run,h]
theorem zut {IT:IterP} {P:Program} {X:Cx} {t:TypeId} {cs:List AV} {a:AV} {b o:Nat} (h:rd P t cs=some a)(hc:z7y IT X cs b o):
 ∃v,(loadVar t ⟨b,o,none⟩).run P X.w= .ok v X.w∧Rep IT X a v:=by
 obtain⟨vs,k1,k2,k3⟩:=hc
 have hadd: ∀j,(⟨b,o,none⟩:Addr).add j=⟨b,o+j,none⟩:=fun j=>by unfold Addr.add;split<;>simp_all
 unfold rd at h
 cases hu:P.underlying t with
 |none=>rw[hu] at h;cases P.info? t<;>simp at h
 | some d=>
  cases hi:P.info? t with
  |none=>rw[hu,hi] at h;cases d<;>simp at h
  | some i=>
   rw[hu,hi] at h
   have agg:(if i.size≤cs.length then some (AV.agg (cs.take i.size)) else none)=some a→((loadCells ⟨b,o,none⟩ i.size).run P X.w= .ok (vs.take i.size).toArray X.w)∧Rep IT X a (.agg (vs.take i.size).toArray):=by
    intro h
    split at h
    ·rename_i hle
     simp at h;subst h
     have hl:=zr k1
     have hlen:(vs.take i.size).length=i.size:=by simp;omega
     refine⟨?_,?_⟩
     ·have:=run_loadCells_list (P:=P) X.w ⟨b,o,none⟩ (vs.take i.size) (fun j v hj=>by
       rw[hadd]
       rw[List.getElem?_take] at hj
       split at hj
       ·exact k3 j v hj
       ·cases hj)
      rw[hlen] at this;exact this
     ·rw[Rep]
      exact⟨_,rfl,zdz k1 _,fun u hu=>k2 u (List.mem_of_mem_take hu)⟩
    ·cases h
   have one:cs.head? =some a→ ∃v,(load ⟨b,o,none⟩).run P X.w= .ok v X.w∧Rep IT X a v:=by
    intro h
    have h0:cs[0]? =some a:=by rw[←List.head?_eq_getElem?];exact h
    obtain⟨v,hv,hr⟩:=zeg k1 0 a h0
    have:=k3 0 v hv
    refine⟨v,?_,hr⟩
    simp only[Nat.add_zero] at this
    simp[load,Sem.run,this]
   unfold loadVar
   cases d with
   | struct fs=>
    obtain⟨h1,h2⟩:=agg h
    exact⟨_,by simp[ziw hu,zjb hi,h1],h2⟩
   | array n e=>
    obtain⟨h1,h2⟩:=agg h
    exact⟨_,by simp[ziw hu,zjb hi,h1],h2⟩
   | _=>
    obtain⟨v,h1,h2⟩:=one h
    exact⟨v,by simp only[Sem.run_bind,ziw hu,Result.andThen_ok,Bool.false_eq_true,if_false,h1],h2⟩
def Res (IT:IterP)(X:Cx)(σ':St)(a:AV)(r:Result Next):Prop:=
 ∃v X',(r= .ok (.value v) X'.w∨(r= .ok .skip X'.w∧v=undef))∧Ext X X'∧Inv IT σ' X'∧Rep IT X' a v
def zbt (ρ:Operand→AV)(x:Operand):Value:=(zdi (ρ x)).getD undef
def zfj (P:Program)(ρ:Operand→AV)(o:Oper):Option AV:=
 if o.op.operands.toList.all (fun x=>(zdi (ρ x)).isSome) then
  match o.op with
  | .select _ _=>none
  | _=>match val? P (execOp (zbt ρ) o) with
   |some (.value v)=>if zpp v then some (ziu v) else none
   |_=>none
 else none
theorem zfh (b o n:Nat):(⟨b,o,none⟩:Addr).add n=⟨b,o+n,none⟩:=by unfold Addr.add;split<;>simp_all
def zlb (P:Program)(σ:St)(t:TypeId):AV→Option AV
 | .iptr cs=>rd P t cs
 | .ptr s off=>match σ.boxes[s]? with|some bx=>rd P t (bx.2.drop off)|none=>none
 |_=>none
theorem zob {IT:IterP} {X:Cx} {σ:St} (hI:Inv IT σ X) {s b:Nat} {bx:TypeId×List AV} (hs:X.κ[s]? =some b)(hb:σ.boxes[s]? =some bx)(off:Nat):z7y IT X (bx.2.drop off) b off:=by
 obtain⟨vs,zs,h1,h2,h3⟩:=hI.box s b bx.1 bx.2 hs hb
 have:z7y IT X bx.2 b 0:=⟨vs,h2,h3,fun j v hj=>by
  rw[Nat.zero_add,cell_of_row _ _ _ _ _ _ h1]
  have:=(List.getElem?_eq_some_iff.1 hj).1
  rw[List.getElem?_toArray,List.getElem?_append_left this];exact hj⟩
 have:=z6w this off
 rwa[Nat.zero_add] at this
theorem zsb {IT:IterP} {P:Program} {X:Cx} {σ:St} {t:TypeId} {x a:AV} {u:Value} (h:zlb P σ t x=some a)(hx:Rep IT X x u)(hI:Inv IT σ X):
 ∃v,(Instr.loadAt t u).run P X.w= .ok v X.w∧Rep IT X a v:=by
 cases x with
 | iptr cs=>
  rw[Rep] at hx
  obtain⟨b,o,rfl,hat⟩:=hx
  obtain⟨v,h1,h2⟩:=zut (b:=b) (o:=o) h (zft hat)
  exact⟨v,by simp[Instr.loadAt,Instr.sureAddr,h1],h2⟩
 | ptr s off=>
  rw[Rep] at hx
  obtain⟨b,hb,rfl⟩:=hx
  simp only[zlb] at h
  cases hs:σ.boxes[s]? with
  |none=>rw[hs] at h;cases h
  | some bx=>
   rw[hs] at h
   obtain⟨v,h1,h2⟩:=zut (b:=b) (o:=off) h (zob hI hb hs off)
   exact⟨v,by simp[Instr.loadAt,Instr.sureAddr,h1],h2⟩
 |_=>cases h
def z7a (n:Nat):AV→Option AV
 | .ptr s off=>some (.ptr s (off+n))
 | .iptr cs=>some (.iptr (cs.drop n))
 |_=>none
theorem zss {IT:IterP} {X:Cx} {n:Nat} {x a:AV} {u:Value} (h:z7a n x=some a)(hx:Rep IT X x u): ∃ad,u= .pointer (some ad)∧Rep IT X a (.pointer (some (ad.add n))):=by
 cases x with
 | iptr cs=>
  rw[Rep] at hx
  obtain⟨b,o,rfl,hat⟩:=hx
  simp[z7a] at h;subst h
  refine⟨_,rfl,?_⟩
  rw[Rep]
  exact⟨b,o+n,by rw[zfh],zxv n hat⟩
 | ptr s off=>
  rw[Rep] at hx
  obtain⟨b,hb,rfl⟩:=hx
  simp[z7a] at h;subst h
  refine⟨_,rfl,?_⟩
  rw[Rep]
  exact⟨b,hb,by rw[zfh]⟩
 |_=>cases h
def zdk (P:Program)(t:TypeId):Option Nat:=(P.info? t).map (·.size)
theorem zea {P:Program} {t:TypeId} {n:Nat} (h:zdk P t=some n)(w:World):(sizeOf t).run P w= .ok n w:=by
 unfold zdk at h
 cases hi:P.info? t with
 |none=>simp[hi] at h
 |some i=>simp[hi] at h;rw[zjb hi,h]
def zon (P:Program)(t:TypeId)(f:Nat)(x:AV):Option AV:=
 match P.underlying t with
 | some (.struct fs)=>match fs[f]? with
  | some fd=>match zdk P fd.type with
   |some n=>if n=0 then none else z7a fd.offset x
   |none=>none
  |none=>none
 |_=>none
theorem zqs {IT:IterP} {P:Program} {X:Cx} {t:TypeId} {f:Nat} {x a:AV} {u:Value} (h:zon P t f x=some a)(hx:Rep IT X x u):
 ∃v,(Instr.fieldAt t u f).run P X.w= .ok v X.w∧Rep IT X a v:=by
 unfold zon at h
 split at h<;>try cases h
 rename_i fs hu
 split at h<;>try cases h
 rename_i fd hf
 split at h<;>try cases h
 rename_i n hn
 split at h
 ·cases h
 rename_i h0
 obtain⟨ad,rfl,hr⟩:=zss h hx
 refine⟨_,?_,hr⟩
 simp[Instr.fieldAt,underlying,program,Sem.run,hu,hf,Instr.sureAddr,fieldPlace,zea hn,h0]
def zhd (P:Program)(t:TypeId)(x i:AV):Option AV:=
 match i with
 | .raw (.int k n)=>match P.underlying t with
  | some (.array len e)=>match zdk P e with
   |some sz=>if 0≤n∧n<len then z7a (n.toNat*sz) x else none
   |none=>none
  | some (.slice e)=>match zdk P e,x with
   |some sz,.list len cs _=>if 0≤n∧n<len∧cs≠[] then some (.iptr (cs.drop (n.toNat*sz))) else none
   |some sz,.bsl s off len _ _=>if 0≤n∧n<len then some (.ptr s (off+n.toNat*sz)) else none
   |_,_=>none
  |_=>none
 |_=>none
theorem zqw {IT:IterP} {P:Program} {X:Cx} {t:TypeId} {x i a:AV} {u j:Value} (h:zhd P t x i=some a)(hx:Rep IT X x u)(hi:Rep IT X i j):
 ∃v,(Instr.indexAt t u j).run P X.w= .ok v X.w∧Rep IT X a v:=by
 unfold zhd at h
 split at h<;>try cases h
 rename_i k n
 rw[Rep] at hi;subst hi
 split at h<;>try cases h
 ·rename_i len e hu
  split at h<;>try cases h
  rename_i sz hn
  split at h
  ·rename_i hb
   obtain⟨ad,rfl,hr⟩:=zss h hx
   refine⟨_,?_,hr⟩
   simp[Instr.indexAt,asIntOf,underlying,program,Sem.run,hu,Instr.sureAddr,zea hn,hb]
  ·cases h
 ·rename_i e hu
  split at h<;>try cases h
  ·rename_i sz len cs st hn
   split at h
   ·rename_i hb
    cases h
    rw[Rep] at hx
    obtain⟨ad,cap,rfl,_,hc,_⟩:=hx
    rcases hc with hc|⟨b,o,rfl,hat⟩
    ·exact absurd hc hb.2.2
    ·refine⟨.pointer (some ((⟨b,o,none⟩:Addr).add (n.toNat*sz))),?_,?_⟩
     ·simp[Instr.indexAt,asIntOf,underlying,program,Sem.run,hu,zea hn,hb.1,hb.2.1]
     ·rw[Rep]
      exact⟨b,o+n.toNat*sz,by rw[zfh],zxv _ hat⟩
   ·cases h
  ·rename_i sz s off len sz' f hn
   split at h
   ·rename_i hb
    cases h
    rw[Rep] at hx
    obtain⟨b,cap,cur,t0,hk,rfl,_⟩:=hx
    refine⟨.pointer (some ((⟨b,off,none⟩:Addr).add (n.toNat*sz))),?_,?_⟩
    ·simp[Instr.indexAt,asIntOf,underlying,program,Sem.run,hu,zea hn,hb.1,hb.2]
    ·rw[Rep]
     exact⟨b,hk,by rw[zfh]⟩
   ·cases h
def qeq (P:Program)(t:TypeId)(cs:List AV)(off:Nat):Option AV:=rd P t (cs.drop off)
theorem zvj {IT:IterP} {P:Program} {X:Cx} {t:TypeId} {cs:List AV} {off:Nat} {a:AV} {vs:List Value} (h:qeq P t cs off=some a)(hr:zbk IT X cs vs)(h1: ∀v∈vs,v.oneCell'=true):
 ∃v,(part t vs.toArray off).run P X.w= .ok v X.w∧Rep IT X a v:=by
 unfold qeq rd at h
 have hd:=zgo hr off
 cases hu:P.underlying t with
 |none=>rw[hu] at h;cases P.info? t<;>simp at h
 | some d=>
  cases hi:P.info? t with
  |none=>rw[hu,hi] at h;cases d<;>simp at h
  | some i=>
   rw[hu,hi] at h
   have agg:(if i.size≤(cs.drop off).length then some (AV.agg ((cs.drop off).take i.size)) else none)=some a→Rep IT X a (.agg (vs.toArray.extract off (off+i.size))):=by
    intro h
    split at h
    ·cases h
     rw[Rep]
     refine⟨(vs.drop off).take i.size,?_,zdz hd _,fun u hu=>h1 u (List.mem_of_mem_drop (List.mem_of_mem_take hu))⟩
     congr 1
     apply Array.ext'
     simp[List.extract_eq_take_drop]
    ·cases h
   unfold part
   cases d with
   |struct fs=>exact⟨_,by simp[ziw hu,zjb hi],agg h⟩
   |array n e=>exact⟨_,by simp[ziw hu,zjb hi],agg h⟩
   | _=>
    simp only[List.head?_drop] at h
    obtain⟨v,hv,hr'⟩:=zeg hr off a h
    refine⟨v,?_,hr'⟩
    have:vs.toArray[off]? =some v:=by simpa using hv
    simp only[Sem.run_bind,ziw hu,Result.andThen_ok,Bool.false_eq_true,if_false,this,Sem.run_pure]
def z9d (P:Program)(t:TypeId)(f:Nat):AV→Option AV
 | .agg cs=>match P.underlying t with
  | some (.struct fs)=>match fs[f]? with
   |some fd=>qeq P fd.type cs fd.offset
   |none=>none
  |_=>none
 |_=>none
theorem zys {IT:IterP} {P:Program} {X:Cx} {t:TypeId} {f:Nat} {x a:AV} {u:Value} (h:z9d P t f x=some a)(hx:Rep IT X x u):
 ∃v,(Instr.field t u f).run P X.w= .ok v X.w∧Rep IT X a v:=by
 cases x with
 | agg cs=>
  rw[Rep] at hx
  obtain⟨vs,rfl,hr,h1⟩:=hx
  simp only[z9d] at h
  split at h<;>try cases h
  rename_i fs hu
  split at h<;>try cases h
  rename_i fd hf
  obtain⟨v,k1,k2⟩:=zvj h hr h1
  exact⟨v,by simp[Instr.field,underlying,program,Sem.run,hu,hf,asAgg,k1],k2⟩
 |_=>cases h
def qbi (P:Program)(t:TypeId)(x i:AV):Option AV:=
 match i,x with
 | .raw (.int k n),.agg cs=>match P.underlying t with
  | some (.array len e)=>match zdk P e with
   |some sz=>if 0≤n∧n<len then qeq P e cs (n.toNat*sz) else none
   |none=>none
  |_=>none
 |_,_=>none
theorem z1b {IT:IterP} {P:Program} {X:Cx} {t:TypeId} {x i a:AV} {u j:Value} (h:qbi P t x i=some a)(hx:Rep IT X x u)(hi:Rep IT X i j):
 ∃v,(Instr.index t u j).run P X.w= .ok v X.w∧Rep IT X a v:=by
 unfold qbi at h
 split at h<;>try cases h
 rename_i k n cs
 rw[Rep] at hi;subst hi
 rw[Rep] at hx
 obtain⟨vs,rfl,hr,h1⟩:=hx
 split at h<;>try cases h
 rename_i len e hu
 split at h<;>try cases h
 rename_i sz hn
 split at h
 ·rename_i hb
  obtain⟨v,k1,k2⟩:=zvj h hr h1
  exact⟨v,by simp[Instr.index,asIntOf,underlying,program,Sem.run,hu,zea hn,hb,k1],k2⟩
 ·cases h
end Go.Ab
