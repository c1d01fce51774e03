import Derived.Test.YtjkcellkmmfkdaaGreatDoorZdI
set_option linter.all false
open Nat (le_refl lt_or_ge)
open Option (getD_some)
open List (mem_of_getElem? getElem?_append_left mem_append all_eq_true mem_cons getElem?_set_ne getElem?_set_self length_set)
namespace Go.FwdG
open Go Go.RowKit Go.Fwd
variable {n:Nat} {Q:Exit->Act->World->Prop}
structure Gh where
 Γ:Type
 π:Γ->World
 Le:Γ->Γ->Prop
 refl: ∀x,Le x x
 trans: ∀x y z,Le x y->Le y z->Le x z
abbrev VP (G:Gh):=Value->G.Γ->Prop
def Mono {G:Gh} (V:VP G):Prop:= ∀v w w',G.Le w w'->V v w->V v w'
def Is {G:Gh} (e:Value):VP G:=fun v _=>v=e
abbrev Acc (G:Gh):=List (Tmp×VP G)
def env {G:Gh} (a0:Act):Acc G->Tmp->VP G
 |[],t=>Is (a0.eval (.tmp t))
 |(d,V)::r,t=>if d=t then V else env a0 r t
def OpGood {G:Gh} (P:Program)(V:VP G)(w:G.Γ):Result Next->Prop
 | .ok (.value v) w'=> ∃x,G.π x=w'/\ G.Le w x/\ V v x
 | .ok .skip w'=> ∃x,G.π x=w'/\ G.Le w x/\ V undef x
 | .ok (.enter f args) w'=>Calls P f args w' fun e w''=> ∃v,e= .returned v/\ ∃x,G.π x=w''/\ G.Le w x/\ V v x
 |_=>False
def All {G:Gh} (E:Tmp->VP G)(ρ:Operand->Value)(w:G.Γ):List Tmp->Prop
 |[]=>True
 |t::r=>E t (ρ (.tmp t)) w/\ All E ρ w r
theorem qiw {G:Gh} {E:Tmp->VP G} {ρ:Operand->Value} {w:G.Γ}: ∀ {l:List Tmp},(∀t∈l,E t (ρ (.tmp t)) w)->All E ρ w l
 |[],_=>trivial
 |t::_,h=>⟨h t (by simp),qiw fun u hu=>h u (by simp[hu])⟩
def qcx {G:Gh} (P:Program)(ops:Array Oper)(w0:G.Γ)(a0:Act)(acc:Acc G)(V:VP G)(o:Oper):Prop:=
 ∀ (ρ:Operand->Value) (w:G.Γ),Env ρ->G.Le w0 w->All (env a0 acc) ρ w (zgn o.op.operands.toList)->
  match o.guard with
  |none=>OpGood P V w ((execOp ρ o).run P (G.π w))
  |some (k,b)=> ∃d,zbm ops k=some d/\ ∀g,env a0 acc d g w->(g= .bool b->OpGood P V w ((execOp ρ o).run P (G.π w)))/\ (g≠ .bool b->V undef w)
def accOf {G:Gh} (acc:Acc G)(d:Option Tmp)(V:VP G):Acc G:=match d with|some t=>(t,V)::acc|none=>acc
def FwdGo {G:Gh} (P:Program)(ops:Array Oper)(w0:G.Γ)(a0:Act)(fin:Acc G->Prop):List Oper->Acc G->Prop
 |[],acc=>fin acc
 |o::rest,acc=> ∃V,Mono V/\ qcx P ops w0 a0 acc V o/\ FwdGo P ops w0 a0 fin rest (accOf acc o.dst V)
def EndAt {G:Gh} (w:G.Γ):Acc G->Act->(Act->Prop)->Prop
 |[],a,K=>K a
 |(d,V)::r,a,K=>EndAt w r a fun a'=> ∀v,V v w->K (a'.put (some d) v)
section
variable {G:Gh} {F:Fence} {nn:Nat} {P:Program} {ops:Array Oper} {w0:G.Γ} {a0:Act} {md:Region.Mode}
def accU (ops:Array Oper)(Vs:Nat->VP G):Nat->Acc G
 |0=>[]
 |i+1=>accOf (accU ops Vs i) (zbm ops i) (Vs i)
theorem zuq {fin:Acc G->Prop}: ∀(l:List Oper) (k:Nat) (Vs:Nat->VP G),(∀j,j<l.length->l[j]? =ops[k+j]?)->
 FwdGo P ops w0 a0 fin l (accU ops Vs k)->
 ∃Ws:Nat->VP G,(∀i,i<k->Ws i=Vs i)/\ (∀i,k<=i->i<k+l.length->Mono (Ws i)/\ ∀o,ops[i]? =some o->qcx P ops w0 a0 (accU ops Ws i) (Ws i) o)/\ fin (accU ops Ws (k+l.length))
 |[],k,Vs,_,h=>⟨Vs,fun _ _=>rfl,fun i h1 h2=>by simp at h2;omega,h⟩
 | o::l,k,Vs,hl,⟨V,hm,hs,hgo⟩=>by
  have h0:ops[k]? =some o:=by simpa using(hl 0 (by simp)).symm
  have eU: ∀(A B:Nat->VP G) m,(∀i,i<m->A i=B i)->accU ops A m=accU ops B m:=by
   intro A B m;induction m with
   |zero=>intro _;rfl
   |succ m ih=>intro h;simp only[accU,ih (fun i hi=>h i (by omega)),h m (by omega)]
  let Vs':Nat->VP G:=fun i=>if i=k then V else Vs i
  have e1:accU ops Vs' k=accU ops Vs k:=eU _ _ _ fun i hi=>by simp[Vs',Nat.ne_of_lt hi]
  have e2:accU ops Vs' (k+1)=accOf (accU ops Vs k) o.dst V:=by
   simp only[accU,e1,zbm,h0,Option.bind_some];simp[Vs']
  obtain⟨Ws,hw1,hw2,hw3⟩:=zuq l (k+1) Vs' (fun j hj=>by have:=hl (j+1) (by simp;omega);simpa[Nat.add_assoc,Nat.add_comm 1 j] using this) (by rw[e2];exact hgo);have hk:Ws k=V:=by rw[hw1 k (by omega)];simp[Vs']
  have hsame: ∀i,i<k->Ws i=Vs i:=fun i hi=>by rw[hw1 i (by omega)];simp[Vs',Nat.ne_of_lt hi]
  refine⟨Ws,hsame,fun i h1 h2=> ?_,by rw[show k+(o::l).length=k+1+l.length by simp;omega];exact hw3⟩;by_cases hik:i=k
  ·subst hik;rw[hk,eU Ws Vs i hsame];exact⟨hm,fun o' ho'=>by rw[h0] at ho';cases ho';exact hs⟩
  ·exact hw2 i (by omega) (by simp at h2;omega)
theorem env_none {Vs:Nat->VP G} {t:Tmp}: ∀i,(∀j,j<i->zbm ops j≠some t)->env a0 (accU ops Vs i) t=Is (a0.eval (.tmp t))
 |0,_=>rfl
 | i+1,h=>by
  simp only[accU];cases hd:zbm ops i with
  |none=>simp only[accOf];exact env_none i fun j hj=>h j (by omega)
  | some d=>
   have:d≠t:=fun e=>h i (by omega) (by rw[hd,e]);simp only[accOf,env,if_neg this];exact env_none i fun j hj=>h j (by omega)
theorem env_some {Vs:Nat->VP G} {t:Tmp} {j:Nat} (hd:zbm ops j=some t): ∀i,j<i->(∀k,k<i->k≠j->zbm ops k≠some t)->env a0 (accU ops Vs i) t=Vs j
 |0,h,_=>absurd h (Nat.not_lt_zero _)
 | i +1,h,hne=>by
  simp only[accU];by_cases hij:j=i
  ·subst hij;simp[hd,accOf,env]
  ·cases hd':zbm ops i with
   |none=>simp only[accOf];exact env_some hd i (by omega) fun k hk hkj=>hne k (by omega) hkj
   | some d=>
    have:d≠t:=fun e=>hne i (by omega) (by omega) (by rw[hd',e]);simp only[accOf,env,if_neg this];exact env_some hd i (by omega) fun k hk hkj=>hne k (by omega) hkj
structure Inv (ops:Array Oper)(w0:G.Γ)(a0:Act)(Vs:Nat->VP G)(n:Nat)(listed:Array Bool)(a:Act)(w:G.Γ):Prop where
 head:HeadInv .any ops n listed
 grows:G.Le w0 w
 defers:a.defers=a0.defers
 size:a.tmps.size=a0.tmps.size
 done: ∀j t,j<n->zbm ops j=some t->listed.getD j true=true->Vs j (a.eval (.tmp t)) w
 still: ∀t,(∀j,j<n->zbm ops j=some t->listed.getD j true=false)->a.eval (.tmp t)=a0.eval (.tmp t)
theorem Inv.slot {Vs:Nat->VP G} {size i:Nat} {listed:Array Bool} {a:Act} {w:G.Γ} (inv:Inv ops w0 a0 Vs n listed a w)(hB:zzv ops size n=true)
 (hi:i∈Region.ready .any ops listed) (hin:i<n) {t:Tmp} (ht:t∈zfv ops i):env a0 (accU ops Vs i) t (a.eval (.tmp t)) w:=by
 obtain⟨hun,o,ho,hall⟩:=mem_ready.1 hi;by_cases hw: ∃j,j<n/\ zbm ops j=some t
 ·obtain⟨j,hj,hd⟩:=hw;obtain⟨_,hdist,hlk⟩:=zim hB hj hd;rcases hlk i hin ht with⟨hji,hwt⟩|⟨hij,hwt⟩
  ·obtain⟨o',ho',e,he,hb,hon⟩:=zdt hwt;rw[ho] at ho';cases ho';have hl:=hall e he hb;rw[hon] at hl;rw[env_some hd i hji fun k hk hkj=>hdist k (by omega) hkj];exact inv.done j t hj hd (zsb hl)
  ·obtain⟨o',ho',e,he,hb,hon⟩:=zdt hwt;have hnl:listed.getD j true=false:=by
    cases hl:listed.getD j true with
    |false=>rfl
    | true=>
     have hjs:j<listed.size:=by rw[inv.head.size];exact(Array.getElem?_eq_some_iff.1 ho').1
     have:=inv.head.closed j o' ho' (zsy hjs hl) e he hb;rw[hon,getD_both hun] at this;cases this
   rw[env_none i fun k hk hk2=>hdist k (by omega) (by omega) hk2];exact inv.still t fun k hk hk2=>by
    by_cases hkj:k=j
    ·rw[hkj];exact hnl
    ·exact absurd hk2 (hdist k hk hkj)
 ·rw[env_none i fun k hk hk2=>hw ⟨k,by omega,hk2⟩];exact inv.still t fun k hk hk2=>absurd ⟨k,hk,hk2⟩ hw
theorem Inv.step {Vs:Nat->VP G} {i:Nat} {listed:Array Bool} {a:Act} {w w':G.Γ} {v:Value} (inv:Inv ops w0 a0 Vs n listed a w)(hB:zzv ops a0.tmps.size n=true)
 (hm: ∀j,j<n->Mono (Vs j)) (hi:i∈Region.ready .any ops listed) (hin:i<n) (hg:G.Le w w') (hv:Vs i v w'):
 Inv ops w0 a0 Vs n (listed.setIfInBounds i true) (a.put (zbm ops i) v) w':=by
 have hun:=(mem_ready.1 hi).1;refine⟨inv.head.set hi hin,G.trans _ _ _ inv.grows hg,by rw[Act.defers_put];exact inv.defers,by rw[Act.size_put];exact inv.size,fun j t hj hd hl=> ?_,fun t h=> ?_⟩
 ·by_cases hji:j=i
  ·subst hji;rw[hd,Act.eval_put_same (by rw[inv.size];exact(zim hB hj hd).1)];exact hv
  ·rw[getD_set_ne true (Ne.symm hji)] at hl;rw[Act.eval_put fun d h1 h2=>(zim hB hj hd).2.1 i hin (Ne.symm hji) (by rw[h1];cases h2;rfl)];exact hm j hj _ _ _ hg (inv.done j t hj hd hl)
 ·have hne:zbm ops i≠some t:=fun he=>by
   have:=h i hin he;have hs:i<listed.size:=by
    rcases lt_or_ge i listed.size with h'|h'
    ·exact h'
    ·simp[Array.getElem?_eq_none h'] at hun
   simp[hs] at this
  rw[Act.eval_put fun d h1 h2=>hne (by rw[h1];cases h2;rfl)];exact inv.still t fun j hj hd=>by
   have:=h j hj hd;by_cases hji:j=i
   ·subst hji;exact absurd hd hne
   ·rwa[getD_set_ne true (Ne.symm hji)] at this
theorem z8j {Vs:Nat->VP G} {a:Act} {w:G.Γ} (hB:zzv ops a0.tmps.size n=true)(hs:a.tmps.size=a0.tmps.size)(hd:a.defers=a0.defers)
 (done: ∀j t,j<n->zbm ops j=some t->Vs j (a.eval (.tmp t)) w) (still: ∀t,(∀j,j<n->zbm ops j≠some t)->a.eval (.tmp t)=a0.eval (.tmp t)) {K:Act->Prop}
 (h:EndAt w (accU ops Vs n) a0 K):K a:=by
 have key: ∀m,m<=n-> ∀(K:Act->Prop),EndAt w (accU ops Vs m) a0 K-> ∃b:Act,K b/\ b.tmps.size=a0.tmps.size/\ b.defers=a0.defers/\ (∀j t,j<m->zbm ops j=some t->b.eval (.tmp t)=a.eval (.tmp t))/\
  (∀t,(∀j,j<m->zbm ops j≠some t)->b.eval (.tmp t)=a0.eval (.tmp t)):=by
  intro m;induction m with
  |zero=>intro _ K h;exact⟨a0,h,rfl,rfl,fun j t hj=>absurd hj (Nat.not_lt_zero _),fun _ _=>rfl⟩
  | succ m ih=>
   intro hm K h;simp only[accU] at h;cases hdm:zbm ops m with
   | none=>
    rw[hdm] at h;obtain⟨b,h1,h2,h3,h4,h5⟩:=ih (by omega) K h;refine⟨b,h1,h2,h3,fun j t hj hd=> ?_,fun t hh=>h5 t fun j hj=>hh j (by omega)⟩;by_cases hjm:j=m
    ·rw[hjm,hdm] at hd;cases hd
    ·exact h4 j t (by omega) hd
   | some d=>
    rw[hdm] at h;simp only[accOf,EndAt] at h;obtain⟨b,h1,h2,h3,h4,h5⟩:=ih (by omega) _ h;have hsp:=zim hB (show m<n by omega) hdm;refine⟨b.put (some d) (a.eval (.tmp d)),h1 _ (done m d (by omega) hdm),by rw[Act.size_put];exact h2,by rw[Act.defers_put];exact h3,fun j t hj hd'=> ?_,fun t hh=> ?_⟩
    ·by_cases hjm:j=m
     ·rw[hjm,hdm] at hd';cases hd';exact Act.eval_put_same (by rw[h2];exact hsp.1)
     ·rw[Act.eval_put fun d' e1 e2=>by cases e1;cases e2;exact hsp.2.1 j (by omega) hjm hd'];exact h4 j t (by omega) hd'
    ·rw[Act.eval_put fun d' e1 e2=>by cases e1;cases e2;exact hh m (by omega) hdm];exact h5 t fun j hj=>hh j (by omega)
 obtain⟨b,h1,h2,h3,h4,h5⟩:=key n (le_refl _) K h;have:b=a:=by
  have et:b.tmps=a.tmps:=by
   apply Array.ext (by rw[h2,hs]);intro t ht1 ht2;have e:b.eval (.tmp t)=a.eval (.tmp t):=by
    by_cases hw: ∃j,j<n/\ zbm ops j=some t
    ·obtain⟨j,hj,hd'⟩:=hw;exact h4 j t hj hd'
    ·rw[h5 t fun j hj he=>hw ⟨j,hj,he⟩,still t fun j hj he=>hw ⟨j,hj,he⟩]
   simpa[Act.eval,ht1,ht2] using e
  cases a;cases b;simp_all
 rw[<-this];exact h1
theorem zpn {o:Oper} {V:VP G} {a:Act} {w:G.Γ} {K:Act->World->Prop} (hF:FenceOk F P)(hnd: ∀c,o.op≠ .defer c)(h:OpGood P V w ((execOp a.eval o).run P (G.π w)))
 (hK: ∀v w',G.Le w w'->V v w'->K (a.put o.dst v) (G.π w')):o.wpIn F nn P a (G.π w) K Q:=by
 unfold Oper.wpIn;refine⟨fun f _=>hF.fn f,?_⟩;rw[Oper.semAt_plain F _ _ hnd];generalize (execOp a.eval o).run P (G.π w)=r at*
 cases r with
 |halt x w'=>exact h.elim
 | ok x w'=>
  cases x<;>simp only[OpGood] at h<;>simp only[Oper.uponIn]
  case value v=>obtain⟨x,rfl,h1,h2⟩:=h;exact hK _ _ h1 h2
  case skip=>obtain⟨x,rfl,h1,h2⟩:=h;exact hK _ _ h1 h2
  case enter f args=>
   refine⟨fun hd=>(by rw[hF.depth] at hd;cases hd),CallsIn.mono (hF.calls _ _ _ _ _ h) ?_⟩;rintro e w'' ⟨v,rfl,x,rfl,hg,hv⟩;exact hK _ _ hg hv
theorem zpw (hF:FenceOk F P)(hnd: ∀ {i:Nat} (o:Oper),ops[i]? =some o-> ∀c,o.op≠ .defer c) {Vs:Nat->VP G} {n:Nat} {Q:Exit->Act->World->Prop} (hm: ∀j,j<n->Mono (Vs j))(hst: ∀i,i<n-> ∀o,ops[i]? =some o->qcx P ops w0 a0 (accU ops Vs i) (Vs i) o)
 (hB:zzv ops a0.tmps.size n=true) (hback:zvk ops=true) (hn:n<=ops.size) (htail:n=ops.size \/(Region.sinkB .any ops n=true/\ Region.chainB .any ops n=true))
 (hseq:Region.seqB .any ops (ops.size-n) n ((List.replicate n true).toArray++(List.replicate (ops.size-n) false).toArray)=true)
 (hfin: ∀a w,a.tmps.size=a0.tmps.size->a.defers=a0.defers->G.Le w0 w->(∀j t,j<n->zbm ops j=some t->Vs j (a.eval (.tmp t)) w)->(∀t,(∀j,j<n->zbm ops j≠some t)->a.eval (.tmp t)=a0.eval (.tmp t))->
  wpListIn F nn P ops Q (ops.toList.drop n) a (G.π w)):
 ∀(f:Nat) (listed:Array Bool) (a:Act) (w:G.Γ),left n listed=f->Inv ops w0 a0 Vs n listed a w->wpAnyIn F nn P .any ops Q (f+(ops.size-n)) listed a (G.π w)
 | 0, listed,a,w,h0,inv=>by
  have hall:=zit n h0;have hl:listed=(List.replicate n true).toArray++(List.replicate (ops.size-n) false).toArray:=by
   apply Array.ext
   ·simp[inv.head.size];omega
   ·intro i h1 h2;by_cases hin:i<n
    ·have:=hall i hin;simp[h1] at this;rw[this,Array.getElem_append_left (by simpa using hin)];simp
    ·have hs:i<ops.size:=by rw[<-inv.head.size];exact h1
     have:=inv.head.tail i (by omega) hs;simp[h1] at this;rw[this,Array.getElem_append_right (by simp;omega)];simp
  rw[Nat.zero_add];have hlen:(ops.toList.drop n).length=ops.size-n:=by simp
  have:=zma (F:=F) (nn:=nn) (P:=P) (md:= .any) (ops:=ops) (Q':=Q) (ops.toList.drop n) n listed a (G.π w) (fun j=>by simp) (by rw[hlen,hl];exact hseq)
   (hfin a w inv.size inv.defers inv.grows (fun j t hj hd=>inv.done j t hj hd (hall j hj)) (fun t h=>inv.still t fun j hj hd=>absurd hd (h j hj)))
  rwa[hlen] at this
 | f + 1,listed,a,w,h0,inv=>by
  obtain⟨i0,hi0,hu0,hb0⟩:=zmz n (by rw[h0];exact Nat.succ_ne_zero f);have hr0:i0∈Region.ready .any ops listed:=by
   have hlt:i0<ops.size:=by omega
   refine mem_ready.2 ⟨hu0,ops[i0],by simp[hlt],fun e he hb=> ?_⟩;have h1:=all_eq_true.1 hback i0 (List.mem_range.2 hlt);rw[Array.getElem?_eq_getElem hlt] at h1;have h2:=Array.all_eq_true'.1 h1 e he;have h3:e.on<i0:=by simpa[hb] using h2
   exact zsy (by rw[inv.head.size];omega) (hb0 _ h3)
  rw[show f+1+(ops.size-n)=(f+(ops.size-n))+1 by omega];refine⟨fun h=>(by rw[h] at hr0;cases hr0),fun i hi=> ?_⟩;have hlt:i<ops.size:=by obtain⟨_,o,ho,_⟩:=mem_ready.1 hi;exact(Array.getElem?_eq_some_iff.1 ho).1
  have hin:i<n:=by
   rcases lt_or_ge i n with h|h
   ·exact h
   ·rcases htail with hh|⟨hs,hc⟩
    ·omega
    ·exact absurd hi (tail_waits hs hc (by omega) inv.head _ i0 rfl hi0 hu0 i h)
  obtain⟨hun,o,ho,_⟩:=mem_ready.1 hi;have hleft:left n (listed.setIfInBounds i true)=f:=by have:=zmt hun n hin;omega
  have next: ∀v w',G.Le w w'->Vs i v w'->wpAnyIn F nn P .any ops Q (f+(ops.size-n)) (listed.setIfInBounds i true) (a.put o.dst v) (G.π w'):=fun v w' hg hv=>by
   have:=inv.step hB hm hi hin hg hv;have e:zbm ops i=o.dst:=by simp[zbm,ho]
   rw[e] at this;exact zpw hF hnd hm hst hB hback hn htail hseq hfin f _ _ _ hleft this
  have hlk: ∀t∈zgn o.op.operands.toList,env a0 (accU ops Vs i) t (a.eval (.tmp t)) w:=fun t ht=>inv.slot hB hi hin (by simp only[zfv,ho];exact mem_append.2 (.inl ht));have hs:=hst i hin o ho a.eval w (zxh a) inv.grows (qiw hlk);unfold wpOpIn;simp only[ho];cases hgd:o.guard with
  | none=>
   rw[hgd] at hs;simp only[Region.wanted,hgd,if_true];exact zpn hF (hnd o ho) hs next
  | some kb=>
   obtain⟨k,b⟩:=kb;rw[hgd] at hs;simp only at hs;obtain⟨d,hd,hs⟩:=hs;have hg:=hs (a.eval (.tmp d)) (inv.slot hB hi hin (by simp only[zfv,ho,hgd,hd];exact mem_append.2 (.inr (by simp))));have hy:yielded ops a.tmps k=match a.tmps[d]? with|some (.bool c)=>some c|_=>none:=by
    unfold yielded;have:(ops[k]?).bind (·.dst)=some d:=hd;rw[this];rfl
   by_cases hb:a.eval (.tmp d)= .bool b
   ·have hw:Region.wanted o (yielded ops a.tmps)=true:=by
     simp only[Region.wanted,hgd,hy];have:a.tmps[d]? =some (.bool b):=by
      simp only[Act.eval] at hb;cases hh:a.tmps[d]? with
      |none=>simp[hh,undef] at hb
      |some x=>simp[hh] at hb;rw[hb]
     rw[this];simp
    rw[if_pos hw];exact zpn hF (hnd o ho) (hg.1 hb) next
   ·have hw: ¬Region.wanted o (yielded ops a.tmps)=true:=by
     simp only[Region.wanted,hgd,hy];intro h;apply hb;simp only[Act.eval];cases hh:a.tmps[d]? with
     |none=>simp[hh] at h
     |some x=>cases x<;>simp[hh] at h;simp[hh,h]
    rw[if_neg hw];exact⟨fun f _=>hF.fn f,next _ _ (G.refl w) (hg.2 hb)⟩
end
theorem wpIn_region_fwd {G:Gh} {F:Fence} {nn:Nat} {P:Program} {id:Nat} {a:Act} {w w1:G.Γ} {l:List Oper} (hF:FenceOk F P)(n:Nat)(hw1:G.π w1={G.π w with drawn:=(G.π w).drawn+1})(hle:G.Le w w1)(hm:P.follows .mixedOrders=true)(hnd: ∀o∈l,∀c,o.op≠ .defer c)(hB:chk l.toArray a.tmps.size n=true)
 (h:FwdGo P l.toArray w a (fun acc=> ∀w',G.Le w w'->EndAt w' acc a fun a'=>wpListIn F nn P l.toArray Q (l.drop n) a' (G.π w')) (l.take n) []):(Code.region id l.toArray true).wpIn F nn P Q a (G.π w):=by
 simp only[chk,Bool.and_eq_true,decide_eq_true_eq,Bool.or_eq_true] at hB;obtain⟨⟨⟨⟨h1,h2⟩,h3⟩,h4⟩,h5⟩:=hB;obtain⟨Vs,_,hs,hf⟩:=zuq (P:=P) (ops:=l.toArray) (w0:=w) (a0:=a) (l.take n) 0 (fun _ _ _=>True) (fun j hj=>qfz hj) h;have hlen:(l.take n).length=n:=by simp at h3⊢;omega
 rw[hlen,Nat.zero_add] at hs hf;refine wpIn_region_any hm ?_;rw[<-hw1]
 have key:=zpw (F:=F) (nn:=nn) (P:=P) hF (fun o ho=>hnd o (by simpa using mem_of_getElem? (by simpa using ho))) (ops:=l.toArray) (w0:=w) (a0:=a) (Vs:=Vs) (n:=n) (Q:=Q) (fun j hj=>(hs j (Nat.zero_le _) (by omega)).1) (fun i hi=>(hs i (Nat.zero_le _) (by omega)).2) h1 h2 h3 h4 h5
  (fun a' w' e1 e2 hg hd hst=>by
   have:=z8j (K:=fun a'=>wpListIn F nn P l.toArray Q (l.drop n) a' (G.π w')) h1 e1 e2 hd hst (hf w' hg);simpa using this)
  (left n (Array.replicate l.toArray.size false)) (Array.replicate l.toArray.size false) a w1 rfl
  ⟨⟨by simp,fun j oj _ hl=>(by rw[getD_replicate_false] at hl;cases hl),fun t _ ht=>getD_in (by simpa using ht) (getD_replicate_false _ _)⟩,hle,rfl,rfl,
   fun j t hj _ hl=>by
    have:j<l.toArray.size:=by omega
    simp at this;simp[this] at hl,fun _ _=>rfl⟩
 have hleft: ∀m,m<=l.toArray.size->left m (Array.replicate l.toArray.size false)=m:=by
  intro m;induction m with
  |zero=>intro _;rfl
  | succ m ih=>
   intro hm;have:m<l.length:=by simp at hm;omega
   simp only[left,ih (by omega)];simp[this]
 rw[hleft n h3,show n+(l.toArray.size-n)=l.toArray.size by omega] at key;exact key
section
variable {G:Gh}
theorem endAt_all {w:G.Γ}: ∀ {acc:Acc G} {a:Act} {K:Act->Prop},
 (∀a',a'.tmps.size=a.tmps.size->a'.defers=a.defers->(∀t,t<a.tmps.size->env a acc t (a'.eval (.tmp t)) w)->K a')->EndAt w acc a K
 |[],a,K,h=>h a rfl rfl fun _ _=>rfl
 | (d,V)::r,a,K,h=>by
  show EndAt w r a fun a'=> ∀v,V v w->K (a'.put (some d) v);refine endAt_all fun a' h1 h2 h3 v hv=>h _ (by simp[Act.put,h1]) (by simp[Act.put,h2]) fun t ht=> ?_;simp only[env];by_cases hd:d=t
  ·rw[if_pos hd,hd];have:(a'.put (some t) v).eval (.tmp t)=v:=by simp[Act.put,Act.eval,h1,ht]
   rw[this];exact hv
  ·rw[if_neg hd];have:(a'.put (some d) v).eval (.tmp t)=a'.eval (.tmp t):=by simp[Act.put,Act.eval,Array.getElem?_setIfInBounds,hd]
   rw[this];exact h3 t ht
end
end Go.FwdG
namespace Go.Ab
open Go Go.RowKit Go.Fwd
def zhn (IT:IterP)(P:Program)(o:Oper)(S:List AV)(U:St)(K:AV->Prop):Prop:=
 match zda S o with
 |some (f,args)=> ∃r,zab 0 args=true/\ Pure IT P f (stripL args) r/\ K r
 |none=> ∃a,QopR P (zbv S) U o a/\ K a
def zfp (IT:IterP)(P:Program)(ops:Array Oper)(U:St)(K:List AV->Prop):List Oper->List AV->Prop
 |[],S=>K S
 | o::l,S=>(o.dst.all fun d=>decide (d<S.length))=true/\ match o.guard with
  |none=>zhn IT P o S U fun a=>zfp IT P ops U K l (zi S o.dst a)
  |some (k,b)=> ∃c,zdo ops S k=some c/\ (if c=some b then zhn IT P o S U fun a=>zfp IT P ops U K l (zi S o.dst a) else zfp IT P ops U K l (zi S o.dst (.raw undef)))
def zst (l:List Oper):Bool:=l.all fun o=>match o.op with| .defer _=>false|_=>true
theorem zau (S:List AV)(d:Option Tmp)(x:AV):(zi S d x).length=S.length:=by cases d<;>simp[zi]
variable {X:Cx} {a0:Act} {S:List AV}
theorem z7a {Y:Cx} (h:Ext X Y) {b:Nat} (hb:X.w.heap.size<=b):Ext X {Y with κ:=Y.κ++[b]} where
 os:=h.os
 tape:=h.tape
 output:=h.output
 size:=h.size
 drawn:=h.drawn
 F:=h.F
 cell:=h.cell
 κ :=fun s b' hs=>by
  have h1:=h.κ s b' hs;have:=(List.getElem?_eq_some_iff.1 h1).1
  show(Y.κ++[b])[s]? =_
  rw[getElem?_append_left this];exact h1
 lens:=h.lens
 blk:=h.blk
 szs:=h.szs
 frame:=h.frame
 κnew:=fun b' hm=>by
  rcases mem_append.1 hm with hm|hm
  ·exact h.κnew b' hm
  ·simp at hm;subst hm;exact .inr hb
 βnew:=h.βnew
 O:=h.O
 C:=h.C
 Fnew:=h.Fnew
theorem zum (Y:Cx)(b:Nat):Sub Y {Y with κ:=Y.κ++[b]} where
 F:=fun _ _ h=>h
 cell:=fun _ _ _=>rfl
 κ :=fun s b' h1=>by
  have:=(List.getElem?_eq_some_iff.1 h1).1
  show(Y.κ++[b])[s]? =_
  rw[getElem?_append_left this];exact h1
 lens:=fun s L h=>⟨L,h,le_refl _,fun _=>rfl⟩
 blk:=fun _ _ _ cur _ _ h=>⟨cur,h,rfl⟩
 szs:=Szs.heap rfl
theorem z7q {IT:IterP} (hIT:ITMono IT) {U:St} {Y:Cx} (hI:Inv IT U Y) {b:Nat} {t:TypeId} {cs:List AV} {us:List Value} (hb:Y.w.heap[b]? =some (.cells us.toArray t (0,0)))(hr:zbe IT Y cs us)(h1: ∀v∈us,v.oneCell'=true)
 (hF: ∀o,¬Y.F b o) (hκ:b∉Y.κ) (hβ: ∀r∈Y.β,r.block≠b) (hO: ¬Y.O b):Inv IT {U with boxes:=U.boxes++[(t,cs)]} {Y with κ:=Y.κ++[b]}:=by
 have hlen:=hI.κlen;have old: ∀s b',(Y.κ++[b])[s]? =some b'->(Y.κ[s]? =some b'/\ s<U.boxes.length) \/(s=Y.κ.length/\ b'=b):=fun s b' h=>by
  rcases lt_or_ge s Y.κ.length with hlt|hge
  ·rw[getElem?_append_left hlt] at h;exact .inl ⟨h,by omega⟩
  ·have:=(List.getElem?_eq_some_iff.1 h).1;simp at this;have e:s=Y.κ.length:=by omega
   subst e;simp at h;exact .inr ⟨rfl,h.symm⟩
 have up: ∀s,s<U.boxes.length->(∃t,U.boxes[s]? =some (t,[]))-> ∃t',(U.boxes++[(t,cs)])[s]? =some (t',[]):=fun s hs ⟨t0,h⟩=>⟨t0,by rw[getElem?_append_left hs];exact h⟩;have hS:=zum Y b;refine {lens:=hI.lens,elems:=hI.elems,κlen:=by simp[hI.κlen],κnd:= ?_,box:= ?_,κF:= ?_,βlen:=hI.βlen,βnd:=hI.βnd,βκ:= ?_,row:=hI.row,Ok:= ?_,Fcell:=hI.Fcell,gv:=hI.gv}
 ·intro s s' b' h2 h3 h4;rcases old s b' h2 with⟨k2,l2⟩|⟨k2,l2⟩
  ·rcases old s' b' h3 with⟨k3,l3⟩|⟨k3,l3⟩
   ·exact(hI.κnd s s' b' k2 k3 h4).imp (up s l2) (up s' l3)
   ·subst l3;exact absurd (mem_of_getElem? k2) hκ
  ·rcases old s' b' h3 with⟨k3,l3⟩|⟨k3,l3⟩
   ·subst l2;exact absurd (mem_of_getElem? k3) hκ
   ·omega
 ·intro s b' t' c hs hb';rcases old s b' hs with⟨k2,l2⟩|⟨k2,l2⟩
  ·have hb2:U.boxes[s]? =some (t',c):=by rw[<-hb'];exact(getElem?_append_left l2).symm
   obtain⟨vs,zs,u1,u2,u3⟩:=hI.box s b' t' c k2 hb2;exact⟨vs,zs,u1,zbn hIT hS _ _ u2,u3⟩
  ·subst k2;subst l2;have e2:(t,cs)=(t',c):=by
    have:(U.boxes++[(t,cs)])[Y.κ.length]? =some (t',c):=hb';rw[hlen] at this;simpa using this
   cases e2;exact⟨us,[],by rw[List.append_nil];exact hb,zbn hIT hS _ _ hr,h1⟩
 ·intro s b' t' c hs hb' hc o hf;rcases old s b' hs with⟨k2,l2⟩|⟨k2,l2⟩
  ·exact hI.κF s b' t' c k2 (by rw[<-hb'];exact(getElem?_append_left l2).symm) hc o hf
  ·subst l2;exact hF o hf
 ·intro r hr' hm;rcases mem_append.1 hm with hm|hm
  ·exact hI.βκ r hr' hm
  ·simp at hm;exact hβ r hr' hm
 ·intro b' ho;obtain⟨h0,h2,h3,h4⟩:=hI.Ok b' ho;refine⟨h0,fun hm=> ?_,h3,h4⟩;rcases mem_append.1 hm with hm|hm
  ·exact h2 hm
  ·simp at hm;subst hm;exact hO ho
def zlw (P:Program)(t:TypeId):Option Value:=
 match P.info? t with
 | some i=>match i.zero with
  |some z=>if zoe z=true/\ zif (zkn z)=true then some z else none
  |none=>none
 |none=>none
abbrev Pend:=List (Tmp×TypeId×Value)
def zej (IT:IterP)(P:Program)(ops:Array Oper)(U:St)(K:List AV->Pend->Prop):List Oper->List AV->Pend->Prop
 |[],S,ps=>K S ps
 | o::l,S,ps=>(o.dst.all fun d=>decide (d<S.length))=true/\ (ps.all fun p=>o.dst !=some p.1)=true/\
  ((o.guard=none/\ ∃t d z,o.op= .alloc t/\ o.dst=some d/\ zlw P t=some z/\ zej IT P ops U K l (S.set d .top) (ps++[(d,t,z)])) \/
   match o.guard with
   |none=>zhn IT P o S U fun a=>zej IT P ops U K l (zi S o.dst a) ps
   |some (k,b)=> ∃c,zdo ops S k=some c/\ (if c=some b then zhn IT P o S U fun a=>zej IT P ops U K l (zi S o.dst a) ps else zej IT P ops U K l (zi S o.dst (.raw undef)) ps))
def zno:Nat->Pend->List AV->List AV
 |_,[],S=>S
 |n,p::ps,S=>zno (n+1) ps (S.set p.1 (.ptr n 0))
def zlp (U:St)(ps:Pend):St:={U with boxes:=U.boxes++ps.map fun p=>(p.2.1,cellsOf (zkn p.2.2))}
def qbo (IT:IterP)(P:Program)(W:Owed)(ops:Array Oper)(Q:List AV->St->Prop)(S:List AV)(U:St):Prop:=
 ∃n,chk ops S.length n=true/\ zst ops.toList=true/\ zej IT P ops U (fun S' ps=>zca IT P W ops Q (ops.toList.drop n) (zno U.boxes.length ps S') (zlp U ps)) (ops.toList.take n) S []
def zgz (X:Cx)(W:World)(B:List (Nat×Nat)):Cx:={X with F:=fun b i=>X.F b i \/(X.w.heap.size<=b/\ (∀p∈B,p.2≠b)/\ ∃v,W.cell? ⟨b,i,none⟩=some v),w:=W}
theorem zlc {IT:IterP} {U:St} (hI:Inv IT U X) {W:World} (B:List (Nat×Nat))(hg:Grows X.w W):Ext X (zgz X W B) where
 os:=hg.os
 tape:=hg.tape
 output:=hg.output
 size:=hg.size
 drawn:=hg.drawn
 F:=fun _ _ h=> .inl h
 cell:=fun b i hf=>World.cell?_of_block (hg.block _ (hI.Flt hf))
 κ:=fun _ _ h=>h
 lens:=fun s L h=>⟨L,h,le_refl _,fun _=>rfl⟩
 blk:=fun s b hs cur t f h=>⟨cur,(hg.block b (hI.κlt (mem_of_getElem? hs))).trans h,rfl⟩
 szs:=Szs.old fun k hk=>hg.block k hk
 frame:=fun b hb _ _=>hg.block b hb
 κnew:=fun _ h=> .inl h
 βnew:=fun r h=> .inl ⟨r,h,rfl⟩
 O:=rfl
 C:=rfl
 Fnew:=fun b i h=>h.imp id fun h=> .inl h.1
theorem zlj {IT:IterP} (hIT:ITMono IT) {U:St} {X:Cx} (hI:Inv IT U X) {W:World} (B:List (Nat×Nat))(hg:Grows X.w W):Inv IT U (zgz X W B):=by
 have hX:=zlc hI B hg;refine {lens:=hI.lens,elems:=hI.elems,κlen:=hI.κlen,κnd:=hI.κnd,box:= ?_,κF:= ?_,βlen:=hI.βlen,βnd:=hI.βnd,βκ:=hI.βκ,row:= ?_,Ok:= ?_,Fcell:= ?_}
 ·intro s b t cs hs hb;obtain⟨us,zs,u1,u2,u3⟩:=hI.box s b t cs hs hb;exact⟨us,zs,(hg.block b (hI.κlt (mem_of_getElem? hs))).trans u1,zao hIT hX _ _ u2,u3⟩
 ·intro s b t cs hs hb hc o hf;rcases hf with h|⟨h,_⟩
  ·exact hI.κF s b t cs hs hb hc o h
  ·have:=hI.κlt (mem_of_getElem? hs);omega
 ·intro s q L hq hL;obtain⟨cur,fz,c1,c2,c3,c4,c5,c6,c7⟩:=hI.row s q L hq hL;have hlt:=hI.βlt (mem_of_getElem? hq);refine⟨cur,fz,(hg.block _ hlt).trans c1,c2,c3,c4,c5,fun o hf=> ?_,c7⟩;rcases hf with h|⟨h,_⟩
  ·exact c6 o h
  ·omega
 ·intro b ho;obtain⟨⟨cs0,t0,f0,h0⟩,h2,h3,h4⟩:=hI.Ok b ho;have hlt:=hI.Olt ho;exact⟨⟨cs0,t0,f0,(hg.block b hlt).trans h0⟩,h2,h3,fun o hf=>hf.elim (h4 o) fun h=>by omega⟩
 ·intro b o hf;rcases hf with h|⟨_,_,h⟩
  ·obtain⟨v,hv⟩:=hI.Fcell b o h;exact⟨v,(hX.cell b o h).trans hv⟩
  ·exact h
structure GB (X:Cx) where
 W:World
 B:List (Nat×Nat)
 lo: ∀p∈B,X.w.heap.size<=p.2
 hi: ∀p∈B,p.2<W.heap.size
 nd: ∀p∈B,∀q∈B,p.2=q.2->p=q
 grows:Grows X.w W
def gh (X:Cx):FwdG.Gh where
 Γ:=GB X
 π:=GB.W
 Le:=fun x y=>Grows x.W y.W/\ (∀p∈x.B,p∈y.B)/\ ∀p∈y.B,p∈x.B \/x.W.heap.size<=p.2
 refl:=fun x=>⟨Grows.refl _,fun _ h=>h,fun _ h=> .inl h⟩
 trans:=fun x y z h k=>⟨h.1.trans k.1,fun p hp=>k.2.1 p (h.2.1 p hp),fun p hp=>(k.2.2 p hp).elim (h.2.2 p) fun h'=> .inr (Nat.le_trans h.1.size h')⟩
theorem z7l {x y:GB X} (hXF: ∀b i,X.F b i->b<X.w.heap.size)(h:(gh X).Le x y):Sub (zgz X x.W x.B) (zgz X y.W y.B):=by
 obtain⟨hg,h2,h3⟩:=h;refine⟨fun b i hf=> ?_,fun b i hf=> ?_,fun _ _ h=>h,fun s L h=>⟨L,h,le_refl _,fun _=>rfl⟩,fun s b hs cur t f h=>⟨cur,(hg.block b (Array.getElem?_eq_some_iff.1 h).1).trans h,rfl⟩,Szs.old fun k hk=>hg.block k hk⟩
 ·rcases hf with hf|⟨k1,k2,v,k3⟩
  ·exact .inl hf
  ·refine .inr ⟨k1,fun p hp e=> ?_,v,(World.cell?_of_block (hg.block _ (zxp k3))).trans k3⟩;rcases h3 p hp with h|h
   ·exact k2 p h e
   ·have:=zxp k3;omega
 ·refine World.cell?_of_block (hg.block _ ?_);rcases hf with hf|⟨_,_,v,k3⟩
  ·exact Nat.lt_of_lt_of_le (hXF b i hf) x.grows.size
  ·exact zxp k3
section
variable {IT:IterP} {P:Program} {M:Option Gen} {F:Fence} {nn B:Nat}
def VB (IT:IterP)(X:Cx)(x:AV):FwdG.VP (gh X):=fun v (γ:GB X)=>Rep IT (zgz X γ.W γ.B) x v
def VN (X:Cx)(d:Tmp)(t:TypeId)(z:Value):FwdG.VP (gh X):=fun v (γ:GB X)=> ∃b,(d,b)∈γ.B/\ v= .pointer (some ⟨b,0,none⟩)/\ γ.W.heap[b]? =some (.cells z.cells t (0,0))
theorem z1p (hIT:ITMono IT) {U:St} {X:Cx} (hI:Inv IT U X)(x:AV):FwdG.Mono (VB IT X x):=fun v w w' hg h=>
 zkf hIT (z7l (fun b i h=>hI.Flt h) hg) _ _ h
theorem vn_mono (d:Tmp)(t:TypeId)(z:Value):FwdG.Mono (VN X d t z):=fun v w w' hg ⟨b,h1,h2,h3⟩=>
 ⟨b,hg.2.1 _ h1,h2,(hg.1.block b (Array.getElem?_eq_some_iff.1 h3).1).trans h3⟩
def zpk (IT:IterP)(X:Cx)(a0:Act)(acc:FwdG.Acc (gh X))(S:List AV)(ps:Pend):Prop:=
 (∀t v (γ:GB X),FwdG.env a0 acc t v γ->Rep IT (zgz X γ.W γ.B) (zbv S (.tmp t)) v)/\
 (∀p∈ps,p.1<S.length/\ zlw P p.2.1=some p.2.2/\ S[p.1]? =some .top/\ ∀v (γ:GB X),FwdG.env a0 acc p.1 v γ->VN X p.1 p.2.1 p.2.2 v γ)/\ (ps.map (·.1)).Nodup
theorem zjz {X:Cx} {acc:FwdG.Acc (gh X)} {d:Option Tmp} {V:FwdG.VP (gh X)} {t:Tmp}:FwdG.env a0 (FwdG.accOf acc d V) t=if d=some t then V else FwdG.env a0 acc t:=by
 cases d with
 |none=>simp[FwdG.accOf]
 |some d=>simp[FwdG.accOf,FwdG.env]
theorem zpf {acc:FwdG.Acc (gh X)} {ps:Pend} (h:zpk (P:=P) IT X a0 acc S ps)(d:Option Tmp)(x:AV)(hd:(d.all fun d=>decide (d<S.length))=true)(hp:(ps.all fun p=>d !=some p.1)=true):
 zpk (P:=P) IT X a0 (FwdG.accOf acc d (VB IT X x)) (zi S d x) ps:=by
 obtain⟨h1,h2,h3⟩:=h;refine⟨fun t v γ he=> ?_,fun p hpm=> ?_,h3⟩
 ·rw [zjz] at he;by_cases e:d=some t
  ·subst e;rw[if_pos rfl] at he;have hlt:t<S.length:=by simpa using hd
   simp only[zi,zbv,getElem?_set_self hlt,getD_some];exact he
  ·rw[if_neg e] at he;have:zbv (zi S d x) (.tmp t)=zbv S (.tmp t):=by
    cases d with
    |none=>rfl
    |some d=>simp only[zi,zbv];rw[getElem?_set_ne (fun h=>e (by rw[h]))]
   rw[this];exact h1 t v γ he
 ·obtain⟨k1,k2,k3,k4⟩:=h2 p hpm;have hne:d≠some p.1:=by simpa using all_eq_true.1 hp p hpm
  refine⟨by rw[zau];exact k1,k2,?_,fun v γ he=>k4 v γ ?_⟩
  ·cases d with
   |none=>exact k3
   |some d=>simp only[zi];rw[getElem?_set_ne (fun h=>hne (by rw[h]))];exact k3
  ·rw[zjz,if_neg hne] at he;exact he
theorem z7i {acc:FwdG.Acc (gh X)} {ps:Pend} (h:zpk (P:=P) IT X a0 acc S ps) {d:Tmp} {t:TypeId} {z:Value} (hd:d<S.length)(hp:(ps.all fun p=>some d !=some p.1)=true)(hz:zlw P t=some z):
 zpk (P:=P) IT X a0 (FwdG.accOf acc (some d) (VN X d t z)) (S.set d .top) (ps++[(d,t,z)]):=by
 obtain⟨h1,h2,h3⟩:=h;have hne: ∀p∈ps,d≠p.1:=fun p hpm=>by simpa using all_eq_true.1 hp p hpm
 refine⟨fun u v γ he=> ?_,fun p hpm=> ?_,?_⟩
 ·rw[zjz] at he;by_cases e:d=u
  ·subst e;simp only[zbv,getElem?_set_self hd,getD_some];rw[Rep];trivial
  ·rw[if_neg (fun h=>e (Option.some.inj h))] at he;simp only[zbv];rw[getElem?_set_ne e];exact h1 u v γ he
 ·rcases mem_append.1 hpm with hpm|hpm
  ·obtain⟨k1,k2,k3,k4⟩:=h2 p hpm;refine⟨by rw[length_set];exact k1,k2,by rw[getElem?_set_ne (hne p hpm)];exact k3,fun v γ he=>k4 v γ ?_⟩;rw[zjz,if_neg (fun h=>hne p hpm (Option.some.inj h))] at he;exact he
  ·simp only[List.mem_singleton] at hpm;subst hpm;refine⟨by rw[length_set];exact hd,hz,getElem?_set_self hd,fun v γ he=> ?_⟩;rw[zjz,if_pos rfl] at he;exact he
 ·rw[List.map_append,List.nodup_append];refine⟨h3,by simp,fun a ha b hb=> ?_⟩;obtain⟨p,hpm,rfl⟩:=List.mem_map.1 ha;simp at hb;subst hb;exact fun e=>hne p hpm e.symm
theorem ztz {acc:FwdG.Acc (gh X)} {ps:Pend} (h:zpk (P:=P) IT X a0 acc S ps) {ρ:Operand->Value} {γ:GB X} (hE:Env ρ) {l:List Operand} (hr:FwdG.All (G:=gh X) (FwdG.env a0 acc) ρ γ (zgn l)): ∀x∈l,Rep IT (zgz X γ.W γ.B) (zbv S x) (ρ x):=by
 induction l with
 |nil=>intro x hx;cases hx
 | cons y l ih=>
  intro x hx;cases y with
  | tmp t=>
   simp only[zgn,FwdG.All] at hr;rcases mem_cons.1 hx with rfl|hx
   ·exact h.1 t _ γ hr.1
   ·exact ih hr.2 x hx
  | const v=>
   rcases mem_cons.1 hx with rfl|hx
   ·rw[hE.const];simp only[zbv];split
    ·rename_i h;exact zik v h
    ·rw[Rep]
   ·exact ih hr x hx
  | func f=>
   rcases mem_cons.1 hx with rfl|hx
   ·rw[hE.func];simp only[zbv,Rep];exact⟨[],rfl,by rw[zbe]⟩
   ·exact ih hr x hx
  | global g=>
   rcases mem_cons.1 hx with rfl|hx
   ·rw[hE.global];simp[zbv,Rep]
   ·exact ih hr x hx
def GB.next (γ:GB X)(W:World)(hg:Grows γ.W W):GB X:=⟨W,γ.B,γ.lo,fun p hp=>Nat.lt_of_lt_of_le (γ.hi p hp) hg.size,γ.nd,γ.grows.trans hg⟩
theorem GB.next_le (γ:GB X)(W:World)(hg:Grows γ.W W):(gh X).Le γ (γ.next W hg):=⟨hg,fun _ h=>h,fun _ h=> .inl h⟩
theorem zph (hIT:ITMono IT) {U:St} {X:Cx} (hI:Inv IT U X) {a0:Act} {acc:FwdG.Acc (gh X)} {S:List AV} {ps:Pend} {o:Oper} {K:AV->Prop} (h:zhn IT P o S U K)(hA:zpk (P:=P) IT X a0 acc S ps):
 ∃x,K x/\ ∀(ρ:Operand->Value) (γ:GB X),Env ρ->FwdG.All (G:=gh X) (FwdG.env a0 acc) ρ γ (zgn o.op.operands.toList)->FwdG.OpGood (G:=gh X) P (VB IT X x) γ ((execOp ρ o).run P γ.W):=by
 unfold zhn at h;have fin: ∀ {x:AV} {v:Value} {γ:GB X} {X':Cx} (hg:Grows γ.W X'.w),Inv IT U X'->Rep IT X' x v->X'.κ=X.κ->X'.β=X.β->X'.lens=X.lens->(∀b i,X'.F b i->(zgz X γ.W γ.B).F b i \/γ.W.heap.size<=b)->VB IT X x v (γ.next X'.w hg):=by
  intro x v γ X' hg h2 h3 h5 h6 h7 h8;show Rep IT (zgz X X'.w γ.B) x v;refine zkf hIT (X:=X') (X':=zgz X X'.w γ.B) ⟨fun b i hf=> ?_,fun _ _ _=>rfl,fun s b hs=>by rw[h5] at hs;exact hs,fun s L hs=>by rw[h7] at hs;exact⟨L,hs,le_refl _,fun _=>by rw[h6];rfl⟩,fun s b hs cur t f h=>⟨cur,h,rfl⟩,Szs.refl _⟩ _ _ h3;rcases h8 b i hf with h|h
  ·rcases h with h|⟨ha,hb,hc⟩
   ·exact .inl h
   ·exact .inr ⟨ha,hb,h2.Fcell b i hf⟩
  ·refine .inr ⟨Nat.le_trans γ.grows.size h,fun p hp e=> ?_,h2.Fcell b i hf⟩;have:=γ.hi p hp;omega
 split at h
 ·rename_i f args hc;obtain⟨r,hok,hp,hk⟩:=h;refine⟨r,hk,fun ρ γ hE hr=> ?_⟩;have hρ:=ztz hA hE hr;obtain⟨vs,hrun,hrr⟩:=zjh (IT:=IT) (P:=P) (X:=zgz X γ.W γ.B) hc (fun x hx=>hρ x (by simpa using hx)) hp.1;rw[show(execOp ρ o).run P γ.W=_ from hrun];refine(zjy hIT hp rfl hok (zlj hIT hI γ.B γ.grows) hrr).mono ?_;rintro e w' ⟨v,X',rfl,rfl,h1,h2,h3,h4,h5,h6,h7,hO,h8⟩;exact⟨v,rfl,γ.next X'.w h4,rfl,γ.next_le X'.w h4,fin h4 h2 h3 h5 h6 h7 h8⟩
 ·obtain⟨x,hx,h⟩:=h;refine⟨x,h,fun ρ γ hE hr=> ?_⟩;have hρ:=ztz hA hE hr;obtain⟨v,X',h1,h2,h3,h4,h5,h6,h7,h8,hO,h9⟩:=z7c hIT (X:=zgz X γ.W γ.B) hx (fun x hx=>hρ x (by simpa using hx)) (zlj hIT hI γ.B γ.grows);rw[show(execOp ρ o).run P γ.W=_ from h1];exact⟨γ.next X'.w h5,rfl,γ.next_le X'.w h5,fin h5 h3 h4 h6 h7 h8 h9⟩
theorem zsh {t:TypeId} {z:Value} (h:zlw P t=some z):(∃i,P.info? t=some i/\ i.zero=some z)/\ zoe z=true/\ zif (zkn z)=true:=by
 unfold zlw at h;split at h<;>try cases h
 rename_i i hi;split at h<;>try cases h
 rename_i z' hz;split at h<;>cases h
 rename_i hc;exact⟨⟨i,hi,hz⟩,hc⟩
theorem z8a {γ:GB X} {ρ:Operand->Value} {o:Oper} {t:TypeId} {d:Tmp} {z:Value} (ho:o.op= .alloc t)(hz:zlw P t=some z):
 FwdG.OpGood (G:=gh X) P (VN X d t z) γ ((execOp ρ o).run P γ.W):=by
 obtain⟨⟨i,hi,hz'⟩,_,_⟩:=zsh hz;have hrun:(Instr.alloc t true (.tuple #[])).run P γ.W= .ok (.pointer (some ⟨γ.W.heap.size,0,none⟩)) (γ.W.alloc (.cells z.cells t)):=by
  have:(Instr.alloc t true (.tuple #[])).run P γ.W=(Instr.box t z).run P γ.W:=by
   simp[Instr.alloc,Instr.box,ziz hi hz']
  rw[this];simp only[Instr.box,Sem.run_bind,zog,Result.andThen_ok,Sem.run_pure]
 have hrun2:(execOp ρ o).run P γ.W= .ok (.value (.pointer (some ⟨γ.W.heap.size,0,none⟩))) (γ.W.alloc (.cells z.cells t)):=by simp[execOp,ho,hrun]
 rw[hrun2];have hg:Grows γ.W (γ.W.alloc (.cells z.cells t)):=(Ex.refl _ _).alloc (le_refl _) _;refine⟨⟨γ.W.alloc (.cells z.cells t),(d,γ.W.heap.size)::γ.B,fun p hp=> ?_,fun p hp=> ?_,fun p hp q hq e=> ?_,γ.grows.trans hg⟩,rfl,⟨hg,fun p hp=>List.mem_cons_of_mem _ hp,fun p hp=> ?_⟩,γ.W.heap.size,List.mem_cons_self,rfl,zdp _ _ _ rfl⟩
 ·rcases mem_cons.1 hp with rfl|hp
  ·exact γ.grows.size
  ·exact γ.lo p hp
 ·rw[World.size_alloc];rcases mem_cons.1 hp with rfl|hp
  ·exact Nat.lt_succ_self _
  ·exact Nat.lt_succ_of_lt (γ.hi p hp)
 ·rcases mem_cons.1 hp with rfl|hp
  ·rcases mem_cons.1 hq with rfl|hq
   ·rfl
   ·have:=γ.hi q hq;simp only at e;omega
  ·rcases mem_cons.1 hq with rfl|hq
   ·have:=γ.hi p hp;simp only at e;omega
   ·exact γ.nd p hp q hq e
 ·rcases mem_cons.1 hp with rfl|hp
  ·exact .inr (le_refl _)
  ·exact .inl hp
theorem zie (hIT:ITMono IT) {U:St} {X:Cx} (hI:Inv IT U X) {ops:Array Oper} {a0:Act} {K:List AV->Pend->Prop} {fin:FwdG.Acc (gh X)->Prop} {γ0:GB X}
 (hfin: ∀S ps acc,K S ps->S.length=a0.tmps.size->zpk (P:=P) IT X a0 acc S ps->fin acc):
 ∀(l:List Oper) (S:List AV) (ps:Pend) (acc:FwdG.Acc (gh X)),zej IT P ops U K l S ps->S.length=a0.tmps.size->zpk (P:=P) IT X a0 acc S ps->FwdG.FwdGo (G:=gh X) P ops γ0 a0 fin l acc
 |[],S,ps,acc,h,hl,hA=>hfin S ps acc h hl hA
 | o ::l,S,ps,acc,h,hl,hA=>by
  simp only[zej] at h;obtain⟨hd,hp,h⟩:=h;rcases h with⟨hg,t,d,z,ho,hdst,hz,hk⟩|h
  ·have hdl:d<S.length:=by rw[hdst] at hd;simpa using hd
   refine⟨VN X d t z,vn_mono d t z,fun ρ γ hE hgr hr=>by rw[hg];exact z8a ho hz,?_⟩;rw[hdst];exact zie hIT hI hfin l _ _ _ hk (by rw[length_set];exact hl) (z7i hA hdl (by rw[hdst] at hp;exact hp) hz)
  ·cases hg:o.guard with
   | none=>
    rw[hg] at h;obtain⟨x,hk,hs⟩:=zph (P:=P) hIT hI h hA;exact⟨VB IT X x,z1p hIT hI x,fun ρ γ hE hgr hr=>by rw[hg];exact hs ρ γ hE hr,zie hIT hI hfin l _ _ _ hk (by rw[zau];exact hl) (zpf hA o.dst x hd hp)⟩
   | some kb=>
    obtain⟨k,b⟩:=kb;rw[hg] at h;obtain⟨c,hc,h⟩:=h;obtain⟨d,u,hdk,hsd,hcu⟩: ∃d u,zbm ops k=some d/\ S[d]? =some (.raw u)/\ ∀t,u= .bool t↔c=some t:=by
     unfold zdo at hc;split at hc<;>try cases hc
     rename_i d hd';split at hc<;>cases hc
     ·rename_i c' hs;exact⟨d,_,hd',hs,fun t=>by simp⟩
     ·rename_i u hne hs;exact⟨d,u,hd',hs,fun t=>⟨fun e=>absurd e (hne t),fun e=>by cases e⟩⟩
    have hgv: ∀g (γ:GB X),FwdG.env a0 acc d g γ->g=u:=fun g γ he=>by
     have:=hA.1 d g γ he;simp only[zbv,hsd,getD_some] at this;rw[Rep] at this;exact this
    by_cases e:c=some b
    ·rw[if_pos e] at h;obtain⟨x,hk,hs⟩:=zph (P:=P) hIT hI h hA;refine⟨VB IT X x,z1p hIT hI x,fun ρ γ hE hgr hr=> ?_,zie hIT hI hfin l _ _ _ hk (by rw[zau];exact hl) (zpf hA o.dst x hd hp)⟩;rw[hg];exact⟨d,hdk,fun g he=>⟨fun _=>hs ρ γ hE hr,fun hne=>absurd (by rw[hgv g γ he,(hcu b).2 e]) hne⟩⟩
    ·rw[if_neg e] at h;refine⟨VB IT X (.raw undef),z1p hIT hI _,fun ρ γ hE hgr hr=> ?_,zie hIT hI hfin l _ _ _ h (by rw[zau];exact hl) (zpf hA o.dst _ hd hp)⟩;rw[hg];refine⟨d,hdk,fun g he=>⟨fun hb=> ?_,fun _=>by show Rep _ _ _ _;rw[Rep]⟩⟩;rw[hgv g γ he] at hb;exact absurd ((hcu b).1 hb) e
theorem ztv (hIT:ITMono IT) {X:Cx} {tmps:Array Value}: ∀(ps:Pend) (U:St) (Y:Cx) (S:List AV),Ext X Y->Inv IT U Y->zlr IT Y S tmps->
 (∀p∈ps,zlw P p.2.1=some p.2.2/\ p.1<S.length/\ ∃b,tmps[p.1]? =some (.pointer (some ⟨b,0,none⟩))/\ Y.w.heap[b]? =some (.cells p.2.2.cells p.2.1 (0,0))/\ X.w.heap.size<=b/\ (∀o,¬Y.F b o)/\ b∉Y.κ/\ (∀r∈Y.β,r.block≠b)/\ ¬Y.O b)->
 (ps.Pairwise fun p q=>tmps[p.1]? ≠tmps[q.1]?)->
 ∃Y',Ext X Y'/\ Inv IT (zlp U ps) Y'/\ zlr IT Y' (zno U.boxes.length ps S) tmps/\ Y'.w=Y.w
 |[],U,Y,S,hE,hI,hr,_,_=>⟨Y,hE,by simpa[zlp] using hI,hr,rfl⟩
 | (d,t,z)::ps,U,Y,S,hE,hI,hr,hp,hpw=>by
  obtain⟨hz,hd,b,h1,h2,h3,h4,h5,h6,h7⟩:=hp (d,t,z) List.mem_cons_self;simp only at hz hd h1 h2;obtain⟨_,hok,hco⟩:=zsh hz;obtain⟨k1,k2⟩:=zkj (IT:=IT) (X:=Y) hco (zik z hok);have hI2:=z7q hIT hI (b:=b) (t:=t) (us:=z.cells.toList) (by simpa using h2) k1 k2 h4 h5 h6 h7;have hS:=zum Y b;have hr2:zlr IT {Y with κ:=Y.κ++[b]} (S.set d (.ptr U.boxes.length 0)) tmps:=by
   have hlen:=zq hr;refine zfg (by rw[length_set];exact hlen) fun i x v e1 e2=> ?_;by_cases e:d=i
   ·subst e;rw[getElem?_set_self hd] at e1;cases e1;rw[Rep];have:v= .pointer (some ⟨b,0,none⟩):=by
     have e3:tmps[d]? =some v:=by simpa using e2
     rw[h1] at e3;cases e3;rfl
    refine⟨b,?_,this⟩
    show(Y.κ++[b])[U.boxes.length]? =_
    rw[<-hI.κlen];simp
   ·rw[getElem?_set_ne e] at e1;obtain⟨v',hv',hrr⟩:=zdx hr i x e1;rw[hv'] at e2;cases e2;exact zkf hIT hS _ _ hrr
  rw[List.pairwise_cons] at hpw;obtain⟨Y',g1,g2,g3,g4⟩:=ztv hIT ps {U with boxes:=U.boxes++[(t,cellsOf (zkn z))]} {Y with κ:=Y.κ++[b]} (S.set d (.ptr U.boxes.length 0)) (z7a hE h3) hI2 hr2 (fun p hpm=>by
   obtain⟨q1,q2,b',q3,q4,q5,q6,q7,q8,q9⟩:=hp p (List.mem_cons_of_mem _ hpm);refine⟨q1,by rw[length_set];exact q2,b',q3,q4,q5,q6,fun hm=> ?_,q8,q9⟩;rcases mem_append.1 hm with hm|hm
   ·exact q7 hm
   ·simp at hm;subst hm;exact hpw.1 p hpm (by simp only;rw[h1,q3])) hpw.2
  refine⟨Y',g1,?_,?_,g4⟩
  ·have e:zlp {U with boxes:=U.boxes++[(t,cellsOf (zkn z))]} ps=zlp U ((d,t,z)::ps):=by simp[zlp]
   rw[<-e];exact g2
  ·simpa[zno] using g3
theorem zyp (hIT:ITMono IT)(hF:FenceOk F P)(hG:zrn P B M)(hmix:P.follows .mixedOrders=true) {id:Nat} {ops:Array Oper} {Q:List AV->St->Prop} {K:Exit->Act->World->Prop} {X0 X:Cx} {S:List AV} {U:St} {a:Act}
 (hQ: ∀S U X a,Q S U->Now IT M F B X0 S U X a->K .normal a X.w) (h:qbo IT P (zdk M) ops Q S U) (hn:Now IT M F B X0 S U X a):(Code.region id ops true).wpIn F nn P K a X.w:=by
 obtain⟨l,rfl⟩: ∃l:List Oper,ops=l.toArray:=⟨ops.toList,by simp⟩;obtain⟨n,hc,hnd,h⟩:=h;simp only[List.toList_toArray] at hnd h;have hlen:S.length=a.tmps.size:=by have:=zq hn.reps;simpa using this
 obtain⟨γ0,hγ0⟩: ∃γ0:GB X,γ0=⟨X.w,[],fun _ h=>(by cases h),fun _ h=>(by cases h),fun _ h=>(by cases h),Grows.refl _⟩:=⟨_,rfl⟩;have hπ:(gh X).π γ0=X.w:=by rw[hγ0];rfl
 have hd0:Grows X.w {X.w with drawn:=X.w.drawn+1}:=(Grows.refl _).drew
 have key:=FwdG.wpIn_region_fwd (G:=gh X) (F:=F) (nn:=nn) (P:=P) (id:=id) (Q:=K) (a:=a) (w:=γ0) (w1:=γ0.next {X.w with drawn:=X.w.drawn+1} (by rw[hγ0];exact hd0)) (l:=l) hF n (by rw[hπ];rfl) (γ0.next_le _ _) hmix
  (fun o ho c e=>by
   have:=all_eq_true.1 hnd o ho;rw[e] at this;cases this)
  (by rw[<-hlen];exact hc)
  (zie (P:=P) (γ0:=γ0) (K:=fun S' ps=>zca IT P (zdk M) l.toArray Q (l.drop n) (zno U.boxes.length ps S') (zlp U ps)) hIT hn.inv (fun S' ps acc hk hl hA (γ:(gh X).Γ) hle=>FwdG.endAt_all (G:=gh X) (w:=γ) fun a' h1 h2 h3=> ?_)
   (l.take n) S [] [] h hlen ⟨fun t v γ he=>by
    have e:v=a.eval (.tmp t):=he;subst e;exact zeq hIT (zlc hn.inv γ.B γ.grows) _ _ (zcz hn.reps (.tmp t)),fun _ h=>(by cases h),by simp⟩)
 ·rw[hπ] at key;exact key
 have hE:=zlc hn.inv γ.B γ.grows;have hev: ∀i,i<a.tmps.size->FwdG.env a acc i (a'.eval (.tmp i)) γ:=fun i hi=>h3 i hi;have hval: ∀i (hi:i<a.tmps.size),a'.tmps[i]? =some (a'.eval (.tmp i)):=fun i hi=>by
  have:i<a'.tmps.size:=by omega
  simp[Act.eval,this]
 have hrs:zlr IT (zgz X γ.W γ.B) S' a'.tmps:=zfg (by simp[hl,h1]) fun i x v e1 e2=>by
  have hi:i<a.tmps.size:=by have:=(List.getElem?_eq_some_iff.1 e1).1;omega
  have:=hA.1 i (a'.eval (.tmp i)) γ (hev i hi);have ev:a'.eval (.tmp i)=v:=by
   have h:=hval i hi;have e3:a'.tmps[i]? =some v:=by simpa using e2
   rw[e3] at h;cases h;rfl
  rw[ev] at this;simpa only[zbv,e1,getD_some] using this
 have hpb: ∀p∈ps,p.1<S'.length/\ zlw P p.2.1=some p.2.2/\ ∃b,(p.1,b)∈γ.B/\ a'.tmps[p.1]? =some (.pointer (some ⟨b,0,none⟩))/\ γ.W.heap[b]? =some (.cells p.2.2.cells p.2.1 (0,0)):=fun p hp=>by
  obtain⟨k1,k2,k3,k4⟩:=hA.2.1 p hp;have hi:p.1<a.tmps.size:=by rw[<-hl];exact k1
  obtain⟨b,b1,b2,b3⟩:=k4 _ γ (hev p.1 hi);exact⟨k1,k2,b,b1,by rw[hval p.1 hi,b2],b3⟩
 have hlt: ∀ {b:Nat},X.w.heap.size<=b->b∉X.κ:=fun hb hm=>by have:=hn.inv.κlt hm;omega
 obtain⟨Y',g1,g2,g3,g4⟩:=ztv (P:=P) hIT (X:=X) (tmps:=a'.tmps) ps U (zgz X γ.W γ.B) S' hE (zlj hIT hn.inv γ.B γ.grows) hrs
  (fun p hp=>by
   obtain⟨k1,k2,b,b1,b2,b3⟩:=hpb p hp;have hb:=γ.lo _ b1;refine⟨k2,k1,b,b2,b3,hb,fun o hf=> ?_,hlt hb,fun r hr e=> ?_,fun ho=> ?_⟩
   ·rcases hf with hf|⟨_,hf,_⟩
    ·have:=hn.inv.Flt hf;simp only at hb;omega
    ·exact hf _ b1 rfl
   ·have:=hn.inv.βlt hr;simp only at hb;omega
   ·have:=hn.inv.Olt ho;simp only at hb;omega)
  (by
   have hnd:=hA.2.2;rw[List.nodup_iff_pairwise_ne,List.pairwise_map] at hnd;refine List.Pairwise.imp_of_mem (fun {p q} hp hq hne e=> ?_) hnd;obtain⟨_,_,b,b1,b2,_⟩:=hpb p hp;obtain⟨_,_,b',b1',b2',_⟩:=hpb q hq;rw[b2,b2'] at e;have eb:b=b':=by simpa using e
   have:=γ.nd _ b1 _ b1' eb;exact hne ((Prod.mk.inj this).1))
 have hnow:Now IT M F B X0 (zno U.boxes.length ps S') (zlp U ps) Y' a':=⟨hn.ext.trans (Rel.of g1),g2,g3,by rw[h2];exact hn.marks.ext g1 hn.inv,FrM.ext hG hn.frn g1 hn.inv rfl rfl⟩;have:=zfu (nn:=nn) hIT hF hG hQ (l.drop n) _ _ Y' a' hk hnow;rw[g4] at this;exact this
end
end Go.Ab
