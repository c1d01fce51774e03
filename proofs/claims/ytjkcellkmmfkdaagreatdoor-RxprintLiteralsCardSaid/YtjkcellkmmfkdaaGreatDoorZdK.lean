import Derived.Test.YtjkcellkmmfkdaaGreatDoorZdI
import Derived.Scope
import Derived.Lib.LaidTab
import Derived.Lib.ItoaNum
set_option linter.all false
open Bool (and_eq_true)
open Nat (le_refl le_trans zero_add lt_or_ge)
open Option (getD_some)
open List (mem_of_getElem? getElem?_eq_getElem getElem?_append_left mem_append all_eq_true mem_cons getElem?_set_ne getElem?_set_self getElem?_take mem_range mem_of_mem_take mem_iff_getElem length_set)
namespace Go.FwdG
open Go Go.RowKit Go.Fwd
variable {n:Nat} {Q:Exit->Act->World->Prop}
structure Gh where
 Γ:Type
 π:Γ->World
 Le:Γ->Γ->Prop
 refl: ∀x,Le x x
 trans: ∀x y z,Le x y->Le y z->Le x z
abbrev VP (G:Gh):=Value->G.Γ->Prop
def Mono {G:Gh} (V:VP G):Prop:= ∀v w w',G.Le w w'->V v w->V v w'
def Is {G:Gh} (e:Value):VP G:=fun v _=>v=e
abbrev Acc (G:Gh):=List (Tmp×VP G)
def env {G:Gh} (a0:Act):Acc G->Tmp->VP G
 |[],t=>Is (a0.eval (.tmp t))
 |(d,V)::r,t=>if d=t then V else env a0 r t
def OpGood {G:Gh} (P:Program)(V:VP G)(w:G.Γ):Result Next->Prop
 | .ok (.value v) w'=> ∃x,G.π x=w'/\ G.Le w x/\ V v x
 | .ok .skip w'=> ∃x,G.π x=w'/\ G.Le w x/\ V undef x
 | .ok (.enter f args) w'=>Calls P f args w' fun e w''=> ∃v,e= .returned v/\ ∃x,G.π x=w''/\ G.Le w x/\ V v x
 |_=>False
def All {G:Gh} (E:Tmp->VP G)(ρ:Operand->Value)(w:G.Γ):List Tmp->Prop
 |[]=>True
 |t::r=>E t (ρ (.tmp t)) w/\ All E ρ w r
theorem qow {G:Gh} {E:Tmp->VP G} {ρ:Operand->Value} {w:G.Γ}: ∀ {l:List Tmp},(∀t∈l,E t (ρ (.tmp t)) w)->All E ρ w l
 |[],_=>trivial
 |t::_,h=>⟨h t (by simp),qow fun u hu=>h u (by simp[hu])⟩
def qhq {G:Gh} (P:Program)(ops:Array Oper)(w0:G.Γ)(a0:Act)(acc:Acc G)(V:VP G)(o:Oper):Prop:=
 ∀ (ρ:Operand->Value) (w:G.Γ),Env ρ->G.Le w0 w->All (env a0 acc) ρ w (zhd o.op.operands.toList)->
  match o.guard with
  |none=>OpGood P V w ((execOp ρ o).run P (G.π w))
  |some (k,b)=> ∃d,zbp ops k=some d/\ ∀g,env a0 acc d g w->(g= .bool b->OpGood P V w ((execOp ρ o).run P (G.π w)))/\ (g≠ .bool b->V undef w)
def accOf {G:Gh} (acc:Acc G)(d:Option Tmp)(V:VP G):Acc G:=match d with|some t=>(t,V)::acc|none=>acc
def FwdGo {G:Gh} (P:Program)(ops:Array Oper)(w0:G.Γ)(a0:Act)(fin:Acc G->Prop):List Oper->Acc G->Prop
 |[],acc=>fin acc
 |o::rest,acc=> ∃V,Mono V/\ qhq P ops w0 a0 acc V o/\ FwdGo P ops w0 a0 fin rest (accOf acc o.dst V)
def EndAt {G:Gh} (w:G.Γ):Acc G->Act->(Act->Prop)->Prop
 |[],a,K=>K a
 |(d,V)::r,a,K=>EndAt w r a fun a'=> ∀v,V v w->K (a'.put (some d) v)
section
variable {G:Gh} {F:Fence} {nn:Nat} {P:Program} {ops:Array Oper} {w0:G.Γ} {a0:Act} {md:Region.Mode}
def accU (ops:Array Oper)(Vs:Nat->VP G):Nat->Acc G
 |0=>[]
 |i+1=>accOf (accU ops Vs i) (zbp ops i) (Vs i)
theorem zxm {fin:Acc G->Prop}: ∀(l:List Oper) (k:Nat) (Vs:Nat->VP G),(∀j,j<l.length->l[j]? =ops[k+j]?)->
 FwdGo P ops w0 a0 fin l (accU ops Vs k)->
 ∃Ws:Nat->VP G,(∀i,i<k->Ws i=Vs i)/\ (∀i,k<=i->i<k+l.length->Mono (Ws i)/\ ∀o,ops[i]? =some o->qhq P ops w0 a0 (accU ops Ws i) (Ws i) o)/\ fin (accU ops Ws (k+l.length))
 |[],k,Vs,_,h=>⟨Vs,fun _ _=>rfl,fun i h1 h2=>by simp at h2;omega,h⟩
 | o::l,k,Vs,hl,⟨V,hm,hs,hgo⟩=>by
  have h0:ops[k]? =some o:=by simpa using(hl 0 (by simp)).symm
  have eU: ∀(A B:Nat->VP G) m,(∀i,i<m->A i=B i)->accU ops A m=accU ops B m:=by
   intro A B m;induction m with
   |zero=>intro _;rfl
   |succ m ih=>intro h;simp only[accU,ih (fun i hi=>h i (by omega)),h m (by omega)]
  let Vs':Nat->VP G:=fun i=>if i=k then V else Vs i
  have e1:accU ops Vs' k=accU ops Vs k:=eU _ _ _ fun i hi=>by simp[Vs',Nat.ne_of_lt hi]
  have e2:accU ops Vs' (k+1)=accOf (accU ops Vs k) o.dst V:=by
   simp only[accU,e1,zbp,h0,Option.bind_some];simp[Vs']
  obtain⟨Ws,hw1,hw2,hw3⟩:=zxm l (k+1) Vs' (fun j hj=>by have:=hl (j+1) (by simp;omega);simpa[Nat.add_assoc,Nat.add_comm 1 j] using this) (by rw[e2];exact hgo);have hk:Ws k=V:=by rw[hw1 k (by omega)];simp[Vs']
  have hsame: ∀i,i<k->Ws i=Vs i:=fun i hi=>by rw[hw1 i (by omega)];simp[Vs',Nat.ne_of_lt hi]
  refine⟨Ws,hsame,fun i h1 h2=> ?_,by rw[show k+(o::l).length=k+1+l.length by simp;omega];exact hw3⟩;by_cases hik:i=k
  ·subst hik;rw[hk,eU Ws Vs i hsame];exact⟨hm,fun o' ho'=>by rw[h0] at ho';cases ho';exact hs⟩
  ·exact hw2 i (by omega) (by simp at h2;omega)
theorem env_none {Vs:Nat->VP G} {t:Tmp}: ∀i,(∀j,j<i->zbp ops j≠some t)->env a0 (accU ops Vs i) t=Is (a0.eval (.tmp t))
 |0,_=>rfl
 | i+1,h=>by
  simp only[accU];cases hd:zbp ops i with
  |none=>simp only[accOf];exact env_none i fun j hj=>h j (by omega)
  | some d=>
   have:d≠t:=fun e=>h i (by omega) (by rw[hd,e]);simp only[accOf,env,if_neg this];exact env_none i fun j hj=>h j (by omega)
theorem env_some {Vs:Nat->VP G} {t:Tmp} {j:Nat} (hd:zbp ops j=some t): ∀i,j<i->(∀k,k<i->k≠j->zbp ops k≠some t)->env a0 (accU ops Vs i) t=Vs j
 |0,h,_=>absurd h (Nat.not_lt_zero _)
 | i +1,h,hne=>by
  simp only[accU];by_cases hij:j=i
  ·subst hij;simp[hd,accOf,env]
  ·cases hd':zbp ops i with
   |none=>simp only[accOf];exact env_some hd i (by omega) fun k hk hkj=>hne k (by omega) hkj
   | some d=>
    have:d≠t:=fun e=>hne i (by omega) (by omega) (by rw[hd',e]);simp only[accOf,env,if_neg this];exact env_some hd i (by omega) fun k hk hkj=>hne k (by omega) hkj
structure Inv (ops:Array Oper)(w0:G.Γ)(a0:Act)(Vs:Nat->VP G)(n:Nat)(listed:Array Bool)(a:Act)(w:G.Γ):Prop where
 head:HeadInv .any ops n listed
 grows:G.Le w0 w
 defers:a.defers=a0.defers
 size:a.tmps.size=a0.tmps.size
 done: ∀j t,j<n->zbp ops j=some t->listed.getD j true=true->Vs j (a.eval (.tmp t)) w
 still: ∀t,(∀j,j<n->zbp ops j=some t->listed.getD j true=false)->a.eval (.tmp t)=a0.eval (.tmp t)
theorem Inv.slot {Vs:Nat->VP G} {size i:Nat} {listed:Array Bool} {a:Act} {w:G.Γ} (inv:Inv ops w0 a0 Vs n listed a w)(hB:z3f ops size n=true)
 (hi:i∈Region.ready .any ops listed) (hin:i<n) {t:Tmp} (ht:t∈zgl ops i):env a0 (accU ops Vs i) t (a.eval (.tmp t)) w:=by
 obtain⟨hun,o,ho,hall⟩:=mem_ready.1 hi;by_cases hw: ∃j,j<n/\ zbp ops j=some t
 ·obtain⟨j,hj,hd⟩:=hw;obtain⟨_,hdist,hlk⟩:=zju hB hj hd;rcases hlk i hin ht with⟨hji,hwt⟩|⟨hij,hwt⟩
  ·obtain⟨o',ho',e,he,hb,hon⟩:=zef hwt;rw[ho] at ho';cases ho';have hl:=hall e he hb;rw[hon] at hl;rw[env_some hd i hji fun k hk hkj=>hdist k (by omega) hkj];exact inv.done j t hj hd (zup hl)
  ·obtain⟨o',ho',e,he,hb,hon⟩:=zef hwt;have hnl:listed.getD j true=false:=by
    cases hl:listed.getD j true with
    |false=>rfl
    | true=>
     have hjs:j<listed.size:=by rw[inv.head.size];exact(Array.getElem?_eq_some_iff.1 ho').1
     have:=inv.head.closed j o' ho' (zvo hjs hl) e he hb;rw[hon,getD_both hun] at this;cases this
   rw[env_none i fun k hk hk2=>hdist k (by omega) (by omega) hk2];exact inv.still t fun k hk hk2=>by
    by_cases hkj:k=j
    ·rw[hkj];exact hnl
    ·exact absurd hk2 (hdist k hk hkj)
 ·rw[env_none i fun k hk hk2=>hw ⟨k,by omega,hk2⟩];exact inv.still t fun k hk hk2=>absurd ⟨k,hk,hk2⟩ hw
theorem Inv.step {Vs:Nat->VP G} {i:Nat} {listed:Array Bool} {a:Act} {w w':G.Γ} {v:Value} (inv:Inv ops w0 a0 Vs n listed a w)(hB:z3f ops a0.tmps.size n=true)
 (hm: ∀j,j<n->Mono (Vs j)) (hi:i∈Region.ready .any ops listed) (hin:i<n) (hg:G.Le w w') (hv:Vs i v w'):
 Inv ops w0 a0 Vs n (listed.setIfInBounds i true) (a.put (zbp ops i) v) w':=by
 have hun:=(mem_ready.1 hi).1;refine⟨inv.head.set hi hin,G.trans _ _ _ inv.grows hg,by rw[Act.defers_put];exact inv.defers,by rw[Act.size_put];exact inv.size,fun j t hj hd hl=> ?_,fun t h=> ?_⟩
 ·by_cases hji:j=i
  ·subst hji;rw[hd,Act.eval_put_same (by rw[inv.size];exact(zju hB hj hd).1)];exact hv
  ·rw[getD_set_ne true (Ne.symm hji)] at hl;rw[Act.eval_put fun d h1 h2=>(zju hB hj hd).2.1 i hin (Ne.symm hji) (by rw[h1];cases h2;rfl)];exact hm j hj _ _ _ hg (inv.done j t hj hd hl)
 ·have hne:zbp ops i≠some t:=fun he=>by
   have:=h i hin he;have hs:i<listed.size:=by
    rcases lt_or_ge i listed.size with h'|h'
    ·exact h'
    ·simp[Array.getElem?_eq_none h'] at hun
   simp[hs] at this
  rw[Act.eval_put fun d h1 h2=>hne (by rw[h1];cases h2;rfl)];exact inv.still t fun j hj hd=>by
   have:=h j hj hd;by_cases hji:j=i
   ·subst hji;exact absurd hd hne
   ·rwa[getD_set_ne true (Ne.symm hji)] at this
theorem qcv {Vs:Nat->VP G} {a:Act} {w:G.Γ} (hB:z3f ops a0.tmps.size n=true)(hs:a.tmps.size=a0.tmps.size)(hd:a.defers=a0.defers)
 (done: ∀j t,j<n->zbp ops j=some t->Vs j (a.eval (.tmp t)) w) (still: ∀t,(∀j,j<n->zbp ops j≠some t)->a.eval (.tmp t)=a0.eval (.tmp t)) {K:Act->Prop}
 (h:EndAt w (accU ops Vs n) a0 K):K a:=by
 have key: ∀m,m<=n-> ∀(K:Act->Prop),EndAt w (accU ops Vs m) a0 K-> ∃b:Act,K b/\ b.tmps.size=a0.tmps.size/\ b.defers=a0.defers/\ (∀j t,j<m->zbp ops j=some t->b.eval (.tmp t)=a.eval (.tmp t))/\
  (∀t,(∀j,j<m->zbp ops j≠some t)->b.eval (.tmp t)=a0.eval (.tmp t)):=by
  intro m;induction m with
  |zero=>intro _ K h;exact⟨a0,h,rfl,rfl,fun j t hj=>absurd hj (Nat.not_lt_zero _),fun _ _=>rfl⟩
  | succ m ih=>
   intro hm K h;simp only[accU] at h;cases hdm:zbp ops m with
   | none=>
    rw[hdm] at h;obtain⟨b,h1,h2,h3,h4,h5⟩:=ih (by omega) K h;refine⟨b,h1,h2,h3,fun j t hj hd=> ?_,fun t hh=>h5 t fun j hj=>hh j (by omega)⟩;by_cases hjm:j=m
    ·rw[hjm,hdm] at hd;cases hd
    ·exact h4 j t (by omega) hd
   | some d=>
    rw[hdm] at h;simp only[accOf,EndAt] at h;obtain⟨b,h1,h2,h3,h4,h5⟩:=ih (by omega) _ h;have hsp:=zju hB (show m<n by omega) hdm;refine⟨b.put (some d) (a.eval (.tmp d)),h1 _ (done m d (by omega) hdm),by rw[Act.size_put];exact h2,by rw[Act.defers_put];exact h3,fun j t hj hd'=> ?_,fun t hh=> ?_⟩
    ·by_cases hjm:j=m
     ·rw[hjm,hdm] at hd';cases hd';exact Act.eval_put_same (by rw[h2];exact hsp.1)
     ·rw[Act.eval_put fun d' e1 e2=>by cases e1;cases e2;exact hsp.2.1 j (by omega) hjm hd'];exact h4 j t (by omega) hd'
    ·rw[Act.eval_put fun d' e1 e2=>by cases e1;cases e2;exact hh m (by omega) hdm];exact h5 t fun j hj=>hh j (by omega)
 obtain⟨b,h1,h2,h3,h4,h5⟩:=key n (le_refl _) K h;have:b=a:=by
  have et:b.tmps=a.tmps:=by
   apply Array.ext (by rw[h2,hs]);intro t ht1 ht2;have e:b.eval (.tmp t)=a.eval (.tmp t):=by
    by_cases hw: ∃j,j<n/\ zbp ops j=some t
    ·obtain⟨j,hj,hd'⟩:=hw;exact h4 j t hj hd'
    ·rw[h5 t fun j hj he=>hw ⟨j,hj,he⟩,still t fun j hj he=>hw ⟨j,hj,he⟩]
   simpa[Act.eval,ht1,ht2] using e
  cases a;cases b;simp_all
 rw[<-this];exact h1
theorem zrn {o:Oper} {V:VP G} {a:Act} {w:G.Γ} {K:Act->World->Prop} (hF:FenceOk F P)(hnd: ∀c,o.op≠ .defer c)(h:OpGood P V w ((execOp a.eval o).run P (G.π w)))
 (hK: ∀v w',G.Le w w'->V v w'->K (a.put o.dst v) (G.π w')):o.wpIn F nn P a (G.π w) K Q:=by
 unfold Oper.wpIn;refine⟨fun f _=>hF.fn f,?_⟩;rw[Oper.semAt_plain F _ _ hnd];generalize (execOp a.eval o).run P (G.π w)=r at*
 cases r with
 |halt x w'=>exact h.elim
 | ok x w'=>
  cases x<;>simp only[OpGood] at h<;>simp only[Oper.uponIn]
  case value v=>obtain⟨x,rfl,h1,h2⟩:=h;exact hK _ _ h1 h2
  case skip=>obtain⟨x,rfl,h1,h2⟩:=h;exact hK _ _ h1 h2
  case enter f args=>
   refine⟨fun hd=>(by rw[hF.depth] at hd;cases hd),CallsIn.mono (hF.calls _ _ _ _ _ h) ?_⟩;rintro e w'' ⟨v,rfl,x,rfl,hg,hv⟩;exact hK _ _ hg hv
theorem zrx (hF:FenceOk F P)(hnd: ∀ {i:Nat} (o:Oper),ops[i]? =some o-> ∀c,o.op≠ .defer c) {Vs:Nat->VP G} {n:Nat} {Q:Exit->Act->World->Prop} (hm: ∀j,j<n->Mono (Vs j))(hst: ∀i,i<n-> ∀o,ops[i]? =some o->qhq P ops w0 a0 (accU ops Vs i) (Vs i) o)
 (hB:z3f ops a0.tmps.size n=true) (hback:zyg ops=true) (hn:n<=ops.size) (htail:n=ops.size \/(Region.sinkB .any ops n=true/\ Region.chainB .any ops n=true))
 (hseq:Region.seqB .any ops (ops.size-n) n ((List.replicate n true).toArray++(List.replicate (ops.size-n) false).toArray)=true)
 (hfin: ∀a w,a.tmps.size=a0.tmps.size->a.defers=a0.defers->G.Le w0 w->(∀j t,j<n->zbp ops j=some t->Vs j (a.eval (.tmp t)) w)->(∀t,(∀j,j<n->zbp ops j≠some t)->a.eval (.tmp t)=a0.eval (.tmp t))->
  wpListIn F nn P ops Q (ops.toList.drop n) a (G.π w)):
 ∀(f:Nat) (listed:Array Bool) (a:Act) (w:G.Γ),left n listed=f->Inv ops w0 a0 Vs n listed a w->wpAnyIn F nn P .any ops Q (f+(ops.size-n)) listed a (G.π w)
 | 0, listed,a,w,h0,inv=>by
  have hall:=zjz n h0;have hl:listed=(List.replicate n true).toArray++(List.replicate (ops.size-n) false).toArray:=by
   apply Array.ext
   ·simp[inv.head.size];omega
   ·intro i h1 h2;by_cases hin:i<n
    ·have:=hall i hin;simp[h1] at this;rw[this,Array.getElem_append_left (by simpa using hin)];simp
    ·have hs:i<ops.size:=by rw[<-inv.head.size];exact h1
     have:=inv.head.tail i (by omega) hs;simp[h1] at this;rw[this,Array.getElem_append_right (by simp;omega)];simp
  rw[zero_add];have hlen:(ops.toList.drop n).length=ops.size-n:=by simp
  have:=znl (F:=F) (nn:=nn) (P:=P) (md:= .any) (ops:=ops) (Q':=Q) (ops.toList.drop n) n listed a (G.π w) (fun j=>by simp) (by rw[hlen,hl];exact hseq)
   (hfin a w inv.size inv.defers inv.grows (fun j t hj hd=>inv.done j t hj hd (hall j hj)) (fun t h=>inv.still t fun j hj hd=>absurd hd (h j hj)))
  rwa[hlen] at this
 | f + 1,listed,a,w,h0,inv=>by
  obtain⟨i0,hi0,hu0,hb0⟩:=zoo n (by rw[h0];exact Nat.succ_ne_zero f);have hr0:i0∈Region.ready .any ops listed:=by
   have hlt:i0<ops.size:=by omega
   refine mem_ready.2 ⟨hu0,ops[i0],by simp[hlt],fun e he hb=> ?_⟩;have h1:=all_eq_true.1 hback i0 (mem_range.2 hlt);rw[Array.getElem?_eq_getElem hlt] at h1;have h2:=Array.all_eq_true'.1 h1 e he;have h3:e.on<i0:=by simpa[hb] using h2
   exact zvo (by rw[inv.head.size];omega) (hb0 _ h3)
  rw[show f+1+(ops.size-n)=(f+(ops.size-n))+1 by omega];refine⟨fun h=>(by rw[h] at hr0;cases hr0),fun i hi=> ?_⟩;have hlt:i<ops.size:=by obtain⟨_,o,ho,_⟩:=mem_ready.1 hi;exact(Array.getElem?_eq_some_iff.1 ho).1
  have hin:i<n:=by
   rcases lt_or_ge i n with h|h
   ·exact h
   ·rcases htail with hh|⟨hs,hc⟩
    ·omega
    ·exact absurd hi (tail_waits hs hc (by omega) inv.head _ i0 rfl hi0 hu0 i h)
  obtain⟨hun,o,ho,_⟩:=mem_ready.1 hi;have hleft:left n (listed.setIfInBounds i true)=f:=by have:=zoj hun n hin;omega
  have next: ∀v w',G.Le w w'->Vs i v w'->wpAnyIn F nn P .any ops Q (f+(ops.size-n)) (listed.setIfInBounds i true) (a.put o.dst v) (G.π w'):=fun v w' hg hv=>by
   have:=inv.step hB hm hi hin hg hv;have e:zbp ops i=o.dst:=by simp[zbp,ho]
   rw[e] at this;exact zrx hF hnd hm hst hB hback hn htail hseq hfin f _ _ _ hleft this
  have hlk: ∀t∈zhd o.op.operands.toList,env a0 (accU ops Vs i) t (a.eval (.tmp t)) w:=fun t ht=>inv.slot hB hi hin (by simp only[zgl,ho];exact mem_append.2 (.inl ht));have hs:=hst i hin o ho a.eval w (z0g a) inv.grows (qow hlk);unfold wpOpIn;simp only[ho];cases hgd:o.guard with
  | none=>
   rw[hgd] at hs;simp only[Region.wanted,hgd,if_true];exact zrn hF (hnd o ho) hs next
  | some kb=>
   obtain⟨k,b⟩:=kb;rw[hgd] at hs;simp only at hs;obtain⟨d,hd,hs⟩:=hs;have hg:=hs (a.eval (.tmp d)) (inv.slot hB hi hin (by simp only[zgl,ho,hgd,hd];exact mem_append.2 (.inr (by simp))));have hy:yielded ops a.tmps k=match a.tmps[d]? with|some (.bool c)=>some c|_=>none:=by
    unfold yielded;have:(ops[k]?).bind (·.dst)=some d:=hd;rw[this];rfl
   by_cases hb:a.eval (.tmp d)= .bool b
   ·have hw:Region.wanted o (yielded ops a.tmps)=true:=by
     simp only[Region.wanted,hgd,hy];have:a.tmps[d]? =some (.bool b):=by
      simp only[Act.eval] at hb;cases hh:a.tmps[d]? with
      |none=>simp[hh,undef] at hb
      |some x=>simp[hh] at hb;rw[hb]
     rw[this];simp
    rw[if_pos hw];exact zrn hF (hnd o ho) (hg.1 hb) next
   ·have hw: ¬Region.wanted o (yielded ops a.tmps)=true:=by
     simp only[Region.wanted,hgd,hy];intro h;apply hb;simp only[Act.eval];cases hh:a.tmps[d]? with
     |none=>simp[hh] at h
     |some x=>cases x<;>simp[hh] at h;simp[hh,h]
    rw[if_neg hw];exact⟨fun f _=>hF.fn f,next _ _ (G.refl w) (hg.2 hb)⟩
end
theorem wpIn_region_fwd {G:Gh} {F:Fence} {nn:Nat} {P:Program} {id:Nat} {a:Act} {w w1:G.Γ} {l:List Oper} (hF:FenceOk F P)(n:Nat)(hw1:G.π w1={G.π w with drawn:=(G.π w).drawn+1})(hle:G.Le w w1)(hm:P.follows .mixedOrders=true)(hnd: ∀o∈l,∀c,o.op≠ .defer c)(hB:chk l.toArray a.tmps.size n=true)
 (h:FwdGo P l.toArray w a (fun acc=> ∀w',G.Le w w'->EndAt w' acc a fun a'=>wpListIn F nn P l.toArray Q (l.drop n) a' (G.π w')) (l.take n) []):(Code.region id l.toArray true).wpIn F nn P Q a (G.π w):=by
 simp only[chk,and_eq_true,decide_eq_true_eq,Bool.or_eq_true] at hB;obtain⟨⟨⟨⟨h1,h2⟩,h3⟩,h4⟩,h5⟩:=hB;obtain⟨Vs,_,hs,hf⟩:=zxm (P:=P) (ops:=l.toArray) (w0:=w) (a0:=a) (l.take n) 0 (fun _ _ _=>True) (fun j hj=>qlg hj) h;have hlen:(l.take n).length=n:=by simp at h3⊢;omega
 rw[hlen,zero_add] at hs hf;refine wpIn_region_any hm ?_;rw[<-hw1]
 have key:=zrx (F:=F) (nn:=nn) (P:=P) hF (fun o ho=>hnd o (by simpa using mem_of_getElem? (by simpa using ho))) (ops:=l.toArray) (w0:=w) (a0:=a) (Vs:=Vs) (n:=n) (Q:=Q) (fun j hj=>(hs j (Nat.zero_le _) (by omega)).1) (fun i hi=>(hs i (Nat.zero_le _) (by omega)).2) h1 h2 h3 h4 h5
  (fun a' w' e1 e2 hg hd hst=>by
   have:=qcv (K:=fun a'=>wpListIn F nn P l.toArray Q (l.drop n) a' (G.π w')) h1 e1 e2 hd hst (hf w' hg);simpa using this)
  (left n (Array.replicate l.toArray.size false)) (Array.replicate l.toArray.size false) a w1 rfl
  ⟨⟨by simp,fun j oj _ hl=>(by rw[getD_replicate_false] at hl;cases hl),fun t _ ht=>getD_in (by simpa using ht) (getD_replicate_false _ _)⟩,hle,rfl,rfl,
   fun j t hj _ hl=>by
    have:j<l.toArray.size:=by omega
    simp at this;simp[this] at hl,fun _ _=>rfl⟩
 have hleft: ∀m,m<=l.toArray.size->left m (Array.replicate l.toArray.size false)=m:=by
  intro m;induction m with
  |zero=>intro _;rfl
  | succ m ih=>
   intro hm;have:m<l.length:=by simp at hm;omega
   simp only[left,ih (by omega)];simp[this]
 rw[hleft n h3,show n+(l.toArray.size-n)=l.toArray.size by omega] at key;exact key
section
variable {G:Gh}
theorem endAt_all {w:G.Γ}: ∀ {acc:Acc G} {a:Act} {K:Act->Prop},
 (∀a',a'.tmps.size=a.tmps.size->a'.defers=a.defers->(∀t,t<a.tmps.size->env a acc t (a'.eval (.tmp t)) w)->K a')->EndAt w acc a K
 |[],a,K,h=>h a rfl rfl fun _ _=>rfl
 | (d,V)::r,a,K,h=>by
  show EndAt w r a fun a'=> ∀v,V v w->K (a'.put (some d) v);refine endAt_all fun a' h1 h2 h3 v hv=>h _ (by simp[Act.put,h1]) (by simp[Act.put,h2]) fun t ht=> ?_;simp only[env];by_cases hd:d=t
  ·rw[if_pos hd,hd];have:(a'.put (some t) v).eval (.tmp t)=v:=by simp[Act.put,Act.eval,h1,ht]
   rw[this];exact hv
  ·rw[if_neg hd];have:(a'.put (some d) v).eval (.tmp t)=a'.eval (.tmp t):=by simp[Act.put,Act.eval,Array.getElem?_setIfInBounds,hd]
   rw[this];exact h3 t ht
end
end Go.FwdG
namespace Go.Ab
open Go Go.RowKit Go.Fwd
def zit (IT:IterP)(P:Program)(o:Oper)(S:List AV)(U:St)(K:AV->Prop):Prop:=
 match zct S o with
 |some (f,args)=> ∃r,zac 0 args=true/\ Pure IT P f (stripL args) r/\ K r
 |none=> ∃a,QopR P (zbw S) U o a/\ K a
def zfr (IT:IterP)(P:Program)(ops:Array Oper)(U:St)(K:List AV->Prop):List Oper->List AV->Prop
 |[],S=>K S
 | o::l,S=>(o.dst.all fun d=>decide (d<S.length))=true/\ match o.guard with
  |none=>zit IT P o S U fun a=>zfr IT P ops U K l (zad S o.dst a)
  |some (k,b)=> ∃c,zdx ops S k=some c/\ (if c=some b then zit IT P o S U fun a=>zfr IT P ops U K l (zad S o.dst a) else zfr IT P ops U K l (zad S o.dst (.raw undef)))
def zvh (l:List Oper):Bool:=l.all fun o=>match o.op with| .defer _=>false|_=>true
theorem zay (S:List AV)(d:Option Tmp)(x:AV):(zad S d x).length=S.length:=by cases d<;>simp[zad]
variable {X:Cx} {a0:Act} {S:List AV}
theorem qbg {Y:Cx} (h:Ext X Y) {b:Nat} (hb:X.w.heap.size<=b):Ext X {Y with κ:=Y.κ++[b]} where
 os:=h.os
 tape:=h.tape
 output:=h.output
 size:=h.size
 drawn:=h.drawn
 F:=h.F
 cell:=h.cell
 κ :=fun s b' hs=>by
  have h1:=h.κ s b' hs;have:=(List.getElem?_eq_some_iff.1 h1).1
  show(Y.κ++[b])[s]? =_
  rw[getElem?_append_left this];exact h1
 lens:=h.lens
 blk:=h.blk
 szs:=h.szs
 frame:=h.frame
 κnew:=fun b' hm=>by
  rcases mem_append.1 hm with hm|hm
  ·exact h.κnew b' hm
  ·simp at hm;subst hm;exact .inr hb
 βnew:=h.βnew
 O:=h.O
 C:=h.C
 Fnew:=h.Fnew
theorem zxf (Y:Cx)(b:Nat):Sub Y {Y with κ:=Y.κ++[b]} where
 F:=fun _ _ h=>h
 cell:=fun _ _ _=>rfl
 κ :=fun s b' h1=>by
  have:=(List.getElem?_eq_some_iff.1 h1).1
  show(Y.κ++[b])[s]? =_
  rw[getElem?_append_left this];exact h1
 lens:=fun s L h=>⟨L,h,le_refl _,fun _=>rfl⟩
 blk:=fun _ _ _ cur _ _ h=>⟨cur,h,rfl⟩
 szs:=Szs.heap rfl
theorem qbz {IT:IterP} (hIT:ITMono IT) {U:St} {Y:Cx} (hI:Inv IT U Y) {b:Nat} {t:TypeId} {cs:List AV} {us:List Value} (hb:Y.w.heap[b]? =some (.cells us.toArray t (0,0)))(hr:zbf IT Y cs us)(h1: ∀v∈us,v.oneCell'=true)
 (hF: ∀o,¬Y.F b o) (hκ:b∉Y.κ) (hβ: ∀r∈Y.β,r.block≠b) (hO: ¬Y.O b):Inv IT {U with boxes:=U.boxes++[(t,cs)]} {Y with κ:=Y.κ++[b]}:=by
 have hlen:=hI.κlen;have old: ∀s b',(Y.κ++[b])[s]? =some b'->(Y.κ[s]? =some b'/\ s<U.boxes.length) \/(s=Y.κ.length/\ b'=b):=fun s b' h=>by
  rcases lt_or_ge s Y.κ.length with hlt|hge
  ·rw[getElem?_append_left hlt] at h;exact .inl ⟨h,by omega⟩
  ·have:=(List.getElem?_eq_some_iff.1 h).1;simp at this;have e:s=Y.κ.length:=by omega
   subst e;simp at h;exact .inr ⟨rfl,h.symm⟩
 have up: ∀s,s<U.boxes.length->(∃t,U.boxes[s]? =some (t,[]))-> ∃t',(U.boxes++[(t,cs)])[s]? =some (t',[]):=fun s hs ⟨t0,h⟩=>⟨t0,by rw[getElem?_append_left hs];exact h⟩;have hS:=zxf Y b;refine {lens:=hI.lens,elems:=hI.elems,κlen:=by simp[hI.κlen],κnd:= ?_,box:= ?_,κF:= ?_,βlen:=hI.βlen,βnd:=hI.βnd,βκ:= ?_,row:=hI.row,Ok:= ?_,Fcell:=hI.Fcell,gv:=hI.gv}
 ·intro s s' b' h2 h3 h4;rcases old s b' h2 with⟨k2,l2⟩|⟨k2,l2⟩
  ·rcases old s' b' h3 with⟨k3,l3⟩|⟨k3,l3⟩
   ·exact(hI.κnd s s' b' k2 k3 h4).imp (up s l2) (up s' l3)
   ·subst l3;exact absurd (mem_of_getElem? k2) hκ
  ·rcases old s' b' h3 with⟨k3,l3⟩|⟨k3,l3⟩
   ·subst l2;exact absurd (mem_of_getElem? k3) hκ
   ·omega
 ·intro s b' t' c hs hb';rcases old s b' hs with⟨k2,l2⟩|⟨k2,l2⟩
  ·have hb2:U.boxes[s]? =some (t',c):=by rw[<-hb'];exact(getElem?_append_left l2).symm
   obtain⟨vs,zs,u1,u2,u3⟩:=hI.box s b' t' c k2 hb2;exact⟨vs,zs,u1,zbu hIT hS _ _ u2,u3⟩
  ·subst k2;subst l2;have e2:(t,cs)=(t',c):=by
    have:(U.boxes++[(t,cs)])[Y.κ.length]? =some (t',c):=hb';rw[hlen] at this;simpa using this
   cases e2;exact⟨us,[],by rw[List.append_nil];exact hb,zbu hIT hS _ _ hr,h1⟩
 ·intro s b' t' c hs hb' hc o hf;rcases old s b' hs with⟨k2,l2⟩|⟨k2,l2⟩
  ·exact hI.κF s b' t' c k2 (by rw[<-hb'];exact(getElem?_append_left l2).symm) hc o hf
  ·subst l2;exact hF o hf
 ·intro r hr' hm;rcases mem_append.1 hm with hm|hm
  ·exact hI.βκ r hr' hm
  ·simp at hm;exact hβ r hr' hm
 ·intro b' ho;obtain⟨h0,h2,h3,h4⟩:=hI.Ok b' ho;refine⟨h0,fun hm=> ?_,h3,h4⟩;rcases mem_append.1 hm with hm|hm
  ·exact h2 hm
  ·simp at hm;subst hm;exact hO ho
def znh (P:Program)(t:TypeId):Option Value:=
 match P.info? t with
 | some i=>match i.zero with
  |some z=>if zpx z=true/\ ziw (zlu z)=true then some z else none
  |none=>none
 |none=>none
abbrev Pend:=List (Tmp×TypeId×Value)
def zev (IT:IterP)(P:Program)(ops:Array Oper)(U:St)(K:List AV->Pend->Prop):List Oper->List AV->Pend->Prop
 |[],S,ps=>K S ps
 | o::l,S,ps=>(o.dst.all fun d=>decide (d<S.length))=true/\ (ps.all fun p=>o.dst !=some p.1)=true/\
  ((o.guard=none/\ ∃t d z,o.op= .alloc t/\ o.dst=some d/\ znh P t=some z/\ zev IT P ops U K l (S.set d .top) (ps++[(d,t,z)])) \/
   match o.guard with
   |none=>zit IT P o S U fun a=>zev IT P ops U K l (zad S o.dst a) ps
   |some (k,b)=> ∃c,zdx ops S k=some c/\ (if c=some b then zit IT P o S U fun a=>zev IT P ops U K l (zad S o.dst a) ps else zev IT P ops U K l (zad S o.dst (.raw undef)) ps))
def zpd:Nat->Pend->List AV->List AV
 |_,[],S=>S
 |n,p::ps,S=>zpd (n+1) ps (S.set p.1 (.ptr n 0))
def zna (U:St)(ps:Pend):St:={U with boxes:=U.boxes++ps.map fun p=>(p.2.1,cellsOf (zlu p.2.2))}
def qgf (IT:IterP)(P:Program)(W:Owed)(ops:Array Oper)(Q:List AV->St->Prop)(S:List AV)(U:St):Prop:=
 ∃n,chk ops S.length n=true/\ zvh ops.toList=true/\ zev IT P ops U (fun S' ps=>zcb IT P W ops Q (ops.toList.drop n) (zpd U.boxes.length ps S') (zna U ps)) (ops.toList.take n) S []
def zhw (X:Cx)(W:World)(B:List (Nat×Nat)):Cx:={X with F:=fun b i=>X.F b i \/(X.w.heap.size<=b/\ (∀p∈B,p.2≠b)/\ ∃v,W.cell? ⟨b,i,none⟩=some v),w:=W}
theorem zmn {IT:IterP} {U:St} (hI:Inv IT U X) {W:World} (B:List (Nat×Nat))(hg:Grows X.w W):Ext X (zhw X W B) where
 os:=hg.os
 tape:=hg.tape
 output:=hg.output
 size:=hg.size
 drawn:=hg.drawn
 F:=fun _ _ h=> .inl h
 cell:=fun b i hf=>World.cell?_of_block (hg.block _ (hI.Flt hf))
 κ:=fun _ _ h=>h
 lens:=fun s L h=>⟨L,h,le_refl _,fun _=>rfl⟩
 blk:=fun s b hs cur t f h=>⟨cur,(hg.block b (hI.κlt (mem_of_getElem? hs))).trans h,rfl⟩
 szs:=Szs.old fun k hk=>hg.block k hk
 frame:=fun b hb _ _=>hg.block b hb
 κnew:=fun _ h=> .inl h
 βnew:=fun r h=> .inl ⟨r,h,rfl⟩
 O:=rfl
 C:=rfl
 Fnew:=fun b i h=>h.imp id fun h=> .inl h.1
theorem zmt {IT:IterP} (hIT:ITMono IT) {U:St} {X:Cx} (hI:Inv IT U X) {W:World} (B:List (Nat×Nat))(hg:Grows X.w W):Inv IT U (zhw X W B):=by
 have hX:=zmn hI B hg;refine {lens:=hI.lens,elems:=hI.elems,κlen:=hI.κlen,κnd:=hI.κnd,box:= ?_,κF:= ?_,βlen:=hI.βlen,βnd:=hI.βnd,βκ:=hI.βκ,row:= ?_,Ok:= ?_,Fcell:= ?_}
 ·intro s b t cs hs hb;obtain⟨us,zs,u1,u2,u3⟩:=hI.box s b t cs hs hb;exact⟨us,zs,(hg.block b (hI.κlt (mem_of_getElem? hs))).trans u1,zam hIT hX _ _ u2,u3⟩
 ·intro s b t cs hs hb hc o hf;rcases hf with h|⟨h,_⟩
  ·exact hI.κF s b t cs hs hb hc o h
  ·have:=hI.κlt (mem_of_getElem? hs);omega
 ·intro s q L hq hL;obtain⟨cur,fz,c1,c2,c3,c4,c5,c6,c7⟩:=hI.row s q L hq hL;have hlt:=hI.βlt (mem_of_getElem? hq);refine⟨cur,fz,(hg.block _ hlt).trans c1,c2,c3,c4,c5,fun o hf=> ?_,c7⟩;rcases hf with h|⟨h,_⟩
  ·exact c6 o h
  ·omega
 ·intro b ho;obtain⟨⟨cs0,t0,f0,h0⟩,h2,h3,h4⟩:=hI.Ok b ho;have hlt:=hI.Olt ho;exact⟨⟨cs0,t0,f0,(hg.block b hlt).trans h0⟩,h2,h3,fun o hf=>hf.elim (h4 o) fun h=>by omega⟩
 ·intro b o hf;rcases hf with h|⟨_,_,h⟩
  ·obtain⟨v,hv⟩:=hI.Fcell b o h;exact⟨v,(hX.cell b o h).trans hv⟩
  ·exact h
structure GB (X:Cx) where
 W:World
 B:List (Nat×Nat)
 lo: ∀p∈B,X.w.heap.size<=p.2
 hi: ∀p∈B,p.2<W.heap.size
 nd: ∀p∈B,∀q∈B,p.2=q.2->p=q
 grows:Grows X.w W
def gh (X:Cx):FwdG.Gh where
 Γ:=GB X
 π:=GB.W
 Le:=fun x y=>Grows x.W y.W/\ (∀p∈x.B,p∈y.B)/\ ∀p∈y.B,p∈x.B \/x.W.heap.size<=p.2
 refl:=fun x=>⟨Grows.refl _,fun _ h=>h,fun _ h=> .inl h⟩
 trans:=fun x y z h k=>⟨h.1.trans k.1,fun p hp=>k.2.1 p (h.2.1 p hp),fun p hp=>(k.2.2 p hp).elim (h.2.2 p) fun h'=> .inr (le_trans h.1.size h')⟩
theorem qbt {x y:GB X} (hXF: ∀b i,X.F b i->b<X.w.heap.size)(h:(gh X).Le x y):Sub (zhw X x.W x.B) (zhw X y.W y.B):=by
 obtain⟨hg,h2,h3⟩:=h;refine⟨fun b i hf=> ?_,fun b i hf=> ?_,fun _ _ h=>h,fun s L h=>⟨L,h,le_refl _,fun _=>rfl⟩,fun s b hs cur t f h=>⟨cur,(hg.block b (Array.getElem?_eq_some_iff.1 h).1).trans h,rfl⟩,Szs.old fun k hk=>hg.block k hk⟩
 ·rcases hf with hf|⟨k1,k2,v,k3⟩
  ·exact .inl hf
  ·refine .inr ⟨k1,fun p hp e=> ?_,v,(World.cell?_of_block (hg.block _ (z0q k3))).trans k3⟩;rcases h3 p hp with h|h
   ·exact k2 p h e
   ·have:=z0q k3;omega
 ·refine World.cell?_of_block (hg.block _ ?_);rcases hf with hf|⟨_,_,v,k3⟩
  ·exact Nat.lt_of_lt_of_le (hXF b i hf) x.grows.size
  ·exact z0q k3
section
variable {IT:IterP} {P:Program} {M:Option Gen} {F:Fence} {nn B:Nat}
def VB (IT:IterP)(X:Cx)(x:AV):FwdG.VP (gh X):=fun v (γ:GB X)=>Rep IT (zhw X γ.W γ.B) x v
def VN (X:Cx)(d:Tmp)(t:TypeId)(z:Value):FwdG.VP (gh X):=fun v (γ:GB X)=> ∃b,(d,b)∈γ.B/\ v= .pointer (some ⟨b,0,none⟩)/\ γ.W.heap[b]? =some (.cells z.cells t (0,0))
theorem z5e (hIT:ITMono IT) {U:St} {X:Cx} (hI:Inv IT U X)(x:AV):FwdG.Mono (VB IT X x):=fun v w w' hg h=>
 zll hIT (qbt (fun b i h=>hI.Flt h) hg) _ _ h
theorem vn_mono (d:Tmp)(t:TypeId)(z:Value):FwdG.Mono (VN X d t z):=fun v w w' hg ⟨b,h1,h2,h3⟩=>
 ⟨b,hg.2.1 _ h1,h2,(hg.1.block b (Array.getElem?_eq_some_iff.1 h3).1).trans h3⟩
def zrk (IT:IterP)(X:Cx)(a0:Act)(acc:FwdG.Acc (gh X))(S:List AV)(ps:Pend):Prop:=
 (∀t v (γ:GB X),FwdG.env a0 acc t v γ->Rep IT (zhw X γ.W γ.B) (zbw S (.tmp t)) v)/\
 (∀p∈ps,p.1<S.length/\ znh P p.2.1=some p.2.2/\ S[p.1]? =some .top/\ ∀v (γ:GB X),FwdG.env a0 acc p.1 v γ->VN X p.1 p.2.1 p.2.2 v γ)/\ (ps.map (·.1)).Nodup
theorem zlf {X:Cx} {acc:FwdG.Acc (gh X)} {d:Option Tmp} {V:FwdG.VP (gh X)} {t:Tmp}:FwdG.env a0 (FwdG.accOf acc d V) t=if d=some t then V else FwdG.env a0 acc t:=by
 cases d with
 |none=>simp[FwdG.accOf]
 |some d=>simp[FwdG.accOf,FwdG.env]
theorem zrf {acc:FwdG.Acc (gh X)} {ps:Pend} (h:zrk (P:=P) IT X a0 acc S ps)(d:Option Tmp)(x:AV)(hd:(d.all fun d=>decide (d<S.length))=true)(hp:(ps.all fun p=>d !=some p.1)=true):
 zrk (P:=P) IT X a0 (FwdG.accOf acc d (VB IT X x)) (zad S d x) ps:=by
 obtain⟨h1,h2,h3⟩:=h;refine⟨fun t v γ he=> ?_,fun p hpm=> ?_,h3⟩
 ·rw [zlf] at he;by_cases e:d=some t
  ·subst e;rw[if_pos rfl] at he;have hlt:t<S.length:=by simpa using hd
   simp only[zad,zbw,getElem?_set_self hlt,getD_some];exact he
  ·rw[if_neg e] at he;have:zbw (zad S d x) (.tmp t)=zbw S (.tmp t):=by
    cases d with
    |none=>rfl
    |some d=>simp only[zad,zbw];rw[getElem?_set_ne (fun h=>e (by rw[h]))]
   rw[this];exact h1 t v γ he
 ·obtain⟨k1,k2,k3,k4⟩:=h2 p hpm;have hne:d≠some p.1:=by simpa using all_eq_true.1 hp p hpm
  refine⟨by rw[zay];exact k1,k2,?_,fun v γ he=>k4 v γ ?_⟩
  ·cases d with
   |none=>exact k3
   |some d=>simp only[zad];rw[getElem?_set_ne (fun h=>hne (by rw[h]))];exact k3
  ·rw[zlf,if_neg hne] at he;exact he
theorem qbq {acc:FwdG.Acc (gh X)} {ps:Pend} (h:zrk (P:=P) IT X a0 acc S ps) {d:Tmp} {t:TypeId} {z:Value} (hd:d<S.length)(hp:(ps.all fun p=>some d !=some p.1)=true)(hz:znh P t=some z):
 zrk (P:=P) IT X a0 (FwdG.accOf acc (some d) (VN X d t z)) (S.set d .top) (ps++[(d,t,z)]):=by
 obtain⟨h1,h2,h3⟩:=h;have hne: ∀p∈ps,d≠p.1:=fun p hpm=>by simpa using all_eq_true.1 hp p hpm
 refine⟨fun u v γ he=> ?_,fun p hpm=> ?_,?_⟩
 ·rw[zlf] at he;by_cases e:d=u
  ·subst e;simp only[zbw,getElem?_set_self hd,getD_some];rw[Rep];trivial
  ·rw[if_neg (fun h=>e (Option.some.inj h))] at he;simp only[zbw];rw[getElem?_set_ne e];exact h1 u v γ he
 ·rcases mem_append.1 hpm with hpm|hpm
  ·obtain⟨k1,k2,k3,k4⟩:=h2 p hpm;refine⟨by rw[length_set];exact k1,k2,by rw[getElem?_set_ne (hne p hpm)];exact k3,fun v γ he=>k4 v γ ?_⟩;rw[zlf,if_neg (fun h=>hne p hpm (Option.some.inj h))] at he;exact he
  ·simp only[List.mem_singleton] at hpm;subst hpm;refine⟨by rw[length_set];exact hd,hz,getElem?_set_self hd,fun v γ he=> ?_⟩;rw[zlf,if_pos rfl] at he;exact he
 ·rw[List.map_append,List.nodup_append];refine⟨h3,by simp,fun a ha b hb=> ?_⟩;obtain⟨p,hpm,rfl⟩:=List.mem_map.1 ha;simp at hb;subst hb;exact fun e=>hne p hpm e.symm
theorem zwr {acc:FwdG.Acc (gh X)} {ps:Pend} (h:zrk (P:=P) IT X a0 acc S ps) {ρ:Operand->Value} {γ:GB X} (hE:Env ρ) {l:List Operand} (hr:FwdG.All (G:=gh X) (FwdG.env a0 acc) ρ γ (zhd l)): ∀x∈l,Rep IT (zhw X γ.W γ.B) (zbw S x) (ρ x):=by
 induction l with
 |nil=>intro x hx;cases hx
 | cons y l ih=>
  intro x hx;cases y with
  | tmp t=>
   simp only[zhd,FwdG.All] at hr;rcases mem_cons.1 hx with rfl|hx
   ·exact h.1 t _ γ hr.1
   ·exact ih hr.2 x hx
  | const v=>
   rcases mem_cons.1 hx with rfl|hx
   ·rw[hE.const];simp only[zbw];split
    ·rename_i h;exact zjr v h
    ·rw[Rep]
   ·exact ih hr x hx
  | func f=>
   rcases mem_cons.1 hx with rfl|hx
   ·rw[hE.func];simp only[zbw,Rep];exact⟨[],rfl,by rw[zbf]⟩
   ·exact ih hr x hx
  | global g=>
   rcases mem_cons.1 hx with rfl|hx
   ·rw[hE.global];simp[zbw,Rep]
   ·exact ih hr x hx
def GB.next (γ:GB X)(W:World)(hg:Grows γ.W W):GB X:=⟨W,γ.B,γ.lo,fun p hp=>Nat.lt_of_lt_of_le (γ.hi p hp) hg.size,γ.nd,γ.grows.trans hg⟩
theorem GB.next_le (γ:GB X)(W:World)(hg:Grows γ.W W):(gh X).Le γ (γ.next W hg):=⟨hg,fun _ h=>h,fun _ h=> .inl h⟩
theorem zrh (hIT:ITMono IT) {U:St} {X:Cx} (hI:Inv IT U X) {a0:Act} {acc:FwdG.Acc (gh X)} {S:List AV} {ps:Pend} {o:Oper} {K:AV->Prop} (h:zit IT P o S U K)(hA:zrk (P:=P) IT X a0 acc S ps):
 ∃x,K x/\ ∀(ρ:Operand->Value) (γ:GB X),Env ρ->FwdG.All (G:=gh X) (FwdG.env a0 acc) ρ γ (zhd o.op.operands.toList)->FwdG.OpGood (G:=gh X) P (VB IT X x) γ ((execOp ρ o).run P γ.W):=by
 unfold zit at h;have fin: ∀ {x:AV} {v:Value} {γ:GB X} {X':Cx} (hg:Grows γ.W X'.w),Inv IT U X'->Rep IT X' x v->X'.κ=X.κ->X'.β=X.β->X'.lens=X.lens->(∀b i,X'.F b i->(zhw X γ.W γ.B).F b i \/γ.W.heap.size<=b)->VB IT X x v (γ.next X'.w hg):=by
  intro x v γ X' hg h2 h3 h5 h6 h7 h8;show Rep IT (zhw X X'.w γ.B) x v;refine zll hIT (X:=X') (X':=zhw X X'.w γ.B) ⟨fun b i hf=> ?_,fun _ _ _=>rfl,fun s b hs=>by rw[h5] at hs;exact hs,fun s L hs=>by rw[h7] at hs;exact⟨L,hs,le_refl _,fun _=>by rw[h6];rfl⟩,fun s b hs cur t f h=>⟨cur,h,rfl⟩,Szs.refl _⟩ _ _ h3;rcases h8 b i hf with h|h
  ·rcases h with h|⟨ha,hb,hc⟩
   ·exact .inl h
   ·exact .inr ⟨ha,hb,h2.Fcell b i hf⟩
  ·refine .inr ⟨le_trans γ.grows.size h,fun p hp e=> ?_,h2.Fcell b i hf⟩;have:=γ.hi p hp;omega
 split at h
 ·rename_i f args hc;obtain⟨r,hok,hp,hk⟩:=h;refine⟨r,hk,fun ρ γ hE hr=> ?_⟩;have hρ:=zwr hA hE hr;obtain⟨vs,hrun,hrr⟩:=zkn (IT:=IT) (P:=P) (X:=zhw X γ.W γ.B) hc (fun x hx=>hρ x (by simpa using hx)) hp.1;rw[show(execOp ρ o).run P γ.W=_ from hrun];refine(zle hIT hp rfl hok (zmt hIT hI γ.B γ.grows) hrr).mono ?_;rintro e w' ⟨v,X',rfl,rfl,h1,h2,h3,h4,h5,h6,h7,hO,h8⟩;exact⟨v,rfl,γ.next X'.w h4,rfl,γ.next_le X'.w h4,fin h4 h2 h3 h5 h6 h7 h8⟩
 ·obtain⟨x,hx,h⟩:=h;refine⟨x,h,fun ρ γ hE hr=> ?_⟩;have hρ:=zwr hA hE hr;obtain⟨v,X',h1,h2,h3,h4,h5,h6,h7,h8,hO,h9⟩:=qbi hIT (X:=zhw X γ.W γ.B) hx (fun x hx=>hρ x (by simpa using hx)) (zmt hIT hI γ.B γ.grows);rw[show(execOp ρ o).run P γ.W=_ from h1];exact⟨γ.next X'.w h5,rfl,γ.next_le X'.w h5,fin h5 h3 h4 h6 h7 h8 h9⟩
theorem zuv {t:TypeId} {z:Value} (h:znh P t=some z):(∃i,P.info? t=some i/\ i.zero=some z)/\ zpx z=true/\ ziw (zlu z)=true:=by
 unfold znh at h;split at h<;>try cases h
 rename_i i hi;split at h<;>try cases h
 rename_i z' hz;split at h<;>cases h
 rename_i hc;exact⟨⟨i,hi,hz⟩,hc⟩
theorem qcl {γ:GB X} {ρ:Operand->Value} {o:Oper} {t:TypeId} {d:Tmp} {z:Value} (ho:o.op= .alloc t)(hz:znh P t=some z):
 FwdG.OpGood (G:=gh X) P (VN X d t z) γ ((execOp ρ o).run P γ.W):=by
 obtain⟨⟨i,hi,hz'⟩,_,_⟩:=zuv hz;have hrun:(Instr.alloc t true (.tuple #[])).run P γ.W= .ok (.pointer (some ⟨γ.W.heap.size,0,none⟩)) (γ.W.alloc (.cells z.cells t)):=by
  have:(Instr.alloc t true (.tuple #[])).run P γ.W=(Instr.box t z).run P γ.W:=by
   simp[Instr.alloc,Instr.box,zke hi hz']
  rw[this];simp only[Instr.box,Sem.run_bind,zpz,Result.andThen_ok,Sem.run_pure]
 have hrun2:(execOp ρ o).run P γ.W= .ok (.value (.pointer (some ⟨γ.W.heap.size,0,none⟩))) (γ.W.alloc (.cells z.cells t)):=by simp[execOp,ho,hrun]
 rw[hrun2];have hg:Grows γ.W (γ.W.alloc (.cells z.cells t)):=(Ex.refl _ _).alloc (le_refl _) _;refine⟨⟨γ.W.alloc (.cells z.cells t),(d,γ.W.heap.size)::γ.B,fun p hp=> ?_,fun p hp=> ?_,fun p hp q hq e=> ?_,γ.grows.trans hg⟩,rfl,⟨hg,fun p hp=>List.mem_cons_of_mem _ hp,fun p hp=> ?_⟩,γ.W.heap.size,List.mem_cons_self,rfl,zea _ _ _ rfl⟩
 ·rcases mem_cons.1 hp with rfl|hp
  ·exact γ.grows.size
  ·exact γ.lo p hp
 ·rw[World.size_alloc];rcases mem_cons.1 hp with rfl|hp
  ·exact Nat.lt_succ_self _
  ·exact Nat.lt_succ_of_lt (γ.hi p hp)
 ·rcases mem_cons.1 hp with rfl|hp
  ·rcases mem_cons.1 hq with rfl|hq
   ·rfl
   ·have:=γ.hi q hq;simp only at e;omega
  ·rcases mem_cons.1 hq with rfl|hq
   ·have:=γ.hi p hp;simp only at e;omega
   ·exact γ.nd p hp q hq e
 ·rcases mem_cons.1 hp with rfl|hp
  ·exact .inr (le_refl _)
  ·exact .inl hp
theorem zjm (hIT:ITMono IT) {U:St} {X:Cx} (hI:Inv IT U X) {ops:Array Oper} {a0:Act} {K:List AV->Pend->Prop} {fin:FwdG.Acc (gh X)->Prop} {γ0:GB X}
 (hfin: ∀S ps acc,K S ps->S.length=a0.tmps.size->zrk (P:=P) IT X a0 acc S ps->fin acc):
 ∀(l:List Oper) (S:List AV) (ps:Pend) (acc:FwdG.Acc (gh X)),zev IT P ops U K l S ps->S.length=a0.tmps.size->zrk (P:=P) IT X a0 acc S ps->FwdG.FwdGo (G:=gh X) P ops γ0 a0 fin l acc
 |[],S,ps,acc,h,hl,hA=>hfin S ps acc h hl hA
 | o ::l,S,ps,acc,h,hl,hA=>by
  simp only[zev] at h;obtain⟨hd,hp,h⟩:=h;rcases h with⟨hg,t,d,z,ho,hdst,hz,hk⟩|h
  ·have hdl:d<S.length:=by rw[hdst] at hd;simpa using hd
   refine⟨VN X d t z,vn_mono d t z,fun ρ γ hE hgr hr=>by rw[hg];exact qcl ho hz,?_⟩;rw[hdst];exact zjm hIT hI hfin l _ _ _ hk (by rw[length_set];exact hl) (qbq hA hdl (by rw[hdst] at hp;exact hp) hz)
  ·cases hg:o.guard with
   | none=>
    rw[hg] at h;obtain⟨x,hk,hs⟩:=zrh (P:=P) hIT hI h hA;exact⟨VB IT X x,z5e hIT hI x,fun ρ γ hE hgr hr=>by rw[hg];exact hs ρ γ hE hr,zjm hIT hI hfin l _ _ _ hk (by rw[zay];exact hl) (zrf hA o.dst x hd hp)⟩
   | some kb=>
    obtain⟨k,b⟩:=kb;rw[hg] at h;obtain⟨c,hc,h⟩:=h;obtain⟨d,u,hdk,hsd,hcu⟩: ∃d u,zbp ops k=some d/\ S[d]? =some (.raw u)/\ ∀t,u= .bool t↔c=some t:=by
     unfold zdx at hc;split at hc<;>try cases hc
     rename_i d hd';split at hc<;>cases hc
     ·rename_i c' hs;exact⟨d,_,hd',hs,fun t=>by simp⟩
     ·rename_i u hne hs;exact⟨d,u,hd',hs,fun t=>⟨fun e=>absurd e (hne t),fun e=>by cases e⟩⟩
    have hgv: ∀g (γ:GB X),FwdG.env a0 acc d g γ->g=u:=fun g γ he=>by
     have:=hA.1 d g γ he;simp only[zbw,hsd,getD_some] at this;rw[Rep] at this;exact this
    by_cases e:c=some b
    ·rw[if_pos e] at h;obtain⟨x,hk,hs⟩:=zrh (P:=P) hIT hI h hA;refine⟨VB IT X x,z5e hIT hI x,fun ρ γ hE hgr hr=> ?_,zjm hIT hI hfin l _ _ _ hk (by rw[zay];exact hl) (zrf hA o.dst x hd hp)⟩;rw[hg];exact⟨d,hdk,fun g he=>⟨fun _=>hs ρ γ hE hr,fun hne=>absurd (by rw[hgv g γ he,(hcu b).2 e]) hne⟩⟩
    ·rw[if_neg e] at h;refine⟨VB IT X (.raw undef),z5e hIT hI _,fun ρ γ hE hgr hr=> ?_,zjm hIT hI hfin l _ _ _ h (by rw[zay];exact hl) (zrf hA o.dst _ hd hp)⟩;rw[hg];refine⟨d,hdk,fun g he=>⟨fun hb=> ?_,fun _=>by show Rep _ _ _ _;rw[Rep]⟩⟩;rw[hgv g γ he] at hb;exact absurd ((hcu b).1 hb) e
theorem zwm (hIT:ITMono IT) {X:Cx} {tmps:Array Value}: ∀(ps:Pend) (U:St) (Y:Cx) (S:List AV),Ext X Y->Inv IT U Y->znc IT Y S tmps->
 (∀p∈ps,znh P p.2.1=some p.2.2/\ p.1<S.length/\ ∃b,tmps[p.1]? =some (.pointer (some ⟨b,0,none⟩))/\ Y.w.heap[b]? =some (.cells p.2.2.cells p.2.1 (0,0))/\ X.w.heap.size<=b/\ (∀o,¬Y.F b o)/\ b∉Y.κ/\ (∀r∈Y.β,r.block≠b)/\ ¬Y.O b)->
 (ps.Pairwise fun p q=>tmps[p.1]? ≠tmps[q.1]?)->
 ∃Y',Ext X Y'/\ Inv IT (zna U ps) Y'/\ znc IT Y' (zpd U.boxes.length ps S) tmps/\ Y'.w=Y.w
 |[],U,Y,S,hE,hI,hr,_,_=>⟨Y,hE,by simpa[zna] using hI,hr,rfl⟩
 | (d,t,z)::ps,U,Y,S,hE,hI,hr,hp,hpw=>by
  obtain⟨hz,hd,b,h1,h2,h3,h4,h5,h6,h7⟩:=hp (d,t,z) List.mem_cons_self;simp only at hz hd h1 h2;obtain⟨_,hok,hco⟩:=zuv hz;obtain⟨k1,k2⟩:=zlr (IT:=IT) (X:=Y) hco (zjr z hok);have hI2:=qbz hIT hI (b:=b) (t:=t) (us:=z.cells.toList) (by simpa using h2) k1 k2 h4 h5 h6 h7;have hS:=zxf Y b;have hr2:znc IT {Y with κ:=Y.κ++[b]} (S.set d (.ptr U.boxes.length 0)) tmps:=by
   have hlen:=zq hr;refine zfw (by rw[length_set];exact hlen) fun i x v e1 e2=> ?_;by_cases e:d=i
   ·subst e;rw[getElem?_set_self hd] at e1;cases e1;rw[Rep];have:v= .pointer (some ⟨b,0,none⟩):=by
     have e3:tmps[d]? =some v:=by simpa using e2
     rw[h1] at e3;cases e3;rfl
    refine⟨b,?_,this⟩
    show(Y.κ++[b])[U.boxes.length]? =_
    rw[<-hI.κlen];simp
   ·rw[getElem?_set_ne e] at e1;obtain⟨v',hv',hrr⟩:=zei hr i x e1;rw[hv'] at e2;cases e2;exact zll hIT hS _ _ hrr
  rw[List.pairwise_cons] at hpw;obtain⟨Y',g1,g2,g3,g4⟩:=zwm hIT ps {U with boxes:=U.boxes++[(t,cellsOf (zlu z))]} {Y with κ:=Y.κ++[b]} (S.set d (.ptr U.boxes.length 0)) (qbg hE h3) hI2 hr2 (fun p hpm=>by
   obtain⟨q1,q2,b',q3,q4,q5,q6,q7,q8,q9⟩:=hp p (List.mem_cons_of_mem _ hpm);refine⟨q1,by rw[length_set];exact q2,b',q3,q4,q5,q6,fun hm=> ?_,q8,q9⟩;rcases mem_append.1 hm with hm|hm
   ·exact q7 hm
   ·simp at hm;subst hm;exact hpw.1 p hpm (by simp only;rw[h1,q3])) hpw.2
  refine⟨Y',g1,?_,?_,g4⟩
  ·have e:zna {U with boxes:=U.boxes++[(t,cellsOf (zlu z))]} ps=zna U ((d,t,z)::ps):=by simp[zna]
   rw[<-e];exact g2
  ·simpa[zpd] using g3
theorem z1w (hIT:ITMono IT)(hF:FenceOk F P)(hG:zuc P B M)(hmix:P.follows .mixedOrders=true) {id:Nat} {ops:Array Oper} {Q:List AV->St->Prop} {K:Exit->Act->World->Prop} {X0 X:Cx} {S:List AV} {U:St} {a:Act}
 (hQ: ∀S U X a,Q S U->Now IT M F B X0 S U X a->K .normal a X.w) (h:qgf IT P (zdu M) ops Q S U) (hn:Now IT M F B X0 S U X a):(Code.region id ops true).wpIn F nn P K a X.w:=by
 obtain⟨l,rfl⟩: ∃l:List Oper,ops=l.toArray:=⟨ops.toList,by simp⟩;obtain⟨n,hc,hnd,h⟩:=h;simp only[List.toList_toArray] at hnd h;have hlen:S.length=a.tmps.size:=by have:=zq hn.reps;simpa using this
 obtain⟨γ0,hγ0⟩: ∃γ0:GB X,γ0=⟨X.w,[],fun _ h=>(by cases h),fun _ h=>(by cases h),fun _ h=>(by cases h),Grows.refl _⟩:=⟨_,rfl⟩;have hπ:(gh X).π γ0=X.w:=by rw[hγ0];rfl
 have hd0:Grows X.w {X.w with drawn:=X.w.drawn+1}:=(Grows.refl _).drew
 have key:=FwdG.wpIn_region_fwd (G:=gh X) (F:=F) (nn:=nn) (P:=P) (id:=id) (Q:=K) (a:=a) (w:=γ0) (w1:=γ0.next {X.w with drawn:=X.w.drawn+1} (by rw[hγ0];exact hd0)) (l:=l) hF n (by rw[hπ];rfl) (γ0.next_le _ _) hmix
  (fun o ho c e=>by
   have:=all_eq_true.1 hnd o ho;rw[e] at this;cases this)
  (by rw[<-hlen];exact hc)
  (zjm (P:=P) (γ0:=γ0) (K:=fun S' ps=>zcb IT P (zdu M) l.toArray Q (l.drop n) (zpd U.boxes.length ps S') (zna U ps)) hIT hn.inv (fun S' ps acc hk hl hA (γ:(gh X).Γ) hle=>FwdG.endAt_all (G:=gh X) (w:=γ) fun a' h1 h2 h3=> ?_)
   (l.take n) S [] [] h hlen ⟨fun t v γ he=>by
    have e:v=a.eval (.tmp t):=he;subst e;exact zfe hIT (zmn hn.inv γ.B γ.grows) _ _ (zde hn.reps (.tmp t)),fun _ h=>(by cases h),by simp⟩)
 ·rw[hπ] at key;exact key
 have hE:=zmn hn.inv γ.B γ.grows;have hev: ∀i,i<a.tmps.size->FwdG.env a acc i (a'.eval (.tmp i)) γ:=fun i hi=>h3 i hi;have hval: ∀i (hi:i<a.tmps.size),a'.tmps[i]? =some (a'.eval (.tmp i)):=fun i hi=>by
  have:i<a'.tmps.size:=by omega
  simp[Act.eval,this]
 have hrs:znc IT (zhw X γ.W γ.B) S' a'.tmps:=zfw (by simp[hl,h1]) fun i x v e1 e2=>by
  have hi:i<a.tmps.size:=by have:=(List.getElem?_eq_some_iff.1 e1).1;omega
  have:=hA.1 i (a'.eval (.tmp i)) γ (hev i hi);have ev:a'.eval (.tmp i)=v:=by
   have h:=hval i hi;have e3:a'.tmps[i]? =some v:=by simpa using e2
   rw[e3] at h;cases h;rfl
  rw[ev] at this;simpa only[zbw,e1,getD_some] using this
 have hpb: ∀p∈ps,p.1<S'.length/\ znh P p.2.1=some p.2.2/\ ∃b,(p.1,b)∈γ.B/\ a'.tmps[p.1]? =some (.pointer (some ⟨b,0,none⟩))/\ γ.W.heap[b]? =some (.cells p.2.2.cells p.2.1 (0,0)):=fun p hp=>by
  obtain⟨k1,k2,k3,k4⟩:=hA.2.1 p hp;have hi:p.1<a.tmps.size:=by rw[<-hl];exact k1
  obtain⟨b,b1,b2,b3⟩:=k4 _ γ (hev p.1 hi);exact⟨k1,k2,b,b1,by rw[hval p.1 hi,b2],b3⟩
 have hlt: ∀ {b:Nat},X.w.heap.size<=b->b∉X.κ:=fun hb hm=>by have:=hn.inv.κlt hm;omega
 obtain⟨Y',g1,g2,g3,g4⟩:=zwm (P:=P) hIT (X:=X) (tmps:=a'.tmps) ps U (zhw X γ.W γ.B) S' hE (zmt hIT hn.inv γ.B γ.grows) hrs
  (fun p hp=>by
   obtain⟨k1,k2,b,b1,b2,b3⟩:=hpb p hp;have hb:=γ.lo _ b1;refine⟨k2,k1,b,b2,b3,hb,fun o hf=> ?_,hlt hb,fun r hr e=> ?_,fun ho=> ?_⟩
   ·rcases hf with hf|⟨_,hf,_⟩
    ·have:=hn.inv.Flt hf;simp only at hb;omega
    ·exact hf _ b1 rfl
   ·have:=hn.inv.βlt hr;simp only at hb;omega
   ·have:=hn.inv.Olt ho;simp only at hb;omega)
  (by
   have hnd:=hA.2.2;rw[List.nodup_iff_pairwise_ne,List.pairwise_map] at hnd;refine List.Pairwise.imp_of_mem (fun {p q} hp hq hne e=> ?_) hnd;obtain⟨_,_,b,b1,b2,_⟩:=hpb p hp;obtain⟨_,_,b',b1',b2',_⟩:=hpb q hq;rw[b2,b2'] at e;have eb:b=b':=by simpa using e
   have:=γ.nd _ b1 _ b1' eb;exact hne ((Prod.mk.inj this).1))
 have hnow:Now IT M F B X0 (zpd U.boxes.length ps S') (zna U ps) Y' a':=⟨hn.ext.trans (Rel.of g1),g2,g3,by rw[h2];exact hn.marks.ext g1 hn.inv,FrM.ext hG hn.frn g1 hn.inv rfl rfl⟩;have:=zgi (nn:=nn) hIT hF hG hQ (l.drop n) _ _ Y' a' hk hnow;rw[g4] at this;exact this
end
def zyk (IT:IterP)(P:Program)(W:Owed)(ops:Array Oper)(K:List AV->St->Prop)(i:Nat)(S:List AV)(U:St):Prop:=
 match ops[i]? with
 |none=>K S U
 | some o=>match o.guard with
  |none=>zfq IT P W o S U fun a U'=>K (zad S o.dst a) U'
  |some (k,b)=> ∃c,zdx ops S k=some c/\ (if c=some b then zfq IT P W o S U fun a U'=>K (zad S o.dst a) U' else K (zad S o.dst (.raw undef)) U)
def zse (IT:IterP)(P:Program)(W:Owed)(ops:Array Oper)(Q:List AV->St->Prop):Nat->Array Bool->List AV->St->Prop
 |0,listed,S,U=>Region.ready .any ops listed=[]/\ Q S U
 |k+1,listed,S,U=>(Region.ready .any ops listed=[]->Q S U)/\ ∀i∈Region.ready .any ops listed,zyk IT P W ops (fun S U=>zse IT P W ops Q k (listed.setIfInBounds i true) S U) i S U
def qoz (IT:IterP)(P:Program)(W:Owed)(ops:Array Oper)(Q:List AV->St->Prop)(S:List AV)(U:St):Prop:=zse IT P W ops Q ops.size (Array.replicate ops.size false) S U
section
variable {IT:IterP} {P:Program} {M:Option Gen} {F:Fence} {nn B:Nat}
theorem zjw (hIT:ITMono IT)(hF:FenceOk F P)(hG:zuc P B M) {ops:Array Oper} {Q:List AV->St->Prop} {K:Exit->Act->World->Prop} {X0:Cx} (hQ: ∀S U X a,Q S U->Now IT M F B X0 S U X a->K .normal a X.w):
 ∀(k:Nat) (listed:Array Bool) (S:List AV) (U:St) (X:Cx) (a:Act),zse IT P (zdu M) ops Q k listed S U->Now IT M F B X0 S U X a->wpAnyIn F nn P .any ops K k listed a X.w
 |0,listed,S,U,X,a,h,hn=>⟨h.1,hQ _ _ _ _ h.2 hn⟩
 | k +1,listed,S,U,X,a,h,hn=>by
  refine⟨fun he=>hQ _ _ _ _ (h.1 he) hn,fun i hi=> ?_⟩;have h:=h.2 i hi;unfold zyk at h;unfold wpOpIn;cases ho:ops[i]? with
  | none=>
   rw[ho] at h;exact zjw hIT hF hG hQ k _ S U X a h hn
  | some o=>
   rw[ho] at h;simp only at h⊢;cases hg:o.guard with
   | none=>
    rw[hg] at h;rw[if_pos (by simp[Region.wanted,hg])];exact zkd hIT hF hG h hn fun x U' X' a' hk hn'=>zjw hIT hF hG hQ k _ _ _ _ _ hk hn'
   | some kb=>
    obtain⟨j,b⟩:=kb;rw[hg] at h;obtain⟨c,hc,h⟩:=h;have hy:=zix hc hn.reps;by_cases e:c=some b
    ·rw[if_pos e] at h;rw[if_pos (by simp[Region.wanted,hg,hy,e])];exact zkd hIT hF hG h hn fun x U' X' a' hk hn'=>zjw hIT hF hG hQ k _ _ _ _ _ hk hn'
    ·rw[if_neg e] at h;rw[if_neg (by simp[Region.wanted,hg,hy,e])];exact⟨fun f _=>hF.fn f,zjw hIT hF hG hQ k _ _ _ _ _ h (zbz hG hIT hn (Ext.refl X) hn.inv ⟨rfl,rfl⟩ o.dst (by rw[Rep]))⟩
theorem z4g (hIT:ITMono IT)(hF:FenceOk F P)(hG:zuc P B M)(hmix:P.follows .mixedOrders=true) {id:Nat} {ops:Array Oper} {Q:List AV->St->Prop} {K:Exit->Act->World->Prop} {X0 X:Cx} {S:List AV} {U:St} {a:Act}
 (hQ: ∀S U X a,Q S U->Now IT M F B X0 S U X a->K .normal a X.w) (h:qoz IT P (zdu M) ops Q S U) (hn:Now IT M F B X0 S U X a):(Code.region id ops true).wpIn F nn P K a X.w:=by
 refine wpIn_region_any hmix ?_;obtain⟨hE,hI⟩:=zjd hIT hn.inv;have hrs:znc IT {X with w:=X.w.drew} S a.tmps:=zam hIT hE _ _ hn.reps;have hnow:Now IT M F B X0 S U {X with w:=X.w.drew} a:=⟨hn.ext.trans (Rel.of hE),hI,hrs,hn.marks.ext hE hn.inv,FrM.ext hG hn.frn hE hn.inv rfl rfl⟩;exact zjw (nn:=nn) hIT hF hG hQ ops.size _ S U _ a h hnow
end
def eqV:Value->Value->Bool
 | .int k a,.int k' b=>decide (k=k')&&decide (a=b)
 | .bool a,.bool b=>a==b
 | .string a,.string b=>decide (a.data=b.data)
 | .pointer a,.pointer b=>decide (a=b)
 | .slice a n m,.slice a' n' m'=>decide (a=a')&&decide (n=n')&&decide (m=m')
 | .nilFunc,.nilFunc=>true
 | .nilIface,.nilIface=>true
 | .tuple a,.tuple b=>decide (a.size=0)&&decide (b.size=0)
 |_,_=>false
theorem eqV_ok {a b:Value} (h:eqV a b=true):a=b:=by
 unfold eqV at h;split at h<;>(try simp only[and_eq_true,decide_eq_true_eq,beq_iff_eq] at h)
 ·rw[h.1,h.2]
 ·rw[h]
 ·rename_i a b;cases a;cases b;simp only at h;rw[h]
 ·rw[h]
 ·rw[h.1.1,h.1.2,h.2]
 ·rfl
 ·rfl
 ·rename_i a b;rw[Array.eq_empty_of_size_eq_zero h.1,Array.eq_empty_of_size_eq_zero h.2]
 ·cases h
mutual
def z4q:AV->AV->Bool
 | .raw a,.raw b=>eqV a b
 | .agg a,.agg b=>znu a b
 | .tup a,.tup b=>znu a b
 | .list n a st,.list m b st'=>decide (n=m)&&decide (st=st')&&znu a b
 | .ptr s o,.ptr s' o'=>decide (s=s')&&decide (o=o')
 | .bsl s o n z f,.bsl s' o' n' z' f'=>decide (s=s')&&decide (o=o')&&decide (n=n')&&decide (z=z')&&decide (f=f')
 | .iptr a,.iptr b=>znu a b
 | .clos f a,.clos g b=>decide (f=g)&&znu a b
 | .top,.top=>true
 |_,_=>false
def znu:List AV->List AV->Bool
 |[],[]=>true
 |a::l,b::m=>z4q a b&&znu l m
 |_,_=>false
end
mutual
theorem z5i: ∀a b,z4q a b=true->a=b
 | .raw a,b,h=>by cases b<;>simp only[z4q] at h<;>first|(cases h;done)|rw[eqV_ok h]
 | .agg a,b,h=>by cases b<;>simp only[z4q] at h<;>first|(cases h;done)|rw[zgc _ _ h]
 | .tup a,b,h=>by cases b<;>simp only[z4q] at h<;>first|(cases h;done)|rw[zgc _ _ h]
 | .iptr a,b,h=>by cases b<;>simp only[z4q] at h<;>first|(cases h;done)|rw[zgc _ _ h]
 | .clos f a,b,h=>by
  cases b<;>simp only[z4q] at h<;>first|(cases h;done)|skip
  rw[and_eq_true,decide_eq_true_eq] at h;rw[h.1,zgc _ _ h.2]
 | .list n a st,b,h=>by
  cases b<;>simp only[z4q] at h<;>first|(cases h;done)|skip
  simp only[and_eq_true,decide_eq_true_eq] at h;rw[h.1.1,h.1.2,zgc _ _ h.2]
 | .ptr _ _,b,h=>by
  cases b<;>simp only[z4q] at h<;>first|(cases h;done)|skip
  simp only[and_eq_true,decide_eq_true_eq] at h;rw[h.1,h.2]
 | .bsl _ _ _ _ _,b,h=>by
  cases b<;>simp only[z4q] at h<;>first|(cases h;done)|skip
  simp only[and_eq_true,decide_eq_true_eq] at h;obtain⟨⟨⟨⟨h1,h2⟩,h3⟩,h4⟩,h5⟩:=h;rw[h1,h2,h3,h4,h5]
 | .top,b,h=>by cases b<;>simp only[z4q] at h<;>first|(cases h;done)|rfl
 | .iter _,b,h=>by cases b<;>simp only[z4q] at h<;>cases h
 | .yld _,b,h=>by cases b<;>simp only[z4q] at h<;>cases h
 | .bad,b,h=>by cases b<;>simp only[z4q] at h<;>cases h
theorem zgc: ∀a b,znu a b=true->a=b
 |[],[],_=>rfl
 | a::l,b::m,h=>by
  simp only[znu,and_eq_true] at h;rw[z5i a b h.1,zgc l m h.2]
 |[],_::_,h=>by simp only[znu] at h;cases h
 |_::_,[],h=>by simp only[znu] at h;cases h
end
def eqBx:List (TypeId×List AV)->List (TypeId×List AV)->Bool
 |[],[]=>true
 |a::l,b::m=>decide (a.1=b.1)&&znu a.2 b.2&&eqBx l m
 |_,_=>false
theorem qhj: ∀a b,eqBx a b=true->a=b
 |[],[],_=>rfl
 | a::l,b::m,h=>by
  simp only[eqBx,and_eq_true,decide_eq_true_eq] at h;obtain⟨⟨h1,h2⟩,h3⟩:=h;rw[qhj l m h3];cases a;cases b;simp only at h1 h2;rw[h1,zgc _ _ h2]
 |[],_::_,h=>by simp only[eqBx] at h;cases h
 |_::_,[],h=>by simp only[eqBx] at h;cases h
def eqSt (a b:St):Bool:=eqBx a.boxes b.boxes&&decide (a.lens=b.lens)&&decide (a.elems=b.elems)&&decide (a.out=b.out)&&decide (a.stop=b.stop)
theorem z6t {a b:St} (h:eqSt a b=true):a=b:=by
 simp only[eqSt,and_eq_true,decide_eq_true_eq] at h;obtain⟨⟨⟨⟨h1,h2⟩,h3⟩,h4⟩,h5⟩:=h;cases a;cases b;simp only at h1 h2 h3 h4 h5;rw[qhj _ _ h1,h2,h3,h4,h5]
variable {ops:Array Oper}
def zgq:List Oper->List AV->List AV->List AV
 |o::l,v::vs,S=>zgq l vs (zad S o.dst v)
 |_,_,S=>S
def qpo (ops:Array Oper)(size:Nat):Bool:=
 (List.range ops.size).all fun j=>match zbp ops j with
  |none=>true
  |some d=>decide (d<size)&&(List.range ops.size).all fun i=>(decide (i=j)||zbp ops i !=some d)&&(!(zgl ops i).contains d||zhi ops i j)
def zjy (d:Nat->Bool)(k:Nat):Nat->Bool:=fun j=>bif Nat.beq j k then true else d j
theorem zdk (d:Nat->Bool)(k:Nat):zjy d k k=true:=by simp[zjy]
theorem zba {d:Nat->Bool} {k j:Nat} (h:j≠k):zjy d k j=d j:=by simp[zjy,h]
def z2a (IT:IterP)(P:Program)(o:Oper)(E:List AV)(U:St)(a:AV)(U':St):Prop:=
 (∃f args,zct E o=some (f,args)/\ U'=U/\ zac 0 args=true/\ Pure IT P f (stripL args) a) \/qpe P (zbw E) U o a U'
def flOne (IT:IterP)(P:Program)(ops:Array Oper)(E:List AV)(sg:(Nat->Bool)->St)(i:Nat)(o:Oper)(a:AV):Prop:=
 (match o.guard with
  |none=>True
  |some (k,b)=>zdx ops E k=some (some b))/\ (∀d,d i=false->z2a IT P o E (sg d) a (sg (zjy d i))) \/
 (∃k b c,o.guard=some (k,b)/\ zdx ops E k=some c/\ c≠some b/\ a= .raw undef/\ ∀d,sg (zjy d i)=sg d)
def zkh (IT:IterP)(P:Program)(ops:Array Oper)(E:List AV)(sg:(Nat->Bool)->St):Nat->List Oper->List AV->Prop
 |i,o::l,a::vs=>flOne IT P ops E sg i o a/\ zkh IT P ops E sg (i+1) l vs
 |_,[],[]=>True
 |_,_,_=>False
def qph (IT:IterP)(P:Program)(ops:Array Oper)(Q:List AV->St->Prop)(S:List AV)(U:St):Prop:=
 ∃sg vs E,zgq ops.toList vs S=E/\ (qpo ops S.length&&zyg ops)=true/\ sg (fun j=>Nat.ble ops.size j)=U/\ zkh IT P ops E sg 0 ops.toList vs/\ Q E (sg fun _=>true)
section
variable {IT:IterP} {P:Program} {M:Option Gen} {F:Fence} {nn B:Nat}
theorem z7q {E:List AV} {sg:(Nat->Bool)->St}: ∀(l:List Oper) (vs:List AV) (k:Nat),zkh IT P ops E sg k l vs->l.length=vs.length/\ ∀j o,l[j]? =some o-> ∃a,vs[j]? =some a/\ flOne IT P ops E sg (k+j) o a
 |[],[],k,_=>⟨rfl,fun j o h=>by simp at h⟩
 |[],_::_,_,h=>h.elim
 |_::_,[],_,h=>h.elim
 | o::l,a::vs,k,⟨h1,h2⟩=>by
  obtain⟨e,h3⟩:=z7q l vs (k+1) h2;refine⟨by simp[e],fun j o' hj=> ?_⟩;cases j with
  |zero=>simp at hj;subst hj;exact⟨a,rfl,h1⟩
  |succ j=>simp at hj;obtain⟨b,hb,hc⟩:=h3 j o' hj;exact⟨b,by simpa using hb,by rw[show k+(j+1)=k+1+j by omega];exact hc⟩
theorem zhk: ∀(l:List Oper) (vs S:List AV),(zgq l vs S).length=S.length
 |[],_,_=>by simp[zgq]
 |_::_,[],_=>by simp[zgq]
 |o::l,v::vs,S=>by rw[zgq,zhk l vs,zay]
theorem zze {S:List AV} {d:Option Tmp} {x:AV} {t:Tmp} (h:d≠some t):(zad S d x)[t]? =S[t]? :=by
 cases d with
 |none=>rfl
 |some d=>exact getElem?_set_ne (fun e=>h (by rw[e]))
theorem zgw {t:Tmp}: ∀(l:List Oper) (vs S:List AV),(∀o∈l,o.dst≠some t)->(zgq l vs S)[t]? =S[t]?
 |[],_,_,_=>by simp[zgq]
 |_::_,[],_,_=>by simp[zgq]
 |o::l,v::vs,S,h=>by rw[zgq,zgw l vs _ fun o' ho=>h o' (by simp[ho]),zze (h o (by simp))]
theorem zkr {t:Tmp}: ∀(l:List Oper) (vs S:List AV) (j:Nat) (o:Oper) (a:AV),l[j]? =some o->vs[j]? =some a->o.dst=some t->t<S.length->(∀i o',l[i]? =some o'->o'.dst=some t->i=j)->(zgq l vs S)[t]? =some a
 |[],_,_,j,o,a,h,_,_,_,_=>by simp at h
 |_::_,[],_,j,o,a,_,h,_,_,_=>by simp at h
 | o1::l,v::vs,S,j,o,a,h1,h2,h3,h4,h5=>by
  rw[zgq];cases j with
  | zero=>
   simp at h1 h2;subst h1 h2;rw[zgw l vs _ fun o' ho he=>by
    obtain⟨i,hi,rfl⟩:=mem_iff_getElem.1 ho;have:=h5 (i+1) l[i] (by simp[hi]) he;omega]
   rw[h3];exact getElem?_set_self h4
  | succ j=>
   exact zkr l vs _ j o a (by simpa using h1) (by simpa using h2) h3 (by rw[zay];exact h4) fun i o' hi ho=>by
    have:=h5 (i+1) o' (by simpa using hi) ho;omega
theorem zfd {size:Nat} (h:qpo ops size=true) {j:Nat} {d:Tmp} (hd:zbp ops j=some d):
 d<size/\ (∀i,zbp ops i=some d->i=j)/\ ∀i,d∈zgl ops i->zhi ops i j=true:=by
 have hlt: ∀ {i:Nat} {d:Tmp},zbp ops i=some d->i<ops.size:=fun {i d} h=>by
  unfold zbp at h;rcases lt_or_ge i ops.size with h'|h'
  ·exact h'
  ·rw[Array.getElem?_eq_none h'] at h;cases h
 unfold qpo at h;have h1:=all_eq_true.1 h j (mem_range.2 (hlt hd));rw[hd] at h1;simp only[and_eq_true,decide_eq_true_eq] at h1;refine⟨h1.1,fun i hi=> ?_,fun i hi=> ?_⟩
 ·have h4:=all_eq_true.1 h1.2 i (mem_range.2 (hlt hi));simp only[and_eq_true,Bool.or_eq_true,decide_eq_true_eq] at h4;rcases h4.1 with h5|h5
  ·exact h5
  ·rw[hi] at h5;simp at h5
 ·have hil:i<ops.size:=by
   unfold zgl at hi;rcases lt_or_ge i ops.size with h'|h'
   ·exact h'
   ·rw[Array.getElem?_eq_none h'] at hi;cases hi
  have h4:=all_eq_true.1 h1.2 i (mem_range.2 hil);simp only[and_eq_true,Bool.or_eq_true] at h4;rcases h4.2 with h5|h5
  ·rw[zrz hi] at h5;simp at h5
  ·exact h5
theorem zfg {t:Tmp}: ∀ {l:List Operand},Operand.tmp t∈l->t∈zhd l
 | y::l,h=>by
  rcases mem_cons.1 h with rfl|h2
  ·simp[zhd]
  ·have ih:=zfg h2;cases y<;>simp only[zhd]<;>first|exact List.mem_cons_of_mem _ ih|exact ih
theorem z2u (hIT:ITMono IT)(hF:FenceOk F P)(hG:zuc P B M) {o:Oper} {S E:List AV} {U U':St} {X0 X:Cx} {a:Act} {x:AV} {next:Act->World->Prop} {Q:Exit->Act->World->Prop} (h:z2a IT P o E U x U')(hn:Now IT M F B X0 S U X a)
 (hρ: ∀y∈o.op.operands,Rep IT X (zbw E y) (a.eval y)) (hK: ∀X' a',Now IT M F B X0 (zad S o.dst x) U' X' a'->next a' X'.w):o.wpIn F nn P a X.w next Q:=by
 rcases h with⟨f,args,hc,rfl,hok,h⟩|ha
 ·obtain⟨vs,hrun,hr⟩:=zkn (P:=P) hc hρ h.1;unfold Oper.wpIn;refine⟨fun f _=>hF.fn f,?_⟩;rw[Oper.semAt_plain F _ _ (zno hc),hrun];refine⟨fun hd=>(by rw[hF.depth] at hd;cases hd),hF.calls _ _ _ _ _ ?_⟩;refine(zle hIT h rfl hok hn.inv hr).mono ?_;rintro e w' ⟨v,X',rfl,rfl,h1,h2,h3,_⟩;exact hK _ _ (zbz hG hIT hn h1 h2 ⟨rfl,rfl⟩ o.dst h3)
 ·obtain⟨v,X',h1,h2,h3,h4⟩:=zqj hIT ha hρ hn.inv;unfold Oper.wpIn;refine⟨fun f _=>hF.fn f,?_⟩;rw[Oper.semAt_plain F _ _ (zql ha)];rcases h1 with h1|⟨h1,rfl⟩
  ·rw[h1];exact hK _ _ (zbz hG hIT hn h2 h3 (zqi ha) o.dst h4)
  ·rw[h1];exact hK _ _ (zbz hG hIT hn h2 h3 (zqi ha) o.dst h4)
theorem z1n (hIT:ITMono IT)(hF:FenceOk F P)(hG:zuc P B M)(hmix:P.follows .mixedOrders=true) {id:Nat} {ops:Array Oper} {Q:List AV->St->Prop} {K:Exit->Act->World->Prop} {X0 X:Cx} {S:List AV} {U:St} {a:Act}
 (hQ: ∀S U X a,Q S U->Now IT M F B X0 S U X a->K .normal a X.w) (h:qph IT P ops Q S U) (hn:Now IT M F B X0 S U X a):(Code.region id ops true).wpIn F nn P K a X.w:=by
 obtain⟨sg,vs,E,hE,hb,hσ,hall,hq⟩:=h;rw[and_eq_true] at hb;obtain⟨hfl,hback⟩:=hb;obtain⟨hlen,hone⟩:=z7q _ _ _ hall;have hat: ∀ {j:Nat} {o:Oper},ops[j]? =some o-> ∃a,vs[j]? =some a/\ flOne IT P ops E sg j o a:=fun {j o} ho=>by
  obtain⟨a,h1,h2⟩:=hone j o (by rw[<-ho,Array.getElem?_toList]);rw[zero_add] at h2;exact⟨a,h1,h2⟩
 have hdst: ∀ {j:Nat} {o:Oper},ops[j]? =some o->zbp ops j=o.dst:=fun {j o} ho=>by rw[zbp,ho];rfl
 have hEl:E.length=S.length:=by rw[<-hE,zhk]
 have hEd: ∀ {j:Nat} {o:Oper} {a:AV} {t:Tmp},ops[j]? =some o->vs[j]? =some a->o.dst=some t->E[t]? =some a:=fun {j o a t} ho ha ht=>by
  obtain⟨s1,s2,_⟩:=zfd hfl ((hdst ho).trans ht);rw[<-hE];exact zkr _ _ _ j o a (by rw[<-ho,Array.getElem?_toList]) ha ht s1 fun i o' hi ho'=>by
   rw[Array.getElem?_toList] at hi;exact s2 i ((hdst hi).trans ho')
 have key: ∀(f:Nat) (listed:Array Bool) (S':List AV) (X:Cx) (a:Act),left ops.size listed=f->listed.size=ops.size->S'.length=E.length->
  (∀t,(∀j,zbp ops j=some t->listed.getD j true=true)->S'[t]? =E[t]?)->Now IT M F B X0 S' (sg fun j=>listed.getD j true) X a->wpAnyIn F nn P .any ops K f listed a X.w:=by
  intro f;induction f with
  | zero=>
   intro listed S' X a h0 hs hl hk hn;have hd:=zjz ops.size h0;have hg: ∀j,listed.getD j true=true:=fun j=>by
    rcases lt_or_ge j ops.size with h'|h'
    ·exact hd j h'
    ·simp[Array.getElem?_eq_none (by rw[hs];exact h':listed.size<=j)]
   refine⟨List.eq_nil_iff_forall_not_mem.2 fun i hi=> ?_,hQ E _ X a hq ?_⟩
   ·obtain⟨h1,o,ho,_⟩:=mem_ready.1 hi;rw[hg i] at h1;cases h1
   ·have e1:S'=E:=List.ext_getElem? fun t=>hk t fun j _=>hg j;have e2:(fun j=>listed.getD j true)=fun _=>true:=funext hg;rw[e1,e2] at hn;exact hn
  | succ f ih=>
   intro listed S' X a h0 hs hl hk hn;obtain⟨i0,hi0,hu0,hb0⟩:=zoo ops.size (by rw[h0];exact Nat.succ_ne_zero f);have hr0:i0∈Region.ready .any ops listed:=by
    refine mem_ready.2 ⟨hu0,ops[i0],by simp[hi0],fun e he hb=> ?_⟩;have h1:=all_eq_true.1 hback i0 (mem_range.2 hi0);rw[Array.getElem?_eq_getElem hi0] at h1;have h2:=Array.all_eq_true'.1 h1 e he;have h3:e.on<i0:=by simpa[hb] using h2
    exact zvo (by omega) (hb0 _ h3)
   refine⟨fun he=>(by rw[he] at hr0;cases hr0),fun i hi=> ?_⟩;obtain⟨hun,o,ho,hwait⟩:=mem_ready.1 hi;have hlt:i<ops.size:=(Array.getElem?_eq_some_iff.1 ho).1;obtain⟨x,hx,hone⟩:=hat ho;have hset: ∀t∈zgl ops i,S'[t]? =E[t]? :=fun t ht=>hk t fun j hj=>by
    obtain⟨o',ho',e,he,hb,hon⟩:=zef ((zfd hfl hj).2.2 i ht);rw[ho] at ho';cases ho';rw[<-hon];exact zup (hwait e he hb)
   have hup:(fun j=>(listed.setIfInBounds i true).getD j true)=zjy (fun j=>listed.getD j true) i:=by
    funext j
    by_cases e:j=i
    ·subst e;rw[zdk];simp[hs,hlt]
    ·rw[zba e,getD_set_ne true (Ne.symm e)]
   have next: ∀X' a',Now IT M F B X0 (zad S' o.dst x) (sg (zjy (fun j=>listed.getD j true) i)) X' a'->wpAnyIn F nn P .any ops K f (listed.setIfInBounds i true) a' X'.w:=fun X' a' hn'=>by
    refine ih _ (zad S' o.dst x) X' a' (by have:=zoj hun ops.size hlt;omega) (by simp[hs]) (by rw[zay];exact hl) (fun t ht=> ?_) (by rw[hup];exact hn');by_cases e:o.dst=some t
    ·rw[hEd ho hx e,e];have:t<S'.length:=by rw[hl,hEl];exact(zfd hfl ((hdst ho).trans e)).1
     exact getElem?_set_self this
    ·rw[zze e];refine hk t fun j hj=> ?_;have:=ht j hj;rwa[getD_set_ne true (fun eq=>e (by rw[<-hdst ho,eq];exact hj))] at this
   have hop: ∀y∈o.op.operands,Rep IT X (zbw E y) (a.eval y):=fun y hy=>by
    have e:zbw E y=zbw S' y:=by
     cases y with
     | tmp t=>
      have:t∈zgl ops i:=by
       simp only[zgl,ho];exact mem_append.2 (.inl (zfg (by simpa using hy)))
      simp only[zbw,hset t this]
     |const=>rfl
     |func=>rfl
     |global=>rfl
    rw[e];exact zde hn.reps y
   have hgd: ∀k b,o.guard=some (k,b)->zdx ops S' k=zdx ops E k:=fun k b hg=>by
    unfold zdx;cases hd:(ops[k]?).bind (·.dst) with
    |none=>rfl
    | some d=>
     have:d∈zgl ops i:=by
      simp only[zgl,ho,hg];exact mem_append.2 (.inr (by rw[show zbp ops k=some d from hd];simp))
     simp only[hset d this]
   unfold wpOpIn;rw[ho];simp only;rcases hone with⟨hg,hst⟩|⟨k,b,c,hg,hc,hne,rfl,hsame⟩
   ·have hw:Region.wanted o (yielded ops a.tmps)=true:=by
     cases hgo:o.guard with
     |none=>simp[Region.wanted,hgo]
     | some kb=>
      obtain⟨k,b⟩:=kb;rw[hgo] at hg;have hy:=zix ((hgd k b hgo).trans hg) hn.reps;simp[Region.wanted,hgo,hy]
    rw[if_pos hw];exact z2u hIT hF hG (hst _ hun) hn hop next
   ·have hy:=zix ((hgd k b hg).trans hc) hn.reps;rw[if_neg (by simp[Region.wanted,hg,hy,hne])];refine⟨fun f _=>hF.fn f,next X _ ?_⟩;rw[hsame];exact zbz hG hIT hn (Ext.refl X) hn.inv ⟨rfl,rfl⟩ o.dst (by rw[Rep])
 refine wpIn_region_any hmix ?_;obtain⟨hEx,hI⟩:=zjd hIT hn.inv;have hrs:znc IT {X with w:=X.w.drew} S a.tmps:=zam hIT hEx _ _ hn.reps;have e0:(fun j=>(Array.replicate ops.size false).getD j true)=fun j=>Nat.ble ops.size j:=by
  funext j
  rcases lt_or_ge j ops.size with h'|h'
  ·have:Nat.ble ops.size j=false:=by
    cases h:Nat.ble ops.size j with
    |false=>rfl
    |true=>exact absurd (Nat.le_of_ble_eq_true h) (by omega)
   rw[this];simp[h']
  ·rw[Nat.ble_eq_true_of_le h'];simp[Nat.not_lt.2 h']
 have hnow:Now IT M F B X0 S (sg fun j=>(Array.replicate ops.size false).getD j true) {X with w:=X.w.drew} a:=by
  rw[e0,hσ];exact⟨hn.ext.trans (Rel.of hEx),hI,hrs,hn.marks.ext hEx hn.inv,FrM.ext hG hn.frn hEx hn.inv rfl rfl⟩
 have hleft: ∀m,m<=ops.size->left m (Array.replicate ops.size false)=m:=by
  intro m;induction m with
  |zero=>intro _;rfl
  |succ m ih=>intro hm;simp[left,ih (by omega),show m<ops.size by omega]
 have:=key ops.size (Array.replicate ops.size false) S _ a (hleft _ (le_refl _)) (by simp) hEl.symm (fun t ht=> ?_) hnow
 ·exact this
 ·have hno: ∀o∈ops.toList,o.dst≠some t:=fun o ho he=>by
   obtain⟨j,hj,rfl⟩:=mem_iff_getElem.1 ho;have hj':j<ops.size:=by simpa using hj
   have hjo:ops[j]? =some (ops.toList[j]):=by simp[hj']
   have:=ht j ((hdst hjo).trans he);simp[hj'] at this
  rw[<-hE,zgw _ _ _ hno]
end
variable {M:Option Gen} {X Y X':Cx} {U:St} {IT:IterP} {y c:Code}
inductive AExit where
 |normal|exit (id:Nat)|ret
def AExit.to:AExit->Exit
 | .normal=> .normal
 | .exit id=> .exit id
 | .ret=> .ret
abbrev AQ:=AExit->List AV->St->Prop
def zfb (n:Nat)(U:St):St:={U with boxes:=U.boxes.take n}
def z0t (n:Nat)(U:St):Bool:=(U.boxes.take n).all fun bx=>zac n bx.2
def keepS (ks:Option (List Nat))(i:Nat):Bool:=match ks with|none=>true|some l=>l.contains i
def qgw (ks:Option (List Nat))(n:Nat)(S:List AV):List AV:=S.mapIdx fun i a=>if keepS ks i=true/\ zbe n a=true then a else .top
def Fg:List AV->List AV->Prop
 |[],[]=>True
 |a::l,b::m=>(b=a \/b= .top)/\ Fg l m
 |_,_=>False
theorem Fg.refl: ∀S,Fg S S
 |[]=>trivial
 |a::l=>⟨.inl rfl,Fg.refl l⟩
def mvN (s n i:Nat):Nat:=if i=s then n else i
def mvz (s n:Nat):FZ:=(fun i off=> .ptr (mvN s n i) off,fun i off k sz=> .bsl (mvN s n i) off k sz false)
def qor (s:Nat)(t:TypeId)(cs:List AV)(U:St):St:=
 {U with boxes:=(U.boxes.mapIdx fun i b=>if i=s then(t,[]) else(b.1,zx U.lens.length (mvz s U.boxes.length) b.2))++[(t,zx U.lens.length (mvz s U.boxes.length) cs)]}
def Wk1 (n0:Nat)(S:List AV)(U:St)(S':List AV)(U':St):Prop:=(Fg S S'/\ (U'=U \/ ∃n,n0<=n/\ z0t n U=true/\ zac n S'=true/\ zfb n U=U')) \/
 (∃n fs js d,n0<=n/\ zcu U n js=true/\ Fg (zx U.lens.length (kz U.boxes U.lens.length n fs js d) S) S'/\ zeo U U.lens.length n fs js d=U') \/
 (∃(s:Nat) (t:TypeId) (cs:List AV),U.boxes[s]? =some (t,cs)/\ Fg S S'/\ U'={U with boxes:=U.boxes++[(t,[])]}) \/
 (∃(s k:Nat) (t:TypeId) (cs:List AV),U.boxes[s]? =some (t,cs)/\ Fg S S'/\ U'={U with boxes:=U.boxes.set s (t,cs.take k)}) \/
 ∃(s:Nat) (t:TypeId) (cs:List AV),U.boxes[s]? =some (t,cs)/\ Fg (zx U.lens.length (mvz s U.boxes.length) S) S'/\ U'=qor s t cs U
inductive Wk (n0:Nat):List AV->St->List AV->St->Prop
 |one {S S':List AV} {U U':St} (h:Wk1 n0 S U S' U'):Wk n0 S U S' U'
 |step {S S1 S':List AV} {U U1 U':St} (h:Wk1 n0 S U S1 U1) (k:Wk n0 S1 U1 S' U'):Wk n0 S U S' U'
theorem Wk.refl (n:Nat)(S:List AV)(U:St):Wk n S U S U:= .one (.inl ⟨Fg.refl S,.inl rfl⟩)
def zvt (K:List AV->St->Prop)(Q:AQ):AQ
 | .normal,S,U=>K S U
 |e,S,U=>Q e S U
def qpa (id:Nat)(Q:AQ):AQ
 | .exit j,S,U=>if j=id then Q .normal S U else Q (.exit j) S U
 |e,S,U=>Q e S U
def qcw (m0 k0:Nat)(K:List AV->St->Prop)(S:List AV)(U:St):Prop:=
 K S U \/ ∃(m n:Nat) (fs js:List Nat) (d:Nat) (S':List AV),m0<=m/\ k0<=n/\ zcu U n js=true/\ Fg (zx m (kz U.boxes m n fs js d) S) S'/\ K S' (zeo U m n fs js d)
def zjk (m0 k0 id:Nat)(Q:AQ):AQ
 | .normal,S,U=>qcw m0 k0 (Q .normal) S U
 | .exit j,S,U=>if j=id then qcw m0 k0 (Q .normal) S U else Q (.exit j) S U
 | .ret,S,U=>Q .ret S U
def zrd (W:AQ->List AV->St->Prop)(Q:AQ)(n0:Nat):Nat->List AV->St->Prop
 |0,_,_=>False
 |m+1,S,U=> ∃S' U',Wk n0 S U S' U'/\ W (zvt (zrd W Q n0 m) Q) S' U'
def zkc (S:List AV)(ps:Array Tmp)(x:List AV):List AV:=(ps.toList.zip x).foldl (fun S p=>S.set p.1 p.2) S
def qpj (Q:AQ)(S0:List AV)(n:Nat)(next:St->Prop):AQ
 | .normal,_,U=>z0t n U=true/\ next (zfb n U)
 |e,_,U=>z0t n U=true/\ Q e S0 (zfb n U)
def z3i (K:List AV->St->Prop):AQ
 | .normal,S1,U1=>K S1 U1
 |_,_,_=>False
def zfn (Wa Wb:Nat->AQ->List AV->St->Prop)(ps:Array Tmp)(S0:List AV)(Q:AQ)(n:Nat):List (List AV)->St->Prop
 |[],U=>Q .normal S0 U
 |x::xs,U=>Wa n (z3i (fun S1 U1=>Wb U1.boxes.length (qpj Q S0 n (zfn Wa Wb ps S0 Q n xs)) S1 U1)) (zkc S0 ps x) U
def zcj:Code->Bool
 | .rangeFunc _ _ _ _=>false
 | .seq x y=>zcj x&&zcj y
 | .cond _ x y=>zcj x&&zcj y
 | .block _ x=>zcj x
 | .loop x=>zcj x
 | .scope x=>zcj x
 |_=>true
def IterX (P:Program)(g:FuncId)(lb:Array Value)(rows:List (List AV))(N:Nat->Prop)(F0:Nat->Nat->Prop)(w0:World):Prop:=
 ∀ (l:Nat) (W:World) (J:Nat->Frn->World->Prop) (Jx:Frn->World->Prop) (s0:Frn),(∀b o,F0 b o->(∃v,W.cell? ⟨b,o,none⟩=some v)/\ W.cell? ⟨b,o,none⟩=w0.cell? ⟨b,o,none⟩)->Szs w0 W->(∀k,N k->W.heap[k]? =w0.heap[k]? /\ ¬s0.O k/\ ∀o,¬s0.C k o)->GenOk P ⟨W.heap.size,F0,l,rows,J,Jx,N⟩->
  (∀b o,F0 b o-> ¬s0.O b \/s0.C b o)->(∀b,s0.O b-> ∃cs t f,W.heap[b]? =some (.cells cs t f))->(∀b o,s0.C b o->b<W.heap.size)->J 0 s0 W->
  Calls P g (#[.func (.yield l) #[] #[]]++lb) W fun e W'=>(∃v,e= .returned v)/\ ∃s,(J rows.length s W' \/Jx s W')
def IterR (P:Program)(g:FuncId)(lb:Array Value)(rows:List (List AV))(N:Nat->Prop)(F0:Nat->Nat->Prop)(w0:World)(R:Frn->World->Prop):Prop:=
 ∀ (l:Nat) (W:World) (J:Nat->Frn->World->Prop) (Jx:Frn->World->Prop) (s0:Frn),(∀b o,F0 b o->(∃v,W.cell? ⟨b,o,none⟩=some v)/\ W.cell? ⟨b,o,none⟩=w0.cell? ⟨b,o,none⟩)->Szs w0 W->w0.heap.size<=W.heap.size->(∀k,N k->W.heap[k]? =w0.heap[k]? /\ ¬s0.O k/\ ∀o,¬s0.C k o)->GenOk P ⟨W.heap.size,F0,l,rows,J,Jx,N⟩->
  (∀b o,F0 b o-> ¬s0.O b \/s0.C b o)->(∀b,s0.O b-> ∃cs t f,W.heap[b]? =some (.cells cs t f))->(∀b o,s0.C b o->b<W.heap.size)->J 0 s0 W->
  Calls P g (#[.func (.yield l) #[] #[]]++lb) W fun e W'=>(∃v,e= .returned v)/\ ∃s,(J rows.length s W'/\ R s W') \/Jx s W'
theorem IterX.toR {P:Program} {g:FuncId} {lb:Array Value} {rows:List (List AV)} {N:Nat->Prop} {F0:Nat->Nat->Prop} {w0:World} (h:IterX P g lb rows N F0 w0):IterR P g lb rows N F0 w0 (fun _ _=>True):=
 fun l W J Jx s0 h1 h2 _ h3 h4 h5 h6 h7 h8=>(h l W J Jx s0 h1 h2 h3 h4 h5 h6 h7 h8).mono fun _ _ ⟨hv,s,hs⟩=>⟨hv,s,hs.imp (fun h=>⟨h,trivial⟩) id⟩
structure gvBase (P:Program)(w:World):Prop where
 err: ∀n g,(n= "strconv.ErrSyntax" \/n= "strconv.ErrRange")->P.globalNamed n=some g-> ∃tp p,w.var? P n=some #[.iface tp p]
 pow: ∀g,P.globalNamed "internal/strconv.uint64pow10" =some g->Lib.TabIs P w "internal/strconv.uint64pow10" .u64 Lib.pow10Tab
 max: ∀g,P.globalNamed "internal/bytealg.MaxLen" =some g-> ∃m,w.cell? ⟨g,0,none⟩=some (.int .i64 m)
def gvP (P:Program)(F:Nat->Nat->Prop)(w:World):Prop:= ∃w0:World,gvBase P w0/\ Szs w0 w/\ ∀b o v,b<P.globals.size->w0.cell? ⟨b,o,none⟩=some v->F b o/\ w.cell? ⟨b,o,none⟩=some v
def ITP (P:Program):IterP:=⟨fun v rows X=>(rows=errRows/\ ∃t p,v= .iface t p) \/rows≠errRows/\ ∃(g:Nat) (lb:Array Value) (F0:Nat->Nat->Prop),v= .func (.func g) #[] lb/\ Ent P g/\ (∀b o,F0 b o->X.F b o)/\ IterX P g lb rows (fun _=>False) F0 X.w,gvP P⟩
def qfq (P:Program)(κ0:List Nat)(bs':List (TypeId×List AV))(n0:Nat)(s:Frn)(W:World):Prop:=
 ∃ κ':List Nat,κ'.length=bs'.length/\ (∀i b:Nat,κ0[i]? =some b->κ'[i]? =some b)/\ (∀i j b:Nat,κ'[i]? =some b->κ'[j]? =some b->i≠j->(∃t,bs'[i]? =some (t,[])) \/ ∃t,bs'[j]? =some (t,[]))/\
  (∀b∈κ',(b∈κ0 \/n0<=b)/\ ¬s.O b)/\ ∀(i b:Nat) (t:TypeId) (cs:List AV),κ'[i]? =some b->bs'[i]? =some (t,cs)->
   (∃vs zs:List Value,W.heap[b]? =some (.cells (vs++zs).toArray t (0,0))/\ zbf (ITP P) ⟨fun _ _=>False,κ',[],[],W,fun _=>False,fun _ _=>False⟩ cs vs/\ ∀v∈vs,v.oneCell'=true)/\ (cs≠[]-> ∀o,¬s.C b o)
def qcf (P:Program)(g:FuncId)(caps:List AV)(bs:List (TypeId×List AV))(rows:List (List AV))(bs':List (TypeId×List AV)):Prop:=
 ∀ (F0:Nat->Nat->Prop) (w0:World) (O:Nat->Prop) (C:Nat->Nat->Prop) (κ0:List Nat) (lb:List Value),(ITP P).gv F0 w0->κ0.length=bs.length->κ0.Nodup->
  (∀(i b:Nat) (t:TypeId) (cs:List AV),κ0[i]? =some b->bs[i]? =some (t,cs)-> ∃vs zs:List Value,w0.heap[b]? =some (.cells (vs++zs).toArray t (0,0))/\ zbf (ITP P) ⟨F0,κ0,[],[],w0,O,C⟩ cs vs/\ ∀v∈vs,v.oneCell'=true)->
  (∀b∈κ0,∀o,¬F0 b o)->zbf (ITP P) ⟨F0,κ0,[],[],w0,O,C⟩ caps lb->(∀b o,F0 b o-> ∃v,w0.cell? ⟨b,o,none⟩=some v)->
  IterR P g lb.toArray rows (fun k=>k∈κ0) F0 w0 (qfq P κ0 bs' w0.heap.size)
def fwN (js:List Nat)(n i:Nat):Nat:=js.getD i (n+(i-js.length))
def fwz (js:List Nat)(n:Nat):FZ:=(fun s off=> .ptr (fwN js n s) off,fun s off k sz=> .bsl (fwN js n s) off k sz false)
def bwz (js:List Nat):FZ:=(fun s off=>if js.contains s then .ptr (js.idxOf s) off else .top,fun s off k sz=>if js.contains s then .bsl (js.idxOf s) off k sz false else .top)
def gz (js:List Nat):FZ:=(fun s off=>if js.contains s then .top else .ptr s off,fun s off k sz=>if js.contains s then .top else .bsl s off k sz false)
def Hand (U:St)(js hs:List Nat)(m:Nat)(bs:List (TypeId×List AV))(U1:St):Prop:=
 js.Nodup/\ js.length=bs.length/\ (∀(i:Nat) (t:TypeId) (cs:List AV),bs[i]? =some (t,cs)-> ∃C,U.boxes[fwN js 0 i]? =some (t,C)/\ zx 0 (bwz js) C=cs/\ C≠[])/\
  (js.all fun j=>hs.contains j)=true/\ (∀(i:Nat) (t:TypeId),U.boxes[i]? =some (t,[])->hs.contains i=true)/\ hs.contains m=false/\
  ∃(tm:TypeId) (Cm:List AV),U.boxes[m]? =some (tm,Cm)/\ U1={U with boxes:=U.boxes.mapIdx fun i b=>if hs.contains i=true then(tm,[]) else(b.1,zx U.lens.length (gz hs) b.2)}
def ziz (js hs:List Nat)(bs' bx:List (TypeId×List AV))(U:St):St:=
 {U with boxes:=(U.boxes.mapIdx fun i b=>if js.contains i=true then((bs'[js.idxOf i]?).map fun c=>(c.1,zx 0 (fwz js bx.length) c.2)).getD b else if hs.contains i=true then(bx[i]?).getD b else(b.1,zx U.lens.length (gz hs) b.2))++(bs'.drop js.length).map fun c=>(c.1,zx 0 (fwz js bx.length) c.2)}
def qgh (Q:AQ)(S:List AV)(js hs:List Nat)(bs' bx:List (TypeId×List AV)):AQ
 | .normal,_,U=>Q .normal S (ziz js hs bs' bx U)
 |_,_,_=>False
def FenceAt (B:Nat)(F:Fence)(w:World):Prop:=F=Fence.wide \/ ∃(l0:Nat) (r0:Loop),F=Fence.wide.inRound l0/\ B<=l0/\ w.heap[l0]? =some (.loop r0)
def qjg (IT:IterP)(P:Program)(c:Code)(S:List AV)(U:St)(S':List AV)(U':St):Prop:=
 ∀ {F:Fence} {nn B:Nat} {X0 X:Cx} {a:Act},FenceOk F P->(B<=X0.w.heap.size/\ ∃U0,Inv IT U0 X0)->Now IT none F B X0 S U X a->(FenceAt B F X0.w \/zcj c=true)->
  c.wpIn F nn P (fun e a' w'=>e= .normal/\ ∃X',X'.w=w'/\ Now IT none F B X0 S' U' X' a') a X.w
def awp (IT:IterP)(P:Program)(W:Owed):Nat->Code->AQ->List AV->St->Prop
 |_,.skip,Q=>Q .normal
 |k0,.seq x y,Q=>fun S U=>awp IT P W k0 x (zvt (fun S1 U1=> ∃S' U',Wk k0 S1 U1 S' U'/\ awp IT P W k0 y Q S' U') Q) S U \/(W=none/\ ∃(S':List AV) (U':St),qjg IT P x S U S' U'/\ awp IT P W k0 y Q S' U')
 |k0,.cond c x y,Q=>fun S U=> ∃t,zbw S c= .raw (.bool t)/\ (if t=true then awp IT P W k0 x Q S U else awp IT P W k0 y Q S U)
 |k0,.block id x,Q=>fun S U=>awp IT P W k0 x (zjk U.lens.length k0 id Q) S U \/(W=none/\ ∃(S':List AV) (U':St),qjg IT P (.block id x) S U S' U'/\ Q .normal S' U')
 |k0,.loop x,Q=>fun S U=> ∃m,zrd (awp IT P W k0 x) Q k0 m S U
 |_,.exit id,Q=>Q (.exit id)
 |_,.ret,Q=>Q .ret
 |_,.label _,Q=>Q .normal
 |k0,.scope x,Q=>awp IT P W k0 x Q
 |_,.region _ ops false,Q=>zcb IT P W ops (Q .normal) ops.toList
 |_,.region id ops true,Q=>fun S U=>False \/qgf IT P W ops (Q .normal) S U \/qoz IT P W ops (Q .normal) S U \/qph IT P ops (Q .normal) S U \/(W=none/\ ∃(S':List AV) (U':St),qjg IT P (.region id ops true) S U S' U'/\ Q .normal S' U')
 | k0,.rangeFunc f ps asg body,Q=>fun S U=>(∃xs,zbw S f= .iter xs/\ Nat.ble ps.size 8=true/\ (xs.all fun x=>decide (x.length=ps.size))=true/\ zcj asg=true/\ zfn (fun k=>awp IT P W k asg) (fun k=>awp IT P W k body) ps S Q U.boxes.length xs U) \/
  ∃ (g:Nat) (caps:List AV) (js hs:List Nat) (m:Nat) (bs bs':List (TypeId×List AV)) (xs:List (List AV)) (S':List AV) (U1:St),zbw S f= .clos g caps/\ Hand U js hs m bs U1/\ Fg (zx U.lens.length (gz hs) S) S'/\ W=none/\ zcj asg=true/\ (xs.all fun x=>decide (x.length=ps.size))=true/\
   qcf P g (zx 0 (bwz js) caps) bs xs bs'/\ Ent P g/\ (∀(i:Nat) (t:TypeId) (cs:List AV),bs[i]? =some (t,cs)-> ∃cs',bs'[i]? =some (t,cs'))/\
   zfn (fun k=>awp IT P W k asg) (fun k=>awp IT P W k body) ps S' (qgh Q S js hs bs' U.boxes) U.boxes.length xs U1
 |_,_,_=>fun _ _=>False
theorem ze (P:Program):ITMono (ITP P):=by
 refine⟨?_,fun F F' w w' hF hc hz ⟨w0,h1,h3,h2⟩=>⟨w0,h1,h3.trans hz,fun b o v hb hv=>⟨hF b o (h2 b o v hb hv).1,(hc b o (h2 b o v hb hv).1).trans (h2 b o v hb hv).2⟩⟩,fun v X h=>h.elim (fun h=>h.2) (fun h=>absurd rfl h.1)⟩;rintro v rows X X' hF hc hz (h|⟨hne,g,lb,F0,h1,h2,h3,h4⟩)
 ·exact .inl h
 exact .inr ⟨hne,g,lb,F0,h1,h2,fun b o h=>hF b o (h3 b o h),fun l W J Jx s0 k1 k0 kN k2=>h4 l W J Jx s0 (fun b o h=>⟨(k1 b o h).1,(k1 b o h).2.trans (hc b o (h3 b o h))⟩) (hz.trans k0) (fun _ h=>h.elim) k2⟩
theorem qmo {X0:Cx} {n:Nat} (h:Rel M X0 X)(hn:X0.κ.length<=n):Rel M X0 {X with κ:=X.κ.take n}:=by
 have hκ: ∀(s b:Nat),X0.κ[s]? =some b->(X.κ.take n)[s]? =some b:=fun s b hs=>by
  have:=(List.getElem?_eq_some_iff.1 hs).1;rw[getElem?_take,if_pos (by omega)];exact h.sub.κ s b hs
 cases M with
 | none=>
  have h:Ext X0 X:=h;exact {h with κ:=hκ,F:=h.F,cell:=h.cell,lens:=h.lens,blk:=h.blk,szs:=h.szs,κnew:=fun b hb=>h.κnew b (mem_of_mem_take hb):Ext X0 {X with κ:=X.κ.take n}}
 | some G=>
  have h:ExtG G.B X0 X:=h;exact {h with κ:=hκ,F:=h.F,cell:=h.cell,lens:=h.lens,blk:=h.blk,szs:=h.szs,κnew:=fun b hb=>h.κnew b (mem_of_mem_take hb):ExtG G.B X0 {X with κ:=X.κ.take n}}
theorem z7s {n:Nat} (h:FrM M U X):FrM M (zfb n U) {X with κ:=X.κ.take n}:=by
 cases M with
 |none=>trivial
 | some G=>
  obtain⟨s,h1,h2,h3,h4,h5,h6,h7⟩:=h;exact⟨s,h1,⟨h2.1,fun b o hc=>(h2.2 b o hc).imp id fun⟨k1,k2,k3⟩=>⟨k1,fun hm=>k2 (mem_of_mem_take hm),k3⟩⟩,h3,h4,fun b hb=>h5 b (mem_of_mem_take hb),h6,h7⟩
theorem z9z (hIT:ITMono IT) {X:Cx} {U:St} {n:Nat} (hI:Inv IT U X)(hok:z0t n U=true):Inv IT (zfb n U) {X with κ:=X.κ.take n}:=
  { hI with
    lens:=hI.lens
    elems:=hI.elems
    κlen:=by simp[zfb,hI.κlen]
    κnd :=fun s s' b hs hs' hne=>by
      have cut: ∀(s:Nat),(X.κ.take n)[s]? =some b->s<n/\ X.κ[s]? =some b:=fun s h=>by
        rw[getElem?_take] at h;split at h
        . exact⟨‹_›,h⟩
        . cases h
      obtain⟨l1,h1⟩:=cut s hs;obtain⟨l2,h2⟩:=cut s' hs';refine(hI.κnd s s' b h1 h2 hne).imp (fun⟨t,e⟩=>⟨t,?_⟩) (fun⟨t,e⟩=>⟨t,?_⟩)
      . show(U.boxes.take n)[s]? =_
        rw[getElem?_take,if_pos l1];exact e
      . show(U.boxes.take n)[s']? =_
        rw[getElem?_take,if_pos l2];exact e
    box :=fun s b t cs hs hb=>by
      have hs':s<n:=by
        have:=(List.getElem?_eq_some_iff.1 hs).1;have h2:s<(X.κ.take n).length:=this;simp at h2;omega
      have e1:X.κ[s]? =some b:=by have h2:(X.κ.take n)[s]? =some b:=hs;rwa[getElem?_take,if_pos hs'] at h2
      have e2:U.boxes[s]? =some (t,cs):=by have h2:(U.boxes.take n)[s]? =some (t,cs):=hb;rwa[getElem?_take,if_pos hs'] at h2
      obtain⟨vs,zs,u1,u2,u3⟩:=hI.box s b t cs e1 e2;have hm:(t,cs)∈U.boxes.take n:=mem_of_getElem? hb;exact⟨vs,zs,u1,zlt (X:=X) (Y:={X with κ:=X.κ.take n}) hIT rfl rfl rfl rfl rfl cs vs (all_eq_true.1 hok _ hm) u2,u3⟩
    κF :=fun s b t cs hs hb=>by
      have hs':s<n:=by
        have:=(List.getElem?_eq_some_iff.1 hs).1;have h2:s<(X.κ.take n).length:=this;simp at h2;omega
      have e1:X.κ[s]? =some b:=by have h2:(X.κ.take n)[s]? =some b:=hs;rwa[getElem?_take,if_pos hs'] at h2
      have e2:U.boxes[s]? =some (t,cs):=by have h2:(U.boxes.take n)[s]? =some (t,cs):=hb;rwa[getElem?_take,if_pos hs'] at h2
      exact hI.κF s b t cs e1 e2
    βκ:=fun r hr hm=>hI.βκ r hr (mem_of_mem_take hm)
    Ok :=fun b ho=>by
      obtain⟨k1,k2,k3⟩:=hI.Ok b ho;exact⟨k1,fun hm=>k2 (mem_of_mem_take hm),k3⟩}
theorem qah {F:Fence} {B:Nat} (hIT:ITMono IT) {X0 X:Cx} {S:List AV} {U:St} {a:Act} {n:Nat} (ks:Option (List Nat))(h:Now IT M F B X0 S U X a)(hn:X0.κ.length<=n)(hok:z0t n U=true):Now IT M F B X0 (qgw ks n S) (zfb n U) {X with κ:=X.κ.take n} a where
 ext:=qmo h.ext hn
 inv:=z9z hIT h.inv hok
 reps:=zfw (by have:=zq h.reps;simpa[qgw] using this) fun i x v e1 e2=>by
  simp only[qgw,List.getElem?_mapIdx,Option.map_eq_some_iff] at e1;obtain⟨y,hy,rfl⟩:=e1;obtain⟨v',hv',hr⟩:=zei h.reps i y hy;rw[e2] at hv';cases hv';split
  ·rename_i ho;exact zsk (X:=X) (Y:={X with κ:=X.κ.take n}) hIT rfl rfl rfl rfl rfl y v ho.2 hr
  ·rw[Rep];trivial
 marks:=h.marks
 frn:=z7s h.frn
theorem zhz: ∀ {S S':List AV} {vs:List Value},Fg S S'->zbf IT X S vs->zbf IT X S' vs
 |[],[],vs,_,h=>h
 |a::l,b::m,vs,⟨h1,h2⟩,⟨v,r,e,k1,k2⟩=>⟨v,r,e,by rcases h1 with rfl|rfl<;>first|exact k1|trivial,zhz h2 k2⟩
 |[],_::_,_,h,_=>h.elim
 |_::_,[],_,h,_=>h.elim
theorem qns (n:Nat)(S:List AV)(h:zac n S=true):qgw none n S=S:=by
 apply List.ext_getElem?;intro i;simp only[qgw,List.getElem?_mapIdx];cases hi:S[i]? with
 |none=>rfl
 | some a=>
  have:zbe n a=true:=by rw[zuq] at h;exact all_eq_true.1 h a (mem_of_getElem? hi)
  simp[keepS,this]
theorem z7p (h:Sub X Y):X.lens.length<=Y.lens.length:=by
 rcases Nat.eq_zero_or_pos X.lens.length with h0|h0
 ·omega
 ·have hi:X.lens.length-1<X.lens.length:=by omega
  obtain⟨L',h1,_⟩:=h.lens (X.lens.length-1) _ (getElem?_eq_getElem hi);have:=(List.getElem?_eq_some_iff.1 h1).1;omega
theorem qll (hE :Rel M X Y)(hI:Inv IT U Y) {m n:Nat} {fs js:List Nat} (hok:zcu U n js=true)(hn:X.κ.length<=n)(hm:X.lens.length<=m):Rel M X (zcx U m n fs js Y):=by
  cases M with
  |none=>exact zsi (show Ext X Y from hE) hI hok hn hm
  | some G =>
    have hE:ExtG G.B X Y:=hE;have hok':=hok;simp only[zcu,and_eq_true,decide_eq_true_eq] at hok';have hl:=hI.κlen
    exact { os :=hE.os,tape:=hE.tape,output:=hE.output,size:=hE.size,drawn:=hE.drawn,cell:=hE.cell
            F:=fun b o h=> .inl (hE.F b o h)
            κ :=fun s b hs=>by
              have:=(List.getElem?_eq_some_iff.1 hs).1
              show(Y.κ.take n++js.map fun j=>Y.κ[j]?.getD 0)[s]? =some b
              rw[getElem?_append_left (by simp;omega),getElem?_take,if_pos (by omega)];exact hE.κ s b hs
            lens:=fun s L hs=>by
              have hsm:s<m:=by have:=(List.getElem?_eq_some_iff.1 hs).1;omega
              obtain⟨L',k1,k2,k3⟩:=hE.lens s L hs;obtain⟨q1,q2⟩:=zic (U:=U) (Y:=Y) (n:=n) (fs:=fs) (js:=js) s hsm;exact⟨L',by rw[q1];exact k1,k2,fun e=>by rw[q2];exact k3 e⟩
            blk:=hE.blk
            szs:=hE.szs
            frame:=hE.frame
            κnew:=fun b hb=>hE.κnew b (qbr hI hok hb)
            βnew:=fun r hr=>hE.βnew r (mem_of_mem_take hr)
            Onew:=hE.Onew
            Cmono:=hE.Cmono
            Cnew:=hE.Cnew
            Fnew :=fun b o h=>by
              rcases keepF hI h with h|h
              . exact hE.Fnew b o h
              . rcases hE.κnew b h with h|h
                . exact .inr (.inr (.inr h))
                . exact .inr (.inl h)}
theorem z1q {F:Fence} {B:Nat} (hIT:ITMono IT) {X0 X:Cx} {S:List AV} {U:St} {a:Act} {n:Nat} (h:Now IT M F B X0 S U X a) {m:Nat} (hm:X0.lens.length<=m)(hn:X0.κ.length<=n) {fs js:List Nat} {d:Nat} (hok:zcu U n js=true):
 Now IT M F B X0 (zx m (kz U.boxes m n fs js d) S) (zeo U m n fs js d) (zcx U m n fs js X) a where
 ext:=qll h.ext h.inv hok hn hm
 inv:=zsl hIT h.inv hok d
 reps:=zdb (X:=X) (Y:=zcx U m n fs js X) hIT (fun b o h=>Or.inl h) rfl zic (zpm hIT h.inv hok d) _ _ h.reps
 marks:=h.marks
 frn :=by
  have hf:=h.frn;cases M with
  |none=>trivial
  | some G=>
   obtain⟨s,f1,f2,f3,f4,f5,f6,f7⟩:Fr G U X:=hf;exact⟨s,f1,⟨f2.1,fun b o hc=>by
    rcases f2.2 b o hc with k|⟨k1,k2,k3⟩
    ·exact .inl (.inl k)
    ·exact .inr ⟨k1,fun hm=>k2 (qbr h.inv hok hm),fun r hr=>k3 r (mem_of_mem_take hr)⟩⟩,f3,f4,fun b hb=>f5 b (qbr h.inv hok hb),fun r hr=>f6 r (mem_of_mem_take hr),fun b o hF=>by
    rcases keepF h.inv hF with k|k
    ·exact f7 b o k
    ·exact .inr (f5 b k)⟩
theorem qka {F:Fence} {B:Nat} (hIT:ITMono IT) {X0 X:Cx} {S:List AV} {U:St} {a:Act} {n:Nat} (h:Now IT M F B X0 S U X a)(hn:X0.κ.length<=n) {fs js:List Nat} {d:Nat} (hok:zcu U n js=true):
 Now IT M F B X0 (zx U.lens.length (kz U.boxes U.lens.length n fs js d) S) (zeo U U.lens.length n fs js d) (zcx U U.lens.length n fs js X) a:=
 z1q hIT h (by rw[<-h.inv.lens];exact z7p h.ext.sub) hn hok
theorem inv_cut (hI:Inv IT U X) {s k:Nat} {t:TypeId} {cs:List AV} (hb:U.boxes[s]? =some (t,cs)):Inv IT {U with boxes:=U.boxes.set s (t,cs.take k)} X:=by
 have get: ∀(i:Nat) (t':TypeId) (c:List AV),(U.boxes.set s (t,cs.take k))[i]? =some (t',c)-> ∃c',U.boxes[i]? =some (t',c')/\ (c=c' \/c=c'.take k):=fun i t' c h=>by
  rw[List.getElem?_set] at h;split at h
  ·rename_i e;subst e;split at h
   ·cases h;exact⟨cs,hb,.inr rfl⟩
   ·cases h
  ·exact⟨c,h,.inl rfl⟩
 have emp: ∀(i:Nat) (t':TypeId),U.boxes[i]? =some (t',[])->(U.boxes.set s (t,cs.take k))[i]? =some (t',[]):=fun i t' h=>by
  rw[List.getElem?_set];split
  ·rename_i e;subst e;have hl:=(List.getElem?_eq_some_iff.1 hb).1;rw[hb] at h;cases h;rw[if_pos hl,List.take_nil]
  ·exact h
 refine {hI with lens:=hI.lens,elems:=hI.elems,κlen:=by rw[hI.κlen];simp,κnd:=fun a c b h1 h2 h3=>(hI.κnd a c b h1 h2 h3).imp (fun⟨t,e⟩=>⟨t,emp a t e⟩) (fun⟨t,e⟩=>⟨t,emp c t e⟩),box:=fun i b t' c h1 h2=> ?_,κF:=fun i b t' c h1 h2 hne o=> ?_}
 ·obtain⟨c',e1,e2⟩:=get i t' c h2;obtain⟨us,zs,u1,u2,u3⟩:=hI.box i b t' c' h1 e1;rcases e2 with rfl|rfl
  ·exact⟨us,zs,u1,u2,u3⟩
  ·refine⟨us.take k,us.drop k++zs,by rw[<-List.append_assoc,List.take_append_drop];exact u1,?_,fun v hv=>u3 v (mem_of_mem_take hv)⟩;have hl:=zq u2;refine zfw (by simp[hl]) fun j a v h3 h4=> ?_;rw[getElem?_take] at h3 h4;split at h3
   ·rename_i hj;rw[if_pos hj] at h4;obtain⟨v',h5,h6⟩:=zei u2 j a h3;rw[h4] at h5;cases h5;exact h6
   ·cases h3
 ·obtain⟨c',e1,e2⟩:=get i t' c h2;exact hI.κF i b t' c' h1 e1 (fun e=>hne (by rcases e2 with rfl|rfl<;>simp[e])) o
theorem qnw (hIT:ITMono IT) {U:St} {X:Cx} (hI:Inv IT U X) {s b0:Nat} {t:TypeId} {cs:List AV} (hb:U.boxes[s]? =some (t,cs))(hs:X.κ[s]? =some b0):
 Ext X {X with κ:=X.κ++[b0]}/\ Inv IT (qor s t cs U) {X with κ:=X.κ++[b0]}/\ ∀(l:List AV) (vs:List Value),zbf IT X l vs->zbf IT {X with κ:=X.κ++[b0]} (zx U.lens.length (mvz s U.boxes.length) l) vs:=by
 have hXl:=hI.κlen;have hm0:b0∈X.κ:=mem_of_getElem? hs;have hκo: ∀i b:Nat,X.κ[i]? =some b->(X.κ++[b0])[i]? =some b:=fun i b h=>by
  rw[getElem?_append_left (List.getElem?_eq_some_iff.1 h).1];exact h
 have hκi: ∀i b:Nat,(X.κ++[b0])[i]? =some b->(i<U.boxes.length/\ X.κ[i]? =some b) \/(i=U.boxes.length/\ b=b0):=fun i b h=>by
  rcases lt_or_ge i X.κ.length with hlt|hge
  ·rw[getElem?_append_left hlt] at h;exact .inl ⟨by omega,h⟩
  ·rw[List.getElem?_append_right hge] at h;have h0:=(List.getElem?_eq_some_iff.1 h).1;simp at h0;have e:i-X.κ.length=0:=by omega
   rw[e] at h;simp at h;exact .inr ⟨by omega,h.symm⟩
 have hmm: ∀b∈X.κ++[b0],b∈X.κ:=fun b h=>by
  rcases mem_append.1 h with h|h
  ·exact h
  ·simp at h;subst h;exact hm0
 have hmv: ∀i b:Nat,X.κ[i]? =some b->(X.κ++[b0])[mvN s U.boxes.length i]? =some b:=fun i b h=>by
  unfold mvN;split
  ·rename_i e;subst e;rw[hs] at h;cases h;rw[<-hXl,List.getElem?_append_right (le_refl _),Nat.sub_self];rfl
  ·exact hκo i b h
 have hg:(∀i off v,Rep IT X (.ptr i off) v->Rep IT {X with κ:=X.κ++[b0]} ((mvz s U.boxes.length).1 i off) v)/\ ∀i off n sz f v,Rep IT X (.bsl i off n sz f) v->Rep IT {X with κ:=X.κ++[b0]} ((mvz s U.boxes.length).2 i off n sz) v:=by
  refine⟨?_,?_⟩
  ·rintro i off v ⟨b,hb,rfl⟩;exact⟨b,hmv i b hb,rfl⟩
  ·rintro i off n sz f v ⟨b,cap,cur,t,hb,rfl,hcap,hful,hrow,hfit⟩;exact⟨b,cap,cur,t,hmv i b hb,rfl,hcap,(fun h=>by cases h),hrow,hfit⟩
 have hmL:=zdb (X:=X) (Y:={X with κ:=X.κ++[b0]}) (m:=U.lens.length) hIT (fun _ _ h=>h) rfl (fun i _=>⟨rfl,rfl⟩) hg;have hnew: ∀(i:Nat) (t':TypeId) (c:List AV),(qor s t cs U).boxes[i]? =some (t',c)->(i=s/\ t'=t/\ c=[]) \/(i<U.boxes.length/\ i≠s/\ ∃c',U.boxes[i]? =some (t',c')/\ c=zx U.lens.length (mvz s U.boxes.length) c') \/(i=U.boxes.length/\ t'=t/\ c=zx U.lens.length (mvz s U.boxes.length) cs):=fun i t' c h=>by
  have h:((U.boxes.mapIdx fun i b=>if i=s then(t,[]) else(b.1,zx U.lens.length (mvz s U.boxes.length) b.2))++[(t,zx U.lens.length (mvz s U.boxes.length) cs)])[i]? =some (t',c):=h;rcases lt_or_ge i U.boxes.length with hlt|hge
  ·rw[getElem?_append_left (by simpa using hlt)] at h;simp only[List.getElem?_mapIdx,getElem?_eq_getElem hlt,Option.map_some,Option.some.injEq] at h;by_cases e:i=s
   ·rw[if_pos e] at h;cases h;exact .inl ⟨e,rfl,rfl⟩
   ·rw[if_neg e] at h;cases h;exact .inr (.inl ⟨hlt,e,_,getElem?_eq_getElem hlt,rfl⟩)
  ·rw[List.getElem?_append_right (by simpa using hge)] at h;have h0:=(List.getElem?_eq_some_iff.1 h).1;simp at h0;have e:i-(U.boxes.mapIdx fun i b=>if i=s then(t,[]) else(b.1,zx U.lens.length (mvz s U.boxes.length) b.2)).length=0:=by simp;omega
   rw[e] at h;simp at h;exact .inr (.inr ⟨by omega,h.1.symm,h.2.symm⟩)
 have hsl:s<U.boxes.length:=(List.getElem?_eq_some_iff.1 hb).1;have ems:(qor s t cs U).boxes[s]? =some (t,[]):=by
  show((U.boxes.mapIdx fun i b=>if i=s then(t,[]) else(b.1,zx U.lens.length (mvz s U.boxes.length) b.2))++[(t,zx U.lens.length (mvz s U.boxes.length) cs)])[s]? =_
  rw[getElem?_append_left (by simpa using hsl)];simp[List.getElem?_mapIdx,hb]
 have emo: ∀(i:Nat) (t':TypeId),U.boxes[i]? =some (t',[])->(qor s t cs U).boxes[i]? =some (t',[]):=fun i t' h=>by
  by_cases e:i=s
  ·subst e;rw[hb] at h;cases h;exact ems
  ·show((U.boxes.mapIdx fun i b=>if i=s then(t,[]) else(b.1,zx U.lens.length (mvz s U.boxes.length) b.2))++[(t,zx U.lens.length (mvz s U.boxes.length) cs)])[i]? =_
   rw[getElem?_append_left (by simpa using(List.getElem?_eq_some_iff.1 h).1)];simp[List.getElem?_mapIdx,h,e,zx]
 have eml:cs=[]->(qor s t cs U).boxes[U.boxes.length]? =some (t,[]):=fun h=>by
  show((U.boxes.mapIdx fun i b=>if i=s then(t,[]) else(b.1,zx U.lens.length (mvz s U.boxes.length) b.2))++[(t,zx U.lens.length (mvz s U.boxes.length) cs)])[_]? =_
  rw[List.getElem?_append_right (by simp)];simp[h,zx]
 refine⟨?_,?_,hmL⟩
 ·exact {Ext.refl X with
   F:=fun _ _ h=>h,cell:=fun _ _ _=>rfl,lens:=fun s L h=>⟨L,h,le_refl _,fun _=>rfl⟩,szs:=Szs.refl _
   κ:=hκo
   blk:=fun _ _ _ cur _ _ h=>⟨cur,h,rfl⟩
   κnew:=fun b hb=> .inl (hmm b hb)
   Fnew:=fun _ _ h=> .inl h}
 ·refine {hI with lens:=hI.lens,elems:=hI.elems,κlen:=by show(X.κ++[b0]).length=(_++[_]:List _).length;simp[hXl],κnd:=fun i j b h1 h2 hne=> ?_,box:=fun i b t' c h1 h2=> ?_,κF:=fun i b t' c h1 h2 hne o=> ?_,βκ:=fun r hr hm=>hI.βκ r hr (hmm _ hm),Ok:=fun b hb=> ?_,Fcell:=hI.Fcell,gv:=hI.gv}
  ·rcases hκi i b h1 with⟨l1,k1⟩|⟨l1,rfl⟩<;>rcases hκi j b h2 with⟨l2,k2⟩|⟨l2,k2⟩
   ·exact(hI.κnd i j b k1 k2 hne).imp (fun⟨t',e⟩=>⟨t',emo i t' e⟩) (fun⟨t',e⟩=>⟨t',emo j t' e⟩)
   ·subst k2;by_cases e:i=s
    ·subst e;exact .inl ⟨t,ems⟩
    ·rcases hI.κnd i s b k1 hs e with⟨t',e2⟩|⟨t',e2⟩
     ·exact .inl ⟨t',emo i t' e2⟩
     ·rw[hb] at e2;cases e2;rw[l2];exact .inr ⟨_,eml rfl⟩
   ·by_cases e:j=s
    ·subst e;exact .inr ⟨t,ems⟩
    ·rcases hI.κnd j s b k2 hs e with⟨t',e2⟩|⟨t',e2⟩
     ·exact .inr ⟨t',emo j t' e2⟩
     ·rw[hb] at e2;cases e2;rw[l1];exact .inl ⟨_,eml rfl⟩
   ·omega
  ·rcases hnew i t' c h2 with⟨rfl,rfl,rfl⟩|⟨l1,e,c',h3,rfl⟩|⟨rfl,rfl,rfl⟩
   ·rcases hκi i b h1 with⟨_,k1⟩|⟨l1,_⟩
    ·obtain⟨us,zs,u1,_⟩:=hI.box i b t' cs k1 hb;exact⟨[],us++zs,by simpa using u1,rfl,fun v hv=>by cases hv⟩
    ·omega
   ·rcases hκi i b h1 with⟨_,k1⟩|⟨l2,_⟩
    ·obtain⟨us,zs,u1,u2,u3⟩:=hI.box i b t' c' k1 h3;exact⟨us,zs,u1,hmL c' us u2,u3⟩
    ·omega
   ·rcases hκi _ b h1 with⟨l1,_⟩|⟨_,rfl⟩
    ·omega
    ·obtain⟨us,zs,u1,u2,u3⟩:=hI.box s b t' cs hs hb;exact⟨us,zs,u1,hmL cs us u2,u3⟩
  ·rcases hnew i t' c h2 with⟨rfl,rfl,rfl⟩|⟨l1,e,c',h3,rfl⟩|⟨rfl,rfl,rfl⟩
   ·exact absurd rfl hne
   ·rcases hκi i b h1 with⟨_,k1⟩|⟨l2,_⟩
    ·exact hI.κF i b t' c' k1 h3 (fun e=>hne (by rw[e,zx])) o
    ·omega
   ·rcases hκi _ b h1 with⟨l1,_⟩|⟨_,rfl⟩
    ·omega
    ·exact hI.κF s b t' cs hs hb (fun e=>hne (by rw[e,zx])) o
  ·obtain⟨k1,k2,k3⟩:=hI.Ok b hb;exact⟨k1,fun hm=>k2 (hmm b hm),k3⟩
theorem qhh {F:Fence} {B:Nat} (hIT:ITMono IT) {X0 X:Cx} {S S':List AV} {U U':St} {a:Act} {n0:Nat} (h:Now IT M F B X0 S U X a)(hn:X0.κ.length<=n0)(hw:Wk1 n0 S U S' U'): ∃X',X'.w=X.w/\ Now IT M F B X0 S' U' X' a:=by
 rcases hw with⟨hf,hw⟩|⟨n,fs,js,d,h1,hok,hf,rfl⟩|⟨s,t,cs,hb,hf,rfl⟩|⟨s,k,t,cs,hb,hf,rfl⟩|⟨s,t,cs,hb,hf,rfl⟩
 rotate_right
 ·obtain⟨b0,hs⟩: ∃b0,X.κ[s]? =some b0:=⟨_,getElem?_eq_getElem (by rw[h.inv.κlen];exact(List.getElem?_eq_some_iff.1 hb).1)⟩;obtain⟨hE,hI,hr⟩:=qnw hIT h.inv hb hs;refine⟨{X with κ:=X.κ++[b0]},rfl,h.ext.trans (Rel.of hE),hI,zhz hf (hr _ _ h.reps),h.marks,?_⟩;have hfr:=h.frn;cases M with
  |none=>trivial
  | some G=>
   obtain⟨s1,f1,f2,f3,f4,f5,f6,f7⟩:Fr G U X:=hfr;have hm: ∀c,c∈X.κ++[b0]->c∈X.κ:=fun c hc=>by
    rcases mem_append.1 hc with hc|hc
    ·exact hc
    ·simp at hc;subst hc;exact mem_of_getElem? hs
   exact⟨s1,f1,⟨f2.1,fun b o hc=>(f2.2 b o hc).imp id fun⟨k1,k2,k3⟩=>⟨k1,fun hm'=>k2 (hm _ hm'),k3⟩⟩,f3,f4,fun b hb=>f5 b (hm b hb),f6,f7⟩
 rotate_right
 ·exact⟨X,rfl,h.ext,inv_cut h.inv hb,zhz hf h.reps,h.marks,by
   have hfr:=h.frn;cases M with
   |none=>trivial
   |some G=>exact hfr⟩
 rotate_left
 ·have hk:=qka hIT h (le_trans hn h1) hok (fs:=fs) (d:=d);exact⟨zcx U U.lens.length n fs js X,rfl,hk.ext,hk.inv,zhz hf hk.reps,hk.marks,hk.frn⟩
 ·obtain⟨X',e1,e2,e3,e4,e5,e6,⟨b,e7,e8⟩,hE,hI⟩:=qiy hIT h.inv hb;refine⟨X',e1,h.ext.trans (Rel.of hE),hI,zhz hf (zam hIT hE _ _ h.reps),by rw[e1];exact h.marks,?_⟩;have hfr:=h.frn;cases M with
  |none=>trivial
  | some G=>
   obtain⟨s,f1,f2,f3,f4,f5,f6,f7⟩:Fr G U X:=hfr;have hm: ∀c,c∈X'.κ->c∈X.κ:=fun c hc=>by
    rw[e8] at hc;rcases mem_append.1 hc with hc|hc
    ·exact hc
    ·simp at hc;subst hc;exact e7
   exact⟨s,by rw[e5];exact f1,⟨by rw[e6];exact f2.1,fun b o hc=>by
    rcases f2.2 b o hc with k|⟨k1,k2,k3⟩
    ·exact .inl (by rw[e2];exact k)
    ·exact .inr ⟨by rw[e1];exact k1,fun hm'=>k2 (hm _ hm'),by rw[e3];exact k3⟩⟩,by rw[e1];exact f3,by rw[e1];exact f4,fun b hb=>f5 b (hm b hb),by rw[e3];exact f6,by rw[e2];exact f7⟩
 have h':Now IT M F B X0 S' U X a:=⟨h.ext,h.inv,zhz hf h.reps,h.marks,h.frn⟩;rcases hw with rfl|⟨n,h1,h2,h3,rfl⟩
 ·exact⟨X,rfl,h'⟩
 ·have:=qah hIT none h' (le_trans hn h1) h2;rw[qns n S' h3] at this;exact⟨{X with κ:=X.κ.take n},rfl,this⟩
theorem z2p {F:Fence} {B:Nat} (hIT:ITMono IT) {X0:Cx} {a:Act} {n0:Nat} (hn:X0.κ.length<=n0) {S S':List AV} {U U':St} (hw:Wk n0 S U S' U'): ∀ {X:Cx},Now IT M F B X0 S U X a-> ∃X',X'.w=X.w/\ Now IT M F B X0 S' U' X' a:=by
 induction hw with
 |one h=>intro X hX;exact qhh hIT hX hn h
 | step h k ih=>
  intro X hX;obtain⟨X1,e1,h1⟩:=qhh hIT hX hn h;obtain⟨X2,e2,h2⟩:=ih h1;exact⟨X2,e2.trans e1,h2⟩
theorem Rel.noncells (h:Rel M X X')(hI:Inv IT U X) {k:Nat} {o:Obj} (hB: ∀G,M=some G->G.B<=k)(hk:X.w.heap[k]? =some o)(ho:o.isCells=false):X'.w.heap[k]? =some o:=by
 cases M with
 |none=>exact Ext.noncells (show Ext X X' from h) hI hk ho
 | some G=>
  refine(show ExtG G.B X X' from h).frame k o hk (hB G rfl) (fun hm=> ?_) (fun r hr e=> ?_) (fun hO=> ?_)
  ·obtain⟨s,hs,rfl⟩:=mem_iff_getElem.1 hm;have hl:=hI.κlen;obtain⟨vs,zs,h1,_⟩:=hI.box s X.κ[s] (U.boxes[s]'(by omega)).1 (U.boxes[s]'(by omega)).2 (by simp[hs]) (by rw[getElem?_eq_getElem (by omega)]);rw[hk] at h1;cases h1;cases ho
  ·obtain⟨s,hs,rfl⟩:=mem_iff_getElem.1 hr;have hl:=hI.βlen;obtain⟨cur,fz,h1,_⟩:=hI.row s X.β[s] (X.lens[s]'(by omega)) (by simp[hs]) (by rw[getElem?_eq_getElem (by omega)]);rw[e,hk] at h1;cases h1;cases ho
  ·obtain⟨⟨cs0,t0,f0,h0⟩,_⟩:=hI.Ok k hO;rw[hk] at h0;cases h0;cases ho
theorem FenceAt.ext {B:Nat} {F:Fence} (hM: ∀G,M=some G->G.B<=B)(h:FenceAt B F X.w)(hE:Rel M X X')(hI:Inv IT U X):FenceAt B F X'.w:=
 h.imp id fun⟨l0,r0,h1,h0,h2⟩=>⟨l0,r0,h1,h0,hE.noncells hI (fun G e=>le_trans (hM G e) h0) h2 rfl⟩
theorem z4e {P:Program} {B:Nat} (h:zuc P B M): ∀G,M=some G->G.B<=B:=fun G e=>by subst e;exact h.2
def zsg (P:Program)(c:Code):Prop:= ∀ {M:Option Gen} {F:Fence} {nn B:Nat} (hG:zuc P B M) (hF:FenceOk F P) (k0:Nat) (Q:AQ) (S:List AV) (U:St) (X0 X:Cx) (a:Act) (K:Exit->Act->World->Prop),X0.κ.length<=k0->(B<=X0.w.heap.size/\ ∃U0,Inv (ITP P) U0 X0)->awp (ITP P) P (zdu M) k0 c Q S U->Now (ITP P) M F B X0 S U X a->(FenceAt B F X0.w \/zcj c=true)->
 (∀e S U X a,Q e S U->Now (ITP P) M F B X0 S U X a->K e.to a X.w)->c.wpIn F nn P K a X.w
theorem qfp {P:Program} (hIT:ITMono (ITP P)) {x:Code} (ih:zsg P x):zsg P (.loop x):=by
 intro M F nn B hG hF k0 Q S U X0 X a K hk hI0 h hn hfe hK;obtain⟨m,h⟩:=h;refine wpIn_loop_rounds m ?_;have key: ∀(m:Nat) (S:List AV) (U:St) (X1:Cx) (a:Act),zrd (awp (ITP P) P (zdu M) k0 x) Q k0 m S U->Now (ITP P) M F B X0 S U X1 a->Code.roundsIn F nn P x K m a X1.w:=by
  intro m;induction m with
  |zero=>intro S U X1 a h;exact h.elim
  | succ m ihm=>
   intro S U X1 a h hn1;obtain⟨S',U',hw,h⟩:=h;obtain⟨X2,hw2,hn2⟩:=z2p hIT hk hw hn1;rw[roundsIn_succ, <-hw2];refine ih hG hF k0 _ S' U' X0 X2 a _ hk hI0 h hn2 hfe ?_;intro e S3 U3 X3 a3 hq hn3;cases e with
   |normal=>exact ihm S3 U3 X3 a3 hq hn3
   |exit id=>exact hK _ _ _ _ _ hq hn3
   |ret=>exact hK _ _ _ _ _ hq hn3
 exact key m S U X a h hn
theorem qli {P:Program} {x:Code} (ihx:zsg P x)(ihy:zsg P y):zsg P (.seq x y):=by
 intro M F nn B hG hF k0 Q S U X0 X a K hk hI0 h hn hfe hK;refine wpIn_seq ?_;have hfe1:FenceAt B F X0.w \/zcj x=true:=hfe.imp id fun h=>by simp only[zcj,and_eq_true] at h;exact h.1
 rcases h with h|⟨hW,S',U',hs,h⟩
 rotate_left
 ·cases M with
  |some G=>cases hW
  | none=>
   refine wpIn_mono (hs hF hI0 hn hfe1) ?_;rintro e a' w' ⟨rfl,X',rfl,hn'⟩;exact ihy hG hF k0 _ S' U' X0 X' a' _ hk hI0 h hn' (hfe.imp id fun h=>by simp only[zcj,and_eq_true] at h;exact h.2) hK
 refine ihx hG hF k0 _ S U X0 X a _ hk hI0 h hn hfe1 ?_;intro e S1 U1 X1 a1 hq hn1;cases e with
 | normal=>
  obtain⟨S2,U2,hw,hq⟩:=hq;obtain⟨X2,e2,hn2⟩:=z2p (ze P) hk hw hn1;show y.wpIn F nn P K a1 X1.w;rw[<-e2];exact ihy hG hF k0 _ S2 U2 X0 X2 a1 _ hk hI0 hq hn2 (hfe.imp id fun h=>by simp only[zcj,and_eq_true] at h;exact h.2) hK
 |exit id=>exact hK _ _ _ _ _ hq hn1
 |ret=>exact hK _ _ _ _ _ hq hn1
theorem qhg {P:Program} {c:Operand} {x:Code} (ihx:zsg P x)(ihy:zsg P y):zsg P (.cond c x y):=by
 intro M F nn B hG hF k0 Q S U X0 X a K hk hI0 h hn hfe hK;obtain⟨t,hc,h⟩:=h;have hv:=zde hn.reps c;rw[hc,Rep] at hv;refine wpIn_cond hv ?_;cases t with
 |true=>exact ihx hG hF k0 _ S U X0 X a _ hk hI0 h hn (hfe.imp id fun h=>by simp only[zcj,and_eq_true] at h;exact h.1) hK
 |false=>exact ihy hG hF k0 _ S U X0 X a _ hk hI0 h hn (hfe.imp id fun h=>by simp only[zcj,and_eq_true] at h;exact h.2) hK
theorem qcp {P:Program} {id:Nat} {x:Code} (ihx:zsg P x):zsg P (.block id x):=by
 intro M F nn B hG hF k0 Q S U X0 X a K hk hI0 h hn hfe hK;rcases h with h|⟨hW,S',U',hs,h⟩
 rotate_left
 ·cases M with
  |some G=>cases hW
  | none=>
   refine wpIn_mono (hs hF hI0 hn hfe) ?_;rintro e a' w' ⟨rfl,X',rfl,hn'⟩;exact hK .normal _ _ _ _ h hn'
 refine wpIn_block ?_;have hl:X0.lens.length<=U.lens.length:=by rw[<-hn.inv.lens];exact z7p hn.ext.sub
 have drop: ∀S1 U1 X1 a1,qcw U.lens.length k0 (Q .normal) S1 U1->Now (ITP P) M F B X0 S1 U1 X1 a1->K .normal a1 X1.w:=by
  rintro S1 U1 X1 a1 (hq|⟨m,n,fs,js,d,S',hm,hn0,hok,hfg,hq⟩) hn1
  ·exact hK .normal _ _ _ _ hq hn1
  ·have hk1:=z1q (ze P) hn1 (le_trans hl hm) (le_trans hk hn0) hok (fs:=fs) (d:=d);exact hK .normal _ _ (zcx U1 m n fs js X1) _ hq ⟨hk1.ext,hk1.inv,zhz hfg hk1.reps,hk1.marks,hk1.frn⟩
 refine ihx hG hF k0 _ S U X0 X a _ hk hI0 h hn hfe ?_;intro e S1 U1 X1 a1 hq hn1;cases e with
 |normal=>exact drop _ _ _ _ hq hn1
 | exit j=>
  simp only[zjk] at hq;simp only[AExit.to,Exit.inBlock];split at hq
  ·rename_i e;rw[if_pos e];exact drop _ _ _ _ hq hn1
  ·rename_i e;rw[if_neg e];exact hK (.exit j) _ _ _ _ hq hn1
 |ret=>exact hK _ _ _ _ _ hq hn1
section
variable {P:Program} {b:Frame} {a:Act} {k:List Item} {cs:List Frame} {w:World} {Q:Exit->Act->World->Prop} {F:Fence} {n:Nat}
theorem stepR_scope:step P (lone (b.atR a (.code (.scope c)::k)) cs w)= .next (lone (b.atR a (.code c:: .inScope c::k)) cs w):=
 step_lone_go (by simp[stepG,stepG.exec,Frame.atR])
theorem stepR_inScope:step P (lone (b.atR a (.inScope c::k)) cs w)= .next (lone (b.atR a k) cs w):=
 step_lone_go (by simp[stepG,stepG.exec,Frame.atR])
theorem wpIn_scope_straight (h:c.wpIn F n P (Exit.noGoto Q) a w):(Code.scope c).wpIn F n P Q a w:=by
 intro b k cs hro hb hr;have h0:(lone (b.atR a (.code (.scope c)::k)) cs w).fenced P F:=fenced_calm hb hr rfl;obtain⟨e,a₁,w₁,hq,harr⟩:=h b (.inScope c::k) cs hro hb hr;cases e with
 |normal=>exact⟨.normal,a₁,w₁,hq,.head h0 stepR_scope (StepsIn.trans harr (.one (fenced_calm hb hr rfl) stepR_inScope))⟩
 | exit id=>
  have hx:exitTo id (.inScope c::k)=exitTo id k:=by simp[exitTo]
  exact⟨.exit id,a₁,w₁,hq,fun k' hk=> .head h0 stepR_scope (harr.1 k' (by rw[hx];exact hk)),
   fun hr' hk=>let⟨k₁,h1,h2⟩:=harr.2 hr' (by rw[hx];exact hk);⟨k₁,h1,.head h0 stepR_scope h2⟩⟩
 |goto l=>exact hq.elim
 |ret=>exact⟨_,a₁,w₁,hq,.of_steps (.one h0 stepR_scope) harr⟩
 |panic ch=>exact⟨_,a₁,w₁,hq,.of_steps (.one h0 stepR_scope) harr⟩
 |outgrown=>exact⟨_,a₁,w₁,hq,.of_steps (.one h0 stepR_scope) harr⟩
end
theorem qbb {P:Program} {x:Code} (ih:zsg P x):zsg P (.scope x):=by
 intro M F nn B hG hF k0 Q S U X0 X a K hk hI0 h hn hfe hK;refine wpIn_scope_straight (ih hG hF k0 Q S U X0 X a _ hk hI0 h hn hfe ?_);intro e S1 U1 X1 a1 hq hn1;cases e with
 |normal=>exact hK .normal _ _ _ _ hq hn1
 |exit id=>exact hK (.exit id) _ _ _ _ hq hn1
 |ret=>exact hK .ret _ _ _ _ hq hn1
end Go.Ab
