import Derived.Test.YtnoccnalocdldaaDoorZdH
set_option linter.all false
namespace Go.FwdG
open Go Go.RowKit Go.Fwd
structure Gh where
 Γ:Type
 π:Γ→World
 Le:Γ→Γ→Prop
 refl: ∀x,Le x x
 trans: ∀x y z,Le x y→Le y z→Le x z
abbrev VP (G:Gh):=Value→G.Γ→Prop
def Mono {G:Gh} (V:VP G):Prop:= ∀v w w',G.Le w w'→V v w→V v w'
def Is {G:Gh} (e:Value):VP G:=fun v _=>v=e
abbrev Acc (G:Gh):=List (Tmp×VP G)
def env {G:Gh} (a0:Act):Acc G→Tmp→VP G
 |[],t=>Is (a0.eval (.tmp t))
 |(d,V)::r,t=>if d=t then V else env a0 r t
def OpGood {G:Gh} (P:Program)(V:VP G)(w:G.Γ):Result Next→Prop
 | .ok (.value v) w'=> ∃x,G.π x=w'∧G.Le w x∧V v x
 | .ok .skip w'=> ∃x,G.π x=w'∧G.Le w x∧V undef x
 | .ok (.enter f args) w'=>Calls P f args w' fun e w''=> ∃v,e= .returned v∧ ∃x,G.π x=w''∧G.Le w x∧V v x
 |_=>False
def All {G:Gh} (E:Tmp→VP G)(ρ:Operand→Value)(w:G.Γ):List Tmp→Prop
 |[]=>True
 |t::r=>E t (ρ (.tmp t)) w∧All E ρ w r
theorem all_mk {G:Gh} {E:Tmp→VP G} {ρ:Operand→Value} {w:G.Γ}: ∀ {l:List Tmp},(∀t∈l,E t (ρ (.tmp t)) w)→All E ρ w l
 |[],_=>trivial
 |t::_,h=>⟨h t (by simp),all_mk fun u hu=>h u (by simp[hu])⟩
def StepOk {G:Gh} (P:Program)(ops:Array Oper)(w0:G.Γ)(a0:Act)(acc:Acc G)(V:VP G)(o:Oper):Prop:=
 ∀ (ρ:Operand→Value) (w:G.Γ),Env ρ→G.Le w0 w→All (env a0 acc) ρ w (zef o.op.operands.toList)→
  match o.guard with
  |none=>OpGood P V w ((execOp ρ o).run P (G.π w))
  |some (k,b)=> ∃d,zbl ops k=some d∧ ∀g,env a0 acc d g w→(g= .bool b→OpGood P V w ((execOp ρ o).run P (G.π w)))∧(g≠ .bool b→V undef w)
def accOf {G:Gh} (acc:Acc G)(d:Option Tmp)(V:VP G):Acc G:=match d with|some t=>(t,V)::acc|none=>acc
def FwdGo {G:Gh} (P:Program)(ops:Array Oper)(w0:G.Γ)(a0:Act)(fin:Acc G→Prop):List Oper→Acc G→Prop
 |[],acc=>fin acc
 |o::rest,acc=> ∃V,Mono V∧StepOk P ops w0 a0 acc V o∧FwdGo P ops w0 a0 fin rest (accOf acc o.dst V)
def EndAt {G:Gh} (w:G.Γ):Acc G→Act→(Act→Prop)→Prop
 |[],a,K=>K a
 |(d,V)::r,a,K=>EndAt w r a fun a'=> ∀v,V v w→K (a'.put (some d) v)
section
variable {G:Gh} {F:Fence} {nn:Nat} {P:Program} {ops:Array Oper} {w0:G.Γ} {a0:Act} {md:Region.Mode}
def accU (ops:Array Oper)(Vs:Nat→VP G):Nat→Acc G
 |0=>[]
 |i+1=>accOf (accU ops Vs i) (zbl ops i) (Vs i)
theorem fwd_choose {fin:Acc G→Prop}: ∀(l:List Oper) (k:Nat) (Vs:Nat→VP G),(∀j,j<l.length→l[j]? =ops[k+j]?)→
 FwdGo P ops w0 a0 fin l (accU ops Vs k)→
 ∃Ws:Nat→VP G,(∀i,i<k→Ws i=Vs i)∧(∀i,k≤i→i<k+l.length→Mono (Ws i)∧ ∀o,ops[i]? =some o→StepOk P ops w0 a0 (accU ops Ws i) (Ws i) o)∧fin (accU ops Ws (k+l.length))
 |[],k,Vs,_,h=>⟨Vs,fun _ _=>rfl,fun i h1 h2=>by simp at h2;omega,h⟩
 | o::l,k,Vs,hl,⟨V,hm,hs,hgo⟩=>by
  have h0:ops[k]? =some o:=by simpa using(hl 0 (by simp)).symm
  have eU: ∀(A B:Nat→VP G) m,(∀i,i<m→A i=B i)→accU ops A m=accU ops B m:=by
   intro A B m
   induction m with
   |zero=>intro _;rfl
   |succ m ih=>intro h;simp only[accU,ih (fun i hi=>h i (by omega)),h m (by omega)]
  let Vs':Nat→VP G:=fun i=>if i=k then V else Vs i
  have e1:accU ops Vs' k=accU ops Vs k:=eU _ _ _ fun i hi=>by simp[Vs',Nat.ne_of_lt hi]
  have e2:accU ops Vs' (k+1)=accOf (accU ops Vs k) o.dst V:=by
   simp only[accU,e1,zbl,h0,Option.bind_some];simp[Vs']
  obtain⟨Ws,hw1,hw2,hw3⟩:=fwd_choose l (k+1) Vs' (fun j hj=>by have:=hl (j+1) (by simp;omega);simpa[Nat.add_assoc,Nat.add_comm 1 j] using this) (by rw[e2];exact hgo)
  have hk:Ws k=V:=by rw[hw1 k (by omega)];simp[Vs']
  have hsame: ∀i,i<k→Ws i=Vs i:=fun i hi=>by rw[hw1 i (by omega)];simp[Vs',Nat.ne_of_lt hi]
  refine⟨Ws,hsame,fun i h1 h2=> ?_,by rw[show k+(o::l).length=k+1+l.length by simp;omega];exact hw3⟩
  by_cases hik:i=k
  ·subst hik
   rw[hk,eU Ws Vs i hsame]
   exact⟨hm,fun o' ho'=>by rw[h0] at ho';cases ho';exact hs⟩
  ·exact hw2 i (by omega) (by simp at h2;omega)
theorem env_none {Vs:Nat→VP G} {t:Tmp}: ∀i,(∀j,j<i→zbl ops j≠some t)→env a0 (accU ops Vs i) t=Is (a0.eval (.tmp t))
 |0,_=>rfl
 | i+1,h=>by
  simp only[accU]
  cases hd:zbl ops i with
  |none=>simp only[accOf];exact env_none i fun j hj=>h j (by omega)
  | some d=>
   have:d≠t:=fun e=>h i (by omega) (by rw[hd,e])
   simp only[accOf,env,if_neg this];exact env_none i fun j hj=>h j (by omega)
theorem env_some {Vs:Nat→VP G} {t:Tmp} {j:Nat} (hd:zbl ops j=some t): ∀i,j<i→(∀k,k<i→k≠j→zbl ops k≠some t)→env a0 (accU ops Vs i) t=Vs j
 |0,h,_=>absurd h (Nat.not_lt_zero _)
 | i +1,h,hne=>by
  simp only[accU]
  by_cases hij:j=i
  ·subst hij;simp[hd,accOf,env]
  ·cases hd':zbl ops i with
   |none=>simp only[accOf];exact env_some hd i (by omega) fun k hk hkj=>hne k (by omega) hkj
   | some d=>
    have:d≠t:=fun e=>hne i (by omega) (by omega) (by rw[hd',e])
    simp only[accOf,env,if_neg this];exact env_some hd i (by omega) fun k hk hkj=>hne k (by omega) hkj
structure Inv (ops:Array Oper)(w0:G.Γ)(a0:Act)(Vs:Nat→VP G)(n:Nat)(listed:Array Bool)(a:Act)(w:G.Γ):Prop where
 head:HeadInv .any ops n listed
 grows:G.Le w0 w
 defers:a.defers=a0.defers
 size:a.tmps.size=a0.tmps.size
 done: ∀j t,j<n→zbl ops j=some t→listed.getD j true=true→Vs j (a.eval (.tmp t)) w
 still: ∀t,(∀j,j<n→zbl ops j=some t→listed.getD j true=false)→a.eval (.tmp t)=a0.eval (.tmp t)
theorem Inv.slot {Vs:Nat→VP G} {n size i:Nat} {listed:Array Bool} {a:Act} {w:G.Γ} (inv:Inv ops w0 a0 Vs n listed a w)(hB:zrz ops size n=true)
 (hi:i∈Region.ready .any ops listed) (hin:i<n) {t:Tmp} (ht:t∈zgg ops i):env a0 (accU ops Vs i) t (a.eval (.tmp t)) w:=by
 obtain⟨hun,o,ho,hall⟩:=mem_ready.1 hi
 by_cases hw: ∃j,j<n∧zbl ops j=some t
 ·obtain⟨j,hj,hd⟩:=hw
  obtain⟨_,hdist,hlk⟩:=zgj hB hj hd
  rcases hlk i hin ht with⟨hji,hwt⟩|⟨hij,hwt⟩
  ·obtain⟨o',ho',e,he,hb,hon⟩:=zee hwt
   rw[ho] at ho';cases ho'
   have hl:=hall e he hb
   rw[hon] at hl
   rw[env_some hd i hji fun k hk hkj=>hdist k (by omega) hkj]
   exact inv.done j t hj hd (zpj hl)
  ·obtain⟨o',ho',e,he,hb,hon⟩:=zee hwt
   have hnl:listed.getD j true=false:=by
    cases hl:listed.getD j true with
    |false=>rfl
    | true=>
     have hjs:j<listed.size:=by rw[inv.head.size];exact(Array.getElem?_eq_some_iff.1 ho').1
     have:=inv.head.closed j o' ho' (zmk hjs hl) e he hb
     rw[hon,getD_both hun] at this;cases this
   rw[env_none i fun k hk hk2=>hdist k (by omega) (by omega) hk2]
   exact inv.still t fun k hk hk2=>by
    by_cases hkj:k=j
    ·rw[hkj];exact hnl
    ·exact absurd hk2 (hdist k hk hkj)
 ·rw[env_none i fun k hk hk2=>hw ⟨k,by omega,hk2⟩]
  exact inv.still t fun k hk hk2=>absurd ⟨k,hk,hk2⟩ hw
theorem Inv.step {Vs:Nat→VP G} {n i:Nat} {listed:Array Bool} {a:Act} {w w':G.Γ} {v:Value} (inv:Inv ops w0 a0 Vs n listed a w)(hB:zrz ops a0.tmps.size n=true)
 (hm: ∀j,j<n→Mono (Vs j)) (hi:i∈Region.ready .any ops listed) (hin:i<n) (hg:G.Le w w') (hv:Vs i v w'):
 Inv ops w0 a0 Vs n (listed.setIfInBounds i true) (a.put (zbl ops i) v) w':=by
 have hun:=(mem_ready.1 hi).1
 refine⟨inv.head.set hi hin,G.trans _ _ _ inv.grows hg,by rw[Act.defers_put];exact inv.defers,by rw[Act.size_put];exact inv.size,fun j t hj hd hl=> ?_,fun t h=> ?_⟩
 ·by_cases hji:j=i
  ·subst hji
   rw[hd,Act.eval_put_same (by rw[inv.size];exact(zgj hB hj hd).1)]
   exact hv
  ·rw[getD_set_ne true (Ne.symm hji)] at hl
   rw[Act.eval_put fun d h1 h2=>(zgj hB hj hd).2.1 i hin (Ne.symm hji) (by rw[h1];cases h2;rfl)]
   exact hm j hj _ _ _ hg (inv.done j t hj hd hl)
 ·have hne:zbl ops i≠some t:=fun he=>by
   have:=h i hin he
   have hs:i<listed.size:=by
    rcases Nat.lt_or_ge i listed.size with h'|h'
    ·exact h'
    ·simp[Array.getElem?_eq_none h'] at hun
   simp[hs] at this
  rw[Act.eval_put fun d h1 h2=>hne (by rw[h1];cases h2;rfl)]
  exact inv.still t fun j hj hd=>by
   have:=h j hj hd
   by_cases hji:j=i
   ·subst hji;exact absurd hd hne
   ·rwa[getD_set_ne true (Ne.symm hji)] at this
theorem end_of_inv {Vs:Nat→VP G} {n:Nat} {a:Act} {w:G.Γ} (hB:zrz ops a0.tmps.size n=true)(hs:a.tmps.size=a0.tmps.size)(hd:a.defers=a0.defers)
 (done: ∀j t,j<n→zbl ops j=some t→Vs j (a.eval (.tmp t)) w) (still: ∀t,(∀j,j<n→zbl ops j≠some t)→a.eval (.tmp t)=a0.eval (.tmp t)) {K:Act→Prop}
 (h:EndAt w (accU ops Vs n) a0 K):K a:=by
 have key: ∀m,m≤n→ ∀(K:Act→Prop),EndAt w (accU ops Vs m) a0 K→ ∃b:Act,K b∧b.tmps.size=a0.tmps.size∧b.defers=a0.defers∧(∀j t,j<m→zbl ops j=some t→b.eval (.tmp t)=a.eval (.tmp t))∧
  (∀t,(∀j,j<m→zbl ops j≠some t)→b.eval (.tmp t)=a0.eval (.tmp t)):=by
  intro m
  induction m with
  |zero=>intro _ K h;exact⟨a0,h,rfl,rfl,fun j t hj=>absurd hj (Nat.not_lt_zero _),fun _ _=>rfl⟩
  | succ m ih=>
   intro hm K h
   simp only[accU] at h
   cases hdm:zbl ops m with
   | none=>
    rw[hdm] at h
    obtain⟨b,h1,h2,h3,h4,h5⟩:=ih (by omega) K h
    refine⟨b,h1,h2,h3,fun j t hj hd=> ?_,fun t hh=>h5 t fun j hj=>hh j (by omega)⟩
    by_cases hjm:j=m
    ·rw[hjm,hdm] at hd;cases hd
    ·exact h4 j t (by omega) hd
   | some d=>
    rw[hdm] at h
    simp only[accOf,EndAt] at h
    obtain⟨b,h1,h2,h3,h4,h5⟩:=ih (by omega) _ h
    have hsp:=zgj hB (show m<n by omega) hdm
    refine⟨b.put (some d) (a.eval (.tmp d)),h1 _ (done m d (by omega) hdm),by rw[Act.size_put];exact h2,by rw[Act.defers_put];exact h3,fun j t hj hd'=> ?_,fun t hh=> ?_⟩
    ·by_cases hjm:j=m
     ·rw[hjm,hdm] at hd';cases hd'
      exact Act.eval_put_same (by rw[h2];exact hsp.1)
     ·rw[Act.eval_put fun d' e1 e2=>by cases e1;cases e2;exact hsp.2.1 j (by omega) hjm hd']
      exact h4 j t (by omega) hd'
    ·rw[Act.eval_put fun d' e1 e2=>by cases e1;cases e2;exact hh m (by omega) hdm]
     exact h5 t fun j hj=>hh j (by omega)
 obtain⟨b,h1,h2,h3,h4,h5⟩:=key n (Nat.le_refl _) K h
 have:b=a:=by
  have et:b.tmps=a.tmps:=by
   apply Array.ext (by rw[h2,hs])
   intro t ht1 ht2
   have e:b.eval (.tmp t)=a.eval (.tmp t):=by
    by_cases hw: ∃j,j<n∧zbl ops j=some t
    ·obtain⟨j,hj,hd'⟩:=hw;exact h4 j t hj hd'
    ·rw[h5 t fun j hj he=>hw ⟨j,hj,he⟩,still t fun j hj he=>hw ⟨j,hj,he⟩]
   simpa[Act.eval,ht1,ht2] using e
  cases a;cases b;simp_all
 rw[←this];exact h1
theorem wpIn_of_good {o:Oper} {V:VP G} {a:Act} {w:G.Γ} {K:Act→World→Prop} {Q:Exit→Act→World→Prop} (hF:FenceOk F P)(hnd: ∀c,o.op≠ .defer c)(h:OpGood P V w ((execOp a.eval o).run P (G.π w)))
 (hK: ∀v w',G.Le w w'→V v w'→K (a.put o.dst v) (G.π w')):o.wpIn F nn P a (G.π w) K Q:=by
 unfold Oper.wpIn
 refine⟨fun f _=>hF.fn f,?_⟩
 rw[Oper.semAt_plain F _ _ hnd]
 generalize (execOp a.eval o).run P (G.π w)=r at*
 cases r with
 |halt x w'=>exact h.elim
 | ok x w'=>
  cases x<;>simp only[OpGood] at h<;>simp only[Oper.uponIn]
  case value v=>obtain⟨x,rfl,h1,h2⟩:=h;exact hK _ _ h1 h2
  case skip=>obtain⟨x,rfl,h1,h2⟩:=h;exact hK _ _ h1 h2
  case enter f args=>
   refine⟨fun hd=>(by rw[hF.depth] at hd;cases hd),CallsIn.mono (hF.calls _ _ _ _ _ h) ?_⟩
   rintro e w'' ⟨v,rfl,x,rfl,hg,hv⟩
   exact hK _ _ hg hv
theorem anyIn_of_inv (hF:FenceOk F P)(hnd: ∀ {i:Nat} (o:Oper),ops[i]? =some o→ ∀c,o.op≠ .defer c) {Vs:Nat→VP G} {n:Nat} {Q:Exit→Act→World→Prop} (hm: ∀j,j<n→Mono (Vs j))(hst: ∀i,i<n→ ∀o,ops[i]? =some o→StepOk P ops w0 a0 (accU ops Vs i) (Vs i) o)
 (hB:zrz ops a0.tmps.size n=true) (hback:zvp ops=true) (hn:n≤ops.size) (htail:n=ops.size∨(Region.sinkB .any ops n=true∧Region.chainB .any ops n=true))
 (hseq:Region.seqB .any ops (ops.size-n) n ((List.replicate n true).toArray++(List.replicate (ops.size-n) false).toArray)=true)
 (hfin: ∀a w,a.tmps.size=a0.tmps.size→a.defers=a0.defers→G.Le w0 w→(∀j t,j<n→zbl ops j=some t→Vs j (a.eval (.tmp t)) w)→(∀t,(∀j,j<n→zbl ops j≠some t)→a.eval (.tmp t)=a0.eval (.tmp t))→
  wpListIn F nn P ops Q (ops.toList.drop n) a (G.π w)):
 ∀(f:Nat) (listed:Array Bool) (a:Act) (w:G.Γ),left n listed=f→Inv ops w0 a0 Vs n listed a w→wpAnyIn F nn P .any ops Q (f+(ops.size-n)) listed a (G.π w)
 | 0, listed,a,w,h0,inv=>by
  have hall:=zhm n h0
  have hl:listed=(List.replicate n true).toArray++(List.replicate (ops.size-n) false).toArray:=by
   apply Array.ext
   ·simp[inv.head.size];omega
   ·intro i h1 h2
    by_cases hin:i<n
    ·have:=hall i hin
     simp[h1] at this
     rw[this,Array.getElem_append_left (by simpa using hin)];simp
    ·have hs:i<ops.size:=by rw[←inv.head.size];exact h1
     have:=inv.head.tail i (by omega) hs
     simp[h1] at this
     rw[this,Array.getElem_append_right (by simp;omega)];simp
  rw[Nat.zero_add]
  have hlen:(ops.toList.drop n).length=ops.size-n:=by simp
  have:=zim (F:=F) (nn:=nn) (P:=P) (md:= .any) (ops:=ops) (Q':=Q) (ops.toList.drop n) n listed a (G.π w) (fun j=>by simp) (by rw[hlen,hl];exact hseq)
   (hfin a w inv.size inv.defers inv.grows (fun j t hj hd=>inv.done j t hj hd (hall j hj)) (fun t h=>inv.still t fun j hj hd=>absurd hd (h j hj)))
  rwa[hlen] at this
 | f + 1,listed,a,w,h0,inv=>by
  obtain⟨i0,hi0,hu0,hb0⟩:=zln n (by rw[h0];exact Nat.succ_ne_zero f)
  have hr0:i0∈Region.ready .any ops listed:=by
   have hlt:i0<ops.size:=by omega
   refine mem_ready.2 ⟨hu0,ops[i0],by simp[hlt],fun e he hb=> ?_⟩
   have h1:=List.all_eq_true.1 hback i0 (List.mem_range.2 hlt)
   rw[Array.getElem?_eq_getElem hlt] at h1
   have h2:=Array.all_eq_true'.1 h1 e he
   have h3:e.on<i0:=by simpa[hb] using h2
   exact zmk (by rw[inv.head.size];omega) (hb0 _ h3)
  rw[show f+1+(ops.size-n)=(f+(ops.size-n))+1 by omega]
  refine⟨fun h=>(by rw[h] at hr0;cases hr0),fun i hi=> ?_⟩
  have hlt:i<ops.size:=by obtain⟨_,o,ho,_⟩:=mem_ready.1 hi;exact(Array.getElem?_eq_some_iff.1 ho).1
  have hin:i<n:=by
   rcases Nat.lt_or_ge i n with h|h
   ·exact h
   ·rcases htail with hh|⟨hs,hc⟩
    ·omega
    ·exact absurd hi (tail_waits hs hc (by omega) inv.head _ i0 rfl hi0 hu0 i h)
  obtain⟨hun,o,ho,_⟩:=mem_ready.1 hi
  have hleft:left n (listed.setIfInBounds i true)=f:=by have:=zlv hun n hin;omega
  have next: ∀v w',G.Le w w'→Vs i v w'→wpAnyIn F nn P .any ops Q (f+(ops.size-n)) (listed.setIfInBounds i true) (a.put o.dst v) (G.π w'):=fun v w' hg hv=>by
   have:=inv.step hB hm hi hin hg hv
   have e:zbl ops i=o.dst:=by simp[zbl,ho]
   rw[e] at this
   exact anyIn_of_inv hF hnd hm hst hB hback hn htail hseq hfin f _ _ _ hleft this
  have hlk: ∀t∈zef o.op.operands.toList,env a0 (accU ops Vs i) t (a.eval (.tmp t)) w:=fun t ht=>inv.slot hB hi hin (by simp only[zgg,ho];exact List.mem_append.2 (.inl ht))
  have hs:=hst i hin o ho a.eval w (zrf a) inv.grows (all_mk hlk)
  unfold wpOpIn
  simp only[ho]
  cases hgd:o.guard with
  | none=>
   rw[hgd] at hs
   simp only[Region.wanted,hgd,if_true]
   exact wpIn_of_good hF (hnd o ho) hs next
  | some kb=>
   obtain⟨k,b⟩:=kb
   rw[hgd] at hs
   simp only at hs
   obtain⟨d,hd,hs⟩:=hs
   have hg:=hs (a.eval (.tmp d)) (inv.slot hB hi hin (by simp only[zgg,ho,hgd,hd];exact List.mem_append.2 (.inr (by simp))))
   have hy:yielded ops a.tmps k=match a.tmps[d]? with|some (.bool c)=>some c|_=>none:=by
    unfold yielded
    have:(ops[k]?).bind (·.dst)=some d:=hd
    rw[this];rfl
   by_cases hb:a.eval (.tmp d)= .bool b
   ·have hw:Region.wanted o (yielded ops a.tmps)=true:=by
     simp only[Region.wanted,hgd,hy]
     have:a.tmps[d]? =some (.bool b):=by
      simp only[Act.eval] at hb
      cases hh:a.tmps[d]? with
      |none=>simp[hh,undef] at hb
      |some x=>simp[hh] at hb;rw[hb]
     rw[this];simp
    rw[if_pos hw]
    exact wpIn_of_good hF (hnd o ho) (hg.1 hb) next
   ·have hw: ¬Region.wanted o (yielded ops a.tmps)=true:=by
     simp only[Region.wanted,hgd,hy]
     intro h
     apply hb
     simp only[Act.eval]
     cases hh:a.tmps[d]? with
     |none=>simp[hh] at h
     |some x=>cases x<;>simp[hh] at h;simp[hh,h]
    rw[if_neg hw]
    exact⟨fun f _=>hF.fn f,next _ _ (G.refl w) (hg.2 hb)⟩
end
theorem wpIn_region_fwd {G:Gh} {F:Fence} {nn:Nat} {P:Program} {id:Nat} {Q:Exit→Act→World→Prop} {a:Act} {w w1:G.Γ} {l:List Oper} (hF:FenceOk F P)(n:Nat)(hw1:G.π w1={G.π w with drawn:=(G.π w).drawn+1})(hle:G.Le w w1)(hm:P.follows .mixedOrders=true)(hnd: ∀o∈l,∀c,o.op≠ .defer c)(hB:chk l.toArray a.tmps.size n=true)
 (h:FwdGo P l.toArray w a (fun acc=> ∀w',G.Le w w'→EndAt w' acc a fun a'=>wpListIn F nn P l.toArray Q (l.drop n) a' (G.π w')) (l.take n) []):(Code.region id l.toArray true).wpIn F nn P Q a (G.π w):=by
 simp only[chk,Bool.and_eq_true,decide_eq_true_eq,Bool.or_eq_true] at hB
 obtain⟨⟨⟨⟨h1,h2⟩,h3⟩,h4⟩,h5⟩:=hB
 obtain⟨Vs,_,hs,hf⟩:=fwd_choose (P:=P) (ops:=l.toArray) (w0:=w) (a0:=a) (l.take n) 0 (fun _ _ _=>True) (fun j hj=>z4a hj) h
 have hlen:(l.take n).length=n:=by simp at h3⊢;omega
 rw[hlen,Nat.zero_add] at hs hf
 refine wpIn_region_any hm ?_
 rw[←hw1]
 have key:=anyIn_of_inv (F:=F) (nn:=nn) (P:=P) hF (fun o ho=>hnd o (by simpa using List.mem_of_getElem? (by simpa using ho))) (ops:=l.toArray) (w0:=w) (a0:=a) (Vs:=Vs) (n:=n) (Q:=Q) (fun j hj=>(hs j (Nat.zero_le _) (by omega)).1) (fun i hi=>(hs i (Nat.zero_le _) (by omega)).2) h1 h2 h3 h4 h5
  (fun a' w' e1 e2 hg hd hst=>by
   have:=end_of_inv (K:=fun a'=>wpListIn F nn P l.toArray Q (l.drop n) a' (G.π w')) h1 e1 e2 hd hst (hf w' hg)
   simpa using this)
  (left n (Array.replicate l.toArray.size false)) (Array.replicate l.toArray.size false) a w1 rfl
  ⟨⟨by simp,fun j oj _ hl=>(by rw[getD_replicate_false] at hl;cases hl),fun t _ ht=>getD_in (by simpa using ht) (getD_replicate_false _ _)⟩,hle,rfl,rfl,
   fun j t hj _ hl=>by
    have:j<l.toArray.size:=by omega
    simp at this;simp[this] at hl,fun _ _=>rfl⟩
 have hleft: ∀m,m≤l.toArray.size→left m (Array.replicate l.toArray.size false)=m:=by
  intro m
  induction m with
  |zero=>intro _;rfl
  | succ m ih=>
   intro hm
   have:m<l.length:=by simp at hm;omega
   simp only[left,ih (by omega)]
   simp[this]
 rw[hleft n h3,show n+(l.toArray.size-n)=l.toArray.size by omega] at key
 exact key
section
variable {G:Gh}
theorem endAt_all {w:G.Γ}: ∀ {acc:Acc G} {a:Act} {K:Act→Prop},
 (∀a',a'.tmps.size=a.tmps.size→a'.defers=a.defers→(∀t,t<a.tmps.size→env a acc t (a'.eval (.tmp t)) w)→K a')→EndAt w acc a K
 |[],a,K,h=>h a rfl rfl fun _ _=>rfl
 | (d,V)::r,a,K,h=>by
  show EndAt w r a fun a'=> ∀v,V v w→K (a'.put (some d) v)
  refine endAt_all fun a' h1 h2 h3 v hv=>h _ (by simp[Act.put,h1]) (by simp[Act.put,h2]) fun t ht=> ?_
  simp only[env]
  by_cases hd:d=t
  ·rw[if_pos hd,hd]
   have:(a'.put (some t) v).eval (.tmp t)=v:=by simp[Act.put,Act.eval,h1,ht]
   rw[this];exact hv
  ·rw[if_neg hd]
   have:(a'.put (some d) v).eval (.tmp t)=a'.eval (.tmp t):=by simp[Act.put,Act.eval,Array.getElem?_setIfInBounds,hd]
   rw[this];exact h3 t ht
end
end Go.FwdG
