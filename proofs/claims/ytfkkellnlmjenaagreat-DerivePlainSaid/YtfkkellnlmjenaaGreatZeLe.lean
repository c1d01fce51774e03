/-
  derive, in plain words: a tree has only so many terms.
-/
import Derived.Test.YtfkkellnlmjenaaGreatZeLa
set_option linter.unusedSimpArgs false
set_option linter.unusedVariables false
namespace Go.Ab
open Go Go.RowKit Go.Fwd Go.Proofs
def Gd (t:Tr):Prop:=CR t∧(pre t).length≤60∧zdf t≤400
theorem Gd.light {t:Tr} (h:Gd t):zbj t=true:=zgl (by have:=h.2.1;omega)
theorem Gd.cs {t:Tr} (h:Gd t):CS 998 t:=⟨h.1,by have:=h.2.1;omega⟩
theorem z8u {t:Tr} (h:CR t)(hs:(pre t).length≤10000):zch t=true:=by
 rw[zch,zgl hs,Bool.true_and];exact h
theorem Gd.notNone {t:Tr} (h:CR t):isNone t=false:=by
 rw[←Bool.not_eq_true,zqo]
 intro e;subst e
 have:=CR.k0 h
 exact this rfl
theorem z5d {t:Tr} (hl:(pre t).length≤10000):ziz t=some (zdf t):=by
 unfold ziz
 refine zm (by omega) (zad fun x e=> ?_)
 rw[zgl hl] at e;subst e
 exact zaw rfl (zm hl (zad fun x e=>by subst e;rfl))
theorem zov {t:Tr} (h:Gd t):zul t=some true:=by
 obtain⟨h1,h2,h3⟩:=h
 unfold zul
 refine zm (by omega) (zad fun x e=> ?_)
 rw[Gd.notNone h1] at e;subst e
 refine zaw rfl (zm (by omega) (zad fun x e=> ?_))
 rw[z8u h1 (by omega)] at e;subst e
 refine zbp rfl (zm (by omega) (zad fun x e=> ?_))
 rw[ztc,if_pos (zgl (by omega))] at e;subst e
 refine zbp (by simp;omega) (zbh _ (z5d (by omega)) ?_)
 simp[h3]
theorem zwl {t:Tr} (h:Gd t):zkx t=some (plT t,0):=by
 unfold zkx
 exact zbh _ (zov h) (zaw rfl (zm h.cs (zad fun x e=>by subst e;rfl)))
theorem z2o {t:Tr} (h:Gd t):zhg t=some (nullT t,0):=by
 have:=h.2.1
 unfold zhg
 exact zbh _ (zov h) (zaw rfl (zm ⟨by omega,h.1⟩ (zad fun x e=>by subst e;rfl)))
theorem qiq {t:Tr} (h:Gd t):CR (plT t)∧(pre (plT t)).length≤60∧BO (plT t):=by
 obtain⟨h1,h2⟩:=z9e _ t (Nat.le_refl _) h.cs
 have:=h.2.1
 exact⟨h1,by omega,bo_of h1 (by omega)⟩
mutual
theorem zsq (c:Nat): ∀t:Tr,(byT c t).length≤(pre t).length
 | .mk k s mn mx l=>by
  rw[byT]
  have h1:=z3u c l
  have h2:=z2k c l
  have h3:=qhm c l
  have hp:(pre (Tr.mk k s mn mx l)).length=1+(zae l).length:=zyh ..
  cases (k:Int)==2 with
  | true=>
   show(bif s.getLsbD c then[emptyT] else[]).length≤_
   cases s.getLsbD c<;>simp;omega
  | false=>
   cases (k:Int)==3 with
   |true=>show(zfw c l).length≤_;omega
   | false=>
    cases (k:Int)==4 with
    |true=>show(zns c l).length≤_;omega
    | false=>
     cases (k:Int)==5 with
     |true=>show((z5t c l).map _).length≤_;rw[List.length_map];omega
     |false=>show([]:List Tr).length≤_;simp
theorem z3u (c:Nat): ∀l:List Tr,(zns c l).length≤(zae l).length
 |[]=>by rw[zns];simp
 | x::l=>by
  have:=zsq c x;have:=z3u c l
  rw[zns,zae,List.length_append,List.length_append];omega
theorem qhm (c:Nat): ∀l:List Tr,(z5t c l).length≤(zae l).length
 |[]=>by rw[z5t];simp
 | x::l=>by
  have:=zsq c x
  rw[z5t,zae,List.length_append];omega
theorem z2k (c:Nat): ∀l:List Tr,(zfw c l).length≤(zae l).length
 |[]=>by rw[zfw];simp
 | x::l=>by
  have:=zsq c x;have:=z2k c l
  rw[zfw,zae,List.length_append,List.length_append,List.length_map]
  cases nullT x with
  |true=>show _+(zfw c l).length≤_;omega
  |false=>show _+([]:List Tr).length≤_;simp;omega
end
theorem qlt {t:Tr} (h:BO t)(c:Nat):(byT c t).length≤4000:=Nat.le_trans (zsq c t) (zeh h)
theorem BO.light {t:Tr} (h:BO t):zbj t=true:=zgl (by have:=zeh h;omega)
theorem zwm (t:Tr):zfo t t=true:=(zlh t t).2 rfl
theorem qls {fuel:Nat} {l:List Tr} (h: ∀x∈l,BO x)(hl:l.length<2^40)(hf:l.length<fuel):qgk fuel l l=some true:=by
 unfold qgk
 refine zbh true ?_ rfl
 unfold z0l
 refine zaw (by simp) (zbw () ?_ rfl)
 refine zet l.length (fun i=>(i:Int)) rfl (fun i hi=> ?_) ?_ (by omega)
 ·refine zbp (by simpa using hi) (zm (by omega) (zad fun x1 e1=>zm (by omega) (zad fun x2 e2=> ?_)))
  rw[zdw hi] at e1 e2
  subst e1 e2
  have hb:=h _ (List.getElem_mem hi)
  have:=zeh hb
  refine zbh true (by rw[samQ,if_pos ⟨by omega,by omega⟩,zkm,hb.light,zwm];rfl) (zaw rfl (zm (by omega) (by simp)))
 ·exact zaw (by simp) rfl
mutual
theorem qkd (c d:Nat): ∀t:Tr,(∀x∈pre t,x.k=2→x.s.getLsbD c=x.s.getLsbD d)→byT c t=byT d t
 | .mk k s mn mx l,h=>by
  have hl: ∀x∈zae l,x.k=2→x.s.getLsbD c=x.s.getLsbD d:=fun x hx=>h x (by rw[pre];exact List.mem_cons_of_mem _ hx)
  rw[byT,byT,qia c d l hl,qfi c d l hl,by_clsH c d l hl]
  cases hk:(k:Int)==2 with
  | true=>
   have:=h (.mk k s mn mx l) (by rw[pre];exact List.mem_cons_self ..) (by show k=2;simp at hk;omega)
   simp only[Tr.s] at this
   rw[this]
  |false=>rfl
theorem qia (c d:Nat): ∀l:List Tr,(∀x∈zae l,x.k=2→x.s.getLsbD c=x.s.getLsbD d)→zns c l=zns d l
 |[],_=>by rw[zns,zns]
 | x::l,h=>by
  rw[zae] at h
  rw[zns,zns,qkd c d x (fun y hy=>h y (List.mem_append_left _ hy)),qia c d l (fun y hy=>h y (List.mem_append_right _ hy))]
theorem by_clsH (c d:Nat): ∀l:List Tr,(∀x∈zae l,x.k=2→x.s.getLsbD c=x.s.getLsbD d)→z5t c l=z5t d l
 |[],_=>by rw[z5t,z5t]
 | x::l,h=>by
  rw[zae] at h
  rw[z5t,z5t,qkd c d x (fun y hy=>h y (List.mem_append_left _ hy))]
theorem qfi (c d:Nat): ∀l:List Tr,(∀x∈zae l,x.k=2→x.s.getLsbD c=x.s.getLsbD d)→zfw c l=zfw d l
 |[],_=>by rw[zfw,zfw]
 | x::l,h=>by
  rw[zae] at h
  rw[zfw,zfw,qkd c d x (fun y hy=>h y (List.mem_append_left _ hy)),qfi c d l (fun y hy=>h y (List.mem_append_right _ hy))]
end
def GdT (t:Tr):Prop:=CR t∧(pre t).length≤10000
def GdL (l:List Tr):Prop:= ∀x∈l,GdT x
theorem GdT.eqB {x y:Tr} (hx:GdT x)(hy:GdT y)(h:zjc x y=0):x=y:=z8c x y hx.1 hy.1 h
theorem z8p {x y:Tr} (hx:GdT x):zkm x y=true↔x=y:=by
 constructor
 ·intro h
  rw[zkm,Bool.and_eq_true] at h
  exact(zlh _ _).1 h.2
 ·rintro rfl
  exact qei (zgl hx.2)
theorem z7d {x y z:Tr} (hx:GdT x)(hy:GdT y)(hz:GdT z)(h:zjc x y<0)(k:zjc y z≤0):zjc x z<0:=by
 have h1:=zgy x y z (by omega) k
 have h2:=zgn x y
 rcases Int.lt_or_eq_of_le h1 with h3|h3
 ·exact h3
 ·have:=hx.eqB hz h3
  subst this;omega
theorem zkz: ∀(l:List Tr) (p:Tr),GdT p→GdL l→(p::l).Pairwise (fun x y=>zjc x y≤0)→(p::zhr p l).Pairwise (fun x y=>zjc x y<0)∧ ∀z,z∈p::zhr p l↔z∈p::l
 |[],p,_,_,_=>by simp[zhr]
 | y ::l,p,hp,hl,hs=>by
  obtain⟨s1,s2⟩:=List.pairwise_cons.1 hs
  have hy:=hl y (by simp)
  have hl':GdL l:=fun z hz=>hl z (by simp[hz])
  unfold zhr
  by_cases hb:zkm y p=true
  ·rw[if_pos hb]
   have e:=(z8p hy).1 hb
   subst e
   obtain⟨h1,h2⟩:=zkz l y hy hl' s2
   exact⟨h1,fun z=>by rw[h2 z];simp⟩
  ·rw[if_neg hb]
   obtain⟨h1,h2⟩:=zkz l y hy hl' s2
   have hpy:zjc p y<0:=by
    have:=s1 y (by simp)
    rcases Int.lt_or_eq_of_le this with h|h
    ·exact h
    ·exact absurd ((z8p hy).2 (hp.eqB hy h).symm) hb
   refine⟨List.pairwise_cons.2 ⟨fun z hz=> ?_,h1⟩,fun z=>by rw[List.mem_cons,h2 z];simp⟩
   have hzl:=(h2 z).1 hz
   rcases List.mem_cons.1 hz with rfl|hz'
   ·exact hpy
   ·have:=(List.pairwise_cons.1 h1).1 z hz'
    refine z7d hp hy ?_ hpy (by omega)
    rcases List.mem_cons.1 hzl with rfl|h
    ·exact hy
    ·exact hl' z h
def canT (l:List Tr):List Tr:=zqj (zve l)
theorem qbx {l:List Tr} (h:GdL l):(canT l).Pairwise (fun x y=>zjc x y<0)∧ ∀z,z∈canT l↔z∈l:=by
 have hp:=zhh l
 have hs:=zri l
 unfold canT
 rcases hq:zve l with _|⟨p,m⟩
 ·rw[hq] at hp;have e:=hp.nil_eq;subst e;simp[zqj]
 ·rw[hq] at hp hs
  have hg: ∀z∈p::m,GdT z:=fun z hz=>h z (hp.subset hz)
  obtain⟨h1,h2⟩:=zkz m p (hg p (by simp)) (fun z hz=>hg z (by simp[hz])) hs
  exact⟨h1,fun z=>(h2 z).trans hp.mem_iff⟩
theorem qao {s:BS} {mn mx:Int} (l:List Tr):nullT (.mk 3 s mn mx l)=l.all nullT:=by rw[zkl];rfl
theorem z9m {s:BS} {mn mx:Int} (l:List Tr):nullT (.mk 4 s mn mx l)=l.any nullT:=by rw[zkl];rfl
theorem z8x {s:BS} {lo hi:Int} (x:Tr):nullT (.mk 5 s lo hi [x])=(lo==0||nullT x):=by rw[zkl];rfl
theorem qof {s:BS} {mn mx:Int} (x:Tr):nullT (.mk 6 s mn mx [x])=nullT x:=by rw[zkl];simp[Tr.k,Tr.l]
theorem zww:nullT emptyT=true:=by rw[zkl];rfl
theorem qdv {t:Tr} (h:t.k=3):nullT t=t.l.all nullT:=by obtain⟨k,s,mn,mx,l⟩:=t;simp only[Tr.k] at h;subst h;exact qao l
theorem qgu {t:Tr} (h:t.k=4):nullT t=t.l.any nullT:=by obtain⟨k,s,mn,mx,l⟩:=t;simp only[Tr.k] at h;subst h;exact z9m l
theorem qid {t:Tr} (h:t.k=1):nullT t=true:=by rw[zkl,h];rfl
theorem zxx: ∀l:List Tr,(zar 3 l).all nullT=l.all nullT
 |[]=>rfl
 | x::l=>by
  rw[zbv,List.all_append,zxx l,List.all_cons]
  congr 1
  by_cases h3:x.k=3
  ·rw[show((x.k:Int)==((3:Nat):Int))=true by simp[h3],cond_true,qdv h3]
  ·rw[show((x.k:Int)==((3:Nat):Int))=false by simp;omega,cond_false]
   by_cases h1:x.k=1
   ·rw[show((((3:Nat):Int)==3)&&((x.k:Int)==1))=true by simp[h1],cond_true,qid h1];rfl
   ·rw[show((((3:Nat):Int)==3)&&((x.k:Int)==1))=false by simp;omega,cond_false];simp
theorem qfj: ∀m:List Tr,nullT (zmw 3 m)=m.all nullT
 |[]=>zww
 |[x]=>by rw[zga];simp
 |x::y::m=>by rw[zen,qao]
theorem zwx: ∀l:List Tr,(zar 4 l).any nullT=l.any nullT
 |[]=>rfl
 | x::l=>by
  rw[zbv,List.any_append,zwx l,List.any_cons]
  congr 1
  by_cases h3:x.k=4
  ·rw[show((x.k:Int)==((4:Nat):Int))=true by simp[h3],cond_true,qgu h3]
  ·rw[show((x.k:Int)==((4:Nat):Int))=false by simp;omega,cond_false,show((((4:Nat):Int)==3)&&((x.k:Int)==1))=false by simp,cond_false];simp
theorem qjq: ∀m:List Tr,m≠[]→nullT (zmw 4 m)=m.any nullT
 |[],h=>absurd rfl h
 |[x],_=>by rw[zga];simp
 |x::y::m,_=>by rw[zen,z9m]
theorem G3.seq {m:List Tr} (h:G3 m)(hs:(zae m).length≤9000):zfc m=zmw 3 m∧zar 3 [zfc m]=m:=by
 obtain⟨a,_,c,_⟩:=zjg h.1 h.2 hs
 exact⟨a,c⟩
theorem G3.app {a b:List Tr} (ha:G3 a)(hb:G3 b):G3 (a++b):=⟨(zdm _ _).2 ⟨ha.1,hb.1⟩,fun y hy=>(List.mem_append.1 hy).elim (ha.2 y) (hb.2 y)⟩
theorem zmz {t:Tr} (h:CR t):G3 (zar 3 [t]):=ziq ((zdi _).2 (by simp[h]))
theorem fac_len {t:Tr} (h:CR t):(zae (zar 3 [t])).length≤tbT t:=Nat.le_trans (zty (zmz h).1) (Nat.le_of_eq (qcn h))
theorem qhb {t:Tr} (h:CR t)(hs:tbT t≤9000):zfc (zar 3 [t])=t:=by
 have:=fac_len h
 rw[((zmz h).seq (by omega)).1,ztn h]
theorem z4i {t:Tr} (h:CR t)(hs:tbT t≤4000)(c:Nat):byT c t=zfw c (zar 3 [t]):=by
 cases hq:zar 3 [t] with
 | nil=>
  have e:t=emptyT:=by have:=ztn h;rw[hq] at this;exact this.symm
  subst e;rw[zfw];rfl
 | cons a l=>
  have hg:=zmz h
  have e:=qap (c:=c) hg.1 hg.2 (by rw[qcn h];exact hs) (by rw[hq];simp)
  rw[qhb h (by omega),hq] at e
  exact e
theorem zvj {a z:Tr} (ha:CR a)(hz:CR z)(hs:(pre a).length+(pre z).length≤9998):zfc [a,z]=zmw 3 (zar 3 [a]++zar 3 [z]):=by
 rw[zrh ((zdi _).2 (by simp[ha,hz])) (by simp[zae];omega),show zar 3 [a,z]=zar 3 [a]++zar 3 [z] by rw[←zlq];rfl]
theorem zyq {a z:Tr} (ha:CR a)(hz:CR z)(hs:(pre a).length+(pre z).length≤9998):zar 3 [zfc [a,z]]=zar 3 [a]++zar 3 [z]:=by
 rw[zvj ha hz hs];exact z4y ((zmz ha).app (zmz hz))
theorem qes {t:Tr} {A B:List Tr} (ht:CR t)(hA:G3 A)(hB:G3 B)(hs:(pre t).length+(zae A).length+(zae B).length≤8000):zfc [t,zfc (A++B)]=zfc [zfc [t,zfc A],zfc B]:=by
 have hl:(zae (A++B)).length=(zae A).length+(zae B).length:=by rw[zbg,List.length_append]
 obtain⟨e1,c1,f1,_⟩:=zjg (hA.app hB).1 (hA.app hB).2 (by omega)
 obtain⟨e2,c2,f2,_⟩:=zjg hA.1 hA.2 (by omega)
 obtain⟨e3,c3,f3,_⟩:=zjg hB.1 hB.2 (by omega)
 have l1:(pre (zfc (A++B))).length≤(zae (A++B)).length+1:=by rw[e1];exact zhm ..
 have l2:(pre (zfc A)).length≤(zae A).length+1:=by rw[e2];exact zhm ..
 have l3:(pre (zfc B)).length≤(zae B).length+1:=by rw[e3];exact zhm ..
 have c4:CR (zfc [t,zfc A]):=by rw[zvj ht c2 (by omega)];exact zmc ((zmz ht).app (zmz c2))
 have l4:(pre (zfc [t,zfc A])).length≤(pre t).length+(zae A).length+2:=by
  have h1:=zez 3 [t]
  rw[zvj ht c2 (by omega),f2]
  refine Nat.le_trans (zhm ..) ?_
  rw[zbg,List.length_append]
  simp[zae] at h1;omega
 rw[zvj ht c1 (by omega),f1,zvj c4 c3 (by omega),zyq ht c2 (by omega),f2,f3,List.append_assoc]
theorem qjb {c:Nat} {B:List Tr} (hB:G3 B): ∀ {A:List Tr},G3 A→tbL (A++B)≤3900→ ∀y∈zfw c (A++B),(∃w∈zfw c A,y=zfc [w,zfc B])∨y∈zfw c B
 |[],_,_,y,hy=> .inr hy
 | a ::A,hA,ht,y,hy=>by
  have hc:=(zaq _ _).1 hA.1
  have hA2:G3 A:=⟨hc.2,fun z hz=>hA.2 z (List.mem_cons_of_mem _ hz)⟩
  rw[List.cons_append] at ht hy
  rw[tbL] at ht
  have hl:=zty (hA2.app hB).1
  have e:(zae (A++B)).length=(zae A).length+(zae B).length:=by rw[zbg,List.length_append]
  rw[zmj] at hy
  rcases List.mem_append.1 hy with hy|hy
  ·obtain⟨t,ht1,rfl⟩:=List.mem_map.1 hy
   obtain⟨⟨c1,b1⟩,b2⟩:=qgy ⟨hc.1,by omega⟩ ht1
   have:=c1.tb
   refine .inl ⟨zfc [t,zfc A],?_,qes c1 hA2 hB (by omega)⟩
   rw[zmj]
   exact List.mem_append_left _ (List.mem_map.2 ⟨t,ht1,rfl⟩)
  ·cases hn:nullT a with
   |false=>rw[hn] at hy;cases hy
   | true=>
    rw[hn] at hy
    rcases qjb hB hA2 (by omega) y hy with⟨w,hw,rfl⟩|h
    ·refine .inl ⟨w,?_,rfl⟩
     rw[zmj,hn]
     exact List.mem_append_right _ hw
    ·exact .inr h
def PD (t:Tr)(D:List Tr):Prop:=(∀c,∀y∈byT c t,y∈D)∧ ∀y∈D,(CR y∧tbT y≤tbT t)∧ ∀c,∀z∈byT c y,z∈D
def PDL (l D:List Tr):Prop:=(∀c,∀y∈zfw c l,y∈D)∧ ∀y∈D,(CR y∧tbT y≤tbL l)∧ ∀c,∀z∈byT c y,z∈D
theorem qaf {y:Tr} (h:y=emptyT)(c:Nat):byT c y=[]:=by subst h;rfl
theorem qpg {n:Nat} (ih: ∀t,(pre t).length≤n→CR t→tbT t≤3900→zdf t≤400→ ∃D,(D.length:Int)≤zdf t∧PD t D): ∀L:List Tr,(∀x∈L,(pre x).length≤n)→G3 L→tbL L≤3900→zcy L≤400→ ∃D,(D.length:Int)≤zcy L∧PDL L D
 |[],_,_,_,_=>⟨[],by simp[zcy],⟨fun(c:Nat) y (hy:y∈zfw c [])=>(by rw[zfw] at hy;cases hy),fun y hy=>(by cases hy)⟩⟩
 | x ::L,hn,hg,ht,hp=>by
  have hc:=(zaq _ _).1 hg.1
  have hg2:G3 L:=⟨hc.2,fun z hz=>hg.2 z (List.mem_cons_of_mem _ hz)⟩
  have hp1:=zcu x
  have hp2:=zck L
  rw[zcy] at hp⊢
  have ht0:=ht
  rw[tbL] at ht0
  obtain⟨D1,d1,a1,b1⟩:=ih x (hn x (by simp)) hc.1 (by omega) (by omega)
  obtain⟨D2,d2,a2,b2⟩:=qpg ih L (fun z hz=>hn z (List.mem_cons_of_mem _ hz)) hg2 (by omega) (by omega)
  have hl:=zty hg2.1
  obtain⟨e2,c2,f2,t2⟩:=zjg hg2.1 hg2.2 (by omega)
  have l2:=c2.tb
  refine⟨D1.map (fun y=>zfc [y,zfc L])++D2,by rw[List.length_append,List.length_map];omega,fun c y hy=> ?_,fun y hy=> ?_⟩
  ·rw[zmj] at hy
   rcases List.mem_append.1 hy with hy|hy
   ·obtain⟨t,ht1,rfl⟩:=List.mem_map.1 hy
    exact List.mem_append_left _ (List.mem_map.2 ⟨t,a1 c t ht1,rfl⟩)
   ·cases hnl:nullT x with
    |false=>rw[hnl] at hy;cases hy
    |true=>rw[hnl] at hy;exact List.mem_append_right _ (a2 c y hy)
  ·rcases List.mem_append.1 hy with hy|hy
   ·obtain⟨z,hz,rfl⟩:=List.mem_map.1 hy
    obtain⟨⟨cz,tz⟩,bz⟩:=b1 z hz
    have lz:=cz.tb
    obtain⟨k1,k2⟩:=zzi cz c2 (by omega)
    rw[f2,t2] at k2
    have kt:tbT (zfc [z,zfc L])≤tbL (x::L):=by rw[tbL];refine Nat.le_trans k2 ?_;omega
    refine⟨⟨k1,kt⟩,fun c w hw=> ?_⟩
    have hf:zar 3 [zfc [z,zfc L]]=zar 3 [z]++L:=by rw[zyq cz c2 (by omega),f2]
    rw[z4i k1 (by omega),hf] at hw
    have htf:tbL (zar 3 [z]++L)≤3900:=by rw[←hf,qcn k1];omega
    rcases qjb hg2 (zmz cz) htf w hw with⟨v,hv,rfl⟩|h
    ·rw[←z4i cz (by omega)] at hv
     exact List.mem_append_left _ (List.mem_map.2 ⟨v,bz c v hv,rfl⟩)
    ·exact List.mem_append_right _ (a2 c w h)
   ·obtain⟨⟨k1,k2⟩,k3⟩:=b2 y hy
    exact⟨⟨k1,by rw[tbL];omega⟩,fun c w hw=>List.mem_append_right _ (k3 c w hw)⟩
theorem qke {x:Tr} {lo hi:Int} (hx:CR x)(hs:(pre x).length≤9000)(hk:x.k≠1)(hg:z6a lo hi=true):
 (zdp x lo hi=emptyT∧lo=0∧hi=0)∨(zdp x lo hi=x∧lo=1∧hi=1)∨(zdp x lo hi= .mk 5 0#256 lo hi [x]∧zdj lo hi=true):=by
 rw[zlr hx (by omega) hg]
 by_cases h0:lo=0∧hi=0
 ·rw[if_pos (.inl h0)];exact .inl ⟨rfl,h0⟩
 ·rw[if_neg (by simp[hk];omega)]
  by_cases h1:lo=1∧hi=1
  ·rw[if_pos h1];exact .inr (.inl ⟨rfl,h1⟩)
  ·rw[if_neg h1]
   exact .inr (.inr ⟨rfl,by rw[zdn];rw[zgu] at hg;omega⟩)
theorem rem_cr {x:Tr} {lo hi:Int} (hx:CR x)(hs:(pre x).length≤9000)(hk:x.k≠1)(hg:z6a lo hi=true):
 CR (zdp x lo hi)∧(zae (zar 3 [zdp x lo hi])).length≤(pre x).length+1∧(pre (zdp x lo hi)).length≤(pre x).length+1∧tbT (zdp x lo hi)≤tbT x+(pre x).length+2:=by
 have hf:=zez 3 [zdp x lo hi]
 have hp:(zae [zdp x lo hi]).length=(pre (zdp x lo hi)).length:=by simp[zae]
 rcases qke hx hs hk hg with⟨h,_⟩|⟨h,_⟩|⟨h,hb⟩
 ·rw[h] at hf hp⊢
  refine⟨(zbc _).2 ⟨zev,zct⟩,?_,?_,?_⟩<;>simp[zbv,zhz,emptyT,Tr.k,Tr.l,zae,pre,tbT,zic]<;>omega
 ·rw[h] at hf hp⊢
  exact⟨hx,by omega,by omega,by omega⟩
 ·rw[h] at hf hp⊢
  refine⟨qjm hx hk hb,?_,?_,?_⟩
  ·rw[znr] at hp;omega
  ·rw[znr];omega
  ·rw[z2w rfl];simp[Tr.l,zic,zae]
def zkw (mn mx:Int):Nat:=if mx= -1 then(max mn 1).toNat else mx.toNat
def zwb (x:Tr)(mn mx:Int)(j:Nat):Tr:=zdp x (max (mn-(j+1)) 0) (if mx= -1 then-1 else mx-(j+1))
theorem qaw {x:Tr} {s:BS} {mn mx:Int} (hb:zdj mn mx=true)(hp:zdf (.mk 5 s mn mx [x])≤400):zdf x*(zkw mn mx:Int)=zdf (.mk 5 s mn mx [x])∧zdf x≤400∧1≤zkw mn mx:=by
 have hb':=(zdn mn mx).1 hb
 have h0:=zcu x
 have e:zdf (.mk 5 s mn mx [x])=min (zdf x*min (if mx= -1 then max (max mn 0) 1 else max (max mn 0) mx) 10001) 10001:=by simp[zdf,zcy]
 have hJ:(if mx= -1 then max (max mn 0) 1 else max (max mn 0) mx)=(zkw mn mx:Int):=by
  by_cases h:mx= -1
  ·rw[if_pos h];unfold zkw;rw[if_pos h];omega
  ·rw[if_neg h];unfold zkw;rw[if_neg h];omega
 have hJ1:1≤zkw mn mx:=by unfold zkw;split<;>omega
 have hJ2:zkw mn mx≤16:=by unfold zkw;split<;>omega
 rw[e,hJ] at hp⊢
 rw[show min (zkw mn mx:Int) 10001=(zkw mn mx:Int) by omega] at hp⊢
 have hle:zdf x*1≤zdf x*(zkw mn mx:Int):=Int.mul_le_mul_of_nonneg_left (by omega) h0
 omega
theorem pd_rep {x:Tr} {mn mx:Int} {D:List Tr} (hx:CR x)(hk:x.k≠1)(hb:zdj mn mx=true)(ht:tbT x+(pre x).length+2≤3900)(hD:PD x D):
 PD (.mk 5 0#256 mn mx [x]) ((List.range (zkw mn mx)).flatMap fun j=>D.map fun z=>zfc [z,zwb x mn mx j]):=by
 have hb':=(zdn mn mx).1 hb
 have hlx:=hx.tb
 have htb:tbT (.mk 5 0#256 mn mx [x])=tbT x+(pre x).length+2:=by rw[z2w rfl];simp[Tr.l,zic,zae]
 have hJ1:1≤zkw mn mx:=by unfold zkw;split<;>omega
 have hg: ∀j,j<zkw mn mx→z6a (max (mn-(j+1)) 0) (if mx= -1 then-1 else mx-(j+1))=true:=fun j hj=>by
  rw[zgu]
  unfold zkw at hj
  split at hj<;>rename_i h
  ·rw[if_pos h];omega
  ·rw[if_neg h];omega
 have mem: ∀j,j<zkw mn mx→ ∀z∈D,zfc [z,zwb x mn mx j]∈((List.range (zkw mn mx)).flatMap fun j=>D.map fun z=>zfc [z,zwb x mn mx j]):=fun j hj z hz=>
  List.mem_flatMap.2 ⟨j,List.mem_range.2 hj,List.mem_map.2 ⟨z,hz,rfl⟩⟩
 have hless:zid x mn mx=zwb x mn mx 0:=by
  unfold zid zwb
  by_cases h:mx= -1
  ·subst h;simp
  ·rw[show(mx != -1)=true by simpa using h,cond_true,if_neg h];simp
 have hby: ∀c a b,byT c (.mk 5 0#256 a b [x])=(byT c x).map (fun t=>zfc [t,zid x a b]):=fun c a b=>by rw[z2x];rfl
 refine⟨fun c y hy=> ?_,fun y hy=> ?_⟩
 ·rw[hby] at hy
  obtain⟨t,ht1,rfl⟩:=List.mem_map.1 hy
  rw[hless]
  exact mem 0 (by omega) t (hD.1 c t ht1)
 ·obtain⟨j,hj,hy⟩:=List.mem_flatMap.1 hy
  have hj:=List.mem_range.1 hj
  obtain⟨z,hz,rfl⟩:=List.mem_map.1 hy
  obtain⟨⟨cz,tz⟩,bz⟩:=hD.2 z hz
  have lz:=cz.tb
  obtain⟨r1,r2,r3,r4⟩:=rem_cr hx (by omega) hk (hg j hj)
  have r1:CR (zwb x mn mx j):=r1
  have r2:(zae (zar 3 [zwb x mn mx j])).length≤(pre x).length+1:=r2
  have r3:(pre (zwb x mn mx j)).length≤(pre x).length+1:=r3
  have r4:tbT (zwb x mn mx j)≤tbT x+(pre x).length+2:=r4
  obtain⟨k1,k2⟩:=zzi cz r1 (by omega)
  have kt:tbT (zfc [z,zwb x mn mx j])≤tbT (.mk 5 0#256 mn mx [x]):=by rw[htb];refine Nat.le_trans k2 ?_;split<;>omega
  refine⟨⟨k1,kt⟩,fun c w hw=> ?_⟩
  have hf:=zyq cz r1 (by omega)
  rw[z4i k1 (by omega),hf] at hw
  have htf:tbL (zar 3 [z]++zar 3 [zwb x mn mx j])≤3900:=by rw[←hf,qcn k1];omega
  rcases qjb (zmz r1) (zmz cz) htf w hw with⟨v,hv,rfl⟩|h
  ·rw[←z4i cz (by omega)] at hv
   rw[qhb r1 (by omega)]
   exact mem j hj v (bz c v hv)
  ·rw [←z4i r1 (by omega)] at h
   rcases qke hx (show(pre x).length≤9000 by omega) hk (hg j hj) with⟨e,_⟩|⟨e,e1,e2⟩|⟨e,e3⟩
   ·rw[show zwb x mn mx j=emptyT from e,qaf rfl] at h;cases h
   ·rw[show zwb x mn mx j=x from e] at h
    have hmx:mx≠ -1:=fun h=>by rw[if_pos h] at e2;omega
    rw[if_neg hmx] at e2
    have hj2:j+1<zkw mn mx:=by unfold zkw;rw[if_neg hmx];omega
    have hr:zwb x mn mx (j+1)=emptyT:=by
     rcases qke hx (show(pre x).length≤9000 by omega) hk (hg (j+1) hj2) with⟨e,_⟩|⟨_,_,e⟩|⟨_,e⟩
     ·exact e
     ·rw[if_neg hmx] at e;omega
     ·rw[if_neg hmx,zdn] at e;omega
    have hwD:=hD.1 c w h
    have:=mem (j+1) hj2 w hwD
    have cw:=(hD.2 w hwD).1
    rw[hr,z3c cw.1 (by have:=cw.1.tb;omega)] at this
    exact this
   ·rw [show zwb x mn mx j= .mk 5 0#256 (max (mn-(j+1)) 0) (if mx= -1 then-1 else mx-(j+1)) [x] from e,hby] at h
    obtain⟨t,ht1,rfl⟩:=List.mem_map.1 h
    have e3:=(zdn _ _).1 e3
    by_cases hmx:mx= -1
    ·rw [if_pos hmx]
     by_cases hl:j+1<zkw mn mx
     ·have e4:zid x (max (mn-(j+1)) 0) (-1)=zwb x mn mx (j+1):=by
       unfold zid zwb
       rw[if_pos hmx,show((-1:Int) != -1)=false from rfl,cond_false]
       congr 1
       omega
      rw[e4]
      exact mem (j+1) hl t (hD.1 c t ht1)
     ·have e4:zid x (max (mn-(j+1)) 0) (-1)=zwb x mn mx j:=by
       unfold zid zwb
       rw[if_pos hmx,show((-1:Int) != -1)=false from rfl,cond_false]
       have:max (mn-(j+1)) 0=0:=by unfold zkw at hl;rw[if_pos hmx] at hl;omega
       rw[this];rfl
      rw[e4]
      exact mem j hj t (hD.1 c t ht1)
    ·rw[if_neg hmx] at e3⊢
     have hjm:(j:Int)+1≤mx:=by unfold zkw at hj;rw[if_neg hmx] at hj;omega
     have hl:j+1<zkw mn mx:=by unfold zkw;rw[if_neg hmx];omega
     have e4:zid x (max (mn-(j+1)) 0) (mx-(j+1))=zwb x mn mx (j+1):=by
      unfold zid zwb
      rw[if_neg hmx,show((mx-(j+1)) != -1)=true by simp;omega,cond_true]
      congr 1<;>omega
     rw[e4]
     exact mem (j+1) hl t (hD.1 c t ht1)
theorem qou: ∀l:List Tr,(∀x∈l,∃D:List Tr,(D.length:Int)≤zdf x∧PD x D)→ ∃D:List Tr,(D.length:Int)≤zcy l∧(∀x∈l,∀c,∀y∈byT c x,y∈D)∧ ∀y∈D,(∃x∈l,CR y∧tbT y≤tbT x)∧ ∀c,∀z∈byT c y,z∈D
 |[],_=>⟨[],by simp[zcy],(fun x hx=>by cases hx),(fun y hy=>by cases hy)⟩
 | x ::l,h=>by
  obtain⟨D1,d1,a1,b1⟩:=h x (by simp)
  obtain⟨D2,d2,a2,b2⟩:=qou l fun z hz=>h z (List.mem_cons_of_mem _ hz)
  refine⟨D1++D2,by rw[List.length_append,zcy];omega,fun z hz c y hy=> ?_,fun y hy=> ?_⟩
  ·rcases List.mem_cons.1 hz with rfl|hz
   ·exact List.mem_append_left _ (a1 c y hy)
   ·exact List.mem_append_right _ (a2 z hz c y hy)
  ·rcases List.mem_append.1 hy with hy|hy
   ·obtain⟨k1,k2⟩:=b1 y hy
    exact⟨⟨x,by simp,k1⟩,fun c z hz=>List.mem_append_left _ (k2 c z hz)⟩
   ·obtain⟨⟨z,hz,k1⟩,k2⟩:=b2 y hy
    exact⟨⟨z,List.mem_cons_of_mem _ hz,k1⟩,fun c w hw=>List.mem_append_right _ (k2 c w hw)⟩
theorem pd_ex: ∀(n:Nat) (t:Tr),(pre t).length≤n→CR t→tbT t≤3900→zdf t≤400→ ∃D:List Tr,(D.length:Int)≤zdf t∧PD t D
 | 0,t,hn,_,_,_=>by
  have:0<(pre t).length:=by rw[zcq];simp
  omega
 | n +1,t,hn,h,ht,hp=>by
  have hpl:(pre t).length=1+(zae t.l).length:=by rw[zcq,List.length_cons];omega
  have hcl:=((zbc t).1 h).2
  have hsub: ∀x∈t.l,(pre x).length≤n:=fun x hx=>by have:=zbq hx;omega
  have ih:=pd_ex n
  have hnn:=zcu t
  have hby:=fun c=>z2x c t
  rcases zib ((zbc t).1 h).1 with hk|hk|hk|hk|hk|hk
  ·exact⟨[],by simpa using hnn,(fun c y hy=>by rw[hby,hk] at hy;cases hy),(fun y hy=>by cases hy)⟩
  ·refine⟨[emptyT],?_,fun c y hy=> ?_,fun y hy=> ?_⟩
   ·obtain⟨k,s,mn,mx,l⟩:=t
    simp only[Tr.k] at hk
    subst hk
    have:=zck l
    simp[zdf];omega
   ·rw[hby,hk] at hy
    have hy:y∈(bif t.s.getLsbD c then[emptyT] else[]):=hy
    cases hb:t.s.getLsbD c with
    |false=>rw[hb] at hy;cases hy
    |true=>rw[hb] at hy;exact hy
   ·have e:y=emptyT:=by simpa using hy
    subst e
    exact⟨⟨(zbc _).2 ⟨zev,zct⟩,by rw[show tbT emptyT=1 by simp[emptyT,tbT,zae,zic]];exact z0v t⟩,fun c z hz=>by rw[qaf rfl] at hz;cases hz⟩
  ·have hc:=zer ((zbc t).1 h).1 hk
   have e:zdf t=min (zcy t.l) 10001:=zlo t (by omega) (by omega)
   obtain⟨D,d,a,b⟩:=qpg ih t.l hsub ⟨hcl,hc.2⟩ (by rw[←z2c hk];exact ht) (by omega)
   refine⟨D,by omega,fun c y hy=> ?_,fun y hy=> ?_⟩
   ·rw[hby,hk] at hy;exact a c y hy
   ·rw[z2c hk];exact b y hy
  ·have e:zdf t=min (zcy t.l) 10001:=zlo t (by omega) (by omega)
   have h2:tbT t=max (1+(zae t.l).length) (zic t.l):=zuj (by omega) (by omega)
   obtain⟨D,d,a,b⟩:=qou t.l fun x hx=>by
    have h1:=zlu hx
    have h3:=qle hx
    exact ih x (hsub x hx) ((zdi _).1 hcl x hx) (by omega) (by omega)
   refine⟨D,by omega,fun c y hy=> ?_,fun y hy=> ?_⟩
   ·rw[hby,hk] at hy
    have hy:y∈t.l.flatMap (byT c):=hy
    obtain⟨x,hx,hy⟩:=List.mem_flatMap.1 hy
    exact a x hx c y hy
   ·obtain⟨⟨x,hx,k1,k2⟩,k3⟩:=b y hy
    have h1:=zlu hx
    exact⟨⟨k1,by omega⟩,k3⟩
  ·obtain⟨x,e,hb,hx1,hx⟩:=zvo h hk
   have hl:t.l=[x]:=by rw[e];rfl
   have htb:tbT t=tbT x+(pre x).length+2:=by rw[z2w hk,hl];simp[zic,zae]
   have hpp:zdf (.mk 5 0#256 t.mn t.mx [x])≤400:=by rw[←e];exact hp
   obtain⟨q1,q2,q3⟩:=qaw hb hpp
   obtain⟨D,d,hD⟩:=ih x (hsub x (by rw[hl];simp)) hx (by omega) q2
   refine⟨_,?_,(by rw[e];exact pd_rep hx hx1 hb (by omega) hD:PD t _)⟩
   have hlen:((List.range (zkw t.mn t.mx)).flatMap fun j=>D.map fun z=>zfc [z,zwb x t.mn t.mx j]).length=zkw t.mn t.mx*D.length:=by
    rw[List.length_flatMap]
    simp only[List.length_map]
    rw[List.map_const',List.length_range,List.sum_replicate_nat]
   rw[hlen]
   have:((zkw t.mn t.mx*D.length:Nat):Int)≤zdf x*(zkw t.mn t.mx:Int):=by
    rw[Int.natCast_mul,Int.mul_comm]
    exact Int.mul_le_mul_of_nonneg_right d (by omega)
   rw[q1,←e] at this
   exact this
  ·exact⟨[],by simpa using hnn,(fun c y hy=>by rw[hby,hk] at hy;cases hy),(fun y hy=>by cases hy)⟩
end Go.Ab
