/-
  derive: contracts of nullable and plain.
-/
import Derived.Test.YtfkkellnlmjenaaGreatZeE1
import Derived.Test.YtfkkellnlmjenaaGreatZeSs
set_option linter.unusedSimpArgs false
set_option linter.unusedVariables false
namespace Go.Ab
open Go Go.RowKit Go.Fwd
theorem len1 {l:List Tr} (h:l.length=1): ∃x,l=[x]:=by
 match l,h with
 |[x],_=>exact⟨x,rfl⟩
theorem zvo {t:Tr} (h:CR t)(hk:t.k=5): ∃y,t= .mk 5 0#256 t.mn t.mx [y]∧zdj t.mn t.mx=true∧y.k≠1∧CR y:=by
 obtain⟨k,s,mn,mx,l⟩:=t
 simp only[Tr.k] at hk
 subst hk
 have h1:=(zbc _).1 h
 have hn:=zyi h1.1
 have h2:=h1.1
 simp[zdq] at h2
 obtain⟨y,rfl⟩:=len1 (l:=l) (by omega)
 refine⟨y,by simp[Tr.mn,Tr.mx,hn.1 (by decide)],?_,?_,(zaq _ _).1 h1.2|>.1⟩
 ·exact h2.2.1.2
 ·have:=h2.2.2;simpa[zvc,Tr.l] using this
theorem znr {y:Tr} {mn mx:Int} {s:BS}:(pre (.mk 5 s mn mx [y])).length=(pre y).length+1:=by simp[pre,zae]
theorem zlr {t:Tr} {lo hi:Int} (h:CR t)(hs:(pre t).length≤9998)(hg:z6a lo hi=true):zdp t lo hi=if(lo=0∧hi=0)∨t.k=1 then emptyT else if lo=1∧hi=1 then t else .mk 5 0#256 lo hi [t]:=by
 have hk:=h.k0
 have hgd:zms t=true:=by rw[zms,zij h (by omega),Bool.or_true]
 have e0:((t.k:Int)==0)=false:=by simp;omega
 have hb:(!zms t||(!(lo==0&&hi==0)&& !(lo==1&&hi==1)&& !zdj lo hi))=false:=by
  rw[hgd,Bool.not_true,Bool.false_or]
  by_cases h0:lo=0∧hi=0
  ·simp[h0.1,h0.2]
  ·by_cases h1:lo=1∧hi=1
   ·simp[h1.1,h1.2]
   ·have:zdj lo hi=true:=by rw[zdn];rw[zgu] at hg;omega
    rw[this];simp
 unfold zdp
 rw[hb,e0]
 simp only[cond_false,Bool.false_and,Bool.or_false]
 by_cases h0:lo=0∧hi=0
 ·rw[if_pos (.inl h0)];simp[h0.1,h0.2]
 ·have c0:(lo==0&&hi==0)=false:=by rw[←Bool.not_eq_true];simp;omega
  rw[c0,Bool.false_or]
  by_cases h1:t.k=1
  ·rw[if_pos (.inr h1)];simp[h1]
  ·rw[if_neg (by omega),show((t.k:Int)==1)=false by simp;omega]
   simp only[cond_false]
   by_cases h2:lo=1∧hi=1
   ·rw[if_pos h2];simp[h2.1,h2.2]
   ·rw[if_neg h2,show(lo==1&&hi==1)=false by rw[←Bool.not_eq_true];simp;omega]
    simp only[cond_false]
    have hbo:zdj lo hi=true:=by rw[zdn];rw[zgu] at hg;omega
    refine zkh (zij ((zbc _).2 ⟨zua h1 hbo,by rw[Tr.l,zaq];exact⟨h,zct⟩⟩) ?_)
    rw[zzv];omega
theorem less_ok {y:Tr} {mn mx:Int} (hy:CR y)(hs:(pre y).length≤9000)(hk:y.k≠1)(hb:zdj mn mx=true):
 (zid y mn mx=emptyT∨zid y mn mx=y∨ ∃lo hi,zid y mn mx= .mk 5 0#256 lo hi [y]∧zdj lo hi=true):=by
 have hb':=(zdn mn mx).1 hb
 unfold zid
 generalize hlo:max (mn-1) 0=lo
 generalize hhi:(bif mx != -1 then mx-1 else mx)=hi
 have e:(mx= -1∧hi= -1)∨(mx≠ -1∧hi=mx-1):=by
  by_cases h:mx= -1
  ·subst h;simp at hhi;omega
  ·rw[show(mx != -1)=true by simpa using h] at hhi;simp at hhi;omega
 have hg:z6a lo hi=true:=(zgu lo hi).2 (by omega)
 rw[zlr hy (by omega) hg]
 split
 ·exact .inl rfl
 ·split
  ·exact .inr (.inl rfl)
  ·refine .inr (.inr ⟨lo,hi,rfl,?_⟩)
   rw[zdn];rw[zgu] at hg;omega
theorem qjm {y:Tr} {lo hi:Int} (hy:CR y)(hk:y.k≠1)(hb:zdj lo hi=true):CR (.mk 5 0#256 lo hi [y]):=(zbc _).2 ⟨zua hk hb,by rw[Tr.l,zaq];exact⟨hy,zct⟩⟩
theorem qjk {y:Tr} {mn mx:Int} (hy:CR y)(hs:(pre y).length≤9000)(hk:y.k≠1)(hb:zdj mn mx=true):CR (zid y mn mx)∧(zae (zar 3 [zid y mn mx])).length≤(pre y).length+1∧(pre (zid y mn mx)).length≤(pre y).length+1∧tbT (zid y mn mx)≤tbT y+(pre y).length+2:=by
 have hf:=zez 3 [zid y mn mx]
 have hp:(zae [zid y mn mx]).length=(pre (zid y mn mx)).length:=by simp[zae]
 rcases less_ok hy hs hk hb with h|h|⟨lo,hi,h,hb2⟩
 ·rw[h] at hf hp⊢
  refine⟨(zbc _).2 ⟨zev,zct⟩,?_,?_,?_⟩<;>simp[zbv,zhz,emptyT,Tr.k,Tr.l,zae,pre,tbT,zic]<;>omega
 ·rw[h] at hf hp⊢
  exact⟨hy,by omega,by omega,by omega⟩
 ·rw[h] at hf hp⊢
  refine⟨qjm hy hk hb2,?_,?_,?_⟩
  ·rw[znr] at hp;omega
  ·rw[znr];omega
  ·rw[z2w rfl];simp[Tr.l,zic,zae]
theorem z7q: ∀ {l:List Tr},(∀x∈l,x.k≠1∧x.k≠3)→zar 3 l=l
 |[],_=>rfl
 | x::l,h=>by
  have hx:=h x (by simp)
  rw[zbv,z7q fun y hy=>h y (List.mem_cons_of_mem _ hy),show((x.k:Int)==((3:Nat):Int))=false by simp;omega,show((x.k:Int)==1)=false by simp;omega];simp
theorem zty: ∀ {l:List Tr},CRL l→(zae l).length≤tbL l
 |[],_=>by rw[zae,tbL];simp
 | x::l,h=>by
  have:=((zaq _ _).1 h).1.tb
  rw[zae,List.length_append,tbL];omega
theorem zjg {l:List Tr} (h:CRL l)(hk: ∀x∈l,x.k≠1∧x.k≠3)(hs:(zae l).length≤9000):zfc l=zmw 3 l∧CR (zfc l)∧zar 3 [zfc l]=l∧tbT (zfc l)=tbL l:=by
 have e:zfc l=zmw 3 l:=by rw[zrh h (by omega),z7q hk]
 have hG:G3 l:=⟨h,hk⟩
 refine⟨e,?_,?_,?_⟩
 ·rw[e];exact zmc hG
 ·rw[e];exact z4y hG
 ·rw[e,qpa]
theorem z3c {a:Tr} (h:CR a)(hs:(pre a).length≤9000):zfc [a,emptyT]=a:=by
 have he:CR emptyT:=(zbc _).2 ⟨zev,zct⟩
 rw[zrh ((zdi _).2 (by simp[h,he])) (by simp[zae,pre,emptyT];omega),show zar 3 [a,emptyT]=zar 3 [a]++zar 3 [emptyT] by rw[←zlq];rfl,show zar 3 [emptyT]=[] from rfl,List.append_nil,ztn h]
theorem z8q {c:Nat} {n:Nat} (ih: ∀t,(pre t).length≤n→BO t→ ∀y∈byT c t,CR y∧tbT y≤tbT t): ∀l:List Tr,(∀x∈l,(pre x).length≤n)→CRL l→(∀x∈l,x.k≠1∧x.k≠3)→tbL l≤4000→ ∀y∈zfw c l,CR y∧tbT y≤tbL l
 |[],_,_,_,_,y,hy=>by rw[zfw] at hy;cases hy
 | x ::l,hn,hc,hk,ht,y,hy=>by
  have hc':=(zaq _ _).1 hc
  have hl:=zty hc'.2
  have ht2:tbL l≤4000:=by rw[tbL] at ht;omega
  have htx:tbT x≤4000:=by rw[tbL] at ht;omega
  rw[zfw,List.mem_append] at hy
  rcases hy with hy|hy
  ·obtain⟨y',hy',rfl⟩:=List.mem_map.1 hy
   obtain⟨a1,a2⟩:=ih x (hn x (by simp)) ⟨hc'.1,htx⟩ y' hy'
   obtain⟨e1,e2,e3,e4⟩:=zjg hc'.2 (fun z hz=>hk z (List.mem_cons_of_mem _ hz)) (by omega)
   have:=a1.tb
   have hz:=e2.tb
   have:=zzi a1 e2 (by omega)
   rw[e3,e4] at this
   refine⟨this.1,Nat.le_trans this.2 ?_⟩
   rw[tbL];omega
  ·cases hnl:nullT x with
   |false=>rw[hnl] at hy;cases hy
   | true=>
    rw[hnl] at hy
    obtain⟨a1,a2⟩:=z8q ih l (fun z hz=>hn z (List.mem_cons_of_mem _ hz)) hc'.2 (fun z hz=>hk z (List.mem_cons_of_mem _ hz)) ht2 y hy
    exact⟨a1,by rw[tbL];omega⟩
theorem qfv (c : Nat) : ∀ (n :Nat) (t:Tr),(pre t).length≤n→BO t→ ∀y∈byT c t,CR y∧tbT y≤tbT t
  | 0, t, hn, _, _, _ => by have:0<(pre t).length:=by rw[zcq];simp
                            omega
  | n + 1,t,hn,h,y,hy=>by
    have hp:(pre t).length=1+(zae t.l).length:=by rw[zcq,List.length_cons];omega
    have hcl:=((zbc t).1 h.1).2
    have hsub: ∀x∈t.l,(pre x).length≤n:=fun x hx=>by have:=zbq hx;omega
    have ih:=qfv c n
    rw[z2x] at hy
    rcases zib ((zbc t).1 h.1).1 with hk|hk|hk|hk|hk|hk<;>rw[hk] at hy
    · cases hy
    · have hy:y∈(bif t.s.getLsbD c then[emptyT] else[]):=hy
      cases hb:t.s.getLsbD c with
      |false=>rw[hb] at hy;cases hy
      | true=>
        rw[hb] at hy
        have:y=emptyT:=by simpa using hy
        subst this
        exact⟨(zbc _).2 ⟨zev,zct⟩,by rw[show tbT emptyT=1 by simp[emptyT,tbT,zae,zic]];exact z0v t⟩
    · have hy:y∈zfw c t.l:=hy
      have hc:=zer ((zbc t).1 h.1).1 hk
      have hb:=h.2
      rw[z2c hk] at hb⊢
      exact z8q ih t.l hsub hcl hc.2 hb y hy
    · have hy:y∈t.l.flatMap (byT c):=hy
      obtain⟨x,hx,hy⟩:=List.mem_flatMap.1 hy
      have h1:=zlu hx
      have h2:tbT t=max (1+(zae t.l).length) (zic t.l):=zuj (by omega) (by omega)
      have hb:=h.2
      obtain⟨a1,a2⟩:=ih x (hsub x hx) ⟨(zdi _).1 hcl x hx,by omega⟩ y hy
      exact⟨a1,by omega⟩
    · have hy:y∈(z5t c t.l).map (fun x=>zfc [x,zid (hdT t.l) t.mn t.mx]):=hy
      obtain⟨z,e,hb,hz1,hz⟩:=zvo h.1 hk
      have hl:t.l=[z]:=by rw[e];rfl
      rw[hl,z5t,show hdT [z]=z from rfl] at hy
      obtain⟨x,hx,rfl⟩:=List.mem_map.1 hy
      have htb:tbT t=tbT z+(pre z).length+2:=by rw[z2w hk,hl];simp[zic,zae]
      have hbt:=h.2
      obtain⟨a1,a2⟩:=ih z (hsub z (by rw[hl];simp)) ⟨hz,by omega⟩ x hx
      have hzt:=hz.tb
      obtain⟨b1,b2,b3,b4⟩:=qjk hz (by omega) hz1 hb
      have:=a1.tb
      have hs:=zzi a1 b1 (by omega)
      refine⟨hs.1,Nat.le_trans hs.2 ?_⟩
      split<;>omega
    · cases hy
theorem qgy {c:Nat} {t y:Tr} (h:BO t)(hy:y∈byT c t):BO y∧tbT y≤tbT t:=by
 obtain⟨a,b⟩:=qfv c _ t (Nat.le_refl _) h y hy
 have:=h.2
 exact⟨⟨a,by omega⟩,b⟩
theorem qqb (a b:Nat):(a+b)^2=a^2+2*a*b+b^2:=by rw[Nat.pow_two,Nat.pow_two,Nat.pow_two,Nat.add_mul,Nat.mul_add,Nat.mul_add,Nat.mul_assoc 2,Nat.two_mul,Nat.mul_comm b a];omega
theorem zsv {a b:Nat} (h:a≤b):a^2≤b^2:=Nat.pow_le_pow_left h 2
mutual
theorem qmg: ∀t:Tr,tbT t≤((pre t).length+1)^2
 | .mk k s mn mx l=>by
  have hl:=qps l
  have hm:=qpx l
  have h1:=qqb ((zae l).length+1) 1
  have h2:((pre (Tr.mk k s mn mx l)).length+1)=(zae l).length+1+1:=by rw[zyh];omega
  have h3:(zae l).length+1≤((zae l).length+1)^2:=by rw[Nat.pow_two];exact Nat.le_mul_self _
  rw[tbT,h2]
  cases (k:Int)==3 with
  |true=>simp only[cond_true];omega
  | false=>
   simp only[cond_false]
   cases (k:Int)==5 with
   |true=>simp only[cond_true];omega
   |false=>simp only[cond_false];omega
theorem qps: ∀l:List Tr,tbL l≤((zae l).length+1)^2
 |[]=>by simp[tbL,zae]
 | x::l=>by
  have hx:=qmg x
  have hl:=qps l
  have h1:=qqb ((pre x).length+1) (zae l).length
  have h2:(zae (x::l)).length+1=(pre x).length+1+(zae l).length:=by rw[zae,List.length_append];omega
  have h3:=zsv (a:=(zae l).length+1) (b:=(zae (x::l)).length+1) (by rw[h2];have:=zcq x;omega)
  have h4:(zae l).length+(if l.isEmpty=true then 0 else 1)≤2*((pre x).length+1)*(zae l).length:=by
   have hp:0<(pre x).length:=by rw[zcq];simp
   have:2*2*(zae l).length≤2*((pre x).length+1)*(zae l).length:=Nat.mul_le_mul_right _ (by omega)
   have:=zan l
   cases l with
   |nil=>simp[zae]
   |cons y l=>simp only[List.isEmpty_cons,Bool.false_eq_true,if_false,List.length_cons] at*;omega
  rw[tbL]
  rw[h2] at h3⊢
  omega
theorem qpx: ∀l:List Tr,zic l≤((zae l).length+1)^2
 |[]=>by simp[zic]
 | x::l=>by
  have hx:=qmg x
  have hl:=qpx l
  have h2:(zae (x::l)).length=(pre x).length+(zae l).length:=by rw[zae,List.length_append]
  have h3:=zsv (a:=(zae l).length+1) (b:=(zae (x::l)).length+1) (by omega)
  have h4:=zsv (a:=(pre x).length+1) (b:=(zae (x::l)).length+1) (by omega)
  rw[zic];omega
end
theorem bo_of {t:Tr} (h:CR t)(hs:(pre t).length≤60):BO t:=⟨h,Nat.le_trans (qmg t) (Nat.le_trans (zsv (b:=61) (by omega)) (by decide))⟩
end Go.Ab
namespace Go.Ab
open Go Go.RowKit Go.Fwd Go.Proofs
theorem zsm (t:Tr):t.l.length<(pre t).length:=zjl t
theorem qkj {t:Tr} (h:CR t)(hk:t.k=6): ∃y,t= .mk 6 0#256 0 0 [y]∧CR y:=by
 obtain⟨k,s,mn,mx,l⟩:=t
 simp only[Tr.k] at hk
 subst hk
 have h1:=(zbc _).1 h
 have hn:=zyi h1.1
 have h2:=h1.1
 simp[zdq] at h2
 obtain⟨y,rfl⟩:=len1 (l:=l) (by omega)
 have e:=hn.2.1 (by decide)
 exact⟨y,by rw[hn.1 (by decide),e.1,e.2],((zaq _ _).1 h1.2).1⟩
theorem qaa {t:Tr} (h:CR t)(hk:t.k=5∨t.k=6): ∃y,t.l=[y]∧CR y:=by
 rcases hk with hk|hk
 ·obtain⟨y,e,_,_,hy⟩:=zvo h hk;exact⟨y,by rw[e];rfl,hy⟩
 ·obtain⟨y,e,hy⟩:=qkj h hk;exact⟨y,by rw[e];rfl,hy⟩
theorem nu1_eq {n:Nat} {x:Tr} (h:(pre x).length<n)(hc:crT x=true):z6j n x=some (!nullT x):=by
 unfold z6j;rw[zdg ⟨h,hc⟩];rfl
theorem qnh (n:Nat)(t:Tr)(h:(pre t).length<n+1)(hc:crT t=true)(hn:n<2^60):z0s (n+1) n t=some (nullT t):=by
 have hlen:=zsm t
 have hp:(pre t).length=1+(zae t.l).length:=by rw[zcq,List.length_cons];omega
 have e1:=qbr (fuel:=n+1) (p:=fun x=>z6j n x) (fun x=> !nullT x) (l:=t.l) (by omega) (by omega) (fun x hx=>nu1_eq (by have:=zhe hx;omega) (qek hc hx))
 have e2:=qbr (fuel:=n+1) (p:=q1 nullT n) nullT (l:=t.l) (by omega) (by omega) (fun x hx=>q1_eq (by have:=zhe hx;omega) (qek hc hx))
 unfold z0s
 rw[zkl,e1,e2]
 have hsub: ∀x,t.l=[x]→(pre x).length<n∧crT x=true:=fun x hl=>by
  have hx:x∈t.l:=by rw[hl];simp
  have:=zhe hx
  exact⟨by omega,qek hc hx⟩
 rcases zib ((zbc t).1 hc).1 with hk|hk|hk|hk|hk|hk<;>rw[hk]
 ·rfl
 ·rfl
 ·show some (!t.l.any fun x=> !nullT x)=some (t.l.all nullT)
  rw[List.not_any_eq_all_not];simp
 ·rfl
 ·obtain⟨x,hl,_⟩:=qaa (t:=t) hc (.inl hk)
  show(bif t.mn==0 then some true else _)=some (t.mn==0||qfa t.l)
  cases t.mn==0 with
  |true=>rfl
  | false=>
   show chk _ _=_
   rw[hl]
   exact zm (by simp) (zad fun y e=>zm (by have e:x=y:=e;subst e;exact hsub x hl) (by have e:x=y:=e;subst e;rfl))
 ·obtain⟨x,hl,_⟩:=qaa (t:=t) hc (.inr hk)
  show chk _ _=_
  rw[hl]
  refine zm (by simp) (zad fun y e=>zm (by have e:x=y:=e;subst e;exact hsub x hl) (by have e:x=y:=e;subst e;show some (nullT x)=some (nullT x&&true);rw[Bool.and_true]))
theorem z2v: ∀(n:Nat) (t:Tr),((pre t).length<n∧crT t=true)→n≤2^60→Pure (ITP Tryz.prog) Tryz.prog 60 [.agg (Enc.cells t)] (.raw (.bool (nullT t)))
 |0,t,h,_=>absurd h.1 (Nat.not_lt_zero _)
 |n+1,t,h,hn=>qob (n+1) n t _ (fun x hx=>z2v n x hx (by omega)) (qnh n t h.1 h.2 (by omega))
theorem z6t (t:Tr)(h:(pre t).length<2^60∧crT t=true):Pure (ITP Tryz.prog) Tryz.prog 60 [.agg (Enc.cells t)] (.raw (.bool (nullT t))):=z2v (2^60) t h (Nat.le_refl _)
theorem z9e: ∀(n:Nat) (t:Tr),(pre t).length≤n→CS 998 t→CR (plT t)∧(pre (plT t)).length≤(pre t).length
 |0,t,hn,_=>by have:=zsm t;omega
 | n +1,t,hn,h=>by
  have hp:(pre t).length=1+(zae t.l).length:=by rw[zcq,List.length_cons];omega
  have hcl:=((zbc t).1 h.1).2
  have hh:=h.2
  have key: ∀l:List Tr,(∀x∈l,(pre x).length≤n∧CS 998 x)→CRL (l.map plT)∧(zae (l.map plT)).length≤(zae l).length:=by
   intro l
   induction l with
   |nil=>intro _;exact⟨zct,Nat.le_refl _⟩
   | cons x l ih=>
    intro hl
    obtain⟨a1,a2⟩:=ih fun y hy=>hl y (List.mem_cons_of_mem _ hy)
    obtain⟨b1,b2⟩:=hl x (by simp)
    obtain⟨c1,c2⟩:=z9e n x b1 b2
    rw[List.map_cons]
    refine⟨(zaq _ _).2 ⟨c1,a1⟩,?_⟩
    simp only[zae,List.length_append];omega
  obtain⟨k1,k2⟩:=key t.l fun x hx=>by have:=zbq hx;exact⟨by omega,(zdi _).1 hcl x hx,by omega⟩
  rw[z9j]
  rcases zib ((zbc t).1 h.1).1 with hk|hk|hk|hk|hk|hk<;>rw[hk]
  ·show CR (zje t)∧_;rw[zje,if_pos (by simp[zbj];omega)];exact⟨h.1,Nat.le_refl _⟩
  ·show CR (zje t)∧_;rw[zje,if_pos (by simp[zbj];omega)];exact⟨h.1,Nat.le_refl _⟩
  ·show CR (zfc _)∧(pre (zfc _)).length≤_
   rw[zrh k1 (by omega)]
   have:=zhm 3 (zar 3 (t.l.map plT));have:=zez 3 (t.l.map plT)
   exact⟨zmc (ziq k1),by omega⟩
  ·show CR (orT _)∧(pre (orT _)).length≤_
   have hl:=(zgo ((zbc t).1 h.1).1 hk).1
   have hne:t.l.map plT≠[]:=fun e=>by have:=congrArg List.length e;simp at this;simp[this] at hl
   rw[or_eq k1 hne (by omega)]
   have:=zhm 4 (zar 4 (t.l.map plT));have:=zez 4 (t.l.map plT)
   exact⟨z0n (zlz k1),by omega⟩
  ·show CR (zdp (hdT _) t.mn t.mx)∧(pre (zdp (hdT _) t.mn t.mx)).length≤_
   obtain⟨y,e,hb,_,hy⟩:=zvo h.1 hk
   have hl:t.l=[y]:=by rw[e];rfl
   rw[hl] at k1 k2 hp⊢
   show CR (zdp (plT y) t.mn t.mx)∧(pre (zdp (plT y) t.mn t.mx)).length≤_
   have hc:CR (plT y):=((zaq _ _).1 k1).1
   have hs:(pre (plT y)).length≤(pre y).length:=by simpa[zae] using k2
   simp only[zae,List.append_nil] at hp
   have hbb:=(zdn _ _).1 hb
   rw[zlr hc (by omega) ((zgu _ _).2 (by omega))]
   split
   ·exact⟨(zbc _).2 ⟨zev,zct⟩,by simp[emptyT,pre,zae];omega⟩
   ·rename_i hn1
    rw[if_neg (by omega)]
    exact⟨qjm hc (fun e1=>hn1 (.inr e1)) hb,by rw[znr];omega⟩
  ·show CR (hdT _)∧(pre (hdT _)).length≤_
   obtain⟨y,e,hy⟩:=qkj h.1 hk
   have hl:t.l=[y]:=by rw[e];rfl
   rw[hl] at k1 k2 hp⊢
   simp only[zae,List.append_nil] at hp
   have hs:(pre (plT y)).length≤(pre y).length:=by simpa[zae] using k2
   exact⟨((zaq _ _).1 k1).1,by show(pre (plT y)).length≤_;omega⟩
theorem qiu {t:Tr} (h:CS 998 t):CRL (t.l.map plT)∧(zae (t.l.map plT)).length≤(zae t.l).length:=by
 have hp:(pre t).length=1+(zae t.l).length:=by rw[zcq,List.length_cons];omega
 have hcl:=(zdi t.l).1 ((zbc t).1 h.1).2
 have hh:=h.2
 have key: ∀l:List Tr,(∀x∈l,CS 998 x)→CRL (l.map plT)∧(zae (l.map plT)).length≤(zae l).length:=by
  intro l
  induction l with
  |nil=>intro _;exact⟨zct,Nat.le_refl _⟩
  | cons x l ih=>
   intro hl
   obtain⟨a1,a2⟩:=ih fun y hy=>hl y (List.mem_cons_of_mem _ hy)
   obtain⟨c1,c2⟩:=z9e _ x (Nat.le_refl _) (hl x (by simp))
   rw[List.map_cons]
   refine⟨(zaq _ _).2 ⟨c1,a1⟩,?_⟩
   simp only[zae,List.length_append];omega
 exact key t.l fun x hx=>⟨hcl x hx,by have:=zbq hx;omega⟩
theorem qny (n:Nat)(t:Tr)(h:CS 998 t)(hn:(pre t).length<n+1):zsj 1002 n t=some (plT t):=by
 have hp:(pre t).length=1+(zae t.l).length:=by rw[zcq,List.length_cons];omega
 have hcl:=(zdi t.l).1 ((zbc t).1 h.1).2
 have hh:=h.2
 have hlen:=zan t.l
 obtain⟨m1,m2⟩:=qiu h
 rw[z9j]
 unfold zsj
 refine zbw (t.l.map plT) ?_ ?_
 ·refine zet t.l.length (fun i=>((t.l.take i).map plT,(i:Int))) (by simp) (fun i hi=> ?_) ?_ (by omega)
  ·refine zbp (by simpa using hi) (zm (by simp only;omega) (zad fun x1 e1=> ?_))
   simp only at e1
   rw[zdw hi] at e1
   have hm:x1∈t.l:=e1▸List.getElem_mem hi
   have hx:=zbq hm
   refine zm ⟨by omega,hcl x1 hm,by omega⟩ (zad fun x2 e2=>zm (by simp only[List.length_map,List.length_take,List.length_cons,List.length_nil];omega) (zm (by simp only;omega) ?_))
   subst e2
   rw[List.take_succ_eq_append_getElem hi,List.map_append,e1];rfl
  ·refine zaw (by simp) ?_
   simp
 ·rcases zib ((zbc t).1 h.1).1 with hk|hk|hk|hk|hk|hk<;>rw[hk]
  ·exact zm (by omega) rfl
  ·exact zm (by omega) rfl
  ·exact zm (by omega) rfl
  ·exact zm (by omega) rfl
  ·obtain⟨y,hl,_⟩:=qaa h.1 (.inl hk)
   rw[hl] at m2 hp⊢
   have hs:(pre (plT y)).length≤(pre y).length:=by simpa[zae] using m2
   simp only[zae,List.append_nil] at hp
   show _=some (zdp (plT y) t.mn t.mx)
   refine zaw rfl (zaw rfl (zbp rfl ?_))
   exact zm (by simp) (zad fun x e=>zm (by have e:plT y=x:=e;subst e;omega) (by have e:plT y=x:=e;subst e;rfl))
  ·obtain⟨y,hl,_⟩:=qaa h.1 (.inr hk)
   rw[hl]
   show _=some (plT y)
   refine zaw rfl (zaw rfl (zaw rfl (zbp rfl ?_)))
   exact zm (by simp) rfl
theorem z4u: ∀(n:Nat) (t:Tr),((pre t).length<n∧CS 998 t)→Pure (ITP Tryz.prog) Tryz.prog 52 [.agg (Enc.cells t)] (.agg (Enc.cells (plT t)))
 |0,t,h=>absurd h.1 (Nat.not_lt_zero _)
 |n+1,t,h=>qka 1002 n t _ (fun x hx=>z4u n x hx) (qny n t h.2 h.1)
theorem zto (t:Tr)(h:CS 998 t):Pure (ITP Tryz.prog) Tryz.prog 52 [.agg (Enc.cells t)] (.agg (Enc.cells (plT t))):=z4u 999 t ⟨by have:=h.2;omega,h⟩
end Go.Ab
