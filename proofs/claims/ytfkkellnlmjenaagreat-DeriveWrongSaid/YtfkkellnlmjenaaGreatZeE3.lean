/-
  derive: contracts of nullable and plain.
-/
import Derived.Test.YtfkkellnlmjenaaGreatZeE1
import Derived.Test.YtfkkellnlmjenaaGreatZeSs
set_option linter.unusedSimpArgs false
set_option linter.unusedVariables false
namespace Go.Ab
open Go Go.RowKit Go.Fwd
theorem len1 {l:List Tr} (h:l.length=1): ∃x,l=[x]:=by
 match l,h with
 |[x],_=>exact⟨x,rfl⟩
theorem z8r {t:Tr} (h:CR t)(hk:t.k=5): ∃y,t= .mk 5 0#256 t.mn t.mx [y]∧zdv t.mn t.mx=true∧y.k≠1∧CR y:=by
 obtain⟨k,s,mn,mx,l⟩:=t
 simp only[Tr.k] at hk
 subst hk
 have h1:=(zcn _).1 h
 have hn:=zzu h1.1
 have h2:=h1.1
 simp[zdt] at h2
 obtain⟨y,rfl⟩:=len1 (l:=l) (by omega)
 refine⟨y,by simp[Tr.mn,Tr.mx,hn.1 (by decide)],?_,?_,(zbb _ _).1 h1.2|>.1⟩
 ·exact h2.2.1.2
 ·have:=h2.2.2;simpa[zug,Tr.l] using this
theorem z0f {y:Tr} {mn mx:Int} {s:BS}:(pre (.mk 5 s mn mx [y])).length=(pre y).length+1:=by simp[pre,zap]
theorem z4s {t:Tr} {lo hi:Int} (h:CR t)(hs:(pre t).length≤9998)(hg:qlh lo hi=true):zis t lo hi=if(lo=0∧hi=0)∨t.k=1 then emptyT else if lo=1∧hi=1 then t else .mk 5 0#256 lo hi [t]:=by
 have hk:=h.k0
 have hgd:zmq t=true:=by rw[zmq,zhw h (by omega),Bool.or_true]
 have e0:((t.k:Int)==0)=false:=by simp;omega
 have hb:(!zmq t||(!(lo==0&&hi==0)&& !(lo==1&&hi==1)&& !zdv lo hi))=false:=by
  rw[hgd,Bool.not_true,Bool.false_or]
  by_cases h0:lo=0∧hi=0
  ·simp[h0.1,h0.2]
  ·by_cases h1:lo=1∧hi=1
   ·simp[h1.1,h1.2]
   ·have:zdv lo hi=true:=by rw[zib];rw[zlh] at hg;omega
    rw[this];simp
 unfold zis
 rw[hb,e0]
 simp only[cond_false,Bool.false_and,Bool.or_false]
 by_cases h0:lo=0∧hi=0
 ·rw[if_pos (.inl h0)];simp[h0.1,h0.2]
 ·have c0:(lo==0&&hi==0)=false:=by rw[←Bool.not_eq_true];simp;omega
  rw[c0,Bool.false_or]
  by_cases h1:t.k=1
  ·rw[if_pos (.inr h1)];simp[h1]
  ·rw[if_neg (by omega),show((t.k:Int)==1)=false by simp;omega]
   simp only[cond_false]
   by_cases h2:lo=1∧hi=1
   ·rw[if_pos h2];simp[h2.1,h2.2]
   ·rw[if_neg h2,show(lo==1&&hi==1)=false by rw[←Bool.not_eq_true];simp;omega]
    simp only[cond_false]
    have hbo:zdv lo hi=true:=by rw[zib];rw[zlh] at hg;omega
    refine zkb (zhw ((zcn _).2 ⟨zti h1 hbo,by rw[Tr.l,zbb];exact⟨h,zdf⟩⟩) ?_)
    rw[z0c];omega
theorem less_ok {y:Tr} {mn mx:Int} (hy:CR y)(hs:(pre y).length≤9000)(hk:y.k≠1)(hb:zdv mn mx=true):
 (zmp y mn mx=emptyT∨zmp y mn mx=y∨ ∃lo hi,zmp y mn mx= .mk 5 0#256 lo hi [y]∧zdv lo hi=true):=by
 have hb':=(zib mn mx).1 hb
 unfold zmp
 generalize hlo:max (mn-1) 0=lo
 generalize hhi:(bif mx != -1 then mx-1 else mx)=hi
 have e:(mx= -1∧hi= -1)∨(mx≠ -1∧hi=mx-1):=by
  by_cases h:mx= -1
  ·subst h;simp at hhi;omega
  ·rw[show(mx != -1)=true by simpa using h] at hhi;simp at hhi;omega
 have hg:qlh lo hi=true:=(zlh lo hi).2 (by omega)
 rw[z4s hy (by omega) hg]
 split
 ·exact .inl rfl
 ·split
  ·exact .inr (.inl rfl)
  ·refine .inr (.inr ⟨lo,hi,rfl,?_⟩)
   rw[zib];rw[zlh] at hg;omega
theorem qnr {y:Tr} {lo hi:Int} (hy:CR y)(hk:y.k≠1)(hb:zdv lo hi=true):CR (.mk 5 0#256 lo hi [y]):=(zcn _).2 ⟨zti hk hb,by rw[Tr.l,zbb];exact⟨hy,zdf⟩⟩
theorem qda {y:Tr} {mn mx:Int} (hy:CR y)(hs:(pre y).length≤9000)(hk:y.k≠1)(hb:zdv mn mx=true):CR (zmp y mn mx)∧(zap (zcc 3 [zmp y mn mx])).length≤(pre y).length+1∧(pre (zmp y mn mx)).length≤(pre y).length+1∧tbT (zmp y mn mx)≤tbT y+(pre y).length+2:=by
 have hf:=zgb 3 [zmp y mn mx]
 have hp:(zap [zmp y mn mx]).length=(pre (zmp y mn mx)).length:=by simp[zap]
 rcases less_ok hy hs hk hb with h|h|⟨lo,hi,h,hb2⟩
 ·rw[h] at hf hp⊢
  refine⟨(zcn _).2 ⟨zfx,zdf⟩,?_,?_,?_⟩<;>simp[zdb,zir,emptyT,Tr.k,Tr.l,zap,pre,tbT,zkj]<;>omega
 ·rw[h] at hf hp⊢
  exact⟨hy,by omega,by omega,by omega⟩
 ·rw[h] at hf hp⊢
  refine⟨qnr hy hk hb2,?_,?_,?_⟩
  ·rw[z0f] at hp;omega
  ·rw[z0f];omega
  ·rw[qdc rfl];simp[Tr.l,zkj,zap]
theorem qdq: ∀ {l:List Tr},(∀x∈l,x.k≠1∧x.k≠3)→zcc 3 l=l
 |[],_=>rfl
 | x::l,h=>by
  have hx:=h x (by simp)
  rw[zdb,qdq fun y hy=>h y (List.mem_cons_of_mem _ hy),show((x.k:Int)==((3:Nat):Int))=false by simp;omega,show((x.k:Int)==1)=false by simp;omega];simp
theorem qhs: ∀ {l:List Tr},CRL l→(zap l).length≤tbL l
 |[],_=>by rw[zap,tbL];simp
 | x::l,h=>by
  have:=((zbb _ _).1 h).1.tb
  rw[zap,List.length_append,tbL];omega
theorem zsi {l:List Tr} (h:CRL l)(hk: ∀x∈l,x.k≠1∧x.k≠3)(hs:(zap l).length≤9000):zlc l=zrn 3 l∧CR (zlc l)∧zcc 3 [zlc l]=l∧tbT (zlc l)=tbL l:=by
 have e:zlc l=zrn 3 l:=by rw[z4u h (by omega),qdq hk]
 have hG:G3 l:=⟨h,hk⟩
 refine⟨e,?_,?_,?_⟩
 ·rw[e];exact zot hG
 ·rw[e];exact qiw hG
 ·rw[e,qnp]
theorem qhy {a:Tr} (h:CR a)(hs:(pre a).length≤9000):zlc [a,emptyT]=a:=by
 have he:CR emptyT:=(zcn _).2 ⟨zfx,zdf⟩
 rw[z4u ((zeo _).2 (by simp[h,he])) (by simp[zap,pre,emptyT];omega),show zcc 3 [a,emptyT]=zcc 3 [a]++zcc 3 [emptyT] by rw[←zqu];rfl,show zcc 3 [emptyT]=[] from rfl,List.append_nil,qje h]
theorem z9m {c:Nat} {n:Nat} (ih: ∀t,(pre t).length≤n→BO t→ ∀y∈byT c t,CR y∧tbT y≤tbT t): ∀l:List Tr,(∀x∈l,(pre x).length≤n)→CRL l→(∀x∈l,x.k≠1∧x.k≠3)→tbL l≤4000→ ∀y∈zia c l,CR y∧tbT y≤tbL l
 |[],_,_,_,_,y,hy=>by rw[zia] at hy;cases hy
 | x ::l,hn,hc,hk,ht,y,hy=>by
  have hc':=(zbb _ _).1 hc
  have hl:=qhs hc'.2
  have ht2:tbL l≤4000:=by rw[tbL] at ht;omega
  have htx:tbT x≤4000:=by rw[tbL] at ht;omega
  rw[zia,List.mem_append] at hy
  rcases hy with hy|hy
  ·obtain⟨y',hy',rfl⟩:=List.mem_map.1 hy
   obtain⟨a1,a2⟩:=ih x (hn x (by simp)) ⟨hc'.1,htx⟩ y' hy'
   obtain⟨e1,e2,e3,e4⟩:=zsi hc'.2 (fun z hz=>hk z (List.mem_cons_of_mem _ hz)) (by omega)
   have:=a1.tb
   have hz:=e2.tb
   have:=qdm a1 e2 (by omega)
   rw[e3,e4] at this
   refine⟨this.1,Nat.le_trans this.2 ?_⟩
   rw[tbL];omega
  ·cases hnl:zeu x with
   |false=>rw[hnl] at hy;cases hy
   | true=>
    rw[hnl] at hy
    obtain⟨a1,a2⟩:=z9m ih l (fun z hz=>hn z (List.mem_cons_of_mem _ hz)) hc'.2 (fun z hz=>hk z (List.mem_cons_of_mem _ hz)) ht2 y hy
    exact⟨a1,by rw[tbL];omega⟩
theorem qim (c : Nat) : ∀ (n :Nat) (t:Tr),(pre t).length≤n→BO t→ ∀y∈byT c t,CR y∧tbT y≤tbT t
  | 0, t, hn, _, _, _ => by have:0<(pre t).length:=by rw[zcw];simp
                            omega
  | n + 1,t,hn,h,y,hy=>by
    have hp:(pre t).length=1+(zap t.l).length:=by rw[zcw,List.length_cons];omega
    have hcl:=((zcn t).1 h.1).2
    have hsub: ∀x∈t.l,(pre x).length≤n:=fun x hx=>by have:=zck hx;omega
    have ih:=qim c n
    rw[qgx] at hy
    rcases zkn ((zcn t).1 h.1).1 with hk|hk|hk|hk|hk|hk<;>rw[hk] at hy
    · cases hy
    · have hy:y∈(bif t.s.getLsbD c then[emptyT] else[]):=hy
      cases hb:t.s.getLsbD c with
      |false=>rw[hb] at hy;cases hy
      | true=>
        rw[hb] at hy
        have:y=emptyT:=by simpa using hy
        subst this
        exact⟨(zcn _).2 ⟨zfx,zdf⟩,by rw[show tbT emptyT=1 by simp[emptyT,tbT,zap,zkj]];exact z5r t⟩
    · have hy:y∈zia c t.l:=hy
      have hc:=zgl ((zcn t).1 h.1).1 hk
      have hb:=h.2
      rw[qbl hk] at hb⊢
      exact z9m ih t.l hsub hcl hc.2 hb y hy
    · have hy:y∈t.l.flatMap (byT c):=hy
      obtain⟨x,hx,hy⟩:=List.mem_flatMap.1 hy
      have h1:=zue hx
      have h2:tbT t=max (1+(zap t.l).length) (zkj t.l):=z0a (by omega) (by omega)
      have hb:=h.2
      obtain⟨a1,a2⟩:=ih x (hsub x hx) ⟨(zeo _).1 hcl x hx,by omega⟩ y hy
      exact⟨a1,by omega⟩
    · have hy:y∈(z5b c t.l).map (fun x=>zlc [x,zmp (hdT t.l) t.mn t.mx]):=hy
      obtain⟨z,e,hb,hz1,hz⟩:=z8r h.1 hk
      have hl:t.l=[z]:=by rw[e];rfl
      rw[hl,z5b,show hdT [z]=z from rfl] at hy
      obtain⟨x,hx,rfl⟩:=List.mem_map.1 hy
      have htb:tbT t=tbT z+(pre z).length+2:=by rw[qdc hk,hl];simp[zkj,zap]
      have hbt:=h.2
      obtain⟨a1,a2⟩:=ih z (hsub z (by rw[hl];simp)) ⟨hz,by omega⟩ x hx
      have hzt:=hz.tb
      obtain⟨b1,b2,b3,b4⟩:=qda hz (by omega) hz1 hb
      have:=a1.tb
      have hs:=qdm a1 b1 (by omega)
      refine⟨hs.1,Nat.le_trans hs.2 ?_⟩
      split<;>omega
    · cases hy
theorem qmh {c:Nat} {t y:Tr} (h:BO t)(hy:y∈byT c t):BO y∧tbT y≤tbT t:=by
 obtain⟨a,b⟩:=qim c _ t (Nat.le_refl _) h y hy
 have:=h.2
 exact⟨⟨a,by omega⟩,b⟩
theorem qou (a b:Nat):(a+b)^2=a^2+2*a*b+b^2:=by rw[Nat.pow_two,Nat.pow_two,Nat.pow_two,Nat.add_mul,Nat.mul_add,Nat.mul_add,Nat.mul_assoc 2,Nat.two_mul,Nat.mul_comm b a];omega
theorem z6e {a b:Nat} (h:a≤b):a^2≤b^2:=Nat.pow_le_pow_left h 2
mutual
theorem tb_sq: ∀t:Tr,tbT t≤((pre t).length+1)^2
 | .mk k s mn mx l=>by
  have hl:=qpa l
  have hm:=qpc l
  have h1:=qou ((zap l).length+1) 1
  have h2:((pre (Tr.mk k s mn mx l)).length+1)=(zap l).length+1+1:=by rw[zyf];omega
  have h3:(zap l).length+1≤((zap l).length+1)^2:=by rw[Nat.pow_two];exact Nat.le_mul_self _
  rw[tbT,h2]
  cases (k:Int)==3 with
  |true=>simp only[cond_true];omega
  | false=>
   simp only[cond_false]
   cases (k:Int)==5 with
   |true=>simp only[cond_true];omega
   |false=>simp only[cond_false];omega
theorem qpa: ∀l:List Tr,tbL l≤((zap l).length+1)^2
 |[]=>by simp[tbL,zap]
 | x::l=>by
  have hx:=tb_sq x
  have hl:=qpa l
  have h1:=qou ((pre x).length+1) (zap l).length
  have h2:(zap (x::l)).length+1=(pre x).length+1+(zap l).length:=by rw[zap,List.length_append];omega
  have h3:=z6e (a:=(zap l).length+1) (b:=(zap (x::l)).length+1) (by rw[h2];have:=zcw x;omega)
  have h4:(zap l).length+(if l.isEmpty=true then 0 else 1)≤2*((pre x).length+1)*(zap l).length:=by
   have hp:0<(pre x).length:=by rw[zcw];simp
   have:2*2*(zap l).length≤2*((pre x).length+1)*(zap l).length:=Nat.mul_le_mul_right _ (by omega)
   have:=zaq l
   cases l with
   |nil=>simp[zap]
   |cons y l=>simp only[List.isEmpty_cons,Bool.false_eq_true,if_false,List.length_cons] at*;omega
  rw[tbL]
  rw[h2] at h3⊢
  omega
theorem qpc: ∀l:List Tr,zkj l≤((zap l).length+1)^2
 |[]=>by simp[zkj]
 | x::l=>by
  have hx:=tb_sq x
  have hl:=qpc l
  have h2:(zap (x::l)).length=(pre x).length+(zap l).length:=by rw[zap,List.length_append]
  have h3:=z6e (a:=(zap l).length+1) (b:=(zap (x::l)).length+1) (by omega)
  have h4:=z6e (a:=(pre x).length+1) (b:=(zap (x::l)).length+1) (by omega)
  rw[zkj];omega
end
end Go.Ab
namespace Go.Ab
open Go Go.RowKit Go.Fwd Go.Proofs
theorem qaa (t:Tr):t.l.length<(pre t).length:=zjg t
theorem qoa {t:Tr} (h:CR t)(hk:t.k=6): ∃y,t= .mk 6 0#256 0 0 [y]∧CR y:=by
 obtain⟨k,s,mn,mx,l⟩:=t
 simp only[Tr.k] at hk
 subst hk
 have h1:=(zcn _).1 h
 have hn:=zzu h1.1
 have h2:=h1.1
 simp[zdt] at h2
 obtain⟨y,rfl⟩:=len1 (l:=l) (by omega)
 have e:=hn.2.1 (by decide)
 exact⟨y,by rw[hn.1 (by decide),e.1,e.2],((zbb _ _).1 h1.2).1⟩
theorem qad {t:Tr} (h:CR t)(hk:t.k=5∨t.k=6): ∃y,t.l=[y]∧CR y:=by
 rcases hk with hk|hk
 ·obtain⟨y,e,_,_,hy⟩:=z8r h hk;exact⟨y,by rw[e];rfl,hy⟩
 ·obtain⟨y,e,hy⟩:=qoa h hk;exact⟨y,by rw[e];rfl,hy⟩
theorem nu1_eq {n:Nat} {x:Tr} (h:(pre x).length<n)(hc:crT x=true):z5o n x=some (!zeu x):=by
 unfold z5o;rw[zdk ⟨h,hc⟩];rfl
theorem qkn (n:Nat)(t:Tr)(h:(pre t).length<n+1)(hc:crT t=true)(hn:n<2^60):z0h (n+1) n t=some (zeu t):=by
 have hlen:=qaa t
 have hp:(pre t).length=1+(zap t.l).length:=by rw[zcw,List.length_cons];omega
 have e1:=qjf (fuel:=n+1) (p:=fun x=>z5o n x) (fun x=> !zeu x) (l:=t.l) (by omega) (by omega) (fun x hx=>nu1_eq (by have:=zhb hx;omega) (qeq hc hx))
 have e2:=qjf (fuel:=n+1) (p:=q1 zeu n) zeu (l:=t.l) (by omega) (by omega) (fun x hx=>q1_eq (by have:=zhb hx;omega) (qeq hc hx))
 unfold z0h
 rw[qmt,e1,e2]
 have hsub: ∀x,t.l=[x]→(pre x).length<n∧crT x=true:=fun x hl=>by
  have hx:x∈t.l:=by rw[hl];simp
  have:=zhb hx
  exact⟨by omega,qeq hc hx⟩
 rcases zkn ((zcn t).1 hc).1 with hk|hk|hk|hk|hk|hk<;>rw[hk]
 ·rfl
 ·rfl
 ·show some (!t.l.any fun x=> !zeu x)=some (t.l.all zeu)
  rw[List.not_any_eq_all_not];simp
 ·rfl
 ·obtain⟨x,hl,_⟩:=qad (t:=t) hc (.inl hk)
  show(bif t.mn==0 then some true else _)=some (t.mn==0||qgd t.l)
  cases t.mn==0 with
  |true=>rfl
  | false=>
   show chk _ _=_
   rw[hl]
   exact zq (by simp) (zai fun y e=>zq (by have e:x=y:=e;subst e;exact hsub x hl) (by have e:x=y:=e;subst e;rfl))
 ·obtain⟨x,hl,_⟩:=qad (t:=t) hc (.inr hk)
  show chk _ _=_
  rw[hl]
  refine zq (by simp) (zai fun y e=>zq (by have e:x=y:=e;subst e;exact hsub x hl) (by have e:x=y:=e;subst e;show some (zeu x)=some (zeu x&&true);rw[Bool.and_true]))
theorem z1b: ∀(n:Nat) (t:Tr),((pre t).length<n∧crT t=true)→n≤2^60→Pure (ITP Tryz.prog) Tryz.prog 60 [.agg (Enc.cells t)] (.raw (.bool (zeu t)))
 |0,t,h,_=>absurd h.1 (Nat.not_lt_zero _)
 |n+1,t,h,hn=>qnm (n+1) n t _ (fun x hx=>z1b n x hx (by omega)) (qkn n t h.1 h.2 (by omega))
theorem z5v (t:Tr)(h:(pre t).length<2^60∧crT t=true):Pure (ITP Tryz.prog) Tryz.prog 60 [.agg (Enc.cells t)] (.raw (.bool (zeu t))):=z1b (2^60) t h (Nat.le_refl _)
theorem qpe: ∀(n:Nat) (t:Tr),(pre t).length≤n→CS 998 t→CR (plT t)∧(pre (plT t)).length≤(pre t).length
 |0,t,hn,_=>by have:=qaa t;omega
 | n +1,t,hn,h=>by
  have hp:(pre t).length=1+(zap t.l).length:=by rw[zcw,List.length_cons];omega
  have hcl:=((zcn t).1 h.1).2
  have hh:=h.2
  have key: ∀l:List Tr,(∀x∈l,(pre x).length≤n∧CS 998 x)→CRL (l.map plT)∧(zap (l.map plT)).length≤(zap l).length:=by
   intro l
   induction l with
   |nil=>intro _;exact⟨zdf,Nat.le_refl _⟩
   | cons x l ih=>
    intro hl
    obtain⟨a1,a2⟩:=ih fun y hy=>hl y (List.mem_cons_of_mem _ hy)
    obtain⟨b1,b2⟩:=hl x (by simp)
    obtain⟨c1,c2⟩:=qpe n x b1 b2
    rw[List.map_cons]
    refine⟨(zbb _ _).2 ⟨c1,a1⟩,?_⟩
    simp only[zap,List.length_append];omega
  obtain⟨k1,k2⟩:=key t.l fun x hx=>by have:=zck hx;exact⟨by omega,(zeo _).1 hcl x hx,by omega⟩
  rw[qpd]
  rcases zkn ((zcn t).1 h.1).1 with hk|hk|hk|hk|hk|hk<;>rw[hk]
  ·show CR (zvs t)∧_;rw[zvs,if_pos (by simp[zcj];omega)];exact⟨h.1,Nat.le_refl _⟩
  ·show CR (zvs t)∧_;rw[zvs,if_pos (by simp[zcj];omega)];exact⟨h.1,Nat.le_refl _⟩
  ·show CR (zlc _)∧(pre (zlc _)).length≤_
   rw[z4u k1 (by omega)]
   have:=zmi 3 (zcc 3 (t.l.map plT));have:=zgb 3 (t.l.map plT)
   exact⟨zot (zjw k1),by omega⟩
  ·show CR (orT _)∧(pre (orT _)).length≤_
   have hl:=(zko ((zcn t).1 h.1).1 hk).1
   have hne:t.l.map plT≠[]:=fun e=>by have:=congrArg List.length e;simp at this;simp[this] at hl
   rw[or_eq k1 hne (by omega)]
   have:=zmi 4 (zcc 4 (t.l.map plT));have:=zgb 4 (t.l.map plT)
   exact⟨zyk (zmm k1),by omega⟩
  ·show CR (zis (hdT _) t.mn t.mx)∧(pre (zis (hdT _) t.mn t.mx)).length≤_
   obtain⟨y,e,hb,_,hy⟩:=z8r h.1 hk
   have hl:t.l=[y]:=by rw[e];rfl
   rw[hl] at k1 k2 hp⊢
   show CR (zis (plT y) t.mn t.mx)∧(pre (zis (plT y) t.mn t.mx)).length≤_
   have hc:CR (plT y):=((zbb _ _).1 k1).1
   have hs:(pre (plT y)).length≤(pre y).length:=by simpa[zap] using k2
   simp only[zap,List.append_nil] at hp
   have hbb:=(zib _ _).1 hb
   rw[z4s hc (by omega) ((zlh _ _).2 (by omega))]
   split
   ·exact⟨(zcn _).2 ⟨zfx,zdf⟩,by simp[emptyT,pre,zap];omega⟩
   ·rename_i hn1
    rw[if_neg (by omega)]
    exact⟨qnr hc (fun e1=>hn1 (.inr e1)) hb,by rw[z0f];omega⟩
  ·show CR (hdT _)∧(pre (hdT _)).length≤_
   obtain⟨y,e,hy⟩:=qoa h.1 hk
   have hl:t.l=[y]:=by rw[e];rfl
   rw[hl] at k1 k2 hp⊢
   simp only[zap,List.append_nil] at hp
   have hs:(pre (plT y)).length≤(pre y).length:=by simpa[zap] using k2
   exact⟨((zbb _ _).1 k1).1,by show(pre (plT y)).length≤_;omega⟩
theorem mapP_cl {t:Tr} (h:CS 998 t):CRL (t.l.map plT)∧(zap (t.l.map plT)).length≤(zap t.l).length:=by
 have hp:(pre t).length=1+(zap t.l).length:=by rw[zcw,List.length_cons];omega
 have hcl:=(zeo t.l).1 ((zcn t).1 h.1).2
 have hh:=h.2
 have key: ∀l:List Tr,(∀x∈l,CS 998 x)→CRL (l.map plT)∧(zap (l.map plT)).length≤(zap l).length:=by
  intro l
  induction l with
  |nil=>intro _;exact⟨zdf,Nat.le_refl _⟩
  | cons x l ih=>
   intro hl
   obtain⟨a1,a2⟩:=ih fun y hy=>hl y (List.mem_cons_of_mem _ hy)
   obtain⟨c1,c2⟩:=qpe _ x (Nat.le_refl _) (hl x (by simp))
   rw[List.map_cons]
   refine⟨(zbb _ _).2 ⟨c1,a1⟩,?_⟩
   simp only[zap,List.length_append];omega
 exact key t.l fun x hx=>⟨hcl x hx,by have:=zck hx;omega⟩
theorem qkv (n:Nat)(t:Tr)(h:CS 998 t)(hn:(pre t).length<n+1):zsh 1002 n t=some (plT t):=by
 have hp:(pre t).length=1+(zap t.l).length:=by rw[zcw,List.length_cons];omega
 have hcl:=(zeo t.l).1 ((zcn t).1 h.1).2
 have hh:=h.2
 have hlen:=zaq t.l
 obtain⟨m1,m2⟩:=mapP_cl h
 rw[qpd]
 unfold zsh
 refine zcb (t.l.map plT) ?_ ?_
 ·refine zew t.l.length (fun i=>((t.l.take i).map plT,(i:Int))) (by simp) (fun i hi=> ?_) ?_ (by omega)
  ·refine zbe (by simpa using hi) (zq (by simp only;omega) (zai fun x1 e1=> ?_))
   simp only at e1
   rw[zel hi] at e1
   have hm:x1∈t.l:=e1▸List.getElem_mem hi
   have hx:=zck hm
   refine zq ⟨by omega,hcl x1 hm,by omega⟩ (zai fun x2 e2=>zq (by simp only[List.length_map,List.length_take,List.length_cons,List.length_nil];omega) (zq (by simp only;omega) ?_))
   subst e2
   rw[List.take_succ_eq_append_getElem hi,List.map_append,e1];rfl
  ·refine zay (by simp) ?_
   simp
 ·rcases zkn ((zcn t).1 h.1).1 with hk|hk|hk|hk|hk|hk<;>rw[hk]
  ·exact zq (by omega) rfl
  ·exact zq (by omega) rfl
  ·exact zq (by omega) rfl
  ·exact zq (by omega) rfl
  ·obtain⟨y,hl,_⟩:=qad h.1 (.inl hk)
   rw[hl] at m2 hp⊢
   have hs:(pre (plT y)).length≤(pre y).length:=by simpa[zap] using m2
   simp only[zap,List.append_nil] at hp
   show _=some (zis (plT y) t.mn t.mx)
   refine zay rfl (zay rfl (zbe rfl ?_))
   exact zq (by simp) (zai fun x e=>zq (by have e:plT y=x:=e;subst e;omega) (by have e:plT y=x:=e;subst e;rfl))
  ·obtain⟨y,hl,_⟩:=qad h.1 (.inr hk)
   rw[hl]
   show _=some (plT y)
   refine zay rfl (zay rfl (zay rfl (zbe rfl ?_)))
   exact zq (by simp) rfl
theorem z0q: ∀(n:Nat) (t:Tr),((pre t).length<n∧CS 998 t)→Pure (ITP Tryz.prog) Tryz.prog 52 [.agg (Enc.cells t)] (.agg (Enc.cells (plT t)))
 |0,t,h=>absurd h.1 (Nat.not_lt_zero _)
 |n+1,t,h=>qgt 1002 n t _ (fun x hx=>z0q n x hx) (qkv n t h.2 h.1)
theorem ztg (t:Tr)(h:CS 998 t):Pure (ITP Tryz.prog) Tryz.prog 52 [.agg (Enc.cells t)] (.agg (Enc.cells (plT t))):=z0q 999 t ⟨by have:=h.2;omega,h⟩
end Go.Ab
