import Derived.Test.YtjkcellkmmfkdaaGreatDoorZhL3
import Derived.Deep.Slices
import Derived.Deep.Fields
import Derived.ChangeSame
import Derived.Test.YtjkcellkmmfkdaaGreatDoorRows
import Derived.Deep.DeepHandedRow
import Derived.Deep.DeepWitnessRowRef
import Derived.ProofKit
import Derived.SizedLaws
import Derived.Laws.IdiomArrays
import Derived.HandedShaped
import Derived.Shelf.Vars
import Derived.Stop.LaidErr
import Derived.ChangeMaps
import Derived.Test.YtjkcellkmmfkdaaGreatDoorCards
import Derived.Test.YtjkcellkmmfkdaaGreatDoorTie
import Derived.SevenTiedAt
set_option linter.all false
set_option maxRecDepth 100000
open Bool (and_eq_true)
open List (length length_cons length_append all_eq_true nil_append mem_cons mem_range append_nil mem_map map_cons length_take)
open Go.Proofs.Tryz (prog)
namespace Go.Ab
open Go Go.RowKit Go.Fwd Go.Proofs
theorem z8d (n:Nat)(u:List UInt8)(s:BS)(c:List UInt8)(lo hi:Int)(hd: ∃x t,u=x::t/\ HdOk x)(hul:u.length<2^20)
 (hat: ∀g (a b:List UInt8) q,(a++u++b).length<2^39->zhf 1100 g (Rd.mk (a++u++b) ((a.length:Nat):Int) 0 q)=some (brT s,Rd.mk (a++u++b) (((a++u).length:Nat):Int) 0 q)) (hc:qdb c lo hi):AtP n (u++c) (zet (brT s) lo hi) where
 hd:=by obtain⟨x,t,rfl,h⟩:=hd;exact⟨x,t++c,rfl,h⟩
 len:=zqq _ (by rw[zjj];simp) lo hi
 run a b q hlen hq hb:=by
  have e:a++(u++c)++b=a++u++(c++b):=by simp
  have e2:a++u++(c++b)=(a++u)++c++b:=by simp
  rw[e] at hlen⊢;refine⟨brT s,_,q,hat _ a (c++b) q hlen,?_,rfl⟩;have h:=zrc (brT s) (by rw[zjj];simp) (a++u) c b q lo hi (hc b hb (by simp only[length_append] at hlen;omega)) hb (by rw[<-e2];exact hlen);rw[<-e2] at h;rw[show a++(u++c)=a++u++c by simp];exact h
theorem zyt {x:UInt8} (k:Nat)(hk:k<256)(hn:x≠UInt8.ofNat k):(((x.toNat:Nat):Int)==(k:Int))=false:=by
 rw[beq_eq_false_iff_ne];intro e;exact hn (of_int hk e)
theorem z5z (a u b:List UInt8):(a++u++b).drop a.length=u++b:=by simp
theorem le_at (a u b:List UInt8):a.length<=(a++u++b).length:=by simp only[length_append];omega
theorem qpc (a u:List UInt8):((a.length:Nat):Int)+((u.length:Nat):Int)=(((a++u).length:Nat):Int):=by simp only[length_append];omega
theorem hat_by (cc:UInt8)(g:Int->Rd->Option (Tr×Rd))(a b:List UInt8)(q:Stk)(hlen:(a++byT zat cc++b).length<2^39):
 zhf 1100 g (Rd.mk (a++byT zat cc++b) ((a.length:Nat):Int) 0 q)=some (brT (bit cc.toNat),Rd.mk (a++byT zat cc++b) (((a++byT zat cc).length:Nat):Int) 0 q):=by
 have ht:=all_eq_true.1 z8i cc.toNat (mem_range.2 cc.toNat_lt);rw[zmy] at ht;simp only[and_eq_true,decide_eq_true_eq,Bool.not_eq_true'] at ht;obtain⟨_,h3⟩:=ht;have hb:=ztb cc;have hl:=cc.toNat_lt;obtain⟨x,l,hx⟩: ∃x l,byT zat cc=x::l:=by
  cases hx:byT zat cc with
  |nil=>have:=hb.lo;rw[hx] at this;simp at this
  |cons x l=>exact⟨x,l,rfl⟩
 rw[hx] at h3;simp only[List.head?_cons,Option.all_some,List.all_cons,List.all_nil,Bool.and_true,and_eq_true,bne_iff_ne,ne_eq] at h3;obtain⟨n0,n124,n41,n40,n91,n46,n42,n43,n63,n123,n94,n36⟩:=h3;have hd:(a++byT zat cc++b).drop a.length=x::(l++b):=by rw[z5z,hx];rfl
 have hx2:x::(l++b)=byT zat cc++b:=by rw[hx];rfl
 have:=z4s g (a++byT zat cc++b) a.length (le_at _ _ _) q x (l++b) hd;refine Eq.trans this ?_;refine zbg (Rd.mk (a++byT zat cc++b) ((a.length:Nat):Int) 0 q) ?_ ?_
 ·unfold qmi;have f40:(((x.toNat:Nat):Int)==40)=false:=zyt 40 (by omega) n40;have f91:(((x.toNat:Nat):Int)==91)=false:=zyt 91 (by omega) n91;have f46:(((x.toNat:Nat):Int)==46)=false:=zyt 46 (by omega) n46;have f42:(((x.toNat:Nat):Int)==42)=false:=zyt 42 (by omega) n42;have f43:(((x.toNat:Nat):Int)==43)=false:=zyt 43 (by omega) n43;have f63:(((x.toNat:Nat):Int)==63)=false:=zyt 63 (by omega) n63;have f123:(((x.toNat:Nat):Int)==123)=false:=zyt 123 (by omega) n123;have f94:(((x.toNat:Nat):Int)==94)=false:=zyt 94 (by omega) n94;have f36:(((x.toNat:Nat):Int)==36)=false:=zyt 36 (by omega) n36;rw[f40,cond_false,f91,cond_false,f46,cond_false,f42,f43,f63,f123,f94,f36];rfl
 ·rw[hx2];have r1:=hb.run b;have r2:=hb.short b;have hh:=hb.hi;have hal:a.length<2^39:=by simp only[length_append] at hlen;omega
  unfold atomB;refine zv fun y hy=> ?_;rw[<-hy,r2,cond_false];refine zaf _ r1 ?_;simp only;rw[show((0:Int) !=0)=false from rfl,cond_false,qpc];refine zt (by simp only[length_append] at hlen⊢;omega) (zaf _ (zxb ((cc.toNat:Nat):Int) (by omega) (by omega)) ?_);rw[Int.toNat_natCast,qja _ hl]
theorem hat_dot (g:Int->Rd->Option (Tr×Rd))(a b:List UInt8)(q:Stk)(hlen:(a++[46]++b).length<2^39):
 zhf 1100 g (Rd.mk (a++[46]++b) ((a.length:Nat):Int) 0 q)=some (brT (~~~ bit 10),Rd.mk (a++[46]++b) (((a++[46]).length:Nat):Int) 0 q):=by
 have hne: ~~~ bit 10≠0#256:=by decide+kernel
 have:=z4s g (a++[46]++b) a.length (le_at _ _ _) q 46 b (by rw[z5z];rfl);refine Eq.trans this ?_;refine z2l _ ?_ rfl;have hal:a.length<2^39:=by simp only[length_append] at hlen;omega
 unfold qmi;rw[show((((46:UInt8).toNat:Nat):Int)==40)=false from rfl,cond_false,show((((46:UInt8).toNat:Nat):Int)==91)=false from rfl,cond_false,show((((46:UInt8).toNat:Nat):Int)==46)=true from rfl,cond_true];refine zt (by simp only;omega) (zaf _ set10 (zv fun x hx=>zv fun y hy=> ?_));subst hx;subst hy;rw[ofT,if_neg hne,length_append];rfl
theorem qoe (u:List UInt8)(s:BS)(hs:s≠0#256)(h91: ∃t,u=91::t)(hul:u.length<2^20)(hbr: ∀rest:List UInt8,(u++rest).length<2^39->zdt 1100 (u++rest)=some (s,((u.length:Nat):Int),0))(g:Int->Rd->Option (Tr×Rd))(a b:List UInt8)(q:Stk)(hlen:(a++u++b).length<2^39):
 zhf 1100 g (Rd.mk (a++u++b) ((a.length:Nat):Int) 0 q)=some (brT s,Rd.mk (a++u++b) (((a++u).length:Nat):Int) 0 q):=by
 obtain⟨t,ht⟩:=h91;have:=z4s g (a++u++b) a.length (le_at _ _ _) q 91 (t++b) (by rw[z5z,ht];rfl);refine Eq.trans this ?_;refine z2l _ ?_ rfl;have hal:a.length<2^39:=by simp only[length_append] at hlen;omega
 have hb2:=hbr b (by simp only[length_append] at hlen⊢;omega);have e:(91::(t++b):List UInt8)=u++b:=by rw[ht];rfl
 unfold qmi;rw[show((((91:UInt8).toNat:Nat):Int)==40)=false from rfl,cond_false,show((((91:UInt8).toNat:Nat):Int)==91)=true from rfl,cond_true,e];refine zaf _ hb2 ?_;simp only;rw[show((0:Int) !=0)=false from rfl,cond_false,qpc];refine zt (by simp only[length_append] at hlen⊢;omega) (zv fun x hx=> ?_);rw[<-hx,ofT,if_neg hs];rfl
theorem set_br2 (s:BS)(h:s≠0#256)(rest:List UInt8)(hr:(gts (zek s)).length+rest.length<2^39):zdt 1100 (([91]:List UInt8)++gts (zek s)++[93]++rest)=some (s,((gts (zek s)).length:Int)+2,0):=by
 have h1:=zoy s;have h2:=zol s;rw[gbr_eq (zek s) rest (z8u h) (z8g s) (by omega) hr,zqd]
theorem qkp (s:BS)(h:s≠0#256)(hn: ~~~ s≠0#256)(rest:List UInt8)(hr:(gts (zek s)).length+rest.length<2^39):zdt 1100 (([91,94]:List UInt8)++gts (zek s)++[93]++rest)=some (~~~ s,((gts (zek s)).length:Int)+3,0):=by
 have h1:=zoy s;have h2:=zol s;rw[gbrN_eq (zek s) rest (z8u h) (z8g s) (by omega) hr,zqd,if_neg hn]
theorem qiu {n:Nat} {A:Alts} (hA:qpi n A) {y:UInt8} {u:List UInt8} (h:zz A=y::u):y≠63/\ y≠94:=by
 obtain⟨h0,h1,_⟩:=hA;cases A with
 |nil=>exact absurd rfl h0
 | cons L A=>
  have h2:=(h1 L (by simp)).2;cases L with
  | nil=>
   cases A with
   |nil=>simp[zz,zbi] at h
   | cons M A=>
    rw[zii] at h;simp[zbi] at h;rw[<-h.1];decide
  | cons p L=>
   obtain⟨c,t,hc,hd⟩:=(h2 p (by simp)).hd;have: ∃z,zz ((p::L)::A)=c::z:=by
    cases A with
    |nil=>exact⟨t++zbi L,by rw[zz,zgn,hc];rfl⟩
    |cons M A=>exact⟨t++zbi L++124::zz (M::A),by rw[zii,zgn,hc];simp⟩
   obtain⟨z,hz⟩:=this;rw[hz] at h;simp only[List.cons.injEq] at h;obtain⟨rfl,_⟩:=h;exact⟨hd.2.2.2.2.2.1,hd.2.2.2.2.2.2.2⟩
theorem at_set (n:Nat)(s:BS)(hs:s≠0#256)(c:List UInt8)(lo hi:Int)(hc:qdb c lo hi):AtP n (zjs s++c) (zet (brT s) lo hi):=by
 have hlen:=qfy s;by_cases h1:s=bit ((elN s 256).headD 0)
 ·have e:zjs s=byT zat (UInt8.ofNat ((elN s 256).headD 0)):=by unfold zjs;rw[if_pos h1]
  have hh:=qgd s;obtain⟨cc,hcc⟩: ∃cc,cc=UInt8.ofNat ((elN s 256).headD 0):=⟨_,rfl⟩;have ec:cc.toNat=(elN s 256).headD 0:=by
   rw[hcc];obtain⟨v,hv⟩: ∃v,v=(elN s 256).headD 0:=⟨_,rfl⟩;rw[<-hv] at hh⊢;simp;omega
  rw[<-hcc] at e;have es:s=bit cc.toNat:=by rw[ec];exact h1
  rw[e] at hlen⊢;refine z8d n _ s c lo hi ?_ (by omega) (fun g a b q hl=> ?_) hc
  ·have ht:=all_eq_true.1 z8i cc.toNat (mem_range.2 cc.toNat_lt);rw[zmy] at ht;simp only[and_eq_true,decide_eq_true_eq,Bool.not_eq_true'] at ht;obtain⟨_,h3⟩:=ht;cases hx:byT zat cc with
   |nil=>have:=(ztb cc).lo;rw[hx] at this;simp at this
   | cons x l=>
    rw[hx] at h3;simp only[List.head?_cons,Option.all_some,List.all_cons,List.all_nil,Bool.and_true,and_eq_true,bne_iff_ne,ne_eq] at h3;obtain⟨n0,n124,n41,n40,n91,n46,n42,n43,n63,n123,n94,n36⟩:=h3;exact⟨x,l,rfl,n0,n124,n41,n42,n43,n63,n123,n94⟩
  ·rw[es];exact hat_by cc g a b q hl
 ·by_cases h2:s= ~~~ bit 10
  ·have e:zjs s=[46]:=by unfold zjs;rw[if_neg h1,if_pos h2]
   rw[e,h2];exact z8d n _ _ c lo hi ⟨46,[],rfl,by decide⟩ (by decide) (fun g a b q hl=>hat_dot g a b q hl) hc
  ·by_cases h3:(elN s 256).length>128/\ s≠ ~~~ 0#256
   ·have e:zjs s=[91,94]++gts (zek (~~~ s))++[93]:=by unfold zjs;rw[if_neg h1,if_neg h2,if_pos h3]
    refine z8d n _ s c lo hi ⟨91,_,by rw[e];rfl,by decide⟩ (by omega) (fun g a b q hl=> ?_) hc;refine qoe (zjs s) s hs ⟨_,by rw[e];rfl⟩ (by omega) (fun rest hr=> ?_) g a b q hl;have hb:=qkp (~~~ s) (qlk h3.2) (by simpa using hs) rest (by rw[e] at hr;simp only[length_append,length_cons] at hr;omega);rw[BitVec.not_not] at hb;rw[e,hb];simp;omega
   ·have e:zjs s=[91]++gts (zek s)++[93]:=by unfold zjs;rw[if_neg h1,if_neg h2,if_neg h3]
    refine z8d n _ s c lo hi ⟨91,_,by rw[e];rfl,by decide⟩ (by omega) (fun g a b q hl=> ?_) hc;refine qoe (zjs s) s hs ⟨_,by rw[e];rfl⟩ (by omega) (fun rest hr=> ?_) g a b q hl;have hb:=set_br2 s hs rest (by rw[e] at hr;simp only[length_append,length_cons] at hr;omega);rw[e,hb];simp;omega
def pcW (x:Tr):List UInt8×Tr:=(wP (x.k==4) (tP x),x)
theorem qoi: ∀l:List Tr,tPc l=zbi (l.map pcW)
 |[]=>by simp[tPc,zbi]
 |x::l=>by rw[map_cons,zgn,tPc,qoi l];rfl
theorem pcTr_w (l:List Tr):zmj (l.map pcW)=l:=by simp[zmj,pcW,Function.comp_def]
theorem tP_of (t:Tr):tP t=if t.k=2 then zjs t.s else if t.k=6 then[40]++tP1 t.l++[41] else if t.k=5 then tPr t.l++z5f t.mn t.mx else if t.k=3 then tPc t.l else if t.k=4 then tPa true t.l else[]:=by
 obtain⟨k,s,mn,mx,l⟩:=t;rw[tP];rfl
theorem z9i: ∀(l:List Tr) (f:Tr->Pcs),(∀x∈l,zbi (f x)=tP x)->tPa true l=zz (l.map f)
 |[],_,_=>rfl
 |[x],f,h=>by simp[tPa,zz,h x (by simp)]
 | x::y::l,f,h=>by
  have ih:=z9i (y::l) f fun z hz=>h z (by simp[mem_cons.1 hz]);have h1:tPa true (y::l)=tP y++tPa false l:=by simp[tPa]
  have h2:tPa true (x::y::l)=tP x++124::(tP y++tPa false l):=by simp[tPa]
  rw[map_cons,map_cons,zii,h x (by simp), <-map_cons, <-ih,h1,h2]
structure Pr (m:Nat)(t:Tr):Prop where
 alts: ∃A,zz A=tP t/\ zgv A=zxo t/\ qpi m A
 pcs:t.k≠4-> ∃L:Pcs,zbi L=tP t/\ zmj L=zva t/\ L.length<1000/\ ∀p∈L,AtP m p.1 p.2
 one:t.k=2 \/t.k=6-> ∀c lo hi,qdb c lo hi->AtP m (tP t++c) (zet t lo hi)
 atom:t.k=2 \/t.k=5 \/t.k=6->AtP m (tP t) t
theorem z6i {m:Nat} {t:Tr} (hc:CT t)(h4:t.k≠4) {L:Pcs} (l1:zbi L=tP t)(l2:zmj L=zva t)(l3:L.length<1000)(l4: ∀p∈L,AtP m p.1 p.2): ∃A,zz A=tP t/\ zgv A=zxo t/\ qpi m A:=by
 refine⟨[L],l1,?_,by simp,?_,by simp⟩
 ·rw[zxo,if_neg h4]
  show[z0u (zmj L)]=[t]
  rw[l2,qeg hc]
 ·intro M hM;rw[List.mem_singleton] at hM;subst hM;exact⟨l3,l4⟩
theorem z5c {m:Nat} {t:Tr} (hc:CT t)(hk:t.k=2 \/t.k=5 \/t.k=6)(ha:AtP m (tP t) t)(h1:t.k=2 \/t.k=6-> ∀c lo hi,qdb c lo hi->AtP m (tP t++c) (zet t lo hi)):Pr m t:=by
 have l1:zbi [(tP t,t)]=tP t:=by simp[zbi]
 have l2:zmj [(tP t,t)]=zva t:=by rw[zva,if_neg (by omega),if_neg (by omega)];rfl
 have l4: ∀p∈[(tP t,t)],AtP m p.1 p.2:=fun p hp=>by rw[List.mem_singleton] at hp;subst hp;exact ha
 exact⟨z6i hc (by omega) l1 l2 (by simp) l4,fun _=>⟨_,l1,l2,by simp,l4⟩,h1,fun _=>ha⟩
theorem has_no {t:Tr} (h:zcn t=true):(t.k=3-> ∀x∈t.l,x.k≠1/\ x.k≠3)/\ (t.k=4-> ∀x∈t.l,x.k≠4)/\ (t.k=5-> ∀x∈t.l,x.k≠1):=by
 obtain⟨k,s,mn,mx,l⟩:=t;simp only[Tr.k,Tr.l];rw[zdc] at h;refine⟨fun hk=> ?_,fun hk=> ?_,fun hk=> ?_⟩<;>subst hk<;>simp[zvz,Tr.l] at h
 ·exact fun x hx=>⟨h.2.1.2 x hx,h.2.2 x hx⟩
 ·exact fun x hx=>h.2.2 x hx
 ·exact fun x hx=>h.2.2 x hx
theorem zqh: ∀(n:Nat) (t:Tr),(pre t).length<=n->(pre t).length<1000->CT t-> ∀m,n<=m->Pr m t
 | 0,t,h,_,_,_,_=>by
  have:0<(pre t).length:=by rw[zgh];simp
  omega
 |n+1,t,h,hm,hc,0,hnm=>by omega
 | n +1,t,h,hm,hc,m+1,hnm=>by
  have hr:=hc.right;have hpl:(pre t).length=1+(zck t.l).length:=by rw[zgh];simp;omega
  have hll:=z6u t.l;have hk:=znz hr;have te:=tP_of t;have hno:=has_no hr;have sub: ∀x∈t.l,CT x/\ Pr (m+1) x/\ (∀c lo hi,qdb c lo hi->AtP (m+1) ([40,63,58]++tP x++[41]++c) (zet x lo hi))/\ (∀c lo hi,qdb c lo hi->AtP (m+1) ([40]++tP x++[41]++c) (zet (zfx x) lo hi)):=by
   intro x hx;have hcx:=hc.sub hx;have hlx:=zgj hx;have hp:=zqh n x (by omega) (by omega) hcx m (by omega);obtain⟨A,a1,a2,a3⟩:=hp.alts;have ex:orT (zgv A)=x:=by rw[a2];exact qgq hcx
   refine⟨hcx,zqh n x (by omega) (by omega) hcx (m+1) (by omega),fun c lo hi hcn=> ?_,fun c lo hi hcn=> ?_⟩
   ·have:=at_nc m A c lo hi a3 hcn;rwa[a1,ex] at this
   ·have:=at_gr m A c lo hi a3 (fun y u hy=>(qiu a3 hy).1) hcn;rwa[a1,ex] at this
  rcases hk with hk|hk|hk|hk|hk|hk
  ·have l1:zbi []=tP t:=by rw[te];simp[hk,zbi]
   have l2:zmj []=zva t:=by rw[zva,if_pos hk];rfl
   exact⟨z6i hc (by omega) l1 l2 (by simp) (by simp),fun _=>⟨[],l1,l2,by simp,by simp⟩,fun h=>by omega,fun h=>by omega⟩
  ·obtain⟨e1,e2⟩:=ztu hr hk;have e:tP t=zjs t.s:=by rw[te,if_pos hk]
   have ho: ∀c lo hi,qdb c lo hi->AtP (m+1) (tP t++c) (zet t lo hi):=fun c lo hi hcn=>by
    have:=at_set (m+1) t.s e2 c lo hi hcn;rwa[<-e, <-e1] at this
   have ha:=ho [] 1 1 z5u;rw[ztw hc,append_nil] at ha;exact z5c hc (.inl hk) ha (fun _=>ho)
  ·have l1:zbi (t.l.map pcW)=tP t:=by rw[<-qoi,te,if_neg (by omega),if_neg (by omega),if_neg (by omega),if_pos hk]
   have l2:zmj (t.l.map pcW)=zva t:=by rw[pcTr_w,zva,if_neg (by omega),if_pos hk]
   have l4: ∀p∈t.l.map pcW,AtP (m+1) p.1 p.2:=by
    intro p hp;obtain⟨x,hx,rfl⟩:=mem_map.1 hp;obtain⟨hcx,hpx,hn,_⟩:=sub x hx;have hkx:=znz hcx.right;have:=hno.1 hk x hx;by_cases h4:x.k=4
    ·have h1:=hn [] 1 1 z5u;rw[ztw hcx,append_nil] at h1;simpa[pcW,wP,h4] using h1
    ·have h1:=hpx.atom (by omega);have e4:(x.k==4)=false:=beq_eq_false_iff_ne.2 h4;simpa[pcW,wP,e4] using h1
   have l3:(t.l.map pcW).length<1000:=by rw[List.length_map];omega
   exact⟨z6i hc (by omega) l1 l2 l3 l4,fun _=>⟨_,l1,l2,l3,l4⟩,fun h=>by omega,fun h=>by omega⟩
  ·obtain⟨q1,q2⟩:=zpk hr hk;have hL: ∀x,∃L:Pcs,x∈t.l->zbi L=tP x/\ zmj L=zva x/\ L.length<1000/\ ∀p∈L,AtP (m+1) p.1 p.2:=fun x=>by
    by_cases hx:x∈t.l
    ·obtain⟨L,h1⟩:=(sub x hx).2.1.pcs (hno.2.1 hk x hx);exact⟨L,fun _=>h1⟩
    ·exact⟨[],fun h=>absurd h hx⟩
   obtain⟨f,hf⟩:=Classical.axiomOfChoice hL;refine⟨⟨t.l.map f,?_,?_,?_,?_,?_⟩,fun h=>absurd hk h,fun h=>by omega,fun h=>by omega⟩
   ·rw[te,if_neg (by omega),if_neg (by omega),if_neg (by omega),if_neg (by omega),if_pos hk,z9i t.l f fun x hx=>(hf x hx).1]
   ·rw[zxo,if_pos hk,zgv,List.map_map];refine(List.map_congr_left fun x hx=> ?_).trans (List.map_id t.l);show z0u (zmj (f x))=x;rw[(hf x hx).2.1,qeg (sub x hx).1]
   ·intro e;rw[List.map_eq_nil_iff] at e;rw[e] at q1;simp at q1
   ·intro L hL;obtain⟨x,hx,rfl⟩:=mem_map.1 hL;exact(hf x hx).2.2
   ·rw[List.length_map];omega
  ·obtain⟨x,hx⟩:=zoq hr (.inl hk);have hx':x∈t.l:=by rw[hx];simp
   have et:t= .mk 5 0#256 t.mn t.mx [x]:=qcb hr hk hx;have hb:zew t.mn t.mx=true:=zxv hr hk;obtain⟨hcx,hpx,hn,_⟩:=sub x hx';have hkx:=znz hcx.right;have h1x:=hno.2.2 hk x hx';have e:tP t=wP (x.k==3||x.k==4||x.k==5) (tP x)++z5f t.mn t.mx:=by
    rw[te,if_neg (by omega),if_neg (by omega),if_pos hk,hx,tPr]
   have et2:zet x t.mn t.mx=t:=by
    rw[qny (by rw[<-et];exact hc)];exact et.symm
   refine z5c hc (.inr (.inl hk)) ?_ (fun h=>by omega);rw[e];by_cases hp:x.k=3 \/x.k=4 \/x.k=5
   ·have ew:(x.k==3||x.k==4||x.k==5)=true:=by simp;omega
    have:=hn (z5f t.mn t.mx) t.mn t.mx (z4c hb);rw[et2] at this;rw[ew];exact this
   ·have ew:(x.k==3||x.k==4||x.k==5)=false:=by simp;omega
    have:=hpx.one (by omega) (z5f t.mn t.mx) t.mn t.mx (z4c hb);rw[et2] at this;rw[ew];exact this
  ·obtain⟨x,hx⟩:=zoq hr (.inr hk);have hx':x∈t.l:=by rw[hx];simp
   have et:t= .mk 6 0#256 0 0 [x]:=by
    have:=zgo hr (by omega) (by omega);rwa[hk,hx] at this
   obtain⟨hcx,hpx,_,hn⟩:=sub x hx';have e:tP t=[40]++tP x++[41]:=by rw[te,if_neg (by omega),if_pos hk,hx,tP1]
   have ec:zfx x=t:=by rw[cap_one (by rw[<-et];exact hc)];exact et.symm
   have ho: ∀c lo hi,qdb c lo hi->AtP (m+1) (tP t++c) (zet t lo hi):=fun c lo hi hcn=>by
    have:=hn c lo hi hcn;rwa[ec, <-e] at this
   have ha:=ho [] 1 1 z5u;rw[ztw hc,append_nil] at ha;exact z5c hc (.inr (.inr hk)) ha (fun _=>ho)
theorem qad (b e:Bool)(t:Tr)(h:(pre t).length<2^60):znn (Rg.mk b e t)=some (zrp t):=by
 unfold znn zrp;refine zt (by simp only;omega) (zv fun x hx=> ?_);simp only at hx;cases hc:zdj t with
 | false=>
  rw[hc] at hx;subst hx;rfl
 | true=>
  rw[hc] at hx;subst hx;have hli:zcw t=true:=by rw[zdj,and_eq_true] at hc;exact hc.1
  have hpl:=zje hc;simp only[Bool.not_true,cond_false];refine zt (by omega) (zv fun x hx=> ?_);subst hx;cases h1:decide (zrw t>120) with
  |true=>rfl
  | false=>
   simp only[cond_false];refine zaf (zht t) ?_ ?_
   ·unfold zhy;refine zt (by omega) (zv fun x hx=> ?_);rw[hli] at hx;subst hx;simp only[Bool.not_true,cond_false];refine zt (by omega) (zv fun x hx=> ?_);rw[zht,if_pos hli,hx]
   ·cases h2:decide (zht t>400) with
    |true=>rfl
    | false=>
     simp only[cond_false];refine zt (by omega) (zv fun x hx=> ?_);subst hx;cases decide (zmg t>9)<;>rfl
def qng (b e:Bool)(t:Tr)(n:Int):Rg×Int×Int:=if zrp t=0 then(Rg.mk b e t,n,0) else(Rg.mk false false zax,n,zrp t)
theorem read_eq (n:Nat)(A:Alts)(b e:Bool)(hA:qpi n A)(hn:n<2^38)(hhd: ∀y t,zz A=y::t->y≠94)(hla:TailOk (zz A))(hlen:((if b=true then[94] else[])++zz A++(if e=true then[36] else[]):List UInt8).length<=1000):
 qiv 1100 (n+1) ((if b=true then[94] else[])++zz A++(if e=true then[36] else[]))=some (qng b e (orT (zgv A)) ((((if b=true then[94] else[])++zz A++(if e=true then[36] else[]):List UInt8).length:Nat):Int)):=by
 obtain⟨s,hs⟩: ∃s,s=((if b=true then[94] else[])++zz A++(if e=true then[36] else[]):List UInt8):=⟨_,rfl⟩;rw[<-hs] at hlen⊢;have hsl:s.length<=(zz A).length+2:=by
  rw[hs];cases b<;>cases e<;>simp
 have hsl2:(zz A).length<=s.length:=by
  rw[hs];cases b<;>cases e<;>simp<;>omega
 obtain⟨w,hw⟩: ∃w,w=(zz A++(if e=true then[36] else[]):List UInt8):=⟨_,rfl⟩;have hsw:s=(if b=true then[94] else[])++w:=by rw[hs,hw];simp
 have hwl:w.length<=s.length:=by rw[hsw];simp
 have hpre:Lib.hasPrefix s ([94]:List UInt8)=b:=by
  rw[hsw];cases b with
  |true=>rfl
  | false=>
   rw[hw];show Lib.hasPrefix (zz A++_) [94]=false;cases hA':zz A with
   |nil=>cases e<;>rfl
   | cons y t=>
    have:=hhd y t hA';unfold Lib.hasPrefix;simp[List.isPrefixOf];exact fun h=>this h.symm
 have htr:Lib.trimPrefix s ([94]:List UInt8)=w:=by
  unfold Lib.trimPrefix;rw[hpre,hsw];cases b<;>rfl
 have hend:zly w=some e:=by
  rw[hw];cases e with
  |true=>exact qiw _ hla (by omega)
  | false=>
   show zly (zz A++[])=_;rw[append_nil];exact qkd _ hla (by omega)
 obtain⟨q',g1,g2⟩:=qoj n A [] [] none (.inl rfl) hA (by simp only[nil_append,append_nil];omega) (by show 0+n<2^39;omega);rw[nil_append,append_nil] at g1;have hq0:zdh q'=[]:=g2;have hlt:=z9u (zgv A);unfold qiv z8w;rw[show decide ((length s:Int)>1000)=false from decide_eq_false (by omega),cond_false];refine zv fun x1 hx1=> ?_;rw[htr,hpre] at hx1;subst hx1;simp only;refine zt (by omega) ?_;refine zaf _ hend ?_;refine zbg (zz A) ?_ ?_
 ·cases e with
  |false=>rw[cond_false,hw];simp
  | true=>
   rw[cond_true];have hwl2:w.length=(zz A).length+1:=by rw[hw];simp
   refine zt (by omega) (zt (by omega) (zv fun x3 hx3=> ?_));have:x3=zz A:=by
    rw[<-hx3,sub,hw];have e1:(((zz A++[36]:List UInt8).length:Nat):Int)-1=(((zz A).length:Nat):Int):=by simp only[length_append,length_cons,List.length_nil];omega
    simp only[if_true];rw[e1];simp
   rw[this]
 refine zaf _ g1 ?_;simp only;refine zbg (Rd.mk (zz A) (((zz A).length:Nat):Int) 0 q') ?_ ?_
 ·rw[show((0:Int) !=0)=false from rfl,cond_false,show decide ((((zz A).length:Nat):Int)<(length (zz A):Int))=false by simp,cond_false,hq0];rfl
 ·simp only;rw[show((0:Int) !=0)=false from rfl,cond_false];refine zaf _ (qad b e _ (by omega)) ?_;unfold qng;by_cases h0:zrp (orT (zgv A))=0
  ·rw[if_pos h0,h0];rfl
  ·rw[if_neg h0,show(zrp (orT (zgv A)) !=0)=true by simpa using h0,cond_true]
theorem qea (b:Bool) {u:List UInt8} (h:TailOk u):TailOk (wP b u):=by
 cases b with
 |false=>exact h
 |true=>exact zfa ([40,63,58]++u) 41 (by decide) (by decide)
theorem qih (s:BS):TailOk (zjs s):=by
 unfold zjs;split
 ·exact tail_by _
 split
 ·exact zfa [] 46 (by decide) (by decide)
 split
 ·exact zfa _ 93 (by decide) (by decide)
 ·exact zfa _ 93 (by decide) (by decide)
mutual
theorem qga: ∀t:Tr,TailOk (tP t)
 | .mk k s mn mx l=>by
  have h:=z8k l;rw[tP];split
  ·exact qih s
  split
  ·exact zfa ([40]++tP1 l) 41 (by decide) (by decide)
  split
  ·exact h.1.app (qhc mn mx)
  split
  ·exact h.2.1
  split
  ·exact h.2.2 true
  ·exact zou
theorem z8k: ∀l:List Tr,TailOk (tPr l)/\ TailOk (tPc l)/\ ∀b,TailOk (tPa b l)
 |[]=>⟨by rw[tPr];exact zou,by rw[tPc];exact zou,fun b=>by rw[tPa];exact zou⟩
 | x::l=>by
  have hx:=qga x;have h:=z8k l;rw[tPr,tPc];refine⟨qea _ hx,(qea _ hx).app h.2.1,fun b=> ?_⟩;rw[tPa];refine TailOk.app (TailOk.app ?_ hx) (h.2.2 false);split
  ·exact zou
  ·exact zfa [] 124 (by decide) (by decide)
end
def rgP (b e:Bool)(t:Tr):List UInt8:=(if b=true then[94] else[])++tP t++(if e=true then[36] else[])
theorem qbl (b e:Bool)(t:Tr)(hc:CT t)(hp:(pre t).length<1000)(hlen:(rgP b e t).length<=1000):qiv 1100 1100 (rgP b e t)=some (qng b e t (((rgP b e t).length:Nat):Int)):=by
 obtain⟨A,a1,a2,a3⟩:=(zqh (pre t).length t (Nat.le_refl _) hp hc 1099 (by omega)).alts;have h:=read_eq 1099 A b e a3 (by omega) (fun y u hy=>(qiu a3 hy).2) (by rw[a1];exact qga t) (by rw[a1];exact hlen);rw[a1,a2,qgq hc] at h;exact h
def zsq (u:List UInt8):List UInt8:=u.flatMap (byT zat)
def zob (u:List UInt8):List Tr:=u.map fun c=>brT (bit c.toNat)
def z9f (u:List UInt8):Tr:=zha 3 (zob u) emptyT
theorem z0k (u:List UInt8):(zsq u).length<=4*u.length:=by
 induction u with
 |nil=>simp[zsq]
 | cons c u ih=>
  have:=(ztb c).hi;simp only[zsq,List.flatMap_cons,length_append,length_cons] at ih⊢;omega
theorem zyd (a b:List UInt8):zsq (a++b)=zsq a++zsq b:=by simp[zsq]
theorem qig {l:List UInt8} {i:Nat} (h:i<l.length):ix l (i:Int)=l[i]:=by
 simp[ix,h]
theorem u8of_u (c:UInt8):zkt ((c.toNat:Nat):Int)=c:=by simp[zkt]
theorem zqf (u:List UInt8)(h:u.length<1000):zin 1100 u=some (zsq u):=by
 unfold zin;refine zaf _ ?_ rfl;apply Ok.eq;unfold zsv;have hcl: ∀i,(zsq (u.take i)).length<=4*u.length:=fun i=>by
  have h1:=z0k (u.take i);have h2:(u.take i).length<=u.length:=by rw[length_take];omega
  omega
 refine zxr (fun s=>s.2=zsq u) (zqv (fun s=>0<=s.1/\ s.1<=(u.length:Int)/\ s.2.2=zsq (u.take s.1.toNat)) (fun s=>u.length-s.1.toNat) (fun s hs=> ?_) 1100 _ (by simp only;omega) ⟨by simp,by simp,by simp[zsq]⟩) (fun s hs=>zdm hs);obtain⟨i,b,w⟩:=s;obtain⟨g0,g1,g2⟩:=hs;simp only at g0 g1 g2⊢;refine zlm (fun hc=> ?_) (fun hc=> ?_)
 ·rw[decide_eq_true_eq] at hc;obtain⟨j,rfl⟩: ∃j:Nat,(j:Int)=i:=⟨i.toNat,by omega⟩;have hj:j<u.length:=by omega
  rw[Int.toNat_natCast] at g2;refine zdp ⟨by omega,by omega⟩ (zgk fun y hy=> ?_);rw[qig hj] at hy;subst hy;have hu:=(u[j]).toNat_lt;refine zdp ⟨by omega,by omega⟩ (zgk fun y hy=> ?_);rw[u8of_u] at hy;subst hy;have e1:zsq (u.take (j+1))=w++byT zat u[j]:=by
   rw[List.take_add_one,List.getElem?_eq_getElem hj,Option.toList_some,zyd, <-g2];simp[zsq]
  have e2:=hcl (j+1);rw[e1,length_append] at e2;refine zdp (by omega) (zdp (by omega) (zdm ⟨⟨by simp only;omega,by simp only;omega,?_⟩,by simp only;omega⟩));simp only;rw[show((j:Int)+1).toNat=j+1 by omega,e1]
 ·rw[decide_eq_false_iff_not] at hc;refine zdm ?_;show w=_;rw[g2,List.take_of_length_le (by omega)]
theorem zmp (u:List UInt8):(zob u).length=u.length:=by simp[zob]
theorem zsy (u:List UInt8):zck (zob u)=zob u:=by
 induction u with
 |nil=>rfl
 | cons c u ih=>
  show zck (brT (bit c.toNat)::zob u)=brT (bit c.toNat)::zob u;rw[zck,zjj,ih];rfl
theorem zuy (u:List UInt8): ∀x∈zob u,zcn x=true/\ x.k=2:=by
 intro x hx;obtain⟨c,_,rfl⟩:=mem_map.1 hx;exact⟨zvn (qpb _ c.toNat_lt),rfl⟩
theorem qot {s:BS} (h:s≠0#256):CT (brT s):=by
 refine⟨?_,by rw[zjj];simp⟩;unfold CR;rw[zjj];simp[zvn h]
theorem qox (s:BS):tP (brT s)=zjs s:=by rw[brT,tP,if_pos rfl]
theorem qdv (c:UInt8):zjs (bit c.toNat)=byT zat c:=by
 have hl:=c.toNat_lt;have he:elN (bit c.toNat) 256=[c.toNat]:=by
  unfold elN;have: ∀k∈List.range 256,(bit c.toNat).getLsbD k=decide (k=c.toNat):=fun k hk=>ztq c.toNat k (mem_range.1 hk);rw[List.filter_congr this];have h2:List.filter (fun k=>decide (k=c.toNat)) (List.range 256)=List.filter (fun k=>k==c.toNat) (List.range 256):=List.filter_congr fun k _=>by rw[Bool.eq_iff_iff,decide_eq_true_eq,beq_iff_eq]
  rw[h2,List.filter_beq,List.count_range];simp[hl]
 unfold zjs;rw[he];simp only[List.headD_cons,if_true];rw[zmy]
theorem qdq (u:List UInt8)(hu:u.length<=100):CT (z9f u)/\ tP (z9f u)=zsq u/\ (pre (z9f u)).length<=101/\ zrp (z9f u)=0:=by
 match u,hu with
 |[],_=>exact⟨⟨by show(pre emptyT).all zcn=true;decide+kernel,by decide⟩,by simp[z9f,zob,zha,emptyT,tP,zsq],by decide,by decide+kernel⟩
 | [c],_=>
  have hn:=qpb c.toNat c.toNat_lt;have e:z9f [c]=brT (bit c.toNat):=by
   show zdy (brT (bit c.toNat))=_;exact(qot hn).checked
  rw[e];refine⟨qot hn,?_,by rw[zjj];simp,?_⟩
  ·rw[qox,qdv];simp[zsq]
  ·have:=qim hn false false;have h2:=qad false false (brT (bit c.toNat)) (by rw[zjj];simp);rw[this] at h2;exact(Option.some.inj h2).symm
 | c ::d::u,hu=>
  obtain⟨v,hv⟩: ∃v,v=c::d::u:=⟨_,rfl⟩;rw[<-hv] at hu⊢;have hvl:1<v.length:=by rw[hv];simp
  have hR:CR (.mk 3 0#256 0 0 (zob v)):=by
   rw[ztf];refine⟨qic (by rw[zmp];exact hvl) fun x hx=> ?_,?_⟩
   ·have:=(zuy v x hx).2;omega
   ·unfold CRL
    show(zck (zob v)).all zcn=true
    rw[zsy,all_eq_true];exact fun x hx=>(zuy v x hx).1
  have hpl:(pre (.mk 3 0#256 0 0 (zob v))).length=v.length+1:=by
   simp[pre,zsy,zmp]
  have hC:CT (.mk 3 0#256 0 0 (zob v)):=⟨hR,by omega⟩;have e:z9f v= .mk 3 0#256 0 0 (zob v):=by
   unfold z9f zha;rw[show(((zob v).length:Int)==0)=false from beq_eq_false_iff_ne.2 (by rw[zmp];omega),cond_false,show(((zob v).length:Int)==1)=false from beq_eq_false_iff_ne.2 (by rw[zmp];omega),cond_false];exact hC.checked
  rw[e];refine⟨hC,?_,by omega,?_⟩
  ·rw[tP];simp only[Nat.reduceEqDiff,if_false,if_true];clear e hC hpl hR hvl hv hu;induction v with
   |nil=>rfl
   | cons c v ih=>
    show tPc (brT (bit c.toNat)::zob v)=_;rw[tPc,ih,show wP ((brT (bit c.toNat)).k==4) (tP (brT (bit c.toNat)))=tP (brT (bit c.toNat)) from rfl,qox,qdv];simp[zsq]
  ·have hposL: ∀v:List UInt8,zod (zob v)=(v.length:Int):=fun v=>by
    induction v with
    |nil=>rfl
    | cons c v ih=>
     show zod (brT (bit c.toNat)::zob v)=_;rw[zod,ih];have:zzu (brT (bit c.toNat))=1:=by rw[brT,zzu];rfl
     rw[this];simp only[length_cons];omega
   have hcl:=hC.clean;have hli:zcw (.mk 3 0#256 0 0 (zob v))=true:=by rw[zdj,and_eq_true] at hcl;exact hcl.1
   have hpos:zht (.mk 3 0#256 0 0 (zob v))<=400:=by
    rw[zht,if_pos hli,zzu,hposL];simp only[Nat.reduceEqDiff,if_false];omega
   have hsz:zrw (.mk 3 0#256 0 0 (zob v))<=120:=by rw[zrw,if_pos hli,hpl];omega
   have hgr:zmg (.mk 3 0#256 0 0 (zob v))=0:=by
    rw[zmg,if_pos hli];have:List.countP (fun x=>decide (x.k=6)) (pre (.mk 3 0#256 0 0 (zob v)))=0:=by
     rw[List.countP_eq_zero];intro x hx;rw[zgh] at hx;rcases mem_cons.1 hx with rfl|hx
     ·simp[Tr.k]
     ·rw[show(Tr.mk 3 0#256 0 0 (zob v)).l=zob v from rfl,zsy] at hx;have:=(zuy v x hx).2;simp[this]
    rw[this];rfl
   unfold zrp;rw[hcl,Bool.not_true,cond_false,decide_eq_false (by omega),cond_false,decide_eq_false (by omega),cond_false,decide_eq_false (by omega),cond_false]
theorem qgy (u:List UInt8)(h:u.length<=100):zpt 1100 u=some (z9f u):=by
 apply Ok.eq;unfold zpt;refine zxr (fun s=>s=zob u) (zqv (fun s=>0<=s.2/\ s.2<=(u.length:Int)/\ s.1=zob (u.take s.2.toNat)) (fun s=>u.length-s.2.toNat) (fun s hs=> ?_) 1100 _ (by simp only;omega) ⟨by simp,by simp,by simp[zob]⟩) (fun s hs=> ?_)
 ·obtain⟨w,i⟩:=s;obtain⟨g0,g1,g2⟩:=hs;simp only at g0 g1 g2⊢;refine zlm (fun hc=> ?_) (fun hc=> ?_)
  ·rw[decide_eq_true_eq] at hc;obtain⟨j,rfl⟩: ∃j:Nat,(j:Int)=i:=⟨i.toNat,by omega⟩;have hj:j<u.length:=by omega
   rw[Int.toNat_natCast] at g2;refine zdp ⟨by omega,by omega⟩ (zgk fun y hy=> ?_);rw[qig hj] at hy;subst hy;have hu:=(u[j]).toNat_lt;refine zpl (qfv (zxb (((u[j]).toNat:Nat):Int) (by omega) (by omega))) (fun y hy=> ?_);rw[Int.toNat_natCast,qja _ hu] at hy;subst hy;have hwl:w.length=j:=by rw[g2,zmp,length_take];omega
   refine zdp (by simp only[length_cons,List.length_nil];omega) (zdp (by omega) (zdm ⟨⟨by simp only;omega,by simp only;omega,?_⟩,by simp only;omega⟩));simp only;rw[show((j:Int)+1).toNat=j+1 by omega,List.take_add_one,List.getElem?_eq_getElem hj,Option.toList_some,g2];unfold zob;rw[List.map_append];rfl
  ·rw[decide_eq_false_iff_not] at hc;refine zdm ?_;show w=_;rw[g2,List.take_of_length_le (by omega)]
 ·subst hs;refine zpl (qfv (zvj 3 (zob u) (.mk 1 0#256 0 0 []) (by rw[zsy,zmp];omega))) (fun y hy=>zdm ?_);rw[hy];rfl
theorem qmk (t:Tr)(h:CT t)(hp:(pre t).length<1000):ztk t=some (tP t,0):=by
 unfold ztk;refine zt (by omega) (zv fun x hx=> ?_);rw[h.clean] at hx;subst hx;rw[Bool.not_true,cond_false];refine zt ⟨hp,h.1⟩ (zv fun x hx=> ?_);rw[hx]
theorem qlv (l:List UInt8)(n:Int)(h:0<=n):sub l 0 n=l.take n.toNat:=by
 simp[sub]
theorem rxpl_eq (a b:List UInt8)(ha:a.length<2^63)(hb:b.length<2^63):z9e 1100 a b=some true:=by
 unfold z9e;refine zt (by omega) (zv fun x1 h1=>zt (by omega) (zv fun x2 h2=> ?_));rw[qlv _ _ (by omega)] at h1 h2;have l1:x1.length<=50:=by rw[<-h1,length_take];omega
 have l2:x2.length<=50:=by rw[<-h2,length_take];omega
 clear h1 h2;have p1:=z0k x1;have p2:=z0k x2;have hl:(x1++x2).length<=100:=by rw[length_append];omega
 obtain⟨c1,c2,c3,c4⟩:=qdq (x1++x2) hl;refine zaf _ (zqf x1 (by omega)) (zaf _ (zqf x2 (by omega)) ?_);refine zt (by omega) ?_;rw[<-zyd, <-c2];have hlen:(tP (z9f (x1++x2))).length=(zsq x1).length+(zsq x2).length:=by rw[c2,zyd,length_append]
 have hr:=qbl false false (z9f (x1++x2)) c1 (by omega) (by unfold rgP;simp;omega);have er:rgP false false (z9f (x1++x2))=tP (z9f (x1++x2)):=by simp[rgP]
 rw[er] at hr;refine zaf _ hr ?_;unfold qng;rw[if_pos c4];simp only;refine zaf _ (qmk _ c1 (by omega)) ?_;simp only;refine zbg true ?_ rfl;refine zt (by omega) ?_;rw[show(((0:Int)+0)==0)=true from rfl,cond_true];refine zt (by omega) ?_;rw[show((((tP (z9f (x1++x2))).length:Nat):Int)==((zsq x1).length:Int)+((zsq x2).length:Int))=true from beq_iff_eq.2 (by omega),cond_true];refine zt (by omega) (zaf _ (zqf (x1++x2) (by omega)) (zt (by omega) ?_));rw[c2,show(zsq (x1++x2)==zsq (x1++x2))=true from beq_self_eq_true _,cond_true];refine zt (by omega) (zaf _ (qgy (x1++x2) hl) (zt ⟨by omega,by omega⟩ (zv fun y hy=> ?_)));rw[qff (by unfold zcw;rw[decide_eq_true_eq];omega)] at hy;subst hy;rw[cond_true,Bool.not_false,cond_true,cond_true];exact zt (by omega) rfl
section
variable {IT:IterP} {P:Program} {W:Owed} {k0:Nat}
theorem w_opR {ops:Array Oper} {Q:List AV->St->Prop} {o:Oper} {l:List Oper} {S S':List AV} {U U':St} {a:AV} (hg:o.guard=none)(hc:zct S o=none)(hy:zcv S o=none)(h:qpe P (zbw S) U o a U')(hS:zad S o.dst a=S')(k:zcb IT P W ops Q l S' U'):zcb IT P W ops Q (o::l) S U:=by
 simp only[zcb,hg,zfq,hc,hy];exact .inl ⟨a,U',h,by rw[hS];exact k⟩
end
end Go.Ab
namespace Go.Ab
open Go Go.RowKit Go.Fwd Go.Proofs Go.ChangeShapes Go.WideShapes Go.Deep
def qix (W:World):Cx:=⟨fun b o=> ∃v,W.cell? ⟨b,o,none⟩=some v,[],[],[],W,fun _=>False,fun _ _=>False⟩
theorem inv_top (P:Program)(W:World)(hg:gvBase P W):Inv (ITP P) St.empty (qix W) where
 lens:=rfl
 elems:=rfl
 κlen:=rfl
 κnd:=fun s s' b h=>by simp[qix] at h
 box:=fun s b t cs h=>by simp[qix] at h
 κF:=fun s b t cs h=>by simp[qix] at h
 βlen:=rfl
 βnd:=by simp[qix]
 βκ:=fun r h=>by simp[qix] at h
 row:=fun s r L h=>by simp[qix] at h
 Ok:=fun b h=>h.elim
 Fcell:=fun b o h=>h
 gv:=⟨W,hg,Szs.refl _,fun b o v _ hv=>⟨⟨v,hv⟩,hv⟩⟩
theorem qjx {P:Program} {f:FuncId} {args:List AV} {u:Value} (h:Pure (ITP P) P f args (.raw u))(W:World)(hg:gvBase P W) {vs:List Value} (hr:zbf (ITP P) (qix W) args vs):
 Calls P f vs.toArray W fun e W'=>e= .returned u/\ Below W.heap.size W W':=by
 refine(h.2 (qix W) vs (inv_top P W hg) hr).mono ?_;rintro e w' ⟨v,Y,rfl,rfl,hE,hIY,hv⟩;rw[Rep] at hv;subst hv;exact⟨rfl,hE.os,hE.tape,hE.output,hE.size,fun b hb=>hE.frame b hb (by simp[qix]) (by simp[qix])⟩
theorem und9:prog.underlying 9=some .string:=by kernel_rfl
end Go.Ab
namespace Go.Ab
open Go Go.RowKit Go.Fwd Go.Proofs Go.Proofs.YtjkcellkmmfkdaaGreatDoor Go.ChangeShapes Go.WideShapes Go.ChangeAt
theorem gv_of {W:World} (hL:laidMet prog Rows.rxprintSetsRow.laid W)(hS:W.ShapedOpen prog):gvBase prog W where
 err:=fun n g h e=>by
  have h1:prog.globalNamed "strconv.ErrSyntax" =none:=by kernel_rfl
  have h2:prog.globalNamed "strconv.ErrRange" =none:=by kernel_rfl
  rcases h with rfl|rfl
  ·rw[h1] at e;cases e
  ·rw[h2] at e;cases e
 pow:=fun g e=>by
  have h:=laidMet.tail (laidMet.tail hL);exact Lib.tabIs_of_head (rest:=_) (g:=1) (by kernel_rfl) (by kernel_rfl:(prog.globals[1]?).map (·.type)=some 244) (by kernel_rfl:prog.underlying 244=some (.array 20 22)) (by kernel_rfl) (by kernel_rfl) (by kernel_rfl) h
 max:=fun g e=>by
  have h1:prog.globalNamed "internal/bytealg.MaxLen" =some 0:=by kernel_rfl
  rw[h1] at e;cases e;exact Go.Proofs.cell_of_shapedOpen_int (zero:= #[.int .i64 0]) (t:=3) hS (of_decide_eq_true (by kernel_rfl)) (by kernel_rfl) rfl (by kernel_rfl) (by kernel_rfl) (by kernel_rfl)
noncomputable def z3c:DataW Unit->List Value
 | .agg l=>l.flatMap fun d=>match d with
  | .lit (.int k n)=>[Value.int k n]
  | .agg l=>l.map fun d=>match d with| .lit (.int k n)=>Value.int k n|_=>undef
  |_=>[undef]
 |_=>[]
noncomputable def gN (n:String):Nat:=(prog.globalNamed n).getD 0
noncomputable def zte (os:Os):World:=
 let w0:=World.holding prog os ⟨#[], #[],[]⟩
 let put (h:Array Obj) (g:Nat) (cs:Array Value):Array Obj:=h.modify g fun
  | .cells _ t frozen=> .cells cs t frozen
  |o=>o
 let h1:=put w0.heap (gN "math/bits.deBruijn32tab") (z3c Rows.laid_math_bits_deBruijn32tab).toArray
 let h2:=put h1 (gN "math/bits.deBruijn64tab") (z3c Rows.laid_math_bits_deBruijn64tab).toArray
 let h3:=put h2 (gN "internal/strconv.uint64pow10") (z3c Rows.laid_internal_strconv_uint64pow10).toArray
 let h4:=put h3 (gN "unicode/utf8.acceptRanges") (z3c Rows.laid_unicode_utf8_acceptRanges).toArray
 let h5:=put h4 (gN "unicode/utf8.first") (z3c Rows.laid_unicode_utf8_first).toArray
 {w0 with heap:=h5}
theorem qmp (os:Os)(args:Array Value):laidMet prog Rows.rxprintSetsRow.laid ((zte os).forCall (fun _ _=>0) ⟨#[],args,[]⟩).memory:=
 laidMet_of_run (ps:=MemPlace.row ⟨gN "math/bits.deBruijn32tab",0,none⟩ 32++MemPlace.row ⟨gN "math/bits.deBruijn64tab",0,none⟩ 64++MemPlace.row ⟨gN "internal/strconv.uint64pow10",0,none⟩ 20++MemPlace.row ⟨gN "unicode/utf8.acceptRanges",0,none⟩ 32++MemPlace.row ⟨gN "unicode/utf8.first",0,none⟩ 256) 8 (by kernel_rfl) (by kernel_rfl) (by kernel_rfl)
end Go.Ab
namespace Go.Proofs.YtjkcellkmmfkdaaGreatDoor
open Go Go.Ab Go.ChangeShapes Go.WideShapes Go.ChangeAt Go.RowKit Go.Fwd
theorem zpr {H:Type} {enc:TypeId×Value->H} {P:Program} (hl:laidOutB P=true) {W W':World} (hb:Below W.heap.size W W'): ∀ {ts:List TypeId} {vs:List Value} {ds:List (DataW H)} {ps:List MemPlace},
 (ts.all fun t=>P.readableRec t&&decide (t<P.types.size))=true->DataW.TrodAll enc P W 0 (fun _=>true) true ts vs ds ps->(∀x∈ps,x.block<W.heap.size)->DataW.TrodAll enc P W' 0 (fun b=>decide (b<W.heap.size)) true ts vs ds ps
 | [],vs,ds,ps,_,h,_=>by
  cases vs with
  | nil=>
   cases ds with
   |nil=>exact h
   |cons=>exact h.elim
  |cons=>exact h.elim
 | t::ts,vs,ds,ps,ht,h,hlt=>by
  obtain⟨v,vs',d,ds',p,q,rfl,rfl,rfl,hd,hr⟩:=trodAll_cons h;simp only[List.all_cons,and_eq_true,decide_eq_true_eq] at ht;exact⟨p,q,Below.trod hl ht.1.1 ht.1.2 hd hb fun x hx=>hlt x (by simp[hx]),zpr hl hb ht.2 hr fun x hx=>hlt x (by simp[hx]),rfl⟩
theorem own':ownKnob prog.godebug=none:=by kernel_rfl
theorem qmv:laidOutB prog=true:=by kernel_rfl
theorem qia {s:ByteArray} {l:List UInt8} (hx:l=s.data.toList)(h:s.size<=maxLen):l.length<2^63:=by
 have:l.length=s.size:=by rw[hx];rfl
 have h2:maxLen<2^63:=by decide
 omega
theorem qfa {IT:IterP} {X:Cx} {s:ByteArray} {l:List UInt8} (hx:l=s.data.toList):Rep IT X (.raw (.string (bs l))) (.string s):=by
 subst hx;rfl
end Go.Proofs.YtjkcellkmmfkdaaGreatDoor
namespace Go.Proofs.YtjkcellkmmfkdaaGreatDoor
open Go Go.Ab Go.ChangeShapes Go.WideShapes Go.ChangeAt Go.RowKit Go.Fwd
theorem t0x {H:Type} {enc:TypeId×Value->H} {P:Program} {w:World} {base:Nat} {spare:Nat->Bool} {held:Bool} {t0 t1:TypeId} {args:Array Value} {ds:List (DataW H)} {ps:List MemPlace} (h:DataW.TrodAll enc P w base spare held [t0,t1] args.toList ds ps):
 ∃v0 v1 d0 d1 p0 p1,args= #[v0,v1]/\ ds=[d0,d1]/\ ps=p0++p1/\ DataW.Trod enc P w base spare held t0 v0 d0 p0/\ DataW.Trod enc P w base spare held t1 v1 d1 p1:=by
 obtain⟨v0,a0,d0,s0,p0,q0,hargs,rfl,rfl,g0,h⟩:=trodAll_cons h;obtain⟨v1,a1,d1,s1,p1,q1,rfl,rfl,rfl,g1,h⟩:=trodAll_cons h;obtain⟨rfl,rfl,rfl⟩:=trodAll_nil h;exact⟨v0,v1,d0,d1,p0,p1,by cases args;simp_all,rfl,by simp,g0,g1⟩
theorem w0x (os:Os) {H:Type} (enc:TypeId×Value->H):
 (OpenSpec.ofChange Rows.rxprintLiteralsSpec).preRow enc prog Tryz.f10 Rows.rxprintLiteralsRow.domain false Rows.rxprintLiteralsRow.laid ((zte os).forCall (fun _ _=>0) ⟨#[], #[.string ⟨#[]⟩,.string ⟨#[]⟩],[]⟩).memory #[.string ⟨#[]⟩,.string ⟨#[]⟩]:=
 OpenSpec.preRow_of_B rfl 8 (by kernel_rfl) (by kernel_rfl) (qmp os _)
theorem l0x (os:Os)(started:os.Started)(H:Type)(enc:TypeId×Value->H)(F:Stop.Interp):
 ReturnsInHanded {} Tryz.checked os 10 .any ((OpenSpec.ofChange Rows.rxprintLiteralsSpec).preRow enc prog Tryz.f10 Rows.rxprintLiteralsRow.domain false Rows.rxprintLiteralsRow.laid) (((OpenSpec.ofChange Rows.rxprintLiteralsSpec).at F).post enc prog Tryz.f10 false true false false):=by
 refine returnsInHanded_of_row (C:=Tryz.checked) (s:=OpenSpec.ofChange Rows.rxprintLiteralsSpec) own' started (by kernel_rfl) Tryz.func10
  (witness_row_atRef (enc:=enc) (C:=Tryz.checked) false (zte os) #[.string ⟨#[]⟩,.string ⟨#[]⟩] rfl (by kernel_rfl) (by kernel_rfl) (by kernel_rfl) (w0x os enc)) ?_
 intro W base args ds gs before hval0 hW hcnd0 _ hsz0 hL hS _;have hval: ∀(j:Nat) t v,Tryz.f10.params[j]? =some t->args[j]? =some v->Value.okWide prog W .any base t v:=hval0;have hW':=hW;obtain⟨p,q,hA0,hV,rfl,_,_⟩:=hW;have hA:DataW.TrodAll enc prog W 0 (fun _=>true) true Tryz.f10.params.toList args.toList ds p:=hA0;rw[show Tryz.f10.params.toList=[9,9] from by kernel_rfl] at hA;have hA1:=hA;obtain⟨v0,v1,d0,d1,p0,p1,rfl,rfl,rfl,h0,h1⟩:=t0x hA;obtain⟨rfl,rfl⟩:=trodVars_none hV;obtain⟨s0,rfl,rfl,rfl,w0⟩:=Go.ChangeMaps.open_string und9 (hval 0 9 v0 (by kernel_rfl) rfl) h0;obtain⟨x0,hx0⟩: ∃l:List UInt8,l=s0.data.toList:=⟨_,rfl⟩;have r0:x0.length<2^63:=qia hx0 w0;obtain⟨s1,rfl,rfl,rfl,w1⟩:=Go.ChangeMaps.open_string und9 (hval 1 9 v1 (by kernel_rfl) rfl) h1;obtain⟨x1,hx1⟩: ∃l:List UInt8,l=s1.data.toList:=⟨_,rfl⟩;have r1:x1.length<2^63:=qia hx1 w1;clear hA0 hval0;simp only[append_nil,nil_append] at hW' hA1;have hlt:=hW'.lt;refine(qjx (rxpl_sh 1100 x0 x1 true (rxpl_eq x0 x1 r0 r1)) W (gv_of hL hS) (vs:=[.string s0,.string s1]) ⟨_,_,rfl,qfa hx0,_,_,rfl,qfa hx1,rfl⟩).mono fun e W' ⟨he,hw⟩=> ?_;subst he;refine⟨_,rfl,?_⟩;refine⟨_,_,_,[]++[],[],[],hW',?_,?_,rfl,hw.frame _,fun h=>by cases h⟩
 ·exact trodAll_mk1 (shut_bool (show prog.underlying 4=some .bool from by kernel_rfl) true)
 ·exact zpr qmv hw (by kernel_rfl) hA1 hlt
theorem h0x:Rows.RxprintLiteralsSaid:=
 OpenClaim.holds_of_cond 10 Tryz.f10 rfl rfl rfl rfl rfl rfl rfl ⟨rfl,rfl,rfl,rfl,rfl⟩ rfl rfl rfl rfl rfl (by kernel_rfl) Tryz.func10 (by kernel_rfl)
  (of_decide_eq_true (by kernel_rfl)) (by unfold Func.isWrapper;rw[if_neg (of_decide_eq_false (by kernel_rfl))];exact⟨rfl,rfl⟩)
  (fun os started H enc _ F0=>by rw[OpenClaim.pre_eq_preRow];exact l0x os started H enc F0)
theorem rxprintLiterals_card:Rows.RxprintLiteralsCardSaid:=
 Claim7.holds_tied_plain_at .later [] [.data,.data,.data,.data,.pinned] true (true, "0004189f6fb819856d946ff194c78be89592a7085de29f12f1e1e6be06ed5ea5") false
  h0x (fun _ h=>by cases h) (by kernel_rfl) (fun _ h=>by cases h) rxprintLiterals_row_tie rfl ⟨rfl,rfl⟩ (by kernel_rfl) rfl
  (fun f fn hf hfn=>by
   obtain rfl:f=10:=Option.some.inj ((show prog.funcNamed "repartee/reparteelaw10.RxprintLiterals" =some 10 by kernel_rfl).symm.trans hf)|>.symm;obtain rfl:fn=Tryz.f10:=(Option.some.inj (Tryz.func10.symm.trans hfn)).symm;exact⟨by kernel_rfl,fun j t ht=>by
    have hm:t∈[9,9]:=by
     have h:=Array.mem_of_getElem? ht;rw[<-Array.mem_toList_iff,show Tryz.f10.params.toList=[9,9] from by kernel_rfl] at h;exact h
    have hall:([9,9].all fun u=> !prog.wantsStandIn u)=true:=by kernel_rfl
    exact(show prog.wantsStandIn t=false by simpa using all_eq_true.1 hall t hm)⟩)
  (by kernel_rfl)
end Go.Proofs.YtjkcellkmmfkdaaGreatDoor
