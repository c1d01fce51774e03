import Derived.Test.YtjkcellkmmfkdaaGreatDoorZhPd
import Derived.Shelf.Strings.OnBuilder
import Derived.Shelf.Strconv.Itoa3
import Derived.Test.YtjkcellkmmfkdaaGreatDoorProg
set_option linter.all false
set_option maxRecDepth 100000
open Sum (inl inr)
open Nat (le_refl)
open List (length length_cons length_append length_nil mem_append all_eq_true mem_range append_nil mem_singleton length_map append_assoc)
open Go.Proofs.Tryz (prog)
namespace Go.Ab
open Go Go.RowKit Go.Fwd Go.Proofs
theorem z9d (n:Nat)(A:Alts)(a h b:List UInt8)(q:Stk)(hA:qpi n A)(hh:h.length<=3)(hlen:(a++h++zz A++41::b).length<2^39)(hq:(zdh q).length+(n+1)<2^39):
 ∃q',zjh (qjf 1100 (n+1)) (h.length:Int) (Rd.mk (a++h++zz A++41::b) ((a.length:Nat):Int) 0 q)=some (orT (zgv A),Rd.mk (a++h++zz A++41::b) (((a++h++zz A++[41]).length:Nat):Int) 0 q')/\ zdh q'=zdh q:=by
 have hp:zdh (zhx q ((a.length:Nat):Int))=zdh q++[((a.length:Nat):Int)]:=rfl;obtain⟨q1,g1,g2⟩:=qoj n A (a++h) (41::b) (zhx q ((a.length:Nat):Int)) (.inr ⟨_,rfl⟩) hA hlen (by rw[hp];simp only[length_append,length_cons,length_nil];omega);refine⟨zxk q1,?_,by rw[qkx,g2,hp];simp⟩;have hl1:((a.length:Nat):Int)+(h.length:Int)=(((a++h).length:Nat):Int):=by simp only[length_append];omega
 have hl2:((((a++h++zz A).length:Nat):Int)+1)=(((a++h++zz A++[41]).length:Nat):Int):=by simp only[length_append,length_cons,length_nil];omega
 have hl3:(a++h++zz A).length<2^39:=by simp only[length_append,length_cons] at hlen⊢;omega
 have hl4:a.length<2^39:=by simp only[length_append] at hl3;omega
 have hs:(zdh q1).length=(zdh q).length+1:=by rw[g2,hp];simp
 unfold zjh;refine zt (by simp only;omega) (zt (by simp only;omega) ?_);refine zaf _ (by simp only;rw[hl1];exact g1) ?_;refine zbg (Rd.mk (a++h++zz A++41::b) (((a++h++zz A++[41]).length:Nat):Int) 0 (zxk q1)) ?_ rfl;refine zaf _ (z8a (a++h++zz A) 41 b q1) ?_;simp only;rw[show((((41:UInt8).toNat:Nat):Int)==41)=true from rfl,cond_true];refine zt (by omega) (zt (by omega) (zt (by intro e;rw[e] at hs;simp at hs) ?_));rw[hl2]
theorem qob (c:UInt8)(h:c≠42/\ c≠43/\ c≠63/\ c≠123): ¬Lib.indexByte ([42,43,63,123]:List UInt8) c>=0:=by
 obtain⟨h1,h2,h3,h4⟩:=h;simp[Lib.indexByte,List.findIdx?_cons,Ne.symm h1,Ne.symm h2,Ne.symm h3,Ne.symm h4]
theorem hd0_u8 (b:List UInt8):0<=hd0 b/\ hd0 b<256:=by
 cases b with
 |nil=>exact⟨by decide,by decide⟩
 | cons c t=>
  have:c.toNat<256:=c.toNat_lt;simp only[hd0];omega
theorem hd0_no {b:List UInt8} (h:z6h b): ¬Lib.indexByte ([42,43,63,123]:List UInt8) (zkt (hd0 b))>=0:=by
 cases b with
 |nil=>exact qob _ (by decide)
 | cons c t=>
  have e:zkt (hd0 (c::t))=c:=by simp[hd0,zkt]
  rw[e];exact qob c (h c t rfl)
theorem qnq {b:List UInt8} (h:z6h b):zij 1100 b=some (1,1,0,0):=by
 cases b with
 |nil=>rfl
 | cons c t=>
  obtain⟨h1,h2,h3,h4⟩:=h c t rfl;have ne: ∀d:UInt8,c≠d->(((c.toNat:Nat):Int)==((d.toNat:Nat):Int))=false:=fun d hd=>by
   rw[beq_eq_false_iff_ne];intro e;exact hd (UInt8.toNat_inj.1 (by omega))
  unfold zij;rw[show((c::t)==([]:List UInt8))=false from rfl,cond_false];refine zt (by simp only[length_cons];omega) (zv fun x hx=> ?_);have:x=c:=by rw[<-hx];rfl
  subst this;rw[show(((x.toNat:Nat):Int)==42)=false from ne 42 h1,cond_false,show(((x.toNat:Nat):Int)==43)=false from ne 43 h2,cond_false,show(((x.toNat:Nat):Int)==63)=false from ne 63 h3,cond_false,show(((x.toNat:Nat):Int)==123)=false from ne 123 h4,cond_false]
theorem zrc (y:Tr)(hy:(pre y).length<=10000)(a c b:List UInt8)(q:Stk)(lo hi:Int)(hc:zij 1100 (c++b)=some (lo,hi,(c.length:Int),0))(hb:z6h b)(hlen:(a++c++b).length<2^39):
 zen 1100 y (Rd.mk (a++c++b) ((a.length:Nat):Int) 0 q)=some (zet y lo hi,Rd.mk (a++c++b) (((a++c).length:Nat):Int) 0 q):=by
 have hl1:((a.length:Nat):Int)+(c.length:Int)=(((a++c).length:Nat):Int):=by simp only[length_append];omega
 have hl2:(a++c).length<2^39:=by simp only[length_append] at hlen⊢;omega
 have hl3:a.length<=(a++c++b).length:=by simp only[length_append];omega
 unfold zen;rw[show((Rd.mk (a++c++b) ((a.length:Nat):Int) 0 q).e !=0)=false from rfl,cond_false];refine zt (by simp only;omega) (zv fun x1 hx1=> ?_);simp only at hx1;rw[append_assoc,zyh] at hx1;subst hx1;refine zaf _ hc ?_;rw[show((lo,hi,(c.length:Int),(0:Int)).2.2.2 !=0)=false from rfl,cond_false];refine zt (by simp only;omega) ?_;refine zbg (Rd.mk (a++c++b) (((a++c).length:Nat):Int) 0 q) ?_ ?_
 ·simp only;rw[hl1];cases hc0:decide ((c.length:Int)>0) with
  |false=>rfl
  | true=>
   rw[cond_true];refine zaf _ (zpg (a++c) b q) ?_;simp only;refine zt (hd0_u8 b) (zv fun x hx=> ?_);subst hx;rw[show decide (Lib.indexByte ([42,43,63,123]:List UInt8) (zkt (hd0 b))>=0)=false from decide_eq_false (hd0_no hb),cond_false]
 ·exact zt (by omega) (zv fun x hx=>by rw[<-hx])
def qdb (c:List UInt8)(lo hi:Int):Prop:= ∀b,z6h b->b.length<2^39->zij 1100 (c++b)=some (lo,hi,(c.length:Int),0)
theorem z5u:qdb [] 1 1:=fun b hb _=>qnq hb
theorem at_nc (n:Nat)(A:Alts)(c:List UInt8)(lo hi:Int)(hA:qpi n A)(hc:qdb c lo hi):AtP (n+1) ([40,63,58]++zz A++[41]++c) (zet (orT (zgv A)) lo hi) where
 hd:=⟨40,_,rfl,by decide⟩
 len:=zqq _ (z9u _) lo hi
 run a b q hlen hq hb:=by
  have e:a++([40,63,58]++zz A++[41]++c)++b=a++[40,63,58]++zz A++41::(c++b):=by simp
  have e2:a++[40,63,58]++zz A++41::(c++b)=a++[40,63,58]++zz A++[41]++c++b:=by simp
  rw[e] at hlen⊢;obtain⟨q',g1,g2⟩:=z9d n A a [40,63,58] (c++b) q hA (by decide) hlen hq;refine⟨orT (zgv A),Rd.mk (a++[40,63,58]++zz A++41::(c++b)) (((a++[40,63,58]++zz A++[41]).length:Nat):Int) 0 q',q',?_,?_,g2⟩
  rotate_left
  ·have h:=zrc (orT (zgv A)) (z9u _) (a++[40,63,58]++zz A++[41]) c b q' lo hi (hc b hb (by simp only[length_append,length_cons] at hlen;omega)) hb (by rw[<-e2];exact hlen);rw[<-e2] at h;rw[show a++([40,63,58]++zz A++[41]++c)=a++[40,63,58]++zz A++[41]++c by simp];exact h
  ·have hla:a.length<(a++[40,63,58]++zz A++41::(c++b)).length:=by simp only[length_append,length_cons,length_nil];omega
   have e3:a++[40,63,58]++zz A++41::(c++b)=a++([40,63,58]++zz A++41::(c++b)):=by simp
   unfold zhf;refine zt (by simp only;omega) (zv fun x1 hx1=> ?_);simp only at hx1;rw[e3,zyh] at hx1;subst hx1;refine z2l (_,Rd.mk _ _ _ _) ?_ rfl;refine zt (by simp only[length_append,length_cons];omega) (zv fun x2 hx2=> ?_);have:x2=40:=by rw[<-hx2];rfl
   subst this;rw[show((((40:UInt8).toNat:Nat):Int)==40)=true from rfl,cond_true];refine zv fun x3 hx3=> ?_;have:x3=true:=by rw[<-hx3];rfl
   subst this;rw[cond_true];exact zaf _ g1 rfl
theorem at_gr (n:Nat)(A:Alts)(c:List UInt8)(lo hi:Int)(hA:qpi n A)(hq63: ∀x t,zz A=x::t->x≠63)(hc:qdb c lo hi):AtP (n+1) ([40]++zz A++[41]++c) (zet (zfx (orT (zgv A))) lo hi) where
 hd:=⟨40,_,rfl,by decide⟩
 len:=zqq _ (ziq _) lo hi
 run a b q hlen hq hb:=by
  have e:a++([40]++zz A++[41]++c)++b=a++[40]++zz A++41::(c++b):=by simp
  have e2:a++[40]++zz A++41::(c++b)=a++[40]++zz A++[41]++c++b:=by simp
  rw[e] at hlen⊢;obtain⟨q',g1,g2⟩:=z9d n A a [40] (c++b) q hA (by decide) hlen hq;refine⟨zfx (orT (zgv A)),Rd.mk (a++[40]++zz A++41::(c++b)) (((a++[40]++zz A++[41]).length:Nat):Int) 0 q',q',?_,?_,g2⟩
  rotate_left
  ·have h:=zrc (zfx (orT (zgv A))) (ziq _) (a++[40]++zz A++[41]) c b q' lo hi (hc b hb (by simp only[length_append,length_cons] at hlen;omega)) hb (by rw[<-e2];exact hlen);rw[<-e2] at h;rw[show a++([40]++zz A++[41]++c)=a++[40]++zz A++[41]++c by simp];exact h
  ·have hla:a.length<(a++[40]++zz A++41::(c++b)).length:=by simp only[length_append,length_cons,length_nil];omega
   have e3:a++[40]++zz A++41::(c++b)=a++([40]++zz A++41::(c++b)):=by simp
   unfold zhf;refine zt (by simp only;omega) (zv fun x1 hx1=> ?_);simp only at hx1;rw[e3,zyh] at hx1;subst hx1;refine z2l (_,Rd.mk _ _ _ _) ?_ rfl;refine zt (by simp only[length_append,length_cons];omega) (zv fun x2 hx2=> ?_);have:x2=40:=by rw[<-hx2];rfl
   subst this;rw[show((((40:UInt8).toNat:Nat):Int)==40)=true from rfl,cond_true];refine zv fun x3 hx3=> ?_;have:x3=false:=by
    rw[<-hx3];cases hA':zz A with
    |nil=>rfl
    | cons x t=>
     have:=hq63 x t hA';unfold Lib.hasPrefix;simp[List.isPrefixOf];intro h;exact absurd h.symm this
   subst this;rw[cond_false];refine zaf _ g1 ?_;refine zt (by have:=z9u (zgv A);simp only;omega) (zv fun x hx=> ?_);rw[<-hx]
def zlo (s:List UInt8):Int×Int->Option ((Int×Int) ⊕ ((Int×Int) ⊕ (Int×Int))):=
 (fun s1=>(bif (decide (s1.2<(length s:Int))) then(bif (decide (s1.2<2)) then(chk (0<=s1.2/\ s1.2<(length s:Int)) (zaz (ix s s1.2) (fun x1=>(bif (decide ((((x1).toNat:Nat):Int)>=48)) then(chk (0<=s1.2/\ s1.2<(length s:Int)) (zaz (ix s s1.2) (fun x2=>(bif (decide ((((x2).toNat:Nat):Int)<=57)) then(chk (-9223372036854775808<=(10*s1.1)/\ (10*s1.1)<9223372036854775808) (chk (0<=s1.2/\ s1.2<(length s:Int)) (zaz (ix s s1.2) (fun x3=>(chk (-9223372036854775808<=(IntKind.u8.wrap ((((x3).toNat:Nat):Int)-48))/\ (IntKind.u8.wrap ((((x3).toNat:Nat):Int)-48))<9223372036854775808) (chk (-9223372036854775808<=((10*s1.1)+(IntKind.u8.wrap ((((x3).toNat:Nat):Int)-48)))/\ ((10*s1.1)+(IntKind.u8.wrap ((((x3).toNat:Nat):Int)-48)))<9223372036854775808) (chk (-9223372036854775808<=(s1.2+1)/\ (s1.2+1)<9223372036854775808) (some (inl (((10*s1.1)+(IntKind.u8.wrap ((((x3).toNat:Nat):Int)-48))),(s1.2+1))))))))))) else(some (inr (inl (s1.1,s1.2)))))))) else(some (inr (inl (s1.1,s1.2)))))))) else(some (inr (inl (s1.1,s1.2))))) else(some (inr (inl (s1.1,s1.2))))))
def isD (c:UInt8):Prop:=48<=c.toNat/\ c.toNat<=57
theorem u8_dig: ∀m:Nat,m<10->IntKind.u8.wrap ((m:Nat):Int)=((m:Nat):Int):=by decide
theorem zyr (s:List UInt8)(k:Nat)(n:Int)(c:UInt8)(hk:k<2)(hl:k<s.length)(hc:ix s ((k:Nat):Int)=c)(hd:isD c)(hn:0<=n/\ n<=9):zlo s (n,((k:Nat):Int))=some (.inl (10*n+(((c.toNat:Nat):Int)-48),(((k+1:Nat)):Int))):=by
 obtain⟨d1,d2⟩:=hd;have hw:IntKind.u8.wrap (((c.toNat:Nat):Int)-48)=((c.toNat:Nat):Int)-48:=by
  have:=u8_dig (c.toNat-48) (by omega);rwa[show(((c.toNat-48:Nat):Nat):Int)=((c.toNat:Nat):Int)-48 by omega] at this
 unfold zlo;dsimp only;rw[show decide (((k:Nat):Int)<(length s:Int))=true from decide_eq_true (by omega),cond_true,show decide (((k:Nat):Int)<2)=true from decide_eq_true (by omega),cond_true];refine zt (by omega) (zv fun x hx=> ?_);rw[hc] at hx;subst hx;rw[show decide (((c.toNat:Nat):Int)>=48)=true from decide_eq_true (by omega),cond_true];refine zt (by omega) (zv fun x hx=> ?_);rw[hc] at hx;subst hx;rw[show decide (((c.toNat:Nat):Int)<=57)=true from decide_eq_true (by omega),cond_true];refine zt (by omega) (zt (by omega) (zv fun x hx=> ?_));rw[hc] at hx;subst hx;rw[hw];refine zt (by omega) (zt (by omega) (zt (by omega) ?_));rfl
theorem nb_two (s:List UInt8)(n:Int):zlo s (n,2)=some (.inr (.inl (n,2))):=by
 unfold zlo;dsimp only;cases decide ((2:Int)<(length s:Int))<;>rfl
theorem qef (s a b:List UInt8)(n:Int)(hs:s=a++b)(hb: ∀c t,b=c::t-> ¬isD c):zlo s (n,((a.length:Nat):Int))=some (.inr (.inl (n,((a.length:Nat):Int)))):=by
 unfold zlo;dsimp only;cases b with
 | nil=>
  rw[show decide (((a.length:Nat):Int)<(length s:Int))=false from decide_eq_false (by rw[hs];simp),cond_false]
 | cons c t=>
  have hl:a.length<s.length:=by rw[hs];simp only[length_append,length_cons];omega
  have hc:ix s ((a.length:Nat):Int)=c:=by rw[hs,z4i]
  rw[show decide (((a.length:Nat):Int)<(length s:Int))=true from decide_eq_true (by omega),cond_true];cases h2:decide (((a.length:Nat):Int)<2) with
  |false=>rw[cond_false]
  | true=>
   rw[cond_true];refine zt (by omega) (zv fun x hx=> ?_);rw[hc] at hx;subst hx;have hn:=hb c t rfl;cases h3:decide (((c.toNat:Nat):Int)>=48) with
   |false=>rw[cond_false]
   | true=>
    rw[cond_true];refine zt (by omega) (zv fun x hx=> ?_);rw[hc] at hx;subst hx;rw[decide_eq_true_eq] at h3;rw[show decide (((c.toNat:Nat):Int)<=57)=false from decide_eq_false fun h=>hn ⟨by omega,by omega⟩,cond_false]
def qjn (b:List UInt8):Prop:= ∀c t,b=c::t-> ¬isD c
theorem number0 (b:List UInt8)(hb:qjn b):zej 1100 b=some (0,0):=by
 unfold zej;refine zbg (0,0) ?_ rfl;exact z0h 1099 (qef b [] b 0 rfl hb)
theorem number1 (c:UInt8)(b:List UInt8)(hc:isD c)(hb:qjn b):zej 1100 (c::b)=some (((c.toNat:Nat):Int)-48,1):=by
 unfold zej;refine zbg (((c.toNat:Nat):Int)-48,1) ?_ rfl;have h1:=zyr (c::b) 0 0 c (by decide) (by simp) rfl hc ⟨by decide,by decide⟩;have h2:=qef (c::b) [c] b (((c.toNat:Nat):Int)-48) rfl hb;show zbk (zlo (c::b)) (1099+1) ((0:Int),((0:Nat):Int))=_;rw[zbk,h1];rw[show(10*(0:Int)+(((c.toNat:Nat):Int)-48))=((c.toNat:Nat):Int)-48 by omega];exact z0h 1098 h2
theorem number2 (c d:UInt8)(b:List UInt8)(hc:isD c)(hd:isD d):zej 1100 (c::d::b)=some (10*(((c.toNat:Nat):Int)-48)+(((d.toNat:Nat):Int)-48),2):=by
 unfold zej;refine zbg (10*(((c.toNat:Nat):Int)-48)+(((d.toNat:Nat):Int)-48),2) ?_ rfl;have h1:=zyr (c::d::b) 0 0 c (by decide) (by simp) rfl hc ⟨by decide,by decide⟩;have h2:=zyr (c::d::b) 1 (((c.toNat:Nat):Int)-48) d (by decide) (by simp) rfl hd (by have:=hc.1;have:=hc.2;omega);show zbk (zlo (c::d::b)) (1099+1) ((0:Int),((0:Nat):Int))=_;rw[zbk,h1];rw[show(10*(0:Int)+(((c.toNat:Nat):Int)-48))=((c.toNat:Nat):Int)-48 by omega];simp only;rw[show(1099:Nat)=1098+1 from rfl,zbk,h2];exact z0h 1097 (nb_two _ _)
theorem zyv (n:Nat)(hn:n<20)(b:List UInt8)(hb:qjn b):zej 1100 (zhh n++b)=some (((n:Nat):Int),((zhh n).length:Int)):=by
 unfold zhh;by_cases h:n<10
 ·rw[if_pos h];have e:(UInt8.ofNat (48+n)).toNat=48+n:=by rw[UInt8.toNat_ofNat'];omega
  have:=number1 (UInt8.ofNat (48+n)) b ⟨by omega,by omega⟩ hb;rw[e] at this;rw[show(((48+n:Nat):Nat):Int)-48=((n:Nat):Int) by omega] at this;exact this
 ·rw[if_neg h];have e:(UInt8.ofNat (38+n)).toNat=38+n:=by rw[UInt8.toNat_ofNat'];omega
  have:=number2 49 (UInt8.ofNat (38+n)) b ⟨by decide,by decide⟩ ⟨by omega,by omega⟩;rw[e] at this;rw[show(10*((((49:UInt8).toNat:Nat):Int)-48)+((((38+n:Nat):Nat):Int)-48))=((n:Nat):Int) by rw[show(((49:UInt8).toNat:Nat):Int)=49 from rfl];omega] at this;exact this
theorem z2s (ds es b:List UInt8)(lo h0 hi:Int)(hds:ds≠[])(h1:zej 1100 (ds++44::(es++125::b))=some (lo,(ds.length:Int)))(h2:zej 1100 (es++125::b)=some (h0,(es.length:Int)))(hh:hi=if es=[] then-1 else h0)
 (g1:hi≠0) (g2:lo<=16) (g3:hi<=16) (g4:hi= -1 \/lo<=hi) (hlen:(ds++es++b).length<2^40):zja 1100 (123::(ds++44::(es++125::b)))=some (lo,hi,((ds.length+es.length+3:Nat):Int),0):=by
 obtain⟨s,hs⟩: ∃s,s=(123:UInt8)::(ds++44::(es++125::b)):=⟨_,rfl⟩;rw[<-hs];have hsl:s.length=ds.length+es.length+b.length+3:=by rw[hs];simp only[length_append,length_cons];omega
 simp only[length_append] at hlen;have hdp:0<ds.length:=List.length_pos_iff.2 hds;unfold zja;refine zt (by omega) (zv fun x1 hx1=> ?_);have e1:x1=ds++44::(es++125::b):=by rw[<-hx1,show(1:Int)=((1:Nat):Int) from rfl,zmb,hs];rfl
 subst e1;refine zaf _ h1 ?_;dsimp only;refine zt (by omega) ?_;have a1:(1+(ds.length:Int))=(((123::ds:List UInt8).length:Nat):Int):=by simp only[length_cons];omega
 have a2:(1+(ds.length:Int))+1=(((123::ds++[44]:List UInt8).length:Nat):Int):=by simp only[length_cons,length_append,length_nil];omega
 have i1:ix s (1+(ds.length:Int))=44:=by rw[a1,show s=(123::ds)++44::(es++125::b) by rw[hs];rfl,z4i]
 refine zbg (hi,(1+(ds.length:Int))+1+(es.length:Int)) ?_ ?_
 ·rw[show decide ((ds.length:Int)>0)=true from decide_eq_true (by omega),cond_true,show decide ((1+(ds.length:Int))<(length s:Int))=true from decide_eq_true (by omega),cond_true];refine zt (by omega) (zv fun x3 hx3=> ?_);rw[i1] at hx3;subst hx3;rw[show((((44:UInt8).toNat:Nat):Int)==44)=true from rfl,cond_true];refine zt (by omega) (zt (by omega) (zv fun x4 hx4=> ?_));have e4:x4=es++125::b:=by
   rw[<-hx4,a2,show s=(123::ds++[44])++(es++125::b) by rw[hs];simp,zyh]
  subst e4;refine zaf _ h2 ?_;dsimp only;refine zbg hi ?_ (zt (by omega) rfl);cases es with
  |nil=>rw[hh];rfl
  | cons e0 es=>
   rw[hh,if_neg (by simp),show((length (e0::es):Int)==0)=false from beq_eq_false_iff_ne.2 (by simp only[length_cons];omega),cond_false]
 ·dsimp only;rw[show((ds.length:Int)==0)=false from beq_eq_false_iff_ne.2 (by omega),cond_false,show((1+(ds.length:Int))+1+(es.length:Int)==(length s:Int))=false from beq_eq_false_iff_ne.2 (by omega),cond_false];have a3:(1+(ds.length:Int))+1+(es.length:Int)=(((123::ds++[44]++es:List UInt8).length:Nat):Int):=by simp only[length_cons,length_append,length_nil];omega
  have i3:ix s ((1+(ds.length:Int))+1+(es.length:Int))=125:=by rw[a3,show s=(123::ds++[44]++es)++125::b by rw[hs];simp,z4i]
  refine zt (by omega) (zv fun x6 hx6=> ?_);rw[i3] at hx6;subst hx6;rw[show((((125:UInt8).toNat:Nat):Int) !=125)=false from rfl,cond_false];refine zbg () ?_ ?_
  ·rw[show(hi==0)=false from beq_eq_false_iff_ne.2 g1,cond_false,show decide (lo>16)=false from decide_eq_false (by omega),cond_false,show decide (hi>16)=false from decide_eq_false (by omega),cond_false];rcases g4 with g4|g4
   ·rw[g4];rfl
   ·cases h9:(hi !=(-1)) with
    |false=>rfl
    |true=>rw[cond_true,show decide (hi<lo)=false from decide_eq_false (by omega),cond_false]
  ·refine zt (by omega) ?_;rw[show(1+(ds.length:Int))+1+(es.length:Int)+1=((ds.length+es.length+3:Nat):Int) by omega]
def qbn (u:List UInt8):Nat:=(u.reverse.takeWhile (· ==92)).length
def TailOk (u:List UInt8):Prop:=qbn u%2=0/\ ∀v,u=v++[36]->qbn v%2=1
theorem qae (u v:List UInt8):qbn (u++v)=if qbn v=v.length then v.length+qbn u else qbn v:=by
 unfold qbn;rw[List.reverse_append,List.takeWhile_append,List.length_reverse];by_cases h:(List.takeWhile (fun x=>x==92) v.reverse).length=v.length
 ·rw[if_pos h,if_pos h,length_append,List.length_reverse]
 ·rw[if_neg h,if_neg h]
theorem zwj (u:List UInt8):u=[] \/ ∃v z,u=v++[z]:=by
 rcases List.eq_nil_or_concat u with h|⟨v,z,h⟩
 ·exact .inl h
 ·exact .inr ⟨v,z,by simpa using h⟩
theorem zou:TailOk []:=⟨rfl,fun v h=>by simp at h⟩
theorem TailOk.app {u v:List UInt8} (hu:TailOk u)(hv:TailOk v):TailOk (u++v):=by
 refine⟨?_,fun w hw=> ?_⟩
 ·rw[qae];have:=hu.1;have:=hv.1;split
  ·rename_i h;omega
  ·omega
 ·rcases zwj v with rfl|⟨v',z,rfl⟩
  ·rw[append_nil] at hw;exact hu.2 w hw
  ·rw[<-append_assoc] at hw;obtain⟨h1,h2⟩:=List.append_inj' hw rfl;simp only[List.cons.injEq,and_true] at h2;subst h2;have h3:=hv.2 v' rfl;have h4:=hu.1;rw[<-h1,qae];split
   ·rename_i h;omega
   ·exact h3
theorem zfa (v:List UInt8)(z:UInt8)(h1:z≠36)(h2:z≠92):TailOk (v++[z]):=by
 refine⟨?_,fun w hw=> ?_⟩
 ·unfold qbn;rw[List.reverse_append];simp[List.takeWhile,h2]
 ·obtain⟨_,h⟩:=List.append_inj' hw rfl;simp only[List.cons.injEq,and_true] at h;exact absurd h h1
def tlB (u:List UInt8):Bool:=(qbn u%2==0)&&(match u.reverse with
 |c::r=>c !=36||(r.takeWhile (· ==92)).length%2==1
 |[]=>true)
theorem qeb {u:List UInt8} (h:tlB u=true):TailOk u:=by
 unfold tlB at h;rw[Bool.and_eq_true] at h;refine⟨by simpa using h.1,fun v hv=> ?_⟩;subst hv;have h2:=h.2;rw[List.reverse_append] at h2
 show(v.reverse.takeWhile _).length%2=1
 simpa using h2
theorem qmr:((List.range 256).all fun n=>tlB (byT zat (UInt8.ofNat n)))=true:=by decide+kernel
theorem tail_by (c:UInt8):TailOk (byT zat c):=by
 have h:=all_eq_true.1 qmr c.toNat (mem_range.2 c.toNat_lt);rw[zmy] at h;exact qeb h
theorem zxu (u:List UInt8)(z c:UInt8):Lib.hasSuffix (u++[z]) [c]=(c==z):=by
 unfold Lib.hasSuffix;simp[List.isSuffixOf,List.isPrefixOf]
theorem zzm (u:List UInt8):(Lib.trimRightB u 92).length+qbn u=u.length:=by
 unfold Lib.trimRightB qbn;have h:=congrArg length (List.takeWhile_append_dropWhile (p:=fun x:UInt8=>x==92) (l:=u.reverse));rw[length_append,List.length_reverse] at h;rw[List.length_reverse];omega
theorem z8b (u:List UInt8)(hl:u.length<2^40):zly (u++[36])=some (qbn u%2==0):=by
 have hs:Lib.hasSuffix (u++[36]) ([36]:List UInt8)=true:=by rw[zxu];rfl
 have ht:Lib.trimSuffix (u++[36]) ([36]:List UInt8)=u:=by unfold Lib.trimSuffix;rw[if_pos hs];simp
 have hr:=zzm u;unfold zly;refine zt (by simp only[length_append,length_cons,length_nil];omega) (zv fun x hx=> ?_);rw[ht,hs] at hx;subst hx;simp only[cond_true];refine zt (by omega) (zv fun x hx=> ?_);subst hx;refine zt (by omega) ?_;rw[show((u.length:Int)-((Lib.trimRightB u 92).length:Int))=((qbn u:Nat):Int) by omega];congr 1
 rw[Bool.eq_iff_iff];simp only[beq_iff_eq];rw[show(2:Int)=((2:Nat):Int) from rfl, <-Int.ofNat_tmod];omega
theorem qkd (u:List UInt8)(h:TailOk u)(hl:u.length<2^40):zly u=some false:=by
 rcases zwj u with rfl|⟨v,z,rfl⟩
 ·rfl
 ·by_cases hz:z=36
  ·subst hz;have:=h.2 v rfl;rw[z8b v (by rw[length_append] at hl;omega),this];rfl
  ·unfold zly;have hs:Lib.hasSuffix (v++[z]) ([36]:List UInt8)=false:=by
    rw[zxu,beq_eq_false_iff_ne];exact fun e=>hz e.symm
   refine zt (by omega) (zv fun x hx=> ?_);have:x.2=false:=by rw[<-hx];exact hs
   rw[this,cond_false]
theorem qiw (u:List UInt8)(h:TailOk u)(hl:u.length<2^40):zly (u++[36])=some true:=by
 rw[z8b u hl,h.1];rfl
theorem zst {c:UInt8} {t:List UInt8} (h: ¬isD c):qjn (c::t):=by
 intro d u e;cases e;exact h
theorem zsp (n:Nat):zhh n≠[]:=by unfold zhh;split<;>simp
theorem zlw (n:Nat):(zhh n).length<=2:=by unfold zhh;split<;>simp
def cntS (mn mx:Int):List UInt8:=[123]++zhh mn.toNat++[44]++(if mx= -1 then[] else zhh mx.toNat)++[125]
theorem zvl {mn mx:Int} (hb:zew mn mx=true):(0<=mn/\ mn<=16)/\ (mx= -1 \/1<=mx/\ mx<=16/\ mn<=mx):=by
 unfold zew at hb;simp only[Bool.and_eq_true,Bool.not_eq_true',Bool.or_eq_false_iff,Bool.or_eq_true,decide_eq_true_eq,decide_eq_false_iff_not,Bool.and_eq_false_iff] at hb;omega
theorem z9v (s:List UInt8)(lo hi n:Int)(h:zja 1100 (123::s)=some (lo,hi,n,0)):zij 1100 (123::s)=some (lo,hi,n,0):=by
 unfold zij;rw[show(((123:UInt8)::s)==([]:List UInt8))=false from rfl,cond_false];refine zt (by simp only[length_cons];omega) (zv fun x hx=> ?_);have:x=123:=by rw[<-hx];rfl
 subst this;rw[show((((123:UInt8).toNat:Nat):Int)==42)=false from rfl,cond_false,show((((123:UInt8).toNat:Nat):Int)==43)=false from rfl,cond_false,show((((123:UInt8).toNat:Nat):Int)==63)=false from rfl,cond_false,show((((123:UInt8).toNat:Nat):Int)==123)=true from rfl,cond_true];exact zaf _ h rfl
theorem qid {mn mx:Int} (hb:zew mn mx=true):qdb (cntS mn mx) mn mx:=by
 obtain⟨⟨b1,b2⟩,b3⟩:=zvl hb;intro b _ hbl;obtain⟨es,hes⟩: ∃es,es=(if mx= -1 then[] else zhh mx.toNat):=⟨_,rfl⟩;have e:cntS mn mx++b=123::(zhh mn.toNat++44::(es++125::b)):=by rw[cntS, <-hes];simp
 have el:((cntS mn mx).length:Int)=(((zhh mn.toNat).length+es.length+3:Nat):Int):=by rw[cntS, <-hes];simp only[length_append,length_cons,length_nil];omega
 have d44: ¬isD 44:=by rintro⟨h,_⟩;exact absurd h (by decide)
 have d125: ¬isD 125:=by rintro⟨_,h⟩;exact absurd h (by decide)
 have h1:=zyv mn.toNat (by omega) (44::(es++125::b)) (zst d44);rw[Int.toNat_of_nonneg b1] at h1;have hesl:es.length<=2:=by rw[hes];split;simp;exact zlw _
 have hml:=zlw mn.toNat
 have hl:(zhh mn.toNat++es++b).length<2^40:=by simp only[length_append];omega
 rw[e,el];refine z9v _ _ _ _ ?_;by_cases hm:mx= -1
 ·have he:es=[]:=by rw[hes,if_pos hm]
  subst he;exact z2s _ [] b mn 0 mx (zsp _) h1 (number0 (125::b) (zst d125)) (by rw[if_pos rfl];exact hm) (by omega) (by omega) (by omega) (.inl hm) hl
 ·have he:es=zhh mx.toNat:=by rw[hes,if_neg hm]
  subst he;have h2:=zyv mx.toNat (by omega) (125::b) (zst d125);rw[Int.toNat_of_nonneg (by omega)] at h2;exact z2s _ _ b mn mx mx (zsp _) h1 h2 (by rw[if_neg (zsp _)]) (by omega) (by omega) (by omega) (.inr (by omega)) hl
theorem ztu {t:Tr} (h:zcn t=true)(hk:t.k=2):t=brT t.s/\ t.s≠0#256:=by
 obtain⟨k,s,mn,mx,l⟩:=t;simp only[Tr.k,Tr.s] at*;subst hk;rw[zdc,zny] at h;simp at h;obtain⟨⟨⟨h1,h2⟩,h3⟩,h4⟩:=h;subst h1 h2 h3;exact⟨rfl,h4⟩
theorem zoq {t:Tr} (h:zcn t=true)(hk:t.k=5 \/t.k=6): ∃x,t.l=[x]:=by
 obtain⟨k,s,mn,mx,l⟩:=t;simp only[Tr.k,Tr.l] at*;have hl:l.length=1:=by
  rcases hk with rfl|rfl
  ·rw[zdc] at h;simp at h;have:=h.2.1.1;omega
  ·rw[zdc] at h;simp at h;have:=h.2;omega
 match l,hl with
 |[x],_=>exact⟨x,rfl⟩
theorem qcb {t x:Tr} (h:zcn t=true)(hk:t.k=5)(hx:t.l=[x]):t= .mk 5 0#256 t.mn t.mx [x]:=by
 obtain⟨k,s,mn,mx,l⟩:=t;simp only[Tr.k,Tr.l,Tr.mn,Tr.mx] at*;subst hk hx;rw[zdc,zny] at h;simp at h;rw[h.1]
theorem zxv {t:Tr} (h:zcn t=true)(hk:t.k=5):zew t.mn t.mx=true:=by
 obtain⟨k,s,mn,mx,l⟩:=t;simp only[Tr.k,Tr.mn,Tr.mx] at*;subst hk;rw[zdc] at h;simp at h;exact h.2.1.2
theorem qct (ds b:List UInt8)(lo:Int)(hds:ds≠[])(h1:zej 1100 (ds++125::b)=some (lo,(ds.length:Int)))
 (g1:lo≠0) (g2:lo<=16) (hlen:(ds++b).length<2^40):zja 1100 (123::(ds++125::b))=some (lo,lo,((ds.length+2:Nat):Int),0):=by
 obtain⟨s,hs⟩: ∃s,s=(123:UInt8)::(ds++125::b):=⟨_,rfl⟩;rw[<-hs];have hsl:s.length=ds.length+b.length+2:=by rw[hs];simp only[length_append,length_cons];omega
 simp only[length_append] at hlen;have hdp:0<ds.length:=List.length_pos_iff.2 hds;unfold zja;refine zt (by omega) (zv fun x1 hx1=> ?_);have e1:x1=ds++125::b:=by rw[<-hx1,show(1:Int)=((1:Nat):Int) from rfl,zmb,hs];rfl
 subst e1;refine zaf _ h1 ?_;dsimp only;refine zt (by omega) ?_;have a1:(1+(ds.length:Int))=(((123::ds:List UInt8).length:Nat):Int):=by simp only[length_cons];omega
 have i1:ix s (1+(ds.length:Int))=125:=by rw[a1,show s=(123::ds)++125::b by rw[hs];rfl,z4i]
 refine zbg (lo,(1+(ds.length:Int))) ?_ ?_
 ·rw[show decide ((ds.length:Int)>0)=true from decide_eq_true (by omega),cond_true,show decide ((1+(ds.length:Int))<(length s:Int))=true from decide_eq_true (by omega),cond_true];refine zt (by omega) (zv fun x3 hx3=> ?_);rw[i1] at hx3;subst hx3;rw[show((((125:UInt8).toNat:Nat):Int)==44)=false from rfl,cond_false]
 ·dsimp only;rw[show((ds.length:Int)==0)=false from beq_eq_false_iff_ne.2 (by omega),cond_false,show((1+(ds.length:Int))==(length s:Int))=false from beq_eq_false_iff_ne.2 (by omega),cond_false];refine zt (by omega) (zv fun x6 hx6=> ?_);rw[i1] at hx6;subst hx6;rw[show((((125:UInt8).toNat:Nat):Int) !=125)=false from rfl,cond_false];refine zbg () ?_ ?_
  ·rw[show(lo==0)=false from beq_eq_false_iff_ne.2 g1,cond_false,show decide (lo>16)=false from decide_eq_false (by omega),cond_false,cond_false];cases h9:(lo !=(-1)) with
   |false=>rfl
   |true=>rw[cond_true,show decide (lo<lo)=false from decide_eq_false (by omega),cond_false]
  ·refine zt (by omega) ?_;rw[show(1+(ds.length:Int))+1=((ds.length+2:Nat):Int) by omega]
def z5f (mn mx:Int):List UInt8:=
 if mn=0/\ mx= -1 then[42] else if mn=1/\ mx= -1 then[43] else if mn=0/\ mx=1 then[63]
 else[123]++zhh mn.toNat++(if mx= -1 then[44] else if mx≠mn then[44]++zhh mx.toNat else[])++[125]
theorem qaf (mn mx:Int):(z5f mn mx).length<=7:=by
 have h1:=zlw mn.toNat
 have h2:=zlw mx.toNat
 unfold z5f;repeat' split
 all_goals simp only[length_append,length_cons,length_nil]
 all_goals omega
theorem z6q (c:UInt8)(b:List UInt8)(lo hi:Int)(h:(c=42/\ lo=0/\ hi= -1) \/(c=43/\ lo=1/\ hi= -1) \/(c=63/\ lo=0/\ hi=1)):zij 1100 (c::b)=some (lo,hi,1,0):=by
 unfold zij;rw[show((c::b)==([]:List UInt8))=false from rfl,cond_false];refine zt (by simp only[length_cons];omega) (zv fun x hx=> ?_);have:x=c:=by rw[<-hx];rfl
 subst this;rcases h with⟨rfl,rfl,rfl⟩|⟨rfl,rfl,rfl⟩|⟨rfl,rfl,rfl⟩<;>rfl
theorem z4c {mn mx:Int} (hb:zew mn mx=true):qdb (z5f mn mx) mn mx:=by
 obtain⟨⟨b1,b2⟩,b3⟩:=zvl hb;have d44: ¬isD 44:=by rintro⟨h,_⟩;exact absurd h (by decide)
 have d125: ¬isD 125:=by rintro⟨_,h⟩;exact absurd h (by decide)
 unfold z5f;by_cases h1:mn=0/\ mx= -1
 ·rw[if_pos h1];intro b _ _;exact z6q 42 b mn mx (.inl ⟨rfl,h1⟩)
 rw[if_neg h1];by_cases h2:mn=1/\ mx= -1
 ·rw[if_pos h2];intro b _ _;exact z6q 43 b mn mx (.inr (.inl ⟨rfl,h2⟩))
 rw[if_neg h2];by_cases h3:mn=0/\ mx=1
 ·rw[if_pos h3];intro b _ _;exact z6q 63 b mn mx (.inr (.inr ⟨rfl,h3⟩))
 rw[if_neg h3];by_cases h4:mx= -1
 ·have:=qid hb;unfold cntS at this;rw[if_pos h4,append_nil] at this;rw[if_pos h4];exact this
 rw[if_neg h4];by_cases h5:mx≠mn
 ·have:=qid hb;unfold cntS at this;rw[if_neg h4] at this;rw[if_pos h5];simpa using this
 ·have h6:mx=mn:=Classical.not_not.1 h5;rw[if_neg h5,append_nil];subst h6;intro b _ hbl;have ht:=zyv mx.toNat (by omega) (125::b) (zst d125);rw[Int.toNat_of_nonneg (by omega)] at ht;have hml:=zlw mx.toNat
  have:=qct (zhh mx.toNat) b mx (zsp _) ht (by omega) (by omega) (by simp only[length_append];omega);have e:([123]++zhh mx.toNat++[125]:List UInt8)++b=123::(zhh mx.toNat++125::b):=by simp
  rw[e,z9v _ _ _ _ this];congr 4
  simp only[length_append,length_cons,length_nil];omega
theorem qhc (mn mx:Int):TailOk (z5f mn mx):=by
 unfold z5f;split
 ·exact zfa [] 42 (by decide) (by decide)
 split
 ·exact zfa [] 43 (by decide) (by decide)
 split
 ·exact zfa [] 63 (by decide) (by decide)
 ·exact zfa _ 125 (by decide) (by decide)
def gtI:It->List UInt8
 |(c,none)=>byT zaw (UInt8.ofNat c)
 |(c,some d)=>byT zaw (UInt8.ofNat c)++45::byT zaw (UInt8.ofNat d)
def gts (l:List It):List UInt8:=l.flatMap gtI
theorem zps (i:It)(l:List It):gts (i::l)=gtI i++gts l:=by simp[gts]
theorem z6g (i:It): ∃x l,gtI i=x::l/\ x≠45/\ x≠93/\ x≠94:=by
 obtain⟨c,d⟩:=i;obtain⟨_,x,l,h,h1,h2,h3⟩:=z9q (UInt8.ofNat c);cases d with
 |none=>exact⟨x,l,h,h1,h2,h3⟩
 |some d=>exact⟨x,l++45::byT zaw (UInt8.ofNat d),by simp[gtI,h],h1,h2,h3⟩
theorem qna (a:List UInt8)(i:It)(hg:gdI i)(b:List UInt8)(hb: ∃c t,b=c::t/\ c≠45)(first:Bool)(out:BS)(hlen:(a++gtI i++b).length<2^40):
 zxg (a++gtI i++b) ((a.length:Int),first,out)=some (.inl (((a++gtI i).length:Int),false,out|||qnp i)):=by
 obtain⟨s,hs⟩: ∃s,s=a++gtI i++b:=⟨_,rfl⟩;rw[<-hs] at hlen⊢;have hls:(s.length:Int)=(a.length:Int)+((gtI i).length:Int)+(b.length:Int):=by rw[hs];simp only[length_append];omega
 obtain⟨h0,l,hl,hh45,hh93,hh94⟩:=z6g i;have hl1:0<(gtI i).length:=by rw[hl];simp
 have hat:ix s (a.length:Int)=h0:=by rw[hs,hl,append_assoc];exact qde a _ h0
 have hdrop:s.drop a.length=gtI i++b:=by rw[hs,append_assoc,List.drop_left]
 obtain⟨c0,t0,hb1,hb2⟩:=hb;have hbl:0<b.length:=by rw[hb1];simp
 unfold zxg;refine zbg () ?_ ?_
 ·cases first with
  |true=>rfl
  | false=>
   simp only[cond_false];rw[show decide ((a.length:Int)<(s.length:Int))=true by simp;omega,cond_true];refine zt (by omega) (zv fun x hx=> ?_);rw[hat] at hx;subst hx;rw[show(((h0.toNat:Nat):Int) !=93)=true by
    rw[bne_iff_ne];intro e;exact hh93 (UInt8.toNat_inj.1 (show h0.toNat=93 by omega))]
   rfl
 refine zt (by simp only;omega) (zv fun x hx=> ?_);simp only at hx;rw[zmb,hdrop] at hx;subst hx;obtain⟨c,d⟩:=i;cases d with
 | none=>
  have hc:c<256:=hg;obtain⟨n4,hn4⟩: ∃n,n=(byT zaw (UInt8.ofNat c)).length:=⟨_,rfl⟩;have ht:(gtI (c,none)).length=n4:=by rw[hn4];rfl
  have hb4:n4<=4:=by rw[hn4];exact(zok _).hi
  have hun:(UInt8.ofNat c).toNat=c:=by simp;omega
  have hit:=z7c (UInt8.ofNat c) b;rw[hun, <-hn4] at hit;refine zaf _ hit ?_;simp only;rw[show((0:Int) !=0)=false from rfl,cond_false];refine zt (by omega) ?_;have hat2:ix s ((a.length:Int)+(n4:Int))=c0:=by
   have:=qde (a++gtI (c,none)) t0 c0;rw[<-hb1, <-hs,length_append,ht] at this;exact_mod_cast this
  refine zbg ((a.length:Int)+(n4:Int),bit c) ?_ ?_
  ·rw [show decide ((a.length:Int)+(n4:Int)<(s.length:Int))=true by simp;omega,cond_true];refine zt (by omega) (zv fun x hx=> ?_);rw[hat2] at hx;subst hx;rw [show((((c0).toNat:Nat):Int)==45)=false by
    cases hq:((((c0).toNat:Nat):Int)==45) with
    |false=>rfl
    | true=>
     simp only[beq_iff_eq] at hq;exact absurd (UInt8.toNat_inj.1 (show c0.toNat=45 by omega)) hb2,cond_false]
  ·refine zv fun x hx=> ?_;subst hx;simp only[length_append,ht,qnp];rfl
 | some d=>
  have hcd:c<=d/\ d<256:=hg;obtain⟨n4,hn4⟩: ∃n,n=(byT zaw (UInt8.ofNat c)).length:=⟨_,rfl⟩;obtain⟨m4,hm4⟩: ∃n,n=(byT zaw (UInt8.ofNat d)).length:=⟨_,rfl⟩;have ht:(gtI (c,some d)).length=n4+1+m4:=by rw[hn4,hm4];simp[gtI];omega
  have hb4:n4<=4:=by rw[hn4];exact(zok _).hi
  have hbm:m4<=4:=by rw[hm4];exact(zok _).hi
  have hun:(UInt8.ofNat c).toNat=c:=by simp;omega
  have hud:(UInt8.ofNat d).toNat=d:=by simp;omega
  have he:gtI (c,some d)++b=byT zaw (UInt8.ofNat c)++(45::byT zaw (UInt8.ofNat d)++b):=by simp[gtI]
  rw[he];have hit:=z7c (UInt8.ofNat c) (45::byT zaw (UInt8.ofNat d)++b);rw[hun, <-hn4] at hit;have hit2:=z7c (UInt8.ofNat d) b;rw[hud, <-hm4] at hit2;refine zaf _ hit ?_;simp only;rw[show((0:Int) !=0)=false from rfl,cond_false];refine zt (by omega) ?_;have hat2:ix s ((a.length:Int)+(n4:Int))=45:=by
   have:=qde (a++byT zaw (UInt8.ofNat c)) (byT zaw (UInt8.ofNat d)++b) 45;rw[show a++byT zaw (UInt8.ofNat c)++45::(byT zaw (UInt8.ofNat d)++b)=s by rw[hs];simp[gtI],length_append, <-hn4] at this;exact_mod_cast this
  have hd2:s.drop (a.length+n4+1)=byT zaw (UInt8.ofNat d)++b:=by
   rw[hs,show a++gtI (c,some d)++b=(a++byT zaw (UInt8.ofNat c)++[45])++(byT zaw (UInt8.ofNat d)++b) by simp[gtI],show a.length+n4+1=(a++byT zaw (UInt8.ofNat c)++[45]).length by simp[hn4];omega,List.drop_left]
  refine zbg ((a.length:Int)+(n4:Int)+(1+(m4:Int)),bits c (d+1-c)) ?_ ?_
  ·rw[show decide ((a.length:Int)+(n4:Int)<(s.length:Int))=true by simp;omega,cond_true];refine zt (by omega) (zv fun x hx=> ?_);rw[hat2] at hx;subst hx;rw[show((((45:UInt8).toNat:Nat):Int)==45)=true from rfl,cond_true];refine zt (by omega) (zt (by omega) (zv fun x hx=> ?_));rw[show(a.length:Int)+(n4:Int)+1=((a.length+n4+1:Nat):Int) by omega,zmb,hd2] at hx;subst hx;refine zaf _ hit2 ?_;simp only;rw[show((0:Int) !=0)=false from rfl,cond_false];refine zaf _ (z6d c (by omega)).2.2.2.2.2 ?_;rw[show((1:Int) !=1)=false from rfl,cond_false];refine zaf _ (z6d d hcd.2).2.2.2.2.2 ?_;rw[show((1:Int) !=1)=false from rfl,cond_false,show decide (((c:Nat):Int)>((d:Nat):Int))=false by simp;omega,cond_false];refine zt (by omega) (zt (by omega) ?_);exact zaf _ (z5y c d hcd.1 hcd.2) rfl
  ·refine zv fun x hx=> ?_;subst hx;simp only[length_append,ht,qnp];rw[show(a.length:Int)+(n4:Int)+(1+(m4:Int))=((a.length+(n4+1+m4):Nat):Int) by omega]
theorem zxw (s rest:List UInt8)(hlen:s.length<2^40): ∀(its:List It) (a:List UInt8) (first:Bool) (out:BS) (fuel:Nat),s=a++gts its++93::rest->(∀i∈its,gdI i)->its.length<fuel->(first=true->its≠[])->
 zbk (zxg s) fuel ((a.length:Int),first,out)=some (.inl (((a++gts its).length:Int),zxz out its))
 | [],a,first,out,fuel,hs,_,hf,hn=>by
  obtain⟨f,rfl⟩: ∃f,fuel=f+1:=⟨fuel-1,by omega⟩;have h1:first=false:=by
   cases first with
   |false=>rfl
   |true=>exact absurd rfl (hn rfl)
  subst h1;have e:s=a++93::rest:=by rw[hs];simp[gts]
  have hl:(s.length:Int)=(a.length:Int)+1+(rest.length:Int):=by rw[e];simp only[length_append,length_cons];omega
  have hat:ix s (a.length:Int)=93:=by rw[e];exact qde a rest 93
  have hb:zxg s ((a.length:Int),false,out)=some (.inr (.inl ((a.length:Int),out))):=by
   unfold zxg;refine z2l (.inr (.inl ((a.length:Int),out))) ?_ rfl;simp only[cond_false];rw[show decide ((a.length:Int)<(s.length:Int))=true by simp;omega,cond_true];refine zt (by omega) (zv fun x hx=> ?_);rw[hat] at hx;subst hx;rfl
  rw[zbk,hb];simp[gts,zxz]
 | i ::its,a,first,out,fuel,hs,hg,hf,hn=>by
  obtain⟨f,rfl⟩: ∃f,fuel=f+1:=⟨fuel-1,by omega⟩;have e:s=a++gtI i++(gts its++93::rest):=by rw[hs,zps];simp
  have hb: ∃c t,gts its++93::rest=c::t/\ c≠45:=by
   cases its with
   |nil=>exact⟨93,rest,rfl,by decide⟩
   | cons j its=>
    obtain⟨h0,l,hl,hh45,hh93,hh94⟩:=z6g j;exact⟨h0,l++(gts its++93::rest),by rw[zps,hl];simp,hh45⟩
  have h1:=qna a i (hg i (by simp)) _ hb first out (by rw[<-e];exact hlen)
  rw[<-e] at h1;rw[zbk,h1];show zbk (zxg s) f _=_;have:=zxw s rest hlen its (a++gtI i) false (out|||qnp i) f (by rw[hs,zps];simp) (fun j hj=>hg j (by simp[hj])) (by simp only[length_cons] at hf;omega) (fun h=>by cases h);rw[this,zps];simp[zxz]
theorem gbr_eq (its:List It)(rest:List UInt8)(hn:its≠[])(hg: ∀i∈its,gdI i)(hl:its.length<1000)(hlen:(gts its).length+rest.length<2^39):
 zdt 1100 (([91]:List UInt8)++gts its++[93]++rest)=some (zxz 0#256 its,((gts its).length:Int)+2,0):=by
 obtain⟨s,hs⟩: ∃s,s=([91]:List UInt8)++gts its++[93]++rest:=⟨_,rfl⟩;rw[<-hs];have e:s=[91]++gts its++93::rest:=by rw[hs];simp
 have hsl:s.length=(gts its).length+rest.length+2:=by rw[e];simp only[length_append,length_cons,length_nil];omega
 obtain⟨i0,its',hi⟩: ∃i l,its=i::l:=by
  cases its with
  |nil=>exact absurd rfl hn
  |cons i l=>exact⟨i,l,rfl⟩
 obtain⟨h0,l0,hl0,hh45,hh93,hh94⟩:=z6g i0;have hd1:s.drop 1=h0::(l0++gts its'++93::rest):=by rw[e,hi,zps,hl0];simp
 have hloop:=zxw s rest (by omega) its [91] true 0#256 1100 e hg (by omega) (fun _=>hn);unfold zdt;refine zv fun x1 hx1=> ?_;have:x1=true:=by rw[<-hx1,e];rfl
 subst this;rw[show(!true)=false from rfl,cond_false];refine zt (by omega) (zv fun x2 hx2=> ?_);rw[show(1:Int)=((1:Nat):Int) from rfl,zmb,hd1] at hx2;refine zv fun x3 hx3=> ?_;have:x3=false:=by
  rw[<-hx3, <-hx2];simp[Lib.hasPrefix,List.isPrefixOf];exact fun h=>hh94 h.symm
 subst this;rw[cond_false];refine zbg 1 rfl ?_;refine zbg (((([91]:List UInt8)++gts its).length:Int),zxz 0#256 its) hloop ?_;have hla:((([91]:List UInt8)++gts its).length:Int)=((gts its).length:Int)+1:=by simp only[length_append,length_cons,length_nil];omega
 rw[hla];rw[show(((gts its).length:Int)+1==(s.length:Int))=false by simp;omega,cond_false];refine zbg (zxz 0#256 its) rfl ?_;rw[show decide (zxz 0#256 its=0#256)=false by simpa using vals_ne its hn hg,cond_false];refine zt (by simp only;omega) ?_;simp only;rw[show((gts its).length:Int)+1+1=((gts its).length:Int)+2 by omega]
theorem gbrN_eq (its:List It)(rest:List UInt8)(hn:its≠[])(hg: ∀i∈its,gdI i)(hl:its.length<1000)(hlen:(gts its).length+rest.length<2^39):
 zdt 1100 (([91,94]:List UInt8)++gts its++[93]++rest)=some (if ~~~ zxz 0#256 its=0#256 then(0#256,0,94) else(~~~ zxz 0#256 its,((gts its).length:Int)+3,0)):=by
 obtain⟨s,hs⟩: ∃s,s=([91,94]:List UInt8)++gts its++[93]++rest:=⟨_,rfl⟩;rw[<-hs];have e:s=[91,94]++gts its++93::rest:=by rw[hs];simp
 have hsl:s.length=(gts its).length+rest.length+3:=by rw[e];simp only[length_append,length_cons,length_nil];omega
 have hd1:s.drop 1=94::(gts its++93::rest):=by rw[e];simp
 have hloop:=zxw s rest (by omega) its [91,94] true 0#256 1100 e hg (by omega) (fun _=>hn);unfold zdt;refine zv fun x1 hx1=> ?_;have:x1=true:=by rw[<-hx1,e];rfl
 subst this;rw[show(!true)=false from rfl,cond_false];refine zt (by omega) (zv fun x2 hx2=> ?_);rw[show(1:Int)=((1:Nat):Int) from rfl,zmb,hd1] at hx2;refine zv fun x3 hx3=> ?_;have:x3=true:=by rw[<-hx3, <-hx2];rfl
 subst this;rw[cond_true];refine zbg 2 rfl ?_;refine zbg (((([91,94]:List UInt8)++gts its).length:Int),zxz 0#256 its) hloop ?_;have hla:((([91,94]:List UInt8)++gts its).length:Int)=((gts its).length:Int)+2:=by simp only[length_append,length_cons,length_nil];omega
 rw[hla];rw[show(((gts its).length:Int)+2==(s.length:Int))=false by simp;omega,cond_false];refine zbg (~~~ zxz 0#256 its) rfl ?_;by_cases hz: ~~~ zxz 0#256 its=0#256
 ·rw[show decide (~~~ zxz 0#256 its=0#256)=true by simpa using hz,cond_true,if_pos hz]
 ·rw[show decide (~~~ zxz 0#256 its=0#256)=false by simpa using hz,cond_false,if_neg hz];refine zt (by simp only;omega) ?_;simp only;rw[show((gts its).length:Int)+2+1=((gts its).length:Int)+3 by omega]
abbrev Spn:=Nat×Nat
def zyj (out:List Spn)(c:Nat):List Spn:=
 match out.getLast? with
 |some (lo,hi)=>if hi+1=c then out.dropLast++[(lo,c)] else out++[(c,c)]
 |none=>[(c,c)]
def spOf (l:List Nat):List Spn:=l.foldl zyj []
def zgd (s:BS):List Spn:=spOf (elN s 256)
def cov (out:List Spn)(k:Nat):Prop:= ∃x∈out,x.1<=k/\ k<=x.2
def zki:List Spn->Nat
 |[]=>0
 |x::l=>(x.2+1-x.1)+zki l
theorem zmf: ∀a b:List Spn,zki (a++b)=zki a+zki b
 |[],b=>by simp[zki]
 |x::a,b=>by rw[List.cons_append,zki,zki,zmf a b];omega
structure SpI (l:List Nat)(out:List Spn):Prop where
 cov: ∀k,cov out k↔k∈l
 ord: ∀x∈out,x.1<=x.2/\ x.2<256
 sum:zki out=l.length
theorem qoc {l:List Nat} {out:List Spn} (h:SpI l out) {c:Nat} (hc:c<256):SpI (l++[c]) (zyj out c):=by
 unfold zyj;rcases List.eq_nil_or_concat out with rfl|⟨o,x,rfl⟩
 ·have hl:l=[]:=by
   have:=h.sum;simp only[zki] at this;exact List.length_eq_zero_iff.1 this.symm
  subst hl;simp only[List.getLast?_nil];refine⟨fun k=> ?_,fun x hx=> ?_,by simp[zki]⟩
  ·unfold cov;simp;omega
  ·simp at hx;subst hx;exact⟨le_refl _,hc⟩
 ·rw [List.concat_eq_append] at h⊢;obtain⟨lo,hi⟩:=x;have hx:=h.ord (lo,hi) (by simp);simp only at hx;rw[List.getLast?_append,List.getLast?_singleton];simp only[Option.some_or];by_cases e:hi+1=c
  ·rw [if_pos e,List.dropLast_concat];refine⟨fun k=> ?_,fun x hx'=> ?_,?_⟩
   ·have hk:=h.cov k;unfold cov at hk⊢;simp only[mem_append,mem_singleton] at hk⊢;rw[<-hk];constructor
    ·rintro⟨x,hx|rfl,h1,h2⟩
     ·exact .inl ⟨x,.inl hx,h1,h2⟩
     ·simp only at h1 h2;by_cases hkc:k=c
      ·exact .inr hkc
      ·exact .inl ⟨(lo,hi),.inr rfl,h1,by simp only;omega⟩
    ·rintro(⟨x,hx|rfl,h1,h2⟩|rfl)
     ·exact⟨x,.inl hx,h1,h2⟩
     ·exact⟨(lo,c),.inr rfl,h1,by simp only at h2⊢;omega⟩
     ·exact⟨(lo,k),.inr rfl,by simp only;omega,le_refl _⟩
   ·rw[mem_append,mem_singleton] at hx';rcases hx' with hx'|rfl
    ·exact h.ord x (by simp[hx'])
    ·exact⟨by simp only;omega,hc⟩
   ·have hs:=h.sum;simp only[zmf,zki,length_append,List.length_singleton] at hs⊢;omega
  ·rw [if_neg e];refine⟨fun k=> ?_,fun x hx'=> ?_,?_⟩
   ·have hk:=h.cov k;unfold cov at hk⊢;rw[mem_append, <-hk];constructor
    ·rintro⟨x,hx',h1,h2⟩;rw[mem_append,mem_singleton] at hx';rcases hx' with hx'|rfl
     ·exact .inl ⟨x,hx',h1,h2⟩
     ·simp only at h1 h2;exact .inr (by simp;omega)
    ·rintro(⟨x,hx',h1,h2⟩|h')
     ·exact⟨x,by simp only[mem_append] at hx'⊢;exact .inl hx',h1,h2⟩
     ·rw[mem_singleton] at h';subst h';exact⟨(k,k),by simp,le_refl _,le_refl _⟩
   ·rw[mem_append,mem_singleton] at hx';rcases hx' with hx'|rfl
    ·exact h.ord x hx'
    ·exact⟨le_refl _,hc⟩
   ·have hs:=h.sum;simp only[zmf,zki,length_append,List.length_singleton] at hs⊢;omega
theorem qhi: ∀(m l:List Nat) (out:List Spn),SpI l out->(∀c∈m,c<256)->SpI (l++m) (m.foldl zyj out)
 |[],l,out,h,_=>by simpa using h
 | c::m,l,out,h,hm=>by
  have:=qhi m (l++[c]) (zyj out c) (qoc h (hm c (by simp))) (fun x hx=>hm x (by simp[hx]));simpa using this
theorem el_lt {s:BS} {c:Nat} (h:c∈elN s 256):c<256:=by
 unfold elN at h;rw[List.mem_filter,mem_range] at h;exact h.1
theorem z3z (s:BS):SpI (elN s 256) (zgd s):=by
 have:=qhi (elN s 256) [] [] ⟨fun k=>by simp[cov],fun x hx=>by simp at hx,rfl⟩ (fun c hc=>el_lt hc);rw[List.nil_append] at this;exact this
theorem el_mem (s:BS)(k:Nat):k∈elN s 256↔k<256/\ s.getLsbD k=true:=by
 unfold elN;rw[List.mem_filter,mem_range]
def z4w (x:Spn):List It:=if x.2-x.1>1 then[(x.1,some x.2)] else if x.2≠x.1 then[(x.1,none),(x.2,none)] else[(x.1,none)]
def zek (s:BS):List It:=(zgd s).flatMap z4w
theorem ztq (c k:Nat)(hk:k<256):(bit c).getLsbD k=decide (k=c):=by
 unfold bit;rw[BitVec.getLsbD_shiftLeft];by_cases h:k=c
 ·subst h;simp[hk]
 ·rw[decide_eq_false h];by_cases h2:k<c
  ·simp[h2]
  ·have h3:k-c≠0:=by omega
   simp[hk,h2,BitVec.getLsbD_one,h3]
theorem z9c (k:Nat)(hk:k<256): ∀(n c:Nat),(bits c n).getLsbD k=decide (c<=k/\ k<c+n)
 | 0,c=>by
  rw[decide_eq_false (by omega)];simp[bits]
 | n+1,c=>by
  rw[bits,BitVec.getLsbD_or,ztq c k hk,z9c k hk n (c+1),Bool.eq_iff_iff];simp only[Bool.or_eq_true,decide_eq_true_eq];omega
theorem qaa (x:Spn)(h:x.1<=x.2/\ x.2<256)(k:Nat)(hk:k<256):((z4w x).any fun i=>(qnp i).getLsbD k)=decide (x.1<=k/\ k<=x.2):=by
 obtain⟨lo,hi⟩:=x;simp only at h;unfold z4w;simp only;split
 ·simp only[List.any_cons,List.any_nil,Bool.or_false]
  show(bits lo (hi+1-lo)).getLsbD k=_
  rw[z9c k hk,Bool.eq_iff_iff];simp only[decide_eq_true_eq];omega
 ·split
  ·simp only[List.any_cons,List.any_nil,Bool.or_false]
   show((bit lo).getLsbD k||(bit hi).getLsbD k)=_
   rw[ztq lo k hk,ztq hi k hk,Bool.eq_iff_iff];simp only[Bool.or_eq_true,decide_eq_true_eq];omega
  ·simp only[List.any_cons,List.any_nil,Bool.or_false]
   show(bit lo).getLsbD k=_
   rw[ztq lo k hk,Bool.eq_iff_iff];simp only[decide_eq_true_eq];omega
theorem z8m {α β:Type} (f:α->List β)(p:β->Bool): ∀l:List α,((l.flatMap f).any p)=l.any fun x=>(f x).any p
 |[]=>rfl
 |x::l=>by rw[List.flatMap_cons,List.any_append,List.any_cons,z8m f p l]
theorem zqd (s:BS):zxz 0#256 (zek s)=s:=by
 apply BitVec.eq_of_getLsbD_eq;intro k hk;rw[zzh];unfold zek;rw[z8m,Bool.eq_iff_iff];simp only[BitVec.getLsbD_zero,Bool.false_or,List.any_eq_true];have h:=z3z s;have hc:=(h.cov k).trans (el_mem s k);unfold cov at hc;constructor
 ·rintro⟨x,hx,h1⟩;have hb:=qaa x (h.ord x hx) k hk;rw[Bool.eq_iff_iff,List.any_eq_true,decide_eq_true_eq] at hb;exact(hc.1 ⟨x,hx,hb.1 h1⟩).2
 ·intro h1;obtain⟨x,hx,h2⟩:=hc.2 ⟨hk,h1⟩;have hb:=qaa x (h.ord x hx) k hk;rw[Bool.eq_iff_iff,List.any_eq_true,decide_eq_true_eq] at hb;exact⟨x,hx,hb.2 h2⟩
theorem z8g (s:BS): ∀i∈zek s,gdI i:=by
 intro i hi;unfold zek at hi;rw[List.mem_flatMap] at hi;obtain⟨x,hx,hi⟩:=hi;have h:=(z3z s).ord x hx;obtain⟨lo,hi'⟩:=x;simp only at h;unfold z4w at hi;simp only at hi;split at hi
 ·simp at hi;subst hi;exact⟨h.1,h.2⟩
 ·split at hi
  ·simp at hi;rcases hi with rfl|rfl
   ·show lo<256;omega
   ·show hi'<256;omega
  ·simp at hi;subst hi;show lo<256;omega
theorem z8l (c:Nat):(byT zaw (UInt8.ofNat c)).length<=4:=(zok _).hi
theorem qlo (x:Spn)(h:x.1<=x.2):(gts (z4w x)).length<=4*(x.2+1-x.1)/\ (z4w x).length<=x.2+1-x.1:=by
 obtain⟨lo,hi⟩:=x;simp only at h;have h1:=z8l lo;have h2:=z8l hi;unfold z4w;simp only;split
 ·simp[gts,gtI];omega
 ·split
  ·simp[gts,gtI];omega
  ·simp[gts,gtI];omega
theorem zxn (a b:List It):gts (a++b)=gts a++gts b:=by simp[gts]
theorem z1x: ∀l:List Spn,(∀x∈l,x.1<=x.2)->(gts (l.flatMap z4w)).length<=4*zki l/\ (l.flatMap z4w).length<=zki l
 |[],_=>by simp[gts,zki]
 | x::l,h=>by
  have h1:=qlo x (h x (by simp));have h2:=z1x l fun y hy=>h y (by simp[hy]);rw[List.flatMap_cons,zxn,zki,length_append,length_append];omega
theorem zol (s:BS):(elN s 256).length<=256:=by
 unfold elN;have:=List.length_filter_le (fun i=>s.getLsbD i) (List.range 256);simpa using this
theorem zoy (s:BS):(gts (zek s)).length<=4*(elN s 256).length/\ (zek s).length<=(elN s 256).length:=by
 have h:=z3z s;have:=z1x (zgd s) fun x hx=>(h.ord x hx).1;rw[h.sum] at this;exact this
theorem z8u {s:BS} (h:s≠0#256):zek s≠[]:=by
 intro e;have:=zqd s;rw[e] at this;exact h this.symm
end Go.Ab
namespace Go.Proofs
open Go.Shelf
def Tryz.lays156_ren:Go.Shelf.Ren:=⟨fun|156=>99|165=>45|166=>46|169=>48|240=>93|241=>94|276=>141|277=>142|n=>n,fun|31=>144|9=>9|3=>3|4=>4|0=>0|20=>20|72=>88|76=>92|70=>86|37=>30|75=>91|127=>143|164=>186|5=>5|80=>95|n=>n,fun|n=>n⟩
theorem Tryz.lays156:Go.Proofs.Lays.n156 prog Tryz.lays156_ren:={
 mixed:=by kernel_rfl
 f156:=Tryz.func99.trans (congrArg some (by kernel_rfl))
 f165:=Tryz.func45.trans (congrArg some (by kernel_rfl))
 f166:=Tryz.func46.trans (congrArg some (by kernel_rfl))
 f169:=Tryz.func48.trans (congrArg some (by kernel_rfl))
 f240:=Tryz.func93.trans (congrArg some (by kernel_rfl))
 f241:=Tryz.func94.trans (congrArg some (by kernel_rfl))
 f276:=Tryz.func141.trans (congrArg some (by kernel_rfl))
 f277:=Tryz.func142.trans (congrArg some (by kernel_rfl))
 t0:=Tryz.underlying0
 a0:=Tryz.isAgg0
 z0:=Tryz.sizeOf0
 v0:=Tryz.zeroValue0
 t3:=Tryz.underlying3
 a3:=Tryz.isAgg3
 z3:=Tryz.sizeOf3
 v3:=Tryz.zeroValue3
 t4:=Tryz.underlying4
 a4:=Tryz.isAgg4
 z4:=Tryz.sizeOf4
 v4:=Tryz.zeroValue4
 t9:=Tryz.underlying9
 a9:=Tryz.isAgg9
 z9:=Tryz.sizeOf9
 v9:=Tryz.zeroValue9
 t20:=Tryz.underlying20
 a20:=Tryz.isAgg20
 z20:=Tryz.sizeOf20
 v20:=Tryz.zeroValue20
 t31:=Tryz.underlying144
 a31:=Tryz.isAgg144
 z31:=Tryz.sizeOf144
 v31:=Tryz.zeroValue144
 t37:=Tryz.underlying30
 a37:=Tryz.isAgg30
 z37:=Tryz.sizeOf30
 v37:=Tryz.zeroValue30
 t70:=Tryz.underlying86
 a70:=Tryz.isAgg86
 z70:=Tryz.sizeOf86
 v70:=Tryz.zeroValue86
 t72:=Tryz.underlying88
 a72:=Tryz.isAgg88
 z72:=Tryz.sizeOf88
 v72:=Tryz.zeroValue88
 t75:=Tryz.underlying91
 a75:=Tryz.isAgg91
 z75:=Tryz.sizeOf91
 v75:=Tryz.zeroValue91
 t76:=Tryz.underlying92
 a76:=Tryz.isAgg92
 z76:=Tryz.sizeOf92
 v76:=Tryz.zeroValue92
 t127:=Tryz.underlying143
 a127:=Tryz.isAgg143
 z127:=Tryz.sizeOf143
 v127:=Tryz.zeroValue143
 t164:=Tryz.underlying186
 a164:=Tryz.isAgg186
 z164:=Tryz.sizeOf186
 v164:=Tryz.zeroValue186}
theorem Tryz.Builder_Extra_156:Builder.Extra prog Tryz.lays156_ren:={
 sizeBuilder:=by kernel_rfl
 liesBuilder:=by kernel_rfl
 t5:=Tryz.underlying5
 a5:=Tryz.isAgg5
 z5:=Tryz.sizeOf5
 v5:=Tryz.zeroValue5
 infoByte:=by kernel_rfl
 cellsByte:=by kernel_rfl
 sizeByte:=by kernel_rfl
 neB5:=by decide}
open Go.RowKit in
theorem Tryz.strings_Join_none (a:Option Addr)(c:Nat)(sep:ByteArray)(w:World):
 Calls prog 99 #[.slice a 0 c,.string sep] w fun e w'=>e= .returned (.string ⟨#[]⟩)/\ w'=w:=Any.strings_Join_none Tryz.lays156 Tryz.Builder_Extra_156 a c sep w
open Go.RowKit in
theorem Tryz.strings_Join (bk o c:Nat)(xs:List ByteArray)(sep:ByteArray)(w:World)(hcells: ∀(j:Nat) x,xs[j]? =some x->w.cell? ⟨bk,o+j,none⟩=some (.string x))(hbk:bk<w.heap.size)(hN:xs.length<=140737488355328)(hcap:xs.length<=c)(hlen:(Lib.join (xs.map (·.data.toList)) sep.data.toList).length<=140737488355328):
 Calls prog 99 #[.slice (some ⟨bk,o,none⟩) xs.length c,.string sep] w fun e w'=>e= .returned (.string ⟨(Lib.join (xs.map (·.data.toList)) sep.data.toList).toArray⟩)/\ Below w.heap.size w w':=Any.strings_Join Tryz.lays156 Tryz.Builder_Extra_156 bk o c xs sep w hcells hbk hN hcap hlen
def Tryz.lays171_ren:Go.Shelf.Ren:=⟨fun|171=>146|243=>176|246=>194|283=>201|284=>202|285=>203|286=>204|129=>211|317=>210|318=>212|319=>213|320=>214|337=>215|338=>216|n=>n,fun|3=>3|9=>9|2=>2|4=>4|171=>234|0=>0|53=>22|37=>30|5=>5|173=>237|212=>244|51=>138|20=>20|213=>245|46=>83|232=>253|233=>254|n=>n,fun|17=>1|18=>4|19=>5|n=>n⟩
theorem Tryz.lays171:Go.Proofs.Lays.n171 prog Tryz.lays171_ren:={
 mixed:=by kernel_rfl
 f129:=Tryz.func211.trans (congrArg some (by kernel_rfl))
 f171:=Tryz.func146.trans (congrArg some (by kernel_rfl))
 f243:=Tryz.func176.trans (congrArg some (by kernel_rfl))
 f246:=Tryz.func194.trans (congrArg some (by kernel_rfl))
 f283:=Tryz.func201.trans (congrArg some (by kernel_rfl))
 f284:=Tryz.func202.trans (congrArg some (by kernel_rfl))
 f285:=Tryz.func203.trans (congrArg some (by kernel_rfl))
 f286:=Tryz.func204.trans (congrArg some (by kernel_rfl))
 f317:=Tryz.func210.trans (congrArg some (by kernel_rfl))
 f318:=Tryz.func212.trans (congrArg some (by kernel_rfl))
 f319:=Tryz.func213.trans (congrArg some (by kernel_rfl))
 f320:=Tryz.func214.trans (congrArg some (by kernel_rfl))
 f337:=Tryz.func215.trans (congrArg some (by kernel_rfl))
 f338:=Tryz.func216.trans (congrArg some (by kernel_rfl))
 t0:=Tryz.underlying0
 a0:=Tryz.isAgg0
 z0:=Tryz.sizeOf0
 v0:=Tryz.zeroValue0
 t2:=Tryz.underlying2
 a2:=Tryz.isAgg2
 z2:=Tryz.sizeOf2
 v2:=Tryz.zeroValue2
 t3:=Tryz.underlying3
 a3:=Tryz.isAgg3
 z3:=Tryz.sizeOf3
 v3:=Tryz.zeroValue3
 t4:=Tryz.underlying4
 a4:=Tryz.isAgg4
 z4:=Tryz.sizeOf4
 v4:=Tryz.zeroValue4
 t5:=Tryz.underlying5
 a5:=Tryz.isAgg5
 z5:=Tryz.sizeOf5
 v5:=Tryz.zeroValue5
 t9:=Tryz.underlying9
 a9:=Tryz.isAgg9
 z9:=Tryz.sizeOf9
 v9:=Tryz.zeroValue9
 t20:=Tryz.underlying20
 a20:=Tryz.isAgg20
 z20:=Tryz.sizeOf20
 v20:=Tryz.zeroValue20
 t37:=Tryz.underlying30
 a37:=Tryz.isAgg30
 z37:=Tryz.sizeOf30
 v37:=Tryz.zeroValue30
 t46:=Tryz.underlying83
 a46:=Tryz.isAgg83
 z46:=Tryz.sizeOf83
 v46:=Tryz.zeroValue83
 t51:=Tryz.underlying138
 a51:=Tryz.isAgg138
 z51:=Tryz.sizeOf138
 v51:=Tryz.zeroValue138
 t53:=Tryz.underlying22
 a53:=Tryz.isAgg22
 z53:=Tryz.sizeOf22
 v53:=Tryz.zeroValue22
 t171:=Tryz.underlying234
 a171:=Tryz.isAgg234
 z171:=Tryz.sizeOf234
 v171:=Tryz.zeroValue234
 t173:=Tryz.underlying237
 a173:=Tryz.isAgg237
 z173:=Tryz.sizeOf237
 v173:=Tryz.zeroValue237
 t212:=Tryz.underlying244
 a212:=Tryz.isAgg244
 z212:=Tryz.sizeOf244
 v212:=Tryz.zeroValue244
 t213:=Tryz.underlying245
 a213:=Tryz.isAgg245
 z213:=Tryz.sizeOf245
 t232:=Tryz.underlying253
 a232:=Tryz.isAgg253
 z232:=Tryz.sizeOf253
 v232:=Tryz.zeroValue253
 t233:=Tryz.underlying254
 a233:=Tryz.isAgg254
 z233:=Tryz.sizeOf254
 v233:=Tryz.zeroValue254
 g17:=by kernel_rfl
 g18:=by kernel_rfl
 g19:=by kernel_rfl}
open Go.RowKit Go.Sort Go.Lib in
theorem Tryz.strconv_Itoa_small (i:Nat)(hi:i<100)(w:World):
 Calls prog 146 #[.int .i64 i] w fun e w'=>e= .returned (.string ⟨(Lib.decDigits i).toArray⟩)/\ w'=w:=Any.strconv_Itoa_small Tryz.lays171 i hi w
end Go.Proofs
namespace Go.Ab
open Go Go.RowKit Go.Fwd Go.Proofs
theorem ent99:Ent prog 99:=enters_of Tryz.func99 (by kernel_rfl) rfl
theorem ent146:Ent prog 146:=enters_of Tryz.func146 (by kernel_rfl) rfl
theorem raws1 {P:Program} {X:Cx} {u:Value} {us:List Value} (h:zbf (ITP P) X [.raw u] us):us=[u]:=by
 obtain⟨a,l,rfl,ha,hl⟩:=h;have ha:a=u:=ha;have hl:l=[]:=hl;rw[ha,hl]
theorem z3r (i:Nat)(h:i<100):Pure (ITP prog) prog 146 [.raw (.int .i64 i)] (.raw (.string (bs (Lib.decDigits i)))):=
 zjn [.int .i64 i] ent146 (fun X us h=>raws1 h) fun X hI=>(Tryz.strconv_Itoa_small i h X.w).mono fun e w' ⟨h1,h2⟩=>⟨_,h1,h2,fun Y=>rfl⟩
theorem qdz {IT:IterP} {X:Cx}: ∀(xs:List (List UInt8)) (b o:Nat),At IT X (Enc.cellsL xs) b o-> ∀(j:Nat) (x:List UInt8),xs[j]? =some x->X.w.cell? ⟨b,o+j,none⟩=some (.string (bs x))
 |[],_,_,_,j,x,h=>by simp at h
 | y::ys,b,o,h,j,x,hj=>by
  have h':At IT X (.raw (.string (bs y))::Enc.cellsL ys) b o:=h;rw[At] at h';obtain⟨⟨_,v,hv,_,hr⟩,ht⟩:=h';cases j with
  |zero=>simp at hj;subst hj;rw[Rep] at hr;rw[<-hr];exact hv
  |succ j=>have:=qdz ys b (o+1) ht j x (by simpa using hj);rw[show o+(j+1)=o+1+j by omega];exact this
theorem z2q (xs:List (List UInt8))(sep:List UInt8)(g:(xs.length:Int)<=140737488355328/\ ((Lib.join xs sep).length:Int)<=140737488355328):Pure (ITP prog) prog 99 [.list xs.length (Enc.cellsL xs) .none,.raw (.string (bs sep))] (.raw (.string (bs (Lib.join xs sep)))):=by
 refine⟨ent99,fun X us hI hr=> ?_⟩;have fin: ∀w',Below X.w.heap.size X.w w'-> ∃v X',Ending.returned (.string (bs (Lib.join xs sep)))= .returned v/\ X'.w=w'/\ Ext X X'/\ Inv (ITP prog) St.empty X'/\ Rep (ITP prog) X' (.raw (.string (bs (Lib.join xs sep)))) v:=fun w' hx=>by
  have hg:Grows X.w w':=⟨⟨hx.os,hx.tape,hx.output,hx.size,hx.block⟩,le_refl _⟩;exact⟨_,zhw X w' [],rfl,rfl,zmn hI [] hg,zmt (ze _) hI [] hg,rfl⟩
 obtain⟨v,l,rfl,hv,u,l',rfl,hu,hl⟩:=hr;have hu:u= .string (bs sep):=hu;have hl:l'=[]:=hl;subst hu hl;rw[Rep] at hv;obtain⟨a,cap,rfl,⟨hcap,_⟩,hc,_⟩:=hv;rcases hc with hc|⟨b,o,rfl,hat⟩
 ·have hn:xs=[]:=by
   cases xs with
   |nil=>rfl
   |cons x xs=>rw[Enc.cons] at hc;cases hc
  subst hn;exact(Tryz.strings_Join_none a cap (bs sep) X.w).mono fun e w' ⟨h1,h2⟩=>by subst h1 h2;exact fin _ (Below.refl _ _)
 ·cases xs with
  |nil=>exact(Tryz.strings_Join_none _ cap (bs sep) X.w).mono fun e w' ⟨h1,h2⟩=>by subst h1 h2;exact fin _ (Below.refl _ _)
  | cons x ys=>
   have hlt:b<X.w.heap.size:=by
    have h':At (ITP prog) X (.raw (.string (bs x))::Enc.cellsL ys) b o:=hat
    rw[At] at h';exact hI.Flt h'.1.1
   have e1:((x::ys).map bs).map (·.data.toList)=x::ys:=by rw[List.map_map];exact(List.map_congr_left fun y _=>rfl).trans (List.map_id _)
   have h:=Tryz.strings_Join b o cap ((x::ys).map bs) (bs sep) X.w (fun j y hj=>by
    rw[List.getElem?_map,Option.map_eq_some_iff] at hj;obtain⟨z,hz,rfl⟩:=hj;exact qdz _ b o hat j z hz) hlt (by rw[length_map];omega) (by rw[length_map];exact hcap) (by rw[e1];show(Lib.join (x::ys) sep).length<=_;omega)
   rw[e1,length_map] at h;exact h.mono fun e w' ⟨h1,h2⟩=>by subst h1;exact fin _ h2
inductive BrO (x:List UInt8)(k:Nat)(st:Bool)(o:BS):(Int×Bool×BS) ⊕ ((Int×BS) ⊕ (BS×Int×Int))->Prop where
 |on (j:Nat) (t:BS) (hk:k<j) (hj:j<=x.length):BrO x k st o (.inl ((j:Int),false,t))
 |out (hk:k<=x.length):BrO x k st o (.inr (.inl ((k:Int),o)))
 |bad (j:Int) (h:0<=j/\ j<=x.length):BrO x k st o (.inr (.inr (0#256,j,94)))
structure BR1 (x:List UInt8)(r:BS×Int×Int):Prop where
 run:zdt 1100 x=some r
 err:r.2.2=0 \/r.2.2=94
 len:0<=r.2.1/\ r.2.1<=x.length
 one:r.2.2=0->1<=r.2.1
 same:r.2.2=0-> ∀y,y.length<1000->Ag r.2.1.toNat x y->zdt 1100 y=some r
def dig (a:UInt8):Prop:=48<=((a.toNat:Nat):Int)/\ ((a.toNat:Nat):Int)<=57
instance (a:UInt8):Decidable (dig a):=inferInstanceAs (Decidable (_/\ _))
structure CN1 (x:List UInt8)(f:List UInt8->Option (Int×Int×Int×Int))(r:Int×Int×Int×Int):Prop where
 run:f x=some r
 err:r.2.2.2=0 \/r.2.2.2=93
 len:0<=r.2.2.1/\ r.2.2.1<=x.length
 same:r.2.2.2=0-> ∀y,y.length<1000->Ag (max 1 r.2.2.1.toNat) x y->f y=some r
def TG (t:Tr):Prop:=(pre t).length<=10000
structure Two (s t:List UInt8)(k:Nat):Prop where
 ag:Ag (k+1) s t
 l1:s.length<1000
 l2:t.length<1000
def GK (s:List UInt8)(k:Nat)(e:Int):Prop:=(e=92/\ (((ix s (k:Int)).toNat:Nat):Int)≠63) \/(e=95/\ (((ix s (k:Int)).toNat:Nat):Int)=94) \/(e=90/\ (((ix s (k:Int)).toNat:Nat):Int)≠92)
def Fin1 (s:List UInt8)(k:Nat)(q:Rd):Prop:=(q.e=0/\ q.a<=k) \/(q.e≠0/\ q.a=k/\ GK s k q.e)
def atR (t:List UInt8)(r:Rd):Rd:=Rd.mk t r.a r.e r.q
def PS (s:List UInt8)(e a:Int):Prop:=e=93 \/e=94 \/((e=92 \/e=95 \/e=90)/\ 0<=a/\ a<s.length/\ (ix s a=36->e=95))
def SZ (s:List UInt8)(z:Int):Prop:=0<=z/\ z<s.length/\ ix s z=40
structure Sp {α:Type} (s:List UInt8)(r:Rd)(X:List UInt8->Option (α×Rd))(y:α×Rd):Prop where
 run:X s=some y
 txt:y.2.s=s
 lo:r.a<=y.2.a
 hi:y.2.a<=s.length
 stick:r.e≠0->y.2.e=r.e/\ y.2.a=r.a
 stl:(zdh r.q).length<=(zdh y.2.q).length
 stu:((zdh y.2.q).length:Int)<=(zdh r.q).length+(y.2.a-r.a)
 str:(∀z∈zdh r.q,SZ s z)-> ∀z∈zdh y.2.q,SZ s z
 same: ∀t k,Two s t k->Fin1 s k y.2->X t=some (y.1,atR t y.2)
 pos:r.e=0->y.2.e≠0->PS s y.2.e y.2.a
def qmi (g:Int->Rd->Option (Tr×Rd))(r:Rd)(x1:List UInt8)(c:UInt8):Option (Rd ⊕ (Tr×Rd)):=
 (bif ((((c).toNat:Nat):Int)==40) then(zaz (Lib.hasPrefix x1 ([40,63,58]:List UInt8)) (fun x3=>(bif x3 then(zaa (g 3 r) (fun x4=>(some (inr (x4.1,x4.2))))) else(zaa (g 1 r) (fun x5=>(chk ((pre x5.1).length<2^60) (zaz (zfx x5.1) (fun x6=>(some (inr (x6,x5.2))))))))))) else(bif ((((c).toNat:Nat):Int)==91) then(zaa (zdt 1100 x1) (fun x7=>(bif (x7.2.2 !=0) then(chk (-9223372036854775808<=(r.a+x7.2.1)/\ (r.a+x7.2.1)<9223372036854775808) (zaa (zhb (r.a+x7.2.1) x7.2.2 r) (fun x8=>(some (inr (zax,x8)))))) else(chk (-9223372036854775808<=(r.a+x7.2.1)/\ (r.a+x7.2.1)<9223372036854775808) (zaz (ofT x7.1) (fun x9=>(some (inr (x9,(Rd.mk r.s (r.a+x7.2.1) r.e r.q)))))))))) else(bif ((((c).toNat:Nat):Int)==46) then(chk (-9223372036854775808<=(r.a+1)/\ (r.a+1)<9223372036854775808) (zaa (zex 1100 ([10]:List UInt8)) (fun x10=>(zaz (~~~x10) (fun x11=>(zaz (ofT x11) (fun x12=>(some (inr (x12,(Rd.mk r.s (r.a+1) r.e r.q))))))))))) else(zda (τ:=Bool) (bif ((((c).toNat:Nat):Int)==42) then(some (inl (((((c).toNat:Nat):Int)==42)))) else(bif ((((c).toNat:Nat):Int)==43) then(some (inl (((((c).toNat:Nat):Int)==43)))) else(bif ((((c).toNat:Nat):Int)==63) then(some (inl (((((c).toNat:Nat):Int)==63)))) else(some (inl (((((c).toNat:Nat):Int)==123))))))) (fun j2=>(bif j2 then(zaa (zhb r.a 92 r) (fun x13=>(some (inl (x13))))) else(zda (τ:=Bool) (bif ((((c).toNat:Nat):Int)==94) then(some (inl (((((c).toNat:Nat):Int)==94)))) else(some (inl (((((c).toNat:Nat):Int)==36))))) (fun j3=>(bif j3 then(zaa (zhb r.a 95 r) (fun x14=>(some (inl (x14))))) else(some (inl (r))))))))))))
def atomB (x1:List UInt8)(j1:Rd):Option (Tr×Rd):=
 (zaz (zhe x1) (fun x15=>(bif x15.2 then(chk (-9223372036854775808<=(j1.a+2)/\ (j1.a+2)<9223372036854775808) (zaz (ofT x15.1) (fun x16=>(some (x16,(Rd.mk j1.s (j1.a+2) j1.e j1.q)))))) else(zaa (zas x1 zat) (fun x17=>(bif (x17.2.2 !=0) then(zaa (zhb j1.a 90 j1) (fun x18=>(some (zax,x18)))) else(chk (-9223372036854775808<=(j1.a+x17.2.1)/\ (j1.a+x17.2.1)<9223372036854775808) (zaa (zkk 1100 x17.1) (fun x19=>(some (x19,(Rd.mk j1.s (j1.a+x17.2.1) j1.e j1.q))))))))))))
theorem z4s (g:Int->Rd->Option (Tr×Rd))(t:List UInt8)(a:Nat)(ha:a<=t.length)(q:Stk)(c:UInt8)(u:List UInt8)(h:t.drop a=c::u):
 zhf 1100 g (Rd.mk t (a:Int) 0 q)=zda (qmi g (Rd.mk t (a:Int) 0 q) (c::u) c) (fun j1=>atomB (c::u) j1):=by
 unfold zhf;refine zt (by simp only;omega) (zv fun x hx=> ?_);have hx:x=c::u:=by rw[<-hx];simp only;rw[zmb,h]
 subst hx;rw[zbo (len1 c u)];rfl
theorem zxb (c:Int)(h0:0<=c)(h:c<256):zkk 1100 c=some (ofT (bit c.toNat)):=by
 unfold zkk;have hq:=(z6d c.toNat (by omega)).2.2.2.2.1;exact zt ⟨h0,h⟩ (zaf (bit c.toNat) hq (zv fun x hx=>by rw[hx]))
theorem set10:zex 1100 ([10]:List UInt8)=some (bit 10):=(z6d 10 (by omega)).2.2.2.2.1
theorem of_int {c:UInt8} {n:Nat} (hn:n<256)(h:((c.toNat:Nat):Int)=(n:Int)):c=UInt8.ofNat n:=by
 apply UInt8.toNat_inj.1;simp;omega
structure AtS (n:Nat)(s:List UInt8)(a:Nat)(q:Stk)(c:UInt8)(y:Tr×Rd):Prop where
 sp:Sp s (Rd.mk s (a:Int) 0 q) (fun t=>zhf 1100 (zjh (qjf 1100 n)) (Rd.mk t (a:Int) 0 q)) y
 tg:TG y.1
 adv:y.2.e=0->(a:Int)<y.2.a
 qm:c=63->y.2.e=92/\ y.2.a=a
theorem z8i:((List.range 256).all fun n=>decide (zly (byT zat (UInt8.ofNat n))=some false)&& !Lib.hasPrefix (byT zat (UInt8.ofNat n)) ([94]:List UInt8)&&(byT zat (UInt8.ofNat n)).head?.all fun x=>([0,124,41,40,91,46,42,43,63,123,94,36]:List UInt8).all fun y=>x !=y)=true:=by decide+kernel
theorem qja (c:Nat)(h:c<256):ofT (bit c)=brT (bit c):=by
 have:bit c≠0#256:=by
  intro e;have h1:=z0b c h;rw[e] at h1;simp at h1
 rw[ofT,if_neg this];rfl
theorem qpb (c:Nat)(h:c<256):bit c≠0#256:=by
 intro e;have h1:=z0b c h;rw[e] at h1;simp at h1
def zjs (s:BS):List UInt8:=
 if s=bit ((elN s 256).headD 0) then byT zat (UInt8.ofNat ((elN s 256).headD 0))
 else if s= ~~~ bit 10 then[46]
 else if(elN s 256).length>128/\ s≠ ~~~ 0#256 then[91,94]++gts (zek (~~~ s))++[93]
 else[91]++gts (zek s)++[93]
theorem qnv (s:BS):(elN s 256).length+(elN (~~~ s) 256).length=256:=by
 have h: ∀l:List Nat,(∀k∈l,k<256)->(l.filter fun j=>s.getLsbD j).length+(l.filter fun j=>(~~~ s).getLsbD j).length=l.length:=by
  intro l;induction l with
  |nil=>intro _;rfl
  | cons k l ih=>
   intro hl;have hk:=hl k (by simp);have:=ih fun j hj=>hl j (by simp[hj]);have hn:(~~~ s).getLsbD k= !s.getLsbD k:=by simp[hk]
   rw[List.filter_cons,List.filter_cons,hn];cases s.getLsbD k with
   |true=>rw[if_pos rfl,if_neg (by decide),length_cons,length_cons];omega
   |false=>rw[if_neg (by decide),if_pos (by decide),length_cons,length_cons];omega
 have:=h (List.range 256) (fun k hk=>mem_range.1 hk);simpa[elN] using this
theorem qnl:([91]++gts (zek (~~~ 0#256))++[93]:List UInt8).length=11:=by decide+kernel
theorem qgd (s:BS):(elN s 256).headD 0<256:=by
 cases h:elN s 256 with
 |nil=>simp
 |cons c l=>exact el_lt (s:=s) (by rw[h];simp)
theorem qfy (s:BS):(zjs s).length<=4*128+3:=by
 unfold zjs;split
 ·have:=(ztb (UInt8.ofNat ((elN s 256).headD 0))).hi;omega
 ·split
  ·simp
  ·split
   ·rename_i h;have h1:=(zoy (~~~ s)).1;have h2:=qnv s;simp only[length_append,length_cons,length_nil];omega
   ·rename_i h;by_cases ha:s= ~~~ 0#256
    ·rw[ha,qnl];omega
    ·have h1:=(zoy s).1;have h2: ¬(elN s 256).length>128:=fun h2=>h ⟨h2,ha⟩;simp only[length_append,length_cons,length_nil];omega
theorem qlk {s:BS} (h:s≠ ~~~ 0#256): ~~~ s≠0#256:=by
 intro e;apply h;rw[<-e];simp
def wP (b:Bool)(u:List UInt8):List UInt8:=bif b then[40,63,58]++u++[41] else u
mutual
def tP:Tr->List UInt8
 | .mk k s mn mx l=>if k=2 then zjs s else if k=6 then[40]++tP1 l++[41] else if k=5 then tPr l++z5f mn mx else if k=3 then tPc l else if k=4 then tPa true l else[]
def tP1:List Tr->List UInt8
 |[]=>[]
 |x::_=>tP x
def tPr:List Tr->List UInt8
 |[]=>[]
 |x::_=>wP (x.k==3||x.k==4||x.k==5) (tP x)
def tPc:List Tr->List UInt8
 |[]=>[]
 |x::l=>wP (x.k==4) (tP x)++tPc l
def tPa:Bool->List Tr->List UInt8
 |_,[]=>[]
 |b,x::l=>(if b=true then[] else[124])++tP x++tPa false l
end
theorem qgk (b:Bool)(u:List UInt8):(wP b u).length<=u.length+4:=by
 cases b<;>simp[wP]
mutual
theorem z3n: ∀t:Tr,(tP t).length+10<=600*(pre t).length
 | .mk k s mn mx l=>by
  have h1:=qfj l;have h2:=qfy s;have h3:=qaf mn mx;have hp:(pre (.mk k s mn mx l)).length=1+(zck l).length:=by simp[pre];omega
  rw[hp,tP];split
  ·omega
  split
  ·simp only[length_append,length_cons,length_nil];omega
  split
  ·simp only[length_append];omega
  split
  ·omega
  split
  ·have:=h1.2.2.2 true;omega
  ·simp;omega
theorem qfj: ∀l:List Tr,(tP1 l).length<=600*(zck l).length/\ (tPr l).length<=600*(zck l).length/\ (tPc l).length<=600*(zck l).length/\ ∀b,(tPa b l).length<=600*(zck l).length
 |[]=>⟨by simp[tP1],by simp[tPr],by simp[tPc],fun b=>by simp[tPa]⟩
 | x::l=>by
  have h1:=z3n x;have h2:=qfj l;have w1:=qgk (x.k==3||x.k==4||x.k==5) (tP x);have w2:=qgk (x.k==4) (tP x);have hp:(zck (x::l)).length=(pre x).length+(zck l).length:=by simp[zck]
  rw[hp,tP1,tPr,tPc];refine⟨by omega,by omega,?_,fun b=> ?_⟩
  ·rw[length_append];omega
  ·rw[tPa,length_append,length_append];have h3:=h2.2.2.2 false;have h4:(if b=true then([]:List UInt8) else[124]).length<=1:=by split<;>simp
   omega
end
def PR (t:Tr):Prop:=(pre t).length<1000/\ CR t
instance (t:Tr):Decidable (PR t):=by unfold PR CR;infer_instance
theorem PR.sub {t x:Tr} (h:PR t)(hx:x∈t.l):PR x/\ (pre x).length<(pre t).length:=by
 have hpl:(pre t).length=1+(zck t.l).length:=by rw[zgh];simp;omega
 have hlx:=zgj hx;have hc:CRL t.l:=((ztf t).1 h.2).2;have hcx:CR x:=by
  unfold CRL at hc;unfold CR;rw[all_eq_true] at hc⊢;intro y hy;refine hc y ?_;clear hc hlx hpl h;generalize t.l=l at hx
  induction l with
  |nil=>cases hx
  | cons z l ih=>
   rw[zck,mem_append];rcases List.mem_cons.1 hx with rfl|hx
   ·exact .inl hy
   ·exact .inr (ih hx)
 have:=h.1;exact⟨⟨by omega,hcx⟩,by omega⟩
theorem qnk (n:Nat)(h:n<20):Lib.decDigits n=zhh n:=by
 unfold zhh;by_cases h1:n<10
 ·rw[if_pos h1,Lib.decDigits_one h1]
 ·rw[if_neg h1,Lib.decDigits_two h1 (by omega)];have e1:n/10=1:=by omega
  have e2:n%10=n-10:=by omega
  rw[e1,e2,show 48+(n-10)=38+n by omega];rfl
def itP:CallP:=fun f args=>match f,args with
 |146,[.raw (.int .i64 n)]=>if 0<=n/\ n<20 then some (.raw (.string (bs (zhh n.toNat)))) else none
 |_,_=>none
theorem itP_ok:qdd prog itP:=by
 intro f args a h;unfold itP at h;split at h
 ·split at h
  ·rename_i n hn;cases h;obtain⟨m,rfl⟩: ∃m:Nat,(m:Int)=n:=⟨n.toNat,by omega⟩;have:=z3r m (by omega);rw[qnk m (by omega)] at this;exact this
  ·cases h
 ·cases h
theorem goodC:Good prog itP noS:=⟨mix,ents,itP_ok,(fun _ _ _ _ _ h=>nomatch h)⟩
noncomputable def run1c (f:Nat)(args:List AV)(r:AV):Bool:=match zjl prog itP (evQ true prog itP noS 300) f args with
 |some x=>z4q x r
 |none=>false
theorem qlf {f:Nat} {args:List AV} {r:AV} (h:run1c f args r=true):Pure (ITP prog) prog f args r:=by
 unfold run1c at h;split at h
 ·rename_i x hx;rw[z5i _ _ h] at hx;exact zfc true goodC 300 hx
 ·cases h
noncomputable def zlb (a:Nat)(b:Nat):Bool:=run1c 98 [.agg [.raw (.int .i64 (a:Int)),.raw (.int .i64 ((b:Int)-1))]] (.raw (.string (bs (z5f (a:Int) ((b:Int)-1)))))
theorem cnt_0:((List.range 18).all fun b=>zlb 0 b)=true:=by kernel_rfl
theorem cnt_1:((List.range 18).all fun b=>zlb 1 b)=true:=by kernel_rfl
theorem cnt_2:((List.range 18).all fun b=>zlb 2 b)=true:=by kernel_rfl
theorem cnt_3:((List.range 18).all fun b=>zlb 3 b)=true:=by kernel_rfl
theorem cnt_4:((List.range 18).all fun b=>zlb 4 b)=true:=by kernel_rfl
theorem cnt_5:((List.range 18).all fun b=>zlb 5 b)=true:=by kernel_rfl
theorem cnt_6:((List.range 18).all fun b=>zlb 6 b)=true:=by kernel_rfl
theorem cnt_7:((List.range 18).all fun b=>zlb 7 b)=true:=by kernel_rfl
theorem cnt_8:((List.range 18).all fun b=>zlb 8 b)=true:=by kernel_rfl
theorem cnt_9:((List.range 18).all fun b=>zlb 9 b)=true:=by kernel_rfl
theorem cnt_10:((List.range 18).all fun b=>zlb 10 b)=true:=by kernel_rfl
theorem cnt_11:((List.range 18).all fun b=>zlb 11 b)=true:=by kernel_rfl
theorem cnt_12:((List.range 18).all fun b=>zlb 12 b)=true:=by kernel_rfl
theorem cnt_13:((List.range 18).all fun b=>zlb 13 b)=true:=by kernel_rfl
theorem cnt_14:((List.range 18).all fun b=>zlb 14 b)=true:=by kernel_rfl
theorem cnt_15:((List.range 18).all fun b=>zlb 15 b)=true:=by kernel_rfl
theorem cnt_16:((List.range 18).all fun b=>zlb 16 b)=true:=by kernel_rfl
theorem cnt_tab: ∀a:Nat,a<17->((List.range 18).all fun b=>zlb a b)=true
 |0,_=>cnt_0
 |1,_=>cnt_1
 |2,_=>cnt_2
 |3,_=>cnt_3
 |4,_=>cnt_4
 |5,_=>cnt_5
 |6,_=>cnt_6
 |7,_=>cnt_7
 |8,_=>cnt_8
 |9,_=>cnt_9
 |10,_=>cnt_10
 |11,_=>cnt_11
 |12,_=>cnt_12
 |13,_=>cnt_13
 |14,_=>cnt_14
 |15,_=>cnt_15
 |16,_=>cnt_16
 |n+17,h=>by omega
theorem k_count (b:Bd)(h:(0<=b.lo/\ b.lo<17)/\ (-1<=b.mo/\ b.mo<17)):Pure (ITP prog) prog 98 [.agg (Enc.cells b)] (.raw (.string (bs (z5f b.lo b.mo)))):=by
 obtain⟨lo,mo⟩:=b;simp only at h;obtain⟨m,rfl⟩: ∃m:Nat,(m:Int)=lo:=⟨lo.toNat,by omega⟩;obtain⟨n,rfl⟩: ∃n:Nat,(n:Int)-1=mo:=⟨(mo+1).toNat,by omega⟩;exact qlf (all_eq_true.1 (cnt_tab m (by omega)) n (mem_range.2 (by omega)))
end Go.Ab
