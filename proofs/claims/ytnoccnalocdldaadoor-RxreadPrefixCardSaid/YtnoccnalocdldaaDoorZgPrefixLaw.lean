import Derived.Test.YtnoccnalocdldaaDoorZgDb
import Derived.Test.YtnoccnalocdldaaDoorCards
import Derived.Test.YtnoccnalocdldaaDoorTie
import Derived.SevenTiedAt
set_option linter.all false
set_option maxRecDepth 100000
set_option maxHeartbeats 4000000
open Sum (inl inr)
open Nat (le_refl)
open List (length length_cons length_append mem_append isEmpty mem_singleton getElem?_drop)
open Go.Proofs.Tryd (prog)
namespace Go.Ab
open Go Go.RowKit Go.Fwd Go.Proofs
def dig (a:UInt8):Prop:=48<=((a.toNat:Nat):Int)/\ ((a.toNat:Nat):Int)<=57
instance (a:UInt8):Decidable (dig a):=inferInstanceAs (Decidable (_/\ _))
theorem qhw {a:UInt8} (h:dig a):IntKind.u8.wrap (((a.toNat:Nat):Int)-48)=((a.toNat:Nat):Int)-48:=by
 have:((List.range 256).all fun c=>decide ((c:Int)<48)||decide (IntKind.u8.wrap ((c:Int)-48)=(c:Int)-48))=true:=by decide+kernel
 have:=List.all_eq_true.1 this a.toNat (List.mem_range.2 a.toNat_lt);simp only[Bool.or_eq_true,decide_eq_true_eq] at this;rcases this with h1|h1
 ·have:=h.1;omega
 ·exact h1
def zsl (s:List UInt8):Int×Int->Option ((Int×Int) ⊕ ((Int×Int) ⊕ (Int×Int))):=
 (fun s1=>(bif (decide (s1.2<(length s:Int))) then(bif (decide (s1.2<2)) then(chk (0<=s1.2/\ s1.2<(length s:Int)) (zbe (ix s s1.2) (fun x1=>(bif (decide ((((x1).toNat:Nat):Int)>=48)) then(chk (0<=s1.2/\ s1.2<(length s:Int)) (zbe (ix s s1.2) (fun x2=>(bif (decide ((((x2).toNat:Nat):Int)<=57)) then(chk (-9223372036854775808<=(10*s1.1)/\ (10*s1.1)<9223372036854775808) (chk (0<=s1.2/\ s1.2<(length s:Int)) (zbe (ix s s1.2) (fun x3=>(chk (-9223372036854775808<=(IntKind.u8.wrap ((((x3).toNat:Nat):Int)-48))/\ (IntKind.u8.wrap ((((x3).toNat:Nat):Int)-48))<9223372036854775808) (chk (-9223372036854775808<=((10*s1.1)+(IntKind.u8.wrap ((((x3).toNat:Nat):Int)-48)))/\ ((10*s1.1)+(IntKind.u8.wrap ((((x3).toNat:Nat):Int)-48)))<9223372036854775808) (chk (-9223372036854775808<=(s1.2+1)/\ (s1.2+1)<9223372036854775808) (some (inl (((10*s1.1)+(IntKind.u8.wrap ((((x3).toNat:Nat):Int)-48))),(s1.2+1))))))))))) else(some (inr (inl (s1.1,s1.2)))))))) else(some (inr (inl (s1.1,s1.2)))))))) else(some (inr (inl (s1.1,s1.2))))) else(some (inr (inl (s1.1,s1.2))))))
theorem nm_go (s:List UInt8)(v:Int)(k:Nat)(h0:0<=v/\ v<=1000)(hk:k<s.length)(h2:k<2)(hd:dig (ix s (k:Int))):zsl s (v,(k:Int))=some (.inl (10*v+(((ix s (k:Int)).toNat:Nat)-48:Int),((k+1:Nat):Int))):=by
 have hw:=qhw hd;have:=hd.1;have:=hd.2;unfold zsl;simp only[zbe,hw,decide_eq_true (show(k:Int)<(s.length:Int) by omega),decide_eq_true (show(k:Int)<2 by omega),decide_eq_true (show(((ix s (k:Int)).toNat:Nat):Int)>=48 from hd.1),decide_eq_true hd.2,cond_true];refine zz (by omega) (zz (by omega) (zz (by omega) (zz (by omega) (zz (by omega) (zz (by omega) (zz (by omega) ?_))))));simp
theorem z3r (s:List UInt8)(v:Int)(k:Nat)(h: ¬(k<s.length/\ k<2/\ dig (ix s (k:Int)))):zsl s (v,(k:Int))=some (.inr (.inl (v,(k:Int)))):=by
 unfold zsl;by_cases h1:k<s.length
 ·by_cases h2:k<2
  ·have h3: ¬dig (ix s (k:Int)):=fun h3=>h ⟨h1,h2,h3⟩;simp only[zbe,decide_eq_true (show(k:Int)<(s.length:Int) by omega),decide_eq_true (show(k:Int)<2 by omega),cond_true];by_cases h4:(((ix s (k:Int)).toNat:Nat):Int)>=48
   ·have h5: ¬(((ix s (k:Int)).toNat:Nat):Int)<=57:=fun h5=>h3 ⟨h4,h5⟩;simp only[decide_eq_true h4,decide_eq_false h5,cond_true,cond_false];exact zz (by omega) (zz (by omega) rfl)
   ·simp only[decide_eq_false h4,cond_false];exact zz (by omega) rfl
  ·simp only[decide_eq_true (show(k:Int)<(s.length:Int) by omega),decide_eq_false (show ¬(k:Int)<2 by omega),cond_true,cond_false]
 ·simp only[decide_eq_false (show ¬(k:Int)<(s.length:Int) by omega),cond_false]
theorem qji (s:List UInt8): ∀(m k:Nat) (v:Int),k+m=2->0<=v->(k=0->v=0)->(k=1->v<=9)->(k=2->v<=99)->k<=s.length-> ∀f,m<f->
 ∃ (w:Int) (j:Nat),zbg (zsl s) f (v,(k:Int))=some (.inl (w,(j:Int)))/\ 0<=w/\ w<=99/\ k<=j/\ j<=2/\ j<=s.length/\
  (∀y,Ag (j+1) s y->zbg (zsl y) f (v,(k:Int))=some (.inl (w,(j:Int))))
 | 0,k,v,hm,h0,hv0,hv1,hv2,hk,f,hf=>by
  obtain⟨f,rfl⟩: ∃g,f=g+1:=⟨f-1,by omega⟩;have:=hv2 (by omega);refine⟨v,k,by rw[zbg,z3r s v k (by omega)],h0,this,le_refl _,by omega,hk,fun y hy=>by rw[zbg,z3r y v k (by omega)]⟩
 | m+1,k,v,hm,h0,hv0,hv1,hv2,hk,f,hf=>by
  obtain⟨f,rfl⟩: ∃g,f=g+1:=⟨f-1,by omega⟩;have hb:v<=9:=by
   by_cases hk0:k=0
   ·have:=hv0 hk0;omega
   ·exact hv1 (by omega)
  by_cases hd:k<s.length/\ k<2/\ dig (ix s (k:Int))
  ·obtain⟨d1,d2,d3⟩:=hd;have g1:=d3.1;have g2:=d3.2;obtain⟨w,j,r1,r2,r3,r4,r5,r6,r7⟩:=qji s m (k+1) (10*v+(((ix s (k:Int)).toNat:Nat)-48:Int)) (by omega) (by omega) (by omega) (fun h=>by have:=hv0 (by omega);omega) (fun h=>by have:=hv1 (by omega);omega) (by omega) f (by omega);refine⟨w,j,by rw[zbg,nm_go s v k ⟨h0,by omega⟩ d1 d2 d3];exact r1,r2,r3,by omega,r5,r6,fun y hy=> ?_⟩;have e:ix s (k:Int)=ix y (k:Int):=hy.ix (by omega);rw[zbg,nm_go y v k ⟨h0,by omega⟩ (by have:=hy.2.1;omega) d2 (by rw[<-e];exact d3), <-e];exact r7 y hy
  ·refine⟨v,k,by rw[zbg,z3r s v k hd],h0,by omega,le_refl _,by omega,hk,fun y hy=> ?_⟩;have e:ix s (k:Int)=ix y (k:Int):=hy.ix (by omega);rw[zbg,z3r y v k (fun h=>hd ⟨by have:=hy.1;omega,h.2.1,by rw[e];exact h.2.2⟩)]
theorem zuc (s:List UInt8): ∃(w:Int) (j:Nat),zfu 1100 s=some (w,(j:Int))/\ 0<=w/\ w<=99/\ j<=s.length/\ (∀y,Ag (j+1) s y->zfu 1100 y=some (w,(j:Int))):=by
 obtain⟨w,j,h1,h2,h3,_,_,h6,h7⟩:=qji s 2 0 0 rfl (by omega) (fun _=>rfl) (fun h=>by omega) (fun h=>by omega) (by omega) 1100 (by omega);have: ∀y,zbg (zsl y) 1100 (0,((0:Nat):Int))=some (.inl (w,(j:Int)))->zfu 1100 y=some (w,(j:Int)):=fun y h=>by
  unfold zfu;exact zbl (w,(j:Int)) h rfl
 exact⟨w,j,this s h1,h2,h3,h6,fun y hy=>this y (h7 y hy)⟩
def brcA (s:List UInt8)(w:Int)(j:Int):Option ((Int×Int) ⊕ (Int×Int×Int×Int)):=
 (bif (decide (j>0)) then(bif (decide ((1+j)<(length s:Int))) then(chk (0<=(1+j)/\ (1+j)<(length s:Int)) (zbe (ix s (1+j)) (fun x3=>(bif ((((x3).toNat:Nat):Int)==44) then(chk (-9223372036854775808<=((1+j)+1)/\ ((1+j)+1)<9223372036854775808) (chk (0<=((1+j)+1)/\ ((1+j)+1)<=(length s:Int)/\ (length s:Int)<=(length s:Int)) (zbe (sub s ((1+j)+1) (length s:Int)) (fun x4=>(zai (zfu 1100 x4) (fun x5=>(zdl (τ:=Int) (bif (x5.2==0) then(some (inl ((-1)))) else(some (inl (x5.1)))) (fun j2=>(chk (-9223372036854775808<=(((1+j)+1)+x5.2)/\ (((1+j)+1)+x5.2)<9223372036854775808) (some (inl (j2,(((1+j)+1)+x5.2))))))))))))) else(some (inl (w,(1+j)))))))) else(some (inl (w,(1+j))))) else(some (inl (w,(1+j)))))
theorem qik (s:List UInt8)(hl:s.length<1000)(w:Int)(hw:0<=w/\ w<=99)(j:Nat)(hj:1+j<=s.length):
 ∃(v:Int) (i:Nat),brcA s w (j:Int)=some (.inl (v,(i:Int)))/\ -1<=v/\ v<=99/\ 1+j<=i/\ i<=s.length/\ (∀y,y.length<1000->Ag (i+1) s y->brcA y w (j:Int)=some (.inl (v,(i:Int)))):=by
 by_cases hc:0<j/\ 1+j<s.length/\ (((ix s (1+(j:Int))).toNat:Nat):Int)=44
 ·obtain⟨c1,c2,c3⟩:=hc;obtain⟨n,m,h1,h2,h3,h4,h5⟩:=zuc (s.drop (j+2));have hlen:(s.drop (j+2)).length=s.length-(j+2):=by simp
  have run: ∀y:List UInt8,y.length<1000->1+j<y.length->(((ix y (1+(j:Int))).toNat:Nat):Int)=44->zfu 1100 (y.drop (j+2))=some (n,(m:Int))->brcA y w (j:Int)=some (.inl ((if(m:Int)=0 then-1 else n),((j+2+m:Nat):Int))):=fun y hy hy2 hy3 hn=>by
   unfold brcA;rw[decide_eq_true (show(j:Int)>0 by omega),cond_true,decide_eq_true (show 1+(j:Int)<(y.length:Int) by omega),cond_true];refine zz (by omega) (zak fun a ha=> ?_);subst ha;rw[hy3,show((44:Int)==44)=true from rfl,cond_true];refine zz (by omega) (zz (by omega) (zak fun a ha=> ?_));rw[show 1+(j:Int)+1=((j+2:Nat):Int) by omega,zen] at ha;subst ha;refine zan _ hn ?_;simp only;refine zbl (if(m:Int)=0 then-1 else n) ?_ ?_
   ·by_cases hm:(m:Int)=0
    ·rw[if_pos hm,hm];rfl
    ·rw[if_neg hm,beq_eq_false_iff_ne.2 hm,cond_false]
   ·have:m<=1000:=by omega
    refine zz (by omega) ?_;rw[show 1+(j:Int)+1+(m:Int)=((j+2+m:Nat):Int) by omega]
  refine⟨_,_,run s hl c2 c3 h1,by split<;>omega,by split<;>omega,by omega,by omega,fun y hy ha=> ?_⟩;refine run y hy (by have:=ha.2.1;omega) (by rw[<-ha.ix (by omega)];exact c3) (h5 _ (ha.drop (by omega)))
 ·have run: ∀y:List UInt8,¬(0<j/\ 1+j<y.length/\ (((ix y (1+(j:Int))).toNat:Nat):Int)=44)->brcA y w (j:Int)=some (.inl (w,((1+j:Nat):Int))):=fun y h=>by
   unfold brcA;by_cases h1:0<j
   ·rw[decide_eq_true (show(j:Int)>0 by omega),cond_true];by_cases h2:1+j<y.length
    ·rw[decide_eq_true (show 1+(j:Int)<(y.length:Int) by omega),cond_true];refine zz (by omega) (zak fun a ha=> ?_);subst ha;rw[beq_eq_false_iff_ne.2 (fun e=>h ⟨h1,h2,e⟩),cond_false];simp
    ·rw[decide_eq_false (show ¬1+(j:Int)<(y.length:Int) by omega),cond_false];simp
   ·rw[decide_eq_false (show ¬(j:Int)>0 by omega),cond_false];simp
  refine⟨w,1+j,run s hc,by omega,by omega,le_refl _,hj,fun y hy ha=>run y fun h=>hc ⟨h.1,by have:=ha.1;omega,?_⟩⟩;rw[ha.ix (by omega)];exact h.2.2
def brcB (y:List UInt8)(w v j i:Int):Option (Int×Int×Int×Int):=
 bif (j==0) then(some (0,0,i,93)) else(bif (i==(length y:Int)) then(some (0,0,i,93)) else(chk (0<=i/\ i<(length y:Int)) (zbe (ix y i) (fun x6=>(bif ((((x6).toNat:Nat):Int) !=125) then(some (0,0,i,93)) else(zdl (τ:=Unit) (bif (v==0) then(some (inr (0,0,0,93))) else(bif (decide (w>16)) then(some (inr (0,0,0,93))) else(bif (decide (v>16)) then(some (inr (0,0,0,93))) else(bif (v !=(-1)) then(bif (decide (v<w)) then(some (inr (0,0,0,93))) else(some (inl ()))) else(some (inl ())))))) (fun j3=>(chk (-9223372036854775808<=(i+1)/\ (i+1)<9223372036854775808) (some (w,v,(i+1),0))))))))))
structure CN1 (x:List UInt8)(f:List UInt8->Option (Int×Int×Int×Int))(r:Int×Int×Int×Int):Prop where
 run:f x=some r
 err:r.2.2.2=0 \/r.2.2.2=93
 len:0<=r.2.2.1/\ r.2.2.1<=x.length
 same:r.2.2.2=0-> ∀y,y.length<1000->Ag (max 1 r.2.2.1.toNat) x y->f y=some r
theorem z6f (x:List UInt8)(hl:x.length<1000)(h0:1<=x.length): ∃r,CN1 x (zhj 1100) r:=by
 obtain⟨w,j,n1,n2,n3,n4,n5⟩:=zuc (x.drop 1);have hlen:(x.drop 1).length=x.length-1:=by simp
 obtain⟨v,i,a1,a2,a3,a4,a5,a6⟩:=qik x hl w ⟨n2,n3⟩ j (by omega)
 have run: ∀y:List UInt8,y.length<1000->1<=y.length->j<=1000->zfu 1100 (y.drop 1)=some (w,(j:Int))->brcA y w (j:Int)=some (.inl (v,(i:Int)))-> ∀R,
  brcB y w v (j:Int) (i:Int)=some R->zhj 1100 y=some R:=by
  intro y hy hy1 hj h1 h2 R hR;unfold zhj;refine zz (by omega) (zak fun a ha=> ?_);rw[show(1:Int)=((1:Nat):Int) from rfl,zen] at ha;subst ha;refine zan _ h1 ?_;simp only;refine zz (by omega) ?_;exact zbl (v,(i:Int)) h2 hR
 by_cases hj0:j=0
 ·refine⟨_,run x hl h0 (by omega) n1 a1 (0,0,(i:Int),93) (by unfold brcB;rw[show((j:Int)==0)=true by simp[hj0],cond_true]),.inr rfl,by simp only;omega,fun h=>by simp at h⟩
 ·have c1 :((j:Int)==0)=false:=beq_eq_false_iff_ne.2 (by omega);by_cases hi:i=x.length
  ·refine⟨_,run x hl h0 (by omega) n1 a1 (0,0,(i:Int),93) (by unfold brcB;rw[c1,cond_false,show((i:Int)==(x.length:Int))=true by simp[hi],cond_true]),.inr rfl,by simp only;omega,fun h=>by simp at h⟩
  ·have c2: ∀y:List UInt8,i<y.length->((i:Int)==(y.length:Int))=false:=fun y h=>beq_eq_false_iff_ne.2 (by omega);by_cases h9:(((ix x (i:Int)).toNat:Nat):Int)=125
   ·by_cases hg:v≠0/\ w<=16/\ v<=16/\ (v= -1 \/w<=v)
    ·have fin: ∀y:List UInt8,y.length<1000->Ag (i+1) x y->zhj 1100 y=some (w,v,(i:Int)+1,0):=fun y hy ha=>by
      have hyl:=ha.2.1;refine run y hy (by omega) (by omega) (n5 _ (ha.drop (by omega))) (a6 y hy ha) _ ?_;unfold brcB;rw[c1,cond_false,c2 y (by omega),cond_false];refine zz (by omega) (zak fun a hx=> ?_);rw[<-ha.ix (by omega)] at hx;subst hx;rw[h9,show((125:Int) !=125)=false from rfl,cond_false];refine zbl () ?_ (zz (by omega) rfl);obtain⟨g1,g2,g3,g4⟩:=hg;rw[beq_eq_false_iff_ne.2 g1,cond_false,decide_eq_false (show ¬w>16 by omega),cond_false,decide_eq_false (show ¬v>16 by omega),cond_false];by_cases g5:v= -1
      ·rw[g5];rfl
      ·rw[bne_iff_ne.2 g5,cond_true,decide_eq_false (show ¬v<w by omega),cond_false]
     refine⟨_,fin x hl ⟨by omega,by omega,fun _ _=>rfl⟩,.inl rfl,by simp only;omega,fun _ y hy ha=>fin y hy (ha.mono (by simp only;omega))⟩
    ·refine⟨_,run x hl h0 (by omega) n1 a1 (0,0,0,93) ?_,.inr rfl,by simp only;omega,fun h=>by simp at h⟩;unfold brcB;rw[c1,cond_false,c2 x (by omega),cond_false];refine zz (by omega) (zak fun a hx=> ?_);subst hx;rw[h9,show((125:Int) !=125)=false from rfl,cond_false];refine zlb (0,0,0,93) ?_ rfl;by_cases g1:v=0
     ·rw[g1];rfl
     ·rw [beq_eq_false_iff_ne.2 g1,cond_false];by_cases g2:w<=16
      ·rw [decide_eq_false (show ¬w>16 by omega),cond_false];by_cases g3:v<=16
       ·have g4:v≠ -1/\ v<w:=by
         refine⟨fun e=>hg ⟨g1,g2,g3,.inl e⟩,?_⟩;by_cases h:v<w
         ·exact h
         ·exact absurd ⟨g1,g2,g3,.inr (by omega)⟩ hg
        rw[decide_eq_false (show ¬v>16 by omega),cond_false,bne_iff_ne.2 g4.1,cond_true,decide_eq_true g4.2,cond_true]
       ·rw[decide_eq_true (show v>16 by omega),cond_true]
      ·rw[decide_eq_true (show w>16 by omega),cond_true]
   ·refine⟨_,run x hl h0 (by omega) n1 a1 (0,0,(i:Int),93) ?_,.inr rfl,by simp only;omega,fun h=>by simp at h⟩;unfold brcB;rw[c1,cond_false,c2 x (by omega),cond_false];refine zz (by omega) (zak fun a hx=> ?_);subst hx;rw[bne_iff_ne.2 h9,cond_true]
def qja (a:UInt8)(y:List UInt8):Option (Int×Int×Int×Int):=
 bif ((((a).toNat:Nat):Int)==42) then(some (0,(-1),1,0)) else(bif ((((a).toNat:Nat):Int)==43) then(some (1,(-1),1,0)) else(bif ((((a).toNat:Nat):Int)==63) then(some (0,1,1,0)) else(bif ((((a).toNat:Nat):Int)==123) then(zai (zhj 1100 y) (fun x2=>(some (x2.1,x2.2.1,x2.2.2.1,x2.2.2.2)))) else(some (1,1,0,0)))))
theorem qbc (x:List UInt8)(hl:x.length<1000): ∃r,CN1 x (zlh 1100) r:=by
 match x with
 |[]=>exact⟨_,rfl,.inl rfl,by simp,fun _ y _ h=>absurd h.1 (by simp)⟩
 | a :: t=>
  have run: ∀y:List UInt8,y.length<1000->Ag 1 (a::t) y-> ∀R,qja a y=some R->zlh 1100 y=some R:=by
   intro y hy ha R hR;obtain⟨u,rfl,_⟩:=Ag.cons (m:=0) ha;unfold zlh;rw[show(a::u==([]:List UInt8))=false from rfl,cond_false];refine zz (qje a u) (zak fun b hb=> ?_);rw[show ix (a::u) (0:Int)=a from rfl] at hb;subst hb;exact hR
  have same:Ag 1 (a::t) (a::t):=⟨by simp,by simp,fun _ _=>rfl⟩;have one: ∀R:Int×Int×Int×Int,(∀y:List UInt8,qja a y=some R)->R.2.2.2=0->(R.2.2.1=0 \/R.2.2.1=1)-> ∃r,CN1 (a::t) (zlh 1100) r:=fun R h e1 e2=>by
   refine⟨R,run _ hl same R (h _),.inl e1,by simp only[length_cons];omega,fun _ y hy ha=>run y hy (ha.mono (by omega)) R (h y)⟩
  by_cases h1:((a.toNat:Nat):Int)=42
  ·exact one (0,-1,1,0) (fun y=>by unfold qja;rw[h1];rfl) rfl (.inr rfl)
  ·by_cases h2:((a.toNat:Nat):Int)=43
   ·exact one (1,-1,1,0) (fun y=>by unfold qja;rw[h2];rfl) rfl (.inr rfl)
   ·by_cases h3:((a.toNat:Nat):Int)=63
    ·exact one (0,1,1,0) (fun y=>by unfold qja;rw[h3];rfl) rfl (.inr rfl)
    ·by_cases h4:((a.toNat:Nat):Int)=123
     ·obtain⟨r,hr⟩:=z6f (a::t) hl (by simp);have e: ∀y:List UInt8,zhj 1100 y=some r->qja a y=some r:=fun y hy=>by
       unfold qja;rw[h4,hy];rfl
      exact⟨r,run _ hl same r (e _ hr.run),hr.err,hr.len,fun h y hy ha=>run y hy (ha.mono (by omega)) r (e y (hr.same h y hy ha))⟩
     ·exact one (1,1,0,0) (fun y=>by unfold qja;rw[beq_eq_false_iff_ne.2 h1,beq_eq_false_iff_ne.2 h2,beq_eq_false_iff_ne.2 h3,beq_eq_false_iff_ne.2 h4];rfl) rfl (.inl rfl)
def TG (t:Tr):Prop:=(pre t).length<=10000
theorem zhc:TG noneT:=by simp[TG,noneT,pre,zdb]
theorem z4o:TG emptyT:=by simp[TG,emptyT,pre,zdb]
theorem zlo (t:Tr):TG (zgp t):=by
 unfold zgp;split
 ·exact zmi ‹_›
 ·exact zhc
theorem qhf {t:Tr} (h:TG t)(a b:Int):TG (zru t a b):=by
 unfold zru;cases (!ztz t||(!(a==0&&b==0)&& !(a==1&&b==1)&& !zlc a b)) with
 |true=>exact zhc
 | false=>
  simp only[cond_false];cases ((t.k:Int)==0&&decide (a>0)) with
  |true=>exact zhc
  | false=>
   simp only[cond_false];cases ((a==0&&b==0)||(t.k:Int)==0||(t.k:Int)==1) with
   |true=>exact z4o
   | false=>
    simp only[cond_false];cases (a==1&&b==1) with
    |true=>exact h
    |false=>exact zlo _
theorem z6y (t:Tr):TG (zjx t):=zlo _
theorem qhe (s:BS):TG (ofT s):=by
 unfold ofT;split
 ·exact zhc
 ·simp[TG,pre,zdb]
theorem z0m (k:Nat)(l:List Tr) {d:Tr} (hd:TG d):TG (zpg k l d):=by
 unfold zpg;cases ((l.length:Int)==0) with
 |true=>exact hd
 | false=>
  simp only[cond_false];cases ((l.length:Int)==1) with
  |true=>exact zlo _
  |false=>exact zlo _
theorem tg_seq (l:List Tr):TG (z8m l):=by
 unfold z8m;split
 ·exact zhc
 ·exact z0m _ _ z4o
theorem tg_or (l:List Tr):TG (orT l):=by
 unfold orT;split
 ·exact zhc
 ·exact z0m _ _ zhc
theorem z2w: ∀ {l:List Tr},(∀t∈l,TG t)->(zdb l).length<=10000*l.length
 |[],_=>by simp[zdb]
 | t::l,h=>by
  have h1:TG t:=h t (by simp);have h2:=z2w (l:=l) fun x hx=>h x (by simp[hx]);rw[zdb,length_append,length_cons];have:(pre t).length<=10000:=h1;omega
structure Two (s t:List UInt8)(k:Nat):Prop where
 ag:Ag (k+1) s t
 l1:s.length<1000
 l2:t.length<1000
def GK (s:List UInt8)(k:Nat)(e:Int):Prop:=(e=92/\ (((ix s (k:Int)).toNat:Nat):Int)≠63) \/(e=95/\ (((ix s (k:Int)).toNat:Nat):Int)=94) \/(e=90/\ (((ix s (k:Int)).toNat:Nat):Int)≠92)
def Fin1 (s:List UInt8)(k:Nat)(q:Rd):Prop:=(q.e=0/\ q.a<=k) \/(q.e≠0/\ q.a=k/\ GK s k q.e)
theorem Fin1.le {s:List UInt8} {k:Nat} {q:Rd} (h:Fin1 s k q):q.a<=k:=by rcases h with h|h<;>omega
theorem Fin1.back {s:List UInt8} {k:Nat} {q p:Rd} (h:Fin1 s k q)(h1:p.a<=q.a)(h2:p.e≠0->q.e=p.e/\ q.a=p.a):Fin1 s k p:=by
 by_cases he:p.e=0
 ·exact .inl ⟨he,by have:=h.le;omega⟩
 ·obtain⟨e1,e2⟩:=h2 he;rcases h with h|h
  ·exact absurd (e1▸h.1) he
  ·rw[e1,e2] at h;exact .inr h
def atR (t:List UInt8)(r:Rd):Rd:=Rd.mk t r.a r.e r.q
def PS (s:List UInt8)(e a:Int):Prop:=e=93 \/e=94 \/((e=92 \/e=95 \/e=90)/\ 0<=a/\ a<s.length/\ (ix s a=36->e=95))
def SZ (s:List UInt8)(z:Int):Prop:=0<=z/\ z<s.length/\ ix s z=40
structure Sp {α:Type} (s:List UInt8)(r:Rd)(X:List UInt8->Option (α×Rd))(y:α×Rd):Prop where
 run:X s=some y
 txt:y.2.s=s
 lo:r.a<=y.2.a
 hi:y.2.a<=s.length
 stick:r.e≠0->y.2.e=r.e/\ y.2.a=r.a
 stl:(zcr r.q).length<=(zcr y.2.q).length
 stu:((zcr y.2.q).length:Int)<=(zcr r.q).length+(y.2.a-r.a)
 str:(∀z∈zcr r.q,SZ s z)-> ∀z∈zcr y.2.q,SZ s z
 same: ∀t k,Two s t k->Fin1 s k y.2->X t=some (y.1,atR t y.2)
 pos:r.e=0->y.2.e≠0->PS s y.2.e y.2.a
def zcy (s:List UInt8)(a e:Int):Int:=if e≠0 then 0 else if a>=s.length then 0 else(((ix s a).toNat:Nat):Int)
theorem qbx (s:List UInt8)(a e:Int):0<=zcy s a e/\ zcy s a e<256:=by
 unfold zcy;have:=(ix s a).toNat_lt;split
 ·omega
 ·split<;>omega
theorem znl (s:List UInt8)(a e:Int)(q:Stk)(h:0<=a):zgg (Rd.mk s a e q)=some (zcy s a e,Rd.mk s a e q):=by
 unfold zgg zcy;simp only;by_cases he:e=0
 ·rw[show(e !=0)=false by simp[he],cond_false,if_neg (by simp[he])];by_cases h2:a>=s.length
  ·rw[decide_eq_true h2,cond_true,if_pos h2]
  ·rw[decide_eq_false h2,cond_false,if_neg h2];exact zz (by omega) rfl
 ·rw[show(e !=0)=true by simp[he],cond_true,if_pos he]
theorem zho {s t:List UInt8} {k:Nat} (h:Two s t k) {a e:Int} (h0:0<=a)(h1:e=0->a<=k):zcy t a e=zcy s a e:=by
 unfold zcy;by_cases he:e=0
 ·have:=h1 he;have g1:=h.ag.1;have g2:=h.ag.2.1;rw[if_neg (show ¬e≠0 by simp[he]),if_neg (show ¬e≠0 by simp[he]),if_neg (show ¬a>=(t.length:Int) by omega),if_neg (show ¬a>=(s.length:Int) by omega),h.ag.ix (by omega)]
 ·rw[if_pos he,if_pos he]
theorem z9q {s:List UInt8} {a e:Int} (h:e≠0):zcy s a e=0:=by unfold zcy;rw[if_pos h]
theorem zla (t:List UInt8)(a b e e':Int)(q:Stk):zfq b e (Rd.mk t a e' q)=some (if e'=0 then Rd.mk t b e q else Rd.mk t a e' q):=by
 unfold zfq;simp only;by_cases h:e'=0
 ·rw[if_pos h,h];rfl
 ·rw[if_neg h,beq_eq_false_iff_ne.2 h,cond_false]
def qho (t:List UInt8)(a:Int):Int:=if Lib.indexByte ([42,43,63,123]:List UInt8) (z1e (zcy t a 0))>=0 then 92 else 0
theorem qid {s:List UInt8} {x:Int} (h0:0<=x)(h:qho s x≠0):PS s (qho s x) x:=by
 unfold qho at h⊢;split at h
 ·rename_i hc;rw[if_pos hc];refine .inr (.inr ⟨.inl rfl,h0,?_,fun h36=> ?_⟩)
  ·by_cases hx:x>=s.length
   ·exfalso
    unfold zcy at hc;rw[if_neg (by simp),if_pos hx] at hc;exact absurd hc (by decide)
   ·omega
  ·exfalso
   unfold zcy at hc;rw[if_neg (by simp),h36] at hc;split at hc
   ·exact absurd hc (by decide)
   ·exact absurd hc (by decide)
 ·exact absurd rfl h
theorem zsh (n:Tr)(hn:TG n)(t:List UInt8)(ht:t.length<1000)(a:Nat)(ha:a<=t.length)(q:Stk)(r:Int×Int×Int×Int)(hr:zlh 1100 (t.drop a)=some r)(hl:0<=r.2.2.1/\ r.2.2.1<=1000):
 zdq 1100 n (Rd.mk t (a:Int) 0 q)=some (if r.2.2.2=0 then(zru n r.1 r.2.1,Rd.mk t ((a:Int)+r.2.2.1) (if r.2.2.1=0 then 0 else qho t ((a:Int)+r.2.2.1)) q) else(noneT,Rd.mk t ((a:Int)+r.2.2.1) r.2.2.2 q)):=by
 unfold zdq;simp only;rw[show((0:Int) !=0)=false from rfl,cond_false];refine zz (by omega) (zak fun x hx=> ?_);rw[zen] at hx;subst hx;refine zan _ hr ?_;by_cases he:r.2.2.2=0
 ·rw [show(r.2.2.2 !=0)=false by simp[he],cond_false,if_pos he];refine zz (by omega) ?_;have hb:(pre n).length<2^40:=by have:(pre n).length<=10000:=hn;omega
  by_cases h0:r.2.2.1=0
  ·refine zbl (Rd.mk t ((a:Int)+r.2.2.1) 0 q) ?_ (zz hb (zak fun x hx=> ?_))
   ·rw[decide_eq_false (by omega),cond_false]
   ·subst hx;rw[if_pos h0]
  ·refine zbl (Rd.mk t ((a:Int)+r.2.2.1) (qho t ((a:Int)+r.2.2.1)) q) ?_ (zz hb (zak fun x hx=> ?_))
   ·rw[decide_eq_true (by omega),cond_true];refine zan _ (znl t _ 0 q (by omega)) ?_;simp only;refine zz (qbx _ _ _) (zak fun x hx=> ?_);unfold qho;rw[hx];by_cases h5:x>=0
    ·rw[decide_eq_true h5,cond_true,if_pos h5];refine zan _ (zla _ _ _ _ _ _) ?_;rw[if_pos rfl]
    ·rw[decide_eq_false h5,cond_false,if_neg h5]
   ·subst hx;rw[if_neg h0]
 ·rw[show(r.2.2.2 !=0)=true by simp[he],cond_true,if_neg he];refine zz (by omega) ?_;refine zan _ (zla _ _ _ _ _ _) ?_;rw[if_pos rfl]
theorem z1y (n:Tr)(hn:TG n)(s:List UInt8)(hs:s.length<1000)(a:Nat)(ha:a<=s.length)(e:Int)(q:Stk):
 ∃y,Sp s (Rd.mk s (a:Int) e q) (fun t=>zdq 1100 n (Rd.mk t (a:Int) e q)) y/\ TG y.1:=by
 by_cases he:e=0
 ·subst he;obtain⟨r,hr⟩:=qbc (s.drop a) (by simp;omega);have hlen:(s.drop a).length=s.length-a:=by simp
  have hl:=hr.len;have h1:=zsh n hn s hs a ha q r hr.run (by omega);by_cases h0:r.2.2.2=0
  ·rw[if_pos h0] at h1;refine⟨_,⟨h1,rfl,by simp only;omega,by simp only;omega,fun h=>absurd rfl h,le_refl _,by simp only;omega,fun h=>h,fun t k ht hf=> ?_,fun _ hne=> ?_⟩,qhf hn _ _⟩
   rotate_left
   ·simp only at hne⊢;by_cases hz:r.2.2.1=0
    ·rw[if_pos hz] at hne;exact absurd rfl hne
    ·rw[if_neg hz] at hne⊢;exact qid (by omega) hne
   have hk:=hf.le;simp only at hk;have hc:=hr.same h0 (t.drop a) (by have:=ht.l2;simp;omega) (ht.ag.drop (by omega));have h2:=zsh n hn t ht.l2 a (by have:=ht.ag.2.1;omega) q r hc (by omega);rw[if_pos h0] at h2;have:qho t ((a:Int)+r.2.2.1)=qho s ((a:Int)+r.2.2.1):=by
    unfold qho;rw[zho ht (by omega) (fun _=>hk)]
   rw[this] at h2;exact h2
  ·rw[if_neg h0] at h1;have e93:r.2.2.2=93:=by rcases hr.err with h|h;exact absurd h h0;exact h
   refine⟨_,⟨h1,rfl,by simp only;omega,by simp only;omega,fun h=>absurd rfl h,le_refl _,by simp only;omega,fun h=>h,fun t k ht hf=> ?_,fun _ _=> .inl e93⟩,zhc⟩;rcases hf with hf|hf
   ·exact absurd hf.1 h0
   ·obtain⟨_,_,hg⟩:=hf;simp only[e93] at hg;rcases hg with hg|hg|hg<;>omega
 ·have run: ∀t,zdq 1100 n (Rd.mk t (a:Int) e q)=some (noneT,Rd.mk t (a:Int) e q):=fun t=>by
   unfold zdq;simp only;rw[show(e !=0)=true by simp[he],cond_true]
  exact⟨_,⟨run s,rfl,Int.le_refl _,by simp only;omega,fun _=>⟨rfl,rfl⟩,le_refl _,by simp only;omega,fun h=>h,fun t k _ _=>run t,fun h=>absurd h he⟩,zhc⟩
def AltS (n:Nat):Prop:= ∀(s:List UInt8),s.length<1000-> ∀(a:Nat) (q:Stk),a<=s.length->s.length-a<n->(zcr q).length<=a->
 ∃y,Sp s (Rd.mk s (a:Int) 0 q) (fun t=>zqz 1100 n (Rd.mk t (a:Int) 0 q)) y/\ TG y.1/\ (zcy s (a:Int) 0=63->y.2.e=92/\ y.2.a=a)/\ (y.2.e=0->zcy s y.2.a 0=0 \/zcy s y.2.a 0=41)
theorem qbv (p:Rd->Option (Tr×Rd))(t:List UInt8)(ht:t.length<1000)(a j:Nat)(haj:a+j<=1000)(q:Stk)(hq:(zcr q).length<=1000)(y:Tr×Rd)(hy:p (Rd.mk t ((a+j:Nat):Int) 0 (zgh q (a:Int)))=some y)(hs:y.2.s=t)(ha:0<=y.2.a/\ y.2.a<=1000)(hn:zcr y.2.q≠[])(hn2:(zcr y.2.q).length<=100000):
 zdy p (j:Int) (Rd.mk t (a:Int) 0 q)=some (y.1,if zcy t y.2.a y.2.e=41 then Rd.mk t (y.2.a+1) y.2.e (ztt y.2.q) else y.2):=by
 unfold zdy;simp only;refine zz (by omega) (zz (by omega) ?_);refine zan y (by rw[<-hy];simp) ?_;have hr:=znl y.2.s y.2.a y.2.e y.2.q ha.1;have e1:(Rd.mk y.2.s y.2.a y.2.e y.2.q)=y.2:=rfl;rw[e1] at hr;rw[hs] at hr;by_cases h:zcy t y.2.a y.2.e=41
 ·refine zbl (Rd.mk t (y.2.a+1) y.2.e (ztt y.2.q)) (zan _ hr ?_) (by rw[if_pos h]);simp only;rw[h,show((41:Int)==41)=true from rfl,cond_true];refine zz (by omega) (zz (by omega) (zz hn ?_));rw[hs]
 ·refine zbl y.2 (zan _ hr ?_) (by rw[if_neg h]);simp only;rw[beq_eq_false_iff_ne.2 h,cond_false]
theorem zwg (q:Stk)(a:Int):zcr (zgh q a)=zcr q++[a]:=rfl
theorem z8n (n:Nat)(H:AltS n)(s:List UInt8)(hs:s.length<1000)(a j:Nat)(hj:1<=j)(ha:a+j<=s.length)(hn:s.length-(a+j)<n)(q:Stk)(hq:(zcr q).length<=a)(h40:ix s (a:Int)=40):
 ∃y,Sp s (Rd.mk s (a:Int) 0 q) (fun t=>zdy (zqz 1100 n) (j:Int) (Rd.mk t (a:Int) 0 q)) y/\ TG y.1/\ ((a+j:Nat):Int)<=y.2.a/\ (zcy s ((a+j:Nat):Int) 0=63->y.2.e=92/\ y.2.a=((a+j:Nat):Int)):=by
 obtain⟨y,h,tg,qm,_⟩:=H s hs (a+j) (zgh q (a:Int)) ha hn (by rw[zwg];simp;omega);have hlo:=h.lo;have hhi:=h.hi;have hsl:=h.stl;have hsu:=h.stu;simp only at hlo hsl hsu;rw[zwg,length_append,List.length_singleton] at hsl hsu;have hne:zcr y.2.q≠[]:=fun e=>by rw[e] at hsl;simp at hsl
 have hstr:(∀z∈zcr q,SZ s z)-> ∀z∈zcr y.2.q,SZ s z:=fun hz=>h.str (by
  intro z hzz;simp only[zwg,mem_append,mem_singleton] at hzz;rcases hzz with hzz|hzz
  ·exact hz z hzz
  ·subst hzz;exact⟨by omega,by omega,h40⟩)
 have run: ∀t,t.length<1000->zqz 1100 n (Rd.mk t ((a+j:Nat):Int) 0 (zgh q (a:Int)))=some (y.1,atR t y.2)->zdy (zqz 1100 n) (j:Int) (Rd.mk t (a:Int) 0 q)=some (y.1,if zcy t y.2.a y.2.e=41 then Rd.mk t (y.2.a+1) y.2.e (ztt y.2.q) else atR t y.2):=fun t ht hy=>by
  have:=qbv (zqz 1100 n) t ht a j (by omega) q (by omega) (y.1,atR t y.2) hy rfl (by simp only[atR];omega) hne (by simp only[atR];omega);exact this
 have es:atR s y.2=y.2:=by unfold atR;rw[<-h.txt]
 have h1:=run s hs (by rw[es];exact h.run);rw[es] at h1;by_cases h41:zcy s y.2.a y.2.e=41
 ·rw[if_pos h41] at h1;have he0:y.2.e=0:=by
   by_cases he:y.2.e=0
   ·exact he
   ·rw[z9q he] at h41;omega
  have hlt:y.2.a<s.length:=by
   by_cases hge:y.2.a>=s.length
   ·unfold zcy at h41;rw[if_neg (by simp[he0]),if_pos hge] at h41;omega
   ·omega
  have hpl:(zcr (ztt y.2.q)).length=(zcr y.2.q).length-1:=by rw[z4q];simp
  refine⟨_,⟨h1,rfl,by simp only;omega,by simp only;omega,fun h=>absurd rfl h,by simp only;omega,by simp only;omega,fun hz z hzz=> ?_,fun t k ht hf=> ?_,fun _ hne=>absurd he0 hne⟩,tg,by simp only;omega,fun h63=> ?_⟩
  ·simp only[z4q] at hzz;exact hstr hz z ((List.dropLast_sublist _).subset hzz)
  ·have hk:=hf.le;simp only at hk;have hy:=h.same t k ht (hf.back (by simp only;omega) (fun he=>absurd he0 he));have h2:=run t ht.l2 hy;rw[zho ht (by omega) (fun _=>by omega),if_pos h41] at h2;exact h2
  ·have:=(qm h63).1;omega
 ·rw[if_neg h41] at h1;refine⟨_,⟨h1,h.txt,by simp only;omega,hhi,fun h=>absurd rfl h,by simp only;omega,by simp only;omega,hstr,fun t k ht hf=> ?_,h.pos⟩,tg,by simp only;omega,fun h63=>qm h63⟩;have hk:=hf.le;simp only at hk;have hy:=h.same t k ht hf;have h2:=run t ht.l2 hy;rw[zho ht (by omega) (fun _=>by omega),if_neg h41] at h2;exact h2
variable {c:UInt8} {n:Nat}
def z2u (g:Int->Rd->Option (Tr×Rd))(r:Rd)(x1:List UInt8)(c:UInt8):Option (Rd ⊕ (Tr×Rd)):=
 (bif ((((c).toNat:Nat):Int)==40) then(zbe (Lib.hasPrefix x1 ([40,63,58]:List UInt8)) (fun x3=>(bif x3 then(zai (g 3 r) (fun x4=>(some (inr (x4.1,x4.2))))) else(zai (g 1 r) (fun x5=>(chk ((pre x5.1).length<2^60) (zbe (zjx x5.1) (fun x6=>(some (inr (x6,x5.2))))))))))) else(bif ((((c).toNat:Nat):Int)==91) then(zai (zey 1100 x1) (fun x7=>(bif (x7.2.2 !=0) then(chk (-9223372036854775808<=(r.a+x7.2.1)/\ (r.a+x7.2.1)<9223372036854775808) (zai (zfq (r.a+x7.2.1) x7.2.2 r) (fun x8=>(some (inr (noneT,x8)))))) else(chk (-9223372036854775808<=(r.a+x7.2.1)/\ (r.a+x7.2.1)<9223372036854775808) (zbe (ofT x7.1) (fun x9=>(some (inr (x9,(Rd.mk r.s (r.a+x7.2.1) r.e r.q)))))))))) else(bif ((((c).toNat:Nat):Int)==46) then(chk (-9223372036854775808<=(r.a+1)/\ (r.a+1)<9223372036854775808) (zai (zfy 1100 ([10]:List UInt8)) (fun x10=>(zbe (~~~x10) (fun x11=>(zbe (ofT x11) (fun x12=>(some (inr (x12,(Rd.mk r.s (r.a+1) r.e r.q))))))))))) else(zdl (τ:=Bool) (bif ((((c).toNat:Nat):Int)==42) then(some (inl (((((c).toNat:Nat):Int)==42)))) else(bif ((((c).toNat:Nat):Int)==43) then(some (inl (((((c).toNat:Nat):Int)==43)))) else(bif ((((c).toNat:Nat):Int)==63) then(some (inl (((((c).toNat:Nat):Int)==63)))) else(some (inl (((((c).toNat:Nat):Int)==123))))))) (fun j2=>(bif j2 then(zai (zfq r.a 92 r) (fun x13=>(some (inl (x13))))) else(zdl (τ:=Bool) (bif ((((c).toNat:Nat):Int)==94) then(some (inl (((((c).toNat:Nat):Int)==94)))) else(some (inl (((((c).toNat:Nat):Int)==36))))) (fun j3=>(bif j3 then(zai (zfq r.a 95 r) (fun x14=>(some (inl (x14))))) else(some (inl (r))))))))))))
def ztw (x1:List UInt8)(j1:Rd):Option (Tr×Rd):=
 (zbe (zem x1) (fun x15=>(bif x15.2 then(chk (-9223372036854775808<=(j1.a+2)/\ (j1.a+2)<9223372036854775808) (zbe (ofT x15.1) (fun x16=>(some (x16,(Rd.mk j1.s (j1.a+2) j1.e j1.q)))))) else(zai (zbb x1 zfz) (fun x17=>(bif (x17.2.2 !=0) then(zai (zfq j1.a 90 j1) (fun x18=>(some (noneT,x18)))) else(chk (-9223372036854775808<=(j1.a+x17.2.1)/\ (j1.a+x17.2.1)<9223372036854775808) (zai (zly 1100 x17.1) (fun x19=>(some (x19,(Rd.mk j1.s (j1.a+x17.2.1) j1.e j1.q))))))))))))
theorem zrr (g:Int->Rd->Option (Tr×Rd))(t:List UInt8)(a:Nat)(ha:a<=t.length)(q:Stk)(c:UInt8)(u:List UInt8)(h:t.drop a=c::u):
 zgr 1100 g (Rd.mk t (a:Int) 0 q)=zdl (z2u g (Rd.mk t (a:Int) 0 q) (c::u) c) (fun j1=>ztw (c::u) j1):=by
 unfold zgr;refine zz (by simp only;omega) (zak fun x hx=> ?_);have hx:x=c::u:=by rw[<-hx];simp only;rw[zen,h]
 subst hx;rw[zbj (qje c u)];rfl
theorem zjn (h:((c.toNat:Nat):Int)≠(n:Int)):(((c.toNat:Nat):Int)==(n:Int))=false:=beq_eq_false_iff_ne.2 h
theorem zsn {s t:List UInt8} {k a:Nat} {u:List UInt8} (h:Two s t k)(hk:a<=k)(e:s.drop a=c::u): ∃v,t.drop a=c::v/\ Ag (k-a) u v:=by
 have:=h.ag.drop (k:=a) (n:=k-a+1) (by omega);rw[e] at this;exact Ag.cons this
theorem pre_col {s t:List UInt8} (h:Ag 3 s t):Lib.hasPrefix t ([40,63,58]:List UInt8)=Lib.hasPrefix s ([40,63,58]:List UInt8):=by
 match s,h with
 |[],h=>exact absurd h.1 (by simp)
 |[a],h=>exact absurd h.1 (by simp)
 |[a,b],h=>exact absurd h.1 (by simp)
 | a::b::c::u,h=>
  obtain⟨y1,rfl,h1⟩:=Ag.cons (m:=2) h;obtain⟨y2,rfl,h2⟩:=Ag.cons (m:=1) h1;obtain⟨y3,rfl,h3⟩:=Ag.cons (m:=0) h2;simp[Lib.hasPrefix,List.isPrefixOf]
theorem qap {s:List UInt8} (h:Lib.hasPrefix s ([40,63,58]:List UInt8)=true):3<=s.length/\ s[1]? =some 63:=by
 match s,h with
 |[],h=>cases h
 |[a],h=>simp[Lib.hasPrefix,List.isPrefixOf] at h
 |[a,b],h=>simp[Lib.hasPrefix,List.isPrefixOf] at h
 | a::b::c::u,h=>
  simp[Lib.hasPrefix,List.isPrefixOf] at h;refine⟨by simp,?_⟩;simp only[List.getElem?_cons_succ,List.getElem?_cons_zero];rw[<-h.2.1]
theorem z7k (c:Int)(h0:0<=c)(h:c<256):zly 1100 c=some (ofT (bit c.toNat)):=by
 unfold zly;have hq:=(qgm c.toNat (by omega)).2.2.2.2.1;exact zz ⟨h0,h⟩ (zan (bit c.toNat) hq (zak fun x hx=>by rw[hx]))
theorem set10:zfy 1100 ([10]:List UInt8)=some (bit 10):=(qgm 10 (by omega)).2.2.2.2.1
theorem rb_mark (c:UInt8)(u:List UInt8)(h:c=42 \/c=43 \/c=63 \/c=123 \/c=94 \/c=36):zbb (c::u) zfz=some (0,0,20):=by
 have hc:c≠92:=by rcases h with h|h|h|h|h|h<;>subst h<;>decide
 obtain⟨r,h1,_⟩:=rb1 c hc zfz;have:zbb [c] zfz=some (0,0,20):=by
  rcases h with h|h|h|h|h|h<;>subst h<;>decide+kernel
 rw[h1 u, <-h1 [],this]
theorem z9h (c:UInt8)(u:List UInt8)(h:c=42 \/c=43 \/c=63 \/c=123 \/c=94 \/c=36)(t:List UInt8)(a e:Int)(he:e≠0)(q:Stk):ztw (c::u) (Rd.mk t a e q)=some (noneT,Rd.mk t a e q):=by
 have hc:c≠92:=by rcases h with h|h|h|h|h|h<;>subst h<;>decide
 unfold ztw;refine zak fun x hx=> ?_;rw[zoc hc] at hx;subst hx;simp only[cond_false];refine zan _ (rb_mark c u h) ?_;simp only;rw[show((20:Int) !=0)=true from rfl,cond_true];refine zan _ (zla _ _ _ _ _ _) ?_;rw[if_neg he]
theorem z9e (s:List UInt8)(hs:s.length<1000)(a:Nat)(ha:a<s.length)(q:Stk)(c:UInt8)(u:List UInt8)(e:s.drop a=c::u):
 ∃ y:Tr×Rd,ztw (c::u) (Rd.mk s (a:Int) 0 q)=some y/\ TG y.1/\ y.2.s=s/\ (a:Int)<=y.2.a/\ y.2.a<=s.length/\ (y.2.e=0->(a:Int)<y.2.a)/\ y.2.q=q/\ (y.2.e≠0->y.2.e=90/\ y.2.a=a)/\
  (∀t k,Two s t k->Fin1 s k y.2-> ∀v,t.drop a=c::v->ztw (c::v) (Rd.mk t (a:Int) 0 q)=some (y.1,atR t y.2)):=by
 have hlen:(s.drop a).length=s.length-a:=by simp
 cases hsh:(zem (c::u)).2 with
 | true=>
  have h2:=z0o hsh;have run: ∀(t:List UInt8) v,t.length<1000->a<=t.length->zem (c::v)=zem (c::u)->ztw (c::v) (Rd.mk t (a:Int) 0 q)=some (ofT (zem (c::u)).1,Rd.mk t ((a:Int)+2) 0 q):=fun t v ht hat hv=>by
   unfold ztw;refine zak fun x hx=> ?_;rw[hv] at hx;subst hx;rw[hsh,cond_true];exact zz (by simp only;omega) (zak fun x hx=>by rw[hx])
  rw[e] at hlen;refine⟨_,run s u hs (by omega) rfl,qhe _,rfl,by simp only;omega,by simp only;omega,fun _=>by simp only;omega,rfl,fun h=>absurd rfl h,fun t k ht hf v hv=> ?_⟩;have hk:=hf.le;simp only at hk;have g1:=ht.ag.2.1;refine run t v ht.l2 (by omega) ?_;have:=ht.ag.drop (k:=a) (n:=2) (by omega);rw[e,hv] at this;exact zoi this
 | false=>
  obtain⟨r,hr⟩:=qjk zfz (c::u);have run: ∀(t:List UInt8) v,t.length<1000->a<=t.length->(zem (c::v)).2=false->zbb (c::v) zfz=some r->(r.2.2=0->0<=r.2.1/\ r.2.1<=1000)->ztw (c::v) (Rd.mk t (a:Int) 0 q)=some (if r.2.2=0 then(ofT (bit r.1.toNat),Rd.mk t ((a:Int)+r.2.1) 0 q) else(noneT,Rd.mk t (a:Int) 90 q)):=fun t v ht hat hv hrv hb=>by
   unfold ztw;refine zak fun x hx=> ?_;rw[<-hx,hv,cond_false];refine zan _ hrv ?_;by_cases h0:r.2.2=0
   ·have:=hb h0;rw[show(r.2.2 !=0)=false by simp[h0],cond_false,if_pos h0];refine zz (by simp only;omega) (zan _ (z7k r.1 hr.lo hr.hi) rfl)
   ·rw[show(r.2.2 !=0)=true by simp[h0],cond_true,if_neg h0];refine zan _ (zla _ _ _ _ _ _) ?_;rw[if_pos rfl]
  rw[e] at hlen;by_cases h0:r.2.2=0
  ·have hl:=hr.len h0;have h1:=run s u hs (by omega) hsh hr.run (fun _=>by omega);rw[if_pos h0] at h1;refine⟨_,h1,qhe _,rfl,by simp only;omega,by simp only;omega,fun _=>by simp only;omega,rfl,fun h=>absurd rfl h,fun t k ht hf v hv=> ?_⟩;have hk:=hf.le;simp only at hk;have g1:=ht.ag.2.1;have hag:=ht.ag.drop (k:=a) (n:=r.2.1.toNat) (by omega);rw[e,hv] at hag;have h2:=run t v ht.l2 (by omega) ?_ (hr.same h0 _ hag) (fun _=>by omega)
   ·rw[if_pos h0] at h2;exact h2
   ·by_cases h3:r.2.1<2
    ·obtain⟨c',t',e',hn⟩:=hr.one h0 h3;cases e';rw[zoc hn]
    ·rw[zoi (hag.mono (by omega))];exact hsh
  ·have h1:=run s u hs (by omega) hsh hr.run (fun h=>absurd h h0);rw[if_neg h0] at h1;refine⟨_,h1,zhc,rfl,by simp only;omega,by simp only;omega,fun h=>by simp at h,rfl,fun _=>⟨rfl,rfl⟩,fun t k ht hf v hv=> ?_⟩;rcases hf with hf|⟨_,hf2,hf3⟩
   ·have:=hf.1;simp at this
   ·simp only at hf2 hf3;have hak:k=a:=by omega
    subst hak;have hc:c≠92:=by
     intro e9;have hix:ix s (k:Int)=c:=by
      unfold ix;rw[Int.toNat_natCast,List.getD_eq_getElem?_getD];have:=congrArg (fun l=>l[0]?) e;simp only[getElem?_drop,Nat.add_zero,List.getElem?_cons_zero] at this;rw[this];rfl
     rcases hf3 with h|h|h
     ·omega
     ·omega
     ·rw[hix,e9] at h;exact h.2 rfl
    have g1:=ht.ag.2.1;have h2:=run t v ht.l2 (by omega) (by rw[zoc hc]) (hr.bad h0 c u rfl hc v) (fun h=>absurd h h0);rw[if_neg h0] at h2;exact h2
theorem qcp {s:List UInt8} {a:Nat} {u:List UInt8} (e:s.drop a=c::u):ix s (a:Int)=c:=by
 unfold ix;rw[Int.toNat_natCast,List.getD_eq_getElem?_getD];have:=congrArg (fun l=>l[0]?) e;simp only[getElem?_drop,Nat.add_zero,List.getElem?_cons_zero] at this;rw[this];rfl
theorem zmp (hn:n<256)(h:((c.toNat:Nat):Int)=(n:Int)):c=UInt8.ofNat n:=by
 apply UInt8.toNat_inj.1;simp;omega
theorem z8x (g:Int->Rd->Option (Tr×Rd))(t:List UInt8)(a:Nat)(ha:a<=t.length)(q:Stk)(c:UInt8)(u:List UInt8)(h:t.drop a=c::u)(hc:c=42 \/c=43 \/c=63 \/c=123 \/c=94 \/c=36):
 zgr 1100 g (Rd.mk t (a:Int) 0 q)=some (noneT,Rd.mk t (a:Int) (if c=94 \/c=36 then 95 else 92) q):=by
 rw[zrr g t a ha q c u h];refine zbl (Rd.mk t (a:Int) (if c=94 \/c=36 then 95 else 92) q) ?_ (z9h c u hc t _ _ (by split<;>omega) q);unfold z2u;rcases hc with h|h|h|h|h|h<;>subst h<;>rfl
structure AtS (n:Nat)(s:List UInt8)(a:Nat)(q:Stk)(c:UInt8)(y:Tr×Rd):Prop where
 sp:Sp s (Rd.mk s (a:Int) 0 q) (fun t=>zgr 1100 (zdy (zqz 1100 n)) (Rd.mk t (a:Int) 0 q)) y
 tg:TG y.1
 adv:y.2.e=0->(a:Int)<y.2.a
 qm:c=63->y.2.e=92/\ y.2.a=a
theorem qig (n:Nat)(H:AltS n)(s:List UInt8)(hs:s.length<1000)(a:Nat)(ha:a<s.length)(hn:s.length-a<n+1)(q:Stk)(hq:(zcr q).length<=a)(c:UInt8)(u:List UInt8)(hd:s.drop a=c::u):
 ∃y,AtS n s a q c y:=by
 have hlen:(s.drop a).length=s.length-a:=by simp
 have hixc:=qcp hd;by_cases hop:c=42 \/c=43 \/c=63 \/c=123 \/c=94 \/c=36
 ·refine⟨_,⟨z8x _ s a (by omega) q c u hd hop,rfl,Int.le_refl _,by simp only;omega,fun h=>absurd rfl h,le_refl _,by simp only;omega,fun h=>h,fun t k ht hf=> ?_,fun _ _=> ?_⟩,zhc,fun h=> ?_,fun h=> ?_⟩
  ·have hk:=hf.le;simp only at hk;obtain⟨v,hv,_⟩:=zsn ht (by omega) hd;have g1:=ht.ag.2.1;exact z8x _ t a (by omega) q c v hv hop
  ·simp only;refine .inr (.inr ⟨by split<;>simp,by omega,by omega,fun h36=> ?_⟩);rw[hixc] at h36;rw[if_pos (.inr h36)]
  ·simp only at h;split at h<;>omega
  ·subst h;exact⟨rfl,rfl⟩
 ·have hno:c≠42/\ c≠43/\ c≠63/\ c≠123/\ c≠94/\ c≠36:=by
   refine⟨fun h=>hop (.inl h),fun h=>hop (.inr (.inl h)),fun h=>hop (.inr (.inr (.inl h))),fun h=>hop (.inr (.inr (.inr (.inl h)))),fun h=>hop (.inr (.inr (.inr (.inr (.inl h))))),fun h=>hop (.inr (.inr (.inr (.inr (.inr h)))))⟩
  by_cases h40:c=40
  ·-- a group
   subst h40;have runG: ∀(t:List UInt8) v,a<=t.length->t.drop a=40::v-> ∀b,Lib.hasPrefix (40::v) ([40,63,58]:List UInt8)=b-> ∀y:Tr×Rd,zdy (zqz 1100 n) ((if b=true then 3 else 1:Nat):Int) (Rd.mk t (a:Int) 0 q)=some y->TG y.1->zgr 1100 (zdy (zqz 1100 n)) (Rd.mk t (a:Int) 0 q)=some (if b=true then y.1 else zjx y.1,y.2):=fun t v hat hv b hb y hy htg=>by
    rw[zrr _ t a hat q 40 v hv];refine zlb _ ?_ rfl;unfold z2u;rw[show((((40:UInt8).toNat:Nat):Int)==40)=true from rfl,cond_true];refine zak fun x hx=> ?_;rw[hb] at hx;subst hx;cases b with
    |true=>rw[cond_true];exact zan y hy rfl
    | false=>
     rw[cond_false];refine zan y hy (zz ?_ (zak fun x hx=>by rw[<-hx];rfl));have:(pre y.1).length<=10000:=htg;omega
   obtain⟨b,hb⟩: ∃b,Lib.hasPrefix ((40:UInt8)::u) ([40,63,58]:List UInt8)=b:=⟨_,rfl⟩;obtain⟨j,hj⟩: ∃j:Nat,j=if b=true then 3 else 1:=⟨_,rfl⟩
   have hj1:1<=j:=by rw[hj];split<;>omega
   have hjl:a+j<=s.length:=by
    rw[hj];split
    ·rename_i h;rw[h] at hb;have:=(qap hb).1;rw[hd] at hlen;omega
    ·omega
   obtain⟨y,h,tg,hadv,qm⟩:=z8n n H s hs a j hj1 hjl (by omega) q hq hixc;have hrun:=h.run;try simp only at hrun
   have h1:=runG s u (by omega) hd b hb y (by rw[<-hj];exact hrun) tg;refine⟨_,⟨h1,h.txt,h.lo,h.hi,fun h=>absurd rfl h,h.stl,h.stu,h.str,fun t k ht hf=> ?_,h.pos⟩,?_,fun _=>by simp only;omega,fun h=>by cases h⟩
   ·have hk:=hf.le;try simp only at hk
    have g1:=ht.ag.2.1;obtain⟨v,hv,hag⟩:=zsn ht (by omega) hd;have hb2:Lib.hasPrefix ((40:UInt8)::v) ([40,63,58]:List UInt8)=b:=by
     by_cases hk2:a+2<=k
     ·have:=ht.ag.drop (k:=a) (n:=3) (by omega);rw[hd,hv] at this;rw[pre_col this,hb]
     ·cases hbt:Lib.hasPrefix ((40:UInt8)::v) ([40,63,58]:List UInt8) with
      | false=>
       cases b with
       |false=>rfl
       | true=>
        have:j=3:=by rw[hj];rfl
        omega
      | true=>
       exfalso
       have hb1:b=false/\ j=1:=by
        cases b with
        |false=>exact⟨rfl,by rw[hj];rfl⟩
        | true=>
         have:j=3:=by rw[hj];rfl
         omega
       have hk3:k=a+1:=by omega
       have h63:=(qap hbt).2;have e63:s[a+1]? =some 63:=by
        rw[ht.ag.2.2 (a+1) (by omega)];have:=congrArg (fun l=>l[1]?) hv;simp only[getElem?_drop] at this;rw[this];exact h63
       have ix63:ix s ((a+1:Nat):Int)=63:=by
        unfold ix;rw[Int.toNat_natCast,List.getD_eq_getElem?_getD,e63];rfl
       have hal:a+1<s.length:=by have:=ht.ag.1;omega
       have hn63:zcy s ((a+j:Nat):Int) 0=63:=by
        rw[hb1.2];unfold zcy;rw[if_neg (by simp),if_neg (by omega),ix63];rfl
       have hq2:=qm hn63;rcases hf with hf|⟨_,_,hf3⟩
       ·have:=hf.1;simp only at this;omega
       ·simp only[hq2.1] at hf3;rcases hf3 with h|h|h
        ·rw[hk3,ix63] at h;exact h.2 rfl
        ·omega
        ·omega
    have hy:=h.same t k ht hf;try simp only at hy
    exact runG t v (by omega) hv b hb2 (y.1,atR t y.2) (by rw[<-hj];exact hy) tg
   ·simp only;split
    ·exact tg
    ·exact z6y _
  ·have i40:(((c.toNat:Nat):Int)==40)=false:=zjn (n:=40) fun h=>h40 (zmp (n:=40) (by omega) h);by_cases h91:c=91
   ·-- a bracket
    subst h91;obtain⟨r,hr⟩:=z1u (91::u) (by rw[<-hd];simp;omega);have runB: ∀(t:List UInt8) v,t.length<1000->a<=t.length->t.drop a=91::v->zey 1100 (91::v)=some r->zgr 1100 (zdy (zqz 1100 n)) (Rd.mk t (a:Int) 0 q)=some (if r.2.2=0 then(ofT r.1,Rd.mk t ((a:Int)+r.2.1) 0 q) else(noneT,Rd.mk t ((a:Int)+r.2.1) r.2.2 q)):=fun t v ht hat hv hrv=>by
     rw[zrr _ t a hat q 91 v hv];refine zlb _ ?_ rfl;unfold z2u;rw[show((((91:UInt8).toNat:Nat):Int)==40)=false from rfl,cond_false,show((((91:UInt8).toNat:Nat):Int)==91)=true from rfl,cond_true];refine zan r hrv ?_;have hl2:=hr.len;rw[<-hd] at hl2;by_cases h0:r.2.2=0
     ·rw[show(r.2.2 !=0)=false by simp[h0],cond_false,if_pos h0];exact zz (by simp only;omega) (zak fun x hx=>by rw[hx])
     ·rw[show(r.2.2 !=0)=true by simp[h0],cond_true,if_neg h0];refine zz (by simp only;omega) (zan _ (zla _ _ _ _ _ _) ?_);rw[if_pos rfl]
    have h1:=runB s u hs (by omega) hd hr.run;have hl2:=hr.len;rw[<-hd] at hl2;by_cases h0:r.2.2=0
    ·have hone:=hr.one h0;rw[if_pos h0] at h1;refine⟨_,⟨h1,rfl,by simp only;omega,by simp only;omega,fun h=>absurd rfl h,le_refl _,by simp only;omega,fun h=>h,fun t k ht hf=> ?_,fun _ hne=>absurd rfl hne⟩,qhe _,fun _=>by simp only;omega,fun h=>by cases h⟩;have hk:=hf.le;simp only at hk;have g1:=ht.ag.2.1;obtain⟨v,hv,_⟩:=zsn ht (by omega) hd;have hag:=ht.ag.drop (k:=a) (n:=r.2.1.toNat) (by omega);rw[hd,hv] at hag;have h2:=runB t v ht.l2 (by omega) hv (hr.same h0 _ (by have:=ht.l2;rw[<-hv];simp;omega) hag);rw[if_pos h0] at h2;exact h2
    ·rw[if_neg h0] at h1;have e94:r.2.2=94:=by rcases hr.err with h|h;exact absurd h h0;exact h
     refine⟨_,⟨h1,rfl,by simp only;omega,by simp only;omega,fun h=>absurd rfl h,le_refl _,by simp only;omega,fun h=>h,fun t k ht hf=> ?_,fun _ _=> .inr (.inl e94)⟩,zhc,fun h=>absurd h h0,fun h=>by cases h⟩;rcases hf with hf|hf
     ·exact absurd hf.1 h0
     ·have hg:=hf.2.2;simp only[e94] at hg;rcases hg with hg|hg|hg<;>omega
   ·have i91:(((c.toNat:Nat):Int)==91)=false:=zjn (n:=91) fun h=>h91 (zmp (n:=91) (by omega) h);by_cases h46:c=46
    ·subst h46;have runD: ∀(t:List UInt8) v,t.length<1000->a<=t.length->t.drop a=46::v->zgr 1100 (zdy (zqz 1100 n)) (Rd.mk t (a:Int) 0 q)=some (ofT (~~~ bit 10),Rd.mk t ((a:Int)+1) 0 q):=fun t v ht hat hv=>by
      rw[zrr _ t a hat q 46 v hv];refine zlb _ ?_ rfl;unfold z2u;rw[show((((46:UInt8).toNat:Nat):Int)==40)=false from rfl,cond_false,show((((46:UInt8).toNat:Nat):Int)==91)=false from rfl,cond_false,show((((46:UInt8).toNat:Nat):Int)==46)=true from rfl,cond_true];refine zz (by simp only;omega) (zan _ set10 (zak fun x hx=>zak fun y hy=> ?_));subst hx;subst hy;rfl
     refine⟨_,⟨runD s u hs (by omega) hd,rfl,by simp only;omega,by simp only;omega,fun h=>absurd rfl h,le_refl _,by simp only;omega,fun h=>h,fun t k ht hf=> ?_,fun _ hne=>absurd rfl hne⟩,show TG (ofT (~~~ bit 10)) from qhe (~~~ bit 10),fun _=>by simp only;omega,fun h=>by cases h⟩;have hk:=hf.le;simp only at hk;have g1:=ht.ag.2.1;obtain⟨v,hv,_⟩:=zsn ht (by omega) hd;exact runD t v ht.l2 (by omega) hv
    ·have i46:(((c.toNat:Nat):Int)==46)=false:=zjn (n:=46) fun h=>h46 (zmp (n:=46) (by omega) h);have A: ∀(t:List UInt8) v,z2u (zdy (zqz 1100 n)) (Rd.mk t (a:Int) 0 q) (c::v) c=some (.inl (Rd.mk t (a:Int) 0 q)):=fun t v=>by
      unfold z2u;rw[i40,cond_false,i91,cond_false,i46,cond_false];have i42:(((c.toNat:Nat):Int)==42)=false:=zjn (n:=42) fun h=>hno.1 (zmp (n:=42) (by omega) h);have i43:(((c.toNat:Nat):Int)==43)=false:=zjn (n:=43) fun h=>hno.2.1 (zmp (n:=43) (by omega) h);have i63:(((c.toNat:Nat):Int)==63)=false:=zjn (n:=63) fun h=>hno.2.2.1 (zmp (n:=63) (by omega) h);have i123:(((c.toNat:Nat):Int)==123)=false:=zjn (n:=123) fun h=>hno.2.2.2.1 (zmp (n:=123) (by omega) h);have i94:(((c.toNat:Nat):Int)==94)=false:=zjn (n:=94) fun h=>hno.2.2.2.2.1 (zmp (n:=94) (by omega) h);have i36:(((c.toNat:Nat):Int)==36)=false:=zjn (n:=36) fun h=>hno.2.2.2.2.2 (zmp (n:=36) (by omega) h);rw[i42,i43,i63,i123,i94,i36];rfl
     obtain⟨y,h1,h2,h3,h4,h5,h6,h7,h9,h8⟩:=z9e s hs a ha q c u hd;have run: ∀(t:List UInt8) v,a<=t.length->t.drop a=c::v-> ∀y:Tr×Rd,ztw (c::v) (Rd.mk t (a:Int) 0 q)=some y->zgr 1100 (zdy (zqz 1100 n)) (Rd.mk t (a:Int) 0 q)=some y:=fun t v hat hv y hy=>by
      rw[zrr _ t a hat q c v hv];exact zbl _ (A t v) hy
     refine⟨y,⟨run s u (by omega) hd y h1,h3,h4,h5,fun h=>absurd rfl h,by rw[h7];exact le_refl _,by rw[h7];simp only;omega,by rw[h7];exact fun h=>h,fun t k ht hf=> ?_,fun _ hne=> ?_⟩,h2,h6,fun h=>absurd h hno.2.2.1⟩
     ·have hk:=hf.le;have g1:=ht.ag.2.1;obtain⟨v,hv,_⟩:=zsn ht (by omega) hd;exact run t v (by omega) hv _ (h8 t k ht hf v hv)
     ·obtain⟨p1,p2⟩:=h9 hne;rw[p1,p2];refine .inr (.inr ⟨.inr (.inr rfl),by omega,by omega,fun h36=> ?_⟩);rw[hixc] at h36;exact absurd h36 hno.2.2.2.2.2
def pcB (n:Nat):Int×Rd×List Tr->Option ((Int×Rd×List Tr) ⊕ (List Tr×Rd)):=
 (fun s1=>bif (s1.1 !=0) then(bif (s1.1 !=124) then(bif (s1.1 !=41) then zai (zgr 1100 (zdy (zqz 1100 n)) s1.2.1) (fun x2=>zai (zdq 1100 x2.1 x2.2) (fun x3=>zai (zgg x3.2) (fun x4=>some (inl (x4.1,x4.2,s1.2.2++[x3.1]))))) else some (inr (s1.2.2,s1.2.1))) else some (inr (s1.2.2,s1.2.1))) else some (inr (s1.2.2,s1.2.1)))
theorem z2r (n:Nat)(c:Int)(r:Rd)(acc:List Tr)(h:c=0 \/c=124 \/c=41):pcB n (c,r,acc)=some (.inr (acc,r)):=by
 unfold pcB;rcases h with h|h|h<;>subst h<;>rfl
theorem z8o (n:Nat)(c:Int)(h0:c≠0)(h1:c≠124)(h2:c≠41)(t:List UInt8)(r:Rd)(acc:List Tr)(z1 z2:Tr)(r1:Rd)(a:Int)(e:Int)(q:Stk)
 (g1:zgr 1100 (zdy (zqz 1100 n)) r=some (z1,r1)) (g2:zdq 1100 z1 r1=some (z2,Rd.mk t a e q)) (ha:0<=a):
 pcB n (c,r,acc)=some (.inl (zcy t a e,Rd.mk t a e q,acc++[z2])):=by
 unfold pcB;try simp only
 rw[bne_iff_ne.2 h0,cond_true,bne_iff_ne.2 h1,cond_true,bne_iff_ne.2 h2,cond_true];exact zan _ g1 (zan _ g2 (zan _ (znl t a e q ha) rfl))
theorem zxz {s:List UInt8} {a:Nat} {e:Int} (h:zcy s (a:Int) e≠0):e=0/\ a<s.length/\ ∃c u,s.drop a=c::u/\ zcy s (a:Int) e=((c.toNat:Nat):Int):=by
 have he:e=0:=by
  by_cases he:e=0
  ·exact he
  ·exact absurd (z9q he) h
 have hl:a<s.length:=by
  by_cases hl:a<s.length
  ·exact hl
  ·exfalso;apply h;unfold zcy;rw[if_neg (by simp[he]),if_pos (by omega)]
 refine⟨he,hl,s[a],s.drop (a+1),List.drop_eq_getElem_cons hl,?_⟩;unfold zcy;rw[if_neg (by simp[he]),if_neg (by omega),qcp (List.drop_eq_getElem_cons hl)]
structure PcS (s:List UInt8)(a:Nat)(e:Int)(q:Stk)(acc:List Tr)(X:List UInt8->Option (List Tr×Rd))(y:List Tr×Rd):Prop where
 sp:Sp s (Rd.mk s (a:Int) e q) X y
 tg: ∀t∈y.1,TG t
 len:(y.1.length:Int)<=acc.length+(y.2.a-a)+1
 qm:zcy s (a:Int) e=63->y.2.e=92/\ y.2.a=a
 fin:zcy s y.2.a y.2.e=0 \/zcy s y.2.a y.2.e=124 \/zcy s y.2.a y.2.e=41
theorem qdd (n:Nat)(H:AltS n)(s:List UInt8)(hs:s.length<1000): ∀(f a:Nat) (e:Int) (q:Stk) (acc:List Tr),a<=s.length->s.length-a<n+1->(zcr q).length<=a->(s.length-a)+(if e=0 then 1 else 0)<f->(∀t∈acc,TG t)->
 ∃y,PcS s a e q acc (fun t=>zbg (pcB n) f (zcy t (a:Int) e,Rd.mk t (a:Int) e q,acc)) y
 |0,a,e,q,acc,_,_,_,h,_=>by omega
 | f + 1,a,e,q,acc,ha,hn,hq,hf,hacc=>by
  by_cases hst:zcy s (a:Int) e=0 \/zcy s (a:Int) e=124 \/zcy s (a:Int) e=41
  ·refine⟨(acc,Rd.mk s (a:Int) e q),⟨by(try simp only);rw[zbg,z2r n _ _ _ hst],rfl,Int.le_refl _,by simp only;omega,fun _=>⟨rfl,rfl⟩,le_refl _,by simp only;omega,fun h=>h,fun t k ht hfin=> ?_,fun h h'=>absurd h h'⟩,hacc,by simp only;omega,fun h=>by omega,hst⟩;have hk:=hfin.le;simp only at hk;try simp only
   rw[zbg,z2r n _ _ _ (by rw[zho ht (by omega) (fun _=>hk)];exact hst)];rfl
  ·have h0:zcy s (a:Int) e≠0:=fun h=>hst (.inl h);have h1:zcy s (a:Int) e≠124:=fun h=>hst (.inr (.inl h));have h2:zcy s (a:Int) e≠41:=fun h=>hst (.inr (.inr h));obtain⟨he,hal,c,u,hd,hc⟩:=zxz h0;subst he;obtain⟨⟨z1,⟨s1,a1,e1,q1⟩⟩,A⟩:=qig n H s hs a hal hn q hq c u hd;have x1:=A.sp.txt;simp only at x1;subst x1;have l1:=A.sp.lo;have u1:=A.sp.hi;have stl1:=A.sp.stl;have stu1:=A.sp.stu;have str1:=A.sp.str;have adv1:=A.adv;have qm1:=A.qm;have run1:=A.sp.run;simp only at l1 u1 stl1 stu1 str1 adv1 qm1 run1;obtain⟨b1,hb1⟩: ∃b:Nat,(b:Int)=a1:=⟨a1.toNat,by omega⟩;subst hb1;obtain⟨⟨z2,⟨s2,a2,e2,q2⟩⟩,B,tg2⟩:=z1y z1 A.tg s1 hs b1 (by omega) e1 q1;have x2:=B.txt;simp only at x2;subst x2;have l2:=B.lo;have u2:=B.hi;have stl2:=B.stl;have stu2:=B.stu;have str2:=B.str;have sk2:=B.stick;have run2:=B.run;simp only at l2 u2 stl2 stu2 str2 sk2 run2 tg2;obtain⟨b2,hb2⟩: ∃b:Nat,(b:Int)=a2:=⟨a2.toNat,by omega⟩;subst hb2;have hmeas:(s2.length-b2)+(if e2=0 then 1 else 0)<f:=by
    by_cases h:e2=0
    ·rw[if_pos h];have e10:e1=0:=by
      by_cases h':e1=0
      ·exact h'
      ·have:=sk2 h';omega
     have:=adv1 e10;rw[if_pos rfl] at hf;omega
    ·rw[if_neg h];rw[if_pos rfl] at hf;omega
   obtain⟨⟨l,⟨s3,a3,e3,q3⟩⟩,C⟩:=qdd n H s2 hs f b2 e2 q2 (acc++[z2]) (by omega) (by omega) (by omega) hmeas (fun t ht=>by
    rw[mem_append,mem_singleton] at ht;rcases ht with ht|ht
    ·exact hacc t ht
    ·subst ht;exact tg2)
   have x3:=C.sp.txt;simp only at x3;subst x3;have l3:=C.sp.lo;have u3:=C.sp.hi;have stl3:=C.sp.stl;have stu3:=C.sp.stu;have str3:=C.sp.str;have sk3:=C.sp.stick;have run3:=C.sp.run;have len3:=C.len;have tg3:=C.tg;simp only at l3 u3 stl3 stu3 str3 sk3 run3 len3 tg3;refine⟨(l,Rd.mk s3 a3 e3 q3),⟨?_,rfl,by simp only;omega,by simp only;omega,fun h=>absurd rfl h,by simp only;omega,by simp only;omega,fun hz=>str3 (str2 (str1 hz)),fun t k ht hfin=> ?_,fun _ hne=> ?_⟩,tg3,?_,fun h63=> ?_,C.fin⟩
   ·try simp only
    rw[zbg,z8o n _ h0 h1 h2 s3 _ acc z1 z2 _ _ _ _ run1 run2 (by omega)];exact run3
   ·have hk:=hfin.le;simp only at hk;have f2:Fin1 s3 k (Rd.mk s3 (b2:Int) e2 q2):=hfin.back l3 sk3;have f1:Fin1 s3 k (Rd.mk s3 (b1:Int) e1 q1):=f2.back l2 sk2;have same1:=A.sp.same t k ht f1;have same2:=B.same t k ht f2;have same3:=C.sp.same t k ht hfin;simp only[atR] at same1 same2 same3;have hnx:zcy t (a:Int) 0=zcy s3 (a:Int) 0:=zho ht (by omega) (fun _=>by omega);simp only[atR];rw[zbg,z8o n _ (by rw[hnx];exact h0) (by rw[hnx];exact h1) (by rw[hnx];exact h2) t _ acc z1 z2 _ _ _ _ same1 same2 (by omega)];exact same3
   ·simp only at hne⊢;by_cases h2':e2=0
    ·exact C.sp.pos h2' hne
    ·have g3:=sk3 h2';rw[g3.1,g3.2];by_cases h1':e1=0
     ·exact B.pos h1' h2'
     ·have g2:=sk2 h1';rw[g2.1,g2.2];exact A.sp.pos rfl h1'
   ·try simp only
    rw[length_append,List.length_singleton] at len3;by_cases h:e2=0
    ·have e10:e1=0:=by
      by_cases h':e1=0
      ·exact h'
      ·have:=sk2 h';omega
     have:=adv1 e10;omega
    ·-- an error: nothing more
     have hst3:zcy s3 (b2:Int) e2=0:=z9q h;have:zbg (pcB n) f (zcy s3 (b2:Int) e2,Rd.mk s3 (b2:Int) e2 q2,acc++[z2])=some (acc++[z2],Rd.mk s3 (b2:Int) e2 q2):=by
      obtain⟨g,rfl⟩: ∃g,f=g+1:=⟨f-1,by omega⟩;rw[zbg,z2r n _ _ _ (.inl hst3)]
     rw[this] at run3;have hll:l=acc++[z2]:=((Prod.mk.inj (Option.some.inj run3)).1).symm;rw[hll,length_append,List.length_singleton];omega
   ·have hc63:c=63:=zmp (n:=63) (by omega) (by rw[<-hc];exact h63);obtain⟨q1a,q1b⟩:=qm1 hc63;have g2:=sk2 (by omega);have g3:=sk3 (by omega);try simp only
    omega
theorem pcs_all (n:Nat)(H:AltS n)(s:List UInt8)(hs:s.length<1000)(a:Nat)(q:Stk)(ha:a<=s.length)(hn:s.length-a<n+1)(hq:(zcr q).length<=a):
 ∃y,PcS s a 0 q [] (fun t=>zye 1100 (zgr 1100 (zdy (zqz 1100 n))) (Rd.mk t (a:Int) 0 q)) y:=by
 obtain⟨y,h⟩:=qdd n H s hs 1100 a 0 q [] ha hn hq (by rw[if_pos rfl];omega) (fun _ h=>by cases h);have run: ∀t y,zbg (pcB n) 1100 (zcy t (a:Int) 0,Rd.mk t (a:Int) 0 q,[])=some y->zye 1100 (zgr 1100 (zdy (zqz 1100 n))) (Rd.mk t (a:Int) 0 q)=some y:=fun t y h=>by
  unfold zye;exact zan _ (znl t _ 0 q (by omega)) h
 exact⟨y,⟨run s y h.sp.run,h.sp.txt,h.sp.lo,h.sp.hi,h.sp.stick,h.sp.stl,h.sp.stu,h.sp.str,fun t k ht hf=>run t _ (h.sp.same t k ht hf),h.sp.pos⟩,h.tg,h.len,h.qm,h.fin⟩
def altB (pcs:Rd->Option (List Tr×Rd)):Rd×List Tr->Option ((Rd×List Tr) ⊕ ((Rd×List Tr) ⊕ (Tr×Rd))):=
 (fun s1=>(zdl (τ:=Rd×(List Tr)) (zai (zrl s1.1) (fun x1=>(zai (pcs x1) (fun x2=>(zdl (zdx (β:=(List Tr)) (fun s2 w1=>(chk (length s2<2^40) (some (inl ((s2++[w1])))))) x2.1 (([]:List Tr))) (fun s2=>(some (inl (x2.2,s2))))))))) (fun j2=>(chk ((zdb j2.2).length<=2^40) (zbe (z8m j2.2) (fun x3=>(bif (isEmpty s1.2) then(chk (0<(length [x3])/\ (length [x3])*80<=140737488355328) (zai (zgg j2.1) (fun x4=>(bif (x4.1 !=124) then(some (inr (inl (x4.2,[x3])))) else(chk (-9223372036854775808<=(x4.2.a+1)/\ (x4.2.a+1)<9223372036854775808) (some (inl ((Rd.mk x4.2.s (x4.2.a+1) x4.2.e x4.2.q),[x3])))))))) else(chk (length s1.2=(length s1.2)/\ 0<(length s1.2)/\ 0<length [x3]/\ ((length s1.2)+length [x3])*80<=140737488355328) (zai (zgg j2.1) (fun x5=>(bif (x5.1 !=124) then(some (inr (inl (x5.2,(s1.2++[x3]))))) else(chk (-9223372036854775808<=(x5.2.a+1)/\ (x5.2.a+1)<9223372036854775808) (some (inl ((Rd.mk x5.2.s (x5.2.a+1) x5.2.e x5.2.q),(s1.2++[x3]))))))))))))))))
theorem z4v {ρ:Type}: ∀(l acc:List Tr),acc.length+l.length<2^40->zdx (β:=List Tr) (ρ:=ρ) (fun s2 w1=>(chk (length s2<2^40) (some (inl ((s2++[w1])))))) l acc=some (.inl (acc++l))
 |[],acc,_=>by simp[zdx]
 | x::l,acc,h=>by
  simp only[length_cons] at h;rw[zdx,zbj (by omega)];try simp only
  rw[z4v l (acc++[x]) (by simp;omega),List.append_assoc];rfl
theorem zvn (pcs:Rd->Option (List Tr×Rd))(t:List UInt8)(ht:t.length<1000)(r:Rd)(acc l:List Tr)(a e:Int)(q:Stk)(h:pcs r=some (l,Rd.mk t a e q))(tg: ∀t∈l,TG t)(hl:l.length<=5000)(hacc:acc.length<=5000)(ha:0<=a/\ a<=1000):
 altB pcs (r,acc)=some (if zcy t a e=124 then .inl (Rd.mk t (a+1) e q,acc++[z8m l]) else .inr (.inl (Rd.mk t a e q,acc++[z8m l]))):=by
 unfold altB;refine zbl (Rd.mk t a e q,l) ?_ ?_
 ·refine zan r rfl (zan _ h ?_);refine zbl l ?_ rfl;have:=z4v (ρ:=(Rd×List Tr) ⊕ ((Rd×List Tr) ⊕ ((Rd×List Tr) ⊕ (Tr×Rd)))) l [] (by simp;omega);rw[List.nil_append] at this;exact this
 ·have hp:=z2w tg;try simp only
  refine zz (by omega) (zak fun x hx=> ?_);subst hx;have hnx:=znl t a e q ha.1;cases acc with
  | nil=>
   rw[show isEmpty ([]:List Tr)=true from rfl,cond_true];refine zz (by simp) (zan _ hnx ?_);try simp only
   by_cases hc:zcy t a e=124
   ·rw[if_pos hc,hc,show((124:Int) !=124)=false from rfl,cond_false];exact zz (by omega) rfl
   ·rw[if_neg hc,bne_iff_ne.2 hc,cond_true];rfl
  | cons b m=>
   rw[show isEmpty (b::m)=false from rfl,cond_false];simp only[length_cons] at hacc;refine zz (by simp;omega) (zan _ hnx ?_);try simp only
   by_cases hc:zcy t a e=124
   ·rw[if_pos hc,hc,show((124:Int) !=124)=false from rfl,cond_false];exact zz (by omega) rfl
   ·rw[if_neg hc,bne_iff_ne.2 hc,cond_true]
def swp (x:Option ((Rd×List Tr) ⊕ (Tr×Rd))):Option (List Tr×Rd):=
 match x with
 |some (.inl (r,l))=>some (l,r)
 |_=>none
theorem swp_e {x:Option ((Rd×List Tr) ⊕ (Tr×Rd))} {l:List Tr} {r:Rd} (h:swp x=some (l,r)):x=some (.inl (r,l)):=by
 match x,h with
 |some (.inl (r',l')),h=>simp only[swp,Option.some.injEq,Prod.mk.injEq] at h;rw[h.1,h.2]
structure AlS (s:List UInt8)(a:Nat)(q:Stk)(X:List UInt8->Option (List Tr×Rd))(y:List Tr×Rd):Prop where
 sp:Sp s (Rd.mk s (a:Int) 0 q) X y
 tg: ∀t∈y.1,TG t
 len:y.1.length<=2000
 qm:zcy s (a:Int) 0=63->y.2.e=92/\ y.2.a=a
 fin:zcy s y.2.a y.2.e=0 \/zcy s y.2.a y.2.e=41
theorem qbs (n:Nat)(H:AltS n)(s:List UInt8)(hs:s.length<1000): ∀(f a:Nat) (q:Stk) (acc:List Tr),a<=s.length->s.length-a<n+1->(zcr q).length<=a->s.length-a<f->acc.length<=a->(∀t∈acc,TG t)->
 ∃y,AlS s a q (fun t=>swp (zbg (altB (zye 1100 (zgr 1100 (zdy (zqz 1100 n))))) f (Rd.mk t (a:Int) 0 q,acc))) y
 |0,a,q,acc,_,_,_,h,_,_=>by omega
 | f +1,a,q,acc,ha,hn,hq,hf,hla,hacc=>by
  obtain⟨⟨l,⟨s1,a1,e1,q1⟩⟩,A⟩:=pcs_all n H s hs a q ha hn hq;have x1:=A.sp.txt;simp only at x1;subst x1;have l1:=A.sp.lo;have u1:=A.sp.hi;have stl1:=A.sp.stl;have stu1:=A.sp.stu;have str1:=A.sp.str;have qm1:=A.qm;have run1:=A.sp.run;have len1':=A.len;simp only[List.length_nil] at l1 u1 stl1 stu1 str1 qm1 run1 len1';have tgA: ∀t∈acc++[z8m l],TG t:=fun t ht=>by
   rw[mem_append,mem_singleton] at ht;rcases ht with ht|ht
   ·exact hacc t ht
   ·subst ht;exact tg_seq _
  have st1:=zvn _ s1 hs (Rd.mk s1 (a:Int) 0 q) acc l a1 e1 q1 run1 A.tg (by omega) (by omega) (by omega);by_cases hc:zcy s1 a1 e1=124
  ·rw[if_pos hc] at st1;obtain⟨b1,hb1⟩: ∃b:Nat,(b:Int)=a1:=⟨a1.toNat,by omega⟩;subst hb1;obtain⟨he,hlt,_⟩:=zxz (s:=s1) (a:=b1) (e:=e1) (by omega);subst he;obtain⟨⟨m,⟨s2,a2,e2,q2⟩⟩,C⟩:=qbs n H s1 hs f (b1+1) q1 (acc++[z8m l]) (by omega) (by omega) (by omega) (by omega) (by simp;omega) tgA;have x2:=C.sp.txt;simp only at x2;subst x2;have l2:=C.sp.lo;have u2:=C.sp.hi;have stl2:=C.sp.stl;have stu2:=C.sp.stu;have str2:=C.sp.str;have run2:=C.sp.run;simp only at l2 u2 stl2 stu2 str2 run2;refine⟨(m,Rd.mk s2 a2 e2 q2),⟨?_,rfl,by simp only;omega,by simp only;omega,fun h=>absurd rfl h,by simp only;omega,by simp only;omega,fun hz=>str2 (str1 hz),fun t k ht hfin=> ?_,fun _ hne=>C.sp.pos rfl hne⟩,C.tg,C.len,fun h63=> ?_,C.fin⟩
   ·try simp only
    rw[zbg,st1];exact run2
   ·have hk:=hfin.le;simp only at hk;have f1:Fin1 s2 k (Rd.mk s2 (b1:Int) 0 q1):= .inl ⟨rfl,by simp only;omega⟩;have same1:=A.sp.same t k ht f1;have same2:=C.sp.same t k ht hfin;simp only[atR] at same1 same2;have stt:=zvn _ t ht.l2 (Rd.mk t (a:Int) 0 q) acc l _ _ _ same1 A.tg (by omega) (by omega) (by omega);rw[zho ht (by omega) (fun _=>by omega),if_pos hc] at stt;simp only[atR];rw[zbg,stt];exact same2
   ·have:=(qm1 h63).1;omega
  ·rw[if_neg hc] at st1;refine⟨(acc++[z8m l],Rd.mk s1 a1 e1 q1),⟨?_,rfl,by simp only;omega,by simp only;omega,fun h=>absurd rfl h,by simp only;omega,by simp only;omega,str1,fun t k ht hfin=> ?_,A.sp.pos⟩,tgA,by simp;omega,qm1,?_⟩
   ·try simp only
    rw[zbg,st1];rfl
   ·have hk:=hfin.le;simp only at hk;have same1:=A.sp.same t k ht hfin;simp only[atR] at same1;have stt:=zvn _ t ht.l2 (Rd.mk t (a:Int) 0 q) acc l _ _ _ same1 A.tg (by omega) (by omega) (by omega);rw[zho ht (by omega) (fun _=>by omega),if_neg hc] at stt;simp only[atR];rw[zbg,stt];rfl
   ·have hfn:=A.fin;simp only at hfn⊢;rcases hfn with h|h|h
    ·exact .inl h
    ·exact absurd h hc
    ·exact .inr h
theorem qce: ∀n,AltS n
 |0=>fun s hs a q ha hn hq=>by omega
 | n +1=>fun s hs a q ha hn hq=>by
  obtain⟨⟨l,r⟩,h⟩:=qbs n (qce n) s hs 1100 a q [] ha hn hq (by omega) (by simp) (fun _ h=>by cases h);have hp:=z2w h.tg;have hl:=h.len;simp only at hp hl;have run: ∀t r,swp (zbg (altB (zye 1100 (zgr 1100 (zdy (zqz 1100 n))))) 1100 (Rd.mk t (a:Int) 0 q,[]))=some (l,r)->zqz 1100 (n+1) (Rd.mk t (a:Int) 0 q)=some (orT l,r):=fun t r h=>by
   show z0z 1100 _ _=_;unfold z0z;refine zbl (r,l) (swp_e h) ?_;cases l with
   | nil=>
    try simp only
    rw[show isEmpty ([]:List Tr)=true from rfl,cond_true];exact zz (by simp[zdb]) (zak fun x hx=>by rw[hx])
   | cons b m=>
    try simp only
    rw[show isEmpty (b::m)=false from rfl,cond_false];exact zz (by omega) (zak fun x hx=>by rw[hx])
  refine⟨(orT l,r),⟨run s r h.sp.run,h.sp.txt,h.sp.lo,h.sp.hi,h.sp.stick,h.sp.stl,h.sp.stu,h.sp.str,fun t k ht hf=>run t _ (h.sp.same t k ht hf),h.sp.pos⟩,tg_or _,h.qm,fun he=> ?_⟩;have:=h.fin;simp only at this he⊢;rw[he] at this;exact this
end Go.Ab
namespace Go.Ab
open Go Go.RowKit Go.Fwd Go.Proofs
def z5q (s:(List UInt8))(behind:(List UInt8)):Option Bool:=
 (chk (0<=0/\ 0<=(min (length s:Int) 100)/\ (min (length s:Int) 100)<=(length s:Int)) (zbe (sub s 0 (min (length s:Int) 100)) (fun x1=>(chk (0<=0/\ 0<=(min (length behind:Int) 100)/\ (min (length behind:Int) 100)<=(length behind:Int)) (zbe (sub behind 0 (min (length behind:Int) 100)) (fun x2=>(zai (z0t 1100 300 x1) (fun x3=>(zdl (τ:=Bool) (bif (decide (x3.2.1<0)) then(some (inl (true))) else(bif (decide (x3.2.1>(length x1:Int))) then(some (inl (true))) else(bif (x3.2.2 !=0) then(bif (((x3.1.t.k:Nat):Int) !=0) then(some (inl (true))) else(bif x3.1.b then(some (inl (true))) else(bif x3.1.e then(some (inl (true))) else(bif (x3.2.2==0) then(some (inl ((x3.2.1 !=(length x1:Int))))) else(some (inl (false))))))) else(bif (x3.2.2==0) then(some (inl ((x3.2.1 !=(length x1:Int))))) else(some (inl (false))))))) (fun j1=>(bif j1 then(some false) else(zdl (τ:=Bool) (bif (x3.2.2==0) then(some (inl (true))) else(some (inl ((x3.2.1==(length x1:Int)))))) (fun j2=>(bif j2 then(some true) else(chk (0<=x3.2.1/\ x3.2.1<(length x1:Int)) (zbe (ix x1 x3.2.1) (fun x4=>(zdl (τ:=Bool) (bif (x3.2.2==92) then(bif ((((x4).toNat:Nat):Int) !=63) then(some (inl (true))) else(bif (x3.2.2==91) then(bif ((((x4).toNat:Nat):Int)==41) then(some (inl (true))) else(bif (x3.2.2==95) then(bif ((((x4).toNat:Nat):Int)==94) then(some (inl (true))) else(bif (x3.2.2==90) then(some (inl (((((x4).toNat:Nat):Int) !=92)))) else(some (inl (false))))) else(bif (x3.2.2==90) then(some (inl (((((x4).toNat:Nat):Int) !=92)))) else(some (inl (false)))))) else(bif (x3.2.2==95) then(bif ((((x4).toNat:Nat):Int)==94) then(some (inl (true))) else(bif (x3.2.2==90) then(some (inl (((((x4).toNat:Nat):Int) !=92)))) else(some (inl (false))))) else(bif (x3.2.2==90) then(some (inl (((((x4).toNat:Nat):Int) !=92)))) else(some (inl (false))))))) else(bif (x3.2.2==91) then(bif ((((x4).toNat:Nat):Int)==41) then(some (inl (true))) else(bif (x3.2.2==95) then(bif ((((x4).toNat:Nat):Int)==94) then(some (inl (true))) else(bif (x3.2.2==90) then(some (inl (((((x4).toNat:Nat):Int) !=92)))) else(some (inl (false))))) else(bif (x3.2.2==90) then(some (inl (((((x4).toNat:Nat):Int) !=92)))) else(some (inl (false)))))) else(bif (x3.2.2==95) then(bif ((((x4).toNat:Nat):Int)==94) then(some (inl (true))) else(bif (x3.2.2==90) then(some (inl (((((x4).toNat:Nat):Int) !=92)))) else(some (inl (false))))) else(bif (x3.2.2==90) then(some (inl (((((x4).toNat:Nat):Int) !=92)))) else(some (inl (false))))))) (fun j3=>(bif j3 then(chk (-9223372036854775808<=(x3.2.1+1)/\ (x3.2.1+1)<9223372036854775808) (chk (0<=0/\ 0<=(x3.2.1+1)/\ (x3.2.1+1)<=(length x1:Int)) (zbe (sub x1 0 (x3.2.1+1)) (fun x5=>(chk (length x5+length x2<=9223372036854775807) (zai (z0t 1100 300 (x5++x2)) (fun x6=>(bif (x6.2.1==x3.2.1) then(some (x6.2.2==x3.2.2)) else(some false))))))))) else(some true)))))))))))))))))))))
theorem ent4:Ent prog 4:=enters_of Tryd.func4 (by kernel_rfl) rfl
theorem rxpf_sh (s:(List UInt8))(behind:(List UInt8))(r:Bool)(h:z5q s behind=some r):Pure (ITP Tryd.prog) Tryd.prog 4 [.raw (.string (bs s)),.raw (.string (bs behind))] (.raw (.bool r)):=by
 unfold z5q at h;refine zbx 124 mix Tryd.func4 ent4 ?_;refine zaa [.v (.b false)] ?_;refine zm ?_;refine zm (zc ?_);refine zdh (r:= .b true) z6k ?_;refine w_o (a:= .b false) ?_;refine zba rfl ?_;refine zm ?_;refine zkh (k0:=0) (id:=3) 11 (by kernel_rfl) (by kernel_rfl) ?_;iterate 2 refine zmh ?_
 refine h_o (a:= .i (List.length s:Int)) (h:=zdk rfl rfl rfl) ?_;refine h_o (a:= .i (min (List.length s:Int) 100)) (h:=qfy rfl rfl rfl rfl rfl) ?_;obtain⟨g1,h⟩:=zr h;obtain⟨x1,hx1,h⟩:=zx h;refine h_o (a:= .s x1) (h:=by rw[<-hx1];exact(zwo (l:=s) g1 rfl rfl rfl rfl)) ?_;iterate 2 refine zmh ?_
 refine h_o (a:= .i (List.length behind:Int)) (h:=zdk rfl rfl rfl) ?_;refine h_o (a:= .i (min (List.length behind:Int) 100)) (h:=qfy rfl rfl rfl rfl rfl) ?_;obtain⟨g2,h⟩:=zr h;obtain⟨x2,hx2,h⟩:=zx h;refine h_o (a:= .s x2) (h:=by rw[<-hx2];exact(zwo (l:=behind) g2 rfl rfl rfl rfl)) ?_;refine zmh ?_;refine zkn ?_;refine zac ?_;refine zaa [.m _] ?_;obtain⟨x3,hx3,h⟩:=zv h;refine zdh (r:= .tup [.A (x3.1:Rg),.i x3.2.1,.i x3.2.2]) (z4c 1100 300 x1 x3 hx3) ?_;refine w_r [.m _,.x _,.x _,.x _] ?_;refine zcc (a:= .ptr 0 0) (U'':=(.B [(35,[.b false,.b false,.u 0,.raw (.int .u64 0),.raw (.int .u64 0),.raw (.int .u64 0),.raw (.int .u64 0),.i 0,.i 0,.list 0 [] .full])])) ?_;refine zcu 10 (.B [(35,(Enc.cells (x3.1:Rg)))]) ?_;refine w_r [.m _,.m _] ?_;refine zm ?_;refine zbk h (bz 0 126 85070591730234615865843651857942052668) (fun j1=>[(65,.b j1)]) (fun j1=>(.B [(35,(Enc.cells (x3.1:Rg)))])) ?_ ?_;intro or1 h hr1;refine zc (k0:=0) (id:=5) ?_;refine w_r [.m _,.v (.b (decide (x3.2.1<0)))] ?_;refine zt h (fun hc1 h=> ?_) (fun hc1 h=> ?_);refine zae hc1 ?_;refine w_r [.p,.p,.p,.p,.v (.b true)] ?_;refine w_r [.m _,.p,.p,.p,.p] ?_;iterate 2 refine w_r [.p,.p,.p,.p,.p] ?_
 refine w_r [.p,.p,.v (.b true),.m _,.p] ?_;refine w_r [.p,.p,.p,.p,.p] ?_;refine w_r [.p,.p,.v (.b true)] ?_;refine ze (o:=or1) (true) h ?_;exact zbt (bl 126 36893488147419103427);refine zae hc1 ?_;refine w_r [.m _,.m _] ?_;refine zal rfl rfl ?_;refine w_o (a:= .i (List.length x1:Int)) (h:=zbf (zdk rfl rfl rfl)) ?_;refine w_r [.v (.b (decide (x3.2.1>(List.length x1:Int)))),.v (.b (decide (x3.2.1>(List.length x1:Int))))] ?_;refine zt h (fun hc2 h=> ?_) (fun hc2 h=> ?_);refine zae hc2 ?_;iterate 3 refine w_r [.p,.p,.p,.p,.p] ?_
 refine w_r [.p,.v (.b true),.m _,.p,.p] ?_;refine w_r [.p,.p,.p,.p,.p] ?_;refine w_r [.p,.v (.b true)] ?_;refine ze (o:=or1) (true) h ?_;exact zbt (bl 126 36893488147419103427);refine zae hc2 ?_;refine w_r [.m _,.v (.b (x3.2.2 !=0))] ?_;refine zal rfl rfl ?_;refine zt h (fun hc3 h=> ?_) (fun hc3 h=> ?_);refine zae hc3 ?_;refine w_r [.v (.ptr 0 2),.v (.ptr 0 2),.v (.u ((x3.1.t.k:Nat):Int)),.v (.b (((x3.1.t.k:Nat):Int) !=0))] ?_;refine zal rfl rfl ?_;refine zt h (fun hc4 h=> ?_) (fun hc4 h=> ?_);refine zae hc4 ?_;refine w_r [.p,.p,.v (.b true),.m _,.p] ?_;refine w_r [.p,.v (.b true),.v (.b true),.v (.b true),.m _] ?_;refine w_r [.p,.p,.p,.p,.p] ?_;refine w_r [.p,.p,.p,.v (.b true)] ?_;refine ze (o:=or1) (true) h ?_;exact zbt (bl 126 36893488147419103427);refine zae hc4 ?_;refine w_r [.v (.ptr 0 0),.v (.b x3.1.b),.v (.b x3.1.b)] ?_;refine zal rfl rfl ?_;refine zt h (fun hc5 h=> ?_) (fun hc5 h=> ?_);refine zae hc5 ?_;refine w_r [.p,.p,.v (.b true),.v (.b true),.v (.b true)] ?_;refine w_r [.m _,.p,.p,.p,.p] ?_;refine w_r [.p,.p,.p,.p,.v (.b true)] ?_;refine ze (o:=or1) (true) h ?_;exact zbt (bl 126 36893488147419103427);refine zae hc5 ?_;refine w_r [.v (.ptr 0 1),.v (.b x3.1.e),.v (.b x3.1.e),.v (.b x3.1.e),.v (.b x3.1.e)] ?_;refine zt h (fun hc6 h=> ?_) (fun hc6 h=> ?_);refine zae hc6 ?_;refine w_r [.p,.p,.p,.p,.p] ?_;refine w_r [.p,.p,.p,.v (.b true)] ?_;refine ze (o:=or1) (true) h ?_;exact zbt (bl 126 36893488147419103427);refine zae hc6 ?_;refine w_r [.m _,.v (.b (x3.2.2==0))] ?_;refine zal rfl rfl ?_;refine zt h (fun hc7 h=> ?_) (fun hc7 h=> ?_);refine zae hc7 ?_;refine w_r [.m _,.m _] ?_;refine zal rfl rfl ?_;refine w_o (a:= .i (List.length x1:Int)) (h:=zbf (zdk rfl rfl rfl)) ?_;refine w_r [.v (.b (x3.2.1 !=(List.length x1:Int))),.v (.b (x3.2.1 !=(List.length x1:Int))),.v (.b (x3.2.1 !=(List.length x1:Int)))] ?_;refine ze (o:=or1) ((x3.2.1 !=(List.length x1:Int))) h ?_;exact zbt (bl 126 36893488147419103427);refine zae hc7 ?_;refine w_r [.p,.p,.p,.p,.v (.b false)] ?_;refine w_r [.v (.b false)] ?_;refine ze (o:=or1) (false) h ?_;exact zbt (bl 126 36893488147419103427);refine zae hc3 ?_;iterate 2 refine w_r [.p,.p,.p,.p,.p] ?_
 refine w_r [.p,.p,.v (.b false),.v (.b false),.m _] ?_;refine w_r [.m _,.v (.b (x3.2.2==0))] ?_;refine zal rfl rfl ?_;refine zt h (fun hc8 h=> ?_) (fun hc8 h=> ?_);refine zae hc8 ?_;refine w_r [.m _,.m _] ?_;refine zal rfl rfl ?_;refine w_o (a:= .i (List.length x1:Int)) (h:=zbf (zdk rfl rfl rfl)) ?_;refine w_r [.v (.b (x3.2.1 !=(List.length x1:Int))),.v (.b (x3.2.1 !=(List.length x1:Int))),.v (.b (x3.2.1 !=(List.length x1:Int)))] ?_;refine ze (o:=or1) ((x3.2.1 !=(List.length x1:Int))) h ?_;exact zbt (bl 126 36893488147419103427);refine zae hc8 ?_;refine w_r [.p,.p,.p,.p,.v (.b false)] ?_;refine w_r [.v (.b false)] ?_;refine ze (o:=or1) (false) h ?_;exact zbt (bl 126 36893488147419103427);intro j1 h;refine zfa ?_;refine zcj h (fun hc9 h=> ?_) (fun hc9 h=> ?_);refine zaa [.v (.b false)] ?_;exact zbm h;refine zm ?_;refine zbk h (bz 0 74 18852572443331161751552) (fun j2=>[(73,.b j2)]) (fun j2=>(.B [(35,(Enc.cells (x3.1:Rg)))])) ?_ ?_;intro or2 h hr2;refine zc (k0:=0) (id:=7) ?_;refine w_r [.m _,.v (.b (x3.2.2==0))] ?_;refine zt h (fun hc10 h=> ?_) (fun hc10 h=> ?_);refine zae hc10 ?_;refine w_r [.p,.p,.p,.p,.v (.b true)] ?_;refine ze (o:=or2) (true) h ?_;exact zbt (bl 126 85070591730234606458004174266070728703);refine zae hc10 ?_;refine w_r [.m _,.m _] ?_;refine zal rfl rfl ?_;refine w_o (a:= .i (List.length x1:Int)) (h:=zbf (zdk rfl rfl rfl)) ?_;refine w_r [.v (.b (x3.2.1==(List.length x1:Int))),.v (.b (x3.2.1==(List.length x1:Int)))] ?_;refine ze (o:=or2) ((x3.2.1==(List.length x1:Int))) h ?_;exact zbt (bl 126 85070591730234606458004174266070728703);intro j2 h;refine zfa ?_;refine zcj h (fun hc11 h=> ?_) (fun hc11 h=> ?_);refine zaa [.v (.b true)] ?_;exact zbm h;refine zaa [.m _,.m _] ?_;obtain⟨g3,h⟩:=zr h;obtain⟨x4,hx4,h⟩:=zx h;refine w_o (a:= .u (((x4).toNat:Nat):Int)) (h:=zbf (by rw[<-hx4];exact(zdd (l:=x1) (n:=x3.2.1) g3 rfl rfl rfl rfl))) ?_;refine zac ?_;refine zm ?_;refine zbk h (bz 0 107 162259276819768630425838719860992) (fun j3=>[(106,.b j3)]) (fun j3=>(.B [(35,(Enc.cells (x3.1:Rg)))])) ?_ ?_;intro or3 h hr3;refine zc (k0:=0) (id:=10) ?_;refine w_r [.m _,.v (.b (x3.2.2==92))] ?_;refine zt h (fun hc12 h=> ?_) (fun hc12 h=> ?_);refine zae hc12 ?_;refine w_r [.m _,.v (.b ((((x4).toNat:Nat):Int) !=63)),.v (.b ((((x4).toNat:Nat):Int) !=63))] ?_;refine zt h (fun hc13 h=> ?_) (fun hc13 h=> ?_);refine zae hc13 ?_;refine w_r [.p,.p,.p,.p,.p] ?_;refine w_r [.p,.v (.b true),.m _,.p,.p] ?_;refine w_r [.p,.p,.p,.p,.v (.b true)] ?_;refine w_r [.m _,.p,.p,.p,.p] ?_;refine w_r [.p,.p,.v (.b true)] ?_;refine ze (o:=or3) (true) h ?_;exact zbt (bl 126 85070510600596210703894921808227335935);refine zae hc13 ?_;refine w_r [.m _,.v (.b (x3.2.2==91))] ?_;refine zal rfl rfl ?_;refine zt h (fun hc14 h=> ?_) (fun hc14 h=> ?_);refine zae hc14 ?_;refine w_r [.m _,.v (.b ((((x4).toNat:Nat):Int)==41)),.v (.b ((((x4).toNat:Nat):Int)==41)),.v (.b ((((x4).toNat:Nat):Int)==41))] ?_;refine zt h (fun hc15 h=> ?_) (fun hc15 h=> ?_);refine zae hc15 ?_;refine w_r [.p,.p,.p,.p,.p] ?_;refine w_r [.p,.v (.b true),.m _,.p,.p] ?_;refine w_r [.p,.p,.p,.p,.v (.b true)] ?_;refine ze (o:=or3) (true) h ?_;exact zbt (bl 126 85070510600596210703894921808227335935);refine zae hc15 ?_;refine w_r [.m _,.v (.b (x3.2.2==95))] ?_;refine zal rfl rfl ?_;refine zt h (fun hc16 h=> ?_) (fun hc16 h=> ?_);refine zae hc16 ?_;refine w_r [.m _,.v (.b ((((x4).toNat:Nat):Int)==94)),.v (.b ((((x4).toNat:Nat):Int)==94)),.v (.b ((((x4).toNat:Nat):Int)==94))] ?_;refine zt h (fun hc17 h=> ?_) (fun hc17 h=> ?_);refine zae hc17 ?_;refine w_r [.p,.p,.p,.p,.p] ?_;refine w_r [.p,.v (.b true)] ?_;refine ze (o:=or3) (true) h ?_;exact zbt (bl 126 85070510600596210703894921808227335935);refine zae hc17 ?_;refine w_r [.m _,.v (.b (x3.2.2==90))] ?_;refine zal rfl rfl ?_;refine zt h (fun hc18 h=> ?_) (fun hc18 h=> ?_);refine zae hc18 ?_;refine w_r [.m _,.v (.b ((((x4).toNat:Nat):Int) !=92)),.v (.b ((((x4).toNat:Nat):Int) !=92)),.v (.b ((((x4).toNat:Nat):Int) !=92))] ?_;refine ze (o:=or3) (((((x4).toNat:Nat):Int) !=92)) h ?_;exact zbt (bl 126 85070510600596210703894921808227335935);refine zae hc18 ?_;refine w_r [.p,.p,.v (.b false),.v (.b false)] ?_;refine ze (o:=or3) (false) h ?_;exact zbt (bl 126 85070510600596210703894921808227335935);refine zae hc16 ?_;refine w_r [.p,.p,.v (.b false),.v (.b false),.m _] ?_;refine w_r [.m _,.v (.b (x3.2.2==90))] ?_;refine zal rfl rfl ?_;refine zt h (fun hc19 h=> ?_) (fun hc19 h=> ?_);refine zae hc19 ?_;refine w_r [.m _,.v (.b ((((x4).toNat:Nat):Int) !=92)),.v (.b ((((x4).toNat:Nat):Int) !=92)),.v (.b ((((x4).toNat:Nat):Int) !=92))] ?_;refine ze (o:=or3) (((((x4).toNat:Nat):Int) !=92)) h ?_;exact zbt (bl 126 85070510600596210703894921808227335935);refine zae hc19 ?_;refine w_r [.p,.p,.v (.b false),.v (.b false)] ?_;refine ze (o:=or3) (false) h ?_;exact zbt (bl 126 85070510600596210703894921808227335935);refine zae hc14 ?_;refine w_r [.p,.p,.v (.b false),.v (.b false),.m _] ?_;refine w_r [.m _,.v (.b (x3.2.2==95))] ?_;refine zal rfl rfl ?_;refine zt h (fun hc20 h=> ?_) (fun hc20 h=> ?_);refine zae hc20 ?_;refine w_r [.m _,.v (.b ((((x4).toNat:Nat):Int)==94)),.v (.b ((((x4).toNat:Nat):Int)==94)),.v (.b ((((x4).toNat:Nat):Int)==94))] ?_;refine zt h (fun hc21 h=> ?_) (fun hc21 h=> ?_);refine zae hc21 ?_;refine w_r [.p,.p,.p,.p,.p] ?_;refine w_r [.p,.v (.b true)] ?_;refine ze (o:=or3) (true) h ?_;exact zbt (bl 126 85070510600596210703894921808227335935);refine zae hc21 ?_;refine w_r [.m _,.v (.b (x3.2.2==90))] ?_;refine zal rfl rfl ?_;refine zt h (fun hc22 h=> ?_) (fun hc22 h=> ?_);refine zae hc22 ?_;refine w_r [.m _,.v (.b ((((x4).toNat:Nat):Int) !=92)),.v (.b ((((x4).toNat:Nat):Int) !=92)),.v (.b ((((x4).toNat:Nat):Int) !=92))] ?_;refine ze (o:=or3) (((((x4).toNat:Nat):Int) !=92)) h ?_;exact zbt (bl 126 85070510600596210703894921808227335935);refine zae hc22 ?_;refine w_r [.p,.p,.v (.b false),.v (.b false)] ?_;refine ze (o:=or3) (false) h ?_;exact zbt (bl 126 85070510600596210703894921808227335935);refine zae hc20 ?_;refine w_r [.p,.p,.v (.b false),.v (.b false),.m _] ?_;refine w_r [.m _,.v (.b (x3.2.2==90))] ?_;refine zal rfl rfl ?_;refine zt h (fun hc23 h=> ?_) (fun hc23 h=> ?_);refine zae hc23 ?_;refine w_r [.m _,.v (.b ((((x4).toNat:Nat):Int) !=92)),.v (.b ((((x4).toNat:Nat):Int) !=92)),.v (.b ((((x4).toNat:Nat):Int) !=92))] ?_;refine ze (o:=or3) (((((x4).toNat:Nat):Int) !=92)) h ?_;exact zbt (bl 126 85070510600596210703894921808227335935);refine zae hc23 ?_;refine w_r [.p,.p,.v (.b false),.v (.b false)] ?_;refine ze (o:=or3) (false) h ?_;exact zbt (bl 126 85070510600596210703894921808227335935);refine zae hc12 ?_;refine w_r [.p,.p,.v (.b false),.m _,.m _] ?_;refine w_r [.v (.b (x3.2.2==91))] ?_;refine zal rfl rfl ?_;refine zt h (fun hc24 h=> ?_) (fun hc24 h=> ?_);refine zae hc24 ?_;refine w_r [.m _,.v (.b ((((x4).toNat:Nat):Int)==41)),.v (.b ((((x4).toNat:Nat):Int)==41)),.v (.b ((((x4).toNat:Nat):Int)==41))] ?_;refine zt h (fun hc25 h=> ?_) (fun hc25 h=> ?_);refine zae hc25 ?_;refine w_r [.p,.p,.p,.p,.p] ?_;refine w_r [.p,.v (.b true),.m _,.p,.p] ?_;refine w_r [.p,.p,.p,.p,.v (.b true)] ?_;refine ze (o:=or3) (true) h ?_;exact zbt (bl 126 85070510600596210703894921808227335935);refine zae hc25 ?_;refine w_r [.m _,.v (.b (x3.2.2==95))] ?_;refine zal rfl rfl ?_;refine zt h (fun hc26 h=> ?_) (fun hc26 h=> ?_);refine zae hc26 ?_;refine w_r [.m _,.v (.b ((((x4).toNat:Nat):Int)==94)),.v (.b ((((x4).toNat:Nat):Int)==94)),.v (.b ((((x4).toNat:Nat):Int)==94))] ?_;refine zt h (fun hc27 h=> ?_) (fun hc27 h=> ?_);refine zae hc27 ?_;refine w_r [.p,.p,.p,.p,.p] ?_;refine w_r [.p,.v (.b true)] ?_;refine ze (o:=or3) (true) h ?_;exact zbt (bl 126 85070510600596210703894921808227335935);refine zae hc27 ?_;refine w_r [.m _,.v (.b (x3.2.2==90))] ?_;refine zal rfl rfl ?_;refine zt h (fun hc28 h=> ?_) (fun hc28 h=> ?_);refine zae hc28 ?_;refine w_r [.m _,.v (.b ((((x4).toNat:Nat):Int) !=92)),.v (.b ((((x4).toNat:Nat):Int) !=92)),.v (.b ((((x4).toNat:Nat):Int) !=92))] ?_;refine ze (o:=or3) (((((x4).toNat:Nat):Int) !=92)) h ?_;exact zbt (bl 126 85070510600596210703894921808227335935);refine zae hc28 ?_;refine w_r [.p,.p,.v (.b false),.v (.b false)] ?_;refine ze (o:=or3) (false) h ?_;exact zbt (bl 126 85070510600596210703894921808227335935);refine zae hc26 ?_;refine w_r [.p,.p,.v (.b false),.v (.b false),.m _] ?_;refine w_r [.m _,.v (.b (x3.2.2==90))] ?_;refine zal rfl rfl ?_;refine zt h (fun hc29 h=> ?_) (fun hc29 h=> ?_);refine zae hc29 ?_;refine w_r [.m _,.v (.b ((((x4).toNat:Nat):Int) !=92)),.v (.b ((((x4).toNat:Nat):Int) !=92)),.v (.b ((((x4).toNat:Nat):Int) !=92))] ?_;refine ze (o:=or3) (((((x4).toNat:Nat):Int) !=92)) h ?_;exact zbt (bl 126 85070510600596210703894921808227335935);refine zae hc29 ?_;refine w_r [.p,.p,.v (.b false),.v (.b false)] ?_;refine ze (o:=or3) (false) h ?_;exact zbt (bl 126 85070510600596210703894921808227335935);refine zae hc24 ?_;refine w_r [.p,.p,.v (.b false),.v (.b false),.m _] ?_;refine w_r [.m _,.v (.b (x3.2.2==95))] ?_;refine zal rfl rfl ?_;refine zt h (fun hc30 h=> ?_) (fun hc30 h=> ?_);refine zae hc30 ?_;refine w_r [.m _,.v (.b ((((x4).toNat:Nat):Int)==94)),.v (.b ((((x4).toNat:Nat):Int)==94)),.v (.b ((((x4).toNat:Nat):Int)==94))] ?_;refine zt h (fun hc31 h=> ?_) (fun hc31 h=> ?_);refine zae hc31 ?_;refine w_r [.p,.p,.p,.p,.p] ?_;refine w_r [.p,.v (.b true)] ?_;refine ze (o:=or3) (true) h ?_;exact zbt (bl 126 85070510600596210703894921808227335935);refine zae hc31 ?_;refine w_r [.m _,.v (.b (x3.2.2==90))] ?_;refine zal rfl rfl ?_;refine zt h (fun hc32 h=> ?_) (fun hc32 h=> ?_);refine zae hc32 ?_;refine w_r [.m _,.v (.b ((((x4).toNat:Nat):Int) !=92)),.v (.b ((((x4).toNat:Nat):Int) !=92)),.v (.b ((((x4).toNat:Nat):Int) !=92))] ?_;refine ze (o:=or3) (((((x4).toNat:Nat):Int) !=92)) h ?_;exact zbt (bl 126 85070510600596210703894921808227335935);refine zae hc32 ?_;refine w_r [.p,.p,.v (.b false),.v (.b false)] ?_;refine ze (o:=or3) (false) h ?_;exact zbt (bl 126 85070510600596210703894921808227335935);refine zae hc30 ?_;refine w_r [.p,.p,.v (.b false),.v (.b false),.m _] ?_;refine w_r [.m _,.v (.b (x3.2.2==90))] ?_;refine zal rfl rfl ?_;refine zt h (fun hc33 h=> ?_) (fun hc33 h=> ?_);refine zae hc33 ?_;refine w_r [.m _,.v (.b ((((x4).toNat:Nat):Int) !=92)),.v (.b ((((x4).toNat:Nat):Int) !=92)),.v (.b ((((x4).toNat:Nat):Int) !=92))] ?_;refine ze (o:=or3) (((((x4).toNat:Nat):Int) !=92)) h ?_;exact zbt (bl 126 85070510600596210703894921808227335935);refine zae hc33 ?_;refine w_r [.p,.p,.v (.b false),.v (.b false)] ?_;refine ze (o:=or3) (false) h ?_;exact zbt (bl 126 85070510600596210703894921808227335935);intro j3 h;refine zfa ?_;refine zcj h (fun hc34 h=> ?_) (fun hc34 h=> ?_);refine zaa [.m _,.m _] ?_;obtain⟨g4,h⟩:=zr h;refine zlt g4 ?_;obtain⟨g5,h⟩:=zr h;obtain⟨x5,hx5,h⟩:=zx h;refine w_o (a:= .s x5) (h:=zbf (by rw[<-hx5];exact(zwo (l:=x1) g5 rfl rfl rfl rfl))) ?_;refine zac ?_;obtain⟨g6,h⟩:=zr h;refine w_o (a:= .s (x5++x2)) (h:=zbf (qhc g6 rfl rfl rfl)) ?_;obtain⟨x6,hx6,h⟩:=zv h;refine zdh (r:= .tup [.A (x6.1:Rg),.i x6.2.1,.i x6.2.2]) (z4c 1100 300 (x5++x2) x6 hx6) ?_;refine w_r [.m _,.x _,.x _,.x _] ?_;refine zcc (a:= .ptr 1 0) (U'':=(.B [(35,(Enc.cells (x3.1:Rg))),(35,[.b false,.b false,.u 0,.raw (.int .u64 0),.raw (.int .u64 0),.raw (.int .u64 0),.raw (.int .u64 0),.i 0,.i 0,.list 0 [] .full])])) ?_;refine zcu 10 (.B [(35,(Enc.cells (x3.1:Rg))),(35,(Enc.cells (x6.1:Rg)))]) ?_;refine w_r [.m _,.m _] ?_;refine zaa [.m _,.m _,.v (.b (x6.2.1==x3.2.1))] ?_;refine zt h (fun hc35 h=> ?_) (fun hc35 h=> ?_);refine zae hc35 ?_;refine w_r [.m _,.m _,.v (.b (x6.2.2==x3.2.2)),.v (.b (x6.2.2==x3.2.2)),.m _] ?_;exact zbm h;refine zae hc35 ?_;refine w_r [.p,.p,.p,.v (.b false),.m _] ?_;exact zbm h;refine zaa [.v (.b true)] ?_;exact zbm h
def rg0:Rg:=Rg.mk false false noneT
def z8l (n off:Nat)(p b:Bool)(rest:List UInt8)(y:Tr)(rd:Rd):Option (Rg×Int×Int):=
 (zdl (τ:=Rd) (bif (rd.e !=0) then(some (inl (rd))) else(bif (decide (rd.a<(length rest:Int))) then(chk (0<=rd.a/\ rd.a<(length rest:Int)) (zbe (ix rest rd.a) (fun x5=>(bif ((((x5).toNat:Nat):Int)==41) then(some (inl ((Rd.mk rd.s rd.a 91 rd.q)))) else(some (inl ((Rd.mk rd.s rd.a 90 rd.q)))))))) else(bif (decide ((length (zcr rd.q):Int)>0)) then(chk (-9223372036854775808<=((length (zcr rd.q):Int)-1)/\ ((length (zcr rd.q):Int)-1)<9223372036854775808) (chk (0<=((length (zcr rd.q):Int)-1)/\ ((length (zcr rd.q):Int)-1)<(length (zcr rd.q):Int)) (some (inl ((Rd.mk rd.s (ix (zcr rd.q) ((length (zcr rd.q):Int)-1)) 91 rd.q)))))) else(some (inl (rd)))))) (fun j2=>(bif (j2.e !=0) then(chk (-9223372036854775808<=((off:Int)+j2.a)/\ ((off:Int)+j2.a)<9223372036854775808) (some ((Rg.mk false false noneT),((off:Int)+j2.a),j2.e))) else(zai (zoy (Rg.mk p b y)) (fun x6=>(bif (x6 !=0) then(some ((Rg.mk false false noneT),(n:Int),x6)) else(some ((Rg.mk p b y),(n:Int),0))))))))
theorem fin1 (n off:Nat)(p b:Bool)(rest:List UInt8)(y:Tr)(rd:Rd)(he:rd.e≠0)(ho:off<=1)(ha:0<=rd.a/\ rd.a<=1000):z8l n off p b rest y rd=some (rg0,(off:Int)+rd.a,rd.e):=by
 unfold z8l;refine zbl rd ?_ ?_
 ·rw[bne_iff_ne.2 he,cond_true]
 ·rw[bne_iff_ne.2 he,cond_true];exact zz (by omega) rfl
theorem fin2 (n off:Nat)(p b:Bool)(rest:List UInt8)(y:Tr)(rd:Rd)(he:rd.e=0)(ho:off<=1)(ha:0<=rd.a)(hl:rd.a<rest.length)(hr:rest.length<=1000):
 z8l n off p b rest y rd=some (rg0,(off:Int)+rd.a,if(((ix rest rd.a).toNat:Nat):Int)=41 then 91 else 90):=by
 unfold z8l;refine zbl (Rd.mk rd.s rd.a (if(((ix rest rd.a).toNat:Nat):Int)=41 then 91 else 90) rd.q) ?_ ?_
 ·rw[show(rd.e !=0)=false by simp[he],cond_false,decide_eq_true hl,cond_true];refine zz ⟨ha,hl⟩ (zak fun x hx=> ?_);subst hx;by_cases h:(((ix rest rd.a).toNat:Nat):Int)=41
  ·rw[h];rfl
  ·rw[beq_eq_false_iff_ne.2 h,cond_false,if_neg h]
 ·by_cases h:(((ix rest rd.a).toNat:Nat):Int)=41
  ·simp only[if_pos h];rw[show((91:Int) !=0)=true from rfl,cond_true];exact zz (by omega) rfl
  ·simp only[if_neg h];rw[show((90:Int) !=0)=true from rfl,cond_true];exact zz (by omega) rfl
theorem fin3 (n off:Nat)(p b:Bool)(rest:List UInt8)(y:Tr)(rd:Rd)(he:rd.e=0)(ho:off<=1)(ha:0<=rd.a)(hl: ¬rd.a<rest.length)(hq:zcr rd.q≠[])(hql:(zcr rd.q).length<=1000)(hz: ∀z∈zcr rd.q,0<=z/\ z<=1000):
 ∃z∈zcr rd.q,z8l n off p b rest y rd=some (rg0,(off:Int)+z,91):=by
 have hpos:0<(zcr rd.q).length:=List.length_pos_iff.2 hq;have hm:ix (zcr rd.q) ((length (zcr rd.q):Int)-1)∈zcr rd.q:=by
  unfold ix;rw[List.getD_eq_getElem?_getD,List.getElem?_eq_getElem (by omega)];exact List.getElem_mem _
 obtain⟨z,hzz⟩: ∃z,z=ix (zcr rd.q) ((length (zcr rd.q):Int)-1):=⟨_,rfl⟩;have hb:=hz _ hm;refine⟨_,hm,?_⟩;unfold z8l;refine zbl (Rd.mk rd.s (ix (zcr rd.q) ((length (zcr rd.q):Int)-1)) 91 rd.q) ?_ ?_
 ·rw[show(rd.e !=0)=false by simp[he],cond_false,decide_eq_false hl,cond_false,decide_eq_true (show(length (zcr rd.q):Int)>0 by omega),cond_true];exact zz (by omega) (zz (by omega) rfl)
 ·simp only;rw[show((91:Int) !=0)=true from rfl,cond_true];exact zz (by omega) rfl
theorem qca (x:Rg)(h:TG x.t): ∃c,zoy x=some c:=by
 have h':(pre x.t).length<=10000:=h;have hpos: ∃k,zhp x.t=some k:=by
  unfold zhp;rw[zbj (by omega)];unfold zbe;cases zhx x.t with
  |false=>exact⟨_,rfl⟩
  |true=>exact⟨_,zz h' rfl⟩
 obtain⟨k,hk⟩:=hpos;unfold zoy;rw[zbj (by omega),zbj (by omega),hk,zbj (by omega)];unfold zbe;simp only[bindE_some];repeat' first|exact⟨_,rfl⟩|refine z4i ?_ ?_
theorem fin4 (n off:Nat)(p b:Bool)(rest:List UInt8)(y:Tr)(hy:TG y)(rd:Rd)(he:rd.e=0)(hl: ¬rd.a<rest.length)(hq:zcr rd.q=[]):
 ∃R e,z8l n off p b rest y rd=some (R,(n:Int),e)/\ (e≠0->R=rg0):=by
 obtain⟨c,hc⟩:=qca (Rg.mk p b y) hy;by_cases h:c=0
 ·refine⟨Rg.mk p b y,0,?_,fun h=>absurd rfl h⟩;unfold z8l;refine zbl rd ?_ ?_
  ·rw[show(rd.e !=0)=false by simp[he],cond_false,decide_eq_false hl,cond_false,decide_eq_false (show ¬(length (zcr rd.q):Int)>0 by rw[hq];simp),cond_false]
  ·rw[show(rd.e !=0)=false by simp[he],cond_false];refine zan _ hc ?_;rw[h];rfl
 ·refine⟨rg0,c,?_,fun _=>rfl⟩;unfold z8l;refine zbl rd ?_ ?_
  ·rw[show(rd.e !=0)=false by simp[he],cond_false,decide_eq_false hl,cond_false,decide_eq_false (show ¬(length (zcr rd.q):Int)>0 by rw[hq];simp),cond_false]
  ·rw[show(rd.e !=0)=false by simp[he],cond_false];refine zan _ hc ?_;rw[bne_iff_ne.2 h,cond_true];rfl
theorem qgb (x:List UInt8)(hx:x.length<=1000): ∃b,zzw x=some b/\ (b=true-> ∃y,x=y++[36]):=by
 have hsl:(Lib.trimSuffix x ([36]:List UInt8)).length<=x.length:=by
  unfold Lib.trimSuffix;split
  ·simp
  ·exact le_refl _
 have htr:(Lib.trimRightB (Lib.trimSuffix x ([36]:List UInt8)) 92).length<=(Lib.trimSuffix x ([36]:List UInt8)).length:=by
  unfold Lib.trimRightB;rw[List.length_reverse];have:=(List.dropWhile_sublist (fun a=>a==(92:UInt8)) (l:=(Lib.trimSuffix x ([36]:List UInt8)).reverse)).length_le;rw[List.length_reverse] at this;exact this
 unfold zzw;rw[zbj (by omega)];unfold zbe;simp only;cases hs:Lib.hasSuffix x ([36]:List UInt8) with
 |false=>exact⟨false,rfl,fun h=>by cases h⟩
 | true=>
  rw[cond_true,zbj (by omega),zbj (by omega)];refine⟨_,rfl,fun _=> ?_⟩;unfold Lib.hasSuffix at hs;rw[List.isSuffixOf_iff_suffix] at hs;obtain⟨y,hy⟩:=hs;exact⟨y,hy.symm⟩
structure RS (s:List UInt8)(p b:Bool)(off m:Nat)(rest:List UInt8):Prop where
 run: ∀y rd,zqz 1100 300 (Rd.mk rest 0 0 none)=some (y,rd)->z0t 1100 300 s=z8l s.length off p b rest y rd
 pre:p=Lib.hasPrefix s ([94]:List UInt8)
 offE:off=if p=true then 1 else 0
 len:rest.length=m
 fit:off+m<=s.length
 get: ∀i,i<m->rest[i]? =s[off+i]?
 tail:off+m=s.length \/(off+m+1=s.length/\ s[off+m]? =some 36)
theorem qjz (s:List UInt8)(hs:s.length<=900): ∃p b off m rest,RS s p b off m rest:=by
 obtain⟨p,hp⟩: ∃p,p=Lib.hasPrefix s ([94]:List UInt8):=⟨_,rfl⟩;obtain⟨off,ho⟩: ∃off:Nat,off=if p=true then 1 else 0:=⟨_,rfl⟩
 have hos:off<=s.length:=by
  rw[ho];split
  ·rename_i h;rw[h] at hp;cases s with
   |nil=>cases hp
   |cons a t=>simp
  ·omega
 have hbody:Lib.trimPrefix s ([94]:List UInt8)=s.drop off:=by
  unfold Lib.trimPrefix;rw[<-hp,ho];cases p<;>rfl
 have hbl:(s.drop off).length=s.length-off:=by simp
 obtain⟨b,hb,hb2⟩:=qgb (s.drop off) (by omega);have run: ∀rest,rest=(if b=true then sub (s.drop off) 0 (((s.drop off).length:Int)-1) else s.drop off)->(b=true->1<=(s.drop off).length)-> ∀y rd,zqz 1100 300 (Rd.mk rest 0 0 none)=some (y,rd)->z0t 1100 300 s=z8l s.length off p b rest y rd:=by
  intro rest hr hb1 y rd h;unfold z0t z4w;rw[decide_eq_false (show ¬(length s:Int)>1000 by omega),cond_false];refine zak fun x1 hx1=> ?_;rw[hbody, <-hp] at hx1;subst hx1;simp only;refine zz (by omega) (zan _ hb ?_);refine zbl rest ?_ ?_
  ·cases b with
   |false=>rw[hr];rfl
   | true=>
    have:=hb1 rfl;rw[cond_true];refine zz (by omega) (zz (by omega) (zak fun x hx=> ?_));rw[hr, <-hx];rfl
  ·refine zan _ h ?_;unfold z8l;rw[show(length s:Int)-(length (s.drop off):Int)=(off:Int) by omega]
 cases b with
 | false=>
  refine⟨p,false,off,s.length-off,s.drop off,run _ rfl (fun h=>by cases h),hp,ho,hbl,by omega,fun i hi=>by rw[getElem?_drop],.inl (by omega)⟩
 | true=>
  obtain⟨y,hy⟩:=hb2 rfl;have hyl:=congrArg length hy;rw[hbl,length_append,List.length_singleton] at hyl;have hsub:sub (s.drop off) 0 (((s.drop off).length:Int)-1)=y:=by
   unfold sub;rw[hy];simp
  refine⟨p,true,off,y.length,y,run y (by rw[if_pos rfl,hsub]) (fun _=>by omega),hp,ho,rfl,by omega,fun i hi=> ?_,.inr ⟨by omega,?_⟩⟩
  ·rw[<-getElem?_drop,hy,List.getElem?_append_left hi]
  ·rw[<-getElem?_drop,hy,List.getElem?_append_right (le_refl _)];simp
def CK (s:List UInt8)(k:Nat)(e:Int):Prop:=(e=92/\ (((ix s (k:Int)).toNat:Nat):Int)≠63) \/(e=91/\ (((ix s (k:Int)).toNat:Nat):Int)=41) \/(e=95/\ (((ix s (k:Int)).toNat:Nat):Int)=94) \/(e=90/\ (((ix s (k:Int)).toNat:Nat):Int)≠92)
theorem qjr {s:List UInt8} {i:Nat} {c:UInt8} (h:s[i]? =some c):ix s (i:Int)=c:=by
 unfold ix;rw[Int.toNat_natCast,List.getD_eq_getElem?_getD,h];rfl
theorem qdg {s:List UInt8} {i:Nat} (h:i<s.length):s[i]? =some (ix s (i:Int)):=by
 unfold ix;rw[Int.toNat_natCast,List.getD_eq_getElem?_getD,List.getElem?_eq_getElem h];rfl
theorem qio (s:List UInt8)(hs:s.length<=250): ∃R at_ e,z0t 1100 300 s=some (R,at_,e)/\ 0<=at_/\ at_<=s.length/\ (e≠0->R=rg0)/\ (e=0->at_=s.length)/\
 (∀t k,Two s t k->t.length<=900->at_=(k:Int)->CK s k e-> ∃R',z0t 1100 300 t=some (R',at_,e)):=by
 obtain⟨p,b,off,m,rest,H⟩:=qjz s (by omega);have hfit:=H.fit;have hlen:=H.len;have ho1:off<=1:=by rw[H.offE];split<;>omega
 obtain⟨⟨y,rd⟩,A,tg,_,hfin⟩:=qce 300 rest (by omega) 0 none (by omega) (by omega) (by simp[zcr]);have run:=A.run;have lo:=A.lo;have hi:=A.hi;have str:=A.str (fun z hz=>by simp[zcr] at hz);have stu:=A.stu;have pos:=A.pos rfl;have same:=A.same;simp only[Int.natCast_zero] at run lo hi str stu pos same tg hfin;have stu':(zcr rd.q).length<=1000:=by
  have:(zcr (none:Stk)).length=0:=rfl;omega
 have R0:=H.run y rd run;obtain⟨a,hra⟩: ∃a:Nat,(a:Int)=rd.a:=⟨rd.a.toNat,by omega⟩
 -- another text
 have other: ∀t k,Two s t k->t.length<=900->k=off+a->a<rest.length->(ix rest (a:Int)≠36)->Fin1 rest a rd->
  ∃b' m' rest',RS t p b' off m' rest'/\ a<m'/\ ix rest' (a:Int)=ix rest (a:Int)/\ zqz 1100 300 (Rd.mk rest' 0 0 none)=some (y,atR rest' rd):=by
  intro t k ht htl hk hal h36 hf;obtain⟨p',b',off',m',rest',H'⟩:=qjz t htl;have hp:p'=p:=by
   rw[H'.pre,H.pre];have g1:=ht.ag.mono (show 1<=k+1 by omega);cases s with
   |nil=>exact absurd g1.1 (by simp)
   | cons c u=>
    obtain⟨v,rfl,_⟩:=Ag.cons (m:=0) g1;simp[Lib.hasPrefix,List.isPrefixOf]
  subst hp;have hoff:off'=off:=by rw[H'.offE,H.offE]
  subst hoff;have g1:=ht.ag.1;have g2:=ht.ag.2.1;have hf':=H'.fit;have hl':=H'.len;have hsk:s[off'+a]? =some (ix rest (a:Int)):=by
   rw[<-H.get a (by omega)];exact qdg hal
  have htk:t[off'+a]? =some (ix rest (a:Int)):=by
   rw[<-ht.ag.2.2 _ (by omega)];exact hsk
  have hm:a<m':=by
   rcases H'.tail with h|⟨h1,h2⟩
   ·omega
   ·by_cases hlt:a<m'
    ·exact hlt
    ·exfalso
     have:a=m':=by omega
     subst this;rw[htk] at h2;exact h36 (Option.some.inj h2)
  have hag:Ag (a+1) rest rest':=⟨by omega,by omega,fun i hi=>by
   rw[H.get i (by omega),H'.get i (by omega)];exact ht.ag.2.2 _ (by omega)⟩
  have hs2:=same rest' a ⟨hag,by omega,by omega⟩ hf;refine⟨b',m',rest',H',hm,(hag.ix (by omega)).symm,?_⟩;exact hs2
 by_cases he:rd.e=0
 ·by_cases hlt:rd.a<rest.length
  ·have hnx:=hfin he;have h41:(((ix rest rd.a).toNat:Nat):Int)=0 \/(((ix rest rd.a).toNat:Nat):Int)=41:=by
    unfold zcy at hnx;rw[if_neg (by simp),if_neg (by omega)] at hnx;exact hnx
   rw[fin2 _ _ _ _ _ _ _ he ho1 (by omega) hlt (by omega)] at R0;refine⟨_,_,_,R0,by omega,by omega,fun _=>rfl,fun h=>by split at h<;>omega,fun t k ht htl hk hc=> ?_⟩;have hka:k=off+a:=by omega
   obtain⟨b',m',rest',H',hm,hix,hrun⟩:=other t k ht htl hka (by omega) (by
    rw[hra];intro h;rw[h] at h41;rcases h41 with h|h<;>cases h) (.inl ⟨he,by omega⟩)
   have hl':=H'.len;have hf':=H'.fit;have R1:=H'.run _ _ hrun;rw[fin2 _ _ _ _ _ _ _ (show(atR rest' rd).e=0 from he) ho1 (show 0<=rd.a by omega) (show rd.a<rest'.length by omega) (by omega)] at R1;have hix2:ix rest' rd.a=ix rest rd.a:=by rw[<-hra];exact hix
   refine⟨rg0,?_⟩;rw[<-hix2];exact R1
  ·by_cases hq:zcr rd.q=[]
   ·obtain⟨R,e,h1,h2⟩:=fin4 s.length off p b rest y tg rd he hlt hq;rw[h1] at R0;refine⟨R,_,e,R0,by omega,Int.le_refl _,h2,fun _=>rfl,fun t k ht _ hk _=> ?_⟩;have:=ht.ag.1;omega
   ·obtain⟨z,hz,h1⟩:=fin3 s.length off p b rest y rd he ho1 (by omega) hlt hq stu' (fun z hz=>by
     have:=str z hz;exact⟨this.1,by have:=this.2.1;omega⟩)
    rw[h1] at R0;have hsz:=str z hz;have hz1:=hsz.1;have hz2:=hsz.2.1;refine⟨_,_,_,R0,by omega,by omega,fun _=>rfl,fun h=>by omega,fun t k ht _ hk hc=> ?_⟩;exfalso
    obtain⟨z',hz'⟩: ∃z':Nat,(z':Int)=z:=⟨z.toNat,by omega⟩;have hka:k=off+z':=by omega
    have hsk:ix s (k:Int)=40:=by
     rw[hka];refine qjr ?_;rw[<-H.get z' (by omega),qdg (by omega),hz',hsz.2.2]
    unfold CK at hc;rw[hsk] at hc;rcases hc with h|h|h|h
    ·omega
    ·exact absurd h.2 (by decide)
    ·omega
    ·omega
 ·rw[fin1 _ _ _ _ _ _ _ he ho1 (by omega)] at R0;refine⟨_,_,_,R0,by omega,by omega,fun _=>rfl,fun h=>absurd h he,fun t k ht htl hk hc=> ?_⟩;have hka:k=off+a:=by omega
  have hps:=pos he;have hP:(rd.e=92 \/rd.e=95 \/rd.e=90)/\ 0<=rd.a/\ rd.a<rest.length/\ (ix rest rd.a=36->rd.e=95):=by
   rcases hps with h|h|h
   ·exfalso;rcases hc with g|g|g|g<;>omega
   ·exfalso;rcases hc with g|g|g|g<;>omega
   ·exact h
  obtain⟨p1,p2,p3,p4⟩:=hP;rw[<-hra] at p4;have hixs:ix s (k:Int)=ix rest (a:Int):=by
   rw[hka];refine qjr ?_;rw[<-H.get a (by omega),qdg (by omega)]
  unfold CK at hc;rw[hixs] at hc;have h36:ix rest (a:Int)≠36:=by
   intro h;have h95:=p4 h;rw[h,h95] at hc;rcases hc with g|g|g|g
   ·omega
   ·omega
   ·exact absurd g.2 (by decide)
   ·omega
  obtain⟨b',m',rest',H',hm,hix,hrun⟩:=other t k ht htl hka (by omega) h36 (.inr ⟨he,hra.symm,by
   unfold GK;rcases hc with g|g|g|g
   ·exact .inl g
   ·exfalso;omega
   ·exact .inr (.inl g)
   ·exact .inr (.inr g)⟩)
  have R1:=H'.run _ _ hrun;rw[fin1 _ _ _ _ _ _ _ (show(atR rest' rd).e≠0 from he) ho1 (show 0<=rd.a/\ rd.a<=1000 by omega)] at R1;exact⟨_,R1⟩
def pfC (e c:Int):Option (Bool ⊕ Bool):=
 (bif (e==92) then(bif (c !=63) then(some (inl (true))) else(bif (e==91) then(bif (c==41) then(some (inl (true))) else(bif (e==95) then(bif (c==94) then(some (inl (true))) else(bif (e==90) then(some (inl ((c !=92)))) else(some (inl (false))))) else(bif (e==90) then(some (inl ((c !=92)))) else(some (inl (false)))))) else(bif (e==95) then(bif (c==94) then(some (inl (true))) else(bif (e==90) then(some (inl ((c !=92)))) else(some (inl (false))))) else(bif (e==90) then(some (inl ((c !=92)))) else(some (inl (false))))))) else(bif (e==91) then(bif (c==41) then(some (inl (true))) else(bif (e==95) then(bif (c==94) then(some (inl (true))) else(bif (e==90) then(some (inl ((c !=92)))) else(some (inl (false))))) else(bif (e==90) then(some (inl ((c !=92)))) else(some (inl (false)))))) else(bif (e==95) then(bif (c==94) then(some (inl (true))) else(bif (e==90) then(some (inl ((c !=92)))) else(some (inl (false))))) else(bif (e==90) then(some (inl ((c !=92)))) else(some (inl (false)))))))
theorem pfC_all (e c:Int): ∃b,pfC e c=some (.inl b)/\ (b=true->(e=92/\ c≠63) \/(e=91/\ c=41) \/(e=95/\ c=94) \/(e=90/\ c≠92)):=by
 by_cases h1:e=92
 ·subst h1;by_cases g:c=63
  ·subst g;exact⟨false,rfl,fun h=>by cases h⟩
  ·refine⟨true,?_,fun _=> .inl ⟨rfl,g⟩⟩;unfold pfC;rw[show((92:Int)==92)=true from rfl,cond_true,bne_iff_ne.2 g,cond_true]
 ·by_cases h2:e=91
  ·subst h2;by_cases g:c=41
   ·subst g;exact⟨true,rfl,fun _=> .inr (.inl ⟨rfl,rfl⟩)⟩
   ·refine⟨false,?_,fun h=>by cases h⟩;unfold pfC;rw[beq_eq_false_iff_ne.2 g];rfl
  ·by_cases h3:e=95
   ·subst h3;by_cases g:c=94
    ·subst g;exact⟨true,rfl,fun _=> .inr (.inr (.inl ⟨rfl,rfl⟩))⟩
    ·refine⟨false,?_,fun h=>by cases h⟩;unfold pfC;rw[beq_eq_false_iff_ne.2 g];rfl
   ·by_cases h4:e=90
    ·subst h4;refine⟨c !=92,rfl,fun h=> .inr (.inr (.inr ⟨rfl,by simpa using h⟩))⟩
    ·refine⟨false,?_,fun h=>by cases h⟩;unfold pfC;rw[beq_eq_false_iff_ne.2 h1,beq_eq_false_iff_ne.2 h2,beq_eq_false_iff_ne.2 h3,beq_eq_false_iff_ne.2 h4];rfl
theorem qjl (s:List UInt8):(sub s 0 (min (length s:Int) 100)).length<=100:=by
 unfold sub;simp;omega
theorem rxpf_eq (s behind:List UInt8):z5q s behind=some true:=by
 unfold z5q;refine zz (by omega) (zak fun x1 hx1=>zz (by omega) (zak fun x2 hx2=> ?_));have l1:x1.length<=100:=by rw[<-hx1];exact qjl s
 have l2:x2.length<=100:=by rw[<-hx2];exact qjl behind
 obtain⟨R,a,e,h1,h2,h3,h4,h5,h6⟩:=qio x1 (by omega);refine zan _ h1 ?_;simp only;refine zbl false ?_ ?_
 ·rw[decide_eq_false (show ¬a<0 by omega),cond_false,decide_eq_false (show ¬a>(x1.length:Int) by omega),cond_false];by_cases he:e=0
  ·rw[show(e !=0)=false by simp[he],cond_false,show(e==0)=true by simp[he],cond_true,h5 he];simp
  ·rw[bne_iff_ne.2 he,cond_true,h4 he,beq_eq_false_iff_ne.2 he];rfl
 rw[cond_false];by_cases he:e=0
 ·refine zbl true ?_ rfl;rw[show(e==0)=true by simp[he],cond_true]
 by_cases hal:a=x1.length
 ·refine zbl true ?_ rfl;rw[beq_eq_false_iff_ne.2 he,cond_false,hal];simp
 refine zbl false ?_ ?_
 ·rw[beq_eq_false_iff_ne.2 he,cond_false,beq_eq_false_iff_ne.2 hal]
 rw[cond_false];refine zz (by omega) (zak fun x4 hx4=> ?_);obtain⟨b,hb1,hb2⟩:=pfC_all e (((x4).toNat:Nat):Int);refine zbl b hb1 ?_;cases b with
 |false=>rfl
 | true=>
  rw[cond_true];obtain⟨k,hk⟩: ∃k:Nat,(k:Int)=a:=⟨a.toNat,by omega⟩;refine zz (by omega) (zz (by omega) (zak fun x5 hx5=> ?_));have e5:x5=x1.take (k+1):=by
   rw[<-hx5, <-hk]
   show(x1.drop 0).take _=_
   rw[List.drop_zero];congr 1
  have hl5:x5.length=k+1:=by rw[e5];simp;omega
  refine zz (by omega) ?_;have hag:Ag (k+1) x1 (x5++x2):=⟨by omega,by simp;omega,fun i hi=>by
   rw[List.getElem?_append_left (by omega),e5,List.getElem?_take,if_pos hi]⟩
  obtain⟨R',h7⟩:=h6 (x5++x2) k ⟨hag,by omega,by simp;omega⟩ (by simp;omega) hk.symm (by
   unfold CK;rw[hk,hx4];exact hb2 rfl)
  refine zan _ h7 ?_;simp
end Go.Ab
namespace Go.Proofs.YtnoccnalocdldaaDoor
open Go Go.Ab Go.ChangeShapes Go.WideShapes Go.ChangeAt Go.RowKit Go.Fwd
theorem trods_rxreadPrefix {H:Type} {enc:TypeId×Value->H} {P:Program} {w:World} {base:Nat} {spare:Nat->Bool} {held:Bool} {t0 t1:TypeId} {args:Array Value} {ds:List (DataW H)} {ps:List MemPlace} (h:DataW.TrodAll enc P w base spare held [t0,t1] args.toList ds ps):
 ∃v0 v1 d0 d1 p0 p1,args= #[v0,v1]/\ ds=[d0,d1]/\ ps=p0++p1/\ DataW.Trod enc P w base spare held t0 v0 d0 p0/\ DataW.Trod enc P w base spare held t1 v1 d1 p1:=by
 obtain⟨v0,a0,d0,s0,p0,q0,hargs,rfl,rfl,g0,h⟩:=trodAll_cons h;obtain⟨v1,a1,d1,s1,p1,q1,rfl,rfl,rfl,g1,h⟩:=trodAll_cons h;obtain⟨rfl,rfl,rfl⟩:=trodAll_nil h;exact⟨v0,v1,d0,d1,p0,p1,by cases args;simp_all,rfl,by simp,g0,g1⟩
theorem witness_rxreadPrefix (os:Os) {H:Type} (enc:TypeId×Value->H):
 (OpenSpec.ofChange Rows.rxreadPrefixSpec).preRow enc prog Tryd.f4 Rows.rxreadPrefixRow.domain false Rows.rxreadPrefixRow.laid ((zrv os).forCall (fun _ _=>0) ⟨#[], #[.string ⟨#[]⟩,.string ⟨#[]⟩],[]⟩).memory #[.string ⟨#[]⟩,.string ⟨#[]⟩]:=
 OpenSpec.preRow_of_B rfl 8 (by kernel_rfl) (by kernel_rfl) (qhk os _)
theorem rxreadPrefix_lifted (os:Os)(started:os.Started)(H:Type)(enc:TypeId×Value->H)(F:Stop.Interp):
 ReturnsInHanded {} Tryd.checked os 4 .any ((OpenSpec.ofChange Rows.rxreadPrefixSpec).preRow enc prog Tryd.f4 Rows.rxreadPrefixRow.domain false Rows.rxreadPrefixRow.laid) (((OpenSpec.ofChange Rows.rxreadPrefixSpec).at F).post enc prog Tryd.f4 false true false false):=by
 refine returnsInHanded_of_row (C:=Tryd.checked) (s:=OpenSpec.ofChange Rows.rxreadPrefixSpec) own' started (by kernel_rfl) Tryd.func4
  (witness_row_atRef (enc:=enc) (C:=Tryd.checked) false (zrv os) #[.string ⟨#[]⟩,.string ⟨#[]⟩] rfl (by kernel_rfl) (by kernel_rfl) (by kernel_rfl) (witness_rxreadPrefix os enc)) ?_
 intro W base args ds gs before hval0 hW hcnd0 _ hsz0 hL hS _;have hval: ∀(j:Nat) t v,Tryd.f4.params[j]? =some t->args[j]? =some v->Value.okWide prog W .any base t v:=hval0;have hW':=hW;obtain⟨p,q,hA0,hV,rfl,_,_⟩:=hW;have hA:DataW.TrodAll enc prog W 0 (fun _=>true) true Tryd.f4.params.toList args.toList ds p:=hA0;rw[show Tryd.f4.params.toList=[9,9] from by kernel_rfl] at hA;have hA1:=hA;obtain⟨v0,v1,d0,d1,p0,p1,rfl,rfl,rfl,h0,h1⟩:=trods_rxreadPrefix hA;obtain⟨rfl,rfl⟩:=trodVars_none hV;obtain⟨s0,rfl,rfl,rfl,w0⟩:=Go.ChangeMaps.open_string und9 (hval 0 9 v0 (by kernel_rfl) rfl) h0;obtain⟨x0,hx0⟩: ∃l:List UInt8,l=s0.data.toList:=⟨_,rfl⟩;have r0:x0.length<2^63:=qdb hx0 w0;obtain⟨s1,rfl,rfl,rfl,w1⟩:=Go.ChangeMaps.open_string und9 (hval 1 9 v1 (by kernel_rfl) rfl) h1;obtain⟨x1,hx1⟩: ∃l:List UInt8,l=s1.data.toList:=⟨_,rfl⟩;have r1:x1.length<2^63:=qdb hx1 w1;clear hA0 hval0;simp only[List.append_nil,List.nil_append] at hW' hA1;have hlt:=hW'.lt;refine(qfg (rxpf_sh x0 x1 true (rxpf_eq x0 x1)) W (gv_of hL hS) (vs:=[.string s0,.string s1]) ⟨_,_,rfl,qak hx0,_,_,rfl,qak hx1,rfl⟩).mono fun e W' ⟨he,hw⟩=> ?_;subst he;refine⟨_,rfl,?_⟩;refine⟨_,_,_,[]++[],[],[],hW',?_,?_,rfl,hw.frame _,fun h=>by cases h⟩
 ·exact trodAll_mk1 (shut_bool (show prog.underlying 4=some .bool from by kernel_rfl) true)
 ·exact zoq qhr hw (by kernel_rfl) hA1 hlt
theorem rxreadPrefix_holds:Rows.RxreadPrefixSaid:=
 OpenClaim.holds_of_cond 4 Tryd.f4 rfl rfl rfl rfl rfl rfl rfl ⟨rfl,rfl,rfl,rfl,rfl⟩ rfl rfl rfl rfl rfl (by kernel_rfl) Tryd.func4 (by kernel_rfl)
  (of_decide_eq_true (by kernel_rfl)) (by unfold Func.isWrapper;rw[if_neg (of_decide_eq_false (by kernel_rfl))];exact⟨rfl,rfl⟩)
  (fun os started H enc _ F0=>by rw[OpenClaim.pre_eq_preRow];exact rxreadPrefix_lifted os started H enc F0)
theorem rxreadPrefix_card:Rows.RxreadPrefixCardSaid:=
 Claim7.holds_tied_plain_at .later [] [.data,.pinned] true (true, "1f6a05b9e1cb067fa71eb3eff6af42f534da8190dca4e69fad110c4cc7f307ad") false
  rxreadPrefix_holds (fun _ h=>by cases h) (by kernel_rfl) (fun _ h=>by cases h) rxreadPrefix_row_tie rfl ⟨rfl,rfl⟩ (by kernel_rfl) rfl
  (fun f fn hf hfn=>by
   obtain rfl:f=4:=Option.some.inj ((show prog.funcNamed "repartee/reparteelaw09.RxreadPrefix" =some 4 by kernel_rfl).symm.trans hf)|>.symm;obtain rfl:fn=Tryd.f4:=(Option.some.inj (Tryd.func4.symm.trans hfn)).symm;exact⟨by kernel_rfl,fun j t ht=>by
    have hm:t∈[9,9]:=by
     have h:=Array.mem_of_getElem? ht;rw[<-Array.mem_toList_iff,show Tryd.f4.params.toList=[9,9] from by kernel_rfl] at h;exact h
    have hall:([9,9].all fun u=> !prog.wantsStandIn u)=true:=by kernel_rfl
    exact(show prog.wantsStandIn t=false by simpa using List.all_eq_true.1 hall t hm)⟩)
  (by kernel_rfl)
#print axioms rxreadPrefix_card
end Go.Proofs.YtnoccnalocdldaaDoor
