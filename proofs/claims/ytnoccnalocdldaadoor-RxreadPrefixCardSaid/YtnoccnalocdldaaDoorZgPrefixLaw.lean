import Derived.Test.YtnoccnalocdldaaDoorZgDb
import Derived.Test.YtnoccnalocdldaaDoorCards
import Derived.Test.YtnoccnalocdldaaDoorTie
import Derived.SevenTiedAt
set_option linter.all false
set_option maxRecDepth 100000
set_option maxHeartbeats 4000000
open Sum (inl inr)
open Nat (le_refl)
open List (length length_cons length_append mem_append isEmpty mem_singleton getElem?_drop)
open Go.Proofs.Tryd (prog)
namespace Go.Ab
open Go Go.RowKit Go.Fwd Go.Proofs
def dig (a:UInt8):Prop:=48<=((a.toNat:Nat):Int)/\ ((a.toNat:Nat):Int)<=57
instance (a:UInt8):Decidable (dig a):=inferInstanceAs (Decidable (_/\ _))
theorem qhv {a:UInt8} (h:dig a):IntKind.u8.wrap (((a.toNat:Nat):Int)-48)=((a.toNat:Nat):Int)-48:=by
 have:((List.range 256).all fun c=>decide ((c:Int)<48)||decide (IntKind.u8.wrap ((c:Int)-48)=(c:Int)-48))=true:=by decide+kernel
 have:=List.all_eq_true.1 this a.toNat (List.mem_range.2 a.toNat_lt);simp only[Bool.or_eq_true,decide_eq_true_eq] at this;rcases this with h1|h1
 ·have:=h.1;omega
 ·exact h1
def zsk (s:List UInt8):Int×Int->Option ((Int×Int) ⊕ ((Int×Int) ⊕ (Int×Int))):=
 (fun s1=>(bif (decide (s1.2<(length s:Int))) then(bif (decide (s1.2<2)) then(chk (0<=s1.2/\ s1.2<(length s:Int)) (zbd (ix s s1.2) (fun x1=>(bif (decide ((((x1).toNat:Nat):Int)>=48)) then(chk (0<=s1.2/\ s1.2<(length s:Int)) (zbd (ix s s1.2) (fun x2=>(bif (decide ((((x2).toNat:Nat):Int)<=57)) then(chk (-9223372036854775808<=(10*s1.1)/\ (10*s1.1)<9223372036854775808) (chk (0<=s1.2/\ s1.2<(length s:Int)) (zbd (ix s s1.2) (fun x3=>(chk (-9223372036854775808<=(IntKind.u8.wrap ((((x3).toNat:Nat):Int)-48))/\ (IntKind.u8.wrap ((((x3).toNat:Nat):Int)-48))<9223372036854775808) (chk (-9223372036854775808<=((10*s1.1)+(IntKind.u8.wrap ((((x3).toNat:Nat):Int)-48)))/\ ((10*s1.1)+(IntKind.u8.wrap ((((x3).toNat:Nat):Int)-48)))<9223372036854775808) (chk (-9223372036854775808<=(s1.2+1)/\ (s1.2+1)<9223372036854775808) (some (inl (((10*s1.1)+(IntKind.u8.wrap ((((x3).toNat:Nat):Int)-48))),(s1.2+1))))))))))) else(some (inr (inl (s1.1,s1.2)))))))) else(some (inr (inl (s1.1,s1.2)))))))) else(some (inr (inl (s1.1,s1.2))))) else(some (inr (inl (s1.1,s1.2))))))
theorem nm_go (s:List UInt8)(v:Int)(k:Nat)(h0:0<=v/\ v<=1000)(hk:k<s.length)(h2:k<2)(hd:dig (ix s (k:Int))):zsk s (v,(k:Int))=some (.inl (10*v+(((ix s (k:Int)).toNat:Nat)-48:Int),((k+1:Nat):Int))):=by
 have hw:=qhv hd;have:=hd.1;have:=hd.2;unfold zsk;simp only[zbd,hw,decide_eq_true (show(k:Int)<(s.length:Int) by omega),decide_eq_true (show(k:Int)<2 by omega),decide_eq_true (show(((ix s (k:Int)).toNat:Nat):Int)>=48 from hd.1),decide_eq_true hd.2,cond_true];refine zy (by omega) (zy (by omega) (zy (by omega) (zy (by omega) (zy (by omega) (zy (by omega) (zy (by omega) ?_))))));simp
theorem z3q (s:List UInt8)(v:Int)(k:Nat)(h: ¬(k<s.length/\ k<2/\ dig (ix s (k:Int)))):zsk s (v,(k:Int))=some (.inr (.inl (v,(k:Int)))):=by
 unfold zsk;by_cases h1:k<s.length
 ·by_cases h2:k<2
  ·have h3: ¬dig (ix s (k:Int)):=fun h3=>h ⟨h1,h2,h3⟩;simp only[zbd,decide_eq_true (show(k:Int)<(s.length:Int) by omega),decide_eq_true (show(k:Int)<2 by omega),cond_true];by_cases h4:(((ix s (k:Int)).toNat:Nat):Int)>=48
   ·have h5: ¬(((ix s (k:Int)).toNat:Nat):Int)<=57:=fun h5=>h3 ⟨h4,h5⟩;simp only[decide_eq_true h4,decide_eq_false h5,cond_true,cond_false];exact zy (by omega) (zy (by omega) rfl)
   ·simp only[decide_eq_false h4,cond_false];exact zy (by omega) rfl
  ·simp only[decide_eq_true (show(k:Int)<(s.length:Int) by omega),decide_eq_false (show ¬(k:Int)<2 by omega),cond_true,cond_false]
 ·simp only[decide_eq_false (show ¬(k:Int)<(s.length:Int) by omega),cond_false]
theorem qjh (s:List UInt8): ∀(m k:Nat) (v:Int),k+m=2->0<=v->(k=0->v=0)->(k=1->v<=9)->(k=2->v<=99)->k<=s.length-> ∀f,m<f->
 ∃ (w:Int) (j:Nat),zbf (zsk s) f (v,(k:Int))=some (.inl (w,(j:Int)))/\ 0<=w/\ w<=99/\ k<=j/\ j<=2/\ j<=s.length/\
  (∀y,Ag (j+1) s y->zbf (zsk y) f (v,(k:Int))=some (.inl (w,(j:Int))))
 | 0,k,v,hm,h0,hv0,hv1,hv2,hk,f,hf=>by
  obtain⟨f,rfl⟩: ∃g,f=g+1:=⟨f-1,by omega⟩;have:=hv2 (by omega);refine⟨v,k,by rw[zbf,z3q s v k (by omega)],h0,this,le_refl _,by omega,hk,fun y hy=>by rw[zbf,z3q y v k (by omega)]⟩
 | m+1,k,v,hm,h0,hv0,hv1,hv2,hk,f,hf=>by
  obtain⟨f,rfl⟩: ∃g,f=g+1:=⟨f-1,by omega⟩;have hb:v<=9:=by
   by_cases hk0:k=0
   ·have:=hv0 hk0;omega
   ·exact hv1 (by omega)
  by_cases hd:k<s.length/\ k<2/\ dig (ix s (k:Int))
  ·obtain⟨d1,d2,d3⟩:=hd;have g1:=d3.1;have g2:=d3.2;obtain⟨w,j,r1,r2,r3,r4,r5,r6,r7⟩:=qjh s m (k+1) (10*v+(((ix s (k:Int)).toNat:Nat)-48:Int)) (by omega) (by omega) (by omega) (fun h=>by have:=hv0 (by omega);omega) (fun h=>by have:=hv1 (by omega);omega) (by omega) f (by omega);refine⟨w,j,by rw[zbf,nm_go s v k ⟨h0,by omega⟩ d1 d2 d3];exact r1,r2,r3,by omega,r5,r6,fun y hy=> ?_⟩;have e:ix s (k:Int)=ix y (k:Int):=hy.ix (by omega);rw[zbf,nm_go y v k ⟨h0,by omega⟩ (by have:=hy.2.1;omega) d2 (by rw[<-e];exact d3), <-e];exact r7 y hy
  ·refine⟨v,k,by rw[zbf,z3q s v k hd],h0,by omega,le_refl _,by omega,hk,fun y hy=> ?_⟩;have e:ix s (k:Int)=ix y (k:Int):=hy.ix (by omega);rw[zbf,z3q y v k (fun h=>hd ⟨by have:=hy.1;omega,h.2.1,by rw[e];exact h.2.2⟩)]
theorem zub (s:List UInt8): ∃(w:Int) (j:Nat),zft 1100 s=some (w,(j:Int))/\ 0<=w/\ w<=99/\ j<=s.length/\ (∀y,Ag (j+1) s y->zft 1100 y=some (w,(j:Int))):=by
 obtain⟨w,j,h1,h2,h3,_,_,h6,h7⟩:=qjh s 2 0 0 rfl (by omega) (fun _=>rfl) (fun h=>by omega) (fun h=>by omega) (by omega) 1100 (by omega);have: ∀y,zbf (zsk y) 1100 (0,((0:Nat):Int))=some (.inl (w,(j:Int)))->zft 1100 y=some (w,(j:Int)):=fun y h=>by
  unfold zft;exact zbk (w,(j:Int)) h rfl
 exact⟨w,j,this s h1,h2,h3,h6,fun y hy=>this y (h7 y hy)⟩
def brcA (s:List UInt8)(w:Int)(j:Int):Option ((Int×Int) ⊕ (Int×Int×Int×Int)):=
 (bif (decide (j>0)) then(bif (decide ((1+j)<(length s:Int))) then(chk (0<=(1+j)/\ (1+j)<(length s:Int)) (zbd (ix s (1+j)) (fun x3=>(bif ((((x3).toNat:Nat):Int)==44) then(chk (-9223372036854775808<=((1+j)+1)/\ ((1+j)+1)<9223372036854775808) (chk (0<=((1+j)+1)/\ ((1+j)+1)<=(length s:Int)/\ (length s:Int)<=(length s:Int)) (zbd (sub s ((1+j)+1) (length s:Int)) (fun x4=>(zag (zft 1100 x4) (fun x5=>(zdk (τ:=Int) (bif (x5.2==0) then(some (inl ((-1)))) else(some (inl (x5.1)))) (fun j2=>(chk (-9223372036854775808<=(((1+j)+1)+x5.2)/\ (((1+j)+1)+x5.2)<9223372036854775808) (some (inl (j2,(((1+j)+1)+x5.2))))))))))))) else(some (inl (w,(1+j)))))))) else(some (inl (w,(1+j))))) else(some (inl (w,(1+j)))))
theorem qij (s:List UInt8)(hl:s.length<1000)(w:Int)(hw:0<=w/\ w<=99)(j:Nat)(hj:1+j<=s.length):
 ∃(v:Int) (i:Nat),brcA s w (j:Int)=some (.inl (v,(i:Int)))/\ -1<=v/\ v<=99/\ 1+j<=i/\ i<=s.length/\ (∀y,y.length<1000->Ag (i+1) s y->brcA y w (j:Int)=some (.inl (v,(i:Int)))):=by
 by_cases hc:0<j/\ 1+j<s.length/\ (((ix s (1+(j:Int))).toNat:Nat):Int)=44
 ·obtain⟨c1,c2,c3⟩:=hc;obtain⟨n,m,h1,h2,h3,h4,h5⟩:=zub (s.drop (j+2));have hlen:(s.drop (j+2)).length=s.length-(j+2):=by simp
  have run: ∀y:List UInt8,y.length<1000->1+j<y.length->(((ix y (1+(j:Int))).toNat:Nat):Int)=44->zft 1100 (y.drop (j+2))=some (n,(m:Int))->brcA y w (j:Int)=some (.inl ((if(m:Int)=0 then-1 else n),((j+2+m:Nat):Int))):=fun y hy hy2 hy3 hn=>by
   unfold brcA;rw[decide_eq_true (show(j:Int)>0 by omega),cond_true,decide_eq_true (show 1+(j:Int)<(y.length:Int) by omega),cond_true];refine zy (by omega) (zaj fun a ha=> ?_);subst ha;rw[hy3,show((44:Int)==44)=true from rfl,cond_true];refine zy (by omega) (zy (by omega) (zaj fun a ha=> ?_));rw[show 1+(j:Int)+1=((j+2:Nat):Int) by omega,zem] at ha;subst ha;refine zam _ hn ?_;simp only;refine zbk (if(m:Int)=0 then-1 else n) ?_ ?_
   ·by_cases hm:(m:Int)=0
    ·rw[if_pos hm,hm];rfl
    ·rw[if_neg hm,beq_eq_false_iff_ne.2 hm,cond_false]
   ·have:m<=1000:=by omega
    refine zy (by omega) ?_;rw[show 1+(j:Int)+1+(m:Int)=((j+2+m:Nat):Int) by omega]
  refine⟨_,_,run s hl c2 c3 h1,by split<;>omega,by split<;>omega,by omega,by omega,fun y hy ha=> ?_⟩;refine run y hy (by have:=ha.2.1;omega) (by rw[<-ha.ix (by omega)];exact c3) (h5 _ (ha.drop (by omega)))
 ·have run: ∀y:List UInt8,¬(0<j/\ 1+j<y.length/\ (((ix y (1+(j:Int))).toNat:Nat):Int)=44)->brcA y w (j:Int)=some (.inl (w,((1+j:Nat):Int))):=fun y h=>by
   unfold brcA;by_cases h1:0<j
   ·rw[decide_eq_true (show(j:Int)>0 by omega),cond_true];by_cases h2:1+j<y.length
    ·rw[decide_eq_true (show 1+(j:Int)<(y.length:Int) by omega),cond_true];refine zy (by omega) (zaj fun a ha=> ?_);subst ha;rw[beq_eq_false_iff_ne.2 (fun e=>h ⟨h1,h2,e⟩),cond_false];simp
    ·rw[decide_eq_false (show ¬1+(j:Int)<(y.length:Int) by omega),cond_false];simp
   ·rw[decide_eq_false (show ¬(j:Int)>0 by omega),cond_false];simp
  refine⟨w,1+j,run s hc,by omega,by omega,le_refl _,hj,fun y hy ha=>run y fun h=>hc ⟨h.1,by have:=ha.1;omega,?_⟩⟩;rw[ha.ix (by omega)];exact h.2.2
def brcB (y:List UInt8)(w v j i:Int):Option (Int×Int×Int×Int):=
 bif (j==0) then(some (0,0,i,93)) else(bif (i==(length y:Int)) then(some (0,0,i,93)) else(chk (0<=i/\ i<(length y:Int)) (zbd (ix y i) (fun x6=>(bif ((((x6).toNat:Nat):Int) !=125) then(some (0,0,i,93)) else(zdk (τ:=Unit) (bif (v==0) then(some (inr (0,0,0,93))) else(bif (decide (w>16)) then(some (inr (0,0,0,93))) else(bif (decide (v>16)) then(some (inr (0,0,0,93))) else(bif (v !=(-1)) then(bif (decide (v<w)) then(some (inr (0,0,0,93))) else(some (inl ()))) else(some (inl ())))))) (fun j3=>(chk (-9223372036854775808<=(i+1)/\ (i+1)<9223372036854775808) (some (w,v,(i+1),0))))))))))
structure CN1 (x:List UInt8)(f:List UInt8->Option (Int×Int×Int×Int))(r:Int×Int×Int×Int):Prop where
 run:f x=some r
 err:r.2.2.2=0 \/r.2.2.2=93
 len:0<=r.2.2.1/\ r.2.2.1<=x.length
 same:r.2.2.2=0-> ∀y,y.length<1000->Ag (max 1 r.2.2.1.toNat) x y->f y=some r
theorem z6e (x:List UInt8)(hl:x.length<1000)(h0:1<=x.length): ∃r,CN1 x (zhi 1100) r:=by
 obtain⟨w,j,n1,n2,n3,n4,n5⟩:=zub (x.drop 1);have hlen:(x.drop 1).length=x.length-1:=by simp
 obtain⟨v,i,a1,a2,a3,a4,a5,a6⟩:=qij x hl w ⟨n2,n3⟩ j (by omega)
 have run: ∀y:List UInt8,y.length<1000->1<=y.length->j<=1000->zft 1100 (y.drop 1)=some (w,(j:Int))->brcA y w (j:Int)=some (.inl (v,(i:Int)))-> ∀R,
  brcB y w v (j:Int) (i:Int)=some R->zhi 1100 y=some R:=by
  intro y hy hy1 hj h1 h2 R hR;unfold zhi;refine zy (by omega) (zaj fun a ha=> ?_);rw[show(1:Int)=((1:Nat):Int) from rfl,zem] at ha;subst ha;refine zam _ h1 ?_;simp only;refine zy (by omega) ?_;exact zbk (v,(i:Int)) h2 hR
 by_cases hj0:j=0
 ·refine⟨_,run x hl h0 (by omega) n1 a1 (0,0,(i:Int),93) (by unfold brcB;rw[show((j:Int)==0)=true by simp[hj0],cond_true]),.inr rfl,by simp only;omega,fun h=>by simp at h⟩
 ·have c1 :((j:Int)==0)=false:=beq_eq_false_iff_ne.2 (by omega);by_cases hi:i=x.length
  ·refine⟨_,run x hl h0 (by omega) n1 a1 (0,0,(i:Int),93) (by unfold brcB;rw[c1,cond_false,show((i:Int)==(x.length:Int))=true by simp[hi],cond_true]),.inr rfl,by simp only;omega,fun h=>by simp at h⟩
  ·have c2: ∀y:List UInt8,i<y.length->((i:Int)==(y.length:Int))=false:=fun y h=>beq_eq_false_iff_ne.2 (by omega);by_cases h9:(((ix x (i:Int)).toNat:Nat):Int)=125
   ·by_cases hg:v≠0/\ w<=16/\ v<=16/\ (v= -1 \/w<=v)
    ·have fin: ∀y:List UInt8,y.length<1000->Ag (i+1) x y->zhi 1100 y=some (w,v,(i:Int)+1,0):=fun y hy ha=>by
      have hyl:=ha.2.1;refine run y hy (by omega) (by omega) (n5 _ (ha.drop (by omega))) (a6 y hy ha) _ ?_;unfold brcB;rw[c1,cond_false,c2 y (by omega),cond_false];refine zy (by omega) (zaj fun a hx=> ?_);rw[<-ha.ix (by omega)] at hx;subst hx;rw[h9,show((125:Int) !=125)=false from rfl,cond_false];refine zbk () ?_ (zy (by omega) rfl);obtain⟨g1,g2,g3,g4⟩:=hg;rw[beq_eq_false_iff_ne.2 g1,cond_false,decide_eq_false (show ¬w>16 by omega),cond_false,decide_eq_false (show ¬v>16 by omega),cond_false];by_cases g5:v= -1
      ·rw[g5];rfl
      ·rw[bne_iff_ne.2 g5,cond_true,decide_eq_false (show ¬v<w by omega),cond_false]
     refine⟨_,fin x hl ⟨by omega,by omega,fun _ _=>rfl⟩,.inl rfl,by simp only;omega,fun _ y hy ha=>fin y hy (ha.mono (by simp only;omega))⟩
    ·refine⟨_,run x hl h0 (by omega) n1 a1 (0,0,0,93) ?_,.inr rfl,by simp only;omega,fun h=>by simp at h⟩;unfold brcB;rw[c1,cond_false,c2 x (by omega),cond_false];refine zy (by omega) (zaj fun a hx=> ?_);subst hx;rw[h9,show((125:Int) !=125)=false from rfl,cond_false];refine zla (0,0,0,93) ?_ rfl;by_cases g1:v=0
     ·rw[g1];rfl
     ·rw [beq_eq_false_iff_ne.2 g1,cond_false];by_cases g2:w<=16
      ·rw [decide_eq_false (show ¬w>16 by omega),cond_false];by_cases g3:v<=16
       ·have g4:v≠ -1/\ v<w:=by
         refine⟨fun e=>hg ⟨g1,g2,g3,.inl e⟩,?_⟩;by_cases h:v<w
         ·exact h
         ·exact absurd ⟨g1,g2,g3,.inr (by omega)⟩ hg
        rw[decide_eq_false (show ¬v>16 by omega),cond_false,bne_iff_ne.2 g4.1,cond_true,decide_eq_true g4.2,cond_true]
       ·rw[decide_eq_true (show v>16 by omega),cond_true]
      ·rw[decide_eq_true (show w>16 by omega),cond_true]
   ·refine⟨_,run x hl h0 (by omega) n1 a1 (0,0,(i:Int),93) ?_,.inr rfl,by simp only;omega,fun h=>by simp at h⟩;unfold brcB;rw[c1,cond_false,c2 x (by omega),cond_false];refine zy (by omega) (zaj fun a hx=> ?_);subst hx;rw[bne_iff_ne.2 h9,cond_true]
def qiz (a:UInt8)(y:List UInt8):Option (Int×Int×Int×Int):=
 bif ((((a).toNat:Nat):Int)==42) then(some (0,(-1),1,0)) else(bif ((((a).toNat:Nat):Int)==43) then(some (1,(-1),1,0)) else(bif ((((a).toNat:Nat):Int)==63) then(some (0,1,1,0)) else(bif ((((a).toNat:Nat):Int)==123) then(zag (zhi 1100 y) (fun x2=>(some (x2.1,x2.2.1,x2.2.2.1,x2.2.2.2)))) else(some (1,1,0,0)))))
theorem qbb (x:List UInt8)(hl:x.length<1000): ∃r,CN1 x (zlg 1100) r:=by
 match x with
 |[]=>exact⟨_,rfl,.inl rfl,by simp,fun _ y _ h=>absurd h.1 (by simp)⟩
 | a :: t=>
  have run: ∀y:List UInt8,y.length<1000->Ag 1 (a::t) y-> ∀R,qiz a y=some R->zlg 1100 y=some R:=by
   intro y hy ha R hR;obtain⟨u,rfl,_⟩:=Ag.cons (m:=0) ha;unfold zlg;rw[show(a::u==([]:List UInt8))=false from rfl,cond_false];refine zy (qjd a u) (zaj fun b hb=> ?_);rw[show ix (a::u) (0:Int)=a from rfl] at hb;subst hb;exact hR
  have same:Ag 1 (a::t) (a::t):=⟨by simp,by simp,fun _ _=>rfl⟩;have one: ∀R:Int×Int×Int×Int,(∀y:List UInt8,qiz a y=some R)->R.2.2.2=0->(R.2.2.1=0 \/R.2.2.1=1)-> ∃r,CN1 (a::t) (zlg 1100) r:=fun R h e1 e2=>by
   refine⟨R,run _ hl same R (h _),.inl e1,by simp only[length_cons];omega,fun _ y hy ha=>run y hy (ha.mono (by omega)) R (h y)⟩
  by_cases h1:((a.toNat:Nat):Int)=42
  ·exact one (0,-1,1,0) (fun y=>by unfold qiz;rw[h1];rfl) rfl (.inr rfl)
  ·by_cases h2:((a.toNat:Nat):Int)=43
   ·exact one (1,-1,1,0) (fun y=>by unfold qiz;rw[h2];rfl) rfl (.inr rfl)
   ·by_cases h3:((a.toNat:Nat):Int)=63
    ·exact one (0,1,1,0) (fun y=>by unfold qiz;rw[h3];rfl) rfl (.inr rfl)
    ·by_cases h4:((a.toNat:Nat):Int)=123
     ·obtain⟨r,hr⟩:=z6e (a::t) hl (by simp);have e: ∀y:List UInt8,zhi 1100 y=some r->qiz a y=some r:=fun y hy=>by
       unfold qiz;rw[h4,hy];rfl
      exact⟨r,run _ hl same r (e _ hr.run),hr.err,hr.len,fun h y hy ha=>run y hy (ha.mono (by omega)) r (e y (hr.same h y hy ha))⟩
     ·exact one (1,1,0,0) (fun y=>by unfold qiz;rw[beq_eq_false_iff_ne.2 h1,beq_eq_false_iff_ne.2 h2,beq_eq_false_iff_ne.2 h3,beq_eq_false_iff_ne.2 h4];rfl) rfl (.inl rfl)
def TG (t:Tr):Prop:=(pre t).length<=10000
theorem zhb:TG noneT:=by simp[TG,noneT,pre,zda]
theorem z4n:TG emptyT:=by simp[TG,emptyT,pre,zda]
theorem zln (t:Tr):TG (zgo t):=by
 unfold zgo;split
 ·exact zmh ‹_›
 ·exact zhb
theorem qhe {t:Tr} (h:TG t)(a b:Int):TG (zrt t a b):=by
 unfold zrt;cases (!zty t||(!(a==0&&b==0)&& !(a==1&&b==1)&& !zlb a b)) with
 |true=>exact zhb
 | false=>
  simp only[cond_false];cases ((t.k:Int)==0&&decide (a>0)) with
  |true=>exact zhb
  | false=>
   simp only[cond_false];cases ((a==0&&b==0)||(t.k:Int)==0||(t.k:Int)==1) with
   |true=>exact z4n
   | false=>
    simp only[cond_false];cases (a==1&&b==1) with
    |true=>exact h
    |false=>exact zln _
theorem z6x (t:Tr):TG (zjw t):=zln _
theorem qhd (s:BS):TG (ofT s):=by
 unfold ofT;split
 ·exact zhb
 ·simp[TG,pre,zda]
theorem z0l (k:Nat)(l:List Tr) {d:Tr} (hd:TG d):TG (zpf k l d):=by
 unfold zpf;cases ((l.length:Int)==0) with
 |true=>exact hd
 | false=>
  simp only[cond_false];cases ((l.length:Int)==1) with
  |true=>exact zln _
  |false=>exact zln _
theorem tg_seq (l:List Tr):TG (z8l l):=by
 unfold z8l;split
 ·exact zhb
 ·exact z0l _ _ z4n
theorem tg_or (l:List Tr):TG (orT l):=by
 unfold orT;split
 ·exact zhb
 ·exact z0l _ _ zhb
theorem z2v: ∀ {l:List Tr},(∀t∈l,TG t)->(zda l).length<=10000*l.length
 |[],_=>by simp[zda]
 | t::l,h=>by
  have h1:TG t:=h t (by simp);have h2:=z2v (l:=l) fun x hx=>h x (by simp[hx]);rw[zda,length_append,length_cons];have:(pre t).length<=10000:=h1;omega
structure Two (s t:List UInt8)(k:Nat):Prop where
 ag:Ag (k+1) s t
 l1:s.length<1000
 l2:t.length<1000
def GK (s:List UInt8)(k:Nat)(e:Int):Prop:=(e=92/\ (((ix s (k:Int)).toNat:Nat):Int)≠63) \/(e=95/\ (((ix s (k:Int)).toNat:Nat):Int)=94) \/(e=90/\ (((ix s (k:Int)).toNat:Nat):Int)≠92)
def Fin1 (s:List UInt8)(k:Nat)(q:Rd):Prop:=(q.e=0/\ q.a<=k) \/(q.e≠0/\ q.a=k/\ GK s k q.e)
theorem Fin1.le {s:List UInt8} {k:Nat} {q:Rd} (h:Fin1 s k q):q.a<=k:=by rcases h with h|h<;>omega
theorem Fin1.back {s:List UInt8} {k:Nat} {q p:Rd} (h:Fin1 s k q)(h1:p.a<=q.a)(h2:p.e≠0->q.e=p.e/\ q.a=p.a):Fin1 s k p:=by
 by_cases he:p.e=0
 ·exact .inl ⟨he,by have:=h.le;omega⟩
 ·obtain⟨e1,e2⟩:=h2 he;rcases h with h|h
  ·exact absurd (e1▸h.1) he
  ·rw[e1,e2] at h;exact .inr h
def atR (t:List UInt8)(r:Rd):Rd:=Rd.mk t r.a r.e r.q
def PS (s:List UInt8)(e a:Int):Prop:=e=93 \/e=94 \/((e=92 \/e=95 \/e=90)/\ 0<=a/\ a<s.length/\ (ix s a=36->e=95))
def SZ (s:List UInt8)(z:Int):Prop:=0<=z/\ z<s.length/\ ix s z=40
structure Sp {α:Type} (s:List UInt8)(r:Rd)(X:List UInt8->Option (α×Rd))(y:α×Rd):Prop where
 run:X s=some y
 txt:y.2.s=s
 lo:r.a<=y.2.a
 hi:y.2.a<=s.length
 stick:r.e≠0->y.2.e=r.e/\ y.2.a=r.a
 stl:(zcq r.q).length<=(zcq y.2.q).length
 stu:((zcq y.2.q).length:Int)<=(zcq r.q).length+(y.2.a-r.a)
 str:(∀z∈zcq r.q,SZ s z)-> ∀z∈zcq y.2.q,SZ s z
 same: ∀t k,Two s t k->Fin1 s k y.2->X t=some (y.1,atR t y.2)
 pos:r.e=0->y.2.e≠0->PS s y.2.e y.2.a
def zcx (s:List UInt8)(a e:Int):Int:=if e≠0 then 0 else if a>=s.length then 0 else(((ix s a).toNat:Nat):Int)
theorem qbw (s:List UInt8)(a e:Int):0<=zcx s a e/\ zcx s a e<256:=by
 unfold zcx;have:=(ix s a).toNat_lt;split
 ·omega
 ·split<;>omega
theorem znk (s:List UInt8)(a e:Int)(q:Stk)(h:0<=a):zgf (Rd.mk s a e q)=some (zcx s a e,Rd.mk s a e q):=by
 unfold zgf zcx;simp only;by_cases he:e=0
 ·rw[show(e !=0)=false by simp[he],cond_false,if_neg (by simp[he])];by_cases h2:a>=s.length
  ·rw[decide_eq_true h2,cond_true,if_pos h2]
  ·rw[decide_eq_false h2,cond_false,if_neg h2];exact zy (by omega) rfl
 ·rw[show(e !=0)=true by simp[he],cond_true,if_pos he]
theorem zhn {s t:List UInt8} {k:Nat} (h:Two s t k) {a e:Int} (h0:0<=a)(h1:e=0->a<=k):zcx t a e=zcx s a e:=by
 unfold zcx;by_cases he:e=0
 ·have:=h1 he;have g1:=h.ag.1;have g2:=h.ag.2.1;rw[if_neg (show ¬e≠0 by simp[he]),if_neg (show ¬e≠0 by simp[he]),if_neg (show ¬a>=(t.length:Int) by omega),if_neg (show ¬a>=(s.length:Int) by omega),h.ag.ix (by omega)]
 ·rw[if_pos he,if_pos he]
theorem z9p {s:List UInt8} {a e:Int} (h:e≠0):zcx s a e=0:=by unfold zcx;rw[if_pos h]
theorem zkz (t:List UInt8)(a b e e':Int)(q:Stk):zfp b e (Rd.mk t a e' q)=some (if e'=0 then Rd.mk t b e q else Rd.mk t a e' q):=by
 unfold zfp;simp only;by_cases h:e'=0
 ·rw[if_pos h,h];rfl
 ·rw[if_neg h,beq_eq_false_iff_ne.2 h,cond_false]
def qhn (t:List UInt8)(a:Int):Int:=if Lib.indexByte ([42,43,63,123]:List UInt8) (z1d (zcx t a 0))>=0 then 92 else 0
theorem qic {s:List UInt8} {x:Int} (h0:0<=x)(h:qhn s x≠0):PS s (qhn s x) x:=by
 unfold qhn at h⊢;split at h
 ·rename_i hc;rw[if_pos hc];refine .inr (.inr ⟨.inl rfl,h0,?_,fun h36=> ?_⟩)
  ·by_cases hx:x>=s.length
   ·exfalso
    unfold zcx at hc;rw[if_neg (by simp),if_pos hx] at hc;exact absurd hc (by decide)
   ·omega
  ·exfalso
   unfold zcx at hc;rw[if_neg (by simp),h36] at hc;split at hc
   ·exact absurd hc (by decide)
   ·exact absurd hc (by decide)
 ·exact absurd rfl h
theorem zsg (n:Tr)(hn:TG n)(t:List UInt8)(ht:t.length<1000)(a:Nat)(ha:a<=t.length)(q:Stk)(r:Int×Int×Int×Int)(hr:zlg 1100 (t.drop a)=some r)(hl:0<=r.2.2.1/\ r.2.2.1<=1000):
 zdp 1100 n (Rd.mk t (a:Int) 0 q)=some (if r.2.2.2=0 then(zrt n r.1 r.2.1,Rd.mk t ((a:Int)+r.2.2.1) (if r.2.2.1=0 then 0 else qhn t ((a:Int)+r.2.2.1)) q) else(noneT,Rd.mk t ((a:Int)+r.2.2.1) r.2.2.2 q)):=by
 unfold zdp;simp only;rw[show((0:Int) !=0)=false from rfl,cond_false];refine zy (by omega) (zaj fun x hx=> ?_);rw[zem] at hx;subst hx;refine zam _ hr ?_;by_cases he:r.2.2.2=0
 ·rw [show(r.2.2.2 !=0)=false by simp[he],cond_false,if_pos he];refine zy (by omega) ?_;have hb:(pre n).length<2^40:=by have:(pre n).length<=10000:=hn;omega
  by_cases h0:r.2.2.1=0
  ·refine zbk (Rd.mk t ((a:Int)+r.2.2.1) 0 q) ?_ (zy hb (zaj fun x hx=> ?_))
   ·rw[decide_eq_false (by omega),cond_false]
   ·subst hx;rw[if_pos h0]
  ·refine zbk (Rd.mk t ((a:Int)+r.2.2.1) (qhn t ((a:Int)+r.2.2.1)) q) ?_ (zy hb (zaj fun x hx=> ?_))
   ·rw[decide_eq_true (by omega),cond_true];refine zam _ (znk t _ 0 q (by omega)) ?_;simp only;refine zy (qbw _ _ _) (zaj fun x hx=> ?_);unfold qhn;rw[hx];by_cases h5:x>=0
    ·rw[decide_eq_true h5,cond_true,if_pos h5];refine zam _ (zkz _ _ _ _ _ _) ?_;rw[if_pos rfl]
    ·rw[decide_eq_false h5,cond_false,if_neg h5]
   ·subst hx;rw[if_neg h0]
 ·rw[show(r.2.2.2 !=0)=true by simp[he],cond_true,if_neg he];refine zy (by omega) ?_;refine zam _ (zkz _ _ _ _ _ _) ?_;rw[if_pos rfl]
theorem z1x (n:Tr)(hn:TG n)(s:List UInt8)(hs:s.length<1000)(a:Nat)(ha:a<=s.length)(e:Int)(q:Stk):
 ∃y,Sp s (Rd.mk s (a:Int) e q) (fun t=>zdp 1100 n (Rd.mk t (a:Int) e q)) y/\ TG y.1:=by
 by_cases he:e=0
 ·subst he;obtain⟨r,hr⟩:=qbb (s.drop a) (by simp;omega);have hlen:(s.drop a).length=s.length-a:=by simp
  have hl:=hr.len;have h1:=zsg n hn s hs a ha q r hr.run (by omega);by_cases h0:r.2.2.2=0
  ·rw[if_pos h0] at h1;refine⟨_,⟨h1,rfl,by simp only;omega,by simp only;omega,fun h=>absurd rfl h,le_refl _,by simp only;omega,fun h=>h,fun t k ht hf=> ?_,fun _ hne=> ?_⟩,qhe hn _ _⟩
   rotate_left
   ·simp only at hne⊢;by_cases hz:r.2.2.1=0
    ·rw[if_pos hz] at hne;exact absurd rfl hne
    ·rw[if_neg hz] at hne⊢;exact qic (by omega) hne
   have hk:=hf.le;simp only at hk;have hc:=hr.same h0 (t.drop a) (by have:=ht.l2;simp;omega) (ht.ag.drop (by omega));have h2:=zsg n hn t ht.l2 a (by have:=ht.ag.2.1;omega) q r hc (by omega);rw[if_pos h0] at h2;have:qhn t ((a:Int)+r.2.2.1)=qhn s ((a:Int)+r.2.2.1):=by
    unfold qhn;rw[zhn ht (by omega) (fun _=>hk)]
   rw[this] at h2;exact h2
  ·rw[if_neg h0] at h1;have e93:r.2.2.2=93:=by rcases hr.err with h|h;exact absurd h h0;exact h
   refine⟨_,⟨h1,rfl,by simp only;omega,by simp only;omega,fun h=>absurd rfl h,le_refl _,by simp only;omega,fun h=>h,fun t k ht hf=> ?_,fun _ _=> .inl e93⟩,zhb⟩;rcases hf with hf|hf
   ·exact absurd hf.1 h0
   ·obtain⟨_,_,hg⟩:=hf;simp only[e93] at hg;rcases hg with hg|hg|hg<;>omega
 ·have run: ∀t,zdp 1100 n (Rd.mk t (a:Int) e q)=some (noneT,Rd.mk t (a:Int) e q):=fun t=>by
   unfold zdp;simp only;rw[show(e !=0)=true by simp[he],cond_true]
  exact⟨_,⟨run s,rfl,Int.le_refl _,by simp only;omega,fun _=>⟨rfl,rfl⟩,le_refl _,by simp only;omega,fun h=>h,fun t k _ _=>run t,fun h=>absurd h he⟩,zhb⟩
def AltS (n:Nat):Prop:= ∀(s:List UInt8),s.length<1000-> ∀(a:Nat) (q:Stk),a<=s.length->s.length-a<n->(zcq q).length<=a->
 ∃y,Sp s (Rd.mk s (a:Int) 0 q) (fun t=>zqy 1100 n (Rd.mk t (a:Int) 0 q)) y/\ TG y.1/\ (zcx s (a:Int) 0=63->y.2.e=92/\ y.2.a=a)/\ (y.2.e=0->zcx s y.2.a 0=0 \/zcx s y.2.a 0=41)
theorem qbu (p:Rd->Option (Tr×Rd))(t:List UInt8)(ht:t.length<1000)(a j:Nat)(haj:a+j<=1000)(q:Stk)(hq:(zcq q).length<=1000)(y:Tr×Rd)(hy:p (Rd.mk t ((a+j:Nat):Int) 0 (zgg q (a:Int)))=some y)(hs:y.2.s=t)(ha:0<=y.2.a/\ y.2.a<=1000)(hn:zcq y.2.q≠[])(hn2:(zcq y.2.q).length<=100000):
 zdx p (j:Int) (Rd.mk t (a:Int) 0 q)=some (y.1,if zcx t y.2.a y.2.e=41 then Rd.mk t (y.2.a+1) y.2.e (zts y.2.q) else y.2):=by
 unfold zdx;simp only;refine zy (by omega) (zy (by omega) ?_);refine zam y (by rw[<-hy];simp) ?_;have hr:=znk y.2.s y.2.a y.2.e y.2.q ha.1;have e1:(Rd.mk y.2.s y.2.a y.2.e y.2.q)=y.2:=rfl;rw[e1] at hr;rw[hs] at hr;by_cases h:zcx t y.2.a y.2.e=41
 ·refine zbk (Rd.mk t (y.2.a+1) y.2.e (zts y.2.q)) (zam _ hr ?_) (by rw[if_pos h]);simp only;rw[h,show((41:Int)==41)=true from rfl,cond_true];refine zy (by omega) (zy (by omega) (zy hn ?_));rw[hs]
 ·refine zbk y.2 (zam _ hr ?_) (by rw[if_neg h]);simp only;rw[beq_eq_false_iff_ne.2 h,cond_false]
theorem zwf (q:Stk)(a:Int):zcq (zgg q a)=zcq q++[a]:=rfl
theorem z8m (n:Nat)(H:AltS n)(s:List UInt8)(hs:s.length<1000)(a j:Nat)(hj:1<=j)(ha:a+j<=s.length)(hn:s.length-(a+j)<n)(q:Stk)(hq:(zcq q).length<=a)(h40:ix s (a:Int)=40):
 ∃y,Sp s (Rd.mk s (a:Int) 0 q) (fun t=>zdx (zqy 1100 n) (j:Int) (Rd.mk t (a:Int) 0 q)) y/\ TG y.1/\ ((a+j:Nat):Int)<=y.2.a/\ (zcx s ((a+j:Nat):Int) 0=63->y.2.e=92/\ y.2.a=((a+j:Nat):Int)):=by
 obtain⟨y,h,tg,qm,_⟩:=H s hs (a+j) (zgg q (a:Int)) ha hn (by rw[zwf];simp;omega);have hlo:=h.lo;have hhi:=h.hi;have hsl:=h.stl;have hsu:=h.stu;simp only at hlo hsl hsu;rw[zwf,length_append,List.length_singleton] at hsl hsu;have hne:zcq y.2.q≠[]:=fun e=>by rw[e] at hsl;simp at hsl
 have hstr:(∀z∈zcq q,SZ s z)-> ∀z∈zcq y.2.q,SZ s z:=fun hz=>h.str (by
  intro z hzz;simp only[zwf,mem_append,mem_singleton] at hzz;rcases hzz with hzz|hzz
  ·exact hz z hzz
  ·subst hzz;exact⟨by omega,by omega,h40⟩)
 have run: ∀t,t.length<1000->zqy 1100 n (Rd.mk t ((a+j:Nat):Int) 0 (zgg q (a:Int)))=some (y.1,atR t y.2)->zdx (zqy 1100 n) (j:Int) (Rd.mk t (a:Int) 0 q)=some (y.1,if zcx t y.2.a y.2.e=41 then Rd.mk t (y.2.a+1) y.2.e (zts y.2.q) else atR t y.2):=fun t ht hy=>by
  have:=qbu (zqy 1100 n) t ht a j (by omega) q (by omega) (y.1,atR t y.2) hy rfl (by simp only[atR];omega) hne (by simp only[atR];omega);exact this
 have es:atR s y.2=y.2:=by unfold atR;rw[<-h.txt]
 have h1:=run s hs (by rw[es];exact h.run);rw[es] at h1;by_cases h41:zcx s y.2.a y.2.e=41
 ·rw[if_pos h41] at h1;have he0:y.2.e=0:=by
   by_cases he:y.2.e=0
   ·exact he
   ·rw[z9p he] at h41;omega
  have hlt:y.2.a<s.length:=by
   by_cases hge:y.2.a>=s.length
   ·unfold zcx at h41;rw[if_neg (by simp[he0]),if_pos hge] at h41;omega
   ·omega
  have hpl:(zcq (zts y.2.q)).length=(zcq y.2.q).length-1:=by rw[z4p];simp
  refine⟨_,⟨h1,rfl,by simp only;omega,by simp only;omega,fun h=>absurd rfl h,by simp only;omega,by simp only;omega,fun hz z hzz=> ?_,fun t k ht hf=> ?_,fun _ hne=>absurd he0 hne⟩,tg,by simp only;omega,fun h63=> ?_⟩
  ·simp only[z4p] at hzz;exact hstr hz z ((List.dropLast_sublist _).subset hzz)
  ·have hk:=hf.le;simp only at hk;have hy:=h.same t k ht (hf.back (by simp only;omega) (fun he=>absurd he0 he));have h2:=run t ht.l2 hy;rw[zhn ht (by omega) (fun _=>by omega),if_pos h41] at h2;exact h2
  ·have:=(qm h63).1;omega
 ·rw[if_neg h41] at h1;refine⟨_,⟨h1,h.txt,by simp only;omega,hhi,fun h=>absurd rfl h,by simp only;omega,by simp only;omega,hstr,fun t k ht hf=> ?_,h.pos⟩,tg,by simp only;omega,fun h63=>qm h63⟩;have hk:=hf.le;simp only at hk;have hy:=h.same t k ht hf;have h2:=run t ht.l2 hy;rw[zhn ht (by omega) (fun _=>by omega),if_neg h41] at h2;exact h2
variable {c:UInt8} {n:Nat}
def z2t (g:Int->Rd->Option (Tr×Rd))(r:Rd)(x1:List UInt8)(c:UInt8):Option (Rd ⊕ (Tr×Rd)):=
 (bif ((((c).toNat:Nat):Int)==40) then(zbd (Lib.hasPrefix x1 ([40,63,58]:List UInt8)) (fun x3=>(bif x3 then(zag (g 3 r) (fun x4=>(some (inr (x4.1,x4.2))))) else(zag (g 1 r) (fun x5=>(chk ((pre x5.1).length<2^60) (zbd (zjw x5.1) (fun x6=>(some (inr (x6,x5.2))))))))))) else(bif ((((c).toNat:Nat):Int)==91) then(zag (zex 1100 x1) (fun x7=>(bif (x7.2.2 !=0) then(chk (-9223372036854775808<=(r.a+x7.2.1)/\ (r.a+x7.2.1)<9223372036854775808) (zag (zfp (r.a+x7.2.1) x7.2.2 r) (fun x8=>(some (inr (noneT,x8)))))) else(chk (-9223372036854775808<=(r.a+x7.2.1)/\ (r.a+x7.2.1)<9223372036854775808) (zbd (ofT x7.1) (fun x9=>(some (inr (x9,(Rd.mk r.s (r.a+x7.2.1) r.e r.q)))))))))) else(bif ((((c).toNat:Nat):Int)==46) then(chk (-9223372036854775808<=(r.a+1)/\ (r.a+1)<9223372036854775808) (zag (zfx 1100 ([10]:List UInt8)) (fun x10=>(zbd (~~~x10) (fun x11=>(zbd (ofT x11) (fun x12=>(some (inr (x12,(Rd.mk r.s (r.a+1) r.e r.q))))))))))) else(zdk (τ:=Bool) (bif ((((c).toNat:Nat):Int)==42) then(some (inl (((((c).toNat:Nat):Int)==42)))) else(bif ((((c).toNat:Nat):Int)==43) then(some (inl (((((c).toNat:Nat):Int)==43)))) else(bif ((((c).toNat:Nat):Int)==63) then(some (inl (((((c).toNat:Nat):Int)==63)))) else(some (inl (((((c).toNat:Nat):Int)==123))))))) (fun j2=>(bif j2 then(zag (zfp r.a 92 r) (fun x13=>(some (inl (x13))))) else(zdk (τ:=Bool) (bif ((((c).toNat:Nat):Int)==94) then(some (inl (((((c).toNat:Nat):Int)==94)))) else(some (inl (((((c).toNat:Nat):Int)==36))))) (fun j3=>(bif j3 then(zag (zfp r.a 95 r) (fun x14=>(some (inl (x14))))) else(some (inl (r))))))))))))
def ztv (x1:List UInt8)(j1:Rd):Option (Tr×Rd):=
 (zbd (zel x1) (fun x15=>(bif x15.2 then(chk (-9223372036854775808<=(j1.a+2)/\ (j1.a+2)<9223372036854775808) (zbd (ofT x15.1) (fun x16=>(some (x16,(Rd.mk j1.s (j1.a+2) j1.e j1.q)))))) else(zag (zba x1 zfy) (fun x17=>(bif (x17.2.2 !=0) then(zag (zfp j1.a 90 j1) (fun x18=>(some (noneT,x18)))) else(chk (-9223372036854775808<=(j1.a+x17.2.1)/\ (j1.a+x17.2.1)<9223372036854775808) (zag (zlx 1100 x17.1) (fun x19=>(some (x19,(Rd.mk j1.s (j1.a+x17.2.1) j1.e j1.q))))))))))))
theorem zrq (g:Int->Rd->Option (Tr×Rd))(t:List UInt8)(a:Nat)(ha:a<=t.length)(q:Stk)(c:UInt8)(u:List UInt8)(h:t.drop a=c::u):
 zgq 1100 g (Rd.mk t (a:Int) 0 q)=zdk (z2t g (Rd.mk t (a:Int) 0 q) (c::u) c) (fun j1=>ztv (c::u) j1):=by
 unfold zgq;refine zy (by simp only;omega) (zaj fun x hx=> ?_);have hx:x=c::u:=by rw[<-hx];simp only;rw[zem,h]
 subst hx;rw[zbi (qjd c u)];rfl
theorem zjm (h:((c.toNat:Nat):Int)≠(n:Int)):(((c.toNat:Nat):Int)==(n:Int))=false:=beq_eq_false_iff_ne.2 h
theorem zsl {s t:List UInt8} {k a:Nat} {u:List UInt8} (h:Two s t k)(hk:a<=k)(e:s.drop a=c::u): ∃v,t.drop a=c::v/\ Ag (k-a) u v:=by
 have:=h.ag.drop (k:=a) (n:=k-a+1) (by omega);rw[e] at this;exact Ag.cons this
theorem pre_col {s t:List UInt8} (h:Ag 3 s t):Lib.hasPrefix t ([40,63,58]:List UInt8)=Lib.hasPrefix s ([40,63,58]:List UInt8):=by
 match s,h with
 |[],h=>exact absurd h.1 (by simp)
 |[a],h=>exact absurd h.1 (by simp)
 |[a,b],h=>exact absurd h.1 (by simp)
 | a::b::c::u,h=>
  obtain⟨y1,rfl,h1⟩:=Ag.cons (m:=2) h;obtain⟨y2,rfl,h2⟩:=Ag.cons (m:=1) h1;obtain⟨y3,rfl,h3⟩:=Ag.cons (m:=0) h2;simp[Lib.hasPrefix,List.isPrefixOf]
theorem qao {s:List UInt8} (h:Lib.hasPrefix s ([40,63,58]:List UInt8)=true):3<=s.length/\ s[1]? =some 63:=by
 match s,h with
 |[],h=>cases h
 |[a],h=>simp[Lib.hasPrefix,List.isPrefixOf] at h
 |[a,b],h=>simp[Lib.hasPrefix,List.isPrefixOf] at h
 | a::b::c::u,h=>
  simp[Lib.hasPrefix,List.isPrefixOf] at h;refine⟨by simp,?_⟩;simp only[List.getElem?_cons_succ,List.getElem?_cons_zero];rw[<-h.2.1]
theorem z7j (c:Int)(h0:0<=c)(h:c<256):zlx 1100 c=some (ofT (bit c.toNat)):=by
 unfold zlx;have hq:=(qgl c.toNat (by omega)).2.2.2.2.1;exact zy ⟨h0,h⟩ (zam (bit c.toNat) hq (zaj fun x hx=>by rw[hx]))
theorem set10:zfx 1100 ([10]:List UInt8)=some (bit 10):=(qgl 10 (by omega)).2.2.2.2.1
theorem rb_mark (c:UInt8)(u:List UInt8)(h:c=42 \/c=43 \/c=63 \/c=123 \/c=94 \/c=36):zba (c::u) zfy=some (0,0,20):=by
 have hc:c≠92:=by rcases h with h|h|h|h|h|h<;>subst h<;>decide
 obtain⟨r,h1,_⟩:=rb1 c hc zfy;have:zba [c] zfy=some (0,0,20):=by
  rcases h with h|h|h|h|h|h<;>subst h<;>decide+kernel
 rw[h1 u, <-h1 [],this]
theorem z9g (c:UInt8)(u:List UInt8)(h:c=42 \/c=43 \/c=63 \/c=123 \/c=94 \/c=36)(t:List UInt8)(a e:Int)(he:e≠0)(q:Stk):ztv (c::u) (Rd.mk t a e q)=some (noneT,Rd.mk t a e q):=by
 have hc:c≠92:=by rcases h with h|h|h|h|h|h<;>subst h<;>decide
 unfold ztv;refine zaj fun x hx=> ?_;rw[zob hc] at hx;subst hx;simp only[cond_false];refine zam _ (rb_mark c u h) ?_;simp only;rw[show((20:Int) !=0)=true from rfl,cond_true];refine zam _ (zkz _ _ _ _ _ _) ?_;rw[if_neg he]
theorem z9d (s:List UInt8)(hs:s.length<1000)(a:Nat)(ha:a<s.length)(q:Stk)(c:UInt8)(u:List UInt8)(e:s.drop a=c::u):
 ∃ y:Tr×Rd,ztv (c::u) (Rd.mk s (a:Int) 0 q)=some y/\ TG y.1/\ y.2.s=s/\ (a:Int)<=y.2.a/\ y.2.a<=s.length/\ (y.2.e=0->(a:Int)<y.2.a)/\ y.2.q=q/\ (y.2.e≠0->y.2.e=90/\ y.2.a=a)/\
  (∀t k,Two s t k->Fin1 s k y.2-> ∀v,t.drop a=c::v->ztv (c::v) (Rd.mk t (a:Int) 0 q)=some (y.1,atR t y.2)):=by
 have hlen:(s.drop a).length=s.length-a:=by simp
 cases hsh:(zel (c::u)).2 with
 | true=>
  have h2:=z0n hsh;have run: ∀(t:List UInt8) v,t.length<1000->a<=t.length->zel (c::v)=zel (c::u)->ztv (c::v) (Rd.mk t (a:Int) 0 q)=some (ofT (zel (c::u)).1,Rd.mk t ((a:Int)+2) 0 q):=fun t v ht hat hv=>by
   unfold ztv;refine zaj fun x hx=> ?_;rw[hv] at hx;subst hx;rw[hsh,cond_true];exact zy (by simp only;omega) (zaj fun x hx=>by rw[hx])
  rw[e] at hlen;refine⟨_,run s u hs (by omega) rfl,qhd _,rfl,by simp only;omega,by simp only;omega,fun _=>by simp only;omega,rfl,fun h=>absurd rfl h,fun t k ht hf v hv=> ?_⟩;have hk:=hf.le;simp only at hk;have g1:=ht.ag.2.1;refine run t v ht.l2 (by omega) ?_;have:=ht.ag.drop (k:=a) (n:=2) (by omega);rw[e,hv] at this;exact zoh this
 | false=>
  obtain⟨r,hr⟩:=qjj zfy (c::u);have run: ∀(t:List UInt8) v,t.length<1000->a<=t.length->(zel (c::v)).2=false->zba (c::v) zfy=some r->(r.2.2=0->0<=r.2.1/\ r.2.1<=1000)->ztv (c::v) (Rd.mk t (a:Int) 0 q)=some (if r.2.2=0 then(ofT (bit r.1.toNat),Rd.mk t ((a:Int)+r.2.1) 0 q) else(noneT,Rd.mk t (a:Int) 90 q)):=fun t v ht hat hv hrv hb=>by
   unfold ztv;refine zaj fun x hx=> ?_;rw[<-hx,hv,cond_false];refine zam _ hrv ?_;by_cases h0:r.2.2=0
   ·have:=hb h0;rw[show(r.2.2 !=0)=false by simp[h0],cond_false,if_pos h0];refine zy (by simp only;omega) (zam _ (z7j r.1 hr.lo hr.hi) rfl)
   ·rw[show(r.2.2 !=0)=true by simp[h0],cond_true,if_neg h0];refine zam _ (zkz _ _ _ _ _ _) ?_;rw[if_pos rfl]
  rw[e] at hlen;by_cases h0:r.2.2=0
  ·have hl:=hr.len h0;have h1:=run s u hs (by omega) hsh hr.run (fun _=>by omega);rw[if_pos h0] at h1;refine⟨_,h1,qhd _,rfl,by simp only;omega,by simp only;omega,fun _=>by simp only;omega,rfl,fun h=>absurd rfl h,fun t k ht hf v hv=> ?_⟩;have hk:=hf.le;simp only at hk;have g1:=ht.ag.2.1;have hag:=ht.ag.drop (k:=a) (n:=r.2.1.toNat) (by omega);rw[e,hv] at hag;have h2:=run t v ht.l2 (by omega) ?_ (hr.same h0 _ hag) (fun _=>by omega)
   ·rw[if_pos h0] at h2;exact h2
   ·by_cases h3:r.2.1<2
    ·obtain⟨c',t',e',hn⟩:=hr.one h0 h3;cases e';rw[zob hn]
    ·rw[zoh (hag.mono (by omega))];exact hsh
  ·have h1:=run s u hs (by omega) hsh hr.run (fun h=>absurd h h0);rw[if_neg h0] at h1;refine⟨_,h1,zhb,rfl,by simp only;omega,by simp only;omega,fun h=>by simp at h,rfl,fun _=>⟨rfl,rfl⟩,fun t k ht hf v hv=> ?_⟩;rcases hf with hf|⟨_,hf2,hf3⟩
   ·have:=hf.1;simp at this
   ·simp only at hf2 hf3;have hak:k=a:=by omega
    subst hak;have hc:c≠92:=by
     intro e9;have hix:ix s (k:Int)=c:=by
      unfold ix;rw[Int.toNat_natCast,List.getD_eq_getElem?_getD];have:=congrArg (fun l=>l[0]?) e;simp only[getElem?_drop,Nat.add_zero,List.getElem?_cons_zero] at this;rw[this];rfl
     rcases hf3 with h|h|h
     ·omega
     ·omega
     ·rw[hix,e9] at h;exact h.2 rfl
    have g1:=ht.ag.2.1;have h2:=run t v ht.l2 (by omega) (by rw[zob hc]) (hr.bad h0 c u rfl hc v) (fun h=>absurd h h0);rw[if_neg h0] at h2;exact h2
theorem qco {s:List UInt8} {a:Nat} {u:List UInt8} (e:s.drop a=c::u):ix s (a:Int)=c:=by
 unfold ix;rw[Int.toNat_natCast,List.getD_eq_getElem?_getD];have:=congrArg (fun l=>l[0]?) e;simp only[getElem?_drop,Nat.add_zero,List.getElem?_cons_zero] at this;rw[this];rfl
theorem zmo (hn:n<256)(h:((c.toNat:Nat):Int)=(n:Int)):c=UInt8.ofNat n:=by
 apply UInt8.toNat_inj.1;simp;omega
theorem z8w (g:Int->Rd->Option (Tr×Rd))(t:List UInt8)(a:Nat)(ha:a<=t.length)(q:Stk)(c:UInt8)(u:List UInt8)(h:t.drop a=c::u)(hc:c=42 \/c=43 \/c=63 \/c=123 \/c=94 \/c=36):
 zgq 1100 g (Rd.mk t (a:Int) 0 q)=some (noneT,Rd.mk t (a:Int) (if c=94 \/c=36 then 95 else 92) q):=by
 rw[zrq g t a ha q c u h];refine zbk (Rd.mk t (a:Int) (if c=94 \/c=36 then 95 else 92) q) ?_ (z9g c u hc t _ _ (by split<;>omega) q);unfold z2t;rcases hc with h|h|h|h|h|h<;>subst h<;>rfl
structure AtS (n:Nat)(s:List UInt8)(a:Nat)(q:Stk)(c:UInt8)(y:Tr×Rd):Prop where
 sp:Sp s (Rd.mk s (a:Int) 0 q) (fun t=>zgq 1100 (zdx (zqy 1100 n)) (Rd.mk t (a:Int) 0 q)) y
 tg:TG y.1
 adv:y.2.e=0->(a:Int)<y.2.a
 qm:c=63->y.2.e=92/\ y.2.a=a
theorem qif (n:Nat)(H:AltS n)(s:List UInt8)(hs:s.length<1000)(a:Nat)(ha:a<s.length)(hn:s.length-a<n+1)(q:Stk)(hq:(zcq q).length<=a)(c:UInt8)(u:List UInt8)(hd:s.drop a=c::u):
 ∃y,AtS n s a q c y:=by
 have hlen:(s.drop a).length=s.length-a:=by simp
 have hixc:=qco hd;by_cases hop:c=42 \/c=43 \/c=63 \/c=123 \/c=94 \/c=36
 ·refine⟨_,⟨z8w _ s a (by omega) q c u hd hop,rfl,Int.le_refl _,by simp only;omega,fun h=>absurd rfl h,le_refl _,by simp only;omega,fun h=>h,fun t k ht hf=> ?_,fun _ _=> ?_⟩,zhb,fun h=> ?_,fun h=> ?_⟩
  ·have hk:=hf.le;simp only at hk;obtain⟨v,hv,_⟩:=zsl ht (by omega) hd;have g1:=ht.ag.2.1;exact z8w _ t a (by omega) q c v hv hop
  ·simp only;refine .inr (.inr ⟨by split<;>simp,by omega,by omega,fun h36=> ?_⟩);rw[hixc] at h36;rw[if_pos (.inr h36)]
  ·simp only at h;split at h<;>omega
  ·subst h;exact⟨rfl,rfl⟩
 ·have hno:c≠42/\ c≠43/\ c≠63/\ c≠123/\ c≠94/\ c≠36:=by
   refine⟨fun h=>hop (.inl h),fun h=>hop (.inr (.inl h)),fun h=>hop (.inr (.inr (.inl h))),fun h=>hop (.inr (.inr (.inr (.inl h)))),fun h=>hop (.inr (.inr (.inr (.inr (.inl h))))),fun h=>hop (.inr (.inr (.inr (.inr (.inr h)))))⟩
  by_cases h40:c=40
  ·-- a group
   subst h40;have runG: ∀(t:List UInt8) v,a<=t.length->t.drop a=40::v-> ∀b,Lib.hasPrefix (40::v) ([40,63,58]:List UInt8)=b-> ∀y:Tr×Rd,zdx (zqy 1100 n) ((if b=true then 3 else 1:Nat):Int) (Rd.mk t (a:Int) 0 q)=some y->TG y.1->zgq 1100 (zdx (zqy 1100 n)) (Rd.mk t (a:Int) 0 q)=some (if b=true then y.1 else zjw y.1,y.2):=fun t v hat hv b hb y hy htg=>by
    rw[zrq _ t a hat q 40 v hv];refine zla _ ?_ rfl;unfold z2t;rw[show((((40:UInt8).toNat:Nat):Int)==40)=true from rfl,cond_true];refine zaj fun x hx=> ?_;rw[hb] at hx;subst hx;cases b with
    |true=>rw[cond_true];exact zam y hy rfl
    | false=>
     rw[cond_false];refine zam y hy (zy ?_ (zaj fun x hx=>by rw[<-hx];rfl));have:(pre y.1).length<=10000:=htg;omega
   obtain⟨b,hb⟩: ∃b,Lib.hasPrefix ((40:UInt8)::u) ([40,63,58]:List UInt8)=b:=⟨_,rfl⟩;obtain⟨j,hj⟩: ∃j:Nat,j=if b=true then 3 else 1:=⟨_,rfl⟩
   have hj1:1<=j:=by rw[hj];split<;>omega
   have hjl:a+j<=s.length:=by
    rw[hj];split
    ·rename_i h;rw[h] at hb;have:=(qao hb).1;rw[hd] at hlen;omega
    ·omega
   obtain⟨y,h,tg,hadv,qm⟩:=z8m n H s hs a j hj1 hjl (by omega) q hq hixc;have hrun:=h.run;try simp only at hrun
   have h1:=runG s u (by omega) hd b hb y (by rw[<-hj];exact hrun) tg;refine⟨_,⟨h1,h.txt,h.lo,h.hi,fun h=>absurd rfl h,h.stl,h.stu,h.str,fun t k ht hf=> ?_,h.pos⟩,?_,fun _=>by simp only;omega,fun h=>by cases h⟩
   ·have hk:=hf.le;try simp only at hk
    have g1:=ht.ag.2.1;obtain⟨v,hv,hag⟩:=zsl ht (by omega) hd;have hb2:Lib.hasPrefix ((40:UInt8)::v) ([40,63,58]:List UInt8)=b:=by
     by_cases hk2:a+2<=k
     ·have:=ht.ag.drop (k:=a) (n:=3) (by omega);rw[hd,hv] at this;rw[pre_col this,hb]
     ·cases hbt:Lib.hasPrefix ((40:UInt8)::v) ([40,63,58]:List UInt8) with
      | false=>
       cases b with
       |false=>rfl
       | true=>
        have:j=3:=by rw[hj];rfl
        omega
      | true=>
       exfalso
       have hb1:b=false/\ j=1:=by
        cases b with
        |false=>exact⟨rfl,by rw[hj];rfl⟩
        | true=>
         have:j=3:=by rw[hj];rfl
         omega
       have hk3:k=a+1:=by omega
       have h63:=(qao hbt).2;have e63:s[a+1]? =some 63:=by
        rw[ht.ag.2.2 (a+1) (by omega)];have:=congrArg (fun l=>l[1]?) hv;simp only[getElem?_drop] at this;rw[this];exact h63
       have ix63:ix s ((a+1:Nat):Int)=63:=by
        unfold ix;rw[Int.toNat_natCast,List.getD_eq_getElem?_getD,e63];rfl
       have hal:a+1<s.length:=by have:=ht.ag.1;omega
       have hn63:zcx s ((a+j:Nat):Int) 0=63:=by
        rw[hb1.2];unfold zcx;rw[if_neg (by simp),if_neg (by omega),ix63];rfl
       have hq2:=qm hn63;rcases hf with hf|⟨_,_,hf3⟩
       ·have:=hf.1;simp only at this;omega
       ·simp only[hq2.1] at hf3;rcases hf3 with h|h|h
        ·rw[hk3,ix63] at h;exact h.2 rfl
        ·omega
        ·omega
    have hy:=h.same t k ht hf;try simp only at hy
    exact runG t v (by omega) hv b hb2 (y.1,atR t y.2) (by rw[<-hj];exact hy) tg
   ·simp only;split
    ·exact tg
    ·exact z6x _
  ·have i40:(((c.toNat:Nat):Int)==40)=false:=zjm (n:=40) fun h=>h40 (zmo (n:=40) (by omega) h);by_cases h91:c=91
   ·-- a bracket
    subst h91;obtain⟨r,hr⟩:=z1t (91::u) (by rw[<-hd];simp;omega);have runB: ∀(t:List UInt8) v,t.length<1000->a<=t.length->t.drop a=91::v->zex 1100 (91::v)=some r->zgq 1100 (zdx (zqy 1100 n)) (Rd.mk t (a:Int) 0 q)=some (if r.2.2=0 then(ofT r.1,Rd.mk t ((a:Int)+r.2.1) 0 q) else(noneT,Rd.mk t ((a:Int)+r.2.1) r.2.2 q)):=fun t v ht hat hv hrv=>by
     rw[zrq _ t a hat q 91 v hv];refine zla _ ?_ rfl;unfold z2t;rw[show((((91:UInt8).toNat:Nat):Int)==40)=false from rfl,cond_false,show((((91:UInt8).toNat:Nat):Int)==91)=true from rfl,cond_true];refine zam r hrv ?_;have hl2:=hr.len;rw[<-hd] at hl2;by_cases h0:r.2.2=0
     ·rw[show(r.2.2 !=0)=false by simp[h0],cond_false,if_pos h0];exact zy (by simp only;omega) (zaj fun x hx=>by rw[hx])
     ·rw[show(r.2.2 !=0)=true by simp[h0],cond_true,if_neg h0];refine zy (by simp only;omega) (zam _ (zkz _ _ _ _ _ _) ?_);rw[if_pos rfl]
    have h1:=runB s u hs (by omega) hd hr.run;have hl2:=hr.len;rw[<-hd] at hl2;by_cases h0:r.2.2=0
    ·have hone:=hr.one h0;rw[if_pos h0] at h1;refine⟨_,⟨h1,rfl,by simp only;omega,by simp only;omega,fun h=>absurd rfl h,le_refl _,by simp only;omega,fun h=>h,fun t k ht hf=> ?_,fun _ hne=>absurd rfl hne⟩,qhd _,fun _=>by simp only;omega,fun h=>by cases h⟩;have hk:=hf.le;simp only at hk;have g1:=ht.ag.2.1;obtain⟨v,hv,_⟩:=zsl ht (by omega) hd;have hag:=ht.ag.drop (k:=a) (n:=r.2.1.toNat) (by omega);rw[hd,hv] at hag;have h2:=runB t v ht.l2 (by omega) hv (hr.same h0 _ (by have:=ht.l2;rw[<-hv];simp;omega) hag);rw[if_pos h0] at h2;exact h2
    ·rw[if_neg h0] at h1;have e94:r.2.2=94:=by rcases hr.err with h|h;exact absurd h h0;exact h
     refine⟨_,⟨h1,rfl,by simp only;omega,by simp only;omega,fun h=>absurd rfl h,le_refl _,by simp only;omega,fun h=>h,fun t k ht hf=> ?_,fun _ _=> .inr (.inl e94)⟩,zhb,fun h=>absurd h h0,fun h=>by cases h⟩;rcases hf with hf|hf
     ·exact absurd hf.1 h0
     ·have hg:=hf.2.2;simp only[e94] at hg;rcases hg with hg|hg|hg<;>omega
   ·have i91:(((c.toNat:Nat):Int)==91)=false:=zjm (n:=91) fun h=>h91 (zmo (n:=91) (by omega) h);by_cases h46:c=46
    ·subst h46;have runD: ∀(t:List UInt8) v,t.length<1000->a<=t.length->t.drop a=46::v->zgq 1100 (zdx (zqy 1100 n)) (Rd.mk t (a:Int) 0 q)=some (ofT (~~~ bit 10),Rd.mk t ((a:Int)+1) 0 q):=fun t v ht hat hv=>by
      rw[zrq _ t a hat q 46 v hv];refine zla _ ?_ rfl;unfold z2t;rw[show((((46:UInt8).toNat:Nat):Int)==40)=false from rfl,cond_false,show((((46:UInt8).toNat:Nat):Int)==91)=false from rfl,cond_false,show((((46:UInt8).toNat:Nat):Int)==46)=true from rfl,cond_true];refine zy (by simp only;omega) (zam _ set10 (zaj fun x hx=>zaj fun y hy=> ?_));subst hx;subst hy;rfl
     refine⟨_,⟨runD s u hs (by omega) hd,rfl,by simp only;omega,by simp only;omega,fun h=>absurd rfl h,le_refl _,by simp only;omega,fun h=>h,fun t k ht hf=> ?_,fun _ hne=>absurd rfl hne⟩,show TG (ofT (~~~ bit 10)) from qhd (~~~ bit 10),fun _=>by simp only;omega,fun h=>by cases h⟩;have hk:=hf.le;simp only at hk;have g1:=ht.ag.2.1;obtain⟨v,hv,_⟩:=zsl ht (by omega) hd;exact runD t v ht.l2 (by omega) hv
    ·have i46:(((c.toNat:Nat):Int)==46)=false:=zjm (n:=46) fun h=>h46 (zmo (n:=46) (by omega) h);have A: ∀(t:List UInt8) v,z2t (zdx (zqy 1100 n)) (Rd.mk t (a:Int) 0 q) (c::v) c=some (.inl (Rd.mk t (a:Int) 0 q)):=fun t v=>by
      unfold z2t;rw[i40,cond_false,i91,cond_false,i46,cond_false];have i42:(((c.toNat:Nat):Int)==42)=false:=zjm (n:=42) fun h=>hno.1 (zmo (n:=42) (by omega) h);have i43:(((c.toNat:Nat):Int)==43)=false:=zjm (n:=43) fun h=>hno.2.1 (zmo (n:=43) (by omega) h);have i63:(((c.toNat:Nat):Int)==63)=false:=zjm (n:=63) fun h=>hno.2.2.1 (zmo (n:=63) (by omega) h);have i123:(((c.toNat:Nat):Int)==123)=false:=zjm (n:=123) fun h=>hno.2.2.2.1 (zmo (n:=123) (by omega) h);have i94:(((c.toNat:Nat):Int)==94)=false:=zjm (n:=94) fun h=>hno.2.2.2.2.1 (zmo (n:=94) (by omega) h);have i36:(((c.toNat:Nat):Int)==36)=false:=zjm (n:=36) fun h=>hno.2.2.2.2.2 (zmo (n:=36) (by omega) h);rw[i42,i43,i63,i123,i94,i36];rfl
     obtain⟨y,h1,h2,h3,h4,h5,h6,h7,h9,h8⟩:=z9d s hs a ha q c u hd;have run: ∀(t:List UInt8) v,a<=t.length->t.drop a=c::v-> ∀y:Tr×Rd,ztv (c::v) (Rd.mk t (a:Int) 0 q)=some y->zgq 1100 (zdx (zqy 1100 n)) (Rd.mk t (a:Int) 0 q)=some y:=fun t v hat hv y hy=>by
      rw[zrq _ t a hat q c v hv];exact zbk _ (A t v) hy
     refine⟨y,⟨run s u (by omega) hd y h1,h3,h4,h5,fun h=>absurd rfl h,by rw[h7];exact le_refl _,by rw[h7];simp only;omega,by rw[h7];exact fun h=>h,fun t k ht hf=> ?_,fun _ hne=> ?_⟩,h2,h6,fun h=>absurd h hno.2.2.1⟩
     ·have hk:=hf.le;have g1:=ht.ag.2.1;obtain⟨v,hv,_⟩:=zsl ht (by omega) hd;exact run t v (by omega) hv _ (h8 t k ht hf v hv)
     ·obtain⟨p1,p2⟩:=h9 hne;rw[p1,p2];refine .inr (.inr ⟨.inr (.inr rfl),by omega,by omega,fun h36=> ?_⟩);rw[hixc] at h36;exact absurd h36 hno.2.2.2.2.2
def pcB (n:Nat):Int×Rd×List Tr->Option ((Int×Rd×List Tr) ⊕ (List Tr×Rd)):=
 (fun s1=>bif (s1.1 !=0) then(bif (s1.1 !=124) then(bif (s1.1 !=41) then zag (zgq 1100 (zdx (zqy 1100 n)) s1.2.1) (fun x2=>zag (zdp 1100 x2.1 x2.2) (fun x3=>zag (zgf x3.2) (fun x4=>some (inl (x4.1,x4.2,s1.2.2++[x3.1]))))) else some (inr (s1.2.2,s1.2.1))) else some (inr (s1.2.2,s1.2.1))) else some (inr (s1.2.2,s1.2.1)))
theorem z2q (n:Nat)(c:Int)(r:Rd)(acc:List Tr)(h:c=0 \/c=124 \/c=41):pcB n (c,r,acc)=some (.inr (acc,r)):=by
 unfold pcB;rcases h with h|h|h<;>subst h<;>rfl
theorem z8n (n:Nat)(c:Int)(h0:c≠0)(h1:c≠124)(h2:c≠41)(t:List UInt8)(r:Rd)(acc:List Tr)(z1 z2:Tr)(r1:Rd)(a:Int)(e:Int)(q:Stk)
 (g1:zgq 1100 (zdx (zqy 1100 n)) r=some (z1,r1)) (g2:zdp 1100 z1 r1=some (z2,Rd.mk t a e q)) (ha:0<=a):
 pcB n (c,r,acc)=some (.inl (zcx t a e,Rd.mk t a e q,acc++[z2])):=by
 unfold pcB;try simp only
 rw[bne_iff_ne.2 h0,cond_true,bne_iff_ne.2 h1,cond_true,bne_iff_ne.2 h2,cond_true];exact zam _ g1 (zam _ g2 (zam _ (znk t a e q ha) rfl))
theorem zxy {s:List UInt8} {a:Nat} {e:Int} (h:zcx s (a:Int) e≠0):e=0/\ a<s.length/\ ∃c u,s.drop a=c::u/\ zcx s (a:Int) e=((c.toNat:Nat):Int):=by
 have he:e=0:=by
  by_cases he:e=0
  ·exact he
  ·exact absurd (z9p he) h
 have hl:a<s.length:=by
  by_cases hl:a<s.length
  ·exact hl
  ·exfalso;apply h;unfold zcx;rw[if_neg (by simp[he]),if_pos (by omega)]
 refine⟨he,hl,s[a],s.drop (a+1),List.drop_eq_getElem_cons hl,?_⟩;unfold zcx;rw[if_neg (by simp[he]),if_neg (by omega),qco (List.drop_eq_getElem_cons hl)]
structure PcS (s:List UInt8)(a:Nat)(e:Int)(q:Stk)(acc:List Tr)(X:List UInt8->Option (List Tr×Rd))(y:List Tr×Rd):Prop where
 sp:Sp s (Rd.mk s (a:Int) e q) X y
 tg: ∀t∈y.1,TG t
 len:(y.1.length:Int)<=acc.length+(y.2.a-a)+1
 qm:zcx s (a:Int) e=63->y.2.e=92/\ y.2.a=a
 fin:zcx s y.2.a y.2.e=0 \/zcx s y.2.a y.2.e=124 \/zcx s y.2.a y.2.e=41
theorem qdc (n:Nat)(H:AltS n)(s:List UInt8)(hs:s.length<1000): ∀(f a:Nat) (e:Int) (q:Stk) (acc:List Tr),a<=s.length->s.length-a<n+1->(zcq q).length<=a->(s.length-a)+(if e=0 then 1 else 0)<f->(∀t∈acc,TG t)->
 ∃y,PcS s a e q acc (fun t=>zbf (pcB n) f (zcx t (a:Int) e,Rd.mk t (a:Int) e q,acc)) y
 |0,a,e,q,acc,_,_,_,h,_=>by omega
 | f + 1,a,e,q,acc,ha,hn,hq,hf,hacc=>by
  by_cases hst:zcx s (a:Int) e=0 \/zcx s (a:Int) e=124 \/zcx s (a:Int) e=41
  ·refine⟨(acc,Rd.mk s (a:Int) e q),⟨by(try simp only);rw[zbf,z2q n _ _ _ hst],rfl,Int.le_refl _,by simp only;omega,fun _=>⟨rfl,rfl⟩,le_refl _,by simp only;omega,fun h=>h,fun t k ht hfin=> ?_,fun h h'=>absurd h h'⟩,hacc,by simp only;omega,fun h=>by omega,hst⟩;have hk:=hfin.le;simp only at hk;try simp only
   rw[zbf,z2q n _ _ _ (by rw[zhn ht (by omega) (fun _=>hk)];exact hst)];rfl
  ·have h0:zcx s (a:Int) e≠0:=fun h=>hst (.inl h);have h1:zcx s (a:Int) e≠124:=fun h=>hst (.inr (.inl h));have h2:zcx s (a:Int) e≠41:=fun h=>hst (.inr (.inr h));obtain⟨he,hal,c,u,hd,hc⟩:=zxy h0;subst he;obtain⟨⟨z1,⟨s1,a1,e1,q1⟩⟩,A⟩:=qif n H s hs a hal hn q hq c u hd;have x1:=A.sp.txt;simp only at x1;subst x1;have l1:=A.sp.lo;have u1:=A.sp.hi;have stl1:=A.sp.stl;have stu1:=A.sp.stu;have str1:=A.sp.str;have adv1:=A.adv;have qm1:=A.qm;have run1:=A.sp.run;simp only at l1 u1 stl1 stu1 str1 adv1 qm1 run1;obtain⟨b1,hb1⟩: ∃b:Nat,(b:Int)=a1:=⟨a1.toNat,by omega⟩;subst hb1;obtain⟨⟨z2,⟨s2,a2,e2,q2⟩⟩,B,tg2⟩:=z1x z1 A.tg s1 hs b1 (by omega) e1 q1;have x2:=B.txt;simp only at x2;subst x2;have l2:=B.lo;have u2:=B.hi;have stl2:=B.stl;have stu2:=B.stu;have str2:=B.str;have sk2:=B.stick;have run2:=B.run;simp only at l2 u2 stl2 stu2 str2 sk2 run2 tg2;obtain⟨b2,hb2⟩: ∃b:Nat,(b:Int)=a2:=⟨a2.toNat,by omega⟩;subst hb2;have hmeas:(s2.length-b2)+(if e2=0 then 1 else 0)<f:=by
    by_cases h:e2=0
    ·rw[if_pos h];have e10:e1=0:=by
      by_cases h':e1=0
      ·exact h'
      ·have:=sk2 h';omega
     have:=adv1 e10;rw[if_pos rfl] at hf;omega
    ·rw[if_neg h];rw[if_pos rfl] at hf;omega
   obtain⟨⟨l,⟨s3,a3,e3,q3⟩⟩,C⟩:=qdc n H s2 hs f b2 e2 q2 (acc++[z2]) (by omega) (by omega) (by omega) hmeas (fun t ht=>by
    rw[mem_append,mem_singleton] at ht;rcases ht with ht|ht
    ·exact hacc t ht
    ·subst ht;exact tg2)
   have x3:=C.sp.txt;simp only at x3;subst x3;have l3:=C.sp.lo;have u3:=C.sp.hi;have stl3:=C.sp.stl;have stu3:=C.sp.stu;have str3:=C.sp.str;have sk3:=C.sp.stick;have run3:=C.sp.run;have len3:=C.len;have tg3:=C.tg;simp only at l3 u3 stl3 stu3 str3 sk3 run3 len3 tg3;refine⟨(l,Rd.mk s3 a3 e3 q3),⟨?_,rfl,by simp only;omega,by simp only;omega,fun h=>absurd rfl h,by simp only;omega,by simp only;omega,fun hz=>str3 (str2 (str1 hz)),fun t k ht hfin=> ?_,fun _ hne=> ?_⟩,tg3,?_,fun h63=> ?_,C.fin⟩
   ·try simp only
    rw[zbf,z8n n _ h0 h1 h2 s3 _ acc z1 z2 _ _ _ _ run1 run2 (by omega)];exact run3
   ·have hk:=hfin.le;simp only at hk;have f2:Fin1 s3 k (Rd.mk s3 (b2:Int) e2 q2):=hfin.back l3 sk3;have f1:Fin1 s3 k (Rd.mk s3 (b1:Int) e1 q1):=f2.back l2 sk2;have same1:=A.sp.same t k ht f1;have same2:=B.same t k ht f2;have same3:=C.sp.same t k ht hfin;simp only[atR] at same1 same2 same3;have hnx:zcx t (a:Int) 0=zcx s3 (a:Int) 0:=zhn ht (by omega) (fun _=>by omega);simp only[atR];rw[zbf,z8n n _ (by rw[hnx];exact h0) (by rw[hnx];exact h1) (by rw[hnx];exact h2) t _ acc z1 z2 _ _ _ _ same1 same2 (by omega)];exact same3
   ·simp only at hne⊢;by_cases h2':e2=0
    ·exact C.sp.pos h2' hne
    ·have g3:=sk3 h2';rw[g3.1,g3.2];by_cases h1':e1=0
     ·exact B.pos h1' h2'
     ·have g2:=sk2 h1';rw[g2.1,g2.2];exact A.sp.pos rfl h1'
   ·try simp only
    rw[length_append,List.length_singleton] at len3;by_cases h:e2=0
    ·have e10:e1=0:=by
      by_cases h':e1=0
      ·exact h'
      ·have:=sk2 h';omega
     have:=adv1 e10;omega
    ·-- an error: nothing more
     have hst3:zcx s3 (b2:Int) e2=0:=z9p h;have:zbf (pcB n) f (zcx s3 (b2:Int) e2,Rd.mk s3 (b2:Int) e2 q2,acc++[z2])=some (acc++[z2],Rd.mk s3 (b2:Int) e2 q2):=by
      obtain⟨g,rfl⟩: ∃g,f=g+1:=⟨f-1,by omega⟩;rw[zbf,z2q n _ _ _ (.inl hst3)]
     rw[this] at run3;have hll:l=acc++[z2]:=((Prod.mk.inj (Option.some.inj run3)).1).symm;rw[hll,length_append,List.length_singleton];omega
   ·have hc63:c=63:=zmo (n:=63) (by omega) (by rw[<-hc];exact h63);obtain⟨q1a,q1b⟩:=qm1 hc63;have g2:=sk2 (by omega);have g3:=sk3 (by omega);try simp only
    omega
theorem pcs_all (n:Nat)(H:AltS n)(s:List UInt8)(hs:s.length<1000)(a:Nat)(q:Stk)(ha:a<=s.length)(hn:s.length-a<n+1)(hq:(zcq q).length<=a):
 ∃y,PcS s a 0 q [] (fun t=>zyd 1100 (zgq 1100 (zdx (zqy 1100 n))) (Rd.mk t (a:Int) 0 q)) y:=by
 obtain⟨y,h⟩:=qdc n H s hs 1100 a 0 q [] ha hn hq (by rw[if_pos rfl];omega) (fun _ h=>by cases h);have run: ∀t y,zbf (pcB n) 1100 (zcx t (a:Int) 0,Rd.mk t (a:Int) 0 q,[])=some y->zyd 1100 (zgq 1100 (zdx (zqy 1100 n))) (Rd.mk t (a:Int) 0 q)=some y:=fun t y h=>by
  unfold zyd;exact zam _ (znk t _ 0 q (by omega)) h
 exact⟨y,⟨run s y h.sp.run,h.sp.txt,h.sp.lo,h.sp.hi,h.sp.stick,h.sp.stl,h.sp.stu,h.sp.str,fun t k ht hf=>run t _ (h.sp.same t k ht hf),h.sp.pos⟩,h.tg,h.len,h.qm,h.fin⟩
def altB (pcs:Rd->Option (List Tr×Rd)):Rd×List Tr->Option ((Rd×List Tr) ⊕ ((Rd×List Tr) ⊕ (Tr×Rd))):=
 (fun s1=>(zdk (τ:=Rd×(List Tr)) (zag (zrk s1.1) (fun x1=>(zag (pcs x1) (fun x2=>(zdk (zdw (β:=(List Tr)) (fun s2 w1=>(chk (length s2<2^40) (some (inl ((s2++[w1])))))) x2.1 (([]:List Tr))) (fun s2=>(some (inl (x2.2,s2))))))))) (fun j2=>(chk ((zda j2.2).length<=2^40) (zbd (z8l j2.2) (fun x3=>(bif (isEmpty s1.2) then(chk (0<(length [x3])/\ (length [x3])*80<=140737488355328) (zag (zgf j2.1) (fun x4=>(bif (x4.1 !=124) then(some (inr (inl (x4.2,[x3])))) else(chk (-9223372036854775808<=(x4.2.a+1)/\ (x4.2.a+1)<9223372036854775808) (some (inl ((Rd.mk x4.2.s (x4.2.a+1) x4.2.e x4.2.q),[x3])))))))) else(chk (length s1.2=(length s1.2)/\ 0<(length s1.2)/\ 0<length [x3]/\ ((length s1.2)+length [x3])*80<=140737488355328) (zag (zgf j2.1) (fun x5=>(bif (x5.1 !=124) then(some (inr (inl (x5.2,(s1.2++[x3]))))) else(chk (-9223372036854775808<=(x5.2.a+1)/\ (x5.2.a+1)<9223372036854775808) (some (inl ((Rd.mk x5.2.s (x5.2.a+1) x5.2.e x5.2.q),(s1.2++[x3]))))))))))))))))
theorem z4u {ρ:Type}: ∀(l acc:List Tr),acc.length+l.length<2^40->zdw (β:=List Tr) (ρ:=ρ) (fun s2 w1=>(chk (length s2<2^40) (some (inl ((s2++[w1])))))) l acc=some (.inl (acc++l))
 |[],acc,_=>by simp[zdw]
 | x::l,acc,h=>by
  simp only[length_cons] at h;rw[zdw,zbi (by omega)];try simp only
  rw[z4u l (acc++[x]) (by simp;omega),List.append_assoc];rfl
theorem zvm (pcs:Rd->Option (List Tr×Rd))(t:List UInt8)(ht:t.length<1000)(r:Rd)(acc l:List Tr)(a e:Int)(q:Stk)(h:pcs r=some (l,Rd.mk t a e q))(tg: ∀t∈l,TG t)(hl:l.length<=5000)(hacc:acc.length<=5000)(ha:0<=a/\ a<=1000):
 altB pcs (r,acc)=some (if zcx t a e=124 then .inl (Rd.mk t (a+1) e q,acc++[z8l l]) else .inr (.inl (Rd.mk t a e q,acc++[z8l l]))):=by
 unfold altB;refine zbk (Rd.mk t a e q,l) ?_ ?_
 ·refine zam r rfl (zam _ h ?_);refine zbk l ?_ rfl;have:=z4u (ρ:=(Rd×List Tr) ⊕ ((Rd×List Tr) ⊕ ((Rd×List Tr) ⊕ (Tr×Rd)))) l [] (by simp;omega);rw[List.nil_append] at this;exact this
 ·have hp:=z2v tg;try simp only
  refine zy (by omega) (zaj fun x hx=> ?_);subst hx;have hnx:=znk t a e q ha.1;cases acc with
  | nil=>
   rw[show isEmpty ([]:List Tr)=true from rfl,cond_true];refine zy (by simp) (zam _ hnx ?_);try simp only
   by_cases hc:zcx t a e=124
   ·rw[if_pos hc,hc,show((124:Int) !=124)=false from rfl,cond_false];exact zy (by omega) rfl
   ·rw[if_neg hc,bne_iff_ne.2 hc,cond_true];rfl
  | cons b m=>
   rw[show isEmpty (b::m)=false from rfl,cond_false];simp only[length_cons] at hacc;refine zy (by simp;omega) (zam _ hnx ?_);try simp only
   by_cases hc:zcx t a e=124
   ·rw[if_pos hc,hc,show((124:Int) !=124)=false from rfl,cond_false];exact zy (by omega) rfl
   ·rw[if_neg hc,bne_iff_ne.2 hc,cond_true]
def swp (x:Option ((Rd×List Tr) ⊕ (Tr×Rd))):Option (List Tr×Rd):=
 match x with
 |some (.inl (r,l))=>some (l,r)
 |_=>none
theorem swp_e {x:Option ((Rd×List Tr) ⊕ (Tr×Rd))} {l:List Tr} {r:Rd} (h:swp x=some (l,r)):x=some (.inl (r,l)):=by
 match x,h with
 |some (.inl (r',l')),h=>simp only[swp,Option.some.injEq,Prod.mk.injEq] at h;rw[h.1,h.2]
structure AlS (s:List UInt8)(a:Nat)(q:Stk)(X:List UInt8->Option (List Tr×Rd))(y:List Tr×Rd):Prop where
 sp:Sp s (Rd.mk s (a:Int) 0 q) X y
 tg: ∀t∈y.1,TG t
 len:y.1.length<=2000
 qm:zcx s (a:Int) 0=63->y.2.e=92/\ y.2.a=a
 fin:zcx s y.2.a y.2.e=0 \/zcx s y.2.a y.2.e=41
theorem qbr (n:Nat)(H:AltS n)(s:List UInt8)(hs:s.length<1000): ∀(f a:Nat) (q:Stk) (acc:List Tr),a<=s.length->s.length-a<n+1->(zcq q).length<=a->s.length-a<f->acc.length<=a->(∀t∈acc,TG t)->
 ∃y,AlS s a q (fun t=>swp (zbf (altB (zyd 1100 (zgq 1100 (zdx (zqy 1100 n))))) f (Rd.mk t (a:Int) 0 q,acc))) y
 |0,a,q,acc,_,_,_,h,_,_=>by omega
 | f +1,a,q,acc,ha,hn,hq,hf,hla,hacc=>by
  obtain⟨⟨l,⟨s1,a1,e1,q1⟩⟩,A⟩:=pcs_all n H s hs a q ha hn hq;have x1:=A.sp.txt;simp only at x1;subst x1;have l1:=A.sp.lo;have u1:=A.sp.hi;have stl1:=A.sp.stl;have stu1:=A.sp.stu;have str1:=A.sp.str;have qm1:=A.qm;have run1:=A.sp.run;have len1':=A.len;simp only[List.length_nil] at l1 u1 stl1 stu1 str1 qm1 run1 len1';have tgA: ∀t∈acc++[z8l l],TG t:=fun t ht=>by
   rw[mem_append,mem_singleton] at ht;rcases ht with ht|ht
   ·exact hacc t ht
   ·subst ht;exact tg_seq _
  have st1:=zvm _ s1 hs (Rd.mk s1 (a:Int) 0 q) acc l a1 e1 q1 run1 A.tg (by omega) (by omega) (by omega);by_cases hc:zcx s1 a1 e1=124
  ·rw[if_pos hc] at st1;obtain⟨b1,hb1⟩: ∃b:Nat,(b:Int)=a1:=⟨a1.toNat,by omega⟩;subst hb1;obtain⟨he,hlt,_⟩:=zxy (s:=s1) (a:=b1) (e:=e1) (by omega);subst he;obtain⟨⟨m,⟨s2,a2,e2,q2⟩⟩,C⟩:=qbr n H s1 hs f (b1+1) q1 (acc++[z8l l]) (by omega) (by omega) (by omega) (by omega) (by simp;omega) tgA;have x2:=C.sp.txt;simp only at x2;subst x2;have l2:=C.sp.lo;have u2:=C.sp.hi;have stl2:=C.sp.stl;have stu2:=C.sp.stu;have str2:=C.sp.str;have run2:=C.sp.run;simp only at l2 u2 stl2 stu2 str2 run2;refine⟨(m,Rd.mk s2 a2 e2 q2),⟨?_,rfl,by simp only;omega,by simp only;omega,fun h=>absurd rfl h,by simp only;omega,by simp only;omega,fun hz=>str2 (str1 hz),fun t k ht hfin=> ?_,fun _ hne=>C.sp.pos rfl hne⟩,C.tg,C.len,fun h63=> ?_,C.fin⟩
   ·try simp only
    rw[zbf,st1];exact run2
   ·have hk:=hfin.le;simp only at hk;have f1:Fin1 s2 k (Rd.mk s2 (b1:Int) 0 q1):= .inl ⟨rfl,by simp only;omega⟩;have same1:=A.sp.same t k ht f1;have same2:=C.sp.same t k ht hfin;simp only[atR] at same1 same2;have stt:=zvm _ t ht.l2 (Rd.mk t (a:Int) 0 q) acc l _ _ _ same1 A.tg (by omega) (by omega) (by omega);rw[zhn ht (by omega) (fun _=>by omega),if_pos hc] at stt;simp only[atR];rw[zbf,stt];exact same2
   ·have:=(qm1 h63).1;omega
  ·rw[if_neg hc] at st1;refine⟨(acc++[z8l l],Rd.mk s1 a1 e1 q1),⟨?_,rfl,by simp only;omega,by simp only;omega,fun h=>absurd rfl h,by simp only;omega,by simp only;omega,str1,fun t k ht hfin=> ?_,A.sp.pos⟩,tgA,by simp;omega,qm1,?_⟩
   ·try simp only
    rw[zbf,st1];rfl
   ·have hk:=hfin.le;simp only at hk;have same1:=A.sp.same t k ht hfin;simp only[atR] at same1;have stt:=zvm _ t ht.l2 (Rd.mk t (a:Int) 0 q) acc l _ _ _ same1 A.tg (by omega) (by omega) (by omega);rw[zhn ht (by omega) (fun _=>by omega),if_neg hc] at stt;simp only[atR];rw[zbf,stt];rfl
   ·have hfn:=A.fin;simp only at hfn⊢;rcases hfn with h|h|h
    ·exact .inl h
    ·exact absurd h hc
    ·exact .inr h
theorem qcd: ∀n,AltS n
 |0=>fun s hs a q ha hn hq=>by omega
 | n +1=>fun s hs a q ha hn hq=>by
  obtain⟨⟨l,r⟩,h⟩:=qbr n (qcd n) s hs 1100 a q [] ha hn hq (by omega) (by simp) (fun _ h=>by cases h);have hp:=z2v h.tg;have hl:=h.len;simp only at hp hl;have run: ∀t r,swp (zbf (altB (zyd 1100 (zgq 1100 (zdx (zqy 1100 n))))) 1100 (Rd.mk t (a:Int) 0 q,[]))=some (l,r)->zqy 1100 (n+1) (Rd.mk t (a:Int) 0 q)=some (orT l,r):=fun t r h=>by
   show z0y 1100 _ _=_;unfold z0y;refine zbk (r,l) (swp_e h) ?_;cases l with
   | nil=>
    try simp only
    rw[show isEmpty ([]:List Tr)=true from rfl,cond_true];exact zy (by simp[zda]) (zaj fun x hx=>by rw[hx])
   | cons b m=>
    try simp only
    rw[show isEmpty (b::m)=false from rfl,cond_false];exact zy (by omega) (zaj fun x hx=>by rw[hx])
  refine⟨(orT l,r),⟨run s r h.sp.run,h.sp.txt,h.sp.lo,h.sp.hi,h.sp.stick,h.sp.stl,h.sp.stu,h.sp.str,fun t k ht hf=>run t _ (h.sp.same t k ht hf),h.sp.pos⟩,tg_or _,h.qm,fun he=> ?_⟩;have:=h.fin;simp only at this he⊢;rw[he] at this;exact this
end Go.Ab
namespace Go.Ab
open Go Go.RowKit Go.Fwd Go.Proofs
def z5p (s:(List UInt8))(behind:(List UInt8)):Option Bool:=
 (chk (0<=0/\ 0<=(min (length s:Int) 100)/\ (min (length s:Int) 100)<=(length s:Int)) (zbd (sub s 0 (min (length s:Int) 100)) (fun x1=>(chk (0<=0/\ 0<=(min (length behind:Int) 100)/\ (min (length behind:Int) 100)<=(length behind:Int)) (zbd (sub behind 0 (min (length behind:Int) 100)) (fun x2=>(zag (z0s 1100 300 x1) (fun x3=>(zdk (τ:=Bool) (bif (decide (x3.2.1<0)) then(some (inl (true))) else(bif (decide (x3.2.1>(length x1:Int))) then(some (inl (true))) else(bif (x3.2.2 !=0) then(bif (((x3.1.t.k:Nat):Int) !=0) then(some (inl (true))) else(bif x3.1.b then(some (inl (true))) else(bif x3.1.e then(some (inl (true))) else(bif (x3.2.2==0) then(some (inl ((x3.2.1 !=(length x1:Int))))) else(some (inl (false))))))) else(bif (x3.2.2==0) then(some (inl ((x3.2.1 !=(length x1:Int))))) else(some (inl (false))))))) (fun j1=>(bif j1 then(some false) else(zdk (τ:=Bool) (bif (x3.2.2==0) then(some (inl (true))) else(some (inl ((x3.2.1==(length x1:Int)))))) (fun j2=>(bif j2 then(some true) else(chk (0<=x3.2.1/\ x3.2.1<(length x1:Int)) (zbd (ix x1 x3.2.1) (fun x4=>(zdk (τ:=Bool) (bif (x3.2.2==92) then(bif ((((x4).toNat:Nat):Int) !=63) then(some (inl (true))) else(bif (x3.2.2==91) then(bif ((((x4).toNat:Nat):Int)==41) then(some (inl (true))) else(bif (x3.2.2==95) then(bif ((((x4).toNat:Nat):Int)==94) then(some (inl (true))) else(bif (x3.2.2==90) then(some (inl (((((x4).toNat:Nat):Int) !=92)))) else(some (inl (false))))) else(bif (x3.2.2==90) then(some (inl (((((x4).toNat:Nat):Int) !=92)))) else(some (inl (false)))))) else(bif (x3.2.2==95) then(bif ((((x4).toNat:Nat):Int)==94) then(some (inl (true))) else(bif (x3.2.2==90) then(some (inl (((((x4).toNat:Nat):Int) !=92)))) else(some (inl (false))))) else(bif (x3.2.2==90) then(some (inl (((((x4).toNat:Nat):Int) !=92)))) else(some (inl (false))))))) else(bif (x3.2.2==91) then(bif ((((x4).toNat:Nat):Int)==41) then(some (inl (true))) else(bif (x3.2.2==95) then(bif ((((x4).toNat:Nat):Int)==94) then(some (inl (true))) else(bif (x3.2.2==90) then(some (inl (((((x4).toNat:Nat):Int) !=92)))) else(some (inl (false))))) else(bif (x3.2.2==90) then(some (inl (((((x4).toNat:Nat):Int) !=92)))) else(some (inl (false)))))) else(bif (x3.2.2==95) then(bif ((((x4).toNat:Nat):Int)==94) then(some (inl (true))) else(bif (x3.2.2==90) then(some (inl (((((x4).toNat:Nat):Int) !=92)))) else(some (inl (false))))) else(bif (x3.2.2==90) then(some (inl (((((x4).toNat:Nat):Int) !=92)))) else(some (inl (false))))))) (fun j3=>(bif j3 then(chk (-9223372036854775808<=(x3.2.1+1)/\ (x3.2.1+1)<9223372036854775808) (chk (0<=0/\ 0<=(x3.2.1+1)/\ (x3.2.1+1)<=(length x1:Int)) (zbd (sub x1 0 (x3.2.1+1)) (fun x5=>(chk (length x5+length x2<=9223372036854775807) (zag (z0s 1100 300 (x5++x2)) (fun x6=>(bif (x6.2.1==x3.2.1) then(some (x6.2.2==x3.2.2)) else(some false))))))))) else(some true)))))))))))))))))))))
theorem ent4:Ent prog 4:=enters_of Tryd.func4 (by kernel_rfl) rfl
theorem rxpf_sh (s:(List UInt8))(behind:(List UInt8))(r:Bool)(h:z5p s behind=some r):Pure (ITP Tryd.prog) Tryd.prog 4 [.raw (.string (bs s)),.raw (.string (bs behind))] (.raw (.bool r)):=by
 unfold z5p at h;refine zbw 124 mix Tryd.func4 ent4 ?_;refine zz [.v (.b false)] ?_;refine zk ?_;refine zk (zc ?_);refine zdg (r:= .b true) z6j ?_;refine w_o (a:= .b false) ?_;refine zaz rfl ?_;refine zk ?_;refine zkg (k0:=0) (id:=3) 11 (by kernel_rfl) (by kernel_rfl) ?_;iterate 2 refine zmg ?_
 refine h_o (a:= .i (List.length s:Int)) (h:=zdj rfl rfl rfl) ?_;refine h_o (a:= .i (min (List.length s:Int) 100)) (h:=qfx rfl rfl rfl rfl rfl) ?_;obtain⟨g1,h⟩:=zq h;obtain⟨x1,hx1,h⟩:=zv h;refine h_o (a:= .s x1) (h:=by rw[<-hx1];exact(zwn (l:=s) g1 rfl rfl rfl rfl)) ?_;iterate 2 refine zmg ?_
 refine h_o (a:= .i (List.length behind:Int)) (h:=zdj rfl rfl rfl) ?_;refine h_o (a:= .i (min (List.length behind:Int) 100)) (h:=qfx rfl rfl rfl rfl rfl) ?_;obtain⟨g2,h⟩:=zq h;obtain⟨x2,hx2,h⟩:=zv h;refine h_o (a:= .s x2) (h:=by rw[<-hx2];exact(zwn (l:=behind) g2 rfl rfl rfl rfl)) ?_;refine zmg ?_;refine zkm ?_;refine zab ?_;refine zz [.m _] ?_;obtain⟨x3,hx3,h⟩:=zu h;refine zdg (r:= .tup [.A (x3.1:Rg),.i x3.2.1,.i x3.2.2]) (z4b 1100 300 x1 x3 hx3) ?_;refine w_r [.m _,.x _,.x _,.x _] ?_;refine zcb (a:= .ptr 0 0) (U'':=(.B [(35,[.b false,.b false,.u 0,.raw (.int .u64 0),.raw (.int .u64 0),.raw (.int .u64 0),.raw (.int .u64 0),.i 0,.i 0,.list 0 [] .full])])) ?_;refine zct 10 (.B [(35,(Enc.cells (x3.1:Rg)))]) ?_;refine w_r [.m _,.m _] ?_;refine zk ?_;refine zbj h (bz 0 126 85070591730234615865843651857942052668) (fun j1=>[(65,.b j1)]) (fun j1=>(.B [(35,(Enc.cells (x3.1:Rg)))])) ?_ ?_;intro or1 h hr1;refine zc (k0:=0) (id:=5) ?_;refine w_r [.m _,.v (.b (decide (x3.2.1<0)))] ?_;refine zr h (fun hc1 h=> ?_) (fun hc1 h=> ?_);refine zad hc1 ?_;refine w_r [.p,.p,.p,.p,.v (.b true)] ?_;refine w_r [.m _,.p,.p,.p,.p] ?_;iterate 2 refine w_r [.p,.p,.p,.p,.p] ?_
 refine w_r [.p,.p,.v (.b true),.m _,.p] ?_;refine w_r [.p,.p,.p,.p,.p] ?_;refine w_r [.p,.p,.v (.b true)] ?_;refine ze (o:=or1) (true) h ?_;exact zbs (bl 126 36893488147419103427);refine zad hc1 ?_;refine w_r [.m _,.m _] ?_;refine zak rfl rfl ?_;refine w_o (a:= .i (List.length x1:Int)) (h:=zbe (zdj rfl rfl rfl)) ?_;refine w_r [.v (.b (decide (x3.2.1>(List.length x1:Int)))),.v (.b (decide (x3.2.1>(List.length x1:Int))))] ?_;refine zr h (fun hc2 h=> ?_) (fun hc2 h=> ?_);refine zad hc2 ?_;iterate 3 refine w_r [.p,.p,.p,.p,.p] ?_
 refine w_r [.p,.v (.b true),.m _,.p,.p] ?_;refine w_r [.p,.p,.p,.p,.p] ?_;refine w_r [.p,.v (.b true)] ?_;refine ze (o:=or1) (true) h ?_;exact zbs (bl 126 36893488147419103427);refine zad hc2 ?_;refine w_r [.m _,.v (.b (x3.2.2 !=0))] ?_;refine zak rfl rfl ?_;refine zr h (fun hc3 h=> ?_) (fun hc3 h=> ?_);refine zad hc3 ?_;refine w_r [.v (.ptr 0 2),.v (.ptr 0 2),.v (.u ((x3.1.t.k:Nat):Int)),.v (.b (((x3.1.t.k:Nat):Int) !=0))] ?_;refine zak rfl rfl ?_;refine zr h (fun hc4 h=> ?_) (fun hc4 h=> ?_);refine zad hc4 ?_;refine w_r [.p,.p,.v (.b true),.m _,.p] ?_;refine w_r [.p,.v (.b true),.v (.b true),.v (.b true),.m _] ?_;refine w_r [.p,.p,.p,.p,.p] ?_;refine w_r [.p,.p,.p,.v (.b true)] ?_;refine ze (o:=or1) (true) h ?_;exact zbs (bl 126 36893488147419103427);refine zad hc4 ?_;refine w_r [.v (.ptr 0 0),.v (.b x3.1.b),.v (.b x3.1.b)] ?_;refine zak rfl rfl ?_;refine zr h (fun hc5 h=> ?_) (fun hc5 h=> ?_);refine zad hc5 ?_;refine w_r [.p,.p,.v (.b true),.v (.b true),.v (.b true)] ?_;refine w_r [.m _,.p,.p,.p,.p] ?_;refine w_r [.p,.p,.p,.p,.v (.b true)] ?_;refine ze (o:=or1) (true) h ?_;exact zbs (bl 126 36893488147419103427);refine zad hc5 ?_;refine w_r [.v (.ptr 0 1),.v (.b x3.1.e),.v (.b x3.1.e),.v (.b x3.1.e),.v (.b x3.1.e)] ?_;refine zr h (fun hc6 h=> ?_) (fun hc6 h=> ?_);refine zad hc6 ?_;refine w_r [.p,.p,.p,.p,.p] ?_;refine w_r [.p,.p,.p,.v (.b true)] ?_;refine ze (o:=or1) (true) h ?_;exact zbs (bl 126 36893488147419103427);refine zad hc6 ?_;refine w_r [.m _,.v (.b (x3.2.2==0))] ?_;refine zak rfl rfl ?_;refine zr h (fun hc7 h=> ?_) (fun hc7 h=> ?_);refine zad hc7 ?_;refine w_r [.m _,.m _] ?_;refine zak rfl rfl ?_;refine w_o (a:= .i (List.length x1:Int)) (h:=zbe (zdj rfl rfl rfl)) ?_;refine w_r [.v (.b (x3.2.1 !=(List.length x1:Int))),.v (.b (x3.2.1 !=(List.length x1:Int))),.v (.b (x3.2.1 !=(List.length x1:Int)))] ?_;refine ze (o:=or1) ((x3.2.1 !=(List.length x1:Int))) h ?_;exact zbs (bl 126 36893488147419103427);refine zad hc7 ?_;refine w_r [.p,.p,.p,.p,.v (.b false)] ?_;refine w_r [.v (.b false)] ?_;refine ze (o:=or1) (false) h ?_;exact zbs (bl 126 36893488147419103427);refine zad hc3 ?_;iterate 2 refine w_r [.p,.p,.p,.p,.p] ?_
 refine w_r [.p,.p,.v (.b false),.v (.b false),.m _] ?_;refine w_r [.m _,.v (.b (x3.2.2==0))] ?_;refine zak rfl rfl ?_;refine zr h (fun hc8 h=> ?_) (fun hc8 h=> ?_);refine zad hc8 ?_;refine w_r [.m _,.m _] ?_;refine zak rfl rfl ?_;refine w_o (a:= .i (List.length x1:Int)) (h:=zbe (zdj rfl rfl rfl)) ?_;refine w_r [.v (.b (x3.2.1 !=(List.length x1:Int))),.v (.b (x3.2.1 !=(List.length x1:Int))),.v (.b (x3.2.1 !=(List.length x1:Int)))] ?_;refine ze (o:=or1) ((x3.2.1 !=(List.length x1:Int))) h ?_;exact zbs (bl 126 36893488147419103427);refine zad hc8 ?_;refine w_r [.p,.p,.p,.p,.v (.b false)] ?_;refine w_r [.v (.b false)] ?_;refine ze (o:=or1) (false) h ?_;exact zbs (bl 126 36893488147419103427);intro j1 h;refine zez ?_;refine zci h (fun hc9 h=> ?_) (fun hc9 h=> ?_);refine zz [.v (.b false)] ?_;exact zbl h;refine zk ?_;refine zbj h (bz 0 74 18852572443331161751552) (fun j2=>[(73,.b j2)]) (fun j2=>(.B [(35,(Enc.cells (x3.1:Rg)))])) ?_ ?_;intro or2 h hr2;refine zc (k0:=0) (id:=7) ?_;refine w_r [.m _,.v (.b (x3.2.2==0))] ?_;refine zr h (fun hc10 h=> ?_) (fun hc10 h=> ?_);refine zad hc10 ?_;refine w_r [.p,.p,.p,.p,.v (.b true)] ?_;refine ze (o:=or2) (true) h ?_;exact zbs (bl 126 85070591730234606458004174266070728703);refine zad hc10 ?_;refine w_r [.m _,.m _] ?_;refine zak rfl rfl ?_;refine w_o (a:= .i (List.length x1:Int)) (h:=zbe (zdj rfl rfl rfl)) ?_;refine w_r [.v (.b (x3.2.1==(List.length x1:Int))),.v (.b (x3.2.1==(List.length x1:Int)))] ?_;refine ze (o:=or2) ((x3.2.1==(List.length x1:Int))) h ?_;exact zbs (bl 126 85070591730234606458004174266070728703);intro j2 h;refine zez ?_;refine zci h (fun hc11 h=> ?_) (fun hc11 h=> ?_);refine zz [.v (.b true)] ?_;exact zbl h;refine zz [.m _,.m _] ?_;obtain⟨g3,h⟩:=zq h;obtain⟨x4,hx4,h⟩:=zv h;refine w_o (a:= .u (((x4).toNat:Nat):Int)) (h:=zbe (by rw[<-hx4];exact(zdc (l:=x1) (n:=x3.2.1) g3 rfl rfl rfl rfl))) ?_;refine zab ?_;refine zk ?_;refine zbj h (bz 0 107 162259276819768630425838719860992) (fun j3=>[(106,.b j3)]) (fun j3=>(.B [(35,(Enc.cells (x3.1:Rg)))])) ?_ ?_;intro or3 h hr3;refine zc (k0:=0) (id:=10) ?_;refine w_r [.m _,.v (.b (x3.2.2==92))] ?_;refine zr h (fun hc12 h=> ?_) (fun hc12 h=> ?_);refine zad hc12 ?_;refine w_r [.m _,.v (.b ((((x4).toNat:Nat):Int) !=63)),.v (.b ((((x4).toNat:Nat):Int) !=63))] ?_;refine zr h (fun hc13 h=> ?_) (fun hc13 h=> ?_);refine zad hc13 ?_;refine w_r [.p,.p,.p,.p,.p] ?_;refine w_r [.p,.v (.b true),.m _,.p,.p] ?_;refine w_r [.p,.p,.p,.p,.v (.b true)] ?_;refine w_r [.m _,.p,.p,.p,.p] ?_;refine w_r [.p,.p,.v (.b true)] ?_;refine ze (o:=or3) (true) h ?_;exact zbs (bl 126 85070510600596210703894921808227335935);refine zad hc13 ?_;refine w_r [.m _,.v (.b (x3.2.2==91))] ?_;refine zak rfl rfl ?_;refine zr h (fun hc14 h=> ?_) (fun hc14 h=> ?_);refine zad hc14 ?_;refine w_r [.m _,.v (.b ((((x4).toNat:Nat):Int)==41)),.v (.b ((((x4).toNat:Nat):Int)==41)),.v (.b ((((x4).toNat:Nat):Int)==41))] ?_;refine zr h (fun hc15 h=> ?_) (fun hc15 h=> ?_);refine zad hc15 ?_;refine w_r [.p,.p,.p,.p,.p] ?_;refine w_r [.p,.v (.b true),.m _,.p,.p] ?_;refine w_r [.p,.p,.p,.p,.v (.b true)] ?_;refine ze (o:=or3) (true) h ?_;exact zbs (bl 126 85070510600596210703894921808227335935);refine zad hc15 ?_;refine w_r [.m _,.v (.b (x3.2.2==95))] ?_;refine zak rfl rfl ?_;refine zr h (fun hc16 h=> ?_) (fun hc16 h=> ?_);refine zad hc16 ?_;refine w_r [.m _,.v (.b ((((x4).toNat:Nat):Int)==94)),.v (.b ((((x4).toNat:Nat):Int)==94)),.v (.b ((((x4).toNat:Nat):Int)==94))] ?_;refine zr h (fun hc17 h=> ?_) (fun hc17 h=> ?_);refine zad hc17 ?_;refine w_r [.p,.p,.p,.p,.p] ?_;refine w_r [.p,.v (.b true)] ?_;refine ze (o:=or3) (true) h ?_;exact zbs (bl 126 85070510600596210703894921808227335935);refine zad hc17 ?_;refine w_r [.m _,.v (.b (x3.2.2==90))] ?_;refine zak rfl rfl ?_;refine zr h (fun hc18 h=> ?_) (fun hc18 h=> ?_);refine zad hc18 ?_;refine w_r [.m _,.v (.b ((((x4).toNat:Nat):Int) !=92)),.v (.b ((((x4).toNat:Nat):Int) !=92)),.v (.b ((((x4).toNat:Nat):Int) !=92))] ?_;refine ze (o:=or3) (((((x4).toNat:Nat):Int) !=92)) h ?_;exact zbs (bl 126 85070510600596210703894921808227335935);refine zad hc18 ?_;refine w_r [.p,.p,.v (.b false),.v (.b false)] ?_;refine ze (o:=or3) (false) h ?_;exact zbs (bl 126 85070510600596210703894921808227335935);refine zad hc16 ?_;refine w_r [.p,.p,.v (.b false),.v (.b false),.m _] ?_;refine w_r [.m _,.v (.b (x3.2.2==90))] ?_;refine zak rfl rfl ?_;refine zr h (fun hc19 h=> ?_) (fun hc19 h=> ?_);refine zad hc19 ?_;refine w_r [.m _,.v (.b ((((x4).toNat:Nat):Int) !=92)),.v (.b ((((x4).toNat:Nat):Int) !=92)),.v (.b ((((x4).toNat:Nat):Int) !=92))] ?_;refine ze (o:=or3) (((((x4).toNat:Nat):Int) !=92)) h ?_;exact zbs (bl 126 85070510600596210703894921808227335935);refine zad hc19 ?_;refine w_r [.p,.p,.v (.b false),.v (.b false)] ?_;refine ze (o:=or3) (false) h ?_;exact zbs (bl 126 85070510600596210703894921808227335935);refine zad hc14 ?_;refine w_r [.p,.p,.v (.b false),.v (.b false),.m _] ?_;refine w_r [.m _,.v (.b (x3.2.2==95))] ?_;refine zak rfl rfl ?_;refine zr h (fun hc20 h=> ?_) (fun hc20 h=> ?_);refine zad hc20 ?_;refine w_r [.m _,.v (.b ((((x4).toNat:Nat):Int)==94)),.v (.b ((((x4).toNat:Nat):Int)==94)),.v (.b ((((x4).toNat:Nat):Int)==94))] ?_;refine zr h (fun hc21 h=> ?_) (fun hc21 h=> ?_);refine zad hc21 ?_;refine w_r [.p,.p,.p,.p,.p] ?_;refine w_r [.p,.v (.b true)] ?_;refine ze (o:=or3) (true) h ?_;exact zbs (bl 126 85070510600596210703894921808227335935);refine zad hc21 ?_;refine w_r [.m _,.v (.b (x3.2.2==90))] ?_;refine zak rfl rfl ?_;refine zr h (fun hc22 h=> ?_) (fun hc22 h=> ?_);refine zad hc22 ?_;refine w_r [.m _,.v (.b ((((x4).toNat:Nat):Int) !=92)),.v (.b ((((x4).toNat:Nat):Int) !=92)),.v (.b ((((x4).toNat:Nat):Int) !=92))] ?_;refine ze (o:=or3) (((((x4).toNat:Nat):Int) !=92)) h ?_;exact zbs (bl 126 85070510600596210703894921808227335935);refine zad hc22 ?_;refine w_r [.p,.p,.v (.b false),.v (.b false)] ?_;refine ze (o:=or3) (false) h ?_;exact zbs (bl 126 85070510600596210703894921808227335935);refine zad hc20 ?_;refine w_r [.p,.p,.v (.b false),.v (.b false),.m _] ?_;refine w_r [.m _,.v (.b (x3.2.2==90))] ?_;refine zak rfl rfl ?_;refine zr h (fun hc23 h=> ?_) (fun hc23 h=> ?_);refine zad hc23 ?_;refine w_r [.m _,.v (.b ((((x4).toNat:Nat):Int) !=92)),.v (.b ((((x4).toNat:Nat):Int) !=92)),.v (.b ((((x4).toNat:Nat):Int) !=92))] ?_;refine ze (o:=or3) (((((x4).toNat:Nat):Int) !=92)) h ?_;exact zbs (bl 126 85070510600596210703894921808227335935);refine zad hc23 ?_;refine w_r [.p,.p,.v (.b false),.v (.b false)] ?_;refine ze (o:=or3) (false) h ?_;exact zbs (bl 126 85070510600596210703894921808227335935);refine zad hc12 ?_;refine w_r [.p,.p,.v (.b false),.m _,.m _] ?_;refine w_r [.v (.b (x3.2.2==91))] ?_;refine zak rfl rfl ?_;refine zr h (fun hc24 h=> ?_) (fun hc24 h=> ?_);refine zad hc24 ?_;refine w_r [.m _,.v (.b ((((x4).toNat:Nat):Int)==41)),.v (.b ((((x4).toNat:Nat):Int)==41)),.v (.b ((((x4).toNat:Nat):Int)==41))] ?_;refine zr h (fun hc25 h=> ?_) (fun hc25 h=> ?_);refine zad hc25 ?_;refine w_r [.p,.p,.p,.p,.p] ?_;refine w_r [.p,.v (.b true),.m _,.p,.p] ?_;refine w_r [.p,.p,.p,.p,.v (.b true)] ?_;refine ze (o:=or3) (true) h ?_;exact zbs (bl 126 85070510600596210703894921808227335935);refine zad hc25 ?_;refine w_r [.m _,.v (.b (x3.2.2==95))] ?_;refine zak rfl rfl ?_;refine zr h (fun hc26 h=> ?_) (fun hc26 h=> ?_);refine zad hc26 ?_;refine w_r [.m _,.v (.b ((((x4).toNat:Nat):Int)==94)),.v (.b ((((x4).toNat:Nat):Int)==94)),.v (.b ((((x4).toNat:Nat):Int)==94))] ?_;refine zr h (fun hc27 h=> ?_) (fun hc27 h=> ?_);refine zad hc27 ?_;refine w_r [.p,.p,.p,.p,.p] ?_;refine w_r [.p,.v (.b true)] ?_;refine ze (o:=or3) (true) h ?_;exact zbs (bl 126 85070510600596210703894921808227335935);refine zad hc27 ?_;refine w_r [.m _,.v (.b (x3.2.2==90))] ?_;refine zak rfl rfl ?_;refine zr h (fun hc28 h=> ?_) (fun hc28 h=> ?_);refine zad hc28 ?_;refine w_r [.m _,.v (.b ((((x4).toNat:Nat):Int) !=92)),.v (.b ((((x4).toNat:Nat):Int) !=92)),.v (.b ((((x4).toNat:Nat):Int) !=92))] ?_;refine ze (o:=or3) (((((x4).toNat:Nat):Int) !=92)) h ?_;exact zbs (bl 126 85070510600596210703894921808227335935);refine zad hc28 ?_;refine w_r [.p,.p,.v (.b false),.v (.b false)] ?_;refine ze (o:=or3) (false) h ?_;exact zbs (bl 126 85070510600596210703894921808227335935);refine zad hc26 ?_;refine w_r [.p,.p,.v (.b false),.v (.b false),.m _] ?_;refine w_r [.m _,.v (.b (x3.2.2==90))] ?_;refine zak rfl rfl ?_;refine zr h (fun hc29 h=> ?_) (fun hc29 h=> ?_);refine zad hc29 ?_;refine w_r [.m _,.v (.b ((((x4).toNat:Nat):Int) !=92)),.v (.b ((((x4).toNat:Nat):Int) !=92)),.v (.b ((((x4).toNat:Nat):Int) !=92))] ?_;refine ze (o:=or3) (((((x4).toNat:Nat):Int) !=92)) h ?_;exact zbs (bl 126 85070510600596210703894921808227335935);refine zad hc29 ?_;refine w_r [.p,.p,.v (.b false),.v (.b false)] ?_;refine ze (o:=or3) (false) h ?_;exact zbs (bl 126 85070510600596210703894921808227335935);refine zad hc24 ?_;refine w_r [.p,.p,.v (.b false),.v (.b false),.m _] ?_;refine w_r [.m _,.v (.b (x3.2.2==95))] ?_;refine zak rfl rfl ?_;refine zr h (fun hc30 h=> ?_) (fun hc30 h=> ?_);refine zad hc30 ?_;refine w_r [.m _,.v (.b ((((x4).toNat:Nat):Int)==94)),.v (.b ((((x4).toNat:Nat):Int)==94)),.v (.b ((((x4).toNat:Nat):Int)==94))] ?_;refine zr h (fun hc31 h=> ?_) (fun hc31 h=> ?_);refine zad hc31 ?_;refine w_r [.p,.p,.p,.p,.p] ?_;refine w_r [.p,.v (.b true)] ?_;refine ze (o:=or3) (true) h ?_;exact zbs (bl 126 85070510600596210703894921808227335935);refine zad hc31 ?_;refine w_r [.m _,.v (.b (x3.2.2==90))] ?_;refine zak rfl rfl ?_;refine zr h (fun hc32 h=> ?_) (fun hc32 h=> ?_);refine zad hc32 ?_;refine w_r [.m _,.v (.b ((((x4).toNat:Nat):Int) !=92)),.v (.b ((((x4).toNat:Nat):Int) !=92)),.v (.b ((((x4).toNat:Nat):Int) !=92))] ?_;refine ze (o:=or3) (((((x4).toNat:Nat):Int) !=92)) h ?_;exact zbs (bl 126 85070510600596210703894921808227335935);refine zad hc32 ?_;refine w_r [.p,.p,.v (.b false),.v (.b false)] ?_;refine ze (o:=or3) (false) h ?_;exact zbs (bl 126 85070510600596210703894921808227335935);refine zad hc30 ?_;refine w_r [.p,.p,.v (.b false),.v (.b false),.m _] ?_;refine w_r [.m _,.v (.b (x3.2.2==90))] ?_;refine zak rfl rfl ?_;refine zr h (fun hc33 h=> ?_) (fun hc33 h=> ?_);refine zad hc33 ?_;refine w_r [.m _,.v (.b ((((x4).toNat:Nat):Int) !=92)),.v (.b ((((x4).toNat:Nat):Int) !=92)),.v (.b ((((x4).toNat:Nat):Int) !=92))] ?_;refine ze (o:=or3) (((((x4).toNat:Nat):Int) !=92)) h ?_;exact zbs (bl 126 85070510600596210703894921808227335935);refine zad hc33 ?_;refine w_r [.p,.p,.v (.b false),.v (.b false)] ?_;refine ze (o:=or3) (false) h ?_;exact zbs (bl 126 85070510600596210703894921808227335935);intro j3 h;refine zez ?_;refine zci h (fun hc34 h=> ?_) (fun hc34 h=> ?_);refine zz [.m _,.m _] ?_;obtain⟨g4,h⟩:=zq h;refine zls g4 ?_;obtain⟨g5,h⟩:=zq h;obtain⟨x5,hx5,h⟩:=zv h;refine w_o (a:= .s x5) (h:=zbe (by rw[<-hx5];exact(zwn (l:=x1) g5 rfl rfl rfl rfl))) ?_;refine zab ?_;obtain⟨g6,h⟩:=zq h;refine w_o (a:= .s (x5++x2)) (h:=zbe (qhb g6 rfl rfl rfl)) ?_;obtain⟨x6,hx6,h⟩:=zu h;refine zdg (r:= .tup [.A (x6.1:Rg),.i x6.2.1,.i x6.2.2]) (z4b 1100 300 (x5++x2) x6 hx6) ?_;refine w_r [.m _,.x _,.x _,.x _] ?_;refine zcb (a:= .ptr 1 0) (U'':=(.B [(35,(Enc.cells (x3.1:Rg))),(35,[.b false,.b false,.u 0,.raw (.int .u64 0),.raw (.int .u64 0),.raw (.int .u64 0),.raw (.int .u64 0),.i 0,.i 0,.list 0 [] .full])])) ?_;refine zct 10 (.B [(35,(Enc.cells (x3.1:Rg))),(35,(Enc.cells (x6.1:Rg)))]) ?_;refine w_r [.m _,.m _] ?_;refine zz [.m _,.m _,.v (.b (x6.2.1==x3.2.1))] ?_;refine zr h (fun hc35 h=> ?_) (fun hc35 h=> ?_);refine zad hc35 ?_;refine w_r [.m _,.m _,.v (.b (x6.2.2==x3.2.2)),.v (.b (x6.2.2==x3.2.2)),.m _] ?_;exact zbl h;refine zad hc35 ?_;refine w_r [.p,.p,.p,.v (.b false),.m _] ?_;exact zbl h;refine zz [.v (.b true)] ?_;exact zbl h
def rg0:Rg:=Rg.mk false false noneT
def z8k (n off:Nat)(p b:Bool)(rest:List UInt8)(y:Tr)(rd:Rd):Option (Rg×Int×Int):=
 (zdk (τ:=Rd) (bif (rd.e !=0) then(some (inl (rd))) else(bif (decide (rd.a<(length rest:Int))) then(chk (0<=rd.a/\ rd.a<(length rest:Int)) (zbd (ix rest rd.a) (fun x5=>(bif ((((x5).toNat:Nat):Int)==41) then(some (inl ((Rd.mk rd.s rd.a 91 rd.q)))) else(some (inl ((Rd.mk rd.s rd.a 90 rd.q)))))))) else(bif (decide ((length (zcq rd.q):Int)>0)) then(chk (-9223372036854775808<=((length (zcq rd.q):Int)-1)/\ ((length (zcq rd.q):Int)-1)<9223372036854775808) (chk (0<=((length (zcq rd.q):Int)-1)/\ ((length (zcq rd.q):Int)-1)<(length (zcq rd.q):Int)) (some (inl ((Rd.mk rd.s (ix (zcq rd.q) ((length (zcq rd.q):Int)-1)) 91 rd.q)))))) else(some (inl (rd)))))) (fun j2=>(bif (j2.e !=0) then(chk (-9223372036854775808<=((off:Int)+j2.a)/\ ((off:Int)+j2.a)<9223372036854775808) (some ((Rg.mk false false noneT),((off:Int)+j2.a),j2.e))) else(zag (zox (Rg.mk p b y)) (fun x6=>(bif (x6 !=0) then(some ((Rg.mk false false noneT),(n:Int),x6)) else(some ((Rg.mk p b y),(n:Int),0))))))))
theorem fin1 (n off:Nat)(p b:Bool)(rest:List UInt8)(y:Tr)(rd:Rd)(he:rd.e≠0)(ho:off<=1)(ha:0<=rd.a/\ rd.a<=1000):z8k n off p b rest y rd=some (rg0,(off:Int)+rd.a,rd.e):=by
 unfold z8k;refine zbk rd ?_ ?_
 ·rw[bne_iff_ne.2 he,cond_true]
 ·rw[bne_iff_ne.2 he,cond_true];exact zy (by omega) rfl
theorem fin2 (n off:Nat)(p b:Bool)(rest:List UInt8)(y:Tr)(rd:Rd)(he:rd.e=0)(ho:off<=1)(ha:0<=rd.a)(hl:rd.a<rest.length)(hr:rest.length<=1000):
 z8k n off p b rest y rd=some (rg0,(off:Int)+rd.a,if(((ix rest rd.a).toNat:Nat):Int)=41 then 91 else 90):=by
 unfold z8k;refine zbk (Rd.mk rd.s rd.a (if(((ix rest rd.a).toNat:Nat):Int)=41 then 91 else 90) rd.q) ?_ ?_
 ·rw[show(rd.e !=0)=false by simp[he],cond_false,decide_eq_true hl,cond_true];refine zy ⟨ha,hl⟩ (zaj fun x hx=> ?_);subst hx;by_cases h:(((ix rest rd.a).toNat:Nat):Int)=41
  ·rw[h];rfl
  ·rw[beq_eq_false_iff_ne.2 h,cond_false,if_neg h]
 ·by_cases h:(((ix rest rd.a).toNat:Nat):Int)=41
  ·simp only[if_pos h];rw[show((91:Int) !=0)=true from rfl,cond_true];exact zy (by omega) rfl
  ·simp only[if_neg h];rw[show((90:Int) !=0)=true from rfl,cond_true];exact zy (by omega) rfl
theorem fin3 (n off:Nat)(p b:Bool)(rest:List UInt8)(y:Tr)(rd:Rd)(he:rd.e=0)(ho:off<=1)(ha:0<=rd.a)(hl: ¬rd.a<rest.length)(hq:zcq rd.q≠[])(hql:(zcq rd.q).length<=1000)(hz: ∀z∈zcq rd.q,0<=z/\ z<=1000):
 ∃z∈zcq rd.q,z8k n off p b rest y rd=some (rg0,(off:Int)+z,91):=by
 have hpos:0<(zcq rd.q).length:=List.length_pos_iff.2 hq;have hm:ix (zcq rd.q) ((length (zcq rd.q):Int)-1)∈zcq rd.q:=by
  unfold ix;rw[List.getD_eq_getElem?_getD,List.getElem?_eq_getElem (by omega)];exact List.getElem_mem _
 obtain⟨z,hzz⟩: ∃z,z=ix (zcq rd.q) ((length (zcq rd.q):Int)-1):=⟨_,rfl⟩;have hb:=hz _ hm;refine⟨_,hm,?_⟩;unfold z8k;refine zbk (Rd.mk rd.s (ix (zcq rd.q) ((length (zcq rd.q):Int)-1)) 91 rd.q) ?_ ?_
 ·rw[show(rd.e !=0)=false by simp[he],cond_false,decide_eq_false hl,cond_false,decide_eq_true (show(length (zcq rd.q):Int)>0 by omega),cond_true];exact zy (by omega) (zy (by omega) rfl)
 ·simp only;rw[show((91:Int) !=0)=true from rfl,cond_true];exact zy (by omega) rfl
theorem qbz (x:Rg)(h:TG x.t): ∃c,zox x=some c:=by
 have h':(pre x.t).length<=10000:=h;have hpos: ∃k,zho x.t=some k:=by
  unfold zho;rw[zbi (by omega)];unfold zbd;cases zhw x.t with
  |false=>exact⟨_,rfl⟩
  |true=>exact⟨_,zy h' rfl⟩
 obtain⟨k,hk⟩:=hpos;unfold zox;rw[zbi (by omega),zbi (by omega),hk,zbi (by omega)];unfold zbd;simp only[bindE_some];repeat' first|exact⟨_,rfl⟩|refine z4h ?_ ?_
theorem fin4 (n off:Nat)(p b:Bool)(rest:List UInt8)(y:Tr)(hy:TG y)(rd:Rd)(he:rd.e=0)(hl: ¬rd.a<rest.length)(hq:zcq rd.q=[]):
 ∃R e,z8k n off p b rest y rd=some (R,(n:Int),e)/\ (e≠0->R=rg0):=by
 obtain⟨c,hc⟩:=qbz (Rg.mk p b y) hy;by_cases h:c=0
 ·refine⟨Rg.mk p b y,0,?_,fun h=>absurd rfl h⟩;unfold z8k;refine zbk rd ?_ ?_
  ·rw[show(rd.e !=0)=false by simp[he],cond_false,decide_eq_false hl,cond_false,decide_eq_false (show ¬(length (zcq rd.q):Int)>0 by rw[hq];simp),cond_false]
  ·rw[show(rd.e !=0)=false by simp[he],cond_false];refine zam _ hc ?_;rw[h];rfl
 ·refine⟨rg0,c,?_,fun _=>rfl⟩;unfold z8k;refine zbk rd ?_ ?_
  ·rw[show(rd.e !=0)=false by simp[he],cond_false,decide_eq_false hl,cond_false,decide_eq_false (show ¬(length (zcq rd.q):Int)>0 by rw[hq];simp),cond_false]
  ·rw[show(rd.e !=0)=false by simp[he],cond_false];refine zam _ hc ?_;rw[bne_iff_ne.2 h,cond_true];rfl
theorem qga (x:List UInt8)(hx:x.length<=1000): ∃b,zzv x=some b/\ (b=true-> ∃y,x=y++[36]):=by
 have hsl:(Lib.trimSuffix x ([36]:List UInt8)).length<=x.length:=by
  unfold Lib.trimSuffix;split
  ·simp
  ·exact le_refl _
 have htr:(Lib.trimRightB (Lib.trimSuffix x ([36]:List UInt8)) 92).length<=(Lib.trimSuffix x ([36]:List UInt8)).length:=by
  unfold Lib.trimRightB;rw[List.length_reverse];have:=(List.dropWhile_sublist (fun a=>a==(92:UInt8)) (l:=(Lib.trimSuffix x ([36]:List UInt8)).reverse)).length_le;rw[List.length_reverse] at this;exact this
 unfold zzv;rw[zbi (by omega)];unfold zbd;simp only;cases hs:Lib.hasSuffix x ([36]:List UInt8) with
 |false=>exact⟨false,rfl,fun h=>by cases h⟩
 | true=>
  rw[cond_true,zbi (by omega),zbi (by omega)];refine⟨_,rfl,fun _=> ?_⟩;unfold Lib.hasSuffix at hs;rw[List.isSuffixOf_iff_suffix] at hs;obtain⟨y,hy⟩:=hs;exact⟨y,hy.symm⟩
structure RS (s:List UInt8)(p b:Bool)(off m:Nat)(rest:List UInt8):Prop where
 run: ∀y rd,zqy 1100 300 (Rd.mk rest 0 0 none)=some (y,rd)->z0s 1100 300 s=z8k s.length off p b rest y rd
 pre:p=Lib.hasPrefix s ([94]:List UInt8)
 offE:off=if p=true then 1 else 0
 len:rest.length=m
 fit:off+m<=s.length
 get: ∀i,i<m->rest[i]? =s[off+i]?
 tail:off+m=s.length \/(off+m+1=s.length/\ s[off+m]? =some 36)
theorem qjy (s:List UInt8)(hs:s.length<=900): ∃p b off m rest,RS s p b off m rest:=by
 obtain⟨p,hp⟩: ∃p,p=Lib.hasPrefix s ([94]:List UInt8):=⟨_,rfl⟩;obtain⟨off,ho⟩: ∃off:Nat,off=if p=true then 1 else 0:=⟨_,rfl⟩
 have hos:off<=s.length:=by
  rw[ho];split
  ·rename_i h;rw[h] at hp;cases s with
   |nil=>cases hp
   |cons a t=>simp
  ·omega
 have hbody:Lib.trimPrefix s ([94]:List UInt8)=s.drop off:=by
  unfold Lib.trimPrefix;rw[<-hp,ho];cases p<;>rfl
 have hbl:(s.drop off).length=s.length-off:=by simp
 obtain⟨b,hb,hb2⟩:=qga (s.drop off) (by omega);have run: ∀rest,rest=(if b=true then sub (s.drop off) 0 (((s.drop off).length:Int)-1) else s.drop off)->(b=true->1<=(s.drop off).length)-> ∀y rd,zqy 1100 300 (Rd.mk rest 0 0 none)=some (y,rd)->z0s 1100 300 s=z8k s.length off p b rest y rd:=by
  intro rest hr hb1 y rd h;unfold z0s z4v;rw[decide_eq_false (show ¬(length s:Int)>1000 by omega),cond_false];refine zaj fun x1 hx1=> ?_;rw[hbody, <-hp] at hx1;subst hx1;simp only;refine zy (by omega) (zam _ hb ?_);refine zbk rest ?_ ?_
  ·cases b with
   |false=>rw[hr];rfl
   | true=>
    have:=hb1 rfl;rw[cond_true];refine zy (by omega) (zy (by omega) (zaj fun x hx=> ?_));rw[hr, <-hx];rfl
  ·refine zam _ h ?_;unfold z8k;rw[show(length s:Int)-(length (s.drop off):Int)=(off:Int) by omega]
 cases b with
 | false=>
  refine⟨p,false,off,s.length-off,s.drop off,run _ rfl (fun h=>by cases h),hp,ho,hbl,by omega,fun i hi=>by rw[getElem?_drop],.inl (by omega)⟩
 | true=>
  obtain⟨y,hy⟩:=hb2 rfl;have hyl:=congrArg length hy;rw[hbl,length_append,List.length_singleton] at hyl;have hsub:sub (s.drop off) 0 (((s.drop off).length:Int)-1)=y:=by
   unfold sub;rw[hy];simp
  refine⟨p,true,off,y.length,y,run y (by rw[if_pos rfl,hsub]) (fun _=>by omega),hp,ho,rfl,by omega,fun i hi=> ?_,.inr ⟨by omega,?_⟩⟩
  ·rw[<-getElem?_drop,hy,List.getElem?_append_left hi]
  ·rw[<-getElem?_drop,hy,List.getElem?_append_right (le_refl _)];simp
def CK (s:List UInt8)(k:Nat)(e:Int):Prop:=(e=92/\ (((ix s (k:Int)).toNat:Nat):Int)≠63) \/(e=91/\ (((ix s (k:Int)).toNat:Nat):Int)=41) \/(e=95/\ (((ix s (k:Int)).toNat:Nat):Int)=94) \/(e=90/\ (((ix s (k:Int)).toNat:Nat):Int)≠92)
theorem qjq {s:List UInt8} {i:Nat} {c:UInt8} (h:s[i]? =some c):ix s (i:Int)=c:=by
 unfold ix;rw[Int.toNat_natCast,List.getD_eq_getElem?_getD,h];rfl
theorem qdf {s:List UInt8} {i:Nat} (h:i<s.length):s[i]? =some (ix s (i:Int)):=by
 unfold ix;rw[Int.toNat_natCast,List.getD_eq_getElem?_getD,List.getElem?_eq_getElem h];rfl
theorem qin (s:List UInt8)(hs:s.length<=250): ∃R at_ e,z0s 1100 300 s=some (R,at_,e)/\ 0<=at_/\ at_<=s.length/\ (e≠0->R=rg0)/\ (e=0->at_=s.length)/\
 (∀t k,Two s t k->t.length<=900->at_=(k:Int)->CK s k e-> ∃R',z0s 1100 300 t=some (R',at_,e)):=by
 obtain⟨p,b,off,m,rest,H⟩:=qjy s (by omega);have hfit:=H.fit;have hlen:=H.len;have ho1:off<=1:=by rw[H.offE];split<;>omega
 obtain⟨⟨y,rd⟩,A,tg,_,hfin⟩:=qcd 300 rest (by omega) 0 none (by omega) (by omega) (by simp[zcq]);have run:=A.run;have lo:=A.lo;have hi:=A.hi;have str:=A.str (fun z hz=>by simp[zcq] at hz);have stu:=A.stu;have pos:=A.pos rfl;have same:=A.same;simp only[Int.natCast_zero] at run lo hi str stu pos same tg hfin;have stu':(zcq rd.q).length<=1000:=by
  have:(zcq (none:Stk)).length=0:=rfl;omega
 have R0:=H.run y rd run;obtain⟨a,hra⟩: ∃a:Nat,(a:Int)=rd.a:=⟨rd.a.toNat,by omega⟩
 -- another text
 have other: ∀t k,Two s t k->t.length<=900->k=off+a->a<rest.length->(ix rest (a:Int)≠36)->Fin1 rest a rd->
  ∃b' m' rest',RS t p b' off m' rest'/\ a<m'/\ ix rest' (a:Int)=ix rest (a:Int)/\ zqy 1100 300 (Rd.mk rest' 0 0 none)=some (y,atR rest' rd):=by
  intro t k ht htl hk hal h36 hf;obtain⟨p',b',off',m',rest',H'⟩:=qjy t htl;have hp:p'=p:=by
   rw[H'.pre,H.pre];have g1:=ht.ag.mono (show 1<=k+1 by omega);cases s with
   |nil=>exact absurd g1.1 (by simp)
   | cons c u=>
    obtain⟨v,rfl,_⟩:=Ag.cons (m:=0) g1;simp[Lib.hasPrefix,List.isPrefixOf]
  subst hp;have hoff:off'=off:=by rw[H'.offE,H.offE]
  subst hoff;have g1:=ht.ag.1;have g2:=ht.ag.2.1;have hf':=H'.fit;have hl':=H'.len;have hsk:s[off'+a]? =some (ix rest (a:Int)):=by
   rw[<-H.get a (by omega)];exact qdf hal
  have htk:t[off'+a]? =some (ix rest (a:Int)):=by
   rw[<-ht.ag.2.2 _ (by omega)];exact hsk
  have hm:a<m':=by
   rcases H'.tail with h|⟨h1,h2⟩
   ·omega
   ·by_cases hlt:a<m'
    ·exact hlt
    ·exfalso
     have:a=m':=by omega
     subst this;rw[htk] at h2;exact h36 (Option.some.inj h2)
  have hag:Ag (a+1) rest rest':=⟨by omega,by omega,fun i hi=>by
   rw[H.get i (by omega),H'.get i (by omega)];exact ht.ag.2.2 _ (by omega)⟩
  have hs2:=same rest' a ⟨hag,by omega,by omega⟩ hf;refine⟨b',m',rest',H',hm,(hag.ix (by omega)).symm,?_⟩;exact hs2
 by_cases he:rd.e=0
 ·by_cases hlt:rd.a<rest.length
  ·have hnx:=hfin he;have h41:(((ix rest rd.a).toNat:Nat):Int)=0 \/(((ix rest rd.a).toNat:Nat):Int)=41:=by
    unfold zcx at hnx;rw[if_neg (by simp),if_neg (by omega)] at hnx;exact hnx
   rw[fin2 _ _ _ _ _ _ _ he ho1 (by omega) hlt (by omega)] at R0;refine⟨_,_,_,R0,by omega,by omega,fun _=>rfl,fun h=>by split at h<;>omega,fun t k ht htl hk hc=> ?_⟩;have hka:k=off+a:=by omega
   obtain⟨b',m',rest',H',hm,hix,hrun⟩:=other t k ht htl hka (by omega) (by
    rw[hra];intro h;rw[h] at h41;rcases h41 with h|h<;>cases h) (.inl ⟨he,by omega⟩)
   have hl':=H'.len;have hf':=H'.fit;have R1:=H'.run _ _ hrun;rw[fin2 _ _ _ _ _ _ _ (show(atR rest' rd).e=0 from he) ho1 (show 0<=rd.a by omega) (show rd.a<rest'.length by omega) (by omega)] at R1;have hix2:ix rest' rd.a=ix rest rd.a:=by rw[<-hra];exact hix
   refine⟨rg0,?_⟩;rw[<-hix2];exact R1
  ·by_cases hq:zcq rd.q=[]
   ·obtain⟨R,e,h1,h2⟩:=fin4 s.length off p b rest y tg rd he hlt hq;rw[h1] at R0;refine⟨R,_,e,R0,by omega,Int.le_refl _,h2,fun _=>rfl,fun t k ht _ hk _=> ?_⟩;have:=ht.ag.1;omega
   ·obtain⟨z,hz,h1⟩:=fin3 s.length off p b rest y rd he ho1 (by omega) hlt hq stu' (fun z hz=>by
     have:=str z hz;exact⟨this.1,by have:=this.2.1;omega⟩)
    rw[h1] at R0;have hsz:=str z hz;have hz1:=hsz.1;have hz2:=hsz.2.1;refine⟨_,_,_,R0,by omega,by omega,fun _=>rfl,fun h=>by omega,fun t k ht _ hk hc=> ?_⟩;exfalso
    obtain⟨z',hz'⟩: ∃z':Nat,(z':Int)=z:=⟨z.toNat,by omega⟩;have hka:k=off+z':=by omega
    have hsk:ix s (k:Int)=40:=by
     rw[hka];refine qjq ?_;rw[<-H.get z' (by omega),qdf (by omega),hz',hsz.2.2]
    unfold CK at hc;rw[hsk] at hc;rcases hc with h|h|h|h
    ·omega
    ·exact absurd h.2 (by decide)
    ·omega
    ·omega
 ·rw[fin1 _ _ _ _ _ _ _ he ho1 (by omega)] at R0;refine⟨_,_,_,R0,by omega,by omega,fun _=>rfl,fun h=>absurd h he,fun t k ht htl hk hc=> ?_⟩;have hka:k=off+a:=by omega
  have hps:=pos he;have hP:(rd.e=92 \/rd.e=95 \/rd.e=90)/\ 0<=rd.a/\ rd.a<rest.length/\ (ix rest rd.a=36->rd.e=95):=by
   rcases hps with h|h|h
   ·exfalso;rcases hc with g|g|g|g<;>omega
   ·exfalso;rcases hc with g|g|g|g<;>omega
   ·exact h
  obtain⟨p1,p2,p3,p4⟩:=hP;rw[<-hra] at p4;have hixs:ix s (k:Int)=ix rest (a:Int):=by
   rw[hka];refine qjq ?_;rw[<-H.get a (by omega),qdf (by omega)]
  unfold CK at hc;rw[hixs] at hc;have h36:ix rest (a:Int)≠36:=by
   intro h;have h95:=p4 h;rw[h,h95] at hc;rcases hc with g|g|g|g
   ·omega
   ·omega
   ·exact absurd g.2 (by decide)
   ·omega
  obtain⟨b',m',rest',H',hm,hix,hrun⟩:=other t k ht htl hka (by omega) h36 (.inr ⟨he,hra.symm,by
   unfold GK;rcases hc with g|g|g|g
   ·exact .inl g
   ·exfalso;omega
   ·exact .inr (.inl g)
   ·exact .inr (.inr g)⟩)
  have R1:=H'.run _ _ hrun;rw[fin1 _ _ _ _ _ _ _ (show(atR rest' rd).e≠0 from he) ho1 (show 0<=rd.a/\ rd.a<=1000 by omega)] at R1;exact⟨_,R1⟩
def pfC (e c:Int):Option (Bool ⊕ Bool):=
 (bif (e==92) then(bif (c !=63) then(some (inl (true))) else(bif (e==91) then(bif (c==41) then(some (inl (true))) else(bif (e==95) then(bif (c==94) then(some (inl (true))) else(bif (e==90) then(some (inl ((c !=92)))) else(some (inl (false))))) else(bif (e==90) then(some (inl ((c !=92)))) else(some (inl (false)))))) else(bif (e==95) then(bif (c==94) then(some (inl (true))) else(bif (e==90) then(some (inl ((c !=92)))) else(some (inl (false))))) else(bif (e==90) then(some (inl ((c !=92)))) else(some (inl (false))))))) else(bif (e==91) then(bif (c==41) then(some (inl (true))) else(bif (e==95) then(bif (c==94) then(some (inl (true))) else(bif (e==90) then(some (inl ((c !=92)))) else(some (inl (false))))) else(bif (e==90) then(some (inl ((c !=92)))) else(some (inl (false)))))) else(bif (e==95) then(bif (c==94) then(some (inl (true))) else(bif (e==90) then(some (inl ((c !=92)))) else(some (inl (false))))) else(bif (e==90) then(some (inl ((c !=92)))) else(some (inl (false)))))))
theorem pfC_all (e c:Int): ∃b,pfC e c=some (.inl b)/\ (b=true->(e=92/\ c≠63) \/(e=91/\ c=41) \/(e=95/\ c=94) \/(e=90/\ c≠92)):=by
 by_cases h1:e=92
 ·subst h1;by_cases g:c=63
  ·subst g;exact⟨false,rfl,fun h=>by cases h⟩
  ·refine⟨true,?_,fun _=> .inl ⟨rfl,g⟩⟩;unfold pfC;rw[show((92:Int)==92)=true from rfl,cond_true,bne_iff_ne.2 g,cond_true]
 ·by_cases h2:e=91
  ·subst h2;by_cases g:c=41
   ·subst g;exact⟨true,rfl,fun _=> .inr (.inl ⟨rfl,rfl⟩)⟩
   ·refine⟨false,?_,fun h=>by cases h⟩;unfold pfC;rw[beq_eq_false_iff_ne.2 g];rfl
  ·by_cases h3:e=95
   ·subst h3;by_cases g:c=94
    ·subst g;exact⟨true,rfl,fun _=> .inr (.inr (.inl ⟨rfl,rfl⟩))⟩
    ·refine⟨false,?_,fun h=>by cases h⟩;unfold pfC;rw[beq_eq_false_iff_ne.2 g];rfl
   ·by_cases h4:e=90
    ·subst h4;refine⟨c !=92,rfl,fun h=> .inr (.inr (.inr ⟨rfl,by simpa using h⟩))⟩
    ·refine⟨false,?_,fun h=>by cases h⟩;unfold pfC;rw[beq_eq_false_iff_ne.2 h1,beq_eq_false_iff_ne.2 h2,beq_eq_false_iff_ne.2 h3,beq_eq_false_iff_ne.2 h4];rfl
theorem qjk (s:List UInt8):(sub s 0 (min (length s:Int) 100)).length<=100:=by
 unfold sub;simp;omega
theorem rxpf_eq (s behind:List UInt8):z5p s behind=some true:=by
 unfold z5p;refine zy (by omega) (zaj fun x1 hx1=>zy (by omega) (zaj fun x2 hx2=> ?_));have l1:x1.length<=100:=by rw[<-hx1];exact qjk s
 have l2:x2.length<=100:=by rw[<-hx2];exact qjk behind
 obtain⟨R,a,e,h1,h2,h3,h4,h5,h6⟩:=qin x1 (by omega);refine zam _ h1 ?_;simp only;refine zbk false ?_ ?_
 ·rw[decide_eq_false (show ¬a<0 by omega),cond_false,decide_eq_false (show ¬a>(x1.length:Int) by omega),cond_false];by_cases he:e=0
  ·rw[show(e !=0)=false by simp[he],cond_false,show(e==0)=true by simp[he],cond_true,h5 he];simp
  ·rw[bne_iff_ne.2 he,cond_true,h4 he,beq_eq_false_iff_ne.2 he];rfl
 rw[cond_false];by_cases he:e=0
 ·refine zbk true ?_ rfl;rw[show(e==0)=true by simp[he],cond_true]
 by_cases hal:a=x1.length
 ·refine zbk true ?_ rfl;rw[beq_eq_false_iff_ne.2 he,cond_false,hal];simp
 refine zbk false ?_ ?_
 ·rw[beq_eq_false_iff_ne.2 he,cond_false,beq_eq_false_iff_ne.2 hal]
 rw[cond_false];refine zy (by omega) (zaj fun x4 hx4=> ?_);obtain⟨b,hb1,hb2⟩:=pfC_all e (((x4).toNat:Nat):Int);refine zbk b hb1 ?_;cases b with
 |false=>rfl
 | true=>
  rw[cond_true];obtain⟨k,hk⟩: ∃k:Nat,(k:Int)=a:=⟨a.toNat,by omega⟩;refine zy (by omega) (zy (by omega) (zaj fun x5 hx5=> ?_));have e5:x5=x1.take (k+1):=by
   rw[<-hx5, <-hk]
   show(x1.drop 0).take _=_
   rw[List.drop_zero];congr 1
  have hl5:x5.length=k+1:=by rw[e5];simp;omega
  refine zy (by omega) ?_;have hag:Ag (k+1) x1 (x5++x2):=⟨by omega,by simp;omega,fun i hi=>by
   rw[List.getElem?_append_left (by omega),e5,List.getElem?_take,if_pos hi]⟩
  obtain⟨R',h7⟩:=h6 (x5++x2) k ⟨hag,by omega,by simp;omega⟩ (by simp;omega) hk.symm (by
   unfold CK;rw[hk,hx4];exact hb2 rfl)
  refine zam _ h7 ?_;simp
end Go.Ab
namespace Go.Proofs.YtnoccnalocdldaaDoor
open Go Go.Ab Go.ChangeShapes Go.WideShapes Go.ChangeAt Go.RowKit Go.Fwd
theorem trods_rxreadPrefix {H:Type} {enc:TypeId×Value->H} {P:Program} {w:World} {base:Nat} {spare:Nat->Bool} {held:Bool} {t0 t1:TypeId} {args:Array Value} {ds:List (DataW H)} {ps:List MemPlace} (h:DataW.TrodAll enc P w base spare held [t0,t1] args.toList ds ps):
 ∃v0 v1 d0 d1 p0 p1,args= #[v0,v1]/\ ds=[d0,d1]/\ ps=p0++p1/\ DataW.Trod enc P w base spare held t0 v0 d0 p0/\ DataW.Trod enc P w base spare held t1 v1 d1 p1:=by
 obtain⟨v0,a0,d0,s0,p0,q0,hargs,rfl,rfl,g0,h⟩:=trodAll_cons h;obtain⟨v1,a1,d1,s1,p1,q1,rfl,rfl,rfl,g1,h⟩:=trodAll_cons h;obtain⟨rfl,rfl,rfl⟩:=trodAll_nil h;exact⟨v0,v1,d0,d1,p0,p1,by cases args;simp_all,rfl,by simp,g0,g1⟩
theorem witness_rxreadPrefix (os:Os) {H:Type} (enc:TypeId×Value->H):
 (OpenSpec.ofChange Rows.rxreadPrefixSpec).preRow enc prog Tryd.f4 Rows.rxreadPrefixRow.domain false Rows.rxreadPrefixRow.laid ((zru os).forCall (fun _ _=>0) ⟨#[], #[.string ⟨#[]⟩,.string ⟨#[]⟩],[]⟩).memory #[.string ⟨#[]⟩,.string ⟨#[]⟩]:=
 OpenSpec.preRow_of_B rfl 8 (by kernel_rfl) (by kernel_rfl) (qhj os _)
theorem rxreadPrefix_lifted (os:Os)(started:os.Started)(H:Type)(enc:TypeId×Value->H)(F:Stop.Interp):
 ReturnsInHanded {} Tryd.checked os 4 .any ((OpenSpec.ofChange Rows.rxreadPrefixSpec).preRow enc prog Tryd.f4 Rows.rxreadPrefixRow.domain false Rows.rxreadPrefixRow.laid) (((OpenSpec.ofChange Rows.rxreadPrefixSpec).at F).post enc prog Tryd.f4 false true false false):=by
 refine returnsInHanded_of_row (C:=Tryd.checked) (s:=OpenSpec.ofChange Rows.rxreadPrefixSpec) own' started (by kernel_rfl) Tryd.func4
  (witness_row_atRef (enc:=enc) (C:=Tryd.checked) false (zru os) #[.string ⟨#[]⟩,.string ⟨#[]⟩] rfl (by kernel_rfl) (by kernel_rfl) (by kernel_rfl) (witness_rxreadPrefix os enc)) ?_
 intro W base args ds gs before hval0 hW hcnd0 _ hsz0 hL hS _;have hval: ∀(j:Nat) t v,Tryd.f4.params[j]? =some t->args[j]? =some v->Value.okWide prog W .any base t v:=hval0;have hW':=hW;obtain⟨p,q,hA0,hV,rfl,_,_⟩:=hW;have hA:DataW.TrodAll enc prog W 0 (fun _=>true) true Tryd.f4.params.toList args.toList ds p:=hA0;rw[show Tryd.f4.params.toList=[9,9] from by kernel_rfl] at hA;have hA1:=hA;obtain⟨v0,v1,d0,d1,p0,p1,rfl,rfl,rfl,h0,h1⟩:=trods_rxreadPrefix hA;obtain⟨rfl,rfl⟩:=trodVars_none hV;obtain⟨s0,rfl,rfl,rfl,w0⟩:=Go.ChangeMaps.open_string und9 (hval 0 9 v0 (by kernel_rfl) rfl) h0;obtain⟨x0,hx0⟩: ∃l:List UInt8,l=s0.data.toList:=⟨_,rfl⟩;have r0:x0.length<2^63:=qda hx0 w0;obtain⟨s1,rfl,rfl,rfl,w1⟩:=Go.ChangeMaps.open_string und9 (hval 1 9 v1 (by kernel_rfl) rfl) h1;obtain⟨x1,hx1⟩: ∃l:List UInt8,l=s1.data.toList:=⟨_,rfl⟩;have r1:x1.length<2^63:=qda hx1 w1;clear hA0 hval0;simp only[List.append_nil,List.nil_append] at hW' hA1;have hlt:=hW'.lt;refine(qff (rxpf_sh x0 x1 true (rxpf_eq x0 x1)) W (gv_of hL hS) (vs:=[.string s0,.string s1]) ⟨_,_,rfl,qaj hx0,_,_,rfl,qaj hx1,rfl⟩).mono fun e W' ⟨he,hw⟩=> ?_;subst he;refine⟨_,rfl,?_⟩;refine⟨_,_,_,[]++[],[],[],hW',?_,?_,rfl,hw.frame _,fun h=>by cases h⟩
 ·exact trodAll_mk1 (shut_bool (show prog.underlying 4=some .bool from by kernel_rfl) true)
 ·exact zop qhq hw (by kernel_rfl) hA1 hlt
theorem rxreadPrefix_holds:Rows.RxreadPrefixSaid:=
 OpenClaim.holds_of_cond 4 Tryd.f4 rfl rfl rfl rfl rfl rfl rfl ⟨rfl,rfl,rfl,rfl,rfl⟩ rfl rfl rfl rfl rfl (by kernel_rfl) Tryd.func4 (by kernel_rfl)
  (of_decide_eq_true (by kernel_rfl)) (by unfold Func.isWrapper;rw[if_neg (of_decide_eq_false (by kernel_rfl))];exact⟨rfl,rfl⟩)
  (fun os started H enc _ F0=>by rw[OpenClaim.pre_eq_preRow];exact rxreadPrefix_lifted os started H enc F0)
theorem rxreadPrefix_card:Rows.RxreadPrefixCardSaid:=
 Claim7.holds_tied_plain_at .later [] [.data,.pinned] true (true, "1f6a05b9e1cb067fa71eb3eff6af42f534da8190dca4e69fad110c4cc7f307ad") false
  rxreadPrefix_holds (fun _ h=>by cases h) (by kernel_rfl) (fun _ h=>by cases h) rxreadPrefix_row_tie rfl ⟨rfl,rfl⟩ (by kernel_rfl) rfl
  (fun f fn hf hfn=>by
   obtain rfl:f=4:=Option.some.inj ((show prog.funcNamed "repartee/reparteelaw09.RxreadPrefix" =some 4 by kernel_rfl).symm.trans hf)|>.symm;obtain rfl:fn=Tryd.f4:=(Option.some.inj (Tryd.func4.symm.trans hfn)).symm;exact⟨by kernel_rfl,fun j t ht=>by
    have hm:t∈[9,9]:=by
     have h:=Array.mem_of_getElem? ht;rw[<-Array.mem_toList_iff,show Tryd.f4.params.toList=[9,9] from by kernel_rfl] at h;exact h
    have hall:([9,9].all fun u=> !prog.wantsStandIn u)=true:=by kernel_rfl
    exact(show prog.wantsStandIn t=false by simpa using List.all_eq_true.1 hall t hm)⟩)
  (by kernel_rfl)
#print axioms rxreadPrefix_card
end Go.Proofs.YtnoccnalocdldaaDoor
