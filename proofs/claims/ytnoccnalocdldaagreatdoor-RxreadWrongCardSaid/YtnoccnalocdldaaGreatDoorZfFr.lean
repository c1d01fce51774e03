import Derived.Test.YtnoccnalocdldaaGreatDoorZfWe
import Derived.Test.YtnoccnalocdldaaGreatDoorZfAx
import Derived.Deep.Slices
import Derived.Deep.Fields
import Derived.ChangeSame
set_option linter.all false
set_option maxRecDepth 100000
set_option maxHeartbeats 4000000
open Sum (inl inr)
open Int (toNat tmod tdiv)
open List (length length_cons length_append length_nil cons_append mem_cons append_nil mem_map isEmpty map_cons getElem_mem mem_singleton length_map)
open Go.Proofs.Tryz (prog)
namespace Go.Ab
open Go Go.RowKit Go.Fwd Go.Proofs
theorem zqj {ρ:Type}: ∀(l acc:List Tr),acc.length+l.length<2^40->zeg (β:=List Tr) (ρ:=ρ) (fun s2 w1=>(chk (length s2<2^40) (some (inl ((s2++[w1])))))) l acc=some (.inl (acc++l))
 |[],acc,_=>by rw[zeg];simp
 | x::l,acc,h=>by
  simp only[length_cons] at h;have hb:(chk (acc.length<2^40) (some (inl (acc++[x]))):Option (List Tr ⊕ ρ))=some (.inl (acc++[x])):=zf (by omega) rfl;rw[zeg,hb];have:=zqj (ρ:=ρ) l (acc++[x]) (by simp only[length_append,length_cons,length_nil];omega);simp only;rw[this];simp
abbrev Alts:=List Pcs
def zag:Alts->List UInt8
 |[]=>[]
 |[L]=>zbl L
 |L::M::A=>zbl L++124::zag (M::A)
def zja (A:Alts):List Tr:=A.map fun L=>zsq (zqs L)
def qqb (n:Nat)(A:Alts):Prop:=A≠[]/\ (∀L∈A,L.length<1000/\ ∀p∈L,AtP n p.1 p.2)/\ A.length<1000
theorem qja (A:Alts):(zbe (zja A)).length<=10000*A.length:=by
 have:=zig (zja A) (by
  intro x hx;obtain⟨L,_,rfl⟩:=mem_map.1 hx;exact z6d _)
 simpa[zja] using this
theorem z8r {n:Nat} {L:Pcs} (h: ∀p∈L,AtP n p.1 p.2):(zbe (zqs L)).length<=10000*L.length:=by
 have:=zig (zqs L) (by
  intro x hx;obtain⟨p,hp,rfl⟩:=mem_map.1 hx;exact(h p hp).len)
 simpa[zqs] using this
def EndP (b:List UInt8):Prop:=b=[] \/ ∃t,b=41::t
theorem EndP.stop {b:List UInt8} (h:EndP b):StopP b:=h.imp id fun⟨t,h⟩=>⟨t,.inl h⟩
theorem zop (L M:Pcs)(A:Alts):zag (L::M::A)=zbl L++124::zag (M::A):=rfl
def zpn (n:Nat):Rd×List Tr->Option ((Rd×List Tr) ⊕ ((Rd×List Tr) ⊕ (Tr×Rd))):=
 (fun s1=>(zct (τ:=Rd×(List Tr)) (zai (ztq s1.1) (fun x1=>(zai (zyk 1100 (zei 1100 (zdp (zvf 1100 n))) x1) (fun x2=>(zct (zeg (β:=(List Tr)) (fun s2 w1=>(chk (length s2<2^40) (some (inl ((s2++[w1])))))) x2.1 (([]:List Tr))) (fun s2=>(some (inl (x2.2,s2))))))))) (fun j2=>(chk ((zbe j2.2).length<=2^40) (zay (zsq j2.2) (fun x3=>(bif (isEmpty s1.2) then(chk (0<(length [x3])/\ (length [x3])*80<=140737488355328) (zai (zdz j2.1) (fun x4=>(bif (x4.1 !=124) then(some (inr (inl (x4.2,[x3])))) else(chk (-9223372036854775808<=(x4.2.a+1)/\ (x4.2.a+1)<9223372036854775808) (some (inl ((Rd.mk x4.2.s (x4.2.a+1) x4.2.e x4.2.q),[x3])))))))) else(chk (length s1.2=(length s1.2)/\ 0<(length s1.2)/\ 0<length [x3]/\ ((length s1.2)+length [x3])*80<=140737488355328) (zai (zdz j2.1) (fun x5=>(bif (x5.1 !=124) then(some (inr (inl (x5.2,(s1.2++[x3]))))) else(chk (-9223372036854775808<=(x5.2.a+1)/\ (x5.2.a+1)<9223372036854775808) (some (inl ((Rd.mk x5.2.s (x5.2.a+1) x5.2.e x5.2.q),(s1.2++[x3]))))))))))))))))
theorem z7n (n:Nat)(b:List UInt8)(hb:EndP b): ∀(A:Alts) (a:List UInt8) (q:Stk) (acc:List Tr) (fuel:Nat),A≠[]->(∀L∈A,L.length<1000/\ ∀p∈L,AtP n p.1 p.2)->acc.length+A.length<2000->(a++zag A++b).length<2^39->(zcg q).length+n<2^39->A.length<=fuel->
 ∃q',zav (zpn n) fuel (Rd.mk (a++zag A++b) ((a.length:Nat):Int) 0 q,acc)=some (.inl (Rd.mk (a++zag A++b) (((a++zag A).length:Nat):Int) 0 q',acc++zja A))/\ zcg q'=zcg q
 |A,_,_,_,0,hA,_,_,_,_,hf=>absurd hf (by cases A with|nil=>exact absurd rfl hA|cons=>simp)
 |[],_,_,_,_,hA,_,_,_,_,_=>absurd rfl hA
 | [L],a,q,acc,fuel+1,_,hA,hacc,hlen,hq,hf=>by
  obtain⟨hL1,hL⟩:=hA L (by simp);obtain⟨q',h1,h2⟩:=qph n L a b q hb.stop hL hlen hq (by omega);refine⟨q',?_,h2⟩;have hp:=z8r hL;have hpl:(zqs L).length=L.length:=by simp[zqs]
  simp only[length_cons,length_nil] at hacc;rw[zav];have:zpn n (Rd.mk (a++zbl L++b) ((a.length:Nat):Int) 0 q,acc)=some (.inr (.inl (Rd.mk (a++zbl L++b) (((a++zbl L).length:Nat):Int) 0 q',acc++[zsq (zqs L)]))):=by
   unfold zpn;refine zaj (Rd.mk (a++zbl L++b) (((a++zbl L).length:Nat):Int) 0 q',zqs L) ?_ ?_
   ·refine zu _ rfl ?_;refine zu _ h1 ?_;refine zaj ([]++zqs L) ?_ rfl;exact zqj (zqs L) [] (by rw[hpl];simp only[length_nil];omega)
   ·refine zf (by simp only;omega) (zj fun x3 hx3=> ?_);simp only at hx3;subst hx3;have hn:=zlj (a++zbl L) b q';have hb3:((hd0 (b)) !=124)=true:=by
     rcases hb with rfl|⟨t,rfl⟩<;>rfl
    cases acc with
    | nil=>
     rw[show isEmpty (Rd.mk (a++zbl L++b) ((a.length:Nat):Int) 0 q,([]:List Tr)).2=true from rfl,cond_true];refine zf (by simp) ?_;refine zu _ hn ?_;simp only;rw[hb3,cond_true];rfl
    | cons t0 acc=>
     rw[show isEmpty (Rd.mk (a++zbl L++b) ((a.length:Nat):Int) 0 q,t0::acc).2=false from rfl,cond_false];refine zf (by simp only[length_cons,length_nil] at hacc⊢;exact⟨trivial,by omega,by omega,by omega⟩) ?_;refine zu _ hn ?_;simp only;rw[hb3,cond_true]
  simp only[zag];rw[this];rfl
 | L ::M::A,a,q,acc,fuel+1,_,hA,hacc,hlen,hq,hf=>by
  obtain⟨hL1,hL⟩:=hA L (by simp);simp only[length_cons] at hacc hf;have e1:a++zag (L::M::A)++b=a++zbl L++(124::(zag (M::A)++b)):=by rw[zop];simp
  have e2:a++zbl L++(124::(zag (M::A)++b))=(a++zbl L++[124])++zag (M::A)++b:=by simp
  rw[e1] at hlen⊢;obtain⟨q1,h1,h2⟩:=qph n L a (124::(zag (M::A)++b)) q (.inr ⟨_,.inr rfl⟩) hL hlen hq (by omega);obtain⟨q',g1,g2⟩:=z7n n b hb (M::A) (a++zbl L++[124]) q1 (acc++[zsq (zqs L)]) fuel (by simp) (fun x hx=>hA x (by simp only[mem_cons] at hx⊢;exact .inr hx)) (by simp only[length_append,length_cons,length_nil] at hacc⊢;omega) (by rw[<-e2];exact hlen) (by rw[h2];exact hq) (by simp only[length_cons];omega);refine⟨q',?_,g2.trans h2⟩;have hp:=z8r hL;have hpl:(zqs L).length=L.length:=by simp[zqs]
  rw[zav];have:zpn n (Rd.mk (a++zbl L++(124::(zag (M::A)++b))) ((a.length:Nat):Int) 0 q,acc)=some (.inl (Rd.mk (a++zbl L++(124::(zag (M::A)++b))) (((a++zbl L++[124]).length:Nat):Int) 0 q1,acc++[zsq (zqs L)])):=by
   have hl:((((a++zbl L).length:Nat):Int)+1)=(((a++zbl L++[124]).length:Nat):Int):=by simp only[length_append,length_cons,length_nil];omega
   have hl2:(a++zbl L).length<2^39:=by simp only[length_append,length_cons] at hlen⊢;omega
   unfold zpn;refine zaj (Rd.mk (a++zbl L++(124::(zag (M::A)++b))) (((a++zbl L).length:Nat):Int) 0 q1,zqs L) ?_ ?_
   ·refine zu _ rfl ?_;refine zu _ h1 ?_;refine zaj ([]++zqs L) ?_ rfl;exact zqj (zqs L) [] (by rw[hpl];simp only[length_nil];omega)
   ·refine zf (by simp only;omega) (zj fun x3 hx3=> ?_);simp only at hx3;subst hx3;have hn:=zlj (a++zbl L) (124::(zag (M::A)++b)) q1;cases acc with
    | nil=>
     rw[show isEmpty (Rd.mk (a++zbl L++(124::(zag (M::A)++b))) ((a.length:Nat):Int) 0 q,([]:List Tr)).2=true from rfl,cond_true];refine zf (by simp) ?_;refine zu _ hn ?_;simp only;rw[show(hd0 (124::(zag (M::A)++b)) !=124)=false from rfl,cond_false];refine zf (by omega) ?_;rw[hl];rfl
    | cons t0 acc=>
     rw[show isEmpty (Rd.mk (a++zbl L++(124::(zag (M::A)++b))) ((a.length:Nat):Int) 0 q,t0::acc).2=false from rfl,cond_false];refine zf (by simp only[length_cons,length_nil] at hacc⊢;exact⟨trivial,by omega,by omega,by omega⟩) ?_;refine zu _ hn ?_;simp only;rw[show(hd0 (124::(zag (M::A)++b)) !=124)=false from rfl,cond_false];refine zf (by omega) ?_;rw[hl]
  rw[this];simp only;rw[<-e2] at g1;rw[g1];rw[show acc++[zsq (zqs L)]++zja (M::A)=acc++zja (L::M::A) by simp[zja],show a++zbl L++[124]++zag (M::A)=a++zag (L::M::A) by rw[zop];simp]
theorem qpf (n:Nat)(A:Alts)(a b:List UInt8)(q:Stk)(hb:EndP b)(hA:qqb n A)(hlen:(a++zag A++b).length<2^39)(hq:(zcg q).length+n<2^39):
 ∃q',zvf 1100 (n+1) (Rd.mk (a++zag A++b) ((a.length:Nat):Int) 0 q)=some (orT (zja A),Rd.mk (a++zag A++b) (((a++zag A).length:Nat):Int) 0 q')/\ zcg q'=zcg q:=by
 obtain⟨h0,h1,h2⟩:=hA;obtain⟨q',g1,g2⟩:=z7n n b hb A a q [] 1100 h0 h1 (by simp only[length_nil];omega) hlen hq (by omega);refine⟨q',?_,g2⟩;have hp:=qja A;show zvs 1100 _ _=_;unfold zvs;refine zaj (Rd.mk (a++zag A++b) (((a++zag A).length:Nat):Int) 0 q',[]++zja A) g1 ?_;have hne:isEmpty (zja A)=false:=by
  cases A with
  |nil=>exact absurd rfl h0
  |cons=>rfl
 simp only[List.nil_append];rw[hne,cond_false];refine zf (by omega) (zj fun x hx=> ?_);rw[<-hx]
theorem z9c (n:Nat)(A:Alts)(a h b:List UInt8)(q:Stk)(hA:qqb n A)(hh:h.length<=3)(hlen:(a++h++zag A++41::b).length<2^39)(hq:(zcg q).length+(n+1)<2^39):
 ∃q',zdp (zvf 1100 (n+1)) (h.length:Int) (Rd.mk (a++h++zag A++41::b) ((a.length:Nat):Int) 0 q)=some (orT (zja A),Rd.mk (a++h++zag A++41::b) (((a++h++zag A++[41]).length:Nat):Int) 0 q')/\ zcg q'=zcg q:=by
 have hp:zcg (zhx q ((a.length:Nat):Int))=zcg q++[((a.length:Nat):Int)]:=rfl;obtain⟨q1,g1,g2⟩:=qpf n A (a++h) (41::b) (zhx q ((a.length:Nat):Int)) (.inr ⟨_,rfl⟩) hA hlen (by rw[hp];simp only[length_append,length_cons,length_nil];omega);refine⟨zzw q1,?_,by rw[qlz,g2,hp];simp⟩;have hl1:((a.length:Nat):Int)+(h.length:Int)=(((a++h).length:Nat):Int):=by simp only[length_append];omega
 have hl2:((((a++h++zag A).length:Nat):Int)+1)=(((a++h++zag A++[41]).length:Nat):Int):=by simp only[length_append,length_cons,length_nil];omega
 have hl3:(a++h++zag A).length<2^39:=by simp only[length_append,length_cons] at hlen⊢;omega
 have hl4:a.length<2^39:=by simp only[length_append] at hl3;omega
 have hs:(zcg q1).length=(zcg q).length+1:=by rw[g2,hp];simp
 unfold zdp;refine zf (by simp only;omega) (zf (by simp only;omega) ?_);refine zu _ (by simp only;rw[hl1];exact g1) ?_;refine zaj (Rd.mk (a++h++zag A++41::b) (((a++h++zag A++[41]).length:Nat):Int) 0 (zzw q1)) ?_ rfl;refine zu _ (ztk (a++h++zag A) 41 b q1) ?_;simp only;rw[show((((41:UInt8).toNat:Nat):Int)==41)=true from rfl,cond_true];refine zf (by omega) (zf (by omega) (zf (by intro e;rw[e] at hs;simp at hs) ?_));rw[hl2]
theorem qoy (c:UInt8)(h:c≠42/\ c≠43/\ c≠63/\ c≠123): ¬Lib.indexByte ([42,43,63,123]:List UInt8) c>=0:=by
 obtain⟨h1,h2,h3,h4⟩:=h;simp[Lib.indexByte,List.findIdx?_cons,Ne.symm h1,Ne.symm h2,Ne.symm h3,Ne.symm h4]
theorem hd0_u8 (b:List UInt8):0<=hd0 b/\ hd0 b<256:=by
 cases b with
 |nil=>exact⟨by decide,by decide⟩
 | cons c t=>
  have:c.toNat<256:=c.toNat_lt;simp only[hd0];omega
theorem hd0_no {b:List UInt8} (h:zrm b): ¬Lib.indexByte ([42,43,63,123]:List UInt8) (zwk (hd0 b))>=0:=by
 cases b with
 |nil=>exact qoy _ (by decide)
 | cons c t=>
  have e:zwk (hd0 (c::t))=c:=by simp[hd0,zwk]
  rw[e];exact qoy c (h c t rfl)
theorem z0t {b:List UInt8} (h:zrm b):zgm 1100 b=some (1,1,0,0):=by
 cases b with
 |nil=>rfl
 | cons c t=>
  obtain⟨h1,h2,h3,h4⟩:=h c t rfl;have ne: ∀d:UInt8,c≠d->(((c.toNat:Nat):Int)==((d.toNat:Nat):Int))=false:=fun d hd=>by
   rw[beq_eq_false_iff_ne];intro e;exact hd (UInt8.toNat_inj.1 (by omega))
  unfold zgm;rw[show((c::t)==([]:List UInt8))=false from rfl,cond_false];refine zf (by simp only[length_cons];omega) (zj fun x hx=> ?_);have:x=c:=by rw[<-hx];rfl
  subst this;rw[show(((x.toNat:Nat):Int)==42)=false from ne 42 h1,cond_false,show(((x.toNat:Nat):Int)==43)=false from ne 43 h2,cond_false,show(((x.toNat:Nat):Int)==63)=false from ne 63 h3,cond_false,show(((x.toNat:Nat):Int)==123)=false from ne 123 h4,cond_false]
theorem zkn (y:Tr)(hy:(pre y).length<=10000)(a c b:List UInt8)(q:Stk)(lo hi:Int)(hc:zgm 1100 (c++b)=some (lo,hi,(c.length:Int),0))(hb:zrm b)(hlen:(a++c++b).length<2^39):
 zbz 1100 y (Rd.mk (a++c++b) ((a.length:Nat):Int) 0 q)=some (zfr y lo hi,Rd.mk (a++c++b) (((a++c).length:Nat):Int) 0 q):=by
 have hl1:((a.length:Nat):Int)+(c.length:Int)=(((a++c).length:Nat):Int):=by simp only[length_append];omega
 have hl2:(a++c).length<2^39:=by simp only[length_append] at hlen⊢;omega
 have hl3:a.length<=(a++c++b).length:=by simp only[length_append];omega
 unfold zbz;rw[show((Rd.mk (a++c++b) ((a.length:Nat):Int) 0 q).e !=0)=false from rfl,cond_false];refine zf (by simp only;omega) (zj fun x1 hx1=> ?_);simp only at hx1;rw[List.append_assoc,zjv] at hx1;subst hx1;refine zu _ hc ?_;rw[show((lo,hi,(c.length:Int),(0:Int)).2.2.2 !=0)=false from rfl,cond_false];refine zf (by simp only;omega) ?_;refine zaj (Rd.mk (a++c++b) (((a++c).length:Nat):Int) 0 q) ?_ ?_
 ·simp only;rw[hl1];cases hc0:decide ((c.length:Int)>0) with
  |false=>rfl
  | true=>
   rw[cond_true];refine zu _ (zlj (a++c) b q) ?_;simp only;refine zf (hd0_u8 b) (zj fun x hx=> ?_);subst hx;rw[show decide (Lib.indexByte ([42,43,63,123]:List UInt8) (zwk (hd0 b))>=0)=false from decide_eq_false (hd0_no hb),cond_false]
 ·exact zf (by omega) (zj fun x hx=>by rw[<-hx])
def qqr (c:List UInt8)(lo hi:Int):Prop:= ∀b,zrm b->b.length<2^39->zgm 1100 (c++b)=some (lo,hi,(c.length:Int),0)
theorem zyw:qqr [] 1 1:=fun b hb _=>z0t hb
theorem at_nc (n:Nat)(A:Alts)(c:List UInt8)(lo hi:Int)(hA:qqb n A)(hc:qqr c lo hi):AtP (n+1) ([40,63,58]++zag A++[41]++c) (zfr (orT (zja A)) lo hi) where
 hd:=⟨40,_,rfl,.inl rfl⟩
 len:=zif _ (z9z _) lo hi
 run a b q hlen hq hb:=by
  have e:a++([40,63,58]++zag A++[41]++c)++b=a++[40,63,58]++zag A++41::(c++b):=by simp
  have e2:a++[40,63,58]++zag A++41::(c++b)=a++[40,63,58]++zag A++[41]++c++b:=by simp
  rw[e] at hlen⊢;obtain⟨q',g1,g2⟩:=z9c n A a [40,63,58] (c++b) q hA (by decide) hlen hq;refine⟨orT (zja A),Rd.mk (a++[40,63,58]++zag A++41::(c++b)) (((a++[40,63,58]++zag A++[41]).length:Nat):Int) 0 q',q',?_,?_,g2⟩
  rotate_left
  ·have h:=zkn (orT (zja A)) (z9z _) (a++[40,63,58]++zag A++[41]) c b q' lo hi (hc b hb (by simp only[length_append,length_cons] at hlen;omega)) hb (by rw[<-e2];exact hlen);rw[<-e2] at h;rw[show a++([40,63,58]++zag A++[41]++c)=a++[40,63,58]++zag A++[41]++c by simp];exact h
  ·have hla:a.length<(a++[40,63,58]++zag A++41::(c++b)).length:=by simp only[length_append,length_cons,length_nil];omega
   have e3:a++[40,63,58]++zag A++41::(c++b)=a++([40,63,58]++zag A++41::(c++b)):=by simp
   unfold zei;refine zf (by simp only;omega) (zj fun x1 hx1=> ?_);simp only at hx1;rw[e3,zjv] at hx1;subst hx1;refine zlq (_,Rd.mk _ _ _ _) ?_ rfl;refine zf (by simp only[length_append,length_cons];omega) (zj fun x2 hx2=> ?_);have:x2=40:=by rw[<-hx2];rfl
   subst this;rw[show((((40:UInt8).toNat:Nat):Int)==40)=true from rfl,cond_true];refine zj fun x3 hx3=> ?_;have:x3=true:=by rw[<-hx3];rfl
   subst this;rw[cond_true];exact zu _ g1 rfl
theorem at_gr (n:Nat)(A:Alts)(c:List UInt8)(lo hi:Int)(hA:qqb n A)(hq63: ∀x t,zag A=x::t->x≠63)(hc:qqr c lo hi):AtP (n+1) ([40]++zag A++[41]++c) (zfr (zgj (orT (zja A))) lo hi) where
 hd:=⟨40,_,rfl,.inl rfl⟩
 len:=zif _ (zgy _) lo hi
 run a b q hlen hq hb:=by
  have e:a++([40]++zag A++[41]++c)++b=a++[40]++zag A++41::(c++b):=by simp
  have e2:a++[40]++zag A++41::(c++b)=a++[40]++zag A++[41]++c++b:=by simp
  rw[e] at hlen⊢;obtain⟨q',g1,g2⟩:=z9c n A a [40] (c++b) q hA (by decide) hlen hq;refine⟨zgj (orT (zja A)),Rd.mk (a++[40]++zag A++41::(c++b)) (((a++[40]++zag A++[41]).length:Nat):Int) 0 q',q',?_,?_,g2⟩
  rotate_left
  ·have h:=zkn (zgj (orT (zja A))) (zgy _) (a++[40]++zag A++[41]) c b q' lo hi (hc b hb (by simp only[length_append,length_cons] at hlen;omega)) hb (by rw[<-e2];exact hlen);rw[<-e2] at h;rw[show a++([40]++zag A++[41]++c)=a++[40]++zag A++[41]++c by simp];exact h
  ·have hla:a.length<(a++[40]++zag A++41::(c++b)).length:=by simp only[length_append,length_cons,length_nil];omega
   have e3:a++[40]++zag A++41::(c++b)=a++([40]++zag A++41::(c++b)):=by simp
   unfold zei;refine zf (by simp only;omega) (zj fun x1 hx1=> ?_);simp only at hx1;rw[e3,zjv] at hx1;subst hx1;refine zlq (_,Rd.mk _ _ _ _) ?_ rfl;refine zf (by simp only[length_append,length_cons];omega) (zj fun x2 hx2=> ?_);have:x2=40:=by rw[<-hx2];rfl
   subst this;rw[show((((40:UInt8).toNat:Nat):Int)==40)=true from rfl,cond_true];refine zj fun x3 hx3=> ?_;have:x3=false:=by
    rw[<-hx3];cases hA':zag A with
    |nil=>rfl
    | cons x t=>
     have:=hq63 x t hA';unfold Lib.hasPrefix;simp[List.isPrefixOf];intro h;exact absurd h.symm this
   subst this;rw[cond_false];refine zu _ g1 ?_;refine zf (by have:=z9z (zja A);simp only;omega) (zj fun x hx=> ?_);rw[<-hx]
theorem at_br (n:Nat)(its:List It)(c:List UInt8)(lo hi:Int)(hn:its≠[])(hg: ∀i∈its,gdI i)(hl:its.length<1000)(hc:qqr c lo hi):AtP n ([91]++zkw its++[93]++c) (zfr (brT (z4s 0#256 its)) lo hi) where
 hd:=⟨91,_,rfl,.inr rfl⟩
 len:=zif _ (by rw[z6b];simp) lo hi
 run a b q hlen hq hb:=by
  have e:a++([91]++zkw its++[93]++c)++b=a++([91]++zkw its++[93])++c++b:=by simp
  rw[e] at hlen⊢;have hS:=qgm its hn hg;have hbr:=qbw its (c++b) hn hg hl (by simp only[length_append,length_cons] at hlen⊢;omega);refine⟨brT (z4s 0#256 its),Rd.mk (a++([91]++zkw its++[93])++c++b) (((a++([91]++zkw its++[93])).length:Nat):Int) 0 q,q,?_,?_,rfl⟩
  rotate_left
  ·have h:=zkn (brT (z4s 0#256 its)) (by rw[z6b];simp) (a++([91]++zkw its++[93])) c b q lo hi (hc b hb (by simp only[length_append,length_cons] at hlen;omega)) hb hlen;rw[show a++([91]++zkw its++[93]++c)=a++([91]++zkw its++[93])++c by simp];exact h
  ·have hla:a.length<(a++([91]++zkw its++[93])++c++b).length:=by simp only[length_append,length_cons,length_nil];omega
   have e3:a++([91]++zkw its++[93])++c++b=a++(([91]:List UInt8)++zkw its++[93]++(c++b)):=by simp
   have hll:((a.length:Nat):Int)+(((zkw its).length:Int)+2)=(((a++([91]++zkw its++[93])).length:Nat):Int):=by simp only[length_append,length_cons,length_nil];omega
   have hl2:(a++([91]++zkw its++[93])).length<2^39:=by simp only[length_append] at hlen⊢;omega
   unfold zei;refine zf (by simp only;omega) (zj fun x1 hx1=> ?_);simp only at hx1;rw[e3,zjv] at hx1;subst hx1;refine zlq (_,Rd.mk _ _ _ _) ?_ rfl;refine zf (by simp only[length_append,length_cons];omega) (zj fun x2 hx2=> ?_);have:x2=91:=by rw[<-hx2];rfl
   subst this;rw[show((((91:UInt8).toNat:Nat):Int)==40)=false from rfl,cond_false,show((((91:UInt8).toNat:Nat):Int)==91)=true from rfl,cond_true];refine zu _ hbr ?_;simp only;rw[show((0:Int) !=0)=false from rfl,cond_false];refine zf (by omega) (zj fun x hx=> ?_);have:x=brT (z4s 0#256 its):=by rw[<-hx,ofT,if_neg hS];rfl
   subst this;rw[hll]
def zmm (s:List UInt8):Int×Int->Option ((Int×Int) ⊕ ((Int×Int) ⊕ (Int×Int))):=
 (fun s1=>(bif (decide (s1.2<(length s:Int))) then(bif (decide (s1.2<2)) then(chk (0<=s1.2/\ s1.2<(length s:Int)) (zay (ix s s1.2) (fun x1=>(bif (decide ((((x1).toNat:Nat):Int)>=48)) then(chk (0<=s1.2/\ s1.2<(length s:Int)) (zay (ix s s1.2) (fun x2=>(bif (decide ((((x2).toNat:Nat):Int)<=57)) then(chk (-9223372036854775808<=(10*s1.1)/\ (10*s1.1)<9223372036854775808) (chk (0<=s1.2/\ s1.2<(length s:Int)) (zay (ix s s1.2) (fun x3=>(chk (-9223372036854775808<=(IntKind.u8.wrap ((((x3).toNat:Nat):Int)-48))/\ (IntKind.u8.wrap ((((x3).toNat:Nat):Int)-48))<9223372036854775808) (chk (-9223372036854775808<=((10*s1.1)+(IntKind.u8.wrap ((((x3).toNat:Nat):Int)-48)))/\ ((10*s1.1)+(IntKind.u8.wrap ((((x3).toNat:Nat):Int)-48)))<9223372036854775808) (chk (-9223372036854775808<=(s1.2+1)/\ (s1.2+1)<9223372036854775808) (some (inl (((10*s1.1)+(IntKind.u8.wrap ((((x3).toNat:Nat):Int)-48))),(s1.2+1))))))))))) else(some (inr (inl (s1.1,s1.2)))))))) else(some (inr (inl (s1.1,s1.2)))))))) else(some (inr (inl (s1.1,s1.2))))) else(some (inr (inl (s1.1,s1.2))))))
def isD (c:UInt8):Prop:=48<=c.toNat/\ c.toNat<=57
theorem u8_dig: ∀m:Nat,m<10->IntKind.u8.wrap ((m:Nat):Int)=((m:Nat):Int):=by decide
theorem zyz (s:List UInt8)(k:Nat)(n:Int)(c:UInt8)(hk:k<2)(hl:k<s.length)(hc:ix s ((k:Nat):Int)=c)(hd:isD c)(hn:0<=n/\ n<=9):zmm s (n,((k:Nat):Int))=some (.inl (10*n+(((c.toNat:Nat):Int)-48),(((k+1:Nat)):Int))):=by
 obtain⟨d1,d2⟩:=hd;have hw:IntKind.u8.wrap (((c.toNat:Nat):Int)-48)=((c.toNat:Nat):Int)-48:=by
  have:=u8_dig (c.toNat-48) (by omega);rwa[show(((c.toNat-48:Nat):Nat):Int)=((c.toNat:Nat):Int)-48 by omega] at this
 unfold zmm;dsimp only;rw[show decide (((k:Nat):Int)<(length s:Int))=true from decide_eq_true (by omega),cond_true,show decide (((k:Nat):Int)<2)=true from decide_eq_true (by omega),cond_true];refine zf (by omega) (zj fun x hx=> ?_);rw[hc] at hx;subst hx;rw[show decide (((c.toNat:Nat):Int)>=48)=true from decide_eq_true (by omega),cond_true];refine zf (by omega) (zj fun x hx=> ?_);rw[hc] at hx;subst hx;rw[show decide (((c.toNat:Nat):Int)<=57)=true from decide_eq_true (by omega),cond_true];refine zf (by omega) (zf (by omega) (zj fun x hx=> ?_));rw[hc] at hx;subst hx;rw[hw];refine zf (by omega) (zf (by omega) (zf (by omega) ?_));rfl
theorem nb_two (s:List UInt8)(n:Int):zmm s (n,2)=some (.inr (.inl (n,2))):=by
 unfold zmm;dsimp only;cases decide ((2:Int)<(length s:Int))<;>rfl
theorem qel (s a b:List UInt8)(n:Int)(hs:s=a++b)(hb: ∀c t,b=c::t-> ¬isD c):zmm s (n,((a.length:Nat):Int))=some (.inr (.inl (n,((a.length:Nat):Int)))):=by
 unfold zmm;dsimp only;cases b with
 | nil=>
  rw[show decide (((a.length:Nat):Int)<(length s:Int))=false from decide_eq_false (by rw[hs];simp),cond_false]
 | cons c t=>
  have hl:a.length<s.length:=by rw[hs];simp only[length_append,length_cons];omega
  have hc:ix s ((a.length:Nat):Int)=c:=by rw[hs,z4k]
  rw[show decide (((a.length:Nat):Int)<(length s:Int))=true from decide_eq_true (by omega),cond_true];cases h2:decide (((a.length:Nat):Int)<2) with
  |false=>rw[cond_false]
  | true=>
   rw[cond_true];refine zf (by omega) (zj fun x hx=> ?_);rw[hc] at hx;subst hx;have hn:=hb c t rfl;cases h3:decide (((c.toNat:Nat):Int)>=48) with
   |false=>rw[cond_false]
   | true=>
    rw[cond_true];refine zf (by omega) (zj fun x hx=> ?_);rw[hc] at hx;subst hx;rw[decide_eq_true_eq] at h3;rw[show decide (((c.toNat:Nat):Int)<=57)=false from decide_eq_false fun h=>hn ⟨by omega,by omega⟩,cond_false]
def qkp (b:List UInt8):Prop:= ∀c t,b=c::t-> ¬isD c
theorem number0 (b:List UInt8)(hb:qkp b):zez 1100 b=some (0,0):=by
 unfold zez;refine zaj (0,0) ?_ rfl;exact zic 1099 (qel b [] b 0 rfl hb)
theorem number1 (c:UInt8)(b:List UInt8)(hc:isD c)(hb:qkp b):zez 1100 (c::b)=some (((c.toNat:Nat):Int)-48,1):=by
 unfold zez;refine zaj (((c.toNat:Nat):Int)-48,1) ?_ rfl;have h1:=zyz (c::b) 0 0 c (by decide) (by simp) rfl hc ⟨by decide,by decide⟩;have h2:=qel (c::b) [c] b (((c.toNat:Nat):Int)-48) rfl hb;show zav (zmm (c::b)) (1099+1) ((0:Int),((0:Nat):Int))=_;rw[zav,h1];rw[show(10*(0:Int)+(((c.toNat:Nat):Int)-48))=((c.toNat:Nat):Int)-48 by omega];exact zic 1098 h2
theorem number2 (c d:UInt8)(b:List UInt8)(hc:isD c)(hd:isD d):zez 1100 (c::d::b)=some (10*(((c.toNat:Nat):Int)-48)+(((d.toNat:Nat):Int)-48),2):=by
 unfold zez;refine zaj (10*(((c.toNat:Nat):Int)-48)+(((d.toNat:Nat):Int)-48),2) ?_ rfl;have h1:=zyz (c::d::b) 0 0 c (by decide) (by simp) rfl hc ⟨by decide,by decide⟩;have h2:=zyz (c::d::b) 1 (((c.toNat:Nat):Int)-48) d (by decide) (by simp) rfl hd (by have:=hc.1;have:=hc.2;omega);show zav (zmm (c::d::b)) (1099+1) ((0:Int),((0:Nat):Int))=_;rw[zav,h1];rw[show(10*(0:Int)+(((c.toNat:Nat):Int)-48))=((c.toNat:Nat):Int)-48 by omega];simp only;rw[show(1099:Nat)=1098+1 from rfl,zav,h2];exact zic 1097 (nb_two _ _)
theorem z8m (n:Nat)(hn:n<20)(b:List UInt8)(hb:qkp b):zez 1100 (zhc n++b)=some (((n:Nat):Int),((zhc n).length:Int)):=by
 unfold zhc;by_cases h:n<10
 ·rw[if_pos h];have e:(UInt8.ofNat (48+n)).toNat=48+n:=by rw[UInt8.toNat_ofNat'];omega
  have:=number1 (UInt8.ofNat (48+n)) b ⟨by omega,by omega⟩ hb;rw[e] at this;rw[show(((48+n:Nat):Nat):Int)-48=((n:Nat):Int) by omega] at this;exact this
 ·rw[if_neg h];have e:(UInt8.ofNat (38+n)).toNat=38+n:=by rw[UInt8.toNat_ofNat'];omega
  have:=number2 49 (UInt8.ofNat (38+n)) b ⟨by decide,by decide⟩ ⟨by omega,by omega⟩;rw[e] at this;rw[show(10*((((49:UInt8).toNat:Nat):Int)-48)+((((38+n:Nat):Nat):Int)-48))=((n:Nat):Int) by rw[show(((49:UInt8).toNat:Nat):Int)=49 from rfl];omega] at this;exact this
theorem z2v (ds es b:List UInt8)(lo h0 hi:Int)(hds:ds≠[])(h1:zez 1100 (ds++44::(es++125::b))=some (lo,(ds.length:Int)))(h2:zez 1100 (es++125::b)=some (h0,(es.length:Int)))(hh:hi=if es=[] then-1 else h0)
 (g1:hi≠0) (g2:lo<=16) (g3:hi<=16) (g4:hi= -1 \/lo<=hi) (hlen:(ds++es++b).length<2^40):zno 1100 (123::(ds++44::(es++125::b)))=some (lo,hi,((ds.length+es.length+3:Nat):Int),0):=by
 obtain⟨s,hs⟩: ∃s,s=(123:UInt8)::(ds++44::(es++125::b)):=⟨_,rfl⟩;rw[<-hs];have hsl:s.length=ds.length+es.length+b.length+3:=by rw[hs];simp only[length_append,length_cons];omega
 simp only[length_append] at hlen;have hdp:0<ds.length:=List.length_pos_iff.2 hds;unfold zno;refine zf (by omega) (zj fun x1 hx1=> ?_);have e1:x1=ds++44::(es++125::b):=by rw[<-hx1,show(1:Int)=((1:Nat):Int) from rfl,zvj,hs];rfl
 subst e1;refine zu _ h1 ?_;dsimp only;refine zf (by omega) ?_;have a1:(1+(ds.length:Int))=(((123::ds:List UInt8).length:Nat):Int):=by simp only[length_cons];omega
 have a2:(1+(ds.length:Int))+1=(((123::ds++[44]:List UInt8).length:Nat):Int):=by simp only[length_cons,length_append,length_nil];omega
 have i1:ix s (1+(ds.length:Int))=44:=by rw[a1,show s=(123::ds)++44::(es++125::b) by rw[hs];rfl,z4k]
 refine zaj (hi,(1+(ds.length:Int))+1+(es.length:Int)) ?_ ?_
 ·rw[show decide ((ds.length:Int)>0)=true from decide_eq_true (by omega),cond_true,show decide ((1+(ds.length:Int))<(length s:Int))=true from decide_eq_true (by omega),cond_true];refine zf (by omega) (zj fun x3 hx3=> ?_);rw[i1] at hx3;subst hx3;rw[show((((44:UInt8).toNat:Nat):Int)==44)=true from rfl,cond_true];refine zf (by omega) (zf (by omega) (zj fun x4 hx4=> ?_));have e4:x4=es++125::b:=by
   rw[<-hx4,a2,show s=(123::ds++[44])++(es++125::b) by rw[hs];simp,zjv]
  subst e4;refine zu _ h2 ?_;dsimp only;refine zaj hi ?_ (zf (by omega) rfl);cases es with
  |nil=>rw[hh];rfl
  | cons e0 es=>
   rw[hh,if_neg (by simp),show((length (e0::es):Int)==0)=false from beq_eq_false_iff_ne.2 (by simp only[length_cons];omega),cond_false]
 ·dsimp only;rw[show((ds.length:Int)==0)=false from beq_eq_false_iff_ne.2 (by omega),cond_false,show((1+(ds.length:Int))+1+(es.length:Int)==(length s:Int))=false from beq_eq_false_iff_ne.2 (by omega),cond_false];have a3:(1+(ds.length:Int))+1+(es.length:Int)=(((123::ds++[44]++es:List UInt8).length:Nat):Int):=by simp only[length_cons,length_append,length_nil];omega
  have i3:ix s ((1+(ds.length:Int))+1+(es.length:Int))=125:=by rw[a3,show s=(123::ds++[44]++es)++125::b by rw[hs];simp,z4k]
  refine zf (by omega) (zj fun x6 hx6=> ?_);rw[i3] at hx6;subst hx6;rw[show((((125:UInt8).toNat:Nat):Int) !=125)=false from rfl,cond_false];refine zaj () ?_ ?_
  ·rw[show(hi==0)=false from beq_eq_false_iff_ne.2 g1,cond_false,show decide (lo>16)=false from decide_eq_false (by omega),cond_false,show decide (hi>16)=false from decide_eq_false (by omega),cond_false];rcases g4 with g4|g4
   ·rw[g4];rfl
   ·cases h9:(hi !=(-1)) with
    |false=>rfl
    |true=>rw[cond_true,show decide (hi<lo)=false from decide_eq_false (by omega),cond_false]
  ·refine zf (by omega) ?_;rw[show(1+(ds.length:Int))+1+(es.length:Int)+1=((ds.length+es.length+3:Nat):Int) by omega]
theorem zzv {c:UInt8} {t:List UInt8} (h: ¬isD c):qkp (c::t):=by
 intro d u e;cases e;exact h
theorem zyp (n:Nat):zhc n≠[]:=by unfold zhc;split<;>simp
theorem zkg (n:Nat):(zhc n).length<=2:=by unfold zhc;split<;>simp
def qkh (mn mx:Int):List UInt8:=[123]++zhc mn.toNat++[44]++(if mx= -1 then[] else zhc mx.toNat)++[125]
theorem z4o {mn mx:Int} (hb:zel mn mx=true):(0<=mn/\ mn<=16)/\ (mx= -1 \/1<=mx/\ mx<=16/\ mn<=mx):=by
 unfold zel at hb;simp only[Bool.and_eq_true,Bool.not_eq_true',Bool.or_eq_false_iff,Bool.or_eq_true,decide_eq_true_eq,decide_eq_false_iff_not,Bool.and_eq_false_iff] at hb;omega
theorem qob (s:List UInt8)(lo hi n:Int)(h:zno 1100 (123::s)=some (lo,hi,n,0)):zgm 1100 (123::s)=some (lo,hi,n,0):=by
 unfold zgm;rw[show(((123:UInt8)::s)==([]:List UInt8))=false from rfl,cond_false];refine zf (by simp only[length_cons];omega) (zj fun x hx=> ?_);have:x=123:=by rw[<-hx];rfl
 subst this;rw[show((((123:UInt8).toNat:Nat):Int)==42)=false from rfl,cond_false,show((((123:UInt8).toNat:Nat):Int)==43)=false from rfl,cond_false,show((((123:UInt8).toNat:Nat):Int)==63)=false from rfl,cond_false,show((((123:UInt8).toNat:Nat):Int)==123)=true from rfl,cond_true];exact zu _ h rfl
theorem cnt_rep {mn mx:Int} (hb:zel mn mx=true):qqr (qkh mn mx) mn mx:=by
 obtain⟨⟨b1,b2⟩,b3⟩:=z4o hb;intro b _ hbl;obtain⟨es,hes⟩: ∃es,es=(if mx= -1 then[] else zhc mx.toNat):=⟨_,rfl⟩;have e:qkh mn mx++b=123::(zhc mn.toNat++44::(es++125::b)):=by rw[qkh, <-hes];simp
 have el:((qkh mn mx).length:Int)=(((zhc mn.toNat).length+es.length+3:Nat):Int):=by rw[qkh, <-hes];simp only[length_append,length_cons,length_nil];omega
 have d44: ¬isD 44:=by rintro⟨h,_⟩;exact absurd h (by decide)
 have d125: ¬isD 125:=by rintro⟨_,h⟩;exact absurd h (by decide)
 have h1:=z8m mn.toNat (by omega) (44::(es++125::b)) (zzv d44);rw[Int.toNat_of_nonneg b1] at h1;have hesl:es.length<=2:=by rw[hes];split;simp;exact zkg _
 have hml:=zkg mn.toNat
 have hl:(zhc mn.toNat++es++b).length<2^40:=by simp only[length_append];omega
 rw[e,el];refine qob _ _ _ _ ?_;by_cases hm:mx= -1
 ·have he:es=[]:=by rw[hes,if_pos hm]
  subst he;exact z2v _ [] b mn 0 mx (zyp _) h1 (number0 (125::b) (zzv d125)) (by rw[if_pos rfl];exact hm) (by omega) (by omega) (by omega) (.inl hm) hl
 ·have he:es=zhc mx.toNat:=by rw[hes,if_neg hm]
  subst he;have h2:=z8m mx.toNat (by omega) (125::b) (zzv d125);rw[Int.toNat_of_nonneg (by omega)] at h2;exact z2v _ _ b mn mx mx (zyp _) h1 h2 (by rw[if_neg (zyp _)]) (by omega) (by omega) (by omega) (.inr (by omega)) hl
def z9d (x:Tr):List UInt8×Tr:=([40,63,58]++zds x++[41],x)
theorem zvc: ∀l:List Tr,zov l=zbl (l.map z9d)
 |[]=>by simp[zov,zbl]
 |x::l=>by rw[map_cons,zkq,zov,zvc l];simp[z9d]
theorem qfa: ∀l:List Tr,zla true l=zag (l.map fun x=>[z9d x])/\ zla false l=if l=[] then[] else 124::zag (l.map fun x=>[z9d x])
 |[]=>by simp[zla,zag]
 |[x]=>by simp[zla,zag,zbl,z9d]
 | x::y::l=>by
  obtain⟨h1,h2⟩:=qfa (y::l);rw[if_neg (by simp)] at h2;have e:zag ((x::y::l).map fun x=>[z9d x])=([40,63,58]++zds x++[41])++124::zag ((y::l).map fun x=>[z9d x]):=by
   simp only[map_cons];rw[zop];simp[zbl,z9d]
  have st: ∀b,zla b (x::y::l)=(if b=true then[] else[124])++[40,63,58]++zds x++[41]++zla false (y::l):=fun b=>by rw[zla]
  rw[e,st,st,h2];simp
theorem zxp (s:BS):z4s 0#256 ((zfm s).map fun c=>((c,none):It))=s:=by
 refine BitVec.eq_of_getLsbD_eq fun i hi=> ?_;rw[zzo];simp only[BitVec.getLsbD_zero,Bool.false_or];cases h:s.getLsbD i with
 | true=>
  refine List.any_eq_true.2 ⟨(i,none),mem_map.2 ⟨i,List.mem_filter.2 ⟨List.mem_range.2 hi,h⟩,rfl⟩,?_⟩;exact z6v i hi
 | false=>
  rw[List.any_eq_false];intro x hx;obtain⟨c,hc,rfl⟩:=mem_map.1 hx;obtain⟨hc1,hc2⟩:=List.mem_filter.1 hc;have hne:i≠c:=fun e=>by subst e;rw[h] at hc2;cases hc2
  show ¬(bit c).getLsbD i=true;unfold bit;simp[BitVec.getLsbD_shiftLeft];omega
theorem qng {s:BS} (h:s≠0#256):(zfm s).map (fun c=>((c,none):It))≠[]:=fun e=>by
 have:=zxp s;rw[e] at this;exact h this.symm
theorem qcn (s:BS):zkw ((zfm s).map fun c=>((c,none):It))=(zfm s).flatMap hexS:=by
 unfold zkw;rw[List.flatMap_map];rfl
theorem z5n {t:Tr} (h:zcq t=true)(hk:t.k=2):t=brT t.s/\ t.s≠0#256:=by
 obtain⟨k,s,mn,mx,l⟩:=t;simp only[Tr.k,Tr.s] at*;subst hk;rw[zck,ziy] at h;simp at h;obtain⟨⟨⟨h1,h2⟩,h3⟩,h4⟩:=h;subst h1 h2 h3;exact⟨rfl,h4⟩
theorem zup {t:Tr} (h:zcq t=true)(hk:t.k=5 \/t.k=6): ∃x,t.l=[x]:=by
 obtain⟨k,s,mn,mx,l⟩:=t;simp only[Tr.k,Tr.l] at*;have hl:l.length=1:=by
  rcases hk with rfl|rfl
  ·rw[zck] at h;simp at h;have:=h.2.1.1;omega
  ·rw[zck] at h;simp at h;have:=h.2;omega
 match l,hl with
 |[x],_=>exact⟨x,rfl⟩
theorem z4n {t:Tr} (h:t.k=3):zds t=zov t.l:=by
 obtain⟨k,s,mn,mx,l⟩:=t;simp only[Tr.k] at h;subst h;simp[zds,Tr.l]
theorem z3g {t:Tr} (h:t.k=4):zds t=zla true t.l:=by
 obtain⟨k,s,mn,mx,l⟩:=t;simp only[Tr.k] at h;subst h;simp[zds,Tr.l]
theorem qeb {t x:Tr} (h:t.k=5)(hx:t.l=[x]):zds t=[40,63,58]++zds x++[41]++qkh t.mn t.mx:=by
 obtain⟨k,s,mn,mx,l⟩:=t;simp only[Tr.k,Tr.l] at h hx;subst h hx;by_cases hm:mx= -1<;>simp[zds,qcy,qkh,Tr.mn,Tr.mx,hm]
theorem say_hd (t:Tr)(y:UInt8)(u:List UInt8)(h:zds t=y::u):y≠63:=by
 obtain⟨k,s,mn,mx,l⟩:=t;rw[zds] at h;split at h
 ·cases h;decide
 split at h
 ·cases l with
  |nil=>simp[zov] at h
  |cons x l=>rw[zov] at h;cases h;decide
 split at h
 ·cases l with
  |nil=>simp[zla] at h
  |cons x l=>rw[zla] at h;cases h;decide
 split at h
 ·cases h;decide
 split at h
 ·cases h;decide
 ·cases h
theorem qbx {t x:Tr} (h:zcq t=true)(hk:t.k=5)(hx:t.l=[x]):t= .mk 5 0#256 t.mn t.mx [x]:=by
 obtain⟨k,s,mn,mx,l⟩:=t;simp only[Tr.k,Tr.l,Tr.mn,Tr.mx] at*;subst hk hx;rw[zck,ziy] at h;simp at h;rw[h.1]
theorem zya {t:Tr} (h:zcq t=true)(hk:t.k=5):zel t.mn t.mx=true:=by
 obtain⟨k,s,mn,mx,l⟩:=t;simp only[Tr.k,Tr.mn,Tr.mx] at*;subst hk;rw[zck] at h;simp at h;exact h.2.1.2
theorem pcTr_nc (l:List Tr):zqs (l.map z9d)=l:=by simp[zqs,z9d,Function.comp_def]
theorem z8i: ∀(m:Nat) (t:Tr),(pre t).length<=m->(pre t).length<1000->CT t-> ∃A,zag A=zds t/\ zja A=zxs t/\ qqb m A
 | 0,t,h,_,_=>by
  have:0<(pre t).length:=by rw[zea];simp
  omega
 | m +1,t,h,hm,hc=>by
  have hr:=hc.right;have hpl:(pre t).length=1+(zbe t.l).length:=by rw[zea];simp;omega
  have hll:=z6r t.l;have sub: ∀x∈t.l,AtP (m+1) (z9d x).1 (z9d x).2/\ (∀c lo hi,qqr c lo hi->AtP (m+1) ([40,63,58]++zds x++[41]++c) (zfr x lo hi))/\ (∀c lo hi,qqr c lo hi->AtP (m+1) ([40]++zds x++[41]++c) (zfr (zgj x) lo hi)):=by
   intro x hx;have hcx:=hc.sub hx;have hlx:=zcn hx;obtain⟨A,a1,a2,a3⟩:=z8i m x (by omega) (by omega) hcx;have ex:orT (zja A)=x:=by rw[a2];exact qhl hcx
   have h1: ∀c lo hi,qqr c lo hi->AtP (m+1) ([40,63,58]++zds x++[41]++c) (zfr x lo hi):=fun c lo hi hcn=>by
    have:=at_nc m A c lo hi a3 hcn;rwa[a1,ex] at this
   refine⟨?_,h1,fun c lo hi hcn=> ?_⟩
   ·have:=h1 [] 1 1 zyw;rw[zuj hcx,append_nil] at this;exact this
   ·have:=at_gr m A c lo hi a3 (fun y u hy=> ?_) hcn
    ·rwa[a1,ex] at this
    ·rw[a1] at hy;exact say_hd x y u hy
  have hk:=z0g hr;by_cases h4:t.k=4
  ·obtain⟨q1,q2⟩:=zlk hr h4;refine⟨t.l.map fun x=>[z9d x],?_,?_,?_⟩
   ·rw[<-(qfa t.l).1,z3g h4]
   ·rw[zxs,if_pos h4,zja,List.map_map];refine(List.map_congr_left fun x hx=> ?_).trans (List.map_id t.l);show zsq [x]=x;exact qjs (hc.sub hx)
   ·refine⟨by intro e;rw[List.map_eq_nil_iff] at e;rw[e] at q1;simp at q1,?_,by rw[length_map];omega⟩;intro L hL;obtain⟨x,hx,rfl⟩:=mem_map.1 hL;refine⟨by simp,fun p hp=> ?_⟩;rw[mem_singleton] at hp;subst hp;exact(sub x hx).1
  ·have one: ∀L:Pcs,zbl L=zds t->zqs L=z3t t->L.length<1000->(∀p∈L,AtP (m+1) p.1 p.2)-> ∃A,zag A=zds t/\ zja A=zxs t/\ qqb (m+1) A:=fun L l1 l2 l3 l4=>by
    refine⟨[L],l1,?_,by simp,?_,by simp⟩
    ·rw[zxs,if_neg h4]
     show[zsq (zqs L)]=[t]
     rw[l2,seq_pcs hc]
    ·intro M hM;rw[mem_singleton] at hM;subst hM;exact⟨l3,l4⟩
   rcases hk with hk|hk|hk|hk|hk|hk
   ·refine one [] ?_ ?_ (by simp) (by simp)
    ·rw[qdx hr hk];simp[emptyT,zds,zbl]
    ·rw[z3t,if_pos hk];rfl
   ·obtain⟨e1,e2⟩:=z5n hr hk;have hb:=at_br (m+1) ((zfm t.s).map fun c=>((c,none):It)) [] 1 1 (qng e2) (by
     intro i hi;obtain⟨c,hc,rfl⟩:=mem_map.1 hi;exact List.mem_range.1 (List.mem_filter.1 hc).1) (by
     rw[length_map];exact Nat.lt_of_le_of_lt (List.length_filter_le _ _) (by simp)) zyw
    rw[zxp,qcn,append_nil,qem e2, <-e1] at hb;refine one [([91]++(zfm t.s).flatMap hexS++[93],t)] ?_ ?_ (by simp) (fun p hp=>by rw[mem_singleton] at hp;subst hp;exact hb)
    ·rw[show zds t=[91]++(zfm t.s).flatMap hexS++[93] by rw[e1];simp[brT,zds,Tr.s]];simp[zbl]
    ·rw[z3t,if_neg (by omega),if_neg (by omega)];rfl
   ·refine one (t.l.map z9d) ?_ ?_ (by rw[length_map];omega) ?_
    ·rw[<-zvc,z4n hk]
    ·rw[pcTr_nc,z3t,if_neg (by omega),if_pos hk]
    ·intro p hp;obtain⟨x,hx,rfl⟩:=mem_map.1 hp;exact(sub x hx).1
   ·exact absurd hk h4
   ·obtain⟨x,hx⟩:=zup hr (.inl hk);have hx':x∈t.l:=by rw[hx];simp
    have et:t= .mk 5 0#256 t.mn t.mx [x]:=qbx hr hk hx;have hb:zel t.mn t.mx=true:=zya hr hk;have h1:=(sub x hx').2.1 (qkh t.mn t.mx) t.mn t.mx (cnt_rep hb);rw[qos (by rw[<-et];exact hc), <-et] at h1;refine one [([40,63,58]++zds x++[41]++qkh t.mn t.mx,t)] ?_ ?_ (by simp) (fun p hp=>by rw[mem_singleton] at hp;subst hp;exact h1)
    ·rw[qeb hk hx];simp[zbl]
    ·rw[z3t,if_neg (by omega),if_neg (by omega)];rfl
   ·obtain⟨x,hx⟩:=zup hr (.inr hk);have hx':x∈t.l:=by rw[hx];simp
    have et:t= .mk 6 0#256 0 0 [x]:=by
     have:=zgz hr (by omega) (by omega);rwa[hk,hx] at this
    have h1:=(sub x hx').2.2 [] 1 1 zyw;rw[cap_one (by rw[<-et];exact hc), <-et,zuj hc,append_nil] at h1;refine one [([40]++zds x++[41],t)] ?_ ?_ (by simp) (fun p hp=>by rw[mem_singleton] at hp;subst hp;exact h1)
    ·rw[et];simp[zbl,zds,qcy]
    ·rw[z3t,if_neg (by omega),if_neg (by omega)];rfl
end Go.Ab
namespace Go.Ab
open Go Go.RowKit Go.Fwd
abbrev cutQ {τ α:Type} (R:τ->Prop)(Q:α->Prop)(o:τ ⊕ α):Prop:=match o with| .inl t=>R t| .inr y=>Q y
def Ok {α:Type} (Q:α->Prop)(x:Option α):Prop:= ∃r,x=some r/\ Q r
section
variable {α β τ ρ:Type} {Q:α->Prop}
theorem Ok.mono {R:α->Prop} {x:Option α} (h:Ok Q x)(hR: ∀r,Q r->R r):Ok R x:=by
 obtain⟨r,h1,h2⟩:=h;exact⟨r,h1,hR r h2⟩
theorem Ok.eq {x:Option α} {v:α} (h:Ok (fun r=>r=v) x):x=some v:=by
 obtain⟨r,h1,rfl⟩:=h;exact h1
end
end Go.Ab
namespace Go.Ab
open Go Go.RowKit Go.Fwd Go.Proofs
theorem z7u {fuel:Nat} (k:Nat)(a b:Tr)(hk:k=3 \/k=4)(hf:2<fuel)(h:(pre a).length<=2^30/\ (pre b).length<=2^30):ziz fuel (k:Int) a b=some (zff k a b):=by
 have la:=zio a;have lb:=zio b
 have l1:=zaw a.l;have l2:=zaw b.l
 have hlen: ∀i,(zfg k ([a,b].take i)).length<=2^31:=fun i=>by
  have:=zwf k [a,b] i;simp only[zbe,length_append,length_nil] at this;omega
 unfold ziz zff;refine zaj (zfg k [a,b]) ?_ ?_
 ·refine zii 2 (fun i=>(zfg k ([a,b].take i),(i:Int))) (by simp[zfg]) (fun i hi=> ?_) ?_ hf
  ·have hi2:i<[a,b].length:=hi;refine zdr (by simp only[length_cons,length_nil];simp;omega) ?_;refine zaj (zfg k ([a,b].take (i+1))) ?_ (zf (by simp only;omega) (by simp));have hs:=hlen i;rw[qco k [a,b] i hi2];refine zf (by simp only[length_cons,length_nil];omega) (zj fun x1 e1=> ?_);simp only at e1;rw[zgu hi2] at e1;subst e1;have hx:(pre [a,b][i]).length<=2^30:=by
    have:[a,b][i]∈[a,b]:=getElem_mem hi2;simp only[mem_cons,List.not_mem_nil,or_false] at this;rcases this with e|e<;>rw[e]<;>omega
   have hxl:=zio [a,b][i];have hxl2:=zaw [a,b][i].l
   cases h1:([a,b][i].k:Int)==k with
   |true=>exact zdr rfl (zf (by simp only;omega) rfl)
   | false=>
    refine zdh rfl ?_;rcases hk with rfl|rfl
    ·refine zdr rfl ?_;cases h2:([a,b][i].k:Int)==1 with
     |true=>exact zdr rfl (by simp[h2])
     |false=>exact zdh rfl (zf (by simp only[length_cons,length_nil];omega) (by simp[h2]))
    ·refine zdh rfl (zf (by simp only[length_cons,length_nil];omega) (by simp))
  ·exact zdh rfl rfl
 ·have hs:=hlen 2;have hs:(zfg k [a,b]).length<=2^31:=hs;unfold qdi;refine z7e (fun h0=>by rw[h0];rfl) fun h0=> ?_;rw[h0,cond_false];refine z7e (fun h1=> ?_) fun h1=> ?_
  ·rw[h1,cond_true];refine zf (by have:=eq_of_beq h1;omega) (zj fun x2 e2=> ?_);subst e2;have h1':(zfg k [a,b]).length=1:=by have:=eq_of_beq h1;omega
   match hj:zfg k [a,b],h1' with
   |[z],_=>rfl
  ·rw[h1,cond_false];exact zf (by omega) (by rw[Int.toNat_natCast])
theorem tm3 (n:Nat):tmod ((n:Nat):Int) 3=((n%3:Nat):Int):=rfl
theorem tm4 (n:Nat):tmod ((n:Nat):Int) 4=((n%4:Nat):Int):=rfl
theorem zzh {p:List Tr} {k:Nat} (h0:0<k)(h:k<=p.length):ix p ((p.length:Int)-(k:Int))=zfd p k:=by
 rw[show(p.length:Int)-(k:Int)=((p.length-k:Nat):Int) by omega,zgu (by omega),zjl h0 h]
theorem z7k {p:List Tr} {k:Nat} (h0:0<k)(h:k<=p.length):zfd p k∈p:=by rw[zjl h0 h];exact getElem_mem _
set_option maxRecDepth 10000 in
theorem made_eq {fuel:Nat} (l:List Sm)(hl:l.length<2^63)(hu: ∀x∈l,x.2.1<256)(hf:60<fuel):z8c fuel l=some (zta l):=by
 obtain⟨m,hm⟩: ∃m,l.take 25=m:=⟨_,rfl⟩;have hlen:m.length<=25:=by rw[<-hm,List.length_take];omega
 have hmu: ∀x∈m,x.2.1<256:=fun x hx=>hu x (List.mem_of_mem_take (hm▸hx));have hsub:sub l 0 (min (l.length:Int) 25)=m:=by
  rw[<-hm,sub,Int.toNat_zero,List.drop_zero];by_cases h:l.length<=25
  ·rw[List.take_of_length_le (by omega),List.take_of_length_le h]
  ·rw[show(min (l.length:Int) 25).toNat-0=25 by omega]
 have e25:MM m 25=MM m m.length:=by rw[MM,MM,List.take_of_length_le hlen,List.take_length]
 unfold z8c;simp only[hsub];rw[zta,hm,e25];have hI:=invM m;refine zaj (MM m m.length).1 ?_ ?_
 ·refine zf (by omega) ?_;refine zii m.length (fun i=>((MM m i).2.1,(MM m i).2.2,(i:Int),(MM m i).1)) (by simp[MM]) (fun i hi=> ?_) ?_ (by omega)
  ·refine zdr (by simpa using hi) ?_;refine zaj ((MM m (i+1)).2.1,(MM m (i+1)).2.2,(MM m (i+1)).1) ?_ (zf (by simp only;omega) (by simp));obtain⟨i1,i2,i3,i4,i5⟩:=hI i (by omega);rw[z7g m i hi];obtain⟨x,hx⟩: ∃x,x=m[i]:=⟨_,rfl⟩;rw[<-hx];have hxu:=hmu x (hx▸getElem_mem hi);generalize hst:MM m i=st at i1 i2 i3 i4 i5⊢
   obtain⟨p,u,g⟩:=st;dsimp only at i1 i2 i3 i4 i5⊢;obtain⟨T,hT⟩: ∃T,T=zte (p,u,g) x:=⟨_,rfl⟩;rw[<-hT];have hp:=zaw p;have hsz: ∀y∈p,(pre y).length<=2^30:=fun y hy=>by have:=zcn hy;omega
   refine zf (by omega) (zj fun x1 e1=> ?_);rw[zgu hi, <-hx] at e1;subst e1;have hu8:u<=16:=i5;unfold zte at hT;dsimp only at hT;have happ: ∀ {ρ:Type} (z:Tr) {q:Prop} {iq:Decidable q},(0<p.length->q)->(bif p.isEmpty then(chk (0<[z].length/\ [z].length*80<=140737488355328) (some (inl (u,g,[z])))) else(@chk _ q iq (some (inl (u,g,p++[z])))))=(some (inl (u,g,p++[z])):Option ((Int×Int×List Tr) ⊕ ρ)):=fun {ρ} z {q} {iq} hq=>
    z7e (fun he=>zf (by simp) (by rw[List.isEmpty_iff.1 he];rfl)) fun he=>zf (hq (zvq he)) rfl
   have hq1: ∀z:Tr,0<p.length->(True/\ 0<p.length/\ 0<[z].length/\ (p.length+[z].length)*80<=140737488355328):=fun z hz=>by simp only[length_cons,length_nil];exact⟨trivial,hz,by omega,by omega⟩
   cases c1:decide (kI x<4) with
   | true=>
    rw[c1,cond_true] at hT;subst hT;refine zdr c1 (zf (by omega) (zj fun x2 e2=> ?_));rw[Int.toNat_natCast] at e2;subst e2;refine zf (qhf x.2.1 hxu).1 (zj fun x3 e3=> ?_);rw[clsU_lb x.2.1 hxu] at e3;subst e3;exact happ _ (hq1 _)
   | false =>
    refine zdh c1 ?_;rw[c1,cond_false] at hT;cases c2:kI x==4 with
    | true=>
     rw[c2,cond_true] at hT;subst hT;exact zdr c2 (happ _ (hq1 _))
    | false =>
     refine zdh c2 ?_;rw[c2,cond_false] at hT;have hjoin: ∀ {ρ:Type} (k:Nat),k=3 \/k=4->(p.length:Int)>1->(bif p.isEmpty then(chk (-9223372036854775808<=((p.length:Int)-2)/\ ((p.length:Int)-2)<9223372036854775808) (chk (-9223372036854775808<=((p.length:Int)-2)/\ ((p.length:Int)-2)<9223372036854775808) none)) else(chk (-9223372036854775808<=((p.length:Int)-2)/\ ((p.length:Int)-2)<9223372036854775808) (chk (-9223372036854775808<=((p.length:Int)-2)/\ ((p.length:Int)-2)<9223372036854775808) (bif (((p.length:Int)-2)==0) then(chk (-9223372036854775808<=((p.length:Int)-2)/\ ((p.length:Int)-2)<9223372036854775808) (chk (0<=((p.length:Int)-2)/\ ((p.length:Int)-2)<((p.length:Nat):Int)) (chk (0<=((p.length:Int)-2)/\ ((p.length:Int)-2)<(p.length:Int)) (zay (ix p ((p.length:Int)-2)) (fun x4=>(chk (-9223372036854775808<=((p.length:Int)-1)/\ ((p.length:Int)-1)<9223372036854775808) (chk (0<=((p.length:Int)-1)/\ ((p.length:Int)-1)<((p.length:Nat):Int)) (chk (0<=((p.length:Int)-1)/\ ((p.length:Int)-1)<(p.length:Int)) (zay (ix p ((p.length:Int)-1)) (fun x5=>(zai (ziz fuel (k:Int) x4 x5) (fun x6=>(chk (0<[x6].length/\ [x6].length*80<=140737488355328) (some (inl (u,g,[x6])))))))))))))))) else(chk (0<((p.length:Int)-2)/\ ((p.length:Int)-2)<=((p.length:Nat):Int)) (chk (-9223372036854775808<=((p.length:Int)-2)/\ ((p.length:Int)-2)<9223372036854775808) (chk (0<=((p.length:Int)-2)/\ ((p.length:Int)-2)<((p.length:Nat):Int)) (chk (0<=((p.length:Int)-2)/\ ((p.length:Int)-2)<(p.length:Int)) (zay (ix p ((p.length:Int)-2)) (fun x7=>(chk (-9223372036854775808<=((p.length:Int)-1)/\ ((p.length:Int)-1)<9223372036854775808) (chk (0<=((p.length:Int)-1)/\ ((p.length:Int)-1)<((p.length:Nat):Int)) (chk (0<=((p.length:Int)-1)/\ ((p.length:Int)-1)<(p.length:Int)) (zay (ix p ((p.length:Int)-1)) (fun x8=>(zai (ziz fuel (k:Int) x7 x8) (fun x9=>(chk ((toNat ((p.length:Int)-2))<=p.length/\ 0<[x9].length/\ ((toNat ((p.length:Int)-2))+[x9].length)*80<=140737488355328) (some (inl (u,g,(List.take (toNat ((p.length:Int)-2)) p++[x9]))))))))))))))))))))))=(some (inl (u,g,p.take (p.length-2)++[zff k (zfd p 2) (zfd p 1)])):Option ((Int×Int×List Tr) ⊕ ρ)):=by
      intro ρ k hk hp2;have s2:=hsz _ (z7k (k:=2) (p:=p) (by omega) (by omega));have s1:=hsz _ (z7k (k:=1) (p:=p) (by omega) (by omega))
      have q2:=zzh (k:=2) (p:=p) (by omega) (by omega);have q1:=zzh (k:=1) (p:=p) (by omega) (by omega)
      have hj:=z7u (fuel:=fuel) k (zfd p 2) (zfd p 1) hk (by omega) ⟨s2,s1⟩;have hne:p.isEmpty=false:=by cases p with|nil=>simp at hp2|cons _ _=>rfl
      refine zdh hne (zf (by omega) (zf (by omega) (z7e (fun h0=> ?_) fun h0=> ?_)))
      ·refine zf (by omega) (zf (by omega) (zf (by omega) (zj fun x4 e4=>zf (by omega) (zf (by omega) (zf (by omega) (zj fun x5 e5=> ?_))))));rw[show((p.length:Int)-2)=(p.length:Int)-((2:Nat):Int) from rfl,q2] at e4;rw[show((p.length:Int)-1)=(p.length:Int)-((1:Nat):Int) from rfl,q1] at e5;subst e4 e5;refine zu _ hj (zf (by simp) ?_);have:=eq_of_beq h0;rw[show p.length-2=0 by omega];rfl
      ·have h0: ¬((p.length:Int)-2=0):=by simpa using h0
       refine zf (by omega) (zf (by omega) (zf (by omega) (zf (by omega) (zj fun x4 e4=>zf (by omega) (zf (by omega) (zf (by omega) (zj fun x5 e5=> ?_)))))));rw[show((p.length:Int)-2)=(p.length:Int)-((2:Nat):Int) from rfl,q2] at e4;rw[show((p.length:Int)-1)=(p.length:Int)-((1:Nat):Int) from rfl,q1] at e5;subst e4 e5;refine zu _ hj (zf (by simp only[length_cons,length_nil];omega) ?_);rw[show((p.length:Int)-2).toNat=p.length-2 by omega]
     have hA:cA p x=(bif decide (kI x<7) then decide ((p.length:Int)>1) else false):=by unfold cA;cases decide (kI x<7)<;>rfl
     refine zaj (cA p x) (by rw[hA];show(bif decide (kI x<7) then _ else _)=_;cases decide (kI x<7)<;>rfl) ?_;cases c3:cA p x with
     | true=>
      rw[c3,cond_true] at hT;subst hT;have h2:(p.length:Int)>1:=by rw[cA,Bool.and_eq_true] at c3;exact of_decide_eq_true c3.2
      exact zdr rfl (hjoin 3 (.inl rfl) h2)
     | false =>
      refine zdh rfl ?_;rw[c3,cond_false] at hT;have hB:cB p x=(bif decide (kI x<9) then decide ((p.length:Int)>1) else false):=by unfold cB;cases decide (kI x<9)<;>rfl
      refine zaj (cB p x) (by rw[hB];show(bif decide (kI x<9) then _ else _)=_;cases decide (kI x<9)<;>rfl) ?_;cases c4:cB p x with
      | true=>
       rw[c4,cond_true] at hT;subst hT;have h2:(p.length:Int)>1:=by rw[cB,Bool.and_eq_true] at c4;exact of_decide_eq_true c4.2
       exact zdr rfl (hjoin 4 (.inr rfl) h2)
      | false =>
       refine zdh rfl ?_;rw[c4,cond_false] at hT;have hC:cC p g x=(bif kI x==9 then(bif decide ((p.length:Int)>0) then decide (g<9) else false) else false):=by unfold cC;cases kI x==9<;>cases decide ((p.length:Int)>0)<;>rfl
       refine zaj (cC p g x) (by rw[hC];show(bif kI x==9 then _ else _)=_;cases kI x==9<;>cases decide ((p.length:Int)>0)<;>rfl) ?_;cases c5:cC p g x with
       | true=>
        rw[c5,cond_true] at hT;subst hT;have h3:(p.length:Int)>0/\ g<9:=by
         simp only[cC,Bool.and_eq_true,decide_eq_true_eq] at c5;exact⟨c5.1.2,c5.2⟩
        have hne:p.isEmpty=false:=by cases p with|nil=>simp at h3|cons _ _=>rfl
        have q1:=zzh (k:=1) (p:=p) (by omega) (by omega);refine zdr rfl (zdh hne (zf (by omega) (zf (by omega) (zf (by omega) (zf (by omega) (zj fun x4 e4=> ?_))))));rw[show((p.length:Int)-1)=(p.length:Int)-((1:Nat):Int) from rfl,q1] at e4;subst e4;refine zu _ rfl (zf (by omega) (zf (by omega) (zj fun x5 e5=>zf (by omega) ?_)));rw[show((p.length:Int)-1).toNat=p.length-1 by omega]
       | false=>
        refine zdh rfl ?_;rw[c5,cond_false] at hT;cases hpe:p.isEmpty with
        | true=>
         have hp0:p=[]:=List.isEmpty_iff.1 hpe;have hD:cD p x=false:=by rw[hp0];simp[cD]
         rw[hD,cond_false] at hT;subst hT;refine zdr rfl (zaj () ?_ rfl);subst hp0
         show(bif decide (kI x>9) then _ else _)=_
         cases decide (kI x>9)<;>rfl
        | false=>
         have hpos:=zvq hpe;have q1:=zzh (k:=1) (p:=p) (by omega) (by omega);have hD:cD p x=(bif decide (kI x>9) then(bif decide ((p.length:Int)>0) then(((zfd p 1).k:Int) !=1) else false) else false):=by unfold cD;cases decide (kI x>9)<;>cases decide ((p.length:Int)>0)<;>rfl
         refine zdh rfl (zaj (cD p x) ?_ ?_)
         ·rw [hD]
          show(bif decide (kI x>9) then _ else _)=_
          cases decide (kI x>9) with
          |false=>rfl
          | true=>
           cases decide ((p.length:Int)>0) with
           |false=>rfl
           | true=>
            refine zf (by omega) (zf (by omega) (zf (by omega) (zj fun x4 e4=> ?_)));rw[show((p.length:Int)-1)=(p.length:Int)-((1:Nat):Int) from rfl,q1] at e4;subst e4;rfl
         ·cases c6:cD p x with
          |false=>rw[c6,cond_false] at hT;subst hT;rfl
          | true=>
           rw[c6,cond_true] at hT;refine zdr rfl (zf (by rw[tm3];omega) (zf (by rw[tm4];omega) (zaj (moM x) ?_ ?_)))
           ·refine zaj (badM x) ?_ ?_
            ·unfold badM m4 loM
             show(bif decide (((x.2.2%4:Nat):Int)<((x.2.1%3:Nat):Int)) then _ else bif ((x.2.2%4:Nat):Int)==0 then _ else bif ((x.2.1%3:Nat):Int)==1 then some (inl (((x.2.2%4:Nat):Int)==1)) else _)=_
             cases decide (((x.2.2%4:Nat):Int)<((x.2.1%3:Nat):Int))<;>cases ((x.2.2%4:Nat):Int)==0<;>cases ((x.2.1%3:Nat):Int)==1<;>rfl
            ·unfold moM;cases badM x<;>rfl
           ·have ht:=qek x;have htm:max (max (tmod ((x.2.1:Nat):Int) 3) (moM x)) 1=tmM x:=rfl;have hmul:0<=u*tmM x/\ u*tmM x<=48:=by
             have h1:=Int.mul_le_mul (a:=u) (b:=tmM x) (c:=16) (d:=3) (by omega) (by omega) (by omega) (by omega);have h2:=Int.mul_nonneg (a:=u) (b:=tmM x) (by omega) (by omega);omega
            refine zf (by rw[htm];omega) ?_;cases c7:decide (u*tmM x<=16) with
            |false=>rw[c7,cond_false] at hT;subst hT;exact zdh c7 rfl
            | true=>
             rw[c7,cond_true] at hT;subst hT;refine zdr c7 (zf (by rw[htm];omega) (zf (by omega) (zf (by omega) (zf (by omega) (zf (by omega) (zj fun x4 e4=> ?_))))));rw[show((p.length:Int)-1)=(p.length:Int)-((1:Nat):Int) from rfl,q1] at e4;subst e4;refine zu _ rfl (zf (by omega) (zf (by omega) (zj fun x5 e5=> ?_)));rw[show((p.length:Int)-1).toNat=p.length-1 by omega];rfl
  ·exact zdh (by simp) rfl
 ·obtain⟨i1,i2,i3,i4,i5⟩:=hI m.length (Nat.le_refl _);generalize (MM m m.length).1=p at i1⊢
  have hp:=zaw p;have hsz: ∀y∈p,(pre y).length<=25:=fun y hy=>by have:=zcn hy;omega
  match p,hp,hsz,i1 with
  | [],_,_,_=>
   refine zlq (z8g [97]) ?_ rfl;refine zdr rfl (zdr rfl (zf (by decide) (zj fun x2 e2=> ?_)));subst e2;rfl
  | y ::q,hp,hsz,i1=>
   refine zaj () ?_ ?_
   ·refine zdh rfl (zdh (by simp;omega) rfl)
   ·refine zdh rfl (zf (by simp) (zf (by simp) (zj fun x25 e25=> ?_)));have e25:y=x25:=e25;subst e25;refine zaj (qqc (y::q)) ?_ rfl;by_cases hq:q=[]
    ·subst hq;refine zdr rfl (zf (by omega) ?_)
     match fuel,hf with
     |f+1,_=>rfl
    ·have hq1:0<q.length:=List.length_pos_iff.2 hq;refine zdh (by simp;omega) (zf (by simp;omega) ?_);have hend:=qln (p:=y::q) (by simp);simp only[length_cons] at hp i1 hend⊢;refine zii q.length (fun i=>((i:Int),qkg (y::q) i)) rfl (fun i hi=> ?_) ?_ (by omega)
     ·refine zdr (by simp;omega) (zf (by simp only;omega) (zf (by simp only;omega) (zj fun x26 e26=> ?_)));simp only at e26;have e26':(y::q)[i+1]'(by simp;omega)=x26:=by
       rw[<-e26,show(((toNat 1:Nat):Int)+(i:Int))=((i+1:Nat):Int) by simp;omega,zgu (by simp;omega)]
      have hacc:=qhm (p:=y::q) (by simp) i (by simp;omega);have htk:=zsg (y::q) (i+1);have hj:=z7u (fuel:=fuel) 4 (qkg (y::q) i) x26 (.inr rfl) (by omega) ⟨by omega,by rw[<-e26'];have:=hsz _ (getElem_mem (l:=y::q) (n:=i+1) (by simp;omega));omega⟩;refine zu _ hj (zf (by simp only;omega) ?_);rw[z3i (p:=y::q) (i:=i) (by simp;omega),e26'];rfl
     ·refine zdh (by simp) ?_;simp only[Nat.add_sub_cancel] at hend;rw[hend]
theorem k_made (l:List Sm)(h:l.length<2^63/\ ∀x∈l,x.2.1<256):Pure (ITP prog) prog 8 [.list l.length (Enc.cellsL l) .none] (.agg (Enc.cells (zta l))):=made_sh 61 l _ (made_eq l h.1 h.2 (by decide))
def zss (u:List UInt8):Prop:= ∀v z,u=v++[z]->z≠36/\ z≠92
theorem qcu (u:List UInt8)(z c:UInt8):Lib.hasSuffix (u++[z]) [c]=(c==z):=by
 unfold Lib.hasSuffix;simp[List.isSuffixOf,List.isPrefixOf]
theorem zra (u:List UInt8):u=[] \/ ∃v z,u=v++[z]:=by
 rcases List.eq_nil_or_concat u with h|⟨v,z,h⟩
 ·exact .inl h
 ·exact .inr ⟨v,z,by simpa using h⟩
theorem ends_no (u:List UInt8)(h:zss u)(hl:u.length<2^40):z3h u=some false:=by
 unfold z3h;have hs:Lib.hasSuffix u ([36]:List UInt8)=false:=by
  rcases zra u with rfl|⟨v,z,rfl⟩
  ·rfl
  ·rw[qcu];have:=(h v z rfl).1;rw[beq_eq_false_iff_ne];exact fun e=>this e.symm
 refine zf (by omega) (zj fun x hx=> ?_);have:x.2=false:=by rw[<-hx];exact hs
 rw[this,cond_false]
theorem bit_of (s:BS)(i:Nat)(hi:i<256):(zly .u64 (zga .u64 (wd s (i/64)) ((i%64:Nat):Int)) 1==1)=s.getLsbD i:=by
 rw[wd,z9k (W64 s (i/64)) (i%64) (Nat.mod_lt _ (by decide)),W64,BitVec.getLsbD_extractLsb'];rw[show 64*(i/64)+i%64=i by omega];simp[Nat.mod_lt]
theorem qnk (i:Nat)(hi:i<256):IntKind.u8.wrap ((i:Nat):Int)=((i:Nat):Int):=(zyg i hi).2.2
theorem z8v (c:Nat):(hexS c).length=4:=rfl
theorem zjo: ∀l:List Nat,(l.flatMap hexS).length=4*l.length
 |[]=>rfl
 |c::l=>by rw[List.flatMap_cons,length_append,z8v,zjo l,length_cons];omega
theorem z6a (s:BS)(i:Nat):(elN s i).length<=i:=Nat.le_trans (List.length_filter_le _ _) (by simp)
def sb1 (t:Tr):List UInt8×Int->Option ((List UInt8×Int) ⊕ (List UInt8 ⊕ (List UInt8 ⊕ List UInt8))):=
 (fun s1=>(bif (decide (s1.2<256)) then(zct (τ:=(List UInt8)) (chk (0<=(IntKind.i64.wrap (tdiv s1.2 64))/\ (IntKind.i64.wrap (tdiv s1.2 64))<4) (chk (0<=(tmod s1.2 64)) (bif ((zly .u64 (zga .u64 (wd t.s (toNat (IntKind.i64.wrap (tdiv s1.2 64)))) (tmod s1.2 64)) 1)==1) then(chk (0<=(IntKind.u8.wrap s1.2)/\ (IntKind.u8.wrap s1.2)<256) (zay (hexS (toNat (IntKind.u8.wrap s1.2))) (fun x1=>(chk (length s1.1+length x1<=9223372036854775807) (some (inl ((s1.1++x1)))))))) else(some (inl (s1.1)))))) (fun j3=>(chk (-9223372036854775808<=(s1.2+1)/\ (s1.2+1)<9223372036854775808) (some (inl (j3,(s1.2+1))))))) else(some (inr (inl (s1.1))))))
theorem qad (t:Tr): ∀(k i fuel:Nat),i+k=256->k<fuel->zav (sb1 t) fuel ((elN t.s i).flatMap hexS,((i:Nat):Int))=some (.inl ((zfm t.s).flatMap hexS))
 |_,_,0,_,h=>absurd h (Nat.not_lt_zero _)
 | 0,i,fuel+1,hi,hf=>by
  have:i=256:=by omega
  subst this;rw[zav];rfl
 | k +1,i,fuel+1,hi,hf=>by
  obtain⟨_,_,s3,s4,_,_⟩:=qbt i (by omega);have hl:=zjo (elN t.s i);have hl2:=z6a t.s i;have hb:sb1 t ((elN t.s i).flatMap hexS,((i:Nat):Int))=some (.inl ((elN t.s (i+1)).flatMap hexS,(((i+1:Nat)):Int))):=by
   unfold sb1;dsimp only;rw[show decide (((i:Nat):Int)<256)=true from decide_eq_true (by omega),cond_true];refine zaj ((elN t.s (i+1)).flatMap hexS) ?_ (zf (by omega) rfl);rw[s3,s4];refine zf (by omega) (zf (by omega) ?_);rw[Int.toNat_natCast,bit_of t.s i (by omega),z0j];cases h:t.s.getLsbD i with
   |false=>rw[cond_false];simp
   | true=>
    rw[cond_true,qnk i (by omega)];refine zf (by omega) (zj fun x hx=> ?_);rw[Int.toNat_natCast] at hx;subst hx;refine zf (by rw[hl,z8v];omega) ?_;simp
  rw[zav,hb];exact qad t k (i+1) fuel (by omega) (by omega)
theorem zyu (a b:List Tr):zov (a++b)=zov a++zov b:=by rw[zvc,zvc,zvc];simp[zbl]
theorem z2w (x:Tr): ∀(l:List Tr) (c:Bool),zla c (l++[x])=zla c l++(if l=[] then(if c=true then[] else[124]) else[124])++([40,63,58]++zds x++[41])
 |[],c=>by simp[zla]
 | y::l,c=>by
  have st: ∀(c:Bool) (y:Tr) (l:List Tr),zla c (y::l)=(if c=true then[] else[124])++[40,63,58]++zds y++[41]++zla false l:=fun c y l=>by rw[zla]
  rw[cons_append,st,st c y l,z2w x l false,if_neg (List.cons_ne_nil y l)];have e:(if l=[] then(if false=true then[] else[124]) else[124]:List UInt8)=[124]:=by cases l<;>rfl
  rw[e];simp
theorem qeq {t x:Tr} (h:x∈t.l)(hs:SY t)(hk:t.k=3 \/t.k=4 \/t.k=5 \/t.k=6)(h1:t.k=5 \/t.k=6->t.l=[x]):(zds x).length<(zds t).length:=by
 obtain⟨k,s,mn,mx,l⟩:=t;simp only[Tr.k,Tr.l] at*;rcases hk with rfl|rfl|rfl|rfl
 ·obtain⟨a,b,rfl⟩:=List.append_of_mem h;rw[show zds (.mk 3 s mn mx (a++x::b))=zov (a++x::b) by simp[zds],zyu,zov];simp only[length_append,length_cons,length_nil];omega
 ·obtain⟨a,b,rfl⟩:=List.append_of_mem h;rw[show zds (.mk 4 s mn mx (a++x::b))=zla true (a++x::b) by simp[zds]];have: ∀(a:List Tr) (c:Bool),(zds x).length<(zla c (a++x::b)).length:=by
   intro a;induction a with
   |nil=>intro c;rw[List.nil_append,zla];simp only[length_append,length_cons,length_nil];omega
   |cons y a ih=>intro c;rw[cons_append,zla];have:=ih false;simp only[length_append] at*;omega
  exact this a true
 ·rw[h1 (.inl rfl)];by_cases hm:mx= -1<;>simp[zds,qcy,hm]<;>omega
 ·rw[h1 (.inr rfl)];simp[zds,qcy];omega
theorem zuv {x y:Tr}: ∀ {l:List Tr},x∈l->y∈pre x->y∈zbe l
 | z::l,h,hy=>by
  rw[zbe,List.mem_append];rcases mem_cons.1 h with rfl|h
  ·exact .inl hy
  ·exact .inr (zuv h hy)
theorem qgp {t x:Tr} (h:x∈t.l)(hs:SY t)(hl:(zds x).length<=(zds t).length):SY x:=by
 refine⟨fun y hy=>hs.1 y ?_,Nat.le_trans hl hs.2⟩;rw[zea];exact List.mem_cons_of_mem _ (zuv h hy)
def sb2 (n:Nat)(t:Tr):List UInt8×Int->Option ((List UInt8×Int) ⊕ (List UInt8 ⊕ List UInt8)):=
 (fun s2=>(bif (decide (s2.2<(length t.l:Int))) then(chk (0<=s2.2/\ s2.2<(length t.l:Int)) (zay (ix t.l s2.2) (fun x2=>(chk ((pre x2).length<n/\ SY x2) (zay (zds x2) (fun x3=>(chk (length ([40,63,58]:List UInt8)+length x3<=9223372036854775807) (chk (length (([40,63,58]:List UInt8)++x3)+length ([41]:List UInt8)<=9223372036854775807) (chk (length s2.1+length ((([40,63,58]:List UInt8)++x3)++([41]:List UInt8))<=9223372036854775807) (chk (-9223372036854775808<=(s2.2+1)/\ (s2.2+1)<9223372036854775808) (some (inl ((s2.1++((([40,63,58]:List UInt8)++x3)++([41]:List UInt8))),(s2.2+1)))))))))))))) else(some (inr (inl (s2.1))))))
def sb3 (n:Nat)(t:Tr):List UInt8×Int->Option ((List UInt8×Int) ⊕ (List UInt8 ⊕ List UInt8)):=
 (fun s3=>(bif (decide (s3.2<(length t.l:Int))) then(chk (0<=s3.2/\ s3.2<(length t.l:Int)) (zay (ix t.l s3.2) (fun x4=>(zct (τ:=(List UInt8)) (bif (decide (s3.2>0)) then(chk (length s3.1+length ([124]:List UInt8)<=9223372036854775807) (some (inl ((s3.1++([124]:List UInt8)))))) else(some (inl (s3.1)))) (fun j4=>(chk ((pre x4).length<n/\ SY x4) (zay (zds x4) (fun x5=>(chk (length ([40,63,58]:List UInt8)+length x5<=9223372036854775807) (chk (length (([40,63,58]:List UInt8)++x5)+length ([41]:List UInt8)<=9223372036854775807) (chk (length j4+length ((([40,63,58]:List UInt8)++x5)++([41]:List UInt8))<=9223372036854775807) (chk (-9223372036854775808<=(s3.2+1)/\ (s3.2+1)<9223372036854775808) (some (inl ((j4++((([40,63,58]:List UInt8)++x5)++([41]:List UInt8))),(s3.2+1)))))))))))))))) else(some (inr (inl (s3.1))))))
theorem z9e (n:Nat)(t:Tr)(hk: ∀x∈t.l,(pre x).length<n/\ SY x)(hll:t.l.length<=2^40)(hlen:(zov t.l).length<=2^40): ∀(k i fuel:Nat),i+k=t.l.length->k<fuel->zav (sb2 n t) fuel (zov (t.l.take i),((i:Nat):Int))=some (.inl (zov t.l))
 |_,_,0,_,h=>absurd h (Nat.not_lt_zero _)
 | 0,i,fuel+1,hi,hf=>by
  have:i=t.l.length:=by omega
  subst this;rw[zav];have:sb2 n t (zov (t.l.take t.l.length),((t.l.length:Nat):Int))=some (.inr (.inl (zov t.l))):=by
   unfold sb2;dsimp only;rw[show decide (((t.l.length:Nat):Int)<(length t.l:Int))=false by simp,cond_false,List.take_length]
  rw[this]
 | k+1,i,fuel+1,hi,hf=>by
  have hil:i<t.l.length:=by omega
  have hx:=hk t.l[i] (getElem_mem hil);have e1:t.l.take (i+1)=t.l.take i++[t.l[i]]:=by rw[List.take_add_one,List.getElem?_eq_getElem hil];rfl
  have e2:zov (t.l.take (i+1))=zov (t.l.take i)++([40,63,58]++zds t.l[i]++[41]):=by rw[e1,zyu];simp[zov]
  have e3:(zov (t.l.take (i+1))).length<=2^40:=by
   have:zov t.l=zov (t.l.take (i+1))++zov (t.l.drop (i+1)):=by rw[<-zyu,List.take_append_drop]
   rw[this,length_append] at hlen;omega
  rw[e2] at e3;simp only[length_append,length_cons,length_nil] at e3;have hb:sb2 n t (zov (t.l.take i),((i:Nat):Int))=some (.inl (zov (t.l.take (i+1)),(((i+1:Nat)):Int))):=by
   unfold sb2;dsimp only;rw[show decide (((i:Nat):Int)<(length t.l:Int))=true from decide_eq_true (by omega),cond_true];refine zf (by omega) (zj fun x hx'=> ?_);rw[zus hil] at hx';subst hx';refine zf hx (zj fun x hx'=> ?_);subst hx';refine zf (by simp only[length_cons,length_nil];omega) (zf (by simp only[length_append,length_cons,length_nil];omega) (zf (by simp only[length_append,length_cons,length_nil];omega) (zf (by omega) ?_)));rw[e2];rfl
  rw[zav,hb];exact z9e n t hk hll hlen k (i+1) fuel (by omega) (by omega)
theorem qef (c:Bool): ∀(a b:List Tr),(zla c a).length<=(zla c (a++b)).length
 |[],b=>by simp[zla]
 | x::a,b=>by
  rw[cons_append,zla,zla];have:=qef false a b;simp only[length_append];omega
theorem qaa (n:Nat)(t:Tr)(hk: ∀x∈t.l,(pre x).length<n/\ SY x)(hll:t.l.length<=2^40)(hlen:(zla true t.l).length<=2^40): ∀(k i fuel:Nat),i+k=t.l.length->k<fuel->zav (sb3 n t) fuel (zla true (t.l.take i),((i:Nat):Int))=some (.inl (zla true t.l))
 |_,_,0,_,h=>absurd h (Nat.not_lt_zero _)
 | 0,i,fuel+1,hi,hf=>by
  have:i=t.l.length:=by omega
  subst this;rw[zav];have:sb3 n t (zla true (t.l.take t.l.length),((t.l.length:Nat):Int))=some (.inr (.inl (zla true t.l))):=by
   unfold sb3;dsimp only;rw[show decide (((t.l.length:Nat):Int)<(length t.l:Int))=false by simp,cond_false,List.take_length]
  rw[this]
 | k +1,i,fuel+1,hi,hf=>by
  have hil:i<t.l.length:=by omega
  have hx:=hk t.l[i] (getElem_mem hil);have e1:t.l.take (i+1)=t.l.take i++[t.l[i]]:=by rw[List.take_add_one,List.getElem?_eq_getElem hil];rfl
  have e2:=z2w t.l[i] (t.l.take i) true;rw[<-e1] at e2;have e4:(if t.l.take i=[] then(if true=true then[] else[124]) else[124]:List UInt8)=(if i=0 then[] else[124]):=by
   by_cases h0:i=0
   ·subst h0;simp
   ·rw[if_neg h0,if_neg];intro e;rcases List.take_eq_nil_iff.1 e with e|e
    ·exact h0 e
    ·rw[e] at hil;exact absurd hil (Nat.not_lt_zero _)
  rw[e4] at e2;have e3:(zla true (t.l.take (i+1))).length<=2^40:=by
   have:=qef true (t.l.take (i+1)) (t.l.drop (i+1));rw[List.take_append_drop] at this;omega
  rw[e2] at e3;simp only[length_append,length_cons,length_nil] at e3;have hb:sb3 n t (zla true (t.l.take i),((i:Nat):Int))=some (.inl (zla true (t.l.take (i+1)),(((i+1:Nat)):Int))):=by
   unfold sb3;dsimp only;rw[show decide (((i:Nat):Int)<(length t.l:Int))=true from decide_eq_true (by omega),cond_true];refine zf (by omega) (zj fun x hx'=> ?_);rw[zus hil] at hx';subst hx';refine zaj (zla true (t.l.take i)++(if i=0 then[] else[124])) ?_ ?_
   ·by_cases h0:i=0
    ·rw[if_pos h0,show decide (((i:Nat):Int)>0)=false from decide_eq_false (by omega),cond_false];simp
    ·rw[if_neg h0,show decide (((i:Nat):Int)>0)=true from decide_eq_true (by omega),cond_true];exact zf (by simp only[length_cons,length_nil];omega) rfl
   refine zf hx (zj fun x hx'=> ?_);subst hx';refine zf (by simp only[length_cons,length_nil];omega) (zf (by simp only[length_append,length_cons,length_nil];omega) (zf (by simp only[length_append,length_cons,length_nil];omega) (zf (by omega) ?_)));rw[e2];rfl
  rw[zav,hb];exact qaa n t hk hll hlen k (i+1) fuel (by omega) (by omega)
theorem sy_head {t x:Tr} {l:List Tr} (hl:t.l=x::l)(hk:t.k=5 \/t.k=6):(zds x).length<=(zds t).length:=by
 obtain⟨k,s,mn,mx,l'⟩:=t;simp only[Tr.k,Tr.l] at*;subst hl;rcases hk with rfl|rfl
 ·by_cases hm:mx= -1<;>simp[zds,qcy,hm]<;>omega
 ·simp[zds,qcy];omega
theorem say_eq (t:Tr)(hs:SY t)(hpl:(pre t).length<2^40):z7s (300+t.l.length) (pre t).length t=some (zds t):=by
 have hself:t∈pre t:=by rw[zea];simp
 have hlt: ∀x∈t.l,(pre x).length<(pre t).length:=fun x hx=>by
  have h1:=zcn hx;have h2:=zio t;omega
 have hll:t.l.length<=2^40:=by have:=zmw t;omega
 have hl40:=hs.2;unfold z7s;by_cases h2:t.k=2
 ·rw[show(((t.k:Nat):Int)==2)=true by rw[h2];rfl,cond_true];have es:zds t=[91]++(zfm t.s).flatMap hexS++[93]:=by
   obtain⟨k,s,mn,mx,l⟩:=t;simp only[Tr.k] at h2;subst h2;simp[zds,Tr.s]
  have hl:=zjo (zfm t.s);have hl2:(zfm t.s).length<=256:=z6a t.s 256;refine zlq (zds t) ?_ rfl;refine zaj ((zfm t.s).flatMap hexS) (qad t 256 0 (300+t.l.length) (by omega) (by omega)) ?_;refine zf (by simp only[length_cons,length_nil];omega) (zf (by simp only[length_append,length_cons,length_nil];omega) ?_);rw[es]
 rw[show(((t.k:Nat):Int)==2)=false from kbf h2,cond_false];by_cases h3:t.k=3
 ·rw[show(((t.k:Nat):Int)==3)=true by rw[h3];rfl,cond_true];have es:=z4n h3;refine zaj (zds t) ?_ rfl;rw[es];refine z9e (pre t).length t (fun x hx=>⟨hlt x hx,qgp hx hs (Nat.le_of_lt (qeq hx hs (.inl h3) fun h=>by omega))⟩) hll (by rw[<-es];exact hl40) t.l.length 0 (300+t.l.length) (by omega) (by omega)
 rw[show(((t.k:Nat):Int)==3)=false from kbf h3,cond_false];by_cases h4:t.k=4
 ·rw[show(((t.k:Nat):Int)==4)=true by rw[h4];rfl,cond_true];have es:=z3g h4;refine zaj (zds t) ?_ rfl;rw[es];refine qaa (pre t).length t (fun x hx=>⟨hlt x hx,qgp hx hs (Nat.le_of_lt (qeq hx hs (.inr (.inl h4)) fun h=>by omega))⟩) hll (by rw[<-es];exact hl40) t.l.length 0 (300+t.l.length) (by omega) (by omega)
 rw[show(((t.k:Nat):Int)==4)=false from kbf h4,cond_false];have kid:t.k=5 \/t.k=6-> ∃x l,t.l=x::l/\ ((pre x).length<(pre t).length/\ SY x)/\ (zds x).length<=2^40:=fun hk=>by
  have hne:=(hs.1 t hself).2 hk;obtain⟨x,l,hx⟩:=List.exists_cons_of_ne_nil hne;have hm:x∈t.l:=by rw[hx];simp
  have hh:=sy_head hx hk;exact⟨x,l,hx,⟨hlt x hm,qgp hm hs hh⟩,by omega⟩
 by_cases h6:t.k=6
 ·rw[show(((t.k:Nat):Int)==6)=true by rw[h6];rfl,cond_true];obtain⟨x,l,hx,hk,hxl⟩:=kid (.inr h6);have es:zds t=[40]++zds x++[41]:=by
   obtain⟨k,s,mn,mx,l'⟩:=t;simp only[Tr.k,Tr.l] at h6 hx;subst h6 hx;simp[zds,qcy]
  refine zlq (zds t) ?_ rfl;refine zf (by rw[hx];simp only[length_cons];omega) (zj fun y hy=> ?_);have:y=x:=by rw[<-hy,hx];rfl
  subst this;refine zf hk (zj fun z hz=> ?_);subst hz;refine zf (by simp only[length_cons,length_nil];omega) (zf (by simp only[length_append,length_cons,length_nil];omega) ?_);rw[es]
 rw[show(((t.k:Nat):Int)==6)=false from kbf h6,cond_false];by_cases h5:t.k=5
 ·rw [show(((t.k:Nat):Int)==5)=true by rw[h5];rfl,cond_true];obtain⟨x,l,hx,hk,hxl⟩:=kid (.inl h5);obtain⟨b1,b2⟩:=(hs.1 t hself).1 h5;have hm1:=zkg t.mn.toNat
  have hm2:=zkg t.mx.toNat
  have es:zds t=[40,63,58]++zds x++[41,123]++zhc t.mn.toNat++[44]++(if t.mx= -1 then[] else zhc t.mx.toNat)++[125]:=by
   obtain⟨k,s,mn,mx,l'⟩:=t;simp only[Tr.k,Tr.l] at h5 hx;subst h5 hx;by_cases hm:mx= -1<;>simp[zds,qcy,Tr.mn,Tr.mx,hm]
  refine zlq (zds t) ?_ rfl;refine zf (by rw[hx];simp only[length_cons];omega) (zj fun y hy=> ?_);have:y=x:=by rw[<-hy,hx];rfl
  subst this;refine zf hk (zj fun z hz=> ?_);subst hz;refine zf (by simp only[length_cons,length_nil];omega) (zf (by simp only[length_append,length_cons,length_nil];omega) (zf b1 (zj fun z hz=> ?_)));subst hz;refine zf (by simp only[length_append,length_cons,length_nil];omega) (zf (by simp only[length_append,length_cons,length_nil];omega) ?_);refine zaj ([40,63,58]++zds y++[41,123]++zhc t.mn.toNat++[44]++(if t.mx= -1 then[] else zhc t.mx.toNat)) ?_ ?_
  ·by_cases hm:t.mx= -1
   ·rw[show(t.mx != -1)=false by rw[hm];rfl,cond_false,if_pos hm,append_nil]
   ·rw[show(t.mx != -1)=true by simpa using hm,cond_true,if_neg hm];refine zf (by omega) (zj fun z hz=> ?_);subst hz;exact zf (by simp only[length_append,length_cons,length_nil];omega) rfl
  ·have hq:(if t.mx= -1 then[] else zhc t.mx.toNat).length<=2:=by split;simp;exact hm2
   refine zf (by simp only[length_append,length_cons,length_nil];omega) ?_;rw[es]
 rw[show(((t.k:Nat):Int)==5)=false from kbf h5,cond_false];have es:zds t=[]:=by
  obtain⟨k,s,mn,mx,l'⟩:=t;simp only[Tr.k] at*;simp[zds,h2,h3,h4,h5,h6]
 exact zaj [] rfl (by rw[es])
theorem z1o: ∀(n:Nat) (t:Tr),(pre t).length<=n->(pre t).length<2^40/\ SY t->Pure (ITP prog) prog 10 [.agg (Enc.cells t)] (.raw (.string (bs (zds t))))
 | 0,t,h,_=>by
  have:0<(pre t).length:=by rw[zea];simp
  omega
 |n+1,t,h,hs=>say1_sh (300+t.l.length) (pre t).length t (zds t) (fun x hx=>z1o n x (by have:=hx.1;omega) ⟨by have:=hx.1;omega,hx.2⟩) (say_eq t hs.2 hs.1)
theorem k_say (t:Tr)(h:(pre t).length<2^40/\ SY t):Pure (ITP prog) prog 10 [.agg (Enc.cells t)] (.raw (.string (bs (zds t)))):=z1o _ t (Nat.le_refl _) h
section
variable {H:Bool} {P:Program} {Ω:CallP} {Ψ:CallS}
def preW (run:Run)(n:Nat)(ms:List Bool)(c:Code)(S:List AV)(U:St):Option (List AV×St):=match qgb run n c S U with
 |some (S1,U1)=>some (fgM ms S1,U1)
 |none=>none
theorem w_preW (hG:Good P Ω Ψ) {k k0:Nat} {Q:AQ} {S S':List AV} {U U':St} {ms:List Bool} (n:Nat)(c:Code)(h:preW (evQ H P Ω Ψ k) (n+1) ms c S U=some (S',U'))(hk:awp (ITP P) P none k0 (sufC (n+1) c) Q S' U'):awp (ITP P) P none k0 c Q S U:=by
 unfold preW at h;split at h
 ·rename_i S1 U1 h1;cases h;exact w_pre hG n c S U _ _ h1 (zpj ms rfl rfl) hk
 ·cases h
end
def awM0:List Bool:=[true,true,true,true,true,false,false,false,false,false,false,false,false,false,false,false,false,false,false,false,false,false,false,false,false,false,false,false,false,false,false,false,false,false,false,false,false,false,false,false,false,false,false,false,false,false,false,false,false,false,false,false,false,false,false,false,false,false,false,false,false,false,false,false,false,false,false,false,false,false,false,false,false,false,false,false,false,false,false,false,false,false,false,false,false,false,false,false,false,false,false,false,false,false,false,false,false,false,false,false,false,false,false,false,false,false,false,false,false,false,false,false,false,false,false,false,false,false,false,false,false,false,false,false,false,false,false,false,false,false,false,false,false,false,false,false,false,false,false,false,false,false,false,false,false,false,false]
def awM3:List Bool:=[true,true,true,true,true,true,true,true,true,true,true,true,true,true,true,true,true,true,true,true,true,true,true,true,true,true,true,true,true,true,true,true,true,true,true,true,true,true,true,true,true,true,true,true,true,true,true,true,true,true,true,true,true,true,true,true,true,true,true,true,true,true,true,true,true,true,true,true,false,true,true,true,true,true,true,true,true,true,true,true,true,true,true,true,true,true,true,true,true,true,true,true,true,true,true,true,true,true,true,true,true,true,true,true,true,true,true,true,true,true,true,true,true,true,true,true,true,true,true,true,true,true,true,true,true,true,true,true,true,true,true,true,true,true,true,true,true,true,true,true,true,true,true,true,true,true,true]
theorem ent7:Ent prog 7:=enters_of Tryz.func7 (by kernel_rfl) rfl
theorem qau:Pure (ITP prog) prog 7 [] (.raw (.bool true)):=by
 obtain⟨d,hd⟩: ∃d,Tryz.f7.body=some d:=⟨_,rfl⟩;refine zjx mix Tryz.func7 hd ent7 ?_;cases hd;refine w_preW (H:=true) (S':=awS) (U':=awσ) (ms:=awM0) (k:=300) qbs 5 _ (by kernel_rfl) ?_;show awp (ITP prog) prog none 0 (.seq _ _) _ _ _;refine qok awS awσ (qjm mix awM (sg:=sgL awσ []) (SL:=awSL) (E:=awE) (it:=68) (d69:=69) (d70:=70) (d71:=71) (ri:=38) awMs (fun hF=>aw_map rfl hF) (by kernel_rfl) (by kernel_rfl) (by kernel_rfl) (by kernel_rfl) (by kernel_rfl) rfl (fun r=>by kernel_rfl) ⟨rfl,rfl,rfl⟩ ⟨rfl,rfl,rfl⟩ ⟨rfl,rfl,rfl⟩ rfl (fun r=>by kernel_rfl) (fun r=>by kernel_rfl) ⟨by decide,by decide,by decide,by decide,Nat.le_of_ble_eq_true rfl,Nat.le_of_ble_eq_true rfl,Nat.le_of_ble_eq_true rfl,Nat.le_of_ble_eq_true rfl⟩ (fun r=>by kernel_rfl) (fun r=>by kernel_rfl) (by kernel_rfl) ?_ (fun r=>(show fgM awM3 (awSL r)=awS by kernel_rfl)▸zqb awM3 (awSL r))) ?_
 ·intro r q hq;simp only[awM,mem_cons,List.not_mem_nil,or_false] at hq;rcases hq with rfl|rfl|rfl|rfl|rfl|rfl
  ·exact znh (H:=true) (k:=300) (ms:=awM2) (zjk zoi) (by kernel_rfl)
  ·exact znh (H:=true) (k:=300) (ms:=awM2) (zjk zoi) (by kernel_rfl)
  ·exact znh (H:=true) (k:=300) (ms:=awM2) (zjk zoi) (by kernel_rfl)
  ·exact znh (H:=true) (k:=300) (ms:=awM2) (zjk zoi) (by kernel_rfl)
  ·exact znh (H:=true) (k:=300) (ms:=awM2) (zjk zoi) (by kernel_rfl)
  ·exact znh (H:=true) (k:=300) (ms:=awM2) (zjk zoi) (by kernel_rfl)
 ·exact w_tail (H:=true) (k:=300) (zjk zoi) (by kernel_rfl)
end Go.Ab
namespace Go.Ab
open Go Go.RowKit Go.Fwd Go.Proofs
def qfy (fuel:Nat)(l:(List Tr)):Option Bool:=
 (zct (τ:=Int) (zav (β:=Int×Int) (fun s1=>(bif (decide (s1.2<(length l:Int))) then(chk (0<=s1.2/\ s1.2<(length l:Int)) (zay (ix l s1.2) (fun x1=>(chk ((pre x1).length<2^40/\ SY x1) (zay (zds x1) (fun x2=>(chk (-9223372036854775808<=(s1.1+(length x2:Int))/\ (s1.1+(length x2:Int))<9223372036854775808) (chk (-9223372036854775808<=(s1.2+1)/\ (s1.2+1)<9223372036854775808) (some (inl ((s1.1+(length x2:Int)),(s1.2+1)))))))))))) else(some (inr (inl (s1.1)))))) fuel (0,0)) (fun j1=>(some (decide (j1<900)))))
theorem ent9:Ent prog 9:=enters_of Tryz.func9 (by kernel_rfl) rfl
theorem few_sh (fuel:Nat)(l:(List Tr))(r:Bool)(h:qfy fuel l=some r):Pure (ITP prog) prog 9 [.L (l:List Tr)] (.raw (.bool r)):=by
 unfold qfy at h;refine zbg 19 mix Tryz.func9 ent9 ?_;refine zae [.v (.b false)] ?_;refine zae [.v (.i 0)] ?_;refine zal h (bz 0 20 1048575) (fun j1=>[(3,.i j1)]) (fun j1=>(.B [])) ?_ ?_;intro or1 h hr1;refine zae [.m _,.v (.i (length l:Int)),.v (.i 0)] ?_;refine zt ?_;refine zcf h (bz 0 20 1048383) (fun s1=>[(3,.i s1.1),(8,.i s1.2)]) (fun s1=>(.B [])) ?_ ?_;exact zaz (bl 20 456);intro s1 p1 h;refine zdf ?_;refine zae [.v (.b (decide (s1.2<(length l:Int))))] ?_;refine zi ?_;refine zbr h (fun hc1 h=> ?_) (fun hc1 h=> ?_);refine zi ?_;refine zt ?_;refine zi (zb ?_);obtain⟨g1,h⟩:=ze h;obtain⟨x1,hx1,h⟩:=zh h;refine z4t hx1 g1 ?_;refine w_o (a:= .A (x1:Tr)) ?_;refine zda zN ?_;refine zeq 8 (Enc.cells (x1:Tr)) ?_;refine zb (k0:=0) (id:=5) ?_;refine w_r [.m _,.v (.A (x1:Tr))] ?_;obtain⟨g2,h⟩:=ze h;obtain⟨x2,hx2,h⟩:=zh h;refine zcp (args':=[.A (x1:Tr)]) (r:= .s x2) (by rw[<-hx2];exact(k_say x1 g2)) ?_;refine w_o (a:= .i (length x2:Int)) (h:=zba (zeu rfl rfl rfl)) ?_;obtain⟨g3,h⟩:=ze h;refine zhd g3 ?_;refine zao ?_;refine zb (k0:=0) (id:=6) ?_;obtain⟨g4,h⟩:=ze h;refine zhd g4 ?_;refine zao ?_;refine zbb (p:=p1) ((s1.1+(length x2:Int)),(s1.2+1)) h ?_;exact zdj (bl 20 456) 0 (by kernel_rfl) (Nat.le_of_ble_eq_true rfl) (zbs rfl) (by dsimp only[zau,zbo,List.foldl,List.set,bz,bzc,Nat.reduceMod,Nat.reduceDiv,Nat.reduceBEq,Nat.reduceAdd];exact(za rfl (za rfl (za rfl (za rfl (za rfl (za rfl (za (zbj (Enc.cloL _)) (by kernel_rfl))))))))) (by kernel_rfl);refine zy h (fun h=> ?_);refine zc (o:=or1) (s1.1) h ?_;exact zaz (bl 20 8);intro j1 h;refine zdf ?_;refine zae [.m _,.v (.b (decide (j1<900))),.m _] ?_;exact zbc h
theorem z8a: ∀l:List Tr,(∀x∈l,(zds x).length+20<=1100*(pre x).length)->(zov l).length<=1100*(zbe l).length
 |[],_=>by simp[zov]
 | x::l,h=>by
  have h1:=h x (by simp);have h2:=z8a l fun y hy=>h y (by simp[hy]);simp only[zov,zbe,length_append,length_cons,length_nil];omega
theorem z8l: ∀(l:List Tr) (c:Bool),(∀x∈l,(zds x).length+20<=1100*(pre x).length)->(zla c l).length<=1100*(zbe l).length
 |[],_,_=>by simp[zla]
 | x::l,c,h=>by
  have h1:=h x (by simp);have h2:=z8l l false fun y hy=>h y (by simp[hy]);simp only[zla,zbe,length_append,length_cons,length_nil];have:(if c=true then[] else[124]:List UInt8).length<=1:=by split<;>simp
  omega
theorem qfo: ∀(n:Nat) (t:Tr),(pre t).length<=n->(zds t).length+20<=1100*(pre t).length
 | 0,t,h=>by
  have:0<(pre t).length:=by rw[zea];simp
  omega
 | n +1,.mk k s mn mx l,h=>by
  have hp:=z6u k s mn mx l;have ih: ∀x∈l,(zds x).length+20<=1100*(pre x).length:=fun x hx=>qfo n x (by have:=zcn hx;omega);have hC:=z8a l ih;have hA:=z8l l true ih;have h1:(qcy l).length<=1100*(zbe l).length:=by
   cases l with
   |nil=>simp[qcy]
   | cons x l=>
    have:=ih x (by simp);simp only[qcy,zbe,length_append];omega
  have hb:=zjo (zfm s);have hb2:(zfm s).length<=256:=z6a s 256;have t1:=zkg mn.toNat
  have t2:=zkg mx.toNat
  have hm:(if mx= -1 then[] else zhc mx.toNat:List UInt8).length<=2:=by split;simp;exact t2
  rw[zds];split
  ·simp only[length_append,length_cons,length_nil];omega
  split
  ·omega
  split
  ·omega
  split
  ·simp only[length_append,length_cons,length_nil];omega
  split
  ·simp only[length_append,length_cons,length_nil];omega
  ·simp;omega
theorem sy_of {t:Tr} (h:CR t)(hl:(pre t).length<1000):SY t:=by
 refine⟨fun x hx=> ?_,by have:=qfo _ t (Nat.le_refl _);omega⟩;have hr:zcq x=true:=List.all_eq_true.1 h x hx;refine⟨fun h5=> ?_,fun hk=> ?_⟩
 ·have:=z4o (zya hr h5);omega
 ·obtain⟨y,hy⟩:=zup hr hk;rw[hy];simp
theorem made_CT (l:List Sm):CT (zta l)/\ (pre (zta l)).length<=50/\ SY (zta l):=by
 obtain⟨h1,_,_,h4⟩:=made_ok l;exact⟨⟨h1,by omega⟩,h4,sy_of h1 (by omega)⟩
theorem zfc {u v:List UInt8} {z:UInt8} (h:u=v++[z])(hz:z≠36/\ z≠92):zss u:=by
 intro v' z' e;rw[h] at e;have:=List.append_inj' e rfl;have e2:=this.2;cases e2;exact hz
end Go.Ab
namespace Go.Ab
open Go Go.RowKit Go.Fwd Go.Proofs Go.ChangeShapes Go.WideShapes Go.Deep
def qct (W:World):Cx:=⟨fun b o=> ∃v,W.cell? ⟨b,o,none⟩=some v,[],[],[],W,fun _=>False,fun _ _=>False⟩
theorem inv_top (P:Program)(W:World)(hg:gvBase P W):Inv (ITP P) St.empty (qct W) where
 lens:=rfl
 elems:=rfl
 κlen:=rfl
 κnd:=fun s s' b h=>by simp[qct] at h
 box:=fun s b t cs h=>by simp[qct] at h
 κF:=fun s b t cs h=>by simp[qct] at h
 βlen:=rfl
 βnd:=by simp[qct]
 βκ:=fun r h=>by simp[qct] at h
 row:=fun s r L h=>by simp[qct] at h
 Ok:=fun b h=>h.elim
 Fcell:=fun b o h=>h
 gv:=⟨W,hg,Szs.refl _,fun b o v _ hv=>⟨⟨v,hv⟩,hv⟩⟩
theorem qlc {P:Program} {f:FuncId} {args:List AV} {u:Value} (h:Pure (ITP P) P f args (.raw u))(W:World)(hg:gvBase P W) {vs:List Value} (hr:zbh (ITP P) (qct W) args vs):
 Calls P f vs.toArray W fun e W'=>e= .returned u/\ Below W.heap.size W W':=by
 refine(h.2 (qct W) vs (inv_top P W hg) hr).mono ?_;rintro e w' ⟨v,Y,rfl,rfl,hE,hIY,hv⟩;rw[Rep] at hv;subst hv;exact⟨rfl,hE.os,hE.tape,hE.output,hE.size,fun b hb=>hE.frame b hb (by simp[qct]) (by simp[qct])⟩
section
variable {H:Type} {enc:TypeId×Value->H} {P:Program} {α:Type} [Enc α]
end
end Go.Ab
