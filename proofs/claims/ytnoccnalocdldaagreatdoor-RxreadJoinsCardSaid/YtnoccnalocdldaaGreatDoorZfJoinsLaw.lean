import Derived.Test.YtnoccnalocdldaaGreatDoorZfWe
import Derived.Test.YtnoccnalocdldaaGreatDoorZfAx
import Derived.Deep.Slices
import Derived.Deep.Fields
import Derived.ChangeSame
import Derived.Test.YtnoccnalocdldaaGreatDoorRows
import Derived.Deep.DeepHandedRow
import Derived.Deep.DeepWitnessRowRef
import Derived.ProofKit
import Derived.SizedLaws
import Derived.Laws.IdiomArrays
import Derived.HandedShaped
import Derived.Shelf.Vars
import Derived.ChangeMaps
import Derived.Test.YtnoccnalocdldaaGreatDoorCards
import Derived.Test.YtnoccnalocdldaaGreatDoorTie
import Derived.SevenTiedAt
set_option linter.all false
set_option maxRecDepth 100000
set_option maxHeartbeats 4000000
open Sum (inl inr)
open Int (toNat tmod tdiv)
open Bool (and_eq_true)
open Nat (le_refl le_of_ble_eq_true not_lt_zero)
open List (length length_cons length_append length_nil mem_append all_eq_true cons_append nil_append mem_cons append_nil getElem_mem mem_singleton)
open Go.Proofs.Tryz (prog)
namespace Go.Ab
open Go Go.RowKit Go.Fwd Go.Proofs
theorem z8g (b e:Bool)(t:Tr)(h:(pre t).length<2^60):zrr (Rg.mk b e t)=some (zks t):=by
 unfold zrr zks;refine zg (by simp only;omega) (zk fun x hx=> ?_);simp only at hx;cases hc:zdd t with
 | false=>
  rw[hc] at hx;subst hx;rfl
 | true=>
  rw[hc] at hx;subst hx;have hli:zfv t=true:=by rw[zdd,and_eq_true] at hc;exact hc.1
  have hpl:=zha hc;simp only[Bool.not_true,cond_false];refine zg (by omega) (zk fun x hx=> ?_);subst hx;cases h1:decide (zsj t>120) with
  |true=>rfl
  | false=>
   simp only[cond_false];refine zaj (zne t) ?_ ?_
   ·unfold zlg;refine zg (by omega) (zk fun x hx=> ?_);rw[hli] at hx;subst hx;simp only[Bool.not_true,cond_false];refine zg (by omega) (zk fun x hx=> ?_);rw[zne,if_pos hli,hx]
   ·cases h2:decide (zne t>400) with
    |true=>rfl
    | false=>
     simp only[cond_false];refine zg (by omega) (zk fun x hx=> ?_);subst hx;cases decide (zul t>9)<;>rfl
def zvy (u:List UInt8):Prop:= ∀v z,u=v++[z]->z≠36/\ z≠92
theorem zxq (u:List UInt8)(z c:UInt8):Lib.hasSuffix (u++[z]) [c]=(c==z):=by
 unfold Lib.hasSuffix;simp[List.isSuffixOf,List.isPrefixOf]
theorem zru (u:List UInt8):u=[] \/ ∃v z,u=v++[z]:=by
 rcases List.eq_nil_or_concat u with h|⟨v,z,h⟩
 ·exact .inl h
 ·exact .inr ⟨v,z,by simpa using h⟩
theorem ends_no (u:List UInt8)(h:zvy u)(hl:u.length<2^40):zpl u=some false:=by
 unfold zpl;have hs:Lib.hasSuffix u ([36]:List UInt8)=false:=by
  rcases zru u with rfl|⟨v,z,rfl⟩
  ·rfl
  ·rw[zxq];have:=(h v z rfl).1;rw[beq_eq_false_iff_ne];exact fun e=>this e.symm
 refine zg (by omega) (zk fun x hx=> ?_);have:x.2=false:=by rw[<-hx];exact hs
 rw[this,cond_false]
theorem qkr (u:List UInt8)(h:zvy u)(hl:u.length<2^40):zpl (u++[36])=some true:=by
 unfold zpl;have hs:Lib.hasSuffix (u++[36]) ([36]:List UInt8)=true:=by rw[zxq];rfl
 have ht:Lib.trimSuffix (u++[36]) ([36]:List UInt8)=u:=by unfold Lib.trimSuffix;rw[if_pos hs];simp
 have hr:Lib.trimRightB u 92=u:=by
  unfold Lib.trimRightB;rcases zru u with rfl|⟨v,z,rfl⟩
  ·rfl
  ·have:=(h v z rfl).2;rw[List.reverse_append];simp[List.dropWhile,this]
 refine zg (by simp only[length_append,length_cons,length_nil];omega) (zk fun x hx=> ?_);rw[ht,hs] at hx;subst hx;simp only[cond_true];refine zg (by omega) (zk fun x hx=> ?_);rw[hr] at hx;subst hx;refine zg (by omega) ?_;rw[show((u.length:Int)-(u.length:Int))=0 by omega];rfl
def readR (b e:Bool)(t:Tr)(n:Int):Rg×Int×Int:=if zks t=0 then(Rg.mk b e t,n,0) else(Rg.mk false false zax,n,zks t)
theorem read_eq (n:Nat)(A:Alts)(b e:Bool)(hA:qfh n A)(hn:n<2^38)(hhd: ∀y t,zv A=y::t->y≠94)(hla:zvy (zv A))(hlen:(zv A).length<990):
 qlr 1100 (n+1) ((if b=true then[94] else[])++zv A++(if e=true then[36] else[]))=some (readR b e (orT (zem A)) ((((if b=true then[94] else[])++zv A++(if e=true then[36] else[]):List UInt8).length:Nat):Int)):=by
 obtain⟨s,hs⟩: ∃s,s=((if b=true then[94] else[])++zv A++(if e=true then[36] else[]):List UInt8):=⟨_,rfl⟩;rw[<-hs];have hsl:s.length<=(zv A).length+2:=by
  rw[hs];cases b<;>cases e<;>simp
 have hsl2:(zv A).length<=s.length:=by
  rw[hs];cases b<;>cases e<;>simp<;>omega
 obtain⟨w,hw⟩: ∃w,w=(zv A++(if e=true then[36] else[]):List UInt8):=⟨_,rfl⟩;have hsw:s=(if b=true then[94] else[])++w:=by rw[hs,hw];simp
 have hwl:w.length<=s.length:=by rw[hsw];simp
 have hpre:Lib.hasPrefix s ([94]:List UInt8)=b:=by
  rw[hsw];cases b with
  |true=>rfl
  | false=>
   rw[hw];show Lib.hasPrefix (zv A++_) [94]=false;cases hA':zv A with
   |nil=>cases e<;>rfl
   | cons y t=>
    have:=hhd y t hA';unfold Lib.hasPrefix;simp[List.isPrefixOf];exact fun h=>this h.symm
 have htr:Lib.trimPrefix s ([94]:List UInt8)=w:=by
  unfold Lib.trimPrefix;rw[hpre,hsw];cases b<;>rfl
 have hend:zpl w=some e:=by
  rw[hw];cases e with
  |true=>exact qkr _ hla (by omega)
  | false=>
   show zpl (zv A++[])=_;rw[append_nil];exact ends_no _ hla (by omega)
 obtain⟨q',g1,g2⟩:=qpn n A [] [] none (.inl rfl) hA (by simp only[nil_append,append_nil];omega) (by show 0+n<2^39;omega);rw[nil_append,append_nil] at g1;have hq0:zdu q'=[]:=g2;have hlt:=z3h (zem A);unfold qlr z8a;rw[show decide ((length s:Int)>1000)=false from decide_eq_false (by omega),cond_false];refine zk fun x1 hx1=> ?_;rw[htr,hpre] at hx1;subst hx1;simp only;refine zg (by omega) ?_;refine zaj _ hend ?_;refine zat (zv A) ?_ ?_
 ·cases e with
  |false=>rw[cond_false,hw];simp
  | true=>
   rw[cond_true];have hwl2:w.length=(zv A).length+1:=by rw[hw];simp
   refine zg (by omega) (zg (by omega) (zk fun x3 hx3=> ?_));have:x3=zv A:=by
    rw[<-hx3,sub,hw];have e1:(((zv A++[36]:List UInt8).length:Nat):Int)-1=(((zv A).length:Nat):Int):=by simp only[length_append,length_cons,length_nil];omega
    simp only[if_true];rw[e1];simp
   rw[this]
 refine zaj _ g1 ?_;simp only;refine zat (Rd.mk (zv A) (((zv A).length:Nat):Int) 0 q') ?_ ?_
 ·rw[show((0:Int) !=0)=false from rfl,cond_false,show decide ((((zv A).length:Nat):Int)<(length (zv A):Int))=false by simp,cond_false,hq0];rfl
 ·simp only;rw[show((0:Int) !=0)=false from rfl,cond_false];refine zaj _ (z8g b e _ (by omega)) ?_;unfold readR;by_cases h0:zks (orT (zem A))=0
  ·rw[if_pos h0,h0];rfl
  ·rw[if_neg h0,show(zks (orT (zem A)) !=0)=true by simpa using h0,cond_true]
theorem bit_of (s:BS)(i:Nat)(hi:i<256):(zly .u64 (zfz .u64 (wd s (i/64)) ((i%64:Nat):Int)) 1==1)=s.getLsbD i:=by
 rw[wd,z7z (W64 s (i/64)) (i%64) (Nat.mod_lt _ (by decide)),W64,BitVec.getLsbD_extractLsb'];rw[show 64*(i/64)+i%64=i by omega];simp[Nat.mod_lt]
theorem u8_wrapB (i:Nat)(hi:i<256):IntKind.u8.wrap ((i:Nat):Int)=((i:Nat):Int):=(zzw i hi).2.2
theorem z8q (c:Nat):(hexS c).length=4:=rfl
theorem zjj: ∀l:List Nat,(l.flatMap hexS).length=4*l.length
 |[]=>rfl
 |c::l=>by rw[List.flatMap_cons,length_append,z8q,zjj l,length_cons];omega
theorem z4x (s:BS)(i:Nat):(elN s i).length<=i:=Nat.le_trans (List.length_filter_le _ _) (by simp)
def sb1 (t:Tr):List UInt8×Int->Option ((List UInt8×Int) ⊕ (List UInt8 ⊕ (List UInt8 ⊕ List UInt8))):=
 (fun s1=>(bif (decide (s1.2<256)) then(zcv (τ:=(List UInt8)) (chk (0<=(IntKind.i64.wrap (tdiv s1.2 64))/\ (IntKind.i64.wrap (tdiv s1.2 64))<4) (chk (0<=(tmod s1.2 64)) (bif ((zly .u64 (zfz .u64 (wd t.s (toNat (IntKind.i64.wrap (tdiv s1.2 64)))) (tmod s1.2 64)) 1)==1) then(chk (0<=(IntKind.u8.wrap s1.2)/\ (IntKind.u8.wrap s1.2)<256) (zay (hexS (toNat (IntKind.u8.wrap s1.2))) (fun x1=>(chk (length s1.1+length x1<=9223372036854775807) (some (inl ((s1.1++x1)))))))) else(some (inl (s1.1)))))) (fun j3=>(chk (-9223372036854775808<=(s1.2+1)/\ (s1.2+1)<9223372036854775808) (some (inl (j3,(s1.2+1))))))) else(some (inr (inl (s1.1))))))
theorem z9g (t:Tr): ∀(k i fuel:Nat),i+k=256->k<fuel->zaz (sb1 t) fuel ((elN t.s i).flatMap hexS,((i:Nat):Int))=some (.inl ((zfq t.s).flatMap hexS))
 |_,_,0,_,h=>absurd h (not_lt_zero _)
 | 0,i,fuel+1,hi,hf=>by
  have:i=256:=by omega
  subst this;rw[zaz];rfl
 | k +1,i,fuel+1,hi,hf=>by
  obtain⟨_,_,s3,s4,_,_⟩:=qje i (by omega);have hl:=zjj (elN t.s i);have hl2:=z4x t.s i;have hb:sb1 t ((elN t.s i).flatMap hexS,((i:Nat):Int))=some (.inl ((elN t.s (i+1)).flatMap hexS,(((i+1:Nat)):Int))):=by
   unfold sb1;dsimp only;rw[show decide (((i:Nat):Int)<256)=true from decide_eq_true (by omega),cond_true];refine zat ((elN t.s (i+1)).flatMap hexS) ?_ (zg (by omega) rfl);rw[s3,s4];refine zg (by omega) (zg (by omega) ?_);rw[Int.toNat_natCast,bit_of t.s i (by omega),zyp];cases h:t.s.getLsbD i with
   |false=>rw[cond_false];simp
   | true=>
    rw[cond_true,u8_wrapB i (by omega)];refine zg (by omega) (zk fun x hx=> ?_);rw[Int.toNat_natCast] at hx;subst hx;refine zg (by rw[hl,z8q];omega) ?_;simp
  rw[zaz,hb];exact z9g t k (i+1) fuel (by omega) (by omega)
theorem zyu (a b:List Tr):zlz (a++b)=zlz a++zlz b:=by rw[zuy,zuy,zuy];simp[zbn]
theorem z1g (x:Tr): ∀(l:List Tr) (c:Bool),zjb c (l++[x])=zjb c l++(if l=[] then(if c=true then[] else[124]) else[124])++([40,63,58]++zdc x++[41])
 |[],c=>by simp[zjb]
 | y::l,c=>by
  have st: ∀(c:Bool) (y:Tr) (l:List Tr),zjb c (y::l)=(if c=true then[] else[124])++[40,63,58]++zdc y++[41]++zjb false l:=fun c y l=>by rw[zjb]
  rw[cons_append,st,st c y l,z1g x l false,if_neg (List.cons_ne_nil y l)];have e:(if l=[] then(if false=true then[] else[124]) else[124]:List UInt8)=[124]:=by cases l<;>rfl
  rw[e];simp
theorem qek {t x:Tr} (h:x∈t.l)(hs:SY t)(hk:t.k=3 \/t.k=4 \/t.k=5 \/t.k=6)(h1:t.k=5 \/t.k=6->t.l=[x]):(zdc x).length<(zdc t).length:=by
 obtain⟨k,s,mn,mx,l⟩:=t;simp only[Tr.k,Tr.l] at*;rcases hk with rfl|rfl|rfl|rfl
 ·obtain⟨a,b,rfl⟩:=List.append_of_mem h;rw[show zdc (.mk 3 s mn mx (a++x::b))=zlz (a++x::b) by simp[zdc],zyu,zlz];simp only[length_append,length_cons,length_nil];omega
 ·obtain⟨a,b,rfl⟩:=List.append_of_mem h;rw[show zdc (.mk 4 s mn mx (a++x::b))=zjb true (a++x::b) by simp[zdc]];have: ∀(a:List Tr) (c:Bool),(zdc x).length<(zjb c (a++x::b)).length:=by
   intro a;induction a with
   |nil=>intro c;rw[nil_append,zjb];simp only[length_append,length_cons,length_nil];omega
   |cons y a ih=>intro c;rw[cons_append,zjb];have:=ih false;simp only[length_append] at*;omega
  exact this a true
 ·rw[h1 (.inl rfl)];by_cases hm:mx= -1<;>simp[zdc,qap,hm]<;>omega
 ·rw[h1 (.inr rfl)];simp[zdc,qap];omega
theorem zvw {x y:Tr}: ∀ {l:List Tr},x∈l->y∈pre x->y∈zbi l
 | z::l,h,hy=>by
  rw[zbi,mem_append];rcases mem_cons.1 h with rfl|h
  ·exact .inl hy
  ·exact .inr (zvw h hy)
theorem qjh {t x:Tr} (h:x∈t.l)(hs:SY t)(hl:(zdc x).length<=(zdc t).length):SY x:=by
 refine⟨fun y hy=>hs.1 y ?_,Nat.le_trans hl hs.2⟩;rw[zec];exact List.mem_cons_of_mem _ (zvw h hy)
def sb2 (n:Nat)(t:Tr):List UInt8×Int->Option ((List UInt8×Int) ⊕ (List UInt8 ⊕ List UInt8)):=
 (fun s2=>(bif (decide (s2.2<(length t.l:Int))) then(chk (0<=s2.2/\ s2.2<(length t.l:Int)) (zay (ix t.l s2.2) (fun x2=>(chk ((pre x2).length<n/\ SY x2) (zay (zdc x2) (fun x3=>(chk (length ([40,63,58]:List UInt8)+length x3<=9223372036854775807) (chk (length (([40,63,58]:List UInt8)++x3)+length ([41]:List UInt8)<=9223372036854775807) (chk (length s2.1+length ((([40,63,58]:List UInt8)++x3)++([41]:List UInt8))<=9223372036854775807) (chk (-9223372036854775808<=(s2.2+1)/\ (s2.2+1)<9223372036854775808) (some (inl ((s2.1++((([40,63,58]:List UInt8)++x3)++([41]:List UInt8))),(s2.2+1)))))))))))))) else(some (inr (inl (s2.1))))))
def sb3 (n:Nat)(t:Tr):List UInt8×Int->Option ((List UInt8×Int) ⊕ (List UInt8 ⊕ List UInt8)):=
 (fun s3=>(bif (decide (s3.2<(length t.l:Int))) then(chk (0<=s3.2/\ s3.2<(length t.l:Int)) (zay (ix t.l s3.2) (fun x4=>(zcv (τ:=(List UInt8)) (bif (decide (s3.2>0)) then(chk (length s3.1+length ([124]:List UInt8)<=9223372036854775807) (some (inl ((s3.1++([124]:List UInt8)))))) else(some (inl (s3.1)))) (fun j4=>(chk ((pre x4).length<n/\ SY x4) (zay (zdc x4) (fun x5=>(chk (length ([40,63,58]:List UInt8)+length x5<=9223372036854775807) (chk (length (([40,63,58]:List UInt8)++x5)+length ([41]:List UInt8)<=9223372036854775807) (chk (length j4+length ((([40,63,58]:List UInt8)++x5)++([41]:List UInt8))<=9223372036854775807) (chk (-9223372036854775808<=(s3.2+1)/\ (s3.2+1)<9223372036854775808) (some (inl ((j4++((([40,63,58]:List UInt8)++x5)++([41]:List UInt8))),(s3.2+1)))))))))))))))) else(some (inr (inl (s3.1))))))
theorem z7n (n:Nat)(t:Tr)(hk: ∀x∈t.l,(pre x).length<n/\ SY x)(hll:t.l.length<=2^40)(hlen:(zlz t.l).length<=2^40): ∀(k i fuel:Nat),i+k=t.l.length->k<fuel->zaz (sb2 n t) fuel (zlz (t.l.take i),((i:Nat):Int))=some (.inl (zlz t.l))
 |_,_,0,_,h=>absurd h (not_lt_zero _)
 | 0,i,fuel+1,hi,hf=>by
  have:i=t.l.length:=by omega
  subst this;rw[zaz];have:sb2 n t (zlz (t.l.take t.l.length),((t.l.length:Nat):Int))=some (.inr (.inl (zlz t.l))):=by
   unfold sb2;dsimp only;rw[show decide (((t.l.length:Nat):Int)<(length t.l:Int))=false by simp,cond_false,List.take_length]
  rw[this]
 | k+1,i,fuel+1,hi,hf=>by
  have hil:i<t.l.length:=by omega
  have hx:=hk t.l[i] (getElem_mem hil);have e1:t.l.take (i+1)=t.l.take i++[t.l[i]]:=by rw[List.take_add_one,List.getElem?_eq_getElem hil];rfl
  have e2:zlz (t.l.take (i+1))=zlz (t.l.take i)++([40,63,58]++zdc t.l[i]++[41]):=by rw[e1,zyu];simp[zlz]
  have e3:(zlz (t.l.take (i+1))).length<=2^40:=by
   have:zlz t.l=zlz (t.l.take (i+1))++zlz (t.l.drop (i+1)):=by rw[<-zyu,List.take_append_drop]
   rw[this,length_append] at hlen;omega
  rw[e2] at e3;simp only[length_append,length_cons,length_nil] at e3;have hb:sb2 n t (zlz (t.l.take i),((i:Nat):Int))=some (.inl (zlz (t.l.take (i+1)),(((i+1:Nat)):Int))):=by
   unfold sb2;dsimp only;rw[show decide (((i:Nat):Int)<(length t.l:Int))=true from decide_eq_true (by omega),cond_true];refine zg (by omega) (zk fun x hx'=> ?_);rw[zvi hil] at hx';subst hx';refine zg hx (zk fun x hx'=> ?_);subst hx';refine zg (by simp only[length_cons,length_nil];omega) (zg (by simp only[length_append,length_cons,length_nil];omega) (zg (by simp only[length_append,length_cons,length_nil];omega) (zg (by omega) ?_)));rw[e2];rfl
  rw[zaz,hb];exact z7n n t hk hll hlen k (i+1) fuel (by omega) (by omega)
theorem qec (c:Bool): ∀(a b:List Tr),(zjb c a).length<=(zjb c (a++b)).length
 |[],b=>by simp[zjb]
 | x::a,b=>by
  rw[cons_append,zjb,zjb];have:=qec false a b;simp only[length_append];omega
theorem z8x (n:Nat)(t:Tr)(hk: ∀x∈t.l,(pre x).length<n/\ SY x)(hll:t.l.length<=2^40)(hlen:(zjb true t.l).length<=2^40): ∀(k i fuel:Nat),i+k=t.l.length->k<fuel->zaz (sb3 n t) fuel (zjb true (t.l.take i),((i:Nat):Int))=some (.inl (zjb true t.l))
 |_,_,0,_,h=>absurd h (not_lt_zero _)
 | 0,i,fuel+1,hi,hf=>by
  have:i=t.l.length:=by omega
  subst this;rw[zaz];have:sb3 n t (zjb true (t.l.take t.l.length),((t.l.length:Nat):Int))=some (.inr (.inl (zjb true t.l))):=by
   unfold sb3;dsimp only;rw[show decide (((t.l.length:Nat):Int)<(length t.l:Int))=false by simp,cond_false,List.take_length]
  rw[this]
 | k +1,i,fuel+1,hi,hf=>by
  have hil:i<t.l.length:=by omega
  have hx:=hk t.l[i] (getElem_mem hil);have e1:t.l.take (i+1)=t.l.take i++[t.l[i]]:=by rw[List.take_add_one,List.getElem?_eq_getElem hil];rfl
  have e2:=z1g t.l[i] (t.l.take i) true;rw[<-e1] at e2;have e4:(if t.l.take i=[] then(if true=true then[] else[124]) else[124]:List UInt8)=(if i=0 then[] else[124]):=by
   by_cases h0:i=0
   ·subst h0;simp
   ·rw[if_neg h0,if_neg];intro e;rcases List.take_eq_nil_iff.1 e with e|e
    ·exact h0 e
    ·rw[e] at hil;exact absurd hil (not_lt_zero _)
  rw[e4] at e2;have e3:(zjb true (t.l.take (i+1))).length<=2^40:=by
   have:=qec true (t.l.take (i+1)) (t.l.drop (i+1));rw[List.take_append_drop] at this;omega
  rw[e2] at e3;simp only[length_append,length_cons,length_nil] at e3;have hb:sb3 n t (zjb true (t.l.take i),((i:Nat):Int))=some (.inl (zjb true (t.l.take (i+1)),(((i+1:Nat)):Int))):=by
   unfold sb3;dsimp only;rw[show decide (((i:Nat):Int)<(length t.l:Int))=true from decide_eq_true (by omega),cond_true];refine zg (by omega) (zk fun x hx'=> ?_);rw[zvi hil] at hx';subst hx';refine zat (zjb true (t.l.take i)++(if i=0 then[] else[124])) ?_ ?_
   ·by_cases h0:i=0
    ·rw[if_pos h0,show decide (((i:Nat):Int)>0)=false from decide_eq_false (by omega),cond_false];simp
    ·rw[if_neg h0,show decide (((i:Nat):Int)>0)=true from decide_eq_true (by omega),cond_true];exact zg (by simp only[length_cons,length_nil];omega) rfl
   refine zg hx (zk fun x hx'=> ?_);subst hx';refine zg (by simp only[length_cons,length_nil];omega) (zg (by simp only[length_append,length_cons,length_nil];omega) (zg (by simp only[length_append,length_cons,length_nil];omega) (zg (by omega) ?_)));rw[e2];rfl
  rw[zaz,hb];exact z8x n t hk hll hlen k (i+1) fuel (by omega) (by omega)
theorem sy_head {t x:Tr} {l:List Tr} (hl:t.l=x::l)(hk:t.k=5 \/t.k=6):(zdc x).length<=(zdc t).length:=by
 obtain⟨k,s,mn,mx,l'⟩:=t;simp only[Tr.k,Tr.l] at*;subst hl;rcases hk with rfl|rfl
 ·by_cases hm:mx= -1<;>simp[zdc,qap,hm]<;>omega
 ·simp[zdc,qap];omega
theorem say_eq (t:Tr)(hs:SY t)(hpl:(pre t).length<2^40):z7v (300+t.l.length) (pre t).length t=some (zdc t):=by
 have hself:t∈pre t:=by rw[zec];simp
 have hlt: ∀x∈t.l,(pre x).length<(pre t).length:=fun x hx=>by
  have h1:=zcp hx;have h2:=zil t;omega
 have hll:t.l.length<=2^40:=by have:=zjs t;omega
 have hl40:=hs.2;unfold z7v;by_cases h2:t.k=2
 ·rw[show(((t.k:Nat):Int)==2)=true by rw[h2];rfl,cond_true];have es:zdc t=[91]++(zfq t.s).flatMap hexS++[93]:=by
   obtain⟨k,s,mn,mx,l⟩:=t;simp only[Tr.k] at h2;subst h2;simp[zdc,Tr.s]
  have hl:=zjj (zfq t.s);have hl2:(zfq t.s).length<=256:=z4x t.s 256;refine zql (zdc t) ?_ rfl;refine zat ((zfq t.s).flatMap hexS) (z9g t 256 0 (300+t.l.length) (by omega) (by omega)) ?_;refine zg (by simp only[length_cons,length_nil];omega) (zg (by simp only[length_append,length_cons,length_nil];omega) ?_);rw[es]
 rw[show(((t.k:Nat):Int)==2)=false from kbf h2,cond_false];by_cases h3:t.k=3
 ·rw[show(((t.k:Nat):Int)==3)=true by rw[h3];rfl,cond_true];have es:=z1a h3;refine zat (zdc t) ?_ rfl;rw[es];refine z7n (pre t).length t (fun x hx=>⟨hlt x hx,qjh hx hs (Nat.le_of_lt (qek hx hs (.inl h3) fun h=>by omega))⟩) hll (by rw[<-es];exact hl40) t.l.length 0 (300+t.l.length) (by omega) (by omega)
 rw[show(((t.k:Nat):Int)==3)=false from kbf h3,cond_false];by_cases h4:t.k=4
 ·rw[show(((t.k:Nat):Int)==4)=true by rw[h4];rfl,cond_true];have es:=z2u h4;refine zat (zdc t) ?_ rfl;rw[es];refine z8x (pre t).length t (fun x hx=>⟨hlt x hx,qjh hx hs (Nat.le_of_lt (qek hx hs (.inr (.inl h4)) fun h=>by omega))⟩) hll (by rw[<-es];exact hl40) t.l.length 0 (300+t.l.length) (by omega) (by omega)
 rw[show(((t.k:Nat):Int)==4)=false from kbf h4,cond_false];have kid:t.k=5 \/t.k=6-> ∃x l,t.l=x::l/\ ((pre x).length<(pre t).length/\ SY x)/\ (zdc x).length<=2^40:=fun hk=>by
  have hne:=(hs.1 t hself).2 hk;obtain⟨x,l,hx⟩:=List.exists_cons_of_ne_nil hne;have hm:x∈t.l:=by rw[hx];simp
  have hh:=sy_head hx hk;exact⟨x,l,hx,⟨hlt x hm,qjh hm hs hh⟩,by omega⟩
 by_cases h6:t.k=6
 ·rw[show(((t.k:Nat):Int)==6)=true by rw[h6];rfl,cond_true];obtain⟨x,l,hx,hk,hxl⟩:=kid (.inr h6);have es:zdc t=[40]++zdc x++[41]:=by
   obtain⟨k,s,mn,mx,l'⟩:=t;simp only[Tr.k,Tr.l] at h6 hx;subst h6 hx;simp[zdc,qap]
  refine zql (zdc t) ?_ rfl;refine zg (by rw[hx];simp only[length_cons];omega) (zk fun y hy=> ?_);have:y=x:=by rw[<-hy,hx];rfl
  subst this;refine zg hk (zk fun z hz=> ?_);subst hz;refine zg (by simp only[length_cons,length_nil];omega) (zg (by simp only[length_append,length_cons,length_nil];omega) ?_);rw[es]
 rw[show(((t.k:Nat):Int)==6)=false from kbf h6,cond_false];by_cases h5:t.k=5
 ·rw [show(((t.k:Nat):Int)==5)=true by rw[h5];rfl,cond_true];obtain⟨x,l,hx,hk,hxl⟩:=kid (.inl h5);obtain⟨b1,b2⟩:=(hs.1 t hself).1 h5;have hm1:=zke t.mn.toNat
  have hm2:=zke t.mx.toNat
  have es:zdc t=[40,63,58]++zdc x++[41,123]++zhi t.mn.toNat++[44]++(if t.mx= -1 then[] else zhi t.mx.toNat)++[125]:=by
   obtain⟨k,s,mn,mx,l'⟩:=t;simp only[Tr.k,Tr.l] at h5 hx;subst h5 hx;by_cases hm:mx= -1<;>simp[zdc,qap,Tr.mn,Tr.mx,hm]
  refine zql (zdc t) ?_ rfl;refine zg (by rw[hx];simp only[length_cons];omega) (zk fun y hy=> ?_);have:y=x:=by rw[<-hy,hx];rfl
  subst this;refine zg hk (zk fun z hz=> ?_);subst hz;refine zg (by simp only[length_cons,length_nil];omega) (zg (by simp only[length_append,length_cons,length_nil];omega) (zg b1 (zk fun z hz=> ?_)));subst hz;refine zg (by simp only[length_append,length_cons,length_nil];omega) (zg (by simp only[length_append,length_cons,length_nil];omega) ?_);refine zat ([40,63,58]++zdc y++[41,123]++zhi t.mn.toNat++[44]++(if t.mx= -1 then[] else zhi t.mx.toNat)) ?_ ?_
  ·by_cases hm:t.mx= -1
   ·rw[show(t.mx != -1)=false by rw[hm];rfl,cond_false,if_pos hm,append_nil]
   ·rw[show(t.mx != -1)=true by simpa using hm,cond_true,if_neg hm];refine zg (by omega) (zk fun z hz=> ?_);subst hz;exact zg (by simp only[length_append,length_cons,length_nil];omega) rfl
  ·have hq:(if t.mx= -1 then[] else zhi t.mx.toNat).length<=2:=by split;simp;exact hm2
   refine zg (by simp only[length_append,length_cons,length_nil];omega) ?_;rw[es]
 rw[show(((t.k:Nat):Int)==5)=false from kbf h5,cond_false];have es:zdc t=[]:=by
  obtain⟨k,s,mn,mx,l'⟩:=t;simp only[Tr.k] at*;simp[zdc,h2,h3,h4,h5,h6]
 exact zat [] rfl (by rw[es])
theorem z4n: ∀(n:Nat) (t:Tr),(pre t).length<=n->(pre t).length<2^40/\ SY t->Pure (ITP prog) prog 10 [.agg (Enc.cells t)] (.raw (.string (bs (zdc t))))
 | 0,t,h,_=>by
  have:0<(pre t).length:=by rw[zec];simp
  omega
 |n+1,t,h,hs=>say1_sh (300+t.l.length) (pre t).length t (zdc t) (fun x hx=>z4n n x (by have:=hx.1;omega) ⟨by have:=hx.1;omega,hx.2⟩) (say_eq t hs.2 hs.1)
theorem k_say (t:Tr)(h:(pre t).length<2^40/\ SY t):Pure (ITP prog) prog 10 [.agg (Enc.cells t)] (.raw (.string (bs (zdc t)))):=z4n _ t (le_refl _) h
end Go.Ab
namespace Go.Ab
open Go Go.RowKit Go.Fwd Go.Proofs
def qey (fuel:Nat)(l:(List Tr)):Option Bool:=
 (zcv (τ:=Int) (zaz (β:=Int×Int) (fun s1=>(bif (decide (s1.2<(length l:Int))) then(chk (0<=s1.2/\ s1.2<(length l:Int)) (zay (ix l s1.2) (fun x1=>(chk ((pre x1).length<2^40/\ SY x1) (zay (zdc x1) (fun x2=>(chk (-9223372036854775808<=(s1.1+(length x2:Int))/\ (s1.1+(length x2:Int))<9223372036854775808) (chk (-9223372036854775808<=(s1.2+1)/\ (s1.2+1)<9223372036854775808) (some (inl ((s1.1+(length x2:Int)),(s1.2+1)))))))))))) else(some (inr (inl (s1.1)))))) fuel (0,0)) (fun j1=>(some (decide (j1<900)))))
theorem ent9:Ent prog 9:=enters_of Tryz.func9 (by kernel_rfl) rfl
theorem few_sh (fuel:Nat)(l:(List Tr))(r:Bool)(h:qey fuel l=some r):Pure (ITP prog) prog 9 [.L (l:List Tr)] (.raw (.bool r)):=by
 unfold qey at h;refine zbl 19 mix Tryz.func9 ent9 ?_;refine zah [.v (.b false)] ?_;refine zah [.v (.i 0)] ?_;refine zan h (bz 0 20 1048575) (fun j1=>[(3,.i j1)]) (fun j1=>(.B [])) ?_ ?_;intro or1 h hr1;refine zah [.m _,.v (.i (length l:Int)),.v (.i 0)] ?_;refine zu ?_;refine zch h (bz 0 20 1048383) (fun s1=>[(3,.i s1.1),(8,.i s1.2)]) (fun s1=>(.B [])) ?_ ?_;exact zbc (bl 20 456);intro s1 p1 h;refine zdj ?_;refine zah [.v (.b (decide (s1.2<(length l:Int))))] ?_;refine zj ?_;refine zbu h (fun hc1 h=> ?_) (fun hc1 h=> ?_);refine zj ?_;refine zu ?_;refine zj (zb ?_);obtain⟨g1,h⟩:=zf h;obtain⟨x1,hx1,h⟩:=zi h;refine z5i hx1 g1 ?_;refine w_o (a:= .A (x1:Tr)) ?_;refine zda zN ?_;refine zer 8 (Enc.cells (x1:Tr)) ?_;refine zb (k0:=0) (id:=5) ?_;refine w_r [.m _,.v (.A (x1:Tr))] ?_;obtain⟨g2,h⟩:=zf h;obtain⟨x2,hx2,h⟩:=zi h;refine zct (args':=[.A (x1:Tr)]) (r:= .s x2) (by rw[<-hx2];exact(k_say x1 g2)) ?_;refine w_o (a:= .i (length x2:Int)) (h:=zap (zep rfl rfl rfl)) ?_;obtain⟨g3,h⟩:=zf h;refine zhk g3 ?_;refine zao ?_;refine zb (k0:=0) (id:=6) ?_;obtain⟨g4,h⟩:=zf h;refine zhk g4 ?_;refine zao ?_;refine zbe (p:=p1) ((s1.1+(length x2:Int)),(s1.2+1)) h ?_;exact zdk (bl 20 456) 0 (by kernel_rfl) (le_of_ble_eq_true rfl) (zbv rfl) (by dsimp only[zau,zbs,List.foldl,List.set,bz,bzc,Nat.reduceMod,Nat.reduceDiv,Nat.reduceBEq,Nat.reduceAdd];exact(za rfl (za rfl (za rfl (za rfl (za rfl (za rfl (za (zbd (Enc.cloL _)) (by kernel_rfl))))))))) (by kernel_rfl);refine zaa h (fun h=> ?_);refine zc (o:=or1) (s1.1) h ?_;exact zbc (bl 20 8);intro j1 h;refine zdj ?_;refine zah [.m _,.v (.b (decide (j1<900))),.m _] ?_;exact zbb h
end Go.Ab
namespace Go.Ab
open Go Go.RowKit Go.Fwd
abbrev cutQ {τ α:Type} (R:τ->Prop)(Q:α->Prop)(o:τ ⊕ α):Prop:=match o with| .inl t=>R t| .inr y=>Q y
def Ok {α:Type} (Q:α->Prop)(x:Option α):Prop:= ∃r,x=some r/\ Q r
section
variable {α β τ ρ:Type} {Q:α->Prop}
theorem Ok.mono {R:α->Prop} {x:Option α} (h:Ok Q x)(hR: ∀r,Q r->R r):Ok R x:=by
 obtain⟨r,h1,h2⟩:=h;exact⟨r,h1,hR r h2⟩
theorem Ok.eq {x:Option α} {v:α} (h:Ok (fun r=>r=v) x):x=some v:=by
 obtain⟨r,h1,rfl⟩:=h;exact h1
end
end Go.Ab
namespace Go.Ab
open Go Go.RowKit Go.Fwd Go.Proofs
theorem z9o {fuel:Nat} (k:Nat)(a b:Tr)(hk:k=3 \/k=4)(hf:2<fuel)(h:(pre a).length<=2^30/\ (pre b).length<=2^30):zik fuel (k:Int) a b=some (zfl k a b):=by
 have la:=zil a;have lb:=zil b
 have l1:=zaw a.l;have l2:=zaw b.l
 have hlen: ∀i,(zfk k ([a,b].take i)).length<=2^31:=fun i=>by
  have:=zwf k [a,b] i;simp only[zbi,length_append,length_nil] at this;omega
 unfold zik zfl;refine zat (zfk k [a,b]) ?_ ?_
 ·refine zit 2 (fun i=>(zfk k ([a,b].take i),(i:Int))) (by simp[zfk]) (fun i hi=> ?_) ?_ hf
  ·have hi2:i<[a,b].length:=hi;refine zds (by simp only[length_cons,length_nil];simp;omega) ?_;refine zat (zfk k ([a,b].take (i+1))) ?_ (zg (by simp only;omega) (by simp));have hs:=hlen i;rw[qak k [a,b] i hi2];refine zg (by simp only[length_cons,length_nil];omega) (zk fun x1 e1=> ?_);simp only at e1;rw[zgy hi2] at e1;subst e1;have hx:(pre [a,b][i]).length<=2^30:=by
    have:[a,b][i]∈[a,b]:=getElem_mem hi2;simp only[mem_cons,List.not_mem_nil,or_false] at this;rcases this with e|e<;>rw[e]<;>omega
   have hxl:=zil [a,b][i];have hxl2:=zaw [a,b][i].l
   cases h1:([a,b][i].k:Int)==k with
   |true=>exact zds rfl (zg (by simp only;omega) rfl)
   | false=>
    refine zdl rfl ?_;rcases hk with rfl|rfl
    ·refine zds rfl ?_;cases h2:([a,b][i].k:Int)==1 with
     |true=>exact zds rfl (by simp[h2])
     |false=>exact zdl rfl (zg (by simp only[length_cons,length_nil];omega) (by simp[h2]))
    ·refine zdl rfl (zg (by simp only[length_cons,length_nil];omega) (by simp))
  ·exact zdl rfl rfl
 ·have hs:=hlen 2;have hs:(zfk k [a,b]).length<=2^31:=hs;unfold qdb;refine z5m (fun h0=>by rw[h0];rfl) fun h0=> ?_;rw[h0,cond_false];refine z5m (fun h1=> ?_) fun h1=> ?_
  ·rw[h1,cond_true];refine zg (by have:=eq_of_beq h1;omega) (zk fun x2 e2=> ?_);subst e2;have h1':(zfk k [a,b]).length=1:=by have:=eq_of_beq h1;omega
   match hj:zfk k [a,b],h1' with
   |[z],_=>rfl
  ·rw[h1,cond_false];exact zg (by omega) (by rw[Int.toNat_natCast])
theorem tm3 (n:Nat):tmod ((n:Nat):Int) 3=((n%3:Nat):Int):=rfl
theorem tm4 (n:Nat):tmod ((n:Nat):Int) 4=((n%4:Nat):Int):=rfl
theorem z0c {p:List Tr} {k:Nat} (h0:0<k)(h:k<=p.length):ix p ((p.length:Int)-(k:Int))=zfh p k:=by
 rw[show(p.length:Int)-(k:Int)=((p.length-k:Nat):Int) by omega,zgy (by omega),zjq h0 h]
theorem qac {p:List Tr} {k:Nat} (h0:0<k)(h:k<=p.length):zfh p k∈p:=by rw[zjq h0 h];exact getElem_mem _
set_option maxRecDepth 10000 in
theorem made_eq {fuel:Nat} (l:List Sm)(hl:l.length<2^63)(hu: ∀x∈l,x.2.1<256)(hf:60<fuel):z9h fuel l=some (zrl l):=by
 obtain⟨m,hm⟩: ∃m,l.take 25=m:=⟨_,rfl⟩;have hlen:m.length<=25:=by rw[<-hm,List.length_take];omega
 have hmu: ∀x∈m,x.2.1<256:=fun x hx=>hu x (List.mem_of_mem_take (hm▸hx));have hsub:sub l 0 (min (l.length:Int) 25)=m:=by
  rw[<-hm,sub,Int.toNat_zero,List.drop_zero];by_cases h:l.length<=25
  ·rw[List.take_of_length_le (by omega),List.take_of_length_le h]
  ·rw[show(min (l.length:Int) 25).toNat-0=25 by omega]
 have e25:MM m 25=MM m m.length:=by rw[MM,MM,List.take_of_length_le hlen,List.take_length]
 unfold z9h;simp only[hsub];rw[zrl,hm,e25];have hI:=invM m;refine zat (MM m m.length).1 ?_ ?_
 ·refine zg (by omega) ?_;refine zit m.length (fun i=>((MM m i).2.1,(MM m i).2.2,(i:Int),(MM m i).1)) (by simp[MM]) (fun i hi=> ?_) ?_ (by omega)
  ·refine zds (by simpa using hi) ?_;refine zat ((MM m (i+1)).2.1,(MM m (i+1)).2.2,(MM m (i+1)).1) ?_ (zg (by simp only;omega) (by simp));obtain⟨i1,i2,i3,i4,i5⟩:=hI i (by omega);rw[z5k m i hi];obtain⟨x,hx⟩: ∃x,x=m[i]:=⟨_,rfl⟩;rw[<-hx];have hxu:=hmu x (hx▸getElem_mem hi);generalize hst:MM m i=st at i1 i2 i3 i4 i5⊢
   obtain⟨p,u,g⟩:=st;dsimp only at i1 i2 i3 i4 i5⊢;obtain⟨T,hT⟩: ∃T,T=zta (p,u,g) x:=⟨_,rfl⟩;rw[<-hT];have hp:=zaw p;have hsz: ∀y∈p,(pre y).length<=2^30:=fun y hy=>by have:=zcp hy;omega
   refine zg (by omega) (zk fun x1 e1=> ?_);rw[zgy hi, <-hx] at e1;subst e1;have hu8:u<=16:=i5;unfold zta at hT;dsimp only at hT;have happ: ∀ {ρ:Type} (z:Tr) {q:Prop} {iq:Decidable q},(0<p.length->q)->(bif p.isEmpty then(chk (0<[z].length/\ [z].length*80<=140737488355328) (some (inl (u,g,[z])))) else(@chk _ q iq (some (inl (u,g,p++[z])))))=(some (inl (u,g,p++[z])):Option ((Int×Int×List Tr) ⊕ ρ)):=fun {ρ} z {q} {iq} hq=>
    z5m (fun he=>zg (by simp) (by rw[List.isEmpty_iff.1 he];rfl)) fun he=>zg (hq (zuf he)) rfl
   have hq1: ∀z:Tr,0<p.length->(True/\ 0<p.length/\ 0<[z].length/\ (p.length+[z].length)*80<=140737488355328):=fun z hz=>by simp only[length_cons,length_nil];exact⟨trivial,hz,by omega,by omega⟩
   cases c1:decide (kI x<4) with
   | true=>
    rw[c1,cond_true] at hT;subst hT;refine zds c1 (zg (by omega) (zk fun x2 e2=> ?_));rw[Int.toNat_natCast] at e2;subst e2;refine zg (qgy x.2.1 hxu).1 (zk fun x3 e3=> ?_);rw[clsU_lb x.2.1 hxu] at e3;subst e3;exact happ _ (hq1 _)
   | false =>
    refine zdl c1 ?_;rw[c1,cond_false] at hT;cases c2:kI x==4 with
    | true=>
     rw[c2,cond_true] at hT;subst hT;exact zds c2 (happ _ (hq1 _))
    | false =>
     refine zdl c2 ?_;rw[c2,cond_false] at hT;have hjoin: ∀ {ρ:Type} (k:Nat),k=3 \/k=4->(p.length:Int)>1->(bif p.isEmpty then(chk (-9223372036854775808<=((p.length:Int)-2)/\ ((p.length:Int)-2)<9223372036854775808) (chk (-9223372036854775808<=((p.length:Int)-2)/\ ((p.length:Int)-2)<9223372036854775808) none)) else(chk (-9223372036854775808<=((p.length:Int)-2)/\ ((p.length:Int)-2)<9223372036854775808) (chk (-9223372036854775808<=((p.length:Int)-2)/\ ((p.length:Int)-2)<9223372036854775808) (bif (((p.length:Int)-2)==0) then(chk (-9223372036854775808<=((p.length:Int)-2)/\ ((p.length:Int)-2)<9223372036854775808) (chk (0<=((p.length:Int)-2)/\ ((p.length:Int)-2)<((p.length:Nat):Int)) (chk (0<=((p.length:Int)-2)/\ ((p.length:Int)-2)<(p.length:Int)) (zay (ix p ((p.length:Int)-2)) (fun x4=>(chk (-9223372036854775808<=((p.length:Int)-1)/\ ((p.length:Int)-1)<9223372036854775808) (chk (0<=((p.length:Int)-1)/\ ((p.length:Int)-1)<((p.length:Nat):Int)) (chk (0<=((p.length:Int)-1)/\ ((p.length:Int)-1)<(p.length:Int)) (zay (ix p ((p.length:Int)-1)) (fun x5=>(zai (zik fuel (k:Int) x4 x5) (fun x6=>(chk (0<[x6].length/\ [x6].length*80<=140737488355328) (some (inl (u,g,[x6])))))))))))))))) else(chk (0<((p.length:Int)-2)/\ ((p.length:Int)-2)<=((p.length:Nat):Int)) (chk (-9223372036854775808<=((p.length:Int)-2)/\ ((p.length:Int)-2)<9223372036854775808) (chk (0<=((p.length:Int)-2)/\ ((p.length:Int)-2)<((p.length:Nat):Int)) (chk (0<=((p.length:Int)-2)/\ ((p.length:Int)-2)<(p.length:Int)) (zay (ix p ((p.length:Int)-2)) (fun x7=>(chk (-9223372036854775808<=((p.length:Int)-1)/\ ((p.length:Int)-1)<9223372036854775808) (chk (0<=((p.length:Int)-1)/\ ((p.length:Int)-1)<((p.length:Nat):Int)) (chk (0<=((p.length:Int)-1)/\ ((p.length:Int)-1)<(p.length:Int)) (zay (ix p ((p.length:Int)-1)) (fun x8=>(zai (zik fuel (k:Int) x7 x8) (fun x9=>(chk ((toNat ((p.length:Int)-2))<=p.length/\ 0<[x9].length/\ ((toNat ((p.length:Int)-2))+[x9].length)*80<=140737488355328) (some (inl (u,g,(List.take (toNat ((p.length:Int)-2)) p++[x9]))))))))))))))))))))))=(some (inl (u,g,p.take (p.length-2)++[zfl k (zfh p 2) (zfh p 1)])):Option ((Int×Int×List Tr) ⊕ ρ)):=by
      intro ρ k hk hp2;have s2:=hsz _ (qac (k:=2) (p:=p) (by omega) (by omega));have s1:=hsz _ (qac (k:=1) (p:=p) (by omega) (by omega))
      have q2:=z0c (k:=2) (p:=p) (by omega) (by omega);have q1:=z0c (k:=1) (p:=p) (by omega) (by omega)
      have hj:=z9o (fuel:=fuel) k (zfh p 2) (zfh p 1) hk (by omega) ⟨s2,s1⟩;have hne:p.isEmpty=false:=by cases p with|nil=>simp at hp2|cons _ _=>rfl
      refine zdl hne (zg (by omega) (zg (by omega) (z5m (fun h0=> ?_) fun h0=> ?_)))
      ·refine zg (by omega) (zg (by omega) (zg (by omega) (zk fun x4 e4=>zg (by omega) (zg (by omega) (zg (by omega) (zk fun x5 e5=> ?_))))));rw[show((p.length:Int)-2)=(p.length:Int)-((2:Nat):Int) from rfl,q2] at e4;rw[show((p.length:Int)-1)=(p.length:Int)-((1:Nat):Int) from rfl,q1] at e5;subst e4 e5;refine zaj _ hj (zg (by simp) ?_);have:=eq_of_beq h0;rw[show p.length-2=0 by omega];rfl
      ·have h0: ¬((p.length:Int)-2=0):=by simpa using h0
       refine zg (by omega) (zg (by omega) (zg (by omega) (zg (by omega) (zk fun x4 e4=>zg (by omega) (zg (by omega) (zg (by omega) (zk fun x5 e5=> ?_)))))));rw[show((p.length:Int)-2)=(p.length:Int)-((2:Nat):Int) from rfl,q2] at e4;rw[show((p.length:Int)-1)=(p.length:Int)-((1:Nat):Int) from rfl,q1] at e5;subst e4 e5;refine zaj _ hj (zg (by simp only[length_cons,length_nil];omega) ?_);rw[show((p.length:Int)-2).toNat=p.length-2 by omega]
     have hA:cA p x=(bif decide (kI x<7) then decide ((p.length:Int)>1) else false):=by unfold cA;cases decide (kI x<7)<;>rfl
     refine zat (cA p x) (by rw[hA];show(bif decide (kI x<7) then _ else _)=_;cases decide (kI x<7)<;>rfl) ?_;cases c3:cA p x with
     | true=>
      rw[c3,cond_true] at hT;subst hT;have h2:(p.length:Int)>1:=by rw[cA,and_eq_true] at c3;exact of_decide_eq_true c3.2
      exact zds rfl (hjoin 3 (.inl rfl) h2)
     | false =>
      refine zdl rfl ?_;rw[c3,cond_false] at hT;have hB:cB p x=(bif decide (kI x<9) then decide ((p.length:Int)>1) else false):=by unfold cB;cases decide (kI x<9)<;>rfl
      refine zat (cB p x) (by rw[hB];show(bif decide (kI x<9) then _ else _)=_;cases decide (kI x<9)<;>rfl) ?_;cases c4:cB p x with
      | true=>
       rw[c4,cond_true] at hT;subst hT;have h2:(p.length:Int)>1:=by rw[cB,and_eq_true] at c4;exact of_decide_eq_true c4.2
       exact zds rfl (hjoin 4 (.inr rfl) h2)
      | false =>
       refine zdl rfl ?_;rw[c4,cond_false] at hT;have hC:cC p g x=(bif kI x==9 then(bif decide ((p.length:Int)>0) then decide (g<9) else false) else false):=by unfold cC;cases kI x==9<;>cases decide ((p.length:Int)>0)<;>rfl
       refine zat (cC p g x) (by rw[hC];show(bif kI x==9 then _ else _)=_;cases kI x==9<;>cases decide ((p.length:Int)>0)<;>rfl) ?_;cases c5:cC p g x with
       | true=>
        rw[c5,cond_true] at hT;subst hT;have h3:(p.length:Int)>0/\ g<9:=by
         simp only[cC,and_eq_true,decide_eq_true_eq] at c5;exact⟨c5.1.2,c5.2⟩
        have hne:p.isEmpty=false:=by cases p with|nil=>simp at h3|cons _ _=>rfl
        have q1:=z0c (k:=1) (p:=p) (by omega) (by omega);refine zds rfl (zdl hne (zg (by omega) (zg (by omega) (zg (by omega) (zg (by omega) (zk fun x4 e4=> ?_))))));rw[show((p.length:Int)-1)=(p.length:Int)-((1:Nat):Int) from rfl,q1] at e4;subst e4;refine zaj _ rfl (zg (by omega) (zg (by omega) (zk fun x5 e5=>zg (by omega) ?_)));rw[show((p.length:Int)-1).toNat=p.length-1 by omega]
       | false=>
        refine zdl rfl ?_;rw[c5,cond_false] at hT;cases hpe:p.isEmpty with
        | true=>
         have hp0:p=[]:=List.isEmpty_iff.1 hpe;have hD:cD p x=false:=by rw[hp0];simp[cD]
         rw[hD,cond_false] at hT;subst hT;refine zds rfl (zat () ?_ rfl);subst hp0
         show(bif decide (kI x>9) then _ else _)=_
         cases decide (kI x>9)<;>rfl
        | false=>
         have hpos:=zuf hpe;have q1:=z0c (k:=1) (p:=p) (by omega) (by omega);have hD:cD p x=(bif decide (kI x>9) then(bif decide ((p.length:Int)>0) then(((zfh p 1).k:Int) !=1) else false) else false):=by unfold cD;cases decide (kI x>9)<;>cases decide ((p.length:Int)>0)<;>rfl
         refine zdl rfl (zat (cD p x) ?_ ?_)
         ·rw [hD]
          show(bif decide (kI x>9) then _ else _)=_
          cases decide (kI x>9) with
          |false=>rfl
          | true=>
           cases decide ((p.length:Int)>0) with
           |false=>rfl
           | true=>
            refine zg (by omega) (zg (by omega) (zg (by omega) (zk fun x4 e4=> ?_)));rw[show((p.length:Int)-1)=(p.length:Int)-((1:Nat):Int) from rfl,q1] at e4;subst e4;rfl
         ·cases c6:cD p x with
          |false=>rw[c6,cond_false] at hT;subst hT;rfl
          | true=>
           rw[c6,cond_true] at hT;refine zds rfl (zg (by rw[tm3];omega) (zg (by rw[tm4];omega) (zat (moM x) ?_ ?_)))
           ·refine zat (badM x) ?_ ?_
            ·unfold badM m4 loM
             show(bif decide (((x.2.2%4:Nat):Int)<((x.2.1%3:Nat):Int)) then _ else bif ((x.2.2%4:Nat):Int)==0 then _ else bif ((x.2.1%3:Nat):Int)==1 then some (inl (((x.2.2%4:Nat):Int)==1)) else _)=_
             cases decide (((x.2.2%4:Nat):Int)<((x.2.1%3:Nat):Int))<;>cases ((x.2.2%4:Nat):Int)==0<;>cases ((x.2.1%3:Nat):Int)==1<;>rfl
            ·unfold moM;cases badM x<;>rfl
           ·have ht:=qic x;have htm:max (max (tmod ((x.2.1:Nat):Int) 3) (moM x)) 1=tmM x:=rfl;have hmul:0<=u*tmM x/\ u*tmM x<=48:=by
             have h1:=Int.mul_le_mul (a:=u) (b:=tmM x) (c:=16) (d:=3) (by omega) (by omega) (by omega) (by omega);have h2:=Int.mul_nonneg (a:=u) (b:=tmM x) (by omega) (by omega);omega
            refine zg (by rw[htm];omega) ?_;cases c7:decide (u*tmM x<=16) with
            |false=>rw[c7,cond_false] at hT;subst hT;exact zdl c7 rfl
            | true=>
             rw[c7,cond_true] at hT;subst hT;refine zds c7 (zg (by rw[htm];omega) (zg (by omega) (zg (by omega) (zg (by omega) (zg (by omega) (zk fun x4 e4=> ?_))))));rw[show((p.length:Int)-1)=(p.length:Int)-((1:Nat):Int) from rfl,q1] at e4;subst e4;refine zaj _ rfl (zg (by omega) (zg (by omega) (zk fun x5 e5=> ?_)));rw[show((p.length:Int)-1).toNat=p.length-1 by omega];rfl
  ·exact zdl (by simp) rfl
 ·obtain⟨i1,i2,i3,i4,i5⟩:=hI m.length (le_refl _);generalize (MM m m.length).1=p at i1⊢
  have hp:=zaw p;have hsz: ∀y∈p,(pre y).length<=25:=fun y hy=>by have:=zcp hy;omega
  match p,hp,hsz,i1 with
  | [],_,_,_=>
   refine zql (z8b [97]) ?_ rfl;refine zds rfl (zds rfl (zg (by decide) (zk fun x2 e2=> ?_)));subst e2;rfl
  | y ::q,hp,hsz,i1=>
   refine zat () ?_ ?_
   ·refine zdl rfl (zdl (by simp;omega) rfl)
   ·refine zdl rfl (zg (by simp) (zg (by simp) (zk fun x25 e25=> ?_)));have e25:y=x25:=e25;subst e25;refine zat (qox (y::q)) ?_ rfl;by_cases hq:q=[]
    ·subst hq;refine zds rfl (zg (by omega) ?_)
     match fuel,hf with
     |f+1,_=>rfl
    ·have hq1:0<q.length:=List.length_pos_iff.2 hq;refine zdl (by simp;omega) (zg (by simp;omega) ?_);have hend:=qmy (p:=y::q) (by simp);simp only[length_cons] at hp i1 hend⊢;refine zit q.length (fun i=>((i:Int),qju (y::q) i)) rfl (fun i hi=> ?_) ?_ (by omega)
     ·refine zds (by simp;omega) (zg (by simp only;omega) (zg (by simp only;omega) (zk fun x26 e26=> ?_)));simp only at e26;have e26':(y::q)[i+1]'(by simp;omega)=x26:=by
       rw[<-e26,show(((toNat 1:Nat):Int)+(i:Int))=((i+1:Nat):Int) by simp;omega,zgy (by simp;omega)]
      have hacc:=qgb (p:=y::q) (by simp) i (by simp;omega);have htk:=zsg (y::q) (i+1);have hj:=z9o (fuel:=fuel) 4 (qju (y::q) i) x26 (.inr rfl) (by omega) ⟨by omega,by rw[<-e26'];have:=hsz _ (getElem_mem (l:=y::q) (n:=i+1) (by simp;omega));omega⟩;refine zaj _ hj (zg (by simp only;omega) ?_);rw[z2y (p:=y::q) (i:=i) (by simp;omega),e26'];rfl
     ·refine zdl (by simp) ?_;simp only[Nat.add_sub_cancel] at hend;rw[hend]
theorem qoo (l:List Sm)(h:l.length<2^63/\ ∀x∈l,x.2.1<256):Pure (ITP prog) prog 8 [.list l.length (Enc.cellsL l) .none] (.agg (Enc.cells (zrl l))):=made_sh 61 l _ (made_eq l h.1 h.2 (by decide))
section
variable {H:Bool} {P:Program} {Ω:CallP} {Ψ:CallS}
def preW (run:Run)(n:Nat)(ms:List Bool)(c:Code)(S:List AV)(U:St):Option (List AV×St):=match qgm run n c S U with
 |some (S1,U1)=>some (fgM ms S1,U1)
 |none=>none
theorem w_preW (hG:Good P Ω Ψ) {k k0:Nat} {Q:AQ} {S S':List AV} {U U':St} {ms:List Bool} (n:Nat)(c:Code)(h:preW (evQ H P Ω Ψ k) (n+1) ms c S U=some (S',U'))(hk:awp (ITP P) P none k0 (sufC (n+1) c) Q S' U'):awp (ITP P) P none k0 c Q S U:=by
 unfold preW at h;split at h
 ·rename_i S1 U1 h1;cases h;exact w_pre hG n c S U _ _ h1 (zqk ms rfl rfl) hk
 ·cases h
end
def awM0:List Bool:=[true,true,true,true,true,false,false,false,false,false,false,false,false,false,false,false,false,false,false,false,false,false,false,false,false,false,false,false,false,false,false,false,false,false,false,false,false,false,false,false,false,false,false,false,false,false,false,false,false,false,false,false,false,false,false,false,false,false,false,false,false,false,false,false,false,false,false,false,false,false,false,false,false,false,false,false,false,false,false,false,false,false,false,false,false,false,false,false,false,false,false,false,false,false,false,false,false,false,false,false,false,false,false,false,false,false,false,false,false,false,false,false,false,false,false,false,false,false,false,false,false,false,false,false,false,false,false,false,false,false,false,false,false,false,false,false,false,false,false,false,false,false,false,false,false,false,false]
def awM3:List Bool:=[true,true,true,true,true,true,true,true,true,true,true,true,true,true,true,true,true,true,true,true,true,true,true,true,true,true,true,true,true,true,true,true,true,true,true,true,true,true,true,true,true,true,true,true,true,true,true,true,true,true,true,true,true,true,true,true,true,true,true,true,true,true,true,true,true,true,true,true,false,true,true,true,true,true,true,true,true,true,true,true,true,true,true,true,true,true,true,true,true,true,true,true,true,true,true,true,true,true,true,true,true,true,true,true,true,true,true,true,true,true,true,true,true,true,true,true,true,true,true,true,true,true,true,true,true,true,true,true,true,true,true,true,true,true,true,true,true,true,true,true,true,true,true,true,true,true,true]
theorem ent7:Ent prog 7:=enters_of Tryz.func7 (by kernel_rfl) rfl
theorem qbx:Pure (ITP prog) prog 7 [] (.raw (.bool true)):=by
 obtain⟨d,hd⟩: ∃d,Tryz.f7.body=some d:=⟨_,rfl⟩;refine zhn mix Tryz.func7 hd ent7 ?_;cases hd;refine w_preW (H:=true) (S':=awS) (U':=awσ) (ms:=awM0) (k:=300) qax 5 _ (by kernel_rfl) ?_;show awp (ITP prog) prog none 0 (.seq _ _) _ _ _;refine qnj awS awσ (qho mix awM (sg:=sgL awσ []) (SL:=awSL) (E:=awE) (it:=68) (d69:=69) (d70:=70) (d71:=71) (ri:=38) awMs (fun hF=>aw_map rfl hF) (by kernel_rfl) (by kernel_rfl) (by kernel_rfl) (by kernel_rfl) (by kernel_rfl) rfl (fun r=>by kernel_rfl) ⟨rfl,rfl,rfl⟩ ⟨rfl,rfl,rfl⟩ ⟨rfl,rfl,rfl⟩ rfl (fun r=>by kernel_rfl) (fun r=>by kernel_rfl) ⟨by decide,by decide,by decide,by decide,le_of_ble_eq_true rfl,le_of_ble_eq_true rfl,le_of_ble_eq_true rfl,le_of_ble_eq_true rfl⟩ (fun r=>by kernel_rfl) (fun r=>by kernel_rfl) (by kernel_rfl) ?_ (fun r=>(show fgM awM3 (awSL r)=awS by kernel_rfl)▸zos awM3 (awSL r))) ?_
 ·intro r q hq;simp only[awM,mem_cons,List.not_mem_nil,or_false] at hq;rcases hq with rfl|rfl|rfl|rfl|rfl|rfl
  ·exact znl (H:=true) (k:=300) (ms:=awM2) (zjg zod) (by kernel_rfl)
  ·exact znl (H:=true) (k:=300) (ms:=awM2) (zjg zod) (by kernel_rfl)
  ·exact znl (H:=true) (k:=300) (ms:=awM2) (zjg zod) (by kernel_rfl)
  ·exact znl (H:=true) (k:=300) (ms:=awM2) (zjg zod) (by kernel_rfl)
  ·exact znl (H:=true) (k:=300) (ms:=awM2) (zjg zod) (by kernel_rfl)
  ·exact znl (H:=true) (k:=300) (ms:=awM2) (zjg zod) (by kernel_rfl)
 ·exact w_tail (H:=true) (k:=300) (zjg zod) (by kernel_rfl)
def zkk (text:(List UInt8))(want:Tr)(begin:Bool)(end_:Bool):Option Bool:=
 (zai (qlr 1100 2000 text) (fun x1=>(zai (zrr (Rg.mk false false want)) (fun x2=>(bif (x2 !=0) then(bif (x1.2.2==x2) then(some (x1.2.1==(length text:Int))) else(some false)) else(bif (x1.2.2==0) then(bif (x1.2.1==(length text:Int)) then(zai (zuz x1.1.t want) (fun x3=>(bif x3 then(bif (x1.1.b==begin) then(some (x1.1.e==end_)) else(some false)) else(some false)))) else(some false)) else(some false)))))))
theorem ent11:Ent prog 11:=enters_of Tryz.func11 (by kernel_rfl) rfl
theorem zmd (text:(List UInt8))(want:Tr)(begin:Bool)(end_:Bool)(r:Bool)(h:zkk text want begin end_=some r):Pure (ITP prog) prog 11 [.raw (.string (bs text)),.agg (Enc.cells (want:Tr)),.raw (.bool begin),.raw (.bool end_)] (.raw (.bool r)):=by
 obtain⟨d,hd⟩: ∃d,Tryz.f11.body=some d:=⟨_,rfl⟩;refine zhn mix Tryz.func11 hd ent11 ?_;cases hd;unfold zkk at h;refine zbo (by dsimp only[zam,Tryz.f11,length_cons,length_nil,Nat.zero_add,Nat.reduceAdd,Nat.reduceSub,List.replicate,cons_append,nil_append]) (by dsimp only[St.empty]) ?_;refine wq 1 ?_;refine zda (Enc.cells (want:Tr)) ?_;refine wq 3 ?_;obtain⟨x1,hx1,h⟩:=zp h;refine zcj (args':=[.s text]) (r:= .tup [.agg (Enc.cells (x1.1:Rg)),.i x1.2.1,.i x1.2.2]) (qgr 1100 2000 text x1 hx1) rfl rfl (ze rfl rfl) (by kernel_rfl) (by dsimp only[zae,List.set]) ?_;refine wq 4 ?_;refine zda [.b false,.b false,.u 0,.raw (.int .u64 0),.raw (.int .u64 0),.raw (.int .u64 0),.raw (.int .u64 0),.i 0,.i 0,.list 0 [] .full] ?_;refine zer 10 (Enc.cells (x1.1:Rg)) ?_;refine wq 2 ?_;refine zj ?_;refine wq 2 ?_;refine qon (.agg (Enc.cells ((Rg.mk false false want):Rg))) rfl rfl rfl rfl (show zcx (.agg (Enc.cells ((Rg.mk false false want):Rg)))=_ from congrArg AV.agg (zdh _ (Enc.clo ((Rg.mk false false want):Rg)))) (by dsimp only[zae,List.set]) ?_;obtain⟨x2,hx2,h⟩:=zp h;refine zcj (args':=[.agg (Enc.cells ((Rg.mk false false want):Rg))]) (r:= .i x2) (z9e (Rg.mk false false want) x2 hx2) rfl rfl (ze (zbg (zn (Enc.clo _))) rfl) (za (zz _ _ (zn (Enc.clo _))) rfl) (by dsimp only[zae,List.set]) ?_;refine wq 4 ?_;refine zac h (fun hc1 h=> ?_) (fun hc1 h=> ?_);refine zex hc1 rfl ?_;refine wq 4 ?_;refine zac h (fun hc2 h=> ?_) (fun hc2 h=> ?_);refine w_o (a:= .b true) (h:=zap (zcc rfl hc2)) ?_;refine wq 2 ?_;refine zaf rfl rfl ?_;refine w_o (a:= .i (length text:Int)) (h:=zap (zep rfl rfl rfl)) ?_;refine wq 3 ?_;exact zbb h;refine w_o (a:= .b false) (h:=zap (zcc rfl hc2)) ?_;refine wq 6 ?_;exact zbb h;refine zez hc1 rfl ?_;refine wq 3 ?_;refine zac h (fun hc3 h=> ?_) (fun hc3 h=> ?_);refine w_o (a:= .b true) (h:=zap (zcc rfl hc3)) ?_;refine wq 2 ?_;refine zaf rfl rfl ?_;refine w_o (a:= .i (length text:Int)) (h:=zap (zep rfl rfl rfl)) ?_;refine wq 2 ?_;refine zac h (fun hc4 h=> ?_) (fun hc4 h=> ?_);refine w_o (a:= .b true) (h:=zap (zcc rfl hc4)) ?_;refine zaf rfl rfl ?_;refine w_o (a:= .ptr 1 2) ?_;refine zaf rfl rfl ?_;refine w_o (a:= .agg (Enc.cells (x1.1.t:Tr))) ?_;refine wq 1 ?_;refine zaf rfl rfl ?_;obtain⟨x3,hx3,h⟩:=zp h;refine zcj (args':=[.agg (Enc.cells (x1.1.t:Tr)),.agg (Enc.cells (want:Tr))]) (r:= .b x3) (z7l x1.1.t want x3 hx3) rfl rfl (ze (zbg (zn (Enc.clo _))) (ze (zbg (zn (Enc.clo _))) rfl)) (za (zz _ _ (zn (Enc.clo _))) (za (zz _ _ (zn (Enc.clo _))) rfl)) (by dsimp only[zae,List.set]) ?_;refine wq 1 ?_;refine zac h (fun hc5 h=> ?_) (fun hc5 h=> ?_);refine w_o (a:= .b true) (h:=zap (zcc rfl hc5)) ?_;refine wq 3 ?_;refine zaf rfl rfl ?_;refine w_o (a:= .b (x1.1.b==begin)) (h:=zap (by kernel_rfl)) ?_;refine wq 1 ?_;refine zac h (fun hc6 h=> ?_) (fun hc6 h=> ?_);refine w_o (a:= .b true) (h:=zap (zcc rfl hc6)) ?_;refine wq 3 ?_;refine zaf rfl rfl ?_;refine w_o (a:= .b (x1.1.e==end_)) (h:=zap (by kernel_rfl)) ?_;refine wq 2 ?_;exact zbb h;refine w_o (a:= .b false) (h:=zap (zcc rfl hc6)) ?_;refine wq 6 ?_;exact zbb h;refine w_o (a:= .b false) (h:=zap (zcc rfl hc5)) ?_;refine wq 12 ?_;exact zbb h;refine w_o (a:= .b false) (h:=zap (zcc rfl hc4)) ?_;refine wq 18 ?_;exact zbb h;refine w_o (a:= .b false) (h:=zap (zcc rfl hc3)) ?_;refine wq 24 ?_;exact zbb h
def qke (fuel:Nat)(k:(List Sm))(l:(List Sm)):Option Bool:=
 (chk (length k<2^63/\ ∀y∈k,y.2.1<256) (zay (zrl k) (fun x1=>(chk (length l<2^63/\ ∀y∈l,y.2.1<256) (zay (zrl l) (fun x2=>(zai (qey fuel [x1,x2]) (fun x3=>(bif (!x3) then(some true) else(chk ((pre x1).length<2^40/\ SY x1) (zay (zdc x1) (fun x4=>(chk ((pre x2).length<2^40/\ SY x2) (zay (zdc x2) (fun x5=>(zai (zkk x4 x1 false false) (fun x6=>(bif x6 then(chk (length ([94]:List UInt8)+length x4<=9223372036854775807) (zai (zkk (([94]:List UInt8)++x4) x1 true false) (fun x7=>(bif x7 then(chk (length x4+length ([36]:List UInt8)<=9223372036854775807) (zai (zkk (x4++([36]:List UInt8)) x1 false true) (fun x8=>(bif x8 then(chk (length ([94]:List UInt8)+length x4<=9223372036854775807) (chk (length (([94]:List UInt8)++x4)+length ([36]:List UInt8)<=9223372036854775807) (zai (zkk ((([94]:List UInt8)++x4)++([36]:List UInt8)) x1 true true) (fun x9=>(bif x9 then(chk (length ([40,63,58]:List UInt8)+length x4<=9223372036854775807) (chk (length (([40,63,58]:List UInt8)++x4)+length ([41]:List UInt8)<=9223372036854775807) (zai (zkk ((([40,63,58]:List UInt8)++x4)++([41]:List UInt8)) x1 false false) (fun x10=>(bif x10 then(chk (length ([40]:List UInt8)+length x4<=9223372036854775807) (chk (length (([40]:List UInt8)++x4)+length ([41]:List UInt8)<=9223372036854775807) (chk ((pre x1).length<2^60) (zay (zgz x1) (fun x11=>(zai (zkk ((([40]:List UInt8)++x4)++([41]:List UInt8)) x11 false false) (fun x12=>(bif x12 then(chk (length x4+length ([124]:List UInt8)<=9223372036854775807) (chk (length (x4++([124]:List UInt8))+length x5<=9223372036854775807) (chk ((zbi [x1,x2]).length<=2^40) (zay (orT [x1,x2]) (fun x13=>(zai (zkk ((x4++([124]:List UInt8))++x5) x13 false false) (fun x14=>(bif x14 then(chk (length ([40,63,58]:List UInt8)+length x4<=9223372036854775807) (chk (length (([40,63,58]:List UInt8)++x4)+length ([41,40,63,58]:List UInt8)<=9223372036854775807) (chk (length ((([40,63,58]:List UInt8)++x4)++([41,40,63,58]:List UInt8))+length x5<=9223372036854775807) (chk (length (((([40,63,58]:List UInt8)++x4)++([41,40,63,58]:List UInt8))++x5)+length ([41]:List UInt8)<=9223372036854775807) (chk ((zbi [x1,x2]).length<=2^40) (zay (zoj [x1,x2]) (fun x15=>(zai (zkk ((((([40,63,58]:List UInt8)++x4)++([41,40,63,58]:List UInt8))++x5)++([41]:List UInt8)) x15 false false) (fun x16=>(some x16)))))))))) else(some false))))))))) else(some false))))))))) else(some false)))))) else(some false)))))) else(some false))))) else(some false))))) else(some false)))))))))))))))))))
theorem ent3:Ent prog 3:=enters_of Tryz.func3 (by kernel_rfl) rfl
theorem rxj_sh (fuel:Nat)(k:(List Sm))(l:(List Sm))(r:Bool)(h:qke fuel k l=some r):Pure (ITP prog) prog 3 [.list (length (k:List Sm)) (Enc.cellsL (k:List Sm)) .none,.list (length (l:List Sm)) (Enc.cellsL (l:List Sm)) .none] (.raw (.bool r)):=by
 obtain⟨d,hd⟩: ∃d,Tryz.f3.body=some d:=⟨_,rfl⟩;refine zhn mix Tryz.func3 hd ent3 ?_;cases hd;unfold qke at h;refine zbo (by dsimp only[zam,Tryz.f3,length_cons,length_nil,Nat.zero_add,Nat.reduceAdd,Nat.reduceSub,List.replicate,cons_append,nil_append]) (by dsimp only[St.empty]) ?_;refine wq 2 ?_;refine zj ?_;refine wq 1 ?_;refine zcj (args':=[]) (r:= .b true) qbx rfl rfl rfl rfl (by dsimp only[zae,List.set]) ?_;refine wq 1 ?_;refine zce rfl ?_;refine wq 2 ?_;obtain⟨g1,h⟩:=zf h;obtain⟨x1,hx1,h⟩:=zi h;refine zcj (args':=[.list (length (k:List Sm)) (Enc.cellsL (k:List Sm)) .none]) (r:= .agg (Enc.cells (x1:Tr))) (by rw[<-hx1];exact(qoo k g1)) rfl rfl (ze (zgt (Enc.cloL _)) rfl) (za (zbd (Enc.cloL _)) rfl) (by dsimp only[zae,List.set]) ?_;refine zao ?_;obtain⟨g2,h⟩:=zf h;obtain⟨x2,hx2,h⟩:=zi h;refine zcj (args':=[.list (length (l:List Sm)) (Enc.cellsL (l:List Sm)) .none]) (r:= .agg (Enc.cells (x2:Tr))) (by rw[<-hx2];exact(qoo l g2)) rfl rfl (ze (zgt (Enc.cloL _)) rfl) (za (zbd (Enc.cloL _)) rfl) (by dsimp only[zae,List.set]) ?_;iterate 2 refine zda zN ?_
 refine zer 8 (Enc.cells (x1:Tr)) ?_;refine zer 8 (Enc.cells (x2:Tr)) ?_;refine zj ?_;refine wq 3 ?_;refine w_o (a:= .list (length ([x1,x2]:List Tr)) (Enc.cellsL ([x1,x2]:List Tr)) .full) (h:=zap (zhr (α:=Tr) (l:=[x1,x2]) (cs:=Enc.cells (x1:Tr)++(Enc.cells (x2:Tr)++[])) rfl (by rw[Enc.cons,Enc.cons,Enc.nil]))) ?_;obtain⟨x3,hx3,h⟩:=zp h;refine zcj (args':=[.list (length ([x1,x2]:List Tr)) (Enc.cellsL ([x1,x2]:List Tr)) .none]) (r:= .b x3) (few_sh fuel [x1,x2] x3 hx3) rfl rfl (ze (zgt (Enc.cloL _)) rfl) (za (zbd (Enc.cloL _)) rfl) (by dsimp only[zae,List.set]) ?_;refine wq 1 ?_;refine zac h (fun hc1 h=> ?_) (fun hc1 h=> ?_);refine zex hc1 rfl ?_;refine wq 2 ?_;exact zbb h;refine zez hc1 rfl ?_;refine zj ?_;refine zgq (k0:=0) (id:=6) 3 (by kernel_rfl) (by kernel_rfl) ?_;refine wq 1 ?_;obtain⟨g3,h⟩:=zf h;obtain⟨x4,hx4,h⟩:=zi h;refine qgi (args':=[.agg (Enc.cells (x1:Tr))]) (r:= .s x4) (by rw[<-hx4];exact(k_say x1 g3)) rfl rfl rfl (ze (zbg (zn (Enc.clo _))) rfl) (za (zz _ _ (zn (Enc.clo _))) rfl) (by dsimp only[zae,List.set]) ?_;refine wq 1 ?_;refine zhw ?_;obtain⟨g4,h⟩:=zf h;obtain⟨x5,hx5,h⟩:=zi h;refine zcj (args':=[.agg (Enc.cells (x2:Tr))]) (r:= .s x5) (by rw[<-hx5];exact(k_say x2 g4)) rfl rfl (ze (zbg (zn (Enc.clo _))) rfl) (za (zz _ _ (zn (Enc.clo _))) rfl) (by dsimp only[zae,List.set]) ?_;refine wq 3 ?_;refine w_o (a:= .clos 11 []) ?_;refine wq 4 ?_;obtain⟨x6,hx6,h⟩:=zp h;refine zcj (args':=[.s x4,.agg (Enc.cells (x1:Tr)),.b false,.b false]) (r:= .b x6) (zmd x4 x1 false false x6 hx6) rfl rfl (ze rfl (ze (zbg (zn (Enc.clo _))) (ze rfl (ze rfl rfl)))) (za rfl (za (zz _ _ (zn (Enc.clo _))) (by kernel_rfl))) (by dsimp only[zae,List.set]) ?_;refine zac h (fun hc2 h=> ?_) (fun hc2 h=> ?_);refine w_o (a:= .b true) (h:=zap (zcc rfl hc2)) ?_;refine wq 2 ?_;refine zaf rfl rfl ?_;obtain⟨g5,h⟩:=zf h;refine w_o (a:= .s (([94]:List UInt8)++x4)) (h:=zap (zbh g5 rfl rfl rfl)) ?_;refine wq 1 ?_;refine zaf rfl rfl ?_;obtain⟨x7,hx7,h⟩:=zp h;refine zcj (args':=[.s (([94]:List UInt8)++x4),.agg (Enc.cells (x1:Tr)),.b true,.b false]) (r:= .b x7) (zmd (([94]:List UInt8)++x4) x1 true false x7 hx7) rfl rfl (ze rfl (ze (zbg (zn (Enc.clo _))) (ze rfl (ze rfl rfl)))) (za rfl (za (zz _ _ (zn (Enc.clo _))) (by kernel_rfl))) (by dsimp only[zae,List.set]) ?_;refine wq 1 ?_;refine zac h (fun hc3 h=> ?_) (fun hc3 h=> ?_);refine w_o (a:= .b true) (h:=zap (zcc rfl hc3)) ?_;refine wq 2 ?_;refine zaf rfl rfl ?_;obtain⟨g6,h⟩:=zf h;refine w_o (a:= .s (x4++([36]:List UInt8))) (h:=zap (zbh g6 rfl rfl rfl)) ?_;refine wq 1 ?_;refine zaf rfl rfl ?_;obtain⟨x8,hx8,h⟩:=zp h;refine zcj (args':=[.s (x4++([36]:List UInt8)),.agg (Enc.cells (x1:Tr)),.b false,.b true]) (r:= .b x8) (zmd (x4++([36]:List UInt8)) x1 false true x8 hx8) rfl rfl (ze rfl (ze (zbg (zn (Enc.clo _))) (ze rfl (ze rfl rfl)))) (za rfl (za (zz _ _ (zn (Enc.clo _))) (by kernel_rfl))) (by dsimp only[zae,List.set]) ?_;refine wq 1 ?_;refine zac h (fun hc4 h=> ?_) (fun hc4 h=> ?_);refine w_o (a:= .b true) (h:=zap (zcc rfl hc4)) ?_;refine wq 2 ?_;refine zaf rfl rfl ?_;obtain⟨g7,h⟩:=zf h;refine w_o (a:= .s (([94]:List UInt8)++x4)) (h:=zap (zbh g7 rfl rfl rfl)) ?_;refine zaf rfl rfl ?_;obtain⟨g8,h⟩:=zf h;refine w_o (a:= .s ((([94]:List UInt8)++x4)++([36]:List UInt8))) (h:=zap (zbh g8 rfl rfl rfl)) ?_;refine wq 1 ?_;refine zaf rfl rfl ?_;obtain⟨x9,hx9,h⟩:=zp h;refine zcj (args':=[.s ((([94]:List UInt8)++x4)++([36]:List UInt8)),.agg (Enc.cells (x1:Tr)),.b true,.b true]) (r:= .b x9) (zmd ((([94]:List UInt8)++x4)++([36]:List UInt8)) x1 true true x9 hx9) rfl rfl (ze rfl (ze (zbg (zn (Enc.clo _))) (ze rfl (ze rfl rfl)))) (za rfl (za (zz _ _ (zn (Enc.clo _))) (by kernel_rfl))) (by dsimp only[zae,List.set]) ?_;refine wq 1 ?_;refine zac h (fun hc5 h=> ?_) (fun hc5 h=> ?_);refine w_o (a:= .b true) (h:=zap (zcc rfl hc5)) ?_;refine wq 2 ?_;refine zaf rfl rfl ?_;obtain⟨g9,h⟩:=zf h;refine w_o (a:= .s (([40,63,58]:List UInt8)++x4)) (h:=zap (zbh g9 rfl rfl rfl)) ?_;refine zaf rfl rfl ?_;obtain⟨g10,h⟩:=zf h;refine w_o (a:= .s ((([40,63,58]:List UInt8)++x4)++([41]:List UInt8))) (h:=zap (zbh g10 rfl rfl rfl)) ?_;refine wq 1 ?_;refine zaf rfl rfl ?_;obtain⟨x10,hx10,h⟩:=zp h;refine zcj (args':=[.s ((([40,63,58]:List UInt8)++x4)++([41]:List UInt8)),.agg (Enc.cells (x1:Tr)),.b false,.b false]) (r:= .b x10) (zmd ((([40,63,58]:List UInt8)++x4)++([41]:List UInt8)) x1 false false x10 hx10) rfl rfl (ze rfl (ze (zbg (zn (Enc.clo _))) (ze rfl (ze rfl rfl)))) (za rfl (za (zz _ _ (zn (Enc.clo _))) (by kernel_rfl))) (by dsimp only[zae,List.set]) ?_;refine wq 1 ?_;refine zac h (fun hc6 h=> ?_) (fun hc6 h=> ?_);refine w_o (a:= .b true) (h:=zap (zcc rfl hc6)) ?_;refine wq 2 ?_;refine zaf rfl rfl ?_;obtain⟨g11,h⟩:=zf h;refine w_o (a:= .s (([40]:List UInt8)++x4)) (h:=zap (zbh g11 rfl rfl rfl)) ?_;refine zaf rfl rfl ?_;obtain⟨g12,h⟩:=zf h;refine w_o (a:= .s ((([40]:List UInt8)++x4)++([41]:List UInt8))) (h:=zap (zbh g12 rfl rfl rfl)) ?_;refine wq 1 ?_;refine zaf rfl rfl ?_;obtain⟨g13,h⟩:=zf h;obtain⟨x11,hx11,h⟩:=zi h;refine zcj (args':=[.agg (Enc.cells (x1:Tr))]) (r:= .agg (Enc.cells (x11:Tr))) (by rw[<-hx11];exact(z0w x1 g13)) rfl rfl (ze (zbg (zn (Enc.clo _))) rfl) (za (zz _ _ (zn (Enc.clo _))) rfl) (by dsimp only[zae,List.set]) ?_;refine zaf rfl rfl ?_;obtain⟨x12,hx12,h⟩:=zp h;refine zcj (args':=[.s ((([40]:List UInt8)++x4)++([41]:List UInt8)),.agg (Enc.cells (x11:Tr)),.b false,.b false]) (r:= .b x12) (zmd ((([40]:List UInt8)++x4)++([41]:List UInt8)) x11 false false x12 hx12) rfl rfl (ze rfl (ze (zbg (zn (Enc.clo _))) (ze rfl (ze rfl rfl)))) (za rfl (za (zz _ _ (zn (Enc.clo _))) (by kernel_rfl))) (by dsimp only[zae,List.set]) ?_;refine wq 1 ?_;refine zac h (fun hc7 h=> ?_) (fun hc7 h=> ?_);refine w_o (a:= .b true) (h:=zap (zcc rfl hc7)) ?_;refine wq 2 ?_;refine zaf rfl rfl ?_;obtain⟨g14,h⟩:=zf h;refine w_o (a:= .s (x4++([124]:List UInt8))) (h:=zap (zbh g14 rfl rfl rfl)) ?_;refine wq 1 ?_;refine zaf rfl rfl ?_;obtain⟨g15,h⟩:=zf h;refine w_o (a:= .s ((x4++([124]:List UInt8))++x5)) (h:=zap (zbh g15 rfl rfl rfl)) ?_;refine wq 2 ?_;refine zaf rfl rfl ?_;refine w_o (a:= .list (length ([x1,x2]:List Tr)) (Enc.cellsL ([x1,x2]:List Tr)) .full) (h:=zap (zhr (α:=Tr) (l:=[x1,x2]) (cs:=Enc.cells (x1:Tr)++(Enc.cells (x2:Tr)++[])) rfl (by rw[Enc.cons,Enc.cons,Enc.nil]))) ?_;refine zaf rfl rfl ?_;obtain⟨g16,h⟩:=zf h;obtain⟨x13,hx13,h⟩:=zi h;refine zcj (args':=[.list (length ([x1,x2]:List Tr)) (Enc.cellsL ([x1,x2]:List Tr)) .none]) (r:= .agg (Enc.cells (x13:Tr))) (by rw[<-hx13];exact(k_or [x1,x2] g16)) rfl rfl (ze (zgt (Enc.cloL _)) rfl) (za (zbd (Enc.cloL _)) rfl) (by dsimp only[zae,List.set]) ?_;refine zaf rfl rfl ?_;obtain⟨x14,hx14,h⟩:=zp h;refine zcj (args':=[.s ((x4++([124]:List UInt8))++x5),.agg (Enc.cells (x13:Tr)),.b false,.b false]) (r:= .b x14) (zmd ((x4++([124]:List UInt8))++x5) x13 false false x14 hx14) rfl rfl (ze rfl (ze (zbg (zn (Enc.clo _))) (ze rfl (ze rfl rfl)))) (za rfl (za (zz _ _ (zn (Enc.clo _))) (by kernel_rfl))) (by dsimp only[zae,List.set]) ?_;refine wq 1 ?_;refine zac h (fun hc8 h=> ?_) (fun hc8 h=> ?_);refine w_o (a:= .b true) (h:=zap (zcc rfl hc8)) ?_;refine wq 2 ?_;refine zaf rfl rfl ?_;obtain⟨g17,h⟩:=zf h;refine w_o (a:= .s (([40,63,58]:List UInt8)++x4)) (h:=zap (zbh g17 rfl rfl rfl)) ?_;refine zaf rfl rfl ?_;obtain⟨g18,h⟩:=zf h;refine w_o (a:= .s ((([40,63,58]:List UInt8)++x4)++([41,40,63,58]:List UInt8))) (h:=zap (zbh g18 rfl rfl rfl)) ?_;refine wq 1 ?_;refine zaf rfl rfl ?_;obtain⟨g19,h⟩:=zf h;refine w_o (a:= .s (((([40,63,58]:List UInt8)++x4)++([41,40,63,58]:List UInt8))++x5)) (h:=zap (zbh g19 rfl rfl rfl)) ?_;refine zaf rfl rfl ?_;obtain⟨g20,h⟩:=zf h;refine w_o (a:= .s ((((([40,63,58]:List UInt8)++x4)++([41,40,63,58]:List UInt8))++x5)++([41]:List UInt8))) (h:=zap (zbh g20 rfl rfl rfl)) ?_;refine wq 2 ?_;refine zaf rfl rfl ?_;refine w_o (a:= .list (length ([x1,x2]:List Tr)) (Enc.cellsL ([x1,x2]:List Tr)) .full) (h:=zap (zhr (α:=Tr) (l:=[x1,x2]) (cs:=Enc.cells (x1:Tr)++(Enc.cells (x2:Tr)++[])) rfl (by rw[Enc.cons,Enc.cons,Enc.nil]))) ?_;refine zaf rfl rfl ?_;obtain⟨g21,h⟩:=zf h;obtain⟨x15,hx15,h⟩:=zi h;refine zcj (args':=[.list (length ([x1,x2]:List Tr)) (Enc.cellsL ([x1,x2]:List Tr)) .none]) (r:= .agg (Enc.cells (x15:Tr))) (by rw[<-hx15];exact(k_seq [x1,x2] g21)) rfl rfl (ze (zgt (Enc.cloL _)) rfl) (za (zbd (Enc.cloL _)) rfl) (by dsimp only[zae,List.set]) ?_;refine zaf rfl rfl ?_;obtain⟨x16,hx16,h⟩:=zp h;refine zcj (args':=[.s ((((([40,63,58]:List UInt8)++x4)++([41,40,63,58]:List UInt8))++x5)++([41]:List UInt8)),.agg (Enc.cells (x15:Tr)),.b false,.b false]) (r:= .b x16) (zmd ((((([40,63,58]:List UInt8)++x4)++([41,40,63,58]:List UInt8))++x5)++([41]:List UInt8)) x15 false false x16 hx16) rfl rfl (ze rfl (ze (zbg (zn (Enc.clo _))) (ze rfl (ze rfl rfl)))) (za rfl (za (zz _ _ (zn (Enc.clo _))) (by kernel_rfl))) (by dsimp only[zae,List.set]) ?_;refine wq 2 ?_;exact zbb h;refine w_o (a:= .b false) (h:=zap (zcc rfl hc8)) ?_;refine wq 14 ?_;exact zbb h;refine w_o (a:= .b false) (h:=zap (zcc rfl hc7)) ?_;refine wq 26 ?_;exact zbb h;refine w_o (a:= .b false) (h:=zap (zcc rfl hc6)) ?_;refine wq 35 ?_;exact zbb h;refine w_o (a:= .b false) (h:=zap (zcc rfl hc5)) ?_;refine wq 43 ?_;exact zbb h;refine w_o (a:= .b false) (h:=zap (zcc rfl hc4)) ?_;refine wq 51 ?_;exact zbb h;refine w_o (a:= .b false) (h:=zap (zcc rfl hc3)) ?_;refine wq 58 ?_;exact zbb h;refine w_o (a:= .b false) (h:=zap (zcc rfl hc2)) ?_;refine wq 65 ?_;exact zbb h
theorem qcm (t:Tr)(hk:KO t)(h:(pre t).length<=500):zuz t t=some true:=by
 have hf:=qpk t 500 (by decide);unfold zuz;refine zg ⟨by omega,by decide,by decide⟩ (zk fun x hx=> ?_);subst hx;rw[show decide (zua t 500<=500)=true from decide_eq_true (by omega),cond_true];refine zg ⟨by omega,by decide,by decide⟩ (zk fun x hx=> ?_);subst hx;rw[show decide (zua t 500<=500)=true from decide_eq_true (by omega),cond_true];refine zg hk (zk fun x hx=>zg hk (zk fun y hy=> ?_));subst hx hy;refine zg (by simp only;omega) (zk fun x hx=> ?_);rw[<-hx];exact congrArg some ((z3o t t).2 rfl)
theorem KO_of {t:Tr} (h:CR t)(hl:(pre t).length<2^35):KO t:=by
 refine⟨fun x hx=> ?_,hl⟩;have hr:zcn x=true:=all_eq_true.1 h x hx;rcases zvv hr with h|h|h|h|h|h<;>omega
theorem zug (n:Nat)(A:Alts)(b e:Bool)(text:List UInt8)(want:Tr)(hA:qfh n A)(hn:n=1999)(ht:text=(if b=true then[94] else[])++zv A++(if e=true then[36] else[]))(hw:orT (zem A)=want)(hhd: ∀y t,zv A=y::t->y≠94)(hla:zvy (zv A))(hlen:(zv A).length<990):
 zkk text want b e=some true:=by
 subst hn;have hr:=read_eq 1999 A b e hA (by decide) hhd hla hlen;rw[<-ht,hw] at hr;have hwl:(pre want).length<=10000:=by rw[<-hw];exact z3h _
 unfold zkk;refine zaj _ hr ?_;refine zaj _ (z8g false false want (by omega)) ?_;unfold readR;by_cases h0:zks want=0
 ·rw [if_pos h0,h0];dsimp only;rw[show((0:Int) !=0)=false from rfl,cond_false,show((0:Int)==0)=true from rfl,cond_true,show(((text.length:Nat):Int)==(length text:Int))=true by simp,cond_true];have hc:zdd want=true:=by
   cases hc:zdd want with
   |true=>rfl
   |false=>rw[qen hc] at h0;cases h0
  have hsz:(pre want).length<=120:=by
   unfold zks at h0;rw[hc] at h0;have hli:zfv want=true:=by rw[zdd,and_eq_true] at hc;exact hc.1
   by_cases h1:zsj want>120
   ·rw[show decide (zsj want>120)=true from decide_eq_true h1] at h0;simp at h0
   ·rw[zsj,if_pos hli] at h1;omega
  have hcr:CR want:=by rw[zdd,and_eq_true] at hc;exact hc.2
  refine zaj _ (qcm want (KO_of hcr (by omega)) (by omega)) ?_;rw[cond_true];cases b<;>cases e<;>rfl
 ·rw[if_neg h0];dsimp only;rw[show(zks want !=0)=true by simpa using h0,cond_true,show(zks want==zks want)=true by simp,cond_true];simp
theorem z7k: ∀l:List Tr,(∀x∈l,(zdc x).length+20<=1100*(pre x).length)->(zlz l).length<=1100*(zbi l).length
 |[],_=>by simp[zlz]
 | x::l,h=>by
  have h1:=h x (by simp);have h2:=z7k l fun y hy=>h y (by simp[hy]);simp only[zlz,zbi,length_append,length_cons,length_nil];omega
theorem z7e: ∀(l:List Tr) (c:Bool),(∀x∈l,(zdc x).length+20<=1100*(pre x).length)->(zjb c l).length<=1100*(zbi l).length
 |[],_,_=>by simp[zjb]
 | x::l,c,h=>by
  have h1:=h x (by simp);have h2:=z7e l false fun y hy=>h y (by simp[hy]);simp only[zjb,zbi,length_append,length_cons,length_nil];have:(if c=true then[] else[124]:List UInt8).length<=1:=by split<;>simp
  omega
theorem qeh: ∀(n:Nat) (t:Tr),(pre t).length<=n->(zdc t).length+20<=1100*(pre t).length
 | 0,t,h=>by
  have:0<(pre t).length:=by rw[zec];simp
  omega
 | n +1,.mk k s mn mx l,h=>by
  have hp:=z6s k s mn mx l;have ih: ∀x∈l,(zdc x).length+20<=1100*(pre x).length:=fun x hx=>qeh n x (by have:=zcp hx;omega);have hC:=z7k l ih;have hA:=z7e l true ih;have h1:(qap l).length<=1100*(zbi l).length:=by
   cases l with
   |nil=>simp[qap]
   | cons x l=>
    have:=ih x (by simp);simp only[qap,zbi,length_append];omega
  have hb:=zjj (zfq s);have hb2:(zfq s).length<=256:=z4x s 256;have t1:=zke mn.toNat
  have t2:=zke mx.toNat
  have hm:(if mx= -1 then[] else zhi mx.toNat:List UInt8).length<=2:=by split;simp;exact t2
  rw[zdc];split
  ·simp only[length_append,length_cons,length_nil];omega
  split
  ·omega
  split
  ·omega
  split
  ·simp only[length_append,length_cons,length_nil];omega
  split
  ·simp only[length_append,length_cons,length_nil];omega
  ·simp;omega
theorem sy_of {t:Tr} (h:CR t)(hl:(pre t).length<1000):SY t:=by
 refine⟨fun x hx=> ?_,by have:=qeh _ t (le_refl _);omega⟩;have hr:zcn x=true:=all_eq_true.1 h x hx;refine⟨fun h5=> ?_,fun hk=> ?_⟩
 ·have:=z1s (zwu hr h5);omega
 ·obtain⟨y,hy⟩:=zve hr hk;rw[hy];simp
theorem qgs (l:List Sm):CT (zrl l)/\ (pre (zrl l)).length<=50/\ SY (zrl l):=by
 obtain⟨h1,_,_,h4⟩:=made_ok l;exact⟨⟨h1,by omega⟩,h4,sy_of h1 (by omega)⟩
theorem say_hd' (t:Tr)(y:UInt8)(u:List UInt8)(h:zdc t=y::u):y=91 \/y=40:=by
 obtain⟨k,s,mn,mx,l⟩:=t;rw[zdc] at h;split at h
 ·cases h;exact .inl rfl
 split at h
 ·cases l with
  |nil=>simp[zlz] at h
  |cons x l=>rw[zlz] at h;cases h;exact .inr rfl
 split at h
 ·cases l with
  |nil=>simp[zjb] at h
  |cons x l=>rw[zjb] at h;cases h;exact .inr rfl
 split at h
 ·cases h;exact .inr rfl
 split at h
 ·cases h;exact .inr rfl
 ·cases h
theorem zjw {u v:List UInt8} {z:UInt8} (h:u=v++[z])(hz:z≠36/\ z≠92):zvy u:=by
 intro v' z' e;rw[h] at e;have:=List.append_inj' e rfl;have e2:=this.2;cases e2;exact hz
theorem z0o:zvy []:=by
 intro v z e;have:=congrArg length e;simp at this
theorem z1l: ∀l:List Tr,zlz l=[] \/ ∃v,zlz l=v++[41]
 |[]=> .inl rfl
 | x::l=>by
  rcases z1l l with h|⟨v,h⟩
  ·exact .inr ⟨[40,63,58]++zdc x,by rw[zlz,h];simp⟩
  ·exact .inr ⟨[40,63,58]++zdc x++[41]++v,by rw[zlz,h];simp⟩
theorem z3p: ∀(l:List Tr) (c:Bool),zjb c l=[] \/ ∃v,zjb c l=v++[41]
 |[],c=> .inl (by simp[zjb])
 | x::l,c=>by
  rcases z3p l false with h|⟨v,h⟩
  ·exact .inr ⟨(if c=true then[] else[124])++[40,63,58]++zdc x,by rw[zjb,h];simp⟩
  ·exact .inr ⟨(if c=true then[] else[124])++[40,63,58]++zdc x++[41]++v,by rw[zjb,h];simp⟩
theorem qae (t:Tr):zvy (zdc t):=by
 obtain⟨k,s,mn,mx,l⟩:=t;rw[zdc];split
 ·exact zjw rfl (by decide)
 split
 ·rcases z1l l with h|⟨v,h⟩
  ·rw[h];exact z0o
  ·exact zjw h (by decide)
 split
 ·rcases z3p l true with h|⟨v,h⟩
  ·rw[h];exact z0o
  ·exact zjw h (by decide)
 split
 ·exact zjw rfl (by decide)
 split
 ·exact zjw rfl (by decide)
 ·exact z0o
theorem qhp {β ρ:Type} {body:β->Option (β ⊕ ρ)} {s s':β} {r:Option ρ} (n:Nat)(h:body s=some (.inl s'))(k:zaz body n s'=r):zaz body (n+1) s=r:=by rw[zaz,h];exact k
theorem few_two (x y:Tr)(hx:(pre x).length<2^40/\ SY x)(hy:(pre y).length<2^40/\ SY y)(fuel:Nat):qey (fuel+1+1+1) [x,y]=some (decide (((zdc x).length:Int)+((zdc y).length:Int)<900)):=by
 have h1:=hx.2.2;have h2:=hy.2.2;unfold qey;refine zat (((zdc x).length:Int)+((zdc y).length:Int)) ?_ rfl;refine qhp _ (s':=(((zdc x).length:Int),1)) ?_ (qhp _ (s':=(((zdc x).length:Int)+((zdc y).length:Int),2)) ?_ (ztq _ rfl))
 ·dsimp only;rw[show decide ((0:Int)<(length [x,y]:Int))=true from rfl,cond_true];refine zg (by simp) (zk fun z hz=> ?_);have:z=x:=by rw[<-hz];rfl
  subst this;refine zg hx (zk fun z' hz=> ?_);subst hz;refine zg (by omega) (zg (by decide) ?_);rw[Int.zero_add];rfl
 ·dsimp only;rw[show decide ((1:Int)<(length [x,y]:Int))=true from rfl,cond_true];refine zg (by simp) (zk fun z hz=> ?_);have:z=y:=by rw[<-hz];rfl
  subst this;refine zg hy (zk fun z' hz=> ?_);subst hz;exact zg (by omega) (zg (by decide) rfl)
theorem zwt: ∀(A B:Alts),A≠[]->B≠[]->zv (A++B)=zv A++124::zv B
 |[],_,h,_=>absurd rfl h
 | [L],B,_,hB=>by
  obtain⟨M,B',rfl⟩:=List.exists_cons_of_ne_nil hB;rfl
 | L::M::A,B,_,hB=>by
  have:=zwt (M::A) B (by simp) hB;rw[cons_append,cons_append,zii,zii, <-cons_append,this];simp
theorem zif {t:Tr} (h:CT t):zdv 4 0 (zgn t)=zgn t/\ zdv 4 0 [t]=zgn t:=by
 have hk:=h.k0;unfold zgn;by_cases h4:t.k=4
 ·rw[if_pos h4];obtain⟨_,q2⟩:=zib h.right h4;refine⟨?_,by unfold zdv;rw[List.flatMap_cons,kb h4,cond_true];simp⟩;unfold zdv;rw[show t.l.flatMap (fun x=>bif (x.k:Int)==(4:Nat) then x.l else bif (x.k:Int)==(0:Nat) then[] else[x])=t.l.flatMap (fun x=>[x]) from zjr fun x hx=>by
   rw[kbf (q2 x hx),cond_false,kbf (h.sub hx).k0,cond_false]]
  simp
 ·rw[if_neg h4];have e:zdv 4 0 [t]=[t]:=by unfold zdv;rw[List.flatMap_cons,kbf h4,cond_false,kbf hk,cond_false];simp
  exact⟨e,e⟩
theorem zvc {t:Tr} (h:CT t): ∀x∈zgn t,CT x:=by
 unfold zgn;split
 ·exact fun x hx=>h.sub hx
 ·intro x hx;rw[mem_singleton] at hx;subst hx;exact h
theorem or_two {x y:Tr} (hx:CT x)(hy:CT y):orT (zgn x++zgn y)=orT [x,y]:=by
 have fa: ∀a b:List Tr,zdv 4 0 (a++b)=zdv 4 0 a++zdv 4 0 b:=fun a b=>by simp[zdv]
 unfold orT;rw [if_neg (by
  simp only[List.any_eq_true,not_exists,not_and];intro z hz;have:CT z:=by
   rcases mem_append.1 hz with hz|hz
   ·exact zvc hx z hz
   ·exact zvc hy z hz
  rw[this.good];simp),if_neg (by simp[hx.good,hy.good])]
 rw[fa,(zif hx).1,(zif hy).1,show[x,y]=[x]++[y] from rfl,fa,(zif hx).2,(zif hy).2]
theorem zqj (t:Tr):zdq t=zax \/CT (zdq t):=by
 unfold zdq;split
 ·rename_i h;have h':=h;rw[zdd,and_eq_true] at h';exact .inr ⟨h'.2,zha h⟩
 ·exact .inl rfl
theorem qnk:CT emptyT:=⟨by simp[CR,emptyT,pre,zbi,zis];exact zis,by simp[emptyT,pre,zbi]⟩
theorem qgh (l:List Tr):zoj l=zax \/CT (zoj l):=by
 unfold zoj;split
 ·exact .inl rfl
 ·unfold zjy;cases ((zdv 3 1 l).length:Int)==0 with
  |true=>exact .inr qnk
  | false=>
   rw[cond_false];cases ((zdv 3 1 l).length:Int)==1 with
   |true=>exact zqj _
   |false=>exact zqj _
theorem qep (l:List Tr):orT [zoj l]=zoj l:=by
 rcases qgh l with h|h
 ·rw[h];rfl
 ·have e:zgn (zoj l)=[zoj l] \/(zoj l).k=4:=by
   by_cases h4:(zoj l).k=4
   ·exact .inr h4
   ·exact .inl (by rw[zgn,if_neg h4])
  have h1:=zuq h;unfold orT at h1⊢;rw[if_neg (by
   simp only[List.any_eq_true,not_exists,not_and];intro z hz;rw[(zvc h z hz).good];simp),(zif h).1] at h1
  rw[if_neg (by simp[h.good]),(zif h).2];exact h1
theorem z7y {n:Nat} {p:List UInt8×Tr} (h:AtP n p.1 p.2):qfh n [[p]]:=by
 refine⟨by simp,?_,by simp⟩;intro L hL;rw[mem_singleton] at hL;subst hL;exact⟨by simp,fun q hq=>by rw[mem_singleton] at hq;subst hq;exact h⟩
theorem rxj_eq (k l:List Sm)(hk:k.length<2^63/\ ∀y∈k,y.2.1<256)(hl:l.length<2^63/\ ∀y∈l,y.2.1<256):qke 1100 k l=some true:=by
 unfold qke;refine zg hk (zk fun x hx=>zg hl (zk fun y hy=> ?_));obtain⟨cx,px,sx⟩:=qgs k;obtain⟨cy,py,sy⟩:=qgs l;rw[hx] at cx px sx;rw[hy] at cy py sy;have hx40:(pre x).length<2^40/\ SY x:=⟨by omega,sx⟩;have hy40:(pre y).length<2^40/\ SY y:=⟨by omega,sy⟩;refine zaj _ (few_two x y hx40 hy40 1097) ?_;by_cases hf:((zdc x).length:Int)+((zdc y).length:Int)<900
 rotate_left
 ·rw[decide_eq_false hf];rfl
 rw[decide_eq_true hf,show(!true)=false from rfl,cond_false];refine zg hx40 (zk fun s hs=>zg hy40 (zk fun t ht=> ?_));rw[hs,ht] at hf;obtain⟨A,a1,a2,a3⟩:=zox 1999 x (by omega) (by omega) cx;obtain⟨B,b1,b2,b3⟩:=zox 1999 y (by omega) (by omega) cy;obtain⟨A',a1',a2',a3'⟩:=zox 1998 x (by omega) (by omega) cx;obtain⟨B',b1',b2',b3'⟩:=zox 1998 y (by omega) (by omega) cy;rw[hs] at a1 a1';rw[ht] at b1 b1';have lx:=qae x;have ly:=qae y;rw[hs] at lx;rw[ht] at ly;have hdx: ∀c u,s=c::u->c=91 \/c=40:=fun c u h=>say_hd' x c u (hs.trans h);have ox:orT (zem A)=x:=by rw[a2];exact zuq cx
 have ox':orT (zem A')=x:=by rw[a2'];exact zuq cx
 have oy':orT (zem B')=y:=by rw[b2'];exact zuq cy
 have pcx:AtP 1999 ([40,63,58]++s++[41]) x:=by
  have:=at_nc 1998 A' [] 1 1 a3' zrm;rwa[a1',ox',zmn cx,append_nil] at this
 have pcy:AtP 1999 ([40,63,58]++t++[41]) y:=by
  have:=at_nc 1998 B' [] 1 1 b3' zrm;rwa[b1',oy',zmn cy,append_nil] at this
 have n94: ∀c:UInt8,c=91 \/c=40->c≠94:=by rintro c (rfl|rfl)<;>decide
 have h94: ∀c u,zv A=c::u->c≠94:=fun c u h=>n94 c (hdx c u (a1.symm.trans h));have main: ∀(b e:Bool) (text:List UInt8),text=(if b=true then[94] else[])++s++(if e=true then[36] else[])->zkk text x b e=some true:=fun b e text h=>
  zug 1999 A b e text x a3 rfl (by rw[a1];exact h) ox h94 (by rw[a1];exact lx) (by rw[a1];omega)
 refine zaj true (main false false s (by simp)) ?_;rw[cond_true];refine zg (by simp only[length_cons,length_nil];omega) (zaj true (main true false _ (by simp)) ?_);rw[cond_true];refine zg (by simp only[length_cons,length_nil];omega) (zaj true (main false true _ (by simp)) ?_);rw[cond_true];refine zg (by simp only[length_cons,length_nil];omega) (zg (by simp only[length_append,length_cons,length_nil];omega) (zaj true (main true true _ (by simp)) ?_));rw[cond_true];have e1:zv [[(([40,63,58]++s++[41]:List UInt8),x)]]=[40,63,58]++s++[41]:=by simp[zv,zbn]
 refine zg (by simp only[length_cons,length_nil];omega) (zg (by simp only[length_append,length_cons,length_nil];omega) (zaj true (zug 1999 [[([40,63,58]++s++[41],x)]] false false _ x (z7y pcx) rfl (by rw[e1];simp) (by show orT [zoj [x]]=x;rw[qep,z0a cx]) (by rw[e1];intro c u h;cases h;decide) (by rw[e1];exact zjw rfl (by decide)) (by rw[e1];simp only[length_append,length_cons,length_nil];omega)) ?_));rw[cond_true];refine zg (by simp only[length_cons,length_nil];omega) (zg (by simp only[length_append,length_cons,length_nil];omega) (zg (by omega) (zk fun g hg=> ?_)));have cg:CT (.mk 6 0#256 0 0 [x]):=⟨(zir _).2 ⟨z2x x,(zku _).2 fun z hz=>by simp only[Tr.l,mem_singleton] at hz;subst hz;exact cx.1⟩,by rw[ztv];omega⟩;rw[z6r cg] at hg;have pcg:AtP 1999 ([40]++s++[41]) g:=by
  have:=at_gr 1998 A' [] 1 1 a3' (fun c u h=>by rw[a1'] at h;rcases hdx c u h with rfl|rfl<;>decide) zrm;rwa[a1',ox',z6r cg,zmn cg,append_nil,hg] at this
 rw[hg] at cg;have e2:zv [[(([40]++s++[41]:List UInt8),g)]]=[40]++s++[41]:=by simp[zv,zbn]
 refine zaj true (zug 1999 [[([40]++s++[41],g)]] false false _ g (z7y pcg) rfl (by rw[e2];simp) (by show orT [zoj [g]]=g;rw[qep,z0a cg]) (by rw[e2];intro c u h;cases h;decide) (by rw[e2];exact zjw rfl (by decide)) (by rw[e2];simp only[length_append,length_cons,length_nil];omega)) ?_;rw[cond_true];have hpl:(zbi [x,y]).length<=100:=by simp only[zbi,length_append,length_nil];omega
 refine zg (by simp only[length_cons,length_nil];omega) (zg (by simp only[length_append,length_cons,length_nil];omega) (zg (by omega) (zk fun o ho=> ?_)));have e3:zv (A++B)=s++[124]++t:=by rw[zwt A B a3.1 b3.1,a1,b1];simp
 have oab:qfh 1999 (A++B):=by
  refine⟨by intro e;exact a3.1 (List.append_eq_nil_iff.1 e).1,fun L hL=> ?_,?_⟩
  ·rcases mem_append.1 hL with h|h
   ·exact a3.2.1 L h
   ·exact b3.2.1 L h
  ·have la: ∀(C:Alts) (z:Tr),zem C=zgn z->(pre z).length<=50->C.length<=50:=fun C z h hz=>by
    have e:C.length=(zgn z).length:=by rw[<-h];simp[zem]
    rw[e,zgn];split
    ·have:=zjs z;omega
    ·simp
   have:=la A x a2 px;have:=la B y b2 py;rw[length_append];omega
 have o2:orT (zem (A++B))=o:=by
  rw[show zem (A++B)=zem A++zem B by simp[zem],a2,b2,or_two cx cy,ho]
 refine zaj true (zug 1999 (A++B) false false _ o oab rfl (by rw[e3];simp) o2 (by
  rw[e3];intro c u h;cases hs':s with
  |nil=>rw[hs'] at h;cases h;decide
  | cons c' u'=>
   rw[hs'] at h;cases h;exact n94 _ (hdx _ _ hs')) (by
  rw[e3];rcases zru t with h|⟨v,z,h⟩
  ·rw[h,append_nil];exact zjw rfl (by decide)
  ·exact zjw (v:=s++[124]++v) (by rw[h];simp) (ly v z h)) (by rw[e3];simp only[length_append,length_cons,length_nil];omega)) ?_
 rw[cond_true];refine zg (by simp only[length_cons,length_nil];omega) (zg (by simp only[length_append,length_cons,length_nil];omega) (zg (by simp only[length_append,length_cons,length_nil];omega) (zg (by simp only[length_append,length_cons,length_nil];omega) (zg (by omega) (zk fun w hw=> ?_)))));have e4:zv [[(([40,63,58]++s++[41]:List UInt8),x),([40,63,58]++t++[41],y)]]=[40,63,58]++s++[41]++([40,63,58]++t++[41]):=by simp[zv,zbn]
 have o4:qfh 1999 [[(([40,63,58]++s++[41]:List UInt8),x),([40,63,58]++t++[41],y)]]:=by
  refine⟨by simp,fun L hL=> ?_,by simp⟩;rw[mem_singleton] at hL;subst hL;refine⟨by simp,fun p hp=> ?_⟩;rcases mem_cons.1 hp with rfl|hp
  ·exact pcx
  ·rw[mem_singleton] at hp;subst hp;exact pcy
 refine zaj true (zug 1999 _ false false _ w o4 rfl (by rw[e4];simp) (by show orT [zoj [x,y]]=w;rw[qep,hw]) (by rw[e4];intro c u h;cases h;decide) (by rw[e4];exact zjw (z:=41) (v:=[40,63,58]++s++[41]++([40,63,58]++t)) (by simp only[List.append_assoc]) (by decide)) (by rw[e4];simp only[length_append,length_cons,length_nil];omega)) ?_;rfl
end Go.Ab
namespace Go.Ab
open Go Go.RowKit Go.Fwd Go.Proofs Go.ChangeShapes Go.WideShapes Go.Deep
def qcv (W:World):Cx:=⟨fun b o=> ∃v,W.cell? ⟨b,o,none⟩=some v,[],[],[],W,fun _=>False,fun _ _=>False⟩
theorem inv_top (P:Program)(W:World)(hg:gvBase P W):Inv (ITP P) St.empty (qcv W) where
 lens:=rfl
 elems:=rfl
 κlen:=rfl
 κnd:=fun s s' b h=>by simp[qcv] at h
 box:=fun s b t cs h=>by simp[qcv] at h
 κF:=fun s b t cs h=>by simp[qcv] at h
 βlen:=rfl
 βnd:=by simp[qcv]
 βκ:=fun r h=>by simp[qcv] at h
 row:=fun s r L h=>by simp[qcv] at h
 Ok:=fun b h=>h.elim
 Fcell:=fun b o h=>h
 gv:=⟨W,hg,Szs.refl _,fun b o v _ hv=>⟨⟨v,hv⟩,hv⟩⟩
theorem qno {P:Program} {f:FuncId} {args:List AV} {u:Value} (h:Pure (ITP P) P f args (.raw u))(W:World)(hg:gvBase P W) {vs:List Value} (hr:zbk (ITP P) (qcv W) args vs):
 Calls P f vs.toArray W fun e W'=>e= .returned u/\ Below W.heap.size W W':=by
 refine(h.2 (qcv W) vs (inv_top P W hg) hr).mono ?_;rintro e w' ⟨v,Y,rfl,rfl,hE,hIY,hv⟩;rw[Rep] at hv;subst hv;exact⟨rfl,hE.os,hE.tape,hE.output,hE.size,fun b hb=>hE.frame b hb (by simp[qcv]) (by simp[qcv])⟩
section
variable {H:Type} {enc:TypeId×Value->H} {P:Program} {α:Type} [Enc α]
end
theorem qha {n:Int} (h:(Lit.int .u8 n).wf=true):0<=n/\ n<=255:=by
 have h1:IntKind.u8.min=0:=rfl;have h2:IntKind.u8.max=255:=rfl;simp only[Lit.wf,and_eq_true,decide_eq_true_eq] at h;omega
theorem qpy:prog.underlying 22=some (.slice 61):=rfl
theorem cells49:prog.cellsOf 61=3:=by kernel_rfl
theorem qnp: ∃f0 f1 f2:Field,prog.underlying 61=some (.struct #[f0,f1,f2])/\ oneCellFields prog #[f0,f1,f2]=true/\ prog.underlying f0.type=some (.int .u8)/\ prog.underlying f1.type=some (.int .u8)/\ prog.underlying f2.type=some (.int .u8):=⟨_,_,_,rfl,by kernel_rfl,rfl,rfl,rfl⟩
section
variable {H:Type} {enc:TypeId×Value->H}
theorem z6m {W:World} {base:Nat} {spare:Nat->Bool} {held:Bool} {n:Nat} {cs:List Value} {x:DataW H×List MemPlace} (h:DataW.trod enc prog W base spare held n 61 cs=some x)(hl:cs.length=3):
 ∃s:Sm,cs=[.int .u8 (s.1:Int),.int .u8 (s.2.1:Int),.int .u8 (s.2.2:Int)]/\ s.2.1<256:=by
 obtain⟨f0,f1,f2,hu,hone,t0,t1,t2⟩:=qnp;obtain⟨ys,m,_,_,_,hyl,hf⟩:=DataW.trod_struct hu h;obtain⟨o0,k0⟩:=hone_of hone 0 f0 rfl;obtain⟨o1,k1⟩:=hone_of hone 1 f1 rfl;obtain⟨o2,k2⟩:=hone_of hone 2 f2 rfl
 match cs,hl with
 | [c0,c1,c2],_=>
  match ys,hyl with
  | [y0,y1,y2],_=>
   have g0:DataW.trod enc prog W base spare held m f0.type [c0]=some y0:=by simpa[o0,k0] using hf 0 f0 rfl
   have g1:DataW.trod enc prog W base spare held m f1.type [c1]=some y1:=by simpa[o1,k1] using hf 1 f1 rfl
   have g2:DataW.trod enc prog W base spare held m f2.type [c2]=some y2:=by simpa[o2,k2] using hf 2 f2 rfl
   obtain⟨n0,e0,_,w0⟩:=DataW.trod_int t0 g0;obtain⟨n1,e1,_,w1⟩:=DataW.trod_int t1 g1;obtain⟨n2,e2,_,w2⟩:=DataW.trod_int t2 g2;simp at e0 e1 e2;subst e0 e1 e2;have b0:=qha w0;have b1:=qha w1;have b2:=qha w2;exact⟨(n0.toNat,n1.toNat,n2.toNat),by simp only[Int.toNat_of_nonneg b0.1,Int.toNat_of_nonneg b1.1,Int.toNat_of_nonneg b2.1],by simp only;omega⟩
theorem z4e (W:World)(b:Nat): ∀(len o:Nat) (g:Nat->Sm),(∀i,i<len->W.cell? ⟨b,o+i*3,none⟩=some (.int .u8 ((g i).1:Int))/\ W.cell? ⟨b,o+i*3+1,none⟩=some (.int .u8 ((g i).2.1:Int))/\ W.cell? ⟨b,o+i*3+2,none⟩=some (.int .u8 ((g i).2.2:Int)))->
 At (ITP prog) (qcv W) (qos ((List.range len).map g)) b o
 |0,o,g,_=>by simp[qos,At]
 | len+1,o,g,h=>by
  rw[List.range_succ_eq_map,List.map_cons,List.map_map,qos,smc];have h0:=h 0 (by omega);simp only[Nat.zero_mul,Nat.add_zero] at h0;obtain⟨a0,a1,a2⟩:=h0;have ih:=z4e W b len (o+3) (g∘Nat.succ) (fun i hi=>by
   have:=h (i+1) (by omega);rw[show o+(i+1)*3=o+3+i*3 by omega] at this;exact this)
  simp only[cons_append,nil_append,At];exact⟨⟨⟨_,a0⟩,_,a0,rfl,by rw[Rep]⟩,⟨⟨_,a1⟩,_,a1,rfl,by rw[Rep]⟩,⟨⟨_,a2⟩,_,a2,rfl,by rw[Rep]⟩,ih⟩
theorem zwx {W:World} {base:Nat} {v:Value} {d:DataW H} {p:List MemPlace} (hv:Value.okWide prog W .any base 22 v)(h:DataW.Trod enc prog W 0 (fun _=>true) true 22 v d p):
 ∃l:List Sm,(l.length<2^63/\ ∀x∈l,x.2.1<256)/\ Rep (ITP prog) (qcv W) (.list l.length (qos l) .none) v:=by
 obtain⟨fuel,hf⟩:=h;obtain⟨a0,len,cap,rfl⟩:=okWide_slice qpy hv;rcases open_slice qpy hf with⟨h0,_⟩|⟨a,len',cap',m,n,D,Pl,hcs,hb,hl,hm,hmm,hx,hi⟩
 ·simp[Value.cells] at h0;obtain⟨rfl,rfl,rfl⟩:=h0;refine⟨[],by simp,?_⟩;rw[Rep];exact⟨none,0,rfl,⟨le_refl _,fun _=>rfl⟩,.inl rfl,trivial⟩
 ·simp [Value.cells] at hcs;obtain⟨rfl,rfl,rfl⟩:=hcs;rw[cells49] at hi;have hm':m=cap:=by simpa using hmm
  have hcell: ∀i,i<m-> ∃s:Sm,W.cell? (a.add (i*3))=some (.int .u8 (s.1:Int))/\ W.cell? (a.add (i*3+1))=some (.int .u8 (s.2.1:Int))/\ W.cell? (a.add (i*3+2))=some (.int .u8 (s.2.2:Int))/\ s.2.1<256:=fun i him=>by
   obtain⟨cs',hc,ht⟩:=hi i him;obtain⟨_,hcl,hat⟩:=World.cells?_some hc;obtain⟨s,rfl,hs⟩:=z6m ht hcl;refine⟨s,?_,?_,?_,hs⟩
   ·have:=hat 0 (by omega);rw[Go.Deep.add_add] at this;simpa using this
   ·have:=hat 1 (by omega);rw[Go.Deep.add_add] at this;simpa using this
   ·have:=hat 2 (by omega);rw[Go.Deep.add_add] at this;simpa using this
  by_cases hz:len=0
  ·subst hz;refine⟨[],by simp,?_⟩;rw[Rep];exact⟨some a,cap,rfl,⟨hl,fun h=>by cases h⟩,.inl rfl,trivial⟩
  ·obtain⟨s0,c0,_⟩:=hcell 0 (by omega);have hspot:a=⟨a.block,a.off,none⟩:=by
    cases a with
    | mk b o sp=>
     cases sp with
     |none=>rfl
     | some k=>
      exfalso
      simp[Addr.add,World.cell?] at c0;split at c0<;>simp at c0
   have hadd: ∀j,a.add j=⟨a.block,a.off+j,none⟩:=fun j=>by
    by_cases hj:j=0
    ·subst hj;simp[Addr.add];exact hspot
    ·simp[Addr.add,hj]
   let g:Nat->Sm:=fun i=>if h:i<m then Classical.choose (hcell i h) else(0,0,0)
   have hg: ∀i (him:i<m),W.cell? (a.add (i*3))=some (.int .u8 ((g i).1:Int))/\ W.cell? (a.add (i*3+1))=some (.int .u8 ((g i).2.1:Int))/\ W.cell? (a.add (i*3+2))=some (.int .u8 ((g i).2.2:Int))/\ (g i).2.1<256:=fun i him=>by
    have e:g i=Classical.choose (hcell i him):=dif_pos him;rw[e];exact Classical.choose_spec (hcell i him)
   have hml:maxLen<2^63:=by decide
   refine⟨(List.range len).map g,⟨by simp;omega,fun x hx=> ?_⟩,?_⟩
   ·obtain⟨i,hi',rfl⟩:=List.mem_map.1 hx;exact(hg i (by have:=List.mem_range.1 hi';omega)).2.2.2
   rw[Rep];refine⟨some a,cap,by simp,⟨by simpa using hl,fun h=>by cases h⟩,.inr ⟨a.block,a.off,by rw[<-hspot],z4e W a.block len a.off g fun i hi=> ?_⟩,trivial⟩;have:=hg i (by omega);rw[hadd,hadd,hadd] at this;exact⟨this.1,this.2.1,this.2.2.1⟩
end
end Go.Ab
namespace Go.Ab
open Go Go.RowKit Go.Fwd Go.Proofs Go.Proofs.YtnoccnalocdldaaGreatDoor Go.ChangeShapes Go.WideShapes Go.ChangeAt
theorem gv_of {W:World} (hL:laidMet prog Rows.rxreadJoinsRow.laid W)(hS:W.ShapedOpen prog):gvBase prog W where
 err:=fun n g h e=>by
  have h1:prog.globalNamed "strconv.ErrSyntax" =none:=by kernel_rfl
  have h2:prog.globalNamed "strconv.ErrRange" =none:=by kernel_rfl
  rcases h with rfl|rfl
  ·rw[h1] at e;cases e
  ·rw[h2] at e;cases e
 pow:=fun g e=>by
  have h1:prog.globalNamed "internal/strconv.uint64pow10" =none:=by kernel_rfl
  rw[h1] at e;cases e
 max:=fun g e=>by
  have h1:prog.globalNamed "internal/bytealg.MaxLen" =some 0:=by kernel_rfl
  rw[h1] at e;cases e;exact Go.Proofs.cell_of_shapedOpen_int (zero:= #[.int .i64 0]) (t:=3) hS (of_decide_eq_true (by kernel_rfl)) (by kernel_rfl) rfl (by kernel_rfl) (by kernel_rfl) (by kernel_rfl)
noncomputable def qpw:DataW Unit->List Value
 | .agg l=>l.flatMap fun d=>match d with
  | .lit (.int k n)=>[Value.int k n]
  | .agg l=>l.map fun d=>match d with| .lit (.int k n)=>Value.int k n|_=>undef
  |_=>[undef]
 |_=>[]
noncomputable def zui (os:Os):World:=
 let w0:=World.holding prog os ⟨#[], #[],[]⟩
 let put (h:Array Obj) (g:Nat) (cs:Array Value):Array Obj:=h.modify g fun
  | .cells _ t frozen=> .cells cs t frozen
  |o=>o
 let h1:=put w0.heap 1 (qpw Rows.laid_unicode_utf8_first).toArray
 let h2:=put h1 2 (qpw Rows.laid_unicode_utf8_acceptRanges).toArray
 {w0 with heap:=h2}
theorem qkb (os:Os)(args:Array Value):laidMet prog Rows.rxreadJoinsRow.laid ((zui os).forCall (fun _ _=>0) ⟨#[],args,[]⟩).memory:=
 laidMet_of_run (ps:=MemPlace.row ⟨2,0,none⟩ 32++MemPlace.row ⟨1,0,none⟩ 256) 8 (by kernel_rfl) (by kernel_rfl) (by kernel_rfl)
end Go.Ab
namespace Go.Proofs.YtnoccnalocdldaaGreatDoor
open Go Go.Ab Go.ChangeShapes Go.WideShapes Go.ChangeAt Go.RowKit Go.Fwd
theorem zpi {H:Type} {enc:TypeId×Value->H} {P:Program} (hl:laidOutB P=true) {W W':World} (hb:Below W.heap.size W W'): ∀ {ts:List TypeId} {vs:List Value} {ds:List (DataW H)} {ps:List MemPlace},
 (ts.all fun t=>P.readableRec t&&decide (t<P.types.size))=true->DataW.TrodAll enc P W 0 (fun _=>true) true ts vs ds ps->(∀x∈ps,x.block<W.heap.size)->DataW.TrodAll enc P W' 0 (fun b=>decide (b<W.heap.size)) true ts vs ds ps
 | [],vs,ds,ps,_,h,_=>by
  cases vs with
  | nil=>
   cases ds with
   |nil=>exact h
   |cons=>exact h.elim
  |cons=>exact h.elim
 | t::ts,vs,ds,ps,ht,h,hlt=>by
  obtain⟨v,vs',d,ds',p,q,rfl,rfl,rfl,hd,hr⟩:=trodAll_cons h;simp only[List.all_cons,and_eq_true,decide_eq_true_eq] at ht;exact⟨p,q,Below.trod hl ht.1.1 ht.1.2 hd hb fun x hx=>hlt x (by simp[hx]),zpi hl hb ht.2 hr fun x hx=>hlt x (by simp[hx]),rfl⟩
theorem own':ownKnob prog.godebug=none:=by kernel_rfl
theorem qln:laidOutB prog=true:=by kernel_rfl
end Go.Proofs.YtnoccnalocdldaaGreatDoor
namespace Go.Proofs.YtnoccnalocdldaaGreatDoor
open Go Go.Ab Go.ChangeShapes Go.WideShapes Go.ChangeAt Go.RowKit Go.Fwd
theorem trods_rxreadJoins {H:Type} {enc:TypeId×Value->H} {P:Program} {w:World} {base:Nat} {spare:Nat->Bool} {held:Bool} {t0 t1:TypeId} {args:Array Value} {ds:List (DataW H)} {ps:List MemPlace} (h:DataW.TrodAll enc P w base spare held [t0,t1] args.toList ds ps):
 ∃v0 v1 d0 d1 p0 p1,args= #[v0,v1]/\ ds=[d0,d1]/\ ps=p0++p1/\ DataW.Trod enc P w base spare held t0 v0 d0 p0/\ DataW.Trod enc P w base spare held t1 v1 d1 p1:=by
 obtain⟨v0,a0,d0,s0,p0,q0,hargs,rfl,rfl,g0,h⟩:=trodAll_cons h;obtain⟨v1,a1,d1,s1,p1,q1,rfl,rfl,rfl,g1,h⟩:=trodAll_cons h;obtain⟨rfl,rfl,rfl⟩:=trodAll_nil h;exact⟨v0,v1,d0,d1,p0,p1,by cases args;simp_all,rfl,by simp,g0,g1⟩
theorem witness_rxreadJoins (os:Os) {H:Type} (enc:TypeId×Value->H):
 (OpenSpec.ofChange Rows.rxreadJoinsSpec).preRow enc prog Tryz.f3 Rows.rxreadJoinsRow.domain false Rows.rxreadJoinsRow.laid ((zui os).forCall (fun _ _=>0) ⟨#[], #[.slice none 0 0,.slice none 0 0],[]⟩).memory #[.slice none 0 0,.slice none 0 0]:=
 OpenSpec.preRow_of_B rfl 8 (by kernel_rfl) (by kernel_rfl) (qkb os _)
theorem rxreadJoins_lifted (os:Os)(started:os.Started)(H:Type)(enc:TypeId×Value->H)(F:Stop.Interp):
 ReturnsInHanded {} Tryz.checked os 3 .any ((OpenSpec.ofChange Rows.rxreadJoinsSpec).preRow enc prog Tryz.f3 Rows.rxreadJoinsRow.domain false Rows.rxreadJoinsRow.laid) (((OpenSpec.ofChange Rows.rxreadJoinsSpec).at F).post enc prog Tryz.f3 false true false false):=by
 refine returnsInHanded_of_row (C:=Tryz.checked) (s:=OpenSpec.ofChange Rows.rxreadJoinsSpec) own' started (by kernel_rfl) Tryz.func3
  (witness_row_atRef (enc:=enc) (C:=Tryz.checked) false (zui os) #[.slice none 0 0,.slice none 0 0] rfl (by kernel_rfl) (by kernel_rfl) (by kernel_rfl) (witness_rxreadJoins os enc)) ?_
 intro W base args ds gs before hval0 hW hcnd0 _ hsz0 hL hS _;have hval: ∀(j:Nat) t v,Tryz.f3.params[j]? =some t->args[j]? =some v->Value.okWide prog W .any base t v:=hval0;have hW':=hW;obtain⟨p,q,hA0,hV,rfl,_,_⟩:=hW;have hA:DataW.TrodAll enc prog W 0 (fun _=>true) true Tryz.f3.params.toList args.toList ds p:=hA0;rw[show Tryz.f3.params.toList=[22,22] from by kernel_rfl] at hA;have hA1:=hA;obtain⟨v0,v1,d0,d1,p0,p1,rfl,rfl,rfl,h0,h1⟩:=trods_rxreadJoins hA;obtain⟨rfl,rfl⟩:=trodVars_none hV;obtain⟨x0,r0,hr0⟩:=zwx (hval 0 22 v0 (by kernel_rfl) rfl) h0;obtain⟨x1,r1,hr1⟩:=zwx (hval 1 22 v1 (by kernel_rfl) rfl) h1;clear hA0 hval0;simp only[append_nil,nil_append] at hW' hA1;have hlt:=hW'.lt;refine(qno (rxj_sh 1100 x0 x1 true (rxj_eq x0 x1 r0 r1)) W (gv_of hL hS) (vs:=[v0,v1]) ⟨_,_,rfl,hr0,_,_,rfl,hr1,rfl⟩).mono fun e W' ⟨he,hw⟩=> ?_;subst he;refine⟨_,rfl,?_⟩;refine⟨_,_,_,[]++[],p0++p1,[],hW',?_,?_,rfl,hw.frame _,fun h=>by cases h⟩
 ·exact trodAll_mk1 (shut_bool (show prog.underlying 4=some .bool from by kernel_rfl) true)
 ·exact zpi qln hw (by kernel_rfl) hA1 hlt
theorem rxreadJoins_holds:Rows.RxreadJoinsSaid:=
 OpenClaim.holds_of_cond 3 Tryz.f3 rfl rfl rfl rfl rfl rfl rfl ⟨rfl,rfl,rfl,rfl,rfl⟩ rfl rfl rfl rfl rfl (by kernel_rfl) Tryz.func3 (by kernel_rfl)
  (of_decide_eq_true (by kernel_rfl)) (by unfold Func.isWrapper;rw[if_neg (of_decide_eq_false (by kernel_rfl))];exact⟨rfl,rfl⟩)
  (fun os started H enc _ F0=>by rw[OpenClaim.pre_eq_preRow];exact rxreadJoins_lifted os started H enc F0)
theorem rxreadJoins_card:Rows.RxreadJoinsCardSaid:=
 Claim7.holds_tied_plain_at .later [] [.data,.pinned] true (true, "978a3f44b59fddea0a978660b435438489edc2062dfa36400188c925fdaae269") false
  rxreadJoins_holds (fun _ h=>by cases h) (by kernel_rfl) (fun _ h=>by cases h) rxreadJoins_row_tie rfl ⟨rfl,rfl⟩ (by kernel_rfl) rfl
  (fun f fn hf hfn=>by
   obtain rfl:f=3:=Option.some.inj ((show prog.funcNamed "repartee/reparteelaw09.RxreadJoins" =some 3 by kernel_rfl).symm.trans hf)|>.symm;obtain rfl:fn=Tryz.f3:=(Option.some.inj (Tryz.func3.symm.trans hfn)).symm;exact⟨by kernel_rfl,fun j t ht=>by
    have hm:t∈[22,22]:=by
     have h:=Array.mem_of_getElem? ht;rw[<-Array.mem_toList_iff,show Tryz.f3.params.toList=[22,22] from by kernel_rfl] at h;exact h
    have hall:([22,22].all fun u=> !prog.wantsStandIn u)=true:=by kernel_rfl
    exact(show prog.wantsStandIn t=false by simpa using all_eq_true.1 hall t hm)⟩)
  (by kernel_rfl)
#print axioms rxreadJoins_card
end Go.Proofs.YtnoccnalocdldaaGreatDoor
