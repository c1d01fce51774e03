import Derived.Test.YtnoccnalocdldaaGreatDoorZfFr
import Derived.Test.YtnoccnalocdldaaGreatDoorRows
import Derived.Deep.DeepHandedRow
import Derived.Deep.DeepWitnessRowRef
import Derived.ProofKit
import Derived.SizedLaws
import Derived.Laws.IdiomArrays
import Derived.HandedShaped
import Derived.Shelf.Vars
import Derived.ChangeMaps
import Derived.Test.YtnoccnalocdldaaGreatDoorCards
import Derived.Test.YtnoccnalocdldaaGreatDoorTie
import Derived.SevenTiedAt
set_option linter.all false
set_option maxRecDepth 100000
set_option maxHeartbeats 4000000
open Sum (inl)
open Int (tmod)
open List (length length_cons length_append length_nil nil_append append_nil isEmpty mem_singleton append_assoc)
open Go.Proofs.Tryz (prog)
namespace Go.Ab
open Go Go.RowKit Go.Fwd Go.Proofs
variable {n:Nat} {c:Int} {P:Nat->List Int->Rd->Prop} {r':Rd}
def zwe (r:Rd):Prop:=r.e≠0 \/r.e=0/\ r.a=(r.s.length:Int)/\ r.s.length<2^39
theorem znb {r:Rd} (h:zwe r):zdz r=some (0,r):=by
 rcases h with h|⟨h,h2,_⟩
 ·unfold zdz;rw[show(r.e !=0)=true by simpa using h,cond_true]
 ·obtain⟨s,a,e,q⟩:=r;simp only at h h2;subst h;exact z9f s a (by omega) q
theorem zng (k e:Int)(r:Rd)(h:r.e=0):zgf k e r=some (Rd.mk r.s k e r.q):=by
 unfold zgf;rw[show(r.e==0)=true by simpa using h,cond_true]
theorem zoz (x:Tr)(hx:(pre x).length<=10000) {r:Rd} (h:zwe r): ∃x',zbz 1100 x r=some (x',r)/\ (pre x').length<=10000:=by
 rcases h with h|⟨h,h2,h3⟩
 ·refine⟨noneT,?_,by simp[noneT,pre,zbe]⟩;unfold zbz;rw[show(r.e !=0)=true by simpa using h,cond_true]
 ·obtain⟨s,a,e,q⟩:=r;simp only at h h2 h3;subst h h2;have:=zkn x hx s [] [] q 1 1 (z0t (by intro c t h;cases h)) (by intro c t h;cases h) (by simpa using h3);simp only[append_nil] at this;exact⟨_,this,zif _ hx 1 1⟩
def HdP (b:List UInt8):Prop:= ∃c t,b=c::t/\ c≠0/\ c≠124/\ c≠41
theorem HdP.key {b:List UInt8} (h:HdP b):(hd0 b !=0)=true/\ (hd0 b !=124)=true/\ (hd0 b !=41)=true:=by
 obtain⟨c,t,rfl,h0,h1,h2⟩:=h;have aux: ∀(d:UInt8),c≠d->((((c.toNat:Nat):Int) !=((d.toNat:Nat):Int))=true):=fun d hd=>by
  rw[bne_iff_ne];intro e;exact hd (UInt8.toNat_inj.1 (by omega))
 exact⟨aux 0 h0,aux 124 h1,aux 41 h2⟩
structure PcEnd (n:Nat)(b:List UInt8)(P:Nat->List Int->Rd->Prop):Prop where
 hd:HdP b
 run: ∀(a:List UInt8) (q:Stk),(a++b).length<2^39->(zcg q).length+n<2^39-> ∃y r1 x r2,zei 1100 (zdp (zvf 1100 n)) (Rd.mk (a++b) ((a.length:Nat):Int) 0 q)=some (y,r1)/\ zbz 1100 y r1=some (x,r2)/\ zwe r2/\ P a.length (zcg q) r2/\ (pre x).length<=10000
structure StepB (n:Nat)(u b:List UInt8):Prop where
 hd:HdP u
 run: ∀(a:List UInt8) (q:Stk),(a++(u++b)).length<2^39->(zcg q).length+n<2^39-> ∃y r1 x q',zei 1100 (zdp (zvf 1100 n)) (Rd.mk (a++(u++b)) ((a.length:Nat):Int) 0 q)=some (y,r1)/\ zbz 1100 y r1=some (x,Rd.mk (a++(u++b)) (((a++u).length:Nat):Int) 0 q')/\ zcg q'=zcg q/\ (pre x).length<=10000
theorem AtP.step {u b:List UInt8} {x:Tr} (h:AtP n u x)(hb:zrm b):StepB n u b where
 hd:=by
  obtain⟨c,t,rfl,rfl|rfl⟩:=h.hd<;>exact⟨_,_,rfl,by decide,by decide,by decide⟩
 run a q hl hq:=by
  rw[<-append_assoc] at hl⊢;obtain⟨y,r1,q',h1,h2,h3⟩:=h.run a b q hl hq hb;exact⟨y,r1,x,q',h1,h2,h3,h.len⟩
def EndsB (n:Nat)(b:List UInt8)(P:Nat->List Int->Rd->Prop):Prop:=
 ∀(a:List UInt8) (q:Stk) (acc:List Tr) (fuel:Nat),(a++b).length<2^39->(zcg q).length+n<2^39->b.length<fuel-> ∃rows r,zav (zsd n) fuel (hd0 b,Rd.mk (a++b) ((a.length:Nat):Int) 0 q,acc)=some (acc++rows,r)/\ P a.length (zcg q) r/\ rows.length<=b.length/\ ∀x∈rows,(pre x).length<=10000
theorem qqe {c':Int} {r r1 r2:Rd} {y x:Tr} {acc:List Tr} (h0:(c !=0)=true)(h1:(c !=124)=true)(h2:(c !=41)=true)(ha:zei 1100 (zdp (zvf 1100 n)) r=some (y,r1))(hc:zbz 1100 y r1=some (x,r2))(hn:zdz r2=some (c',r2)):
 zsd n (c,r,acc)=some (.inl (c',r2,acc++[x])):=by
 unfold zsd;simp only;rw[h0,cond_true,h1,cond_true,h2,cond_true];exact zu _ ha (zu _ hc (zu _ hn rfl))
theorem PcEnd.ends {b:List UInt8} (h:PcEnd n b P):EndsB n b P:=by
 intro a q acc fuel hl hq hf;obtain⟨y,r1,x,r2,g1,g2,g3,g4,g5⟩:=h.run a q hl hq;obtain⟨k0,k1,k2⟩:=h.hd.key;have hb:1<=b.length:=by obtain⟨c,t,rfl,_⟩:=h.hd;simp
 refine⟨[x],r2,?_,g4,by simpa using hb,fun z hz=>by rw[mem_singleton] at hz;subst hz;exact g5⟩;obtain⟨f,rfl⟩: ∃f,fuel=f+1+1:=⟨fuel-2,by omega⟩;rw[zav,qqe k0 k1 k2 g1 g2 (znb g3)];exact zic f rfl
theorem StepB.ends {u b:List UInt8} (h:StepB n u b)(hb:EndsB n b P):EndsB n (u++b) fun m l r=>P (m+u.length) l r:=by
 intro a q acc fuel hl hq hf;obtain⟨y,r1,x,q',g1,g2,g3,g5⟩:=h.run a q hl hq;obtain⟨k0,k1,k2⟩:(hd0 (u++b) !=0)=true/\ (hd0 (u++b) !=124)=true/\ (hd0 (u++b) !=41)=true:=by
  obtain⟨c,t,rfl,h1⟩:=h.hd;exact HdP.key ⟨c,t++b,rfl,h1⟩
 have hu:1<=u.length:=by obtain⟨c,t,rfl,_⟩:=h.hd;simp
 rw[length_append] at hf;obtain⟨f,rfl⟩: ∃f,fuel=f+1:=⟨fuel-1,by omega⟩;rw[<-append_assoc] at hl;obtain⟨rows,r,e1,e2,e3,e4⟩:=hb (a++u) q' (acc++[x]) f hl (by rw[g3];exact hq) (by omega);refine⟨x::rows,r,?_,?_,by simp only[length_cons,length_append];omega,fun z hz=>by
  rcases List.mem_cons.1 hz with rfl|hz
  ·exact g5
  ·exact e4 z hz⟩
 ·have hn:=zlj (a++u) b q';rw[append_assoc] at hn e1;rw[zav,qqe k0 k1 k2 g1 g2 hn];simp only;rw[e1];simp
 ·rw[g3,length_append] at e2;exact e2
theorem qmb (n:Nat):EndsB n [] fun m l r=>r.e=0/\ r.a=(m:Int)/\ r.s.length=m/\ zcg r.q=l/\ zwe r:=by
 intro a q acc fuel hl hq hf;obtain⟨f,rfl⟩: ∃f,fuel=f+1:=⟨fuel-1,by simp only[length_nil] at hf;omega⟩;rw[append_nil] at hl⊢;refine⟨[],Rd.mk a ((a.length:Nat):Int) 0 q,?_,⟨rfl,rfl,rfl,rfl,.inr ⟨rfl,rfl,hl⟩⟩,by simp,by simp⟩;rw[append_nil];exact zic f rfl
theorem z9l (n:Nat)(t:List UInt8):EndsB n (124::t) fun m l r=>r.e=0/\ r.a=(m:Int)/\ zcg r.q=l/\ ∃a,a.length=m/\ r.s=a++124::t:=by
 intro a q acc fuel hl hq hf;obtain⟨f,rfl⟩: ∃f,fuel=f+1:=⟨fuel-1,by omega⟩;refine⟨[],Rd.mk (a++124::t) ((a.length:Nat):Int) 0 q,?_,⟨rfl,rfl,rfl,a,rfl,rfl⟩,by simp,by simp⟩;rw[append_nil];exact zic f rfl
theorem EndsB.mono {b:List UInt8} {P':Nat->List Int->Rd->Prop} (h:EndsB n b P)(hp: ∀m l r,P m l r->P' m l r):EndsB n b P':=fun a q acc fuel hl hq hf=>by
 obtain⟨rows,r,h1,h2,h3⟩:=h a q acc fuel hl hq hf;exact⟨rows,r,h1,hp _ _ _ h2,h3⟩
theorem EndsB.pcs {b:List UInt8} (h:EndsB n b P)(hb:b.length<1100)(a:List UInt8)(q:Stk)(hl:(a++b).length<2^39)(hq:(zcg q).length+n<2^39):
 ∃rows r,zyk 1100 (zei 1100 (zdp (zvf 1100 n))) (Rd.mk (a++b) ((a.length:Nat):Int) 0 q)=some (rows,r)/\ P a.length (zcg q) r/\ rows.length<1100/\ ∀x∈rows,(pre x).length<=10000:=by
 obtain⟨rows,r,h1,h2,h3,h4⟩:=h a q [] 1100 hl hq hb;refine⟨rows,r,?_,h2,by omega,h4⟩;unfold zyk;refine zu _ (zlj a b q) ?_;rw[nil_append] at h1;exact h1
theorem z5h {r:Rd} {acc rows:List Tr} (hp:zyk 1100 (zei 1100 (zdp (zvf 1100 n))) r=some (rows,r'))(hr:rows.length<1100)(hs: ∀x∈rows,(pre x).length<=10000)(hacc:acc.length<2000)(hn:zdz r'=some (c,r'))(ha:(c !=124)=true \/(c !=124)=false/\ 0<=r'.a/\ r'.a<2^40):
 zpn n (r,acc)=some (bif c !=124 then .inr (.inl (r',acc++[zsq rows])) else .inl (Rd.mk r'.s (r'.a+1) r'.e r'.q,acc++[zsq rows])):=by
 have hpl:=zig rows hs;unfold zpn;refine zaj (r',rows) ?_ ?_
 ·refine zu _ rfl ?_;refine zu _ hp ?_;refine zaj ([]++rows) ?_ rfl;exact zqj rows [] (by simp only[length_nil];omega)
 ·refine zf (by simp only;omega) (zj fun x3 hx3=> ?_);simp only at hx3;subst hx3;cases acc with
  | nil=>
   rw[show isEmpty (r,([]:List Tr)).2=true from rfl,cond_true];refine zf (by simp) ?_;refine zu _ hn ?_;simp only;rcases ha with ha|⟨ha,h1,h2⟩
   ·rw[ha];rfl
   ·rw[ha];simp only[cond_false];exact zf (by omega) rfl
  | cons t0 acc=>
   rw[show isEmpty (r,t0::acc).2=false from rfl,cond_false];refine zf ⟨rfl,by simp,by simp,by simp only[length_cons,length_nil] at hacc⊢;omega⟩ ?_;refine zu _ hn ?_;simp only;rcases ha with ha|⟨ha,h1,h2⟩
   ·rw[ha];rfl
   ·rw[ha];simp only[cond_false];exact zf (by omega) rfl
def qpa (n:Nat)(b:List UInt8)(P:Nat->List Int->Rd->Prop):Prop:=
 ∀(a:List UInt8) (q:Stk),(a++b).length<2^39->(zcg q).length+n<2^39-> ∃t r,zvf 1100 (n+1) (Rd.mk (a++b) ((a.length:Nat):Int) 0 q)=some (t,r)/\ P a.length (zcg q) r/\ zwe r/\ (pre t).length<=10000
theorem qfz {r:Rd} {acc:List Tr} (h:zav (zpn n) 1100 (r,[])=some (.inl (r',acc)))(ha:(zbe acc).length<=2^40)(h0:acc≠[]): ∃t,zvf 1100 (n+1) r=some (t,r')/\ (pre t).length<=10000:=by
 refine⟨orT acc,?_,z9z _⟩;show zvs 1100 _ r=_;unfold zvs;refine zaj (r',acc) h ?_;cases acc with
 |nil=>exact absurd rfl h0
 | cons x acc=>
  rw[show isEmpty (r',x::acc).2=false from rfl,cond_false];exact zf ha (zj fun z hz=>by rw[<-hz])
theorem EndsB.alt {b:List UInt8} (h:EndsB n b P)(hs: ∀m l r,P m l r->zwe r)(hb:b.length<1100):qpa n b P:=by
 intro a q hl hq;obtain⟨rows,r,h1,h2,h3,h4⟩:=h.pcs hb a q hl hq;have hst:=hs _ _ _ h2;have hbd:=z5h (acc:=[]) h1 h3 h4 (by simp) (znb hst) (.inl rfl);obtain⟨t,g1,g2⟩:=qfz (zic 1099 hbd) (by have:=zig [zsq rows] (fun x hx=>by rw[mem_singleton] at hx;subst hx;exact z6d _);simp only[nil_append,length_cons,length_nil] at this⊢;omega) (by simp);exact⟨t,r,g1,h2,hst,g2⟩
theorem EndsB.alt2 {u b:List UInt8} (hu:EndsB n (u++124::b) fun m l r=>r.e=0/\ r.a=((m+u.length:Nat):Int)/\ zcg r.q=l/\ ∃a,a.length=m+u.length/\ r.s=a++124::b)(h:EndsB n b P)(hs: ∀m l r,P m l r->zwe r)(hb:(u++124::b).length<1100):
 qpa n (u++124::b) fun m l r=>P (m+u.length+1) l r:=by
 intro a q hl hq;obtain⟨rows,r,h1,⟨q1,q2,q3,a',q4,q5⟩,h3,h4⟩:=hu.pcs hb a q hl hq;obtain⟨s',a0,e0,q'⟩:=r;simp only at q1 q2 q3 q5;subst q1 q2 q5;have hn:zdz (Rd.mk (a'++124::b) ((a.length+u.length:Nat):Int) 0 q')=some (124,Rd.mk (a'++124::b) ((a.length+u.length:Nat):Int) 0 q'):=by
  have:=ztk a' 124 b q';rw[q4] at this;exact this
 have hl2:a.length+u.length<2^39:=by simp only[length_append] at hl;omega
 have hbd:=z5h (acc:=[]) h1 h3 h4 (by simp) hn (.inr ⟨rfl,by simp only;omega,by simp only;omega⟩);have hl3:(a'++[124]++b).length<2^39:=by simp only[length_append,length_cons,length_nil] at hl⊢;omega
 simp only[length_append,length_cons] at hb;obtain⟨rows2,r2,k1,k2,k3,k4⟩:=h.pcs (by omega) (a'++[124]) q' hl3 (by rw[q3];exact hq);have hst:=hs _ _ _ k2;have hbd2:=z5h (acc:=[zsq rows]) k1 k3 k4 (by simp) (znb hst) (.inl rfl);rw[append_assoc] at hbd2;have e1:(((a.length+u.length:Nat):Int)+1)=(((a'++[124]).length:Nat):Int):=by simp only[length_append,length_cons,length_nil];omega
 have lp:zav (zpn n) 1100 (Rd.mk (a++(u++124::b)) ((a.length:Nat):Int) 0 q,[])=some (.inl (r2,[zsq rows]++[zsq rows2])):=by
  rw[show(1100:Nat)=1098+1+1 from rfl,zav,hbd];simp only[show((124:Int) !=124)=false from rfl,cond_false,nil_append];rw[e1];exact zic 1098 hbd2
 obtain⟨t,g1,g2⟩:=qfz lp (by
  have:=zig ([zsq rows]++[zsq rows2]) (fun x hx=>by
   rcases List.mem_append.1 hx with hx|hx<;>rw[mem_singleton] at hx<;>subst hx<;>exact z6d _)
  simp only[length_append,length_cons,length_nil] at this⊢;omega) (by simp)
 refine⟨t,r2,g1,?_,hst,g2⟩;rw[q3] at k2;rw[show a.length+u.length+1=(a'++[124]).length by simp only[length_append,length_cons,length_nil];omega];exact k2
variable {c:UInt8} {n:Nat} {g:Int->Rd->Option (Tr×Rd)} {y:Tr}
theorem zil {d:UInt8} (h:c≠d):((((c.toNat:Nat):Int))==((d.toNat:Nat):Int))=false:=by
 rw[beq_eq_false_iff_ne];intro e;exact h (UInt8.toNat_inj.1 (by omega))
def zme (c:UInt8):Prop:=c≠40/\ c≠91/\ c≠46/\ c≠42/\ c≠43/\ c≠63/\ c≠123/\ c≠94/\ c≠36
def atomT (b:List UInt8)(j:Rd):Option (Tr×Rd):=
 (zay (zhu b) (fun x15=>(bif x15.2 then(chk (-9223372036854775808<=(j.a+2)/\ (j.a+2)<9223372036854775808) (zay (ofT x15.1) (fun x16=>(some (x16,(Rd.mk j.s (j.a+2) j.e j.q)))))) else(zai (zcv b zfy) (fun x17=>(bif (x17.2.2 !=0) then(zai (zgf j.a 90 j) (fun x18=>(some (noneT,x18)))) else(chk (-9223372036854775808<=(j.a+x17.2.1)/\ (j.a+x17.2.1)<9223372036854775808) (zai (zle 1100 x17.1) (fun x19=>(some (x19,(Rd.mk j.s (j.a+x17.2.1) j.e j.q))))))))))))
theorem zpu {n:Nat} {a t:List UInt8} {q:Stk} {j:Rd} {y:Option (Tr×Rd)} (hc:c≠40/\ c≠91/\ c≠46)
 (hm:(zct (τ:=Bool) (ρ:=Rd ⊕ (Tr×Rd)) (bif (((c.toNat:Nat):Int)==42) then(some (inl (((c.toNat:Nat):Int)==42))) else(bif (((c.toNat:Nat):Int)==43) then(some (inl (((c.toNat:Nat):Int)==43))) else(bif (((c.toNat:Nat):Int)==63) then(some (inl (((c.toNat:Nat):Int)==63))) else(some (inl (((c.toNat:Nat):Int)==123)))))) (fun j2=>(bif j2 then(zai (zgf ((a.length:Nat):Int) 92 (Rd.mk (a++c::t) ((a.length:Nat):Int) 0 q)) (fun x13=>(some (inl x13)))) else(zct (τ:=Bool) (bif (((c.toNat:Nat):Int)==94) then(some (inl (((c.toNat:Nat):Int)==94))) else(some (inl (((c.toNat:Nat):Int)==36)))) (fun j3=>(bif j3 then(zai (zgf ((a.length:Nat):Int) 95 (Rd.mk (a++c::t) ((a.length:Nat):Int) 0 q)) (fun x14=>(some (inl x14)))) else(some (inl (Rd.mk (a++c::t) ((a.length:Nat):Int) 0 q)))))))))=some (.inl j))
 (hl:(a++c::t).length<2^39)
 (hk:atomT (c::t) j=y):
 zei 1100 g (Rd.mk (a++c::t) ((a.length:Nat):Int) 0 q)=y:=by
 obtain⟨h0,h1,h2⟩:=hc;have e0:=zil h0;have e1:=zil h1;have e2:=zil h2;unfold zei;refine zf (by simp only[length_append,length_cons];omega) (zj fun x1 hx1=> ?_);simp only at hx1;rw[zjv] at hx1;subst hx1;refine zaj j ?_ hk;refine zf (by simp only[length_cons];omega) (zj fun x2 hx2=> ?_);have:x2=c:=by rw[<-hx2];rfl
 subst this;rw[show((((x2.toNat:Nat):Int))==40)=false from e0,cond_false,show((((x2.toNat:Nat):Int))==91)=false from e1,cond_false,show((((x2.toNat:Nat):Int))==46)=false from e2,cond_false];exact hm
theorem zvd {a t:List UInt8} {q:Stk} {v:Int} {k:Nat} {x:Tr} (hc:zme c)(hs:(zhu (c::t)).2=false)(hb:zcv (c::t) zfy=some (v,(k:Int),0))(hx:zle 1100 v=some x)(hk:k<10)(hl:(a++c::t).length<2^39):
 zei 1100 g (Rd.mk (a++c::t) ((a.length:Nat):Int) 0 q)=some (x,Rd.mk (a++c::t) ((a.length:Nat)+(k:Nat):Int) 0 q):=by
 obtain⟨h0,h1,h2,h3,h4,h5,h6,h7,h8⟩:=hc;have hla:a.length<2^39:=by simp only[length_append] at hl;omega
 refine zpu (n:=0) (j:=Rd.mk (a++c::t) ((a.length:Nat):Int) 0 q) ⟨h0,h1,h2⟩ ?_ hl ?_
 ·rw[show((((c.toNat:Nat):Int))==42)=false from zil h3,cond_false,show((((c.toNat:Nat):Int))==43)=false from zil h4,cond_false,show((((c.toNat:Nat):Int))==63)=false from zil h5,cond_false,show((((c.toNat:Nat):Int))==123)=false from zil h6];refine zaj false rfl ?_;rw[cond_false,show((((c.toNat:Nat):Int))==94)=false from zil h7,cond_false,show((((c.toNat:Nat):Int))==36)=false from zil h8];exact zaj false rfl rfl
 ·refine zj fun z hz=> ?_;subst hz;rw[hs,cond_false];refine zu _ hb ?_;simp only;rw[show((0:Int) !=0)=false from rfl,cond_false];refine zf (by omega) (zu _ hx rfl)
theorem qmf {a t:List UInt8} {q:Stk} {v k z e:Int} (hz:z≠0)(hc:c≠40/\ c≠91/\ c≠46)(hs:(zhu (c::t)).2=false)(hb:zcv (c::t) zfy=some (v,k,z))(he:((c=42 \/c=43 \/c=63 \/c=123)/\ e=92) \/((c=94 \/c=36)/\ e=95) \/(zme c/\ e=90))(hl:(a++c::t).length<2^39):
 zei 1100 g (Rd.mk (a++c::t) ((a.length:Nat):Int) 0 q)=some (noneT,Rd.mk (a++c::t) ((a.length:Nat):Int) e q):=by
 have fin: ∀e0:Int,(e0=0/\ e=90 \/e0=e/\ e≠0)->atomT (c::t) (Rd.mk (a++c::t) ((a.length:Nat):Int) e0 q)=some (noneT,Rd.mk (a++c::t) ((a.length:Nat):Int) e q):=by
  intro e0 h0;refine zj fun z' hz'=> ?_;subst hz';rw[hs,cond_false];refine zu _ hb ?_;simp only;rw[show(z !=0)=true by simpa using hz,cond_true];rcases h0 with⟨rfl,rfl⟩|⟨rfl,h0⟩
  ·exact zu _ (zng _ 90 _ rfl) rfl
  ·refine zu (Rd.mk (a++c::t) ((a.length:Nat):Int) e0 q) ?_ rfl;unfold zgf;rw[show((Rd.mk (a++c::t) ((a.length:Nat):Int) e0 q).e==0)=false by simpa using h0,cond_false]
 rcases he with⟨hm,rfl⟩|⟨hm,rfl⟩|⟨⟨_,_,_,h3,h4,h5,h6,h7,h8⟩,rfl⟩
 ·refine zpu (n:=0) hc ?_ hl (fin 92 (.inr ⟨rfl,by decide⟩));rcases hm with rfl|rfl|rfl|rfl<;>(refine zaj true rfl ?_;rw[cond_true];exact zu _ (zng _ 92 _ rfl) rfl)
 ·refine zpu (n:=0) hc ?_ hl (fin 95 (.inr ⟨rfl,by decide⟩));rcases hm with rfl|rfl<;>(refine zaj false rfl ?_;rw[cond_false];refine zaj true rfl ?_;rw[cond_true];exact zu _ (zng _ 95 _ rfl) rfl)
 ·refine zpu (n:=0) hc ?_ hl (fin 0 (.inl ⟨rfl,rfl⟩));rw[show((((c.toNat:Nat):Int))==42)=false from zil h3,cond_false,show((((c.toNat:Nat):Int))==43)=false from zil h4,cond_false,show((((c.toNat:Nat):Int))==63)=false from zil h5,cond_false,show((((c.toNat:Nat):Int))==123)=false from zil h6];refine zaj false rfl ?_;rw[cond_false,show((((c.toNat:Nat):Int))==94)=false from zil h7,cond_false,show((((c.toNat:Nat):Int))==36)=false from zil h8];exact zaj false rfl rfl
theorem qne {a t:List UInt8} {q:Stk} {s:BS} {k:Nat} {e:Int} (he:e≠0)(hb:zij 1100 (91::t)=some (s,(k:Int),e))(hk:k<1000)(hl:(a++91::t).length<2^39):
 zei 1100 g (Rd.mk (a++91::t) ((a.length:Nat):Int) 0 q)=some (noneT,Rd.mk (a++91::t) ((a.length:Nat)+(k:Nat):Int) e q):=by
 have hla:a.length<2^39:=by simp only[length_append] at hl;omega
 unfold zei;refine zf (by simp only[length_append,length_cons];omega) (zj fun x1 hx1=> ?_);simp only at hx1;rw[zjv] at hx1;subst hx1;refine zlq (noneT,Rd.mk (a++91::t) ((a.length:Nat)+(k:Nat):Int) e q) ?_ rfl;refine zf (by simp only[length_cons];omega) (zj fun x2 hx2=> ?_);have:x2=91:=by rw[<-hx2];rfl
 subst this;rw[show((((91:UInt8).toNat:Nat):Int)==40)=false from rfl,cond_false,show((((91:UInt8).toNat:Nat):Int)==91)=true from rfl,cond_true];refine zu _ hb ?_;simp only;rw[show(e !=0)=true by simpa using he,cond_true];exact zf (by omega) (zu _ (zng _ e _ rfl) rfl)
def PE (k:Nat)(e:Int)(m:Nat)(_:List Int)(r:Rd):Prop:=r.e=e/\ e≠0/\ r.a=((m+k:Nat):Int)
theorem PE.stuck {k:Nat} {e:Int} {m:Nat} {l:List Int} {r:Rd} (h:PE k e m l r):zwe r:= .inl (by rw[h.1];exact h.2.1)
theorem zyb {k:Nat} {b:List UInt8} {e:Int} (hd:HdP b)(he:e≠0)(h: ∀(a:List UInt8)(q:Stk),(a++b).length<2^39->zei 1100 (zdp (zvf 1100 n)) (Rd.mk (a++b) ((a.length:Nat):Int) 0 q)=some (noneT,Rd.mk (a++b) ((a.length:Nat)+(k:Nat):Int) e q)):PcEnd n b (PE k e) where
 hd:=hd
 run a q hl hq:=by
  have hst:zwe (Rd.mk (a++b) ((a.length:Nat)+(k:Nat):Int) e q):= .inl he;obtain⟨x',h1,h2⟩:=zoz noneT (by simp[noneT,pre,zbe]) hst;exact⟨_,_,x',_,h a q hl,h1,hst,⟨rfl,he,by simp⟩,h2⟩
theorem z0k {a b:List UInt8} {q:Stk} {lo hi:Int} {k:Nat} {e:Int} (he:e≠0)(h:zgm 1100 b=some (lo,hi,(k:Int),e))(hk:k<1000)(hl:(a++b).length<2^39):
 zbz 1100 y (Rd.mk (a++b) ((a.length:Nat):Int) 0 q)=some (noneT,Rd.mk (a++b) ((a.length:Nat)+(k:Nat):Int) e q):=by
 have hla:a.length<2^39:=by simp only[length_append] at hl;omega
 unfold zbz;rw[show((Rd.mk (a++b) ((a.length:Nat):Int) 0 q).e !=0)=false from rfl,cond_false];refine zf (by simp only[length_append];omega) (zj fun x1 hx1=> ?_);simp only at hx1;rw[zjv] at hx1;subst hx1;refine zu _ h ?_;simp only;rw[show(e !=0)=true by simpa using he,cond_true];exact zf (by omega) (zu _ (zng _ e _ rfl) rfl)
theorem z6m (hy:(pre y).length<=10000) {a u t:List UInt8} {c:UInt8} {q:Stk} {lo hi:Int} (h:zgm 1100 (u++c::t)=some (lo,hi,(u.length:Int),0))(hu:u≠[])(hc:c=42 \/c=43 \/c=63 \/c=123)(hl:(a++(u++c::t)).length<2^39):
 zbz 1100 y (Rd.mk (a++(u++c::t)) ((a.length:Nat):Int) 0 q)=some (zfr y lo hi,Rd.mk (a++(u++c::t)) ((a.length:Nat)+(u.length:Nat):Int) 92 q):=by
 have hlu:a.length+u.length<2^39:=by simp only[length_append] at hl;omega
 have hu0:0<u.length:=List.length_pos_iff.2 hu;unfold zbz;rw[show((Rd.mk (a++(u++c::t)) ((a.length:Nat):Int) 0 q).e !=0)=false from rfl,cond_false];refine zf (by simp only[length_append];omega) (zj fun x1 hx1=> ?_);simp only at hx1;rw[zjv] at hx1;subst hx1;refine zu _ h ?_;simp only;rw[show((0:Int) !=0)=false from rfl,cond_false];refine zf (by omega) ?_;refine zaj (Rd.mk (a++(u++c::t)) ((a.length:Nat)+(u.length:Nat):Int) 92 q) ?_ (zf (by omega) (zj fun x hx=>by rw[<-hx]));rw[show decide ((u.length:Int)>0)=true from decide_eq_true (by omega),cond_true];have hn:=ztk (a++u) c t q;rw[append_assoc,length_append,Int.natCast_add] at hn;refine zu _ hn ?_;simp only;refine zf ⟨by omega,by have:=c.toNat_lt;omega⟩ (zj fun x hx=> ?_);have hx':decide (x>=0)=true:=by
  rw[<-hx];rcases hc with rfl|rfl|rfl|rfl<;>rfl
 rw[hx',cond_true];exact zu _ (zng _ 92 _ rfl) rfl
theorem zqu {h b:List UInt8} {P:Nat->List Int->Rd->Prop} (hA:qpa n b P)(hh:h=[40]/\ (∀x t,b=x::t->x≠63) \/h=[40,63,58]):PcEnd (n+1) (h++b) fun m l r=>P (m+h.length) (l++[(m:Int)]) r where
 hd:=by rcases hh with⟨rfl,_⟩|rfl<;>exact⟨40,_,rfl,by decide,by decide,by decide⟩
 run a q hl hq:=by
  have hp:zcg (zhx q ((a.length:Nat):Int))=zcg q++[((a.length:Nat):Int)]:=rfl;rw[<-append_assoc] at hl⊢;have hh3:h.length<=3:=by rcases hh with⟨rfl,_⟩|rfl<;>simp
  have hh1:1<=h.length:=by rcases hh with⟨rfl,_⟩|rfl<;>simp
  have hla:a.length<2^39:=by simp only[length_append] at hl;omega
  obtain⟨t,r,g1,g2,g3,g4⟩:=hA (a++h) (zhx q ((a.length:Nat):Int)) hl (by rw[hp];simp only[length_append,length_cons,length_nil];omega);have hl1:((a.length:Nat):Int)+(h.length:Int)=(((a++h).length:Nat):Int):=by simp only[length_append];omega
  have grp:zdp (zvf 1100 (n+1)) (h.length:Int) (Rd.mk (a++h++b) ((a.length:Nat):Int) 0 q)=some (t,r):=by
   unfold zdp;refine zf (by simp only;omega) (zf (by simp only;omega) ?_);refine zu _ (by simp only;rw[hl1];exact g1) ?_;refine zaj r ?_ rfl;exact zu _ (znb g3) rfl
  have atom: ∃y,zei 1100 (zdp (zvf 1100 (n+1))) (Rd.mk (a++h++b) ((a.length:Nat):Int) 0 q)=some (y,r)/\ (pre y).length<=10000:=by
   have e3:a++h++b=a++(h++b):=by simp
   have hs:sub (a++h++b) ((a.length:Nat):Int) (length (a++h++b):Int)=h++b:=by rw[e3];exact zjv a (h++b)
   have hll:a.length<=(a++h++b).length:=by simp only[length_append];omega
   rcases hh with⟨rfl,hq63⟩|rfl
   ·refine⟨zgj t,?_,zgy _⟩;unfold zei;refine zf (by simp only;omega) (zj fun x1 hx1=> ?_);simp only at hx1;rw[hs] at hx1;subst hx1;refine zlq (zgj t,r) ?_ rfl;refine zf (by simp only[length_append,length_cons];omega) (zj fun x2 hx2=> ?_);have:x2=40:=by rw[<-hx2];rfl
    subst this;rw[show((((40:UInt8).toNat:Nat):Int)==40)=true from rfl,cond_true];refine zj fun x3 hx3=> ?_;have:x3=false:=by
     rw[<-hx3];cases b with
     |nil=>rfl
     | cons x t'=>
      have:=hq63 x t' rfl;unfold Lib.hasPrefix;simp[List.isPrefixOf];intro h;exact absurd h.symm this
    subst this;rw[cond_false];refine zu _ grp ?_;refine zf (by simp only;omega) (zj fun x hx=> ?_);rw[<-hx]
   ·refine⟨t,?_,g4⟩;unfold zei;refine zf (by simp only;omega) (zj fun x1 hx1=> ?_);simp only at hx1;rw[hs] at hx1;subst hx1;refine zlq (t,r) ?_ rfl;refine zf (by simp only[length_append,length_cons];omega) (zj fun x2 hx2=> ?_);have:x2=40:=by rw[<-hx2];rfl
    subst this;rw[show((((40:UInt8).toNat:Nat):Int)==40)=true from rfl,cond_true];refine zj fun x3 hx3=> ?_;have:x3=true:=by rw[<-hx3];rfl
    subst this;rw[cond_true];exact zu _ grp rfl
  obtain⟨y,ha,hy⟩:=atom;obtain⟨x',h1,h2⟩:=zoz y hy g3;rw[hp,length_append] at g2;exact⟨y,r,x',r,ha,h1,g3,g2,h2⟩
theorem zvm (n:Nat)(s:List UInt8)(t:Tr)(r j:Rd)(hh: ∃u,s=40::u)(hla:zss s)(hl:s.length<=1000)(hp:zvf 1100 n (Rd.mk s 0 0 none)=some (t,r))(he:j.e≠0)(ha:0<=j.a/\ j.a<=2000)
 (hj:(bif (r.e !=0) then(some (inl r)) else(bif (decide (r.a<(length s:Int))) then(chk (0<=r.a/\ r.a<(length s:Int)) (zay (ix s r.a) (fun x5=>(bif ((((x5).toNat:Nat):Int)==41) then(some (inl ((Rd.mk r.s r.a 91 r.q)))) else(some (inl ((Rd.mk r.s r.a 90 r.q)))))))) else(bif (decide ((length (zcg r.q):Int)>0)) then(chk (-9223372036854775808<=((length (zcg r.q):Int)-1)/\ ((length (zcg r.q):Int)-1)<9223372036854775808) (chk (0<=((length (zcg r.q):Int)-1)/\ ((length (zcg r.q):Int)-1)<(length (zcg r.q):Int)) (some (inl ((Rd.mk r.s (ix (zcg r.q) ((length (zcg r.q):Int)-1)) 91 r.q)))))) else(some (inl r)))):Option (Rd ⊕ (Rg×Int×Int)))=some (.inl j)):
 z4f 1100 n s=some (Rg.mk false false noneT,j.a,j.e):=by
 obtain⟨u,rfl⟩:=hh;have hpre:Lib.hasPrefix (40::u) ([94]:List UInt8)=false:=rfl;have htr:Lib.trimPrefix (40::u) ([94]:List UInt8)=40::u:=by unfold Lib.trimPrefix;rw[hpre];rfl
 unfold z4f z8p;rw[show decide ((length (40::u):Int)>1000)=false from decide_eq_false (by omega),cond_false];refine zj fun x1 hx1=> ?_;rw[htr,hpre] at hx1;subst hx1;simp only;refine zf (by omega) ?_;refine zu _ (ends_no _ hla (by omega)) ?_;refine zaj (40::u) rfl ?_;refine zu _ hp ?_;refine zaj j hj ?_;rw[show(j.e !=0)=true by simpa using he,cond_true];refine zf (by omega) ?_;rw[Int.sub_self,Int.zero_add]
theorem zyc {n k:Nat} {s:List UInt8} {e:Int} (hA:qpa n s (PE k e))(hh: ∃u,s=40::u)(hla:zss s)(hl:s.length<=1000)(hk:k<=2000)(hn:n<2^38):z4f 1100 (n+1) s=some (Rg.mk false false noneT,(k:Int),e):=by
 obtain⟨t,r,g1,⟨g2,g3,g4⟩,_,_⟩:=hA [] none (by simp only[nil_append];omega) (by show 0+n<2^39;omega);rw[nil_append] at g1;have e0:((([]:List UInt8).length:Nat):Int)=0:=rfl;rw[e0] at g1;have hre:r.e≠0:=by rw[g2];exact g3
 have:=zvm (n+1) s t r r hh hla hl g1 hre (by rw[g4];simp only[length_nil];omega) (by rw[show(r.e !=0)=true by simpa using hre,cond_true]);rw[this,g2,g4];simp
def PO (k:Nat)(m:Nat)(L:List Int)(r:Rd):Prop:=r.e=0/\ r.a=(r.s.length:Int)/\ ∃l,zcg r.q=l++[((m+k:Nat):Int)]/\ l.length<=L.length+5
theorem qfx {n k:Nat} {s:List UInt8} (hA:qpa n s fun m l r=>PO k m l r/\ r.s.length=m+s.length)(hh: ∃u,s=40::u)(hla:zss s)(hl:s.length<=1000)(hk:k<=2000)(hn:n<2^38):z4f 1100 (n+1) s=some (Rg.mk false false noneT,(k:Int),91):=by
 obtain⟨t,r,g1,⟨⟨g2,g3,l,g4,g6⟩,g5⟩,_,_⟩:=hA [] none (by simp only[nil_append];omega) (by show 0+n<2^39;omega);rw[nil_append] at g1;have e0:((([]:List UInt8).length:Nat):Int)=0:=rfl;rw[e0] at g1;have e1:(([]:List UInt8).length+k:Nat)=k:=by simp
 rw[e1] at g4;have hsl:(zcg r.q).length=l.length+1:=by rw[g4];simp
 have hix:ix (zcg r.q) ((length (zcg r.q):Int)-1)=(k:Int):=by
  rw[g4];have:(((l++[((k:Nat):Int)]).length:Int)-1)=((l.length:Nat):Int):=by simp only[length_append,length_cons,length_nil];omega
  rw[this];simp[ix]
 have hra:r.a=(length s:Int):=by rw[g3,g5];simp
 simp only[zcg,length_nil] at g6;refine zvm (n+1) s t r (Rd.mk r.s (k:Int) 91 r.q) hh hla hl g1 (by simp) (by simp only;omega) ?_;rw[show(r.e !=0)=false by rw[g2];rfl,cond_false,show decide (r.a<(length s:Int))=false from decide_eq_false (by omega),cond_false,show decide ((length (zcg r.q):Int)>0)=true from decide_eq_true (by omega),cond_true,hix];exact zf (by omega) (zf (by omega) rfl)
theorem qat {n:Nat} {A:Alts} (hA:qqb n A)(b:List UInt8)(hh: ∃u,zag A=40::u)(hla:zss (zag A++41::b))(hl:(zag A++41::b).length<=1000)(hn:n<2^38):z4f 1100 (n+1) (zag A++41::b)=some (Rg.mk false false noneT,((zag A).length:Int),91):=by
 obtain⟨q',g1,g2⟩:=qpf n A [] (41::b) none (.inr ⟨_,rfl⟩) hA (by simp only[nil_append];omega) (by show 0+n<2^39;omega);rw[nil_append] at g1;have e0:((([]:List UInt8).length:Nat):Int)=0:=rfl;rw[e0] at g1;obtain⟨u,hu⟩:=hh;refine zvm (n+1) (zag A++41::b) _ _ (Rd.mk (zag A++41::b) ((zag A).length:Int) 91 q') ⟨u++41::b,by rw[hu];rfl⟩ hla hl g1 (by simp) (by simp only[length_append] at hl⊢;omega) ?_;simp only;rw[show((0:Int) !=0)=false from rfl,cond_false,show decide (((zag A).length:Int)<(length (zag A++41::b):Int))=true from decide_eq_true (by simp only[length_append,length_cons];omega),cond_true];refine zf (by simp only[length_append,length_cons];omega) (zj fun x hx=> ?_);rw[z4k] at hx;subst hx;rfl
structure Ca where
 s:List UInt8
 a:Int
 e:Int
def qfs (r:Ca):List AV:=[.raw (.string (bs r.s)),.raw (.int .i64 r.a),.raw (.int .i64 r.e)]
instance:Enc Ca where
 inh:=⟨[],0,0⟩
 cells:=qfs
 cellsL l:=l.flatMap qfs
 sz:=3
 pos:=by decide
 nil:=rfl
 cons _ _:=rfl
 len r:=rfl
 clo r:=rfl
end Go.Ab
namespace Go.Ab
open Go Go.RowKit Go.Fwd Go.Proofs
def zvb:List Ca:=[(Ca.mk ([124,42]:List UInt8) 1 92),(Ca.mk ([97,43,63]:List UInt8) 2 92),(Ca.mk ([41]:List UInt8) 0 91),(Ca.mk ([40,98]:List UInt8) 0 91),(Ca.mk ([40,63,58,98,124,40,99]:List UInt8) 5 91),(Ca.mk ([94]:List UInt8) 0 95),(Ca.mk ([36,97]:List UInt8) 0 95),(Ca.mk ([98,91]:List UInt8) 2 94),(Ca.mk ([91,94,93]:List UInt8) 2 94),(Ca.mk ([91,99,45,97,93]:List UInt8) 2 94),(Ca.mk ([91,97,45,92,100,93]:List UInt8) 2 94),(Ca.mk ([91,92,120,48,48,45,92,120,102,102]:List UInt8) 10 94),(Ca.mk ([91,94,92,120,48,48,45,92,120,102,102,93]:List UInt8) 0 94),(Ca.mk ([98,123,48,44,48,125]:List UInt8) 1 93),(Ca.mk ([98,123,49,44,50]:List UInt8) 5 93),(Ca.mk ([98,47]:List UInt8) 1 90)]
def qnq (fuel:Nat)(l:(List Sm))(way:Int):Option Bool:=
 (chk (length l<2^63/\ ∀y∈l,y.2.1<256) (zay (zta l) (fun x1=>(zai (qfy fuel [x1]) (fun x2=>(bif (!x2) then(some true) else(chk ((pre x1).length<2^40/\ SY x1) (zay (zds x1) (fun x3=>(chk (length ([40,63,58]:List UInt8)+length x3<=9223372036854775807) (chk (length (([40,63,58]:List UInt8)++x3)+length ([41]:List UInt8)<=9223372036854775807) (chk (0<=(tmod way 16)/\ (tmod way 16)<(length zvb:Int)) (zay (ix zvb (tmod way 16)) (fun x4=>(chk (length ((([40,63,58]:List UInt8)++x3)++([41]:List UInt8))+length x4.s<=9223372036854775807) (zai (z4f 1100 2000 (((([40,63,58]:List UInt8)++x3)++([41]:List UInt8))++x4.s)) (fun x5=>(bif (((x5.1.t.k:Nat):Int)==0) then(bif (!x5.1.b) then(bif (!x5.1.e) then(chk (-9223372036854775808<=((length ((([40,63,58]:List UInt8)++x3)++([41]:List UInt8)):Int)+x4.a)/\ ((length ((([40,63,58]:List UInt8)++x3)++([41]:List UInt8)):Int)+x4.a)<9223372036854775808) (bif (x5.2.1==((length ((([40,63,58]:List UInt8)++x3)++([41]:List UInt8)):Int)+x4.a)) then(some (x5.2.2==x4.e)) else(some false))) else(some false)) else(some false)) else(some false)))))))))))))))))))
theorem ent5:Ent prog 5:=enters_of Tryz.func5 (by kernel_rfl) rfl
theorem rxw_sh (fuel:Nat)(l:(List Sm))(way:Int)(r:Bool)(h:qnq fuel l way=some r):Pure (ITP prog) prog 5 [.L (l:List Sm),.raw (.int .u8 way)] (.raw (.bool r)):=by
 unfold qnq at h;refine zbg 80 mix Tryz.func5 ent5 ?_;refine zae [.v (.b false)] ?_;refine zi ?_;refine zi (zb ?_);refine zcp (r:= .b true) qau ?_;refine w_o (a:= .b false) ?_;refine zcc rfl ?_;refine zae [.m _] ?_;obtain⟨g1,h⟩:=ze h;obtain⟨x1,hx1,h⟩:=zh h;refine zcp (args':=[.L (l:List Sm)]) (r:= .A (x1:Tr)) (by rw[<-hx1];exact(k_made l g1)) ?_;refine zda zN ?_;refine zeq 8 (Enc.cells (x1:Tr)) ?_;refine zi ?_;refine zae [.v (.A (x1:Tr))] ?_;refine w_o (a:= .F ([x1]:List Tr)) (h:=zba (zhz (α:=Tr) (l:=[x1]) (cs:=Enc.cells (x1:Tr)++[]) rfl (by rw[Enc.cons,Enc.nil]))) ?_;obtain⟨x2,hx2,h⟩:=zr h;refine zcp (few_sh fuel [x1] x2 hx2) ?_;refine w_o (a:= .b (!x2)) ?_;refine zbr h (fun hc1 h=> ?_) (fun hc1 h=> ?_);refine zae [.v (.b true)] ?_;exact zbc h;refine zae [.v (.A (x1:Tr))] ?_;obtain⟨g2,h⟩:=ze h;obtain⟨x3,hx3,h⟩:=zh h;refine zcp (args':=[.A (x1:Tr)]) (r:= .s x3) (by rw[<-hx3];exact(k_say x1 g2)) ?_;obtain⟨g3,h⟩:=ze h;refine w_o (a:= .s (([40,63,58]:List UInt8)++x3)) (h:=zba (zcs g3 rfl rfl rfl)) ?_;obtain⟨g4,h⟩:=ze h;refine w_o (a:= .s ((([40,63,58]:List UInt8)++x3)++([41]:List UInt8))) (h:=zba (zcs g4 rfl rfl rfl)) ?_;refine zao ?_;refine zae [.v (.A ((Ca.mk ([124,42]:List UInt8) 1 92):Ca)),.v (.A ((Ca.mk ([97,43,63]:List UInt8) 2 92):Ca)),.v (.A ((Ca.mk ([41]:List UInt8) 0 91):Ca)),.v (.A ((Ca.mk ([40,98]:List UInt8) 0 91):Ca)),.v (.A ((Ca.mk ([40,63,58,98,124,40,99]:List UInt8) 5 91):Ca))] ?_;refine w_r [.v (.A ((Ca.mk ([94]:List UInt8) 0 95):Ca)),.v (.A ((Ca.mk ([36,97]:List UInt8) 0 95):Ca)),.v (.A ((Ca.mk ([98,91]:List UInt8) 2 94):Ca)),.v (.A ((Ca.mk ([91,94,93]:List UInt8) 2 94):Ca)),.v (.A ((Ca.mk ([91,99,45,97,93]:List UInt8) 2 94):Ca))] ?_;refine w_r [.v (.A ((Ca.mk ([91,97,45,92,100,93]:List UInt8) 2 94):Ca)),.v (.A ((Ca.mk ([91,92,120,48,48,45,92,120,102,102]:List UInt8) 10 94):Ca)),.v (.A ((Ca.mk ([91,94,92,120,48,48,45,92,120,102,102,93]:List UInt8) 0 94):Ca)),.v (.A ((Ca.mk ([98,123,48,44,48,125]:List UInt8) 1 93):Ca)),.v (.A ((Ca.mk ([98,123,49,44,50]:List UInt8) 5 93):Ca))] ?_;refine w_r [.v (.A ((Ca.mk ([98,47]:List UInt8) 1 90):Ca))] ?_;refine w_o (a:= .F (zvb:List Ca)) (h:=zba (zhz (α:=Ca) (l:=zvb) (cs:=Enc.cells ((Ca.mk ([124,42]:List UInt8) 1 92):Ca)++(Enc.cells ((Ca.mk ([97,43,63]:List UInt8) 2 92):Ca)++(Enc.cells ((Ca.mk ([41]:List UInt8) 0 91):Ca)++(Enc.cells ((Ca.mk ([40,98]:List UInt8) 0 91):Ca)++(Enc.cells ((Ca.mk ([40,63,58,98,124,40,99]:List UInt8) 5 91):Ca)++(Enc.cells ((Ca.mk ([94]:List UInt8) 0 95):Ca)++(Enc.cells ((Ca.mk ([36,97]:List UInt8) 0 95):Ca)++(Enc.cells ((Ca.mk ([98,91]:List UInt8) 2 94):Ca)++(Enc.cells ((Ca.mk ([91,94,93]:List UInt8) 2 94):Ca)++(Enc.cells ((Ca.mk ([91,99,45,97,93]:List UInt8) 2 94):Ca)++(Enc.cells ((Ca.mk ([91,97,45,92,100,93]:List UInt8) 2 94):Ca)++(Enc.cells ((Ca.mk ([91,92,120,48,48,45,92,120,102,102]:List UInt8) 10 94):Ca)++(Enc.cells ((Ca.mk ([91,94,92,120,48,48,45,92,120,102,102,93]:List UInt8) 0 94):Ca)++(Enc.cells ((Ca.mk ([98,123,48,44,48,125]:List UInt8) 1 93):Ca)++(Enc.cells ((Ca.mk ([98,123,49,44,50]:List UInt8) 5 93):Ca)++(Enc.cells ((Ca.mk ([98,47]:List UInt8) 1 90):Ca)++[])))))))))))))))) (by kernel_rfl) (by unfold zvb;rw[Enc.cons,Enc.cons,Enc.cons,Enc.cons,Enc.cons,Enc.cons,Enc.cons,Enc.cons,Enc.cons,Enc.cons,Enc.cons,Enc.cons,Enc.cons,Enc.cons,Enc.cons,Enc.cons,Enc.nil]))) ?_;refine w_r [.m _,.v (.u (tmod way 16))] ?_;obtain⟨g5,h⟩:=ze h;obtain⟨x4,hx4,h⟩:=zh h;refine z4t hx4 g5 ?_;refine w_o (a:= .A (x4:Ca)) ?_;refine zda (Enc.cells ((Ca.mk [] 0 0):Ca)) ?_;refine zeq 3 (Enc.cells (x4:Ca)) ?_;refine zae [.m _,.v (.ptr 1 0),.v (.s x4.s)] ?_;obtain⟨g6,h⟩:=ze h;refine w_o (a:= .s (((([40,63,58]:List UInt8)++x3)++([41]:List UInt8))++x4.s)) (h:=zba (zcs g6 rfl rfl rfl)) ?_;obtain⟨x5,hx5,h⟩:=zr h;refine zcp (r:= .tup [.A (x5.1:Rg),.i x5.2.1,.i x5.2.2]) (qeg 1100 2000 (((([40,63,58]:List UInt8)++x3)++([41]:List UInt8))++x4.s) x5 hx5) ?_;refine w_r [.m _,.x _,.x _,.x _] ?_;refine zda [.b false,.b false,.u 0,.raw (.int .u64 0),.raw (.int .u64 0),.raw (.int .u64 0),.raw (.int .u64 0),.i 0,.i 0,.list 0 [] .full] ?_;refine zeq 10 (Enc.cells (x5.1:Rg)) ?_;refine w_r [.m _,.m _] ?_;refine zae [.v (.ptr 2 2),.v (.ptr 2 2),.v (.u ((x5.1.t.k:Nat):Int)),.v (.b (((x5.1.t.k:Nat):Int)==0))] ?_;refine zab h (fun hc2 h=> ?_) (fun hc2 h=> ?_);refine zap hc2 ?_;refine w_r [.v (.ptr 2 0),.v (.b x5.1.b),.v (.b (!x5.1.b)),.v (.b (!x5.1.b))] ?_;refine zab h (fun hc3 h=> ?_) (fun hc3 h=> ?_);refine zap hc3 ?_;refine w_r [.v (.ptr 2 1),.v (.b x5.1.e),.v (.b (!x5.1.e)),.v (.b (!x5.1.e))] ?_;refine zab h (fun hc4 h=> ?_) (fun hc4 h=> ?_);refine zap hc4 ?_;refine w_r [.m _,.m _] ?_;refine zan rfl rfl ?_;refine w_o (a:= .i (length ((([40,63,58]:List UInt8)++x3)++([41]:List UInt8)):Int)) (h:=zba (zeu rfl rfl rfl)) ?_;refine w_r [.v (.ptr 1 1),.v (.i x4.a)] ?_;refine zan rfl rfl ?_;obtain⟨g7,h⟩:=ze h;refine zhd g7 ?_;refine w_r [.v (.b (x5.2.1==((length ((([40,63,58]:List UInt8)++x3)++([41]:List UInt8)):Int)+x4.a))),.v (.b (x5.2.1==((length ((([40,63,58]:List UInt8)++x3)++([41]:List UInt8)):Int)+x4.a)))] ?_;refine zab h (fun hc5 h=> ?_) (fun hc5 h=> ?_);refine zap hc5 ?_;refine w_r [.m _,.v (.ptr 1 2),.v (.i x4.e),.v (.b (x5.2.2==x4.e)),.v (.b (x5.2.2==x4.e))] ?_;refine w_r [.m _] ?_;exact zbc h;refine zap hc5 ?_;refine w_r [.p,.p,.p,.p,.v (.b false)] ?_;refine w_r [.m _] ?_;exact zbc h;refine zap hc4 ?_;refine w_r [.p,.p,.p,.p,.p] ?_;refine w_r [.p,.p,.v (.b false),.m _,.p] ?_;refine w_r [.p,.p,.p,.v (.b false),.m _] ?_;exact zbc h;refine zap hc3 ?_;refine w_r [.p,.p,.p,.v (.b false),.m _] ?_;refine w_r [.p,.p,.p,.p,.p] ?_;refine w_r [.p,.p,.v (.b false),.m _,.p] ?_;refine w_r [.p,.p,.p,.v (.b false),.m _] ?_;exact zbc h;refine zap hc2 ?_;iterate 2 refine w_r [.p,.p,.p,.v (.b false),.m _] ?_
 refine w_r [.p,.p,.p,.p,.p] ?_;refine w_r [.p,.p,.v (.b false),.m _,.p] ?_;refine w_r [.p,.p,.p,.v (.b false),.m _] ?_;exact zbc h
variable {n:Nat} {c:UInt8}
instance (c:UInt8):Decidable (zme c):=by unfold zme;infer_instance
theorem qlj {β ρ:Type} {body:β->Option (β ⊕ ρ)} {s s':β} {r:Option ρ} (n:Nat)(h:body s=some (.inl s'))(k:zav body n s'=r):zav body (n+1) s=r:=by rw[zav,h];exact k
theorem few_one (x:Tr)(hx:(pre x).length<2^40/\ SY x)(fuel:Nat):qfy (fuel+1+1) [x]=some (decide (((zds x).length:Int)<900)):=by
 have h1:=hx.2.2;unfold qfy;refine zaj (((zds x).length:Int)) ?_ rfl;refine qlj _ (s':=(((zds x).length:Int),1)) ?_ (zic _ rfl);dsimp only;rw[show decide ((0:Int)<(length [x]:Int))=true from rfl,cond_true];refine zf (by simp) (zj fun z hz=> ?_);have:z=x:=by rw[<-hz];rfl
 subst this;refine zf hx (zj fun z' hz=> ?_);subst hz;refine zf (by omega) (zf (by decide) ?_);rw[Int.zero_add];rfl
theorem rxb (c:UInt8): ∃x,zle 1100 ((c.toNat:Nat):Int)=some x/\ (pre x).length<=10000:=by
 have hc:c.toNat<256:=c.toNat_lt;refine⟨ofT (bit c.toNat),?_,?_⟩
 ·unfold zle;refine zf ⟨by omega,by omega⟩ ?_;refine zu (bit c.toNat) ?_ (zj fun z hz=>by rw[<-hz]);rw[show zwk ((c.toNat:Nat):Int)=UInt8.ofNat c.toNat from rfl];exact(qbt c.toNat hc).2.2.2.2.1
 ·unfold ofT;split
  ·simp[noneT,pre,zbe]
  ·simp[pre,zbe]
theorem zqg {b:List UInt8} (hc:zme c)(h0:c≠0/\ c≠124/\ c≠41)(hs:(zhu (c::b)).2=false)(hb:zcv (c::b) zfy=some (((c.toNat:Nat):Int),1,0))(hn:zrm b):StepB n [c] b where
 hd:=⟨c,[],rfl,h0⟩
 run a q hl hq:=by
  obtain⟨x,h1,h2⟩:=rxb c;have ha:=zvd (g:=zdp (zvf 1100 n)) (q:=q) (k:=1) hc hs hb h1 (by decide) (by simpa using hl);have e:((a.length:Nat)+(1:Nat):Int)=(((a++[c]).length:Nat):Int):=by simp
  rw[e] at ha;have hcn:=zkn x h2 (a++[c]) [] b q 1 1 (by simpa using z0t hn) hn (by simp only[length_append,length_cons,length_nil] at hl⊢;omega);simp only[append_nil] at hcn;rw[append_assoc] at hcn;exact⟨x,_,_,q,ha,hcn,rfl,zif _ h2 1 1⟩
theorem z3y {k:Nat} {b:List UInt8} {lo hi e:Int} (he:e≠0)(hc:zme c)(h0:c≠0/\ c≠124/\ c≠41)(hs:(zhu (c::b)).2=false)(hb:zcv (c::b) zfy=some (((c.toNat:Nat):Int),1,0))(h:zgm 1100 b=some (lo,hi,(k:Int),e))(hk:k<1000):PcEnd n (c::b) (PE (1+k) e) where
 hd:=⟨c,b,rfl,h0⟩
 run a q hl hq:=by
  obtain⟨x,h1,h2⟩:=rxb c;have ha:=zvd (g:=zdp (zvf 1100 n)) (q:=q) (k:=1) hc hs hb h1 (by decide) hl;have e1:((a.length:Nat)+(1:Nat):Int)=(((a++[c]).length:Nat):Int):=by simp
  rw[e1] at ha;have hcn:=z0k (y:=x) (a:=a++[c]) (q:=q) he h hk (by simp only[length_append,length_cons,length_nil] at hl⊢;omega);rw[append_assoc] at hcn;refine⟨x,_,noneT,_,ha,hcn,.inl he,⟨rfl,he,?_⟩,by simp[noneT,pre,zbe]⟩;simp only[length_append,length_cons,length_nil];omega
theorem end_rep {d:UInt8} {u t:List UInt8} {lo hi:Int} (hc:zme c)(h0:c≠0/\ c≠124/\ c≠41)(hs:(zhu (c::(u++d::t))).2=false)(hb:zcv (c::(u++d::t)) zfy=some (((c.toNat:Nat):Int),1,0))(h:zgm 1100 (u++d::t)=some (lo,hi,(u.length:Int),0))(hu:u≠[])(hd:d=42 \/d=43 \/d=63 \/d=123):PcEnd n (c::(u++d::t)) (PE (1+u.length) 92) where
 hd:=⟨c,_,rfl,h0⟩
 run a q hl hq:=by
  obtain⟨x,h1,h2⟩:=rxb c;have ha:=zvd (g:=zdp (zvf 1100 n)) (q:=q) (k:=1) hc hs hb h1 (by decide) hl;have e1:((a.length:Nat)+(1:Nat):Int)=(((a++[c]).length:Nat):Int):=by simp
  rw[e1] at ha;have hcn:=z6m h2 (a:=a++[c]) (q:=q) h hu hd (by simp only[length_append,length_cons,length_nil] at hl⊢;omega);rw[append_assoc] at hcn;refine⟨x,_,_,_,ha,hcn,.inl (by simp),⟨rfl,by decide,?_⟩,zif _ h2 lo hi⟩;simp only[length_append,length_cons,length_nil];omega
theorem ztw {t:List UInt8} {v k z e:Int} (hz:z≠0)(hc:c≠40/\ c≠91/\ c≠46)(h0:c≠0/\ c≠124/\ c≠41)(hs:(zhu (c::t)).2=false)(hb:zcv (c::t) zfy=some (v,k,z))(he0:e≠0)(he:((c=42 \/c=43 \/c=63 \/c=123)/\ e=92) \/((c=94 \/c=36)/\ e=95) \/(zme c/\ e=90)):PcEnd n (c::t) (PE 0 e):=
 zyb ⟨c,t,rfl,h0⟩ he0 fun a q hl=>by
  rw[show((a.length:Nat)+(0:Nat):Int)=((a.length:Nat):Int) by simp];exact qmf hz hc hs hb he hl
theorem zxz {k:Nat} {t:List UInt8} {s:BS} {e:Int} (he:e≠0)(hb:zij 1100 (91::t)=some (s,(k:Int),e))(hk:k<1000):PcEnd n (91::t) (PE k e):=
 zyb ⟨91,t,rfl,by decide,by decide,by decide⟩ he fun a q hl=>qne he hb hk hl
def BadT (s:List UInt8)(k:Nat)(e:Int):Prop:=
 ∀(u:List UInt8) (x:Tr),AtP 1999 u x->(∃v,u=40::v)->u.length<950->z4f 1100 2000 (u++s)=some (Rg.mk false false noneT,((u.length+k:Nat):Int),e)
theorem zzd {m m' k:Nat} {e:Int} {l:List Int} {r:Rd} (h:PE k e (m+m') l r):PE (m'+k) e m l r:=⟨h.1,h.2.1,by rw[h.2.2];omega⟩
theorem zln {s:List UInt8} {k:Nat} {e:Int} (h:EndsB 1999 s (PE k e))(hn:zrm s)(hla:zss s)(hs:s≠[])(hl:s.length<50)(hk:k<50):BadT s k e:=by
 intro u x hu hh hul;have h1:=((hu.step hn).ends h).mono fun m l r h=>zzd h;have h2:=h1.alt (fun m l r h=>h.stuck) (by simp only[length_append];omega);obtain⟨v,rfl⟩:=hh;refine zyc h2 ⟨v++s,rfl⟩ ?_ (by simp only[length_append];omega) (by omega) (by decide);intro w z hw;rcases zra s with h|⟨w',z',h⟩
 ·exact absurd h hs
 ·rw[h, <-append_assoc] at hw;obtain⟨_,e2⟩:=List.append_inj' hw rfl;cases e2;exact hla w' _ h
theorem zlx {t:List UInt8} (h:c≠42/\ c≠43/\ c≠63/\ c≠123):zrm (c::t):=by
 intro d u e;cases e;exact h
theorem nc_nil:zrm []:=by intro d u e;cases e
def PZ (m:Nat)(l:List Int)(r:Rd):Prop:=r.e=0/\ r.a=(m:Int)/\ r.s.length=m/\ zcg r.q=l/\ zwe r
theorem bad_bar:BadT [124,42] 1 92:=by
 intro u x hu hh hul;have h0:EndsB 1999 [42] (PE 0 92):=(ztw (c:=42) (t:=[]) (v:=0) (k:=0) (z:=20) (by decide) (by decide) (by decide) rfl (by decide+kernel) (by decide) (.inl ⟨.inl rfl,rfl⟩)).ends;have h1:=(hu.step (b:=[124,42]) (zlx (by decide))).ends (z9l 1999 [42]);have h2:=EndsB.alt2 (u:=u) (b:=[42]) h1 h0 (fun m l r h=>h.stuck) (by simp only[length_append,length_cons,length_nil];omega);obtain⟨v,rfl⟩:=hh;have h3:qpa 1999 (40::v++[124,42]) (PE ((40::v).length+1) 92):=fun a q hl hq=>by
  obtain⟨t,r,g1,g2,g3,g4⟩:=h2 a q hl hq;exact⟨t,r,g1,⟨g2.1,g2.2.1,by rw[g2.2.2];omega⟩,g3,g4⟩
 exact zyc h3 ⟨v++[124,42],rfl⟩ (zfc (v:=40::v++[124]) (z:=42) (by simp) (by decide)) (by simp only[length_append,length_cons,length_nil] at hul⊢;omega) (by omega) (by decide)
theorem qjx:BadT [41] 0 91:=by
 intro u x hu hh hul;have e:zag [[(u,x)]]=u:=by simp[zag,zbl]
 have hA:qqb 1999 [[(u,x)]]:=by
  refine⟨by simp,fun L hL=> ?_,by simp⟩;rw[mem_singleton] at hL;subst hL;exact⟨by simp,fun p hp=>by rw[mem_singleton] at hp;subst hp;exact hu⟩
 have:=qat hA [] (by rw[e];exact hh) (by rw[e];exact zfc rfl (by decide)) (by rw[e];simp only[length_append,length_cons,length_nil];omega) (by decide);rw[e] at this;exact this
theorem z9a (hc:zme c)(h0:c≠0/\ c≠124/\ c≠41)(hs:(zhu [c]).2=false)(hb:zcv [c] zfy=some (((c.toNat:Nat):Int),1,0)):qpa n [c] fun m l r=>PZ (m+1) l r:=
 ((zqg (n:=n) (b:=[]) hc h0 hs hb nc_nil).ends (qmb n)).alt (fun m l r h=>h.2.2.2.2) (by simp)
theorem qah {s:List UInt8} {k:Nat} (h:PcEnd 1999 s fun m l r=>PZ (m+s.length) (l++(if k=0 then[(m:Int)] else[(m:Int),((m+k:Nat):Int)])) r)(hn:zrm s)(hla:zss s)(hs:s≠[])(hl:s.length<50)(hk:k<50):BadT s k 91:=by
 intro u x hu hh hul;have h2:=((hu.step hn).ends h.ends).alt (fun m l r h=>h.2.2.2.2) (by simp only[length_append];omega);have h3:qpa 1999 (u++s) fun m l r=>PO (u.length+k) m l r/\ r.s.length=m+(u++s).length:=fun a q hl hq=>by
  obtain⟨t,r,g1,⟨g2,g3,g4,g5,_⟩,g6,g7⟩:=h2 a q hl hq;refine⟨t,r,g1,⟨⟨g2,by rw[g3,g4],?_⟩,by rw[g4,length_append];omega⟩,g6,g7⟩;by_cases h0:k=0
  ·rw[if_pos h0] at g5;exact⟨zcg q,by rw[g5,h0];simp,by omega⟩
  ·rw[if_neg h0] at g5;refine⟨zcg q++[((a.length+u.length:Nat):Int)],?_,by simp⟩;rw[g5,show a.length+u.length+k=a.length+(u.length+k) by omega];simp
 obtain⟨v,rfl⟩:=hh;refine qfx h3 ⟨v++s,rfl⟩ ?_ (by simp only[length_append];omega) (by omega) (by decide);intro w z hw;rcases zra s with h|⟨w',z',h⟩
 ·exact absurd h hs
 ·rw[h, <-append_assoc] at hw;obtain⟨_,e2⟩:=List.append_inj' hw rfl;cases e2;exact hla w' _ h
theorem PcEnd.mono {b:List UInt8} {P P':Nat->List Int->Rd->Prop} (h:PcEnd n b P)(hp: ∀m l r,P m l r->P' m l r):PcEnd n b P' where
 hd:=h.hd
 run a q hl hq:=by
  obtain⟨y,r1,x,r2,g1,g2,g3,g4,g5⟩:=h.run a q hl hq;exact⟨y,r1,x,r2,g1,g2,g3,hp _ _ _ g4,g5⟩
theorem bad_o1:BadT [40,98] 0 91:=
 qah ((zqu (h:=[40]) (b:=[98]) (z9a (by decide) (by decide) rfl (by decide+kernel)) (.inl ⟨rfl,fun x t e=>by cases e;decide⟩)).mono fun m l r h=>h) (zlx (by decide)) (zfc (v:=[40]) (z:=98) rfl (by decide)) (by simp) (by simp) (by decide)
theorem bad_o2:BadT [40,63,58,98,124,40,99] 5 91:=by
 have h1:PcEnd 1998 [40,99] _:=zqu (n:=1997) (h:=[40]) (b:=[99]) (z9a (by decide) (by decide) rfl (by decide+kernel)) (.inl ⟨rfl,fun x t e=>by cases e;decide⟩);have h2:=(zqg (n:=1998) (c:=98) (b:=[124,40,99]) (by decide) (by decide) rfl (by decide+kernel) (zlx (by decide))).ends (z9l 1998 [40,99]);have h3:=EndsB.alt2 (u:=[98]) (b:=[40,99]) h2 h1.ends (fun m l r h=>h.2.2.2.2) (by simp);refine qah ((zqu (h:=[40,63,58]) h3 (.inr rfl)).mono fun m l r h=> ?_) (zlx (by decide)) (zfc (v:=[40,63,58,98,124,40]) (z:=99) rfl (by decide)) (by simp) (by simp) (by decide);obtain⟨g1,g2,g3,g4,g5⟩:=h;refine⟨g1,by rw[g2];simp only[length_cons,length_nil]<;>omega,by rw[g3];simp only[length_cons,length_nil]<;>omega,?_,g5⟩;rw[g4,if_neg (by decide),show m+([40,63,58]:List UInt8).length+([98]:List UInt8).length+1=m+5 by simp only[length_cons,length_nil]];simp
theorem bad_all: ∀i:Nat,i<16-> ∃(s:List UInt8) (k:Nat) (e:Int),zvb[i]? =some (Ca.mk s (k:Int) e)/\ BadT s k e/\ s.length<50/\ k<50:=by
 have hA:zme 97:=by decide
 have hB:zme 98:=by decide
 have c97:(97:UInt8)≠0/\ (97:UInt8)≠124/\ (97:UInt8)≠41:=by decide
 have c98:(98:UInt8)≠0/\ (98:UInt8)≠124/\ (98:UInt8)≠41:=by decide
 intro i hi;rcases(by omega:i=0 \/i=1 \/i=2 \/i=3 \/i=4 \/i=5 \/i=6 \/i=7 \/i=8 \/i=9 \/i=10 \/i=11 \/i=12 \/i=13 \/i=14 \/i=15) with rfl|rfl|rfl|rfl|rfl|rfl|rfl|rfl|rfl|rfl|rfl|rfl|rfl|rfl|rfl|rfl
 ·exact⟨_,1,_,rfl,bad_bar,by decide,by decide⟩
 ·exact⟨_,2,_,rfl,zln (end_rep (c:=97) (d:=63) (u:=[43]) (t:=[]) hA c97 rfl (by decide+kernel) (by decide+kernel:zgm 1100 [43,63]=some (1,-1,1,0)) (by simp) (.inr (.inr (.inl rfl)))).ends (zlx (by decide)) (zfc (v:=[97,43]) (z:=63) rfl (by decide)) (by simp) (by decide) (by decide),by decide,by decide⟩
 ·exact⟨_,0,_,rfl,qjx,by decide,by decide⟩
 ·exact⟨_,0,_,rfl,bad_o1,by decide,by decide⟩
 ·exact⟨_,5,_,rfl,bad_o2,by decide,by decide⟩
 ·exact⟨_,0,_,rfl,zln (ztw (c:=94) (t:=[]) (v:=0) (k:=0) (z:=20) (by decide) (by decide) (by decide) rfl (by decide+kernel) (by decide) (.inr (.inl ⟨.inl rfl,rfl⟩))).ends (zlx (by decide)) (zfc (v:=[]) (z:=94) rfl (by decide)) (by simp) (by decide) (by decide),by decide,by decide⟩
 ·exact⟨_,0,_,rfl,zln (ztw (c:=36) (t:=[97]) (v:=0) (k:=0) (z:=20) (by decide) (by decide) (by decide) rfl (by decide+kernel) (by decide) (.inr (.inl ⟨.inr rfl,rfl⟩))).ends (zlx (by decide)) (zfc (v:=[36]) (z:=97) rfl (by decide)) (by simp) (by decide) (by decide),by decide,by decide⟩
 ·exact⟨_,2,_,rfl,zln (((zqg (c:=98) (b:=[91]) hB c98 rfl (by decide+kernel) (zlx (by decide))).ends (zxz (t:=[]) (k:=1) (s:=0#256) (by decide) (by decide+kernel) (by decide)).ends).mono fun m l r h=>zzd h) (zlx (by decide)) (zfc (v:=[98]) (z:=91) rfl (by decide)) (by simp) (by decide) (by decide),by decide,by decide⟩
 ·exact⟨_,2,_,rfl,zln (zxz (t:=[94,93]) (k:=2) (s:=0#256) (by decide) (by decide+kernel) (by decide)).ends (zlx (by decide)) (zfc (v:=[91,94]) (z:=93) rfl (by decide)) (by simp) (by decide) (by decide),by decide,by decide⟩
 ·exact⟨_,2,_,rfl,zln (zxz (t:=[99,45,97,93]) (k:=2) (s:=0#256) (by decide) (by decide+kernel) (by decide)).ends (zlx (by decide)) (zfc (v:=[91,99,45,97]) (z:=93) rfl (by decide)) (by simp) (by decide) (by decide),by decide,by decide⟩
 ·exact⟨_,2,_,rfl,zln (zxz (t:=[97,45,92,100,93]) (k:=2) (s:=0#256) (by decide) (by decide+kernel) (by decide)).ends (zlx (by decide)) (zfc (v:=[91,97,45,92,100]) (z:=93) rfl (by decide)) (by simp) (by decide) (by decide),by decide,by decide⟩
 ·exact⟨_,10,_,rfl,zln (zxz (t:=[92,120,48,48,45,92,120,102,102]) (k:=10) (s:=0#256) (by decide) (by decide+kernel) (by decide)).ends (zlx (by decide)) (zfc (v:=[91,92,120,48,48,45,92,120,102]) (z:=102) rfl (by decide)) (by simp) (by decide) (by decide),by decide,by decide⟩
 ·exact⟨_,0,_,rfl,zln (zxz (t:=[94,92,120,48,48,45,92,120,102,102,93]) (k:=0) (s:=0#256) (by decide) (by decide+kernel) (by decide)).ends (zlx (by decide)) (zfc (v:=[91,94,92,120,48,48,45,92,120,102,102]) (z:=93) rfl (by decide)) (by simp) (by decide) (by decide),by decide,by decide⟩
 ·exact⟨_,1,_,rfl,zln (z3y (c:=98) (b:=[123,48,44,48,125]) (k:=0) (lo:=0) (hi:=0) (by decide) hB c98 rfl (by decide+kernel) (by decide+kernel) (by decide)).ends (zlx (by decide)) (zfc (v:=[98,123,48,44,48]) (z:=125) rfl (by decide)) (by simp) (by decide) (by decide),by decide,by decide⟩
 ·exact⟨_,5,_,rfl,zln (z3y (c:=98) (b:=[123,49,44,50]) (k:=4) (lo:=0) (hi:=0) (by decide) hB c98 rfl (by decide+kernel) (by decide+kernel) (by decide)).ends (zlx (by decide)) (zfc (v:=[98,123,49,44]) (z:=50) rfl (by decide)) (by simp) (by decide) (by decide),by decide,by decide⟩
 ·exact⟨_,1,_,rfl,zln (((zqg (c:=98) (b:=[47]) hB c98 rfl (by decide+kernel) (zlx (by decide))).ends (ztw (c:=47) (t:=[]) (v:=0) (k:=0) (z:=20) (e:=90) (by decide) (by decide) (by decide) rfl (by decide+kernel) (by decide) (.inr (.inr ⟨by decide,rfl⟩))).ends).mono fun m l r h=>zzd h) (zlx (by decide)) (zfc (v:=[98]) (z:=47) rfl (by decide)) (by simp) (by decide) (by decide),by decide,by decide⟩
theorem rxw_eq (l:List Sm)(way:Int)(hl:l.length<2^63/\ ∀y∈l,y.2.1<256)(hw:0<=way/\ way<256):qnq 1100 l way=some true:=by
 unfold qnq;refine zf hl (zj fun x hx=> ?_);obtain⟨cx,px,sx⟩:=made_CT l;rw[hx] at cx px sx;have hx40:(pre x).length<2^40/\ SY x:=⟨by omega,sx⟩;refine zu _ (few_one x hx40 1098) ?_;by_cases hf:((zds x).length:Int)<900
 rotate_left
 ·rw[decide_eq_false hf];rfl
 rw[decide_eq_true hf,show(!true)=false from rfl,cond_false];refine zf hx40 (zj fun s hs=> ?_);rw[hs] at hf;obtain⟨A,a1,a2,a3⟩:=z8i 1998 x (by omega) (by omega) cx;rw[hs] at a1;have ox:orT (zja A)=x:=by rw[a2];exact qhl cx
 have pcx:AtP 1999 ([40,63,58]++s++[41]) x:=by
  have:=at_nc 1998 A [] 1 1 a3 zyw;rwa[a1,ox,zuj cx,append_nil] at this
 obtain⟨i,hi,hi2⟩: ∃i:Nat,i<16/\ tmod way 16=(i:Int):=by
  have h1:tmod way 16=way%16:=Int.tmod_eq_emod_of_nonneg hw.1;exact⟨(way%16).toNat,by omega,by rw[h1];omega⟩
 rw[hi2];obtain⟨b,k,e,h1,h2,h3,h4⟩:=bad_all i hi;have hlen:(length zvb:Int)=16:=rfl;refine zf (by simp only[length_cons,length_nil];omega) (zf (by simp only[length_append,length_cons,length_nil];omega) (zf (by rw[hlen];omega) (zj fun c hc=> ?_)));have hc':c=Ca.mk b (k:Int) e:=by
  rw[<-hc];simp[ix,h1]
 subst hc';have hul:([40,63,58]++s++[41]:List UInt8).length<950:=by simp only[length_append,length_cons,length_nil];omega
 refine zf (by simp only[length_append,length_cons,length_nil];omega) ?_;refine zu _ (h2 _ x pcx ⟨_,rfl⟩ hul) ?_;simp only;rw[show((((noneT.k:Nat):Int))==0)=true from rfl,cond_true,show(!false)=true from rfl,cond_true,cond_true];refine zf (by omega) ?_;rw[show((([40,63,58]++s++[41]:List UInt8).length+k:Nat):Int)=(length ([40,63,58]++s++[41]:List UInt8):Int)+(k:Int) by omega];simp
end Go.Ab
namespace Go.Ab
open Go Go.RowKit Go.Fwd Go.Proofs Go.ChangeShapes Go.WideShapes Go.Deep
theorem und5:prog.underlying 5=some (.int .u8):=by kernel_rfl
theorem z9m {n:Int} (h:(Lit.int .u8 n).wf=true):0<=n/\ n<=255:=by
 have h1:IntKind.u8.min=0:=rfl;have h2:IntKind.u8.max=255:=rfl;simp only[Lit.wf,Bool.and_eq_true,decide_eq_true_eq] at h;omega
theorem qqp:prog.underlying 22=some (.slice 61):=rfl
theorem cells49:prog.cellsOf 61=3:=by kernel_rfl
theorem qle: ∃f0 f1 f2:Field,prog.underlying 61=some (.struct #[f0,f1,f2])/\ oneCellFields prog #[f0,f1,f2]=true/\ prog.underlying f0.type=some (.int .u8)/\ prog.underlying f1.type=some (.int .u8)/\ prog.underlying f2.type=some (.int .u8):=⟨_,_,_,rfl,by kernel_rfl,rfl,rfl,rfl⟩
section
variable {H:Type} {enc:TypeId×Value->H}
theorem z6x {W:World} {base:Nat} {spare:Nat->Bool} {held:Bool} {n:Nat} {cs:List Value} {x:DataW H×List MemPlace} (h:DataW.trod enc prog W base spare held n 61 cs=some x)(hl:cs.length=3):
 ∃s:Sm,cs=[.int .u8 (s.1:Int),.int .u8 (s.2.1:Int),.int .u8 (s.2.2:Int)]/\ s.2.1<256:=by
 obtain⟨f0,f1,f2,hu,hone,t0,t1,t2⟩:=qle;obtain⟨ys,m,_,_,_,hyl,hf⟩:=DataW.trod_struct hu h;obtain⟨o0,k0⟩:=hone_of hone 0 f0 rfl;obtain⟨o1,k1⟩:=hone_of hone 1 f1 rfl;obtain⟨o2,k2⟩:=hone_of hone 2 f2 rfl
 match cs,hl with
 | [c0,c1,c2],_=>
  match ys,hyl with
  | [y0,y1,y2],_=>
   have g0:DataW.trod enc prog W base spare held m f0.type [c0]=some y0:=by simpa[o0,k0] using hf 0 f0 rfl
   have g1:DataW.trod enc prog W base spare held m f1.type [c1]=some y1:=by simpa[o1,k1] using hf 1 f1 rfl
   have g2:DataW.trod enc prog W base spare held m f2.type [c2]=some y2:=by simpa[o2,k2] using hf 2 f2 rfl
   obtain⟨n0,e0,_,w0⟩:=DataW.trod_int t0 g0;obtain⟨n1,e1,_,w1⟩:=DataW.trod_int t1 g1;obtain⟨n2,e2,_,w2⟩:=DataW.trod_int t2 g2;simp at e0 e1 e2;subst e0 e1 e2;have b0:=z9m w0;have b1:=z9m w1;have b2:=z9m w2;exact⟨(n0.toNat,n1.toNat,n2.toNat),by simp only[Int.toNat_of_nonneg b0.1,Int.toNat_of_nonneg b1.1,Int.toNat_of_nonneg b2.1],by simp only;omega⟩
theorem z2j (W:World)(b:Nat): ∀(len o:Nat) (g:Nat->Sm),(∀i,i<len->W.cell? ⟨b,o+i*3,none⟩=some (.int .u8 ((g i).1:Int))/\ W.cell? ⟨b,o+i*3+1,none⟩=some (.int .u8 ((g i).2.1:Int))/\ W.cell? ⟨b,o+i*3+2,none⟩=some (.int .u8 ((g i).2.2:Int)))->
 At (ITP prog) (qct W) (qpu ((List.range len).map g)) b o
 |0,o,g,_=>by simp[qpu,At]
 | len+1,o,g,h=>by
  rw[List.range_succ_eq_map,List.map_cons,List.map_map,qpu,smc];have h0:=h 0 (by omega);simp only[Nat.zero_mul,Nat.add_zero] at h0;obtain⟨a0,a1,a2⟩:=h0;have ih:=z2j W b len (o+3) (g∘Nat.succ) (fun i hi=>by
   have:=h (i+1) (by omega);rw[show o+(i+1)*3=o+3+i*3 by omega] at this;exact this)
  simp only[List.cons_append,nil_append,At];exact⟨⟨⟨_,a0⟩,_,a0,rfl,by rw[Rep]⟩,⟨⟨_,a1⟩,_,a1,rfl,by rw[Rep]⟩,⟨⟨_,a2⟩,_,a2,rfl,by rw[Rep]⟩,ih⟩
theorem qbh {W:World} {base:Nat} {v:Value} {d:DataW H} {p:List MemPlace} (hv:Value.okWide prog W .any base 22 v)(h:DataW.Trod enc prog W 0 (fun _=>true) true 22 v d p):
 ∃l:List Sm,(l.length<2^63/\ ∀x∈l,x.2.1<256)/\ Rep (ITP prog) (qct W) (.list l.length (qpu l) .none) v:=by
 obtain⟨fuel,hf⟩:=h;obtain⟨a0,len,cap,rfl⟩:=okWide_slice qqp hv;rcases open_slice qqp hf with⟨h0,_⟩|⟨a,len',cap',m,n,D,Pl,hcs,hb,hl,hm,hmm,hx,hi⟩
 ·simp[Value.cells] at h0;obtain⟨rfl,rfl,rfl⟩:=h0;refine⟨[],by simp,?_⟩;rw[Rep];exact⟨none,0,rfl,⟨Nat.le_refl _,fun _=>rfl⟩,.inl rfl,trivial⟩
 ·simp [Value.cells] at hcs;obtain⟨rfl,rfl,rfl⟩:=hcs;rw[cells49] at hi;have hm':m=cap:=by simpa using hmm
  have hcell: ∀i,i<m-> ∃s:Sm,W.cell? (a.add (i*3))=some (.int .u8 (s.1:Int))/\ W.cell? (a.add (i*3+1))=some (.int .u8 (s.2.1:Int))/\ W.cell? (a.add (i*3+2))=some (.int .u8 (s.2.2:Int))/\ s.2.1<256:=fun i him=>by
   obtain⟨cs',hc,ht⟩:=hi i him;obtain⟨_,hcl,hat⟩:=World.cells?_some hc;obtain⟨s,rfl,hs⟩:=z6x ht hcl;refine⟨s,?_,?_,?_,hs⟩
   ·have:=hat 0 (by omega);rw[Go.Deep.add_add] at this;simpa using this
   ·have:=hat 1 (by omega);rw[Go.Deep.add_add] at this;simpa using this
   ·have:=hat 2 (by omega);rw[Go.Deep.add_add] at this;simpa using this
  by_cases hz:len=0
  ·subst hz;refine⟨[],by simp,?_⟩;rw[Rep];exact⟨some a,cap,rfl,⟨hl,fun h=>by cases h⟩,.inl rfl,trivial⟩
  ·obtain⟨s0,c0,_⟩:=hcell 0 (by omega);have hspot:a=⟨a.block,a.off,none⟩:=by
    cases a with
    | mk b o sp=>
     cases sp with
     |none=>rfl
     | some k=>
      exfalso
      simp[Addr.add,World.cell?] at c0;split at c0<;>simp at c0
   have hadd: ∀j,a.add j=⟨a.block,a.off+j,none⟩:=fun j=>by
    by_cases hj:j=0
    ·subst hj;simp[Addr.add];exact hspot
    ·simp[Addr.add,hj]
   let g:Nat->Sm:=fun i=>if h:i<m then Classical.choose (hcell i h) else(0,0,0)
   have hg: ∀i (him:i<m),W.cell? (a.add (i*3))=some (.int .u8 ((g i).1:Int))/\ W.cell? (a.add (i*3+1))=some (.int .u8 ((g i).2.1:Int))/\ W.cell? (a.add (i*3+2))=some (.int .u8 ((g i).2.2:Int))/\ (g i).2.1<256:=fun i him=>by
    have e:g i=Classical.choose (hcell i him):=dif_pos him;rw[e];exact Classical.choose_spec (hcell i him)
   have hml:maxLen<2^63:=by decide
   refine⟨(List.range len).map g,⟨by simp;omega,fun x hx=> ?_⟩,?_⟩
   ·obtain⟨i,hi',rfl⟩:=List.mem_map.1 hx;exact(hg i (by have:=List.mem_range.1 hi';omega)).2.2.2
   rw[Rep];refine⟨some a,cap,by simp,⟨by simpa using hl,fun h=>by cases h⟩,.inr ⟨a.block,a.off,by rw[<-hspot],z2j W a.block len a.off g fun i hi=> ?_⟩,trivial⟩;have:=hg i (by omega);rw[hadd,hadd,hadd] at this;exact⟨this.1,this.2.1,this.2.2.1⟩
end
end Go.Ab
namespace Go.Ab
open Go Go.RowKit Go.Fwd Go.Proofs Go.Proofs.YtnoccnalocdldaaGreatDoor Go.ChangeShapes Go.WideShapes Go.ChangeAt
theorem gv_of {W:World} (hL:laidMet prog Rows.rxreadJoinsRow.laid W)(hS:W.ShapedOpen prog):gvBase prog W where
 err:=fun n g h e=>by
  have h1:prog.globalNamed "strconv.ErrSyntax" =none:=by kernel_rfl
  have h2:prog.globalNamed "strconv.ErrRange" =none:=by kernel_rfl
  rcases h with rfl|rfl
  ·rw[h1] at e;cases e
  ·rw[h2] at e;cases e
 pow:=fun g e=>by
  have h1:prog.globalNamed "internal/strconv.uint64pow10" =none:=by kernel_rfl
  rw[h1] at e;cases e
 max:=fun g e=>by
  have h1:prog.globalNamed "internal/bytealg.MaxLen" =some 0:=by kernel_rfl
  rw[h1] at e;cases e;exact Go.Proofs.cell_of_shapedOpen_int (zero:= #[.int .i64 0]) (t:=3) hS (of_decide_eq_true (by kernel_rfl)) (by kernel_rfl) rfl (by kernel_rfl) (by kernel_rfl) (by kernel_rfl)
noncomputable def qqa:DataW Unit->List Value
 | .agg l=>l.flatMap fun d=>match d with
  | .lit (.int k n)=>[Value.int k n]
  | .agg l=>l.map fun d=>match d with| .lit (.int k n)=>Value.int k n|_=>undef
  |_=>[undef]
 |_=>[]
noncomputable def zty (os:Os):World:=
 let w0:=World.holding prog os ⟨#[], #[],[]⟩
 let put (h:Array Obj) (g:Nat) (cs:Array Value):Array Obj:=h.modify g fun
  | .cells _ t frozen=> .cells cs t frozen
  |o=>o
 let h1:=put w0.heap 1 (qqa Rows.laid_unicode_utf8_first).toArray
 let h2:=put h1 2 (qqa Rows.laid_unicode_utf8_acceptRanges).toArray
 {w0 with heap:=h2}
theorem qno (os:Os)(args:Array Value):laidMet prog Rows.rxreadJoinsRow.laid ((zty os).forCall (fun _ _=>0) ⟨#[],args,[]⟩).memory:=
 laidMet_of_run (ps:=MemPlace.row ⟨2,0,none⟩ 32++MemPlace.row ⟨1,0,none⟩ 256) 8 (by kernel_rfl) (by kernel_rfl) (by kernel_rfl)
end Go.Ab
namespace Go.Proofs.YtnoccnalocdldaaGreatDoor
open Go Go.Ab Go.ChangeShapes Go.WideShapes Go.ChangeAt Go.RowKit Go.Fwd
theorem zqp {H:Type} {enc:TypeId×Value->H} {P:Program} (hl:laidOutB P=true) {W W':World} (hb:Below W.heap.size W W'): ∀ {ts:List TypeId} {vs:List Value} {ds:List (DataW H)} {ps:List MemPlace},
 (ts.all fun t=>P.readableRec t&&decide (t<P.types.size))=true->DataW.TrodAll enc P W 0 (fun _=>true) true ts vs ds ps->(∀x∈ps,x.block<W.heap.size)->DataW.TrodAll enc P W' 0 (fun b=>decide (b<W.heap.size)) true ts vs ds ps
 | [],vs,ds,ps,_,h,_=>by
  cases vs with
  | nil=>
   cases ds with
   |nil=>exact h
   |cons=>exact h.elim
  |cons=>exact h.elim
 | t::ts,vs,ds,ps,ht,h,hlt=>by
  obtain⟨v,vs',d,ds',p,q,rfl,rfl,rfl,hd,hr⟩:=trodAll_cons h;simp only[List.all_cons,Bool.and_eq_true,decide_eq_true_eq] at ht;exact⟨p,q,Below.trod hl ht.1.1 ht.1.2 hd hb fun x hx=>hlt x (by simp[hx]),zqp hl hb ht.2 hr fun x hx=>hlt x (by simp[hx]),rfl⟩
theorem own':ownKnob prog.godebug=none:=by kernel_rfl
theorem qnu:laidOutB prog=true:=by kernel_rfl
end Go.Proofs.YtnoccnalocdldaaGreatDoor
namespace Go.Proofs.YtnoccnalocdldaaGreatDoor
open Go Go.Ab Go.ChangeShapes Go.WideShapes Go.ChangeAt Go.RowKit Go.Fwd
theorem trods_rxreadWrong {H:Type} {enc:TypeId×Value->H} {P:Program} {w:World} {base:Nat} {spare:Nat->Bool} {held:Bool} {t0 t1:TypeId} {args:Array Value} {ds:List (DataW H)} {ps:List MemPlace} (h:DataW.TrodAll enc P w base spare held [t0,t1] args.toList ds ps):
 ∃v0 v1 d0 d1 p0 p1,args= #[v0,v1]/\ ds=[d0,d1]/\ ps=p0++p1/\ DataW.Trod enc P w base spare held t0 v0 d0 p0/\ DataW.Trod enc P w base spare held t1 v1 d1 p1:=by
 obtain⟨v0,a0,d0,s0,p0,q0,hargs,rfl,rfl,g0,h⟩:=trodAll_cons h;obtain⟨v1,a1,d1,s1,p1,q1,rfl,rfl,rfl,g1,h⟩:=trodAll_cons h;obtain⟨rfl,rfl,rfl⟩:=trodAll_nil h;exact⟨v0,v1,d0,d1,p0,p1,by cases args;simp_all,rfl,by simp,g0,g1⟩
theorem witness_rxreadWrong (os:Os) {H:Type} (enc:TypeId×Value->H):
 (OpenSpec.ofChange Rows.rxreadWrongSpec).preRow enc prog Tryz.f5 Rows.rxreadWrongRow.domain false Rows.rxreadWrongRow.laid ((zty os).forCall (fun _ _=>0) ⟨#[], #[.slice none 0 0,.int .u8 0],[]⟩).memory #[.slice none 0 0,.int .u8 0]:=
 OpenSpec.preRow_of_B rfl 8 (by kernel_rfl) (by kernel_rfl) (qno os _)
theorem rxreadWrong_lifted (os:Os)(started:os.Started)(H:Type)(enc:TypeId×Value->H)(F:Stop.Interp):
 ReturnsInHanded {} Tryz.checked os 5 .any ((OpenSpec.ofChange Rows.rxreadWrongSpec).preRow enc prog Tryz.f5 Rows.rxreadWrongRow.domain false Rows.rxreadWrongRow.laid) (((OpenSpec.ofChange Rows.rxreadWrongSpec).at F).post enc prog Tryz.f5 false true false false):=by
 refine returnsInHanded_of_row (C:=Tryz.checked) (s:=OpenSpec.ofChange Rows.rxreadWrongSpec) own' started (by kernel_rfl) Tryz.func5
  (witness_row_atRef (enc:=enc) (C:=Tryz.checked) false (zty os) #[.slice none 0 0,.int .u8 0] rfl (by kernel_rfl) (by kernel_rfl) (by kernel_rfl) (witness_rxreadWrong os enc)) ?_
 intro W base args ds gs before hval0 hW hcnd0 _ hsz0 hL hS _;have hval: ∀(j:Nat) t v,Tryz.f5.params[j]? =some t->args[j]? =some v->Value.okWide prog W .any base t v:=hval0;have hW':=hW;obtain⟨p,q,hA0,hV,rfl,_,_⟩:=hW;have hA:DataW.TrodAll enc prog W 0 (fun _=>true) true Tryz.f5.params.toList args.toList ds p:=hA0;rw[show Tryz.f5.params.toList=[22,5] from by kernel_rfl] at hA;have hA1:=hA;obtain⟨v0,v1,d0,d1,p0,p1,rfl,rfl,rfl,h0,h1⟩:=trods_rxreadWrong hA;obtain⟨rfl,rfl⟩:=trodVars_none hV;obtain⟨x0,r0,hr0⟩:=qbh (hval 0 22 v0 (by kernel_rfl) rfl) h0;obtain⟨x1,rfl,rfl,rfl,w1⟩:=open_int und5 (hval 1 5 v1 (by kernel_rfl) rfl) h1;have r1:0<=x1/\ x1<256:=by have:=z9m w1;omega
 clear hA0 hval0;simp only[append_nil,nil_append] at hW' hA1;have hlt:=hW'.lt;refine(qlc (rxw_sh 1100 x0 x1 true (rxw_eq x0 x1 r0 r1)) W (gv_of hL hS) (vs:=[v0,.int .u8 x1]) ⟨_,_,rfl,hr0,_,_,rfl,rfl,rfl⟩).mono fun e W' ⟨he,hw⟩=> ?_;subst he;refine⟨_,rfl,?_⟩;refine⟨_,_,_,[]++[],p0,[],hW',?_,?_,rfl,hw.frame _,fun h=>by cases h⟩
 ·exact trodAll_mk1 (shut_bool (show prog.underlying 4=some .bool from by kernel_rfl) true)
 ·exact zqp qnu hw (by kernel_rfl) hA1 hlt
theorem rxreadWrong_holds:Rows.RxreadWrongSaid:=
 OpenClaim.holds_of_cond 5 Tryz.f5 rfl rfl rfl rfl rfl rfl rfl ⟨rfl,rfl,rfl,rfl,rfl⟩ rfl rfl rfl rfl rfl (by kernel_rfl) Tryz.func5 (by kernel_rfl)
  (of_decide_eq_true (by kernel_rfl)) (by unfold Func.isWrapper;rw[if_neg (of_decide_eq_false (by kernel_rfl))];exact⟨rfl,rfl⟩)
  (fun os started H enc _ F0=>by rw[OpenClaim.pre_eq_preRow];exact rxreadWrong_lifted os started H enc F0)
theorem rxreadWrong_card:Rows.RxreadWrongCardSaid:=
 Claim7.holds_tied_plain_at .later [] [.data,.pinned] true (true, "978a3f44b59fddea0a978660b435438489edc2062dfa36400188c925fdaae269") false
  rxreadWrong_holds (fun _ h=>by cases h) (by kernel_rfl) (fun _ h=>by cases h) rxreadWrong_row_tie rfl ⟨rfl,rfl⟩ (by kernel_rfl) rfl
  (fun f fn hf hfn=>by
   obtain rfl:f=5:=Option.some.inj ((show prog.funcNamed "repartee/reparteelaw09.RxreadWrong" =some 5 by kernel_rfl).symm.trans hf)|>.symm;obtain rfl:fn=Tryz.f5:=(Option.some.inj (Tryz.func5.symm.trans hfn)).symm;exact⟨by kernel_rfl,fun j t ht=>by
    have hm:t∈[22,5]:=by
     have h:=Array.mem_of_getElem? ht;rw[<-Array.mem_toList_iff,show Tryz.f5.params.toList=[22,5] from by kernel_rfl] at h;exact h
    have hall:([22,5].all fun u=> !prog.wantsStandIn u)=true:=by kernel_rfl
    exact(show prog.wantsStandIn t=false by simpa using List.all_eq_true.1 hall t hm)⟩)
  (by kernel_rfl)
#print axioms rxreadWrong_card
end Go.Proofs.YtnoccnalocdldaaGreatDoor
