import Derived.Test.YtnoccnalocdldaaDoorZgAx
import Derived.Deep.Slices
import Derived.Deep.Fields
import Derived.ChangeSame
import Derived.Test.YtnoccnalocdldaaDoorRows
import Derived.Deep.DeepHandedRow
import Derived.Deep.DeepWitnessRowRef
import Derived.ProofKit
import Derived.SizedLaws
import Derived.Laws.IdiomArrays
import Derived.HandedShaped
import Derived.Shelf.Vars
import Derived.ChangeMaps
set_option linter.all false
set_option maxRecDepth 100000
set_option maxHeartbeats 4000000
open Int (toNat tmod tdiv)
open Bool (and_eq_true)
open List (length length_cons all_eq_true mem_range)
open Go.Proofs.Tryd (prog)
namespace Go.Ab
open Go Go.RowKit Go.Fwd Go.Proofs
theorem qhc {P:Program} {ρ:Operand->AV} {U:St} {o:Oper} {t:TypeId} {x y:Operand} {c} {a b:List UInt8} (g:a.length+b.length<=9223372036854775807)(ho:o.op= .binOp .add t x y c)(hx:ρ x= .raw (.string (bs a)))(hy:ρ y= .raw (.string (bs b))):qop P ρ U o=some (.raw (.string (bs (a++b)))):=by
 have hs: ¬((((bs a).size+(bs b).size:Nat):Int)>IntKind.i64.max):=by
  have h1:(bs a).size=a.length:=rfl;have h2:(bs b).size=b.length:=rfl;have h3:IntKind.i64.max=9223372036854775807:=rfl;rw[h1,h2,h3];omega
 have h3:val? P (execOp (zce ρ) o)=some (.value (.string (bs (a++b)))):=by
  rw[<-bs_app];simp only[execOp,ho,zce,hx,hy,zdv,eqGuard,binOp,Op.stringOp,Option.getD_some];simp only[if_neg hs];rfl
 have h1:o.op.operands.toList.all (fun x=>(zdv (ρ x)).isSome)=true:=by rw[ho];simp[Op.operands,hx,hy,zdv]
 have h4:zfs P ρ o=some (.raw (.string (bs (a++b)))):=by
  unfold zfs;rw[if_pos h1,ho,h3];rfl
 simp only[qop,ho,hx,hy,h4]
def hexD (n:Nat):UInt8:=UInt8.ofNat (if n<10 then 48+n else 87+n)
def hexS (n:Nat):List UInt8:=[92,120,hexD (n/16),hexD (n%16)]
def textS (n:Nat):List UInt8:=if n<10 then[UInt8.ofNat (48+n)] else[49,UInt8.ofNat (38+n)]
noncomputable def run1 (f:Nat)(args:List AV)(r:AV):Bool:=match zkf prog noP (evQ true prog noP noS 300) f args with
 |some x=>z2b x r
 |none=>false
def bytesOf (s:BS):List Nat:=(List.range 256).filter fun i=>s.getLsbD i
mutual
def sayT:Tr->List UInt8
 | .mk k s mn mx l=>
  if k=2 then[91]++(bytesOf s).flatMap hexS++[93]
  else if k=3 then sayC l
  else if k=4 then sayA true l
  else if k=6 then[40]++say1 l++[41]
  else if k=5 then[40,63,58]++say1 l++[41,123]++textS mn.toNat++[44]++(if mx= -1 then[] else textS mx.toNat)++[125]
  else[]
def sayC:List Tr->List UInt8
 |[]=>[]
 |x::l=>[40,63,58]++sayT x++[41]++sayC l
def sayA:Bool->List Tr->List UInt8
 |_,[]=>[]
 |b,x::l=>(if b=true then[] else[124])++[40,63,58]++sayT x++[41]++sayA false l
def say1:List Tr->List UInt8
 |[]=>[]
 |x::_=>sayT x
end
def SY (t:Tr):Prop:=(∀x∈pre t,(x.k=5->(0<=x.mn/\ x.mn<20)/\ (x.mx= -1 \/0<=x.mx/\ x.mx<20))/\ (x.k=5 \/x.k=6->x.l≠[]))/\ (sayT t).length<=2^40
instance (t:Tr):Decidable (SY t):=by unfold SY;infer_instance
def bit (n:Nat):BS:=1#256<<<n
def bits:Nat->Nat->BS
 |_,0=>0#256
 |c,k+1=>bit c|||bits (c+1) k
theorem wd_inj4 {s t:BS} (h: ∀j,j<4->wd s j=wd t j):s=t:=by
 have h2:=qal s t;have h3:(wd s 0==wd t 0&&wd s 1==wd t 1&&wd s 2==wd t 2&&wd s 3==wd t 3)=true:=by
  rw[h 0 (by decide),h 1 (by decide),h 2 (by decide),h 3 (by decide)];simp
 rw[h2] at h3;exact of_decide_eq_true h3
theorem qii (s:BS)(j:Nat):orI .u64 (wd s j) 0=wd s j:=by
 have h:=qbi s 0#256 j;rw[show s|||0#256=s by simp,wd_zero] at h;exact h
theorem qac:((List.range 256).all fun c=>decide (wd (bit c) (c/64)=zpj .u64 1 ((c%64:Nat):Int))&&(List.range 4).all fun j=>j==c/64||decide (wd (bit c) j=0))=true:=by decide+kernel
theorem st_bit (s:BS)(c:Nat)(hc:c<256):stW s (c/64) (orI .u64 (wd s (c/64)) (zpj .u64 1 ((c%64:Nat):Int)))=s|||bit c:=by
 have ht:=all_eq_true.1 qac c (mem_range.2 hc);rw[and_eq_true] at ht;have h1:=of_decide_eq_true ht.1;have h2: ∀j,j<4->j≠c/64->wd (bit c) j=0:=fun j hj hne=>by
  have:=all_eq_true.1 ht.2 j (mem_range.2 hj);simpa[hne] using this
 have hv:0<=orI .u64 (wd s (c/64)) (zpj .u64 1 ((c%64:Nat):Int))/\ orI .u64 (wd s (c/64)) (zpj .u64 1 ((c%64:Nat):Int))<2^64:=by
  rw[<-h1,qbi];exact z6o _ _
 refine wd_inj4 fun j hj=> ?_;rw[qat _ _ _ hv j hj, <-qbi];split
 ·rename_i e;subst e;rw[h1]
 ·rename_i e;rw[h2 j hj e,qii]
theorem orI_lt (s:BS)(c:Nat)(hc:c<256):0<=orI .u64 (wd s (c/64)) (zpj .u64 1 ((c%64:Nat):Int))/\ orI .u64 (wd s (c/64)) (zpj .u64 1 ((c%64:Nat):Int))<18446744073709551616:=by
 have ht:=all_eq_true.1 qac c (mem_range.2 hc);rw[and_eq_true] at ht;have h1:=of_decide_eq_true ht.1;rw[<-h1,qbi];exact z6o _ _
theorem sh_tab:((List.range 256).all fun c=>decide (zge .i64 ((c:Nat):Int) 6=((c/64:Nat):Int))&&decide (zmk .i64 ((c:Nat):Int) 63=((c%64:Nat):Int))&&decide (IntKind.i64.wrap (tdiv ((c:Nat):Int) 64)=((c/64:Nat):Int))&&decide (tmod ((c:Nat):Int) 64=((c%64:Nat):Int))&&decide (zfy 1100 [UInt8.ofNat c]=some (bit c))&&decide (zhd (bit c)=some 1))=true:=by decide+kernel
theorem z4h {ρ:Type} (body:Int×BS->Option ((Int×BS) ⊕ ρ))(R:BS->ρ)(d:Nat)(hs: ∀(c:Nat)(s:BS),c<=d->body (((c:Nat):Int),s)=some (.inl (((c:Nat):Int)+1,s|||bit c)))(he: ∀s:BS,body (((d+1:Nat):Int),s)=some (.inr (R s))):
 ∀(k c:Nat) (s:BS) (fuel:Nat),c+k=d+1->k<fuel->zbg body fuel (((c:Nat):Int),s)=some (R (s|||bits c k))
 | 0,c,s,fuel,h1,h2=>by
  obtain⟨f,rfl⟩: ∃f,fuel=f+1:=⟨fuel-1,by omega⟩;have:c=d+1:=by omega
  subst this;rw[zbg,he];simp[bits]
 | k+1,c,s,fuel,h1,h2=>by
  obtain⟨f,rfl⟩: ∃f,fuel=f+1:=⟨fuel-1,by omega⟩;rw[zbg,hs c s (by omega)];have:=z4h body R d hs he k (c+1) (s|||bit c) f (by omega) (by omega);simp only[Int.natCast_add,Int.cast_ofNat_Int] at this;show zbg body f (((c:Nat):Int)+1,s|||bit c)=_;rw[this,bits,BitVec.or_assoc]
theorem qgm (c:Nat)(hc:c<256):zge .i64 ((c:Nat):Int) 6=((c/64:Nat):Int)/\ zmk .i64 ((c:Nat):Int) 63=((c%64:Nat):Int)/\ IntKind.i64.wrap (tdiv ((c:Nat):Int) 64)=((c/64:Nat):Int)/\ tmod ((c:Nat):Int) 64=((c%64:Nat):Int)/\ zfy 1100 [UInt8.ofNat c]=some (bit c)/\ zhd (bit c)=some 1:=by
 have ht:=all_eq_true.1 sh_tab c (mem_range.2 hc);simp only[and_eq_true,decide_eq_true_eq] at ht;obtain⟨⟨⟨⟨⟨a,b⟩,c⟩,d⟩,e⟩,f⟩:=ht;exact⟨a,b,c,d,e,f⟩
theorem z2h (c d:Nat)(hcd:c<=d)(hd:d<256):zcz 1100 ((c:Nat):Int) ((d:Nat):Int)=some (bits c (d+1-c)):=by
 unfold zcz;refine zbl (bits c (d+1-c)) ?_ rfl;refine zz (by omega) ?_;have h:=z4h (ρ:=BS ⊕ BS) (fun s1=>(chk (-9223372036854775808<=((d:Nat):Int)/\ ((d:Nat):Int)<9223372036854775808) (bif (decide (s1.1<=((d:Nat):Int))) then(chk (0<=(zge .i64 s1.1 6)/\ (zge .i64 s1.1 6)<4) (chk (0<=(zmk .i64 s1.1 63)) (chk (0<=(zge .i64 s1.1 6)/\ (zge .i64 s1.1 6)<4) (chk (0<=(orI .u64 (wd s1.2 (toNat (zge .i64 s1.1 6))) (zpj .u64 1 (zmk .i64 s1.1 63)))/\ (orI .u64 (wd s1.2 (toNat (zge .i64 s1.1 6))) (zpj .u64 1 (zmk .i64 s1.1 63)))<18446744073709551616) (zbe (stW s1.2 (toNat (zge .i64 s1.1 6)) (orI .u64 (wd s1.2 (toNat (zge .i64 s1.1 6))) (zpj .u64 1 (zmk .i64 s1.1 63)))) (fun x1=>(chk (-9223372036854775808<=(s1.1+1)/\ (s1.1+1)<9223372036854775808) (some (Sum.inl ((s1.1+1),x1)))))))))) else(some (Sum.inr (Sum.inl (s1.2))))))) (fun s=> .inl s) d ?_ ?_ (d+1-c) c 0#256 1100 (by omega) (by omega)
 ·rw[show(0#256:BS)|||bits c (d+1-c)=bits c (d+1-c) by simp] at h;exact h
 ·intro e s he;obtain⟨q1,q2,_⟩:=qgm e (by omega);refine zz (by omega) ?_;rw[show decide (((e:Nat):Int)<=((d:Nat):Int))=true by simp;omega,cond_true];simp only[q1,q2,Int.toNat_natCast];refine zz (by omega) (zz (by omega) (zz (by omega) (zz (orI_lt s e (by omega)) ?_)));refine zak fun x hx=> ?_;rw[st_bit s e (by omega)] at hx;subst hx;exact zz (by omega) rfl
 ·intro s;refine zz (by omega) ?_;rw[show decide (((d+1:Nat):Int)<=((d:Nat):Int))=false by simp;omega,cond_false]
section
variable {H:Bool} {P:Program} {Ω:CallP} {Ψ:CallS}
def preW (run:Run)(n:Nat)(ms:List Bool)(c:Code)(S:List AV)(U:St):Option (List AV×St):=match qao run n c S U with
 |some (S1,U1)=>some (fgM ms S1,U1)
 |none=>none
theorem w_preW (hG:Good P Ω Ψ) {k k0:Nat} {Q:AQ} {S S':List AV} {U U':St} {ms:List Bool} (n:Nat)(c:Code)(h:preW (evQ H P Ω Ψ k) (n+1) ms c S U=some (S',U'))(hk:awp (ITP P) P none k0 (sufC (n+1) c) Q S' U'):awp (ITP P) P none k0 c Q S U:=by
 unfold preW at h;split at h
 ·rename_i S1 U1 h1;cases h;exact w_pre hG n c S U _ _ h1 (zgb ms rfl rfl) hk
 ·cases h
end
def awM0:List Bool:=[true,true,true,true,true,false,false,false,false,false,false,false,false,false,false,false,false,false,false,false,false,false,false,false,false,false,false,false,false,false,false,false,false,false,false,false,false,false,false,false,false,false,false,false,false,false,false,false,false,false,false,false,false,false,false,false,false,false,false,false,false,false,false,false,false,false,false,false,false,false,false,false,false,false,false,false,false,false,false,false,false,false,false,false,false,false,false,false,false,false,false,false,false,false,false,false,false,false,false,false,false,false,false,false,false,false,false,false,false,false,false,false,false,false,false,false,false,false,false,false,false,false,false,false,false,false,false,false,false,false,false,false,false,false,false,false,false,false,false,false,false,false,false,false,false,false,false]
def awM3:List Bool:=[true,true,true,true,true,true,true,true,true,true,true,true,true,true,true,true,true,true,true,true,true,true,true,true,true,true,true,true,true,true,true,true,true,true,true,true,true,true,true,true,true,true,true,true,true,true,true,true,true,true,true,true,true,true,true,true,true,true,true,true,true,true,true,true,true,true,true,true,false,true,true,true,true,true,true,true,true,true,true,true,true,true,true,true,true,true,true,true,true,true,true,true,true,true,true,true,true,true,true,true,true,true,true,true,true,true,true,true,true,true,true,true,true,true,true,true,true,true,true,true,true,true,true,true,true,true,true,true,true,true,true,true,true,true,true,true,true,true,true,true,true,true,true,true,true,true,true]
theorem ent5:Ent prog 5:=enters_of Tryd.func5 (by kernel_rfl) rfl
theorem z6k:Pure (ITP prog) prog 5 [] (.raw (.bool true)):=by
 obtain⟨d,hd⟩: ∃d,Tryd.f5.body=some d:=⟨_,rfl⟩;refine ziu mix Tryd.func5 hd ent5 ?_;cases hd;refine w_preW (H:=true) (S':=awS) (U':=awσ) (ms:=awM0) (k:=300) z7h 5 _ (by kernel_rfl) ?_;show awp (ITP prog) prog none 0 (.seq _ _) _ _ _;refine qif awS awσ (qdy mix awM (sg:=sgL awσ []) (SL:=awSL) (E:=awE) (it:=68) (d69:=69) (d70:=70) (d71:=71) (ri:=38) awMs (fun hF=>aw_map rfl hF) (by kernel_rfl) (by kernel_rfl) (by kernel_rfl) (by kernel_rfl) (by kernel_rfl) rfl (fun r=>by kernel_rfl) ⟨rfl,rfl,rfl⟩ ⟨rfl,rfl,rfl⟩ ⟨rfl,rfl,rfl⟩ rfl (fun r=>by kernel_rfl) (fun r=>by kernel_rfl) ⟨by decide,by decide,by decide,by decide,Nat.le_of_ble_eq_true rfl,Nat.le_of_ble_eq_true rfl,Nat.le_of_ble_eq_true rfl,Nat.le_of_ble_eq_true rfl⟩ (fun r=>by kernel_rfl) (fun r=>by kernel_rfl) (by kernel_rfl) ?_ (fun r=>(show fgM awM3 (awSL r)=awS by kernel_rfl)▸zoe awM3 (awSL r))) ?_
 ·intro r q hq;simp only[awM,List.mem_cons,List.not_mem_nil,or_false] at hq;rcases hq with rfl|rfl|rfl|rfl|rfl|rfl
  ·exact zls (H:=true) (k:=300) (ms:=awM2) (zij zms) (by kernel_rfl)
  ·exact zls (H:=true) (k:=300) (ms:=awM2) (zij zms) (by kernel_rfl)
  ·exact zls (H:=true) (k:=300) (ms:=awM2) (zij zms) (by kernel_rfl)
  ·exact zls (H:=true) (k:=300) (ms:=awM2) (zij zms) (by kernel_rfl)
  ·exact zls (H:=true) (k:=300) (ms:=awM2) (zij zms) (by kernel_rfl)
  ·exact zls (H:=true) (k:=300) (ms:=awM2) (zij zms) (by kernel_rfl)
 ·exact w_tail (H:=true) (k:=300) (zij zms) (by kernel_rfl)
abbrev It:=Nat×Option Nat
def ziq (s:List UInt8):Int×Bool×BS->Option ((Int×Bool×BS) ⊕ ((Int×BS) ⊕ (BS×Int×Int))):=
 (fun s1=>(zdl (τ:=Unit) (bif s1.2.1 then(some (Sum.inl ())) else(bif (decide (s1.1<(length s:Int))) then(chk (0<=s1.1/\ s1.1<(length s:Int)) (zbe (ix s s1.1) (fun x4=>(bif ((((x4).toNat:Nat):Int) !=93) then(some (Sum.inl ())) else(some (Sum.inr (Sum.inr (Sum.inl (s1.1,s1.2.2))))))))) else(some (Sum.inr (Sum.inr (Sum.inl (s1.1,s1.2.2))))))) (fun j3=>(chk (0<=s1.1/\ s1.1<=(length s:Int)/\ (length s:Int)<=(length s:Int)) (zbe (sub s s1.1 (length s:Int)) (fun x5=>(zai (zia 1100 x5) (fun x6=>(bif (x6.2.2.2 !=0) then(some (Sum.inr (Sum.inr (0#256,s1.1,94)))) else(chk (-9223372036854775808<=(s1.1+x6.2.2.1)/\ (s1.1+x6.2.2.1)<9223372036854775808) (zdl (τ:=Int×BS) (bif (decide ((s1.1+x6.2.2.1)<(length s:Int))) then(chk (0<=(s1.1+x6.2.2.1)/\ (s1.1+x6.2.2.1)<(length s:Int)) (zbe (ix s (s1.1+x6.2.2.1)) (fun x7=>(bif ((((x7).toNat:Nat):Int)==45) then(chk (-9223372036854775808<=((s1.1+x6.2.2.1)+1)/\ ((s1.1+x6.2.2.1)+1)<9223372036854775808) (chk (0<=((s1.1+x6.2.2.1)+1)/\ ((s1.1+x6.2.2.1)+1)<=(length s:Int)/\ (length s:Int)<=(length s:Int)) (zbe (sub s ((s1.1+x6.2.2.1)+1) (length s:Int)) (fun x8=>(zai (zia 1100 x8) (fun x9=>(bif (x9.2.2.2 !=0) then(chk (-9223372036854775808<=((s1.1+x6.2.2.1)+1)/\ ((s1.1+x6.2.2.1)+1)<9223372036854775808) (some (Sum.inr (Sum.inr (Sum.inr (0#256,((s1.1+x6.2.2.1)+1),94)))))) else(zai (zhd x6.1) (fun x10=>(bif (x10 !=1) then(some (Sum.inr (Sum.inr (Sum.inr (0#256,(s1.1+x6.2.2.1),94))))) else(zai (zhd x9.1) (fun x11=>(bif (x11 !=1) then(some (Sum.inr (Sum.inr (Sum.inr (0#256,(s1.1+x6.2.2.1),94))))) else(bif (decide (x6.2.1>x9.2.1)) then(some (Sum.inr (Sum.inr (Sum.inr (0#256,(s1.1+x6.2.2.1),94))))) else(chk (-9223372036854775808<=(1+x9.2.2.1)/\ (1+x9.2.2.1)<9223372036854775808) (chk (-9223372036854775808<=((s1.1+x6.2.2.1)+(1+x9.2.2.1))/\ ((s1.1+x6.2.2.1)+(1+x9.2.2.1))<9223372036854775808) (zai (zcz 1100 x6.2.1 x9.2.1) (fun x12=>(some (Sum.inl (((s1.1+x6.2.2.1)+(1+x9.2.2.1)),x12))))))))))))))))))))) else(some (Sum.inl ((s1.1+x6.2.2.1),x6.1))))))) else(some (Sum.inl ((s1.1+x6.2.2.1),x6.1)))) (fun j4=>(zbe (s1.2.2|||j4.2) (fun x13=>(some (Sum.inl (j4.1,false,x13)))))))))))))))))
theorem zen {α:Type} (l:List α)(k:Nat):sub l ((k:Nat):Int) (l.length:Int)=l.drop k:=by
 unfold sub;rw[Int.toNat_natCast,Int.toNat_natCast,List.take_of_length_le (by simp)]
end Go.Ab
namespace Go.Ab
open Go Go.RowKit Go.Fwd Go.Proofs
end Go.Ab
namespace Go.Ab
open Go Go.RowKit Go.Fwd Go.Proofs
end Go.Ab
namespace Go.Ab
open Go Go.RowKit Go.Fwd Go.Proofs
end Go.Ab
namespace Go.Ab
open Go Go.RowKit Go.Fwd Go.Proofs
end Go.Ab
namespace Go.Ab
open Go Go.RowKit Go.Fwd Go.Proofs
end Go.Ab
namespace Go.Ab
open Go Go.RowKit Go.Fwd Go.Proofs Go.ChangeShapes Go.WideShapes Go.Deep
def qea (W:World):Cx:=⟨fun b o=> ∃v,W.cell? ⟨b,o,none⟩=some v,[],[],[],W,fun _=>False,fun _ _=>False⟩
theorem inv_top (P:Program)(W:World)(hg:gvBase P W):Inv (ITP P) St.empty (qea W) where
 lens:=rfl
 elems:=rfl
 κlen:=rfl
 κnd:=fun s s' b h=>by simp[qea] at h
 box:=fun s b t cs h=>by simp[qea] at h
 κF:=fun s b t cs h=>by simp[qea] at h
 βlen:=rfl
 βnd:=by simp[qea]
 βκ:=fun r h=>by simp[qea] at h
 row:=fun s r L h=>by simp[qea] at h
 Ok:=fun b h=>h.elim
 Fcell:=fun b o h=>h
 gv:=⟨W,hg,Szs.refl _,fun b o v _ hv=>⟨⟨v,hv⟩,hv⟩⟩
theorem qfg {P:Program} {f:FuncId} {args:List AV} {u:Value} (h:Pure (ITP P) P f args (.raw u))(W:World)(hg:gvBase P W) {vs:List Value} (hr:zbr (ITP P) (qea W) args vs):
 Calls P f vs.toArray W fun e W'=>e= .returned u/\ Below W.heap.size W W':=by
 refine(h.2 (qea W) vs (inv_top P W hg) hr).mono ?_;rintro e w' ⟨v,Y,rfl,rfl,hE,hIY,hv⟩;rw[Rep] at hv;subst hv;exact⟨rfl,hE.os,hE.tape,hE.output,hE.size,fun b hb=>hE.frame b hb (by simp[qea]) (by simp[qea])⟩
section
variable {H:Type} {enc:TypeId×Value->H} {P:Program} {α:Type} [Enc α]
end
end Go.Ab
namespace Go.Ab
open Go Go.RowKit Go.Fwd Go.Proofs Go.ChangeShapes Go.WideShapes Go.Deep
theorem und9:prog.underlying 9=some .string:=by kernel_rfl
section
variable {H:Type} {enc:TypeId×Value->H}
end
end Go.Ab
namespace Go.Ab
open Go Go.RowKit Go.Fwd Go.Proofs Go.Proofs.YtnoccnalocdldaaDoor Go.ChangeShapes Go.WideShapes Go.ChangeAt
theorem gv_of {W:World} (hL:laidMet prog Rows.rxreadBracketsRow.laid W)(hS:W.ShapedOpen prog):gvBase prog W where
 err:=fun n g h e=>by
  have h1:prog.globalNamed "strconv.ErrSyntax" =none:=by kernel_rfl
  have h2:prog.globalNamed "strconv.ErrRange" =none:=by kernel_rfl
  rcases h with rfl|rfl
  ·rw[h1] at e;cases e
  ·rw[h2] at e;cases e
 pow:=fun g e=>by
  have h1:prog.globalNamed "internal/strconv.uint64pow10" =none:=by kernel_rfl
  rw[h1] at e;cases e
 max:=fun g e=>by
  have h1:prog.globalNamed "internal/bytealg.MaxLen" =some 0:=by kernel_rfl
  rw[h1] at e;cases e;exact Go.Proofs.cell_of_shapedOpen_int (zero:= #[.int .i64 0]) (t:=3) hS (of_decide_eq_true (by kernel_rfl)) (by kernel_rfl) rfl (by kernel_rfl) (by kernel_rfl) (by kernel_rfl)
noncomputable def qjq:DataW Unit->List Value
 | .agg l=>l.flatMap fun d=>match d with
  | .lit (.int k n)=>[Value.int k n]
  | .agg l=>l.map fun d=>match d with| .lit (.int k n)=>Value.int k n|_=>undef
  |_=>[undef]
 |_=>[]
noncomputable def zrv (os:Os):World:=
 let w0:=World.holding prog os ⟨#[], #[],[]⟩
 let put (h:Array Obj) (g:Nat) (cs:Array Value):Array Obj:=h.modify g fun
  | .cells _ t frozen=> .cells cs t frozen
  |o=>o
 let h1:=put w0.heap 1 (qjq Rows.laid_unicode_utf8_first).toArray
 let h2:=put h1 2 (qjq Rows.laid_unicode_utf8_acceptRanges).toArray
 {w0 with heap:=h2}
theorem qhk (os:Os)(args:Array Value):laidMet prog Rows.rxreadBracketsRow.laid ((zrv os).forCall (fun _ _=>0) ⟨#[],args,[]⟩).memory:=
 laidMet_of_run (ps:=MemPlace.row ⟨2,0,none⟩ 32++MemPlace.row ⟨1,0,none⟩ 256) 8 (by kernel_rfl) (by kernel_rfl) (by kernel_rfl)
end Go.Ab
namespace Go.Proofs.YtnoccnalocdldaaDoor
open Go Go.Ab Go.ChangeShapes Go.WideShapes Go.ChangeAt Go.RowKit Go.Fwd
theorem zoq {H:Type} {enc:TypeId×Value->H} {P:Program} (hl:laidOutB P=true) {W W':World} (hb:Below W.heap.size W W'): ∀ {ts:List TypeId} {vs:List Value} {ds:List (DataW H)} {ps:List MemPlace},
 (ts.all fun t=>P.readableRec t&&decide (t<P.types.size))=true->DataW.TrodAll enc P W 0 (fun _=>true) true ts vs ds ps->(∀x∈ps,x.block<W.heap.size)->DataW.TrodAll enc P W' 0 (fun b=>decide (b<W.heap.size)) true ts vs ds ps
 | [],vs,ds,ps,_,h,_=>by
  cases vs with
  | nil=>
   cases ds with
   |nil=>exact h
   |cons=>exact h.elim
  |cons=>exact h.elim
 | t::ts,vs,ds,ps,ht,h,hlt=>by
  obtain⟨v,vs',d,ds',p,q,rfl,rfl,rfl,hd,hr⟩:=trodAll_cons h;simp only[List.all_cons,and_eq_true,decide_eq_true_eq] at ht;exact⟨p,q,Below.trod hl ht.1.1 ht.1.2 hd hb fun x hx=>hlt x (by simp[hx]),zoq hl hb ht.2 hr fun x hx=>hlt x (by simp[hx]),rfl⟩
theorem own':ownKnob prog.godebug=none:=by kernel_rfl
theorem qhr:laidOutB prog=true:=by kernel_rfl
theorem qdb {s:ByteArray} {l:List UInt8} (hx:l=s.data.toList)(h:s.size<=maxLen):l.length<2^63:=by
 have:l.length=s.size:=by rw[hx];rfl
 have h2:maxLen<2^63:=by decide
 omega
theorem qak {IT:IterP} {X:Cx} {s:ByteArray} {l:List UInt8} (hx:l=s.data.toList):Rep IT X (.raw (.string (bs l))) (.string s):=by
 subst hx;rfl
end Go.Proofs.YtnoccnalocdldaaDoor
namespace Go.Ab
open Go Go.RowKit Go.Fwd Go.Proofs
def Ag (m:Nat)(x y:List UInt8):Prop:=m<=x.length/\ m<=y.length/\ ∀i,i<m->x[i]? =y[i]?
theorem Ag.mono {m n:Nat} {x y:List UInt8} (h:Ag m x y)(hn:n<=m):Ag n x y:=⟨by have:=h.1;omega,by have:=h.2.1;omega,fun i hi=>h.2.2 i (by omega)⟩
theorem Ag.drop {m n k:Nat} {x y:List UInt8} (h:Ag m x y)(hn:k+n<=m):Ag n (x.drop k) (y.drop k):=by
 refine⟨?_,?_,fun i hi=> ?_⟩
 ·have:=h.1;simp;omega
 ·have:=h.2.1;simp;omega
 ·rw[List.getElem?_drop,List.getElem?_drop];exact h.2.2 _ (by omega)
theorem Ag.ix {m:Nat} {x y:List UInt8} (h:Ag m x y) {i:Int} (hi:i.toNat<m):Ab.ix x i=Ab.ix y i:=by
 unfold Ab.ix;rw[List.getD_eq_getElem?_getD,List.getD_eq_getElem?_getD,h.2.2 _ hi]
theorem Ag.cons {m:Nat} {a:UInt8} {t y:List UInt8} (h:Ag (m+1) (a::t) y): ∃u,y=a::u/\ Ag m t u:=by
 obtain⟨h1,h2,h3⟩:=h;cases y with
 |nil=>simp at h2
 | cons b u=>
  have:=h3 0 (by omega);simp only[List.getElem?_cons_zero,Option.some.injEq] at this;subst this;exact⟨u,rfl,by simpa using h1,by simpa using h2,fun i hi=>by simpa using h3 (i+1) (by omega)⟩
theorem qib:((List.range 256).all fun c=>decide (0<=zge .u8 ((c:Nat):Int) 6/\ zge .u8 ((c:Nat):Int) 6<4)&&decide (0<=zmk .u8 ((c:Nat):Int) 63))=true:=by decide+kernel
theorem z5i (m:BS)(a:UInt8): ∃b,zkv m ((a.toNat:Nat):Int)=some b:=by
 have ht:=all_eq_true.1 qib a.toNat (mem_range.2 a.toNat_lt);simp only[and_eq_true,decide_eq_true_eq] at ht;exact⟨_,zz ht.1 (zz ht.2 rfl)⟩
theorem z4i {α:Type} {c:Bool} {A B:Option α} (ha: ∃b,A=some b)(hb: ∃b,B=some b): ∃b,(bif c then A else B)=some b:=by
 cases c
 ·exact hb
 ·exact ha
theorem zup (m:BS)(a:UInt8): ∃b,zet m ((a.toNat:Nat):Int)=some b:=by
 obtain⟨b,hb⟩:=z5i m a;unfold zet;simp only[hb,bindE_some];repeat' first|exact⟨_,rfl⟩|refine z4i ?_ ?_
theorem nib_tab:((List.range 256).all fun c=>(zii ((c:Nat):Int)).isSome)=true:=by decide+kernel
theorem z8p (a:UInt8): ∃b,zii ((a.toNat:Nat):Int)=some b:=by
 have ht:=all_eq_true.1 nib_tab a.toNat (mem_range.2 a.toNat_lt);exact Option.isSome_iff_exists.1 ht
theorem qjg (m:BS):zet m 120=some false:=by
 obtain⟨b,hb⟩:=z5i m 120;have hb:zkv m 120=some b:=hb;unfold zet;simp only[hb,bindE_some];cases b<;>rfl
theorem qje (a:UInt8)(t:List UInt8):(0:Int)<=(0:Int)/\ (0:Int)<(((a::t).length:Nat):Int):=by simp only[length_cons];omega
theorem rb1 (a:UInt8)(ha:a≠92)(m:BS): ∃r:Int×Int×Int,(∀t,zbb (a::t) m=some r)/\ (r.2.2=0->r.2.1=1)/\ 0<=r.1/\ r.1<256:=by
 obtain⟨b,hb⟩:=zup m a;have h92:(((a.toNat:Nat):Int) !=92)=true:=by
  simp only[bne_iff_ne,ne_eq];intro e;exact ha (UInt8.toNat_inj.1 (by simp;omega))
 have hne: ∀t:List UInt8,(a::t==[])=false:=fun _=>rfl;have i0: ∀t:List UInt8,ix (a::t) (0:Int)=a:=fun _=>rfl;have hl:=a.toNat_lt;by_cases hg:(32<=((a.toNat:Nat):Int)/\ ((a.toNat:Nat):Int)<=126)/\ b=false
 ·obtain⟨⟨g1,g2⟩,rfl⟩:=hg;refine⟨(((a.toNat:Nat):Int),1,0),fun t=> ?_,fun _=>rfl,by simp only;omega,by simp only;omega⟩;unfold zbb;simp only[hne,cond_false,zbj (qje a t),i0,zbe,h92,cond_true,hb,bindE_some,Bool.not_false,decide_eq_true (show((a.toNat:Nat):Int)>=32 from g1),decide_eq_true g2,cutE_inr]
 ·refine⟨(0,0,20),fun t=> ?_,fun h=>by simp at h,by simp,by simp⟩;unfold zbb;simp only[hne,cond_false,zbj (qje a t),i0,zbe,h92,cond_true,hb,bindE_some];by_cases g1:((a.toNat:Nat):Int)>=32
  ·by_cases g2:((a.toNat:Nat):Int)<=126
   ·have:b=true:=by cases b;exact absurd ⟨⟨g1,g2⟩,rfl⟩ hg;rfl
    simp only[decide_eq_true g1,decide_eq_true g2,this,cond_true,Bool.not_true,cond_false,cutE_inr]
   ·simp only[decide_eq_true g1,decide_eq_false g2,cond_true,cond_false,cutE_inr]
  ·simp only[decide_eq_false g1,cond_false,cutE_inr]
theorem rb_nil (m:BS):zbb [] m=some (0,0,20):=rfl
theorem rb_92 (m:BS):zbb [92] m=some (0,0,20):=rfl
theorem nrt (b:UInt8):Lib.indexByte ([110,114,116]:List UInt8) b>=0->Lib.indexByte ([110,114,116]:List UInt8) b<3:=by
 unfold Lib.indexByte Lib.indexByte Lib.indexByte Lib.indexByte;intro _;repeat' split
 all_goals omega
theorem rb2 (b:UInt8)(hb:b≠120)(m:BS): ∃r:Int×Int×Int,(∀t,zbb (92::b::t) m=some r)/\ (r.2.2=0->r.2.1=2)/\ 0<=r.1/\ r.1<256:=by
 obtain⟨k,hk⟩:=zup m b;have hne: ∀t:List UInt8,(92::b::t==[])=false:=fun _=>rfl;have i0: ∀t:List UInt8,ix (92::b::t) (0:Int)=92:=fun _=>rfl;have i1: ∀t:List UInt8,ix (92::b::t) (1:Int)=b:=fun _=>rfl;have l2: ∀t:List UInt8,(0:Int)<=(1:Int)/\ (1:Int)<(((92::b::t).length:Nat):Int):=fun t=>by simp only[length_cons];omega
 have g2: ∀t:List UInt8,decide ((((92::b::t).length:Nat):Int)<2)=false:=fun t=>decide_eq_false (by simp only[length_cons];omega);have h120:(((b.toNat:Nat):Int)==120)=false:=by
  rw[beq_eq_false_iff_ne];intro e;exact hb (UInt8.toNat_inj.1 (by simp;omega))
 have hl:=b.toNat_lt;have q:((((92:UInt8).toNat:Nat):Int) !=92)=false:=rfl;suffices h: ∃r:Int×Int×Int,(∀t,zbb (92::b::t) m=some r)/\ ((r=(((b.toNat:Nat):Int),2,0)) \/r=(0,0,20) \/ ∃c:UInt8,r=(((c.toNat:Nat):Int),2,0)) by
  obtain⟨r,h1,h2⟩:=h;refine⟨r,h1,?_⟩;rcases h2 with rfl|rfl|⟨c,rfl⟩
  ·exact⟨fun _=>rfl,by simp only;omega,by simp only;omega⟩
  ·exact⟨fun h=>by simp at h,by simp,by simp⟩
  ·have:=c.toNat_lt;exact⟨fun _=>rfl,by simp only;omega,by simp only;omega⟩
 have e: ∀t,zbb (92::b::t) m=zdl (τ:=Unit) (bif ((((b).toNat:Nat):Int)==92) then(some (Sum.inr ((((b).toNat:Nat):Int),2,0))) else(bif k then(some (Sum.inr ((((b).toNat:Nat):Int),2,0))) else(bif (decide (Lib.indexByte ([110,114,116]:List UInt8) b>=0)) then(chk (0<=Lib.indexByte ([110,114,116]:List UInt8) b/\ Lib.indexByte ([110,114,116]:List UInt8) b<(length ([10,13,9]:List UInt8):Int)) ((some (Sum.inr ((((ix ([10,13,9]:List UInt8) (Lib.indexByte ([110,114,116]:List UInt8) b)).toNat:Nat):Int),2,0))))) else(some (Sum.inl ()))))) (fun _=>some (0,0,20)):=by
  intro t;unfold zbb;simp only[hne,cond_false,zbj (qje 92 (b::t)),i0,zbe,q,g2,cutE_inl,i1,zbj (l2 t),h120,hk,bindE_some]
 cases h1:(((b.toNat:Nat):Int)==92) with
 |true=>exact⟨_,fun t=>by rw[e,h1];rfl,.inl rfl⟩
 | false=>
  cases k with
  |true=>exact⟨_,fun t=>by rw[e,h1];rfl,.inl rfl⟩
  | false=>
   by_cases h2:Lib.indexByte ([110,114,116]:List UInt8) b>=0
   ·refine⟨_,fun t=> ?_,.inr (.inr ⟨ix ([10,13,9]:List UInt8) (Lib.indexByte ([110,114,116]:List UInt8) b),rfl⟩)⟩;rw[e,h1,cond_false,cond_false,decide_eq_true h2,cond_true,zbj ⟨h2,by simpa using nrt b h2⟩];rfl
   ·exact⟨_,fun t=>by rw[e,h1,cond_false,cond_false,decide_eq_false h2];rfl,.inr (.inl rfl)⟩
theorem wrap8 (v:Int):0<=IntKind.u8.wrap v/\ IntKind.u8.wrap v<256:=by
 unfold IntKind.wrap;simp only[IntKind.bits,IntKind.signed];simp;omega
theorem rb3 (c d:UInt8)(m:BS): ∃r:Int×Int×Int,(∀t,zbb (92::120::c::d::t) m=some r)/\ (r.2.2=0->r.2.1=4)/\ 0<=r.1/\ r.1<256:=by
 obtain⟨p,hp⟩:=z8p c;obtain⟨q,hq⟩:=z8p d;have hne: ∀t:List UInt8,(92::120::c::d::t==[])=false:=fun _=>rfl;have i0: ∀t:List UInt8,ix (92::120::c::d::t) (0:Int)=92:=fun _=>rfl;have i1: ∀t:List UInt8,ix (92::120::c::d::t) (1:Int)=120:=fun _=>rfl;have i2: ∀t:List UInt8,ix (92::120::c::d::t) (2:Int)=c:=fun _=>rfl;have i3: ∀t:List UInt8,ix (92::120::c::d::t) (3:Int)=d:=fun _=>rfl;have l1: ∀t:List UInt8,(0:Int)<=(1:Int)/\ (1:Int)<(((92::120::c::d::t).length:Nat):Int):=fun t=>by simp only[length_cons];omega
 have l2: ∀t:List UInt8,(0:Int)<=(2:Int)/\ (2:Int)<(((92::120::c::d::t).length:Nat):Int):=fun t=>by simp only[length_cons];omega
 have l3: ∀t:List UInt8,(0:Int)<=(3:Int)/\ (3:Int)<(((92::120::c::d::t).length:Nat):Int):=fun t=>by simp only[length_cons];omega
 have g2: ∀t:List UInt8,decide ((((92::120::c::d::t).length:Nat):Int)<2)=false:=fun t=>decide_eq_false (by simp only[length_cons];omega);have g3: ∀t:List UInt8,decide ((((92::120::c::d::t).length:Nat):Int)>3)=true:=fun t=>decide_eq_true (by simp only[length_cons];omega);have q92:((((92:UInt8).toNat:Nat):Int) !=92)=false:=rfl;have q120:((((120:UInt8).toNat:Nat):Int)==120)=true:=rfl;have q1292:((((120:UInt8).toNat:Nat):Int)==92)=false:=rfl;have qx:decide (Lib.indexByte ([110,114,116]:List UInt8) 120>=0)=false:=rfl;have hm:zet m (((120:UInt8).toNat:Nat):Int)=some false:=qjg m;by_cases h:p<16/\ q<16
 ·refine⟨(IntKind.u8.wrap (orI .i64 (zpj .i64 p 4) q),4,0),fun t=> ?_,fun _=>rfl,(wrap8 _).1,(wrap8 _).2⟩;unfold zbb;simp only[hne,cond_false,zbj (qje 92 (120::c::d::t)),i0,zbe,q92,g2,cutE_inl,i1,zbj (l1 t),q120,cond_true,g3,zbj (l2 t),i2,hp,bindE_some,decide_eq_true h.1,zbj (l3 t),i3,hq,decide_eq_true h.2,cutE_inr]
 ·refine⟨(0,0,20),fun t=> ?_,fun h=>by simp at h,by simp,by simp⟩;unfold zbb;simp only[hne,cond_false,zbj (qje 92 (120::c::d::t)),i0,zbe,q92,g2,cutE_inl,i1,zbj (l1 t),q120,cond_true,g3,zbj (l2 t),i2,hp,bindE_some,zbj (l3 t),i3,hq,q1292,hm,qx];by_cases h1:p<16
  ·have h2: ¬q<16:=fun h2=>h ⟨h1,h2⟩;simp only[decide_eq_true h1,cond_true,decide_eq_false h2,cond_false,cutE_inl]
  ·simp only[decide_eq_false h1,cond_false,cutE_inl]
theorem rb_x0 (m:BS)(t:List UInt8)(ht:t.length<2):zbb (92::120::t) m=some (0,0,20):=by
 have hne:(92::120::t==([]:List UInt8))=false:=rfl;have i0:ix (92::120::t:List UInt8) (0:Int)=92:=rfl;have i1:ix (92::120::t:List UInt8) (1:Int)=120:=rfl;have l1:(0:Int)<=(1:Int)/\ (1:Int)<(((92::120::t:List UInt8).length:Nat):Int):=by simp only[length_cons];omega
 have g2:decide ((((92::120::t:List UInt8).length:Nat):Int)<2)=false:=decide_eq_false (by simp only[length_cons];omega);have g3:decide ((((92::120::t:List UInt8).length:Nat):Int)>3)=false:=decide_eq_false (by simp only[length_cons];omega);have q92:((((92:UInt8).toNat:Nat):Int) !=92)=false:=rfl;have q120:((((120:UInt8).toNat:Nat):Int)==120)=true:=rfl;have q1292:((((120:UInt8).toNat:Nat):Int)==92)=false:=rfl;have qx:decide (Lib.indexByte ([110,114,116]:List UInt8) 120>=0)=false:=rfl;have hm:zet m (((120:UInt8).toNat:Nat):Int)=some false:=qjg m;unfold zbb;simp only[hne,cond_false,zbj (qje 92 (120::t)),i0,zbe,q92,g2,cutE_inl,i1,zbj l1,q120,cond_true,g3,q1292,hm,bindE_some,qx]
structure RB (m:BS)(x:List UInt8)(r:Int×Int×Int):Prop where
 run:zbb x m=some r
 lo:0<=r.1
 hi:r.1<256
 len:r.2.2=0->1<=r.2.1/\ r.2.1<=x.length
 one:r.2.2=0->r.2.1<2-> ∃a t,x=a::t/\ a≠92
 same:r.2.2=0-> ∀y,Ag r.2.1.toNat x y->zbb y m=some r
 bad:r.2.2≠0-> ∀a t,x=a::t->a≠92-> ∀u,zbb (a::u) m=some r
theorem qjk (m:BS)(x:List UInt8): ∃r,RB m x r:=by
 match x with
 |[]=>exact⟨_,rb_nil m,by simp,by simp,fun h=>by simp at h,fun h=>by simp at h,fun h=>by simp at h,fun _ a t h=>by cases h⟩
 | a :: t=>
  by_cases ha:a=92
  ·subst ha;have nb: ∀r:Int×Int×Int,r.2.2≠0-> ∀a s,(92:UInt8)::t=a::s->a≠92-> ∀u,zbb (a::u) m=some r:=fun r _ a s h hn=>absurd (List.cons.inj h).1.symm hn
   match t with
   |[]=>exact⟨_,rb_92 m,by simp,by simp,fun h=>by simp at h,fun h=>by simp at h,fun h=>by simp at h,nb _⟩
   | b ::t=>
    by_cases hb:b=120
    ·subst hb
     match t with
     |[]=>exact⟨_,rb_x0 m [] (by simp),by simp,by simp,fun h=>by simp at h,fun h=>by simp at h,fun h=>by simp at h,nb _⟩
     |[c]=>exact⟨_,rb_x0 m [c] (by simp),by simp,by simp,fun h=>by simp at h,fun h=>by simp at h,fun h=>by simp at h,nb _⟩
     | c::d::t=>
      obtain⟨r,h1,h2,h3,h4⟩:=rb3 c d m;refine⟨r,h1 t,h3,h4,fun h=> ?_,fun h=> ?_,fun h y hy=> ?_,nb _⟩
      ·rw[h2 h];simp only[length_cons];omega
      ·rw[h2 h];intro h;omega
      ·rw[h2 h] at hy;obtain⟨y1,rfl,hy1⟩:=Ag.cons (m:=3) hy;obtain⟨y2,rfl,hy2⟩:=Ag.cons (m:=2) hy1;obtain⟨y3,rfl,hy3⟩:=Ag.cons (m:=1) hy2;obtain⟨y4,rfl,hy4⟩:=Ag.cons (m:=0) hy3;exact h1 y4
    ·obtain⟨r,h1,h2,h3,h4⟩:=rb2 b hb m;refine⟨r,h1 t,h3,h4,fun h=> ?_,fun h=> ?_,fun h y hy=> ?_,nb _⟩
     ·rw[h2 h];simp only[length_cons];omega
     ·rw[h2 h];intro h;omega
     ·rw[h2 h] at hy;obtain⟨y1,rfl,hy1⟩:=Ag.cons (m:=1) hy;obtain⟨y2,rfl,hy2⟩:=Ag.cons (m:=0) hy1;exact h1 y2
  ·obtain⟨r,h1,h2,h3,h4⟩:=rb1 a ha m;refine⟨r,h1 t,h3,h4,fun h=> ?_,fun h _=>⟨a,t,rfl,ha⟩,fun h y hy=> ?_,fun h b s e hn u=> ?_⟩
   ·rw[h2 h];simp only[length_cons];omega
   ·rw[h2 h] at hy;obtain⟨y1,rfl,hy1⟩:=Ag.cons (m:=0) hy;exact h1 y1
   ·cases e;exact h1 u
theorem zoi {x y:List UInt8} (h:Ag 2 x y):zem y=zem x:=by
 match x,h with
 |[],h=>exact absurd h.1 (by simp)
 |[a],h=>exact absurd h.1 (by simp)
 | a::b::t,h=>
  obtain⟨y1,rfl,h1⟩:=Ag.cons (m:=1) h;obtain⟨y2,rfl,h2⟩:=Ag.cons (m:=0) h1;rfl
theorem zoc {a:UInt8} {t:List UInt8} (h:a≠92):zem (a::t)=(0#256,false):=by
 cases t with
 |nil=>rfl
 |cons b t=>unfold zem;simp only;rw[if_neg h]
theorem z0o {x:List UInt8} (h:(zem x).2=true):2<=x.length:=by
 match x,h with
 |[],h=>cases h
 |[a],h=>cases h
 |a::b::t,_=>simp
structure IT1 (x:List UInt8)(r:BS×Int×Int×Int):Prop where
 run:zia 1100 x=some r
 lo:0<=r.2.1
 hi:r.2.1<256
 len:r.2.2.2=0->1<=r.2.2.1/\ r.2.2.1<=x.length
 same:r.2.2.2=0-> ∀y,Ag r.2.2.1.toNat x y->zia 1100 y=some r
theorem z4g {x:List UInt8} {r:Int×Int×Int} (hs:(zem x).2=false)(h:zbb x zim=some r)(lo:0<=r.1)(hi:r.1<256):zia 1100 x=some (bit r.1.toNat,r.1,r.2.1,r.2.2):=by
 unfold zia;refine zak fun x1 hx1=> ?_;have h2:x1.2=false:=by rw[<-hx1];exact hs
 rw[h2,cond_false];refine zan _ h (zz ⟨lo,hi⟩ ?_);have hq:=(qgm r.1.toNat (by omega)).2.2.2.2.1;refine zan (bit r.1.toNat) hq rfl
theorem z3q (x:List UInt8): ∃r,IT1 x r:=by
 cases hs:(zem x).2 with
 | true=>
  have hr: ∀y,zem y=zem x->zia 1100 y=some ((zem x).1,0,2,0):=fun y hy=>by
   unfold zia;refine zak fun x1 hx1=> ?_;rw[hy] at hx1;subst hx1;rw[hs];rfl
  have:=z0o hs;exact⟨_,hr x rfl,by simp,by simp,fun _=>by simp only;omega,fun _ y hy=>hr y (zoi hy)⟩
 | false=>
  obtain⟨r,h⟩:=qjk zim x;refine⟨_,z4g hs h.run h.lo h.hi,h.lo,h.hi,h.len,fun he y hy=> ?_⟩;refine z4g ?_ (h.same he y hy) h.lo h.hi;by_cases h2:r.2.1<2
  ·obtain⟨a,t,rfl,hn⟩:=h.one he h2;have:=h.len he;simp only at hy;obtain⟨y,rfl,_⟩:=Ag.cons (m:=0) (hy.mono (by omega));rw[zoc hn]
  ·simp only at hy;rw[zoi (hy.mono (by omega))];exact hs
theorem els_len (s:BS):(els s).length<2^20:=by
 unfold els elN;have:=List.length_filter_le (fun i=>s.getLsbD i) (List.range 256);simp at this⊢;omega
theorem zzy (s:BS): ∃n,zhd s=some n:=by
 unfold zhd;have h: ∀(l:List Int) (k:Int),0<=k->k+l.length<2^40-> ∃n:Int,zdx (ρ:=Int ⊕ Int) (fun(s1:Int) (w1:Int)=>(chk (-9223372036854775808<=(s1+1)/\ (s1+1)<9223372036854775808) (some (Sum.inl ((s1+1)))))) l k=some (.inl n):=by
  intro l;induction l with
  |nil=>intro k _ _;exact⟨k,rfl⟩
  | cons c l ih=>
   intro k h0 h1;simp only[length_cons] at h1;obtain⟨n,hn⟩:=ih (k+1) (by omega) (by omega);refine⟨n,?_⟩;rw[zdx,zbj (by omega)];exact hn
 have hl:(els s).length<2^20:=els_len s;obtain⟨n,hn⟩:=h (els s) 0 (by omega) (by omega);exact⟨n,zbl n (zak fun x hx=>by subst hx;exact zbl n hn rfl) rfl⟩
theorem zzn {c d:Int} (h0:0<=c)(h:c<=d)(h2:d<256): ∃s,zcz 1100 c d=some s:=by
 have:=z2h c.toNat d.toNat (by omega) (by omega);rw[Int.toNat_of_nonneg h0,Int.toNat_of_nonneg (by omega)] at this;exact⟨_,this⟩
inductive BrO (x:List UInt8)(k:Nat)(st:Bool)(o:BS):(Int×Bool×BS) ⊕ ((Int×BS) ⊕ (BS×Int×Int))->Prop where
 |on (j:Nat) (t:BS) (hk:k<j) (hj:j<=x.length):BrO x k st o (.inl ((j:Int),false,t))
 |out (hk:k<=x.length):BrO x k st o (.inr (.inl ((k:Int),o)))
 |bad (j:Int) (h:0<=j/\ j<=x.length):BrO x k st o (.inr (.inr (0#256,j,94)))
theorem qhl (x:List UInt8)(hl:x.length<2^40)(k:Nat)(hk:k<=x.length)(st:Bool)(o:BS):
 ∃ r,ziq x ((k:Int),st,o)=some r/\ BrO x k st o r/\
  (∀j t,r= .inl ((j:Nat),false,t)-> ∀y,y.length<2^40->Ag (j+1) x y->ziq y ((k:Int),st,o)=some r)/\
  (r= .inr (.inl ((k:Int),o))->k<x.length-> ∀y,Ag (k+1) x y->ziq y ((k:Int),st,o)=some r):=by
 -- zsj it go on
 have go: ∀y:List UInt8,y.length<2^40->k<=y.length->((st=true \/(k<y.length/\ (((ix y (k:Int)).toNat:Nat):Int)≠93)))-> ∀R,(chk (0<=(k:Int)/\ (k:Int)<=(length y:Int)/\ (length y:Int)<=(length y:Int)) (zbe (sub y (k:Int) (length y:Int)) (fun x5=>(zai (zia 1100 x5) (fun x6=>(bif (x6.2.2.2 !=0) then(some (Sum.inr (Sum.inr (0#256,(k:Int),94)))) else(chk (-9223372036854775808<=((k:Int)+x6.2.2.1)/\ ((k:Int)+x6.2.2.1)<9223372036854775808) (zdl (τ:=Int×BS) (bif (decide (((k:Int)+x6.2.2.1)<(length y:Int))) then(chk (0<=((k:Int)+x6.2.2.1)/\ ((k:Int)+x6.2.2.1)<(length y:Int)) (zbe (ix y ((k:Int)+x6.2.2.1)) (fun x7=>(bif ((((x7).toNat:Nat):Int)==45) then(chk (-9223372036854775808<=(((k:Int)+x6.2.2.1)+1)/\ (((k:Int)+x6.2.2.1)+1)<9223372036854775808) (chk (0<=(((k:Int)+x6.2.2.1)+1)/\ (((k:Int)+x6.2.2.1)+1)<=(length y:Int)/\ (length y:Int)<=(length y:Int)) (zbe (sub y (((k:Int)+x6.2.2.1)+1) (length y:Int)) (fun x8=>(zai (zia 1100 x8) (fun x9=>(bif (x9.2.2.2 !=0) then(chk (-9223372036854775808<=(((k:Int)+x6.2.2.1)+1)/\ (((k:Int)+x6.2.2.1)+1)<9223372036854775808) (some (Sum.inr (Sum.inr (Sum.inr (0#256,(((k:Int)+x6.2.2.1)+1),94)))))) else(zai (zhd x6.1) (fun x10=>(bif (x10 !=1) then(some (Sum.inr (Sum.inr (Sum.inr (0#256,((k:Int)+x6.2.2.1),94))))) else(zai (zhd x9.1) (fun x11=>(bif (x11 !=1) then(some (Sum.inr (Sum.inr (Sum.inr (0#256,((k:Int)+x6.2.2.1),94))))) else(bif (decide (x6.2.1>x9.2.1)) then(some (Sum.inr (Sum.inr (Sum.inr (0#256,((k:Int)+x6.2.2.1),94))))) else(chk (-9223372036854775808<=(1+x9.2.2.1)/\ (1+x9.2.2.1)<9223372036854775808) (chk (-9223372036854775808<=(((k:Int)+x6.2.2.1)+(1+x9.2.2.1))/\ (((k:Int)+x6.2.2.1)+(1+x9.2.2.1))<9223372036854775808) (zai (zcz 1100 x6.2.1 x9.2.1) (fun x12=>(some (Sum.inl ((((k:Int)+x6.2.2.1)+(1+x9.2.2.1)),x12))))))))))))))))))))) else(some (Sum.inl (((k:Int)+x6.2.2.1),x6.1))))))) else(some (Sum.inl (((k:Int)+x6.2.2.1),x6.1)))) (fun j4=>(zbe (o|||j4.2) (fun x13=>(some (Sum.inl (j4.1,false,x13))))))))))))))=some R->ziq y ((k:Int),st,o)=some R:=by
  intro y hy hky hc R hR;unfold ziq;refine zbl () ?_ hR;cases st with
  |true=>rfl
  | false=>
   rcases hc with hc|⟨h1,h2⟩
   ·cases hc
   ·simp only[cond_false,decide_eq_true (show((k:Int))<(y.length:Int) by omega),cond_true];refine zz (by omega) (zak fun x hx=> ?_);subst hx;rw[bne_iff_ne.2 h2];rfl
 by_cases hc:st=true \/(k<x.length/\ (((ix x (k:Int)).toNat:Nat):Int)≠93)
 ·obtain ⟨p,hp⟩:=z3q (x.drop k);have hrest:(x.drop k).length=x.length-k:=by simp
  by_cases he:p.2.2.2=0
  ·obtain ⟨hn1,hn2⟩:=hp.len he;have hne:(p.2.2.2 !=0)=false:=by simp[he]
   obtain⟨m,hm⟩: ∃m:Nat,(m:Int)=p.2.2.1:=⟨p.2.2.1.toNat,by omega⟩;have hm0:0<m:=by omega
   have hkm:k+m<=x.length:=by omega
   have cont: ∀y,Ag (k+m) x y->zia 1100 (y.drop k)=some p:=fun y hy=>hp.same he _ (by
    rw[<-hm,Int.toNat_natCast];exact hy.drop (Nat.le_refl _))
   have stc: ∀y,Ag (k+m) x y->st=true \/(k<y.length/\ (((ix y (k:Int)).toNat:Nat):Int)≠93):=fun y hy=>by
    rcases hc with hc|⟨h1,h2⟩
    ·exact .inl hc
    ·refine .inr ⟨by have:=hy.2.1;omega,?_⟩;rw[<-hy.ix (by omega)];exact h2
   by_cases hd:k+m<x.length/\ (((ix x ((k:Int)+p.2.2.1)).toNat:Nat):Int)=45
   ·obtain⟨hd1,hd2⟩:=hd;obtain⟨w,hw⟩:=z3q (x.drop (k+m+1));have hrest2:(x.drop (k+m+1)).length=x.length-(k+m+1):=by simp
    have e1:(k:Int)+p.2.2.1+1=((k+m+1:Nat):Int):=by omega
    obtain⟨z1,hz1⟩:=zzy p.1;obtain⟨z2,hz2⟩:=zzy w.1;have c1:decide ((k:Int)+p.2.2.1<(x.length:Int))=true:=decide_eq_true (by omega);have c2:((((ix x ((k:Int)+p.2.2.1)).toNat:Nat):Int)==45)=true:=by rw[hd2];rfl
    have bad: ∀j:Int,0<=j/\ j<=x.length-> ∀r,r=(.inr (.inr (0#256,j,94)):(Int×Bool×BS) ⊕ ((Int×BS) ⊕ (BS×Int×Int)))->(∀j t,r= .inl ((j:Nat),false,t)-> ∀y,y.length<2^40->Ag (j+1) x y->ziq y ((k:Int),st,o)=some r)/\ (r= .inr (.inl ((k:Int),o))->k<x.length-> ∀y,Ag (k+1) x y->ziq y ((k:Int),st,o)=some r):=fun j hj r e=>by
     subst e;exact⟨fun _ _ h=>(by cases h),fun h=>(by cases h)⟩
    by_cases hw0:w.2.2.2=0
    ·have hwne:(w.2.2.2 !=0)=false:=by simp[hw0]
     obtain⟨hq1,hq2⟩:=hw.len hw0;by_cases g1:z1=1
     ·by_cases g2:z2=1
      ·by_cases g3:p.2.1>w.2.1
       ·refine⟨_,go x hl hk hc (.inr (.inr (0#256,(k:Int)+p.2.2.1,94))) ?_,.bad _ (by omega),bad _ (by omega) _ rfl⟩;refine zz (by omega) (zak fun a ha=> ?_);rw[zen] at ha;subst ha;refine zan _ hp.run ?_;simp only[hne,cond_false];refine zz (by omega) (zlb _ ?_ rfl);rw[c1,cond_true];refine zz (by omega) (zak fun a ha=> ?_);subst ha;rw[c2,cond_true];refine zz (by omega) (zz (by omega) (zak fun a ha=> ?_));rw[e1,zen] at ha;subst ha;refine zan _ hw.run ?_;simp only[hwne,cond_false];refine zan _ hz1 ?_;rw[show(z1 !=1)=false by simp[g1],cond_false];refine zan _ hz2 ?_;rw[show(z2 !=1)=false by simp[g2],cond_false,decide_eq_true g3,cond_true]
       ·obtain⟨sr,hsr⟩:=zzn hp.lo (show p.2.1<=w.2.1 by omega) hw.hi;obtain⟨v,hv⟩: ∃v:Nat,(v:Int)=w.2.2.1:=⟨w.2.2.1.toNat,by omega⟩;have run: ∀y,y.length<2^40->Ag (k+m+1+v) x y->ziq y ((k:Int),st,o)=some (.inl (((k+m+1+v:Nat):Int),false,o|||sr)):=fun y hy ha=>by
         have hyl:=ha.2.1;refine go y hy (by omega) (stc y (ha.mono (by omega))) _ ?_;refine zz (by omega) (zak fun a hx=> ?_);rw[zen] at hx;subst hx;refine zan _ (cont y (ha.mono (by omega))) ?_;simp only[hne,cond_false];refine zz (by omega) (zbl (((k+m+1+v:Nat):Int),sr) ?_ rfl);rw[decide_eq_true (show(k:Int)+p.2.2.1<(y.length:Int) by omega),cond_true];refine zz (by omega) (zak fun a hx=> ?_);rw[<-ha.ix (by omega)] at hx;subst hx;rw[c2,cond_true];refine zz (by omega) (zz (by omega) (zak fun a hx=> ?_));rw[e1,zen] at hx;subst hx;refine zan _ (hw.same hw0 _ (by rw[<-hv,Int.toNat_natCast];exact ha.drop (Nat.le_refl _))) ?_;simp only[hwne,cond_false];refine zan _ hz1 ?_;rw[show(z1 !=1)=false by simp[g1],cond_false];refine zan _ hz2 ?_;rw[show(z2 !=1)=false by simp[g2],cond_false,decide_eq_false g3,cond_false];refine zz (by omega) (zz (by omega) (zan _ hsr ?_));rw[show(k:Int)+p.2.2.1+(1+w.2.2.1)=((k+m+1+v:Nat):Int) by omega]
        refine⟨_,run x hl ⟨by omega,by omega,fun _ _=>rfl⟩,.on _ _ (by omega) (by omega),fun j t e y hy ha=> ?_,fun e=>by cases e⟩;have:j=k+m+1+v:=by have:=congrArg (fun z:(Int×Bool×BS) ⊕ ((Int×BS) ⊕ (BS×Int×Int))=>match z with| .inl a=>a.1|_=>0) e;simp only at this;omega
        subst this;exact run y hy (ha.mono (by omega))
      ·refine⟨_,go x hl hk hc (.inr (.inr (0#256,(k:Int)+p.2.2.1,94))) ?_,.bad _ (by omega),bad _ (by omega) _ rfl⟩;refine zz (by omega) (zak fun a ha=> ?_);rw[zen] at ha;subst ha;refine zan _ hp.run ?_;simp only[hne,cond_false];refine zz (by omega) (zlb _ ?_ rfl);rw[c1,cond_true];refine zz (by omega) (zak fun a ha=> ?_);subst ha;rw[c2,cond_true];refine zz (by omega) (zz (by omega) (zak fun a ha=> ?_));rw[e1,zen] at ha;subst ha;refine zan _ hw.run ?_;simp only[hwne,cond_false];refine zan _ hz1 ?_;rw[show(z1 !=1)=false by simp[g1],cond_false];refine zan _ hz2 ?_;rw[show(z2 !=1)=true by simp[g2],cond_true]
     ·refine⟨_,go x hl hk hc (.inr (.inr (0#256,(k:Int)+p.2.2.1,94))) ?_,.bad _ (by omega),bad _ (by omega) _ rfl⟩;refine zz (by omega) (zak fun a ha=> ?_);rw[zen] at ha;subst ha;refine zan _ hp.run ?_;simp only[hne,cond_false];refine zz (by omega) (zlb _ ?_ rfl);rw[c1,cond_true];refine zz (by omega) (zak fun a ha=> ?_);subst ha;rw[c2,cond_true];refine zz (by omega) (zz (by omega) (zak fun a ha=> ?_));rw[e1,zen] at ha;subst ha;refine zan _ hw.run ?_;simp only[hwne,cond_false];refine zan _ hz1 ?_;rw[show(z1 !=1)=true by simp[g1],cond_true]
    ·refine⟨_,go x hl hk hc (.inr (.inr (0#256,(k:Int)+p.2.2.1+1,94))) ?_,.bad _ (by omega),bad _ (by omega) _ rfl⟩;refine zz (by omega) (zak fun a ha=> ?_);rw[zen] at ha;subst ha;refine zan _ hp.run ?_;simp only[hne,cond_false];refine zz (by omega) (zlb _ ?_ rfl);rw[c1,cond_true];refine zz (by omega) (zak fun a ha=> ?_);subst ha;rw[c2,cond_true];refine zz (by omega) (zz (by omega) (zak fun a ha=> ?_));rw[e1,zen] at ha;subst ha;refine zan _ hw.run ?_;rw[show(w.2.2.2 !=0)=true by simp[hw0],cond_true];exact zz (by omega) rfl
   ·have run: ∀y,y.length<2^40->Ag (k+m) x y->(k+m<y.length->(((ix y ((k:Int)+p.2.2.1)).toNat:Nat):Int)≠45)->ziq y ((k:Int),st,o)=some (.inl (((k+m:Nat):Int),false,o|||p.1)):=fun y hy ha hne45=>by
     have hyl:=ha.2.1;refine go y hy (by omega) (stc y ha) _ ?_;refine zz (by omega) (zak fun a hx=> ?_);rw[zen] at hx;subst hx;refine zan _ (cont y ha) ?_;simp only[hne,cond_false];refine zz (by omega) (zbl (((k+m:Nat):Int),p.1) ?_ rfl);by_cases hlt:k+m<y.length
     ·rw[decide_eq_true (show(k:Int)+p.2.2.1<(y.length:Int) by omega),cond_true];refine zz (by omega) (zak fun a hx=> ?_);subst hx;rw[beq_eq_false_iff_ne.2 (hne45 hlt),cond_false,show(k:Int)+p.2.2.1=((k+m:Nat):Int) by omega]
     ·rw[decide_eq_false (show ¬(k:Int)+p.2.2.1<(y.length:Int) by omega),cond_false,show(k:Int)+p.2.2.1=((k+m:Nat):Int) by omega]
    refine⟨_,run x hl ⟨by omega,by omega,fun _ _=>rfl⟩ (fun h e=>hd ⟨h,e⟩),.on _ _ (by omega) (by omega),fun j t e y hy ha=> ?_,fun e=>by cases e⟩;have:j=k+m:=by have:=congrArg (fun z:(Int×Bool×BS) ⊕ ((Int×BS) ⊕ (BS×Int×Int))=>match z with| .inl a=>a.1|_=>0) e;simp only at this;omega
    subst this;refine run y hy (ha.mono (by omega)) fun h e=> ?_;rw[<-ha.ix (by omega)] at e;exact hd ⟨by have:=ha.1;omega,e⟩
  ·refine⟨_,go x hl hk hc (.inr (.inr (0#256,(k:Int),94))) ?_,.bad _ (by omega),fun _ _ h=>(by cases h),fun h=>(by cases h)⟩;refine zz (by omega) (zak fun a ha=> ?_);rw[zen] at ha;subst ha;refine zan _ hp.run ?_;rw[show(p.2.2.2 !=0)=true by simp[he],cond_true]
 ·have hf:st=false:=by cases st;rfl;exact absurd (.inl rfl) hc
  subst hf;have stop: ∀y:List UInt8,k<=y.length->(k<y.length->(((ix y (k:Int)).toNat:Nat):Int)=93)->ziq y ((k:Int),false,o)=some (.inr (.inl ((k:Int),o))):=fun y hy h=>by
   unfold ziq;refine zlb _ ?_ rfl;simp only[cond_false];by_cases hlt:k<y.length
   ·rw[decide_eq_true (show(k:Int)<(y.length:Int) by omega),cond_true];refine zz (by omega) (zak fun a hx=> ?_);subst hx;rw[h hlt];rfl
   ·rw[decide_eq_false (show ¬(k:Int)<(y.length:Int) by omega)];rfl
  refine⟨_,stop x hk (fun h=> ?_),.out hk,fun _ _ h=>(by cases h),fun _ hlt y ha=>stop y (by have:=ha.2.1;omega) fun _=> ?_⟩
  ·by_cases h9:(((ix x (k:Int)).toNat:Nat):Int)=93
   ·exact h9
   ·exact absurd (.inr ⟨h,h9⟩) hc
  ·rw[<-ha.ix (by omega)];by_cases h9:(((ix x (k:Int)).toNat:Nat):Int)=93
   ·exact h9
   ·exact absurd (.inr ⟨hlt,h9⟩) hc
theorem qiz (x:List UInt8)(hl:x.length<2^40): ∀(fuel k:Nat) (st:Bool) (o:BS),k<=x.length->x.length-k<fuel->
 ∃ r,zbg (ziq x) fuel ((k:Int),st,o)=some r/\
  ((∃j:Nat,∃t,r= .inl ((j:Int),t)/\ k<=j/\ j<=x.length/\ (j<x.length-> ∀y,y.length<2^40->Ag (j+1) x y->zbg (ziq y) fuel ((k:Int),st,o)=some r)) \/ ∃j:Int,r= .inr (0#256,j,94)/\ 0<=j/\ j<=x.length)
 |0,k,st,o,_,h=>by omega
 | f +1,k,st,o,hk,hf=>by
  obtain⟨r,h1,h2,h3,h4⟩:=qhl x hl k hk st o;cases h2 with
  | on j t hkj hj=>
   obtain⟨r',g1,g2⟩:=qiz x hl f j false t hj (by omega);refine⟨r',by rw[zbg,h1];exact g1,?_⟩;rcases g2 with⟨i,t',e,q1,q2,q3⟩|g2
   ·refine .inl ⟨i,t',e,by omega,q2,fun hi y hy ha=> ?_⟩;rw[zbg,h3 j t rfl y hy (ha.mono (by omega))];exact q3 hi y hy ha
   ·exact .inr g2
  | out hk'=>
   refine⟨.inl ((k:Int),o),by rw[zbg,h1],.inl ⟨k,o,rfl,Nat.le_refl _,hk,fun hlt y hy ha=> ?_⟩⟩;rw[zbg,h4 rfl hlt y ha]
  |bad j hj=>exact⟨.inr (0#256,j,94),by rw[zbg,h1],.inr ⟨j,rfl,hj.1,hj.2⟩⟩
def brEnd (n:Nat)(p:Bool)(r:(Int×BS) ⊕ (BS×Int×Int)):Option (BS×Int×Int):=
 match r with
 | .inr e=>some e
 | .inl j2=>(bif (j2.1==(n:Int)) then(some (0#256,j2.1,94)) else(zdl (τ:=BS) (bif p then(zbe (~~~j2.2) (fun x14=>(some (Sum.inl (x14))))) else(some (Sum.inl (j2.2)))) (fun j5=>(bif (decide (j5=(0#256))) then(some (0#256,0,94)) else(chk (-9223372036854775808<=(j2.1+1)/\ (j2.1+1)<9223372036854775808) (some (j5,(j2.1+1),0)))))))
structure BR1 (x:List UInt8)(r:BS×Int×Int):Prop where
 run:zey 1100 x=some r
 err:r.2.2=0 \/r.2.2=94
 len:0<=r.2.1/\ r.2.1<=x.length
 one:r.2.2=0->1<=r.2.1
 same:r.2.2=0-> ∀y,y.length<1000->Ag r.2.1.toNat x y->zey 1100 y=some r
theorem hat_pre {x y:List UInt8} (h:Ag 2 x y):Lib.hasPrefix (x.drop 1) ([94]:List UInt8)=Lib.hasPrefix (y.drop 1) ([94]:List UInt8):=by
 match x,h with
 |[],h=>exact absurd h.1 (by simp)
 |[a],h=>exact absurd h.1 (by simp)
 | a::b::t,h=>
  obtain⟨y1,rfl,h1⟩:=Ag.cons (m:=1) h;obtain⟨y2,rfl,h2⟩:=Ag.cons (m:=0) h1;simp[Lib.hasPrefix,List.isPrefixOf]
theorem br_pre {x y:List UInt8} (h:Ag 1 x y):Lib.hasPrefix x ([91]:List UInt8)=Lib.hasPrefix y ([91]:List UInt8):=by
 match x,h with
 |[],h=>exact absurd h.1 (by simp)
 | a::t,h=>
  obtain⟨y1,rfl,h1⟩:=Ag.cons (m:=0) h;simp[Lib.hasPrefix,List.isPrefixOf]
theorem z1u (x:List UInt8)(hl:x.length<1000): ∃r,BR1 x r:=by
 cases hp:Lib.hasPrefix x ([91]:List UInt8) with
 | false=>
  refine⟨(0#256,0,94),?_,.inr rfl,by simp,fun h=>by simp at h,fun h=>by simp at h⟩;unfold zey;refine zak fun a ha=> ?_;rw[hp] at ha;subst ha;rfl
 | true =>
  have hx0:1<=x.length:=by
   cases x with
   |nil=>cases hp
   |cons a t=>simp
  obtain⟨k0,hk0⟩: ∃k:Nat,k=if Lib.hasPrefix (x.drop 1) ([94]:List UInt8)=true then 2 else 1:=⟨_,rfl⟩
  have hk2:k0<=x.length/\ 1<=k0/\ k0<=2:=by
   rw[hk0];split
   ·rename_i h
    match x,h with
    |[],h=>cases h
    |[a],h=>cases h
    |a::b::t,_=>simp
   ·omega
  -- a run of any text with the same beginning
  have run: ∀y:List UInt8,y.length<1000->1<=y.length->Lib.hasPrefix y ([91]:List UInt8)=true->Lib.hasPrefix (y.drop 1) ([94]:List UInt8)=Lib.hasPrefix (x.drop 1) ([94]:List UInt8)-> ∀(r:(Int×BS) ⊕ (BS×Int×Int)) (R:BS×Int×Int),zbg (ziq y) 1100 ((k0:Int),true,0#256)=some r->
   brEnd y.length (Lib.hasPrefix (x.drop 1) ([94]:List UInt8)) r=some R->zey 1100 y=some R:=by
   intro y hy hy1 h91 h94 r R hr hR;unfold zey;refine zak fun a ha=> ?_;rw[h91] at ha;subst ha;rw[show(!true)=false from rfl,cond_false];refine zz (by omega) (zak fun a ha=>zak fun b hb=> ?_);rw[show(1:Int)=((1:Nat):Int) from rfl,zen] at ha;subst ha;rw[h94] at hb;subst hb;refine zbl (k0:Int) ?_ ?_
   ·rw[hk0];cases Lib.hasPrefix (x.drop 1) ([94]:List UInt8)<;>rfl
   ·cases r with
    |inl j=>exact zbl j hr hR
    |inr e=>exact zlb e hr hR
  obtain⟨r,h1,h2⟩:=qiz x (by omega) 1100 k0 true 0#256 hk2.1 (by omega);rcases h2 with⟨j,t,rfl,q1,q2,q3⟩|⟨j,rfl,q1,q2⟩
  ·by_cases hj:j=x.length
   ·refine⟨(0#256,(j:Int),94),run x hl hx0 hp rfl _ _ h1 ?_,.inr rfl,by simp only;omega,fun h=>by simp at h,fun h=>by simp at h⟩
    show(bif (((j:Nat):Int)==(x.length:Int)) then _ else _)=_
    rw[show(((j:Nat):Int)==(x.length:Int))=true by simp[hj],cond_true]
   ·obtain⟨z,hz⟩: ∃z,z=(bif Lib.hasPrefix (x.drop 1) ([94]:List UInt8) then ~~~t else t):=⟨_,rfl⟩;have fin: ∀y:List UInt8,((j:Nat):Int)≠(y.length:Int)-> ∀R:BS×Int×Int,R=(if z=0#256 then(0#256,0,94) else(z,(j:Int)+1,0))->brEnd y.length (Lib.hasPrefix (x.drop 1) ([94]:List UInt8)) (.inl ((j:Int),t))=some R:=by
     intro y hy R hR;unfold brEnd;simp only;rw[beq_eq_false_iff_ne.2 hy,cond_false];refine zbl z ?_ ?_
     ·rw[hz];cases Lib.hasPrefix (x.drop 1) ([94]:List UInt8)<;>rfl
     ·by_cases h0:z=0#256
      ·rw[decide_eq_true h0,cond_true,hR,if_pos h0]
      ·rw[decide_eq_false h0,cond_false,hR,if_neg h0];exact zz (by omega) rfl
    have hjx:j<x.length:=by omega
    by_cases h0:z=0#256
    ·exact⟨(0#256,0,94),run x hl hx0 hp rfl _ _ h1 (fin x (by omega) _ (by rw[if_pos h0])),.inr rfl,by simp,fun h=>by simp at h,fun h=>by simp at h⟩
    ·refine⟨(z,(j:Int)+1,0),run x hl hx0 hp rfl _ _ h1 (fin x (by omega) _ (by rw[if_neg h0])),.inl rfl,by simp only;omega,fun _=>by simp only;omega,fun _ y hy ha=> ?_⟩;have ha:Ag (j+1) x y:=ha.mono (by simp only;omega);refine run y hy (by have:=ha.2.1;omega) (by rw[<-br_pre (ha.mono (by omega))];exact hp) (hat_pre (ha.mono (by omega))).symm _ _ (q3 hjx y (by omega) ha) (fin y (by have:=ha.2.1;omega) _ (by rw[if_neg h0]))
  ·exact⟨(0#256,j,94),run x hl hx0 hp rfl _ _ h1 rfl,.inr rfl,by simp only;omega,fun h=>by simp at h,fun h=>by simp at h⟩
end Go.Ab
