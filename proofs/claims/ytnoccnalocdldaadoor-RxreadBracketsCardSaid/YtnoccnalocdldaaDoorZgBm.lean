import Derived.Test.YtnoccnalocdldaaDoorZgR3
set_option linter.all false
set_option maxRecDepth 100000
namespace Go.Ab
open Go Go.RowKit Go.Fwd Go.Proofs
theorem zfw {P:Program} {ρ:Operand→AV} {σ:St} {o:Oper} {t:TypeId} {x y:Operand} {c} {a b:List UInt8} (g:a.length+b.length≤9223372036854775807)(ho:o.op= .binOp .add t x y c)(hx:ρ x= .raw (.string (bs a)))(hy:ρ y= .raw (.string (bs b))):qop P ρ σ o=some (.raw (.string (bs (a++b)))):=by
 have hs: ¬((((bs a).size+(bs b).size:Nat):Int)>IntKind.i64.max):=by
  have h1:(bs a).size=a.length:=rfl
  have h2:(bs b).size=b.length:=rfl
  have h3:IntKind.i64.max=9223372036854775807:=rfl
  rw[h1,h2,h3];omega
 have h3:val? P (execOp (zbt ρ) o)=some (.value (.string (bs (a++b)))):=by
  rw[←bs_app]
  simp only[execOp,ho,zbt,hx,hy,zdi,eqGuard,binOp,Op.stringOp,Option.getD_some]
  simp only[if_neg hs]
  rfl
 have h1:o.op.operands.toList.all (fun x=>(zdi (ρ x)).isSome)=true:=by rw[ho];simp[Op.operands,hx,hy,zdi]
 have h4:zfj P ρ o=some (.raw (.string (bs (a++b)))):=by
  unfold zfj;rw[if_pos h1,ho,h3];rfl
 simp only[qop,ho,hx,hy,h4]
def hexD (n:Nat):UInt8:=UInt8.ofNat (if n<10 then 48+n else 87+n)
def zji (n:Nat):List UInt8:=[92,120,hexD (n/16),hexD (n%16)]
def textS (n:Nat):List UInt8:=if n<10 then[UInt8.ofNat (48+n)] else[49,UInt8.ofNat (38+n)]
noncomputable def run1 (f:Nat)(args:List AV)(r:AV):Bool:=match zkh Tryd.prog noP (evQ true Tryd.prog noP noS 300) f args with
 |some x=>z2k x r
 |none=>false
theorem run1_ok {f:Nat} {args:List AV} {r:AV} (h:run1 f args r=true):Pure (ITP Tryd.prog) Tryd.prog f args r:=by
 unfold run1 at h
 split at h
 ·rename_i x hx
  rw[qdj _ _ h] at hx
  exact zcy true goodN 300 hx
 ·cases h
theorem hex_tab:((List.range 256).all fun n=>run1 6 [.raw (.int .u8 (n:Int))] (.raw (.string (bs (zji n)))))=true:=by kernel_rfl
theorem k_hex (c:Int)(h:0≤c∧c<256):Pure (ITP Tryd.prog) Tryd.prog 6 [.raw (.int .u8 c)] (.raw (.string (bs (zji (Int.toNat c))))):=by
 have:=run1_ok (List.all_eq_true.1 hex_tab c.toNat (List.mem_range.2 (by omega)))
 rwa[Int.toNat_of_nonneg h.1] at this
def bytesOf (s:BS):List Nat:=(List.range 256).filter fun i=>s.getLsbD i
mutual
def sayT:Tr→List UInt8
 | .mk k s mn mx l=>
  if k=2 then[91]++(bytesOf s).flatMap zji++[93]
  else if k=3 then sayC l
  else if k=4 then sayA true l
  else if k=6 then[40]++say1 l++[41]
  else if k=5 then[40,63,58]++say1 l++[41,123]++textS mn.toNat++[44]++(if mx= -1 then[] else textS mx.toNat)++[125]
  else[]
def sayC:List Tr→List UInt8
 |[]=>[]
 |x::l=>[40,63,58]++sayT x++[41]++sayC l
def sayA:Bool→List Tr→List UInt8
 |_,[]=>[]
 |b,x::l=>(if b=true then[] else[124])++[40,63,58]++sayT x++[41]++sayA false l
def say1:List Tr→List UInt8
 |[]=>[]
 |x::_=>sayT x
end
def SY (t:Tr):Prop:=(∀x∈pre t,(x.k=5→(0≤x.mn∧x.mn<20)∧(x.mx= -1∨0≤x.mx∧x.mx<20))∧(x.k=5∨x.k=6→x.l≠[]))∧(sayT t).length≤2^40
instance (t:Tr):Decidable (SY t):=by unfold SY;infer_instance
def bit (n:Nat):BS:=1#256<<<n
def bits:Nat→Nat→BS
 |_,0=>0#256
 |c,k+1=>bit c|||bits (c+1) k
theorem wd_inj4 {s t:BS} (h: ∀j,j<4→wd s j=wd t j):s=t:=by
 have h2:=z4q s t
 have h3:(wd s 0==wd t 0&&wd s 1==wd t 1&&wd s 2==wd t 2&&wd s 3==wd t 3)=true:=by
  rw[h 0 (by decide),h 1 (by decide),h 2 (by decide),h 3 (by decide)];simp
 rw[h2] at h3
 exact of_decide_eq_true h3
theorem qhx (s:BS)(j:Nat):orI .u64 (wd s j) 0=wd s j:=by
 have h:=qcr s 0#256 j
 rw[show s|||0#256=s by simp,wd_zero] at h
 exact h
theorem qas:((List.range 256).all fun c=>decide (wd (bit c) (c/64)=zkd .u64 1 ((c%64:Nat):Int))&&(List.range 4).all fun j=>j==c/64||decide (wd (bit c) j=0))=true:=by decide+kernel
theorem qjm (s:BS)(c:Nat)(hc:c<256):stW s (c/64) (orI .u64 (wd s (c/64)) (zkd .u64 1 ((c%64:Nat):Int)))=s|||bit c:=by
 have ht:=List.all_eq_true.1 qas c (List.mem_range.2 hc)
 rw[Bool.and_eq_true] at ht
 have h1:=of_decide_eq_true ht.1
 have h2: ∀j,j<4→j≠c/64→wd (bit c) j=0:=fun j hj hne=>by
  have:=List.all_eq_true.1 ht.2 j (List.mem_range.2 hj)
  simpa[hne] using this
 have hv:0≤orI .u64 (wd s (c/64)) (zkd .u64 1 ((c%64:Nat):Int))∧orI .u64 (wd s (c/64)) (zkd .u64 1 ((c%64:Nat):Int))<2^64:=by
  rw[←h1,qcr];exact zzw _ _
 refine wd_inj4 fun j hj=> ?_
 rw[zmp _ _ _ hv j hj,←qcr]
 split
 ·rename_i e;subst e;rw[h1]
 ·rename_i e;rw[h2 j hj e,qhx]
theorem qiz (s:BS)(c:Nat)(hc:c<256):0≤orI .u64 (wd s (c/64)) (zkd .u64 1 ((c%64:Nat):Int))∧orI .u64 (wd s (c/64)) (zkd .u64 1 ((c%64:Nat):Int))<18446744073709551616:=by
 have ht:=List.all_eq_true.1 qas c (List.mem_range.2 hc)
 rw[Bool.and_eq_true] at ht
 have h1:=of_decide_eq_true ht.1
 rw[←h1,qcr];exact zzw _ _
theorem sh_tab:((List.range 256).all fun c=>decide (zge .i64 ((c:Nat):Int) 6=((c/64:Nat):Int))&&decide (zmx .i64 ((c:Nat):Int) 63=((c%64:Nat):Int))&&decide (IntKind.i64.wrap (Int.tdiv ((c:Nat):Int) 64)=((c/64:Nat):Int))&&decide (Int.tmod ((c:Nat):Int) 64=((c%64:Nat):Int))&&decide (zgt 1100 [UInt8.ofNat c]=some (bit c))&&decide (zkp (bit c)=some 1))=true:=by decide+kernel
theorem zwc {ρ:Type} (body:Int×BS→Option ((Int×BS) ⊕ ρ))(R:BS→ρ)(d:Nat)(hs: ∀(c:Nat)(s:BS),c≤d→body (((c:Nat):Int),s)=some (.inl (((c:Nat):Int)+1,s|||bit c)))(he: ∀s:BS,body (((d+1:Nat):Int),s)=some (.inr (R s))):
 ∀(k c:Nat) (s:BS) (fuel:Nat),c+k=d+1→k<fuel→zbo body fuel (((c:Nat):Int),s)=some (R (s|||bits c k))
 | 0,c,s,fuel,h1,h2=>by
  obtain⟨f,rfl⟩: ∃f,fuel=f+1:=⟨fuel-1,by omega⟩
  have:c=d+1:=by omega
  subst this
  rw[zbo,he]
  simp[bits]
 | k+1,c,s,fuel,h1,h2=>by
  obtain⟨f,rfl⟩: ∃f,fuel=f+1:=⟨fuel-1,by omega⟩
  rw[zbo,hs c s (by omega)]
  have:=zwc body R d hs he k (c+1) (s|||bit c) f (by omega) (by omega)
  simp only[Int.natCast_add,Int.cast_ofNat_Int] at this
  show zbo body f (((c:Nat):Int)+1,s|||bit c)=_
  rw[this,bits,BitVec.or_assoc]
theorem qcu (c:Nat)(hc:c<256):zge .i64 ((c:Nat):Int) 6=((c/64:Nat):Int)∧zmx .i64 ((c:Nat):Int) 63=((c%64:Nat):Int)∧IntKind.i64.wrap (Int.tdiv ((c:Nat):Int) 64)=((c/64:Nat):Int)∧Int.tmod ((c:Nat):Int) 64=((c%64:Nat):Int)∧zgt 1100 [UInt8.ofNat c]=some (bit c)∧zkp (bit c)=some 1:=by
 have ht:=List.all_eq_true.1 sh_tab c (List.mem_range.2 hc)
 simp only[Bool.and_eq_true,decide_eq_true_eq] at ht
 obtain⟨⟨⟨⟨⟨a,b⟩,c⟩,d⟩,e⟩,f⟩:=ht
 exact⟨a,b,c,d,e,f⟩
theorem z2e (c d:Nat)(hcd:c≤d)(hd:d<256):zdm 1100 ((c:Nat):Int) ((d:Nat):Int)=some (bits c (d+1-c)):=by
 unfold zdm
 refine zca (bits c (d+1-c)) ?_ rfl
 refine zae (by omega) ?_
 have h:=zwc (ρ:=BS ⊕ BS) (fun s1=>(chk (-9223372036854775808≤((d:Nat):Int)∧((d:Nat):Int)<9223372036854775808) (bif (decide (s1.1≤((d:Nat):Int))) then(chk (0≤(zge .i64 s1.1 6)∧(zge .i64 s1.1 6)<4) (chk (0≤(zmx .i64 s1.1 63)) (chk (0≤(zge .i64 s1.1 6)∧(zge .i64 s1.1 6)<4) (chk (0≤(orI .u64 (wd s1.2 (Int.toNat (zge .i64 s1.1 6))) (zkd .u64 1 (zmx .i64 s1.1 63)))∧(orI .u64 (wd s1.2 (Int.toNat (zge .i64 s1.1 6))) (zkd .u64 1 (zmx .i64 s1.1 63)))<18446744073709551616) (zbi (stW s1.2 (Int.toNat (zge .i64 s1.1 6)) (orI .u64 (wd s1.2 (Int.toNat (zge .i64 s1.1 6))) (zkd .u64 1 (zmx .i64 s1.1 63)))) (fun x1=>(chk (-9223372036854775808≤(s1.1+1)∧(s1.1+1)<9223372036854775808) (some (Sum.inl ((s1.1+1),x1)))))))))) else(some (Sum.inr (Sum.inl (s1.2))))))) (fun s=> .inl s) d ?_ ?_ (d+1-c) c 0#256 1100 (by omega) (by omega)
 ·rw[show(0#256:BS)|||bits c (d+1-c)=bits c (d+1-c) by simp] at h
  exact h
 ·intro e s he
  obtain⟨q1,q2,_⟩:=qcu e (by omega)
  refine zae (by omega) ?_
  rw[show decide (((e:Nat):Int)≤((d:Nat):Int))=true by simp;omega,cond_true]
  simp only[q1,q2,Int.toNat_natCast]
  refine zae (by omega) (zae (by omega) (zae (by omega) (zae (qiz s e (by omega)) ?_)))
  refine zap fun x hx=> ?_
  rw[qjm s e (by omega)] at hx
  subst hx
  exact zae (by omega) rfl
 ·intro s
  refine zae (by omega) ?_
  rw[show decide (((d+1:Nat):Int)≤((d:Nat):Int))=false by simp;omega,cond_false]
theorem hex_nib:((List.range 256).all fun n=>decide (zij ((hexD (n/16)).toNat:Int)=some ((n/16:Nat):Int))&&decide (zij ((hexD (n%16)).toNat:Int)=some ((n%16:Nat):Int))&&decide (IntKind.u8.wrap (orI .i64 (zkd .i64 ((n/16:Nat):Int) 4) ((n%16:Nat):Int))=((n:Nat):Int)))=true:=by decide+kernel
theorem z0q (n:Nat)(hn:n<256)(rest:List UInt8)(m:BS):zhf (zji n++rest) m=some (((n:Nat):Int),4,0):=by
 have ht:=List.all_eq_true.1 hex_nib n (List.mem_range.2 hn)
 simp only[Bool.and_eq_true,decide_eq_true_eq] at ht
 obtain⟨⟨h1,h2⟩,h3⟩:=ht
 obtain⟨a,ha⟩: ∃a,a=hexD (n/16):=⟨_,rfl⟩
 obtain⟨b,hb⟩: ∃b,b=hexD (n%16):=⟨_,rfl⟩
 rw[←ha] at h1
 rw[←hb] at h2
 have e:zji n++rest=92::120::a::b::rest:=by rw[ha,hb];rfl
 rw[e]
 have hl:((92::120::a::b::rest:List UInt8).length:Int)=(rest.length:Int)+4:=by simp only[List.length_cons];omega
 have i0:ix (92::120::a::b::rest:List UInt8) (0:Int)=92:=rfl
 have i1:ix (92::120::a::b::rest:List UInt8) (1:Int)=120:=rfl
 have i2:ix (92::120::a::b::rest:List UInt8) (2:Int)=a:=rfl
 have i3:ix (92::120::a::b::rest:List UInt8) (3:Int)=b:=rfl
 have hlt:n/16<16:=by omega
 have hlt2:n%16<16:=by omega
 unfold zhf
 simp only[hl,i0,i1,i2,i3]
 refine zca () ?_ ?_
 ·rw[show((92::120::a::b::rest:List UInt8)==[])=false from rfl,cond_false]
  refine zae (by omega) (zap fun x hx=> ?_)
  subst hx
  rw[show((((92:UInt8).toNat:Nat):Int) !=92)=false from rfl,cond_false]
  refine zae (by omega) (zap fun x hx=> ?_)
  subst hx
  rw[show((((92:UInt8).toNat:Nat):Int) !=92)=false from rfl,cond_false,show decide ((rest.length:Int)+4<2)=false by simp;omega,cond_false]
 ·refine zae (by omega) (zap fun x hx=>zap fun y hy=> ?_)
  subst hx
  refine z4u (((n:Nat):Int),4,0) ?_ rfl
  rw[show((((120:UInt8).toNat:Nat):Int)==120)=true from rfl,cond_true,show decide ((rest.length:Int)+4>3)=true by simp;omega,cond_true]
  refine zae (by omega) (zap fun x hx=> ?_)
  subst hx
  refine zbq _ h1 ?_
  rw[show decide (((n/16:Nat):Int)<16)=true by simp;omega,cond_true]
  refine zae (by omega) (zap fun x hx=> ?_)
  subst hx
  refine zbq _ h2 ?_
  rw[show decide (((n%16:Nat):Int)<16)=true by simp;omega,cond_true]
  refine zae (by omega) (zap fun x hx=> ?_)
  subst hx
  refine zbq _ h1 ?_
  refine zae (by omega) (zap fun x hx=> ?_)
  subst hx
  refine zbq _ h2 ?_
  rw[h3]
theorem qdi (n:Nat)(rest:List UInt8):(zqf (zji n++rest)).2=false:=rfl
theorem zvs (n:Nat)(hn:n<256)(rest:List UInt8):zqm 1100 (zji n++rest)=some (bit n,((n:Nat):Int),4,0):=by
 unfold zqm
 refine zap fun x1 hx1=> ?_
 have h2:x1.2=false:=by rw[←hx1];exact qdi n rest
 rw[h2,cond_false]
 refine zbq _ (z0q n hn rest zjf) ?_
 refine zae (by simp only;omega) ?_
 refine zbq (bit n) ?_ rfl
 have:z1o ((n:Nat):Int)=UInt8.ofNat n:=rfl
 simp only[this]
 exact(qcu n hn).2.2.2.2.1
abbrev It:=Nat×Option Nat
def zrn:It→List UInt8
 |(c,none)=>zji c
 |(c,some d)=>zji c++45::zji d
def qek:It→BS
 |(c,none)=>bit c
 |(c,some d)=>bits c (d+1-c)
def gdI:It→Prop
 |(c,none)=>c<256
 |(c,some d)=>c≤d∧d<256
def zds (l:List It):List UInt8:=l.flatMap zrn
def zhb (s:BS)(l:List It):BS:=l.foldl (fun s i=>s|||qek i) s
def zvk (s:List UInt8):Int×Bool×BS→Option ((Int×Bool×BS) ⊕ ((Int×BS) ⊕ (BS×Int×Int))):=
 (fun s1=>(zdr (τ:=Unit) (bif s1.2.1 then(some (Sum.inl ())) else(bif (decide (s1.1<(List.length s:Int))) then(chk (0≤s1.1∧s1.1<(List.length s:Int)) (zbi (ix s s1.1) (fun x4=>(bif ((((x4).toNat:Nat):Int) !=93) then(some (Sum.inl ())) else(some (Sum.inr (Sum.inr (Sum.inl (s1.1,s1.2.2))))))))) else(some (Sum.inr (Sum.inr (Sum.inl (s1.1,s1.2.2))))))) (fun j3=>(chk (0≤s1.1∧s1.1≤(List.length s:Int)∧(List.length s:Int)≤(List.length s:Int)) (zbi (sub s s1.1 (List.length s:Int)) (fun x5=>(zar (zqm 1100 x5) (fun x6=>(bif (x6.2.2.2 !=0) then(some (Sum.inr (Sum.inr (0#256,s1.1,94)))) else(chk (-9223372036854775808≤(s1.1+x6.2.2.1)∧(s1.1+x6.2.2.1)<9223372036854775808) (zdr (τ:=Int×BS) (bif (decide ((s1.1+x6.2.2.1)<(List.length s:Int))) then(chk (0≤(s1.1+x6.2.2.1)∧(s1.1+x6.2.2.1)<(List.length s:Int)) (zbi (ix s (s1.1+x6.2.2.1)) (fun x7=>(bif ((((x7).toNat:Nat):Int)==45) then(chk (-9223372036854775808≤((s1.1+x6.2.2.1)+1)∧((s1.1+x6.2.2.1)+1)<9223372036854775808) (chk (0≤((s1.1+x6.2.2.1)+1)∧((s1.1+x6.2.2.1)+1)≤(List.length s:Int)∧(List.length s:Int)≤(List.length s:Int)) (zbi (sub s ((s1.1+x6.2.2.1)+1) (List.length s:Int)) (fun x8=>(zar (zqm 1100 x8) (fun x9=>(bif (x9.2.2.2 !=0) then(chk (-9223372036854775808≤((s1.1+x6.2.2.1)+1)∧((s1.1+x6.2.2.1)+1)<9223372036854775808) (some (Sum.inr (Sum.inr (Sum.inr (0#256,((s1.1+x6.2.2.1)+1),94)))))) else(zar (zkp x6.1) (fun x10=>(bif (x10 !=1) then(some (Sum.inr (Sum.inr (Sum.inr (0#256,(s1.1+x6.2.2.1),94))))) else(zar (zkp x9.1) (fun x11=>(bif (x11 !=1) then(some (Sum.inr (Sum.inr (Sum.inr (0#256,(s1.1+x6.2.2.1),94))))) else(bif (decide (x6.2.1>x9.2.1)) then(some (Sum.inr (Sum.inr (Sum.inr (0#256,(s1.1+x6.2.2.1),94))))) else(chk (-9223372036854775808≤(1+x9.2.2.1)∧(1+x9.2.2.1)<9223372036854775808) (chk (-9223372036854775808≤((s1.1+x6.2.2.1)+(1+x9.2.2.1))∧((s1.1+x6.2.2.1)+(1+x9.2.2.1))<9223372036854775808) (zar (zdm 1100 x6.2.1 x9.2.1) (fun x12=>(some (Sum.inl (((s1.1+x6.2.2.1)+(1+x9.2.2.1)),x12))))))))))))))))))))) else(some (Sum.inl ((s1.1+x6.2.2.1),x6.1))))))) else(some (Sum.inl ((s1.1+x6.2.2.1),x6.1)))) (fun j4=>(zbi (s1.2.2|||j4.2) (fun x13=>(some (Sum.inl (j4.1,false,x13)))))))))))))))))
theorem zpi {α:Type} (l:List α)(k:Nat):sub l ((k:Nat):Int) (l.length:Int)=l.drop k:=by
 unfold sub
 rw[Int.toNat_natCast,Int.toNat_natCast,List.take_of_length_le (by simp)]
theorem qgb (a b:List UInt8)(c:UInt8):ix (a++c::b) (a.length:Int)=c:=by
 unfold ix
 rw[Int.toNat_natCast,List.getD_eq_getElem?_getD,List.getElem?_append_right (Nat.le_refl _)]
 simp
theorem zwi (i:It): ∃l,zrn i=92::l:=by
 obtain⟨c,d⟩:=i
 cases d with
 |none=>exact⟨_,rfl⟩
 |some d=>exact⟨_,rfl⟩
theorem br_step (a:List UInt8)(i:It)(hg:gdI i)(b:List UInt8)(hb: ∃c t,b=c::t∧c≠45)(first:Bool)(out:BS)(hlen:(a++zrn i++b).length<2^40):
 zvk (a++zrn i++b) ((a.length:Int),first,out)=some (.inl (((a++zrn i).length:Int),false,out|||qek i)):=by
 obtain⟨s,hs⟩: ∃s,s=a++zrn i++b:=⟨_,rfl⟩
 rw[←hs] at hlen⊢
 have hls:(s.length:Int)=(a.length:Int)+((zrn i).length:Int)+(b.length:Int):=by rw[hs];simp only[List.length_append];omega
 obtain⟨l,hl⟩:=zwi i
 have hl1:0<(zrn i).length:=by rw[hl];simp
 have hat:ix s (a.length:Int)=92:=by rw[hs,hl,List.append_assoc];exact qgb a _ 92
 have hdrop:s.drop a.length=zrn i++b:=by rw[hs,List.append_assoc,List.drop_left]
 obtain⟨c0,t0,hb1,hb2⟩:=hb
 have hbl:0<b.length:=by rw[hb1];simp
 unfold zvk
 refine zca () ?_ ?_
 ·cases first with
  |true=>rfl
  | false=>
   simp only[cond_false]
   rw[show decide ((a.length:Int)<(s.length:Int))=true by simp;omega,cond_true]
   refine zae (by omega) (zap fun x hx=> ?_)
   rw[hat] at hx
   subst hx
   rfl
 refine zae (by simp only;omega) (zap fun x hx=> ?_)
 simp only at hx
 rw[zpi,hdrop] at hx
 subst hx
 obtain⟨c,d⟩:=i
 cases d with
 | none=>
  have hc:c<256:=hg
  have ht:(zrn (c,none)).length=4:=rfl
  refine zbq _ (zvs c hc b) ?_
  simp only
  rw[show((0:Int) !=0)=false from rfl,cond_false]
  refine zae (by omega) ?_
  have hat2:ix s ((a.length:Int)+4)=c0:=by
   have:=qgb (a++zrn (c,none)) t0 c0
   rw[←hb1,←hs,List.length_append,ht] at this
   exact_mod_cast this
  refine zca ((a.length:Int)+4,bit c) ?_ ?_
  ·rw [show decide ((a.length:Int)+4<(s.length:Int))=true by simp;omega,cond_true]
   refine zae (by omega) (zap fun x hx=> ?_)
   rw[hat2] at hx
   subst hx
   rw [show((((c0).toNat:Nat):Int)==45)=false by
    cases hq:((((c0).toNat:Nat):Int)==45) with
    |false=>rfl
    | true=>
     simp only[beq_iff_eq] at hq
     exact absurd (UInt8.toNat_inj.1 (show c0.toNat=45 by omega)) hb2,cond_false]
  ·refine zap fun x hx=> ?_
   subst hx
   simp only[List.length_append,ht,qek]
   rfl
 | some d=>
  have hcd:c≤d∧d<256:=hg
  have ht:(zrn (c,some d)).length=9:=rfl
  have he:zrn (c,some d)++b=zji c++(45::zji d++b):=by simp[zrn]
  rw[he]
  refine zbq _ (zvs c (by omega) _) ?_
  simp only
  rw[show((0:Int) !=0)=false from rfl,cond_false]
  refine zae (by omega) ?_
  have hat2:ix s ((a.length:Int)+4)=45:=by
   have:=qgb (a++zji c) (zji d++b) 45
   rw[show a++zji c++45::(zji d++b)=s by rw[hs];simp[zrn],List.length_append,show(zji c).length=4 from rfl] at this
   exact_mod_cast this
  have hd2:s.drop (a.length+5)=zji d++b:=by
   rw[hs,show a++zrn (c,some d)++b=(a++zji c++[45])++(zji d++b) by simp[zrn],show a.length+5=(a++zji c++[45]).length by simp[zji],List.drop_left]
  refine zca ((a.length:Int)+4+(1+4),bits c (d+1-c)) ?_ ?_
  ·rw[show decide ((a.length:Int)+4<(s.length:Int))=true by simp;omega,cond_true]
   refine zae (by omega) (zap fun x hx=> ?_)
   rw[hat2] at hx
   subst hx
   rw[show((((45:UInt8).toNat:Nat):Int)==45)=true from rfl,cond_true]
   refine zae (by omega) (zae (by omega) (zap fun x hx=> ?_))
   rw[show(a.length:Int)+4+1=((a.length+5:Nat):Int) by omega,zpi,hd2] at hx
   subst hx
   refine zbq _ (zvs d hcd.2 b) ?_
   simp only
   rw[show((0:Int) !=0)=false from rfl,cond_false]
   refine zbq _ (qcu c (by omega)).2.2.2.2.2 ?_
   rw[show((1:Int) !=1)=false from rfl,cond_false]
   refine zbq _ (qcu d hcd.2).2.2.2.2.2 ?_
   rw[show((1:Int) !=1)=false from rfl,cond_false,show decide (((c:Nat):Int)>((d:Nat):Int))=false by simp;omega,cond_false]
   refine zae (by omega) (zae (by omega) ?_)
   exact zbq _ (z2e c d hcd.1 hcd.2) rfl
  ·refine zap fun x hx=> ?_
   subst hx
   simp only[List.length_append,ht,qek]
   rw[show(a.length:Int)+4+(1+4)=((a.length+9:Nat):Int) by omega]
theorem zix (i:It)(l:List It):zds (i::l)=zrn i++zds l:=by simp[zds]
theorem z3y (s rest:List UInt8)(hlen:s.length<2^40): ∀(its:List It) (a:List UInt8) (first:Bool) (out:BS) (fuel:Nat),s=a++zds its++93::rest→(∀i∈its,gdI i)→its.length<fuel→(first=true→its≠[])→
 zbo (zvk s) fuel ((a.length:Int),first,out)=some (.inl (((a++zds its).length:Int),zhb out its))
 | [],a,first,out,fuel,hs,_,hf,hn=>by
  obtain⟨f,rfl⟩: ∃f,fuel=f+1:=⟨fuel-1,by omega⟩
  have h1:first=false:=by
   cases first with
   |false=>rfl
   |true=>exact absurd rfl (hn rfl)
  subst h1
  have e:s=a++93::rest:=by rw[hs];simp[zds]
  have hl:(s.length:Int)=(a.length:Int)+1+(rest.length:Int):=by rw[e];simp only[List.length_append,List.length_cons];omega
  have hat:ix s (a.length:Int)=93:=by rw[e];exact qgb a rest 93
  have hb:zvk s ((a.length:Int),false,out)=some (.inr (.inl ((a.length:Int),out))):=by
   unfold zvk
   refine z4u (.inr (.inl ((a.length:Int),out))) ?_ rfl
   simp only[cond_false]
   rw[show decide ((a.length:Int)<(s.length:Int))=true by simp;omega,cond_true]
   refine zae (by omega) (zap fun x hx=> ?_)
   rw[hat] at hx
   subst hx
   rfl
  rw[zbo,hb]
  simp[zds,zhb]
 | i ::its,a,first,out,fuel,hs,hg,hf,hn=>by
  obtain⟨f,rfl⟩: ∃f,fuel=f+1:=⟨fuel-1,by omega⟩
  have e:s=a++zrn i++(zds its++93::rest):=by rw[hs,zix];simp
  have hb: ∃c t,zds its++93::rest=c::t∧c≠45:=by
   cases its with
   |nil=>exact⟨93,rest,rfl,by decide⟩
   | cons j its=>
    obtain⟨l,hl⟩:=zwi j
    exact⟨92,l++(zds its++93::rest),by rw[zix,hl];simp,by decide⟩
  have h1:=br_step a i (hg i (by simp)) _ hb first out (by rw[←e];exact hlen)
  rw[←e] at h1
  rw[zbo,h1]
  show zbo (zvk s) f _=_
  have:=z3y s rest hlen its (a++zrn i) false (out|||qek i) f (by rw[hs,zix];simp) (fun j hj=>hg j (by simp[hj])) (by simp only[List.length_cons] at hf;omega) (fun h=>by cases h)
  rw[this,zix]
  simp[zhb]
theorem z4y (k:Nat): ∀(l:List It) (s:BS),(zhb s l).getLsbD k=(s.getLsbD k||l.any fun i=>(qek i).getLsbD k)
 |[],s=>by simp[zhb]
 | i::l,s=>by
  show(zhb (s|||qek i) l).getLsbD k=_
  rw[z4y k l]
  simp[Bool.or_assoc]
theorem qay (c:Nat)(hc:c<256):(bit c).getLsbD c=true:=by
 unfold bit
 simp[BitVec.getLsbD_shiftLeft,hc]
theorem val_ne (i:It)(h:gdI i):(qek i).getLsbD i.1=true:=by
 obtain⟨c,d⟩:=i
 cases d with
 |none=>exact qay c h
 | some d=>
  have h:c≤d∧d<256:=h
  show(bits c (d+1-c)).getLsbD c=true
  obtain⟨k,hk⟩: ∃k,d+1-c=k+1:=⟨d-c,by omega⟩
  rw[hk,bits]
  simp[qay c (by omega)]
theorem qcq (l:List It)(hl:l≠[])(h: ∀i∈l,gdI i):zhb 0#256 l≠0#256:=by
 cases l with
 |nil=>exact absurd rfl hl
 | cons i l=>
  intro e
  have h1:=z4y i.1 (i::l) 0#256
  rw[e,List.any_cons,val_ne i (h i (by simp))] at h1
  simp at h1
theorem zul (its:List It)(rest:List UInt8)(hn:its≠[])(hg: ∀i∈its,gdI i)(hl:its.length<1000)(hlen:(zds its).length+rest.length<2^39):
 zec 1100 (([91]:List UInt8)++zds its++[93]++rest)=some (zhb 0#256 its,((zds its).length:Int)+2,0):=by
 obtain⟨s,hs⟩: ∃s,s=([91]:List UInt8)++zds its++[93]++rest:=⟨_,rfl⟩
 rw[←hs]
 have e:s=[91]++zds its++93::rest:=by rw[hs];simp
 have hsl:s.length=(zds its).length+rest.length+2:=by rw[e];simp only[List.length_append,List.length_cons,List.length_nil];omega
 obtain⟨i0,its',hi⟩: ∃i l,its=i::l:=by
  cases its with
  |nil=>exact absurd rfl hn
  |cons i l=>exact⟨i,l,rfl⟩
 obtain⟨l0,hl0⟩:=zwi i0
 have hd1:s.drop 1=92::(l0++zds its'++93::rest):=by rw[e,hi,zix,hl0];simp
 have hloop:=z3y s rest (by omega) its [91] true 0#256 1100 e hg (by omega) (fun _=>hn)
 unfold zec
 refine zap fun x1 hx1=> ?_
 have:x1=true:=by rw[←hx1,e];rfl
 subst this
 rw[show(!true)=false from rfl,cond_false]
 refine zae (by omega) (zap fun x2 hx2=> ?_)
 rw[show(1:Int)=((1:Nat):Int) from rfl,zpi,hd1] at hx2
 refine zap fun x3 hx3=> ?_
 have:x3=false:=by rw[←hx3,←hx2];rfl
 subst this
 rw[cond_false]
 refine zca 1 rfl ?_
 refine zca (((([91]:List UInt8)++zds its).length:Int),zhb 0#256 its) hloop ?_
 have hla:((([91]:List UInt8)++zds its).length:Int)=((zds its).length:Int)+1:=by simp only[List.length_append,List.length_cons,List.length_nil];omega
 rw[hla]
 rw[show(((zds its).length:Int)+1==(s.length:Int))=false by simp;omega,cond_false]
 refine zca (zhb 0#256 its) rfl ?_
 rw[show decide (zhb 0#256 its=0#256)=false by simpa using qcq its hn hg,cond_false]
 refine zae (by simp only;omega) ?_
 simp only
 rw[show((zds its).length:Int)+1+1=((zds its).length:Int)+2 by omega]
theorem z2f (its:List It)(rest:List UInt8)(hn:its≠[])(hg: ∀i∈its,gdI i)(hl:its.length<1000)(hlen:(zds its).length+rest.length<2^39):
 zec 1100 (([91,94]:List UInt8)++zds its++[93]++rest)=some (if ~~~ zhb 0#256 its=0#256 then(0#256,0,94) else(~~~ zhb 0#256 its,((zds its).length:Int)+3,0)):=by
 obtain⟨s,hs⟩: ∃s,s=([91,94]:List UInt8)++zds its++[93]++rest:=⟨_,rfl⟩
 rw[←hs]
 have e:s=[91,94]++zds its++93::rest:=by rw[hs];simp
 have hsl:s.length=(zds its).length+rest.length+3:=by rw[e];simp only[List.length_append,List.length_cons,List.length_nil];omega
 have hd1:s.drop 1=94::(zds its++93::rest):=by rw[e];simp
 have hloop:=z3y s rest (by omega) its [91,94] true 0#256 1100 e hg (by omega) (fun _=>hn)
 unfold zec
 refine zap fun x1 hx1=> ?_
 have:x1=true:=by rw[←hx1,e];rfl
 subst this
 rw[show(!true)=false from rfl,cond_false]
 refine zae (by omega) (zap fun x2 hx2=> ?_)
 rw[show(1:Int)=((1:Nat):Int) from rfl,zpi,hd1] at hx2
 refine zap fun x3 hx3=> ?_
 have:x3=true:=by rw[←hx3,←hx2];rfl
 subst this
 rw[cond_true]
 refine zca 2 rfl ?_
 refine zca (((([91,94]:List UInt8)++zds its).length:Int),zhb 0#256 its) hloop ?_
 have hla:((([91,94]:List UInt8)++zds its).length:Int)=((zds its).length:Int)+2:=by simp only[List.length_append,List.length_cons,List.length_nil];omega
 rw[hla]
 rw[show(((zds its).length:Int)+2==(s.length:Int))=false by simp;omega,cond_false]
 refine zca (~~~ zhb 0#256 its) rfl ?_
 by_cases hz: ~~~ zhb 0#256 its=0#256
 ·rw[show decide (~~~ zhb 0#256 its=0#256)=true by simpa using hz,cond_true,if_pos hz]
 ·rw[show decide (~~~ zhb 0#256 its=0#256)=false by simpa using hz,cond_false,if_neg hz]
  refine zae (by simp only;omega) ?_
  simp only
  rw[show((zds its).length:Int)+2+1=((zds its).length:Int)+3 by omega]
end Go.Ab
