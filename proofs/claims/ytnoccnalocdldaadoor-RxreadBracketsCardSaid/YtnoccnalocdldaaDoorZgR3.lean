import Derived.Test.YtnoccnalocdldaaDoorZgW6
import Derived.Test.YtnoccnalocdldaaDoorZgSy
set_option linter.all false
namespace Go.Ab
open Go Go.RowKit Go.Fwd Go.Proofs
theorem qcv:(pre zz).length=1:=by simp[zz,pre,zda]
theorem qdu (t:Tr)(h:(pre t).length<2^60):znq t=some (zsa t):=by
 unfold znq zsa
 rw[zem ⟨h,by rw[qcv];omega⟩,zbi]
 cases zfq t zz with
 |true=>rfl
 |false=>show chk _ _=_;rw[zem (by omega)];rfl
theorem zlr (t:Tr)(h:(pre t).length<2^61):zeb t=some (zex t):=by
 unfold zeb zex
 rw[zem h,zbi]
 cases hl:zga t with
 |false=>rfl
 |true=>have:=ztu hl;show chk _ _=_;rw[zem (by omega)];rfl
theorem qaa {fuel:Nat} (k w:Nat)(l:List Tr)(hl:(zda l).length≤2^40)(hf:l.length<fuel):zqe fuel k w l=some (zle k w l):=by
 have hlen:=zci l
 unfold zqe
 refine zca (zle k w l) ?_ rfl
 refine zku l.length (fun i=>(zle k w (l.take i),(i:Int))) (by simp[zle]) (fun i hi=> ?_) ?_ hf
 ·have hp:=zzc l (i+1)
  have hfl:=zlm k w (l.take (i+1))
  have hlf:(zle k w (l.take (i+1))).length≤(zda l).length:=by have:=zci (zle k w (l.take (i+1)));omega
  have hs:zle k w (l.take (i+1))=zle k w (l.take i)++(bif (l[i].k:Int)==k then l[i].l else bif (l[i].k:Int)==w then[] else[l[i]]):=by
   rw[List.take_succ_eq_append_getElem hi,zle,List.flatMap_append];simp[zle]
  refine zgp (by simp;omega) ?_
  refine zca (zle k w (l.take (i+1))) ?_ ?_
  ·refine zae (by simp only;omega) (zap fun x1 e1=> ?_)
   simp only at e1
   rw[zjs hi] at e1
   rw[←e1,hs]
   rw[hs,List.length_append] at hlf
   cases h1:(l[i].k:Int)==k with
   | true=>
    rw[h1,cond_true] at hlf
    exact zgp rfl (zae (by simp only;omega) rfl)
   | false=>
    rw[h1,cond_false] at hlf
    cases h2:(l[i].k:Int)==w with
    |true=>exact zfy rfl (zgp rfl (by simp))
    | false=>
     rw[h2,cond_false] at hlf
     exact zfy rfl (zfy rfl (zae (by simp only;omega) rfl))
  ·refine zae (by simp only;omega) ?_
   simp only;rfl
 ·exact zfy (by simp) (by simp[List.take_length])
theorem zzz (k:Nat)(l:List Tr)(z:Tr)(hl:(zda l).length≤2^41):zhz k l z=some (zwh k l z):=by
 unfold zhz zwh
 cases h0:(l.length:Int)==0 with
 |true=>rfl
 | false=>
  simp only[cond_false]
  cases h1:(l.length:Int)==1 with
  | true=>
   cases l with
   |nil=>simp at h1
   | cons x l=>
    have hx:(pre x).length≤(zda (x::l)).length:=by simp[zda]
    refine zae (by simp) (zap fun x1 e1=> ?_)
    have:x1=x:=by rw[←e1];rfl
    subst this
    rw[zlr _ (by omega)];rfl
  | false=>
   simp only[cond_false]
   refine zae (by omega) ?_
   rw[Int.toNat_natCast,zlr _ (by rw[pre,List.length_cons];omega)];rfl
theorem z4x {l:List Tr} {x:Tr} (h:x∈l):(pre x).length≤(zda l).length:=zlu h
theorem z9v {ρ:Type} (q:Tr→Bool)(y:ρ)(l:List Tr) {body:Int→Option (Int ⊕ (Unit ⊕ ρ))} (hb: ∀i (hi:i<l.length),body (i:Int)=some (if q l[i]=true then .inr (.inr y) else .inl ((i+1:Nat):Int)))(he:body (l.length:Int)=some (.inr (.inl ()))):
 ∀(k i n:Nat),i+k=l.length→k<n→zbo body n (i:Int)=some (if(l.drop i).any q=true then .inr y else .inl ()):=by
 intro k
 induction k with
 | zero=>
  intro i n hi hn
  match n,hn with
  | n+1,_=>
   have:i=l.length:=by omega
   subst this
   rw[zbo,he,List.drop_length];rfl
 | succ k ih=>
  intro i n hi hn
  match n,hn with
  | n+1,hn=>
   have hil:i<l.length:=by omega
   rw[zbo,hb i hil,List.drop_eq_getElem_cons hil,List.any_cons]
   by_cases hq:q l[i]=true
   ·simp[hq]
   ·rw[if_neg hq]
    simp only
    rw[ih (i+1) n (by omega) (by omega)]
    simp[hq]
theorem seq_eqF {fuel:Nat} (l:List Tr)(hl:(zda l).length≤2^40)(hf:l.length<fuel):qiq fuel l=some (seqT l):=by
 have hlen:=zci l
 have hfl:=zlm 3 1 l
 unfold qiq seqT
 rw[show(0:Int)=((0:Nat):Int) from rfl,z9v (fun x=>(x.k:Int)==0|| !zga x) zz l (fun i hi=> ?_) ?_ l.length 0 fuel (by omega) hf,List.drop_zero]
 ·cases l.any (fun x=>(x.k:Int)==0|| !zga x) with
  |true=>rfl
  | false=>
   show zar (zqe fuel ((3:Nat):Int) ((1:Nat):Int) l) _=_
   rw[qaa 3 1 l hl hf,bindE_some]
   show zar (zhz ((3:Nat):Int) _ _) _=_
   rw[zzz 3 _ _ (by omega)];rfl
 ·exact zfy (by simp) rfl
 ·skip
  have hx:=z4x (List.getElem_mem hi)
  refine zgp (by simp;omega) (zae (by omega) (zap fun x1 e1=> ?_))
  rw[zjs hi] at e1
  subst e1
  cases h1:(l[i].k:Int)==0 with
  |true=>exact zgp rfl (by simp)
  | false=>
   refine zfy rfl (zae (by omega) (zap fun x2 e2=> ?_))
   subst e2
   cases h2:zga l[i] with
   |true=>exact zfy rfl (zae (by omega) (by simp))
   |false=>exact zgp rfl (by simp)
theorem or_eqF {fuel:Nat} (l:List Tr)(hl:(zda l).length≤2^40)(hf:l.length<fuel):F_or fuel l=some (orT l):=by
 have hlen:=zci l
 have hfl:=zlm 4 0 l
 unfold F_or orT
 rw[show(0:Int)=((0:Nat):Int) from rfl,z9v (fun x=> !zsa x) zz l (fun i hi=> ?_) ?_ l.length 0 fuel (by omega) hf,List.drop_zero]
 ·cases l.any (fun x=> !zsa x) with
  |true=>rfl
  | false=>
   show zar (zqe fuel ((4:Nat):Int) ((0:Nat):Int) l) _=_
   rw[qaa 4 0 l hl hf,bindE_some]
   show zar (zhz ((4:Nat):Int) _ _) _=_
   rw[zzz 4 _ _ (by omega)];rfl
 ·exact zfy (by simp) rfl
 ·skip
  have hx:=z4x (List.getElem_mem hi)
  refine zgp (by simp;omega) (zae (by omega) (zap fun x1 e1=> ?_))
  rw[zjs hi] at e1
  subst e1
  refine zbq (zsa l[i]) (qdu _ (by omega)) ?_
  cases h2:zsa l[i] with
  |true=>exact zfy rfl (zae (by omega) (by simp))
  |false=>exact zgp rfl (by simp)
theorem k_seq (l:List Tr)(h:(zda l).length≤2^40):Pure (ITP Tryd.prog) Tryd.prog 38 [.list l.length (Enc.cellsL l) .none] (.agg (Enc.cells (seqT l))):=seq_sh (l.length+1) l _ (seq_eqF l h (by omega))
theorem k_or (l:List Tr)(h:(zda l).length≤2^40):Pure (ITP Tryd.prog) Tryd.prog 40 [.list l.length (Enc.cellsL l) .none] (.agg (Enc.cells (orT l))):=or_sh (l.length+1) l _ (or_eqF l h (by omega))
theorem z7d (t:Tr)(h:(pre t).length<2^60):zne t=some (zra t):=by
 unfold zne zra
 rw[zlr _ (by rw[qbl];omega)];rfl
theorem qcx (t:Tr)(h:(pre t).length<2^60):Pure (ITP Tryd.prog) Tryd.prog 75 [.agg (Enc.cells t)] (.agg (Enc.cells (zra t))):=z7o t _ (z7d t h)
theorem z9i (t:Tr)(lo hi:Int)(h:(pre t).length<2^40):zwg t lo hi=some (zvg t lo hi):=by
 have e1:=qdu t (by omega)
 have e2:=zve lo hi
 have e3:zeb (Tr.mk 5 0#256 lo hi [t])=some (zex (Tr.mk 5 0#256 lo hi [t])):=zlr _ (by rw[qbl];omega)
 unfold zwg zvg
 simp only[e1,e2,e3,bindE_some]
 have hE:z5r=Tr.mk 1 0#256 0 0 []:=rfl
 rw[←hE]
 simp only[zem h,zbi]
 generalize zsa t=G
 generalize zkv lo hi=B
 generalize zex (Tr.mk 5 0#256 lo hi [t])=X
 generalize (lo==0)=a
 generalize (lo==1)=b
 generalize (hi==0)=c
 generalize (hi==1)=d
 generalize ((t.k:Int)==0)=e
 generalize ((t.k:Int)==1)=f
 generalize decide (lo>0)=p
 generalize zz=N
 generalize z5r=M
 cases a<;>cases b<;>cases c<;>cases d<;>cases e<;>cases f<;>cases p<;>cases G<;>cases B<;>rfl
theorem k_times (t:Tr)(lo hi:Int)(h:(pre t).length<2^40):Pure (ITP Tryd.prog) Tryd.prog 73 [.agg (Enc.cells t),.raw (.int .i64 lo),.raw (.int .i64 hi)] (.agg (Enc.cells (zvg t lo hi))):=qia t lo hi _ (z9i t lo hi h)
theorem rxof_eq (s:BS):z5j s=some (ofT s):=by
 unfold z5j ofT
 by_cases h:s=0#256<;>simp[h]
theorem k_of (s:BS):Pure (ITP Tryd.prog) Tryd.prog 76 [.agg (Enc.cells s)] (.agg (Enc.cells (ofT s))):=rxof_sh s _ (rxof_eq s)
end Go.Ab
set_option maxRecDepth 100000
set_option maxHeartbeats 4000000
namespace Go.Ab
open Go Go.RowKit Go.Fwd Go.Proofs
def zkp (s:BS):Option Int:=
 (zdr (τ:=Int) (zbi (els s) (fun x1=>(zdr (zek (β:=Int) (fun s1 w1=>(chk (-9223372036854775808≤(s1+1)∧(s1+1)<9223372036854775808) (some (Sum.inl ((s1+1)))))) x1 (0)) (fun s1=>(some (Sum.inl (s1))))))) (fun j1=>(some j1)))
theorem ent14:Ent Tryd.prog 14:=enters_of Tryd.func14 (by kernel_rfl) rfl
theorem z5o (s:BS)(r:Int)(h:zkp s=some r):Pure (ITP Tryd.prog) Tryd.prog 14 [.A (s:BS)] (.raw (.int .i64 r)):=by
 unfold zkp at h
 refine zby 9 mix Tryd.func14 ent14 ?_
 refine zi (zc ?_)
 refine zcb (a:= .ptr 0 0) (σ'':=(.B [(27,(Enc.cells (s:BS)))])) ?_
 refine w_o (a:= .i 0) ?_
 refine zi (zc ?_)
 refine zcb (a:= .ptr 1 0) (σ'':=(.B [(27,(Enc.cells (s:BS))),(3,[.i 0])])) ?_
 refine zco 1 (.B [(27,(Enc.cells (s:BS))),(3,[.i 0])]) ?_
 refine zbh h (bz 0 10 1015) (fun j1=>[]) (fun j1=>(.B [(27,(Enc.cells (s:BS))),(3,[.i j1])])) ?_ ?_
 intro or1 h hr1
 refine zx [.v (.A (s:BS))] ?_
 obtain⟨x1,hx1,h⟩:=zt h
 refine zdb (args':=[.A (s:BS)]) (r:= .iter (List.map qem x1)) (by rw[←hx1];exact(k_all s)) ?_
 refine zag ?_
 refine zlt h qem (fun s1=>(.B [(27,(Enc.cells (s:BS))),(3,[.i s1])])) rfl (fun _=>rfl) rfl rfl ?_ ?_
 intro s1 w1 p1 h
 refine zbj (by dsimp only[zlh,List.zip,List.zipWith,List.foldl,List.set,Array.toList,qem]) rfl ?_
 refine zag ?_
 refine zc (k0:=0) (id:=3) ?_
 refine w_o (a:= .i s1) ?_
 obtain⟨g1,h⟩:=zp h
 refine zio g1 ?_
 refine zco 1 (.B [(27,(Enc.cells (s:BS))),(3,[.i (s1+1)])]) ?_
 exact zfi (p:=p1) ((s1+1)) h (zcw (zav (zal _ _ (Enc.clo _)) (zav (by kernel_rfl) rfl))) (by kernel_rfl)
 intro s1 h
 refine zg (o:=or1) (s1) h ?_
 exact zcs (bl 10 8)
 intro j1 h
 refine zet ?_
 refine zx [.v (.i j1),.m _] ?_
 exact zjd h
def zqm (fuel:Nat)(s:(List UInt8)):Option (BS×Int×Int×Int):=
 (zbi (zqf s) (fun x1=>(bif x1.2 then(some (x1.1,0,2,0)) else(zar (zhf s zjf) (fun x2=>(chk (0≤x2.1∧x2.1<256) (zar (zgt fuel ([(z1o x2.1)]:List UInt8)) (fun x3=>(some (x3,x2.1,x2.2.1,x2.2.2))))))))))
theorem ent13:Ent Tryd.prog 13:=enters_of Tryd.func13 (by kernel_rfl) rfl
theorem z9r (fuel:Nat)(s:(List UInt8))(r:(BS×Int×Int×Int))(h:zqm fuel s=some r):Pure (ITP Tryd.prog) Tryd.prog 13 [.raw (.string (bs s))] (.tup [.A (r.1:BS),.raw (.int .u8 r.2.1),.raw (.int .i64 r.2.2.1),.raw (.int .i64 r.2.2.2)]):=by
 unfold zqm at h
 refine zby 27 mix Tryd.func13 ent13 ?_
 refine zi (zc ?_)
 refine zcb (a:= .ptr 0 0) (σ'':=(.B [(27,(Enc.cells (0#256:BS)))])) ?_
 refine w_r [.v (.u 0),.v (.i 0),.v (.i 0)] ?_
 refine zi ?_
 refine zx [.m _] ?_
 obtain⟨x1,hx1,h⟩:=zt h
 refine zdb (args':=[.s s]) (r:= .tup [.A (x1.1:BS),.b x1.2]) (by rw[←hx1];exact(qbc s)) ?_
 refine w_r [.m _,.x _,.x _] ?_
 refine zcb (a:= .ptr 1 0) (σ'':=(.B [(27,(Enc.cells (0#256:BS))),(27,(Enc.cells (0#256:BS)))])) ?_
 refine zco 4 (.B [(27,(Enc.cells (0#256:BS))),(27,(Enc.cells (x1.1:BS)))]) ?_
 refine zac ?_
 refine zx [.m _] ?_
 refine zcd h (fun hc1 h=> ?_) (fun hc1 h=> ?_)
 refine zx [.v (.A (x1.1:BS))] ?_
 refine zco 4 (.B [(27,(Enc.cells (x1.1:BS))),(27,(Enc.cells (x1.1:BS)))]) ?_
 refine w_r [.v (.u 0),.v (.i 2),.v (.i 0)] ?_
 exact zaq (fun(r:(BS×Int×Int×Int))=> .tup [.A (r.1:BS),.u r.2.1,.i r.2.2.1,.i r.2.2.2]) h (.tup [.A (x1.1:BS),.u 0,.i 2,.i 0])
 refine zx [.m _] ?_
 refine zdb (r:= .A (zjf:BS)) k_inner ?_
 obtain⟨x2,hx2,h⟩:=zv h
 refine zdb (zsx s zjf x2 hx2) ?_
 refine w_r [.m _,.x _,.x _,.x _,.m _] ?_
 refine w_r [.m _,.m _] ?_
 refine zx [.m _] ?_
 obtain⟨g1,h⟩:=zp h
 refine w_o (a:= .F (([(z1o x2.1)]:List UInt8):List UInt8)) (h:=zbb (zhr (α:=UInt8) (l:=([(z1o x2.1)]:List UInt8)) (cs:=[.u x2.1]) rfl (by show List.map _ _=_;simp only[List.map_cons,List.map_nil,u8c g1]))) ?_
 obtain⟨x3,hx3,h⟩:=zv h
 refine zdb (zjl fuel ([(z1o x2.1)]:List UInt8) x3 hx3) ?_
 refine w_r [.m _,.m _,.m _] ?_
 refine zco 4 (.B [(27,(Enc.cells (x3:BS))),(27,(Enc.cells (x1.1:BS)))]) ?_
 refine w_r [.m _,.m _,.m _] ?_
 exact zaq (fun(r:(BS×Int×Int×Int))=> .tup [.A (r.1:BS),.u r.2.1,.i r.2.2.1,.i r.2.2.2]) h (.tup [.A (x3:BS),.u x2.1,.i x2.2.1,.i x2.2.2])
def zec (fuel:Nat)(s:(List UInt8)):Option (BS×Int×Int):=
 (zbi (Lib.hasPrefix s ([91]:List UInt8)) (fun x1=>(bif (!x1) then(some (0#256,0,94)) else(chk (0≤(1:Int)∧(1:Int)≤(List.length s:Int)∧(List.length s:Int)≤(List.length s:Int)) (zbi (sub s (1:Int) (List.length s:Int)) (fun x2=>(zbi (Lib.hasPrefix x2 ([94]:List UInt8)) (fun x3=>(zdr (τ:=Int) (bif x3 then(some (Sum.inl (2))) else(some (Sum.inl (1)))) (fun j1=>(zdr (τ:=Int×BS) (zbo (β:=Int×Bool×BS) (fun s1=>(zdr (τ:=Unit) (bif s1.2.1 then(some (Sum.inl ())) else(bif (decide (s1.1<(List.length s:Int))) then(chk (0≤s1.1∧s1.1<(List.length s:Int)) (zbi (ix s s1.1) (fun x4=>(bif ((((x4).toNat:Nat):Int) !=93) then(some (Sum.inl ())) else(some (Sum.inr (Sum.inr (Sum.inl (s1.1,s1.2.2))))))))) else(some (Sum.inr (Sum.inr (Sum.inl (s1.1,s1.2.2))))))) (fun j3=>(chk (0≤s1.1∧s1.1≤(List.length s:Int)∧(List.length s:Int)≤(List.length s:Int)) (zbi (sub s s1.1 (List.length s:Int)) (fun x5=>(zar (zqm fuel x5) (fun x6=>(bif (x6.2.2.2 !=0) then(some (Sum.inr (Sum.inr (0#256,s1.1,94)))) else(chk (-9223372036854775808≤(s1.1+x6.2.2.1)∧(s1.1+x6.2.2.1)<9223372036854775808) (zdr (τ:=Int×BS) (bif (decide ((s1.1+x6.2.2.1)<(List.length s:Int))) then(chk (0≤(s1.1+x6.2.2.1)∧(s1.1+x6.2.2.1)<(List.length s:Int)) (zbi (ix s (s1.1+x6.2.2.1)) (fun x7=>(bif ((((x7).toNat:Nat):Int)==45) then(chk (-9223372036854775808≤((s1.1+x6.2.2.1)+1)∧((s1.1+x6.2.2.1)+1)<9223372036854775808) (chk (0≤((s1.1+x6.2.2.1)+1)∧((s1.1+x6.2.2.1)+1)≤(List.length s:Int)∧(List.length s:Int)≤(List.length s:Int)) (zbi (sub s ((s1.1+x6.2.2.1)+1) (List.length s:Int)) (fun x8=>(zar (zqm fuel x8) (fun x9=>(bif (x9.2.2.2 !=0) then(chk (-9223372036854775808≤((s1.1+x6.2.2.1)+1)∧((s1.1+x6.2.2.1)+1)<9223372036854775808) (some (Sum.inr (Sum.inr (Sum.inr (0#256,((s1.1+x6.2.2.1)+1),94)))))) else(zar (zkp x6.1) (fun x10=>(bif (x10 !=1) then(some (Sum.inr (Sum.inr (Sum.inr (0#256,(s1.1+x6.2.2.1),94))))) else(zar (zkp x9.1) (fun x11=>(bif (x11 !=1) then(some (Sum.inr (Sum.inr (Sum.inr (0#256,(s1.1+x6.2.2.1),94))))) else(bif (decide (x6.2.1>x9.2.1)) then(some (Sum.inr (Sum.inr (Sum.inr (0#256,(s1.1+x6.2.2.1),94))))) else(chk (-9223372036854775808≤(1+x9.2.2.1)∧(1+x9.2.2.1)<9223372036854775808) (chk (-9223372036854775808≤((s1.1+x6.2.2.1)+(1+x9.2.2.1))∧((s1.1+x6.2.2.1)+(1+x9.2.2.1))<9223372036854775808) (zar (zdm fuel x6.2.1 x9.2.1) (fun x12=>(some (Sum.inl (((s1.1+x6.2.2.1)+(1+x9.2.2.1)),x12))))))))))))))))))))) else(some (Sum.inl ((s1.1+x6.2.2.1),x6.1))))))) else(some (Sum.inl ((s1.1+x6.2.2.1),x6.1)))) (fun j4=>(zbi (s1.2.2|||j4.2) (fun x13=>(some (Sum.inl (j4.1,false,x13))))))))))))))))) fuel (j1,true,0#256)) (fun j2=>(bif (j2.1==(List.length s:Int)) then(some (0#256,j2.1,94)) else(zdr (τ:=BS) (bif x3 then(zbi (~~~j2.2) (fun x14=>(some (Sum.inl (x14))))) else(some (Sum.inl (j2.2)))) (fun j5=>(bif (decide (j5=(0#256))) then(some (0#256,0,94)) else(chk (-9223372036854775808≤(j2.1+1)∧(j2.1+1)<9223372036854775808) (some (j5,(j2.1+1),0)))))))))))))))))))
theorem ent7:Ent Tryd.prog 7:=enters_of Tryd.func7 (by kernel_rfl) rfl
theorem zpc (fuel:Nat)(s:(List UInt8))(r:(BS×Int×Int))(h:zec fuel s=some r):Pure (ITP Tryd.prog) Tryd.prog 7 [.raw (.string (bs s))] (.tup [.A (r.1:BS),.raw (.int .i64 r.2.1),.raw (.int .i64 r.2.2)]):=by
 unfold zec at h
 refine zby 121 mix Tryd.func7 ent7 ?_
 refine zi (zc ?_)
 refine zcb (a:= .ptr 0 0) (σ'':=(.B [(27,(Enc.cells (0#256:BS)))])) ?_
 refine w_r [.v (.i 0),.v (.i 0)] ?_
 refine zi ?_
 refine zx [.m _] ?_
 obtain⟨x1,hx1,h⟩:=zt h
 refine zdb (args':=[.s s,.s ([91]:List UInt8)]) (r:= .b x1) (by rw[←hx1];exact(zsc s ([91]:List UInt8))) ?_
 refine w_o (a:= .b (!x1)) ?_
 refine zcd h (fun hc1 h=> ?_) (fun hc1 h=> ?_)
 refine zx [.v (.A (0#256:BS))] ?_
 refine zco 4 (.B [(27,(Enc.cells (0#256:BS)))]) ?_
 refine w_r [.v (.i 0),.v (.i 94)] ?_
 exact zaq (fun(r:(BS×Int×Int))=> .tup [.A (r.1:BS),.i r.2.1,.i r.2.2]) h (.tup [.A (0#256:BS),.i 0,.i 94])
 refine zx [.v (.i 1)] ?_
 refine zx [.m _] ?_
 obtain⟨g1,h⟩:=zp h
 obtain⟨x2,hx2,h⟩:=zt h
 refine w_o (a:= .s x2) (h:=zbb (by rw[←hx2];exact(zmg (l:=s) g1 rfl rfl rfl rfl))) ?_
 obtain⟨x3,hx3,h⟩:=zt h
 refine zdb (args':=[.s x2,.s ([94]:List UInt8)]) (r:= .b x3) (by rw[←hx3];exact(zsc x2 ([94]:List UInt8))) ?_
 refine zac ?_
 refine zbh h (bz 0 122 5316911983139663491615228241121378234) (fun j1=>[(5,.i j1)]) (fun j1=>(.B [(27,(Enc.cells (0#256:BS)))])) ?_ ?_
 intro or1 h hr1
 refine zx [.m _] ?_
 refine zcd h (fun hc2 h=> ?_) (fun hc2 h=> ?_)
 refine zc (k0:=0) (id:=6) ?_
 refine w_o (a:= .i 2) ?_
 refine zg (o:=or1) (2) h ?_
 exact zcs (bl 122 101)
 refine zg (o:=or1) (1) h ?_
 exact zcs (bl 122 101)
 intro j1 h
 refine zet ?_
 refine zi (zc ?_)
 refine zcb (a:= .ptr 1 0) (σ'':=(.B [(27,(Enc.cells (0#256:BS))),(27,(Enc.cells (0#256:BS)))])) ?_
 refine zbh h (bz 0 106 81129638414606681695788971720504) (fun j2=>[(5,.i j2.1)]) (fun j2=>(.B [(27,(Enc.cells (0#256:BS))),(27,(Enc.cells (j2.2:BS)))])) ?_ ?_
 intro or2 h hr2
 refine zx [.v (.b true)] ?_
 refine zag ?_
 refine zcx h (bz 0 106 81129638414606681695788971720504) (fun s1=>[(5,.i s1.1),(8,.b s1.2.1)]) (fun s1=>(.B [(27,(Enc.cells (0#256:BS))),(27,(Enc.cells (s1.2.2:BS)))])) ?_ ?_
 exact zcs (bl 122 5316830853501248884933532452149658087)
 intro s1 p1 h
 refine zet ?_
 refine zbh h (bz 0 38 274844352768) (fun j3=>[]) (fun j3=>(.B [(27,(Enc.cells (0#256:BS))),(27,(Enc.cells (s1.2.2:BS)))])) ?_ ?_
 intro or3 h hr3
 refine zx [.m _] ?_
 refine zaa h (fun hc3 h=> ?_) (fun hc3 h=> ?_)
 refine zak hc3 ?_
 refine w_r [.p,.p,.p,.p,.p] ?_
 refine w_r [.p,.p,.p,.p,.p] ?_
 refine w_r [.v (.b true)] ?_
 refine zbf rfl ?_
 refine zg (o:=or3) () h ?_
 exact zcs (bl 122 5316911983139663491615227966277025535)
 refine zak hc3 ?_
 refine w_r [.m _,.m _] ?_
 refine zan rfl rfl ?_
 refine w_o (a:= .i (List.length s:Int)) (h:=zbb (zdv rfl rfl rfl)) ?_
 refine zan rfl rfl ?_
 refine w_o (a:= .b (decide (s1.1<(List.length s:Int)))) ?_
 refine zan rfl rfl ?_
 refine zaa h (fun hc4 h=> ?_) (fun hc4 h=> ?_)
 refine zak hc4 ?_
 refine w_r [.m _,.m _] ?_
 refine zan rfl rfl ?_
 obtain⟨g2,h⟩:=zp h
 obtain⟨x4,hx4,h⟩:=zt h
 refine w_o (a:= .u (((x4).toNat:Nat):Int)) (h:=zbb (by rw[←hx4];exact(zdd (l:=s) (n:=s1.1) g2 rfl rfl rfl rfl))) ?_
 refine w_r [.v (.b ((((x4).toNat:Nat):Int) !=93)),.v (.b ((((x4).toNat:Nat):Int) !=93)),.v (.b ((((x4).toNat:Nat):Int) !=93))] ?_
 refine zcd h (fun hc5 h=> ?_) (fun hc5 h=> ?_)
 refine zg (o:=or3) () h ?_
 exact zcs (bl 122 5316911983139663491615227966277025535)
 replace h:=zq h hr3
 refine zaj h (fun h=> ?_)
 refine zg (o:=or2) (s1.1,s1.2.2) h ?_
 exact zcs (bl 122 5316830853501248884933532452149657831)
 refine zak hc4 ?_
 refine w_r [.p,.p,.p,.p,.v (.b false)] ?_
 refine w_r [.v (.b false)] ?_
 refine zax rfl ?_
 replace h:=zq h hr3
 refine zaj h (fun h=> ?_)
 refine zg (o:=or2) (s1.1,s1.2.2) h ?_
 exact zcs (bl 122 5316830853501248884933532452149657831)
 intro j3 h
 refine zet ?_
 refine zi ?_
 refine zag ?_
 refine zx [.m _,.m _] ?_
 obtain⟨g3,h⟩:=zp h
 obtain⟨x5,hx5,h⟩:=zt h
 refine w_o (a:= .s x5) (h:=zbb (by rw[←hx5];exact(zmg (l:=s) g3 rfl rfl rfl rfl))) ?_
 obtain⟨x6,hx6,h⟩:=zv h
 refine zdb (z9r fuel x5 x6 hx6) ?_
 refine w_r [.m _,.x _,.x _,.x _,.x _] ?_
 refine zcb (a:= .ptr 2 0) (σ'':=(.B [(27,(Enc.cells (0#256:BS))),(27,(Enc.cells (s1.2.2:BS))),(27,(Enc.cells (0#256:BS)))])) ?_
 refine zco 4 (.B [(27,(Enc.cells (0#256:BS))),(27,(Enc.cells (s1.2.2:BS))),(27,(Enc.cells (x6.1:BS)))]) ?_
 refine w_r [.m _,.m _,.m _] ?_
 refine zi ?_
 refine zx [.m _,.v (.b (x6.2.2.2 !=0))] ?_
 refine zcd h (fun hc6 h=> ?_) (fun hc6 h=> ?_)
 refine zx [.v (.A (0#256:BS)),.m _] ?_
 refine zco 4 (.B [(27,(Enc.cells (0#256:BS))),(27,(Enc.cells (s1.2.2:BS))),(27,(Enc.cells (x6.1:BS)))]) ?_
 refine w_r [.m _,.v (.i 94)] ?_
 refine zaj h (fun h=> ?_)
 replace h:=zq h hr2
 exact zaq (fun(r:(BS×Int×Int))=> .tup [.A (r.1:BS),.i r.2.1,.i r.2.2]) h (.tup [.A (0#256:BS),.i s1.1,.i 94])
 refine zx [.m _,.m _] ?_
 obtain⟨g4,h⟩:=zp h
 refine zio g4 ?_
 refine zac ?_
 refine zbh h (bz 0 103 10141204801825833522848887602232) (fun j4=>[(5,.i j4.1)]) (fun j4=>(.B [(27,(Enc.cells (0#256:BS))),(27,(Enc.cells (s1.2.2:BS))),(27,(Enc.cells (j4.2:BS)))])) ?_ ?_
 intro or4 h hr4
 refine zx [.m _,.m _] ?_
 refine w_o (a:= .i (List.length s:Int)) (h:=zbb (zdv rfl rfl rfl)) ?_
 refine w_o (a:= .b (decide ((s1.1+x6.2.2.1)<(List.length s:Int)))) ?_
 refine zaa h (fun hc7 h=> ?_) (fun hc7 h=> ?_)
 refine zak hc7 ?_
 refine w_r [.m _,.m _] ?_
 refine zan rfl rfl ?_
 obtain⟨g5,h⟩:=zp h
 obtain⟨x7,hx7,h⟩:=zt h
 refine w_o (a:= .u (((x7).toNat:Nat):Int)) (h:=zbb (by rw[←hx7];exact(zdd (l:=s) (n:=(s1.1+x6.2.2.1)) g5 rfl rfl rfl rfl))) ?_
 refine w_r [.v (.b ((((x7).toNat:Nat):Int)==45)),.v (.b ((((x7).toNat:Nat):Int)==45))] ?_
 refine zcd h (fun hc8 h=> ?_) (fun hc8 h=> ?_)
 refine zx [.m _,.m _] ?_
 obtain⟨g6,h⟩:=zp h
 refine zio g6 ?_
 obtain⟨g7,h⟩:=zp h
 obtain⟨x8,hx8,h⟩:=zt h
 refine w_o (a:= .s x8) (h:=zbb (by rw[←hx8];exact(zmg (l:=s) g7 rfl rfl rfl rfl))) ?_
 obtain⟨x9,hx9,h⟩:=zv h
 refine zdb (z9r fuel x8 x9 hx9) ?_
 refine w_r [.m _,.x _,.x _,.x _,.x _] ?_
 refine zcb (a:= .ptr 3 0) (σ'':=(.B [(27,(Enc.cells (0#256:BS))),(27,(Enc.cells (s1.2.2:BS))),(27,(Enc.cells (x6.1:BS))),(27,(Enc.cells (0#256:BS)))])) ?_
 refine zco 4 (.B [(27,(Enc.cells (0#256:BS))),(27,(Enc.cells (s1.2.2:BS))),(27,(Enc.cells (x6.1:BS))),(27,(Enc.cells (x9.1:BS)))]) ?_
 refine w_r [.m _,.m _,.m _] ?_
 refine zi ?_
 refine zag ?_
 refine zx [.m _,.v (.b (x9.2.2.2 !=0)),.m _] ?_
 refine zcd h (fun hc9 h=> ?_) (fun hc9 h=> ?_)
 refine zx [.v (.A (0#256:BS)),.m _] ?_
 obtain⟨g8,h⟩:=zp h
 refine zio g8 ?_
 refine zco 4 (.B [(27,(Enc.cells (0#256:BS))),(27,(Enc.cells (s1.2.2:BS))),(27,(Enc.cells (x6.1:BS))),(27,(Enc.cells (x9.1:BS)))]) ?_
 refine w_r [.m _,.v (.i 94)] ?_
 replace h:=zq h hr4
 refine zaj h (fun h=> ?_)
 replace h:=zq h hr2
 exact zaq (fun(r:(BS×Int×Int))=> .tup [.A (r.1:BS),.i r.2.1,.i r.2.2]) h (.tup [.A (0#256:BS),.i ((s1.1+x6.2.2.1)+1),.i 94])
 refine zx [.v (.A (x6.1:BS))] ?_
 obtain⟨x10,hx10,h⟩:=zv h
 refine zdb (z5o x6.1 x10 hx10) ?_
 refine w_o (a:= .b (x10 !=1)) ?_
 refine zaa h (fun hc10 h=> ?_) (fun hc10 h=> ?_)
 refine zak hc10 ?_
 refine w_r [.p,.p,.p,.v (.b true),.m _] ?_
 refine w_r [.p,.p,.p,.v (.b true),.m _] ?_
 refine zbf rfl ?_
 refine zx [.v (.A (0#256:BS)),.m _] ?_
 refine zco 4 (.B [(27,(Enc.cells (0#256:BS))),(27,(Enc.cells (s1.2.2:BS))),(27,(Enc.cells (x6.1:BS))),(27,(Enc.cells (x9.1:BS)))]) ?_
 refine w_r [.m _,.v (.i 94)] ?_
 replace h:=zq h hr4
 refine zaj h (fun h=> ?_)
 replace h:=zq h hr2
 exact zaq (fun(r:(BS×Int×Int))=> .tup [.A (r.1:BS),.i r.2.1,.i r.2.2]) h (.tup [.A (0#256:BS),.i (s1.1+x6.2.2.1),.i 94])
 refine zak hc10 ?_
 refine zan rfl rfl ?_
 refine w_o (a:= .A (x9.1:BS)) ?_
 refine zan rfl rfl ?_
 obtain⟨x11,hx11,h⟩:=zv h
 refine zdb (z5o x9.1 x11 hx11) ?_
 refine w_r [.v (.b (x11 !=1)),.v (.b (x11 !=1))] ?_
 refine zaa h (fun hc11 h=> ?_) (fun hc11 h=> ?_)
 refine zak hc11 ?_
 refine w_r [.p,.p,.p,.v (.b true),.m _] ?_
 refine zbf rfl ?_
 refine zx [.v (.A (0#256:BS)),.m _] ?_
 refine zco 4 (.B [(27,(Enc.cells (0#256:BS))),(27,(Enc.cells (s1.2.2:BS))),(27,(Enc.cells (x6.1:BS))),(27,(Enc.cells (x9.1:BS)))]) ?_
 refine w_r [.m _,.v (.i 94)] ?_
 replace h:=zq h hr4
 refine zaj h (fun h=> ?_)
 replace h:=zq h hr2
 exact zaq (fun(r:(BS×Int×Int))=> .tup [.A (r.1:BS),.i r.2.1,.i r.2.2]) h (.tup [.A (0#256:BS),.i (s1.1+x6.2.2.1),.i 94])
 refine zak hc11 ?_
 refine w_r [.m _,.m _,.v (.b (decide (x6.2.1>x9.2.1))),.v (.b (decide (x6.2.1>x9.2.1))),.m _] ?_
 refine zcd h (fun hc12 h=> ?_) (fun hc12 h=> ?_)
 refine zx [.v (.A (0#256:BS)),.m _] ?_
 refine zco 4 (.B [(27,(Enc.cells (0#256:BS))),(27,(Enc.cells (s1.2.2:BS))),(27,(Enc.cells (x6.1:BS))),(27,(Enc.cells (x9.1:BS)))]) ?_
 refine w_r [.m _,.v (.i 94)] ?_
 replace h:=zq h hr4
 refine zaj h (fun h=> ?_)
 replace h:=zq h hr2
 exact zaq (fun(r:(BS×Int×Int))=> .tup [.A (r.1:BS),.i r.2.1,.i r.2.2]) h (.tup [.A (0#256:BS),.i (s1.1+x6.2.2.1),.i 94])
 refine zx [.m _,.m _] ?_
 obtain⟨g9,h⟩:=zp h
 refine zio g9 ?_
 obtain⟨g10,h⟩:=zp h
 refine zio g10 ?_
 refine zac ?_
 refine zc (k0:=0) (id:=22) ?_
 refine w_r [.m _,.m _] ?_
 obtain⟨x12,hx12,h⟩:=zv h
 refine zdb (zjx fuel x6.2.1 x9.2.1 x12 hx12) ?_
 refine zco 4 (.B [(27,(Enc.cells (0#256:BS))),(27,(Enc.cells (s1.2.2:BS))),(27,(Enc.cells (x12:BS))),(27,(Enc.cells (x9.1:BS)))]) ?_
 refine zg (o:=or4) (((s1.1+x6.2.2.1)+(1+x9.2.2.1)),x12) h ?_
 exact zfa (bl 122 5316901841934861665781705392233776103) 3 (by kernel_rfl) (Nat.le_of_ble_eq_true rfl) (zcw (zav (zal _ _ (Enc.clo _)) (zav (zal _ _ (Enc.clo _)) (zav (zal _ _ (Enc.clo _)) rfl)))) (by dsimp only[zbg,zbz,List.foldl,List.set,bz,bzc,Nat.reduceMod,Nat.reduceDiv,Nat.reduceBEq,Nat.reduceAdd];exact(za rfl (za rfl (za (by decide) (za rfl (za rfl (za rfl (za rfl (za (by decide) (za rfl (za (by decide) (by kernel_rfl)))))))))))) (by kernel_rfl)
 refine zg (o:=or4) ((s1.1+x6.2.2.1),x6.1) h ?_
 exact zcs (bl 122 5316901841934861665781705392233776103)
 refine zak hc7 ?_
 refine w_r [.p,.p,.p,.p,.v (.b false)] ?_
 refine zax rfl ?_
 refine zg (o:=or4) ((s1.1+x6.2.2.1),x6.1) h ?_
 exact zcs (bl 122 5316901841934861665781705392233776103)
 intro j4 h
 refine zet ?_
 refine zc (k0:=0) (id:=23) ?_
 refine w_r [.v (.A (s1.2.2:BS)),.v (.A (j4.2:BS))] ?_
 obtain⟨x13,hx13,h⟩:=zt h
 refine zdb (args':=[.A (s1.2.2:BS),.A (j4.2:BS)]) (r:= .A (x13:BS)) (by rw[←hx13];exact(qgk s1.2.2 j4.2)) ?_
 refine zco 4 (.B [(27,(Enc.cells (0#256:BS))),(27,(Enc.cells (x13:BS))),(27,(Enc.cells (j4.2:BS)))]) ?_
 refine zc (k0:=0) (id:=10) ?_
 refine w_o (a:= .b false) ?_
 refine zbs (p:=p1) (j4.1,false,x13) h ?_
 exact zfa (bl 122 5316830853501248884933532452149658087) 2 (by kernel_rfl) (Nat.le_of_ble_eq_true rfl) (zcw (zav (zal _ _ (Enc.clo _)) (zav (zal _ _ (Enc.clo _)) rfl))) (by dsimp only[zbg,zbz,List.foldl,List.set,bz,bzc,Nat.reduceMod,Nat.reduceDiv,Nat.reduceBEq,Nat.reduceAdd];exact(za rfl (za rfl (za (by decide) (za rfl (za rfl (za rfl (za rfl (za (by decide) (by kernel_rfl)))))))))) (by kernel_rfl)
 intro j2 h
 refine zet ?_
 refine zi ?_
 refine zx [.m _,.m _] ?_
 refine w_o (a:= .i (List.length s:Int)) (h:=zbb (zdv rfl rfl rfl)) ?_
 refine w_o (a:= .b (j2.1==(List.length s:Int))) ?_
 refine zcd h (fun hc13 h=> ?_) (fun hc13 h=> ?_)
 refine zx [.v (.A (0#256:BS)),.m _] ?_
 refine zco 4 (.B [(27,(Enc.cells (0#256:BS))),(27,(Enc.cells (j2.2:BS)))]) ?_
 refine w_r [.m _,.v (.i 94)] ?_
 exact zaq (fun(r:(BS×Int×Int))=> .tup [.A (r.1:BS),.i r.2.1,.i r.2.2]) h (.tup [.A (0#256:BS),.i j2.1,.i 94])
 refine zbh h (bz 0 115 37563022585962893625150309381701697) (fun j5=>[]) (fun j5=>(.B [(27,(Enc.cells (0#256:BS))),(27,(Enc.cells (j5:BS)))])) ?_ ?_
 intro or5 h hr5
 refine zx [.m _] ?_
 refine zcd h (fun hc14 h=> ?_) (fun hc14 h=> ?_)
 refine zc (k0:=0) (id:=27) ?_
 refine w_o (a:= .A (j2.2:BS)) ?_
 obtain⟨x14,hx14,h⟩:=zt h
 refine zdb (args':=[.A (j2.2:BS)]) (r:= .A (x14:BS)) (by rw[←hx14];exact(k_not j2.2)) ?_
 refine zco 4 (.B [(27,(Enc.cells (0#256:BS))),(27,(Enc.cells (x14:BS)))]) ?_
 refine zg (o:=or5) (x14) h ?_
 exact zcs (bl 122 5279348960553700597990077931739676606)
 refine zg (o:=or5) (j2.2) h ?_
 exact zcs (bl 122 5279348960553700597990077931739676606)
 intro j5 h
 refine zet ?_
 refine zi ?_
 refine zx [.v (.A (j5:BS)),.v (.A (0#256:BS))] ?_
 refine zua (.b (decide (j5=(0#256)))) rfl rfl rfl (zni j5 (0#256) rfl rfl rfl) (by dsimp only[zy,List.set]) ?_
 refine zcd h (fun hc15 h=> ?_) (fun hc15 h=> ?_)
 refine zx [.v (.A (0#256:BS))] ?_
 refine zco 4 (.B [(27,(Enc.cells (0#256:BS))),(27,(Enc.cells (j5:BS)))]) ?_
 refine w_r [.v (.i 0),.v (.i 94)] ?_
 exact zaq (fun(r:(BS×Int×Int))=> .tup [.A (r.1:BS),.i r.2.1,.i r.2.2]) h (.tup [.A (0#256:BS),.i 0,.i 94])
 refine zx [.v (.A (j5:BS)),.m _] ?_
 obtain⟨g11,h⟩:=zp h
 refine zio g11 ?_
 refine zco 4 (.B [(27,(Enc.cells (j5:BS))),(27,(Enc.cells (j5:BS)))]) ?_
 refine w_r [.m _,.v (.i 0)] ?_
 exact zaq (fun(r:(BS×Int×Int))=> .tup [.A (r.1:BS),.i r.2.1,.i r.2.2]) h (.tup [.A (j5:BS),.i (j2.1+1),.i 0])
def zxx (fuel:Nat)(c:Int):Option Tr:=
 (chk (0≤c∧c<256) (zar (zgt fuel ([(z1o c)]:List UInt8)) (fun x1=>(zbi (ofT x1) (fun x2=>(some x2))))))
theorem ent78:Ent Tryd.prog 78:=enters_of Tryd.func78 (by kernel_rfl) rfl
theorem qdn (fuel:Nat)(c:Int)(r:Tr)(h:zxx fuel c=some r):Pure (ITP Tryd.prog) Tryd.prog 78 [.raw (.int .u8 c)] (.A (r:Tr)):=by
 unfold zxx at h
 refine zby 6 mix Tryd.func78 ent78 ?_
 refine zi (zc ?_)
 refine zcb (a:= .ptr 0 0) (σ'':=(.B [(33,[.u 0,.raw (.int .u64 0),.raw (.int .u64 0),.raw (.int .u64 0),.raw (.int .u64 0),.i 0,.i 0,.list 0 [] .full])])) ?_
 refine zx [.m _] ?_
 obtain⟨g1,h⟩:=zp h
 refine w_o (a:= .F (([(z1o c)]:List UInt8):List UInt8)) (h:=zbb (zhr (α:=UInt8) (l:=([(z1o c)]:List UInt8)) (cs:=[.u c]) rfl (by show List.map _ _=_;simp only[List.map_cons,List.map_nil,u8c g1]))) ?_
 obtain⟨x1,hx1,h⟩:=zv h
 refine zdb (zjl fuel ([(z1o c)]:List UInt8) x1 hx1) ?_
 obtain⟨x2,hx2,h⟩:=zt h
 refine zdb (args':=[.A (x1:BS)]) (r:= .A (x2:Tr)) (by rw[←hx2];exact(k_of x1)) ?_
 refine zco 8 (.B [(33,(Enc.cells (x2:Tr)))]) ?_
 exact zaq (fun(r:Tr)=> .A (r:Tr)) h (.A (x2:Tr))
end Go.Ab
