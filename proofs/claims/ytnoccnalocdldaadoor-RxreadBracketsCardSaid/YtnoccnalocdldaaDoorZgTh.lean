import Derived.Test.YtnoccnalocdldaaDoorZgRt
set_option linter.all false
set_option maxRecDepth 100000
set_option maxHeartbeats 4000000
namespace Go.Ab
open Go Go.RowKit Go.Fwd Go.Proofs
def zxp (fuel:Nat)(s:BS):Option Ar:=
 (zdr (τ:=Ar) (zbo (β:=Int×Ar) (fun s1=>(bif (decide (s1.1<256)) then(zdr (τ:=Ar) (chk (0≤(IntKind.i64.wrap (Int.tdiv s1.1 64))∧(IntKind.i64.wrap (Int.tdiv s1.1 64))<4) (zdr (τ:=Int) (zbo (β:=Int×Int) (fun s2=>(bif (decide (s2.2<(Int.tmod s1.1 64))) then(chk (-9223372036854775808≤(s2.2+1)∧(s2.2+1)<9223372036854775808) (some (Sum.inl ((IntKind.u64.wrap (Int.tdiv s2.1 2)),(s2.2+1))))) else(some (Sum.inr (Sum.inl (s2.1)))))) fuel ((wd s (Int.toNat (IntKind.i64.wrap (Int.tdiv s1.1 64)))),0)) (fun j3=>(chk (-9223372036854775808≤(Int.tmod j3 2)∧(Int.tmod j3 2)<9223372036854775808) (chk (0≤s1.1∧s1.1<256) (some (Sum.inl ((wrA s1.2 s1.1 (Int.tmod j3 2)))))))))) (fun j2=>(chk (-9223372036854775808≤(s1.1+1)∧(s1.1+1)<9223372036854775808) (some (Sum.inl ((s1.1+1),j2)))))) else(some (Sum.inr (Sum.inl (s1.2)))))) fuel (0,zeroA)) (fun j1=>(some j1)))
theorem ent45:Ent Tryd.prog 45:=enters_of Tryd.func45 (by kernel_rfl) rfl
theorem qhp (fuel:Nat)(s:BS)(r:Ar)(h:zxp fuel s=some r):Pure (ITP Tryd.prog) Tryd.prog 45 [.A (s:BS)] (.A (r:Ar)):=by
 unfold zxp at h
 refine zby 28 mix Tryd.func45 ent45 ?_
 refine zi (zc ?_)
 refine zcb (a:= .ptr 0 0) (σ'':=(.B [(25,(Enc.cells (s:BS)))])) ?_
 refine zfs (a:= .ptr 1 0) (σ'':=(.B [(25,(Enc.cells (s:BS))),(65,(Enc.cells (zeroA:Ar)))])) rfl rfl rfl (z0e (by decide) rfl) (by dsimp only[zy,List.set]) rfl ?_
 refine zi (zc ?_)
 refine zfs (a:= .ptr 2 0) (σ'':=(.B [(25,(Enc.cells (s:BS))),(65,(Enc.cells (zeroA:Ar))),(65,(Enc.cells (zeroA:Ar)))])) rfl rfl rfl (z0e (by decide) rfl) (by dsimp only[zy,List.set]) rfl ?_
 refine zbh h (bz 0 29 536870899) (fun j1=>[]) (fun j1=>(.B [(25,(Enc.cells (s:BS))),(65,(Enc.cells (zeroA:Ar))),(65,(Enc.cells (j1:Ar)))])) ?_ ?_
 intro or1 h hr1
 refine zx [.v (.i 0)] ?_
 refine zag ?_
 refine zcx h (bz 0 29 536870897) (fun s1=>[(4,.i s1.1)]) (fun s1=>(.B [(25,(Enc.cells (s:BS))),(65,(Enc.cells (zeroA:Ar))),(65,(Enc.cells (s1.2:Ar)))])) ?_ ?_
 exact zcs (bl 29 30)
 intro s1 p1 h
 refine zet ?_
 refine zi ?_
 refine zx [.m _,.v (.b (decide (s1.1<256)))] ?_
 refine zcd h (fun hc1 h=> ?_) (fun hc1 h=> ?_)
 refine zbh h (bz 0 28 268433888) (fun j2=>[]) (fun j2=>(.B [(25,(Enc.cells (s:BS))),(65,(Enc.cells (zeroA:Ar))),(65,(Enc.cells (j2:Ar)))])) ?_ ?_
 intro or2 h hr2
 refine zag ?_
 refine zx [.m _,.v (.i (IntKind.i64.wrap (Int.tdiv s1.1 64)))] ?_
 obtain⟨g1,h⟩:=zp h
 refine w_o (a:= .ptr 0 (0+Int.toNat (IntKind.i64.wrap (Int.tdiv s1.1 64))*1)) (h:=zbb (zko g1 rfl rfl rfl rfl rfl)) ?_
 refine w_o (a:= .raw (.int .u64 (wd s (Int.toNat (IntKind.i64.wrap (Int.tdiv s1.1 64)))))) (h:=zbb (zom s (by omega) rfl rfl rfl)) ?_
 refine zac ?_
 refine zbh h (bz 0 23 8387040) (fun j3=>[(5,.raw (.int .u64 j3))]) (fun j3=>(.B [(25,(Enc.cells (s:BS))),(65,(Enc.cells (zeroA:Ar))),(65,(Enc.cells (s1.2:Ar)))])) ?_ ?_
 intro or3 h hr3
 refine zx [.v (.i 0)] ?_
 refine zag ?_
 refine zcx h (bz 0 23 8387040) (fun s2=>[(5,.raw (.int .u64 s2.1)),(6,.i s2.2)]) (fun s2=>(.B [(25,(Enc.cells (s:BS))),(65,(Enc.cells (zeroA:Ar))),(65,(Enc.cells (s1.2:Ar)))])) ?_ ?_
 exact zcs (bl 29 528483967)
 intro s2 p2 h
 refine zet ?_
 refine zi ?_
 refine zx [.m _,.m _,.v (.i (Int.tmod s1.1 64)),.v (.b (decide (s2.2<(Int.tmod s1.1 64))))] ?_
 refine zcd h (fun hc2 h=> ?_) (fun hc2 h=> ?_)
 refine zi ?_
 refine zag ?_
 refine zc (k0:=0) (id:=9) ?_
 refine w_r [.m _,.v (.raw (.int .u64 (IntKind.u64.wrap (Int.tdiv s2.1 2)))),.m _] ?_
 refine zc (k0:=0) (id:=8) ?_
 refine zac ?_
 obtain⟨g2,h⟩:=zp h
 refine zio g2 ?_
 refine zac ?_
 refine zbs (p:=p2) ((IntKind.u64.wrap (Int.tdiv s2.1 2)),(s2.2+1)) h ?_
 exact zcs (bl 29 528483967)
 refine zaj h (fun h=> ?_)
 refine zg (o:=or3) (s2.1) h ?_
 exact zcs (bl 29 528483903)
 intro j3 h
 refine zet ?_
 refine zc (k0:=0) (id:=10) ?_
 refine w_r [.m _,.m _,.v (.raw (.int .u64 (Int.tmod j3 2)))] ?_
 obtain⟨g3,h⟩:=zp h
 refine w_o (a:= .i (Int.tmod j3 2)) (h:=zbb (zib g3 rfl rfl rfl)) ?_
 obtain⟨g4,h⟩:=zp h
 refine w_o (a:= .ptr 2 (0+Int.toNat s1.1*1)) (h:=zbb (zko g4 rfl rfl rfl rfl rfl)) ?_
 refine zcb (σ'':=(.B [(25,(Enc.cells (s:BS))),(65,(Enc.cells (zeroA:Ar))),(65,(Enc.cells ((wrA s1.2 s1.1 (Int.tmod j3 2)):Ar)))])) (h:=qcz s1.2 g4 rfl rfl rfl rfl) ?_
 refine zg (o:=or2) ((wrA s1.2 s1.1 (Int.tmod j3 2))) h ?_
 exact zcs (bl 29 268437023)
 intro j2 h
 refine zet ?_
 refine zc (k0:=0) (id:=4) ?_
 refine zac ?_
 obtain⟨g5,h⟩:=zp h
 refine zio g5 ?_
 refine zac ?_
 refine zbs (p:=p1) ((s1.1+1),j2) h ?_
 exact zcs (bl 29 30)
 refine zaj h (fun h=> ?_)
 refine zg (o:=or1) (s1.2) h ?_
 exact zcs (bl 29 12)
 intro j1 h
 refine zet ?_
 refine zi (zc ?_)
 refine w_o (a:= .A (j1:Ar)) (h:=zbb (qcb j1 (by decide) rfl rfl rfl)) ?_
 refine zcb (σ'':=(.B [(25,(Enc.cells (s:BS))),(65,(Enc.cells (j1:Ar))),(65,(Enc.cells (j1:Ar)))])) (h:=zaz (n:=256) rfl rfl rfl rfl rfl (Enc.len _) rfl (Enc.len _) (by decide)) ?_
 exact zaq (fun(r:Ar)=> .A (r:Ar)) h (.A (j1:Ar))
mutual
def zty:Tr→Int→Int
 | .mk _ _ _ _ l,m=>z8e l m 1
def z8e:List Tr→Int→Int→Int
 |[],_,s=>s
 |x::l,m,s=>if s>m then s else z8e l m (s+zty x (m-s))
end
def z5q (fuel:Nat)(n:Nat)(t:Tr)(m:Int):Option Int:=
 (zdr (τ:=Int) (zbo (β:=Int×Int) (fun s1=>(bif (decide (s1.2<(List.length t.l:Int))) then(chk (0≤s1.2∧s1.2<(List.length t.l:Int)) (zbi (ix t.l s1.2) (fun x1=>(bif (decide (s1.1>m)) then(some (Sum.inr (Sum.inl (s1.1)))) else(chk (-9223372036854775808≤(m-s1.1)∧(m-s1.1)<9223372036854775808) (chk (((pre x1).length<n∧(pre x1).length<2^40∧0≤(m-s1.1)∧(m-s1.1)<2^40)) (zbi (zty x1 (m-s1.1)) (fun x2=>(chk (-9223372036854775808≤(s1.1+x2)∧(s1.1+x2)<9223372036854775808) (chk (-9223372036854775808≤(s1.2+1)∧(s1.2+1)<9223372036854775808) (some (Sum.inl ((s1.1+x2),(s1.2+1)))))))))))))) else(some (Sum.inr (Sum.inl (s1.1)))))) fuel (1,0)) (fun j1=>(some j1)))
theorem ent22:Ent Tryd.prog 22:=enters_of Tryd.func22 (by kernel_rfl) rfl
theorem few8_sh (fuel:Nat)(n:Nat)(t:Tr)(m:Int)(r:Int)(ih: ∀(x:Tr)(m:Int),((pre x).length<n∧(pre x).length<2^40∧0≤m∧m<2^40)→Pure (ITP Tryd.prog) Tryd.prog 22 [.A x,.raw (.int .i64 m)] (.raw (.int .i64 (zty x m))))(h:z5q fuel n t m=some r):Pure (ITP Tryd.prog) Tryd.prog 22 [.A (t:Tr),.raw (.int .i64 m)] (.raw (.int .i64 r)):=by
 unfold z5q at h
 refine zby 25 mix Tryd.func22 ent22 ?_
 refine zi (zc ?_)
 refine zcb (a:= .ptr 0 0) (σ'':=(.B [(33,(Enc.cells (t:Tr)))])) ?_
 refine w_o (a:= .i 0) ?_
 refine zx [.v (.i 1)] ?_
 refine zbh h (bz 0 27 134217727) (fun j1=>[(5,.i j1)]) (fun j1=>(.B [(33,(Enc.cells (t:Tr)))])) ?_ ?_
 intro or1 h hr1
 refine zx [.v (.ptr 0 7),.v (.L (t.l:List Tr)),.v (.i (List.length t.l:Int)),.v (.i 0)] ?_
 refine zag ?_
 refine zcx h (bz 0 27 134216189) (fun s1=>[(5,.i s1.1),(11,.i s1.2)]) (fun s1=>(.B [(33,(Enc.cells (t:Tr)))])) ?_ ?_
 exact zcs (bl 27 3618)
 intro s1 p1 h
 refine zet ?_
 refine zx [.v (.b (decide (s1.2<(List.length t.l:Int))))] ?_
 refine zi ?_
 refine zcd h (fun hc1 h=> ?_) (fun hc1 h=> ?_)
 refine zi ?_
 refine zag ?_
 refine zi (zc ?_)
 obtain⟨g1,h⟩:=zp h
 obtain⟨x1,hx1,h⟩:=zt h
 refine z6x hx1 g1 ?_
 refine w_o (a:= .A (x1:Tr)) ?_
 refine zcb (a:= .ptr 1 0) (σ'':=(.B [(33,(Enc.cells (t:Tr))),(33,[.u 0,.raw (.int .u64 0),.raw (.int .u64 0),.raw (.int .u64 0),.raw (.int .u64 0),.i 0,.i 0,.list 0 [] .full])])) ?_
 refine zco 8 (.B [(33,(Enc.cells (t:Tr))),(33,(Enc.cells (x1:Tr)))]) ?_
 refine zi ?_
 refine zx [.m _,.m _,.v (.b (decide (s1.1>m)))] ?_
 refine zcd h (fun hc2 h=> ?_) (fun hc2 h=> ?_)
 refine zaj h (fun h=> ?_)
 refine zg (o:=or1) (s1.1) h ?_
 exact zfa (bl 27 32) 1 (by kernel_rfl) (Nat.le_of_ble_eq_true rfl) (zcw (zav (zal _ _ (Enc.clo _)) rfl)) (by dsimp only[zbg,zbz,List.foldl,List.set,bz,bzc,Nat.reduceMod,Nat.reduceDiv,Nat.reduceBEq,Nat.reduceAdd];exact(by kernel_rfl)) (by kernel_rfl)
 refine zc (k0:=0) (id:=6) ?_
 refine w_r [.m _,.v (.A (x1:Tr)),.m _,.m _] ?_
 obtain⟨g2,h⟩:=zp h
 refine w_sb g2 ?_
 obtain⟨g3,h⟩:=zp h
 obtain⟨x2,hx2,h⟩:=zt h
 refine zdb (args':=[.A (x1:Tr),.i (m-s1.1)]) (r:= .i x2) (by rw[←hx2];exact(ih x1 (m-s1.1) g3)) ?_
 obtain⟨g4,h⟩:=zp h
 refine zio g4 ?_
 refine zac ?_
 refine zc (k0:=0) (id:=7) ?_
 obtain⟨g5,h⟩:=zp h
 refine zio g5 ?_
 refine zac ?_
 refine zbs (p:=p1) ((s1.1+x2),(s1.2+1)) h ?_
 exact zfa (bl 27 3618) 1 (by kernel_rfl) (Nat.le_of_ble_eq_true rfl) (zcw (zav (zal _ _ (Enc.clo _)) rfl)) (by dsimp only[zbg,zbz,List.foldl,List.set,bz,bzc,Nat.reduceMod,Nat.reduceDiv,Nat.reduceBEq,Nat.reduceAdd];exact(za rfl (za rfl (za rfl (za rfl (za rfl (za rfl (za rfl (za rfl (za rfl (za (zcl (Enc.cloL _)) (by kernel_rfl)))))))))))) (by kernel_rfl)
 refine zaj h (fun h=> ?_)
 refine zg (o:=or1) (s1.1) h ?_
 exact zcs (bl 27 32)
 intro j1 h
 refine zet ?_
 refine zx [.m _,.m _] ?_
 exact zjd h
theorem W64_get (s:BS)(q r:Nat)(hr:r<64):(W64 s q).getLsbD r=s.getLsbD (64*q+r):=by simp[W64,hr]
def arP (s:BS)(i:Nat):Ar:=⟨fun k=>if k<i∧s.getLsbD k=true then 1 else 0⟩
theorem arP_0 (s:BS):arP s 0=zeroA:=by simp[arP,zeroA]
theorem qcg {s:BS} {k:Nat} (h:s.getLsbD k=true):k<256:=by
 rcases Nat.lt_or_ge k 256 with h1|h1
 ·exact h1
 ·rw[BitVec.getLsbD_of_ge s k h1] at h;cases h
theorem arP_256 (s:BS):arP s 256=zfn s:=by
 unfold arP zfn
 refine congrArg Ar.mk (funext fun k=> ?_)
 by_cases h:s.getLsbD k=true
 ·simp[h,qcg h]
 ·simp[h]
theorem arP_hit (s:BS)(i:Nat)(h:s.getLsbD i=true):wrA (arP s i) (i:Int) 1=arP s (i+1):=by
 unfold arP wrA
 refine congrArg Ar.mk (funext fun k=> ?_)
 rw[Int.toNat_natCast]
 by_cases e:k=i
 ·subst e;simp[h]
 ·simp only[e,if_false]
  by_cases e2:k<i
  ·simp[e2,show k<i+1 by omega]
  ·simp[e2,show ¬k<i+1 by omega]
theorem qfb (s:BS)(i:Nat)(h:s.getLsbD i=false):arP s i=arP s (i+1):=by
 unfold arP
 refine congrArg Ar.mk (funext fun k=> ?_)
 by_cases e:k=i
 ·subst e;simp[h]
 ·by_cases e2:k<i
  ·simp[e2,show k<i+1 by omega]
  ·simp[e2,show ¬k<i+1 by omega]
theorem qce (s:BS)(i:Nat)(h:s.getLsbD i=false):wrA (arP s i) (i:Int) 0=arP s (i+1):=by
 rw[←qfb s i h]
 unfold arP wrA
 refine congrArg Ar.mk (funext fun k=> ?_)
 rw[Int.toNat_natCast]
 by_cases e:k=i
 ·subst e;simp
 ·simp[e]
theorem qag (s t:BS):eqA (zfn s) (zfn t)=decide (s=t):=by
 unfold eqA
 by_cases h:s=t
 ·subst h;simp
 ·have: ¬arL (zfn s)=arL (zfn t):=fun e=>h (BitVec.eq_of_getLsbD_eq fun i hi=>by
   have h1:=congrArg (fun l:List Int=>l[i]?) e
   simp only[arL_get _ _ hi,Option.some.injEq] at h1
   simp only[zfn] at h1
   cases hs:s.getLsbD i<;>cases ht:t.getLsbD i<;>simp[hs,ht] at h1⊢)
  simp[h,this]
theorem qgh {x:Int} (h: -9223372036854775808≤x∧x<9223372036854775808):IntKind.i64.wrap x=x:=zlk h.1 h.2
theorem qil {n:Nat} (h:n<2^64):IntKind.u64.wrap (n:Int)=(n:Int):=by
 simp only[IntKind.wrap,IntKind.bits,IntKind.signed]
 simp;omega
theorem qfm (fuel:Nat)(hf:256<fuel)(s:BS):zxp fuel s=some (zfn s):=by
 unfold zxp
 refine zca (zfn s) (zku 256 (fun i=>((i:Int),arP s i)) (by simp[arP_0]) (fun i hi=> ?_) ?_ hf) rfl
 ·refine zgp (by simp;omega) ?_
  have e1:IntKind.i64.wrap (Int.tdiv (i:Int) 64)=((i/64:Nat):Int):=by
   rw[show Int.tdiv (i:Int) 64=((i/64:Nat):Int) from rfl];exact qgh (by omega)
  have e2:Int.tmod (i:Int) 64=((i%64:Nat):Int):=rfl
  simp only[e1,e2,Int.toNat_natCast]
  obtain⟨w,hw⟩: ∃w,w=W64 s (i/64):=⟨_,rfl⟩
  have hw1:wd s (i/64)=((w.toNat:Nat):Int):=by rw[hw];rfl
  have hwl:=w.isLt
  refine zca (arP s (i+1)) (zae (by omega) ?_) (zae (by omega) rfl)
  refine zca (((w.toNat/2^(i%64):Nat):Nat):Int) (zku (i%64) (fun j=>(((w.toNat/2^j:Nat):Int),(j:Int))) (by simp[hw1]) (fun j hj=> ?_) ?_ (by omega)) ?_
  ·refine zgp (by simp;omega) (zae (by simp only;omega) ?_)
   have e3:IntKind.u64.wrap (Int.tdiv ((w.toNat/2^j:Nat):Int) 2)=((w.toNat/2^(j+1):Nat):Int):=by
    rw[show Int.tdiv ((w.toNat/2^j:Nat):Int) 2=((w.toNat/2^j/2:Nat):Int) from rfl,Nat.div_div_eq_div_mul,←Nat.pow_succ]
    exact qil (Nat.lt_of_le_of_lt (Nat.div_le_self _ _) hwl)
   simp only[e3,Int.natCast_add,Int.cast_ofNat_Int]
  ·refine zfy (by simp) rfl
  ·have e4:Int.tmod ((w.toNat/2^(i%64):Nat):Int) 2=((w.toNat/2^(i%64)%2:Nat):Int):=rfl
   have hb:s.getLsbD i=decide (w.toNat/2^(i%64)%2=1):=by
    have h:=W64_get s (i/64) (i%64) (Nat.mod_lt _ (by decide))
    rw[show 64*(i/64)+i%64=i by omega,←hw] at h
    rw[←h,BitVec.getLsbD,Nat.testBit_eq_decide_div_mod_eq]
   simp only[e4]
   generalize hm:w.toNat/2^(i%64)%2=m at*
   have hm2:m<2:=by rw[←hm];exact Nat.mod_lt _ (by decide)
   refine zae (by omega) (zae (by omega) ?_)
   rcases(by omega:m=0∨m=1) with rfl|rfl
   ·rw[Int.natCast_zero,qce s i (by simpa using hb)]
   ·rw[show((1:Nat):Int)=1 from rfl,arP_hit s i (by simpa using hb)]
 ·refine zfy (by simp) ?_
  simp only[arP_256]
theorem k_words (s:BS):Pure (ITP Tryd.prog) Tryd.prog 45 [.agg (Enc.cells s)] (.agg (Enc.cells (zfn s))):=qhp 257 s _ (qfm 257 (by decide) s)
theorem zzo: ∀(n:Nat) (t:Tr) (m:Int),(pre t).length≤n→0≤m→(((pre t).length:Int)≤m→zty t m=(pre t).length)∧(((pre t).length:Int)>m→zty t m>m∧zty t m≤(pre t).length)
 |0,t,m,hn,_=>by have:=zpz t;omega
 | n + 1,t,m,hn,hm=>by
  have hp:(pre t).length=1+(zda t.l).length:=by rw[zfl,List.length_cons];omega
  have key: ∀(l:List Tr) (s:Int),(zda l).length≤n→0≤s→(s+(zda l).length≤m→z8e l m s=s+(zda l).length)∧(s+(zda l).length>m→z8e l m s>m∧z8e l m s≤s+(zda l).length):=by
   intro l
   induction l with
   |nil=>intro s _ _;simp only[z8e,zda,List.length_nil];omega
   | cons x l ih=>
    intro s hl hs
    simp only[zda,List.length_append] at hl⊢
    rw[z8e]
    by_cases h:s>m
    ·rw[if_pos h];omega
    ·rw[if_neg h]
     have h1:=zzo n x (m-s) (by omega) (by omega)
     by_cases hx:((pre x).length:Int)≤m-s
     ·have h2:=h1.1 hx
      have h3:=ih (s+zty x (m-s)) (by omega) (by omega)
      rw[h2] at h3⊢
      omega
     ·have h2:=h1.2 (by omega)
      have h3:=ih (s+zty x (m-s)) (by omega) (by omega)
      omega
  have hk:=key t.l 1 (by omega) (by omega)
  have e:zty t m=z8e t.l m 1:=by obtain⟨k,s,mn,mx,l⟩:=t;rw[zty];rfl
  rw[e];omega
theorem few_le (t:Tr)(m:Int)(hm:0≤m):0≤zty t m∧zty t m≤(pre t).length:=by
 have:=zzo _ t m (Nat.le_refl _) hm
 by_cases h:((pre t).length:Int)≤m<;>omega
theorem few8_eq {fuel:Nat} (n:Nat)(t:Tr)(m:Int)(hn:(pre t).length<n+1)(hs:(pre t).length<2^40)(hm:0≤m∧m<2^40)(hf:(pre t).length<fuel):z5q fuel n t m=some (zty t m):=by
 have hp:(pre t).length=1+(zda t.l).length:=by rw[zfl,List.length_cons];omega
 have hlen:=zci t.l
 unfold z5q
 have e:zty t m=z8e t.l m 1:=by obtain⟨k,s,mn,mx,l⟩:=t;rw[zty];rfl
 rw[e]
 refine zca (z8e t.l m 1) ?_ rfl
 have key: ∀(k i:Nat) (s:Int),i+k=t.l.length→0≤s→s+(zda (t.l.drop i)).length≤2^41→ ∀f,k<f→zbo (β:=Int×Int) (fun s1=>(bif (decide (s1.2<(List.length t.l:Int))) then(chk (0≤s1.2∧s1.2<(List.length t.l:Int)) (zbi (ix t.l s1.2) (fun x1=>(bif (decide (s1.1>m)) then(some (Sum.inr (Sum.inl (β:=Int) (s1.1)))) else(chk (-9223372036854775808≤(m-s1.1)∧(m-s1.1)<9223372036854775808) (chk (((pre x1).length<n∧(pre x1).length<2^40∧0≤(m-s1.1)∧(m-s1.1)<2^40)) (zbi (zty x1 (m-s1.1)) (fun x2=>(chk (-9223372036854775808≤(s1.1+x2)∧(s1.1+x2)<9223372036854775808) (chk (-9223372036854775808≤(s1.2+1)∧(s1.2+1)<9223372036854775808) (some (Sum.inl ((s1.1+x2),(s1.2+1)))))))))))))) else(some (Sum.inr (Sum.inl (s1.1)))))) f (s,(i:Int))=some (Sum.inl (z8e (t.l.drop i) m s)):=by
  intro k
  induction k with
  | zero=>
   intro i s hi _ _ f hf
   match f,hf with
   | f+1,_=>
    rw[zbo,List.drop_of_length_le (by omega),z8e]
    simp only
    rw[show decide ((i:Int)<(t.l.length:Int))=false by simp;omega];rfl
  | succ k ih=>
   intro i s hi hs0 hss f hf
   match f,hf with
   | f+1,hf=>
    have hil:i<t.l.length:=by omega
    rw[zbo,List.drop_eq_getElem_cons hil,z8e]
    simp only
    rw[show decide ((i:Int)<(t.l.length:Int))=true by simp;omega,cond_true,zem (by omega),zbi,zjs hil]
    rw[List.drop_eq_getElem_cons hil,zda,List.length_append] at hss
    have hx:=zfc (List.getElem_mem hil)
    by_cases h:s>m
    ·rw[if_pos h,show decide (s>m)=true by simpa using h];rfl
    ·rw[if_neg h,show decide (s>m)=false by simpa using h,cond_false,zem (by omega),zem (by omega),zbi]
     have hfl:=few_le t.l[i] (m-s) (by omega)
     rw[zem (by omega),zem (by omega)]
     have:=ih (i+1) (s+zty t.l[i] (m-s)) (by omega) (by omega) (by omega) f (by omega)
     simp only[Int.natCast_add,Int.natCast_one] at this
     exact this
 have:=key t.l.length 0 1 (by omega) (by omega) (by rw[List.drop_zero];omega) fuel (by omega)
 rw[List.drop_zero] at this
 exact this
theorem qca: ∀(n:Nat) (t:Tr) (m:Int),((pre t).length<n∧(pre t).length<2^40∧0≤m∧m<2^40)→Pure (ITP Tryd.prog) Tryd.prog 22 [.agg (Enc.cells t),.raw (.int .i64 m)] (.raw (.int .i64 (zty t m)))
 |0,t,m,h=>absurd h.1 (Nat.not_lt_zero _)
 |n+1,t,m,h=>few8_sh ((pre t).length+1) n t m _ (fun x m hx=>qca n x m hx) (few8_eq n t m h.1 h.2.1 h.2.2 (by omega))
theorem qji (t:Tr)(m:Int)(h:(pre t).length<2^40∧0≤m∧m<2^40):Pure (ITP Tryd.prog) Tryd.prog 22 [.agg (Enc.cells t),.raw (.int .i64 m)] (.raw (.int .i64 (zty t m))):=qca ((pre t).length+1) t m ⟨by omega,h⟩
def KO (t:Tr):Prop:=(∀x∈pre t,x.k<256)∧(pre t).length<2^35
instance (t:Tr):Decidable (KO t):=inferInstanceAs (Decidable (_∧_))
section
variable {P:Program} {ρ:Operand→AV} {σ:St} {o:Oper}
theorem q_lit1 {α:Type} [Enc α] {x:α} {p:Operand} {t e:TypeId} {i:TypeInfo} {z:Value} (ho:o.op= .buildSlice t 1 #[(0,p)])(hp:ρ p= .agg (Enc.cells x))(hu:P.underlying t=some (.slice e))(hi:P.info? e=some i)(hz:i.zero=some z)(hsz:i.size=Enc.sz α)(hzs:z.cells.size=Enc.sz α)(h1:z.cells.toList.all (·.oneCell')=true)(hm:Enc.sz α≤2^24):
 qop P ρ σ o=some (.list 1 (Enc.cells x++[]) .full):=by
 have hp0:=Enc.pos (α:=α)
 have hl:zjk P t 1 [(0,ρ p)]=some (Enc.cells x++[],e,i.size):=by
  unfold zjk
  simp only[hu,hi,hz,hsz,Nat.one_mul]
  rw[if_neg (by decide),if_pos ⟨h1,by omega,hm,by omega⟩]
  simp only[zxl,hp,Nat.zero_mul,Nat.zero_add,zhn,cellsOf,Enc.len,List.length_map,List.length_range]
  rw[if_pos ⟨trivial,trivial,Nat.le_refl _⟩]
  simp[List.drop_of_length_le]
 simp only[qop,ho,znh,List.map_cons,List.map_nil,hl,Option.map_some]
theorem ztj {n:Nat} {cs:List AV}:cellsOf (zch n cs)=[zch n cs]:=by unfold zch;split<;>rfl
theorem z8n {n:Nat} {cs:List AV}:zhn (zch n cs)=true:=by unfold zch;split<;>rfl
end
theorem z7c {ρ:Operand→AV} {σ:St} {o:Oper} {x y:Operand} {b n:Nat} {tt:TypeId} {a:AV} {cs:List AV} (t:Tr)(ho:o.op= .store 66 x y)(hx:ρ x= .ptr b 259)(hy:ρ y=zch n cs)(hb:σ.boxes[b]? =some (tt,rtX t a)):
 aop Tryd.prog ρ σ o=some (.raw undef,{σ with boxes:=σ.boxes.set b (tt,rtX t (zch n cs))}):=by
 rw[z2w t ho hx hy hb ⟨z8n,by rw[ztj];rfl⟩,ztj];rfl
def zv106:Value:= .agg (#[Value.int .i64 0]++((List.range 256).map fun _=>Value.int .i64 0).toArray++ #[Value.int .i64 0,Value.int .i64 0,Value.slice none 0 0])
theorem qef:zho Tryd.prog 68=some zv106:=by kernel_rfl
def zc106:List AV:=cellsOf (ziu zv106)
theorem z1a:zc106.length=260:=by kernel_rfl
theorem qir:zad 3 zc106=true:=by kernel_rfl
theorem z2g {ρ:Operand→AV} {σ:St} {o:Oper} (ho:o.op= .alloc 68):aop Tryd.prog ρ σ o=some (.ptr σ.boxes.length 0,{σ with boxes:=σ.boxes++[(68,zc106)]}):=by
 have h:zqd Tryd.prog σ 68=some (.ptr σ.boxes.length 0,{σ with boxes:=σ.boxes++[(68,zc106)]}):=by rw[zsi qef];rfl
 simp only[aop,qop,ho,h]
theorem qau {P:Program} {σ:St} {S:List AV} {fn:Func} {k t:Nat} {a:AV} (hr:fn.results.toList=[.cell k t])(h:zlb P σ t ((S[k]?).getD (.raw undef))=some a):zba P fn σ S=some a:=by
 unfold zba
 rw[hr]
 simp only[z2j,qaj,h]
theorem qdq {n:Nat} (t:Tr)(l:List RT):zad n (rtX t (zch l.length (Enc.cellsL l)))=true:=by
 rw[rtX]
 have: ∀a b:List AV,zad n a=true→zad n b=true→zad n (a++b)=true:=fun a b h1 h2=>by
  induction a with
  |nil=>exact h2
  |cons x a ih=>rw[zad,Bool.and_eq_true] at h1;rw[List.cons_append,zad,h1.1,ih h1.2];rfl
 exact this _ _ (zal _ _ (zoz t)) (za (zed (Enc.cloL _)) rfl)
def zro (fuel:Nat)(n:Nat)(t:Tr):Option Tr:=
 chk (t.k<256) (zdr (τ:=List RT) (zbo (β:=List RT×Int) (fun s=>(bif (decide (s.2<(List.length t.l:Int))) then(chk (0≤s.2∧s.2<(List.length t.l:Int)) (zbi (ix t.l s.2) (fun x=>(chk ((pre x).length<n∧KO x) (chk ((List.length s.1+List.length [RT.mk x])*2096≤140737488355328) (chk (-9223372036854775808≤(s.2+1)∧(s.2+1)<9223372036854775808) (some (Sum.inl (s.1++[RT.mk x],s.2+1))))))))) else(some (Sum.inr (Sum.inl s.1))))) fuel ([],0)) (fun j=>some (Tr.mk t.k t.s t.mn t.mx (j.map RT.t))))
theorem ent24:Ent Tryd.prog 24:=enters_of Tryd.func24 (by kernel_rfl) rfl
set_option maxRecDepth 100000 in
set_option maxHeartbeats 4000000 in
theorem z9t (fuel:Nat)(n:Nat)(t:Tr)(r:Tr)(ih: ∀x:Tr,(pre x).length<n∧KO x→Pure (ITP Tryd.prog) Tryd.prog 24 [.agg (Enc.cells x)] (.agg (Enc.cells (RT.mk x))))(h:zro fuel n t=some r):Pure (ITP Tryd.prog) Tryd.prog 24 [.agg (Enc.cells (t:Tr))] (.agg (Enc.cells (RT.mk r))):=by
 obtain⟨d,hd⟩: ∃d,Tryd.f24.body=some d:=⟨_,rfl⟩
 refine zik mix Tryd.func24 hd ent24 ?_
 cases hd
 unfold zro at h
 obtain⟨g0,h⟩:=zp h
 refine zbj (by dsimp only[zat,Tryd.f24,List.length_cons,List.length_nil,Nat.zero_add,Nat.reduceAdd,Nat.reduceSub,List.replicate,List.cons_append,List.nil_append]) (by dsimp only[St.empty]) ?_
 refine zi (zc ?_)
 refine zfs (a:= .ptr 0 0) (σ'':=⟨[(33,(Enc.cells (t:Tr)))],[],[],0,false⟩) rfl rfl rfl rfl (by dsimp only[zy,List.set]) rfl ?_
 refine zfs (a:= .ptr 1 0) (σ'':=⟨[(33,(Enc.cells (t:Tr))),(68,zc106)],[],[],0,false⟩) rfl rfl rfl (z2g rfl) (by dsimp only[zy,List.set]) rfl ?_
 refine zi ?_
 refine qeg (k0:=0) (id:=1) 12 (by kernel_rfl) (by kernel_rfl) ?_
 refine zqy (a:= .ptr 0 0) rfl rfl rfl rfl rfl (by dsimp only[zy,List.set]) ?_
 refine zqy (a:= .raw (.int .u8 ((t.k:Nat):Int))) rfl rfl rfl rfl rfl (by dsimp only[zy,List.set]) ?_
 refine zqy (a:= .raw (.int .i64 ((t.k:Nat):Int))) rfl rfl rfl rfl (zib (by omega) rfl rfl rfl) (by dsimp only[zy,List.set]) ?_
 refine zqy (a:= .ptr 0 1) rfl rfl rfl rfl rfl (by dsimp only[zy,List.set]) ?_
 refine zqy (a:= .agg (Enc.cells (t.s:BS))) rfl rfl rfl rfl rfl (by dsimp only[zy,List.set]) ?_
 refine zmn (args':=[.agg (Enc.cells (t.s:BS))]) (r:= .agg (Enc.cells (zfn t.s))) (k_words t.s) rfl rfl rfl rfl (zh (zbu (zab (Enc.clo _))) rfl) (za (zam _ _ (zab (Enc.clo _))) rfl) (by dsimp only[zy,List.set]) ?_
 refine zqy (a:= .ptr 0 5) rfl rfl rfl rfl rfl (by dsimp only[zy,List.set]) ?_
 refine zqy (a:= .raw (.int .i64 t.mn)) rfl rfl rfl rfl rfl (by dsimp only[zy,List.set]) ?_
 refine zqy (a:= .ptr 0 6) rfl rfl rfl rfl rfl (by dsimp only[zy,List.set]) ?_
 refine zqy (a:= .raw (.int .i64 t.mx)) rfl rfl rfl rfl rfl (by dsimp only[zy,List.set]) ?_
 refine zqy (a:= .agg (rtX (.mk t.k t.s t.mn t.mx []) (.list 0 [] .full))) rfl rfl rfl rfl (by kernel_rfl) (by dsimp only[zy,List.set]) ?_
 refine qjn zv106 rfl rfl rfl rfl rfl qef (by dsimp only[List.set]) ?_
 refine z4o (n:=2) rfl (show _=(⟨[(33,(Enc.cells (t:Tr))),(68,zc106),(68,zc106)],[],[],0,false⟩:St) from rfl) (by dsimp only[List.nil_append,List.cons_append,zmh,List.set,Nat.reduceAdd]) ?_
 refine zfs (σ'':=⟨[(33,(Enc.cells (t:Tr))),(68,zc106),(68,rtX (.mk t.k t.s t.mn t.mx []) (.list 0 [] .full))],[],[],0,false⟩) rfl rfl rfl (zaz (n:=260) rfl rfl rfl rfl z3m z1a rfl (zos _ _) (by decide)) (by dsimp only[zy,List.set]) rfl ?_
 refine zbh h [5,6,7,8,9,10,11,12,13,14,15,16,17,18,19,20,21,22,23,24,25,26,27,28,29,30,31] (fun _=>[]) (fun j=>(zcm [(33,(Enc.cells (t:Tr))),(68,zc106),(68,rtX (.mk t.k t.s t.mn t.mx []) (zch (List.length (j:List RT)) (Enc.cellsL (j:List RT))))] 68 (List.length (j:List RT)) 260)) ?_ ?_
 ·
  intro or1 h hr1
  refine zi (zc ?_)
  refine zhw (a:= .ptr 0 7) rfl rfl rfl rfl (by dsimp only[zy,List.set]) ?_
  refine zhw (a:= .list (List.length (t.l:List Tr)) (Enc.cellsL (t.l:List Tr)) .none) rfl rfl rfl rfl (by dsimp only[zy,List.set]) ?_
  refine zhw (a:= .raw (.int .i64 (List.length t.l:Int))) rfl rfl rfl rfl (by dsimp only[zy,List.set]) ?_
  refine zhw (a:= .raw (.int .i64 0)) rfl rfl rfl rfl (by dsimp only[zy,List.set]) ?_
  refine zag ?_
  refine zcx h [5,20,21,22,23,24,25,26,27,28,29,30,31,6,7,8,9,10,11,12,13,14,15,16,17] (fun s=>[(20,.raw (.int .i64 s.2))]) (fun s=>(zcm [(33,(Enc.cells (t:Tr))),(68,zc106),(68,rtX (.mk t.k t.s t.mn t.mx []) (zch (List.length (s.1:List RT)) (Enc.cellsL (s.1:List RT))))] 68 (List.length (s.1:List RT)) 260)) ?_ ?_
  ·
   exact zdq [true,true,true,true,true,false,false,false,false,false,false,false,false,false,false,false,false,false,true,true,true,false,false,false,false,false,false,false,false,false,false,false,true] (by kernel_rfl) (by kernel_rfl)
  ·
   intro s1 p1 h
   refine zbj (by dsimp only[zbg,zbz,List.foldl,List.set]) rfl ?_
   refine zi (zc ?_)
   refine zhw (a:= .raw (.bool (decide (s1.2<(List.length t.l:Int))))) rfl rfl rfl rfl (by dsimp only[zy,List.set]) ?_
   refine zi ?_
   refine zaa h (fun hc1 h=> ?_) (fun hc1 h=> ?_)
   ·
    refine zbw hc1 rfl ?_
    refine zi ?_
    refine zag ?_
    refine zi (zc ?_)
    obtain⟨g1,h⟩:=zp h
    obtain⟨x1,hx1,h⟩:=zt h
    refine zhw (a:= .iptr (Enc.cells x1++Enc.cellsL (List.drop (Int.toNat s1.2+1) t.l))) rfl rfl rfl (zbb (by rw[←hx1];exact(qhs (α:=Tr) (l:=t.l) g1 rfl rfl rfl rfl rfl))) (by dsimp only[zy,List.set]) ?_
    refine zhw (a:= .agg (Enc.cells (x1:Tr))) rfl rfl rfl rfl (by dsimp only[zy,List.set]) ?_
    refine zfs (a:= .ptr 3 0) (σ'':=(zcm [(33,(Enc.cells (t:Tr))),(68,zc106),(68,rtX (.mk t.k t.s t.mn t.mx []) (zch (List.length (s1.1:List RT)) (Enc.cellsL (s1.1:List RT)))),(33,[.raw (.int .u8 0),.raw (.int .u64 0),.raw (.int .u64 0),.raw (.int .u64 0),.raw (.int .u64 0),.raw (.int .i64 0),.raw (.int .i64 0),.list 0 [] .full])] 68 (List.length (s1.1:List RT)) 260)) rfl rfl rfl rfl (by dsimp only[zy,List.set]) rfl ?_
    refine zfs (σ'':=(zcm [(33,(Enc.cells (t:Tr))),(68,zc106),(68,rtX (.mk t.k t.s t.mn t.mx []) (zch (List.length (s1.1:List RT)) (Enc.cellsL (s1.1:List RT)))),(33,(Enc.cells (x1:Tr)))] 68 (List.length (s1.1:List RT)) 260)) rfl rfl rfl (zaz (n:=8) rfl rfl rfl rfl rfl rfl rfl rfl (by decide)) (by dsimp only[zy,List.set]) rfl ?_
    obtain⟨g2,h⟩:=zp h
    obtain⟨g3,h⟩:=zp h
    obtain⟨g4,h⟩:=zp h
    refine zid (k0:=0) (id:=5) 5 (by kernel_rfl) (by kernel_rfl) ?_
    refine qjl (a:= .ptr 2 259) rfl rfl rfl rfl (by dsimp only[zy,List.set]) ?_
    refine qjl (a:=(zch (List.length (s1.1:List RT)) (Enc.cellsL (s1.1:List RT)))) rfl rfl rfl (zzg (.mk t.k t.s t.mn t.mx []) rfl rfl rfl) (by dsimp only[zy,List.set]) ?_
    refine qjl (a:= .agg (Enc.cells (x1:Tr))) rfl rfl rfl rfl (by dsimp only[zy,List.set]) ?_
    refine qeb (args':=[.agg (Enc.cells (x1:Tr))]) (r:= .agg (Enc.cells (RT.mk x1))) (ih x1 g2) rfl rfl rfl (zh (zbu (zab (Enc.clo _))) rfl) (za (zam _ _ (zab (Enc.clo _))) rfl) (by dsimp only[zy,List.set]) ?_
    refine qjl (a:= .list (List.length ([RT.mk x1]:List RT)) (Enc.cellsL ([RT.mk x1]:List RT)) .full) rfl rfl rfl (zhr (α:=RT) (l:=[RT.mk x1]) (cs:=Enc.cells (RT.mk x1)++[]) (q_lit1 (α:=RT) (x:=RT.mk x1) rfl rfl rfl rfl rfl rfl rfl rfl (by decide)) (by rw[Enc.cons,Enc.nil])) (by dsimp only[zy,List.set]) ?_
    refine ziy ?_
    refine zfs (a:=(zch (List.length ((s1.1++[RT.mk x1]):List RT)) (Enc.cellsL ((s1.1++[RT.mk x1]):List RT)))) (σ'':=(zcm [(33,(Enc.cells (t:Tr))),(68,zc106),(68,rtX (.mk t.k t.s t.mn t.mx []) (zch (List.length (s1.1:List RT)) (Enc.cellsL (s1.1:List RT)))),(33,(Enc.cells (x1:Tr)))] 68 (List.length ((s1.1++[RT.mk x1]):List RT)) 260)) rfl rfl rfl (ztp rfl rfl rfl rfl (zjr (α:=RT) (bs:=[(33,(Enc.cells (t:Tr))),(68,zc106),(68,rtX (.mk t.k t.s t.mn t.mx []) (zch (List.length (s1.1:List RT)) (Enc.cellsL (s1.1:List RT)))),(33,(Enc.cells (x1:Tr)))]) (a:=s1.1) (b:=[RT.mk x1]) g3 rfl rfl rfl rfl rfl ⟨rfl,by decide⟩)) (by dsimp only[zy,List.set]) rfl ?_
    refine zhw (a:= .ptr 2 259) rfl rfl rfl rfl (by dsimp only[zy,List.set]) ?_
    refine zfs (σ'':=(zcm [(33,(Enc.cells (t:Tr))),(68,zc106),(68,rtX (.mk t.k t.s t.mn t.mx []) (zch (List.length ((s1.1++[RT.mk x1]):List RT)) (Enc.cellsL ((s1.1++[RT.mk x1]):List RT)))),(33,(Enc.cells (x1:Tr)))] 68 (List.length ((s1.1++[RT.mk x1]):List RT)) 260)) rfl rfl rfl (z7c (.mk t.k t.s t.mn t.mx []) rfl rfl rfl rfl) (by dsimp only[zy,List.set]) rfl ?_
    refine zc (k0:=0) (id:=6) ?_
    refine zhw (a:= .raw (.int .i64 (s1.2+1))) rfl rfl rfl (zbb (znj rfl rfl rfl rfl g4.1 g4.2)) (by dsimp only[zy,List.set]) ?_
    refine zac ?_
    refine zbs (p:=p1) ((s1.1++[RT.mk x1]),(s1.2+1)) h ?_
    exact zfa [true,true,true,true,true,false,false,false,false,false,false,false,false,false,false,false,false,false,true,true,true,false,false,false,false,false,false,false,false,false,false,false,true] 3 (by kernel_rfl) (Nat.le_of_ble_eq_true rfl) (zcw (zav (zal _ _ (Enc.clo _)) (zav qir (zav (qdq _ _) rfl)))) (by dsimp only[zbg,zbz,List.foldl,List.set];exact(za (zam _ _ (zab (Enc.clo _))) (za rfl (za rfl (za rfl (za rfl (za rfl (za rfl (za rfl (za rfl (za rfl (za rfl (za rfl (za rfl (za rfl (za rfl (za rfl (za rfl (za rfl (za (zcl (Enc.cloL _)) (za rfl (za rfl (za rfl (za rfl (za rfl (za rfl (za rfl (za rfl (za rfl (za rfl (za rfl (za rfl (za rfl (za rfl rfl)))))))))))))))))))))))))))))))))) (by kernel_rfl)
   ·
    refine zbv hc1 rfl ?_
    refine zaj h (fun h=> ?_)
    refine zg (o:=or1) (s1.1) h ?_
    exact zdq [true,true,true,true,true,false,false,false,false,false,false,false,false,false,false,false,false,false,false,false,false,false,false,false,false,false,false,false,false,false,false,false,true] (by kernel_rfl) (by kernel_rfl)
 ·
  intro j1 h
  refine zbj (by dsimp only[zbg,zbz,List.foldl,List.set]) rfl ?_
  refine zi (zc ?_)
  refine zhw (a:= .agg (rtX (.mk t.k t.s t.mn t.mx []) (zch (List.length (j1:List RT)) (Enc.cellsL (j1:List RT))))) rfl rfl rfl (zbb (qfq (zos _ _) rfl rfl rfl)) (by dsimp only[zy,List.set]) ?_
  refine zfs (σ'':=(zcm [(33,(Enc.cells (t:Tr))),(68,rtX (.mk t.k t.s t.mn t.mx []) (zch (List.length (j1:List RT)) (Enc.cellsL (j1:List RT)))),(68,rtX (.mk t.k t.s t.mn t.mx []) (zch (List.length (j1:List RT)) (Enc.cellsL (j1:List RT))))] 68 (List.length (j1:List RT)) 260)) rfl rfl rfl (zaz (n:=260) rfl rfl rfl rfl z3m z1a rfl (zos _ _) (by decide)) (by dsimp only[zy,List.set]) rfl ?_
  have hxr:=Option.some.inj h
  subst hxr
  refine z5h (a:= .agg (rtX (.mk t.k t.s t.mn t.mx []) (zch (List.length (j1:List RT)) (Enc.cellsL (j1:List RT))))) (qau rfl ?_) (by rw[zbp];exact qdq _ _) (z9f (.mk t.k t.s t.mn t.mx []) j1)
  have:=rd_rt (rtX (.mk t.k t.s t.mn t.mx []) (zch (List.length (j1:List RT)) (Enc.cellsL (j1:List RT)))) [] (zos _ _)
  rw[List.append_nil] at this
  exact this
end Go.Ab
