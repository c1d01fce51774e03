/-
  Made as a plain function.
-/
import Derived.Test.YtfkkellnlmjenaaGreatZeWe
import Derived.Test.YtfkkellnlmjenaaGreatZeSs
set_option linter.unusedSimpArgs false
set_option linter.unusedVariables false
namespace Go.Ab
open Go Go.RowKit Go.Fwd Go.Proofs
theorem z9y {fuel:Nat} (k:Nat)(a b:Tr)(hk:k=3∨k=4)(hf:2<fuel)(h:(pre a).length≤2^30∧(pre b).length≤2^30):zij fuel (k:Int) a b=some (zfq k a b):=by
 have la:=zll a;have lb:=zll b
 have l1:=zaq a.l;have l2:=zaq b.l
 have hlen: ∀i,(zcc k ([a,b].take i)).length≤2^31:=fun i=>by
  have:=zvu k [a,b] i
  simp only[zap,List.length_append,List.length_nil] at this;omega
 unfold zij zfq
 refine zcb (zcc k [a,b]) ?_ ?_
 ·refine zew 2 (fun i=>(zcc k ([a,b].take i),(i:Int))) (by simp[zcc]) (fun i hi=> ?_) ?_ hf
  ·have hi2:i<[a,b].length:=hi
   refine zbe (by simp only[List.length_cons,List.length_nil];simp;omega) ?_
   refine zcb (zcc k ([a,b].take (i+1))) ?_ (zq (by simp only;omega) (by simp))
   have hs:=hlen i
   rw[qcp k [a,b] i hi2]
   refine zq (by simp only[List.length_cons,List.length_nil];omega) (zai fun x1 e1=> ?_)
   simp only at e1
   rw[zel hi2] at e1
   subst e1
   have hx:(pre [a,b][i]).length≤2^30:=by
    have:[a,b][i]∈[a,b]:=List.getElem_mem hi2
    simp only[List.mem_cons,List.not_mem_nil,or_false] at this
    rcases this with e|e<;>rw[e]<;>omega
   have hxl:=zll [a,b][i];have hxl2:=zaq [a,b][i].l
   cases h1:([a,b][i].k:Int)==k with
   |true=>exact zbe rfl (zq (by simp only;omega) rfl)
   | false=>
    refine zay rfl ?_
    rcases hk with rfl|rfl
    ·refine zbe rfl ?_
     cases h2:([a,b][i].k:Int)==1 with
     |true=>exact zbe rfl (by simp[h2])
     |false=>exact zay rfl (zq (by simp only[List.length_cons,List.length_nil];omega) (by simp[h2]))
    ·refine zay rfl (zq (by simp only[List.length_cons,List.length_nil];omega) (by simp))
  ·exact zay rfl rfl
 ·have hs:=hlen 2
  have hs:(zcc k [a,b]).length≤2^31:=hs
  unfold zrn
  refine z7o (fun h0=>by rw[h0];rfl) fun h0=> ?_
  rw[h0,cond_false]
  refine z7o (fun h1=> ?_) fun h1=> ?_
  ·rw[h1,cond_true]
   refine zq (by have:=eq_of_beq h1;omega) (zai fun x2 e2=> ?_)
   subst e2
   have h1':(zcc k [a,b]).length=1:=by have:=eq_of_beq h1;omega
   match hj:zcc k [a,b],h1' with
   |[z],_=>rfl
  ·rw[h1,cond_false]
   exact zq (by omega) (by rw[Int.toNat_natCast])
theorem tm3 (n:Nat):Int.tmod ((n:Nat):Int) 3=((n%3:Nat):Int):=rfl
theorem tm4 (n:Nat):Int.tmod ((n:Nat):Int) 4=((n%4:Nat):Int):=rfl
theorem zzk {p:List Tr} {k:Nat} (h0:0<k)(h:k≤p.length):ix p ((p.length:Int)-(k:Int))=zfm p k:=by
 rw[show(p.length:Int)-(k:Int)=((p.length-k:Nat):Int) by omega,zel (by omega),zix h0 h]
theorem z8x {p:List Tr} {k:Nat} (h0:0<k)(h:k≤p.length):zfm p k∈p:=by rw[zix h0 h];exact List.getElem_mem _
set_option maxRecDepth 10000 in
theorem made_eq {fuel:Nat} (l:List Sm)(hl:l.length<2^63)(hu: ∀x∈l,x.2.1<256)(hf:60<fuel):z8o fuel l=some (zuw l):=by
 obtain⟨m,hm⟩: ∃m,l.take 25=m:=⟨_,rfl⟩
 have hlen:m.length≤25:=by rw[←hm,List.length_take];omega
 have hmu: ∀x∈m,x.2.1<256:=fun x hx=>hu x (List.mem_of_mem_take (hm▸hx))
 have hsub:sub l 0 (min (l.length:Int) 25)=m:=by
  rw[←hm,sub,Int.toNat_zero,List.drop_zero]
  by_cases h:l.length≤25
  ·rw[List.take_of_length_le (by omega),List.take_of_length_le h]
  ·rw[show(min (l.length:Int) 25).toNat-0=25 by omega]
 have e25:MM m 25=MM m m.length:=by rw[MM,MM,List.take_of_length_le hlen,List.take_length]
 unfold z8o
 simp only[hsub]
 rw[zuw,hm,e25]
 have hI:=invM m
 refine zcb (MM m m.length).1 ?_ ?_
 ·refine zq (by omega) ?_
  refine zew m.length (fun i=>((MM m i).2.1,(MM m i).2.2,(i:Int),(MM m i).1)) (by simp[MM]) (fun i hi=> ?_) ?_ (by omega)
  ·refine zbe (by simpa using hi) ?_
   refine zcb ((MM m (i+1)).2.1,(MM m (i+1)).2.2,(MM m (i+1)).1) ?_ (zq (by simp only;omega) (by simp))
   obtain⟨i1,i2,i3,i4,i5⟩:=hI i (by omega)
   rw[z7e m i hi]
   obtain⟨x,hx⟩: ∃x,x=m[i]:=⟨_,rfl⟩
   rw[←hx]
   have hxu:=hmu x (hx▸List.getElem_mem hi)
   generalize hst:MM m i=st at i1 i2 i3 i4 i5⊢
   obtain⟨p,u,g⟩:=st
   dsimp only at i1 i2 i3 i4 i5⊢
   obtain⟨T,hT⟩: ∃T,T=zrm (p,u,g) x:=⟨_,rfl⟩
   rw[←hT]
   have hp:=zaq p
   have hsz: ∀y∈p,(pre y).length≤2^30:=fun y hy=>by have:=zck hy;omega
   refine zq (by omega) (zai fun x1 e1=> ?_)
   rw[zel hi,←hx] at e1
   subst e1
   have hu8:u≤16:=i5
   unfold zrm at hT
   dsimp only at hT
   have happ: ∀ {ρ:Type} (z:Tr) {q:Prop} {iq:Decidable q},(0<p.length→q)→(bif p.isEmpty then(chk (0<[z].length∧[z].length*80≤140737488355328) (some (Sum.inl (u,g,[z])))) else(@chk _ q iq (some (Sum.inl (u,g,p++[z])))))=(some (Sum.inl (u,g,p++[z])):Option ((Int×Int×List Tr) ⊕ ρ)):=fun {ρ} z {q} {iq} hq=>
    z7o (fun he=>zq (by simp) (by rw[List.isEmpty_iff.1 he];rfl)) fun he=>zq (hq (zfz he)) rfl
   have hq1: ∀z:Tr,0<p.length→(True∧0<p.length∧0<[z].length∧(p.length+[z].length)*80≤140737488355328):=fun z hz=>by simp only[List.length_cons,List.length_nil];exact⟨trivial,hz,by omega,by omega⟩
   cases c1:decide (kI x<4) with
   | true=>
    rw[c1,cond_true] at hT
    subst hT
    refine zbe c1 (zq (by omega) (zai fun x2 e2=> ?_))
    rw[Int.toNat_natCast] at e2
    subst e2
    refine zq (qjl x.2.1 hxu).1 (zai fun x3 e3=> ?_)
    rw[clsU_lb x.2.1 hxu] at e3
    subst e3
    exact happ _ (hq1 _)
   | false =>
    refine zay c1 ?_
    rw[c1,cond_false] at hT
    cases c2:kI x==4 with
    | true=>
     rw[c2,cond_true] at hT
     subst hT
     exact zbe c2 (happ _ (hq1 _))
    | false =>
     refine zay c2 ?_
     rw[c2,cond_false] at hT
     have hjoin: ∀ {ρ:Type} (k:Nat),k=3∨k=4→(p.length:Int)>1→(bif p.isEmpty then(chk (-9223372036854775808≤((p.length:Int)-2)∧((p.length:Int)-2)<9223372036854775808) (chk (-9223372036854775808≤((p.length:Int)-2)∧((p.length:Int)-2)<9223372036854775808) none)) else(chk (-9223372036854775808≤((p.length:Int)-2)∧((p.length:Int)-2)<9223372036854775808) (chk (-9223372036854775808≤((p.length:Int)-2)∧((p.length:Int)-2)<9223372036854775808) (bif (((p.length:Int)-2)==0) then(chk (-9223372036854775808≤((p.length:Int)-2)∧((p.length:Int)-2)<9223372036854775808) (chk (0≤((p.length:Int)-2)∧((p.length:Int)-2)<((p.length:Nat):Int)) (chk (0≤((p.length:Int)-2)∧((p.length:Int)-2)<(p.length:Int)) (zbc (ix p ((p.length:Int)-2)) (fun x4=>(chk (-9223372036854775808≤((p.length:Int)-1)∧((p.length:Int)-1)<9223372036854775808) (chk (0≤((p.length:Int)-1)∧((p.length:Int)-1)<((p.length:Nat):Int)) (chk (0≤((p.length:Int)-1)∧((p.length:Int)-1)<(p.length:Int)) (zbc (ix p ((p.length:Int)-1)) (fun x5=>(zav (zij fuel (k:Int) x4 x5) (fun x6=>(chk (0<[x6].length∧[x6].length*80≤140737488355328) (some (Sum.inl (u,g,[x6])))))))))))))))) else(chk (0<((p.length:Int)-2)∧((p.length:Int)-2)≤((p.length:Nat):Int)) (chk (-9223372036854775808≤((p.length:Int)-2)∧((p.length:Int)-2)<9223372036854775808) (chk (0≤((p.length:Int)-2)∧((p.length:Int)-2)<((p.length:Nat):Int)) (chk (0≤((p.length:Int)-2)∧((p.length:Int)-2)<(p.length:Int)) (zbc (ix p ((p.length:Int)-2)) (fun x7=>(chk (-9223372036854775808≤((p.length:Int)-1)∧((p.length:Int)-1)<9223372036854775808) (chk (0≤((p.length:Int)-1)∧((p.length:Int)-1)<((p.length:Nat):Int)) (chk (0≤((p.length:Int)-1)∧((p.length:Int)-1)<(p.length:Int)) (zbc (ix p ((p.length:Int)-1)) (fun x8=>(zav (zij fuel (k:Int) x7 x8) (fun x9=>(chk ((Int.toNat ((p.length:Int)-2))≤p.length∧0<[x9].length∧((Int.toNat ((p.length:Int)-2))+[x9].length)*80≤140737488355328) (some (Sum.inl (u,g,(List.take (Int.toNat ((p.length:Int)-2)) p++[x9]))))))))))))))))))))))=(some (Sum.inl (u,g,p.take (p.length-2)++[zfq k (zfm p 2) (zfm p 1)])):Option ((Int×Int×List Tr) ⊕ ρ)):=by
      intro ρ k hk hp2
      have s2:=hsz _ (z8x (k:=2) (p:=p) (by omega) (by omega));have s1:=hsz _ (z8x (k:=1) (p:=p) (by omega) (by omega))
      have q2:=zzk (k:=2) (p:=p) (by omega) (by omega);have q1:=zzk (k:=1) (p:=p) (by omega) (by omega)
      have hj:=z9y (fuel:=fuel) k (zfm p 2) (zfm p 1) hk (by omega) ⟨s2,s1⟩
      have hne:p.isEmpty=false:=by cases p with|nil=>simp at hp2|cons _ _=>rfl
      refine zay hne (zq (by omega) (zq (by omega) (z7o (fun h0=> ?_) fun h0=> ?_)))
      ·refine zq (by omega) (zq (by omega) (zq (by omega) (zai fun x4 e4=>zq (by omega) (zq (by omega) (zq (by omega) (zai fun x5 e5=> ?_))))))
       rw[show((p.length:Int)-2)=(p.length:Int)-((2:Nat):Int) from rfl,q2] at e4
       rw[show((p.length:Int)-1)=(p.length:Int)-((1:Nat):Int) from rfl,q1] at e5
       subst e4 e5
       refine zaw _ hj (zq (by simp) ?_)
       have:=eq_of_beq h0
       rw[show p.length-2=0 by omega];rfl
      ·have h0: ¬((p.length:Int)-2=0):=by simpa using h0
       refine zq (by omega) (zq (by omega) (zq (by omega) (zq (by omega) (zai fun x4 e4=>zq (by omega) (zq (by omega) (zq (by omega) (zai fun x5 e5=> ?_)))))))
       rw[show((p.length:Int)-2)=(p.length:Int)-((2:Nat):Int) from rfl,q2] at e4
       rw[show((p.length:Int)-1)=(p.length:Int)-((1:Nat):Int) from rfl,q1] at e5
       subst e4 e5
       refine zaw _ hj (zq (by simp only[List.length_cons,List.length_nil];omega) ?_)
       rw[show((p.length:Int)-2).toNat=p.length-2 by omega]
     have hA:cA p x=(bif decide (kI x<7) then decide ((p.length:Int)>1) else false):=by unfold cA;cases decide (kI x<7)<;>rfl
     refine zcb (cA p x) (by rw[hA];show(bif decide (kI x<7) then _ else _)=_;cases decide (kI x<7)<;>rfl) ?_
     cases c3:cA p x with
     | true=>
      rw[c3,cond_true] at hT
      subst hT
      have h2:(p.length:Int)>1:=by rw[cA,Bool.and_eq_true] at c3;exact of_decide_eq_true c3.2
      exact zbe rfl (hjoin 3 (.inl rfl) h2)
     | false =>
      refine zay rfl ?_
      rw[c3,cond_false] at hT
      have hB:cB p x=(bif decide (kI x<9) then decide ((p.length:Int)>1) else false):=by unfold cB;cases decide (kI x<9)<;>rfl
      refine zcb (cB p x) (by rw[hB];show(bif decide (kI x<9) then _ else _)=_;cases decide (kI x<9)<;>rfl) ?_
      cases c4:cB p x with
      | true=>
       rw[c4,cond_true] at hT
       subst hT
       have h2:(p.length:Int)>1:=by rw[cB,Bool.and_eq_true] at c4;exact of_decide_eq_true c4.2
       exact zbe rfl (hjoin 4 (.inr rfl) h2)
      | false =>
       refine zay rfl ?_
       rw[c4,cond_false] at hT
       have hC:cC p g x=(bif kI x==9 then(bif decide ((p.length:Int)>0) then decide (g<9) else false) else false):=by unfold cC;cases kI x==9<;>cases decide ((p.length:Int)>0)<;>rfl
       refine zcb (cC p g x) (by rw[hC];show(bif kI x==9 then _ else _)=_;cases kI x==9<;>cases decide ((p.length:Int)>0)<;>rfl) ?_
       cases c5:cC p g x with
       | true=>
        rw[c5,cond_true] at hT
        subst hT
        have h3:(p.length:Int)>0∧g<9:=by
         simp only[cC,Bool.and_eq_true,decide_eq_true_eq] at c5;exact⟨c5.1.2,c5.2⟩
        have hne:p.isEmpty=false:=by cases p with|nil=>simp at h3|cons _ _=>rfl
        have q1:=zzk (k:=1) (p:=p) (by omega) (by omega)
        refine zbe rfl (zay hne (zq (by omega) (zq (by omega) (zq (by omega) (zq (by omega) (zai fun x4 e4=> ?_))))))
        rw[show((p.length:Int)-1)=(p.length:Int)-((1:Nat):Int) from rfl,q1] at e4
        subst e4
        refine zaw _ rfl (zq (by omega) (zq (by omega) (zai fun x5 e5=>zq (by omega) ?_)))
        rw[show((p.length:Int)-1).toNat=p.length-1 by omega]
       | false=>
        refine zay rfl ?_
        rw[c5,cond_false] at hT
        cases hpe:p.isEmpty with
        | true=>
         have hp0:p=[]:=List.isEmpty_iff.1 hpe
         have hD:cD p x=false:=by rw[hp0];simp[cD]
         rw[hD,cond_false] at hT
         subst hT
         refine zbe rfl (zcb () ?_ rfl)
         subst hp0
         show(bif decide (kI x>9) then _ else _)=_
         cases decide (kI x>9)<;>rfl
        | false=>
         have hpos:=zfz hpe
         have q1:=zzk (k:=1) (p:=p) (by omega) (by omega)
         have hD:cD p x=(bif decide (kI x>9) then(bif decide ((p.length:Int)>0) then(((zfm p 1).k:Int) !=1) else false) else false):=by unfold cD;cases decide (kI x>9)<;>cases decide ((p.length:Int)>0)<;>rfl
         refine zay rfl (zcb (cD p x) ?_ ?_)
         ·rw [hD]
          show(bif decide (kI x>9) then _ else _)=_
          cases decide (kI x>9) with
          |false=>rfl
          | true=>
           cases decide ((p.length:Int)>0) with
           |false=>rfl
           | true=>
            refine zq (by omega) (zq (by omega) (zq (by omega) (zai fun x4 e4=> ?_)))
            rw[show((p.length:Int)-1)=(p.length:Int)-((1:Nat):Int) from rfl,q1] at e4
            subst e4;rfl
         ·cases c6:cD p x with
          |false=>rw[c6,cond_false] at hT;subst hT;rfl
          | true=>
           rw[c6,cond_true] at hT
           refine zbe rfl (zq (by rw[tm3];omega) (zq (by rw[tm4];omega) (zcb (moM x) ?_ ?_)))
           ·refine zcb (badM x) ?_ ?_
            ·unfold badM m4 loM
             show(bif decide (((x.2.2%4:Nat):Int)<((x.2.1%3:Nat):Int)) then _ else bif ((x.2.2%4:Nat):Int)==0 then _ else bif ((x.2.1%3:Nat):Int)==1 then some (Sum.inl (((x.2.2%4:Nat):Int)==1)) else _)=_
             cases decide (((x.2.2%4:Nat):Int)<((x.2.1%3:Nat):Int))<;>cases ((x.2.2%4:Nat):Int)==0<;>cases ((x.2.1%3:Nat):Int)==1<;>rfl
            ·unfold moM;cases badM x<;>rfl
           ·have ht:=qfr x
            have htm:max (max (Int.tmod ((x.2.1:Nat):Int) 3) (moM x)) 1=tmM x:=rfl
            have hmul:0≤u*tmM x∧u*tmM x≤48:=by
             have h1:=Int.mul_le_mul (a:=u) (b:=tmM x) (c:=16) (d:=3) (by omega) (by omega) (by omega) (by omega)
             have h2:=Int.mul_nonneg (a:=u) (b:=tmM x) (by omega) (by omega)
             omega
            refine zq (by rw[htm];omega) ?_
            cases c7:decide (u*tmM x≤16) with
            |false=>rw[c7,cond_false] at hT;subst hT;exact zay c7 rfl
            | true=>
             rw[c7,cond_true] at hT
             subst hT
             refine zbe c7 (zq (by rw[htm];omega) (zq (by omega) (zq (by omega) (zq (by omega) (zq (by omega) (zai fun x4 e4=> ?_))))))
             rw[show((p.length:Int)-1)=(p.length:Int)-((1:Nat):Int) from rfl,q1] at e4
             subst e4
             refine zaw _ rfl (zq (by omega) (zq (by omega) (zai fun x5 e5=> ?_)))
             rw[show((p.length:Int)-1).toNat=p.length-1 by omega];rfl
  ·exact zay (by simp) rfl
 ·obtain⟨i1,i2,i3,i4,i5⟩:=hI m.length (Nat.le_refl _)
  generalize (MM m m.length).1=p at i1⊢
  have hp:=zaq p
  have hsz: ∀y∈p,(pre y).length≤25:=fun y hy=>by have:=zck hy;omega
  match p,hp,hsz,i1 with
  | [],_,_,_=>
   refine z7y (qap [97]) ?_ rfl
   refine zbe rfl (zbe rfl (zq (by decide) (zai fun x2 e2=> ?_)))
   subst e2;rfl
  | y ::q,hp,hsz,i1=>
   refine zcb () ?_ ?_
   ·refine zay rfl (zay (by simp;omega) rfl)
   ·refine zay rfl (zq (by simp) (zq (by simp) (zai fun x25 e25=> ?_)))
    have e25:y=x25:=e25
    subst e25
    refine zcb (qos (y::q)) ?_ rfl
    by_cases hq:q=[]
    ·subst hq
     refine zbe rfl (zq (by omega) ?_)
     match fuel,hf with
     |f+1,_=>rfl
    ·have hq1:0<q.length:=List.length_pos_iff.2 hq
     refine zay (by simp;omega) (zq (by simp;omega) ?_)
     have hend:=qmw (p:=y::q) (by simp)
     simp only[List.length_cons] at hp i1 hend⊢
     refine zew q.length (fun i=>((i:Int),qjq (y::q) i)) rfl (fun i hi=> ?_) ?_ (by omega)
     ·refine zbe (by simp;omega) (zq (by simp only;omega) (zq (by simp only;omega) (zai fun x26 e26=> ?_)))
      simp only at e26
      have e26':(y::q)[i+1]'(by simp;omega)=x26:=by
       rw[←e26,show(((Int.toNat 1:Nat):Int)+(i:Int))=((i+1:Nat):Int) by simp;omega,zel (by simp;omega)]
      have hacc:=qdd (p:=y::q) (by simp) i (by simp;omega)
      have htk:=zrb (y::q) (i+1)
      have hj:=z9y (fuel:=fuel) 4 (qjq (y::q) i) x26 (.inr rfl) (by omega) ⟨by omega,by rw[←e26'];have:=hsz _ (List.getElem_mem (l:=y::q) (n:=i+1) (by simp;omega));omega⟩
      refine zaw _ hj (zq (by simp only;omega) ?_)
      rw[z4n (p:=y::q) (i:=i) (by simp;omega),e26'];rfl
     ·refine zay (by simp) ?_
      simp only[Nat.add_sub_cancel] at hend
      rw[hend]
theorem k_made (l:List Sm)(h:l.length<2^63∧ ∀x∈l,x.2.1<256):Pure (ITP Tryz.prog) Tryz.prog 9 [.list l.length (Enc.cellsL l) .none] (.agg (Enc.cells (zuw l))):=made_sh 61 l _ (made_eq l h.1 h.2 (by decide))
end Go.Ab
