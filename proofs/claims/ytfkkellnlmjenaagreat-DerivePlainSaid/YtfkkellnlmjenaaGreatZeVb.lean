/-
  Made as a plain function.
-/
import Derived.Test.YtfkkellnlmjenaaGreatZeWe
import Derived.Test.YtfkkellnlmjenaaGreatZeSs
set_option linter.unusedSimpArgs false
set_option linter.unusedVariables false
namespace Go.Ab
open Go Go.RowKit Go.Fwd Go.Proofs
theorem z9w {fuel:Nat} (k:Nat)(a b:Tr)(hk:k=3∨k=4)(hf:2<fuel)(h:(pre a).length≤2^30∧(pre b).length≤2^30):ziy fuel (k:Int) a b=some (zft k a b):=by
 have la:=zlj a;have lb:=zlj b
 have l1:=zan a.l;have l2:=zan b.l
 have hlen: ∀i,(zar k ([a,b].take i)).length≤2^31:=fun i=>by
  have:=zwd k [a,b] i
  simp only[zae,List.length_append,List.length_nil] at this;omega
 unfold ziy zft
 refine zbw (zar k [a,b]) ?_ ?_
 ·refine zet 2 (fun i=>(zar k ([a,b].take i),(i:Int))) (by simp[zar]) (fun i hi=> ?_) ?_ hf
  ·have hi2:i<[a,b].length:=hi
   refine zbp (by simp only[List.length_cons,List.length_nil];simp;omega) ?_
   refine zbw (zar k ([a,b].take (i+1))) ?_ (zm (by simp only;omega) (by simp))
   have hs:=hlen i
   rw[qdg k [a,b] i hi2]
   refine zm (by simp only[List.length_cons,List.length_nil];omega) (zad fun x1 e1=> ?_)
   simp only at e1
   rw[zdw hi2] at e1
   subst e1
   have hx:(pre [a,b][i]).length≤2^30:=by
    have:[a,b][i]∈[a,b]:=List.getElem_mem hi2
    simp only[List.mem_cons,List.not_mem_nil,or_false] at this
    rcases this with e|e<;>rw[e]<;>omega
   have hxl:=zlj [a,b][i];have hxl2:=zan [a,b][i].l
   cases h1:([a,b][i].k:Int)==k with
   |true=>exact zbp rfl (zm (by simp only;omega) rfl)
   | false=>
    refine zaw rfl ?_
    rcases hk with rfl|rfl
    ·refine zbp rfl ?_
     cases h2:([a,b][i].k:Int)==1 with
     |true=>exact zbp rfl (by simp[h2])
     |false=>exact zaw rfl (zm (by simp only[List.length_cons,List.length_nil];omega) (by simp[h2]))
    ·refine zaw rfl (zm (by simp only[List.length_cons,List.length_nil];omega) (by simp))
  ·exact zaw rfl rfl
 ·have hs:=hlen 2
  have hs:(zar k [a,b]).length≤2^31:=hs
  unfold zmw
  refine z7x (fun h0=>by rw[h0];rfl) fun h0=> ?_
  rw[h0,cond_false]
  refine z7x (fun h1=> ?_) fun h1=> ?_
  ·rw[h1,cond_true]
   refine zm (by have:=eq_of_beq h1;omega) (zad fun x2 e2=> ?_)
   subst e2
   have h1':(zar k [a,b]).length=1:=by have:=eq_of_beq h1;omega
   match hj:zar k [a,b],h1' with
   |[z],_=>rfl
  ·rw[h1,cond_false]
   exact zm (by omega) (by rw[Int.toNat_natCast])
theorem tm3 (n:Nat):Int.tmod ((n:Nat):Int) 3=((n%3:Nat):Int):=rfl
theorem tm4 (n:Nat):Int.tmod ((n:Nat):Int) 4=((n%4:Nat):Int):=rfl
theorem zyv {p:List Tr} {k:Nat} (h0:0<k)(h:k≤p.length):ix p ((p.length:Int)-(k:Int))=zfq p k:=by
 rw[show(p.length:Int)-(k:Int)=((p.length-k:Nat):Int) by omega,zdw (by omega),zjf h0 h]
theorem z9g {p:List Tr} {k:Nat} (h0:0<k)(h:k≤p.length):zfq p k∈p:=by rw[zjf h0 h];exact List.getElem_mem _
set_option maxRecDepth 10000 in
theorem made_eq {fuel:Nat} (l:List Sm)(hl:l.length<2^63)(hu: ∀x∈l,x.2.1<256)(hf:60<fuel):z9t fuel l=some (zub l):=by
 obtain⟨m,hm⟩: ∃m,l.take 25=m:=⟨_,rfl⟩
 have hlen:m.length≤25:=by rw[←hm,List.length_take];omega
 have hmu: ∀x∈m,x.2.1<256:=fun x hx=>hu x (List.mem_of_mem_take (hm▸hx))
 have hsub:sub l 0 (min (l.length:Int) 25)=m:=by
  rw[←hm,sub,Int.toNat_zero,List.drop_zero]
  by_cases h:l.length≤25
  ·rw[List.take_of_length_le (by omega),List.take_of_length_le h]
  ·rw[show(min (l.length:Int) 25).toNat-0=25 by omega]
 have e25:MM m 25=MM m m.length:=by rw[MM,MM,List.take_of_length_le hlen,List.take_length]
 unfold z9t
 simp only[hsub]
 rw[zub,hm,e25]
 have hI:=invM m
 refine zbw (MM m m.length).1 ?_ ?_
 ·refine zm (by omega) ?_
  refine zet m.length (fun i=>((MM m i).2.1,(MM m i).2.2,(i:Int),(MM m i).1)) (by simp[MM]) (fun i hi=> ?_) ?_ (by omega)
  ·refine zbp (by simpa using hi) ?_
   refine zbw ((MM m (i+1)).2.1,(MM m (i+1)).2.2,(MM m (i+1)).1) ?_ (zm (by simp only;omega) (by simp))
   obtain⟨i1,i2,i3,i4,i5⟩:=hI i (by omega)
   rw[z6l m i hi]
   obtain⟨x,hx⟩: ∃x,x=m[i]:=⟨_,rfl⟩
   rw[←hx]
   have hxu:=hmu x (hx▸List.getElem_mem hi)
   generalize hst:MM m i=st at i1 i2 i3 i4 i5⊢
   obtain⟨p,u,g⟩:=st
   dsimp only at i1 i2 i3 i4 i5⊢
   obtain⟨T,hT⟩: ∃T,T=zru (p,u,g) x:=⟨_,rfl⟩
   rw[←hT]
   have hp:=zan p
   have hsz: ∀y∈p,(pre y).length≤2^30:=fun y hy=>by have:=zbq hy;omega
   refine zm (by omega) (zad fun x1 e1=> ?_)
   rw[zdw hi,←hx] at e1
   subst e1
   have hu8:u≤16:=i5
   unfold zru at hT
   dsimp only at hT
   have happ: ∀ {ρ:Type} (z:Tr) {q:Prop} {iq:Decidable q},(0<p.length→q)→(bif p.isEmpty then(chk (0<[z].length∧[z].length*80≤140737488355328) (some (Sum.inl (u,g,[z])))) else(@chk _ q iq (some (Sum.inl (u,g,p++[z])))))=(some (Sum.inl (u,g,p++[z])):Option ((Int×Int×List Tr) ⊕ ρ)):=fun {ρ} z {q} {iq} hq=>
    z7x (fun he=>zm (by simp) (by rw[List.isEmpty_iff.1 he];rfl)) fun he=>zm (hq (zgf he)) rfl
   have hq1: ∀z:Tr,0<p.length→(True∧0<p.length∧0<[z].length∧(p.length+[z].length)*80≤140737488355328):=fun z hz=>by simp only[List.length_cons,List.length_nil];exact⟨trivial,hz,by omega,by omega⟩
   cases c1:decide (kI x<4) with
   | true=>
    rw[c1,cond_true] at hT
    subst hT
    refine zbp c1 (zm (by omega) (zad fun x2 e2=> ?_))
    rw[Int.toNat_natCast] at e2
    subst e2
    refine zm (qkf x.2.1 hxu).1 (zad fun x3 e3=> ?_)
    rw[clsU_lb x.2.1 hxu] at e3
    subst e3
    exact happ _ (hq1 _)
   | false =>
    refine zaw c1 ?_
    rw[c1,cond_false] at hT
    cases c2:kI x==4 with
    | true=>
     rw[c2,cond_true] at hT
     subst hT
     exact zbp c2 (happ _ (hq1 _))
    | false =>
     refine zaw c2 ?_
     rw[c2,cond_false] at hT
     have hjoin: ∀ {ρ:Type} (k:Nat),k=3∨k=4→(p.length:Int)>1→(bif p.isEmpty then(chk (-9223372036854775808≤((p.length:Int)-2)∧((p.length:Int)-2)<9223372036854775808) (chk (-9223372036854775808≤((p.length:Int)-2)∧((p.length:Int)-2)<9223372036854775808) none)) else(chk (-9223372036854775808≤((p.length:Int)-2)∧((p.length:Int)-2)<9223372036854775808) (chk (-9223372036854775808≤((p.length:Int)-2)∧((p.length:Int)-2)<9223372036854775808) (bif (((p.length:Int)-2)==0) then(chk (-9223372036854775808≤((p.length:Int)-2)∧((p.length:Int)-2)<9223372036854775808) (chk (0≤((p.length:Int)-2)∧((p.length:Int)-2)<((p.length:Nat):Int)) (chk (0≤((p.length:Int)-2)∧((p.length:Int)-2)<(p.length:Int)) (zba (ix p ((p.length:Int)-2)) (fun x4=>(chk (-9223372036854775808≤((p.length:Int)-1)∧((p.length:Int)-1)<9223372036854775808) (chk (0≤((p.length:Int)-1)∧((p.length:Int)-1)<((p.length:Nat):Int)) (chk (0≤((p.length:Int)-1)∧((p.length:Int)-1)<(p.length:Int)) (zba (ix p ((p.length:Int)-1)) (fun x5=>(zau (ziy fuel (k:Int) x4 x5) (fun x6=>(chk (0<[x6].length∧[x6].length*80≤140737488355328) (some (Sum.inl (u,g,[x6])))))))))))))))) else(chk (0<((p.length:Int)-2)∧((p.length:Int)-2)≤((p.length:Nat):Int)) (chk (-9223372036854775808≤((p.length:Int)-2)∧((p.length:Int)-2)<9223372036854775808) (chk (0≤((p.length:Int)-2)∧((p.length:Int)-2)<((p.length:Nat):Int)) (chk (0≤((p.length:Int)-2)∧((p.length:Int)-2)<(p.length:Int)) (zba (ix p ((p.length:Int)-2)) (fun x7=>(chk (-9223372036854775808≤((p.length:Int)-1)∧((p.length:Int)-1)<9223372036854775808) (chk (0≤((p.length:Int)-1)∧((p.length:Int)-1)<((p.length:Nat):Int)) (chk (0≤((p.length:Int)-1)∧((p.length:Int)-1)<(p.length:Int)) (zba (ix p ((p.length:Int)-1)) (fun x8=>(zau (ziy fuel (k:Int) x7 x8) (fun x9=>(chk ((Int.toNat ((p.length:Int)-2))≤p.length∧0<[x9].length∧((Int.toNat ((p.length:Int)-2))+[x9].length)*80≤140737488355328) (some (Sum.inl (u,g,(List.take (Int.toNat ((p.length:Int)-2)) p++[x9]))))))))))))))))))))))=(some (Sum.inl (u,g,p.take (p.length-2)++[zft k (zfq p 2) (zfq p 1)])):Option ((Int×Int×List Tr) ⊕ ρ)):=by
      intro ρ k hk hp2
      have s2:=hsz _ (z9g (k:=2) (p:=p) (by omega) (by omega));have s1:=hsz _ (z9g (k:=1) (p:=p) (by omega) (by omega))
      have q2:=zyv (k:=2) (p:=p) (by omega) (by omega);have q1:=zyv (k:=1) (p:=p) (by omega) (by omega)
      have hj:=z9w (fuel:=fuel) k (zfq p 2) (zfq p 1) hk (by omega) ⟨s2,s1⟩
      have hne:p.isEmpty=false:=by cases p with|nil=>simp at hp2|cons _ _=>rfl
      refine zaw hne (zm (by omega) (zm (by omega) (z7x (fun h0=> ?_) fun h0=> ?_)))
      ·refine zm (by omega) (zm (by omega) (zm (by omega) (zad fun x4 e4=>zm (by omega) (zm (by omega) (zm (by omega) (zad fun x5 e5=> ?_))))))
       rw[show((p.length:Int)-2)=(p.length:Int)-((2:Nat):Int) from rfl,q2] at e4
       rw[show((p.length:Int)-1)=(p.length:Int)-((1:Nat):Int) from rfl,q1] at e5
       subst e4 e5
       refine zbh _ hj (zm (by simp) ?_)
       have:=eq_of_beq h0
       rw[show p.length-2=0 by omega];rfl
      ·have h0: ¬((p.length:Int)-2=0):=by simpa using h0
       refine zm (by omega) (zm (by omega) (zm (by omega) (zm (by omega) (zad fun x4 e4=>zm (by omega) (zm (by omega) (zm (by omega) (zad fun x5 e5=> ?_)))))))
       rw[show((p.length:Int)-2)=(p.length:Int)-((2:Nat):Int) from rfl,q2] at e4
       rw[show((p.length:Int)-1)=(p.length:Int)-((1:Nat):Int) from rfl,q1] at e5
       subst e4 e5
       refine zbh _ hj (zm (by simp only[List.length_cons,List.length_nil];omega) ?_)
       rw[show((p.length:Int)-2).toNat=p.length-2 by omega]
     have hA:cA p x=(bif decide (kI x<7) then decide ((p.length:Int)>1) else false):=by unfold cA;cases decide (kI x<7)<;>rfl
     refine zbw (cA p x) (by rw[hA];show(bif decide (kI x<7) then _ else _)=_;cases decide (kI x<7)<;>rfl) ?_
     cases c3:cA p x with
     | true=>
      rw[c3,cond_true] at hT
      subst hT
      have h2:(p.length:Int)>1:=by rw[cA,Bool.and_eq_true] at c3;exact of_decide_eq_true c3.2
      exact zbp rfl (hjoin 3 (.inl rfl) h2)
     | false =>
      refine zaw rfl ?_
      rw[c3,cond_false] at hT
      have hB:cB p x=(bif decide (kI x<9) then decide ((p.length:Int)>1) else false):=by unfold cB;cases decide (kI x<9)<;>rfl
      refine zbw (cB p x) (by rw[hB];show(bif decide (kI x<9) then _ else _)=_;cases decide (kI x<9)<;>rfl) ?_
      cases c4:cB p x with
      | true=>
       rw[c4,cond_true] at hT
       subst hT
       have h2:(p.length:Int)>1:=by rw[cB,Bool.and_eq_true] at c4;exact of_decide_eq_true c4.2
       exact zbp rfl (hjoin 4 (.inr rfl) h2)
      | false =>
       refine zaw rfl ?_
       rw[c4,cond_false] at hT
       have hC:cC p g x=(bif kI x==9 then(bif decide ((p.length:Int)>0) then decide (g<9) else false) else false):=by unfold cC;cases kI x==9<;>cases decide ((p.length:Int)>0)<;>rfl
       refine zbw (cC p g x) (by rw[hC];show(bif kI x==9 then _ else _)=_;cases kI x==9<;>cases decide ((p.length:Int)>0)<;>rfl) ?_
       cases c5:cC p g x with
       | true=>
        rw[c5,cond_true] at hT
        subst hT
        have h3:(p.length:Int)>0∧g<9:=by
         simp only[cC,Bool.and_eq_true,decide_eq_true_eq] at c5;exact⟨c5.1.2,c5.2⟩
        have hne:p.isEmpty=false:=by cases p with|nil=>simp at h3|cons _ _=>rfl
        have q1:=zyv (k:=1) (p:=p) (by omega) (by omega)
        refine zbp rfl (zaw hne (zm (by omega) (zm (by omega) (zm (by omega) (zm (by omega) (zad fun x4 e4=> ?_))))))
        rw[show((p.length:Int)-1)=(p.length:Int)-((1:Nat):Int) from rfl,q1] at e4
        subst e4
        refine zbh _ rfl (zm (by omega) (zm (by omega) (zad fun x5 e5=>zm (by omega) ?_)))
        rw[show((p.length:Int)-1).toNat=p.length-1 by omega]
       | false=>
        refine zaw rfl ?_
        rw[c5,cond_false] at hT
        cases hpe:p.isEmpty with
        | true=>
         have hp0:p=[]:=List.isEmpty_iff.1 hpe
         have hD:cD p x=false:=by rw[hp0];simp[cD]
         rw[hD,cond_false] at hT
         subst hT
         refine zbp rfl (zbw () ?_ rfl)
         subst hp0
         show(bif decide (kI x>9) then _ else _)=_
         cases decide (kI x>9)<;>rfl
        | false=>
         have hpos:=zgf hpe
         have q1:=zyv (k:=1) (p:=p) (by omega) (by omega)
         have hD:cD p x=(bif decide (kI x>9) then(bif decide ((p.length:Int)>0) then(((zfq p 1).k:Int) !=1) else false) else false):=by unfold cD;cases decide (kI x>9)<;>cases decide ((p.length:Int)>0)<;>rfl
         refine zaw rfl (zbw (cD p x) ?_ ?_)
         ·rw [hD]
          show(bif decide (kI x>9) then _ else _)=_
          cases decide (kI x>9) with
          |false=>rfl
          | true=>
           cases decide ((p.length:Int)>0) with
           |false=>rfl
           | true=>
            refine zm (by omega) (zm (by omega) (zm (by omega) (zad fun x4 e4=> ?_)))
            rw[show((p.length:Int)-1)=(p.length:Int)-((1:Nat):Int) from rfl,q1] at e4
            subst e4;rfl
         ·cases c6:cD p x with
          |false=>rw[c6,cond_false] at hT;subst hT;rfl
          | true=>
           rw[c6,cond_true] at hT
           refine zbp rfl (zm (by rw[tm3];omega) (zm (by rw[tm4];omega) (zbw (moM x) ?_ ?_)))
           ·refine zbw (badM x) ?_ ?_
            ·unfold badM m4 loM
             show(bif decide (((x.2.2%4:Nat):Int)<((x.2.1%3:Nat):Int)) then _ else bif ((x.2.2%4:Nat):Int)==0 then _ else bif ((x.2.1%3:Nat):Int)==1 then some (Sum.inl (((x.2.2%4:Nat):Int)==1)) else _)=_
             cases decide (((x.2.2%4:Nat):Int)<((x.2.1%3:Nat):Int))<;>cases ((x.2.2%4:Nat):Int)==0<;>cases ((x.2.1%3:Nat):Int)==1<;>rfl
            ·unfold moM;cases badM x<;>rfl
           ·have ht:=qjz x
            have htm:max (max (Int.tmod ((x.2.1:Nat):Int) 3) (moM x)) 1=tmM x:=rfl
            have hmul:0≤u*tmM x∧u*tmM x≤48:=by
             have h1:=Int.mul_le_mul (a:=u) (b:=tmM x) (c:=16) (d:=3) (by omega) (by omega) (by omega) (by omega)
             have h2:=Int.mul_nonneg (a:=u) (b:=tmM x) (by omega) (by omega)
             omega
            refine zm (by rw[htm];omega) ?_
            cases c7:decide (u*tmM x≤16) with
            |false=>rw[c7,cond_false] at hT;subst hT;exact zaw c7 rfl
            | true=>
             rw[c7,cond_true] at hT
             subst hT
             refine zbp c7 (zm (by rw[htm];omega) (zm (by omega) (zm (by omega) (zm (by omega) (zm (by omega) (zad fun x4 e4=> ?_))))))
             rw[show((p.length:Int)-1)=(p.length:Int)-((1:Nat):Int) from rfl,q1] at e4
             subst e4
             refine zbh _ rfl (zm (by omega) (zm (by omega) (zad fun x5 e5=> ?_)))
             rw[show((p.length:Int)-1).toNat=p.length-1 by omega];rfl
  ·exact zaw (by simp) rfl
 ·obtain⟨i1,i2,i3,i4,i5⟩:=hI m.length (Nat.le_refl _)
  generalize (MM m m.length).1=p at i1⊢
  have hp:=zan p
  have hsz: ∀y∈p,(pre y).length≤25:=fun y hy=>by have:=zbq hy;omega
  match p,hp,hsz,i1 with
  | [],_,_,_=>
   refine qov (z9p [97]) ?_ rfl
   refine zbp rfl (zbp rfl (zm (by decide) (zad fun x2 e2=> ?_)))
   subst e2;rfl
  | y ::q,hp,hsz,i1=>
   refine zbw () ?_ ?_
   ·refine zaw rfl (zaw (by simp;omega) rfl)
   ·refine zaw rfl (zm (by simp) (zm (by simp) (zad fun x25 e25=> ?_)))
    have e25:y=x25:=e25
    subst e25
    refine zbw (qpm (y::q)) ?_ rfl
    by_cases hq:q=[]
    ·subst hq
     refine zbp rfl (zm (by omega) ?_)
     match fuel,hf with
     |f+1,_=>rfl
    ·have hq1:0<q.length:=List.length_pos_iff.2 hq
     refine zaw (by simp;omega) (zm (by simp;omega) ?_)
     have hend:=qlo (p:=y::q) (by simp)
     simp only[List.length_cons] at hp i1 hend⊢
     refine zet q.length (fun i=>((i:Int),qkw (y::q) i)) rfl (fun i hi=> ?_) ?_ (by omega)
     ·refine zbp (by simp;omega) (zm (by simp only;omega) (zm (by simp only;omega) (zad fun x26 e26=> ?_)))
      simp only at e26
      have e26':(y::q)[i+1]'(by simp;omega)=x26:=by
       rw[←e26,show(((Int.toNat 1:Nat):Int)+(i:Int))=((i+1:Nat):Int) by simp;omega,zdw (by simp;omega)]
      have hacc:=qki (p:=y::q) (by simp) i (by simp;omega)
      have htk:=zro (y::q) (i+1)
      have hj:=z9w (fuel:=fuel) 4 (qkw (y::q) i) x26 (.inr rfl) (by omega) ⟨by omega,by rw[←e26'];have:=hsz _ (List.getElem_mem (l:=y::q) (n:=i+1) (by simp;omega));omega⟩
      refine zbh _ hj (zm (by simp only;omega) ?_)
      rw[z3a (p:=y::q) (i:=i) (by simp;omega),e26'];rfl
     ·refine zaw (by simp) ?_
      simp only[Nat.add_sub_cancel] at hend
      rw[hend]
theorem k_made (l:List Sm)(h:l.length<2^63∧ ∀x∈l,x.2.1<256):Pure (ITP Tryz.prog) Tryz.prog 9 [.list l.length (Enc.cellsL l) .none] (.agg (Enc.cells (zub l))):=made_sh 61 l _ (made_eq l h.1 h.2 (by decide))
end Go.Ab
