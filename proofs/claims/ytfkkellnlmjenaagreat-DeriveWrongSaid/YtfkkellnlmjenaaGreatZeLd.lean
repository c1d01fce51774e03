/-
  DerivePlain: its walk.
-/
import Derived.Test.YtfkkellnlmjenaaGreatZeTi
import Derived.Test.YtfkkellnlmjenaaGreatZeVb
set_option linter.unusedSimpArgs false
set_option linter.unusedVariables false
set_option maxRecDepth 100000
set_option maxRecDepth 100000
set_option maxHeartbeats 4000000
namespace Go.Ab
open Go Go.RowKit Go.Fwd Go.Proofs
def z6c (a b:RT):Bool:=zfo a.t b.t
def zsf (fuel:Nat)(n:Nat)(a:RT)(b:RT):Option Bool:=
 (bif (((a.t.k:Nat):Int) !=((b.t.k:Nat):Int)) then(some false) else(bif (!(eqA (zgm a.t.s) (zgm b.t.s))) then(some false) else(bif (a.t.mn !=b.t.mn) then(some false) else(bif (a.t.mx !=b.t.mx) then(some false) else(bif ((List.length (rtL a):Int) !=(List.length (rtL b):Int)) then(some false) else(zdn (τ:=Unit) (zbv (β:=Int) (fun s1=>(bif (decide (s1<(List.length (rtL a):Int))) then(chk (0≤s1∧s1<(List.length (rtL a):Int)) (zbc (ix (rtL a) s1) (fun x1=>(chk (0≤s1∧s1<(List.length (rtL b):Int)) (zbc (ix (rtL b) s1) (fun x2=>(chk (((pre x1.t).length<n)) (zbc (z6c x1 x2) (fun x3=>(bif (!x3) then(some (Sum.inr (Sum.inr false))) else(chk (-9223372036854775808≤(s1+1)∧(s1+1)<9223372036854775808) (some (Sum.inl ((s1+1))))))))))))))) else(some (Sum.inr (Sum.inl ()))))) fuel (0)) (fun j1=>(some true))))))))
theorem ent80:Ent Tryz.prog 80:=enters_of Tryz.func80 (by kernel_rfl) rfl
theorem qfq (fuel:Nat)(n:Nat)(a:RT)(b:RT)(r:Bool)(ih: ∀(x y:RT),((pre x.t).length<n)→Pure (ITP Tryz.prog) Tryz.prog 80 [.A x,.A y] (.raw (.bool (z6c x y))))(h:zsf fuel n a b=some r):Pure (ITP Tryz.prog) Tryz.prog 80 [.A (a:RT),.A (b:RT)] (.raw (.bool r)):=by
 unfold zsf at h
 refine zbd 58 mix Tryz.func80 ent80 ?_
 refine zf (zb ?_)
 refine zbz (a:= .ptr 0 0) (σ'':=(.B [(106,(Enc.cells (a:RT)))])) ?_
 refine zbz (a:= .ptr 1 0) (σ'':=(.B [(106,(Enc.cells (a:RT))),(106,(Enc.cells (b:RT)))])) ?_
 refine w_o (a:= .b false) ?_
 refine zf ?_
 refine zr [.v (.ptr 0 0)] ?_
 refine w_o (a:= .i ((a.t.k:Nat):Int)) (h:=zbh (z7z a rfl rfl rfl)) ?_
 refine w_o (a:= .ptr 1 0) ?_
 refine w_o (a:= .i ((b.t.k:Nat):Int)) (h:=zbh (z7z b rfl rfl rfl)) ?_
 refine w_o (a:= .b (((a.t.k:Nat):Int) !=((b.t.k:Nat):Int))) ?_
 refine zae h (fun hc1 h=> ?_) (fun hc1 h=> ?_)
 refine zbj hc1 ?_
 refine w_r [.p,.p,.p,.p,.p] ?_
 refine w_r [.v (.b true),.m _,.p,.p,.p] ?_
 refine w_r [.p,.p,.v (.b true),.m _,.p] ?_
 refine w_r [.p,.p,.p,.p,.v (.b true)] ?_
 refine w_r [.m _,.p,.p,.p,.p] ?_
 refine w_r [.p,.p,.p,.v (.b true)] ?_
 refine zce rfl ?_
 refine zr [.v (.b false)] ?_
 exact zbg h
 refine zbj hc1 ?_
 refine zaf rfl rfl ?_
 refine w_o (a:= .ptr 0 1) ?_
 refine zaf rfl rfl ?_
 refine w_o (a:= .A ((zgm a.t.s):Ar)) (h:=zbh (qag a rfl rfl rfl)) ?_
 refine zaf rfl rfl ?_
 refine w_o (a:= .ptr 1 1) ?_
 refine zaf rfl rfl ?_
 refine w_o (a:= .A ((zgm b.t.s):Ar)) (h:=zbh (qag b rfl rfl rfl)) ?_
 refine zaf rfl rfl ?_
 refine qar (.b (!(eqA (zgm a.t.s) (zgm b.t.s)))) rfl rfl rfl (rs_neA (zgm a.t.s) (zgm b.t.s) rfl rfl rfl) (by dsimp only[zh,List.set]) ?_
 refine w_o (a:= .b (!(eqA (zgm a.t.s) (zgm b.t.s)))) ?_
 refine zae h (fun hc2 h=> ?_) (fun hc2 h=> ?_)
 refine zbj hc2 ?_
 refine w_r [.p,.p,.p,.p,.p] ?_
 refine w_r [.v (.b true),.m _,.p,.p,.p] ?_
 refine w_r [.p,.p,.v (.b true),.m _,.p] ?_
 refine w_r [.p,.p,.p,.p,.p] ?_
 refine w_r [.p,.v (.b true)] ?_
 refine zce rfl ?_
 refine zr [.v (.b false)] ?_
 exact zbg h
 refine zbj hc2 ?_
 refine zaf rfl rfl ?_
 refine w_o (a:= .ptr 0 257) ?_
 refine zaf rfl rfl ?_
 refine w_o (a:= .i a.t.mn) (h:=zbh (z8e a rfl rfl rfl)) ?_
 refine zaf rfl rfl ?_
 refine w_o (a:= .ptr 1 257) ?_
 refine zaf rfl rfl ?_
 refine w_o (a:= .i b.t.mn) (h:=zbh (z8e b rfl rfl rfl)) ?_
 refine w_r [.v (.b (a.t.mn !=b.t.mn)),.v (.b (a.t.mn !=b.t.mn))] ?_
 refine zae h (fun hc3 h=> ?_) (fun hc3 h=> ?_)
 refine zbj hc3 ?_
 refine w_r [.p,.p,.p,.p,.p] ?_
 refine w_r [.v (.b true),.m _,.p,.p,.p] ?_
 refine w_r [.p,.p,.p,.p,.v (.b true)] ?_
 refine zce rfl ?_
 refine zr [.v (.b false)] ?_
 exact zbg h
 refine zbj hc3 ?_
 refine zaf rfl rfl ?_
 refine w_o (a:= .ptr 0 258) ?_
 refine zaf rfl rfl ?_
 refine w_o (a:= .i a.t.mx) (h:=zbh (z9j a rfl rfl rfl)) ?_
 refine zaf rfl rfl ?_
 refine w_o (a:= .ptr 1 258) ?_
 refine zaf rfl rfl ?_
 refine w_o (a:= .i b.t.mx) (h:=zbh (z9j b rfl rfl rfl)) ?_
 refine w_r [.v (.b (a.t.mx !=b.t.mx)),.v (.b (a.t.mx !=b.t.mx))] ?_
 refine zae h (fun hc4 h=> ?_) (fun hc4 h=> ?_)
 refine zbj hc4 ?_
 refine w_r [.p,.p,.p,.p,.p] ?_
 refine w_r [.p,.p,.v (.b true)] ?_
 refine zce rfl ?_
 refine zr [.v (.b false)] ?_
 exact zbg h
 refine zbj hc4 ?_
 refine zaf rfl rfl ?_
 refine w_o (a:= .ptr 0 259) ?_
 refine zaf rfl rfl ?_
 refine w_o (a:= .L ((rtL a):List RT)) (h:=zbh (zoc a rfl rfl rfl)) ?_
 refine w_r [.v (.i (List.length (rtL a):Int)),.v (.ptr 1 259)] ?_
 refine zaf rfl rfl ?_
 refine w_o (a:= .L ((rtL b):List RT)) (h:=zbh (zoc b rfl rfl rfl)) ?_
 refine w_r [.v (.i (List.length (rtL b):Int)),.v (.b ((List.length (rtL a):Int) !=(List.length (rtL b):Int))),.v (.b ((List.length (rtL a):Int) !=(List.length (rtL b):Int)))] ?_
 refine zci h (fun hc5 h=> ?_) (fun hc5 h=> ?_)
 refine zr [.v (.b false)] ?_
 exact zbg h
 refine zau h (bz 0 60 1152921504606846975) (fun j1=>[]) (fun j1=>(.B [(106,(Enc.cells (a:RT))),(106,(Enc.cells (b:RT)))])) ?_ ?_
 intro or1 h hr1
 refine zr [.v (.i 0)] ?_
 refine zp ?_
 refine zbx h (bz 0 60 1152921504606846963) (fun s1=>[(5,.i s1)]) (fun s1=>(.B [(106,(Enc.cells (a:RT))),(106,(Enc.cells (b:RT)))])) ?_ ?_
 exact zdl (bl 60 44)
 intro s1 p1 h
 refine zfj ?_
 refine zf ?_
 refine zr [.m _,.v (.ptr 0 259)] ?_
 refine w_o (a:= .L ((rtL a):List RT)) (h:=zbh (zoc a rfl rfl rfl)) ?_
 refine w_r [.v (.i (List.length (rtL a):Int)),.v (.b (decide (s1<(List.length (rtL a):Int))))] ?_
 refine zci h (fun hc6 h=> ?_) (fun hc6 h=> ?_)
 refine zf ?_
 refine zp ?_
 refine zf ?_
 refine zgc (k0:=0) (id:=6) 10 (by kernel_rfl) (by kernel_rfl) ?_
 refine h_o (a:= .ptr 0 259) ?_
 refine h_o (a:= .L ((rtL a):List RT)) (h:=zoc a rfl rfl rfl) ?_
 refine zhd ?_
 obtain⟨g1,h⟩:=zi h
 obtain⟨x1,hx1,h⟩:=zo h
 refine h_ix hx1 g1 ?_
 refine h_o (a:= .A (x1:RT)) (h:=z4r x1 rfl rfl) ?_
 refine h_o (a:= .ptr 1 259) ?_
 refine h_o (a:= .L ((rtL b):List RT)) (h:=zoc b rfl rfl rfl) ?_
 refine zhd ?_
 obtain⟨g2,h⟩:=zi h
 obtain⟨x2,hx2,h⟩:=zo h
 refine h_ix hx2 g2 ?_
 refine h_o (a:= .A (x2:RT)) (h:=z4r x2 rfl rfl) ?_
 refine zjo ?_
 obtain⟨g3,h⟩:=zi h
 obtain⟨x3,hx3,h⟩:=zo h
 refine zcq (args':=[.A (x1:RT),.A (x2:RT)]) (r:= .b x3) (by rw[←hx3];exact(ih x1 x2 g3)) ?_
 refine w_o (a:= .b (!x3)) ?_
 refine zci h (fun hc7 h=> ?_) (fun hc7 h=> ?_)
 refine zr [.v (.b false)] ?_
 refine zw h (fun h=> ?_)
 replace h:=zz h hr1
 exact zbg h
 refine zb (k0:=0) (id:=5) ?_
 refine zab ?_
 obtain⟨g4,h⟩:=zi h
 refine zpe g4 ?_
 refine zab ?_
 refine zas (p:=p1) ((s1+1)) h ?_
 exact zdl (bl 60 44)
 refine zw h (fun h=> ?_)
 refine zg (o:=or1) () h ?_
 exact zdl (bl 60 0)
 intro j1 h
 refine zfj ?_
 refine zr [.v (.b true)] ?_
 exact zbg h
theorem qov (r:RT)(i:Nat)(h:i<r.t.l.length):ix (rtL r) (i:Int)=RT.mk r.t.l[i]:=by
 have h2:i<(rtL r).length:=by rw[z7w];exact h
 rw[zlu h2];simp[rtL]
theorem qne {body:Int→Option (Int ⊕ (Unit ⊕ Bool))} {n:Nat} (p:Nat→Bool)(h1: ∀i:Nat,i<n→p i=true→body (i:Int)=some (.inl ((i:Int)+1)))(h2: ∀i:Nat,i<n→p i=false→body (i:Int)=some (.inr (.inr false)))(h3:body (n:Int)=some (.inr (.inl ()))) {fuel:Nat} (hf:n<fuel):
 zbv body fuel 0=some (if(List.range n).all p=true then .inl () else .inr false):=by
 have key: ∀(c i:Nat),i+c=n→(∀j,j<i→p j=true)→ ∀f,c<f→zbv body f (i:Int)=some (if(List.range n).all p=true then .inl () else .inr false):=by
  intro c
  induction c with
  | zero=>
   intro i hi hall f hf
   match f,hf with
   | f+1,_=>
    have:(List.range n).all p=true:=List.all_eq_true.2 fun j hj=>hall j (by have:=List.mem_range.1 hj;omega)
    rw[zbv,this,show i=n by omega,h3];rfl
  | succ c ih=>
   intro i hi hall f hf
   match f,hf with
   | f +1,hf=>
    rw[zbv]
    cases hp:p i with
    | false=>
     have:(List.range n).all p=false:=by
      rw[←Bool.not_eq_true,List.all_eq_true]
      intro h
      have:=h i (List.mem_range.2 (by omega))
      rw[hp] at this;cases this
     rw[h2 i (by omega) hp,this];rfl
    | true=>
     rw[h1 i (by omega) hp]
     have:=ih (i+1) (by omega) (fun j hj=>by
      rcases Nat.lt_or_ge j i with hlt|hge
      ·exact hall j hlt
      ·have e:j=i:=by omega
       subst e;exact hp) f (by omega)
     simp only[Int.natCast_add,Int.natCast_one] at this
     exact this
 exact key n 0 (by omega) (fun j hj=>absurd hj (Nat.not_lt_zero _)) fuel hf
theorem qbq (n k:Nat)(s:BS)(mn mx:Int)(l l2:List Tr)(hn:(pre (Tr.mk k s mn mx l)).length<n+1)(hlen:l.length<2^40)(h5:l.length=l2.length): ∀(i:Nat) (hi:i<l.length) (b:Bool),zfo (l.getD i noneT) (l2.getD i noneT)=b→ ∀(r:Option (Int ⊕ (Unit ⊕ Bool))),(b=true→some (Sum.inl ((i:Int)+1))=r)→(b=false→some (Sum.inr (Sum.inr false))=r)→(chk (0≤(i:Int)∧(i:Int)<(l.length:Int)) (zbc (ix (rtL (RT.mk (.mk k s mn mx l))) (i:Int)) (fun x1=>(chk (0≤(i:Int)∧(i:Int)<(l2.length:Int)) (zbc (ix (rtL (RT.mk (.mk k s mn mx l2))) (i:Int)) (fun x2=>(chk (((pre x1.t).length<n)) (zbc (zfo x1.t x2.t) (fun x3=>(bif (!x3) then(some (Sum.inr (Sum.inr false))) else(chk (-9223372036854775808≤((i:Int)+1)∧((i:Int)+1)<9223372036854775808) (some (Sum.inl ((i:Int)+1))))))))))))))=r:=fun i hi b hb r hr1 hr2=>by
 have hp:(pre (Tr.mk k s mn mx l)).length=1+(zap l).length:=zyf ..
 have hi2:i<l2.length:=by omega
 have hx:=zck (List.getElem_mem hi)
 refine zq (by omega) (zai fun x1 e1=>zq (by omega) (zai fun x2 e2=> ?_))
 rw[show ix (rtL (RT.mk (.mk k s mn mx l))) (i:Int)=RT.mk l[i] from qov (RT.mk (.mk k s mn mx l)) i hi] at e1
 rw[show ix (rtL (RT.mk (.mk k s mn mx l2))) (i:Int)=RT.mk l2[i] from qov (RT.mk (.mk k s mn mx l2)) i hi2] at e2
 subst e1 e2
 refine zq (by show(pre l[i]).length<n;omega) (zai fun x3 e3=> ?_)
 have e3:zfo l[i] l2[i]=x3:=e3
 rw[List.getD_eq_getElem?_getD,List.getD_eq_getElem?_getD,List.getElem?_eq_getElem hi,List.getElem?_eq_getElem hi2] at hb
 have hb:zfo l[i] l2[i]=b:=hb
 rw[e3] at hb
 subst hb
 cases x3 with
 |false=>exact zbe rfl (hr2 rfl)
 |true=>exact zay rfl (zq ⟨by omega,by omega⟩ (hr1 rfl))
theorem qfv {fuel:Nat} (n:Nat)(a b:RT)(hn:(pre a.t).length<n+1)(hs:(pre a.t).length<2^40)(hf:(pre a.t).length<fuel):zsf fuel n a b=some (z6c a b):=by
 obtain⟨⟨k,s,mn,mx,l⟩⟩:=a
 obtain⟨⟨k2,s2,mn2,mx2,l2⟩⟩:=b
 have hp:(pre (Tr.mk k s mn mx l)).length=1+(zap l).length:=zyf ..
 have hlen:=zaq l
 simp only at hn hs hf
 unfold zsf z6c
 simp only[z7w,Tr.k,Tr.s,Tr.mn,Tr.mx,Tr.l]
 rw[qmy,qec]
 by_cases hk:k=k2
 ·subst hk
  simp only[bne_self_eq_false,cond_false,beq_self_eq_true,Bool.true_and]
  by_cases hs1:s=s2
  ·subst hs1
   simp only[decide_true,Bool.not_true,cond_false,Bool.true_and]
   by_cases h3:mn=mn2
   ·subst h3
    simp only[bne_self_eq_false,cond_false,beq_self_eq_true,Bool.true_and]
    by_cases h4:mx=mx2
    ·subst h4
     simp only[bne_self_eq_false,cond_false,beq_self_eq_true,Bool.true_and]
     by_cases h5:l.length=l2.length
     ·rw [show((l.length:Int) !=(l2.length:Int))=false by simp[h5],cond_false]
      have hall:(List.range l.length).all (fun i=>zfo (l.getD i noneT) (l2.getD i noneT))=z3f zfo l l2:=by
       cases hc:z3f zfo l l2 with
       | true=>
        have:=(zsm _ _ _).1 hc
        refine List.all_eq_true.2 fun i hi=> ?_
        have hi:=List.mem_range.1 hi
        rw[List.getD_eq_getElem?_getD,List.getD_eq_getElem?_getD,List.getElem?_eq_getElem hi,List.getElem?_eq_getElem (show i<l2.length by omega)]
        exact this.2 i hi (by omega)
       | false=>
        rw[←Bool.not_eq_true,List.all_eq_true]
        intro h
        have:z3f zfo l l2=true:=(zsm _ _ _).2 ⟨h5,fun i h1 h2=>by
         have:=h i (List.mem_range.2 h1)
         rwa[List.getD_eq_getElem?_getD,List.getD_eq_getElem?_getD,List.getElem?_eq_getElem h1,List.getElem?_eq_getElem h2] at this⟩
        rw[this] at hc;cases hc
      have step:=qbq n k s mn mx l l2 hn (by omega) h5
      have h0:=qne (n:=l.length) (fun i=>zfo (l.getD i noneT) (l2.getD i noneT)) (body:=fun s1=>(bif (decide (s1<(l.length:Int))) then(chk (0≤s1∧s1<(l.length:Int)) (zbc (ix (rtL (RT.mk (.mk k s mn mx l))) s1) (fun x1=>(chk (0≤s1∧s1<(l2.length:Int)) (zbc (ix (rtL (RT.mk (.mk k s mn mx l2))) s1) (fun x2=>(chk (((pre x1.t).length<n)) (zbc (zfo x1.t x2.t) (fun x3=>(bif (!x3) then(some (Sum.inr (Sum.inr false))) else(chk (-9223372036854775808≤(s1+1)∧(s1+1)<9223372036854775808) (some (Sum.inl (s1+1)))))))))))))) else(some (Sum.inr (Sum.inl ())))))
       (fun i hi hp=>zbe (by simp;omega) (step i hi true hp _ (fun _=>rfl) (fun h=>by cases h))) (fun i hi hp=>zbe (by simp;omega) (step i hi false hp _ (fun h=>by cases h) (fun _=>rfl))) (zay (by simp) rfl) (fuel:=fuel) (by omega)
      rw[hall] at h0
      cases hc:z3f zfo l l2 with
      | true=>
       rw[hc] at h0
       rw[if_pos rfl] at h0;exact zcb () h0 rfl
      | false=>
       rw[hc] at h0
       rw[if_neg Bool.false_ne_true] at h0;exact z7y false h0 rfl
     ·rw[show((l.length:Int) !=(l2.length:Int))=true by simp;omega,cond_true,qms h5]
    ·rw[show(mx !=mx2)=true by simpa using h4,cond_true,show(mx==mx2)=false by simpa using h4];rfl
   ·rw[show(mn !=mn2)=true by simpa using h3,cond_true,show(mn==mn2)=false by simpa using h3];rfl
  ·rw[show decide (s=s2)=false by simpa using hs1];rfl
 ·rw[show((k:Int) !=(k2:Int))=true by simp;omega,cond_true,show((k:Int)==(k2:Int))=false by simp;omega];rfl
theorem z2o: ∀(n:Nat) (a b:RT),(pre a.t).length<n→(pre a.t).length<2^40→Pure (ITP Tryz.prog) Tryz.prog 80 [.agg (Enc.cells a),.agg (Enc.cells b)] (.raw (.bool (z6c a b)))
 |0,a,b,h,_=>absurd h (Nat.not_lt_zero _)
 |n+1,a,b,h,hs=>qfq ((pre a.t).length+1) (min n (pre a.t).length) a b _ (fun x y hx=>z2o n x y (by omega) (by omega)) (qfv _ a b (by omega) hs (by omega))
theorem k_rsame (a b:RT)(h:(pre a.t).length<2^40):Pure (ITP Tryz.prog) Tryz.prog 80 [.agg (Enc.cells a),.agg (Enc.cells b)] (.raw (.bool (z6c a b))):=z2o ((pre a.t).length+1) a b (by omega) h
def lt (c:Nat):Tr:= .mk 2 (1#256<<<c) 0 0 []
def ctT (l:List Tr):Tr:= .mk 3 0#256 0 0 l
def alT (l:List Tr):Tr:= .mk 4 0#256 0 0 l
def rpT (t:Tr)(mn mx:Int):Tr:= .mk 5 0#256 mn mx [t]
def gpT (t:Tr):Tr:= .mk 6 0#256 0 0 [t]
def dA:Tr:=lt 97
def dB:Tr:=lt 98
def dC:Tr:=lt 99
def dN:Tr:=rpT (alT [ctT [dA,dB],ctT [dA,dC]]) 0 (-1)
def dP:Tr:=ctT [dB,dN]
def dQ:Tr:=ctT [dC,dN]
theorem tA:zvv dN 97=some ([dP,dQ],0):=by kernel_rfl
theorem tB:zvv dN 98=some ([],0):=by kernel_rfl
theorem tC:zvv (rpT dA 2 3) 97=some ([rpT dA 1 2],0):=by kernel_rfl
theorem tD:zvv (rpT dA 1 2) 97=some ([rpT dA 0 1],0):=by kernel_rfl
theorem tE:zvv (ctT [rpT dA 0 1,dB]) 98=some ([emptyT],0):=by kernel_rfl
theorem tF:zer 20 dN [97,98,97,99]=some (true,0):=by kernel_rfl
theorem tG:zer 20 dN [97,98,97]=some (false,0):=by kernel_rfl
theorem tH:zlz (ctT [gpT (ctT [gpT dA,dB]),dC])=some (ctT [dA,dB,dC],0):=by kernel_rfl
theorem tI:zpo 20 (alT [.mk 2 (3#256<<<97) 0 0 [],dB])=some ([⟨1#256<<<97,[emptyT]⟩,⟨1#256<<<98,[emptyT]⟩],0):=by kernel_rfl
structure Ct where
 f:Nat
 args:List AV
 r:AV
def z5a (c:Ct):Prop:=Pure (ITP Tryz.prog) Tryz.prog c.f c.args c.r
def tbl (T:List Ct):CallP:=fun f args=>match T.find? (fun c=>c.f==f&&zlf c.args args) with
 |some c=>some c.r
 |none=>none
theorem zek {T:List Ct} (h: ∀c∈T,z5a c):Good Tryz.prog (tbl T) noS:=⟨mix,ents,(fun f args r e=>by
 unfold tbl at e
 split at e
 ·rename_i c hc
  cases e
  have h1:=List.find?_some hc
  simp only[Bool.and_eq_true,beq_iff_eq] at h1
  have h2:=h c (List.mem_of_find?_eq_some hc)
  rw[z5a,h1.1,zfh _ _ h1.2] at h2
  exact h2
 ·cases e),(fun _ _ _ _ _ h=>nomatch h)⟩
def avT (t:Tr):AV:= .agg (Enc.cells t)
def avL (l:List Tr):AV:= .list l.length (Enc.cellsL l) .none
def avU (n:Int):AV:= .raw (.int .u8 n)
def avI (n:Int):AV:= .raw (.int .i64 n)
def avB (b:Bool):AV:= .raw (.bool b)
def avS (s:BS):AV:= .agg (Enc.cells s)
def noneC:Ct:=⟨66,[avT dN],avB false⟩
theorem zyi:z5a noneC:=by
 have:=qgk dN (by decide+kernel)
 rw[show isNone dN=false by decide+kernel] at this;exact this
theorem qas:z5a ⟨61,[avT dN],.list 1 (Enc.cellsL [dN]) .full⟩:=
 z3y (zek (T:=[noneC]) (fun c hc=>by rw[List.mem_singleton] at hc;subst hc;exact zyi)) (qam (H:=true) (zek (T:=[noneC]) (fun c hc=>by rw[List.mem_singleton] at hc;subst hc;exact zyi)) 100) _ _ _ _ _ (by kernel_rfl)
def tT3:List Tr:=[dN,dP,dQ]
def tS4:List BS:=[BitVec.ofNat 256 115792089237316195423570985008687907853269984664531369764257883281603514335231,1#256<<<97,1#256<<<98,1#256<<<99]
def tC4:List Nat:=[0,97,98,99]
def tblA:List Ct:=[⟨25,[avT dN],avB true⟩,⟨52,[avT dN],avT dN⟩,⟨61,[avT dN],.list 1 (Enc.cellsL [dN]) .full⟩,⟨53,[avL [dN]],.list 4 (Enc.cellsL tS4) .none⟩]
def tblB:List Ct:=(tS4.zip tC4).map fun p=>⟨11,[avS p.1],.tup [avU p.2,avB true]⟩
def tblC:List Ct:=tT3.flatMap fun t=>tC4.map fun(c:Nat)=>⟨54,[avL [t],avU c],avL (behT [t] c)⟩
def tblD:List Ct:=tT3.flatMap fun t=>tT3.map fun u=>⟨23,[avT t,avT u],avB (zrq t u)⟩
def tblE:List Ct:=tT3.flatMap fun t=>tT3.map fun u=>⟨31,[avT t,avT u],avI (zkh t u)⟩
def tblT:List Ct:=tblA++(tblB++(tblC++(tblD++tblE)))
theorem qan: ∀t∈tT3,(pre t).length<2^61:=fun t ht=>by
 have:=List.all_eq_true.1 (show(tT3.all fun t=>decide ((pre t).length<2^61))=true by decide+kernel) t ht
 exact of_decide_eq_true this
theorem tblT_ok: ∀c∈tblT,z5a c:=by
 intro c hc
 unfold tblT at hc
 simp only[List.mem_append] at hc
 rcases hc with hc|hc|hc|hc|hc
 ·simp only[tblA,List.mem_cons,List.not_mem_nil,or_false] at hc
  rcases hc with rfl|rfl|rfl|rfl
  ·exact zns dN true (by kernel_rfl)
  ·have:=ztg dN (by decide+kernel)
   rw[show plT dN=dN by kernel_rfl] at this;exact this
  ·exact qas
  ·have:=z1d [dN] (by decide+kernel)
   rw[show znm [dN]=tS4 by kernel_rfl] at this;exact this
 ·obtain⟨p,hp,rfl⟩:=List.mem_map.1 hc
  have:=List.all_eq_true.1 (show((tS4.zip tC4).all fun p=>decide (zmz p.1=some ((p.2:Int),true)))=true by decide+kernel) p hp
  exact zyj p.1 _ (of_decide_eq_true this)
 ·obtain⟨t,ht,hc⟩:=List.mem_flatMap.1 hc
  obtain⟨c,hc2,rfl⟩:=List.mem_map.1 hc
  have h1:=List.all_eq_true.1 (show(tT3.all fun t=>tC4.all fun c=>decide (c<256∧BO t∧(List.flatMap (byT c) [t]).length<2^40))=true by decide+kernel) t ht
  have h2:=of_decide_eq_true (List.all_eq_true.1 h1 c hc2)
  exact z2r [t] c ⟨by omega,by simp only[Int.toNat_natCast];exact⟨⟨h2.1,fun x hx=>by rw[List.mem_singleton] at hx;subst hx;exact h2.2.1⟩,h2.2.2,by simp⟩⟩
 ·obtain⟨t,ht,hc⟩:=List.mem_flatMap.1 hc
  obtain⟨u,hu,rfl⟩:=List.mem_map.1 hc
  exact z4f t u ⟨qan t ht,qan u hu⟩
 ·obtain⟨t,ht,hc⟩:=List.mem_flatMap.1 hc
  obtain⟨u,hu,rfl⟩:=List.mem_map.1 hc
  exact z3o t u ⟨qan t ht,qan u hu⟩
theorem qjx:Snd (ITP Tryz.prog) Tryz.prog 61 [.agg (Enc.cells dN)] ⟨[],[],[],0,false⟩ (.bsl 0 0 1 8 false) ⟨[(29,Enc.cellsL [dN])],[],[],0,false⟩:=by
 obtain⟨d,hd⟩: ∃d,Tryz.f61.body=some d:=⟨_,rfl⟩
 refine zrd mix Tryz.func61 hd ent61 ?_
 cases hd
 refine zah (by dsimp only[zbf,Tryz.f61,List.length_cons,List.length_nil,Nat.zero_add,Nat.reduceAdd,Nat.reduceSub,List.replicate,List.cons_append,List.nil_append]) rfl ?_
 refine zf (zb ?_)
 refine zfp (a:= .ptr 0 0) (σ'':=⟨[(29,(Enc.cells (dN:Tr)))],[],[],0,false⟩) rfl rfl rfl rfl (by dsimp only[zh,List.set]) rfl ?_
 refine zbm (a:= .list 0 [] .full) rfl rfl rfl rfl (by dsimp only[zh,List.set]) ?_
 refine zf ?_
 refine zf (zb ?_)
 refine zbm (a:= .agg (Enc.cells (dN:Tr))) rfl rfl rfl rfl (by dsimp only[zh,List.set]) ?_
 refine zbr (args':=[.agg (Enc.cells (dN:Tr))]) (r:= .raw (.bool false)) zyi rfl rfl (zd (zaj (zl (Enc.clo _))) rfl) (za (zn _ _ (zl (Enc.clo _))) rfl) (by dsimp only[zh,List.set]) ?_
 refine zbt rfl rfl ?_
 refine zf (zb ?_)
 refine zbm (a:= .agg (Enc.cells (dN:Tr))) rfl rfl rfl rfl (by dsimp only[zh,List.set]) ?_
 refine zgs (a:= .bsl 1 0 1 8 true) (σ'':=⟨[(29,(Enc.cells (dN:Tr))),(29,(Enc.cellsL ([dN]:List Tr)))],[],[],0,false⟩) rfl rfl rfl (by rw[Enc.cons,Enc.nil];rfl) (by dsimp only[zh,List.set]) rfl ?_
 refine zab ?_
 exact zsc (n:=0) (m:=0) [] [1] 1 rfl rfl rfl (by show St.mk [(29,zby _ _ (Enc.cellsL _))] _ _ _ _=_;rw[zam _ _ _ (Enc.cloL _)];rfl)
def qdk (l r:List Tr):CallS:=fun f args σ=>match f,args with
 | 68,[.bsl s 0 n 8 fl]=>match σ.boxes[s]? with
  |some (29,cs)=>if n=l.length∧zlf cs (Enc.cellsL l)=true then some (.bsl s 0 r.length 8 false,{σ with boxes:=σ.boxes.set s (29,Enc.cellsL r)}) else none
  |_=>none
 |_,_=>none
theorem qhp {l r:List Tr} (hne:l≠[])(hl:l.length<2^60)(hc: ∀y∈l,zcd y=true)(hr:setT l=r):qbm Tryz.prog (qdk l r):=by
 intro f args σ a σ' h
 unfold qdk at h
 split at h
 ·rename_i s n fl
  split at h
  ·rename_i cs hb
   split at h
   ·rename_i h1
    cases h
    rw[zfh _ _ h1.2] at hb
    rw[h1.1]
    exact qgl hne hl hc hr hb
   ·cases h
  ·cases h
 ·cases h
def firstPsi:CallS:=fun f args σ=>if f=61∧zlf args [avT dN]=true∧σ.boxes.length=2 then some (.bsl 2 0 1 8 false,{σ with boxes:=σ.boxes++[(29,Enc.cellsL [dN])]}) else none
theorem z7p:qbm Tryz.prog firstPsi:=by
 intro f args σ a σ' h
 unfold firstPsi at h
 split at h
 ·rename_i hc
  obtain⟨h1,h2,h3⟩:=hc
  cases h
  subst h1
  rw[zfh _ _ h2]
  refine zst (zat _) [] qjx rfl ?_ rfl List.nodup_nil (Nat.zero_le _) (fun i t cs hb=>by simp at hb) (fun i t cs hb=> ?_) (fun s hs _=> ?_) (by simp) rfl rfl
  ·show AV.bsl (fwN [] σ.boxes.length 0) 0 1 8 false=_
   rw[z8g (Nat.zero_le _),h3];rfl
  ·have hi:i=0:=by have:=zhs hb;simp at this;omega
   subst hi
   simp only[List.getElem?_cons_zero,Option.some.injEq,Prod.mk.injEq] at hb
   obtain⟨rfl,rfl⟩:=hb
   rw[z8g (Nat.zero_le _),zam _ _ _ (Enc.cloL _)]
   simp
  ·simp[List.getElem?_append_left hs]
 ·cases h
def termsPsi:CallS:=fun f args σ=>match firstPsi f args σ with
 |some r=>some r
 |none=>qdk tT3 [dP,dQ,dN] f args σ
theorem z6k:qbm Tryz.prog termsPsi:=by
 intro f args σ a σ' h
 unfold termsPsi at h
 split at h
 ·rename_i r hr;cases h;exact z7p _ _ _ _ _ hr
 ·exact qhp (by decide) (by decide) (fun y hy=>List.all_eq_true.1 (show(tT3.all zcd)=true by decide+kernel) y hy) (by kernel_rfl) _ _ _ _ _ h
theorem z6a:Good Tryz.prog (tbl tblT) termsPsi:={zek tblT_ok with oracleS:=z6k}
theorem qgy:z5a ⟨26,[avT dN,avI 3],.tup [avL [dP,dQ,dN],avI 0]⟩:=by
 obtain⟨c,hc⟩: ∃c,Tryz.f26.body=some c:=⟨_,rfl⟩
 refine qmc false z6a 1000 1 Tryz.func26 hc ?_
 cases hc
 kernel_rfl
def avZ (l:List Nat):AV:= .raw (.string (bs (l.map fun b=>UInt8.ofNat b)))
def awIs:List (List Tr):=[[dP,dQ],[rpT dA 1 2],[rpT dA 0 1],[emptyT],[ctT [dA,dB,dC]]]
def wsT:List BS:=[0#256,1#256<<<97,1#256<<<98,1#256<<<99]
def tblW:List Ct:=wsT.map fun s=>⟨113,[avS s],.agg (Enc.cells (zgm s))⟩
theorem zpl: ∀c∈tblW,z5a c:=by
 intro c hc
 obtain⟨s,_,rfl⟩:=List.mem_map.1 hc
 exact k_words s
theorem thA1:z5a ⟨72,[avT (rpT dA 1 2)],.agg (Enc.cells (RT.mk (rpT dA 1 2)))⟩:=zao true (zek zpl) 300 (by kernel_rfl)
theorem thA2:z5a ⟨72,[avT (rpT dA 0 1)],.agg (Enc.cells (RT.mk (rpT dA 0 1)))⟩:=zao true (zek zpl) 300 (by kernel_rfl)
theorem thA3:z5a ⟨72,[avT emptyT],.agg (Enc.cells (RT.mk emptyT))⟩:=zao true (zek zpl) 300 (by kernel_rfl)
theorem thA4:z5a ⟨72,[avT (ctT [dA,dB,dC])],.agg (Enc.cells (RT.mk (ctT [dA,dB,dC])))⟩:=zao true (zek zpl) 300 (by kernel_rfl)
theorem thA5:z5a ⟨72,[avT dP],.agg (Enc.cells (RT.mk dP))⟩:=zao true (zek zpl) 300 (by kernel_rfl)
theorem thA6:z5a ⟨72,[avT dQ],.agg (Enc.cells (RT.mk dQ))⟩:=zao true (zek zpl) 300 (by kernel_rfl)
def awTs:List Tr:=[rpT dA 1 2,rpT dA 0 1,emptyT,ctT [dA,dB,dC],dP,dQ]
def tblS:List Ct:=(awTs.map fun t=>⟨72,[avT t],.agg (Enc.cells (RT.mk t))⟩)++awTs.map fun t=>⟨80,[.agg (Enc.cells (RT.mk t)),.agg (Enc.cells (RT.mk t))],avB true⟩
theorem zts: ∀c∈tblS,z5a c:=by
 intro c hc
 rcases List.mem_append.1 hc with hc|hc
 ·simp only[awTs,List.map_cons,List.map_nil,List.mem_cons,List.not_mem_nil,or_false] at hc
  rcases hc with rfl|rfl|rfl|rfl|rfl|rfl
  ·exact thA1
  ·exact thA2
  ·exact thA3
  ·exact thA4
  ·exact thA5
  ·exact thA6
 ·obtain⟨t,ht,rfl⟩:=List.mem_map.1 hc
  have h:=List.all_eq_true.1 (show(awTs.all fun t=>decide ((pre t).length<2^40)&&z6c (RT.mk t) (RT.mk t))=true by decide+kernel) t ht
  simp only[Bool.and_eq_true,decide_eq_true_eq] at h
  have:=k_rsame (RT.mk t) (RT.mk t) h.1
  rw[h.2] at this
  exact this
def isOk (l:List Tr):Prop:=z5a ⟨46,[avL l,avL l],avB true⟩
theorem is1:isOk [dP,dQ]:=zao true (zek zts) 300 (by kernel_rfl)
theorem is2:isOk [rpT dA 1 2]:=zao true (zek zts) 300 (by kernel_rfl)
theorem is3:isOk [rpT dA 0 1]:=zao true (zek zts) 300 (by kernel_rfl)
theorem is4:isOk [emptyT]:=zao true (zek zts) 300 (by kernel_rfl)
theorem is5:isOk [ctT [dA,dB,dC]]:=zao true (zek zts) 300 (by kernel_rfl)
def dG:Tr:=ctT [gpT (ctT [gpT dA,dB]),dC]
def dH:Tr:=alT [.mk 2 (3#256<<<97) 0 0 [],dB]
def dArcs:List Arc:=[⟨1#256<<<97,[emptyT]⟩,⟨1#256<<<98,[emptyT]⟩]
def awA:List Ct:=[⟨14,[avT dN,avU 97],.tup [avL [dP,dQ],avI 0]⟩,⟨14,[avT dN,avU 98],.tup [avL [],avI 0]⟩,⟨14,[avT (rpT dA 2 3),avU 97],.tup [avL [rpT dA 1 2],avI 0]⟩,
 ⟨14,[avT (rpT dA 1 2),avU 97],.tup [avL [rpT dA 0 1],avI 0]⟩,⟨14,[avT (ctT [rpT dA 0 1,dB]),avU 98],.tup [avL [emptyT],avI 0]⟩,
 ⟨38,[avT dN,avZ [97,98,97,99]],.tup [avB true,avI 0]⟩,⟨38,[avT dN,avZ [97,98,97]],.tup [avB false,avI 0]⟩,⟨17,[avT dG],.tup [avT (ctT [dA,dB,dC]),avI 0]⟩,
 ⟨10,[avT dH],.tup [.list 2 (Enc.cellsL dArcs) .none,avI 0]⟩,⟨26,[avT dN,avI 3],.tup [avL [dP,dQ,dN],avI 0]⟩]
def awB:List Ct:=awIs.map fun l=>⟨46,[avL l,avL l],avB true⟩
def awTbl:List Ct:=awA++awB
theorem qky: ∀c∈awTbl,z5a c:=by
 intro c hc
 unfold awTbl at hc
 rcases List.mem_append.1 hc with hc|hc
 ·simp only[awA,List.mem_cons,List.not_mem_nil,or_false] at hc
  rcases hc with rfl|rfl|rfl|rfl|rfl|rfl|rfl|rfl|rfl|rfl
  ·exact zxl dN 97 _ tA
  ·exact zxl dN 98 _ tB
  ·exact zxl (rpT dA 2 3) 97 _ tC
  ·exact zxl (rpT dA 1 2) 97 _ tD
  ·exact zxl (ctT [rpT dA 0 1,dB]) 98 _ tE
  ·exact zkr 20 dN [97,98,97,99] _ tF
  ·exact zkr 20 dN [97,98,97] _ tG
  ·exact z4v dG _ tH
  ·exact qaf 20 dH _ tI
  ·exact qgy
 ·simp only[awB,awIs,List.map_cons,List.map_nil,List.mem_cons,List.not_mem_nil,or_false] at hc
  rcases hc with rfl|rfl|rfl|rfl|rfl
  ·exact is1
  ·exact is2
  ·exact is3
  ·exact is4
  ·exact is5
theorem qbp:Pure (ITP Tryz.prog) Tryz.prog 8 [] (.raw (.bool true)):=zao true (zek qky) 300 (by kernel_rfl)
end Go.Ab
set_option maxRecDepth 100000
set_option maxHeartbeats 4000000
namespace Go.Ab
open Go Go.RowKit Go.Fwd Go.Proofs
end Go.Ab
namespace Go.Ab
open Go Go.RowKit Go.Fwd Go.Proofs
def Gd (t:Tr):Prop:=CR t∧(pre t).length≤60∧zkv t≤400
theorem Gd.cs {t:Tr} (h:Gd t):CS 998 t:=⟨h.1,by have:=h.2.1;omega⟩
theorem qnn {t:Tr} (h:CR t)(hs:(pre t).length≤10000):zcd t=true:=by
 rw[zcd,zoi hs,Bool.true_and];exact h
theorem Gd.notNone {t:Tr} (h:CR t):isNone t=false:=by
 rw[←Bool.not_eq_true,zly]
 intro e;subst e
 have:=CR.k0 h
 exact this rfl
theorem z4l {t:Tr} (hl:(pre t).length≤10000):zii t=some (zkv t):=by
 unfold zii
 refine zq (by omega) (zai fun x e=> ?_)
 rw[zoi hl] at e;subst e
 exact zay rfl (zq hl (zai fun x e=>by subst e;rfl))
theorem qnc {t:Tr} (h:Gd t):zgf t=some true:=by
 obtain⟨h1,h2,h3⟩:=h
 unfold zgf
 refine zq (by omega) (zai fun x e=> ?_)
 rw[Gd.notNone h1] at e;subst e
 refine zay rfl (zq (by omega) (zai fun x e=> ?_))
 rw[qnn h1 (by omega)] at e;subst e
 refine zbe rfl (zq (by omega) (zai fun x e=> ?_))
 rw[z9p,if_pos (zoi (by omega))] at e;subst e
 refine zbe (by simp;omega) (zaw _ (z4l (by omega)) ?_)
 simp[h3]
mutual
theorem zyg (c:Nat): ∀t:Tr,(byT c t).length≤(pre t).length
 | .mk k s mn mx l=>by
  rw[byT]
  have h1:=z2l c l
  have h2:=z3b c l
  have h3:=qel c l
  have hp:(pre (Tr.mk k s mn mx l)).length=1+(zap l).length:=zyf ..
  cases (k:Int)==2 with
  | true=>
   show(bif s.getLsbD c then[emptyT] else[]).length≤_
   cases s.getLsbD c<;>simp;omega
  | false=>
   cases (k:Int)==3 with
   |true=>show(zia c l).length≤_;omega
   | false=>
    cases (k:Int)==4 with
    |true=>show(znn c l).length≤_;omega
    | false=>
     cases (k:Int)==5 with
     |true=>show((z5b c l).map _).length≤_;rw[List.length_map];omega
     |false=>show([]:List Tr).length≤_;simp
theorem z2l (c:Nat): ∀l:List Tr,(znn c l).length≤(zap l).length
 |[]=>by rw[znn];simp
 | x::l=>by
  have:=zyg c x;have:=z2l c l
  rw[znn,zap,List.length_append,List.length_append];omega
theorem qel (c:Nat): ∀l:List Tr,(z5b c l).length≤(zap l).length
 |[]=>by rw[z5b];simp
 | x::l=>by
  have:=zyg c x
  rw[z5b,zap,List.length_append];omega
theorem z3b (c:Nat): ∀l:List Tr,(zia c l).length≤(zap l).length
 |[]=>by rw[zia];simp
 | x::l=>by
  have:=zyg c x;have:=z3b c l
  rw[zia,zap,List.length_append,List.length_append,List.length_map]
  cases zeu x with
  |true=>show _+(zia c l).length≤_;omega
  |false=>show _+([]:List Tr).length≤_;simp;omega
end
mutual
theorem qdo (c d:Nat): ∀t:Tr,(∀x∈pre t,x.k=2→x.s.getLsbD c=x.s.getLsbD d)→byT c t=byT d t
 | .mk k s mn mx l,h=>by
  have hl: ∀x∈zap l,x.k=2→x.s.getLsbD c=x.s.getLsbD d:=fun x hx=>h x (by rw[pre];exact List.mem_cons_of_mem _ hx)
  rw[byT,byT,qfn c d l hl,qhf c d l hl,by_clsH c d l hl]
  cases hk:(k:Int)==2 with
  | true=>
   have:=h (.mk k s mn mx l) (by rw[pre];exact List.mem_cons_self ..) (by show k=2;simp at hk;omega)
   simp only[Tr.s] at this
   rw[this]
  |false=>rfl
theorem qfn (c d:Nat): ∀l:List Tr,(∀x∈zap l,x.k=2→x.s.getLsbD c=x.s.getLsbD d)→znn c l=znn d l
 |[],_=>by rw[znn,znn]
 | x::l,h=>by
  rw[zap] at h
  rw[znn,znn,qdo c d x (fun y hy=>h y (List.mem_append_left _ hy)),qfn c d l (fun y hy=>h y (List.mem_append_right _ hy))]
theorem by_clsH (c d:Nat): ∀l:List Tr,(∀x∈zap l,x.k=2→x.s.getLsbD c=x.s.getLsbD d)→z5b c l=z5b d l
 |[],_=>by rw[z5b,z5b]
 | x::l,h=>by
  rw[zap] at h
  rw[z5b,z5b,qdo c d x (fun y hy=>h y (List.mem_append_left _ hy))]
theorem qhf (c d:Nat): ∀l:List Tr,(∀x∈zap l,x.k=2→x.s.getLsbD c=x.s.getLsbD d)→zia c l=zia d l
 |[],_=>by rw[zia,zia]
 | x::l,h=>by
  rw[zap] at h
  rw[zia,zia,qdo c d x (fun y hy=>h y (List.mem_append_left _ hy)),qhf c d l (fun y hy=>h y (List.mem_append_right _ hy))]
end
theorem G3.seq {m:List Tr} (h:G3 m)(hs:(zap m).length≤9000):zlc m=zrn 3 m∧zcc 3 [zlc m]=m:=by
 obtain⟨a,_,c,_⟩:=zsi h.1 h.2 hs
 exact⟨a,c⟩
theorem G3.app {a b:List Tr} (ha:G3 a)(hb:G3 b):G3 (a++b):=⟨(zdm _ _).2 ⟨ha.1,hb.1⟩,fun y hy=>(List.mem_append.1 hy).elim (ha.2 y) (hb.2 y)⟩
def PD (t:Tr)(D:List Tr):Prop:=(∀c,∀y∈byT c t,y∈D)∧ ∀y∈D,(CR y∧tbT y≤tbT t)∧ ∀c,∀z∈byT c y,z∈D
theorem z3l {α:Type}: ∀(l m:List α),l.Nodup→(∀x∈l,x∈m)→l.length≤m.length
 |[],m,_,_=>Nat.zero_le _
 | x::l,m,hn,hs=>by
  obtain⟨h1,h2⟩:=List.nodup_cons.1 hn
  obtain⟨a,b,rfl⟩:=List.append_of_mem (hs x (by simp))
  have:=z3l l (a++b) h2 fun y hy=>by
   have hy2:=hs y (List.mem_cons_of_mem _ hy)
   have hne:y≠x:=fun e=>h1 (e▸hy)
   simp only[List.mem_append,List.mem_cons] at hy2⊢
   rcases hy2 with h|h|h
   ·exact .inl h
   ·exact absurd h hne
   ·exact .inr h
  simp only[List.length_append,List.length_cons] at this⊢
  omega
def RS (p:Tr)(D l:List Tr):Prop:=l.Nodup∧ ∀y∈l,y=p∨y∈D
theorem RS.len {p:Tr} {D l:List Tr} (h:RS p D l):l.length≤D.length+1:=by
 have:=z3l l (p::D) h.1 fun y hy=>by rw[List.mem_cons];exact h.2 y hy
 simpa using this
structure TD (p:Tr)(D:List Tr):Prop where
 cr:CR p
 tb:tbT p≤3900
 pd:PD p D
end Go.Ab
set_option maxRecDepth 100000
set_option maxHeartbeats 4000000
namespace Go.Ab
open Go Go.RowKit Go.Fwd Go.Proofs
end Go.Ab
