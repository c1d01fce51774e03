/-
  DeriveArcs: its walk.
-/
import Derived.Test.YtfkkellnlmjenaaGreatZeEg
import Derived.Test.YtfkkellnlmjenaaGreatZeVb
set_option linter.unusedSimpArgs false
set_option linter.unusedVariables false
set_option maxRecDepth 100000
namespace Go.Ab
open Go Go.RowKit Go.Fwd Go.Proofs
def lt (c:Nat):Tr:= .mk 2 (1#256<<<c) 0 0 []
def ctT (l:List Tr):Tr:= .mk 3 0#256 0 0 l
def alT (l:List Tr):Tr:= .mk 4 0#256 0 0 l
def rpT (t:Tr)(mn mx:Int):Tr:= .mk 5 0#256 mn mx [t]
def gpT (t:Tr):Tr:= .mk 6 0#256 0 0 [t]
def dA:Tr:=lt 97
def dB:Tr:=lt 98
def dC:Tr:=lt 99
def dN:Tr:=rpT (alT [ctT [dA,dB],ctT [dA,dC]]) 0 (-1)
def dP:Tr:=ctT [dB,dN]
def dQ:Tr:=ctT [dC,dN]
theorem tA:z7o dN 97=some ([dP,dQ],0):=by kernel_rfl
theorem tB:z7o dN 98=some ([],0):=by kernel_rfl
theorem tC:z7o (rpT dA 2 3) 97=some ([rpT dA 1 2],0):=by kernel_rfl
theorem tD:z7o (rpT dA 1 2) 97=some ([rpT dA 0 1],0):=by kernel_rfl
theorem tE:z7o (ctT [rpT dA 0 1,dB]) 98=some ([emptyT],0):=by kernel_rfl
theorem tF:zim 20 dN [97,98,97,99]=some (true,0):=by kernel_rfl
theorem tG:zim 20 dN [97,98,97]=some (false,0):=by kernel_rfl
theorem tH:zkx (ctT [gpT (ctT [gpT dA,dB]),dC])=some (ctT [dA,dB,dC],0):=by kernel_rfl
theorem tI:z8g 20 (alT [.mk 2 (3#256<<<97) 0 0 [],dB])=some ([⟨1#256<<<97,[emptyT]⟩,⟨1#256<<<98,[emptyT]⟩],0):=by kernel_rfl
structure Ct where
 f:Nat
 args:List AV
 r:AV
def z5u (c:Ct):Prop:=Pure (ITP Tryz.prog) Tryz.prog c.f c.args c.r
def tbl (T:List Ct):CallP:=fun f args=>match T.find? (fun c=>c.f==f&&zln c.args args) with
 |some c=>some c.r
 |none=>none
theorem zeo {T:List Ct} (h: ∀c∈T,z5u c):Good Tryz.prog (tbl T) noS:=⟨mix,ents,(fun f args r e=>by
 unfold tbl at e
 split at e
 ·rename_i c hc
  cases e
  have h1:=List.find?_some hc
  simp only[Bool.and_eq_true,beq_iff_eq] at h1
  have h2:=h c (List.mem_of_find?_eq_some hc)
  rw[z5u,h1.1,zfm _ _ h1.2] at h2
  exact h2
 ·cases e),(fun _ _ _ _ _ h=>nomatch h)⟩
def avT (t:Tr):AV:= .agg (Enc.cells t)
def avL (l:List Tr):AV:= .list l.length (Enc.cellsL l) .none
def avU (n:Int):AV:= .raw (.int .u8 n)
def avI (n:Int):AV:= .raw (.int .i64 n)
def avB (b:Bool):AV:= .raw (.bool b)
def avS (s:BS):AV:= .agg (Enc.cells s)
def noneC:Ct:=⟨66,[avT dN],avB false⟩
theorem zyp:z5u noneC:=by
 have:=qpf dN (by decide+kernel)
 rw[show isNone dN=false by decide+kernel] at this;exact this
theorem qcl:z5u ⟨61,[avT dN],.list 1 (Enc.cellsL [dN]) .full⟩:=
 z5j (zeo (T:=[noneC]) (fun c hc=>by rw[List.mem_singleton] at hc;subst hc;exact zyp)) (z8t (H:=true) (zeo (T:=[noneC]) (fun c hc=>by rw[List.mem_singleton] at hc;subst hc;exact zyp)) 100) _ _ _ _ _ (by kernel_rfl)
def tT3:List Tr:=[dN,dP,dQ]
def tS4:List BS:=[BitVec.ofNat 256 115792089237316195423570985008687907853269984664531369764257883281603514335231,1#256<<<97,1#256<<<98,1#256<<<99]
def tC4:List Nat:=[0,97,98,99]
def tblA:List Ct:=[⟨25,[avT dN],avB true⟩,⟨52,[avT dN],avT dN⟩,⟨61,[avT dN],.list 1 (Enc.cellsL [dN]) .full⟩,⟨53,[avL [dN]],.list 4 (Enc.cellsL tS4) .none⟩]
def tblB:List Ct:=(tS4.zip tC4).map fun p=>⟨11,[avS p.1],.tup [avU p.2,avB true]⟩
def tblC:List Ct:=tT3.flatMap fun t=>tC4.map fun(c:Nat)=>⟨54,[avL [t],avU c],avL (qme [t] c)⟩
def tblD:List Ct:=tT3.flatMap fun t=>tT3.map fun u=>⟨23,[avT t,avT u],avB (zkm t u)⟩
def tblE:List Ct:=tT3.flatMap fun t=>tT3.map fun u=>⟨31,[avT t,avT u],avI (zkp t u)⟩
def tblT:List Ct:=tblA++(tblB++(tblC++(tblD++tblE)))
theorem qbi: ∀t∈tT3,(pre t).length<2^61:=fun t ht=>by
 have:=List.all_eq_true.1 (show(tT3.all fun t=>decide ((pre t).length<2^61))=true by decide+kernel) t ht
 exact of_decide_eq_true this
theorem tblT_ok: ∀c∈tblT,z5u c:=by
 intro c hc
 unfold tblT at hc
 simp only[List.mem_append] at hc
 rcases hc with hc|hc|hc|hc|hc
 ·simp only[tblA,List.mem_cons,List.not_mem_nil,or_false] at hc
  rcases hc with rfl|rfl|rfl|rfl
  ·exact zqz dN true (by kernel_rfl)
  ·have:=zto dN (by decide+kernel)
   rw[show plT dN=dN by kernel_rfl] at this;exact this
  ·exact qcl
  ·have:=z2n [dN] (by decide+kernel)
   rw[show zog [dN]=tS4 by kernel_rfl] at this;exact this
 ·obtain⟨p,hp,rfl⟩:=List.mem_map.1 hc
  have:=List.all_eq_true.1 (show((tS4.zip tC4).all fun p=>decide (znh p.1=some ((p.2:Int),true)))=true by decide+kernel) p hp
  exact z0a p.1 _ (of_decide_eq_true this)
 ·obtain⟨t,ht,hc⟩:=List.mem_flatMap.1 hc
  obtain⟨c,hc2,rfl⟩:=List.mem_map.1 hc
  have h1:=List.all_eq_true.1 (show(tT3.all fun t=>tC4.all fun c=>decide (c<256∧BO t∧(List.flatMap (byT c) [t]).length<2^40))=true by decide+kernel) t ht
  have h2:=of_decide_eq_true (List.all_eq_true.1 h1 c hc2)
  exact z9z [t] c ⟨by omega,by simp only[Int.toNat_natCast];exact⟨⟨h2.1,fun x hx=>by rw[List.mem_singleton] at hx;subst hx;exact h2.2.1⟩,h2.2.2,by simp⟩⟩
 ·obtain⟨t,ht,hc⟩:=List.mem_flatMap.1 hc
  obtain⟨u,hu,rfl⟩:=List.mem_map.1 hc
  exact zws t u ⟨qbi t ht,qbi u hu⟩
 ·obtain⟨t,ht,hc⟩:=List.mem_flatMap.1 hc
  obtain⟨u,hu,rfl⟩:=List.mem_map.1 hc
  exact z1r t u ⟨qbi t ht,qbi u hu⟩
theorem qli:Snd (ITP Tryz.prog) Tryz.prog 61 [.agg (Enc.cells dN)] ⟨[],[],[],0,false⟩ (.bsl 0 0 1 8 false) ⟨[(29,Enc.cellsL [dN])],[],[],0,false⟩:=by
 obtain⟨d,hd⟩: ∃d,Tryz.f61.body=some d:=⟨_,rfl⟩
 refine zrp mix Tryz.func61 hd ent61 ?_
 cases hd
 refine zal (by dsimp only[zbi,Tryz.f61,List.length_cons,List.length_nil,Nat.zero_add,Nat.reduceAdd,Nat.reduceSub,List.replicate,List.cons_append,List.nil_append]) rfl ?_
 refine zf (zb ?_)
 refine znz (a:= .ptr 0 0) (σ'':=⟨[(29,(Enc.cells (dN:Tr)))],[],[],0,false⟩) rfl rfl rfl rfl (by dsimp only[zab,List.set]) rfl ?_
 refine zwa (a:= .list 0 [] .full) rfl rfl rfl rfl (by dsimp only[zab,List.set]) ?_
 refine zf ?_
 refine zf (zb ?_)
 refine zwa (a:= .agg (Enc.cells (dN:Tr))) rfl rfl rfl rfl (by dsimp only[zab,List.set]) ?_
 refine zdk (args':=[.agg (Enc.cells (dN:Tr))]) (r:= .raw (.bool false)) zyp rfl rfl (ze (zaz (zp (Enc.clo _))) rfl) (za (zq _ _ (zp (Enc.clo _))) rfl) (by dsimp only[zab,List.set]) ?_
 refine zci rfl rfl ?_
 refine zf (zb ?_)
 refine zwa (a:= .agg (Enc.cells (dN:Tr))) rfl rfl rfl rfl (by dsimp only[zab,List.set]) ?_
 refine zmq (a:= .bsl 1 0 1 8 true) (σ'':=⟨[(29,(Enc.cells (dN:Tr))),(29,(Enc.cellsL ([dN]:List Tr)))],[],[],0,false⟩) rfl rfl rfl (by rw[Enc.cons,Enc.nil];rfl) (by dsimp only[zab,List.set]) rfl ?_
 refine zaj ?_
 exact zsf (n:=0) (m:=0) [] [1] 1 rfl rfl rfl (by show St.mk [(29,zbt _ _ (Enc.cellsL _))] _ _ _ _=_;rw[zah _ _ _ (Enc.cloL _)];rfl)
def qhf (l r:List Tr):CallS:=fun f args σ=>match f,args with
 | 68,[.bsl s 0 n 8 fl]=>match σ.boxes[s]? with
  |some (29,cs)=>if n=l.length∧zln cs (Enc.cellsL l)=true then some (.bsl s 0 r.length 8 false,{σ with boxes:=σ.boxes.set s (29,Enc.cellsL r)}) else none
  |_=>none
 |_,_=>none
theorem qkn {l r:List Tr} (hne:l≠[])(hl:l.length<2^60)(hc: ∀y∈l,zch y=true)(hr:qll l=r):qds Tryz.prog (qhf l r):=by
 intro f args σ a σ' h
 unfold qhf at h
 split at h
 ·rename_i s n fl
  split at h
  ·rename_i cs hb
   split at h
   ·rename_i h1
    cases h
    rw[zfm _ _ h1.2] at hb
    rw[h1.1]
    exact qgv hne hl hc hr hb
   ·cases h
  ·cases h
 ·cases h
def firstPsi:CallS:=fun f args σ=>if f=61∧zln args [avT dN]=true∧σ.boxes.length=2 then some (.bsl 2 0 1 8 false,{σ with boxes:=σ.boxes++[(29,Enc.cellsL [dN])]}) else none
theorem z6i:qds Tryz.prog firstPsi:=by
 intro f args σ a σ' h
 unfold firstPsi at h
 split at h
 ·rename_i hc
  obtain⟨h1,h2,h3⟩:=hc
  cases h
  subst h1
  rw[zfm _ _ h2]
  refine zsw (zap _) [] qli rfl ?_ rfl List.nodup_nil (Nat.zero_le _) (fun i t cs hb=>by simp at hb) (fun i t cs hb=> ?_) (fun s hs _=> ?_) (by simp) rfl rfl
  ·show AV.bsl (fwN [] σ.boxes.length 0) 0 1 8 false=_
   rw[qbf (Nat.zero_le _),h3];rfl
  ·have hi:i=0:=by have:=zhq hb;simp at this;omega
   subst hi
   simp only[List.getElem?_cons_zero,Option.some.injEq,Prod.mk.injEq] at hb
   obtain⟨rfl,rfl⟩:=hb
   rw[qbf (Nat.zero_le _),zah _ _ _ (Enc.cloL _)]
   simp
  ·simp[List.getElem?_append_left hs]
 ·cases h
def termsPsi:CallS:=fun f args σ=>match firstPsi f args σ with
 |some r=>some r
 |none=>qhf tT3 [dP,dQ,dN] f args σ
theorem z7j:qds Tryz.prog termsPsi:=by
 intro f args σ a σ' h
 unfold termsPsi at h
 split at h
 ·rename_i r hr;cases h;exact z6i _ _ _ _ _ hr
 ·exact qkn (by decide) (by decide) (fun y hy=>List.all_eq_true.1 (show(tT3.all zch)=true by decide+kernel) y hy) (by kernel_rfl) _ _ _ _ _ h
theorem z8f:Good Tryz.prog (tbl tblT) termsPsi:={zeo tblT_ok with oracleS:=z7j}
theorem qip:z5u ⟨26,[avT dN,avI 3],.tup [avL [dP,dQ,dN],avI 0]⟩:=by
 obtain⟨c,hc⟩: ∃c,Tryz.f26.body=some c:=⟨_,rfl⟩
 refine qoc false z8f 1000 1 Tryz.func26 hc ?_
 cases hc
 kernel_rfl
theorem qqd (r:RT)(i:Nat)(h:i<r.t.l.length):ix (rtL r) (i:Int)=RT.mk r.t.l[i]:=by
 have h2:i<(rtL r).length:=by rw[z7m];exact h
 rw[zof h2];simp[rtL]
theorem qmx {body:Int→Option (Int ⊕ (Unit ⊕ Bool))} {n:Nat} (p:Nat→Bool)(h1: ∀i:Nat,i<n→p i=true→body (i:Int)=some (.inl ((i:Int)+1)))(h2: ∀i:Nat,i<n→p i=false→body (i:Int)=some (.inr (.inr false)))(h3:body (n:Int)=some (.inr (.inl ()))) {fuel:Nat} (hf:n<fuel):
 zcc body fuel 0=some (if(List.range n).all p=true then .inl () else .inr false):=by
 have key: ∀(c i:Nat),i+c=n→(∀j,j<i→p j=true)→ ∀f,c<f→zcc body f (i:Int)=some (if(List.range n).all p=true then .inl () else .inr false):=by
  intro c
  induction c with
  | zero=>
   intro i hi hall f hf
   match f,hf with
   | f+1,_=>
    have:(List.range n).all p=true:=List.all_eq_true.2 fun j hj=>hall j (by have:=List.mem_range.1 hj;omega)
    rw[zcc,this,show i=n by omega,h3];rfl
  | succ c ih=>
   intro i hi hall f hf
   match f,hf with
   | f +1,hf=>
    rw[zcc]
    cases hp:p i with
    | false=>
     have:(List.range n).all p=false:=by
      rw[←Bool.not_eq_true,List.all_eq_true]
      intro h
      have:=h i (List.mem_range.2 (by omega))
      rw[hp] at this;cases this
     rw[h2 i (by omega) hp,this];rfl
    | true=>
     rw[h1 i (by omega) hp]
     have:=ih (i+1) (by omega) (fun j hj=>by
      rcases Nat.lt_or_ge j i with hlt|hge
      ·exact hall j hlt
      ·have e:j=i:=by omega
       subst e;exact hp) f (by omega)
     simp only[Int.natCast_add,Int.natCast_one] at this
     exact this
 exact key n 0 (by omega) (fun j hj=>absurd hj (Nat.not_lt_zero _)) fuel hf
theorem qda (n k:Nat)(s:BS)(mn mx:Int)(l l2:List Tr)(hn:(pre (Tr.mk k s mn mx l)).length<n+1)(hlen:l.length<2^40)(h5:l.length=l2.length): ∀(i:Nat) (hi:i<l.length) (b:Bool),zfo (l.getD i noneT) (l2.getD i noneT)=b→ ∀(r:Option (Int ⊕ (Unit ⊕ Bool))),(b=true→some (Sum.inl ((i:Int)+1))=r)→(b=false→some (Sum.inr (Sum.inr false))=r)→(chk (0≤(i:Int)∧(i:Int)<(l.length:Int)) (zba (ix (rtL (RT.mk (.mk k s mn mx l))) (i:Int)) (fun x1=>(chk (0≤(i:Int)∧(i:Int)<(l2.length:Int)) (zba (ix (rtL (RT.mk (.mk k s mn mx l2))) (i:Int)) (fun x2=>(chk (((pre x1.t).length<n)) (zba (zfo x1.t x2.t) (fun x3=>(bif (!x3) then(some (Sum.inr (Sum.inr false))) else(chk (-9223372036854775808≤((i:Int)+1)∧((i:Int)+1)<9223372036854775808) (some (Sum.inl ((i:Int)+1))))))))))))))=r:=fun i hi b hb r hr1 hr2=>by
 have hp:(pre (Tr.mk k s mn mx l)).length=1+(zae l).length:=zyh ..
 have hi2:i<l2.length:=by omega
 have hx:=zbq (List.getElem_mem hi)
 refine zm (by omega) (zad fun x1 e1=>zm (by omega) (zad fun x2 e2=> ?_))
 rw[show ix (rtL (RT.mk (.mk k s mn mx l))) (i:Int)=RT.mk l[i] from qqd (RT.mk (.mk k s mn mx l)) i hi] at e1
 rw[show ix (rtL (RT.mk (.mk k s mn mx l2))) (i:Int)=RT.mk l2[i] from qqd (RT.mk (.mk k s mn mx l2)) i hi2] at e2
 subst e1 e2
 refine zm (by show(pre l[i]).length<n;omega) (zad fun x3 e3=> ?_)
 have e3:zfo l[i] l2[i]=x3:=e3
 rw[List.getD_eq_getElem?_getD,List.getD_eq_getElem?_getD,List.getElem?_eq_getElem hi,List.getElem?_eq_getElem hi2] at hb
 have hb:zfo l[i] l2[i]=b:=hb
 rw[e3] at hb
 subst hb
 cases x3 with
 |false=>exact zbp rfl (hr2 rfl)
 |true=>exact zaw rfl (zm ⟨by omega,by omega⟩ (hr1 rfl))
theorem qev {fuel:Nat} (n:Nat)(a b:RT)(hn:(pre a.t).length<n+1)(hs:(pre a.t).length<2^40)(hf:(pre a.t).length<fuel):zst fuel n a b=some (z7h a b):=by
 obtain⟨⟨k,s,mn,mx,l⟩⟩:=a
 obtain⟨⟨k2,s2,mn2,mx2,l2⟩⟩:=b
 have hp:(pre (Tr.mk k s mn mx l)).length=1+(zae l).length:=zyh ..
 have hlen:=zan l
 simp only at hn hs hf
 unfold zst z7h
 simp only[z7m,Tr.k,Tr.s,Tr.mn,Tr.mx,Tr.l]
 rw[qlw,qhs]
 by_cases hk:k=k2
 ·subst hk
  simp only[bne_self_eq_false,cond_false,beq_self_eq_true,Bool.true_and]
  by_cases hs1:s=s2
  ·subst hs1
   simp only[decide_true,Bool.not_true,cond_false,Bool.true_and]
   by_cases h3:mn=mn2
   ·subst h3
    simp only[bne_self_eq_false,cond_false,beq_self_eq_true,Bool.true_and]
    by_cases h4:mx=mx2
    ·subst h4
     simp only[bne_self_eq_false,cond_false,beq_self_eq_true,Bool.true_and]
     by_cases h5:l.length=l2.length
     ·rw [show((l.length:Int) !=(l2.length:Int))=false by simp[h5],cond_false]
      have hall:(List.range l.length).all (fun i=>zfo (l.getD i noneT) (l2.getD i noneT))=z3z zfo l l2:=by
       cases hc:z3z zfo l l2 with
       | true=>
        have:=(zso _ _ _).1 hc
        refine List.all_eq_true.2 fun i hi=> ?_
        have hi:=List.mem_range.1 hi
        rw[List.getD_eq_getElem?_getD,List.getD_eq_getElem?_getD,List.getElem?_eq_getElem hi,List.getElem?_eq_getElem (show i<l2.length by omega)]
        exact this.2 i hi (by omega)
       | false=>
        rw[←Bool.not_eq_true,List.all_eq_true]
        intro h
        have:z3z zfo l l2=true:=(zso _ _ _).2 ⟨h5,fun i h1 h2=>by
         have:=h i (List.mem_range.2 h1)
         rwa[List.getD_eq_getElem?_getD,List.getD_eq_getElem?_getD,List.getElem?_eq_getElem h1,List.getElem?_eq_getElem h2] at this⟩
        rw[this] at hc;cases hc
      have step:=qda n k s mn mx l l2 hn (by omega) h5
      have h0:=qmx (n:=l.length) (fun i=>zfo (l.getD i noneT) (l2.getD i noneT)) (body:=fun s1=>(bif (decide (s1<(l.length:Int))) then(chk (0≤s1∧s1<(l.length:Int)) (zba (ix (rtL (RT.mk (.mk k s mn mx l))) s1) (fun x1=>(chk (0≤s1∧s1<(l2.length:Int)) (zba (ix (rtL (RT.mk (.mk k s mn mx l2))) s1) (fun x2=>(chk (((pre x1.t).length<n)) (zba (zfo x1.t x2.t) (fun x3=>(bif (!x3) then(some (Sum.inr (Sum.inr false))) else(chk (-9223372036854775808≤(s1+1)∧(s1+1)<9223372036854775808) (some (Sum.inl (s1+1)))))))))))))) else(some (Sum.inr (Sum.inl ())))))
       (fun i hi hp=>zbp (by simp;omega) (step i hi true hp _ (fun _=>rfl) (fun h=>by cases h))) (fun i hi hp=>zbp (by simp;omega) (step i hi false hp _ (fun h=>by cases h) (fun _=>rfl))) (zaw (by simp) rfl) (fuel:=fuel) (by omega)
      rw[hall] at h0
      cases hc:z3z zfo l l2 with
      | true=>
       rw[hc] at h0
       rw[if_pos rfl] at h0;exact zbw () h0 rfl
      | false=>
       rw[hc] at h0
       rw[if_neg Bool.false_ne_true] at h0;exact qov false h0 rfl
     ·rw[show((l.length:Int) !=(l2.length:Int))=true by simp;omega,cond_true,qlb h5]
    ·rw[show(mx !=mx2)=true by simpa using h4,cond_true,show(mx==mx2)=false by simpa using h4];rfl
   ·rw[show(mn !=mn2)=true by simpa using h3,cond_true,show(mn==mn2)=false by simpa using h3];rfl
  ·rw[show decide (s=s2)=false by simpa using hs1];rfl
 ·rw[show((k:Int) !=(k2:Int))=true by simp;omega,cond_true,show((k:Int)==(k2:Int))=false by simp;omega];rfl
theorem z3v: ∀(n:Nat) (a b:RT),(pre a.t).length<n→(pre a.t).length<2^40→Pure (ITP Tryz.prog) Tryz.prog 80 [.agg (Enc.cells a),.agg (Enc.cells b)] (.raw (.bool (z7h a b)))
 |0,a,b,h,_=>absurd h (Nat.not_lt_zero _)
 |n+1,a,b,h,hs=>qhz ((pre a.t).length+1) (min n (pre a.t).length) a b _ (fun x y hx=>z3v n x y (by omega) (by omega)) (qev _ a b (by omega) hs (by omega))
theorem k_rsame (a b:RT)(h:(pre a.t).length<2^40):Pure (ITP Tryz.prog) Tryz.prog 80 [.agg (Enc.cells a),.agg (Enc.cells b)] (.raw (.bool (z7h a b))):=z3v ((pre a.t).length+1) a b (by omega) h
def avZ (l:List Nat):AV:= .raw (.string (bs (l.map fun b=>UInt8.ofNat b)))
def awIs:List (List Tr):=[[dP,dQ],[rpT dA 1 2],[rpT dA 0 1],[emptyT],[ctT [dA,dB,dC]]]
def wsT:List BS:=[0#256,1#256<<<97,1#256<<<98,1#256<<<99]
def tblW:List Ct:=wsT.map fun s=>⟨113,[avS s],.agg (Enc.cells (zgr s))⟩
theorem zqm: ∀c∈tblW,z5u c:=by
 intro c hc
 obtain⟨s,_,rfl⟩:=List.mem_map.1 hc
 exact k_words s
theorem thA1:z5u ⟨72,[avT (rpT dA 1 2)],.agg (Enc.cells (RT.mk (rpT dA 1 2)))⟩:=zam true (zeo zqm) 300 (by kernel_rfl)
theorem thA2:z5u ⟨72,[avT (rpT dA 0 1)],.agg (Enc.cells (RT.mk (rpT dA 0 1)))⟩:=zam true (zeo zqm) 300 (by kernel_rfl)
theorem thA3:z5u ⟨72,[avT emptyT],.agg (Enc.cells (RT.mk emptyT))⟩:=zam true (zeo zqm) 300 (by kernel_rfl)
theorem thA4:z5u ⟨72,[avT (ctT [dA,dB,dC])],.agg (Enc.cells (RT.mk (ctT [dA,dB,dC])))⟩:=zam true (zeo zqm) 300 (by kernel_rfl)
theorem thA5:z5u ⟨72,[avT dP],.agg (Enc.cells (RT.mk dP))⟩:=zam true (zeo zqm) 300 (by kernel_rfl)
theorem thA6:z5u ⟨72,[avT dQ],.agg (Enc.cells (RT.mk dQ))⟩:=zam true (zeo zqm) 300 (by kernel_rfl)
def awTs:List Tr:=[rpT dA 1 2,rpT dA 0 1,emptyT,ctT [dA,dB,dC],dP,dQ]
def tblS:List Ct:=(awTs.map fun t=>⟨72,[avT t],.agg (Enc.cells (RT.mk t))⟩)++awTs.map fun t=>⟨80,[.agg (Enc.cells (RT.mk t)),.agg (Enc.cells (RT.mk t))],avB true⟩
theorem zus: ∀c∈tblS,z5u c:=by
 intro c hc
 rcases List.mem_append.1 hc with hc|hc
 ·simp only[awTs,List.map_cons,List.map_nil,List.mem_cons,List.not_mem_nil,or_false] at hc
  rcases hc with rfl|rfl|rfl|rfl|rfl|rfl
  ·exact thA1
  ·exact thA2
  ·exact thA3
  ·exact thA4
  ·exact thA5
  ·exact thA6
 ·obtain⟨t,ht,rfl⟩:=List.mem_map.1 hc
  have h:=List.all_eq_true.1 (show(awTs.all fun t=>decide ((pre t).length<2^40)&&z7h (RT.mk t) (RT.mk t))=true by decide+kernel) t ht
  simp only[Bool.and_eq_true,decide_eq_true_eq] at h
  have:=k_rsame (RT.mk t) (RT.mk t) h.1
  rw[h.2] at this
  exact this
def isOk (l:List Tr):Prop:=z5u ⟨46,[avL l,avL l],avB true⟩
theorem is1:isOk [dP,dQ]:=zam true (zeo zus) 300 (by kernel_rfl)
theorem is2:isOk [rpT dA 1 2]:=zam true (zeo zus) 300 (by kernel_rfl)
theorem is3:isOk [rpT dA 0 1]:=zam true (zeo zus) 300 (by kernel_rfl)
theorem is4:isOk [emptyT]:=zam true (zeo zus) 300 (by kernel_rfl)
theorem is5:isOk [ctT [dA,dB,dC]]:=zam true (zeo zus) 300 (by kernel_rfl)
def dG:Tr:=ctT [gpT (ctT [gpT dA,dB]),dC]
def dH:Tr:=alT [.mk 2 (3#256<<<97) 0 0 [],dB]
def dArcs:List Arc:=[⟨1#256<<<97,[emptyT]⟩,⟨1#256<<<98,[emptyT]⟩]
def awA:List Ct:=[⟨14,[avT dN,avU 97],.tup [avL [dP,dQ],avI 0]⟩,⟨14,[avT dN,avU 98],.tup [avL [],avI 0]⟩,⟨14,[avT (rpT dA 2 3),avU 97],.tup [avL [rpT dA 1 2],avI 0]⟩,
 ⟨14,[avT (rpT dA 1 2),avU 97],.tup [avL [rpT dA 0 1],avI 0]⟩,⟨14,[avT (ctT [rpT dA 0 1,dB]),avU 98],.tup [avL [emptyT],avI 0]⟩,
 ⟨38,[avT dN,avZ [97,98,97,99]],.tup [avB true,avI 0]⟩,⟨38,[avT dN,avZ [97,98,97]],.tup [avB false,avI 0]⟩,⟨17,[avT dG],.tup [avT (ctT [dA,dB,dC]),avI 0]⟩,
 ⟨10,[avT dH],.tup [.list 2 (Enc.cellsL dArcs) .none,avI 0]⟩,⟨26,[avT dN,avI 3],.tup [avL [dP,dQ,dN],avI 0]⟩]
def awB:List Ct:=awIs.map fun l=>⟨46,[avL l,avL l],avB true⟩
def awTbl:List Ct:=awA++awB
theorem qmq: ∀c∈awTbl,z5u c:=by
 intro c hc
 unfold awTbl at hc
 rcases List.mem_append.1 hc with hc|hc
 ·simp only[awA,List.mem_cons,List.not_mem_nil,or_false] at hc
  rcases hc with rfl|rfl|rfl|rfl|rfl|rfl|rfl|rfl|rfl|rfl
  ·exact z4s dN 97 _ tA
  ·exact z4s dN 98 _ tB
  ·exact z4s (rpT dA 2 3) 97 _ tC
  ·exact z4s (rpT dA 1 2) 97 _ tD
  ·exact z4s (ctT [rpT dA 0 1,dB]) 98 _ tE
  ·exact znf 20 dN [97,98,97,99] _ tF
  ·exact znf 20 dN [97,98,97] _ tG
  ·exact zvh dG _ tH
  ·exact qno 20 dH _ tI
  ·exact qip
 ·simp only[awB,awIs,List.map_cons,List.map_nil,List.mem_cons,List.not_mem_nil,or_false] at hc
  rcases hc with rfl|rfl|rfl|rfl|rfl
  ·exact is1
  ·exact is2
  ·exact is3
  ·exact is4
  ·exact is5
theorem qdp:Pure (ITP Tryz.prog) Tryz.prog 8 [] (.raw (.bool true)):=zam true (zeo qmq) 300 (by kernel_rfl)
end Go.Ab
set_option maxRecDepth 100000
set_option maxHeartbeats 4000000
namespace Go.Ab
open Go Go.RowKit Go.Fwd Go.Proofs
def samQ (x y:Tr):Option Bool:=if(pre x).length<2^61∧(pre y).length<2^61 then some (zkm x y) else none
theorem samQ_ok {x y:Tr} {z:Bool} (h:samQ x y=some z):Pure (ITP Tryz.prog) Tryz.prog 23 [.agg (Enc.cells x),.agg (Enc.cells y)] (.raw (.bool z)):=by
 unfold samQ at h
 split at h
 ·rename_i h1;cases h;exact zws x y h1
 ·cases h
def qgk (fuel:Nat)(a:(List Tr))(b:(List Tr)):Option Bool:=
 (zau (z0l fuel samQ a b) (fun x1=>(some x1)))
theorem ent15:Ent Tryz.prog 15:=enters_of Tryz.func15 (by kernel_rfl) rfl
theorem eqL_sh (fuel:Nat)(a:(List Tr))(b:(List Tr))(r:Bool)(h:qgk fuel a b=some r):Pure (ITP Tryz.prog) Tryz.prog 15 [.L (a:List Tr),.L (b:List Tr)] (.raw (.bool r)):=by
 unfold qgk at h
 refine zav 6 mix Tryz.func15 ent15 ?_
 refine zo [.v (.b false)] ?_
 refine zo [.m _,.m _] ?_
 obtain⟨x1,hx1,h⟩:=zt h
 refine zdk (args':=[.L (a:List Tr),.L (b:List Tr),.clos 23 []]) (r:= .b x1) (qpl fuel samQ a b x1 23 (fun x y z h=>samQ_ok h) hx1) rfl rfl (ze (zge (Enc.cloL _)) (ze (zge (Enc.cloL _)) (ze (show AV.clos _ (stripL _)=_ from congrArg (AV.clos _) rfl) rfl))) (za (zao (Enc.cloL _)) (za (zao (Enc.cloL _)) (za (show zu _ _=true from rfl) rfl))) (by dsimp only[zab,List.set]) ?_
 refine zaj ?_
 exact zbb h
end Go.Ab
