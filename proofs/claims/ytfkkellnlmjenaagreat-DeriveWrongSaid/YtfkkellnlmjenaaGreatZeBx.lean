/-
  A function that is handed one box; clear; a box under a pile.
-/
import Derived.Test.YtfkkellnlmjenaaGreatZeW6
set_option linter.unusedSimpArgs false
set_option linter.unusedVariables false
namespace Go.Ab
open Go Go.RowKit Go.Fwd Go.Proofs
theorem qge:(pre noneT).length=1:=by simp[noneT,pre,zap]
theorem copy_eq (t:Tr)(h:(pre t).length<2^61):z9s t=some (zvs t):=by
 unfold z9s zvs
 rw[zdk h,zbc]
 cases hl:zcj t with
 |false=>rfl
 |true=>have:=zku.1 hl;show chk _ _=_;rw[zdk (by omega)];rfl
theorem k_copy (t:Tr)(h:(pre t).length<2^61):Pure (ITP Tryz.prog) Tryz.prog 94 [.agg (Enc.cells t)] (.agg (Enc.cells (zvs t))):=copy_sh t _ (copy_eq t h)
theorem qdi (t:Tr)(h:(pre t).length<2^60):zoz t=some (zmq t):=by
 unfold zoz zmq
 rw[zdk ⟨h,by rw[qge];omega⟩,zbc]
 cases zfo t noneT with
 |true=>rfl
 |false=>show chk _ _=_;rw[zdk (by omega)];rfl
theorem zqj (t:Tr)(h:(pre t).length<2^61):zez t=some (zhf t):=by
 unfold zez zhf
 rw[zdk h,zbc]
 cases hl:zcd t with
 |false=>rfl
 |true=>have:=zeq hl;show chk _ _=_;rw[zdk (by omega)];rfl
theorem qdt {fuel:Nat} (k w:Nat)(l:List Tr)(hl:(zap l).length≤2^40)(hf:l.length<fuel):zrg fuel k w l=some (ziv k w l):=by
 have hlen:=zaq l
 unfold zrg
 refine zcb (ziv k w l) ?_ rfl
 refine zew l.length (fun i=>(ziv k w (l.take i),(i:Int))) (by simp[ziv]) (fun i hi=> ?_) ?_ hf
 ·have hp:=zrb l (i+1)
  have hfl:=zmc k w (l.take (i+1))
  have hlf:(ziv k w (l.take (i+1))).length≤(zap l).length:=by have:=zaq (ziv k w (l.take (i+1)));omega
  have hs:ziv k w (l.take (i+1))=ziv k w (l.take i)++(bif (l[i].k:Int)==k then l[i].l else bif (l[i].k:Int)==w then[] else[l[i]]):=by
   rw[List.take_succ_eq_append_getElem hi,ziv,List.flatMap_append];simp[ziv]
  refine zbe (by simp;omega) ?_
  refine zcb (ziv k w (l.take (i+1))) ?_ ?_
  ·refine zq (by simp only;omega) (zai fun x1 e1=> ?_)
   simp only at e1
   rw[zel hi] at e1
   rw[←e1,hs]
   rw[hs,List.length_append] at hlf
   cases h1:(l[i].k:Int)==k with
   | true=>
    rw[h1,cond_true] at hlf
    exact zbe rfl (zq (by simp only;omega) rfl)
   | false=>
    rw[h1,cond_false] at hlf
    cases h2:(l[i].k:Int)==w with
    |true=>exact zay rfl (zbe rfl (by simp))
    | false=>
     rw[h2,cond_false] at hlf
     exact zay rfl (zay rfl (zq (by simp only;omega) rfl))
  ·refine zq (by simp only;omega) ?_
   simp only;rfl
 ·exact zay (by simp) (by simp[List.take_length])
theorem z2e (k:Nat)(l:List Tr)(z:Tr)(hl:(zap l).length≤2^41):ziz k l z=some (zps k l z):=by
 unfold ziz zps
 cases h0:(l.length:Int)==0 with
 |true=>rfl
 | false=>
  simp only[cond_false]
  cases h1:(l.length:Int)==1 with
  | true=>
   cases l with
   |nil=>simp at h1
   | cons x l=>
    have hx:(pre x).length≤(zap (x::l)).length:=by simp[zap]
    refine zq (by simp) (zai fun x1 e1=> ?_)
    have:x1=x:=by rw[←e1];rfl
    subst this
    rw[zqj _ (by omega)];rfl
  | false=>
   simp only[cond_false]
   refine zq (by omega) ?_
   rw[Int.toNat_natCast,zqj _ (by rw[pre,List.length_cons];omega)];rfl
theorem qal {l:List Tr} {x:Tr} (h:x∈l):(pre x).length≤(zap l).length:=zhb h
theorem qfg {ρ:Type} (q:Tr→Bool)(y:ρ)(l:List Tr) {body:Int→Option (Int ⊕ (Unit ⊕ ρ))} (hb: ∀i (hi:i<l.length),body (i:Int)=some (if q l[i]=true then .inr (.inr y) else .inl ((i+1:Nat):Int)))(he:body (l.length:Int)=some (.inr (.inl ()))):
 ∀(k i n:Nat),i+k=l.length→k<n→zbv body n (i:Int)=some (if(l.drop i).any q=true then .inr y else .inl ()):=by
 intro k
 induction k with
 | zero=>
  intro i n hi hn
  match n,hn with
  | n+1,_=>
   have:i=l.length:=by omega
   subst this
   rw[zbv,he,List.drop_length];rfl
 | succ k ih=>
  intro i n hi hn
  match n,hn with
  | n+1,hn=>
   have hil:i<l.length:=by omega
   rw[zbv,hb i hil,List.drop_eq_getElem_cons hil,List.any_cons]
   by_cases hq:q l[i]=true
   ·simp[hq]
   ·rw[if_neg hq]
    simp only
    rw[ih (i+1) n (by omega) (by omega)]
    simp[hq]
theorem seq_eqF {fuel:Nat} (l:List Tr)(hl:(zap l).length≤2^40)(hf:l.length<fuel):qlc fuel l=some (zlc l):=by
 have hlen:=zaq l
 have hfl:=zmc 3 1 l
 unfold qlc zlc
 rw[show(0:Int)=((0:Nat):Int) from rfl,qfg (fun x=>(x.k:Int)==0|| !zcd x) noneT l (fun i hi=> ?_) ?_ l.length 0 fuel (by omega) hf,List.drop_zero]
 ·cases l.any (fun x=>(x.k:Int)==0|| !zcd x) with
  |true=>rfl
  | false=>
   show zav (zrg fuel ((3:Nat):Int) ((1:Nat):Int) l) _=_
   rw[qdt 3 1 l hl hf,bindE_some]
   show zav (ziz ((3:Nat):Int) _ _) _=_
   rw[z2e 3 _ _ (by omega)];rfl
 ·exact zay (by simp) rfl
 ·skip
  have hx:=qal (List.getElem_mem hi)
  refine zbe (by simp;omega) (zq (by omega) (zai fun x1 e1=> ?_))
  rw[zel hi] at e1
  subst e1
  cases h1:(l[i].k:Int)==0 with
  |true=>exact zbe rfl (by simp)
  | false=>
   refine zay rfl (zq (by omega) (zai fun x2 e2=> ?_))
   subst e2
   cases h2:zcd l[i] with
   |true=>exact zay rfl (zq (by omega) (by simp))
   |false=>exact zbe rfl (by simp)
theorem or_eqF {fuel:Nat} (l:List Tr)(hl:(zap l).length≤2^40)(hf:l.length<fuel):F_or fuel l=some (orT l):=by
 have hlen:=zaq l
 have hfl:=zmc 4 0 l
 unfold F_or orT
 rw[show(0:Int)=((0:Nat):Int) from rfl,qfg (fun x=> !zmq x) noneT l (fun i hi=> ?_) ?_ l.length 0 fuel (by omega) hf,List.drop_zero]
 ·cases l.any (fun x=> !zmq x) with
  |true=>rfl
  | false=>
   show zav (zrg fuel ((4:Nat):Int) ((0:Nat):Int) l) _=_
   rw[qdt 4 0 l hl hf,bindE_some]
   show zav (ziz ((4:Nat):Int) _ _) _=_
   rw[z2e 4 _ _ (by omega)];rfl
 ·exact zay (by simp) rfl
 ·skip
  have hx:=qal (List.getElem_mem hi)
  refine zbe (by simp;omega) (zq (by omega) (zai fun x1 e1=> ?_))
  rw[zel hi] at e1
  subst e1
  refine zaw (zmq l[i]) (qdi _ (by omega)) ?_
  cases h2:zmq l[i] with
  |true=>exact zay rfl (zq (by omega) (by simp))
  |false=>exact zbe rfl (by simp)
theorem k_seq (l:List Tr)(h:(zap l).length≤2^40):Pure (ITP Tryz.prog) Tryz.prog 91 [.list l.length (Enc.cellsL l) .none] (.agg (Enc.cells (zlc l))):=seq_sh (l.length+1) l _ (seq_eqF l h (by omega))
theorem k_or (l:List Tr)(h:(zap l).length≤2^40):Pure (ITP Tryz.prog) Tryz.prog 92 [.list l.length (Enc.cellsL l) .none] (.agg (Enc.cells (orT l))):=or_sh (l.length+1) l _ (or_eqF l h (by omega))
theorem qhx (t:Tr)(lo hi:Int)(h:(pre t).length<2^40):zyv t lo hi=some (zis t lo hi):=by
 have e1:=qdi t (by omega)
 have e2:=zwz lo hi
 have e3:zez (Tr.mk 5 0#256 lo hi [t])=some (zhf (Tr.mk 5 0#256 lo hi [t])):=zqj _ (by rw[z0c];omega)
 unfold zyv zis
 simp only[e1,e2,e3,bindE_some]
 have hE:emptyT=Tr.mk 1 0#256 0 0 []:=rfl
 rw[←hE]
 simp only[zdk h,zbc]
 generalize zmq t=G
 generalize zdv lo hi=B
 generalize zhf (Tr.mk 5 0#256 lo hi [t])=X
 generalize (lo==0)=a
 generalize (lo==1)=b
 generalize (hi==0)=c
 generalize (hi==1)=d
 generalize ((t.k:Int)==0)=e
 generalize ((t.k:Int)==1)=f
 generalize decide (lo>0)=p
 generalize noneT=N
 generalize emptyT=M
 cases a<;>cases b<;>cases c<;>cases d<;>cases e<;>cases f<;>cases p<;>cases G<;>cases B<;>rfl
theorem qde (t:Tr)(lo hi:Int)(h:(pre t).length<2^40):Pure (ITP Tryz.prog) Tryz.prog 93 [.agg (Enc.cells t),.raw (.int .i64 lo),.raw (.int .i64 hi)] (.agg (Enc.cells (zis t lo hi))):=qkx t lo hi _ (qhx t lo hi h)
end Go.Ab
set_option maxRecDepth 100000
set_option maxHeartbeats 4000000
namespace Go.Ab
open Go Go.RowKit Go.Fwd Go.Proofs
mutual
def zeu:Tr→Bool
 | .mk k s mn mx l=>bif (k:Int)==1 then true else bif (k:Int)==2 then false else bif (k:Int)==4 then zzr l else bif (k:Int)==5 then mn==0||qgd l else zxs l
def zzr:List Tr→Bool
 |[]=>false
 |x::l=>zeu x||zzr l
def zxs:List Tr→Bool
 |[]=>true
 |x::l=>zeu x&&zxs l
def qgd:List Tr→Bool
 |[]=>false
 |x::_=>zeu x
end
def crT (t:Tr):Bool:=(pre t).all zds
def q1 (f:Tr→Bool)(n:Nat)(x:Tr):Option Bool:=if(pre x).length<n∧crT x=true then some (f x) else none
theorem q1_some {f:Tr→Bool} {n:Nat} {x:Tr} {z:Bool} (h:q1 f n x=some z):((pre x).length<n∧crT x=true)∧z=f x:=by
 unfold q1 at h
 split at h
 ·rename_i h1;exact⟨h1,(Option.some.inj h).symm⟩
 ·cases h
theorem zwf: ∀l:List Tr,zzr l=l.any zeu
 |[]=>rfl
 |x::l=>by rw[zzr,zwf l,List.any_cons]
theorem zwj: ∀l:List Tr,zxs l=l.all zeu
 |[]=>rfl
 |x::l=>by rw[zxs,zwj l,List.all_cons]
theorem qmt (t:Tr):zeu t=(bif (t.k:Int)==1 then true else bif (t.k:Int)==2 then false else bif (t.k:Int)==4 then t.l.any zeu else bif (t.k:Int)==5 then t.mn==0||qgd t.l else t.l.all zeu):=by
 obtain⟨k,s,mn,mx,l⟩:=t
 rw[zeu,zwf,zwj];rfl
theorem qeq {t x:Tr} (h:crT t=true)(hx:x∈t.l):crT x=true:=by
 have h1:=(zcn t).1 h
 exact((zeo t.l).1 h1.2) x hx
theorem q1_eq {n:Nat} {x:Tr} (h:(pre x).length<n)(hc:crT x=true):q1 zeu n x=some (zeu x):=by
 unfold q1;rw[if_pos ⟨h,hc⟩]
end Go.Ab
set_option maxRecDepth 100000
set_option maxHeartbeats 4000000
namespace Go.Ab
open Go Go.RowKit Go.Fwd Go.Proofs
end Go.Ab
namespace Go.Ab
open Go Go.RowKit Go.Fwd Go.Proofs
def zvn (b n sz:Nat):AV:=match n with|0=> .list 0 [] .full|n+1=> .bsl b 0 (n+1) sz false
section
variable {α:Type}
theorem zfv {e:List α} (h:e.isEmpty=true)(b sz:Nat):zvn b e.length sz= .list 0 [] .full:=by rw[List.isEmpty_iff.1 h];rfl
theorem zgq {e:List α} (h:e.isEmpty=false)(b sz:Nat):zvn b e.length sz= .bsl b 0 e.length sz false:=by
 cases e with
 |nil=>cases h
 |cons x l=>rfl
theorem zgj {l:List α} {n:Nat} (h:l.length=n)(hp:0<n)(b sz:Nat):AV.bsl b 0 n sz false=zvn b l.length sz:=by
 subst h
 cases l with
 |nil=>exact absurd hp (Nat.lt_irrefl _)
 |cons x l=>rfl
theorem zwb {k b n sz:Nat} (h:b<k):zbk k (zvn b n sz)=true:=by
 cases n with
 |zero=>rfl
 |succ n=>simp[zvn,zbk,h]
theorem zfz {e:List α} (h:e.isEmpty=false):0<e.length:=by
 cases e with
 |nil=>cases h
 |cons x l=>simp
end
section
variable {α:Type} [Enc α] {P:Program} {ρ:Operand→AV} {σ:St} {o:Oper}
theorem zmg {c:Call} {x y:Operand} {t e:TypeId} {i:TypeInfo} {z:Value} {by':Nat} {r:List α} {st:Room} (hn:0<r.length∧r.length*by'≤140737488355328)(ho:o.op= .call c)(hc:c.callee= .builtin .append)(ha:c.args.toList=[x,y])(ht:c.argTypes.toList=[t,t])
 (hx:ρ x= .list 0 [] .full) (hy:ρ y= .list r.length (Enc.cellsL r) st) (hu:P.underlying t=some (.slice e)) (hi:P.info? e=some i) (hz:i.zero=some z) (hsz:i.size=Enc.sz α) (hzs:z.cells.size=Enc.sz α) (hby:i.bytes=by'∧0<by'):
 ztl P ρ σ o=some (.bsl σ.boxes.length 0 r.length (Enc.sz α) false,{σ with boxes:=σ.boxes++[(e,Enc.cellsL r)]}):=by
 obtain⟨h1,h2⟩:=hn
 have hp:=Enc.pos (α:=α)
 have hsrc:qjp P σ (Enc.sz α) t t (ρ y)=some (r.length,Enc.cellsL r):=by rw[hy];exact zox ⟨rfl,by rw[Enc.lenL],by omega⟩
 have hmax:r.length≤maxLen:=by
  unfold maxLen
  have:r.length*1≤r.length*by':=Nat.mul_le_mul_left _ hby.2
  omega
 have h:=qah (P:=P) (σ:=σ) ho hc ha ht hx hu hi hz hsz hsrc ⟨hp,hzs,h1⟩ ⟨by simp,by rw[Nat.zero_add];exact hmax,by rw[Nat.zero_add,hby.1];exact h2⟩
 rw[h,Nat.zero_add,List.nil_append]
theorem z8s {c:Call} {x y:Operand} {t e:TypeId} {i:TypeInfo} {z:Value} {s n by':Nat} {l r:List α} {st:Room} (hn:n≤l.length∧0<r.length∧(n+r.length)*by'≤140737488355328)(ho:o.op= .call c)(hc:c.callee= .builtin .append)(ha:c.args.toList=[x,y])(ht:c.argTypes.toList=[t,t])
 (hx:ρ x= .bsl s 0 n (Enc.sz α) true) (hy:ρ y= .list r.length (Enc.cellsL r) st) (hb:σ.boxes[s]? =some (e,Enc.cellsL l)) (hu:P.underlying t=some (.slice e)) (hi:P.info? e=some i) (hz:i.zero=some z) (hsz:i.size=Enc.sz α) (hzs:z.cells.size=Enc.sz α) (hby:i.bytes=by'∧0<by'):
 ztl P ρ σ o=some (.bsl σ.boxes.length 0 (n+r.length) (Enc.sz α) false,{σ with boxes:=σ.boxes++[(e,Enc.cellsL (l.take n++r))]}):=by
 obtain⟨h1,h3,h4⟩:=hn
 have hp:=Enc.pos (α:=α)
 have hsrc:qjp P σ i.size t t (ρ y)=some (r.length,Enc.cellsL r):=by rw[hy];exact zox ⟨rfl,by rw[Enc.lenL,hsz],by omega⟩
 have hmax:n+r.length≤maxLen:=by
  unfold maxLen
  have:(n+r.length)*1≤(n+r.length)*by':=Nat.mul_le_mul_left _ hby.2
  omega
 have hle:0+n*Enc.sz α≤(Enc.cellsL l).length:=by rw[Enc.lenL,Nat.zero_add];exact Nat.mul_le_mul_right _ h1
 have hnn:ztc (.bsl s 0 n (Enc.sz α) true)=false:=rfl
 have c1:0<i.size∧z.cells.size=i.size∧0<r.length:=⟨by omega,by omega,h3⟩
 have c2:Enc.sz α=i.size∧n+r.length≤maxLen∧(n+r.length)*i.bytes≤140737488355328∧0+n*Enc.sz α≤(Enc.cellsL l).length:=⟨hsz.symm,hmax,by rw[hby.1];exact h4,hle⟩
 simp only[ztl,ho,hc,ha,ht,hx,hnn,Bool.false_eq_true,if_false,zzg,hu,hi,hz,hsrc,hb,if_pos c1,if_pos c2,if_true,List.drop_zero]
 rw[Enc.app,Enc.take]
theorem qoo {t e:TypeId} {x h1 h2:Operand} {s n:Nat} {f:Bool} {k k':IntKind} {j:Int} (g:0<j∧j≤n)(ho:o.op= .slice t x none (some h1) (some h2))(hx:ρ x= .bsl s 0 n (Enc.sz α) f)(hi:ρ h1= .raw (.int k j))(hi2:ρ h2= .raw (.int k' j))(hu:P.underlying t=some (.slice e))(hs:zdq P e=some (Enc.sz α)):
 qop P ρ σ o=some (.bsl s 0 j.toNat (Enc.sz α) true):=by
 have h4:zey n none (some (.raw (.int k j))) (some (.raw (.int k' j)))=some (0,j.toNat,true):=by
  have c:0≤j∧j≤(n:Int):=by omega
  have c2:0≤j∧j≤((j.toNat:Nat):Int):=by omega
  have c3:(0≤j∧j≤max j 0):=by omega
  simp only[zey,zit,if_pos c]
  first|rw[if_pos c]|skip
  simp[if_pos c3]
 have hlt:0<j.toNat:=by omega
 simp only[qop,ho,hx,hi,hi2,Option.map_some,Option.map_none,zky,hu,hs,h4,if_true,if_pos hlt,Nat.zero_add,Nat.zero_mul,Nat.sub_zero]
 simp
theorem qev {t e:TypeId} {x h1 h2:Operand} {s n:Nat} {f:Bool} {k k':IntKind} {j:Int} (g:j=0)(ho:o.op= .slice t x none (some h1) (some h2))(hx:ρ x= .bsl s 0 n (Enc.sz α) f)(hi:ρ h1= .raw (.int k j))(hi2:ρ h2= .raw (.int k' j))(hu:P.underlying t=some (.slice e))(hs:zdq P e=some (Enc.sz α)):
 qop P ρ σ o=some (.list 0 [] .full):=by
 subst g
 have h4:zey n none (some (.raw (.int k 0))) (some (.raw (.int k' 0)))=some (0,0,true):=by
  have c:0≤(0:Int)∧(0:Int)≤(n:Int):=by omega
  simp only[zey,zit,if_pos c]
  first|rw[if_pos c]|skip
  simp
 simp only[qop,ho,hx,hi,hi2,Option.map_some,Option.map_none,zky,hu,hs,h4,if_true,Nat.lt_irrefl,if_false]
 simp
theorem q_bslLz {t e:TypeId} {x i:Operand} {s n:Nat} {k:IntKind} {j:Int} (g:0≤j∧j=n)(ho:o.op= .slice t x (some i) none none)(hx:ρ x= .bsl s 0 n (Enc.sz α) false)(hi:ρ i= .raw (.int k j))(hu:P.underlying t=some (.slice e))(hs:zdq P e=some (Enc.sz α)):
 qop P ρ σ o=some (.list 0 [] .none):=by
 have h4:zey n (some (.raw (.int k j))) none none=some (j.toNat,n,false):=by
  have c:0≤j∧j≤(n:Int):=by omega
  simp only[zey,zit,if_pos c]
 have hlt: ¬j.toNat<n:=by omega
 simp only[qop,ho,hx,hi,Option.map_some,Option.map_none,zky,hu,hs,h4,if_true,if_neg hlt]
 simp
theorem zyd {t e:TypeId} {x i:Operand} {s n off:Nat} {f:Bool} {k:IntKind} {j:Int} (g:0≤j∧j<n)(ho:o.op= .indexAddr t x i)(hx:ρ x= .bsl s (off*Enc.sz α) n (Enc.sz α) f)(hi:ρ i= .raw (.int k j))(hu:P.underlying t=some (.slice e))(hs:zdq P e=some (Enc.sz α)):
 qop P ρ σ o=some (.ptr s (0+((off:Int)+j).toNat*Enc.sz α)):=by
 rw[z8m ho hx hi hu hs g]
 congr 2
 rw[show((off:Int)+j).toNat=off+j.toNat by omega,Nat.add_mul,Nat.zero_add]
end
section
variable {P:Program} {ρ:Operand→AV} {σ:St} {o:Oper}
theorem q_max3 {c:Call} {x y z:Operand} {k k' k'':IntKind} {m n r:Int} (ho:o.op= .call c)(hc:c.callee= .builtin .max)(ha:c.args= #[x,y,z])(hx:ρ x= .raw (.int k m))(hy:ρ y= .raw (.int k' n))(hz:ρ z= .raw (.int k'' r)):qop P ρ σ o=some (.raw (.int k (max (max m n) r))):=by
 have e:(if n>m then n else m)=max m n:=by split<;>omega
 have e2:(if r>max m n then r else max m n)=max (max m n) r:=by split<;>omega
 simp[qop,zhu,ho,hc,ha,Op.operands,Call.operands,hx,hy,hz,zgg,execOp,zdh,resolve,invoke,builtin,Builtin.max_,Builtin.max2,val?,zna,zjm,zgu,e,e2]
 simp[Pure.pure,Bind.bind,Sem.bind,val?,zna,zjm,zgu,e,e2]
end
section
variable {IT:IterP} {P:Program} {W:Owed} {k0:Nat}
end
theorem Wk.tr {n:Nat} {S S1 S2:List AV} {σ σ1 σ2:St} (h:Wk n S σ S1 σ1)(k:Wk n S1 σ1 S2 σ2):Wk n S σ S2 σ2:=by
 induction h with
 |one h=>exact .step h k
 |step h _ ih=>exact .step h (ih k)
theorem qgc {IT:IterP} (hIT:ITMono IT) {P:Program} {f:FuncId} {ar ar':List AV} {n m sz:Nat} {σ:St} {s:Nat} {t:TypeId} {cs cs':List AV} {fl:Bool} (h:Snd IT P f (.bsl 0 0 n sz false::ar') ⟨[(t,cs)],[],[],0,false⟩ (.bsl 0 0 m sz false) ⟨[(t,cs')],[],[],0,false⟩)
 (has:stripL ar=ar') (hok:zaa 0 ar=true) (hcl0:cloL cs=true) (hcl:cloL cs'=true) (hne:cs≠[]) (hb:σ.boxes[s]? =some (t,cs)):Snd IT P f (.bsl s 0 n sz fl::ar) σ (.bsl s 0 m sz false) {σ with boxes:=σ.boxes.set s (t,cs')}:=by
 refine⟨h.1,fun X vs hI hr=> ?_⟩
 obtain⟨v0,vr,rfl,hv0,hrr⟩:=hr
 obtain⟨b,cap,cur,t1,hκ,rfl,hcap,_,hrow,hfit⟩:=(show Bsl X s 0 n sz fl v0 from hv0)
 have hbX:=hI.κF s b t cs hκ hb hne
 have hsl:s<σ.boxes.length:=(List.getElem?_eq_some_iff.1 hb).1
 obtain⟨us0,zs0,u1,u2,u3⟩:=hI.box s b t cs hκ hb
 have hI0:Inv IT ⟨[(t,cs)],[],[],0,false⟩ ⟨X.F,[b],[],[],X.w,fun _=>False,fun _ _=>False⟩:={
  lens:=rfl,elems:=rfl,κlen:=rfl
  κnd:=fun s1 s2 b1 h1 h2 h3=>by
   have e1:=(List.getElem?_eq_some_iff.1 h1).1
   have e2:=(List.getElem?_eq_some_iff.1 h2).1
   simp at e1 e2;omega
  box:=fun s1 b1 t1 c1 h1 h2=>by
   have e1:=(List.getElem?_eq_some_iff.1 h1).1
   obtain rfl:s1=0:=by simp at e1;omega
   cases h1;cases h2
   have q:=zcp (X:=X) (Y:=⟨X.F,[b],[],[],X.w,fun _=>False,fun _ _=>False⟩) hIT rfl rfl _ _ (.inl (zm _ _ hcl0)) u2
   rw[zdc _ hcl0] at q
   exact⟨us0,zs0,u1,q,u3⟩
  κF:=fun s1 b1 t1 c1 h1 h2 h3 o=>by
   have e1:=(List.getElem?_eq_some_iff.1 h1).1
   obtain rfl:s1=0:=by simp at e1;omega
   cases h1
   exact hbX o
  βlen:=rfl,βnd:=List.nodup_nil
  βκ:=fun r h=>by simp at h
  row:=fun s r L h=>by simp at h
  Ok:=fun b h=>h.elim
  Fcell:=hI.Fcell
  gv:=hI.gv}
 have hr0:zbl IT ⟨X.F,[b],[],[],X.w,fun _=>False,fun _ _=>False⟩ (.bsl 0 0 n sz false::ar') (.slice (some ⟨b,0,none⟩) n cap::vr):=
  ⟨_,_,rfl,⟨b,cap,cur,t1,rfl,rfl,hcap,(fun h=>by cases h),hrow,hfit⟩,has▸zcp (X:=X) (Y:=⟨X.F,[b],[],[],X.w,fun _=>False,fun _ _=>False⟩) hIT rfl rfl ar vr (.inl hok) hrr⟩
 refine(h.2 _ _ hI0 hr0).mono ?_
 rintro e w' ⟨v,Y,rfl,rfl,hE,hIY,hv⟩
 have hYκ:Y.κ[0]? =some b:=hE.κ 0 b rfl
 have hblk: ∀k,k<X.w.heap.size→k≠b→Y.w.heap[k]? =X.w.heap[k]? :=fun k hk hn=>hE.frame k hk (by simpa using hn) (by simp)
 have hFn: ∀b' i,Y.F b' i→X.F b' i∨X.w.heap.size≤b'∨b'=b:=fun b' i hf=>by
  rcases hE.Fnew b' i hf with h|h|⟨q,hq,_⟩|h
  ·exact .inl h
  ·exact .inr (.inl h)
  ·simp at hq
  ·exact .inr (.inr (by simpa using h))
 obtain⟨us,zs,q1,q2,q3⟩:=hIY.box 0 b t cs' hYκ rfl
 have hX:Ext X ⟨Y.F,X.κ,X.β,X.lens,Y.w,X.O,X.C⟩:={
  os:=hE.os,tape:=hE.tape,output:=hE.output,size:=hE.size,drawn:=hE.drawn,F:=hE.F,cell:=hE.cell
  κ:=fun _ _ h=>h
  lens:=fun s L h=>⟨L,h,Nat.le_refl _,fun _=>rfl⟩
  blk:=fun s' b' hs cur' t' f' hc=>by
   by_cases e:b'=b
   ·subst e;exact hE.blk 0 b' rfl cur' t' f' hc
   ·exact⟨cur',(hblk b' (hI.κlt (List.mem_of_getElem? hs)) e).trans hc,rfl⟩
  szs:=hE.szs
  frame:=fun b' hb' hk _=>hblk b' hb' fun e=>hk (e▸List.mem_of_getElem? hκ)
  κnew:=fun _ h=> .inl h
  βnew:=fun r h=> .inl ⟨r,h,rfl⟩
  O:=rfl
  C:=rfl
  Fnew:=fun b' i hf=>by
   rcases hFn b' i hf with h|h|h
   ·exact .inl h
   ·exact .inr (.inl h)
   ·exact .inr (.inr (.inr (h▸List.mem_of_getElem? hκ)))}
 have hdead: ∀s' t' c',X.κ[s']? =some b→s'≠s→σ.boxes[s']? =some (t',c')→c'=[]:=fun s' t' c' h1 h2 h3=>by
  rcases hI.κnd s' s b h1 hκ h2 with⟨t2,h4⟩|⟨t2,h4⟩
  ·rw[h3] at h4;cases h4;rfl
  ·rw[hb] at h4;cases h4;exact absurd rfl hne
 refine⟨v,⟨Y.F,X.κ,X.β,X.lens,Y.w,X.O,X.C⟩,rfl,rfl,hX,{lens:=hI.lens,elems:=hI.elems,κlen:=by simpa using hI.κlen,κnd:= ?_,box:= ?_,κF:= ?_,βlen:=hI.βlen,βnd:=hI.βnd,βκ:=hI.βκ,row:= ?_,Ok:= ?_,Fcell:=hIY.Fcell,gv:=hIY.gv},?_⟩
 ·intro s1 s2 b1 h1 h2 h3
  simp only
  rcases hI.κnd s1 s2 b1 h1 h2 h3 with⟨t2,h4⟩|⟨t2,h4⟩
  ·have:s≠s1:=fun e=>by subst e;rw[hb] at h4;cases h4;exact hne rfl
   exact .inl ⟨t2,by rw[List.getElem?_set_ne this];exact h4⟩
  ·have:s≠s2:=fun e=>by subst e;rw[hb] at h4;cases h4;exact hne rfl
   exact .inr ⟨t2,by rw[List.getElem?_set_ne this];exact h4⟩
 ·intro s' b' t' c' hs hb'
  simp only at hs hb'
  by_cases e:s'=s
  ·subst e
   rw[List.getElem?_set_self hsl] at hb'
   cases hb'
   rw[hκ] at hs;cases hs
   refine⟨us,zs,q1,?_,q3⟩
   have q:=zcp (X:=Y) (Y:=⟨Y.F,X.κ,X.β,X.lens,Y.w,X.O,X.C⟩) hIT rfl rfl _ _ (.inl (zm _ _ hcl)) q2
   rwa[zdc _ hcl] at q
  ·rw[List.getElem?_set_ne (Ne.symm e)] at hb'
   obtain⟨us1,zs1,v1,v2,v3⟩:=hI.box s' b' t' c' hs hb'
   by_cases e2:b'=b
   ·subst e2
    obtain rfl:=hdead s' t' c' hs e hb'
    rw[u1] at v1
    injection v1 with v1
    injection v1 with _ v1
    subst v1
    exact⟨[],us++zs,q1,rfl,fun v hv=>by cases hv⟩
   ·exact⟨us1,zs1,(hblk b' (hI.κlt (List.mem_of_getElem? hs)) e2).trans v1,zba hIT hX _ _ v2,v3⟩
 ·intro s' b' t' c' hs hb' hne' o hf
  simp only at hs hb' hf
  by_cases e:s'=s
  ·subst e
   rw[List.getElem?_set_self hsl] at hb'
   cases hb'
   rw[hκ] at hs;cases hs
   exact hIY.κF 0 b t cs' hYκ rfl hne' o hf
  ·rw[List.getElem?_set_ne (Ne.symm e)] at hb'
   rcases hFn b' o hf with h|h|h
   ·exact hI.κF s' b' t' c' hs hb' hne' o h
   ·have:=hI.κlt (List.mem_of_getElem? hs);omega
   ·subst h;exact hne' (hdead s' t' c' hs e hb')
 ·intro s' q L hq hL
  obtain⟨cur',fz,c1,c2,c3,c4,c5,c6,c7⟩:=hI.row s' q L hq hL
  have hlt:=hI.βlt (List.mem_of_getElem? hq)
  have hnb:q.block≠b:=fun e=>hI.βκ q (List.mem_of_getElem? hq) (e▸List.mem_of_getElem? hκ)
  refine⟨cur',fz,(hblk _ hlt hnb).trans c1,c2,c3,c4,c5,fun o hf=> ?_,c7⟩
  rcases hFn _ o hf with h|h|h
  ·exact c6 o h
  ·omega
  ·exact absurd h hnb
 ·intro b' ho
  obtain⟨⟨cs0,t0,f0,h0⟩,h2,h3,h4⟩:=hI.Ok b' ho
  have hlt:=hI.Olt ho
  have hnb:b'≠b:=fun e=>h2 (e▸List.mem_of_getElem? hκ)
  refine⟨⟨cs0,t0,f0,(hblk b' hlt hnb).trans h0⟩,h2,h3,fun o hf=> ?_⟩
  rcases hFn b' o hf with h|h|h
  ·exact h4 o h
  ·omega
  ·exact absurd h hnb
 ·obtain⟨b1,cap1,cur1,t2,k1,rfl,k3,k4,k5,k6⟩:=(show Bsl Y 0 0 m sz false v from hv)
  rw[hYκ] at k1;cases k1
  exact⟨b,cap1,cur1,t2,hκ,rfl,k3,k4,k5,k6⟩
section
variable {α:Type} [Enc α] {P:Program} {ρ:Operand→AV} {σ:St} {o:Oper}
theorem qfy {c:Call} {x:Operand} {t e t0:TypeId} {i:TypeInfo} {z:Value} {s k n:Nat} {f:Bool} {l:List α} (hn:k≤l.length∧0<l.length∧0<n)(ho:o.op= .call c)(hc:c.callee= .builtin .clear)(ha:c.args.toList=[x])(ht:c.argTypes.toList=[t])
 (hx:ρ x= .bsl s (k*Enc.sz α) n (Enc.sz α) f) (hb:σ.boxes[s]? =some (t0,Enc.cellsL l)) (hu:P.underlying t=some (.slice e)) (hi:P.info? e=some i) (hz:i.zero=some z) (hsz:i.size=Enc.sz α) (hzs:z.cells.size=Enc.sz α) (h1:z.cells.toList.all (·.oneCell')=true):
 ztl P ρ σ o=some (.tup [],{σ with boxes:=σ.boxes.set s (t0,Enc.cellsL (l.take k))}):=by
 obtain⟨h2,h3,h4⟩:=hn
 have hl:k*Enc.sz α≤(Enc.cellsL l).length:=by rw[Enc.lenL];exact Nat.mul_le_mul_right _ h2
 have he:(Enc.cellsL l).isEmpty=false:=by
  cases hE:Enc.cellsL l with
  | nil=>
   have:=Enc.lenL l
   rw[hE] at this
   have h5:=Nat.mul_pos h3 (Enc.pos (α:=α))
   simp at this;omega
  |cons _ _=>rfl
 simp only[ztl,ho,hc,ha,ht,hx,z0o,hu,hi,hb,hz]
 rw[if_pos ⟨hsz,hzs,he,hl,h4,h1⟩,Enc.take]
theorem zyn {fn:Func} {S:List AV} {R r:List α} {t:TypeId} {n sz:Nat} (h:some R=some r)(ha:zbo P fn σ S=some (.bsl 0 0 n sz false))(hok:z0m 1 σ=true)(hσ:zfs 1 σ=⟨[(t,Enc.cellsL R)],[],[],0,false⟩)(hn:R.length=n):
 qnb P fn 1 0 (.bsl 0 0 r.length sz false) ⟨[(t,Enc.cellsL r)],[],[],0,false⟩ .ret S σ:=by
 cases h
 subst hn
 exact⟨_,ha,z2w rfl hok rfl hσ⟩
end
end Go.Ab
