import Derived.Test.YtnoccnalocdldaaDoorZgTh
set_option linter.all false
namespace Go.Ab
open Go Go.RowKit Go.Fwd Go.Proofs
theorem KO.sub {t x:Tr} (h:KO t)(hx:x∈t.l):KO x:=by
 have h1:=zfc hx
 have hp:(pre t).length=1+(zda t.l).length:=by rw[zfl,List.length_cons];omega
 refine⟨fun y hy=>h.1 y ?_,by have:=h.2;omega⟩
 rw[zfl]
 refine List.mem_cons_of_mem _ ?_
 have: ∀l:List Tr,x∈l→y∈zda l:=fun l=>by
  induction l with
  |nil=>intro h;cases h
  | cons z l ih=>
   intro h
   rw[zda,List.mem_append]
   rcases List.mem_cons.1 h with rfl|h
   ·exact .inl hy
   ·exact .inr (ih h)
 exact this _ hx
theorem qbd {fuel:Nat} (n:Nat)(t:Tr)(h:KO t)(hn:(pre t).length<n+1)(hf:(pre t).length<fuel):zro fuel n t=some t:=by
 have hp:(pre t).length=1+(zda t.l).length:=by rw[zfl,List.length_cons];omega
 have hlen:=zci t.l
 have h2:=h.2
 unfold zro
 refine zae (h.1 t (qey t)) (zca (t.l.map RT.mk) ?_ ?_)
 ·refine zku t.l.length (fun i=>((t.l.take i).map RT.mk,(i:Int))) (by simp) (fun i hi=> ?_) ?_ (by omega)
  ·refine zgp (by simpa using hi) (zae (by simp only;omega) (zap fun x1 e1=> ?_))
   simp only at e1
   rw[zjs hi] at e1
   have hm:x1∈t.l:=e1▸List.getElem_mem hi
   have hx:=zfc hm
   have q:(t.l.take i).length≤t.l.length:=List.length_take_le' _ _
   refine zae ⟨by omega,h.sub hm⟩ (zae (by simp only[List.length_map,List.length_cons,List.length_nil];omega) (zae (by simp only;omega) ?_))
   rw[List.take_succ_eq_append_getElem hi,List.map_append,e1];rfl
  ·refine zfy (by simp) ?_
   simp
 ·have:(t.l.map RT.mk).map RT.t=t.l:=by rw[List.map_map];exact List.map_id _
  rw[this,←Tr.eta]
theorem zuj: ∀(n:Nat) (t:Tr),(pre t).length<n∧KO t→Pure (ITP Tryd.prog) Tryd.prog 24 [.agg (Enc.cells t)] (.agg (Enc.cells (RT.mk t)))
 |0,t,h=>absurd h.1 (Nat.not_lt_zero _)
 |n+1,t,h=>z9t ((pre t).length+1) n t _ (fun x hx=>zuj n x hx) (qbd n t h.2 h.1 (by omega))
theorem z4r (t:Tr)(h:KO t):Pure (ITP Tryd.prog) Tryd.prog 24 [.agg (Enc.cells t)] (.agg (Enc.cells (RT.mk t))):=zuj ((pre t).length+1) t ⟨by omega,h⟩
def rtL (r:RT):List RT:=r.t.l.map RT.mk
theorem z3e (r:RT):(rtL r).length=r.t.l.length:=by simp[rtL]
theorem z9p (r:RT):Enc.cellsL (rtL r)=qar r.t.l:=by
 show qar ((r.t.l.map RT.mk).map RT.t)=_
 rw[List.map_map];congr 1;exact List.map_id _
section
variable {ρ:Operand→AV} {σ:St} {o:Oper} {x:Operand} {b:Nat} {tt:TypeId}
theorem z5d (r:RT)(ho:o.op= .load 3 x)(hx:ρ x= .ptr b 0)(hb:σ.boxes[b]? =some (tt,Enc.cells r)):qop Tryd.prog ρ σ o=some (.raw (.int .i64 ((r.t.k:Nat):Int))):=z8t r.t ho hx (zlo r▸hb)
theorem z5w (r:RT)(ho:o.op= .load 65 x)(hx:ρ x= .ptr b 1)(hb:σ.boxes[b]? =some (tt,Enc.cells r)):qop Tryd.prog ρ σ o=some (.agg (Enc.cells (zfn r.t.s))):=qdw r.t ho hx (zlo r▸hb)
theorem z5n (r:RT)(ho:o.op= .load 3 x)(hx:ρ x= .ptr b 257)(hb:σ.boxes[b]? =some (tt,Enc.cells r)):qop Tryd.prog ρ σ o=some (.raw (.int .i64 r.t.mn)):=z9s r.t ho hx (zlo r▸hb)
theorem z6g (r:RT)(ho:o.op= .load 3 x)(hx:ρ x= .ptr b 258)(hb:σ.boxes[b]? =some (tt,Enc.cells r)):qop Tryd.prog ρ σ o=some (.raw (.int .i64 r.t.mx)):=qab r.t ho hx (zlo r▸hb)
theorem znk (r:RT)(ho:o.op= .load 66 x)(hx:ρ x= .ptr b 259)(hb:σ.boxes[b]? =some (tt,Enc.cells r)):qop Tryd.prog ρ σ o=some (.list (List.length (rtL r)) (Enc.cellsL (rtL r)) .none):=by
 rw[z3e,z9p];exact zzg r.t ho hx (zlo r▸hb)
end
theorem rs_neA {ρ:Operand→AV} {o:Oper} {x y:Operand} {c} (s t:Ar)(ho:o.op= .binOp .neq 65 x y c)(hx:ρ x= .agg (Enc.cells s))(hy:ρ y= .agg (Enc.cells t)):zla Tryd.prog ρ o (.raw (.bool (!(eqA s t)))):=by
 replace hx:ρ x= .agg ((arL s).map qjj):=hx
 replace hy:ρ y= .agg ((arL t).map qjj):=hy
 refine⟨?_,by rw[ho];intros;simp,by rw[ho];intros;simp,.bool (!(eqA s t)),fun w=> ?_,rfl,rfl⟩
 ·rw[ho];simp[Op.operands,hx,hy,zox]
 ·have h1:zbt ρ x= .agg ((arL s).map (Value.int .i64)).toArray:=by simp only[zbt,hx,zox,Option.getD_some]
  have h2:zbt ρ y= .agg ((arL t).map (Value.int .i64)).toArray:=by simp only[zbt,hy,zox,Option.getD_some]
  have h3:=eqIn103 9998 (arL s) (arL t) (qdx s) (qdx t) w
  simp[execOp,ho,h1,h2,eqGuard,binOp,Op.equal,Op.maxDepth,program,Sem.run,qfh,h3,eqA]
end Go.Ab
set_option maxRecDepth 100000
set_option maxHeartbeats 4000000
namespace Go.Ab
open Go Go.RowKit Go.Fwd Go.Proofs
def z1r (a b:RT):Bool:=zfq a.t b.t
def zrc (fuel:Nat)(n:Nat)(a:RT)(b:RT):Option Bool:=
 (bif (((a.t.k:Nat):Int) !=((b.t.k:Nat):Int)) then(some false) else(bif (!(eqA (zfn a.t.s) (zfn b.t.s))) then(some false) else(bif (a.t.mn !=b.t.mn) then(some false) else(bif (a.t.mx !=b.t.mx) then(some false) else(bif ((List.length (rtL a):Int) !=(List.length (rtL b):Int)) then(some false) else(zdr (τ:=Unit) (zbo (β:=Int) (fun s1=>(bif (decide (s1<(List.length (rtL a):Int))) then(chk (0≤s1∧s1<(List.length (rtL a):Int)) (zbi (ix (rtL a) s1) (fun x1=>(chk (0≤s1∧s1<(List.length (rtL b):Int)) (zbi (ix (rtL b) s1) (fun x2=>(chk (((pre x1.t).length<n)) (zbi (z1r x1 x2) (fun x3=>(bif (!x3) then(some (Sum.inr (Sum.inr false))) else(chk (-9223372036854775808≤(s1+1)∧(s1+1)<9223372036854775808) (some (Sum.inl ((s1+1))))))))))))))) else(some (Sum.inr (Sum.inl ()))))) fuel (0)) (fun j1=>(some true))))))))
theorem ent23:Ent Tryd.prog 23:=enters_of Tryd.func23 (by kernel_rfl) rfl
theorem qbz (fuel:Nat)(n:Nat)(a:RT)(b:RT)(r:Bool)(ih: ∀(x y:RT),((pre x.t).length<n)→Pure (ITP Tryd.prog) Tryd.prog 23 [.A x,.A y] (.raw (.bool (z1r x y))))(h:zrc fuel n a b=some r):Pure (ITP Tryd.prog) Tryd.prog 23 [.A (a:RT),.A (b:RT)] (.raw (.bool r)):=by
 unfold zrc at h
 refine zby 58 mix Tryd.func23 ent23 ?_
 refine zi (zc ?_)
 refine zcb (a:= .ptr 0 0) (σ'':=(.B [(68,(Enc.cells (a:RT)))])) ?_
 refine zcb (a:= .ptr 1 0) (σ'':=(.B [(68,(Enc.cells (a:RT))),(68,(Enc.cells (b:RT)))])) ?_
 refine w_o (a:= .b false) ?_
 refine zi ?_
 refine zx [.v (.ptr 0 0)] ?_
 refine w_o (a:= .i ((a.t.k:Nat):Int)) (h:=zbb (z5d a rfl rfl rfl)) ?_
 refine w_o (a:= .ptr 1 0) ?_
 refine w_o (a:= .i ((b.t.k:Nat):Int)) (h:=zbb (z5d b rfl rfl rfl)) ?_
 refine w_o (a:= .b (((a.t.k:Nat):Int) !=((b.t.k:Nat):Int))) ?_
 refine zaa h (fun hc1 h=> ?_) (fun hc1 h=> ?_)
 refine zak hc1 ?_
 refine w_r [.p,.p,.p,.p,.p] ?_
 refine w_r [.v (.b true),.m _,.p,.p,.p] ?_
 refine w_r [.p,.p,.v (.b true),.m _,.p] ?_
 refine w_r [.p,.p,.p,.p,.v (.b true)] ?_
 refine w_r [.m _,.p,.p,.p,.p] ?_
 refine w_r [.p,.p,.p,.v (.b true)] ?_
 refine zbf rfl ?_
 refine zx [.v (.b false)] ?_
 exact zbe h
 refine zak hc1 ?_
 refine zan rfl rfl ?_
 refine w_o (a:= .ptr 0 1) ?_
 refine zan rfl rfl ?_
 refine w_o (a:= .A ((zfn a.t.s):Ar)) (h:=zbb (z5w a rfl rfl rfl)) ?_
 refine zan rfl rfl ?_
 refine w_o (a:= .ptr 1 1) ?_
 refine zan rfl rfl ?_
 refine w_o (a:= .A ((zfn b.t.s):Ar)) (h:=zbb (z5w b rfl rfl rfl)) ?_
 refine zan rfl rfl ?_
 refine zua (.b (!(eqA (zfn a.t.s) (zfn b.t.s)))) rfl rfl rfl (rs_neA (zfn a.t.s) (zfn b.t.s) rfl rfl rfl) (by dsimp only[zy,List.set]) ?_
 refine w_o (a:= .b (!(eqA (zfn a.t.s) (zfn b.t.s)))) ?_
 refine zaa h (fun hc2 h=> ?_) (fun hc2 h=> ?_)
 refine zak hc2 ?_
 refine w_r [.p,.p,.p,.p,.p] ?_
 refine w_r [.v (.b true),.m _,.p,.p,.p] ?_
 refine w_r [.p,.p,.v (.b true),.m _,.p] ?_
 refine w_r [.p,.p,.p,.p,.p] ?_
 refine w_r [.p,.v (.b true)] ?_
 refine zbf rfl ?_
 refine zx [.v (.b false)] ?_
 exact zbe h
 refine zak hc2 ?_
 refine zan rfl rfl ?_
 refine w_o (a:= .ptr 0 257) ?_
 refine zan rfl rfl ?_
 refine w_o (a:= .i a.t.mn) (h:=zbb (z5n a rfl rfl rfl)) ?_
 refine zan rfl rfl ?_
 refine w_o (a:= .ptr 1 257) ?_
 refine zan rfl rfl ?_
 refine w_o (a:= .i b.t.mn) (h:=zbb (z5n b rfl rfl rfl)) ?_
 refine w_r [.v (.b (a.t.mn !=b.t.mn)),.v (.b (a.t.mn !=b.t.mn))] ?_
 refine zaa h (fun hc3 h=> ?_) (fun hc3 h=> ?_)
 refine zak hc3 ?_
 refine w_r [.p,.p,.p,.p,.p] ?_
 refine w_r [.v (.b true),.m _,.p,.p,.p] ?_
 refine w_r [.p,.p,.p,.p,.v (.b true)] ?_
 refine zbf rfl ?_
 refine zx [.v (.b false)] ?_
 exact zbe h
 refine zak hc3 ?_
 refine zan rfl rfl ?_
 refine w_o (a:= .ptr 0 258) ?_
 refine zan rfl rfl ?_
 refine w_o (a:= .i a.t.mx) (h:=zbb (z6g a rfl rfl rfl)) ?_
 refine zan rfl rfl ?_
 refine w_o (a:= .ptr 1 258) ?_
 refine zan rfl rfl ?_
 refine w_o (a:= .i b.t.mx) (h:=zbb (z6g b rfl rfl rfl)) ?_
 refine w_r [.v (.b (a.t.mx !=b.t.mx)),.v (.b (a.t.mx !=b.t.mx))] ?_
 refine zaa h (fun hc4 h=> ?_) (fun hc4 h=> ?_)
 refine zak hc4 ?_
 refine w_r [.p,.p,.p,.p,.p] ?_
 refine w_r [.p,.p,.v (.b true)] ?_
 refine zbf rfl ?_
 refine zx [.v (.b false)] ?_
 exact zbe h
 refine zak hc4 ?_
 refine zan rfl rfl ?_
 refine w_o (a:= .ptr 0 259) ?_
 refine zan rfl rfl ?_
 refine w_o (a:= .L ((rtL a):List RT)) (h:=zbb (znk a rfl rfl rfl)) ?_
 refine w_r [.v (.i (List.length (rtL a):Int)),.v (.ptr 1 259)] ?_
 refine zan rfl rfl ?_
 refine w_o (a:= .L ((rtL b):List RT)) (h:=zbb (znk b rfl rfl rfl)) ?_
 refine w_r [.v (.i (List.length (rtL b):Int)),.v (.b ((List.length (rtL a):Int) !=(List.length (rtL b):Int))),.v (.b ((List.length (rtL a):Int) !=(List.length (rtL b):Int)))] ?_
 refine zcd h (fun hc5 h=> ?_) (fun hc5 h=> ?_)
 refine zx [.v (.b false)] ?_
 exact zbe h
 refine zbh h (bz 0 60 1152921504606846975) (fun j1=>[]) (fun j1=>(.B [(68,(Enc.cells (a:RT))),(68,(Enc.cells (b:RT)))])) ?_ ?_
 intro or1 h hr1
 refine zx [.v (.i 0)] ?_
 refine zag ?_
 refine zcx h (bz 0 60 1152921504606846963) (fun s1=>[(5,.i s1)]) (fun s1=>(.B [(68,(Enc.cells (a:RT))),(68,(Enc.cells (b:RT)))])) ?_ ?_
 exact zcs (bl 60 44)
 intro s1 p1 h
 refine zet ?_
 refine zi ?_
 refine zx [.m _,.v (.ptr 0 259)] ?_
 refine w_o (a:= .L ((rtL a):List RT)) (h:=zbb (znk a rfl rfl rfl)) ?_
 refine w_r [.v (.i (List.length (rtL a):Int)),.v (.b (decide (s1<(List.length (rtL a):Int))))] ?_
 refine zcd h (fun hc6 h=> ?_) (fun hc6 h=> ?_)
 refine zi ?_
 refine zag ?_
 refine zi ?_
 refine zid (k0:=0) (id:=6) 10 (by kernel_rfl) (by kernel_rfl) ?_
 refine h_o (a:= .ptr 0 259) ?_
 refine h_o (a:= .L ((rtL a):List RT)) (h:=znk a rfl rfl rfl) ?_
 refine zjj ?_
 obtain⟨g1,h⟩:=zp h
 obtain⟨x1,hx1,h⟩:=zt h
 refine h_ix hx1 g1 ?_
 refine h_o (a:= .A (x1:RT)) (h:=z0k x1 rfl rfl) ?_
 refine h_o (a:= .ptr 1 259) ?_
 refine h_o (a:= .L ((rtL b):List RT)) (h:=znk b rfl rfl rfl) ?_
 refine zjj ?_
 obtain⟨g2,h⟩:=zp h
 obtain⟨x2,hx2,h⟩:=zt h
 refine h_ix hx2 g2 ?_
 refine h_o (a:= .A (x2:RT)) (h:=z0k x2 rfl rfl) ?_
 refine ziy ?_
 obtain⟨g3,h⟩:=zp h
 obtain⟨x3,hx3,h⟩:=zt h
 refine zdb (args':=[.A (x1:RT),.A (x2:RT)]) (r:= .b x3) (by rw[←hx3];exact(ih x1 x2 g3)) ?_
 refine w_o (a:= .b (!x3)) ?_
 refine zcd h (fun hc7 h=> ?_) (fun hc7 h=> ?_)
 refine zx [.v (.b false)] ?_
 refine zaj h (fun h=> ?_)
 replace h:=zq h hr1
 exact zbe h
 refine zc (k0:=0) (id:=5) ?_
 refine zac ?_
 obtain⟨g4,h⟩:=zp h
 refine zio g4 ?_
 refine zac ?_
 refine zbs (p:=p1) ((s1+1)) h ?_
 exact zcs (bl 60 44)
 refine zaj h (fun h=> ?_)
 refine zg (o:=or1) () h ?_
 exact zcs (bl 60 0)
 intro j1 h
 refine zet ?_
 refine zx [.v (.b true)] ?_
 exact zbe h
theorem qjw (r:RT)(i:Nat)(h:i<r.t.l.length):ix (rtL r) (i:Int)=RT.mk r.t.l[i]:=by
 have h2:i<(rtL r).length:=by rw[z3e];exact h
 rw[zzp h2];simp[rtL]
theorem qhh {body:Int→Option (Int ⊕ (Unit ⊕ Bool))} {n:Nat} (p:Nat→Bool)(h1: ∀i:Nat,i<n→p i=true→body (i:Int)=some (.inl ((i:Int)+1)))(h2: ∀i:Nat,i<n→p i=false→body (i:Int)=some (.inr (.inr false)))(h3:body (n:Int)=some (.inr (.inl ()))) {fuel:Nat} (hf:n<fuel):
 zbo body fuel 0=some (if(List.range n).all p=true then .inl () else .inr false):=by
 have key: ∀(c i:Nat),i+c=n→(∀j,j<i→p j=true)→ ∀f,c<f→zbo body f (i:Int)=some (if(List.range n).all p=true then .inl () else .inr false):=by
  intro c
  induction c with
  | zero=>
   intro i hi hall f hf
   match f,hf with
   | f+1,_=>
    have:(List.range n).all p=true:=List.all_eq_true.2 fun j hj=>hall j (by have:=List.mem_range.1 hj;omega)
    rw[zbo,this,show i=n by omega,h3];rfl
  | succ c ih=>
   intro i hi hall f hf
   match f,hf with
   | f +1,hf=>
    rw[zbo]
    cases hp:p i with
    | false=>
     have:(List.range n).all p=false:=by
      rw[←Bool.not_eq_true,List.all_eq_true]
      intro h
      have:=h i (List.mem_range.2 (by omega))
      rw[hp] at this;cases this
     rw[h2 i (by omega) hp,this];rfl
    | true=>
     rw[h1 i (by omega) hp]
     have:=ih (i+1) (by omega) (fun j hj=>by
      rcases Nat.lt_or_ge j i with hlt|hge
      ·exact hall j hlt
      ·have e:j=i:=by omega
       subst e;exact hp) f (by omega)
     simp only[Int.natCast_add,Int.natCast_one] at this
     exact this
 exact key n 0 (by omega) (fun j hj=>absurd hj (Nat.not_lt_zero _)) fuel hf
theorem z7g (n k:Nat)(s:BS)(mn mx:Int)(l l2:List Tr)(hn:(pre (Tr.mk k s mn mx l)).length<n+1)(hlen:l.length<2^40)(h5:l.length=l2.length): ∀(i:Nat) (hi:i<l.length) (b:Bool),zfq (l.getD i zz) (l2.getD i zz)=b→ ∀(r:Option (Int ⊕ (Unit ⊕ Bool))),(b=true→some (Sum.inl ((i:Int)+1))=r)→(b=false→some (Sum.inr (Sum.inr false))=r)→(chk (0≤(i:Int)∧(i:Int)<(l.length:Int)) (zbi (ix (rtL (RT.mk (.mk k s mn mx l))) (i:Int)) (fun x1=>(chk (0≤(i:Int)∧(i:Int)<(l2.length:Int)) (zbi (ix (rtL (RT.mk (.mk k s mn mx l2))) (i:Int)) (fun x2=>(chk (((pre x1.t).length<n)) (zbi (zfq x1.t x2.t) (fun x3=>(bif (!x3) then(some (Sum.inr (Sum.inr false))) else(chk (-9223372036854775808≤((i:Int)+1)∧((i:Int)+1)<9223372036854775808) (some (Sum.inl ((i:Int)+1))))))))))))))=r:=fun i hi b hb r hr1 hr2=>by
 have hp:(pre (Tr.mk k s mn mx l)).length=1+(zda l).length:=qdv ..
 have hi2:i<l2.length:=by omega
 have hx:=zfc (List.getElem_mem hi)
 refine zae (by omega) (zap fun x1 e1=>zae (by omega) (zap fun x2 e2=> ?_))
 rw[show ix (rtL (RT.mk (.mk k s mn mx l))) (i:Int)=RT.mk l[i] from qjw (RT.mk (.mk k s mn mx l)) i hi] at e1
 rw[show ix (rtL (RT.mk (.mk k s mn mx l2))) (i:Int)=RT.mk l2[i] from qjw (RT.mk (.mk k s mn mx l2)) i hi2] at e2
 subst e1 e2
 refine zae (by show(pre l[i]).length<n;omega) (zap fun x3 e3=> ?_)
 have e3:zfq l[i] l2[i]=x3:=e3
 rw[List.getD_eq_getElem?_getD,List.getD_eq_getElem?_getD,List.getElem?_eq_getElem hi,List.getElem?_eq_getElem hi2] at hb
 have hb:zfq l[i] l2[i]=b:=hb
 rw[e3] at hb
 subst hb
 cases x3 with
 |false=>exact zgp rfl (hr2 rfl)
 |true=>exact zfy rfl (zae ⟨by omega,by omega⟩ (hr1 rfl))
theorem qbf {fuel:Nat} (n:Nat)(a b:RT)(hn:(pre a.t).length<n+1)(hs:(pre a.t).length<2^40)(hf:(pre a.t).length<fuel):zrc fuel n a b=some (z1r a b):=by
 obtain⟨⟨k,s,mn,mx,l⟩⟩:=a
 obtain⟨⟨k2,s2,mn2,mx2,l2⟩⟩:=b
 have hp:(pre (Tr.mk k s mn mx l)).length=1+(zda l).length:=qdv ..
 have hlen:=zci l
 simp only at hn hs hf
 unfold zrc z1r
 simp only[z3e,Tr.k,Tr.s,Tr.mn,Tr.mx,Tr.l]
 rw[qhl,qag]
 by_cases hk:k=k2
 ·subst hk
  simp only[bne_self_eq_false,cond_false,beq_self_eq_true,Bool.true_and]
  by_cases hs1:s=s2
  ·subst hs1
   simp only[decide_true,Bool.not_true,cond_false,Bool.true_and]
   by_cases h3:mn=mn2
   ·subst h3
    simp only[bne_self_eq_false,cond_false,beq_self_eq_true,Bool.true_and]
    by_cases h4:mx=mx2
    ·subst h4
     simp only[bne_self_eq_false,cond_false,beq_self_eq_true,Bool.true_and]
     by_cases h5:l.length=l2.length
     ·rw [show((l.length:Int) !=(l2.length:Int))=false by simp[h5],cond_false]
      have hall:(List.range l.length).all (fun i=>zfq (l.getD i zz) (l2.getD i zz))=zzn zfq l l2:=by
       cases hc:zzn zfq l l2 with
       | true=>
        have:=(zrk _ _ _).1 hc
        refine List.all_eq_true.2 fun i hi=> ?_
        have hi:=List.mem_range.1 hi
        rw[List.getD_eq_getElem?_getD,List.getD_eq_getElem?_getD,List.getElem?_eq_getElem hi,List.getElem?_eq_getElem (show i<l2.length by omega)]
        exact this.2 i hi (by omega)
       | false=>
        rw[←Bool.not_eq_true,List.all_eq_true]
        intro h
        have:zzn zfq l l2=true:=(zrk _ _ _).2 ⟨h5,fun i h1 h2=>by
         have:=h i (List.mem_range.2 h1)
         rwa[List.getD_eq_getElem?_getD,List.getD_eq_getElem?_getD,List.getElem?_eq_getElem h1,List.getElem?_eq_getElem h2] at this⟩
        rw[this] at hc;cases hc
      have step:=z7g n k s mn mx l l2 hn (by omega) h5
      have h0:=qhh (n:=l.length) (fun i=>zfq (l.getD i zz) (l2.getD i zz)) (body:=fun s1=>(bif (decide (s1<(l.length:Int))) then(chk (0≤s1∧s1<(l.length:Int)) (zbi (ix (rtL (RT.mk (.mk k s mn mx l))) s1) (fun x1=>(chk (0≤s1∧s1<(l2.length:Int)) (zbi (ix (rtL (RT.mk (.mk k s mn mx l2))) s1) (fun x2=>(chk (((pre x1.t).length<n)) (zbi (zfq x1.t x2.t) (fun x3=>(bif (!x3) then(some (Sum.inr (Sum.inr false))) else(chk (-9223372036854775808≤(s1+1)∧(s1+1)<9223372036854775808) (some (Sum.inl (s1+1)))))))))))))) else(some (Sum.inr (Sum.inl ())))))
       (fun i hi hp=>zgp (by simp;omega) (step i hi true hp _ (fun _=>rfl) (fun h=>by cases h))) (fun i hi hp=>zgp (by simp;omega) (step i hi false hp _ (fun h=>by cases h) (fun _=>rfl))) (zfy (by simp) rfl) (fuel:=fuel) (by omega)
      rw[hall] at h0
      cases hc:zzn zfq l l2 with
      | true=>
       rw[hc] at h0
       rw[if_pos rfl] at h0;exact zca () h0 rfl
      | false=>
       rw[hc] at h0
       rw[if_neg Bool.false_ne_true] at h0;exact z4u false h0 rfl
     ·rw[show((l.length:Int) !=(l2.length:Int))=true by simp;omega,cond_true,qhj h5]
    ·rw[show(mx !=mx2)=true by simpa using h4,cond_true,show(mx==mx2)=false by simpa using h4];rfl
   ·rw[show(mn !=mn2)=true by simpa using h3,cond_true,show(mn==mn2)=false by simpa using h3];rfl
  ·rw[show decide (s=s2)=false by simpa using hs1];rfl
 ·rw[show((k:Int) !=(k2:Int))=true by simp;omega,cond_true,show((k:Int)==(k2:Int))=false by simp;omega];rfl
theorem z1d: ∀(n:Nat) (a b:RT),(pre a.t).length<n→(pre a.t).length<2^40→Pure (ITP Tryd.prog) Tryd.prog 23 [.agg (Enc.cells a),.agg (Enc.cells b)] (.raw (.bool (z1r a b)))
 |0,a,b,h,_=>absurd h (Nat.not_lt_zero _)
 |n+1,a,b,h,hs=>qbz ((pre a.t).length+1) (min n (pre a.t).length) a b _ (fun x y hx=>z1d n x y (by omega) (by omega)) (qbf _ a b (by omega) hs (by omega))
theorem k_rsame (a b:RT)(h:(pre a.t).length<2^40):Pure (ITP Tryd.prog) Tryd.prog 23 [.agg (Enc.cells a),.agg (Enc.cells b)] (.raw (.bool (z1r a b))):=z1d ((pre a.t).length+1) a b (by omega) h
end Go.Ab
set_option maxRecDepth 100000
set_option maxHeartbeats 4000000
namespace Go.Ab
open Go Go.RowKit Go.Fwd Go.Proofs
def qao (a:Tr)(b:Tr):Option Bool:=
 (chk ((pre a).length<2^40∧0≤(500:Int)∧(500:Int)<2^40) (zbi (zty a (500:Int)) (fun x1=>(bif (decide (x1≤500)) then(chk ((pre b).length<2^40∧0≤(500:Int)∧(500:Int)<2^40) (zbi (zty b (500:Int)) (fun x2=>(bif (decide (x2≤500)) then(chk (KO a) (zbi (RT.mk a) (fun x3=>(chk (KO b) (zbi (RT.mk b) (fun x4=>(chk ((pre (x3:RT).t).length<2^40) (zbi (z1r x3 x4) (fun x5=>(some x5)))))))))) else(some false))))) else(some false)))))
theorem ent11:Ent Tryd.prog 11:=enters_of Tryd.func11 (by kernel_rfl) rfl
theorem qfk (a:Tr)(b:Tr)(r:Bool)(h:qao a b=some r):Pure (ITP Tryd.prog) Tryd.prog 11 [.A (a:Tr),.A (b:Tr)] (.raw (.bool r)):=by
 unfold qao at h
 refine zby 18 mix Tryd.func11 ent11 ?_
 refine zi (zc ?_)
 refine zcb (a:= .ptr 0 0) (σ'':=(.B [(33,(Enc.cells (a:Tr)))])) ?_
 refine zcb (a:= .ptr 1 0) (σ'':=(.B [(33,(Enc.cells (a:Tr))),(33,(Enc.cells (b:Tr)))])) ?_
 refine w_o (a:= .b false) ?_
 refine zi ?_
 refine zid (k0:=0) (id:=1) 12 (by kernel_rfl) (by kernel_rfl) ?_
 refine h_o (a:= .A (a:Tr)) ?_
 obtain⟨g1,h⟩:=zp h
 obtain⟨x1,hx1,h⟩:=zt h
 refine h_ck (args':=[.A (a:Tr),.i 500]) (r:= .i x1) (by rw[←hx1];exact(qji a (500:Int) g1)) ?_
 refine h_o (a:= .b (decide (x1≤500))) ?_
 refine zaa h (fun hc1 h=> ?_) (fun hc1 h=> ?_)
 refine h_o (a:= .b true) (h:=zeh rfl hc1) ?_
 refine zgz rfl rfl ?_
 refine h_o (a:= .A (b:Tr)) ?_
 refine zgz rfl rfl ?_
 obtain⟨g2,h⟩:=zp h
 obtain⟨x2,hx2,h⟩:=zt h
 refine h_ck (args':=[.A (b:Tr),.i 500]) (r:= .i x2) (by rw[←hx2];exact(qji b (500:Int) g2)) ?_
 refine zgz rfl rfl ?_
 refine h_o (a:= .b (decide (x2≤500))) ?_
 refine h_o (a:= .b (decide (x2≤500))) ?_
 refine zaa h (fun hc2 h=> ?_) (fun hc2 h=> ?_)
 refine h_o (a:= .b true) (h:=zeh rfl hc2) ?_
 refine zgz rfl rfl ?_
 refine h_o (a:= .A (a:Tr)) ?_
 refine zgz rfl rfl ?_
 obtain⟨g3,h⟩:=zp h
 obtain⟨x3,hx3,h⟩:=zt h
 refine h_ck (args':=[.A (a:Tr)]) (r:= .A (x3:RT)) (by rw[←hx3];exact(z4r a g3)) ?_
 refine zgz rfl rfl ?_
 refine h_o (a:= .A (b:Tr)) ?_
 refine ziy ?_
 refine zan rfl rfl ?_
 obtain⟨g4,h⟩:=zp h
 obtain⟨x4,hx4,h⟩:=zt h
 refine zdb (args':=[.A (b:Tr)]) (r:= .A (x4:RT)) (by rw[←hx4];exact(z4r b g4)) ?_
 refine zan rfl rfl ?_
 obtain⟨g5,h⟩:=zp h
 obtain⟨x5,hx5,h⟩:=zt h
 refine zdb (args':=[.A (x3:RT),.A (x4:RT)]) (r:= .b x5) (by rw[←hx5];exact(k_rsame x3 x4 g5)) ?_
 refine w_r [.v (.b x5),.m _] ?_
 exact zbe h
 refine h_o (a:= .b false) (h:=zeh rfl hc2) ?_
 refine zkl ?_
 refine zkl ?_
 refine zkl ?_
 refine ziy ?_
 refine w_r [.p,.p,.v (.b false),.m _] ?_
 exact zbe h
 refine h_o (a:= .b false) (h:=zeh rfl hc1) ?_
 refine zkl ?_
 refine zkl ?_
 refine zkl ?_
 refine h_o (a:= .b false) ?_
 refine zjj ?_
 refine zkl ?_
 refine zkl ?_
 refine zkl ?_
 refine ziy ?_
 refine w_r [.p,.p,.v (.b false),.m _] ?_
 exact zbe h
end Go.Ab
