import Derived.Test.YtnoccnalocdldaaDoorZgRm
set_option linter.all false
set_option maxRecDepth 100000
set_option maxHeartbeats 4000000
namespace Go.Ab
open Go Go.RowKit Go.Fwd Go.Proofs
def z4s (fuel:Nat)(n:Nat)(t:Tr):Option Int:=
 (zdr (τ:=Int) (bif (((t.k:Nat):Int)==2) then(some (Sum.inl (1))) else(some (Sum.inl (0)))) (fun j1=>(zdr (τ:=Int) (zbo (β:=Int×Int) (fun s1=>(bif (decide (s1.2<(List.length t.l:Int))) then(chk (0≤s1.2∧s1.2<(List.length t.l:Int)) (zbi (ix t.l s1.2) (fun x1=>(chk (((pre x1).length<n)) (zbi (z3g x1) (fun x2=>(chk (-9223372036854775808≤(s1.1+x2)∧(s1.1+x2)<9223372036854775808) (chk (-9223372036854775808≤(s1.2+1)∧(s1.2+1)<9223372036854775808) (some (Sum.inl ((s1.1+x2),(s1.2+1)))))))))))) else(some (Sum.inr (Sum.inl (s1.1)))))) fuel (j1,0)) (fun j2=>(zdr (τ:=Int) (bif (((t.k:Nat):Int)==5) then(zdr (τ:=Int) (bif (t.mx==(-1)) then(some (Sum.inl ((max (max t.mn 0) 1)))) else(some (Sum.inl ((max (max t.mn 0) t.mx))))) (fun j4=>(chk (-9223372036854775808≤(j2*(min j4 10001))∧(j2*(min j4 10001))<9223372036854775808) (some (Sum.inl ((j2*(min j4 10001)))))))) else(some (Sum.inl (j2)))) (fun j3=>(some (min j3 10001))))))))
theorem ent65:Ent Tryd.prog 65:=enters_of Tryd.func65 (by kernel_rfl) rfl
theorem posn_sh (fuel:Nat)(n:Nat)(t:Tr)(r:Int)(ih: ∀x:Tr,((pre x).length<n)→Pure (ITP Tryd.prog) Tryd.prog 65 [.A x] (.raw (.int .i64 (z3g x))))(h:z4s fuel n t=some r):Pure (ITP Tryd.prog) Tryd.prog 65 [.A (t:Tr)] (.raw (.int .i64 r)):=by
 unfold z4s at h
 refine zby 43 mix Tryd.func65 ent65 ?_
 refine zi (zc ?_)
 refine zcb (a:= .ptr 0 0) (σ'':=(.B [(33,(Enc.cells (t:Tr)))])) ?_
 refine w_o (a:= .i 0) ?_
 refine zx [.v (.i 0)] ?_
 refine zbh h (bz 0 44 17592186044413) (fun j1=>[(3,.i j1)]) (fun j1=>(.B [(33,(Enc.cells (t:Tr)))])) ?_ ?_
 intro or1 h hr1
 refine zx [.v (.ptr 0 0),.v (.u ((t.k:Nat):Int)),.v (.b (((t.k:Nat):Int)==2))] ?_
 refine zcd h (fun hc1 h=> ?_) (fun hc1 h=> ?_)
 refine zc (k0:=0) (id:=3) ?_
 refine w_o (a:= .i 1) ?_
 refine zg (o:=or1) (1) h ?_
 exact zcs (bl 44 10)
 refine zg (o:=or1) (0) h ?_
 exact zcs (bl 44 10)
 intro j1 h
 refine zet ?_
 refine zbh h (bz 0 23 8386600) (fun j2=>[(3,.i j2)]) (fun j2=>(.B [(33,(Enc.cells (t:Tr)))])) ?_ ?_
 intro or2 h hr2
 refine zx [.v (.ptr 0 7),.v (.L (t.l:List Tr)),.v (.i (List.length t.l:Int)),.v (.i 0)] ?_
 refine zag ?_
 refine zcx h (bz 0 23 8374312) (fun s1=>[(3,.i s1.1),(14,.i s1.2)]) (fun s1=>(.B [(33,(Enc.cells (t:Tr)))])) ?_ ?_
 exact zcs (bl 44 17592177686495)
 intro s1 p1 h
 refine zet ?_
 refine zx [.v (.b (decide (s1.2<(List.length t.l:Int))))] ?_
 refine zi ?_
 refine zcd h (fun hc2 h=> ?_) (fun hc2 h=> ?_)
 refine zi ?_
 refine zag ?_
 refine zi (zc ?_)
 obtain⟨g1,h⟩:=zp h
 obtain⟨x1,hx1,h⟩:=zt h
 refine z6x hx1 g1 ?_
 refine w_o (a:= .A (x1:Tr)) ?_
 refine zcb (a:= .ptr 1 0) (σ'':=(.B [(33,(Enc.cells (t:Tr))),(33,[.u 0,.raw (.int .u64 0),.raw (.int .u64 0),.raw (.int .u64 0),.raw (.int .u64 0),.i 0,.i 0,.list 0 [] .full])])) ?_
 refine zco 8 (.B [(33,(Enc.cells (t:Tr))),(33,(Enc.cells (x1:Tr)))]) ?_
 refine zc (k0:=0) (id:=7) ?_
 refine w_r [.m _,.v (.A (x1:Tr))] ?_
 obtain⟨g2,h⟩:=zp h
 obtain⟨x2,hx2,h⟩:=zt h
 refine zdb (args':=[.A (x1:Tr)]) (r:= .i x2) (by rw[←hx2];exact(ih x1 g2)) ?_
 obtain⟨g3,h⟩:=zp h
 refine zio g3 ?_
 refine zac ?_
 refine zc (k0:=0) (id:=8) ?_
 obtain⟨g4,h⟩:=zp h
 refine zio g4 ?_
 refine zac ?_
 refine zbs (p:=p1) ((s1.1+x2),(s1.2+1)) h ?_
 exact zfa (bl 44 17592177686495) 1 (by kernel_rfl) (Nat.le_of_ble_eq_true rfl) (zcw (zav (zal _ _ (Enc.clo _)) rfl)) (by dsimp only[zbg,zbz,List.foldl,List.set,bz,bzc,Nat.reduceMod,Nat.reduceDiv,Nat.reduceBEq,Nat.reduceAdd];exact(za rfl (za (by decide) (za rfl (za rfl (za rfl (za rfl (za rfl (za rfl (za rfl (za rfl (za rfl (za rfl (za (zcl (Enc.cloL _)) (by kernel_rfl))))))))))))))) (by kernel_rfl)
 refine zaj h (fun h=> ?_)
 refine zg (o:=or2) (s1.1) h ?_
 exact zcs (bl 44 17592177657823)
 intro j2 h
 refine zet ?_
 refine zbh h (bz 0 42 4398038122698) (fun j3=>[(3,.i j3)]) (fun j3=>(.B [(33,(Enc.cells (t:Tr)))])) ?_ ?_
 intro or3 h hr3
 refine zx [.v (.ptr 0 0),.v (.u ((t.k:Nat):Int)),.v (.b (((t.k:Nat):Int)==5))] ?_
 refine zcd h (fun hc3 h=> ?_) (fun hc3 h=> ?_)
 refine zx [.v (.ptr 0 5),.v (.i t.mn)] ?_
 refine w_o (a:= .i (max t.mn 0)) (h:=zbb (q_max rfl rfl rfl rfl rfl)) ?_
 refine zac ?_
 refine zx [.m _,.v (.ptr 0 6),.v (.i t.mx)] ?_
 refine w_o (a:= .i (max (max t.mn 0) t.mx)) (h:=zbb (q_max rfl rfl rfl rfl rfl)) ?_
 refine zac ?_
 refine zbh h (bz 0 38 274869518530) (fun j4=>[(7,.i j4)]) (fun j4=>(.B [(33,(Enc.cells (t:Tr)))])) ?_ ?_
 intro or4 h hr4
 refine zx [.v (.ptr 0 6),.v (.i t.mx),.v (.b (t.mx==(-1)))] ?_
 refine zcd h (fun hc4 h=> ?_) (fun hc4 h=> ?_)
 refine zc (k0:=0) (id:=13) ?_
 refine zac ?_
 refine w_o (a:= .i (max (max t.mn 0) 1)) (h:=zbb (q_max rfl rfl rfl rfl rfl)) ?_
 refine zac ?_
 refine zg (o:=or4) ((max (max t.mn 0) 1)) h ?_
 exact zcs (bl 44 17317316526013)
 refine zg (o:=or4) ((max (max t.mn 0) t.mx)) h ?_
 exact zcs (bl 44 17317316526013)
 intro j4 h
 refine zet ?_
 refine zc (k0:=0) (id:=14) ?_
 refine w_r [.m _,.m _] ?_
 refine w_o (a:= .i (min j4 10001)) (h:=zbb (qhg rfl rfl rfl rfl rfl)) ?_
 obtain⟨g5,h⟩:=zp h
 refine w_o (a:= .i (j2*(min j4 10001))) (h:=zbb (q_mul rfl rfl rfl rfl g5.1 g5.2)) ?_
 refine zac ?_
 refine zg (o:=or3) ((j2*(min j4 10001))) h ?_
 exact zcs (bl 44 13194147921725)
 refine zg (o:=or3) (j2) h ?_
 exact zcs (bl 44 13194147921725)
 intro j3 h
 refine zet ?_
 refine zx [.m _] ?_
 refine w_o (a:= .i (min j3 10001)) (h:=zbb (qhg rfl rfl rfl rfl rfl)) ?_
 refine zac ?_
 exact zjd h
def zxo (t:Tr):Option Int:=
 (chk ((pre t).length<2^61) (zbi (zgk t) (fun x1=>(bif (!x1) then(some 10001) else(zdr (τ:=Int) (chk ((pre t).length<2^61) (zbi (pre t) (fun x2=>(zdr (zek (β:=Int) (fun s1 w1=>(chk (-9223372036854775808≤(s1+1)∧(s1+1)<9223372036854775808) (some (Sum.inl ((s1+1)))))) x2 (0)) (fun s1=>(some (Sum.inl (s1)))))))) (fun j1=>(some j1)))))))
theorem ent42:Ent Tryd.prog 42:=enters_of Tryd.func42 (by kernel_rfl) rfl
theorem qbr (t:Tr)(r:Int)(h:zxo t=some r):Pure (ITP Tryd.prog) Tryd.prog 42 [.A (t:Tr)] (.raw (.int .i64 r)):=by
 unfold zxo at h
 refine zby 12 mix Tryd.func42 ent42 ?_
 refine zi (zc ?_)
 refine zcb (a:= .ptr 0 0) (σ'':=(.B [(33,(Enc.cells (t:Tr)))])) ?_
 refine w_o (a:= .i 0) ?_
 refine zi ?_
 refine zx [.v (.A (t:Tr))] ?_
 obtain⟨g1,h⟩:=zp h
 obtain⟨x1,hx1,h⟩:=zt h
 refine zdb (args':=[.A (t:Tr)]) (r:= .b x1) (by rw[←hx1];exact(zwf t g1)) ?_
 refine w_o (a:= .b (!x1)) ?_
 refine zcd h (fun hc1 h=> ?_) (fun hc1 h=> ?_)
 refine zx [.v (.i 10001)] ?_
 exact zjd h
 refine zi (zc ?_)
 refine zcb (a:= .ptr 1 0) (σ'':=(.B [(33,(Enc.cells (t:Tr))),(3,[.i 0])])) ?_
 refine zco 1 (.B [(33,(Enc.cells (t:Tr))),(3,[.i 0])]) ?_
 refine zbh h (bz 0 13 8183) (fun j1=>[]) (fun j1=>(.B [(33,(Enc.cells (t:Tr))),(3,[.i j1])])) ?_ ?_
 intro or1 h hr1
 refine zx [.v (.A (t:Tr))] ?_
 obtain⟨g2,h⟩:=zp h
 obtain⟨x2,hx2,h⟩:=zt h
 refine zdb (args':=[.A (t:Tr)]) (r:= .iter (List.map zmr x2)) (by rw[←hx2];exact(zya t g2)) ?_
 refine zag ?_
 refine zlt h zmr (fun s1=>(.B [(33,(Enc.cells (t:Tr))),(3,[.i s1])])) rfl (fun _=>rfl) rfl rfl ?_ ?_
 intro s1 w1 p1 h
 refine zbj (by dsimp only[zlh,List.zip,List.zipWith,List.foldl,List.set,Array.toList,zmr]) rfl ?_
 refine zag ?_
 refine zc (k0:=0) (id:=5) ?_
 refine w_o (a:= .i s1) ?_
 obtain⟨g3,h⟩:=zp h
 refine zio g3 ?_
 refine zco 1 (.B [(33,(Enc.cells (t:Tr))),(3,[.i (s1+1)])]) ?_
 exact zfi (p:=p1) ((s1+1)) h (zcw (zav (zal _ _ (Enc.clo _)) (zav (by kernel_rfl) rfl))) (by kernel_rfl)
 intro s1 h
 refine zg (o:=or1) (s1) h ?_
 exact zcs (bl 13 8)
 intro j1 h
 refine zet ?_
 refine zx [.v (.i j1),.m _] ?_
 exact zjd h
def zpk (t:Tr):Option Int:=
 (chk ((pre t).length<2^61) (zbi (zgk t) (fun x1=>(bif (!x1) then(some 10001) else(zdr (τ:=Int) (chk ((pre t).length<2^61) (zbi (pre t) (fun x2=>(zdr (zek (β:=Int) (fun s1 w1=>(bif (((w1.k:Nat):Int)==6) then(chk (-9223372036854775808≤(s1+1)∧(s1+1)<9223372036854775808) (some (Sum.inl ((s1+1))))) else(some (Sum.inl (s1))))) x2 (0)) (fun s1=>(some (Sum.inl (s1)))))))) (fun j1=>(some j1)))))))
theorem ent44:Ent Tryd.prog 44:=enters_of Tryd.func44 (by kernel_rfl) rfl
theorem z3f (t:Tr)(r:Int)(h:zpk t=some r):Pure (ITP Tryd.prog) Tryd.prog 44 [.A (t:Tr)] (.raw (.int .i64 r)):=by
 unfold zpk at h
 refine zby 16 mix Tryd.func44 ent44 ?_
 refine zi (zc ?_)
 refine zcb (a:= .ptr 0 0) (σ'':=(.B [(33,(Enc.cells (t:Tr)))])) ?_
 refine w_o (a:= .i 0) ?_
 refine zi ?_
 refine zx [.v (.A (t:Tr))] ?_
 obtain⟨g1,h⟩:=zp h
 obtain⟨x1,hx1,h⟩:=zt h
 refine zdb (args':=[.A (t:Tr)]) (r:= .b x1) (by rw[←hx1];exact(zwf t g1)) ?_
 refine w_o (a:= .b (!x1)) ?_
 refine zcd h (fun hc1 h=> ?_) (fun hc1 h=> ?_)
 refine zx [.v (.i 10001)] ?_
 exact zjd h
 refine zi (zc ?_)
 refine zcb (a:= .ptr 1 0) (σ'':=(.B [(33,(Enc.cells (t:Tr))),(3,[.i 0])])) ?_
 refine zco 1 (.B [(33,(Enc.cells (t:Tr))),(3,[.i 0])]) ?_
 refine zbh h (bz 0 17 131063) (fun j1=>[]) (fun j1=>(.B [(33,(Enc.cells (t:Tr))),(3,[.i j1])])) ?_ ?_
 intro or1 h hr1
 refine zx [.v (.A (t:Tr))] ?_
 obtain⟨g2,h⟩:=zp h
 obtain⟨x2,hx2,h⟩:=zt h
 refine zdb (args':=[.A (t:Tr)]) (r:= .iter (List.map zmr x2)) (by rw[←hx2];exact(zya t g2)) ?_
 refine zag ?_
 refine zlt h zmr (fun s1=>(.B [(33,(Enc.cells (t:Tr))),(3,[.i s1])])) rfl (fun _=>rfl) rfl rfl ?_ ?_
 intro s1 w1 p1 h
 refine zbj (by dsimp only[zlh,List.zip,List.zipWith,List.foldl,List.set,Array.toList,zmr]) rfl ?_
 refine zc (k0:=0) (id:=5) ?_
 refine zcb (a:= .ptr 2 0) (σ'':=(.B [(33,(Enc.cells (t:Tr))),(3,[.i s1]),(33,[.u 0,.raw (.int .u64 0),.raw (.int .u64 0),.raw (.int .u64 0),.raw (.int .u64 0),.i 0,.i 0,.list 0 [] .full])])) ?_
 refine zco 8 (.B [(33,(Enc.cells (t:Tr))),(3,[.i s1]),(33,(Enc.cells (w1:Tr)))]) ?_
 refine zag ?_
 refine zx [.v (.ptr 2 0),.v (.u ((w1.k:Nat):Int)),.v (.b (((w1.k:Nat):Int)==6))] ?_
 refine zcd h (fun hc2 h=> ?_) (fun hc2 h=> ?_)
 refine zc (k0:=0) (id:=7) ?_
 refine w_o (a:= .i s1) ?_
 obtain⟨g3,h⟩:=zp h
 refine zio g3 ?_
 refine zco 1 (.B [(33,(Enc.cells (t:Tr))),(3,[.i (s1+1)]),(33,(Enc.cells (w1:Tr)))]) ?_
 exact zfi (p:=p1) ((s1+1)) h (zcw (zav (zal _ _ (Enc.clo _)) (zav (by kernel_rfl) rfl))) (by kernel_rfl)
 exact zfi (p:=p1) (s1) h (zcw (zav (zal _ _ (Enc.clo _)) (zav (by kernel_rfl) rfl))) (by kernel_rfl)
 intro s1 h
 refine zg (o:=or1) (s1) h ?_
 exact zcs (bl 17 8)
 intro j1 h
 refine zet ?_
 refine zx [.v (.i j1),.m _] ?_
 exact zjd h
end Go.Ab
set_option maxRecDepth 100000
set_option maxHeartbeats 4000000
namespace Go.Ab
open Go Go.RowKit Go.Fwd Go.Proofs
theorem zwk {α β ρ:Type} {body:β→α→Option (β ⊕ ρ)} (f:β→α→β)(I:β→Nat→Prop): ∀(xs:List α) (s:β),I s xs.length→(∀s x k,x∈xs→k<xs.length→I s (k+1)→body s x=some (.inl (f s x))∧I (f s x) k)→zek body xs s=some (.inl (xs.foldl f s))
 |[],s,_,_=>rfl
 | x::xs,s,h0,h=>by
  obtain⟨h1,h2⟩:=h s x xs.length (by simp) (by simp) h0
  rw[zek,h1]
  exact zwk f I xs (f s x) h2 fun s y k hy hk=>h s y k (by simp[hy]) (by simp;omega)
theorem zzv {α:Type} (p:α→Bool): ∀(xs:List α) (s:Int),xs.foldl (fun s x=>bif p x then s+1 else s) s=s+(xs.countP p:Int)
 |[],s=>by simp
 | x::xs,s=>by
  rw[List.foldl_cons,zzv p xs,List.countP_cons]
  cases p x<;>simp<;>omega
theorem k_size (t:Tr)(h:(pre t).length<2^61):Pure (ITP Tryd.prog) Tryd.prog 42 [.agg (Enc.cells t)] (.raw (.int .i64 (z4w t))):=by
 refine qbr t _ ?_
 unfold zxo z4w
 refine zae h (zap fun x1 e1=> ?_)
 subst e1
 cases hl:zgk t with
 |false=>rfl
 | true=>
  refine zfy rfl (zca ((pre t).length:Int) (zae h (zap fun x2 e2=> ?_)) rfl)
  subst e2
  refine zca ((pre t).length:Int) ?_ rfl
  refine Eq.trans (zwk (fun(s:Int) _=>s+1) (fun s k=>0≤s∧s+k≤(pre t).length) (pre t) 0 (by omega) (fun s x k _ hk hI=>⟨zae (by omega) rfl,by omega⟩)) ?_
  have: ∀(xs:List Tr) (s:Int),xs.foldl (fun s _=>s+1) s=s+(xs.length:Int):=fun xs=>by
   induction xs with
   |nil=>intro s;simp
   |cons x xs ih=>intro s;rw[List.foldl_cons,ih,List.length_cons];omega
  rw[this,Int.zero_add]
theorem qib (t:Tr)(h:(pre t).length<2^61):Pure (ITP Tryd.prog) Tryd.prog 44 [.agg (Enc.cells t)] (.raw (.int .i64 (zvl t))):=by
 refine z3f t _ ?_
 unfold zpk zvl
 refine zae h (zap fun x1 e1=> ?_)
 subst e1
 cases hl:zgk t with
 |false=>rfl
 | true=>
  refine zfy rfl (zca (((pre t).countP fun x=>decide (x.k=6)):Int) (zae h (zap fun x2 e2=> ?_)) rfl)
  subst e2
  refine zca (((pre t).countP fun x=>decide (x.k=6)):Int) ?_ rfl
  refine Eq.trans (zwk (fun(s:Int) x=>bif decide (x.k=6) then s+1 else s) (fun s k=>0≤s∧s+k≤(pre t).length) (pre t) 0 (by omega) (fun s x k _ hk hI=> ?_)) ?_
  rotate_left
  ·rw[zzv (fun x:Tr=>decide (x.k=6)),Int.zero_add]
  ·by_cases h6:x.k=6
   ·simp only[h6,decide_true,cond_true]
    exact⟨zae (by omega) rfl,by omega⟩
   ·rw[show decide (x.k=6)=false by simpa using h6]
    exact⟨zfy (by simp;omega) rfl,by simp only[cond_false];omega⟩
theorem posn_eq {fuel:Nat} (n:Nat)(t:Tr)(h:(pre t).length≤10000)(hn:(pre t).length<n+1)(hf:10001<fuel):z4s fuel n t=some (z3g t):=by
 have hp:(pre t).length=1+(zda t.l).length:=by rw[zfl,List.length_cons];omega
 have hlen:=zci t.l
 have hpl:=z3s t.l
 have hpn:=zjp t.l
 unfold z4s
 have hpos:z3g t=min (if t.k=5 then((if t.k=2 then 1 else 0)+zoo t.l)*min (if t.mx= -1 then max (max t.mn 0) 1 else max (max t.mn 0) t.mx) 10001 else(if t.k=2 then 1 else 0)+zoo t.l) 10001:=by
  obtain⟨k,s,mn,mx,l⟩:=t;rw[z3g];rfl
 rw[hpos]
 refine zca (if t.k=2 then 1 else 0) ?_ ?_
 ·by_cases h2:t.k=2
  ·rw[if_pos h2];exact zgp (by simp[h2]) rfl
  ·rw[if_neg h2];exact zfy (by simp;omega) rfl
 ·generalize hb:(if t.k=2 then(1:Int) else 0)=b
  have hb1:0≤b∧b≤1:=by rw[←hb];split<;>omega
  refine zca (b+zoo t.l) ?_ ?_
  ·refine zku t.l.length (fun i=>(b+zoo (t.l.take i),(i:Int))) (by simp[zoo]) (fun i hi=> ?_) ?_ (by omega)
   ·refine zgp (by simpa using hi) (zae (by simp only;omega) (zap fun x1 e1=> ?_))
    simp only at e1
    rw[zjs hi] at e1
    have hm:x1∈t.l:=e1▸List.getElem_mem hi
    have hx:=zfc hm
    have q1:=z3s (t.l.take i)
    have q2:=zjp (t.l.take i)
    have q3:=qam x1
    have q4:=zsw x1
    have q5:(t.l.take i).length≤t.l.length:=List.length_take_le' _ _
    refine zae (by omega) (zap fun x2 e2=>zae (by simp only;omega) (zae (by simp only;omega) ?_))
    rw[qbb _ _ hi,e1,←e2]
    simp only[Int.add_assoc];rfl
   ·refine zfy (by simp) ?_
    simp
  ·generalize hj:b+zoo t.l=j
   have hj1:0≤j∧j≤200000000:=by omega
   by_cases h5:t.k=5
   ·rw[if_pos h5]
    generalize hq:(if t.mx= -1 then max (max t.mn 0) 1 else max (max t.mn 0) t.mx)=q
    have hm:0≤min q 10001∧min q 10001≤10001:=by
     have:0≤q:=by rw[←hq];split<;>omega
     omega
    have hmul:0≤j*min q 10001∧j*min q 10001≤200000000*10001:=⟨Int.mul_nonneg hj1.1 hm.1,Int.mul_le_mul hj1.2 hm.2 hm.1 (by omega)⟩
    refine zca (j*min q 10001) (zgp (by simp[h5]) (zca q ?_ (zae (by omega) rfl))) rfl
    by_cases hx:t.mx= -1
    ·rw[if_pos hx] at hq;exact zgp (by simp[hx]) (by rw[hq])
    ·rw[if_neg hx] at hq;exact zfy (by simpa using hx) (by rw[hq])
   ·rw[if_neg h5]
    exact zca j (zfy (by simp;omega) rfl) rfl
theorem z5p: ∀(n:Nat) (t:Tr),(pre t).length<n→(pre t).length≤10000→Pure (ITP Tryd.prog) Tryd.prog 65 [.agg (Enc.cells t)] (.raw (.int .i64 (z3g t)))
 |0,t,h,_=>absurd h (Nat.not_lt_zero _)
 | n+1,t,h,hl=>by
  have hp:(pre t).length=1+(zda t.l).length:=by rw[zfl,List.length_cons];omega
  exact posn_sh 10002 (min n 10000) t _ (fun x hx=>z5p n x (by omega) (by omega)) (posn_eq (min n 10000) t hl (by omega) (by decide))
theorem k_posn (t:Tr)(h:(pre t).length≤10000):Pure (ITP Tryd.prog) Tryd.prog 65 [.agg (Enc.cells t)] (.raw (.int .i64 (z3g t))):=z5p 10001 t (by omega) h
structure Rg where
 b:Bool
 e:Bool
 t:Tr
def qbs (r:Rg):List AV:= .raw (.bool r.b):: .raw (.bool r.e)::Enc.cells r.t
instance:Enc Rg where
 inh:=⟨false,false,zz⟩
 cells:=qbs
 cellsL l:=l.flatMap qbs
 sz:=10
 pos:=by decide
 nil:=rfl
 cons _ _:=rfl
 len r:=by show(Enc.cells r.t).length+2=10;rw[Enc.len];rfl
 clo r:=by show cloL (.raw _:: .raw _::Enc.cells r.t)=true;rw[cloL,cloL,Enc.clo];rfl
end Go.Ab
set_option maxRecDepth 100000
set_option maxHeartbeats 4000000
namespace Go.Ab
open Go Go.RowKit Go.Fwd Go.Proofs
def zju (t:Tr):Option Int:=
 (chk ((pre t).length<2^61) (zbi (zgk t) (fun x1=>(bif (!x1) then(some 10001) else(chk ((pre t).length≤10000) (zbi (z3g t) (fun x2=>(some x2))))))))
theorem ent43:Ent Tryd.prog 43:=enters_of Tryd.func43 (by kernel_rfl) rfl
theorem zzr (t:Tr)(r:Int)(h:zju t=some r):Pure (ITP Tryd.prog) Tryd.prog 43 [.A (t:Tr)] (.raw (.int .i64 r)):=by
 unfold zju at h
 refine zby 7 mix Tryd.func43 ent43 ?_
 refine zi (zc ?_)
 refine zcb (a:= .ptr 0 0) (σ'':=(.B [(33,(Enc.cells (t:Tr)))])) ?_
 refine w_o (a:= .i 0) ?_
 refine zi ?_
 refine zx [.v (.A (t:Tr))] ?_
 obtain⟨g1,h⟩:=zp h
 obtain⟨x1,hx1,h⟩:=zt h
 refine zdb (args':=[.A (t:Tr)]) (r:= .b x1) (by rw[←hx1];exact(zwf t g1)) ?_
 refine w_o (a:= .b (!x1)) ?_
 refine zcd h (fun hc1 h=> ?_) (fun hc1 h=> ?_)
 refine zx [.v (.i 10001)] ?_
 exact zjd h
 refine zx [.v (.A (t:Tr))] ?_
 obtain⟨g2,h⟩:=zp h
 obtain⟨x2,hx2,h⟩:=zt h
 refine zdb (args':=[.A (t:Tr)]) (r:= .i x2) (by rw[←hx2];exact(k_posn t g2)) ?_
 refine zac ?_
 exact zjd h
def zsn (x:Rg):Option Int:=
 (chk ((pre x.t).length<2^61) (zbi (zga x.t) (fun x1=>(bif (!x1) then(some 80) else(chk ((pre x.t).length<2^61) (zbi (z4w x.t) (fun x2=>(bif (decide (x2>120)) then(some 81) else(zar (zju x.t) (fun x3=>(bif (decide (x3>400)) then(some 82) else(chk ((pre x.t).length<2^61) (zbi (zvl x.t) (fun x4=>(bif (decide (x4>9)) then(some 83) else(some 0))))))))))))))))
theorem ent21:Ent Tryd.prog 21:=enters_of Tryd.func21 (by kernel_rfl) rfl
theorem qgt (x:Rg)(r:Int)(h:zsn x=some r):Pure (ITP Tryd.prog) Tryd.prog 21 [.A (x:Rg)] (.raw (.int .i64 r)):=by
 unfold zsn at h
 refine zby 22 mix Tryd.func21 ent21 ?_
 refine zi (zc ?_)
 refine zcb (a:= .ptr 0 0) (σ'':=(.B [(35,(Enc.cells (x:Rg)))])) ?_
 refine w_o (a:= .i 0) ?_
 refine zi ?_
 refine zag ?_
 refine zx [.v (.ptr 0 2),.v (.A (x.t:Tr))] ?_
 obtain⟨g1,h⟩:=zp h
 obtain⟨x1,hx1,h⟩:=zt h
 refine zdb (args':=[.A (x.t:Tr)]) (r:= .b x1) (by rw[←hx1];exact(zxy x.t g1)) ?_
 refine w_r [.v (.b (!x1)),.m _] ?_
 refine zcd h (fun hc1 h=> ?_) (fun hc1 h=> ?_)
 refine zx [.v (.i 80)] ?_
 exact zjd h
 refine zx [.v (.ptr 0 2),.v (.A (x.t:Tr))] ?_
 obtain⟨g2,h⟩:=zp h
 obtain⟨x2,hx2,h⟩:=zt h
 refine zdb (args':=[.A (x.t:Tr)]) (r:= .i x2) (by rw[←hx2];exact(k_size x.t g2)) ?_
 refine w_r [.v (.b (decide (x2>120))),.m _] ?_
 refine zcd h (fun hc2 h=> ?_) (fun hc2 h=> ?_)
 refine zx [.v (.i 81)] ?_
 exact zjd h
 refine zx [.v (.ptr 0 2),.v (.A (x.t:Tr))] ?_
 obtain⟨x3,hx3,h⟩:=zv h
 refine zdb (zzr x.t x3 hx3) ?_
 refine w_r [.v (.b (decide (x3>400))),.m _] ?_
 refine zcd h (fun hc3 h=> ?_) (fun hc3 h=> ?_)
 refine zx [.v (.i 82)] ?_
 exact zjd h
 refine zx [.v (.ptr 0 2),.v (.A (x.t:Tr))] ?_
 obtain⟨g3,h⟩:=zp h
 obtain⟨x4,hx4,h⟩:=zt h
 refine zdb (args':=[.A (x.t:Tr)]) (r:= .i x4) (by rw[←hx4];exact(qib x.t g3)) ?_
 refine w_r [.v (.b (decide (x4>9))),.m _] ?_
 refine zcd h (fun hc4 h=> ?_) (fun hc4 h=> ?_)
 refine zx [.v (.i 83)] ?_
 exact zjd h
 refine zx [.v (.i 0)] ?_
 exact zjd h
end Go.Ab
