/-
  derive: functions about fit trees.
-/
import Derived.Test.YtfkkellnlmjenaaGreatZePt
set_option linter.unusedSimpArgs false
set_option linter.unusedVariables false
set_option maxRecDepth 100000
set_option maxHeartbeats 4000000
namespace Go.Ab
open Go Go.RowKit Go.Fwd Go.Proofs
def z8y (fuel:Nat)(n:Nat)(t:Tr):Option Int:=
 (zeb (τ:=Int) (bif (((t.k:Nat):Int)==2) then(some (Sum.inl (1))) else(some (Sum.inl (0)))) (fun j1=>(zeb (τ:=Int) (zcc (β:=Int×Int) (fun s1=>(bif (decide (s1.2<(List.length t.l:Int))) then(chk (0≤s1.2∧s1.2<(List.length t.l:Int)) (zba (ix t.l s1.2) (fun x1=>(chk (((pre x1).length<n)) (zba (zdf x1) (fun x2=>(chk (-9223372036854775808≤(s1.1+x2)∧(s1.1+x2)<9223372036854775808) (chk (-9223372036854775808≤(s1.2+1)∧(s1.2+1)<9223372036854775808) (some (Sum.inl ((s1.1+x2),(s1.2+1)))))))))))) else(some (Sum.inr (Sum.inl (s1.1)))))) fuel (j1,0)) (fun j2=>(zeb (τ:=Int) (bif (((t.k:Nat):Int)==5) then(zeb (τ:=Int) (bif (t.mx==(-1)) then(some (Sum.inl ((max (max t.mn 0) 1)))) else(some (Sum.inl ((max (max t.mn 0) t.mx))))) (fun j4=>(chk (-9223372036854775808≤(j2*(min j4 10001))∧(j2*(min j4 10001))<9223372036854775808) (some (Sum.inl ((j2*(min j4 10001)))))))) else(some (Sum.inl (j2)))) (fun j3=>(some (min j3 10001))))))))
theorem ent69:Ent Tryz.prog 69:=enters_of Tryz.func69 (by kernel_rfl) rfl
theorem posn_sh (fuel:Nat)(n:Nat)(t:Tr)(r:Int)(ih: ∀x:Tr,((pre x).length<n)→Pure (ITP Tryz.prog) Tryz.prog 69 [.A x] (.raw (.int .i64 (zdf x))))(h:z8y fuel n t=some r):Pure (ITP Tryz.prog) Tryz.prog 69 [.A (t:Tr)] (.raw (.int .i64 r)):=by
 unfold z8y at h
 refine zav 43 mix Tryz.func69 ent69 ?_
 refine zf (zb ?_)
 refine zbs (a:= .ptr 0 0) (σ'':=(.B [(29,(Enc.cells (t:Tr)))])) ?_
 refine w_o (a:= .i 0) ?_
 refine zo [.v (.i 0)] ?_
 refine zas h (bz 0 44 17592186044413) (fun j1=>[(3,.i j1)]) (fun j1=>(.B [(29,(Enc.cells (t:Tr)))])) ?_ ?_
 intro or1 h hr1
 refine zo [.v (.ptr 0 0),.v (.u ((t.k:Nat):Int)),.v (.b (((t.k:Nat):Int)==2))] ?_
 refine zbz h (fun hc1 h=> ?_) (fun hc1 h=> ?_)
 refine zb (k0:=0) (id:=3) ?_
 refine w_o (a:= .i 1) ?_
 refine zg (o:=or1) (1) h ?_
 exact zdo (bl 44 10)
 refine zg (o:=or1) (0) h ?_
 exact zdo (bl 44 10)
 intro j1 h
 refine zfu ?_
 refine zas h (bz 0 23 8386600) (fun j2=>[(3,.i j2)]) (fun j2=>(.B [(29,(Enc.cells (t:Tr)))])) ?_ ?_
 intro or2 h hr2
 refine zo [.v (.ptr 0 7),.v (.L (t.l:List Tr)),.v (.i (List.length t.l:Int)),.v (.i 0)] ?_
 refine zn ?_
 refine zcb h (bz 0 23 8374312) (fun s1=>[(3,.i s1.1),(14,.i s1.2)]) (fun s1=>(.B [(29,(Enc.cells (t:Tr)))])) ?_ ?_
 exact zdo (bl 44 17592177686495)
 intro s1 p1 h
 refine zfu ?_
 refine zo [.v (.b (decide (s1.2<(List.length t.l:Int))))] ?_
 refine zf ?_
 refine zbz h (fun hc2 h=> ?_) (fun hc2 h=> ?_)
 refine zf ?_
 refine zn ?_
 refine zf (zb ?_)
 obtain⟨g1,h⟩:=zh h
 obtain⟨x1,hx1,h⟩:=zl h
 refine zwc hx1 g1 ?_
 refine w_o (a:= .A (x1:Tr)) ?_
 refine zbs (a:= .ptr 1 0) (σ'':=(.B [(29,(Enc.cells (t:Tr))),(29,[.u 0,.raw (.int .u64 0),.raw (.int .u64 0),.raw (.int .u64 0),.raw (.int .u64 0),.i 0,.i 0,.list 0 [] .full])])) ?_
 refine zcs 8 (.B [(29,(Enc.cells (t:Tr))),(29,(Enc.cells (x1:Tr)))]) ?_
 refine zb (k0:=0) (id:=7) ?_
 refine w_r [.m _,.v (.A (x1:Tr))] ?_
 obtain⟨g2,h⟩:=zh h
 obtain⟨x2,hx2,h⟩:=zl h
 refine zce (args':=[.A (x1:Tr)]) (r:= .i x2) (by rw[←hx2];exact(ih x1 g2)) ?_
 obtain⟨g3,h⟩:=zh h
 refine zql g3 ?_
 refine zaj ?_
 refine zb (k0:=0) (id:=8) ?_
 obtain⟨g4,h⟩:=zh h
 refine zql g4 ?_
 refine zaj ?_
 refine zat (p:=p1) ((s1.1+x2),(s1.2+1)) h ?_
 exact zdt (bl 44 17592177686495) 1 (by kernel_rfl) (Nat.le_of_ble_eq_true rfl) (zbl (zr (zk _ _ (Enc.clo _)) rfl)) (by dsimp only[zz,zai,List.foldl,List.set,bz,bzc,Nat.reduceMod,Nat.reduceDiv,Nat.reduceBEq,Nat.reduceAdd];exact(za rfl (za (by decide) (za rfl (za rfl (za rfl (za rfl (za rfl (za rfl (za rfl (za rfl (za rfl (za rfl (za (zao (Enc.cloL _)) (by kernel_rfl))))))))))))))) (by kernel_rfl)
 refine zaa h (fun h=> ?_)
 refine zg (o:=or2) (s1.1) h ?_
 exact zdo (bl 44 17592177657823)
 intro j2 h
 refine zfu ?_
 refine zas h (bz 0 42 4398038122698) (fun j3=>[(3,.i j3)]) (fun j3=>(.B [(29,(Enc.cells (t:Tr)))])) ?_ ?_
 intro or3 h hr3
 refine zo [.v (.ptr 0 0),.v (.u ((t.k:Nat):Int)),.v (.b (((t.k:Nat):Int)==5))] ?_
 refine zbz h (fun hc3 h=> ?_) (fun hc3 h=> ?_)
 refine zo [.v (.ptr 0 5),.v (.i t.mn)] ?_
 refine w_o (a:= .i (max t.mn 0)) (h:=zbu (qmf rfl rfl rfl rfl rfl)) ?_
 refine zaj ?_
 refine zo [.m _,.v (.ptr 0 6),.v (.i t.mx)] ?_
 refine w_o (a:= .i (max (max t.mn 0) t.mx)) (h:=zbu (qmf rfl rfl rfl rfl rfl)) ?_
 refine zaj ?_
 refine zas h (bz 0 38 274869518530) (fun j4=>[(7,.i j4)]) (fun j4=>(.B [(29,(Enc.cells (t:Tr)))])) ?_ ?_
 intro or4 h hr4
 refine zo [.v (.ptr 0 6),.v (.i t.mx),.v (.b (t.mx==(-1)))] ?_
 refine zbz h (fun hc4 h=> ?_) (fun hc4 h=> ?_)
 refine zb (k0:=0) (id:=13) ?_
 refine zaj ?_
 refine w_o (a:= .i (max (max t.mn 0) 1)) (h:=zbu (qmf rfl rfl rfl rfl rfl)) ?_
 refine zaj ?_
 refine zg (o:=or4) ((max (max t.mn 0) 1)) h ?_
 exact zdo (bl 44 17317316526013)
 refine zg (o:=or4) ((max (max t.mn 0) t.mx)) h ?_
 exact zdo (bl 44 17317316526013)
 intro j4 h
 refine zfu ?_
 refine zb (k0:=0) (id:=14) ?_
 refine w_r [.m _,.m _] ?_
 refine w_o (a:= .i (min j4 10001)) (h:=zbu (qng rfl rfl rfl rfl rfl)) ?_
 obtain⟨g5,h⟩:=zh h
 refine w_o (a:= .i (j2*(min j4 10001))) (h:=zbu (q_mul rfl rfl rfl rfl g5.1 g5.2)) ?_
 refine zaj ?_
 refine zg (o:=or3) ((j2*(min j4 10001))) h ?_
 exact zdo (bl 44 13194147921725)
 refine zg (o:=or3) (j2) h ?_
 exact zdo (bl 44 13194147921725)
 intro j3 h
 refine zfu ?_
 refine zo [.m _] ?_
 refine w_o (a:= .i (min j3 10001)) (h:=zbu (qng rfl rfl rfl rfl rfl)) ?_
 refine zaj ?_
 exact zdv h
def zzf (t:Tr):Option Int:=
 (chk ((pre t).length<2^61) (zba (zbj t) (fun x1=>(bif (!x1) then(some 10001) else(zeb (τ:=Int) (chk ((pre t).length<2^61) (zba (pre t) (fun x2=>(zeb (zgv (β:=Int) (fun s1 w1=>(chk (-9223372036854775808≤(s1+1)∧(s1+1)<9223372036854775808) (some (Sum.inl ((s1+1)))))) x2 (0)) (fun s1=>(some (Sum.inl (s1)))))))) (fun j1=>(some j1)))))))
theorem ent22:Ent Tryz.prog 22:=enters_of Tryz.func22 (by kernel_rfl) rfl
theorem qdx (t:Tr)(r:Int)(h:zzf t=some r):Pure (ITP Tryz.prog) Tryz.prog 22 [.A (t:Tr)] (.raw (.int .i64 r)):=by
 unfold zzf at h
 refine zav 12 mix Tryz.func22 ent22 ?_
 refine zf (zb ?_)
 refine zbs (a:= .ptr 0 0) (σ'':=(.B [(29,(Enc.cells (t:Tr)))])) ?_
 refine w_o (a:= .i 0) ?_
 refine zf ?_
 refine zo [.v (.A (t:Tr))] ?_
 obtain⟨g1,h⟩:=zh h
 obtain⟨x1,hx1,h⟩:=zl h
 refine zce (args':=[.A (t:Tr)]) (r:= .b x1) (by rw[←hx1];exact(zjs t g1)) ?_
 refine w_o (a:= .b (!x1)) ?_
 refine zbz h (fun hc1 h=> ?_) (fun hc1 h=> ?_)
 refine zo [.v (.i 10001)] ?_
 exact zdv h
 refine zf (zb ?_)
 refine zbs (a:= .ptr 1 0) (σ'':=(.B [(29,(Enc.cells (t:Tr))),(3,[.i 0])])) ?_
 refine zcs 1 (.B [(29,(Enc.cells (t:Tr))),(3,[.i 0])]) ?_
 refine zas h (bz 0 13 8183) (fun j1=>[]) (fun j1=>(.B [(29,(Enc.cells (t:Tr))),(3,[.i j1])])) ?_ ?_
 intro or1 h hr1
 refine zo [.v (.A (t:Tr))] ?_
 obtain⟨g2,h⟩:=zh h
 obtain⟨x2,hx2,h⟩:=zl h
 refine zce (args':=[.A (t:Tr)]) (r:= .iter (List.map zre x2)) (by rw[←hx2];exact(zud t g2)) ?_
 refine zn ?_
 refine zko h zre (fun s1=>(.B [(29,(Enc.cells (t:Tr))),(3,[.i s1])])) rfl (fun _=>rfl) rfl rfl ?_ ?_
 intro s1 w1 p1 h
 refine zal (by dsimp only[znd,List.zip,List.zipWith,List.foldl,List.set,Array.toList,zre]) rfl ?_
 refine zn ?_
 refine zb (k0:=0) (id:=5) ?_
 refine w_o (a:= .i s1) ?_
 obtain⟨g3,h⟩:=zh h
 refine zql g3 ?_
 refine zcs 1 (.B [(29,(Enc.cells (t:Tr))),(3,[.i (s1+1)])]) ?_
 exact zfl (p:=p1) ((s1+1)) h (zbl (zr (zk _ _ (Enc.clo _)) (zr (by kernel_rfl) rfl))) (by kernel_rfl)
 intro s1 h
 refine zg (o:=or1) (s1) h ?_
 exact zdo (bl 13 8)
 intro j1 h
 refine zfu ?_
 refine zo [.v (.i j1),.m _] ?_
 exact zdv h
def zqb (t:Tr):Option Int:=
 (chk ((pre t).length<2^61) (zba (zbj t) (fun x1=>(bif (!x1) then(some 10001) else(zeb (τ:=Int) (chk ((pre t).length<2^61) (zba (pre t) (fun x2=>(zeb (zgv (β:=Int) (fun s1 w1=>(bif (((w1.k:Nat):Int)==6) then(chk (-9223372036854775808≤(s1+1)∧(s1+1)<9223372036854775808) (some (Sum.inl ((s1+1))))) else(some (Sum.inl (s1))))) x2 (0)) (fun s1=>(some (Sum.inl (s1)))))))) (fun j1=>(some j1)))))))
theorem ent21:Ent Tryz.prog 21:=enters_of Tryz.func21 (by kernel_rfl) rfl
theorem z7r (t:Tr)(r:Int)(h:zqb t=some r):Pure (ITP Tryz.prog) Tryz.prog 21 [.A (t:Tr)] (.raw (.int .i64 r)):=by
 unfold zqb at h
 refine zav 16 mix Tryz.func21 ent21 ?_
 refine zf (zb ?_)
 refine zbs (a:= .ptr 0 0) (σ'':=(.B [(29,(Enc.cells (t:Tr)))])) ?_
 refine w_o (a:= .i 0) ?_
 refine zf ?_
 refine zo [.v (.A (t:Tr))] ?_
 obtain⟨g1,h⟩:=zh h
 obtain⟨x1,hx1,h⟩:=zl h
 refine zce (args':=[.A (t:Tr)]) (r:= .b x1) (by rw[←hx1];exact(zjs t g1)) ?_
 refine w_o (a:= .b (!x1)) ?_
 refine zbz h (fun hc1 h=> ?_) (fun hc1 h=> ?_)
 refine zo [.v (.i 10001)] ?_
 exact zdv h
 refine zf (zb ?_)
 refine zbs (a:= .ptr 1 0) (σ'':=(.B [(29,(Enc.cells (t:Tr))),(3,[.i 0])])) ?_
 refine zcs 1 (.B [(29,(Enc.cells (t:Tr))),(3,[.i 0])]) ?_
 refine zas h (bz 0 17 131063) (fun j1=>[]) (fun j1=>(.B [(29,(Enc.cells (t:Tr))),(3,[.i j1])])) ?_ ?_
 intro or1 h hr1
 refine zo [.v (.A (t:Tr))] ?_
 obtain⟨g2,h⟩:=zh h
 obtain⟨x2,hx2,h⟩:=zl h
 refine zce (args':=[.A (t:Tr)]) (r:= .iter (List.map zre x2)) (by rw[←hx2];exact(zud t g2)) ?_
 refine zn ?_
 refine zko h zre (fun s1=>(.B [(29,(Enc.cells (t:Tr))),(3,[.i s1])])) rfl (fun _=>rfl) rfl rfl ?_ ?_
 intro s1 w1 p1 h
 refine zal (by dsimp only[znd,List.zip,List.zipWith,List.foldl,List.set,Array.toList,zre]) rfl ?_
 refine zb (k0:=0) (id:=5) ?_
 refine zbs (a:= .ptr 2 0) (σ'':=(.B [(29,(Enc.cells (t:Tr))),(3,[.i s1]),(29,[.u 0,.raw (.int .u64 0),.raw (.int .u64 0),.raw (.int .u64 0),.raw (.int .u64 0),.i 0,.i 0,.list 0 [] .full])])) ?_
 refine zcs 8 (.B [(29,(Enc.cells (t:Tr))),(3,[.i s1]),(29,(Enc.cells (w1:Tr)))]) ?_
 refine zn ?_
 refine zo [.v (.ptr 2 0),.v (.u ((w1.k:Nat):Int)),.v (.b (((w1.k:Nat):Int)==6))] ?_
 refine zbz h (fun hc2 h=> ?_) (fun hc2 h=> ?_)
 refine zb (k0:=0) (id:=7) ?_
 refine w_o (a:= .i s1) ?_
 obtain⟨g3,h⟩:=zh h
 refine zql g3 ?_
 refine zcs 1 (.B [(29,(Enc.cells (t:Tr))),(3,[.i (s1+1)]),(29,(Enc.cells (w1:Tr)))]) ?_
 exact zfl (p:=p1) ((s1+1)) h (zbl (zr (zk _ _ (Enc.clo _)) (zr (by kernel_rfl) rfl))) (by kernel_rfl)
 exact zfl (p:=p1) (s1) h (zbl (zr (zk _ _ (Enc.clo _)) (zr (by kernel_rfl) rfl))) (by kernel_rfl)
 intro s1 h
 refine zg (o:=or1) (s1) h ?_
 exact zdo (bl 17 8)
 intro j1 h
 refine zfu ?_
 refine zo [.v (.i j1),.m _] ?_
 exact zdv h
def qhu (fuel:Nat)(l:(List BS))(s:BS):Option Int:=
 (zeb (τ:=Unit) (zcc (β:=Int) (fun s1=>(bif (decide (s1<(List.length l:Int))) then(chk (0≤s1∧s1<(List.length l:Int)) (zba (ix l s1) (fun x1=>(bif (decide (s=x1)) then(some (Sum.inr (Sum.inr s1))) else(chk (-9223372036854775808≤(s1+1)∧(s1+1)<9223372036854775808) (some (Sum.inl ((s1+1))))))))) else(some (Sum.inr (Sum.inl ()))))) fuel (0)) (fun j1=>(some (-1))))
theorem ent169:Ent Tryz.prog 169:=enters_of Tryz.func169 (by kernel_rfl) rfl
theorem ixs_sh (fuel:Nat)(l:(List BS))(s:BS)(r:Int)(h:qhu fuel l s=some r):Pure (ITP Tryz.prog) Tryz.prog 169 [.L (l:List BS),.A (s:BS)] (.raw (.int .i64 r)):=by
 unfold qhu at h
 refine zav 17 mix Tryz.func169 ent169 ?_
 refine zf (zb ?_)
 refine zbs (a:= .ptr 0 0) (σ'':=(.B [(26,(Enc.cells (s:BS)))])) ?_
 refine w_o (a:= .i 0) ?_
 refine zas h (bz 0 19 524287) (fun j1=>[]) (fun j1=>(.B [(26,(Enc.cells (s:BS)))])) ?_ ?_
 intro or1 h hr1
 refine zo [.m _,.v (.i (List.length l:Int)),.v (.i 0)] ?_
 refine zn ?_
 refine zcb h (bz 0 19 524150) (fun s1=>[(8,.i s1)]) (fun s1=>(.B [(26,(Enc.cells (s:BS)))])) ?_ ?_
 exact zdo (bl 19 393)
 intro s1 p1 h
 refine zfu ?_
 refine zo [.v (.b (decide (s1<(List.length l:Int))))] ?_
 refine zf ?_
 refine zbz h (fun hc1 h=> ?_) (fun hc1 h=> ?_)
 refine zf ?_
 refine zn ?_
 refine zo [.m _,.m _] ?_
 refine zf ?_
 refine zgs (k0:=0) (id:=4) 5 (by kernel_rfl) (by kernel_rfl) ?_
 refine h_o (a:= .A (s:BS)) ?_
 refine zel ?_
 refine zel ?_
 obtain⟨g1,h⟩:=zh h
 obtain⟨x1,hx1,h⟩:=zl h
 refine h_ix hx1 g1 ?_
 refine h_o (a:= .A (x1:BS)) ?_
 refine zhw ?_
 refine qcx (.b (decide (s=x1))) rfl rfl rfl (qbl s x1 rfl rfl rfl) (by dsimp only[zab,List.set]) ?_
 refine zbz h (fun hc2 h=> ?_) (fun hc2 h=> ?_)
 refine zo [.m _,.m _] ?_
 refine zaa h (fun h=> ?_)
 replace h:=zw h hr1
 exact zdv h
 refine zb (k0:=0) (id:=6) ?_
 obtain⟨g2,h⟩:=zh h
 refine zql g2 ?_
 refine zaj ?_
 refine zat (p:=p1) ((s1+1)) h ?_
 exact zdo (bl 19 393)
 refine zaa h (fun h=> ?_)
 refine zg (o:=or1) () h ?_
 exact zdo (bl 19 0)
 intro j1 h
 refine zfu ?_
 refine zo [.v (.i (-1))] ?_
 exact zdv h
def qfr (fuel:Nat)(l:(List BS))(s:BS):Option Bool:=
 (zau (qhu fuel l s) (fun x1=>(some (decide (x1≥0)))))
theorem ent142:Ent Tryz.prog 142:=enters_of Tryz.func142 (by kernel_rfl) rfl
theorem cts_sh (fuel:Nat)(l:(List BS))(s:BS)(r:Bool)(h:qfr fuel l s=some r):Pure (ITP Tryz.prog) Tryz.prog 142 [.L (l:List BS),.A (s:BS)] (.raw (.bool r)):=by
 unfold qfr at h
 refine zav 7 mix Tryz.func142 ent142 ?_
 refine zf (zb ?_)
 refine zbs (a:= .ptr 0 0) (σ'':=(.B [(26,(Enc.cells (s:BS)))])) ?_
 refine w_o (a:= .b false) ?_
 refine zo [.m _,.v (.A (s:BS))] ?_
 obtain⟨x1,hx1,h⟩:=zt h
 refine zce (ixs_sh fuel l s x1 hx1) ?_
 refine w_r [.v (.b (decide (x1≥0))),.m _] ?_
 exact zbb h
def zno (fuel:Nat)(t:Tr):Option (List BS):=
 (zeb (τ:=(List BS)) (chk ((pre t).length<2^61) (zba (zbj t) (fun x1=>(bif x1 then(chk ((pre t).length<2^61) (zba (pre t) (fun x2=>(zeb (zgv (β:=(List BS)) (fun s1 w1=>(bif (((w1.k:Nat):Int)==2) then(zau (qfr fuel s1 w1.s) (fun x3=>(bif (!x3) then(chk ((List.length s1+List.length [w1.s])*32≤140737488355328) (some (Sum.inl ((s1++[w1.s]))))) else(some (Sum.inl (s1)))))) else(some (Sum.inl (s1))))) x2 (([]:List BS))) (fun s1=>(some (Sum.inl (s1)))))))) else(some (Sum.inl (([]:List BS)))))))) (fun j1=>(some j1)))
theorem ent95:Ent Tryz.prog 95:=enters_of Tryz.func95 (by kernel_rfl) rfl
theorem qgd (fuel:Nat)(t:Tr)(r:(List BS))(h:zno fuel t=some r):Pure (ITP Tryz.prog) Tryz.prog 95 [.A (t:Tr)] (.L (r:List BS)):=by
 unfold zno at h
 refine zav 25 mix Tryz.func95 ent95 ?_
 refine zf (zb ?_)
 refine zbs (a:= .ptr 0 0) (σ'':=(.B [(29,(Enc.cells (t:Tr)))])) ?_
 refine w_o (a:= .list 0 [] .full) ?_
 refine zf (zb ?_)
 refine zbs (a:= .ptr 1 0) (σ'':=(.B [(29,(Enc.cells (t:Tr))),(86,[.F (([]:List BS):List BS)])])) ?_
 refine zas h (bz 0 26 67108855) (fun j1=>[]) (fun j1=>(zcx [(29,(Enc.cells (t:Tr))),(86,[(.O (j1:List BS))])] 26 (List.length (j1:List BS)) 4)) ?_ ?_
 intro or1 h hr1
 refine zo [.v (.A (t:Tr))] ?_
 obtain⟨g1,h⟩:=zh h
 obtain⟨x1,hx1,h⟩:=zl h
 refine zce (args':=[.A (t:Tr)]) (r:= .b x1) (by rw[←hx1];exact(zjs t g1)) ?_
 refine zbz h (fun hc1 h=> ?_) (fun hc1 h=> ?_)
 refine zo [.v (.A (t:Tr))] ?_
 obtain⟨g2,h⟩:=zh h
 obtain⟨x2,hx2,h⟩:=zl h
 refine zce (args':=[.A (t:Tr)]) (r:= .iter (List.map zre x2)) (by rw[←hx2];exact(zud t g2)) ?_
 refine zn ?_
 refine zko h zre (fun s1=>(zcx [(29,(Enc.cells (t:Tr))),(86,[(.O (s1:List BS))])] 26 (List.length (s1:List BS)) 4)) rfl (fun _=>rfl) rfl rfl ?_ ?_
 intro s1 w1 p1 h
 refine zal (by dsimp only[znd,List.zip,List.zipWith,List.foldl,List.set,Array.toList,zre]) rfl ?_
 refine zb (k0:=0) (id:=4) ?_
 refine zbs (a:= .ptr 2 0) (σ'':=(zcx [(29,(Enc.cells (t:Tr))),(86,[(.O (s1:List BS))]),(29,[.u 0,.raw (.int .u64 0),.raw (.int .u64 0),.raw (.int .u64 0),.raw (.int .u64 0),.i 0,.i 0,.list 0 [] .full])] 26 (List.length (s1:List BS)) 4)) ?_
 refine zcs 8 (zcx [(29,(Enc.cells (t:Tr))),(86,[(.O (s1:List BS))]),(29,(Enc.cells (w1:Tr)))] 26 (List.length (s1:List BS)) 4) ?_
 refine zn ?_
 refine zo [.v (.ptr 2 0),.v (.u ((w1.k:Nat):Int)),.v (.b (((w1.k:Nat):Int)==2))] ?_
 refine zac h (fun hc2 h=> ?_) (fun hc2 h=> ?_)
 refine zbe hc2 ?_
 refine w_r [.v (.O (s1:List BS)),.v (.ptr 2 1),.v (.A (w1.s:BS))] ?_
 refine zak rfl rfl ?_
 obtain⟨x3,hx3,h⟩:=zt h
 refine zce (cts_sh fuel s1 w1.s x3 hx3) ?_
 refine w_r [.v (.b (!x3)),.v (.b (!x3))] ?_
 refine zbz h (fun hc3 h=> ?_) (fun hc3 h=> ?_)
 refine zb (k0:=0) (id:=6) ?_
 refine w_r [.v (.O (s1:List BS)),.v (.ptr 2 1),.v (.A (w1.s:BS))] ?_
 refine w_o (a:= .F ([w1.s]:List BS)) (h:=zbu (zhc (α:=BS) (l:=[w1.s]) (cs:=Enc.cells (w1.s:BS)++[]) rfl (by rw[Enc.cons,Enc.nil]))) ?_
 obtain⟨g3,h⟩:=zh h
 refine znz (a:=(.O ((s1++[w1.s]):List BS))) (σ'':=(zcx [(29,(Enc.cells (t:Tr))),(86,[(.O (s1:List BS))]),(29,(Enc.cells (w1:Tr)))] 26 (List.length ((s1++[w1.s]):List BS)) 4)) rfl rfl rfl (zgx rfl rfl rfl rfl (zep (α:=BS) (bs:=[(29,(Enc.cells (t:Tr))),(86,[(.O (s1:List BS))]),(29,(Enc.cells (w1:Tr)))]) (a:=s1) (b:=[w1.s]) g3 rfl rfl rfl rfl rfl ⟨rfl,by decide⟩)) (by dsimp only[zab,List.set]) rfl ?_
 refine zbs (σ'':=(zcx [(29,(Enc.cells (t:Tr))),(86,[(.O ((s1++[w1.s]):List BS))]),(29,(Enc.cells (w1:Tr)))] 26 (List.length ((s1++[w1.s]):List BS)) 4)) (h:=qiw rfl rfl rfl rfl rfl (Nat.le_of_ble_eq_true rfl)) ?_
 exact zfl (p:=p1) ((s1++[w1.s])) h (zbl (zr (zk _ _ (Enc.clo _)) (zr (za (zca (Enc.cloL _)) rfl) rfl))) (by kernel_rfl)
 exact zfl (p:=p1) (s1) h (zbl (zr (zk _ _ (Enc.clo _)) (zr (za (zca (Enc.cloL _)) rfl) rfl))) (by kernel_rfl)
 refine zbe hc2 ?_
 refine w_r [.p,.p,.p,.p,.p] ?_
 refine w_r [.v (.b false)] ?_
 refine zcg rfl ?_
 exact zfl (p:=p1) (s1) h (zbl (zr (zk _ _ (Enc.clo _)) (zr (za (zca (Enc.cloL _)) rfl) rfl))) (by kernel_rfl)
 intro s1 h
 refine zg (o:=or1) (s1) h ?_
 exact zdo (bl 26 8)
 refine zg (o:=or1) (([]:List BS)) h ?_
 exact zdo (bl 26 8)
 intro j1 h
 refine zfu ?_
 refine zo [.v (.O (j1:List BS)),.m _] ?_
 exact zax (fun(r:(List BS))=> .L (r:List BS)) h (.O (j1:List BS))
def zvl (t:Tr):Option Bool:=
 (bif (((t.k:Nat):Int)==0) then(chk ((pre t).length<2^61∧(pre noneT).length<2^61) (zba (zkm t noneT) (fun x1=>(some x1)))) else(some false))
theorem ent66:Ent Tryz.prog 66:=enters_of Tryz.func66 (by kernel_rfl) rfl
theorem qak (t:Tr)(r:Bool)(h:zvl t=some r):Pure (ITP Tryz.prog) Tryz.prog 66 [.A (t:Tr)] (.raw (.bool r)):=by
 unfold zvl at h
 refine zav 10 mix Tryz.func66 ent66 ?_
 refine zf (zb ?_)
 refine zbs (a:= .ptr 0 0) (σ'':=(.B [(29,(Enc.cells (t:Tr)))])) ?_
 refine w_o (a:= .b false) ?_
 refine zo [.v (.ptr 0 0),.v (.u ((t.k:Nat):Int)),.v (.b (((t.k:Nat):Int)==0))] ?_
 refine zac h (fun hc1 h=> ?_) (fun hc1 h=> ?_)
 refine zbe hc1 ?_
 refine zak rfl rfl ?_
 refine w_o (a:= .A (t:Tr)) ?_
 refine zak rfl rfl ?_
 refine zeq (.A (noneT:Tr)) (a0:=(zcd noneT .full)) rfl rfl rfl (by kernel_rfl) (zj _ _) (by dsimp only[zab,List.set]) ?_
 refine zak rfl rfl ?_
 obtain⟨g1,h⟩:=zh h
 obtain⟨x1,hx1,h⟩:=zl h
 refine zce (args':=[.A (t:Tr),.A (noneT:Tr)]) (r:= .b x1) (by rw[←hx1];exact(zws t noneT g1)) ?_
 refine w_r [.v (.b x1),.m _] ?_
 exact zbb h
 refine zbe hc1 ?_
 refine w_r [.p,.p,.p,.v (.b false),.m _] ?_
 exact zbb h
def z0z (t:Tr):Option (List Tr):=
 (zau (zvl t) (fun x1=>(bif x1 then(some ([]:(List Tr))) else(some [t]))))
theorem ent61:Ent Tryz.prog 61:=enters_of Tryz.func61 (by kernel_rfl) rfl
theorem qfc (t:Tr)(r:(List Tr))(h:z0z t=some r):Pure (ITP Tryz.prog) Tryz.prog 61 [.A (t:Tr)] (.L (r:List Tr)):=by
 unfold z0z at h
 refine zav 6 mix Tryz.func61 ent61 ?_
 refine zf (zb ?_)
 refine zbs (a:= .ptr 0 0) (σ'':=(.B [(29,(Enc.cells (t:Tr)))])) ?_
 refine w_o (a:= .list 0 [] .full) ?_
 refine zf ?_
 refine zo [.v (.A (t:Tr))] ?_
 obtain⟨x1,hx1,h⟩:=zt h
 refine zce (qak t x1 hx1) ?_
 refine zbz h (fun hc1 h=> ?_) (fun hc1 h=> ?_)
 refine zo [.v (.list 0 [] .full)] ?_
 exact zex (fun(r:(List Tr))=>(.L (r:List Tr):AV)) h rfl rfl rfl
 refine zo [.v (.A (t:Tr))] ?_
 refine w_o (a:= .F ([t]:List Tr)) (h:=zbu (zhc (α:=Tr) (l:=[t]) (cs:=Enc.cells (t:Tr)++[]) rfl (by rw[Enc.cons,Enc.nil]))) ?_
 refine zaj ?_
 exact zax (fun(r:(List Tr))=> .L (r:List Tr)) h (.F ([t]:List Tr))
def zue (fuel:Nat)(l:(List Tr)):Option (List BS):=
 (zeb (τ:=(List BS)) (zcc (β:=(List BS)×Int) (fun s1=>(bif (decide (s1.2<(List.length l:Int))) then(chk (0≤s1.2∧s1.2<(List.length l:Int)) (zba (ix l s1.2) (fun x1=>(zau (zno fuel x1) (fun x2=>(chk ((List.length s1.1+List.length x2)*32≤140737488355328) (chk (-9223372036854775808≤(s1.2+1)∧(s1.2+1)<9223372036854775808) (some (Sum.inl ((s1.1++x2),(s1.2+1))))))))))) else(some (Sum.inr (Sum.inl (s1.1)))))) fuel (([]:(List BS)),0)) (fun j1=>(chk (List.length j1<2^40) (zba (zld j1) (fun x3=>(some x3))))))
theorem ent53:Ent Tryz.prog 53:=enters_of Tryz.func53 (by kernel_rfl) rfl
theorem qdq (fuel:Nat)(l:(List Tr))(r:(List BS))(h:zue fuel l=some r):Pure (ITP Tryz.prog) Tryz.prog 53 [.L (l:List Tr)] (.L (r:List BS)):=by
 unfold zue at h
 refine zav 18 mix Tryz.func53 ent53 ?_
 refine zo [.v (.list 0 [] .full)] ?_
 refine zo [.v (.list 0 [] .full)] ?_
 refine zas h (bz 0 19 524287) (fun j1=>[(3,(.O (j1:List BS)))]) (fun j1=>(zcx [] 26 (List.length (j1:List BS)) 4)) ?_ ?_
 intro or1 h hr1
 refine zo [.m _,.v (.i (List.length l:Int)),.v (.i 0)] ?_
 refine zn ?_
 refine zcb h (bz 0 19 524095) (fun s1=>[(3,(.O (s1.1:List BS))),(8,.i s1.2)]) (fun s1=>(zcx [] 26 (List.length (s1.1:List BS)) 4)) ?_ ?_
 exact zdo (bl 19 456)
 intro s1 p1 h
 refine zfu ?_
 refine zo [.v (.b (decide (s1.2<(List.length l:Int))))] ?_
 refine zf ?_
 refine zbz h (fun hc1 h=> ?_) (fun hc1 h=> ?_)
 refine zf ?_
 refine zn ?_
 refine zf (zb ?_)
 obtain⟨g1,h⟩:=zh h
 obtain⟨x1,hx1,h⟩:=zl h
 refine zwc hx1 g1 ?_
 refine w_o (a:= .A (x1:Tr)) ?_
 refine zbs (a:= .ptr 0 0) (σ'':=(zcx [(29,[.u 0,.raw (.int .u64 0),.raw (.int .u64 0),.raw (.int .u64 0),.raw (.int .u64 0),.i 0,.i 0,.list 0 [] .full])] 26 (List.length (s1.1:List BS)) 4)) ?_
 refine zcs 8 (zcx [(29,(Enc.cells (x1:Tr)))] 26 (List.length (s1.1:List BS)) 4) ?_
 refine zb (k0:=0) (id:=5) ?_
 refine w_r [.m _,.v (.A (x1:Tr))] ?_
 obtain⟨x2,hx2,h⟩:=zt h
 refine zce (qgd fuel x1 x2 hx2) ?_
 obtain⟨g2,h⟩:=zh h
 refine znz (a:=(.O ((s1.1++x2):List BS))) (σ'':=(zcx [(29,(Enc.cells (x1:Tr)))] 26 (List.length ((s1.1++x2):List BS)) 4)) rfl rfl rfl (zgx rfl rfl rfl rfl (zep (α:=BS) (bs:=[(29,(Enc.cells (x1:Tr)))]) (a:=s1.1) (b:=x2) g2 rfl rfl rfl rfl rfl ⟨rfl,by decide⟩)) (by dsimp only[zab,List.set]) rfl ?_
 refine zaj ?_
 refine zb (k0:=0) (id:=6) ?_
 obtain⟨g3,h⟩:=zh h
 refine zql g3 ?_
 refine zaj ?_
 refine zat (p:=p1) ((s1.1++x2),(s1.2+1)) h ?_
 exact zdt (bl 19 456) 0 (by kernel_rfl) (Nat.le_of_ble_eq_true rfl) (zbl rfl) (by dsimp only[zz,zai,List.foldl,List.set,bz,bzc,Nat.reduceMod,Nat.reduceDiv,Nat.reduceBEq,Nat.reduceAdd];exact(za rfl (za rfl (za rfl (za (zca (Enc.cloL _)) (za rfl (za rfl (za (zao (Enc.cloL _)) (by kernel_rfl))))))))) (by kernel_rfl)
 refine zaa h (fun h=> ?_)
 refine zg (o:=or1) (s1.1) h ?_
 exact zdo (bl 19 8)
 intro j1 h
 refine zfu ?_
 refine zo [.m _] ?_
 obtain⟨g4,h⟩:=zh h
 obtain⟨x3,hx3,h⟩:=zl h
 refine zce (args':=[.L (j1:List BS)]) (r:= .L (x3:List BS)) (by rw[←hx3];exact(k_parts j1 g4)) ?_
 refine zaj ?_
 exact zax (fun(r:(List BS))=> .L (r:List BS)) h (.L (x3:List BS))
end Go.Ab
