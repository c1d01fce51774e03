/-
  derive: functions about fit trees.
-/
import Derived.Test.YtfkkellnlmjenaaGreatZePt
set_option linter.unusedSimpArgs false
set_option linter.unusedVariables false
set_option maxRecDepth 100000
set_option maxHeartbeats 4000000
namespace Go.Ab
open Go Go.RowKit Go.Fwd Go.Proofs
def z9z (fuel:Nat)(n:Nat)(t:Tr):Option Int:=
 (zdn (τ:=Int) (bif (((t.k:Nat):Int)==2) then(some (Sum.inl (1))) else(some (Sum.inl (0)))) (fun j1=>(zdn (τ:=Int) (zbv (β:=Int×Int) (fun s1=>(bif (decide (s1.2<(List.length t.l:Int))) then(chk (0≤s1.2∧s1.2<(List.length t.l:Int)) (zbc (ix t.l s1.2) (fun x1=>(chk (((pre x1).length<n)) (zbc (zkv x1) (fun x2=>(chk (-9223372036854775808≤(s1.1+x2)∧(s1.1+x2)<9223372036854775808) (chk (-9223372036854775808≤(s1.2+1)∧(s1.2+1)<9223372036854775808) (some (Sum.inl ((s1.1+x2),(s1.2+1)))))))))))) else(some (Sum.inr (Sum.inl (s1.1)))))) fuel (j1,0)) (fun j2=>(zdn (τ:=Int) (bif (((t.k:Nat):Int)==5) then(zdn (τ:=Int) (bif (t.mx==(-1)) then(some (Sum.inl ((max (max t.mn 0) 1)))) else(some (Sum.inl ((max (max t.mn 0) t.mx))))) (fun j4=>(chk (-9223372036854775808≤(j2*(min j4 10001))∧(j2*(min j4 10001))<9223372036854775808) (some (Sum.inl ((j2*(min j4 10001)))))))) else(some (Sum.inl (j2)))) (fun j3=>(some (min j3 10001))))))))
theorem ent69:Ent Tryz.prog 69:=enters_of Tryz.func69 (by kernel_rfl) rfl
theorem posn_sh (fuel:Nat)(n:Nat)(t:Tr)(r:Int)(ih: ∀x:Tr,((pre x).length<n)→Pure (ITP Tryz.prog) Tryz.prog 69 [.A x] (.raw (.int .i64 (zkv x))))(h:z9z fuel n t=some r):Pure (ITP Tryz.prog) Tryz.prog 69 [.A (t:Tr)] (.raw (.int .i64 r)):=by
 unfold z9z at h
 refine zbd 43 mix Tryz.func69 ent69 ?_
 refine zf (zb ?_)
 refine zbz (a:= .ptr 0 0) (σ'':=(.B [(29,(Enc.cells (t:Tr)))])) ?_
 refine w_o (a:= .i 0) ?_
 refine zr [.v (.i 0)] ?_
 refine zau h (bz 0 44 17592186044413) (fun j1=>[(3,.i j1)]) (fun j1=>(.B [(29,(Enc.cells (t:Tr)))])) ?_ ?_
 intro or1 h hr1
 refine zr [.v (.ptr 0 0),.v (.u ((t.k:Nat):Int)),.v (.b (((t.k:Nat):Int)==2))] ?_
 refine zci h (fun hc1 h=> ?_) (fun hc1 h=> ?_)
 refine zb (k0:=0) (id:=3) ?_
 refine w_o (a:= .i 1) ?_
 refine zg (o:=or1) (1) h ?_
 exact zdl (bl 44 10)
 refine zg (o:=or1) (0) h ?_
 exact zdl (bl 44 10)
 intro j1 h
 refine zfj ?_
 refine zau h (bz 0 23 8386600) (fun j2=>[(3,.i j2)]) (fun j2=>(.B [(29,(Enc.cells (t:Tr)))])) ?_ ?_
 intro or2 h hr2
 refine zr [.v (.ptr 0 7),.v (.L (t.l:List Tr)),.v (.i (List.length t.l:Int)),.v (.i 0)] ?_
 refine zp ?_
 refine zbx h (bz 0 23 8374312) (fun s1=>[(3,.i s1.1),(14,.i s1.2)]) (fun s1=>(.B [(29,(Enc.cells (t:Tr)))])) ?_ ?_
 exact zdl (bl 44 17592177686495)
 intro s1 p1 h
 refine zfj ?_
 refine zr [.v (.b (decide (s1.2<(List.length t.l:Int))))] ?_
 refine zf ?_
 refine zci h (fun hc2 h=> ?_) (fun hc2 h=> ?_)
 refine zf ?_
 refine zp ?_
 refine zf (zb ?_)
 obtain⟨g1,h⟩:=zi h
 obtain⟨x1,hx1,h⟩:=zo h
 refine zvo hx1 g1 ?_
 refine w_o (a:= .A (x1:Tr)) ?_
 refine zbz (a:= .ptr 1 0) (σ'':=(.B [(29,(Enc.cells (t:Tr))),(29,[.u 0,.raw (.int .u64 0),.raw (.int .u64 0),.raw (.int .u64 0),.raw (.int .u64 0),.i 0,.i 0,.list 0 [] .full])])) ?_
 refine zcx 8 (.B [(29,(Enc.cells (t:Tr))),(29,(Enc.cells (x1:Tr)))]) ?_
 refine zb (k0:=0) (id:=7) ?_
 refine w_r [.m _,.v (.A (x1:Tr))] ?_
 obtain⟨g2,h⟩:=zi h
 obtain⟨x2,hx2,h⟩:=zo h
 refine zcq (args':=[.A (x1:Tr)]) (r:= .i x2) (by rw[←hx2];exact(ih x1 g2)) ?_
 obtain⟨g3,h⟩:=zi h
 refine zpe g3 ?_
 refine zab ?_
 refine zb (k0:=0) (id:=8) ?_
 obtain⟨g4,h⟩:=zi h
 refine zpe g4 ?_
 refine zab ?_
 refine zas (p:=p1) ((s1.1+x2),(s1.2+1)) h ?_
 exact zdd (bl 44 17592177686495) 1 (by kernel_rfl) (Nat.le_of_ble_eq_true rfl) (zbi (zt (zm _ _ (Enc.clo _)) rfl)) (by dsimp only[zac,zag,List.foldl,List.set,bz,bzc,Nat.reduceMod,Nat.reduceDiv,Nat.reduceBEq,Nat.reduceAdd];exact(za rfl (za (by decide) (za rfl (za rfl (za rfl (za rfl (za rfl (za rfl (za rfl (za rfl (za rfl (za rfl (za (zan (Enc.cloL _)) (by kernel_rfl))))))))))))))) (by kernel_rfl)
 refine zw h (fun h=> ?_)
 refine zg (o:=or2) (s1.1) h ?_
 exact zdl (bl 44 17592177657823)
 intro j2 h
 refine zfj ?_
 refine zau h (bz 0 42 4398038122698) (fun j3=>[(3,.i j3)]) (fun j3=>(.B [(29,(Enc.cells (t:Tr)))])) ?_ ?_
 intro or3 h hr3
 refine zr [.v (.ptr 0 0),.v (.u ((t.k:Nat):Int)),.v (.b (((t.k:Nat):Int)==5))] ?_
 refine zci h (fun hc3 h=> ?_) (fun hc3 h=> ?_)
 refine zr [.v (.ptr 0 5),.v (.i t.mn)] ?_
 refine w_o (a:= .i (max t.mn 0)) (h:=zbh (qkd rfl rfl rfl rfl rfl)) ?_
 refine zab ?_
 refine zr [.m _,.v (.ptr 0 6),.v (.i t.mx)] ?_
 refine w_o (a:= .i (max (max t.mn 0) t.mx)) (h:=zbh (qkd rfl rfl rfl rfl rfl)) ?_
 refine zab ?_
 refine zau h (bz 0 38 274869518530) (fun j4=>[(7,.i j4)]) (fun j4=>(.B [(29,(Enc.cells (t:Tr)))])) ?_ ?_
 intro or4 h hr4
 refine zr [.v (.ptr 0 6),.v (.i t.mx),.v (.b (t.mx==(-1)))] ?_
 refine zci h (fun hc4 h=> ?_) (fun hc4 h=> ?_)
 refine zb (k0:=0) (id:=13) ?_
 refine zab ?_
 refine w_o (a:= .i (max (max t.mn 0) 1)) (h:=zbh (qkd rfl rfl rfl rfl rfl)) ?_
 refine zab ?_
 refine zg (o:=or4) ((max (max t.mn 0) 1)) h ?_
 exact zdl (bl 44 17317316526013)
 refine zg (o:=or4) ((max (max t.mn 0) t.mx)) h ?_
 exact zdl (bl 44 17317316526013)
 intro j4 h
 refine zfj ?_
 refine zb (k0:=0) (id:=14) ?_
 refine w_r [.m _,.m _] ?_
 refine w_o (a:= .i (min j4 10001)) (h:=zbh (qju rfl rfl rfl rfl rfl)) ?_
 obtain⟨g5,h⟩:=zi h
 refine w_o (a:= .i (j2*(min j4 10001))) (h:=zbh (q_mul rfl rfl rfl rfl g5.1 g5.2)) ?_
 refine zab ?_
 refine zg (o:=or3) ((j2*(min j4 10001))) h ?_
 exact zdl (bl 44 13194147921725)
 refine zg (o:=or3) (j2) h ?_
 exact zdl (bl 44 13194147921725)
 intro j3 h
 refine zfj ?_
 refine zr [.m _] ?_
 refine w_o (a:= .i (min j3 10001)) (h:=zbh (qju rfl rfl rfl rfl rfl)) ?_
 refine zab ?_
 exact zdr h
def zzo (t:Tr):Option Int:=
 (chk ((pre t).length<2^61) (zbc (zcj t) (fun x1=>(bif (!x1) then(some 10001) else(zdn (τ:=Int) (chk ((pre t).length<2^61) (zbc (pre t) (fun x2=>(zdn (zgo (β:=Int) (fun s1 w1=>(chk (-9223372036854775808≤(s1+1)∧(s1+1)<9223372036854775808) (some (Sum.inl ((s1+1)))))) x2 (0)) (fun s1=>(some (Sum.inl (s1)))))))) (fun j1=>(some j1)))))))
theorem ent22:Ent Tryz.prog 22:=enters_of Tryz.func22 (by kernel_rfl) rfl
theorem qdf (t:Tr)(r:Int)(h:zzo t=some r):Pure (ITP Tryz.prog) Tryz.prog 22 [.A (t:Tr)] (.raw (.int .i64 r)):=by
 unfold zzo at h
 refine zbd 12 mix Tryz.func22 ent22 ?_
 refine zf (zb ?_)
 refine zbz (a:= .ptr 0 0) (σ'':=(.B [(29,(Enc.cells (t:Tr)))])) ?_
 refine w_o (a:= .i 0) ?_
 refine zf ?_
 refine zr [.v (.A (t:Tr))] ?_
 obtain⟨g1,h⟩:=zi h
 obtain⟨x1,hx1,h⟩:=zo h
 refine zcq (args':=[.A (t:Tr)]) (r:= .b x1) (by rw[←hx1];exact(zji t g1)) ?_
 refine w_o (a:= .b (!x1)) ?_
 refine zci h (fun hc1 h=> ?_) (fun hc1 h=> ?_)
 refine zr [.v (.i 10001)] ?_
 exact zdr h
 refine zf (zb ?_)
 refine zbz (a:= .ptr 1 0) (σ'':=(.B [(29,(Enc.cells (t:Tr))),(3,[.i 0])])) ?_
 refine zcx 1 (.B [(29,(Enc.cells (t:Tr))),(3,[.i 0])]) ?_
 refine zau h (bz 0 13 8183) (fun j1=>[]) (fun j1=>(.B [(29,(Enc.cells (t:Tr))),(3,[.i j1])])) ?_ ?_
 intro or1 h hr1
 refine zr [.v (.A (t:Tr))] ?_
 obtain⟨g2,h⟩:=zi h
 obtain⟨x2,hx2,h⟩:=zo h
 refine zcq (args':=[.A (t:Tr)]) (r:= .iter (List.map zqw x2)) (by rw[←hx2];exact(zut t g2)) ?_
 refine zp ?_
 refine zks h zqw (fun s1=>(.B [(29,(Enc.cells (t:Tr))),(3,[.i s1])])) rfl (fun _=>rfl) rfl rfl ?_ ?_
 intro s1 w1 p1 h
 refine zah (by dsimp only[znd,List.zip,List.zipWith,List.foldl,List.set,Array.toList,zqw]) rfl ?_
 refine zp ?_
 refine zb (k0:=0) (id:=5) ?_
 refine w_o (a:= .i s1) ?_
 obtain⟨g3,h⟩:=zi h
 refine zpe g3 ?_
 refine zcx 1 (.B [(29,(Enc.cells (t:Tr))),(3,[.i (s1+1)])]) ?_
 exact zfg (p:=p1) ((s1+1)) h (zbi (zt (zm _ _ (Enc.clo _)) (zt (by kernel_rfl) rfl))) (by kernel_rfl)
 intro s1 h
 refine zg (o:=or1) (s1) h ?_
 exact zdl (bl 13 8)
 intro j1 h
 refine zfj ?_
 refine zr [.v (.i j1),.m _] ?_
 exact zdr h
def zpq (t:Tr):Option Int:=
 (chk ((pre t).length<2^61) (zbc (zcj t) (fun x1=>(bif (!x1) then(some 10001) else(zdn (τ:=Int) (chk ((pre t).length<2^61) (zbc (pre t) (fun x2=>(zdn (zgo (β:=Int) (fun s1 w1=>(bif (((w1.k:Nat):Int)==6) then(chk (-9223372036854775808≤(s1+1)∧(s1+1)<9223372036854775808) (some (Sum.inl ((s1+1))))) else(some (Sum.inl (s1))))) x2 (0)) (fun s1=>(some (Sum.inl (s1)))))))) (fun j1=>(some j1)))))))
theorem ent21:Ent Tryz.prog 21:=enters_of Tryz.func21 (by kernel_rfl) rfl
theorem z5u (t:Tr)(r:Int)(h:zpq t=some r):Pure (ITP Tryz.prog) Tryz.prog 21 [.A (t:Tr)] (.raw (.int .i64 r)):=by
 unfold zpq at h
 refine zbd 16 mix Tryz.func21 ent21 ?_
 refine zf (zb ?_)
 refine zbz (a:= .ptr 0 0) (σ'':=(.B [(29,(Enc.cells (t:Tr)))])) ?_
 refine w_o (a:= .i 0) ?_
 refine zf ?_
 refine zr [.v (.A (t:Tr))] ?_
 obtain⟨g1,h⟩:=zi h
 obtain⟨x1,hx1,h⟩:=zo h
 refine zcq (args':=[.A (t:Tr)]) (r:= .b x1) (by rw[←hx1];exact(zji t g1)) ?_
 refine w_o (a:= .b (!x1)) ?_
 refine zci h (fun hc1 h=> ?_) (fun hc1 h=> ?_)
 refine zr [.v (.i 10001)] ?_
 exact zdr h
 refine zf (zb ?_)
 refine zbz (a:= .ptr 1 0) (σ'':=(.B [(29,(Enc.cells (t:Tr))),(3,[.i 0])])) ?_
 refine zcx 1 (.B [(29,(Enc.cells (t:Tr))),(3,[.i 0])]) ?_
 refine zau h (bz 0 17 131063) (fun j1=>[]) (fun j1=>(.B [(29,(Enc.cells (t:Tr))),(3,[.i j1])])) ?_ ?_
 intro or1 h hr1
 refine zr [.v (.A (t:Tr))] ?_
 obtain⟨g2,h⟩:=zi h
 obtain⟨x2,hx2,h⟩:=zo h
 refine zcq (args':=[.A (t:Tr)]) (r:= .iter (List.map zqw x2)) (by rw[←hx2];exact(zut t g2)) ?_
 refine zp ?_
 refine zks h zqw (fun s1=>(.B [(29,(Enc.cells (t:Tr))),(3,[.i s1])])) rfl (fun _=>rfl) rfl rfl ?_ ?_
 intro s1 w1 p1 h
 refine zah (by dsimp only[znd,List.zip,List.zipWith,List.foldl,List.set,Array.toList,zqw]) rfl ?_
 refine zb (k0:=0) (id:=5) ?_
 refine zbz (a:= .ptr 2 0) (σ'':=(.B [(29,(Enc.cells (t:Tr))),(3,[.i s1]),(29,[.u 0,.raw (.int .u64 0),.raw (.int .u64 0),.raw (.int .u64 0),.raw (.int .u64 0),.i 0,.i 0,.list 0 [] .full])])) ?_
 refine zcx 8 (.B [(29,(Enc.cells (t:Tr))),(3,[.i s1]),(29,(Enc.cells (w1:Tr)))]) ?_
 refine zp ?_
 refine zr [.v (.ptr 2 0),.v (.u ((w1.k:Nat):Int)),.v (.b (((w1.k:Nat):Int)==6))] ?_
 refine zci h (fun hc2 h=> ?_) (fun hc2 h=> ?_)
 refine zb (k0:=0) (id:=7) ?_
 refine w_o (a:= .i s1) ?_
 obtain⟨g3,h⟩:=zi h
 refine zpe g3 ?_
 refine zcx 1 (.B [(29,(Enc.cells (t:Tr))),(3,[.i (s1+1)]),(29,(Enc.cells (w1:Tr)))]) ?_
 exact zfg (p:=p1) ((s1+1)) h (zbi (zt (zm _ _ (Enc.clo _)) (zt (by kernel_rfl) rfl))) (by kernel_rfl)
 exact zfg (p:=p1) (s1) h (zbi (zt (zm _ _ (Enc.clo _)) (zt (by kernel_rfl) rfl))) (by kernel_rfl)
 intro s1 h
 refine zg (o:=or1) (s1) h ?_
 exact zdl (bl 17 8)
 intro j1 h
 refine zfj ?_
 refine zr [.v (.i j1),.m _] ?_
 exact zdr h
def qeg (fuel:Nat)(l:(List BS))(s:BS):Option Int:=
 (zdn (τ:=Unit) (zbv (β:=Int) (fun s1=>(bif (decide (s1<(List.length l:Int))) then(chk (0≤s1∧s1<(List.length l:Int)) (zbc (ix l s1) (fun x1=>(bif (decide (s=x1)) then(some (Sum.inr (Sum.inr s1))) else(chk (-9223372036854775808≤(s1+1)∧(s1+1)<9223372036854775808) (some (Sum.inl ((s1+1))))))))) else(some (Sum.inr (Sum.inl ()))))) fuel (0)) (fun j1=>(some (-1))))
theorem ent169:Ent Tryz.prog 169:=enters_of Tryz.func169 (by kernel_rfl) rfl
theorem ixs_sh (fuel:Nat)(l:(List BS))(s:BS)(r:Int)(h:qeg fuel l s=some r):Pure (ITP Tryz.prog) Tryz.prog 169 [.L (l:List BS),.A (s:BS)] (.raw (.int .i64 r)):=by
 unfold qeg at h
 refine zbd 17 mix Tryz.func169 ent169 ?_
 refine zf (zb ?_)
 refine zbz (a:= .ptr 0 0) (σ'':=(.B [(26,(Enc.cells (s:BS)))])) ?_
 refine w_o (a:= .i 0) ?_
 refine zau h (bz 0 19 524287) (fun j1=>[]) (fun j1=>(.B [(26,(Enc.cells (s:BS)))])) ?_ ?_
 intro or1 h hr1
 refine zr [.m _,.v (.i (List.length l:Int)),.v (.i 0)] ?_
 refine zp ?_
 refine zbx h (bz 0 19 524150) (fun s1=>[(8,.i s1)]) (fun s1=>(.B [(26,(Enc.cells (s:BS)))])) ?_ ?_
 exact zdl (bl 19 393)
 intro s1 p1 h
 refine zfj ?_
 refine zr [.v (.b (decide (s1<(List.length l:Int))))] ?_
 refine zf ?_
 refine zci h (fun hc1 h=> ?_) (fun hc1 h=> ?_)
 refine zf ?_
 refine zp ?_
 refine zr [.m _,.m _] ?_
 refine zf ?_
 refine zgc (k0:=0) (id:=4) 5 (by kernel_rfl) (by kernel_rfl) ?_
 refine h_o (a:= .A (s:BS)) ?_
 refine zhd ?_
 refine zhd ?_
 obtain⟨g1,h⟩:=zi h
 obtain⟨x1,hx1,h⟩:=zo h
 refine h_ix hx1 g1 ?_
 refine h_o (a:= .A (x1:BS)) ?_
 refine zjo ?_
 refine qar (.b (decide (s=x1))) rfl rfl rfl (qaj s x1 rfl rfl rfl) (by dsimp only[zh,List.set]) ?_
 refine zci h (fun hc2 h=> ?_) (fun hc2 h=> ?_)
 refine zr [.m _,.m _] ?_
 refine zw h (fun h=> ?_)
 replace h:=zz h hr1
 exact zdr h
 refine zb (k0:=0) (id:=6) ?_
 obtain⟨g2,h⟩:=zi h
 refine zpe g2 ?_
 refine zab ?_
 refine zas (p:=p1) ((s1+1)) h ?_
 exact zdl (bl 19 393)
 refine zw h (fun h=> ?_)
 refine zg (o:=or1) () h ?_
 exact zdl (bl 19 0)
 intro j1 h
 refine zfj ?_
 refine zr [.v (.i (-1))] ?_
 exact zdr h
def qcw (fuel:Nat)(l:(List BS))(s:BS):Option Bool:=
 (zav (qeg fuel l s) (fun x1=>(some (decide (x1≥0)))))
theorem ent142:Ent Tryz.prog 142:=enters_of Tryz.func142 (by kernel_rfl) rfl
theorem cts_sh (fuel:Nat)(l:(List BS))(s:BS)(r:Bool)(h:qcw fuel l s=some r):Pure (ITP Tryz.prog) Tryz.prog 142 [.L (l:List BS),.A (s:BS)] (.raw (.bool r)):=by
 unfold qcw at h
 refine zbd 7 mix Tryz.func142 ent142 ?_
 refine zf (zb ?_)
 refine zbz (a:= .ptr 0 0) (σ'':=(.B [(26,(Enc.cells (s:BS)))])) ?_
 refine w_o (a:= .b false) ?_
 refine zr [.m _,.v (.A (s:BS))] ?_
 obtain⟨x1,hx1,h⟩:=zu h
 refine zcq (ixs_sh fuel l s x1 hx1) ?_
 refine w_r [.v (.b (decide (x1≥0))),.m _] ?_
 exact zbg h
def zog (fuel:Nat)(t:Tr):Option (List BS):=
 (zdn (τ:=(List BS)) (chk ((pre t).length<2^61) (zbc (zcj t) (fun x1=>(bif x1 then(chk ((pre t).length<2^61) (zbc (pre t) (fun x2=>(zdn (zgo (β:=(List BS)) (fun s1 w1=>(bif (((w1.k:Nat):Int)==2) then(zav (qcw fuel s1 w1.s) (fun x3=>(bif (!x3) then(chk ((List.length s1+List.length [w1.s])*32≤140737488355328) (some (Sum.inl ((s1++[w1.s]))))) else(some (Sum.inl (s1)))))) else(some (Sum.inl (s1))))) x2 (([]:List BS))) (fun s1=>(some (Sum.inl (s1)))))))) else(some (Sum.inl (([]:List BS)))))))) (fun j1=>(some j1)))
theorem ent95:Ent Tryz.prog 95:=enters_of Tryz.func95 (by kernel_rfl) rfl
theorem qdv (fuel:Nat)(t:Tr)(r:(List BS))(h:zog fuel t=some r):Pure (ITP Tryz.prog) Tryz.prog 95 [.A (t:Tr)] (.L (r:List BS)):=by
 unfold zog at h
 refine zbd 25 mix Tryz.func95 ent95 ?_
 refine zf (zb ?_)
 refine zbz (a:= .ptr 0 0) (σ'':=(.B [(29,(Enc.cells (t:Tr)))])) ?_
 refine w_o (a:= .list 0 [] .full) ?_
 refine zf (zb ?_)
 refine zbz (a:= .ptr 1 0) (σ'':=(.B [(29,(Enc.cells (t:Tr))),(86,[.F (([]:List BS):List BS)])])) ?_
 refine zau h (bz 0 26 67108855) (fun j1=>[]) (fun j1=>(zbs [(29,(Enc.cells (t:Tr))),(86,[(.O (j1:List BS))])] 26 (List.length (j1:List BS)) 4)) ?_ ?_
 intro or1 h hr1
 refine zr [.v (.A (t:Tr))] ?_
 obtain⟨g1,h⟩:=zi h
 obtain⟨x1,hx1,h⟩:=zo h
 refine zcq (args':=[.A (t:Tr)]) (r:= .b x1) (by rw[←hx1];exact(zji t g1)) ?_
 refine zci h (fun hc1 h=> ?_) (fun hc1 h=> ?_)
 refine zr [.v (.A (t:Tr))] ?_
 obtain⟨g2,h⟩:=zi h
 obtain⟨x2,hx2,h⟩:=zo h
 refine zcq (args':=[.A (t:Tr)]) (r:= .iter (List.map zqw x2)) (by rw[←hx2];exact(zut t g2)) ?_
 refine zp ?_
 refine zks h zqw (fun s1=>(zbs [(29,(Enc.cells (t:Tr))),(86,[(.O (s1:List BS))])] 26 (List.length (s1:List BS)) 4)) rfl (fun _=>rfl) rfl rfl ?_ ?_
 intro s1 w1 p1 h
 refine zah (by dsimp only[znd,List.zip,List.zipWith,List.foldl,List.set,Array.toList,zqw]) rfl ?_
 refine zb (k0:=0) (id:=4) ?_
 refine zbz (a:= .ptr 2 0) (σ'':=(zbs [(29,(Enc.cells (t:Tr))),(86,[(.O (s1:List BS))]),(29,[.u 0,.raw (.int .u64 0),.raw (.int .u64 0),.raw (.int .u64 0),.raw (.int .u64 0),.i 0,.i 0,.list 0 [] .full])] 26 (List.length (s1:List BS)) 4)) ?_
 refine zcx 8 (zbs [(29,(Enc.cells (t:Tr))),(86,[(.O (s1:List BS))]),(29,(Enc.cells (w1:Tr)))] 26 (List.length (s1:List BS)) 4) ?_
 refine zp ?_
 refine zr [.v (.ptr 2 0),.v (.u ((w1.k:Nat):Int)),.v (.b (((w1.k:Nat):Int)==2))] ?_
 refine zae h (fun hc2 h=> ?_) (fun hc2 h=> ?_)
 refine zbj hc2 ?_
 refine w_r [.v (.O (s1:List BS)),.v (.ptr 2 1),.v (.A (w1.s:BS))] ?_
 refine zaf rfl rfl ?_
 obtain⟨x3,hx3,h⟩:=zu h
 refine zcq (cts_sh fuel s1 w1.s x3 hx3) ?_
 refine w_r [.v (.b (!x3)),.v (.b (!x3))] ?_
 refine zci h (fun hc3 h=> ?_) (fun hc3 h=> ?_)
 refine zb (k0:=0) (id:=6) ?_
 refine w_r [.v (.O (s1:List BS)),.v (.ptr 2 1),.v (.A (w1.s:BS))] ?_
 refine w_o (a:= .F ([w1.s]:List BS)) (h:=zbh (zev (α:=BS) (l:=[w1.s]) (cs:=Enc.cells (w1.s:BS)++[]) rfl (by rw[Enc.cons,Enc.nil]))) ?_
 obtain⟨g3,h⟩:=zi h
 refine zfp (a:=(.O ((s1++[w1.s]):List BS))) (σ'':=(zbs [(29,(Enc.cells (t:Tr))),(86,[(.O (s1:List BS))]),(29,(Enc.cells (w1:Tr)))] 26 (List.length ((s1++[w1.s]):List BS)) 4)) rfl rfl rfl (zft rfl rfl rfl rfl (zdy (α:=BS) (bs:=[(29,(Enc.cells (t:Tr))),(86,[(.O (s1:List BS))]),(29,(Enc.cells (w1:Tr)))]) (a:=s1) (b:=[w1.s]) g3 rfl rfl rfl rfl rfl ⟨rfl,by decide⟩)) (by dsimp only[zh,List.set]) rfl ?_
 refine zbz (σ'':=(zbs [(29,(Enc.cells (t:Tr))),(86,[(.O ((s1++[w1.s]):List BS))]),(29,(Enc.cells (w1:Tr)))] 26 (List.length ((s1++[w1.s]):List BS)) 4)) (h:=z0v rfl rfl rfl rfl rfl (Nat.le_of_ble_eq_true rfl)) ?_
 exact zfg (p:=p1) ((s1++[w1.s])) h (zbi (zt (zm _ _ (Enc.clo _)) (zt (za (zcf (Enc.cloL _)) rfl) rfl))) (by kernel_rfl)
 exact zfg (p:=p1) (s1) h (zbi (zt (zm _ _ (Enc.clo _)) (zt (za (zcf (Enc.cloL _)) rfl) rfl))) (by kernel_rfl)
 refine zbj hc2 ?_
 refine w_r [.p,.p,.p,.p,.p] ?_
 refine w_r [.v (.b false)] ?_
 refine zcl rfl ?_
 exact zfg (p:=p1) (s1) h (zbi (zt (zm _ _ (Enc.clo _)) (zt (za (zcf (Enc.cloL _)) rfl) rfl))) (by kernel_rfl)
 intro s1 h
 refine zg (o:=or1) (s1) h ?_
 exact zdl (bl 26 8)
 refine zg (o:=or1) (([]:List BS)) h ?_
 exact zdl (bl 26 8)
 intro j1 h
 refine zfj ?_
 refine zr [.v (.O (j1:List BS)),.m _] ?_
 exact zax (fun(r:(List BS))=> .L (r:List BS)) h (.O (j1:List BS))
def zss (t:Tr):Option Bool:=
 (bif (((t.k:Nat):Int)==0) then(chk ((pre t).length<2^61∧(pre noneT).length<2^61) (zbc (zrq t noneT) (fun x1=>(some x1)))) else(some false))
theorem ent66:Ent Tryz.prog 66:=enters_of Tryz.func66 (by kernel_rfl) rfl
theorem z8y (t:Tr)(r:Bool)(h:zss t=some r):Pure (ITP Tryz.prog) Tryz.prog 66 [.A (t:Tr)] (.raw (.bool r)):=by
 unfold zss at h
 refine zbd 10 mix Tryz.func66 ent66 ?_
 refine zf (zb ?_)
 refine zbz (a:= .ptr 0 0) (σ'':=(.B [(29,(Enc.cells (t:Tr)))])) ?_
 refine w_o (a:= .b false) ?_
 refine zr [.v (.ptr 0 0),.v (.u ((t.k:Nat):Int)),.v (.b (((t.k:Nat):Int)==0))] ?_
 refine zae h (fun hc1 h=> ?_) (fun hc1 h=> ?_)
 refine zbj hc1 ?_
 refine zaf rfl rfl ?_
 refine w_o (a:= .A (t:Tr)) ?_
 refine zaf rfl rfl ?_
 refine zeh (.A (noneT:Tr)) (a0:=(zca noneT .full)) rfl rfl rfl (by kernel_rfl) (zj _ _) (by dsimp only[zh,List.set]) ?_
 refine zaf rfl rfl ?_
 obtain⟨g1,h⟩:=zi h
 obtain⟨x1,hx1,h⟩:=zo h
 refine zcq (args':=[.A (t:Tr),.A (noneT:Tr)]) (r:= .b x1) (by rw[←hx1];exact(z4f t noneT g1)) ?_
 refine w_r [.v (.b x1),.m _] ?_
 exact zbg h
 refine zbj hc1 ?_
 refine w_r [.p,.p,.p,.v (.b false),.m _] ?_
 exact zbg h
def zyy (t:Tr):Option (List Tr):=
 (zav (zss t) (fun x1=>(bif x1 then(some ([]:(List Tr))) else(some [t]))))
theorem ent61:Ent Tryz.prog 61:=enters_of Tryz.func61 (by kernel_rfl) rfl
theorem qen (t:Tr)(r:(List Tr))(h:zyy t=some r):Pure (ITP Tryz.prog) Tryz.prog 61 [.A (t:Tr)] (.L (r:List Tr)):=by
 unfold zyy at h
 refine zbd 6 mix Tryz.func61 ent61 ?_
 refine zf (zb ?_)
 refine zbz (a:= .ptr 0 0) (σ'':=(.B [(29,(Enc.cells (t:Tr)))])) ?_
 refine w_o (a:= .list 0 [] .full) ?_
 refine zf ?_
 refine zr [.v (.A (t:Tr))] ?_
 obtain⟨x1,hx1,h⟩:=zu h
 refine zcq (z8y t x1 hx1) ?_
 refine zci h (fun hc1 h=> ?_) (fun hc1 h=> ?_)
 refine zr [.v (.list 0 [] .full)] ?_
 exact zdi (fun(r:(List Tr))=>(.L (r:List Tr):AV)) h rfl rfl rfl
 refine zr [.v (.A (t:Tr))] ?_
 refine w_o (a:= .F ([t]:List Tr)) (h:=zbh (zev (α:=Tr) (l:=[t]) (cs:=Enc.cells (t:Tr)++[]) rfl (by rw[Enc.cons,Enc.nil]))) ?_
 refine zab ?_
 exact zax (fun(r:(List Tr))=> .L (r:List Tr)) h (.F ([t]:List Tr))
def zso (fuel:Nat)(l:(List Tr)):Option (List BS):=
 (zdn (τ:=(List BS)) (zbv (β:=(List BS)×Int) (fun s1=>(bif (decide (s1.2<(List.length l:Int))) then(chk (0≤s1.2∧s1.2<(List.length l:Int)) (zbc (ix l s1.2) (fun x1=>(zav (zog fuel x1) (fun x2=>(chk ((List.length s1.1+List.length x2)*32≤140737488355328) (chk (-9223372036854775808≤(s1.2+1)∧(s1.2+1)<9223372036854775808) (some (Sum.inl ((s1.1++x2),(s1.2+1))))))))))) else(some (Sum.inr (Sum.inl (s1.1)))))) fuel (([]:(List BS)),0)) (fun j1=>(chk (List.length j1<2^40) (zbc (zlb j1) (fun x3=>(some x3))))))
theorem ent53:Ent Tryz.prog 53:=enters_of Tryz.func53 (by kernel_rfl) rfl
theorem qat (fuel:Nat)(l:(List Tr))(r:(List BS))(h:zso fuel l=some r):Pure (ITP Tryz.prog) Tryz.prog 53 [.L (l:List Tr)] (.L (r:List BS)):=by
 unfold zso at h
 refine zbd 18 mix Tryz.func53 ent53 ?_
 refine zr [.v (.list 0 [] .full)] ?_
 refine zr [.v (.list 0 [] .full)] ?_
 refine zau h (bz 0 19 524287) (fun j1=>[(3,(.O (j1:List BS)))]) (fun j1=>(zbs [] 26 (List.length (j1:List BS)) 4)) ?_ ?_
 intro or1 h hr1
 refine zr [.m _,.v (.i (List.length l:Int)),.v (.i 0)] ?_
 refine zp ?_
 refine zbx h (bz 0 19 524095) (fun s1=>[(3,(.O (s1.1:List BS))),(8,.i s1.2)]) (fun s1=>(zbs [] 26 (List.length (s1.1:List BS)) 4)) ?_ ?_
 exact zdl (bl 19 456)
 intro s1 p1 h
 refine zfj ?_
 refine zr [.v (.b (decide (s1.2<(List.length l:Int))))] ?_
 refine zf ?_
 refine zci h (fun hc1 h=> ?_) (fun hc1 h=> ?_)
 refine zf ?_
 refine zp ?_
 refine zf (zb ?_)
 obtain⟨g1,h⟩:=zi h
 obtain⟨x1,hx1,h⟩:=zo h
 refine zvo hx1 g1 ?_
 refine w_o (a:= .A (x1:Tr)) ?_
 refine zbz (a:= .ptr 0 0) (σ'':=(zbs [(29,[.u 0,.raw (.int .u64 0),.raw (.int .u64 0),.raw (.int .u64 0),.raw (.int .u64 0),.i 0,.i 0,.list 0 [] .full])] 26 (List.length (s1.1:List BS)) 4)) ?_
 refine zcx 8 (zbs [(29,(Enc.cells (x1:Tr)))] 26 (List.length (s1.1:List BS)) 4) ?_
 refine zb (k0:=0) (id:=5) ?_
 refine w_r [.m _,.v (.A (x1:Tr))] ?_
 obtain⟨x2,hx2,h⟩:=zu h
 refine zcq (qdv fuel x1 x2 hx2) ?_
 obtain⟨g2,h⟩:=zi h
 refine zfp (a:=(.O ((s1.1++x2):List BS))) (σ'':=(zbs [(29,(Enc.cells (x1:Tr)))] 26 (List.length ((s1.1++x2):List BS)) 4)) rfl rfl rfl (zft rfl rfl rfl rfl (zdy (α:=BS) (bs:=[(29,(Enc.cells (x1:Tr)))]) (a:=s1.1) (b:=x2) g2 rfl rfl rfl rfl rfl ⟨rfl,by decide⟩)) (by dsimp only[zh,List.set]) rfl ?_
 refine zab ?_
 refine zb (k0:=0) (id:=6) ?_
 obtain⟨g3,h⟩:=zi h
 refine zpe g3 ?_
 refine zab ?_
 refine zas (p:=p1) ((s1.1++x2),(s1.2+1)) h ?_
 exact zdd (bl 19 456) 0 (by kernel_rfl) (Nat.le_of_ble_eq_true rfl) (zbi rfl) (by dsimp only[zac,zag,List.foldl,List.set,bz,bzc,Nat.reduceMod,Nat.reduceDiv,Nat.reduceBEq,Nat.reduceAdd];exact(za rfl (za rfl (za rfl (za (zcf (Enc.cloL _)) (za rfl (za rfl (za (zan (Enc.cloL _)) (by kernel_rfl))))))))) (by kernel_rfl)
 refine zw h (fun h=> ?_)
 refine zg (o:=or1) (s1.1) h ?_
 exact zdl (bl 19 8)
 intro j1 h
 refine zfj ?_
 refine zr [.m _] ?_
 obtain⟨g4,h⟩:=zi h
 obtain⟨x3,hx3,h⟩:=zo h
 refine zcq (args':=[.L (j1:List BS)]) (r:= .L (x3:List BS)) (by rw[←hx3];exact(k_parts j1 g4)) ?_
 refine zab ?_
 exact zax (fun(r:(List BS))=> .L (r:List BS)) h (.L (x3:List BS))
end Go.Ab
