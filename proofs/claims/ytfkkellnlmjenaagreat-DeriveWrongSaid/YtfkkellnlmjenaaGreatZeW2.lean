/-
  rx: functions of closures; has, right, same.
-/
import Derived.Test.YtfkkellnlmjenaaGreatZeW1
set_option linter.unusedSimpArgs false
set_option linter.unusedVariables false
set_option maxRecDepth 100000
set_option maxHeartbeats 4000000
namespace Go.Ab
open Go Go.RowKit Go.Fwd Go.Proofs
theorem zsd {l:List AV} (h:cloL l=true):clo (.iptr l)=true:=h
def qna (fuel:Nat)(p:Tr→Option Bool)(l:(List Tr)):Option Int:=
 (zdn (τ:=Unit) (zbv (β:=Int) (fun s1=>(bif (decide (s1<(List.length l:Int))) then(chk (0≤s1∧s1<(List.length l:Int)) (zbc (ix l s1) (fun x1=>(zav (p x1) (fun x2=>(bif x2 then(some (Sum.inr (Sum.inr s1))) else(chk (-9223372036854775808≤(s1+1)∧(s1+1)<9223372036854775808) (some (Sum.inl ((s1+1))))))))))) else(some (Sum.inr (Sum.inl ()))))) fuel (0)) (fun j1=>(some (-1))))
theorem ent70:Ent Tryz.prog 70:=enters_of Tryz.func70 (by kernel_rfl) rfl
theorem ixf_sh (fuel:Nat)(p:Tr→Option Bool)(l:(List Tr))(r:Int)(g:FuncId)(hp: ∀x y,p x=some y→Pure (ITP Tryz.prog) Tryz.prog g [.A x] (.raw (.bool y)))(h:qna fuel p l=some r):Pure (ITP Tryz.prog) Tryz.prog 70 [.L (l:List Tr),.clos g []] (.raw (.int .i64 r)):=by
 unfold qna at h
 refine zbd 17 mix Tryz.func70 ent70 ?_
 refine zr [.v (.i 0)] ?_
 refine zau h (bz 0 19 524287) (fun j1=>[]) (fun j1=>(.B [])) ?_ ?_
 intro or1 h hr1
 refine zr [.m _,.v (.i (List.length l:Int)),.v (.i 0)] ?_
 refine zp ?_
 refine zbx h (bz 0 19 524156) (fun s1=>[(8,.i s1)]) (fun s1=>(.B [])) ?_ ?_
 exact zdl (bl 19 387)
 intro s1 p1 h
 refine zfj ?_
 refine zr [.v (.b (decide (s1<(List.length l:Int))))] ?_
 refine zf ?_
 refine zci h (fun hc1 h=> ?_) (fun hc1 h=> ?_)
 refine zf ?_
 refine zp ?_
 refine zr [.m _,.m _] ?_
 refine zr [.m _,.m _,.m _] ?_
 obtain⟨g1,h⟩:=zi h
 obtain⟨x1,hx1,h⟩:=zo h
 refine zvo hx1 g1 ?_
 refine w_o (a:= .A (x1:Tr)) ?_
 obtain⟨x2,hx2,h⟩:=zu h
 refine zcq (r:= .b x2) (hp x1 x2 hx2) ?_
 refine zci h (fun hc2 h=> ?_) (fun hc2 h=> ?_)
 refine zr [.m _,.m _] ?_
 refine zw h (fun h=> ?_)
 replace h:=zz h hr1
 exact zdr h
 refine zb (k0:=0) (id:=6) ?_
 obtain⟨g2,h⟩:=zi h
 refine zpe g2 ?_
 refine zab ?_
 refine zas (p:=p1) ((s1+1)) h ?_
 exact zdl (bl 19 387)
 refine zw h (fun h=> ?_)
 refine zg (o:=or1) () h ?_
 exact zdl (bl 19 0)
 intro j1 h
 refine zfj ?_
 refine zr [.v (.i (-1))] ?_
 exact zdr h
def F_ixc (fuel:Nat)(p:Tr→Option Bool)(l:(List Tr)):Option Int:=
 (zdn (τ:=Unit) (zbv (β:=Int) (fun s1=>(bif (decide (s1<(List.length l:Int))) then(chk (0≤s1∧s1<(List.length l:Int)) (zbc (ix l s1) (fun x1=>(zav (p x1) (fun x2=>(bif x2 then(some (Sum.inr (Sum.inr s1))) else(chk (-9223372036854775808≤(s1+1)∧(s1+1)<9223372036854775808) (some (Sum.inl ((s1+1))))))))))) else(some (Sum.inr (Sum.inl ()))))) fuel (0)) (fun j1=>(some (-1))))
theorem ixc_sh (fuel:Nat)(p:Tr→Option Bool)(l:(List Tr))(r:Int)(g:FuncId)(c:AV)(hok:clo c=true)(hp: ∀x y,p x=some y→Pure (ITP Tryz.prog) Tryz.prog g [.A x,c] (.raw (.bool y)))(h:F_ixc fuel p l=some r):Pure (ITP Tryz.prog) Tryz.prog 70 [.L (l:List Tr),.clos g [c]] (.raw (.int .i64 r)):=by
 unfold F_ixc at h
 refine zbd 17 mix Tryz.func70 ent70 ?_
 refine zr [.v (.i 0)] ?_
 refine zau h (bz 0 19 524287) (fun j1=>[]) (fun j1=>(.B [])) ?_ ?_
 intro or1 h hr1
 refine zr [.m _,.v (.i (List.length l:Int)),.v (.i 0)] ?_
 refine zp ?_
 refine zbx h (bz 0 19 524156) (fun s1=>[(8,.i s1)]) (fun s1=>(.B [])) ?_ ?_
 exact zdl (bl 19 387)
 intro s1 p1 h
 refine zfj ?_
 refine zr [.v (.b (decide (s1<(List.length l:Int))))] ?_
 refine zf ?_
 refine zci h (fun hc1 h=> ?_) (fun hc1 h=> ?_)
 refine zf ?_
 refine zp ?_
 refine zr [.m _,.m _] ?_
 refine zr [.m _,.m _,.m _] ?_
 obtain⟨g1,h⟩:=zi h
 obtain⟨x1,hx1,h⟩:=zo h
 refine zvo hx1 g1 ?_
 refine w_o (a:= .A (x1:Tr)) ?_
 obtain⟨x2,hx2,h⟩:=zu h
 refine zbr (args':=[.A (x1:Tr),c]) (r:= .b x2) (hp x1 x2 hx2) rfl rfl (zd (zaj (zl (Enc.clo _))) (zd (zaj hok) rfl)) (za (zn _ _ (zl (Enc.clo _))) (za (zn _ _ hok) rfl)) (by dsimp only[zh,List.set]) ?_
 refine zci h (fun hc2 h=> ?_) (fun hc2 h=> ?_)
 refine zr [.m _,.m _] ?_
 refine zw h (fun h=> ?_)
 replace h:=zz h hr1
 exact zdr h
 refine zb (k0:=0) (id:=6) ?_
 obtain⟨g2,h⟩:=zi h
 refine zpe g2 ?_
 refine zab ?_
 refine zas (p:=p1) ((s1+1)) h ?_
 exact zdl (bl 19 387)
 refine zw h (fun h=> ?_)
 refine zg (o:=or1) () h ?_
 exact zdl (bl 19 0)
 intro j1 h
 refine zfj ?_
 refine zr [.v (.i (-1))] ?_
 exact zdr h
def z7i (fuel:Nat)(p:Tr→Option Bool)(l:(List Tr)):Option Bool:=
 (zav (qna fuel p l) (fun x1=>(some (decide (x1≥0)))))
theorem ent29:Ent Tryz.prog 29:=enters_of Tryz.func29 (by kernel_rfl) rfl
theorem qfe (fuel:Nat)(p:Tr→Option Bool)(l:(List Tr))(r:Bool)(g:FuncId)(hp: ∀x y,p x=some y→Pure (ITP Tryz.prog) Tryz.prog g [.A x] (.raw (.bool y)))(h:z7i fuel p l=some r):Pure (ITP Tryz.prog) Tryz.prog 29 [.L (l:List Tr),.clos g []] (.raw (.bool r)):=by
 unfold z7i at h
 refine zbd 7 mix Tryz.func29 ent29 ?_
 refine zr [.v (.b false)] ?_
 refine zr [.m _,.m _] ?_
 obtain⟨x1,hx1,h⟩:=zu h
 refine zbr (args':=[.L (l:List Tr),.clos g []]) (r:= .i x1) (ixf_sh fuel p l x1 g hp hx1) rfl rfl (zd (zet (Enc.cloL _)) (zd (show AV.clos _ (stripL _)=_ from congrArg (AV.clos _) rfl) rfl)) (za (zan (Enc.cloL _)) (za (show zaa _ _=true from rfl) rfl)) (by dsimp only[zh,List.set]) ?_
 refine w_r [.v (.b (decide (x1≥0))),.m _] ?_
 exact zbg h
def qmq (fuel:Nat)(p:Tr→Option Bool)(l:(List Tr)):Option Bool:=
 (zav (F_ixc fuel p l) (fun x1=>(some (decide (x1≥0)))))
theorem ctc_sh (fuel:Nat)(p:Tr→Option Bool)(l:(List Tr))(r:Bool)(g:FuncId)(c:AV)(hok:clo c=true)(hp: ∀x y,p x=some y→Pure (ITP Tryz.prog) Tryz.prog g [.A x,c] (.raw (.bool y)))(h:qmq fuel p l=some r):Pure (ITP Tryz.prog) Tryz.prog 29 [.L (l:List Tr),.clos g [c]] (.raw (.bool r)):=by
 unfold qmq at h
 refine zbd 7 mix Tryz.func29 ent29 ?_
 refine zr [.v (.b false)] ?_
 refine zr [.m _,.m _] ?_
 obtain⟨x1,hx1,h⟩:=zu h
 refine zbr (args':=[.L (l:List Tr),.clos g [c]]) (r:= .i x1) (ixc_sh fuel p l x1 g c hok hp hx1) rfl rfl (zd (zet (Enc.cloL _)) (zd (show AV.clos _ (stripL _)=_ from congrArg (AV.clos _) (zd (zaj hok) rfl)) rfl)) (za (zan (Enc.cloL _)) (za (show zaa _ _=true from(za (zn _ _ hok) rfl)) rfl)) (by dsimp only[zh,List.set]) ?_
 refine w_r [.v (.b (decide (x1≥0))),.m _] ?_
 exact zbg h
def z6l (fuel:Nat)(p:Tr→Tr→Option Bool)(a:(List Tr))(b:(List Tr)):Option Bool:=
 (bif ((List.length a:Int) !=(List.length b:Int)) then(some false) else(zdn (τ:=Unit) (zbv (β:=Int) (fun s1=>(bif (decide (s1<(List.length a:Int))) then(chk (0≤s1∧s1<(List.length a:Int)) (zbc (ix a s1) (fun x1=>(chk (0≤s1∧s1<(List.length b:Int)) (zbc (ix b s1) (fun x2=>(zav (p x1 x2) (fun x3=>(bif (!x3) then(some (Sum.inr (Sum.inr false))) else(chk (-9223372036854775808≤(s1+1)∧(s1+1)<9223372036854775808) (some (Sum.inl ((s1+1)))))))))))))) else(some (Sum.inr (Sum.inl ()))))) fuel (0)) (fun j1=>(some true))))
theorem ent59:Ent Tryz.prog 59:=enters_of Tryz.func59 (by kernel_rfl) rfl
theorem eqf_sh (fuel:Nat)(p:Tr→Tr→Option Bool)(a:(List Tr))(b:(List Tr))(r:Bool)(g:FuncId)(hp: ∀x y z,p x y=some z→Pure (ITP Tryz.prog) Tryz.prog g [.A x,.A y] (.raw (.bool z)))(h:z6l fuel p a b=some r):Pure (ITP Tryz.prog) Tryz.prog 59 [.L (a:List Tr),.L (b:List Tr),.clos g []] (.raw (.bool r)):=by
 unfold z6l at h
 refine zbd 29 mix Tryz.func59 ent59 ?_
 refine zr [.v (.b false)] ?_
 refine zf ?_
 refine zr [.m _,.v (.i (List.length a:Int)),.m _,.v (.i (List.length b:Int)),.v (.b ((List.length a:Int) !=(List.length b:Int)))] ?_
 refine zci h (fun hc1 h=> ?_) (fun hc1 h=> ?_)
 refine zr [.v (.b false)] ?_
 exact zbg h
 refine zau h (bz 0 32 4294967295) (fun j1=>[]) (fun j1=>(.B [])) ?_ ?_
 intro or1 h hr1
 refine zr [.m _,.v (.i (List.length a:Int)),.v (.i 0)] ?_
 refine zp ?_
 refine zbx h (bz 0 32 4294868985) (fun s1=>[(17,.i s1)]) (fun s1=>(.B [])) ?_ ?_
 exact zdl (bl 32 229382)
 intro s1 p1 h
 refine zfj ?_
 refine zr [.v (.b (decide (s1<(List.length a:Int))))] ?_
 refine zf ?_
 refine zci h (fun hc2 h=> ?_) (fun hc2 h=> ?_)
 refine zf ?_
 refine zp ?_
 refine zr [.m _] ?_
 obtain⟨g1,h⟩:=zi h
 obtain⟨x1,hx1,h⟩:=zo h
 refine zvo hx1 g1 ?_
 refine w_o (a:= .A (x1:Tr)) ?_
 refine zbz (a:= .ptr 0 0) (σ'':=(.B [(29,[.u 0,.raw (.int .u64 0),.raw (.int .u64 0),.raw (.int .u64 0),.raw (.int .u64 0),.i 0,.i 0,.list 0 [] .full])])) ?_
 refine zab ?_
 refine zcx 8 (.B [(29,(Enc.cells (x1:Tr)))]) ?_
 refine zr [.m _,.m _] ?_
 obtain⟨g2,h⟩:=zi h
 obtain⟨x2,hx2,h⟩:=zo h
 refine zvo hx2 g2 ?_
 refine w_o (a:= .A (x2:Tr)) ?_
 refine zbz (a:= .ptr 1 0) (σ'':=(.B [(29,(Enc.cells (x1:Tr))),(29,[.u 0,.raw (.int .u64 0),.raw (.int .u64 0),.raw (.int .u64 0),.raw (.int .u64 0),.i 0,.i 0,.list 0 [] .full])])) ?_
 refine zcx 8 (.B [(29,(Enc.cells (x1:Tr))),(29,(Enc.cells (x2:Tr)))]) ?_
 refine zr [.m _,.v (.A (x1:Tr)),.v (.A (x2:Tr))] ?_
 obtain⟨x3,hx3,h⟩:=zu h
 refine zcq (r:= .b x3) (hp x1 x2 x3 hx3) ?_
 refine w_o (a:= .b (!x3)) ?_
 refine zci h (fun hc3 h=> ?_) (fun hc3 h=> ?_)
 refine zr [.v (.b false)] ?_
 refine zw h (fun h=> ?_)
 replace h:=zz h hr1
 exact zbg h
 refine zb (k0:=0) (id:=9) ?_
 obtain⟨g3,h⟩:=zi h
 refine zpe g3 ?_
 refine zab ?_
 refine zas (p:=p1) ((s1+1)) h ?_
 exact zdd (bl 32 229382) 0 (by kernel_rfl) (Nat.le_of_ble_eq_true rfl) (zbi rfl) (by dsimp only[zac,zag,List.foldl,List.set,bz,bzc,Nat.reduceMod,Nat.reduceDiv,Nat.reduceBEq,Nat.reduceAdd];exact(za rfl (za (zan (Enc.cloL _)) (za (show zaa _ _=true from rfl) (za rfl (za rfl (za rfl (za rfl (za rfl (za rfl (za rfl (za rfl (za rfl (za rfl (za rfl (za rfl (za (zan (Enc.cloL _)) (by kernel_rfl)))))))))))))))))) (by kernel_rfl)
 refine zw h (fun h=> ?_)
 refine zg (o:=or1) () h ?_
 exact zdl (bl 32 0)
 intro j1 h
 refine zfj ?_
 refine zr [.v (.b true)] ?_
 exact zbg h
def qeu (fuel:Nat)(p:Tr→Tr→Option Int)(a:(List Tr))(b:(List Tr)):Option Int:=
 (zdn (τ:=Unit) (zbv (β:=Int) (fun s1=>(bif (decide (s1<(List.length a:Int))) then(chk (0≤s1∧s1<(List.length a:Int)) (zbc (ix a s1) (fun x1=>(bif (decide (s1≥(List.length b:Int))) then(some (Sum.inr (Sum.inr 1))) else(chk (0≤s1∧s1<(List.length b:Int)) (zbc (ix b s1) (fun x2=>(zav (p x1 x2) (fun x3=>(bif (x3 !=0) then(some (Sum.inr (Sum.inr x3))) else(chk (-9223372036854775808≤(s1+1)∧(s1+1)<9223372036854775808) (some (Sum.inl ((s1+1))))))))))))))) else(some (Sum.inr (Sum.inl ()))))) fuel (0)) (fun j1=>(bif (decide ((List.length a:Int)<(List.length b:Int))) then(some (-1)) else(some 0))))
theorem ent112:Ent Tryz.prog 112:=enters_of Tryz.func112 (by kernel_rfl) rfl
theorem cpf_sh (fuel:Nat)(p:Tr→Tr→Option Int)(a:(List Tr))(b:(List Tr))(r:Int)(g:FuncId)(hp: ∀x y z,p x y=some z→Pure (ITP Tryz.prog) Tryz.prog g [.A x,.A y] (.raw (.int .i64 z)))(h:qeu fuel p a b=some r):Pure (ITP Tryz.prog) Tryz.prog 112 [.L (a:List Tr),.L (b:List Tr),.clos g []] (.raw (.int .i64 r)):=by
 unfold qeu at h
 refine zbd 36 mix Tryz.func112 ent112 ?_
 refine zr [.v (.i 0)] ?_
 refine zau h (bz 0 39 549755813884) (fun j1=>[]) (fun j1=>(.B [])) ?_ ?_
 intro or1 h hr1
 refine zr [.m _,.v (.i (List.length a:Int)),.v (.i 0)] ?_
 refine zp ?_
 refine zbx h (bz 0 39 549755807736) (fun s1=>[(13,.i s1)]) (fun s1=>(.B [])) ?_ ?_
 exact zdl (bl 39 14343)
 intro s1 p1 h
 refine zfj ?_
 refine zr [.v (.b (decide (s1<(List.length a:Int))))] ?_
 refine zf ?_
 refine zci h (fun hc1 h=> ?_) (fun hc1 h=> ?_)
 refine zf ?_
 refine zp ?_
 refine zr [.m _] ?_
 obtain⟨g1,h⟩:=zi h
 obtain⟨x1,hx1,h⟩:=zo h
 refine zvo hx1 g1 ?_
 refine w_o (a:= .A (x1:Tr)) ?_
 refine zbz (a:= .ptr 0 0) (σ'':=(.B [(29,[.u 0,.raw (.int .u64 0),.raw (.int .u64 0),.raw (.int .u64 0),.raw (.int .u64 0),.i 0,.i 0,.list 0 [] .full])])) ?_
 refine zab ?_
 refine zcx 8 (.B [(29,(Enc.cells (x1:Tr)))]) ?_
 refine zf ?_
 refine zr [.m _,.m _,.v (.i (List.length b:Int)),.v (.b (decide (s1≥(List.length b:Int))))] ?_
 refine zci h (fun hc2 h=> ?_) (fun hc2 h=> ?_)
 refine zr [.v (.i 1)] ?_
 refine zw h (fun h=> ?_)
 replace h:=zz h hr1
 exact zdr h
 refine zr [.m _,.m _] ?_
 obtain⟨g2,h⟩:=zi h
 obtain⟨x2,hx2,h⟩:=zo h
 refine zvo hx2 g2 ?_
 refine w_o (a:= .A (x2:Tr)) ?_
 refine zbz (a:= .ptr 1 0) (σ'':=(.B [(29,(Enc.cells (x1:Tr))),(29,[.u 0,.raw (.int .u64 0),.raw (.int .u64 0),.raw (.int .u64 0),.raw (.int .u64 0),.i 0,.i 0,.list 0 [] .full])])) ?_
 refine zcx 8 (.B [(29,(Enc.cells (x1:Tr))),(29,(Enc.cells (x2:Tr)))]) ?_
 refine zr [.m _,.v (.A (x1:Tr)),.v (.A (x2:Tr))] ?_
 obtain⟨x3,hx3,h⟩:=zu h
 refine zcq (r:= .i x3) (hp x1 x2 x3 hx3) ?_
 refine zab ?_
 refine zr [.m _,.v (.b (x3 !=0))] ?_
 refine zci h (fun hc3 h=> ?_) (fun hc3 h=> ?_)
 refine zr [.m _,.m _] ?_
 refine zw h (fun h=> ?_)
 replace h:=zz h hr1
 exact zdr h
 refine zb (k0:=0) (id:=10) ?_
 obtain⟨g3,h⟩:=zi h
 refine zpe g3 ?_
 refine zab ?_
 refine zas (p:=p1) ((s1+1)) h ?_
 exact zdd (bl 39 14343) 0 (by kernel_rfl) (Nat.le_of_ble_eq_true rfl) (zbi rfl) (by dsimp only[zac,zag,List.foldl,List.set,bz,bzc,Nat.reduceMod,Nat.reduceDiv,Nat.reduceBEq,Nat.reduceAdd];exact(za (zan (Enc.cloL _)) (za (zan (Enc.cloL _)) (za (show zaa _ _=true from rfl) (za rfl (za rfl (za rfl (za rfl (za rfl (za rfl (za rfl (za rfl (za (zan (Enc.cloL _)) (by kernel_rfl)))))))))))))) (by kernel_rfl)
 refine zw h (fun h=> ?_)
 refine zg (o:=or1) () h ?_
 exact zdl (bl 39 3)
 intro j1 h
 refine zfj ?_
 refine zf ?_
 refine zr [.m _,.v (.i (List.length a:Int)),.m _,.v (.i (List.length b:Int)),.v (.b (decide ((List.length a:Int)<(List.length b:Int))))] ?_
 refine zci h (fun hc4 h=> ?_) (fun hc4 h=> ?_)
 refine zr [.v (.i (-1))] ?_
 exact zdr h
 refine zr [.v (.i 0)] ?_
 exact zdr h
def z3d (x:Tr)(k:Int):Option Bool:=
 (some (((x.k:Nat):Int)==k))
theorem ent147:Ent Tryz.prog 147:=enters_of Tryz.func147 (by kernel_rfl) rfl
theorem has1_sh (x:Tr)(k:Int)(r:Bool)(h:z3d x k=some r):Pure (ITP Tryz.prog) Tryz.prog 147 [.A (x:Tr),.iptr [.raw (.int .u8 k)]] (.raw (.bool r)):=by
 unfold z3d at h
 refine zbd 6 mix Tryz.func147 ent147 ?_
 refine zf (zb ?_)
 refine zbz (a:= .ptr 0 0) (σ'':=(.B [(29,(Enc.cells (x:Tr)))])) ?_
 refine w_o (a:= .b false) ?_
 refine zr [.v (.ptr 0 0),.v (.u ((x.k:Nat):Int)),.v (.u k),.v (.b (((x.k:Nat):Int)==k)),.m _] ?_
 exact zbg h
def zsu (fuel:Nat)(t:Tr)(k:Int):Option Bool:=
 (zav (qmq fuel (fun x=>z3d x k) t.l) (fun x1=>(some x1)))
theorem ent103:Ent Tryz.prog 103:=enters_of Tryz.func103 (by kernel_rfl) rfl
theorem z9q (fuel:Nat)(t:Tr)(k:Int)(r:Bool)(h:zsu fuel t k=some r):Pure (ITP Tryz.prog) Tryz.prog 103 [.A (t:Tr),.raw (.int .u8 k)] (.raw (.bool r)):=by
 unfold zsu at h
 refine zbd 7 mix Tryz.func103 ent103 ?_
 refine zf (zb ?_)
 refine zbz (a:= .ptr 0 0) (σ'':=(.B [(29,(Enc.cells (t:Tr)))])) ?_
 refine zbz (a:= .ptr 1 0) (σ'':=(.B [(29,(Enc.cells (t:Tr))),(5,[.u k])])) ?_
 refine w_o (a:= .b false) ?_
 refine zr [.v (.ptr 0 7),.v (.L (t.l:List Tr)),.v (.clos 147 [.ptr 1 0])] ?_
 obtain⟨x1,hx1,h⟩:=zu h
 refine w_callf 1 (args':=[.L (t.l:List Tr),.clos 147 [.iptr [.u k]]]) (r:= .b x1) (ctc_sh fuel (fun x=>z3d x k) t.l x1 147 (.iptr [.u k]) (zsd (zxu rfl rfl)) (fun x y h=>has1_sh x k y h) hx1) rfl rfl (znv (z6x (zcs (Enc.cloL _))) (znv rfl z1f)) rfl (by dsimp only[zh,List.set]) ?_
 refine zab ?_
 exact zbg h
def zzz (fuel:Nat)(t:Tr):Option Bool:=
 (zdn (τ:=Unit) (bif (((t.k:Nat):Int) !=2) then(bif (decide (t.s≠(0#256))) then(some (Sum.inr false)) else(bif (((t.k:Nat):Int) !=5) then(bif (t.mn !=0) then(some (Sum.inr false)) else(bif (t.mx !=0) then(some (Sum.inr false)) else(bif (decide (((t.k:Nat):Int)<3)) then(bif (decide ((List.length t.l:Int)>0)) then(some (Sum.inr false)) else(some (Sum.inl ()))) else(some (Sum.inl ()))))) else(bif (decide (((t.k:Nat):Int)<3)) then(bif (decide ((List.length t.l:Int)>0)) then(some (Sum.inr false)) else(some (Sum.inl ()))) else(some (Sum.inl ()))))) else(bif (((t.k:Nat):Int) !=5) then(bif (t.mn !=0) then(some (Sum.inr false)) else(bif (t.mx !=0) then(some (Sum.inr false)) else(bif (decide (((t.k:Nat):Int)<3)) then(bif (decide ((List.length t.l:Int)>0)) then(some (Sum.inr false)) else(some (Sum.inl ()))) else(some (Sum.inl ()))))) else(bif (decide (((t.k:Nat):Int)<3)) then(bif (decide ((List.length t.l:Int)>0)) then(some (Sum.inr false)) else(some (Sum.inl ()))) else(some (Sum.inl ()))))) (fun j1=>(bif (((t.k:Nat):Int)==1) then(some true) else(bif (((t.k:Nat):Int)==2) then(some (decide (t.s≠(0#256)))) else(bif (((t.k:Nat):Int)==3) then(bif (decide ((List.length t.l:Int)>1)) then(zav (zsu fuel t 1) (fun x1=>(bif (!x1) then(zav (zsu fuel t 3) (fun x2=>(some (!x2)))) else(some false)))) else(some false)) else(bif (((t.k:Nat):Int)==4) then(bif (decide ((List.length t.l:Int)>1)) then(zav (zsu fuel t 4) (fun x3=>(some (!x3)))) else(some false)) else(bif (((t.k:Nat):Int)==5) then(bif ((List.length t.l:Int)==1) then(zav (zgn t.mn t.mx) (fun x4=>(bif x4 then(zav (zsu fuel t 1) (fun x5=>(some (!x5)))) else(some false)))) else(some false)) else(bif (((t.k:Nat):Int)==6) then(some ((List.length t.l:Int)==1)) else(some false)))))))))
theorem ent64:Ent Tryz.prog 64:=enters_of Tryz.func64 (by kernel_rfl) rfl
theorem qkh (fuel:Nat)(t:Tr)(r:Bool)(h:zzz fuel t=some r):Pure (ITP Tryz.prog) Tryz.prog 64 [.A (t:Tr)] (.raw (.bool r)):=by
 unfold zzz at h
 refine zbd 101 mix Tryz.func64 ent64 ?_
 refine zf (zb ?_)
 refine zbz (a:= .ptr 0 0) (σ'':=(.B [(29,(Enc.cells (t:Tr)))])) ?_
 refine w_o (a:= .b false) ?_
 refine zau h (bz 0 102 5070602400912917605986812821501) (fun j1=>[]) (fun j1=>(.B [(29,(Enc.cells (t:Tr)))])) ?_ ?_
 intro or1 h hr1
 refine zr [.v (.ptr 0 0),.v (.u ((t.k:Nat):Int)),.v (.b (((t.k:Nat):Int) !=2))] ?_
 refine zae h (fun hc1 h=> ?_) (fun hc1 h=> ?_)
 refine zbj hc1 ?_
 refine w_r [.v (.ptr 0 1),.v (.A (t.s:BS)),.v (.A (0#256:BS))] ?_
 refine zaf rfl rfl ?_
 refine qar (.b (decide (t.s≠(0#256)))) rfl rfl rfl (zvg t.s (0#256) rfl rfl rfl) (by dsimp only[zh,List.set]) ?_
 refine w_o (a:= .b (decide (t.s≠(0#256)))) ?_
 refine zae h (fun hc2 h=> ?_) (fun hc2 h=> ?_)
 refine zbj hc2 ?_
 refine w_r [.p,.p,.p,.p,.p] ?_
 refine w_r [.p,.p,.p,.p,.p] ?_
 refine w_r [.p,.p,.p,.v (.b true),.m _] ?_
 refine w_r [.p,.p,.p,.p,.p] ?_
 refine w_r [.p,.p,.p,.p,.v (.b true)] ?_
 refine zce rfl ?_
 refine zr [.v (.b false)] ?_
 replace h:=zz h hr1
 exact zbg h
 refine zbj hc2 ?_
 refine w_r [.v (.ptr 0 0),.v (.u ((t.k:Nat):Int)),.v (.b (((t.k:Nat):Int) !=5))] ?_
 refine zaf rfl rfl ?_
 refine zae h (fun hc3 h=> ?_) (fun hc3 h=> ?_)
 refine zbj hc3 ?_
 refine w_r [.v (.ptr 0 5),.v (.i t.mn),.v (.b (t.mn !=0))] ?_
 refine zaf rfl rfl ?_
 refine zae h (fun hc4 h=> ?_) (fun hc4 h=> ?_)
 refine zbj hc4 ?_
 refine w_r [.p,.p,.p,.v (.b true),.v (.b true)] ?_
 refine w_r [.v (.b true),.m _,.p,.p,.p] ?_
 refine w_r [.p,.p,.p,.p,.p] ?_
 refine w_r [.p,.v (.b true)] ?_
 refine zce rfl ?_
 refine zr [.v (.b false)] ?_
 replace h:=zz h hr1
 exact zbg h
 refine zbj hc4 ?_
 refine w_r [.v (.ptr 0 6),.v (.i t.mx),.v (.b (t.mx !=0)),.v (.b (t.mx !=0)),.v (.b (t.mx !=0))] ?_
 refine w_r [.v (.b (t.mx !=0))] ?_
 refine zae h (fun hc5 h=> ?_) (fun hc5 h=> ?_)
 refine zbj hc5 ?_
 refine w_r [.p,.p,.p,.p,.p] ?_
 refine w_r [.p,.p,.p,.p,.v (.b true)] ?_
 refine zce rfl ?_
 refine zr [.v (.b false)] ?_
 replace h:=zz h hr1
 exact zbg h
 refine zbj hc5 ?_
 refine w_r [.v (.ptr 0 0),.v (.u ((t.k:Nat):Int)),.v (.b (decide (((t.k:Nat):Int)<3)))] ?_
 refine zaf rfl rfl ?_
 refine zae h (fun hc6 h=> ?_) (fun hc6 h=> ?_)
 refine zbj hc6 ?_
 refine w_r [.v (.ptr 0 7),.v (.L (t.l:List Tr)),.v (.i (List.length t.l:Int)),.v (.b (decide ((List.length t.l:Int)>0))),.v (.b (decide ((List.length t.l:Int)>0)))] ?_
 refine w_r [.v (.b (decide ((List.length t.l:Int)>0)))] ?_
 refine zci h (fun hc7 h=> ?_) (fun hc7 h=> ?_)
 refine zr [.v (.b false)] ?_
 replace h:=zz h hr1
 exact zbg h
 refine zg (o:=or1) () h ?_
 exact zdl (bl 102 2)
 refine zbj hc6 ?_
 refine w_r [.p,.p,.p,.p,.v (.b false)] ?_
 refine w_r [.v (.b false)] ?_
 refine zcl rfl ?_
 refine zg (o:=or1) () h ?_
 exact zdl (bl 102 2)
 refine zbj hc3 ?_
 refine w_r [.p,.p,.p,.p,.p] ?_
 refine w_r [.p,.p,.p,.v (.b false),.v (.b false)] ?_
 refine w_r [.m _,.v (.ptr 0 0),.v (.u ((t.k:Nat):Int)),.v (.b (decide (((t.k:Nat):Int)<3)))] ?_
 refine zaf rfl rfl ?_
 refine zae h (fun hc8 h=> ?_) (fun hc8 h=> ?_)
 refine zbj hc8 ?_
 refine w_r [.v (.ptr 0 7),.v (.L (t.l:List Tr)),.v (.i (List.length t.l:Int)),.v (.b (decide ((List.length t.l:Int)>0))),.v (.b (decide ((List.length t.l:Int)>0)))] ?_
 refine w_r [.v (.b (decide ((List.length t.l:Int)>0)))] ?_
 refine zci h (fun hc9 h=> ?_) (fun hc9 h=> ?_)
 refine zr [.v (.b false)] ?_
 replace h:=zz h hr1
 exact zbg h
 refine zg (o:=or1) () h ?_
 exact zdl (bl 102 2)
 refine zbj hc8 ?_
 refine w_r [.p,.p,.p,.p,.v (.b false)] ?_
 refine w_r [.v (.b false)] ?_
 refine zcl rfl ?_
 refine zg (o:=or1) () h ?_
 exact zdl (bl 102 2)
 refine zbj hc1 ?_
 refine w_r [.p,.p,.p,.p,.v (.b false)] ?_
 refine w_r [.m _,.v (.ptr 0 0),.v (.u ((t.k:Nat):Int)),.v (.b (((t.k:Nat):Int) !=5))] ?_
 refine zaf rfl rfl ?_
 refine zae h (fun hc10 h=> ?_) (fun hc10 h=> ?_)
 refine zbj hc10 ?_
 refine w_r [.v (.ptr 0 5),.v (.i t.mn),.v (.b (t.mn !=0))] ?_
 refine zaf rfl rfl ?_
 refine zae h (fun hc11 h=> ?_) (fun hc11 h=> ?_)
 refine zbj hc11 ?_
 refine w_r [.p,.p,.p,.v (.b true),.v (.b true)] ?_
 refine w_r [.v (.b true),.m _,.p,.p,.p] ?_
 refine w_r [.p,.p,.p,.p,.p] ?_
 refine w_r [.p,.v (.b true)] ?_
 refine zce rfl ?_
 refine zr [.v (.b false)] ?_
 replace h:=zz h hr1
 exact zbg h
 refine zbj hc11 ?_
 refine w_r [.v (.ptr 0 6),.v (.i t.mx),.v (.b (t.mx !=0)),.v (.b (t.mx !=0)),.v (.b (t.mx !=0))] ?_
 refine w_r [.v (.b (t.mx !=0))] ?_
 refine zae h (fun hc12 h=> ?_) (fun hc12 h=> ?_)
 refine zbj hc12 ?_
 refine w_r [.p,.p,.p,.p,.p] ?_
 refine w_r [.p,.p,.p,.p,.v (.b true)] ?_
 refine zce rfl ?_
 refine zr [.v (.b false)] ?_
 replace h:=zz h hr1
 exact zbg h
 refine zbj hc12 ?_
 refine w_r [.v (.ptr 0 0),.v (.u ((t.k:Nat):Int)),.v (.b (decide (((t.k:Nat):Int)<3)))] ?_
 refine zaf rfl rfl ?_
 refine zae h (fun hc13 h=> ?_) (fun hc13 h=> ?_)
 refine zbj hc13 ?_
 refine w_r [.v (.ptr 0 7),.v (.L (t.l:List Tr)),.v (.i (List.length t.l:Int)),.v (.b (decide ((List.length t.l:Int)>0))),.v (.b (decide ((List.length t.l:Int)>0)))] ?_
 refine w_r [.v (.b (decide ((List.length t.l:Int)>0)))] ?_
 refine zci h (fun hc14 h=> ?_) (fun hc14 h=> ?_)
 refine zr [.v (.b false)] ?_
 replace h:=zz h hr1
 exact zbg h
 refine zg (o:=or1) () h ?_
 exact zdl (bl 102 2)
 refine zbj hc13 ?_
 refine w_r [.p,.p,.p,.p,.v (.b false)] ?_
 refine w_r [.v (.b false)] ?_
 refine zcl rfl ?_
 refine zg (o:=or1) () h ?_
 exact zdl (bl 102 2)
 refine zbj hc10 ?_
 refine w_r [.p,.p,.p,.p,.p] ?_
 refine w_r [.p,.p,.p,.v (.b false),.v (.b false)] ?_
 refine w_r [.m _,.v (.ptr 0 0),.v (.u ((t.k:Nat):Int)),.v (.b (decide (((t.k:Nat):Int)<3)))] ?_
 refine zaf rfl rfl ?_
 refine zae h (fun hc15 h=> ?_) (fun hc15 h=> ?_)
 refine zbj hc15 ?_
 refine w_r [.v (.ptr 0 7),.v (.L (t.l:List Tr)),.v (.i (List.length t.l:Int)),.v (.b (decide ((List.length t.l:Int)>0))),.v (.b (decide ((List.length t.l:Int)>0)))] ?_
 refine w_r [.v (.b (decide ((List.length t.l:Int)>0)))] ?_
 refine zci h (fun hc16 h=> ?_) (fun hc16 h=> ?_)
 refine zr [.v (.b false)] ?_
 replace h:=zz h hr1
 exact zbg h
 refine zg (o:=or1) () h ?_
 exact zdl (bl 102 2)
 refine zbj hc15 ?_
 refine w_r [.p,.p,.p,.p,.v (.b false)] ?_
 refine w_r [.v (.b false)] ?_
 refine zcl rfl ?_
 refine zg (o:=or1) () h ?_
 exact zdl (bl 102 2)
 intro j1 h
 refine zfj ?_
 refine zf ?_
 refine zr [.v (.ptr 0 0),.v (.u ((t.k:Nat):Int))] ?_
 refine zp ?_
 refine zr [.v (.b (((t.k:Nat):Int)==1)),.m _] ?_
 refine zci h (fun hc17 h=> ?_) (fun hc17 h=> ?_)
 refine zr [.v (.b true)] ?_
 exact zbg h
 refine zr [.v (.b (((t.k:Nat):Int)==2)),.m _] ?_
 refine zci h (fun hc18 h=> ?_) (fun hc18 h=> ?_)
 refine zr [.v (.ptr 0 1),.v (.A (t.s:BS)),.v (.A (0#256:BS))] ?_
 refine qar (.b (decide (t.s≠(0#256)))) rfl rfl rfl (zvg t.s (0#256) rfl rfl rfl) (by dsimp only[zh,List.set]) ?_
 refine zab ?_
 exact zbg h
 refine zr [.v (.b (((t.k:Nat):Int)==3)),.m _] ?_
 refine zci h (fun hc19 h=> ?_) (fun hc19 h=> ?_)
 refine zr [.v (.ptr 0 7),.v (.L (t.l:List Tr)),.v (.i (List.length t.l:Int)),.v (.b (decide ((List.length t.l:Int)>1)))] ?_
 refine zae h (fun hc20 h=> ?_) (fun hc20 h=> ?_)
 refine zbj hc20 ?_
 refine zaf rfl rfl ?_
 refine w_o (a:= .A (t:Tr)) ?_
 refine zaf rfl rfl ?_
 obtain⟨x1,hx1,h⟩:=zu h
 refine zcq (z9q fuel t 1 x1 hx1) ?_
 refine w_r [.v (.b (!x1)),.v (.b (!x1))] ?_
 refine zae h (fun hc21 h=> ?_) (fun hc21 h=> ?_)
 refine zbj hc21 ?_
 refine zaf rfl rfl ?_
 refine w_o (a:= .A (t:Tr)) ?_
 refine zaf rfl rfl ?_
 obtain⟨x2,hx2,h⟩:=zu h
 refine zcq (z9q fuel t 3 x2 hx2) ?_
 refine w_r [.v (.b (!x2)),.v (.b (!x2)),.m _] ?_
 exact zbg h
 refine zbj hc21 ?_
 refine w_r [.p,.p,.p,.v (.b false),.m _] ?_
 exact zbg h
 refine zbj hc20 ?_
 refine w_r [.p,.p,.p,.v (.b false),.m _] ?_
 refine w_r [.p,.p,.p,.v (.b false),.m _] ?_
 exact zbg h
 refine zr [.v (.b (((t.k:Nat):Int)==4)),.m _] ?_
 refine zci h (fun hc22 h=> ?_) (fun hc22 h=> ?_)
 refine zr [.v (.ptr 0 7),.v (.L (t.l:List Tr)),.v (.i (List.length t.l:Int)),.v (.b (decide ((List.length t.l:Int)>1)))] ?_
 refine zae h (fun hc23 h=> ?_) (fun hc23 h=> ?_)
 refine zbj hc23 ?_
 refine zaf rfl rfl ?_
 refine w_o (a:= .A (t:Tr)) ?_
 refine zaf rfl rfl ?_
 obtain⟨x3,hx3,h⟩:=zu h
 refine zcq (z9q fuel t 4 x3 hx3) ?_
 refine w_r [.v (.b (!x3)),.v (.b (!x3)),.m _] ?_
 exact zbg h
 refine zbj hc23 ?_
 refine w_r [.p,.p,.p,.v (.b false),.m _] ?_
 exact zbg h
 refine zr [.v (.b (((t.k:Nat):Int)==5)),.m _] ?_
 refine zci h (fun hc24 h=> ?_) (fun hc24 h=> ?_)
 refine zr [.v (.ptr 0 7),.v (.L (t.l:List Tr)),.v (.i (List.length t.l:Int)),.v (.b ((List.length t.l:Int)==1))] ?_
 refine zae h (fun hc25 h=> ?_) (fun hc25 h=> ?_)
 refine zbj hc25 ?_
 refine w_r [.v (.ptr 0 5),.v (.i t.mn),.v (.ptr 0 6),.v (.i t.mx)] ?_
 refine zaf rfl rfl ?_
 obtain⟨x4,hx4,h⟩:=zu h
 refine zcq (zjp t.mn t.mx x4 hx4) ?_
 refine w_o (a:= .b x4) ?_
 refine zae h (fun hc26 h=> ?_) (fun hc26 h=> ?_)
 refine zbj hc26 ?_
 refine zaf rfl rfl ?_
 refine w_o (a:= .A (t:Tr)) ?_
 refine zaf rfl rfl ?_
 obtain⟨x5,hx5,h⟩:=zu h
 refine zcq (z9q fuel t 1 x5 hx5) ?_
 refine w_r [.v (.b (!x5)),.v (.b (!x5)),.m _] ?_
 exact zbg h
 refine zbj hc26 ?_
 refine w_r [.p,.p,.p,.v (.b false),.m _] ?_
 exact zbg h
 refine zbj hc25 ?_
 refine w_r [.p,.p,.p,.p,.p] ?_
 refine w_r [.v (.b false),.m _,.p,.p,.p] ?_
 refine w_r [.v (.b false),.m _] ?_
 exact zbg h
 refine zr [.v (.ptr 0 0),.v (.u ((t.k:Nat):Int)),.v (.b (((t.k:Nat):Int)==6))] ?_
 refine zae h (fun hc27 h=> ?_) (fun hc27 h=> ?_)
 refine zbj hc27 ?_
 refine w_r [.v (.ptr 0 7),.v (.L (t.l:List Tr)),.v (.i (List.length t.l:Int)),.v (.b ((List.length t.l:Int)==1)),.v (.b ((List.length t.l:Int)==1))] ?_
 refine w_r [.m _] ?_
 exact zbg h
 refine zbj hc27 ?_
 refine w_r [.p,.p,.p,.p,.v (.b false)] ?_
 refine w_r [.m _] ?_
 exact zbg h
end Go.Ab
