/-
  rx: Copy, good, checked, flat, joined, Seq, Or, Times, Capture.
-/
import Derived.Test.YtfkkellnlmjenaaGreatZeV3
set_option linter.unusedSimpArgs false
set_option linter.unusedVariables false
set_option maxRecDepth 100000
set_option maxHeartbeats 4000000
namespace Go.Ab
open Go Go.RowKit Go.Fwd Go.Proofs
def z9s (t:Tr):Option Tr:=
 (chk ((pre t).length<2^61) (zbc (zcj t) (fun x1=>(bif (!x1) then(some noneT) else(chk ((pre t).length<2^40) (zbc t (fun x2=>(some x2))))))))
theorem ent94:Ent Tryz.prog 94:=enters_of Tryz.func94 (by kernel_rfl) rfl
theorem copy_sh (t:Tr)(r:Tr)(h:z9s t=some r):Pure (ITP Tryz.prog) Tryz.prog 94 [.A (t:Tr)] (.A (r:Tr)):=by
 unfold z9s at h
 refine zbd 8 mix Tryz.func94 ent94 ?_
 refine zf (zb ?_)
 refine zbz (a:= .ptr 0 0) (σ'':=(.B [(29,(Enc.cells (t:Tr)))])) ?_
 refine zbz (a:= .ptr 1 0) (σ'':=(.B [(29,(Enc.cells (t:Tr))),(29,[.u 0,.raw (.int .u64 0),.raw (.int .u64 0),.raw (.int .u64 0),.raw (.int .u64 0),.i 0,.i 0,.list 0 [] .full])])) ?_
 refine zf ?_
 refine zr [.v (.A (t:Tr))] ?_
 obtain⟨g1,h⟩:=zi h
 obtain⟨x1,hx1,h⟩:=zo h
 refine zcq (args':=[.A (t:Tr)]) (r:= .b x1) (by rw[←hx1];exact(zji t g1)) ?_
 refine w_o (a:= .b (!x1)) ?_
 refine zci h (fun hc1 h=> ?_) (fun hc1 h=> ?_)
 refine zf (zb ?_)
 refine zeh (.A (noneT:Tr)) (a0:=(zca noneT .full)) rfl rfl rfl (by kernel_rfl) (zj _ _) (by dsimp only[zh,List.set]) ?_
 refine zcx 8 (.B [(29,(Enc.cells (t:Tr))),(29,(Enc.cells (noneT:Tr)))]) ?_
 exact zax (fun(r:Tr)=> .A (r:Tr)) h (.A (noneT:Tr))
 refine zr [.v (.A (t:Tr))] ?_
 obtain⟨g2,h⟩:=zi h
 obtain⟨x2,hx2,h⟩:=zo h
 refine zcq (args':=[.A (t:Tr)]) (r:= .A (x2:Tr)) (by rw[←hx2];exact(zkg t g2)) ?_
 refine zcx 8 (.B [(29,(Enc.cells (t:Tr))),(29,(Enc.cells (x2:Tr)))]) ?_
 exact zax (fun(r:Tr)=> .A (r:Tr)) h (.A (x2:Tr))
def zoz (t:Tr):Option Bool:=
 (chk ((pre t).length<2^60∧(pre noneT).length<2^60) (zbc (zfo t noneT) (fun x1=>(bif x1 then(some true) else(chk ((pre t).length<2^61) (zbc (zcd t) (fun x2=>(some x2))))))))
theorem ent139:Ent Tryz.prog 139:=enters_of Tryz.func139 (by kernel_rfl) rfl
theorem zta (t:Tr)(r:Bool)(h:zoz t=some r):Pure (ITP Tryz.prog) Tryz.prog 139 [.A (t:Tr)] (.raw (.bool r)):=by
 unfold zoz at h
 refine zbd 9 mix Tryz.func139 ent139 ?_
 refine zf (zb ?_)
 refine zbz (a:= .ptr 0 0) (σ'':=(.B [(29,(Enc.cells (t:Tr)))])) ?_
 refine w_o (a:= .b false) ?_
 refine zr [.v (.A (t:Tr))] ?_
 refine zeh (.A (noneT:Tr)) (a0:=(zca noneT .full)) rfl rfl rfl (by kernel_rfl) (zj _ _) (by dsimp only[zh,List.set]) ?_
 obtain⟨g1,h⟩:=zi h
 obtain⟨x1,hx1,h⟩:=zo h
 refine zcq (args':=[.A (t:Tr),.A (noneT:Tr)]) (r:= .b x1) (by rw[←hx1];exact(qhr t noneT g1)) ?_
 refine zae h (fun hc1 h=> ?_) (fun hc1 h=> ?_)
 refine zbj hc1 ?_
 refine w_r [.p,.p,.v (.b true),.m _] ?_
 exact zbg h
 refine zbj hc1 ?_
 refine zaf rfl rfl ?_
 refine w_o (a:= .A (t:Tr)) ?_
 refine zaf rfl rfl ?_
 obtain⟨g2,h⟩:=zi h
 obtain⟨x2,hx2,h⟩:=zo h
 refine zcq (args':=[.A (t:Tr)]) (r:= .b x2) (by rw[←hx2];exact(ztz t g2)) ?_
 refine w_r [.v (.b x2),.m _] ?_
 exact zbg h
def zez (t:Tr):Option Tr:=
 (chk ((pre t).length<2^61) (zbc (zcd t) (fun x1=>(bif (!x1) then(some noneT) else(chk ((pre t).length<2^40) (zbc t (fun x2=>(some x2))))))))
theorem ent141:Ent Tryz.prog 141:=enters_of Tryz.func141 (by kernel_rfl) rfl
theorem zic (t:Tr)(r:Tr)(h:zez t=some r):Pure (ITP Tryz.prog) Tryz.prog 141 [.A (t:Tr)] (.A (r:Tr)):=by
 unfold zez at h
 refine zbd 8 mix Tryz.func141 ent141 ?_
 refine zf (zb ?_)
 refine zbz (a:= .ptr 0 0) (σ'':=(.B [(29,(Enc.cells (t:Tr)))])) ?_
 refine zbz (a:= .ptr 1 0) (σ'':=(.B [(29,(Enc.cells (t:Tr))),(29,[.u 0,.raw (.int .u64 0),.raw (.int .u64 0),.raw (.int .u64 0),.raw (.int .u64 0),.i 0,.i 0,.list 0 [] .full])])) ?_
 refine zf ?_
 refine zr [.v (.A (t:Tr))] ?_
 obtain⟨g1,h⟩:=zi h
 obtain⟨x1,hx1,h⟩:=zo h
 refine zcq (args':=[.A (t:Tr)]) (r:= .b x1) (by rw[←hx1];exact(ztz t g1)) ?_
 refine w_o (a:= .b (!x1)) ?_
 refine zci h (fun hc1 h=> ?_) (fun hc1 h=> ?_)
 refine zf (zb ?_)
 refine zeh (.A (noneT:Tr)) (a0:=(zca noneT .full)) rfl rfl rfl (by kernel_rfl) (zj _ _) (by dsimp only[zh,List.set]) ?_
 refine zcx 8 (.B [(29,(Enc.cells (t:Tr))),(29,(Enc.cells (noneT:Tr)))]) ?_
 exact zax (fun(r:Tr)=> .A (r:Tr)) h (.A (noneT:Tr))
 refine zr [.v (.A (t:Tr))] ?_
 obtain⟨g2,h⟩:=zi h
 obtain⟨x2,hx2,h⟩:=zo h
 refine zcq (args':=[.A (t:Tr)]) (r:= .A (x2:Tr)) (by rw[←hx2];exact(zkg t g2)) ?_
 refine zcx 8 (.B [(29,(Enc.cells (t:Tr))),(29,(Enc.cells (x2:Tr)))]) ?_
 exact zax (fun(r:Tr)=> .A (r:Tr)) h (.A (x2:Tr))
def zrg (fuel:Nat)(k:Int)(w:Int)(l:(List Tr)):Option (List Tr):=
 (zdn (τ:=(List Tr)) (zbv (β:=(List Tr)×Int) (fun s1=>(bif (decide (s1.2<(List.length l:Int))) then(zdn (τ:=(List Tr)) (chk (0≤s1.2∧s1.2<(List.length l:Int)) (zbc (ix l s1.2) (fun x1=>(bif (((x1.k:Nat):Int)==k) then(chk ((List.length s1.1+List.length x1.l)*80≤140737488355328) (some (Sum.inl ((s1.1++x1.l))))) else(bif (((x1.k:Nat):Int)==w) then(some (Sum.inl (s1.1))) else(chk ((List.length s1.1+List.length [x1])*80≤140737488355328) (some (Sum.inl ((s1.1++[x1])))))))))) (fun j2=>(chk (-9223372036854775808≤(s1.2+1)∧(s1.2+1)<9223372036854775808) (some (Sum.inl (j2,(s1.2+1))))))) else(some (Sum.inr (Sum.inl (s1.1)))))) fuel (([]:(List Tr)),0)) (fun j1=>(some j1)))
theorem ent138:Ent Tryz.prog 138:=enters_of Tryz.func138 (by kernel_rfl) rfl
theorem qfo (fuel:Nat)(k:Int)(w:Int)(l:(List Tr))(r:(List Tr))(h:zrg fuel k w l=some r):Pure (ITP Tryz.prog) Tryz.prog 138 [.raw (.int .u8 k),.raw (.int .u8 w),.L (l:List Tr)] (.L (r:List Tr)):=by
 unfold zrg at h
 refine zbd 31 mix Tryz.func138 ent138 ?_
 refine zr [.v (.list 0 [] .full)] ?_
 refine zr [.v (.list 0 [] .full)] ?_
 refine zau h (bz 0 34 17179869183) (fun j1=>[(7,(.O (j1:List Tr)))]) (fun j1=>(zbs [] 29 (List.length (j1:List Tr)) 8)) ?_ ?_
 intro or1 h hr1
 refine zr [.m _,.v (.i (List.length l:Int)),.v (.i 0)] ?_
 refine zp ?_
 refine zbx h (bz 0 34 17179866108) (fun s1=>[(7,(.O (s1.1:List Tr))),(12,.i s1.2)]) (fun s1=>(zbs [] 29 (List.length (s1.1:List Tr)) 8)) ?_ ?_
 exact zdl (bl 34 7299)
 intro s1 p1 h
 refine zfj ?_
 refine zr [.v (.b (decide (s1.2<(List.length l:Int))))] ?_
 refine zf ?_
 refine zci h (fun hc1 h=> ?_) (fun hc1 h=> ?_)
 refine zau h (bz 0 32 4294959744) (fun j2=>[(7,(.O (j2:List Tr)))]) (fun j2=>(zbs [] 29 (List.length (j2:List Tr)) 8)) ?_ ?_
 intro or2 h hr2
 refine zp ?_
 refine zf (zb ?_)
 obtain⟨g1,h⟩:=zi h
 obtain⟨x1,hx1,h⟩:=zo h
 refine zvo hx1 g1 ?_
 refine w_o (a:= .A (x1:Tr)) ?_
 refine zbz (a:= .ptr 0 0) (σ'':=(zbs [(29,[.u 0,.raw (.int .u64 0),.raw (.int .u64 0),.raw (.int .u64 0),.raw (.int .u64 0),.i 0,.i 0,.list 0 [] .full])] 29 (List.length (s1.1:List Tr)) 8)) ?_
 refine zcx 8 (zbs [(29,(Enc.cells (x1:Tr)))] 29 (List.length (s1.1:List Tr)) 8) ?_
 refine zr [.v (.ptr 0 0),.v (.u ((x1.k:Nat):Int))] ?_
 refine zp ?_
 refine zr [.m _,.v (.b (((x1.k:Nat):Int)==k)),.m _] ?_
 refine zci h (fun hc2 h=> ?_) (fun hc2 h=> ?_)
 refine zb (k0:=0) (id:=8) ?_
 refine w_r [.m _,.v (.ptr 0 7),.v (.L (x1.l:List Tr))] ?_
 obtain⟨g2,h⟩:=zi h
 refine zfp (a:=(.O ((s1.1++x1.l):List Tr))) (σ'':=(zbs [(29,(Enc.cells (x1:Tr)))] 29 (List.length ((s1.1++x1.l):List Tr)) 8)) rfl rfl rfl (zft rfl rfl rfl rfl (zdy (α:=Tr) (bs:=[(29,(Enc.cells (x1:Tr)))]) (a:=s1.1) (b:=x1.l) g2 rfl rfl rfl rfl rfl ⟨rfl,by decide⟩)) (by dsimp only[zh,List.set]) rfl ?_
 refine zab ?_
 refine zg (o:=or2) ((s1.1++x1.l)) h ?_
 exact zdd (bl 34 12884909567) 0 (by kernel_rfl) (Nat.le_of_ble_eq_true rfl) (zbi rfl) (by dsimp only[zac,zag,List.foldl,List.set,bz,bzc,Nat.reduceMod,Nat.reduceDiv,Nat.reduceBEq,Nat.reduceAdd];exact(za rfl (za rfl (za rfl (za rfl (za rfl (za rfl (za rfl (za (zcf (Enc.cloL _)) (za rfl (za rfl (za (zan (Enc.cloL _)) (by kernel_rfl))))))))))))) (by kernel_rfl)
 refine zr [.m _,.v (.b (((x1.k:Nat):Int)==w)),.m _] ?_
 refine zci h (fun hc3 h=> ?_) (fun hc3 h=> ?_)
 refine zg (o:=or2) (s1.1) h ?_
 exact zdd (bl 34 12884909567) 0 (by kernel_rfl) (Nat.le_of_ble_eq_true rfl) (zbi rfl) (by dsimp only[zac,zag,List.foldl,List.set,bz,bzc,Nat.reduceMod,Nat.reduceDiv,Nat.reduceBEq,Nat.reduceAdd];exact(za rfl (za rfl (za rfl (za rfl (za rfl (za rfl (za rfl (za (zcf (Enc.cloL _)) (za rfl (za rfl (za (zan (Enc.cloL _)) (by kernel_rfl))))))))))))) (by kernel_rfl)
 refine zb (k0:=0) (id:=6) ?_
 refine w_r [.m _,.v (.A (x1:Tr))] ?_
 refine w_o (a:= .F ([x1]:List Tr)) (h:=zbh (zev (α:=Tr) (l:=[x1]) (cs:=Enc.cells (x1:Tr)++[]) rfl (by rw[Enc.cons,Enc.nil]))) ?_
 obtain⟨g3,h⟩:=zi h
 refine zfp (a:=(.O ((s1.1++[x1]):List Tr))) (σ'':=(zbs [(29,(Enc.cells (x1:Tr)))] 29 (List.length ((s1.1++[x1]):List Tr)) 8)) rfl rfl rfl (zft rfl rfl rfl rfl (zdy (α:=Tr) (bs:=[(29,(Enc.cells (x1:Tr)))]) (a:=s1.1) (b:=[x1]) g3 rfl rfl rfl rfl rfl ⟨rfl,by decide⟩)) (by dsimp only[zh,List.set]) rfl ?_
 refine zab ?_
 refine zg (o:=or2) ((s1.1++[x1])) h ?_
 exact zdd (bl 34 12884909567) 0 (by kernel_rfl) (Nat.le_of_ble_eq_true rfl) (zbi rfl) (by dsimp only[zac,zag,List.foldl,List.set,bz,bzc,Nat.reduceMod,Nat.reduceDiv,Nat.reduceBEq,Nat.reduceAdd];exact(za rfl (za rfl (za rfl (za rfl (za rfl (za rfl (za rfl (za (zcf (Enc.cloL _)) (za rfl (za rfl (za (zan (Enc.cloL _)) (by kernel_rfl))))))))))))) (by kernel_rfl)
 intro j2 h
 refine zfj ?_
 refine zb (k0:=0) (id:=10) ?_
 obtain⟨g4,h⟩:=zi h
 refine zpe g4 ?_
 refine zab ?_
 refine zas (p:=p1) (j2,(s1.2+1)) h ?_
 exact zdl (bl 34 7299)
 refine zw h (fun h=> ?_)
 refine zg (o:=or1) (s1.1) h ?_
 exact zdl (bl 34 128)
 intro j1 h
 refine zfj ?_
 refine zr [.m _,.m _] ?_
 exact zax (fun(r:(List Tr))=> .L (r:List Tr)) h (.O (j1:List Tr))
def ziz (k:Int)(l:(List Tr))(z:Tr):Option Tr:=
 (bif ((List.length l:Int)==0) then(some z) else(bif ((List.length l:Int)==1) then(chk (0≤(0:Int)∧(0:Int)<(List.length l:Int)) (zbc (ix l (0:Int)) (fun x1=>(zav (zez x1) (fun x2=>(some x2)))))) else(chk (0≤k) (zav (zez (Tr.mk (Int.toNat k) (0#256) 0 0 l)) (fun x3=>(some x3))))))
theorem ent137:Ent Tryz.prog 137:=enters_of Tryz.func137 (by kernel_rfl) rfl
theorem z2g (k:Int)(l:(List Tr))(z:Tr)(r:Tr)(h:ziz k l z=some r):Pure (ITP Tryz.prog) Tryz.prog 137 [.raw (.int .u8 k),.L (l:List Tr),.A (z:Tr)] (.A (r:Tr)):=by
 unfold ziz at h
 refine zbd 19 mix Tryz.func137 ent137 ?_
 refine zf (zb ?_)
 refine zbz (a:= .ptr 0 0) (σ'':=(.B [(29,(Enc.cells (z:Tr)))])) ?_
 refine zbz (a:= .ptr 1 0) (σ'':=(.B [(29,(Enc.cells (z:Tr))),(29,[.u 0,.raw (.int .u64 0),.raw (.int .u64 0),.raw (.int .u64 0),.raw (.int .u64 0),.i 0,.i 0,.list 0 [] .full])])) ?_
 refine zf ?_
 refine zr [.m _,.v (.i (List.length l:Int))] ?_
 refine zp ?_
 refine zr [.v (.b ((List.length l:Int)==0)),.m _] ?_
 refine zci h (fun hc1 h=> ?_) (fun hc1 h=> ?_)
 refine zr [.v (.A (z:Tr))] ?_
 refine zcx 8 (.B [(29,(Enc.cells (z:Tr))),(29,(Enc.cells (z:Tr)))]) ?_
 exact zax (fun(r:Tr)=> .A (r:Tr)) h (.A (z:Tr))
 refine zr [.v (.b ((List.length l:Int)==1)),.m _] ?_
 refine zci h (fun hc2 h=> ?_) (fun hc2 h=> ?_)
 refine zr [.m _] ?_
 obtain⟨g1,h⟩:=zi h
 obtain⟨x1,hx1,h⟩:=zo h
 refine zvo hx1 g1 ?_
 refine w_o (a:= .A (x1:Tr)) ?_
 obtain⟨x2,hx2,h⟩:=zu h
 refine zcq (zic x1 x2 hx2) ?_
 refine zcx 8 (.B [(29,(Enc.cells (z:Tr))),(29,(Enc.cells (x2:Tr)))]) ?_
 exact zax (fun(r:Tr)=> .A (r:Tr)) h (.A (x2:Tr))
 refine zr [.m _,.m _] ?_
 obtain⟨g2,h⟩:=zi h
 refine zeh (.A ((Tr.mk (Int.toNat k) (0#256) 0 0 l):Tr)) (a0:=(qlo k (0#256) 0 0 l .none)) rfl rfl rfl (by kernel_rfl) (ztn g2 _ _ _ _ _) (by dsimp only[zh,List.set]) ?_
 obtain⟨x3,hx3,h⟩:=zu h
 refine zcq (zic (Tr.mk (Int.toNat k) (0#256) 0 0 l) x3 hx3) ?_
 refine zcx 8 (.B [(29,(Enc.cells (z:Tr))),(29,(Enc.cells (x3:Tr)))]) ?_
 exact zax (fun(r:Tr)=> .A (r:Tr)) h (.A (x3:Tr))
def qlc (fuel:Nat)(l:(List Tr)):Option Tr:=
 (zdn (τ:=Unit) (zbv (β:=Int) (fun s1=>(bif (decide (s1<(List.length l:Int))) then(chk (0≤s1∧s1<(List.length l:Int)) (zbc (ix l s1) (fun x1=>(bif (((x1.k:Nat):Int)==0) then(some (Sum.inr (Sum.inr noneT))) else(chk ((pre x1).length<2^61) (zbc (zcd x1) (fun x2=>(bif (!x2) then(some (Sum.inr (Sum.inr noneT))) else(chk (-9223372036854775808≤(s1+1)∧(s1+1)<9223372036854775808) (some (Sum.inl ((s1+1))))))))))))) else(some (Sum.inr (Sum.inl ()))))) fuel (0)) (fun j1=>(zav (zrg fuel 3 1 l) (fun x3=>(zav (ziz 3 x3 (Tr.mk 1 (0#256) 0 0 [])) (fun x4=>(some x4)))))))
theorem ent91:Ent Tryz.prog 91:=enters_of Tryz.func91 (by kernel_rfl) rfl
theorem seq_sh (fuel:Nat)(l:(List Tr))(r:Tr)(h:qlc fuel l=some r):Pure (ITP Tryz.prog) Tryz.prog 91 [.L (l:List Tr)] (.A (r:Tr)):=by
 unfold qlc at h
 refine zbd 24 mix Tryz.func91 ent91 ?_
 refine zf (zb ?_)
 refine zbz (a:= .ptr 0 0) (σ'':=(.B [(29,[.u 0,.raw (.int .u64 0),.raw (.int .u64 0),.raw (.int .u64 0),.raw (.int .u64 0),.i 0,.i 0,.list 0 [] .full])])) ?_
 refine zau h (bz 0 25 33554426) (fun j1=>[]) (fun j1=>(.B [(29,[.u 0,.raw (.int .u64 0),.raw (.int .u64 0),.raw (.int .u64 0),.raw (.int .u64 0),.i 0,.i 0,.list 0 [] .full])])) ?_ ?_
 intro or1 h hr1
 refine zr [.m _,.v (.i (List.length l:Int)),.v (.i 0)] ?_
 refine zp ?_
 refine zbx h (bz 0 25 33554330) (fun s1=>[(7,.i s1)]) (fun s1=>(.B [(29,[.u 0,.raw (.int .u64 0),.raw (.int .u64 0),.raw (.int .u64 0),.raw (.int .u64 0),.i 0,.i 0,.list 0 [] .full])])) ?_ ?_
 exact zdl (bl 25 229)
 intro s1 p1 h
 refine zfj ?_
 refine zr [.v (.b (decide (s1<(List.length l:Int))))] ?_
 refine zf ?_
 refine zci h (fun hc1 h=> ?_) (fun hc1 h=> ?_)
 refine zf ?_
 refine zp ?_
 refine zf (zb ?_)
 obtain⟨g1,h⟩:=zi h
 obtain⟨x1,hx1,h⟩:=zo h
 refine zvo hx1 g1 ?_
 refine w_o (a:= .A (x1:Tr)) ?_
 refine zbz (a:= .ptr 1 0) (σ'':=(.B [(29,[.u 0,.raw (.int .u64 0),.raw (.int .u64 0),.raw (.int .u64 0),.raw (.int .u64 0),.i 0,.i 0,.list 0 [] .full]),(29,[.u 0,.raw (.int .u64 0),.raw (.int .u64 0),.raw (.int .u64 0),.raw (.int .u64 0),.i 0,.i 0,.list 0 [] .full])])) ?_
 refine zcx 8 (.B [(29,[.u 0,.raw (.int .u64 0),.raw (.int .u64 0),.raw (.int .u64 0),.raw (.int .u64 0),.i 0,.i 0,.list 0 [] .full]),(29,(Enc.cells (x1:Tr)))]) ?_
 refine zr [.v (.ptr 1 0),.v (.u ((x1.k:Nat):Int)),.v (.b (((x1.k:Nat):Int)==0))] ?_
 refine zae h (fun hc2 h=> ?_) (fun hc2 h=> ?_)
 refine zbj hc2 ?_
 refine w_r [.p,.p,.p,.v (.b true)] ?_
 refine zce rfl ?_
 refine zf (zb ?_)
 refine zeh (.A (noneT:Tr)) (a0:=(zca noneT .full)) rfl rfl rfl (by kernel_rfl) (zj _ _) (by dsimp only[zh,List.set]) ?_
 refine zcx 8 (.B [(29,(Enc.cells (noneT:Tr))),(29,(Enc.cells (x1:Tr)))]) ?_
 refine zw h (fun h=> ?_)
 replace h:=zz h hr1
 exact zax (fun(r:Tr)=> .A (r:Tr)) h (.A (noneT:Tr))
 refine zbj hc2 ?_
 refine zaf rfl rfl ?_
 refine w_o (a:= .A (x1:Tr)) ?_
 refine zaf rfl rfl ?_
 obtain⟨g2,h⟩:=zi h
 obtain⟨x2,hx2,h⟩:=zo h
 refine zcq (args':=[.A (x1:Tr)]) (r:= .b x2) (by rw[←hx2];exact(ztz x1 g2)) ?_
 refine w_r [.v (.b (!x2)),.v (.b (!x2))] ?_
 refine zci h (fun hc3 h=> ?_) (fun hc3 h=> ?_)
 refine zf (zb ?_)
 refine zeh (.A (noneT:Tr)) (a0:=(zca noneT .full)) rfl rfl rfl (by kernel_rfl) (zj _ _) (by dsimp only[zh,List.set]) ?_
 refine zcx 8 (.B [(29,(Enc.cells (noneT:Tr))),(29,(Enc.cells (x1:Tr)))]) ?_
 refine zw h (fun h=> ?_)
 replace h:=zz h hr1
 exact zax (fun(r:Tr)=> .A (r:Tr)) h (.A (noneT:Tr))
 refine zb (k0:=0) (id:=6) ?_
 obtain⟨g3,h⟩:=zi h
 refine zpe g3 ?_
 refine zab ?_
 refine zas (p:=p1) ((s1+1)) h ?_
 exact zdd (bl 25 229) 1 (by kernel_rfl) (Nat.le_of_ble_eq_true rfl) (zbi (zt rfl rfl)) (by dsimp only[zac,zag,List.foldl,List.set,bz,bzc,Nat.reduceMod,Nat.reduceDiv,Nat.reduceBEq,Nat.reduceAdd];exact(za (zan (Enc.cloL _)) (za rfl (za (by decide) (za rfl (za rfl (za (zan (Enc.cloL _)) (by kernel_rfl)))))))) (by kernel_rfl)
 refine zw h (fun h=> ?_)
 refine zg (o:=or1) () h ?_
 exact zdl (bl 25 5)
 intro j1 h
 refine zfj ?_
 refine zr [.m _] ?_
 obtain⟨x3,hx3,h⟩:=zu h
 refine zcq (qfo fuel 3 1 l x3 hx3) ?_
 refine zeh (.A ((Tr.mk 1 (0#256) 0 0 []):Tr)) (a0:=(zca (Tr.mk 1 (0#256) 0 0 []) .full)) rfl rfl rfl (by kernel_rfl) (zj _ _) (by dsimp only[zh,List.set]) ?_
 obtain⟨x4,hx4,h⟩:=zu h
 refine zcq (z2g 3 x3 (Tr.mk 1 (0#256) 0 0 []) x4 hx4) ?_
 refine zcx 8 (.B [(29,(Enc.cells (x4:Tr)))]) ?_
 exact zax (fun(r:Tr)=> .A (r:Tr)) h (.A (x4:Tr))
def F_or (fuel:Nat)(l:(List Tr)):Option Tr:=
 (zdn (τ:=Unit) (zbv (β:=Int) (fun s1=>(bif (decide (s1<(List.length l:Int))) then(chk (0≤s1∧s1<(List.length l:Int)) (zbc (ix l s1) (fun x1=>(zav (zoz x1) (fun x2=>(bif (!x2) then(some (Sum.inr (Sum.inr noneT))) else(chk (-9223372036854775808≤(s1+1)∧(s1+1)<9223372036854775808) (some (Sum.inl ((s1+1))))))))))) else(some (Sum.inr (Sum.inl ()))))) fuel (0)) (fun j1=>(zav (zrg fuel 4 0 l) (fun x3=>(zav (ziz 4 x3 noneT) (fun x4=>(some x4)))))))
theorem ent92:Ent Tryz.prog 92:=enters_of Tryz.func92 (by kernel_rfl) rfl
theorem or_sh (fuel:Nat)(l:(List Tr))(r:Tr)(h:F_or fuel l=some r):Pure (ITP Tryz.prog) Tryz.prog 92 [.L (l:List Tr)] (.A (r:Tr)):=by
 unfold F_or at h
 refine zbd 19 mix Tryz.func92 ent92 ?_
 refine zf (zb ?_)
 refine zbz (a:= .ptr 0 0) (σ'':=(.B [(29,[.u 0,.raw (.int .u64 0),.raw (.int .u64 0),.raw (.int .u64 0),.raw (.int .u64 0),.i 0,.i 0,.list 0 [] .full])])) ?_
 refine zau h (bz 0 20 1048570) (fun j1=>[]) (fun j1=>(.B [(29,[.u 0,.raw (.int .u64 0),.raw (.int .u64 0),.raw (.int .u64 0),.raw (.int .u64 0),.i 0,.i 0,.list 0 [] .full])])) ?_ ?_
 intro or1 h hr1
 refine zr [.m _,.v (.i (List.length l:Int)),.v (.i 0)] ?_
 refine zp ?_
 refine zbx h (bz 0 20 1048474) (fun s1=>[(7,.i s1)]) (fun s1=>(.B [(29,[.u 0,.raw (.int .u64 0),.raw (.int .u64 0),.raw (.int .u64 0),.raw (.int .u64 0),.i 0,.i 0,.list 0 [] .full])])) ?_ ?_
 exact zdl (bl 20 229)
 intro s1 p1 h
 refine zfj ?_
 refine zr [.v (.b (decide (s1<(List.length l:Int))))] ?_
 refine zf ?_
 refine zci h (fun hc1 h=> ?_) (fun hc1 h=> ?_)
 refine zf ?_
 refine zp ?_
 refine zf (zb ?_)
 obtain⟨g1,h⟩:=zi h
 obtain⟨x1,hx1,h⟩:=zo h
 refine zvo hx1 g1 ?_
 refine w_o (a:= .A (x1:Tr)) ?_
 refine zbz (a:= .ptr 1 0) (σ'':=(.B [(29,[.u 0,.raw (.int .u64 0),.raw (.int .u64 0),.raw (.int .u64 0),.raw (.int .u64 0),.i 0,.i 0,.list 0 [] .full]),(29,[.u 0,.raw (.int .u64 0),.raw (.int .u64 0),.raw (.int .u64 0),.raw (.int .u64 0),.i 0,.i 0,.list 0 [] .full])])) ?_
 refine zcx 8 (.B [(29,[.u 0,.raw (.int .u64 0),.raw (.int .u64 0),.raw (.int .u64 0),.raw (.int .u64 0),.i 0,.i 0,.list 0 [] .full]),(29,(Enc.cells (x1:Tr)))]) ?_
 refine zr [.v (.A (x1:Tr))] ?_
 obtain⟨x2,hx2,h⟩:=zu h
 refine zcq (zta x1 x2 hx2) ?_
 refine w_o (a:= .b (!x2)) ?_
 refine zci h (fun hc2 h=> ?_) (fun hc2 h=> ?_)
 refine zf (zb ?_)
 refine zeh (.A (noneT:Tr)) (a0:=(zca noneT .full)) rfl rfl rfl (by kernel_rfl) (zj _ _) (by dsimp only[zh,List.set]) ?_
 refine zcx 8 (.B [(29,(Enc.cells (noneT:Tr))),(29,(Enc.cells (x1:Tr)))]) ?_
 refine zw h (fun h=> ?_)
 replace h:=zz h hr1
 exact zax (fun(r:Tr)=> .A (r:Tr)) h (.A (noneT:Tr))
 refine zb (k0:=0) (id:=6) ?_
 obtain⟨g2,h⟩:=zi h
 refine zpe g2 ?_
 refine zab ?_
 refine zas (p:=p1) ((s1+1)) h ?_
 exact zdd (bl 20 229) 1 (by kernel_rfl) (Nat.le_of_ble_eq_true rfl) (zbi (zt rfl rfl)) (by dsimp only[zac,zag,List.foldl,List.set,bz,bzc,Nat.reduceMod,Nat.reduceDiv,Nat.reduceBEq,Nat.reduceAdd];exact(za (zan (Enc.cloL _)) (za rfl (za (by decide) (za rfl (za rfl (za (zan (Enc.cloL _)) (by kernel_rfl)))))))) (by kernel_rfl)
 refine zw h (fun h=> ?_)
 refine zg (o:=or1) () h ?_
 exact zdl (bl 20 5)
 intro j1 h
 refine zfj ?_
 refine zr [.m _] ?_
 obtain⟨x3,hx3,h⟩:=zu h
 refine zcq (qfo fuel 4 0 l x3 hx3) ?_
 refine zeh (.A (noneT:Tr)) (a0:=(zca noneT .full)) rfl rfl rfl (by kernel_rfl) (zj _ _) (by dsimp only[zh,List.set]) ?_
 obtain⟨x4,hx4,h⟩:=zu h
 refine zcq (z2g 4 x3 noneT x4 hx4) ?_
 refine zcx 8 (.B [(29,(Enc.cells (x4:Tr)))]) ?_
 exact zax (fun(r:Tr)=> .A (r:Tr)) h (.A (x4:Tr))
def zyv (t:Tr)(lo:Int)(hi:Int):Option Tr:=
 (bif (lo==0) then(bif (lo==1) then(zdn (τ:=Unit) (zav (zoz t) (fun x1=>(bif (!x1) then(some (Sum.inr noneT)) else(bif (!(hi==0)) then(bif (!(hi==1)) then(zav (zgn lo hi) (fun x2=>(bif (!x2) then(some (Sum.inr noneT)) else(bif (((t.k:Nat):Int)==0) then(bif (decide (lo>0)) then(some (Sum.inr noneT)) else(bif (hi==0) then(some (Sum.inr (Tr.mk 1 (0#256) 0 0 []))) else(some (Sum.inr (Tr.mk 1 (0#256) 0 0 []))))) else(bif (hi==0) then(some (Sum.inr (Tr.mk 1 (0#256) 0 0 []))) else(bif (((t.k:Nat):Int)==1) then(some (Sum.inr (Tr.mk 1 (0#256) 0 0 []))) else(bif (hi==1) then(chk ((pre t).length<2^40) (zbc t (fun x3=>(some (Sum.inr x3))))) else(some (Sum.inl ()))))))))) else(bif (((t.k:Nat):Int)==0) then(bif (decide (lo>0)) then(some (Sum.inr noneT)) else(bif (hi==0) then(some (Sum.inr (Tr.mk 1 (0#256) 0 0 []))) else(some (Sum.inr (Tr.mk 1 (0#256) 0 0 []))))) else(bif (hi==0) then(some (Sum.inr (Tr.mk 1 (0#256) 0 0 []))) else(bif (((t.k:Nat):Int)==1) then(some (Sum.inr (Tr.mk 1 (0#256) 0 0 []))) else(bif (hi==1) then(chk ((pre t).length<2^40) (zbc t (fun x4=>(some (Sum.inr x4))))) else(some (Sum.inl ()))))))) else(bif (((t.k:Nat):Int)==0) then(bif (decide (lo>0)) then(some (Sum.inr noneT)) else(bif (hi==0) then(some (Sum.inr (Tr.mk 1 (0#256) 0 0 []))) else(some (Sum.inr (Tr.mk 1 (0#256) 0 0 []))))) else(bif (hi==0) then(some (Sum.inr (Tr.mk 1 (0#256) 0 0 []))) else(bif (((t.k:Nat):Int)==1) then(some (Sum.inr (Tr.mk 1 (0#256) 0 0 []))) else(bif (hi==1) then(chk ((pre t).length<2^40) (zbc t (fun x5=>(some (Sum.inr x5))))) else(some (Sum.inl ())))))))))) (fun j1=>(zav (zez (Tr.mk 5 (0#256) lo hi [t])) (fun x6=>(some x6))))) else(zdn (τ:=Unit) (zav (zoz t) (fun x7=>(bif (!x7) then(some (Sum.inr noneT)) else(bif (!(hi==0)) then(zav (zgn lo hi) (fun x8=>(bif (!x8) then(some (Sum.inr noneT)) else(bif (((t.k:Nat):Int)==0) then(bif (decide (lo>0)) then(some (Sum.inr noneT)) else(bif (hi==0) then(some (Sum.inr (Tr.mk 1 (0#256) 0 0 []))) else(some (Sum.inr (Tr.mk 1 (0#256) 0 0 []))))) else(bif (hi==0) then(some (Sum.inr (Tr.mk 1 (0#256) 0 0 []))) else(bif (((t.k:Nat):Int)==1) then(some (Sum.inr (Tr.mk 1 (0#256) 0 0 []))) else(some (Sum.inl ())))))))) else(bif (((t.k:Nat):Int)==0) then(bif (decide (lo>0)) then(some (Sum.inr noneT)) else(bif (hi==0) then(some (Sum.inr (Tr.mk 1 (0#256) 0 0 []))) else(some (Sum.inr (Tr.mk 1 (0#256) 0 0 []))))) else(bif (hi==0) then(some (Sum.inr (Tr.mk 1 (0#256) 0 0 []))) else(bif (((t.k:Nat):Int)==1) then(some (Sum.inr (Tr.mk 1 (0#256) 0 0 []))) else(some (Sum.inl ()))))))))) (fun j2=>(zav (zez (Tr.mk 5 (0#256) lo hi [t])) (fun x9=>(some x9)))))) else(bif (lo==1) then(zdn (τ:=Unit) (zav (zoz t) (fun x10=>(bif (!x10) then(some (Sum.inr noneT)) else(bif (!(hi==1)) then(zav (zgn lo hi) (fun x11=>(bif (!x11) then(some (Sum.inr noneT)) else(bif (((t.k:Nat):Int)==0) then(bif (decide (lo>0)) then(some (Sum.inr noneT)) else(some (Sum.inr (Tr.mk 1 (0#256) 0 0 [])))) else(bif (((t.k:Nat):Int)==1) then(some (Sum.inr (Tr.mk 1 (0#256) 0 0 []))) else(bif (hi==1) then(chk ((pre t).length<2^40) (zbc t (fun x12=>(some (Sum.inr x12))))) else(some (Sum.inl ())))))))) else(bif (((t.k:Nat):Int)==0) then(bif (decide (lo>0)) then(some (Sum.inr noneT)) else(some (Sum.inr (Tr.mk 1 (0#256) 0 0 [])))) else(bif (((t.k:Nat):Int)==1) then(some (Sum.inr (Tr.mk 1 (0#256) 0 0 []))) else(bif (hi==1) then(chk ((pre t).length<2^40) (zbc t (fun x13=>(some (Sum.inr x13))))) else(some (Sum.inl ()))))))))) (fun j3=>(zav (zez (Tr.mk 5 (0#256) lo hi [t])) (fun x14=>(some x14))))) else(zav (zoz t) (fun x15=>(bif (!x15) then(some noneT) else(zav (zgn lo hi) (fun x16=>(bif (!x16) then(some noneT) else(bif (((t.k:Nat):Int)==0) then(bif (decide (lo>0)) then(some noneT) else(some (Tr.mk 1 (0#256) 0 0 []))) else(bif (((t.k:Nat):Int)==1) then(some (Tr.mk 1 (0#256) 0 0 [])) else(zav (zez (Tr.mk 5 (0#256) lo hi [t])) (fun x17=>(some x17)))))))))))))
theorem ent93:Ent Tryz.prog 93:=enters_of Tryz.func93 (by kernel_rfl) rfl
theorem qkx (t:Tr)(lo:Int)(hi:Int)(r:Tr)(h:zyv t lo hi=some r):Pure (ITP Tryz.prog) Tryz.prog 93 [.A (t:Tr),.raw (.int .i64 lo),.raw (.int .i64 hi)] (.A (r:Tr)):=by
 unfold zyv at h
 refine zbd 69 mix Tryz.func93 ent93 ?_
 refine zf (zb ?_)
 refine zbz (a:= .ptr 0 0) (σ'':=(.B [(29,(Enc.cells (t:Tr)))])) ?_
 refine zbz (a:= .ptr 1 0) (σ'':=(.B [(29,(Enc.cells (t:Tr))),(29,[.u 0,.raw (.int .u64 0),.raw (.int .u64 0),.raw (.int .u64 0),.raw (.int .u64 0),.i 0,.i 0,.list 0 [] .full])])) ?_
 refine zr [.m _,.v (.b (lo==0))] ?_
 refine zae h (fun hc1 h=> ?_) (fun hc1 h=> ?_)
 refine zbj hc1 ?_
 refine w_r [.m _,.v (.b (hi==0)),.v (.b (hi==0)),.m _,.v (.b (lo==1))] ?_
 refine zae h (fun hc2 h=> ?_) (fun hc2 h=> ?_)
 refine zbj hc2 ?_
 refine w_r [.m _,.v (.b (hi==1)),.v (.b (hi==1)),.m _,.m _] ?_
 refine zau h (bz 0 72 4722366482869645213617) (fun j1=>[]) (fun j1=>(.B [(29,(Enc.cells (t:Tr))),(29,[.u 0,.raw (.int .u64 0),.raw (.int .u64 0),.raw (.int .u64 0),.raw (.int .u64 0),.i 0,.i 0,.list 0 [] .full])])) ?_ ?_
 intro or1 h hr1
 refine zp ?_
 refine zr [.v (.A (t:Tr))] ?_
 obtain⟨x1,hx1,h⟩:=zu h
 refine zcq (zta t x1 hx1) ?_
 refine w_o (a:= .b (!x1)) ?_
 refine zae h (fun hc3 h=> ?_) (fun hc3 h=> ?_)
 refine zbj hc3 ?_
 refine w_r [.p,.p,.p,.p,.p] ?_
 refine w_r [.p,.p,.p,.p,.p] ?_
 refine w_r [.p,.p,.v (.b true),.m _] ?_
 refine zce rfl ?_
 refine zf (zb ?_)
 refine zeh (.A (noneT:Tr)) (a0:=(zca noneT .full)) rfl rfl rfl (by kernel_rfl) (zj _ _) (by dsimp only[zh,List.set]) ?_
 refine zcx 8 (.B [(29,(Enc.cells (t:Tr))),(29,(Enc.cells (noneT:Tr)))]) ?_
 replace h:=zz h hr1
 exact zax (fun(r:Tr)=> .A (r:Tr)) h (.A (noneT:Tr))
 refine zbj hc3 ?_
 refine w_r [.m _,.v (.b (!(hi==0)))] ?_
 refine zaf rfl rfl ?_
 refine zae h (fun hc4 h=> ?_) (fun hc4 h=> ?_)
 refine zbj hc4 ?_
 refine w_r [.m _,.v (.b (!(hi==1))),.v (.b (!(hi==1)))] ?_
 refine zaf rfl rfl ?_
 refine zae h (fun hc5 h=> ?_) (fun hc5 h=> ?_)
 refine zbj hc5 ?_
 refine w_r [.m _,.m _] ?_
 refine zaf rfl rfl ?_
 obtain⟨x2,hx2,h⟩:=zu h
 refine zcq (zjp lo hi x2 hx2) ?_
 refine w_r [.v (.b (!x2)),.v (.b (!x2)),.v (.b (!x2)),.m _] ?_
 refine zci h (fun hc6 h=> ?_) (fun hc6 h=> ?_)
 refine zf (zb ?_)
 refine zeh (.A (noneT:Tr)) (a0:=(zca noneT .full)) rfl rfl rfl (by kernel_rfl) (zj _ _) (by dsimp only[zh,List.set]) ?_
 refine zcx 8 (.B [(29,(Enc.cells (t:Tr))),(29,(Enc.cells (noneT:Tr)))]) ?_
 replace h:=zz h hr1
 exact zax (fun(r:Tr)=> .A (r:Tr)) h (.A (noneT:Tr))
 refine zr [.v (.ptr 0 0),.v (.u ((t.k:Nat):Int)),.v (.b (((t.k:Nat):Int)==0))] ?_
 refine zae h (fun hc7 h=> ?_) (fun hc7 h=> ?_)
 refine zbj hc7 ?_
 refine w_r [.m _,.v (.b (decide (lo>0))),.v (.b (decide (lo>0))),.m _] ?_
 refine zci h (fun hc8 h=> ?_) (fun hc8 h=> ?_)
 refine zf (zb ?_)
 refine zeh (.A (noneT:Tr)) (a0:=(zca noneT .full)) rfl rfl rfl (by kernel_rfl) (zj _ _) (by dsimp only[zh,List.set]) ?_
 refine zcx 8 (.B [(29,(Enc.cells (t:Tr))),(29,(Enc.cells (noneT:Tr)))]) ?_
 replace h:=zz h hr1
 exact zax (fun(r:Tr)=> .A (r:Tr)) h (.A (noneT:Tr))
 refine zr [.m _] ?_
 refine zae h (fun hc9 h=> ?_) (fun hc9 h=> ?_)
 refine zbj hc9 ?_
 refine w_r [.p,.p,.p,.v (.b true),.m _] ?_
 refine w_r [.p,.p,.p,.v (.b true),.m _] ?_
 refine zce rfl ?_
 refine zf (zb ?_)
 refine zeh (.A ((Tr.mk 1 (0#256) 0 0 []):Tr)) (a0:=(zca (Tr.mk 1 (0#256) 0 0 []) .full)) rfl rfl rfl (by kernel_rfl) (zj _ _) (by dsimp only[zh,List.set]) ?_
 refine zcx 8 (.B [(29,(Enc.cells (t:Tr))),(29,(Enc.cells ((Tr.mk 1 (0#256) 0 0 []):Tr)))]) ?_
 replace h:=zz h hr1
 exact zax (fun(r:Tr)=> .A (r:Tr)) h (.A ((Tr.mk 1 (0#256) 0 0 []):Tr))
 refine zbj hc9 ?_
 refine w_r [.v (.ptr 0 0),.v (.u ((t.k:Nat):Int)),.v (.b (((t.k:Nat):Int)==0)),.v (.b (((t.k:Nat):Int)==0))] ?_
 refine zbj hc7 ?_
 refine w_r [.p,.p,.p,.v (.b true),.m _] ?_
 refine zce rfl ?_
 refine zf (zb ?_)
 refine zeh (.A ((Tr.mk 1 (0#256) 0 0 []):Tr)) (a0:=(zca (Tr.mk 1 (0#256) 0 0 []) .full)) rfl rfl rfl (by kernel_rfl) (zj _ _) (by dsimp only[zh,List.set]) ?_
 refine zcx 8 (.B [(29,(Enc.cells (t:Tr))),(29,(Enc.cells ((Tr.mk 1 (0#256) 0 0 []):Tr)))]) ?_
 replace h:=zz h hr1
 exact zax (fun(r:Tr)=> .A (r:Tr)) h (.A ((Tr.mk 1 (0#256) 0 0 []):Tr))
 refine zbj hc7 ?_
 refine w_r [.p,.p,.v (.b false),.m _] ?_
 refine zcl rfl ?_
 refine zr [.m _] ?_
 refine zae h (fun hc10 h=> ?_) (fun hc10 h=> ?_)
 refine zbj hc10 ?_
 refine w_r [.p,.p,.p,.v (.b true),.m _] ?_
 refine w_r [.p,.p,.p,.v (.b true),.m _] ?_
 refine zce rfl ?_
 refine zf (zb ?_)
 refine zeh (.A ((Tr.mk 1 (0#256) 0 0 []):Tr)) (a0:=(zca (Tr.mk 1 (0#256) 0 0 []) .full)) rfl rfl rfl (by kernel_rfl) (zj _ _) (by dsimp only[zh,List.set]) ?_
 refine zcx 8 (.B [(29,(Enc.cells (t:Tr))),(29,(Enc.cells ((Tr.mk 1 (0#256) 0 0 []):Tr)))]) ?_
 replace h:=zz h hr1
 exact zax (fun(r:Tr)=> .A (r:Tr)) h (.A ((Tr.mk 1 (0#256) 0 0 []):Tr))
 refine zbj hc10 ?_
 refine w_r [.v (.ptr 0 0),.v (.u ((t.k:Nat):Int)),.v (.b (((t.k:Nat):Int)==0)),.v (.b (((t.k:Nat):Int)==0))] ?_
 refine zbj hc7 ?_
 refine w_r [.v (.ptr 0 0),.v (.u ((t.k:Nat):Int)),.v (.b (((t.k:Nat):Int)==1)),.v (.b (((t.k:Nat):Int)==1)),.m _] ?_
 refine zci h (fun hc11 h=> ?_) (fun hc11 h=> ?_)
 refine zf (zb ?_)
 refine zeh (.A ((Tr.mk 1 (0#256) 0 0 []):Tr)) (a0:=(zca (Tr.mk 1 (0#256) 0 0 []) .full)) rfl rfl rfl (by kernel_rfl) (zj _ _) (by dsimp only[zh,List.set]) ?_
 refine zcx 8 (.B [(29,(Enc.cells (t:Tr))),(29,(Enc.cells ((Tr.mk 1 (0#256) 0 0 []):Tr)))]) ?_
 replace h:=zz h hr1
 exact zax (fun(r:Tr)=> .A (r:Tr)) h (.A ((Tr.mk 1 (0#256) 0 0 []):Tr))
 refine zr [.m _,.m _] ?_
 refine zci h (fun hc12 h=> ?_) (fun hc12 h=> ?_)
 refine zr [.v (.A (t:Tr))] ?_
 obtain⟨g1,h⟩:=zi h
 obtain⟨x3,hx3,h⟩:=zo h
 refine zcq (args':=[.A (t:Tr)]) (r:= .A (x3:Tr)) (by rw[←hx3];exact(zkg t g1)) ?_
 refine zcx 8 (.B [(29,(Enc.cells (t:Tr))),(29,(Enc.cells (x3:Tr)))]) ?_
 replace h:=zz h hr1
 exact zax (fun(r:Tr)=> .A (r:Tr)) h (.A (x3:Tr))
 refine zg (o:=or1) () h ?_
 exact zdl (bl 72 78)
 refine zbj hc5 ?_
 refine w_r [.p,.p,.p,.p,.v (.b false)] ?_
 refine w_r [.v (.b false),.m _] ?_
 refine zcl rfl ?_
 refine zr [.v (.ptr 0 0),.v (.u ((t.k:Nat):Int)),.v (.b (((t.k:Nat):Int)==0))] ?_
 refine zae h (fun hc13 h=> ?_) (fun hc13 h=> ?_)
 refine zbj hc13 ?_
 refine w_r [.m _,.v (.b (decide (lo>0))),.v (.b (decide (lo>0))),.m _] ?_
 refine zci h (fun hc14 h=> ?_) (fun hc14 h=> ?_)
 refine zf (zb ?_)
 refine zeh (.A (noneT:Tr)) (a0:=(zca noneT .full)) rfl rfl rfl (by kernel_rfl) (zj _ _) (by dsimp only[zh,List.set]) ?_
 refine zcx 8 (.B [(29,(Enc.cells (t:Tr))),(29,(Enc.cells (noneT:Tr)))]) ?_
 replace h:=zz h hr1
 exact zax (fun(r:Tr)=> .A (r:Tr)) h (.A (noneT:Tr))
 refine zr [.m _] ?_
 refine zae h (fun hc15 h=> ?_) (fun hc15 h=> ?_)
 refine zbj hc15 ?_
 refine w_r [.p,.p,.p,.v (.b true),.m _] ?_
 refine w_r [.p,.p,.p,.v (.b true),.m _] ?_
 refine zce rfl ?_
 refine zf (zb ?_)
 refine zeh (.A ((Tr.mk 1 (0#256) 0 0 []):Tr)) (a0:=(zca (Tr.mk 1 (0#256) 0 0 []) .full)) rfl rfl rfl (by kernel_rfl) (zj _ _) (by dsimp only[zh,List.set]) ?_
 refine zcx 8 (.B [(29,(Enc.cells (t:Tr))),(29,(Enc.cells ((Tr.mk 1 (0#256) 0 0 []):Tr)))]) ?_
 replace h:=zz h hr1
 exact zax (fun(r:Tr)=> .A (r:Tr)) h (.A ((Tr.mk 1 (0#256) 0 0 []):Tr))
 refine zbj hc15 ?_
 refine w_r [.v (.ptr 0 0),.v (.u ((t.k:Nat):Int)),.v (.b (((t.k:Nat):Int)==0)),.v (.b (((t.k:Nat):Int)==0))] ?_
 refine zbj hc13 ?_
 refine w_r [.p,.p,.p,.v (.b true),.m _] ?_
 refine zce rfl ?_
 refine zf (zb ?_)
 refine zeh (.A ((Tr.mk 1 (0#256) 0 0 []):Tr)) (a0:=(zca (Tr.mk 1 (0#256) 0 0 []) .full)) rfl rfl rfl (by kernel_rfl) (zj _ _) (by dsimp only[zh,List.set]) ?_
 refine zcx 8 (.B [(29,(Enc.cells (t:Tr))),(29,(Enc.cells ((Tr.mk 1 (0#256) 0 0 []):Tr)))]) ?_
 replace h:=zz h hr1
 exact zax (fun(r:Tr)=> .A (r:Tr)) h (.A ((Tr.mk 1 (0#256) 0 0 []):Tr))
 refine zbj hc13 ?_
 refine w_r [.p,.p,.v (.b false),.m _] ?_
 refine zcl rfl ?_
 refine zr [.m _] ?_
 refine zae h (fun hc16 h=> ?_) (fun hc16 h=> ?_)
 refine zbj hc16 ?_
 refine w_r [.p,.p,.p,.v (.b true),.m _] ?_
 refine w_r [.p,.p,.p,.v (.b true),.m _] ?_
 refine zce rfl ?_
 refine zf (zb ?_)
 refine zeh (.A ((Tr.mk 1 (0#256) 0 0 []):Tr)) (a0:=(zca (Tr.mk 1 (0#256) 0 0 []) .full)) rfl rfl rfl (by kernel_rfl) (zj _ _) (by dsimp only[zh,List.set]) ?_
 refine zcx 8 (.B [(29,(Enc.cells (t:Tr))),(29,(Enc.cells ((Tr.mk 1 (0#256) 0 0 []):Tr)))]) ?_
 replace h:=zz h hr1
 exact zax (fun(r:Tr)=> .A (r:Tr)) h (.A ((Tr.mk 1 (0#256) 0 0 []):Tr))
 refine zbj hc16 ?_
 refine w_r [.v (.ptr 0 0),.v (.u ((t.k:Nat):Int)),.v (.b (((t.k:Nat):Int)==0)),.v (.b (((t.k:Nat):Int)==0))] ?_
 refine zbj hc13 ?_
 refine w_r [.v (.ptr 0 0),.v (.u ((t.k:Nat):Int)),.v (.b (((t.k:Nat):Int)==1)),.v (.b (((t.k:Nat):Int)==1)),.m _] ?_
 refine zci h (fun hc17 h=> ?_) (fun hc17 h=> ?_)
 refine zf (zb ?_)
 refine zeh (.A ((Tr.mk 1 (0#256) 0 0 []):Tr)) (a0:=(zca (Tr.mk 1 (0#256) 0 0 []) .full)) rfl rfl rfl (by kernel_rfl) (zj _ _) (by dsimp only[zh,List.set]) ?_
 refine zcx 8 (.B [(29,(Enc.cells (t:Tr))),(29,(Enc.cells ((Tr.mk 1 (0#256) 0 0 []):Tr)))]) ?_
 replace h:=zz h hr1
 exact zax (fun(r:Tr)=> .A (r:Tr)) h (.A ((Tr.mk 1 (0#256) 0 0 []):Tr))
 refine zr [.m _,.m _] ?_
 refine zci h (fun hc18 h=> ?_) (fun hc18 h=> ?_)
 refine zr [.v (.A (t:Tr))] ?_
 obtain⟨g2,h⟩:=zi h
 obtain⟨x4,hx4,h⟩:=zo h
 refine zcq (args':=[.A (t:Tr)]) (r:= .A (x4:Tr)) (by rw[←hx4];exact(zkg t g2)) ?_
 refine zcx 8 (.B [(29,(Enc.cells (t:Tr))),(29,(Enc.cells (x4:Tr)))]) ?_
 replace h:=zz h hr1
 exact zax (fun(r:Tr)=> .A (r:Tr)) h (.A (x4:Tr))
 refine zg (o:=or1) () h ?_
 exact zdl (bl 72 78)
 refine zbj hc4 ?_
 refine w_r [.p,.p,.v (.b false),.m _,.p] ?_
 refine w_r [.p,.p,.p,.v (.b false),.v (.b false)] ?_
 refine w_r [.m _] ?_
 refine zcl rfl ?_
 refine zr [.v (.ptr 0 0),.v (.u ((t.k:Nat):Int)),.v (.b (((t.k:Nat):Int)==0))] ?_
 refine zae h (fun hc19 h=> ?_) (fun hc19 h=> ?_)
 refine zbj hc19 ?_
 refine w_r [.m _,.v (.b (decide (lo>0))),.v (.b (decide (lo>0))),.m _] ?_
 refine zci h (fun hc20 h=> ?_) (fun hc20 h=> ?_)
 refine zf (zb ?_)
 refine zeh (.A (noneT:Tr)) (a0:=(zca noneT .full)) rfl rfl rfl (by kernel_rfl) (zj _ _) (by dsimp only[zh,List.set]) ?_
 refine zcx 8 (.B [(29,(Enc.cells (t:Tr))),(29,(Enc.cells (noneT:Tr)))]) ?_
 replace h:=zz h hr1
 exact zax (fun(r:Tr)=> .A (r:Tr)) h (.A (noneT:Tr))
 refine zr [.m _] ?_
 refine zae h (fun hc21 h=> ?_) (fun hc21 h=> ?_)
 refine zbj hc21 ?_
 refine w_r [.p,.p,.p,.v (.b true),.m _] ?_
 refine w_r [.p,.p,.p,.v (.b true),.m _] ?_
 refine zce rfl ?_
 refine zf (zb ?_)
 refine zeh (.A ((Tr.mk 1 (0#256) 0 0 []):Tr)) (a0:=(zca (Tr.mk 1 (0#256) 0 0 []) .full)) rfl rfl rfl (by kernel_rfl) (zj _ _) (by dsimp only[zh,List.set]) ?_
 refine zcx 8 (.B [(29,(Enc.cells (t:Tr))),(29,(Enc.cells ((Tr.mk 1 (0#256) 0 0 []):Tr)))]) ?_
 replace h:=zz h hr1
 exact zax (fun(r:Tr)=> .A (r:Tr)) h (.A ((Tr.mk 1 (0#256) 0 0 []):Tr))
 refine zbj hc21 ?_
 refine w_r [.v (.ptr 0 0),.v (.u ((t.k:Nat):Int)),.v (.b (((t.k:Nat):Int)==0)),.v (.b (((t.k:Nat):Int)==0))] ?_
 refine zbj hc19 ?_
 refine w_r [.p,.p,.p,.v (.b true),.m _] ?_
 refine zce rfl ?_
 refine zf (zb ?_)
 refine zeh (.A ((Tr.mk 1 (0#256) 0 0 []):Tr)) (a0:=(zca (Tr.mk 1 (0#256) 0 0 []) .full)) rfl rfl rfl (by kernel_rfl) (zj _ _) (by dsimp only[zh,List.set]) ?_
 refine zcx 8 (.B [(29,(Enc.cells (t:Tr))),(29,(Enc.cells ((Tr.mk 1 (0#256) 0 0 []):Tr)))]) ?_
 replace h:=zz h hr1
 exact zax (fun(r:Tr)=> .A (r:Tr)) h (.A ((Tr.mk 1 (0#256) 0 0 []):Tr))
 refine zbj hc19 ?_
 refine w_r [.p,.p,.v (.b false),.m _] ?_
 refine zcl rfl ?_
 refine zr [.m _] ?_
 refine zae h (fun hc22 h=> ?_) (fun hc22 h=> ?_)
 refine zbj hc22 ?_
 refine w_r [.p,.p,.p,.v (.b true),.m _] ?_
 refine w_r [.p,.p,.p,.v (.b true),.m _] ?_
 refine zce rfl ?_
 refine zf (zb ?_)
 refine zeh (.A ((Tr.mk 1 (0#256) 0 0 []):Tr)) (a0:=(zca (Tr.mk 1 (0#256) 0 0 []) .full)) rfl rfl rfl (by kernel_rfl) (zj _ _) (by dsimp only[zh,List.set]) ?_
 refine zcx 8 (.B [(29,(Enc.cells (t:Tr))),(29,(Enc.cells ((Tr.mk 1 (0#256) 0 0 []):Tr)))]) ?_
 replace h:=zz h hr1
 exact zax (fun(r:Tr)=> .A (r:Tr)) h (.A ((Tr.mk 1 (0#256) 0 0 []):Tr))
 refine zbj hc22 ?_
 refine w_r [.v (.ptr 0 0),.v (.u ((t.k:Nat):Int)),.v (.b (((t.k:Nat):Int)==0)),.v (.b (((t.k:Nat):Int)==0))] ?_
 refine zbj hc19 ?_
 refine w_r [.v (.ptr 0 0),.v (.u ((t.k:Nat):Int)),.v (.b (((t.k:Nat):Int)==1)),.v (.b (((t.k:Nat):Int)==1)),.m _] ?_
 refine zci h (fun hc23 h=> ?_) (fun hc23 h=> ?_)
 refine zf (zb ?_)
 refine zeh (.A ((Tr.mk 1 (0#256) 0 0 []):Tr)) (a0:=(zca (Tr.mk 1 (0#256) 0 0 []) .full)) rfl rfl rfl (by kernel_rfl) (zj _ _) (by dsimp only[zh,List.set]) ?_
 refine zcx 8 (.B [(29,(Enc.cells (t:Tr))),(29,(Enc.cells ((Tr.mk 1 (0#256) 0 0 []):Tr)))]) ?_
 replace h:=zz h hr1
 exact zax (fun(r:Tr)=> .A (r:Tr)) h (.A ((Tr.mk 1 (0#256) 0 0 []):Tr))
 refine zr [.m _,.m _] ?_
 refine zci h (fun hc24 h=> ?_) (fun hc24 h=> ?_)
 refine zr [.v (.A (t:Tr))] ?_
 obtain⟨g3,h⟩:=zi h
 obtain⟨x5,hx5,h⟩:=zo h
 refine zcq (args':=[.A (t:Tr)]) (r:= .A (x5:Tr)) (by rw[←hx5];exact(zkg t g3)) ?_
 refine zcx 8 (.B [(29,(Enc.cells (t:Tr))),(29,(Enc.cells (x5:Tr)))]) ?_
 replace h:=zz h hr1
 exact zax (fun(r:Tr)=> .A (r:Tr)) h (.A (x5:Tr))
 refine zg (o:=or1) () h ?_
 exact zdl (bl 72 78)
 intro j1 h
 refine zfj ?_
 refine zr [.m _,.m _,.v (.A (t:Tr))] ?_
 refine w_o (a:= .F ([t]:List Tr)) (h:=zbh (zev (α:=Tr) (l:=[t]) (cs:=Enc.cells (t:Tr)++[]) rfl (by rw[Enc.cons,Enc.nil]))) ?_
 refine zeh (.A ((Tr.mk 5 (0#256) lo hi [t]):Tr)) (a0:=(zca (Tr.mk 5 (0#256) lo hi [t]) .full)) rfl rfl rfl (by kernel_rfl) (zj _ _) (by dsimp only[zh,List.set]) ?_
 obtain⟨x6,hx6,h⟩:=zu h
 refine zcq (zic (Tr.mk 5 (0#256) lo hi [t]) x6 hx6) ?_
 refine zcx 8 (.B [(29,(Enc.cells (t:Tr))),(29,(Enc.cells (x6:Tr)))]) ?_
 exact zax (fun(r:Tr)=> .A (r:Tr)) h (.A (x6:Tr))
 refine zbj hc2 ?_
 refine w_r [.p,.p,.v (.b false),.m _,.m _] ?_
 refine zau h (bz 0 72 4722366482869645213617) (fun j2=>[]) (fun j2=>(.B [(29,(Enc.cells (t:Tr))),(29,[.u 0,.raw (.int .u64 0),.raw (.int .u64 0),.raw (.int .u64 0),.raw (.int .u64 0),.i 0,.i 0,.list 0 [] .full])])) ?_ ?_
 intro or2 h hr2
 refine zp ?_
 refine zr [.v (.A (t:Tr))] ?_
 obtain⟨x7,hx7,h⟩:=zu h
 refine zcq (zta t x7 hx7) ?_
 refine w_o (a:= .b (!x7)) ?_
 refine zae h (fun hc25 h=> ?_) (fun hc25 h=> ?_)
 refine zbj hc25 ?_
 refine w_r [.p,.p,.p,.p,.p] ?_
 refine w_r [.p,.p,.p,.p,.p] ?_
 refine w_r [.p,.p,.v (.b true),.m _] ?_
 refine zce rfl ?_
 refine zf (zb ?_)
 refine zeh (.A (noneT:Tr)) (a0:=(zca noneT .full)) rfl rfl rfl (by kernel_rfl) (zj _ _) (by dsimp only[zh,List.set]) ?_
 refine zcx 8 (.B [(29,(Enc.cells (t:Tr))),(29,(Enc.cells (noneT:Tr)))]) ?_
 replace h:=zz h hr2
 exact zax (fun(r:Tr)=> .A (r:Tr)) h (.A (noneT:Tr))
 refine zbj hc25 ?_
 refine w_r [.m _,.v (.b (!(hi==0)))] ?_
 refine zaf rfl rfl ?_
 refine zae h (fun hc26 h=> ?_) (fun hc26 h=> ?_)
 refine zbj hc26 ?_
 refine w_r [.m _,.v (.b true),.v (.b true),.m _,.m _] ?_
 refine w_r [.m _] ?_
 refine zaf rfl rfl ?_
 obtain⟨x8,hx8,h⟩:=zu h
 refine zcq (zjp lo hi x8 hx8) ?_
 refine w_r [.v (.b (!x8)),.v (.b (!x8)),.v (.b (!x8)),.m _] ?_
 refine zci h (fun hc27 h=> ?_) (fun hc27 h=> ?_)
 refine zf (zb ?_)
 refine zeh (.A (noneT:Tr)) (a0:=(zca noneT .full)) rfl rfl rfl (by kernel_rfl) (zj _ _) (by dsimp only[zh,List.set]) ?_
 refine zcx 8 (.B [(29,(Enc.cells (t:Tr))),(29,(Enc.cells (noneT:Tr)))]) ?_
 replace h:=zz h hr2
 exact zax (fun(r:Tr)=> .A (r:Tr)) h (.A (noneT:Tr))
 refine zr [.v (.ptr 0 0),.v (.u ((t.k:Nat):Int)),.v (.b (((t.k:Nat):Int)==0))] ?_
 refine zae h (fun hc28 h=> ?_) (fun hc28 h=> ?_)
 refine zbj hc28 ?_
 refine w_r [.m _,.v (.b (decide (lo>0))),.v (.b (decide (lo>0))),.m _] ?_
 refine zci h (fun hc29 h=> ?_) (fun hc29 h=> ?_)
 refine zf (zb ?_)
 refine zeh (.A (noneT:Tr)) (a0:=(zca noneT .full)) rfl rfl rfl (by kernel_rfl) (zj _ _) (by dsimp only[zh,List.set]) ?_
 refine zcx 8 (.B [(29,(Enc.cells (t:Tr))),(29,(Enc.cells (noneT:Tr)))]) ?_
 replace h:=zz h hr2
 exact zax (fun(r:Tr)=> .A (r:Tr)) h (.A (noneT:Tr))
 refine zr [.m _] ?_
 refine zae h (fun hc30 h=> ?_) (fun hc30 h=> ?_)
 refine zbj hc30 ?_
 refine w_r [.p,.p,.p,.v (.b true),.m _] ?_
 refine w_r [.p,.p,.p,.v (.b true),.m _] ?_
 refine zce rfl ?_
 refine zf (zb ?_)
 refine zeh (.A ((Tr.mk 1 (0#256) 0 0 []):Tr)) (a0:=(zca (Tr.mk 1 (0#256) 0 0 []) .full)) rfl rfl rfl (by kernel_rfl) (zj _ _) (by dsimp only[zh,List.set]) ?_
 refine zcx 8 (.B [(29,(Enc.cells (t:Tr))),(29,(Enc.cells ((Tr.mk 1 (0#256) 0 0 []):Tr)))]) ?_
 replace h:=zz h hr2
 exact zax (fun(r:Tr)=> .A (r:Tr)) h (.A ((Tr.mk 1 (0#256) 0 0 []):Tr))
 refine zbj hc30 ?_
 refine w_r [.v (.ptr 0 0),.v (.u ((t.k:Nat):Int)),.v (.b (((t.k:Nat):Int)==0)),.v (.b (((t.k:Nat):Int)==0))] ?_
 refine zbj hc28 ?_
 refine w_r [.p,.p,.p,.v (.b true),.m _] ?_
 refine zce rfl ?_
 refine zf (zb ?_)
 refine zeh (.A ((Tr.mk 1 (0#256) 0 0 []):Tr)) (a0:=(zca (Tr.mk 1 (0#256) 0 0 []) .full)) rfl rfl rfl (by kernel_rfl) (zj _ _) (by dsimp only[zh,List.set]) ?_
 refine zcx 8 (.B [(29,(Enc.cells (t:Tr))),(29,(Enc.cells ((Tr.mk 1 (0#256) 0 0 []):Tr)))]) ?_
 replace h:=zz h hr2
 exact zax (fun(r:Tr)=> .A (r:Tr)) h (.A ((Tr.mk 1 (0#256) 0 0 []):Tr))
 refine zbj hc28 ?_
 refine w_r [.p,.p,.v (.b false),.m _] ?_
 refine zcl rfl ?_
 refine zr [.m _] ?_
 refine zae h (fun hc31 h=> ?_) (fun hc31 h=> ?_)
 refine zbj hc31 ?_
 refine w_r [.p,.p,.p,.v (.b true),.m _] ?_
 refine w_r [.p,.p,.p,.v (.b true),.m _] ?_
 refine zce rfl ?_
 refine zf (zb ?_)
 refine zeh (.A ((Tr.mk 1 (0#256) 0 0 []):Tr)) (a0:=(zca (Tr.mk 1 (0#256) 0 0 []) .full)) rfl rfl rfl (by kernel_rfl) (zj _ _) (by dsimp only[zh,List.set]) ?_
 refine zcx 8 (.B [(29,(Enc.cells (t:Tr))),(29,(Enc.cells ((Tr.mk 1 (0#256) 0 0 []):Tr)))]) ?_
 replace h:=zz h hr2
 exact zax (fun(r:Tr)=> .A (r:Tr)) h (.A ((Tr.mk 1 (0#256) 0 0 []):Tr))
 refine zbj hc31 ?_
 refine w_r [.v (.ptr 0 0),.v (.u ((t.k:Nat):Int)),.v (.b (((t.k:Nat):Int)==0)),.v (.b (((t.k:Nat):Int)==0))] ?_
 refine zbj hc28 ?_
 refine w_r [.v (.ptr 0 0),.v (.u ((t.k:Nat):Int)),.v (.b (((t.k:Nat):Int)==1)),.v (.b (((t.k:Nat):Int)==1)),.m _] ?_
 refine zci h (fun hc32 h=> ?_) (fun hc32 h=> ?_)
 refine zf (zb ?_)
 refine zeh (.A ((Tr.mk 1 (0#256) 0 0 []):Tr)) (a0:=(zca (Tr.mk 1 (0#256) 0 0 []) .full)) rfl rfl rfl (by kernel_rfl) (zj _ _) (by dsimp only[zh,List.set]) ?_
 refine zcx 8 (.B [(29,(Enc.cells (t:Tr))),(29,(Enc.cells ((Tr.mk 1 (0#256) 0 0 []):Tr)))]) ?_
 replace h:=zz h hr2
 exact zax (fun(r:Tr)=> .A (r:Tr)) h (.A ((Tr.mk 1 (0#256) 0 0 []):Tr))
 refine zr [.m _,.m _] ?_
 refine zcl rfl ?_
 refine zg (o:=or2) () h ?_
 exact zdl (bl 72 78)
 refine zbj hc26 ?_
 refine w_r [.p,.p,.v (.b false),.m _,.p] ?_
 refine w_r [.p,.p,.p,.v (.b false),.v (.b false)] ?_
 refine w_r [.m _] ?_
 refine zcl rfl ?_
 refine zr [.v (.ptr 0 0),.v (.u ((t.k:Nat):Int)),.v (.b (((t.k:Nat):Int)==0))] ?_
 refine zae h (fun hc33 h=> ?_) (fun hc33 h=> ?_)
 refine zbj hc33 ?_
 refine w_r [.m _,.v (.b (decide (lo>0))),.v (.b (decide (lo>0))),.m _] ?_
 refine zci h (fun hc34 h=> ?_) (fun hc34 h=> ?_)
 refine zf (zb ?_)
 refine zeh (.A (noneT:Tr)) (a0:=(zca noneT .full)) rfl rfl rfl (by kernel_rfl) (zj _ _) (by dsimp only[zh,List.set]) ?_
 refine zcx 8 (.B [(29,(Enc.cells (t:Tr))),(29,(Enc.cells (noneT:Tr)))]) ?_
 replace h:=zz h hr2
 exact zax (fun(r:Tr)=> .A (r:Tr)) h (.A (noneT:Tr))
 refine zr [.m _] ?_
 refine zae h (fun hc35 h=> ?_) (fun hc35 h=> ?_)
 refine zbj hc35 ?_
 refine w_r [.p,.p,.p,.v (.b true),.m _] ?_
 refine w_r [.p,.p,.p,.v (.b true),.m _] ?_
 refine zce rfl ?_
 refine zf (zb ?_)
 refine zeh (.A ((Tr.mk 1 (0#256) 0 0 []):Tr)) (a0:=(zca (Tr.mk 1 (0#256) 0 0 []) .full)) rfl rfl rfl (by kernel_rfl) (zj _ _) (by dsimp only[zh,List.set]) ?_
 refine zcx 8 (.B [(29,(Enc.cells (t:Tr))),(29,(Enc.cells ((Tr.mk 1 (0#256) 0 0 []):Tr)))]) ?_
 replace h:=zz h hr2
 exact zax (fun(r:Tr)=> .A (r:Tr)) h (.A ((Tr.mk 1 (0#256) 0 0 []):Tr))
 refine zbj hc35 ?_
 refine w_r [.v (.ptr 0 0),.v (.u ((t.k:Nat):Int)),.v (.b (((t.k:Nat):Int)==0)),.v (.b (((t.k:Nat):Int)==0))] ?_
 refine zbj hc33 ?_
 refine w_r [.p,.p,.p,.v (.b true),.m _] ?_
 refine zce rfl ?_
 refine zf (zb ?_)
 refine zeh (.A ((Tr.mk 1 (0#256) 0 0 []):Tr)) (a0:=(zca (Tr.mk 1 (0#256) 0 0 []) .full)) rfl rfl rfl (by kernel_rfl) (zj _ _) (by dsimp only[zh,List.set]) ?_
 refine zcx 8 (.B [(29,(Enc.cells (t:Tr))),(29,(Enc.cells ((Tr.mk 1 (0#256) 0 0 []):Tr)))]) ?_
 replace h:=zz h hr2
 exact zax (fun(r:Tr)=> .A (r:Tr)) h (.A ((Tr.mk 1 (0#256) 0 0 []):Tr))
 refine zbj hc33 ?_
 refine w_r [.p,.p,.v (.b false),.m _] ?_
 refine zcl rfl ?_
 refine zr [.m _] ?_
 refine zae h (fun hc36 h=> ?_) (fun hc36 h=> ?_)
 refine zbj hc36 ?_
 refine w_r [.p,.p,.p,.v (.b true),.m _] ?_
 refine w_r [.p,.p,.p,.v (.b true),.m _] ?_
 refine zce rfl ?_
 refine zf (zb ?_)
 refine zeh (.A ((Tr.mk 1 (0#256) 0 0 []):Tr)) (a0:=(zca (Tr.mk 1 (0#256) 0 0 []) .full)) rfl rfl rfl (by kernel_rfl) (zj _ _) (by dsimp only[zh,List.set]) ?_
 refine zcx 8 (.B [(29,(Enc.cells (t:Tr))),(29,(Enc.cells ((Tr.mk 1 (0#256) 0 0 []):Tr)))]) ?_
 replace h:=zz h hr2
 exact zax (fun(r:Tr)=> .A (r:Tr)) h (.A ((Tr.mk 1 (0#256) 0 0 []):Tr))
 refine zbj hc36 ?_
 refine w_r [.v (.ptr 0 0),.v (.u ((t.k:Nat):Int)),.v (.b (((t.k:Nat):Int)==0)),.v (.b (((t.k:Nat):Int)==0))] ?_
 refine zbj hc33 ?_
 refine w_r [.v (.ptr 0 0),.v (.u ((t.k:Nat):Int)),.v (.b (((t.k:Nat):Int)==1)),.v (.b (((t.k:Nat):Int)==1)),.m _] ?_
 refine zci h (fun hc37 h=> ?_) (fun hc37 h=> ?_)
 refine zf (zb ?_)
 refine zeh (.A ((Tr.mk 1 (0#256) 0 0 []):Tr)) (a0:=(zca (Tr.mk 1 (0#256) 0 0 []) .full)) rfl rfl rfl (by kernel_rfl) (zj _ _) (by dsimp only[zh,List.set]) ?_
 refine zcx 8 (.B [(29,(Enc.cells (t:Tr))),(29,(Enc.cells ((Tr.mk 1 (0#256) 0 0 []):Tr)))]) ?_
 replace h:=zz h hr2
 exact zax (fun(r:Tr)=> .A (r:Tr)) h (.A ((Tr.mk 1 (0#256) 0 0 []):Tr))
 refine zr [.m _,.m _] ?_
 refine zcl rfl ?_
 refine zg (o:=or2) () h ?_
 exact zdl (bl 72 78)
 intro j2 h
 refine zfj ?_
 refine zr [.m _,.m _,.v (.A (t:Tr))] ?_
 refine w_o (a:= .F ([t]:List Tr)) (h:=zbh (zev (α:=Tr) (l:=[t]) (cs:=Enc.cells (t:Tr)++[]) rfl (by rw[Enc.cons,Enc.nil]))) ?_
 refine zeh (.A ((Tr.mk 5 (0#256) lo hi [t]):Tr)) (a0:=(zca (Tr.mk 5 (0#256) lo hi [t]) .full)) rfl rfl rfl (by kernel_rfl) (zj _ _) (by dsimp only[zh,List.set]) ?_
 obtain⟨x9,hx9,h⟩:=zu h
 refine zcq (zic (Tr.mk 5 (0#256) lo hi [t]) x9 hx9) ?_
 refine zcx 8 (.B [(29,(Enc.cells (t:Tr))),(29,(Enc.cells (x9:Tr)))]) ?_
 exact zax (fun(r:Tr)=> .A (r:Tr)) h (.A (x9:Tr))
 refine zbj hc1 ?_
 refine w_r [.p,.p,.v (.b false),.m _,.v (.b (lo==1))] ?_
 refine zae h (fun hc38 h=> ?_) (fun hc38 h=> ?_)
 refine zbj hc38 ?_
 refine w_r [.m _,.v (.b (hi==1)),.v (.b (hi==1)),.m _,.m _] ?_
 refine zau h (bz 0 72 4722366482869645213617) (fun j3=>[]) (fun j3=>(.B [(29,(Enc.cells (t:Tr))),(29,[.u 0,.raw (.int .u64 0),.raw (.int .u64 0),.raw (.int .u64 0),.raw (.int .u64 0),.i 0,.i 0,.list 0 [] .full])])) ?_ ?_
 intro or3 h hr3
 refine zp ?_
 refine zr [.v (.A (t:Tr))] ?_
 obtain⟨x10,hx10,h⟩:=zu h
 refine zcq (zta t x10 hx10) ?_
 refine w_o (a:= .b (!x10)) ?_
 refine zae h (fun hc39 h=> ?_) (fun hc39 h=> ?_)
 refine zbj hc39 ?_
 refine w_r [.p,.p,.p,.p,.p] ?_
 refine w_r [.p,.p,.p,.p,.p] ?_
 refine w_r [.p,.p,.v (.b true),.m _] ?_
 refine zce rfl ?_
 refine zf (zb ?_)
 refine zeh (.A (noneT:Tr)) (a0:=(zca noneT .full)) rfl rfl rfl (by kernel_rfl) (zj _ _) (by dsimp only[zh,List.set]) ?_
 refine zcx 8 (.B [(29,(Enc.cells (t:Tr))),(29,(Enc.cells (noneT:Tr)))]) ?_
 replace h:=zz h hr3
 exact zax (fun(r:Tr)=> .A (r:Tr)) h (.A (noneT:Tr))
 refine zbj hc39 ?_
 refine w_r [.m _,.v (.b true),.m _,.m _,.v (.b (!(hi==1)))] ?_
 refine w_r [.v (.b (!(hi==1)))] ?_
 refine zaf rfl rfl ?_
 refine zae h (fun hc40 h=> ?_) (fun hc40 h=> ?_)
 refine zbj hc40 ?_
 refine w_r [.m _,.m _] ?_
 refine zaf rfl rfl ?_
 obtain⟨x11,hx11,h⟩:=zu h
 refine zcq (zjp lo hi x11 hx11) ?_
 refine w_r [.v (.b (!x11)),.v (.b (!x11)),.v (.b (!x11)),.m _] ?_
 refine zci h (fun hc41 h=> ?_) (fun hc41 h=> ?_)
 refine zf (zb ?_)
 refine zeh (.A (noneT:Tr)) (a0:=(zca noneT .full)) rfl rfl rfl (by kernel_rfl) (zj _ _) (by dsimp only[zh,List.set]) ?_
 refine zcx 8 (.B [(29,(Enc.cells (t:Tr))),(29,(Enc.cells (noneT:Tr)))]) ?_
 replace h:=zz h hr3
 exact zax (fun(r:Tr)=> .A (r:Tr)) h (.A (noneT:Tr))
 refine zr [.v (.ptr 0 0),.v (.u ((t.k:Nat):Int)),.v (.b (((t.k:Nat):Int)==0))] ?_
 refine zae h (fun hc42 h=> ?_) (fun hc42 h=> ?_)
 refine zbj hc42 ?_
 refine w_r [.m _,.v (.b (decide (lo>0))),.v (.b (decide (lo>0))),.m _] ?_
 refine zci h (fun hc43 h=> ?_) (fun hc43 h=> ?_)
 refine zf (zb ?_)
 refine zeh (.A (noneT:Tr)) (a0:=(zca noneT .full)) rfl rfl rfl (by kernel_rfl) (zj _ _) (by dsimp only[zh,List.set]) ?_
 refine zcx 8 (.B [(29,(Enc.cells (t:Tr))),(29,(Enc.cells (noneT:Tr)))]) ?_
 replace h:=zz h hr3
 exact zax (fun(r:Tr)=> .A (r:Tr)) h (.A (noneT:Tr))
 refine zr [.m _,.m _,.v (.ptr 0 0),.v (.u ((t.k:Nat):Int)),.v (.b (((t.k:Nat):Int)==0))] ?_
 refine w_r [.v (.b (((t.k:Nat):Int)==0))] ?_
 refine zbj hc42 ?_
 refine w_r [.p,.p,.p,.v (.b true),.m _] ?_
 refine zce rfl ?_
 refine zf (zb ?_)
 refine zeh (.A ((Tr.mk 1 (0#256) 0 0 []):Tr)) (a0:=(zca (Tr.mk 1 (0#256) 0 0 []) .full)) rfl rfl rfl (by kernel_rfl) (zj _ _) (by dsimp only[zh,List.set]) ?_
 refine zcx 8 (.B [(29,(Enc.cells (t:Tr))),(29,(Enc.cells ((Tr.mk 1 (0#256) 0 0 []):Tr)))]) ?_
 replace h:=zz h hr3
 exact zax (fun(r:Tr)=> .A (r:Tr)) h (.A ((Tr.mk 1 (0#256) 0 0 []):Tr))
 refine zbj hc42 ?_
 refine w_r [.p,.p,.v (.b false),.m _] ?_
 refine zcl rfl ?_
 refine zr [.m _,.m _,.v (.ptr 0 0),.v (.u ((t.k:Nat):Int)),.v (.b (((t.k:Nat):Int)==0))] ?_
 refine w_r [.v (.b (((t.k:Nat):Int)==0))] ?_
 refine zbj hc42 ?_
 refine w_r [.v (.ptr 0 0),.v (.u ((t.k:Nat):Int)),.v (.b (((t.k:Nat):Int)==1)),.v (.b (((t.k:Nat):Int)==1)),.m _] ?_
 refine zci h (fun hc44 h=> ?_) (fun hc44 h=> ?_)
 refine zf (zb ?_)
 refine zeh (.A ((Tr.mk 1 (0#256) 0 0 []):Tr)) (a0:=(zca (Tr.mk 1 (0#256) 0 0 []) .full)) rfl rfl rfl (by kernel_rfl) (zj _ _) (by dsimp only[zh,List.set]) ?_
 refine zcx 8 (.B [(29,(Enc.cells (t:Tr))),(29,(Enc.cells ((Tr.mk 1 (0#256) 0 0 []):Tr)))]) ?_
 replace h:=zz h hr3
 exact zax (fun(r:Tr)=> .A (r:Tr)) h (.A ((Tr.mk 1 (0#256) 0 0 []):Tr))
 refine zr [.m _,.m _] ?_
 refine zci h (fun hc45 h=> ?_) (fun hc45 h=> ?_)
 refine zr [.v (.A (t:Tr))] ?_
 obtain⟨g4,h⟩:=zi h
 obtain⟨x12,hx12,h⟩:=zo h
 refine zcq (args':=[.A (t:Tr)]) (r:= .A (x12:Tr)) (by rw[←hx12];exact(zkg t g4)) ?_
 refine zcx 8 (.B [(29,(Enc.cells (t:Tr))),(29,(Enc.cells (x12:Tr)))]) ?_
 replace h:=zz h hr3
 exact zax (fun(r:Tr)=> .A (r:Tr)) h (.A (x12:Tr))
 refine zg (o:=or3) () h ?_
 exact zdl (bl 72 78)
 refine zbj hc40 ?_
 refine w_r [.p,.p,.p,.p,.v (.b false)] ?_
 refine w_r [.v (.b false),.m _] ?_
 refine zcl rfl ?_
 refine zr [.v (.ptr 0 0),.v (.u ((t.k:Nat):Int)),.v (.b (((t.k:Nat):Int)==0))] ?_
 refine zae h (fun hc46 h=> ?_) (fun hc46 h=> ?_)
 refine zbj hc46 ?_
 refine w_r [.m _,.v (.b (decide (lo>0))),.v (.b (decide (lo>0))),.m _] ?_
 refine zci h (fun hc47 h=> ?_) (fun hc47 h=> ?_)
 refine zf (zb ?_)
 refine zeh (.A (noneT:Tr)) (a0:=(zca noneT .full)) rfl rfl rfl (by kernel_rfl) (zj _ _) (by dsimp only[zh,List.set]) ?_
 refine zcx 8 (.B [(29,(Enc.cells (t:Tr))),(29,(Enc.cells (noneT:Tr)))]) ?_
 replace h:=zz h hr3
 exact zax (fun(r:Tr)=> .A (r:Tr)) h (.A (noneT:Tr))
 refine zr [.m _,.m _,.v (.ptr 0 0),.v (.u ((t.k:Nat):Int)),.v (.b (((t.k:Nat):Int)==0))] ?_
 refine w_r [.v (.b (((t.k:Nat):Int)==0))] ?_
 refine zbj hc46 ?_
 refine w_r [.p,.p,.p,.v (.b true),.m _] ?_
 refine zce rfl ?_
 refine zf (zb ?_)
 refine zeh (.A ((Tr.mk 1 (0#256) 0 0 []):Tr)) (a0:=(zca (Tr.mk 1 (0#256) 0 0 []) .full)) rfl rfl rfl (by kernel_rfl) (zj _ _) (by dsimp only[zh,List.set]) ?_
 refine zcx 8 (.B [(29,(Enc.cells (t:Tr))),(29,(Enc.cells ((Tr.mk 1 (0#256) 0 0 []):Tr)))]) ?_
 replace h:=zz h hr3
 exact zax (fun(r:Tr)=> .A (r:Tr)) h (.A ((Tr.mk 1 (0#256) 0 0 []):Tr))
 refine zbj hc46 ?_
 refine w_r [.p,.p,.v (.b false),.m _] ?_
 refine zcl rfl ?_
 refine zr [.m _,.m _,.v (.ptr 0 0),.v (.u ((t.k:Nat):Int)),.v (.b (((t.k:Nat):Int)==0))] ?_
 refine w_r [.v (.b (((t.k:Nat):Int)==0))] ?_
 refine zbj hc46 ?_
 refine w_r [.v (.ptr 0 0),.v (.u ((t.k:Nat):Int)),.v (.b (((t.k:Nat):Int)==1)),.v (.b (((t.k:Nat):Int)==1)),.m _] ?_
 refine zci h (fun hc48 h=> ?_) (fun hc48 h=> ?_)
 refine zf (zb ?_)
 refine zeh (.A ((Tr.mk 1 (0#256) 0 0 []):Tr)) (a0:=(zca (Tr.mk 1 (0#256) 0 0 []) .full)) rfl rfl rfl (by kernel_rfl) (zj _ _) (by dsimp only[zh,List.set]) ?_
 refine zcx 8 (.B [(29,(Enc.cells (t:Tr))),(29,(Enc.cells ((Tr.mk 1 (0#256) 0 0 []):Tr)))]) ?_
 replace h:=zz h hr3
 exact zax (fun(r:Tr)=> .A (r:Tr)) h (.A ((Tr.mk 1 (0#256) 0 0 []):Tr))
 refine zr [.m _,.m _] ?_
 refine zci h (fun hc49 h=> ?_) (fun hc49 h=> ?_)
 refine zr [.v (.A (t:Tr))] ?_
 obtain⟨g5,h⟩:=zi h
 obtain⟨x13,hx13,h⟩:=zo h
 refine zcq (args':=[.A (t:Tr)]) (r:= .A (x13:Tr)) (by rw[←hx13];exact(zkg t g5)) ?_
 refine zcx 8 (.B [(29,(Enc.cells (t:Tr))),(29,(Enc.cells (x13:Tr)))]) ?_
 replace h:=zz h hr3
 exact zax (fun(r:Tr)=> .A (r:Tr)) h (.A (x13:Tr))
 refine zg (o:=or3) () h ?_
 exact zdl (bl 72 78)
 intro j3 h
 refine zfj ?_
 refine zr [.m _,.m _,.v (.A (t:Tr))] ?_
 refine w_o (a:= .F ([t]:List Tr)) (h:=zbh (zev (α:=Tr) (l:=[t]) (cs:=Enc.cells (t:Tr)++[]) rfl (by rw[Enc.cons,Enc.nil]))) ?_
 refine zeh (.A ((Tr.mk 5 (0#256) lo hi [t]):Tr)) (a0:=(zca (Tr.mk 5 (0#256) lo hi [t]) .full)) rfl rfl rfl (by kernel_rfl) (zj _ _) (by dsimp only[zh,List.set]) ?_
 obtain⟨x14,hx14,h⟩:=zu h
 refine zcq (zic (Tr.mk 5 (0#256) lo hi [t]) x14 hx14) ?_
 refine zcx 8 (.B [(29,(Enc.cells (t:Tr))),(29,(Enc.cells (x14:Tr)))]) ?_
 exact zax (fun(r:Tr)=> .A (r:Tr)) h (.A (x14:Tr))
 refine zbj hc38 ?_
 refine w_r [.p,.p,.v (.b false),.m _,.m _] ?_
 refine zf ?_
 refine zp ?_
 refine zr [.v (.A (t:Tr))] ?_
 obtain⟨x15,hx15,h⟩:=zu h
 refine zcq (zta t x15 hx15) ?_
 refine w_o (a:= .b (!x15)) ?_
 refine zae h (fun hc50 h=> ?_) (fun hc50 h=> ?_)
 refine zbj hc50 ?_
 refine w_r [.p,.p,.p,.p,.p] ?_
 refine w_r [.p,.p,.p,.p,.p] ?_
 refine w_r [.p,.p,.v (.b true),.m _] ?_
 refine zce rfl ?_
 refine zf (zb ?_)
 refine zeh (.A (noneT:Tr)) (a0:=(zca noneT .full)) rfl rfl rfl (by kernel_rfl) (zj _ _) (by dsimp only[zh,List.set]) ?_
 refine zcx 8 (.B [(29,(Enc.cells (t:Tr))),(29,(Enc.cells (noneT:Tr)))]) ?_
 exact zax (fun(r:Tr)=> .A (r:Tr)) h (.A (noneT:Tr))
 refine zbj hc50 ?_
 refine w_r [.m _,.v (.b true),.m _,.m _,.v (.b true)] ?_
 refine w_r [.v (.b true),.m _,.m _,.m _] ?_
 refine zaf rfl rfl ?_
 obtain⟨x16,hx16,h⟩:=zu h
 refine zcq (zjp lo hi x16 hx16) ?_
 refine w_r [.v (.b (!x16)),.v (.b (!x16)),.v (.b (!x16)),.m _] ?_
 refine zci h (fun hc51 h=> ?_) (fun hc51 h=> ?_)
 refine zf (zb ?_)
 refine zeh (.A (noneT:Tr)) (a0:=(zca noneT .full)) rfl rfl rfl (by kernel_rfl) (zj _ _) (by dsimp only[zh,List.set]) ?_
 refine zcx 8 (.B [(29,(Enc.cells (t:Tr))),(29,(Enc.cells (noneT:Tr)))]) ?_
 exact zax (fun(r:Tr)=> .A (r:Tr)) h (.A (noneT:Tr))
 refine zr [.v (.ptr 0 0),.v (.u ((t.k:Nat):Int)),.v (.b (((t.k:Nat):Int)==0))] ?_
 refine zae h (fun hc52 h=> ?_) (fun hc52 h=> ?_)
 refine zbj hc52 ?_
 refine w_r [.m _,.v (.b (decide (lo>0))),.v (.b (decide (lo>0))),.m _] ?_
 refine zci h (fun hc53 h=> ?_) (fun hc53 h=> ?_)
 refine zf (zb ?_)
 refine zeh (.A (noneT:Tr)) (a0:=(zca noneT .full)) rfl rfl rfl (by kernel_rfl) (zj _ _) (by dsimp only[zh,List.set]) ?_
 refine zcx 8 (.B [(29,(Enc.cells (t:Tr))),(29,(Enc.cells (noneT:Tr)))]) ?_
 exact zax (fun(r:Tr)=> .A (r:Tr)) h (.A (noneT:Tr))
 refine zr [.m _,.m _,.v (.ptr 0 0),.v (.u ((t.k:Nat):Int)),.v (.b (((t.k:Nat):Int)==0))] ?_
 refine w_r [.v (.b (((t.k:Nat):Int)==0))] ?_
 refine zbj hc52 ?_
 refine w_r [.p,.p,.p,.v (.b true),.m _] ?_
 refine zce rfl ?_
 refine zf (zb ?_)
 refine zeh (.A ((Tr.mk 1 (0#256) 0 0 []):Tr)) (a0:=(zca (Tr.mk 1 (0#256) 0 0 []) .full)) rfl rfl rfl (by kernel_rfl) (zj _ _) (by dsimp only[zh,List.set]) ?_
 refine zcx 8 (.B [(29,(Enc.cells (t:Tr))),(29,(Enc.cells ((Tr.mk 1 (0#256) 0 0 []):Tr)))]) ?_
 exact zax (fun(r:Tr)=> .A (r:Tr)) h (.A ((Tr.mk 1 (0#256) 0 0 []):Tr))
 refine zbj hc52 ?_
 refine w_r [.p,.p,.v (.b false),.m _] ?_
 refine zcl rfl ?_
 refine zr [.m _,.m _,.v (.ptr 0 0),.v (.u ((t.k:Nat):Int)),.v (.b (((t.k:Nat):Int)==0))] ?_
 refine w_r [.v (.b (((t.k:Nat):Int)==0))] ?_
 refine zbj hc52 ?_
 refine w_r [.v (.ptr 0 0),.v (.u ((t.k:Nat):Int)),.v (.b (((t.k:Nat):Int)==1)),.v (.b (((t.k:Nat):Int)==1)),.m _] ?_
 refine zci h (fun hc54 h=> ?_) (fun hc54 h=> ?_)
 refine zf (zb ?_)
 refine zeh (.A ((Tr.mk 1 (0#256) 0 0 []):Tr)) (a0:=(zca (Tr.mk 1 (0#256) 0 0 []) .full)) rfl rfl rfl (by kernel_rfl) (zj _ _) (by dsimp only[zh,List.set]) ?_
 refine zcx 8 (.B [(29,(Enc.cells (t:Tr))),(29,(Enc.cells ((Tr.mk 1 (0#256) 0 0 []):Tr)))]) ?_
 exact zax (fun(r:Tr)=> .A (r:Tr)) h (.A ((Tr.mk 1 (0#256) 0 0 []):Tr))
 refine zr [.m _,.m _] ?_
 refine zcl rfl ?_
 refine zr [.m _,.m _,.v (.A (t:Tr))] ?_
 refine w_o (a:= .F ([t]:List Tr)) (h:=zbh (zev (α:=Tr) (l:=[t]) (cs:=Enc.cells (t:Tr)++[]) rfl (by rw[Enc.cons,Enc.nil]))) ?_
 refine zeh (.A ((Tr.mk 5 (0#256) lo hi [t]):Tr)) (a0:=(zca (Tr.mk 5 (0#256) lo hi [t]) .full)) rfl rfl rfl (by kernel_rfl) (zj _ _) (by dsimp only[zh,List.set]) ?_
 obtain⟨x17,hx17,h⟩:=zu h
 refine zcq (zic (Tr.mk 5 (0#256) lo hi [t]) x17 hx17) ?_
 refine zcx 8 (.B [(29,(Enc.cells (t:Tr))),(29,(Enc.cells (x17:Tr)))]) ?_
 exact zax (fun(r:Tr)=> .A (r:Tr)) h (.A (x17:Tr))
end Go.Ab
