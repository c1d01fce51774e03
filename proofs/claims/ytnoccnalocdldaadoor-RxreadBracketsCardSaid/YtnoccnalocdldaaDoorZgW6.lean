import Derived.Test.YtnoccnalocdldaaDoorZgV3
set_option linter.all false
set_option maxRecDepth 100000
set_option maxHeartbeats 4000000
namespace Go.Ab
open Go Go.RowKit Go.Fwd Go.Proofs
def znq (t:Tr):Option Bool:=
 (chk ((pre t).length<2^60∧(pre zz).length<2^60) (zbi (zfq t zz) (fun x1=>(bif x1 then(some true) else(chk ((pre t).length<2^61) (zbi (zga t) (fun x2=>(some x2))))))))
theorem ent61:Ent Tryd.prog 61:=enters_of Tryd.func61 (by kernel_rfl) rfl
theorem ztf (t:Tr)(r:Bool)(h:znq t=some r):Pure (ITP Tryd.prog) Tryd.prog 61 [.A (t:Tr)] (.raw (.bool r)):=by
 unfold znq at h
 refine zby 9 mix Tryd.func61 ent61 ?_
 refine zi (zc ?_)
 refine zcb (a:= .ptr 0 0) (σ'':=(.B [(33,(Enc.cells (t:Tr)))])) ?_
 refine w_o (a:= .b false) ?_
 refine zx [.v (.A (t:Tr))] ?_
 refine zey (.A (zz:Tr)) (a0:=(zce zz .full)) rfl rfl rfl (by kernel_rfl) (zo _ _) (by dsimp only[zy,List.set]) ?_
 obtain⟨g1,h⟩:=zp h
 obtain⟨x1,hx1,h⟩:=zt h
 refine zdb (args':=[.A (t:Tr),.A (zz:Tr)]) (r:= .b x1) (by rw[←hx1];exact(k_sameT t zz g1)) ?_
 refine zaa h (fun hc1 h=> ?_) (fun hc1 h=> ?_)
 refine zak hc1 ?_
 refine w_r [.p,.p,.v (.b true),.m _] ?_
 exact zbe h
 refine zak hc1 ?_
 refine zan rfl rfl ?_
 refine w_o (a:= .A (t:Tr)) ?_
 refine zan rfl rfl ?_
 obtain⟨g2,h⟩:=zp h
 obtain⟨x2,hx2,h⟩:=zt h
 refine zdb (args':=[.A (t:Tr)]) (r:= .b x2) (by rw[←hx2];exact(zxy t g2)) ?_
 refine w_r [.v (.b x2),.m _] ?_
 exact zbe h
def zeb (t:Tr):Option Tr:=
 (chk ((pre t).length<2^61) (zbi (zga t) (fun x1=>(bif (!x1) then(some zz) else(chk ((pre t).length<2^40) (zbi t (fun x2=>(some x2))))))))
theorem ent79:Ent Tryd.prog 79:=enters_of Tryd.func79 (by kernel_rfl) rfl
theorem zgi (t:Tr)(r:Tr)(h:zeb t=some r):Pure (ITP Tryd.prog) Tryd.prog 79 [.A (t:Tr)] (.A (r:Tr)):=by
 unfold zeb at h
 refine zby 8 mix Tryd.func79 ent79 ?_
 refine zi (zc ?_)
 refine zcb (a:= .ptr 0 0) (σ'':=(.B [(33,(Enc.cells (t:Tr)))])) ?_
 refine zcb (a:= .ptr 1 0) (σ'':=(.B [(33,(Enc.cells (t:Tr))),(33,[.u 0,.raw (.int .u64 0),.raw (.int .u64 0),.raw (.int .u64 0),.raw (.int .u64 0),.i 0,.i 0,.list 0 [] .full])])) ?_
 refine zi ?_
 refine zx [.v (.A (t:Tr))] ?_
 obtain⟨g1,h⟩:=zp h
 obtain⟨x1,hx1,h⟩:=zt h
 refine zdb (args':=[.A (t:Tr)]) (r:= .b x1) (by rw[←hx1];exact(zxy t g1)) ?_
 refine w_o (a:= .b (!x1)) ?_
 refine zcd h (fun hc1 h=> ?_) (fun hc1 h=> ?_)
 refine zi (zc ?_)
 refine zey (.A (zz:Tr)) (a0:=(zce zz .full)) rfl rfl rfl (by kernel_rfl) (zo _ _) (by dsimp only[zy,List.set]) ?_
 refine zco 8 (.B [(33,(Enc.cells (t:Tr))),(33,(Enc.cells (zz:Tr)))]) ?_
 exact zaq (fun(r:Tr)=> .A (r:Tr)) h (.A (zz:Tr))
 refine zx [.v (.A (t:Tr))] ?_
 obtain⟨g2,h⟩:=zp h
 obtain⟨x2,hx2,h⟩:=zt h
 refine zdb (args':=[.A (t:Tr)]) (r:= .A (x2:Tr)) (by rw[←hx2];exact(zlx t g2)) ?_
 refine zco 8 (.B [(33,(Enc.cells (t:Tr))),(33,(Enc.cells (x2:Tr)))]) ?_
 exact zaq (fun(r:Tr)=> .A (r:Tr)) h (.A (x2:Tr))
def zqe (fuel:Nat)(k:Int)(w:Int)(l:(List Tr)):Option (List Tr):=
 (zdr (τ:=(List Tr)) (zbo (β:=(List Tr)×Int) (fun s1=>(bif (decide (s1.2<(List.length l:Int))) then(zdr (τ:=(List Tr)) (chk (0≤s1.2∧s1.2<(List.length l:Int)) (zbi (ix l s1.2) (fun x1=>(bif (((x1.k:Nat):Int)==k) then(chk ((List.length s1.1+List.length x1.l)*80≤140737488355328) (some (Sum.inl ((s1.1++x1.l))))) else(bif (((x1.k:Nat):Int)==w) then(some (Sum.inl (s1.1))) else(chk ((List.length s1.1+List.length [x1])*80≤140737488355328) (some (Sum.inl ((s1.1++[x1])))))))))) (fun j2=>(chk (-9223372036854775808≤(s1.2+1)∧(s1.2+1)<9223372036854775808) (some (Sum.inl (j2,(s1.2+1))))))) else(some (Sum.inr (Sum.inl (s1.1)))))) fuel (([]:(List Tr)),0)) (fun j1=>(some j1)))
theorem ent60:Ent Tryd.prog 60:=enters_of Tryd.func60 (by kernel_rfl) rfl
theorem z8w (fuel:Nat)(k:Int)(w:Int)(l:(List Tr))(r:(List Tr))(h:zqe fuel k w l=some r):Pure (ITP Tryd.prog) Tryd.prog 60 [.raw (.int .u8 k),.raw (.int .u8 w),.L (l:List Tr)] (.L (r:List Tr)):=by
 unfold zqe at h
 refine zby 31 mix Tryd.func60 ent60 ?_
 refine zx [.v (.list 0 [] .full)] ?_
 refine zx [.v (.list 0 [] .full)] ?_
 refine zbh h (bz 0 34 17179869183) (fun j1=>[(7,(.O (j1:List Tr)))]) (fun j1=>(zcm [] 33 (List.length (j1:List Tr)) 8)) ?_ ?_
 intro or1 h hr1
 refine zx [.m _,.v (.i (List.length l:Int)),.v (.i 0)] ?_
 refine zag ?_
 refine zcx h (bz 0 34 17179866108) (fun s1=>[(7,(.O (s1.1:List Tr))),(12,.i s1.2)]) (fun s1=>(zcm [] 33 (List.length (s1.1:List Tr)) 8)) ?_ ?_
 exact zcs (bl 34 7299)
 intro s1 p1 h
 refine zet ?_
 refine zx [.v (.b (decide (s1.2<(List.length l:Int))))] ?_
 refine zi ?_
 refine zcd h (fun hc1 h=> ?_) (fun hc1 h=> ?_)
 refine zbh h (bz 0 32 4294959744) (fun j2=>[(7,(.O (j2:List Tr)))]) (fun j2=>(zcm [] 33 (List.length (j2:List Tr)) 8)) ?_ ?_
 intro or2 h hr2
 refine zag ?_
 refine zi (zc ?_)
 obtain⟨g1,h⟩:=zp h
 obtain⟨x1,hx1,h⟩:=zt h
 refine z6x hx1 g1 ?_
 refine w_o (a:= .A (x1:Tr)) ?_
 refine zcb (a:= .ptr 0 0) (σ'':=(zcm [(33,[.u 0,.raw (.int .u64 0),.raw (.int .u64 0),.raw (.int .u64 0),.raw (.int .u64 0),.i 0,.i 0,.list 0 [] .full])] 33 (List.length (s1.1:List Tr)) 8)) ?_
 refine zco 8 (zcm [(33,(Enc.cells (x1:Tr)))] 33 (List.length (s1.1:List Tr)) 8) ?_
 refine zx [.v (.ptr 0 0),.v (.u ((x1.k:Nat):Int))] ?_
 refine zag ?_
 refine zx [.m _,.v (.b (((x1.k:Nat):Int)==k)),.m _] ?_
 refine zcd h (fun hc2 h=> ?_) (fun hc2 h=> ?_)
 refine zc (k0:=0) (id:=8) ?_
 refine w_r [.m _,.v (.ptr 0 7),.v (.L (x1.l:List Tr))] ?_
 obtain⟨g2,h⟩:=zp h
 refine zfs (a:=(.O ((s1.1++x1.l):List Tr))) (σ'':=(zcm [(33,(Enc.cells (x1:Tr)))] 33 (List.length ((s1.1++x1.l):List Tr)) 8)) rfl rfl rfl (ztp rfl rfl rfl rfl (zjr (α:=Tr) (bs:=[(33,(Enc.cells (x1:Tr)))]) (a:=s1.1) (b:=x1.l) g2 rfl rfl rfl rfl rfl ⟨rfl,by decide⟩)) (by dsimp only[zy,List.set]) rfl ?_
 refine zac ?_
 refine zg (o:=or2) ((s1.1++x1.l)) h ?_
 exact zfa (bl 34 12884909567) 0 (by kernel_rfl) (Nat.le_of_ble_eq_true rfl) (zcw rfl) (by dsimp only[zbg,zbz,List.foldl,List.set,bz,bzc,Nat.reduceMod,Nat.reduceDiv,Nat.reduceBEq,Nat.reduceAdd];exact(za rfl (za rfl (za rfl (za rfl (za rfl (za rfl (za rfl (za (zed (Enc.cloL _)) (za rfl (za rfl (za (zcl (Enc.cloL _)) (by kernel_rfl))))))))))))) (by kernel_rfl)
 refine zx [.m _,.v (.b (((x1.k:Nat):Int)==w)),.m _] ?_
 refine zcd h (fun hc3 h=> ?_) (fun hc3 h=> ?_)
 refine zg (o:=or2) (s1.1) h ?_
 exact zfa (bl 34 12884909567) 0 (by kernel_rfl) (Nat.le_of_ble_eq_true rfl) (zcw rfl) (by dsimp only[zbg,zbz,List.foldl,List.set,bz,bzc,Nat.reduceMod,Nat.reduceDiv,Nat.reduceBEq,Nat.reduceAdd];exact(za rfl (za rfl (za rfl (za rfl (za rfl (za rfl (za rfl (za (zed (Enc.cloL _)) (za rfl (za rfl (za (zcl (Enc.cloL _)) (by kernel_rfl))))))))))))) (by kernel_rfl)
 refine zc (k0:=0) (id:=6) ?_
 refine w_r [.m _,.v (.A (x1:Tr))] ?_
 refine w_o (a:= .F ([x1]:List Tr)) (h:=zbb (zhr (α:=Tr) (l:=[x1]) (cs:=Enc.cells (x1:Tr)++[]) rfl (by rw[Enc.cons,Enc.nil]))) ?_
 obtain⟨g3,h⟩:=zp h
 refine zfs (a:=(.O ((s1.1++[x1]):List Tr))) (σ'':=(zcm [(33,(Enc.cells (x1:Tr)))] 33 (List.length ((s1.1++[x1]):List Tr)) 8)) rfl rfl rfl (ztp rfl rfl rfl rfl (zjr (α:=Tr) (bs:=[(33,(Enc.cells (x1:Tr)))]) (a:=s1.1) (b:=[x1]) g3 rfl rfl rfl rfl rfl ⟨rfl,by decide⟩)) (by dsimp only[zy,List.set]) rfl ?_
 refine zac ?_
 refine zg (o:=or2) ((s1.1++[x1])) h ?_
 exact zfa (bl 34 12884909567) 0 (by kernel_rfl) (Nat.le_of_ble_eq_true rfl) (zcw rfl) (by dsimp only[zbg,zbz,List.foldl,List.set,bz,bzc,Nat.reduceMod,Nat.reduceDiv,Nat.reduceBEq,Nat.reduceAdd];exact(za rfl (za rfl (za rfl (za rfl (za rfl (za rfl (za rfl (za (zed (Enc.cloL _)) (za rfl (za rfl (za (zcl (Enc.cloL _)) (by kernel_rfl))))))))))))) (by kernel_rfl)
 intro j2 h
 refine zet ?_
 refine zc (k0:=0) (id:=10) ?_
 obtain⟨g4,h⟩:=zp h
 refine zio g4 ?_
 refine zac ?_
 refine zbs (p:=p1) (j2,(s1.2+1)) h ?_
 exact zcs (bl 34 7299)
 refine zaj h (fun h=> ?_)
 refine zg (o:=or1) (s1.1) h ?_
 exact zcs (bl 34 128)
 intro j1 h
 refine zet ?_
 refine zx [.m _,.m _] ?_
 exact zaq (fun(r:(List Tr))=> .L (r:List Tr)) h (.O (j1:List Tr))
def zhz (k:Int)(l:(List Tr))(z:Tr):Option Tr:=
 (bif ((List.length l:Int)==0) then(some z) else(bif ((List.length l:Int)==1) then(chk (0≤(0:Int)∧(0:Int)<(List.length l:Int)) (zbi (ix l (0:Int)) (fun x1=>(zar (zeb x1) (fun x2=>(some x2)))))) else(chk (0≤k) (zar (zeb (Tr.mk (Int.toNat k) (0#256) 0 0 l)) (fun x3=>(some x3))))))
theorem ent59:Ent Tryd.prog 59:=enters_of Tryd.func59 (by kernel_rfl) rfl
theorem zyq (k:Int)(l:(List Tr))(z:Tr)(r:Tr)(h:zhz k l z=some r):Pure (ITP Tryd.prog) Tryd.prog 59 [.raw (.int .u8 k),.L (l:List Tr),.A (z:Tr)] (.A (r:Tr)):=by
 unfold zhz at h
 refine zby 19 mix Tryd.func59 ent59 ?_
 refine zi (zc ?_)
 refine zcb (a:= .ptr 0 0) (σ'':=(.B [(33,(Enc.cells (z:Tr)))])) ?_
 refine zcb (a:= .ptr 1 0) (σ'':=(.B [(33,(Enc.cells (z:Tr))),(33,[.u 0,.raw (.int .u64 0),.raw (.int .u64 0),.raw (.int .u64 0),.raw (.int .u64 0),.i 0,.i 0,.list 0 [] .full])])) ?_
 refine zi ?_
 refine zx [.m _,.v (.i (List.length l:Int))] ?_
 refine zag ?_
 refine zx [.v (.b ((List.length l:Int)==0)),.m _] ?_
 refine zcd h (fun hc1 h=> ?_) (fun hc1 h=> ?_)
 refine zx [.v (.A (z:Tr))] ?_
 refine zco 8 (.B [(33,(Enc.cells (z:Tr))),(33,(Enc.cells (z:Tr)))]) ?_
 exact zaq (fun(r:Tr)=> .A (r:Tr)) h (.A (z:Tr))
 refine zx [.v (.b ((List.length l:Int)==1)),.m _] ?_
 refine zcd h (fun hc2 h=> ?_) (fun hc2 h=> ?_)
 refine zx [.m _] ?_
 obtain⟨g1,h⟩:=zp h
 obtain⟨x1,hx1,h⟩:=zt h
 refine z6x hx1 g1 ?_
 refine w_o (a:= .A (x1:Tr)) ?_
 obtain⟨x2,hx2,h⟩:=zv h
 refine zdb (zgi x1 x2 hx2) ?_
 refine zco 8 (.B [(33,(Enc.cells (z:Tr))),(33,(Enc.cells (x2:Tr)))]) ?_
 exact zaq (fun(r:Tr)=> .A (r:Tr)) h (.A (x2:Tr))
 refine zx [.m _,.m _] ?_
 obtain⟨g2,h⟩:=zp h
 refine zey (.A ((Tr.mk (Int.toNat k) (0#256) 0 0 l):Tr)) (a0:=(nodeK k (0#256) 0 0 l .none)) rfl rfl rfl (by kernel_rfl) (z3k g2 _ _ _ _ _) (by dsimp only[zy,List.set]) ?_
 obtain⟨x3,hx3,h⟩:=zv h
 refine zdb (zgi (Tr.mk (Int.toNat k) (0#256) 0 0 l) x3 hx3) ?_
 refine zco 8 (.B [(33,(Enc.cells (z:Tr))),(33,(Enc.cells (x3:Tr)))]) ?_
 exact zaq (fun(r:Tr)=> .A (r:Tr)) h (.A (x3:Tr))
def qiq (fuel:Nat)(l:(List Tr)):Option Tr:=
 (zdr (τ:=Unit) (zbo (β:=Int) (fun s1=>(bif (decide (s1<(List.length l:Int))) then(chk (0≤s1∧s1<(List.length l:Int)) (zbi (ix l s1) (fun x1=>(bif (((x1.k:Nat):Int)==0) then(some (Sum.inr (Sum.inr zz))) else(chk ((pre x1).length<2^61) (zbi (zga x1) (fun x2=>(bif (!x2) then(some (Sum.inr (Sum.inr zz))) else(chk (-9223372036854775808≤(s1+1)∧(s1+1)<9223372036854775808) (some (Sum.inl ((s1+1))))))))))))) else(some (Sum.inr (Sum.inl ()))))) fuel (0)) (fun j1=>(zar (zqe fuel 3 1 l) (fun x3=>(zar (zhz 3 x3 (Tr.mk 1 (0#256) 0 0 [])) (fun x4=>(some x4)))))))
theorem ent38:Ent Tryd.prog 38:=enters_of Tryd.func38 (by kernel_rfl) rfl
theorem seq_sh (fuel:Nat)(l:(List Tr))(r:Tr)(h:qiq fuel l=some r):Pure (ITP Tryd.prog) Tryd.prog 38 [.L (l:List Tr)] (.A (r:Tr)):=by
 unfold qiq at h
 refine zby 24 mix Tryd.func38 ent38 ?_
 refine zi (zc ?_)
 refine zcb (a:= .ptr 0 0) (σ'':=(.B [(33,[.u 0,.raw (.int .u64 0),.raw (.int .u64 0),.raw (.int .u64 0),.raw (.int .u64 0),.i 0,.i 0,.list 0 [] .full])])) ?_
 refine zbh h (bz 0 25 33554426) (fun j1=>[]) (fun j1=>(.B [(33,[.u 0,.raw (.int .u64 0),.raw (.int .u64 0),.raw (.int .u64 0),.raw (.int .u64 0),.i 0,.i 0,.list 0 [] .full])])) ?_ ?_
 intro or1 h hr1
 refine zx [.m _,.v (.i (List.length l:Int)),.v (.i 0)] ?_
 refine zag ?_
 refine zcx h (bz 0 25 33554330) (fun s1=>[(7,.i s1)]) (fun s1=>(.B [(33,[.u 0,.raw (.int .u64 0),.raw (.int .u64 0),.raw (.int .u64 0),.raw (.int .u64 0),.i 0,.i 0,.list 0 [] .full])])) ?_ ?_
 exact zcs (bl 25 229)
 intro s1 p1 h
 refine zet ?_
 refine zx [.v (.b (decide (s1<(List.length l:Int))))] ?_
 refine zi ?_
 refine zcd h (fun hc1 h=> ?_) (fun hc1 h=> ?_)
 refine zi ?_
 refine zag ?_
 refine zi (zc ?_)
 obtain⟨g1,h⟩:=zp h
 obtain⟨x1,hx1,h⟩:=zt h
 refine z6x hx1 g1 ?_
 refine w_o (a:= .A (x1:Tr)) ?_
 refine zcb (a:= .ptr 1 0) (σ'':=(.B [(33,[.u 0,.raw (.int .u64 0),.raw (.int .u64 0),.raw (.int .u64 0),.raw (.int .u64 0),.i 0,.i 0,.list 0 [] .full]),(33,[.u 0,.raw (.int .u64 0),.raw (.int .u64 0),.raw (.int .u64 0),.raw (.int .u64 0),.i 0,.i 0,.list 0 [] .full])])) ?_
 refine zco 8 (.B [(33,[.u 0,.raw (.int .u64 0),.raw (.int .u64 0),.raw (.int .u64 0),.raw (.int .u64 0),.i 0,.i 0,.list 0 [] .full]),(33,(Enc.cells (x1:Tr)))]) ?_
 refine zx [.v (.ptr 1 0),.v (.u ((x1.k:Nat):Int)),.v (.b (((x1.k:Nat):Int)==0))] ?_
 refine zaa h (fun hc2 h=> ?_) (fun hc2 h=> ?_)
 refine zak hc2 ?_
 refine w_r [.p,.p,.p,.v (.b true)] ?_
 refine zbf rfl ?_
 refine zi (zc ?_)
 refine zey (.A (zz:Tr)) (a0:=(zce zz .full)) rfl rfl rfl (by kernel_rfl) (zo _ _) (by dsimp only[zy,List.set]) ?_
 refine zco 8 (.B [(33,(Enc.cells (zz:Tr))),(33,(Enc.cells (x1:Tr)))]) ?_
 refine zaj h (fun h=> ?_)
 replace h:=zq h hr1
 exact zaq (fun(r:Tr)=> .A (r:Tr)) h (.A (zz:Tr))
 refine zak hc2 ?_
 refine zan rfl rfl ?_
 refine w_o (a:= .A (x1:Tr)) ?_
 refine zan rfl rfl ?_
 obtain⟨g2,h⟩:=zp h
 obtain⟨x2,hx2,h⟩:=zt h
 refine zdb (args':=[.A (x1:Tr)]) (r:= .b x2) (by rw[←hx2];exact(zxy x1 g2)) ?_
 refine w_r [.v (.b (!x2)),.v (.b (!x2))] ?_
 refine zcd h (fun hc3 h=> ?_) (fun hc3 h=> ?_)
 refine zi (zc ?_)
 refine zey (.A (zz:Tr)) (a0:=(zce zz .full)) rfl rfl rfl (by kernel_rfl) (zo _ _) (by dsimp only[zy,List.set]) ?_
 refine zco 8 (.B [(33,(Enc.cells (zz:Tr))),(33,(Enc.cells (x1:Tr)))]) ?_
 refine zaj h (fun h=> ?_)
 replace h:=zq h hr1
 exact zaq (fun(r:Tr)=> .A (r:Tr)) h (.A (zz:Tr))
 refine zc (k0:=0) (id:=6) ?_
 obtain⟨g3,h⟩:=zp h
 refine zio g3 ?_
 refine zac ?_
 refine zbs (p:=p1) ((s1+1)) h ?_
 exact zfa (bl 25 229) 1 (by kernel_rfl) (Nat.le_of_ble_eq_true rfl) (zcw (zav rfl rfl)) (by dsimp only[zbg,zbz,List.foldl,List.set,bz,bzc,Nat.reduceMod,Nat.reduceDiv,Nat.reduceBEq,Nat.reduceAdd];exact(za (zcl (Enc.cloL _)) (za rfl (za (by decide) (za rfl (za rfl (za (zcl (Enc.cloL _)) (by kernel_rfl)))))))) (by kernel_rfl)
 refine zaj h (fun h=> ?_)
 refine zg (o:=or1) () h ?_
 exact zcs (bl 25 5)
 intro j1 h
 refine zet ?_
 refine zx [.m _] ?_
 obtain⟨x3,hx3,h⟩:=zv h
 refine zdb (z8w fuel 3 1 l x3 hx3) ?_
 refine zey (.A ((Tr.mk 1 (0#256) 0 0 []):Tr)) (a0:=(zce (Tr.mk 1 (0#256) 0 0 []) .full)) rfl rfl rfl (by kernel_rfl) (zo _ _) (by dsimp only[zy,List.set]) ?_
 obtain⟨x4,hx4,h⟩:=zv h
 refine zdb (zyq 3 x3 (Tr.mk 1 (0#256) 0 0 []) x4 hx4) ?_
 refine zco 8 (.B [(33,(Enc.cells (x4:Tr)))]) ?_
 exact zaq (fun(r:Tr)=> .A (r:Tr)) h (.A (x4:Tr))
def F_or (fuel:Nat)(l:(List Tr)):Option Tr:=
 (zdr (τ:=Unit) (zbo (β:=Int) (fun s1=>(bif (decide (s1<(List.length l:Int))) then(chk (0≤s1∧s1<(List.length l:Int)) (zbi (ix l s1) (fun x1=>(zar (znq x1) (fun x2=>(bif (!x2) then(some (Sum.inr (Sum.inr zz))) else(chk (-9223372036854775808≤(s1+1)∧(s1+1)<9223372036854775808) (some (Sum.inl ((s1+1))))))))))) else(some (Sum.inr (Sum.inl ()))))) fuel (0)) (fun j1=>(zar (zqe fuel 4 0 l) (fun x3=>(zar (zhz 4 x3 zz) (fun x4=>(some x4)))))))
theorem ent40:Ent Tryd.prog 40:=enters_of Tryd.func40 (by kernel_rfl) rfl
theorem or_sh (fuel:Nat)(l:(List Tr))(r:Tr)(h:F_or fuel l=some r):Pure (ITP Tryd.prog) Tryd.prog 40 [.L (l:List Tr)] (.A (r:Tr)):=by
 unfold F_or at h
 refine zby 19 mix Tryd.func40 ent40 ?_
 refine zi (zc ?_)
 refine zcb (a:= .ptr 0 0) (σ'':=(.B [(33,[.u 0,.raw (.int .u64 0),.raw (.int .u64 0),.raw (.int .u64 0),.raw (.int .u64 0),.i 0,.i 0,.list 0 [] .full])])) ?_
 refine zbh h (bz 0 20 1048570) (fun j1=>[]) (fun j1=>(.B [(33,[.u 0,.raw (.int .u64 0),.raw (.int .u64 0),.raw (.int .u64 0),.raw (.int .u64 0),.i 0,.i 0,.list 0 [] .full])])) ?_ ?_
 intro or1 h hr1
 refine zx [.m _,.v (.i (List.length l:Int)),.v (.i 0)] ?_
 refine zag ?_
 refine zcx h (bz 0 20 1048474) (fun s1=>[(7,.i s1)]) (fun s1=>(.B [(33,[.u 0,.raw (.int .u64 0),.raw (.int .u64 0),.raw (.int .u64 0),.raw (.int .u64 0),.i 0,.i 0,.list 0 [] .full])])) ?_ ?_
 exact zcs (bl 20 229)
 intro s1 p1 h
 refine zet ?_
 refine zx [.v (.b (decide (s1<(List.length l:Int))))] ?_
 refine zi ?_
 refine zcd h (fun hc1 h=> ?_) (fun hc1 h=> ?_)
 refine zi ?_
 refine zag ?_
 refine zi (zc ?_)
 obtain⟨g1,h⟩:=zp h
 obtain⟨x1,hx1,h⟩:=zt h
 refine z6x hx1 g1 ?_
 refine w_o (a:= .A (x1:Tr)) ?_
 refine zcb (a:= .ptr 1 0) (σ'':=(.B [(33,[.u 0,.raw (.int .u64 0),.raw (.int .u64 0),.raw (.int .u64 0),.raw (.int .u64 0),.i 0,.i 0,.list 0 [] .full]),(33,[.u 0,.raw (.int .u64 0),.raw (.int .u64 0),.raw (.int .u64 0),.raw (.int .u64 0),.i 0,.i 0,.list 0 [] .full])])) ?_
 refine zco 8 (.B [(33,[.u 0,.raw (.int .u64 0),.raw (.int .u64 0),.raw (.int .u64 0),.raw (.int .u64 0),.i 0,.i 0,.list 0 [] .full]),(33,(Enc.cells (x1:Tr)))]) ?_
 refine zx [.v (.A (x1:Tr))] ?_
 obtain⟨x2,hx2,h⟩:=zv h
 refine zdb (ztf x1 x2 hx2) ?_
 refine w_o (a:= .b (!x2)) ?_
 refine zcd h (fun hc2 h=> ?_) (fun hc2 h=> ?_)
 refine zi (zc ?_)
 refine zey (.A (zz:Tr)) (a0:=(zce zz .full)) rfl rfl rfl (by kernel_rfl) (zo _ _) (by dsimp only[zy,List.set]) ?_
 refine zco 8 (.B [(33,(Enc.cells (zz:Tr))),(33,(Enc.cells (x1:Tr)))]) ?_
 refine zaj h (fun h=> ?_)
 replace h:=zq h hr1
 exact zaq (fun(r:Tr)=> .A (r:Tr)) h (.A (zz:Tr))
 refine zc (k0:=0) (id:=6) ?_
 obtain⟨g2,h⟩:=zp h
 refine zio g2 ?_
 refine zac ?_
 refine zbs (p:=p1) ((s1+1)) h ?_
 exact zfa (bl 20 229) 1 (by kernel_rfl) (Nat.le_of_ble_eq_true rfl) (zcw (zav rfl rfl)) (by dsimp only[zbg,zbz,List.foldl,List.set,bz,bzc,Nat.reduceMod,Nat.reduceDiv,Nat.reduceBEq,Nat.reduceAdd];exact(za (zcl (Enc.cloL _)) (za rfl (za (by decide) (za rfl (za rfl (za (zcl (Enc.cloL _)) (by kernel_rfl)))))))) (by kernel_rfl)
 refine zaj h (fun h=> ?_)
 refine zg (o:=or1) () h ?_
 exact zcs (bl 20 5)
 intro j1 h
 refine zet ?_
 refine zx [.m _] ?_
 obtain⟨x3,hx3,h⟩:=zv h
 refine zdb (z8w fuel 4 0 l x3 hx3) ?_
 refine zey (.A (zz:Tr)) (a0:=(zce zz .full)) rfl rfl rfl (by kernel_rfl) (zo _ _) (by dsimp only[zy,List.set]) ?_
 obtain⟨x4,hx4,h⟩:=zv h
 refine zdb (zyq 4 x3 zz x4 hx4) ?_
 refine zco 8 (.B [(33,(Enc.cells (x4:Tr)))]) ?_
 exact zaq (fun(r:Tr)=> .A (r:Tr)) h (.A (x4:Tr))
def zwg (t:Tr)(lo:Int)(hi:Int):Option Tr:=
 (bif (lo==0) then(bif (lo==1) then(zdr (τ:=Unit) (zar (znq t) (fun x1=>(bif (!x1) then(some (Sum.inr zz)) else(bif (!(hi==0)) then(bif (!(hi==1)) then(zar (zfo lo hi) (fun x2=>(bif (!x2) then(some (Sum.inr zz)) else(bif (((t.k:Nat):Int)==0) then(bif (decide (lo>0)) then(some (Sum.inr zz)) else(bif (hi==0) then(some (Sum.inr (Tr.mk 1 (0#256) 0 0 []))) else(some (Sum.inr (Tr.mk 1 (0#256) 0 0 []))))) else(bif (hi==0) then(some (Sum.inr (Tr.mk 1 (0#256) 0 0 []))) else(bif (((t.k:Nat):Int)==1) then(some (Sum.inr (Tr.mk 1 (0#256) 0 0 []))) else(bif (hi==1) then(chk ((pre t).length<2^40) (zbi t (fun x3=>(some (Sum.inr x3))))) else(some (Sum.inl ()))))))))) else(bif (((t.k:Nat):Int)==0) then(bif (decide (lo>0)) then(some (Sum.inr zz)) else(bif (hi==0) then(some (Sum.inr (Tr.mk 1 (0#256) 0 0 []))) else(some (Sum.inr (Tr.mk 1 (0#256) 0 0 []))))) else(bif (hi==0) then(some (Sum.inr (Tr.mk 1 (0#256) 0 0 []))) else(bif (((t.k:Nat):Int)==1) then(some (Sum.inr (Tr.mk 1 (0#256) 0 0 []))) else(bif (hi==1) then(chk ((pre t).length<2^40) (zbi t (fun x4=>(some (Sum.inr x4))))) else(some (Sum.inl ()))))))) else(bif (((t.k:Nat):Int)==0) then(bif (decide (lo>0)) then(some (Sum.inr zz)) else(bif (hi==0) then(some (Sum.inr (Tr.mk 1 (0#256) 0 0 []))) else(some (Sum.inr (Tr.mk 1 (0#256) 0 0 []))))) else(bif (hi==0) then(some (Sum.inr (Tr.mk 1 (0#256) 0 0 []))) else(bif (((t.k:Nat):Int)==1) then(some (Sum.inr (Tr.mk 1 (0#256) 0 0 []))) else(bif (hi==1) then(chk ((pre t).length<2^40) (zbi t (fun x5=>(some (Sum.inr x5))))) else(some (Sum.inl ())))))))))) (fun j1=>(zar (zeb (Tr.mk 5 (0#256) lo hi [t])) (fun x6=>(some x6))))) else(zdr (τ:=Unit) (zar (znq t) (fun x7=>(bif (!x7) then(some (Sum.inr zz)) else(bif (!(hi==0)) then(zar (zfo lo hi) (fun x8=>(bif (!x8) then(some (Sum.inr zz)) else(bif (((t.k:Nat):Int)==0) then(bif (decide (lo>0)) then(some (Sum.inr zz)) else(bif (hi==0) then(some (Sum.inr (Tr.mk 1 (0#256) 0 0 []))) else(some (Sum.inr (Tr.mk 1 (0#256) 0 0 []))))) else(bif (hi==0) then(some (Sum.inr (Tr.mk 1 (0#256) 0 0 []))) else(bif (((t.k:Nat):Int)==1) then(some (Sum.inr (Tr.mk 1 (0#256) 0 0 []))) else(some (Sum.inl ())))))))) else(bif (((t.k:Nat):Int)==0) then(bif (decide (lo>0)) then(some (Sum.inr zz)) else(bif (hi==0) then(some (Sum.inr (Tr.mk 1 (0#256) 0 0 []))) else(some (Sum.inr (Tr.mk 1 (0#256) 0 0 []))))) else(bif (hi==0) then(some (Sum.inr (Tr.mk 1 (0#256) 0 0 []))) else(bif (((t.k:Nat):Int)==1) then(some (Sum.inr (Tr.mk 1 (0#256) 0 0 []))) else(some (Sum.inl ()))))))))) (fun j2=>(zar (zeb (Tr.mk 5 (0#256) lo hi [t])) (fun x9=>(some x9)))))) else(bif (lo==1) then(zdr (τ:=Unit) (zar (znq t) (fun x10=>(bif (!x10) then(some (Sum.inr zz)) else(bif (!(hi==1)) then(zar (zfo lo hi) (fun x11=>(bif (!x11) then(some (Sum.inr zz)) else(bif (((t.k:Nat):Int)==0) then(bif (decide (lo>0)) then(some (Sum.inr zz)) else(some (Sum.inr (Tr.mk 1 (0#256) 0 0 [])))) else(bif (((t.k:Nat):Int)==1) then(some (Sum.inr (Tr.mk 1 (0#256) 0 0 []))) else(bif (hi==1) then(chk ((pre t).length<2^40) (zbi t (fun x12=>(some (Sum.inr x12))))) else(some (Sum.inl ())))))))) else(bif (((t.k:Nat):Int)==0) then(bif (decide (lo>0)) then(some (Sum.inr zz)) else(some (Sum.inr (Tr.mk 1 (0#256) 0 0 [])))) else(bif (((t.k:Nat):Int)==1) then(some (Sum.inr (Tr.mk 1 (0#256) 0 0 []))) else(bif (hi==1) then(chk ((pre t).length<2^40) (zbi t (fun x13=>(some (Sum.inr x13))))) else(some (Sum.inl ()))))))))) (fun j3=>(zar (zeb (Tr.mk 5 (0#256) lo hi [t])) (fun x14=>(some x14))))) else(zar (znq t) (fun x15=>(bif (!x15) then(some zz) else(zar (zfo lo hi) (fun x16=>(bif (!x16) then(some zz) else(bif (((t.k:Nat):Int)==0) then(bif (decide (lo>0)) then(some zz) else(some (Tr.mk 1 (0#256) 0 0 []))) else(bif (((t.k:Nat):Int)==1) then(some (Tr.mk 1 (0#256) 0 0 [])) else(zar (zeb (Tr.mk 5 (0#256) lo hi [t])) (fun x17=>(some x17)))))))))))))
theorem ent73:Ent Tryd.prog 73:=enters_of Tryd.func73 (by kernel_rfl) rfl
theorem qia (t:Tr)(lo:Int)(hi:Int)(r:Tr)(h:zwg t lo hi=some r):Pure (ITP Tryd.prog) Tryd.prog 73 [.A (t:Tr),.raw (.int .i64 lo),.raw (.int .i64 hi)] (.A (r:Tr)):=by
 unfold zwg at h
 refine zby 69 mix Tryd.func73 ent73 ?_
 refine zi (zc ?_)
 refine zcb (a:= .ptr 0 0) (σ'':=(.B [(33,(Enc.cells (t:Tr)))])) ?_
 refine zcb (a:= .ptr 1 0) (σ'':=(.B [(33,(Enc.cells (t:Tr))),(33,[.u 0,.raw (.int .u64 0),.raw (.int .u64 0),.raw (.int .u64 0),.raw (.int .u64 0),.i 0,.i 0,.list 0 [] .full])])) ?_
 refine zx [.m _,.v (.b (lo==0))] ?_
 refine zaa h (fun hc1 h=> ?_) (fun hc1 h=> ?_)
 refine zak hc1 ?_
 refine w_r [.m _,.v (.b (hi==0)),.v (.b (hi==0)),.m _,.v (.b (lo==1))] ?_
 refine zaa h (fun hc2 h=> ?_) (fun hc2 h=> ?_)
 refine zak hc2 ?_
 refine w_r [.m _,.v (.b (hi==1)),.v (.b (hi==1)),.m _,.m _] ?_
 refine zbh h (bz 0 72 4722366482869645213617) (fun j1=>[]) (fun j1=>(.B [(33,(Enc.cells (t:Tr))),(33,[.u 0,.raw (.int .u64 0),.raw (.int .u64 0),.raw (.int .u64 0),.raw (.int .u64 0),.i 0,.i 0,.list 0 [] .full])])) ?_ ?_
 intro or1 h hr1
 refine zag ?_
 refine zx [.v (.A (t:Tr))] ?_
 obtain⟨x1,hx1,h⟩:=zv h
 refine zdb (ztf t x1 hx1) ?_
 refine w_o (a:= .b (!x1)) ?_
 refine zaa h (fun hc3 h=> ?_) (fun hc3 h=> ?_)
 refine zak hc3 ?_
 refine w_r [.p,.p,.p,.p,.p] ?_
 refine w_r [.p,.p,.p,.p,.p] ?_
 refine w_r [.p,.p,.v (.b true),.m _] ?_
 refine zbf rfl ?_
 refine zi (zc ?_)
 refine zey (.A (zz:Tr)) (a0:=(zce zz .full)) rfl rfl rfl (by kernel_rfl) (zo _ _) (by dsimp only[zy,List.set]) ?_
 refine zco 8 (.B [(33,(Enc.cells (t:Tr))),(33,(Enc.cells (zz:Tr)))]) ?_
 replace h:=zq h hr1
 exact zaq (fun(r:Tr)=> .A (r:Tr)) h (.A (zz:Tr))
 refine zak hc3 ?_
 refine w_r [.m _,.v (.b (!(hi==0)))] ?_
 refine zan rfl rfl ?_
 refine zaa h (fun hc4 h=> ?_) (fun hc4 h=> ?_)
 refine zak hc4 ?_
 refine w_r [.m _,.v (.b (!(hi==1))),.v (.b (!(hi==1)))] ?_
 refine zan rfl rfl ?_
 refine zaa h (fun hc5 h=> ?_) (fun hc5 h=> ?_)
 refine zak hc5 ?_
 refine w_r [.m _,.m _] ?_
 refine zan rfl rfl ?_
 obtain⟨x2,hx2,h⟩:=zv h
 refine zdb (zit lo hi x2 hx2) ?_
 refine w_r [.v (.b (!x2)),.v (.b (!x2)),.v (.b (!x2)),.m _] ?_
 refine zcd h (fun hc6 h=> ?_) (fun hc6 h=> ?_)
 refine zi (zc ?_)
 refine zey (.A (zz:Tr)) (a0:=(zce zz .full)) rfl rfl rfl (by kernel_rfl) (zo _ _) (by dsimp only[zy,List.set]) ?_
 refine zco 8 (.B [(33,(Enc.cells (t:Tr))),(33,(Enc.cells (zz:Tr)))]) ?_
 replace h:=zq h hr1
 exact zaq (fun(r:Tr)=> .A (r:Tr)) h (.A (zz:Tr))
 refine zx [.v (.ptr 0 0),.v (.u ((t.k:Nat):Int)),.v (.b (((t.k:Nat):Int)==0))] ?_
 refine zaa h (fun hc7 h=> ?_) (fun hc7 h=> ?_)
 refine zak hc7 ?_
 refine w_r [.m _,.v (.b (decide (lo>0))),.v (.b (decide (lo>0))),.m _] ?_
 refine zcd h (fun hc8 h=> ?_) (fun hc8 h=> ?_)
 refine zi (zc ?_)
 refine zey (.A (zz:Tr)) (a0:=(zce zz .full)) rfl rfl rfl (by kernel_rfl) (zo _ _) (by dsimp only[zy,List.set]) ?_
 refine zco 8 (.B [(33,(Enc.cells (t:Tr))),(33,(Enc.cells (zz:Tr)))]) ?_
 replace h:=zq h hr1
 exact zaq (fun(r:Tr)=> .A (r:Tr)) h (.A (zz:Tr))
 refine zx [.m _] ?_
 refine zaa h (fun hc9 h=> ?_) (fun hc9 h=> ?_)
 refine zak hc9 ?_
 refine w_r [.p,.p,.p,.v (.b true),.m _] ?_
 refine w_r [.p,.p,.p,.v (.b true),.m _] ?_
 refine zbf rfl ?_
 refine zi (zc ?_)
 refine zey (.A ((Tr.mk 1 (0#256) 0 0 []):Tr)) (a0:=(zce (Tr.mk 1 (0#256) 0 0 []) .full)) rfl rfl rfl (by kernel_rfl) (zo _ _) (by dsimp only[zy,List.set]) ?_
 refine zco 8 (.B [(33,(Enc.cells (t:Tr))),(33,(Enc.cells ((Tr.mk 1 (0#256) 0 0 []):Tr)))]) ?_
 replace h:=zq h hr1
 exact zaq (fun(r:Tr)=> .A (r:Tr)) h (.A ((Tr.mk 1 (0#256) 0 0 []):Tr))
 refine zak hc9 ?_
 refine w_r [.v (.ptr 0 0),.v (.u ((t.k:Nat):Int)),.v (.b (((t.k:Nat):Int)==0)),.v (.b (((t.k:Nat):Int)==0))] ?_
 refine zak hc7 ?_
 refine w_r [.p,.p,.p,.v (.b true),.m _] ?_
 refine zbf rfl ?_
 refine zi (zc ?_)
 refine zey (.A ((Tr.mk 1 (0#256) 0 0 []):Tr)) (a0:=(zce (Tr.mk 1 (0#256) 0 0 []) .full)) rfl rfl rfl (by kernel_rfl) (zo _ _) (by dsimp only[zy,List.set]) ?_
 refine zco 8 (.B [(33,(Enc.cells (t:Tr))),(33,(Enc.cells ((Tr.mk 1 (0#256) 0 0 []):Tr)))]) ?_
 replace h:=zq h hr1
 exact zaq (fun(r:Tr)=> .A (r:Tr)) h (.A ((Tr.mk 1 (0#256) 0 0 []):Tr))
 refine zak hc7 ?_
 refine w_r [.p,.p,.v (.b false),.m _] ?_
 refine zax rfl ?_
 refine zx [.m _] ?_
 refine zaa h (fun hc10 h=> ?_) (fun hc10 h=> ?_)
 refine zak hc10 ?_
 refine w_r [.p,.p,.p,.v (.b true),.m _] ?_
 refine w_r [.p,.p,.p,.v (.b true),.m _] ?_
 refine zbf rfl ?_
 refine zi (zc ?_)
 refine zey (.A ((Tr.mk 1 (0#256) 0 0 []):Tr)) (a0:=(zce (Tr.mk 1 (0#256) 0 0 []) .full)) rfl rfl rfl (by kernel_rfl) (zo _ _) (by dsimp only[zy,List.set]) ?_
 refine zco 8 (.B [(33,(Enc.cells (t:Tr))),(33,(Enc.cells ((Tr.mk 1 (0#256) 0 0 []):Tr)))]) ?_
 replace h:=zq h hr1
 exact zaq (fun(r:Tr)=> .A (r:Tr)) h (.A ((Tr.mk 1 (0#256) 0 0 []):Tr))
 refine zak hc10 ?_
 refine w_r [.v (.ptr 0 0),.v (.u ((t.k:Nat):Int)),.v (.b (((t.k:Nat):Int)==0)),.v (.b (((t.k:Nat):Int)==0))] ?_
 refine zak hc7 ?_
 refine w_r [.v (.ptr 0 0),.v (.u ((t.k:Nat):Int)),.v (.b (((t.k:Nat):Int)==1)),.v (.b (((t.k:Nat):Int)==1)),.m _] ?_
 refine zcd h (fun hc11 h=> ?_) (fun hc11 h=> ?_)
 refine zi (zc ?_)
 refine zey (.A ((Tr.mk 1 (0#256) 0 0 []):Tr)) (a0:=(zce (Tr.mk 1 (0#256) 0 0 []) .full)) rfl rfl rfl (by kernel_rfl) (zo _ _) (by dsimp only[zy,List.set]) ?_
 refine zco 8 (.B [(33,(Enc.cells (t:Tr))),(33,(Enc.cells ((Tr.mk 1 (0#256) 0 0 []):Tr)))]) ?_
 replace h:=zq h hr1
 exact zaq (fun(r:Tr)=> .A (r:Tr)) h (.A ((Tr.mk 1 (0#256) 0 0 []):Tr))
 refine zx [.m _,.m _] ?_
 refine zcd h (fun hc12 h=> ?_) (fun hc12 h=> ?_)
 refine zx [.v (.A (t:Tr))] ?_
 obtain⟨g1,h⟩:=zp h
 obtain⟨x3,hx3,h⟩:=zt h
 refine zdb (args':=[.A (t:Tr)]) (r:= .A (x3:Tr)) (by rw[←hx3];exact(zlx t g1)) ?_
 refine zco 8 (.B [(33,(Enc.cells (t:Tr))),(33,(Enc.cells (x3:Tr)))]) ?_
 replace h:=zq h hr1
 exact zaq (fun(r:Tr)=> .A (r:Tr)) h (.A (x3:Tr))
 refine zg (o:=or1) () h ?_
 exact zcs (bl 72 78)
 refine zak hc5 ?_
 refine w_r [.p,.p,.p,.p,.v (.b false)] ?_
 refine w_r [.v (.b false),.m _] ?_
 refine zax rfl ?_
 refine zx [.v (.ptr 0 0),.v (.u ((t.k:Nat):Int)),.v (.b (((t.k:Nat):Int)==0))] ?_
 refine zaa h (fun hc13 h=> ?_) (fun hc13 h=> ?_)
 refine zak hc13 ?_
 refine w_r [.m _,.v (.b (decide (lo>0))),.v (.b (decide (lo>0))),.m _] ?_
 refine zcd h (fun hc14 h=> ?_) (fun hc14 h=> ?_)
 refine zi (zc ?_)
 refine zey (.A (zz:Tr)) (a0:=(zce zz .full)) rfl rfl rfl (by kernel_rfl) (zo _ _) (by dsimp only[zy,List.set]) ?_
 refine zco 8 (.B [(33,(Enc.cells (t:Tr))),(33,(Enc.cells (zz:Tr)))]) ?_
 replace h:=zq h hr1
 exact zaq (fun(r:Tr)=> .A (r:Tr)) h (.A (zz:Tr))
 refine zx [.m _] ?_
 refine zaa h (fun hc15 h=> ?_) (fun hc15 h=> ?_)
 refine zak hc15 ?_
 refine w_r [.p,.p,.p,.v (.b true),.m _] ?_
 refine w_r [.p,.p,.p,.v (.b true),.m _] ?_
 refine zbf rfl ?_
 refine zi (zc ?_)
 refine zey (.A ((Tr.mk 1 (0#256) 0 0 []):Tr)) (a0:=(zce (Tr.mk 1 (0#256) 0 0 []) .full)) rfl rfl rfl (by kernel_rfl) (zo _ _) (by dsimp only[zy,List.set]) ?_
 refine zco 8 (.B [(33,(Enc.cells (t:Tr))),(33,(Enc.cells ((Tr.mk 1 (0#256) 0 0 []):Tr)))]) ?_
 replace h:=zq h hr1
 exact zaq (fun(r:Tr)=> .A (r:Tr)) h (.A ((Tr.mk 1 (0#256) 0 0 []):Tr))
 refine zak hc15 ?_
 refine w_r [.v (.ptr 0 0),.v (.u ((t.k:Nat):Int)),.v (.b (((t.k:Nat):Int)==0)),.v (.b (((t.k:Nat):Int)==0))] ?_
 refine zak hc13 ?_
 refine w_r [.p,.p,.p,.v (.b true),.m _] ?_
 refine zbf rfl ?_
 refine zi (zc ?_)
 refine zey (.A ((Tr.mk 1 (0#256) 0 0 []):Tr)) (a0:=(zce (Tr.mk 1 (0#256) 0 0 []) .full)) rfl rfl rfl (by kernel_rfl) (zo _ _) (by dsimp only[zy,List.set]) ?_
 refine zco 8 (.B [(33,(Enc.cells (t:Tr))),(33,(Enc.cells ((Tr.mk 1 (0#256) 0 0 []):Tr)))]) ?_
 replace h:=zq h hr1
 exact zaq (fun(r:Tr)=> .A (r:Tr)) h (.A ((Tr.mk 1 (0#256) 0 0 []):Tr))
 refine zak hc13 ?_
 refine w_r [.p,.p,.v (.b false),.m _] ?_
 refine zax rfl ?_
 refine zx [.m _] ?_
 refine zaa h (fun hc16 h=> ?_) (fun hc16 h=> ?_)
 refine zak hc16 ?_
 refine w_r [.p,.p,.p,.v (.b true),.m _] ?_
 refine w_r [.p,.p,.p,.v (.b true),.m _] ?_
 refine zbf rfl ?_
 refine zi (zc ?_)
 refine zey (.A ((Tr.mk 1 (0#256) 0 0 []):Tr)) (a0:=(zce (Tr.mk 1 (0#256) 0 0 []) .full)) rfl rfl rfl (by kernel_rfl) (zo _ _) (by dsimp only[zy,List.set]) ?_
 refine zco 8 (.B [(33,(Enc.cells (t:Tr))),(33,(Enc.cells ((Tr.mk 1 (0#256) 0 0 []):Tr)))]) ?_
 replace h:=zq h hr1
 exact zaq (fun(r:Tr)=> .A (r:Tr)) h (.A ((Tr.mk 1 (0#256) 0 0 []):Tr))
 refine zak hc16 ?_
 refine w_r [.v (.ptr 0 0),.v (.u ((t.k:Nat):Int)),.v (.b (((t.k:Nat):Int)==0)),.v (.b (((t.k:Nat):Int)==0))] ?_
 refine zak hc13 ?_
 refine w_r [.v (.ptr 0 0),.v (.u ((t.k:Nat):Int)),.v (.b (((t.k:Nat):Int)==1)),.v (.b (((t.k:Nat):Int)==1)),.m _] ?_
 refine zcd h (fun hc17 h=> ?_) (fun hc17 h=> ?_)
 refine zi (zc ?_)
 refine zey (.A ((Tr.mk 1 (0#256) 0 0 []):Tr)) (a0:=(zce (Tr.mk 1 (0#256) 0 0 []) .full)) rfl rfl rfl (by kernel_rfl) (zo _ _) (by dsimp only[zy,List.set]) ?_
 refine zco 8 (.B [(33,(Enc.cells (t:Tr))),(33,(Enc.cells ((Tr.mk 1 (0#256) 0 0 []):Tr)))]) ?_
 replace h:=zq h hr1
 exact zaq (fun(r:Tr)=> .A (r:Tr)) h (.A ((Tr.mk 1 (0#256) 0 0 []):Tr))
 refine zx [.m _,.m _] ?_
 refine zcd h (fun hc18 h=> ?_) (fun hc18 h=> ?_)
 refine zx [.v (.A (t:Tr))] ?_
 obtain⟨g2,h⟩:=zp h
 obtain⟨x4,hx4,h⟩:=zt h
 refine zdb (args':=[.A (t:Tr)]) (r:= .A (x4:Tr)) (by rw[←hx4];exact(zlx t g2)) ?_
 refine zco 8 (.B [(33,(Enc.cells (t:Tr))),(33,(Enc.cells (x4:Tr)))]) ?_
 replace h:=zq h hr1
 exact zaq (fun(r:Tr)=> .A (r:Tr)) h (.A (x4:Tr))
 refine zg (o:=or1) () h ?_
 exact zcs (bl 72 78)
 refine zak hc4 ?_
 refine w_r [.p,.p,.v (.b false),.m _,.p] ?_
 refine w_r [.p,.p,.p,.v (.b false),.v (.b false)] ?_
 refine w_r [.m _] ?_
 refine zax rfl ?_
 refine zx [.v (.ptr 0 0),.v (.u ((t.k:Nat):Int)),.v (.b (((t.k:Nat):Int)==0))] ?_
 refine zaa h (fun hc19 h=> ?_) (fun hc19 h=> ?_)
 refine zak hc19 ?_
 refine w_r [.m _,.v (.b (decide (lo>0))),.v (.b (decide (lo>0))),.m _] ?_
 refine zcd h (fun hc20 h=> ?_) (fun hc20 h=> ?_)
 refine zi (zc ?_)
 refine zey (.A (zz:Tr)) (a0:=(zce zz .full)) rfl rfl rfl (by kernel_rfl) (zo _ _) (by dsimp only[zy,List.set]) ?_
 refine zco 8 (.B [(33,(Enc.cells (t:Tr))),(33,(Enc.cells (zz:Tr)))]) ?_
 replace h:=zq h hr1
 exact zaq (fun(r:Tr)=> .A (r:Tr)) h (.A (zz:Tr))
 refine zx [.m _] ?_
 refine zaa h (fun hc21 h=> ?_) (fun hc21 h=> ?_)
 refine zak hc21 ?_
 refine w_r [.p,.p,.p,.v (.b true),.m _] ?_
 refine w_r [.p,.p,.p,.v (.b true),.m _] ?_
 refine zbf rfl ?_
 refine zi (zc ?_)
 refine zey (.A ((Tr.mk 1 (0#256) 0 0 []):Tr)) (a0:=(zce (Tr.mk 1 (0#256) 0 0 []) .full)) rfl rfl rfl (by kernel_rfl) (zo _ _) (by dsimp only[zy,List.set]) ?_
 refine zco 8 (.B [(33,(Enc.cells (t:Tr))),(33,(Enc.cells ((Tr.mk 1 (0#256) 0 0 []):Tr)))]) ?_
 replace h:=zq h hr1
 exact zaq (fun(r:Tr)=> .A (r:Tr)) h (.A ((Tr.mk 1 (0#256) 0 0 []):Tr))
 refine zak hc21 ?_
 refine w_r [.v (.ptr 0 0),.v (.u ((t.k:Nat):Int)),.v (.b (((t.k:Nat):Int)==0)),.v (.b (((t.k:Nat):Int)==0))] ?_
 refine zak hc19 ?_
 refine w_r [.p,.p,.p,.v (.b true),.m _] ?_
 refine zbf rfl ?_
 refine zi (zc ?_)
 refine zey (.A ((Tr.mk 1 (0#256) 0 0 []):Tr)) (a0:=(zce (Tr.mk 1 (0#256) 0 0 []) .full)) rfl rfl rfl (by kernel_rfl) (zo _ _) (by dsimp only[zy,List.set]) ?_
 refine zco 8 (.B [(33,(Enc.cells (t:Tr))),(33,(Enc.cells ((Tr.mk 1 (0#256) 0 0 []):Tr)))]) ?_
 replace h:=zq h hr1
 exact zaq (fun(r:Tr)=> .A (r:Tr)) h (.A ((Tr.mk 1 (0#256) 0 0 []):Tr))
 refine zak hc19 ?_
 refine w_r [.p,.p,.v (.b false),.m _] ?_
 refine zax rfl ?_
 refine zx [.m _] ?_
 refine zaa h (fun hc22 h=> ?_) (fun hc22 h=> ?_)
 refine zak hc22 ?_
 refine w_r [.p,.p,.p,.v (.b true),.m _] ?_
 refine w_r [.p,.p,.p,.v (.b true),.m _] ?_
 refine zbf rfl ?_
 refine zi (zc ?_)
 refine zey (.A ((Tr.mk 1 (0#256) 0 0 []):Tr)) (a0:=(zce (Tr.mk 1 (0#256) 0 0 []) .full)) rfl rfl rfl (by kernel_rfl) (zo _ _) (by dsimp only[zy,List.set]) ?_
 refine zco 8 (.B [(33,(Enc.cells (t:Tr))),(33,(Enc.cells ((Tr.mk 1 (0#256) 0 0 []):Tr)))]) ?_
 replace h:=zq h hr1
 exact zaq (fun(r:Tr)=> .A (r:Tr)) h (.A ((Tr.mk 1 (0#256) 0 0 []):Tr))
 refine zak hc22 ?_
 refine w_r [.v (.ptr 0 0),.v (.u ((t.k:Nat):Int)),.v (.b (((t.k:Nat):Int)==0)),.v (.b (((t.k:Nat):Int)==0))] ?_
 refine zak hc19 ?_
 refine w_r [.v (.ptr 0 0),.v (.u ((t.k:Nat):Int)),.v (.b (((t.k:Nat):Int)==1)),.v (.b (((t.k:Nat):Int)==1)),.m _] ?_
 refine zcd h (fun hc23 h=> ?_) (fun hc23 h=> ?_)
 refine zi (zc ?_)
 refine zey (.A ((Tr.mk 1 (0#256) 0 0 []):Tr)) (a0:=(zce (Tr.mk 1 (0#256) 0 0 []) .full)) rfl rfl rfl (by kernel_rfl) (zo _ _) (by dsimp only[zy,List.set]) ?_
 refine zco 8 (.B [(33,(Enc.cells (t:Tr))),(33,(Enc.cells ((Tr.mk 1 (0#256) 0 0 []):Tr)))]) ?_
 replace h:=zq h hr1
 exact zaq (fun(r:Tr)=> .A (r:Tr)) h (.A ((Tr.mk 1 (0#256) 0 0 []):Tr))
 refine zx [.m _,.m _] ?_
 refine zcd h (fun hc24 h=> ?_) (fun hc24 h=> ?_)
 refine zx [.v (.A (t:Tr))] ?_
 obtain⟨g3,h⟩:=zp h
 obtain⟨x5,hx5,h⟩:=zt h
 refine zdb (args':=[.A (t:Tr)]) (r:= .A (x5:Tr)) (by rw[←hx5];exact(zlx t g3)) ?_
 refine zco 8 (.B [(33,(Enc.cells (t:Tr))),(33,(Enc.cells (x5:Tr)))]) ?_
 replace h:=zq h hr1
 exact zaq (fun(r:Tr)=> .A (r:Tr)) h (.A (x5:Tr))
 refine zg (o:=or1) () h ?_
 exact zcs (bl 72 78)
 intro j1 h
 refine zet ?_
 refine zx [.m _,.m _,.v (.A (t:Tr))] ?_
 refine w_o (a:= .F ([t]:List Tr)) (h:=zbb (zhr (α:=Tr) (l:=[t]) (cs:=Enc.cells (t:Tr)++[]) rfl (by rw[Enc.cons,Enc.nil]))) ?_
 refine zey (.A ((Tr.mk 5 (0#256) lo hi [t]):Tr)) (a0:=(zce (Tr.mk 5 (0#256) lo hi [t]) .full)) rfl rfl rfl (by kernel_rfl) (zo _ _) (by dsimp only[zy,List.set]) ?_
 obtain⟨x6,hx6,h⟩:=zv h
 refine zdb (zgi (Tr.mk 5 (0#256) lo hi [t]) x6 hx6) ?_
 refine zco 8 (.B [(33,(Enc.cells (t:Tr))),(33,(Enc.cells (x6:Tr)))]) ?_
 exact zaq (fun(r:Tr)=> .A (r:Tr)) h (.A (x6:Tr))
 refine zak hc2 ?_
 refine w_r [.p,.p,.v (.b false),.m _,.m _] ?_
 refine zbh h (bz 0 72 4722366482869645213617) (fun j2=>[]) (fun j2=>(.B [(33,(Enc.cells (t:Tr))),(33,[.u 0,.raw (.int .u64 0),.raw (.int .u64 0),.raw (.int .u64 0),.raw (.int .u64 0),.i 0,.i 0,.list 0 [] .full])])) ?_ ?_
 intro or2 h hr2
 refine zag ?_
 refine zx [.v (.A (t:Tr))] ?_
 obtain⟨x7,hx7,h⟩:=zv h
 refine zdb (ztf t x7 hx7) ?_
 refine w_o (a:= .b (!x7)) ?_
 refine zaa h (fun hc25 h=> ?_) (fun hc25 h=> ?_)
 refine zak hc25 ?_
 refine w_r [.p,.p,.p,.p,.p] ?_
 refine w_r [.p,.p,.p,.p,.p] ?_
 refine w_r [.p,.p,.v (.b true),.m _] ?_
 refine zbf rfl ?_
 refine zi (zc ?_)
 refine zey (.A (zz:Tr)) (a0:=(zce zz .full)) rfl rfl rfl (by kernel_rfl) (zo _ _) (by dsimp only[zy,List.set]) ?_
 refine zco 8 (.B [(33,(Enc.cells (t:Tr))),(33,(Enc.cells (zz:Tr)))]) ?_
 replace h:=zq h hr2
 exact zaq (fun(r:Tr)=> .A (r:Tr)) h (.A (zz:Tr))
 refine zak hc25 ?_
 refine w_r [.m _,.v (.b (!(hi==0)))] ?_
 refine zan rfl rfl ?_
 refine zaa h (fun hc26 h=> ?_) (fun hc26 h=> ?_)
 refine zak hc26 ?_
 refine w_r [.m _,.v (.b true),.v (.b true),.m _,.m _] ?_
 refine w_r [.m _] ?_
 refine zan rfl rfl ?_
 obtain⟨x8,hx8,h⟩:=zv h
 refine zdb (zit lo hi x8 hx8) ?_
 refine w_r [.v (.b (!x8)),.v (.b (!x8)),.v (.b (!x8)),.m _] ?_
 refine zcd h (fun hc27 h=> ?_) (fun hc27 h=> ?_)
 refine zi (zc ?_)
 refine zey (.A (zz:Tr)) (a0:=(zce zz .full)) rfl rfl rfl (by kernel_rfl) (zo _ _) (by dsimp only[zy,List.set]) ?_
 refine zco 8 (.B [(33,(Enc.cells (t:Tr))),(33,(Enc.cells (zz:Tr)))]) ?_
 replace h:=zq h hr2
 exact zaq (fun(r:Tr)=> .A (r:Tr)) h (.A (zz:Tr))
 refine zx [.v (.ptr 0 0),.v (.u ((t.k:Nat):Int)),.v (.b (((t.k:Nat):Int)==0))] ?_
 refine zaa h (fun hc28 h=> ?_) (fun hc28 h=> ?_)
 refine zak hc28 ?_
 refine w_r [.m _,.v (.b (decide (lo>0))),.v (.b (decide (lo>0))),.m _] ?_
 refine zcd h (fun hc29 h=> ?_) (fun hc29 h=> ?_)
 refine zi (zc ?_)
 refine zey (.A (zz:Tr)) (a0:=(zce zz .full)) rfl rfl rfl (by kernel_rfl) (zo _ _) (by dsimp only[zy,List.set]) ?_
 refine zco 8 (.B [(33,(Enc.cells (t:Tr))),(33,(Enc.cells (zz:Tr)))]) ?_
 replace h:=zq h hr2
 exact zaq (fun(r:Tr)=> .A (r:Tr)) h (.A (zz:Tr))
 refine zx [.m _] ?_
 refine zaa h (fun hc30 h=> ?_) (fun hc30 h=> ?_)
 refine zak hc30 ?_
 refine w_r [.p,.p,.p,.v (.b true),.m _] ?_
 refine w_r [.p,.p,.p,.v (.b true),.m _] ?_
 refine zbf rfl ?_
 refine zi (zc ?_)
 refine zey (.A ((Tr.mk 1 (0#256) 0 0 []):Tr)) (a0:=(zce (Tr.mk 1 (0#256) 0 0 []) .full)) rfl rfl rfl (by kernel_rfl) (zo _ _) (by dsimp only[zy,List.set]) ?_
 refine zco 8 (.B [(33,(Enc.cells (t:Tr))),(33,(Enc.cells ((Tr.mk 1 (0#256) 0 0 []):Tr)))]) ?_
 replace h:=zq h hr2
 exact zaq (fun(r:Tr)=> .A (r:Tr)) h (.A ((Tr.mk 1 (0#256) 0 0 []):Tr))
 refine zak hc30 ?_
 refine w_r [.v (.ptr 0 0),.v (.u ((t.k:Nat):Int)),.v (.b (((t.k:Nat):Int)==0)),.v (.b (((t.k:Nat):Int)==0))] ?_
 refine zak hc28 ?_
 refine w_r [.p,.p,.p,.v (.b true),.m _] ?_
 refine zbf rfl ?_
 refine zi (zc ?_)
 refine zey (.A ((Tr.mk 1 (0#256) 0 0 []):Tr)) (a0:=(zce (Tr.mk 1 (0#256) 0 0 []) .full)) rfl rfl rfl (by kernel_rfl) (zo _ _) (by dsimp only[zy,List.set]) ?_
 refine zco 8 (.B [(33,(Enc.cells (t:Tr))),(33,(Enc.cells ((Tr.mk 1 (0#256) 0 0 []):Tr)))]) ?_
 replace h:=zq h hr2
 exact zaq (fun(r:Tr)=> .A (r:Tr)) h (.A ((Tr.mk 1 (0#256) 0 0 []):Tr))
 refine zak hc28 ?_
 refine w_r [.p,.p,.v (.b false),.m _] ?_
 refine zax rfl ?_
 refine zx [.m _] ?_
 refine zaa h (fun hc31 h=> ?_) (fun hc31 h=> ?_)
 refine zak hc31 ?_
 refine w_r [.p,.p,.p,.v (.b true),.m _] ?_
 refine w_r [.p,.p,.p,.v (.b true),.m _] ?_
 refine zbf rfl ?_
 refine zi (zc ?_)
 refine zey (.A ((Tr.mk 1 (0#256) 0 0 []):Tr)) (a0:=(zce (Tr.mk 1 (0#256) 0 0 []) .full)) rfl rfl rfl (by kernel_rfl) (zo _ _) (by dsimp only[zy,List.set]) ?_
 refine zco 8 (.B [(33,(Enc.cells (t:Tr))),(33,(Enc.cells ((Tr.mk 1 (0#256) 0 0 []):Tr)))]) ?_
 replace h:=zq h hr2
 exact zaq (fun(r:Tr)=> .A (r:Tr)) h (.A ((Tr.mk 1 (0#256) 0 0 []):Tr))
 refine zak hc31 ?_
 refine w_r [.v (.ptr 0 0),.v (.u ((t.k:Nat):Int)),.v (.b (((t.k:Nat):Int)==0)),.v (.b (((t.k:Nat):Int)==0))] ?_
 refine zak hc28 ?_
 refine w_r [.v (.ptr 0 0),.v (.u ((t.k:Nat):Int)),.v (.b (((t.k:Nat):Int)==1)),.v (.b (((t.k:Nat):Int)==1)),.m _] ?_
 refine zcd h (fun hc32 h=> ?_) (fun hc32 h=> ?_)
 refine zi (zc ?_)
 refine zey (.A ((Tr.mk 1 (0#256) 0 0 []):Tr)) (a0:=(zce (Tr.mk 1 (0#256) 0 0 []) .full)) rfl rfl rfl (by kernel_rfl) (zo _ _) (by dsimp only[zy,List.set]) ?_
 refine zco 8 (.B [(33,(Enc.cells (t:Tr))),(33,(Enc.cells ((Tr.mk 1 (0#256) 0 0 []):Tr)))]) ?_
 replace h:=zq h hr2
 exact zaq (fun(r:Tr)=> .A (r:Tr)) h (.A ((Tr.mk 1 (0#256) 0 0 []):Tr))
 refine zx [.m _,.m _] ?_
 refine zax rfl ?_
 refine zg (o:=or2) () h ?_
 exact zcs (bl 72 78)
 refine zak hc26 ?_
 refine w_r [.p,.p,.v (.b false),.m _,.p] ?_
 refine w_r [.p,.p,.p,.v (.b false),.v (.b false)] ?_
 refine w_r [.m _] ?_
 refine zax rfl ?_
 refine zx [.v (.ptr 0 0),.v (.u ((t.k:Nat):Int)),.v (.b (((t.k:Nat):Int)==0))] ?_
 refine zaa h (fun hc33 h=> ?_) (fun hc33 h=> ?_)
 refine zak hc33 ?_
 refine w_r [.m _,.v (.b (decide (lo>0))),.v (.b (decide (lo>0))),.m _] ?_
 refine zcd h (fun hc34 h=> ?_) (fun hc34 h=> ?_)
 refine zi (zc ?_)
 refine zey (.A (zz:Tr)) (a0:=(zce zz .full)) rfl rfl rfl (by kernel_rfl) (zo _ _) (by dsimp only[zy,List.set]) ?_
 refine zco 8 (.B [(33,(Enc.cells (t:Tr))),(33,(Enc.cells (zz:Tr)))]) ?_
 replace h:=zq h hr2
 exact zaq (fun(r:Tr)=> .A (r:Tr)) h (.A (zz:Tr))
 refine zx [.m _] ?_
 refine zaa h (fun hc35 h=> ?_) (fun hc35 h=> ?_)
 refine zak hc35 ?_
 refine w_r [.p,.p,.p,.v (.b true),.m _] ?_
 refine w_r [.p,.p,.p,.v (.b true),.m _] ?_
 refine zbf rfl ?_
 refine zi (zc ?_)
 refine zey (.A ((Tr.mk 1 (0#256) 0 0 []):Tr)) (a0:=(zce (Tr.mk 1 (0#256) 0 0 []) .full)) rfl rfl rfl (by kernel_rfl) (zo _ _) (by dsimp only[zy,List.set]) ?_
 refine zco 8 (.B [(33,(Enc.cells (t:Tr))),(33,(Enc.cells ((Tr.mk 1 (0#256) 0 0 []):Tr)))]) ?_
 replace h:=zq h hr2
 exact zaq (fun(r:Tr)=> .A (r:Tr)) h (.A ((Tr.mk 1 (0#256) 0 0 []):Tr))
 refine zak hc35 ?_
 refine w_r [.v (.ptr 0 0),.v (.u ((t.k:Nat):Int)),.v (.b (((t.k:Nat):Int)==0)),.v (.b (((t.k:Nat):Int)==0))] ?_
 refine zak hc33 ?_
 refine w_r [.p,.p,.p,.v (.b true),.m _] ?_
 refine zbf rfl ?_
 refine zi (zc ?_)
 refine zey (.A ((Tr.mk 1 (0#256) 0 0 []):Tr)) (a0:=(zce (Tr.mk 1 (0#256) 0 0 []) .full)) rfl rfl rfl (by kernel_rfl) (zo _ _) (by dsimp only[zy,List.set]) ?_
 refine zco 8 (.B [(33,(Enc.cells (t:Tr))),(33,(Enc.cells ((Tr.mk 1 (0#256) 0 0 []):Tr)))]) ?_
 replace h:=zq h hr2
 exact zaq (fun(r:Tr)=> .A (r:Tr)) h (.A ((Tr.mk 1 (0#256) 0 0 []):Tr))
 refine zak hc33 ?_
 refine w_r [.p,.p,.v (.b false),.m _] ?_
 refine zax rfl ?_
 refine zx [.m _] ?_
 refine zaa h (fun hc36 h=> ?_) (fun hc36 h=> ?_)
 refine zak hc36 ?_
 refine w_r [.p,.p,.p,.v (.b true),.m _] ?_
 refine w_r [.p,.p,.p,.v (.b true),.m _] ?_
 refine zbf rfl ?_
 refine zi (zc ?_)
 refine zey (.A ((Tr.mk 1 (0#256) 0 0 []):Tr)) (a0:=(zce (Tr.mk 1 (0#256) 0 0 []) .full)) rfl rfl rfl (by kernel_rfl) (zo _ _) (by dsimp only[zy,List.set]) ?_
 refine zco 8 (.B [(33,(Enc.cells (t:Tr))),(33,(Enc.cells ((Tr.mk 1 (0#256) 0 0 []):Tr)))]) ?_
 replace h:=zq h hr2
 exact zaq (fun(r:Tr)=> .A (r:Tr)) h (.A ((Tr.mk 1 (0#256) 0 0 []):Tr))
 refine zak hc36 ?_
 refine w_r [.v (.ptr 0 0),.v (.u ((t.k:Nat):Int)),.v (.b (((t.k:Nat):Int)==0)),.v (.b (((t.k:Nat):Int)==0))] ?_
 refine zak hc33 ?_
 refine w_r [.v (.ptr 0 0),.v (.u ((t.k:Nat):Int)),.v (.b (((t.k:Nat):Int)==1)),.v (.b (((t.k:Nat):Int)==1)),.m _] ?_
 refine zcd h (fun hc37 h=> ?_) (fun hc37 h=> ?_)
 refine zi (zc ?_)
 refine zey (.A ((Tr.mk 1 (0#256) 0 0 []):Tr)) (a0:=(zce (Tr.mk 1 (0#256) 0 0 []) .full)) rfl rfl rfl (by kernel_rfl) (zo _ _) (by dsimp only[zy,List.set]) ?_
 refine zco 8 (.B [(33,(Enc.cells (t:Tr))),(33,(Enc.cells ((Tr.mk 1 (0#256) 0 0 []):Tr)))]) ?_
 replace h:=zq h hr2
 exact zaq (fun(r:Tr)=> .A (r:Tr)) h (.A ((Tr.mk 1 (0#256) 0 0 []):Tr))
 refine zx [.m _,.m _] ?_
 refine zax rfl ?_
 refine zg (o:=or2) () h ?_
 exact zcs (bl 72 78)
 intro j2 h
 refine zet ?_
 refine zx [.m _,.m _,.v (.A (t:Tr))] ?_
 refine w_o (a:= .F ([t]:List Tr)) (h:=zbb (zhr (α:=Tr) (l:=[t]) (cs:=Enc.cells (t:Tr)++[]) rfl (by rw[Enc.cons,Enc.nil]))) ?_
 refine zey (.A ((Tr.mk 5 (0#256) lo hi [t]):Tr)) (a0:=(zce (Tr.mk 5 (0#256) lo hi [t]) .full)) rfl rfl rfl (by kernel_rfl) (zo _ _) (by dsimp only[zy,List.set]) ?_
 obtain⟨x9,hx9,h⟩:=zv h
 refine zdb (zgi (Tr.mk 5 (0#256) lo hi [t]) x9 hx9) ?_
 refine zco 8 (.B [(33,(Enc.cells (t:Tr))),(33,(Enc.cells (x9:Tr)))]) ?_
 exact zaq (fun(r:Tr)=> .A (r:Tr)) h (.A (x9:Tr))
 refine zak hc1 ?_
 refine w_r [.p,.p,.v (.b false),.m _,.v (.b (lo==1))] ?_
 refine zaa h (fun hc38 h=> ?_) (fun hc38 h=> ?_)
 refine zak hc38 ?_
 refine w_r [.m _,.v (.b (hi==1)),.v (.b (hi==1)),.m _,.m _] ?_
 refine zbh h (bz 0 72 4722366482869645213617) (fun j3=>[]) (fun j3=>(.B [(33,(Enc.cells (t:Tr))),(33,[.u 0,.raw (.int .u64 0),.raw (.int .u64 0),.raw (.int .u64 0),.raw (.int .u64 0),.i 0,.i 0,.list 0 [] .full])])) ?_ ?_
 intro or3 h hr3
 refine zag ?_
 refine zx [.v (.A (t:Tr))] ?_
 obtain⟨x10,hx10,h⟩:=zv h
 refine zdb (ztf t x10 hx10) ?_
 refine w_o (a:= .b (!x10)) ?_
 refine zaa h (fun hc39 h=> ?_) (fun hc39 h=> ?_)
 refine zak hc39 ?_
 refine w_r [.p,.p,.p,.p,.p] ?_
 refine w_r [.p,.p,.p,.p,.p] ?_
 refine w_r [.p,.p,.v (.b true),.m _] ?_
 refine zbf rfl ?_
 refine zi (zc ?_)
 refine zey (.A (zz:Tr)) (a0:=(zce zz .full)) rfl rfl rfl (by kernel_rfl) (zo _ _) (by dsimp only[zy,List.set]) ?_
 refine zco 8 (.B [(33,(Enc.cells (t:Tr))),(33,(Enc.cells (zz:Tr)))]) ?_
 replace h:=zq h hr3
 exact zaq (fun(r:Tr)=> .A (r:Tr)) h (.A (zz:Tr))
 refine zak hc39 ?_
 refine w_r [.m _,.v (.b true),.m _,.m _,.v (.b (!(hi==1)))] ?_
 refine w_r [.v (.b (!(hi==1)))] ?_
 refine zan rfl rfl ?_
 refine zaa h (fun hc40 h=> ?_) (fun hc40 h=> ?_)
 refine zak hc40 ?_
 refine w_r [.m _,.m _] ?_
 refine zan rfl rfl ?_
 obtain⟨x11,hx11,h⟩:=zv h
 refine zdb (zit lo hi x11 hx11) ?_
 refine w_r [.v (.b (!x11)),.v (.b (!x11)),.v (.b (!x11)),.m _] ?_
 refine zcd h (fun hc41 h=> ?_) (fun hc41 h=> ?_)
 refine zi (zc ?_)
 refine zey (.A (zz:Tr)) (a0:=(zce zz .full)) rfl rfl rfl (by kernel_rfl) (zo _ _) (by dsimp only[zy,List.set]) ?_
 refine zco 8 (.B [(33,(Enc.cells (t:Tr))),(33,(Enc.cells (zz:Tr)))]) ?_
 replace h:=zq h hr3
 exact zaq (fun(r:Tr)=> .A (r:Tr)) h (.A (zz:Tr))
 refine zx [.v (.ptr 0 0),.v (.u ((t.k:Nat):Int)),.v (.b (((t.k:Nat):Int)==0))] ?_
 refine zaa h (fun hc42 h=> ?_) (fun hc42 h=> ?_)
 refine zak hc42 ?_
 refine w_r [.m _,.v (.b (decide (lo>0))),.v (.b (decide (lo>0))),.m _] ?_
 refine zcd h (fun hc43 h=> ?_) (fun hc43 h=> ?_)
 refine zi (zc ?_)
 refine zey (.A (zz:Tr)) (a0:=(zce zz .full)) rfl rfl rfl (by kernel_rfl) (zo _ _) (by dsimp only[zy,List.set]) ?_
 refine zco 8 (.B [(33,(Enc.cells (t:Tr))),(33,(Enc.cells (zz:Tr)))]) ?_
 replace h:=zq h hr3
 exact zaq (fun(r:Tr)=> .A (r:Tr)) h (.A (zz:Tr))
 refine zx [.m _,.m _,.v (.ptr 0 0),.v (.u ((t.k:Nat):Int)),.v (.b (((t.k:Nat):Int)==0))] ?_
 refine w_r [.v (.b (((t.k:Nat):Int)==0))] ?_
 refine zak hc42 ?_
 refine w_r [.p,.p,.p,.v (.b true),.m _] ?_
 refine zbf rfl ?_
 refine zi (zc ?_)
 refine zey (.A ((Tr.mk 1 (0#256) 0 0 []):Tr)) (a0:=(zce (Tr.mk 1 (0#256) 0 0 []) .full)) rfl rfl rfl (by kernel_rfl) (zo _ _) (by dsimp only[zy,List.set]) ?_
 refine zco 8 (.B [(33,(Enc.cells (t:Tr))),(33,(Enc.cells ((Tr.mk 1 (0#256) 0 0 []):Tr)))]) ?_
 replace h:=zq h hr3
 exact zaq (fun(r:Tr)=> .A (r:Tr)) h (.A ((Tr.mk 1 (0#256) 0 0 []):Tr))
 refine zak hc42 ?_
 refine w_r [.p,.p,.v (.b false),.m _] ?_
 refine zax rfl ?_
 refine zx [.m _,.m _,.v (.ptr 0 0),.v (.u ((t.k:Nat):Int)),.v (.b (((t.k:Nat):Int)==0))] ?_
 refine w_r [.v (.b (((t.k:Nat):Int)==0))] ?_
 refine zak hc42 ?_
 refine w_r [.v (.ptr 0 0),.v (.u ((t.k:Nat):Int)),.v (.b (((t.k:Nat):Int)==1)),.v (.b (((t.k:Nat):Int)==1)),.m _] ?_
 refine zcd h (fun hc44 h=> ?_) (fun hc44 h=> ?_)
 refine zi (zc ?_)
 refine zey (.A ((Tr.mk 1 (0#256) 0 0 []):Tr)) (a0:=(zce (Tr.mk 1 (0#256) 0 0 []) .full)) rfl rfl rfl (by kernel_rfl) (zo _ _) (by dsimp only[zy,List.set]) ?_
 refine zco 8 (.B [(33,(Enc.cells (t:Tr))),(33,(Enc.cells ((Tr.mk 1 (0#256) 0 0 []):Tr)))]) ?_
 replace h:=zq h hr3
 exact zaq (fun(r:Tr)=> .A (r:Tr)) h (.A ((Tr.mk 1 (0#256) 0 0 []):Tr))
 refine zx [.m _,.m _] ?_
 refine zcd h (fun hc45 h=> ?_) (fun hc45 h=> ?_)
 refine zx [.v (.A (t:Tr))] ?_
 obtain⟨g4,h⟩:=zp h
 obtain⟨x12,hx12,h⟩:=zt h
 refine zdb (args':=[.A (t:Tr)]) (r:= .A (x12:Tr)) (by rw[←hx12];exact(zlx t g4)) ?_
 refine zco 8 (.B [(33,(Enc.cells (t:Tr))),(33,(Enc.cells (x12:Tr)))]) ?_
 replace h:=zq h hr3
 exact zaq (fun(r:Tr)=> .A (r:Tr)) h (.A (x12:Tr))
 refine zg (o:=or3) () h ?_
 exact zcs (bl 72 78)
 refine zak hc40 ?_
 refine w_r [.p,.p,.p,.p,.v (.b false)] ?_
 refine w_r [.v (.b false),.m _] ?_
 refine zax rfl ?_
 refine zx [.v (.ptr 0 0),.v (.u ((t.k:Nat):Int)),.v (.b (((t.k:Nat):Int)==0))] ?_
 refine zaa h (fun hc46 h=> ?_) (fun hc46 h=> ?_)
 refine zak hc46 ?_
 refine w_r [.m _,.v (.b (decide (lo>0))),.v (.b (decide (lo>0))),.m _] ?_
 refine zcd h (fun hc47 h=> ?_) (fun hc47 h=> ?_)
 refine zi (zc ?_)
 refine zey (.A (zz:Tr)) (a0:=(zce zz .full)) rfl rfl rfl (by kernel_rfl) (zo _ _) (by dsimp only[zy,List.set]) ?_
 refine zco 8 (.B [(33,(Enc.cells (t:Tr))),(33,(Enc.cells (zz:Tr)))]) ?_
 replace h:=zq h hr3
 exact zaq (fun(r:Tr)=> .A (r:Tr)) h (.A (zz:Tr))
 refine zx [.m _,.m _,.v (.ptr 0 0),.v (.u ((t.k:Nat):Int)),.v (.b (((t.k:Nat):Int)==0))] ?_
 refine w_r [.v (.b (((t.k:Nat):Int)==0))] ?_
 refine zak hc46 ?_
 refine w_r [.p,.p,.p,.v (.b true),.m _] ?_
 refine zbf rfl ?_
 refine zi (zc ?_)
 refine zey (.A ((Tr.mk 1 (0#256) 0 0 []):Tr)) (a0:=(zce (Tr.mk 1 (0#256) 0 0 []) .full)) rfl rfl rfl (by kernel_rfl) (zo _ _) (by dsimp only[zy,List.set]) ?_
 refine zco 8 (.B [(33,(Enc.cells (t:Tr))),(33,(Enc.cells ((Tr.mk 1 (0#256) 0 0 []):Tr)))]) ?_
 replace h:=zq h hr3
 exact zaq (fun(r:Tr)=> .A (r:Tr)) h (.A ((Tr.mk 1 (0#256) 0 0 []):Tr))
 refine zak hc46 ?_
 refine w_r [.p,.p,.v (.b false),.m _] ?_
 refine zax rfl ?_
 refine zx [.m _,.m _,.v (.ptr 0 0),.v (.u ((t.k:Nat):Int)),.v (.b (((t.k:Nat):Int)==0))] ?_
 refine w_r [.v (.b (((t.k:Nat):Int)==0))] ?_
 refine zak hc46 ?_
 refine w_r [.v (.ptr 0 0),.v (.u ((t.k:Nat):Int)),.v (.b (((t.k:Nat):Int)==1)),.v (.b (((t.k:Nat):Int)==1)),.m _] ?_
 refine zcd h (fun hc48 h=> ?_) (fun hc48 h=> ?_)
 refine zi (zc ?_)
 refine zey (.A ((Tr.mk 1 (0#256) 0 0 []):Tr)) (a0:=(zce (Tr.mk 1 (0#256) 0 0 []) .full)) rfl rfl rfl (by kernel_rfl) (zo _ _) (by dsimp only[zy,List.set]) ?_
 refine zco 8 (.B [(33,(Enc.cells (t:Tr))),(33,(Enc.cells ((Tr.mk 1 (0#256) 0 0 []):Tr)))]) ?_
 replace h:=zq h hr3
 exact zaq (fun(r:Tr)=> .A (r:Tr)) h (.A ((Tr.mk 1 (0#256) 0 0 []):Tr))
 refine zx [.m _,.m _] ?_
 refine zcd h (fun hc49 h=> ?_) (fun hc49 h=> ?_)
 refine zx [.v (.A (t:Tr))] ?_
 obtain⟨g5,h⟩:=zp h
 obtain⟨x13,hx13,h⟩:=zt h
 refine zdb (args':=[.A (t:Tr)]) (r:= .A (x13:Tr)) (by rw[←hx13];exact(zlx t g5)) ?_
 refine zco 8 (.B [(33,(Enc.cells (t:Tr))),(33,(Enc.cells (x13:Tr)))]) ?_
 replace h:=zq h hr3
 exact zaq (fun(r:Tr)=> .A (r:Tr)) h (.A (x13:Tr))
 refine zg (o:=or3) () h ?_
 exact zcs (bl 72 78)
 intro j3 h
 refine zet ?_
 refine zx [.m _,.m _,.v (.A (t:Tr))] ?_
 refine w_o (a:= .F ([t]:List Tr)) (h:=zbb (zhr (α:=Tr) (l:=[t]) (cs:=Enc.cells (t:Tr)++[]) rfl (by rw[Enc.cons,Enc.nil]))) ?_
 refine zey (.A ((Tr.mk 5 (0#256) lo hi [t]):Tr)) (a0:=(zce (Tr.mk 5 (0#256) lo hi [t]) .full)) rfl rfl rfl (by kernel_rfl) (zo _ _) (by dsimp only[zy,List.set]) ?_
 obtain⟨x14,hx14,h⟩:=zv h
 refine zdb (zgi (Tr.mk 5 (0#256) lo hi [t]) x14 hx14) ?_
 refine zco 8 (.B [(33,(Enc.cells (t:Tr))),(33,(Enc.cells (x14:Tr)))]) ?_
 exact zaq (fun(r:Tr)=> .A (r:Tr)) h (.A (x14:Tr))
 refine zak hc38 ?_
 refine w_r [.p,.p,.v (.b false),.m _,.m _] ?_
 refine zi ?_
 refine zag ?_
 refine zx [.v (.A (t:Tr))] ?_
 obtain⟨x15,hx15,h⟩:=zv h
 refine zdb (ztf t x15 hx15) ?_
 refine w_o (a:= .b (!x15)) ?_
 refine zaa h (fun hc50 h=> ?_) (fun hc50 h=> ?_)
 refine zak hc50 ?_
 refine w_r [.p,.p,.p,.p,.p] ?_
 refine w_r [.p,.p,.p,.p,.p] ?_
 refine w_r [.p,.p,.v (.b true),.m _] ?_
 refine zbf rfl ?_
 refine zi (zc ?_)
 refine zey (.A (zz:Tr)) (a0:=(zce zz .full)) rfl rfl rfl (by kernel_rfl) (zo _ _) (by dsimp only[zy,List.set]) ?_
 refine zco 8 (.B [(33,(Enc.cells (t:Tr))),(33,(Enc.cells (zz:Tr)))]) ?_
 exact zaq (fun(r:Tr)=> .A (r:Tr)) h (.A (zz:Tr))
 refine zak hc50 ?_
 refine w_r [.m _,.v (.b true),.m _,.m _,.v (.b true)] ?_
 refine w_r [.v (.b true),.m _,.m _,.m _] ?_
 refine zan rfl rfl ?_
 obtain⟨x16,hx16,h⟩:=zv h
 refine zdb (zit lo hi x16 hx16) ?_
 refine w_r [.v (.b (!x16)),.v (.b (!x16)),.v (.b (!x16)),.m _] ?_
 refine zcd h (fun hc51 h=> ?_) (fun hc51 h=> ?_)
 refine zi (zc ?_)
 refine zey (.A (zz:Tr)) (a0:=(zce zz .full)) rfl rfl rfl (by kernel_rfl) (zo _ _) (by dsimp only[zy,List.set]) ?_
 refine zco 8 (.B [(33,(Enc.cells (t:Tr))),(33,(Enc.cells (zz:Tr)))]) ?_
 exact zaq (fun(r:Tr)=> .A (r:Tr)) h (.A (zz:Tr))
 refine zx [.v (.ptr 0 0),.v (.u ((t.k:Nat):Int)),.v (.b (((t.k:Nat):Int)==0))] ?_
 refine zaa h (fun hc52 h=> ?_) (fun hc52 h=> ?_)
 refine zak hc52 ?_
 refine w_r [.m _,.v (.b (decide (lo>0))),.v (.b (decide (lo>0))),.m _] ?_
 refine zcd h (fun hc53 h=> ?_) (fun hc53 h=> ?_)
 refine zi (zc ?_)
 refine zey (.A (zz:Tr)) (a0:=(zce zz .full)) rfl rfl rfl (by kernel_rfl) (zo _ _) (by dsimp only[zy,List.set]) ?_
 refine zco 8 (.B [(33,(Enc.cells (t:Tr))),(33,(Enc.cells (zz:Tr)))]) ?_
 exact zaq (fun(r:Tr)=> .A (r:Tr)) h (.A (zz:Tr))
 refine zx [.m _,.m _,.v (.ptr 0 0),.v (.u ((t.k:Nat):Int)),.v (.b (((t.k:Nat):Int)==0))] ?_
 refine w_r [.v (.b (((t.k:Nat):Int)==0))] ?_
 refine zak hc52 ?_
 refine w_r [.p,.p,.p,.v (.b true),.m _] ?_
 refine zbf rfl ?_
 refine zi (zc ?_)
 refine zey (.A ((Tr.mk 1 (0#256) 0 0 []):Tr)) (a0:=(zce (Tr.mk 1 (0#256) 0 0 []) .full)) rfl rfl rfl (by kernel_rfl) (zo _ _) (by dsimp only[zy,List.set]) ?_
 refine zco 8 (.B [(33,(Enc.cells (t:Tr))),(33,(Enc.cells ((Tr.mk 1 (0#256) 0 0 []):Tr)))]) ?_
 exact zaq (fun(r:Tr)=> .A (r:Tr)) h (.A ((Tr.mk 1 (0#256) 0 0 []):Tr))
 refine zak hc52 ?_
 refine w_r [.p,.p,.v (.b false),.m _] ?_
 refine zax rfl ?_
 refine zx [.m _,.m _,.v (.ptr 0 0),.v (.u ((t.k:Nat):Int)),.v (.b (((t.k:Nat):Int)==0))] ?_
 refine w_r [.v (.b (((t.k:Nat):Int)==0))] ?_
 refine zak hc52 ?_
 refine w_r [.v (.ptr 0 0),.v (.u ((t.k:Nat):Int)),.v (.b (((t.k:Nat):Int)==1)),.v (.b (((t.k:Nat):Int)==1)),.m _] ?_
 refine zcd h (fun hc54 h=> ?_) (fun hc54 h=> ?_)
 refine zi (zc ?_)
 refine zey (.A ((Tr.mk 1 (0#256) 0 0 []):Tr)) (a0:=(zce (Tr.mk 1 (0#256) 0 0 []) .full)) rfl rfl rfl (by kernel_rfl) (zo _ _) (by dsimp only[zy,List.set]) ?_
 refine zco 8 (.B [(33,(Enc.cells (t:Tr))),(33,(Enc.cells ((Tr.mk 1 (0#256) 0 0 []):Tr)))]) ?_
 exact zaq (fun(r:Tr)=> .A (r:Tr)) h (.A ((Tr.mk 1 (0#256) 0 0 []):Tr))
 refine zx [.m _,.m _] ?_
 refine zax rfl ?_
 refine zx [.m _,.m _,.v (.A (t:Tr))] ?_
 refine w_o (a:= .F ([t]:List Tr)) (h:=zbb (zhr (α:=Tr) (l:=[t]) (cs:=Enc.cells (t:Tr)++[]) rfl (by rw[Enc.cons,Enc.nil]))) ?_
 refine zey (.A ((Tr.mk 5 (0#256) lo hi [t]):Tr)) (a0:=(zce (Tr.mk 5 (0#256) lo hi [t]) .full)) rfl rfl rfl (by kernel_rfl) (zo _ _) (by dsimp only[zy,List.set]) ?_
 obtain⟨x17,hx17,h⟩:=zv h
 refine zdb (zgi (Tr.mk 5 (0#256) lo hi [t]) x17 hx17) ?_
 refine zco 8 (.B [(33,(Enc.cells (t:Tr))),(33,(Enc.cells (x17:Tr)))]) ?_
 exact zaq (fun(r:Tr)=> .A (r:Tr)) h (.A (x17:Tr))
def zne (t:Tr):Option Tr:=
 (zar (zeb (Tr.mk 6 (0#256) 0 0 [t])) (fun x1=>(some x1)))
theorem ent75:Ent Tryd.prog 75:=enters_of Tryd.func75 (by kernel_rfl) rfl
theorem z7o (t:Tr)(r:Tr)(h:zne t=some r):Pure (ITP Tryd.prog) Tryd.prog 75 [.A (t:Tr)] (.A (r:Tr)):=by
 unfold zne at h
 refine zby 6 mix Tryd.func75 ent75 ?_
 refine zi (zc ?_)
 refine zcb (a:= .ptr 0 0) (σ'':=(.B [(33,(Enc.cells (t:Tr)))])) ?_
 refine zcb (a:= .ptr 1 0) (σ'':=(.B [(33,(Enc.cells (t:Tr))),(33,[.u 0,.raw (.int .u64 0),.raw (.int .u64 0),.raw (.int .u64 0),.raw (.int .u64 0),.i 0,.i 0,.list 0 [] .full])])) ?_
 refine zx [.v (.A (t:Tr))] ?_
 refine w_o (a:= .F ([t]:List Tr)) (h:=zbb (zhr (α:=Tr) (l:=[t]) (cs:=Enc.cells (t:Tr)++[]) rfl (by rw[Enc.cons,Enc.nil]))) ?_
 refine zey (.A ((Tr.mk 6 (0#256) 0 0 [t]):Tr)) (a0:=(zce (Tr.mk 6 (0#256) 0 0 [t]) .full)) rfl rfl rfl (by kernel_rfl) (zo _ _) (by dsimp only[zy,List.set]) ?_
 obtain⟨x1,hx1,h⟩:=zv h
 refine zdb (zgi (Tr.mk 6 (0#256) 0 0 [t]) x1 hx1) ?_
 refine zco 8 (.B [(33,(Enc.cells (t:Tr))),(33,(Enc.cells (x1:Tr)))]) ?_
 exact zaq (fun(r:Tr)=> .A (r:Tr)) h (.A (x1:Tr))
end Go.Ab
