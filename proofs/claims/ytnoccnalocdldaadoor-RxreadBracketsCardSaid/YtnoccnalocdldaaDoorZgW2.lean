import Derived.Test.YtnoccnalocdldaaDoorZgW1
set_option linter.all false
set_option maxRecDepth 100000
set_option maxHeartbeats 4000000
namespace Go.Ab
open Go Go.RowKit Go.Fwd Go.Proofs
theorem qid {l:List AV} (h:cloL l=true):clo (.iptr l)=true:=h
def F_ixf (fuel:Nat)(p:Tr→Option Bool)(l:(List Tr)):Option Int:=
 (zdr (τ:=Unit) (zbo (β:=Int) (fun s1=>(bif (decide (s1<(List.length l:Int))) then(chk (0≤s1∧s1<(List.length l:Int)) (zbi (ix l s1) (fun x1=>(zar (p x1) (fun x2=>(bif x2 then(some (Sum.inr (Sum.inr s1))) else(chk (-9223372036854775808≤(s1+1)∧(s1+1)<9223372036854775808) (some (Sum.inl ((s1+1))))))))))) else(some (Sum.inr (Sum.inl ()))))) fuel (0)) (fun j1=>(some (-1))))
theorem ent99:Ent Tryd.prog 99:=enters_of Tryd.func99 (by kernel_rfl) rfl
def F_ixc (fuel:Nat)(p:Tr→Option Bool)(l:(List Tr)):Option Int:=
 (zdr (τ:=Unit) (zbo (β:=Int) (fun s1=>(bif (decide (s1<(List.length l:Int))) then(chk (0≤s1∧s1<(List.length l:Int)) (zbi (ix l s1) (fun x1=>(zar (p x1) (fun x2=>(bif x2 then(some (Sum.inr (Sum.inr s1))) else(chk (-9223372036854775808≤(s1+1)∧(s1+1)<9223372036854775808) (some (Sum.inl ((s1+1))))))))))) else(some (Sum.inr (Sum.inl ()))))) fuel (0)) (fun j1=>(some (-1))))
theorem ixc_sh (fuel:Nat)(p:Tr→Option Bool)(l:(List Tr))(r:Int)(g:FuncId)(c:AV)(hok:clo c=true)(hp: ∀x y,p x=some y→Pure (ITP Tryd.prog) Tryd.prog g [.A x,c] (.raw (.bool y)))(h:F_ixc fuel p l=some r):Pure (ITP Tryd.prog) Tryd.prog 99 [.L (l:List Tr),.clos g [c]] (.raw (.int .i64 r)):=by
 unfold F_ixc at h
 refine zby 17 mix Tryd.func99 ent99 ?_
 refine zx [.v (.i 0)] ?_
 refine zbh h (bz 0 19 524287) (fun j1=>[]) (fun j1=>(.B [])) ?_ ?_
 intro or1 h hr1
 refine zx [.m _,.v (.i (List.length l:Int)),.v (.i 0)] ?_
 refine zag ?_
 refine zcx h (bz 0 19 524156) (fun s1=>[(8,.i s1)]) (fun s1=>(.B [])) ?_ ?_
 exact zcs (bl 19 387)
 intro s1 p1 h
 refine zet ?_
 refine zx [.v (.b (decide (s1<(List.length l:Int))))] ?_
 refine zi ?_
 refine zcd h (fun hc1 h=> ?_) (fun hc1 h=> ?_)
 refine zi ?_
 refine zag ?_
 refine zx [.m _,.m _] ?_
 refine zx [.m _,.m _,.m _] ?_
 obtain⟨g1,h⟩:=zp h
 obtain⟨x1,hx1,h⟩:=zt h
 refine z6x hx1 g1 ?_
 refine w_o (a:= .A (x1:Tr)) ?_
 obtain⟨x2,hx2,h⟩:=zv h
 refine zct (args':=[.A (x1:Tr),c]) (r:= .b x2) (hp x1 x2 hx2) rfl rfl (zh (zbu (zab (Enc.clo _))) (zh (zbu hok) rfl)) (za (zam _ _ (zab (Enc.clo _))) (za (zam _ _ hok) rfl)) (by dsimp only[zy,List.set]) ?_
 refine zcd h (fun hc2 h=> ?_) (fun hc2 h=> ?_)
 refine zx [.m _,.m _] ?_
 refine zaj h (fun h=> ?_)
 replace h:=zq h hr1
 exact zjd h
 refine zc (k0:=0) (id:=6) ?_
 obtain⟨g2,h⟩:=zp h
 refine zio g2 ?_
 refine zac ?_
 refine zbs (p:=p1) ((s1+1)) h ?_
 exact zcs (bl 19 387)
 refine zaj h (fun h=> ?_)
 refine zg (o:=or1) () h ?_
 exact zcs (bl 19 0)
 intro j1 h
 refine zet ?_
 refine zx [.v (.i (-1))] ?_
 exact zjd h
def F_ctf (fuel:Nat)(p:Tr→Option Bool)(l:(List Tr)):Option Bool:=
 (zar (F_ixf fuel p l) (fun x1=>(some (decide (x1≥0)))))
theorem ent91:Ent Tryd.prog 91:=enters_of Tryd.func91 (by kernel_rfl) rfl
def qhe (fuel:Nat)(p:Tr→Option Bool)(l:(List Tr)):Option Bool:=
 (zar (F_ixc fuel p l) (fun x1=>(some (decide (x1≥0)))))
theorem ctc_sh (fuel:Nat)(p:Tr→Option Bool)(l:(List Tr))(r:Bool)(g:FuncId)(c:AV)(hok:clo c=true)(hp: ∀x y,p x=some y→Pure (ITP Tryd.prog) Tryd.prog g [.A x,c] (.raw (.bool y)))(h:qhe fuel p l=some r):Pure (ITP Tryd.prog) Tryd.prog 91 [.L (l:List Tr),.clos g [c]] (.raw (.bool r)):=by
 unfold qhe at h
 refine zby 7 mix Tryd.func91 ent91 ?_
 refine zx [.v (.b false)] ?_
 refine zx [.m _,.m _] ?_
 obtain⟨x1,hx1,h⟩:=zv h
 refine zct (args':=[.L (l:List Tr),.clos g [c]]) (r:= .i x1) (ixc_sh fuel p l x1 g c hok hp hx1) rfl rfl (zh (zjw (Enc.cloL _)) (zh (show AV.clos _ (stripL _)=_ from congrArg (AV.clos _) (zh (zbu hok) rfl)) rfl)) (za (zcl (Enc.cloL _)) (za (show zad _ _=true from(za (zam _ _ hok) rfl)) rfl)) (by dsimp only[zy,List.set]) ?_
 refine w_r [.v (.b (decide (x1≥0))),.m _] ?_
 exact zbe h
def z3v (fuel:Nat)(p:Tr→Tr→Option Bool)(a:(List Tr))(b:(List Tr)):Option Bool:=
 (bif ((List.length a:Int) !=(List.length b:Int)) then(some false) else(zdr (τ:=Unit) (zbo (β:=Int) (fun s1=>(bif (decide (s1<(List.length a:Int))) then(chk (0≤s1∧s1<(List.length a:Int)) (zbi (ix a s1) (fun x1=>(chk (0≤s1∧s1<(List.length b:Int)) (zbi (ix b s1) (fun x2=>(zar (p x1 x2) (fun x3=>(bif (!x3) then(some (Sum.inr (Sum.inr false))) else(chk (-9223372036854775808≤(s1+1)∧(s1+1)<9223372036854775808) (some (Sum.inl ((s1+1)))))))))))))) else(some (Sum.inr (Sum.inl ()))))) fuel (0)) (fun j1=>(some true))))
theorem ent90:Ent Tryd.prog 90:=enters_of Tryd.func90 (by kernel_rfl) rfl
theorem eqf_sh (fuel:Nat)(p:Tr→Tr→Option Bool)(a:(List Tr))(b:(List Tr))(r:Bool)(g:FuncId)(hp: ∀x y z,p x y=some z→Pure (ITP Tryd.prog) Tryd.prog g [.A x,.A y] (.raw (.bool z)))(h:z3v fuel p a b=some r):Pure (ITP Tryd.prog) Tryd.prog 90 [.L (a:List Tr),.L (b:List Tr),.clos g []] (.raw (.bool r)):=by
 unfold z3v at h
 refine zby 29 mix Tryd.func90 ent90 ?_
 refine zx [.v (.b false)] ?_
 refine zi ?_
 refine zx [.m _,.v (.i (List.length a:Int)),.m _,.v (.i (List.length b:Int)),.v (.b ((List.length a:Int) !=(List.length b:Int)))] ?_
 refine zcd h (fun hc1 h=> ?_) (fun hc1 h=> ?_)
 refine zx [.v (.b false)] ?_
 exact zbe h
 refine zbh h (bz 0 32 4294967295) (fun j1=>[]) (fun j1=>(.B [])) ?_ ?_
 intro or1 h hr1
 refine zx [.m _,.v (.i (List.length a:Int)),.v (.i 0)] ?_
 refine zag ?_
 refine zcx h (bz 0 32 4294868985) (fun s1=>[(17,.i s1)]) (fun s1=>(.B [])) ?_ ?_
 exact zcs (bl 32 229382)
 intro s1 p1 h
 refine zet ?_
 refine zx [.v (.b (decide (s1<(List.length a:Int))))] ?_
 refine zi ?_
 refine zcd h (fun hc2 h=> ?_) (fun hc2 h=> ?_)
 refine zi ?_
 refine zag ?_
 refine zx [.m _] ?_
 obtain⟨g1,h⟩:=zp h
 obtain⟨x1,hx1,h⟩:=zt h
 refine z6x hx1 g1 ?_
 refine w_o (a:= .A (x1:Tr)) ?_
 refine zcb (a:= .ptr 0 0) (σ'':=(.B [(33,[.u 0,.raw (.int .u64 0),.raw (.int .u64 0),.raw (.int .u64 0),.raw (.int .u64 0),.i 0,.i 0,.list 0 [] .full])])) ?_
 refine zac ?_
 refine zco 8 (.B [(33,(Enc.cells (x1:Tr)))]) ?_
 refine zx [.m _,.m _] ?_
 obtain⟨g2,h⟩:=zp h
 obtain⟨x2,hx2,h⟩:=zt h
 refine z6x hx2 g2 ?_
 refine w_o (a:= .A (x2:Tr)) ?_
 refine zcb (a:= .ptr 1 0) (σ'':=(.B [(33,(Enc.cells (x1:Tr))),(33,[.u 0,.raw (.int .u64 0),.raw (.int .u64 0),.raw (.int .u64 0),.raw (.int .u64 0),.i 0,.i 0,.list 0 [] .full])])) ?_
 refine zco 8 (.B [(33,(Enc.cells (x1:Tr))),(33,(Enc.cells (x2:Tr)))]) ?_
 refine zx [.m _,.v (.A (x1:Tr)),.v (.A (x2:Tr))] ?_
 obtain⟨x3,hx3,h⟩:=zv h
 refine zdb (r:= .b x3) (hp x1 x2 x3 hx3) ?_
 refine w_o (a:= .b (!x3)) ?_
 refine zcd h (fun hc3 h=> ?_) (fun hc3 h=> ?_)
 refine zx [.v (.b false)] ?_
 refine zaj h (fun h=> ?_)
 replace h:=zq h hr1
 exact zbe h
 refine zc (k0:=0) (id:=9) ?_
 obtain⟨g3,h⟩:=zp h
 refine zio g3 ?_
 refine zac ?_
 refine zbs (p:=p1) ((s1+1)) h ?_
 exact zfa (bl 32 229382) 0 (by kernel_rfl) (Nat.le_of_ble_eq_true rfl) (zcw rfl) (by dsimp only[zbg,zbz,List.foldl,List.set,bz,bzc,Nat.reduceMod,Nat.reduceDiv,Nat.reduceBEq,Nat.reduceAdd];exact(za rfl (za (zcl (Enc.cloL _)) (za (show zad _ _=true from rfl) (za rfl (za rfl (za rfl (za rfl (za rfl (za rfl (za rfl (za rfl (za rfl (za rfl (za rfl (za rfl (za (zcl (Enc.cloL _)) (by kernel_rfl)))))))))))))))))) (by kernel_rfl)
 refine zaj h (fun h=> ?_)
 refine zg (o:=or1) () h ?_
 exact zcs (bl 32 0)
 intro j1 h
 refine zet ?_
 refine zx [.v (.b true)] ?_
 exact zbe h
def zzh (x:Tr)(k:Int):Option Bool:=
 (some (((x.k:Nat):Int)==k))
theorem ent92:Ent Tryd.prog 92:=enters_of Tryd.func92 (by kernel_rfl) rfl
theorem has1_sh (x:Tr)(k:Int)(r:Bool)(h:zzh x k=some r):Pure (ITP Tryd.prog) Tryd.prog 92 [.A (x:Tr),.iptr [.raw (.int .u8 k)]] (.raw (.bool r)):=by
 unfold zzh at h
 refine zby 6 mix Tryd.func92 ent92 ?_
 refine zi (zc ?_)
 refine zcb (a:= .ptr 0 0) (σ'':=(.B [(33,(Enc.cells (x:Tr)))])) ?_
 refine w_o (a:= .b false) ?_
 refine zx [.v (.ptr 0 0),.v (.u ((x.k:Nat):Int)),.v (.u k),.v (.b (((x.k:Nat):Int)==k)),.m _] ?_
 exact zbe h
def zst (fuel:Nat)(t:Tr)(k:Int):Option Bool:=
 (zar (qhe fuel (fun x=>zzh x k) t.l) (fun x1=>(some x1)))
theorem ent82:Ent Tryd.prog 82:=enters_of Tryd.func82 (by kernel_rfl) rfl
theorem z5m (fuel:Nat)(t:Tr)(k:Int)(r:Bool)(h:zst fuel t k=some r):Pure (ITP Tryd.prog) Tryd.prog 82 [.A (t:Tr),.raw (.int .u8 k)] (.raw (.bool r)):=by
 unfold zst at h
 refine zby 7 mix Tryd.func82 ent82 ?_
 refine zi (zc ?_)
 refine zcb (a:= .ptr 0 0) (σ'':=(.B [(33,(Enc.cells (t:Tr)))])) ?_
 refine zcb (a:= .ptr 1 0) (σ'':=(.B [(33,(Enc.cells (t:Tr))),(5,[.u k])])) ?_
 refine w_o (a:= .b false) ?_
 refine zx [.v (.ptr 0 7),.v (.L (t.l:List Tr)),.v (.clos 92 [.ptr 1 0])] ?_
 obtain⟨x1,hx1,h⟩:=zv h
 refine w_callf 1 (args':=[.L (t.l:List Tr),.clos 92 [.iptr [.u k]]]) (r:= .b x1) (ctc_sh fuel (fun x=>zzh x k) t.l x1 92 (.iptr [.u k]) (qid (zoa rfl rfl)) (fun x y h=>has1_sh x k y h) hx1) rfl rfl (zns (z1x (qic (Enc.cloL _))) (zns rfl z0v)) rfl (by dsimp only[zy,List.set]) ?_
 refine zac ?_
 exact zbe h
def zxh (fuel:Nat)(t:Tr):Option Bool:=
 (zdr (τ:=Unit) (bif (((t.k:Nat):Int) !=2) then(bif (decide (t.s≠(0#256))) then(some (Sum.inr false)) else(bif (((t.k:Nat):Int) !=5) then(bif (t.mn !=0) then(some (Sum.inr false)) else(bif (t.mx !=0) then(some (Sum.inr false)) else(bif (decide (((t.k:Nat):Int)<3)) then(bif (decide ((List.length t.l:Int)>0)) then(some (Sum.inr false)) else(some (Sum.inl ()))) else(some (Sum.inl ()))))) else(bif (decide (((t.k:Nat):Int)<3)) then(bif (decide ((List.length t.l:Int)>0)) then(some (Sum.inr false)) else(some (Sum.inl ()))) else(some (Sum.inl ()))))) else(bif (((t.k:Nat):Int) !=5) then(bif (t.mn !=0) then(some (Sum.inr false)) else(bif (t.mx !=0) then(some (Sum.inr false)) else(bif (decide (((t.k:Nat):Int)<3)) then(bif (decide ((List.length t.l:Int)>0)) then(some (Sum.inr false)) else(some (Sum.inl ()))) else(some (Sum.inl ()))))) else(bif (decide (((t.k:Nat):Int)<3)) then(bif (decide ((List.length t.l:Int)>0)) then(some (Sum.inr false)) else(some (Sum.inl ()))) else(some (Sum.inl ()))))) (fun j1=>(bif (((t.k:Nat):Int)==1) then(some true) else(bif (((t.k:Nat):Int)==2) then(some (decide (t.s≠(0#256)))) else(bif (((t.k:Nat):Int)==3) then(bif (decide ((List.length t.l:Int)>1)) then(zar (zst fuel t 1) (fun x1=>(bif (!x1) then(zar (zst fuel t 3) (fun x2=>(some (!x2)))) else(some false)))) else(some false)) else(bif (((t.k:Nat):Int)==4) then(bif (decide ((List.length t.l:Int)>1)) then(zar (zst fuel t 4) (fun x3=>(some (!x3)))) else(some false)) else(bif (((t.k:Nat):Int)==5) then(bif ((List.length t.l:Int)==1) then(zar (zfo t.mn t.mx) (fun x4=>(bif x4 then(zar (zst fuel t 1) (fun x5=>(some (!x5)))) else(some false)))) else(some false)) else(bif (((t.k:Nat):Int)==6) then(some ((List.length t.l:Int)==1)) else(some false)))))))))
theorem ent64:Ent Tryd.prog 64:=enters_of Tryd.func64 (by kernel_rfl) rfl
theorem qij (fuel:Nat)(t:Tr)(r:Bool)(h:zxh fuel t=some r):Pure (ITP Tryd.prog) Tryd.prog 64 [.A (t:Tr)] (.raw (.bool r)):=by
 unfold zxh at h
 refine zby 101 mix Tryd.func64 ent64 ?_
 refine zi (zc ?_)
 refine zcb (a:= .ptr 0 0) (σ'':=(.B [(33,(Enc.cells (t:Tr)))])) ?_
 refine w_o (a:= .b false) ?_
 refine zbh h (bz 0 102 5070602400912917605986812821501) (fun j1=>[]) (fun j1=>(.B [(33,(Enc.cells (t:Tr)))])) ?_ ?_
 intro or1 h hr1
 refine zx [.v (.ptr 0 0),.v (.u ((t.k:Nat):Int)),.v (.b (((t.k:Nat):Int) !=2))] ?_
 refine zaa h (fun hc1 h=> ?_) (fun hc1 h=> ?_)
 refine zak hc1 ?_
 refine w_r [.v (.ptr 0 1),.v (.A (t.s:BS)),.v (.A (0#256:BS))] ?_
 refine zan rfl rfl ?_
 refine zua (.b (decide (t.s≠(0#256)))) rfl rfl rfl (zsr t.s (0#256) rfl rfl rfl) (by dsimp only[zy,List.set]) ?_
 refine w_o (a:= .b (decide (t.s≠(0#256)))) ?_
 refine zaa h (fun hc2 h=> ?_) (fun hc2 h=> ?_)
 refine zak hc2 ?_
 refine w_r [.p,.p,.p,.p,.p] ?_
 refine w_r [.p,.p,.p,.p,.p] ?_
 refine w_r [.p,.p,.p,.v (.b true),.m _] ?_
 refine w_r [.p,.p,.p,.p,.p] ?_
 refine w_r [.p,.p,.p,.p,.v (.b true)] ?_
 refine zbf rfl ?_
 refine zx [.v (.b false)] ?_
 replace h:=zq h hr1
 exact zbe h
 refine zak hc2 ?_
 refine w_r [.v (.ptr 0 0),.v (.u ((t.k:Nat):Int)),.v (.b (((t.k:Nat):Int) !=5))] ?_
 refine zan rfl rfl ?_
 refine zaa h (fun hc3 h=> ?_) (fun hc3 h=> ?_)
 refine zak hc3 ?_
 refine w_r [.v (.ptr 0 5),.v (.i t.mn),.v (.b (t.mn !=0))] ?_
 refine zan rfl rfl ?_
 refine zaa h (fun hc4 h=> ?_) (fun hc4 h=> ?_)
 refine zak hc4 ?_
 refine w_r [.p,.p,.p,.v (.b true),.v (.b true)] ?_
 refine w_r [.v (.b true),.m _,.p,.p,.p] ?_
 refine w_r [.p,.p,.p,.p,.p] ?_
 refine w_r [.p,.v (.b true)] ?_
 refine zbf rfl ?_
 refine zx [.v (.b false)] ?_
 replace h:=zq h hr1
 exact zbe h
 refine zak hc4 ?_
 refine w_r [.v (.ptr 0 6),.v (.i t.mx),.v (.b (t.mx !=0)),.v (.b (t.mx !=0)),.v (.b (t.mx !=0))] ?_
 refine w_r [.v (.b (t.mx !=0))] ?_
 refine zaa h (fun hc5 h=> ?_) (fun hc5 h=> ?_)
 refine zak hc5 ?_
 refine w_r [.p,.p,.p,.p,.p] ?_
 refine w_r [.p,.p,.p,.p,.v (.b true)] ?_
 refine zbf rfl ?_
 refine zx [.v (.b false)] ?_
 replace h:=zq h hr1
 exact zbe h
 refine zak hc5 ?_
 refine w_r [.v (.ptr 0 0),.v (.u ((t.k:Nat):Int)),.v (.b (decide (((t.k:Nat):Int)<3)))] ?_
 refine zan rfl rfl ?_
 refine zaa h (fun hc6 h=> ?_) (fun hc6 h=> ?_)
 refine zak hc6 ?_
 refine w_r [.v (.ptr 0 7),.v (.L (t.l:List Tr)),.v (.i (List.length t.l:Int)),.v (.b (decide ((List.length t.l:Int)>0))),.v (.b (decide ((List.length t.l:Int)>0)))] ?_
 refine w_r [.v (.b (decide ((List.length t.l:Int)>0)))] ?_
 refine zcd h (fun hc7 h=> ?_) (fun hc7 h=> ?_)
 refine zx [.v (.b false)] ?_
 replace h:=zq h hr1
 exact zbe h
 refine zg (o:=or1) () h ?_
 exact zcs (bl 102 2)
 refine zak hc6 ?_
 refine w_r [.p,.p,.p,.p,.v (.b false)] ?_
 refine w_r [.v (.b false)] ?_
 refine zax rfl ?_
 refine zg (o:=or1) () h ?_
 exact zcs (bl 102 2)
 refine zak hc3 ?_
 refine w_r [.p,.p,.p,.p,.p] ?_
 refine w_r [.p,.p,.p,.v (.b false),.v (.b false)] ?_
 refine w_r [.m _,.v (.ptr 0 0),.v (.u ((t.k:Nat):Int)),.v (.b (decide (((t.k:Nat):Int)<3)))] ?_
 refine zan rfl rfl ?_
 refine zaa h (fun hc8 h=> ?_) (fun hc8 h=> ?_)
 refine zak hc8 ?_
 refine w_r [.v (.ptr 0 7),.v (.L (t.l:List Tr)),.v (.i (List.length t.l:Int)),.v (.b (decide ((List.length t.l:Int)>0))),.v (.b (decide ((List.length t.l:Int)>0)))] ?_
 refine w_r [.v (.b (decide ((List.length t.l:Int)>0)))] ?_
 refine zcd h (fun hc9 h=> ?_) (fun hc9 h=> ?_)
 refine zx [.v (.b false)] ?_
 replace h:=zq h hr1
 exact zbe h
 refine zg (o:=or1) () h ?_
 exact zcs (bl 102 2)
 refine zak hc8 ?_
 refine w_r [.p,.p,.p,.p,.v (.b false)] ?_
 refine w_r [.v (.b false)] ?_
 refine zax rfl ?_
 refine zg (o:=or1) () h ?_
 exact zcs (bl 102 2)
 refine zak hc1 ?_
 refine w_r [.p,.p,.p,.p,.v (.b false)] ?_
 refine w_r [.m _,.v (.ptr 0 0),.v (.u ((t.k:Nat):Int)),.v (.b (((t.k:Nat):Int) !=5))] ?_
 refine zan rfl rfl ?_
 refine zaa h (fun hc10 h=> ?_) (fun hc10 h=> ?_)
 refine zak hc10 ?_
 refine w_r [.v (.ptr 0 5),.v (.i t.mn),.v (.b (t.mn !=0))] ?_
 refine zan rfl rfl ?_
 refine zaa h (fun hc11 h=> ?_) (fun hc11 h=> ?_)
 refine zak hc11 ?_
 refine w_r [.p,.p,.p,.v (.b true),.v (.b true)] ?_
 refine w_r [.v (.b true),.m _,.p,.p,.p] ?_
 refine w_r [.p,.p,.p,.p,.p] ?_
 refine w_r [.p,.v (.b true)] ?_
 refine zbf rfl ?_
 refine zx [.v (.b false)] ?_
 replace h:=zq h hr1
 exact zbe h
 refine zak hc11 ?_
 refine w_r [.v (.ptr 0 6),.v (.i t.mx),.v (.b (t.mx !=0)),.v (.b (t.mx !=0)),.v (.b (t.mx !=0))] ?_
 refine w_r [.v (.b (t.mx !=0))] ?_
 refine zaa h (fun hc12 h=> ?_) (fun hc12 h=> ?_)
 refine zak hc12 ?_
 refine w_r [.p,.p,.p,.p,.p] ?_
 refine w_r [.p,.p,.p,.p,.v (.b true)] ?_
 refine zbf rfl ?_
 refine zx [.v (.b false)] ?_
 replace h:=zq h hr1
 exact zbe h
 refine zak hc12 ?_
 refine w_r [.v (.ptr 0 0),.v (.u ((t.k:Nat):Int)),.v (.b (decide (((t.k:Nat):Int)<3)))] ?_
 refine zan rfl rfl ?_
 refine zaa h (fun hc13 h=> ?_) (fun hc13 h=> ?_)
 refine zak hc13 ?_
 refine w_r [.v (.ptr 0 7),.v (.L (t.l:List Tr)),.v (.i (List.length t.l:Int)),.v (.b (decide ((List.length t.l:Int)>0))),.v (.b (decide ((List.length t.l:Int)>0)))] ?_
 refine w_r [.v (.b (decide ((List.length t.l:Int)>0)))] ?_
 refine zcd h (fun hc14 h=> ?_) (fun hc14 h=> ?_)
 refine zx [.v (.b false)] ?_
 replace h:=zq h hr1
 exact zbe h
 refine zg (o:=or1) () h ?_
 exact zcs (bl 102 2)
 refine zak hc13 ?_
 refine w_r [.p,.p,.p,.p,.v (.b false)] ?_
 refine w_r [.v (.b false)] ?_
 refine zax rfl ?_
 refine zg (o:=or1) () h ?_
 exact zcs (bl 102 2)
 refine zak hc10 ?_
 refine w_r [.p,.p,.p,.p,.p] ?_
 refine w_r [.p,.p,.p,.v (.b false),.v (.b false)] ?_
 refine w_r [.m _,.v (.ptr 0 0),.v (.u ((t.k:Nat):Int)),.v (.b (decide (((t.k:Nat):Int)<3)))] ?_
 refine zan rfl rfl ?_
 refine zaa h (fun hc15 h=> ?_) (fun hc15 h=> ?_)
 refine zak hc15 ?_
 refine w_r [.v (.ptr 0 7),.v (.L (t.l:List Tr)),.v (.i (List.length t.l:Int)),.v (.b (decide ((List.length t.l:Int)>0))),.v (.b (decide ((List.length t.l:Int)>0)))] ?_
 refine w_r [.v (.b (decide ((List.length t.l:Int)>0)))] ?_
 refine zcd h (fun hc16 h=> ?_) (fun hc16 h=> ?_)
 refine zx [.v (.b false)] ?_
 replace h:=zq h hr1
 exact zbe h
 refine zg (o:=or1) () h ?_
 exact zcs (bl 102 2)
 refine zak hc15 ?_
 refine w_r [.p,.p,.p,.p,.v (.b false)] ?_
 refine w_r [.v (.b false)] ?_
 refine zax rfl ?_
 refine zg (o:=or1) () h ?_
 exact zcs (bl 102 2)
 intro j1 h
 refine zet ?_
 refine zi ?_
 refine zx [.v (.ptr 0 0),.v (.u ((t.k:Nat):Int))] ?_
 refine zag ?_
 refine zx [.v (.b (((t.k:Nat):Int)==1)),.m _] ?_
 refine zcd h (fun hc17 h=> ?_) (fun hc17 h=> ?_)
 refine zx [.v (.b true)] ?_
 exact zbe h
 refine zx [.v (.b (((t.k:Nat):Int)==2)),.m _] ?_
 refine zcd h (fun hc18 h=> ?_) (fun hc18 h=> ?_)
 refine zx [.v (.ptr 0 1),.v (.A (t.s:BS)),.v (.A (0#256:BS))] ?_
 refine zua (.b (decide (t.s≠(0#256)))) rfl rfl rfl (zsr t.s (0#256) rfl rfl rfl) (by dsimp only[zy,List.set]) ?_
 refine zac ?_
 exact zbe h
 refine zx [.v (.b (((t.k:Nat):Int)==3)),.m _] ?_
 refine zcd h (fun hc19 h=> ?_) (fun hc19 h=> ?_)
 refine zx [.v (.ptr 0 7),.v (.L (t.l:List Tr)),.v (.i (List.length t.l:Int)),.v (.b (decide ((List.length t.l:Int)>1)))] ?_
 refine zaa h (fun hc20 h=> ?_) (fun hc20 h=> ?_)
 refine zak hc20 ?_
 refine zan rfl rfl ?_
 refine w_o (a:= .A (t:Tr)) ?_
 refine zan rfl rfl ?_
 obtain⟨x1,hx1,h⟩:=zv h
 refine zdb (z5m fuel t 1 x1 hx1) ?_
 refine w_r [.v (.b (!x1)),.v (.b (!x1))] ?_
 refine zaa h (fun hc21 h=> ?_) (fun hc21 h=> ?_)
 refine zak hc21 ?_
 refine zan rfl rfl ?_
 refine w_o (a:= .A (t:Tr)) ?_
 refine zan rfl rfl ?_
 obtain⟨x2,hx2,h⟩:=zv h
 refine zdb (z5m fuel t 3 x2 hx2) ?_
 refine w_r [.v (.b (!x2)),.v (.b (!x2)),.m _] ?_
 exact zbe h
 refine zak hc21 ?_
 refine w_r [.p,.p,.p,.v (.b false),.m _] ?_
 exact zbe h
 refine zak hc20 ?_
 refine w_r [.p,.p,.p,.v (.b false),.m _] ?_
 refine w_r [.p,.p,.p,.v (.b false),.m _] ?_
 exact zbe h
 refine zx [.v (.b (((t.k:Nat):Int)==4)),.m _] ?_
 refine zcd h (fun hc22 h=> ?_) (fun hc22 h=> ?_)
 refine zx [.v (.ptr 0 7),.v (.L (t.l:List Tr)),.v (.i (List.length t.l:Int)),.v (.b (decide ((List.length t.l:Int)>1)))] ?_
 refine zaa h (fun hc23 h=> ?_) (fun hc23 h=> ?_)
 refine zak hc23 ?_
 refine zan rfl rfl ?_
 refine w_o (a:= .A (t:Tr)) ?_
 refine zan rfl rfl ?_
 obtain⟨x3,hx3,h⟩:=zv h
 refine zdb (z5m fuel t 4 x3 hx3) ?_
 refine w_r [.v (.b (!x3)),.v (.b (!x3)),.m _] ?_
 exact zbe h
 refine zak hc23 ?_
 refine w_r [.p,.p,.p,.v (.b false),.m _] ?_
 exact zbe h
 refine zx [.v (.b (((t.k:Nat):Int)==5)),.m _] ?_
 refine zcd h (fun hc24 h=> ?_) (fun hc24 h=> ?_)
 refine zx [.v (.ptr 0 7),.v (.L (t.l:List Tr)),.v (.i (List.length t.l:Int)),.v (.b ((List.length t.l:Int)==1))] ?_
 refine zaa h (fun hc25 h=> ?_) (fun hc25 h=> ?_)
 refine zak hc25 ?_
 refine w_r [.v (.ptr 0 5),.v (.i t.mn),.v (.ptr 0 6),.v (.i t.mx)] ?_
 refine zan rfl rfl ?_
 obtain⟨x4,hx4,h⟩:=zv h
 refine zdb (zit t.mn t.mx x4 hx4) ?_
 refine w_o (a:= .b x4) ?_
 refine zaa h (fun hc26 h=> ?_) (fun hc26 h=> ?_)
 refine zak hc26 ?_
 refine zan rfl rfl ?_
 refine w_o (a:= .A (t:Tr)) ?_
 refine zan rfl rfl ?_
 obtain⟨x5,hx5,h⟩:=zv h
 refine zdb (z5m fuel t 1 x5 hx5) ?_
 refine w_r [.v (.b (!x5)),.v (.b (!x5)),.m _] ?_
 exact zbe h
 refine zak hc26 ?_
 refine w_r [.p,.p,.p,.v (.b false),.m _] ?_
 exact zbe h
 refine zak hc25 ?_
 refine w_r [.p,.p,.p,.p,.p] ?_
 refine w_r [.v (.b false),.m _,.p,.p,.p] ?_
 refine w_r [.v (.b false),.m _] ?_
 exact zbe h
 refine zx [.v (.ptr 0 0),.v (.u ((t.k:Nat):Int)),.v (.b (((t.k:Nat):Int)==6))] ?_
 refine zaa h (fun hc27 h=> ?_) (fun hc27 h=> ?_)
 refine zak hc27 ?_
 refine w_r [.v (.ptr 0 7),.v (.L (t.l:List Tr)),.v (.i (List.length t.l:Int)),.v (.b ((List.length t.l:Int)==1)),.v (.b ((List.length t.l:Int)==1))] ?_
 refine w_r [.m _] ?_
 exact zbe h
 refine zak hc27 ?_
 refine w_r [.p,.p,.p,.p,.v (.b false)] ?_
 refine w_r [.m _] ?_
 exact zbe h
end Go.Ab
