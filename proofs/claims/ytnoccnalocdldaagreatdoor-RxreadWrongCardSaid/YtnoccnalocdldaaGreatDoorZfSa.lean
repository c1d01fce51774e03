import Derived.Test.YtnoccnalocdldaaGreatDoorZfV3
set_option linter.all false
set_option maxRecDepth 100000
set_option maxHeartbeats 4000000
open Sum (inl inr)
open Int (toNat tmod tdiv)
open Nat (zero_add le_of_ble_eq_true)
open List (length length_cons all_eq_true foldl mem_range getElem_mem)
open Go.Proofs.Tryz (prog)
namespace Go.Ab
open Go Go.RowKit Go.Fwd Go.Proofs
def zxd (t:Tr):Option Bool:=
 (chk ((pre t).length<2^60/\ (pre noneT).length<2^60) (zay (zgv t noneT) (fun x1=>(bif x1 then(some true) else(chk ((pre t).length<2^61) (zay (zev t) (fun x2=>(some x2))))))))
theorem ent43:Ent prog 43:=enters_of Tryz.func43 (by kernel_rfl) rfl
theorem qjf (t:Tr)(r:Bool)(h:zxd t=some r):Pure (ITP prog) prog 43 [.A (t:Tr)] (.raw (.bool r)):=by
 unfold zxd at h;refine zbg 9 mix Tryz.func43 ent43 ?_;refine wq 1 ?_;refine zda (Enc.cells (t:Tr)) ?_;refine wq 3 ?_;refine zwa noneT ?_;obtain⟨g1,h⟩:=ze h;obtain⟨x1,hx1,h⟩:=zh h;refine zcp (args':=[.A (t:Tr),.A (noneT:Tr)]) (r:= .b x1) (by rw[<-hx1];exact(k_sameT t noneT g1)) ?_;refine zab h (fun hc1 h=> ?_) (fun hc1 h=> ?_);refine zap hc1 ?_;refine wq 4 ?_;exact zbc h;refine zap hc1 ?_;refine wq 1 ?_;refine zan rfl rfl ?_;obtain⟨g2,h⟩:=ze h;obtain⟨x2,hx2,h⟩:=zh h;refine zcp (args':=[.A (t:Tr)]) (r:= .b x2) (by rw[<-hx2];exact(zyj t g2)) ?_;refine wq 2 ?_;exact zbc h
def zgk (t:Tr):Option Tr:=
 (chk ((pre t).length<2^61) (zay (zev t) (fun x1=>(bif (!x1) then(some noneT) else(chk ((pre t).length<2^40) (zay t (fun x2=>(some x2))))))))
theorem ent42:Ent prog 42:=enters_of Tryz.func42 (by kernel_rfl) rfl
theorem znn (t:Tr)(r:Tr)(h:zgk t=some r):Pure (ITP prog) prog 42 [.A (t:Tr)] (.A (r:Tr)):=by
 unfold zgk at h;refine zbg 8 mix Tryz.func42 ent42 ?_;refine wq 1 ?_;refine zda (Enc.cells (t:Tr)) ?_;refine zda zN ?_;refine zi ?_;refine wq 2 ?_;obtain⟨g1,h⟩:=ze h;obtain⟨x1,hx1,h⟩:=zh h;refine zcp (args':=[.A (t:Tr)]) (r:= .b x1) (by rw[<-hx1];exact(zyj t g1)) ?_;refine wq 1 ?_;refine zbr h (fun hc1 h=> ?_) (fun hc1 h=> ?_);refine wq 1 ?_;refine zwa noneT ?_;refine zeq 8 (Enc.cells (noneT:Tr)) ?_;exact zbu (fun(r:Tr)=> .A (r:Tr)) h (.A (noneT:Tr));refine wq 2 ?_;obtain⟨g2,h⟩:=ze h;obtain⟨x2,hx2,h⟩:=zh h;refine zcp (args':=[.A (t:Tr)]) (r:= .A (x2:Tr)) (by rw[<-hx2];exact(qai t g2)) ?_;refine zeq 8 (Enc.cells (x2:Tr)) ?_;exact zbu (fun(r:Tr)=> .A (r:Tr)) h (.A (x2:Tr))
def zsa (fuel:Nat)(k:Int)(w:Int)(l:(List Tr)):Option (List Tr):=
 (zct (τ:=(List Tr)) (zav (β:=(List Tr)×Int) (fun s1=>(bif (decide (s1.2<(length l:Int))) then(zct (τ:=(List Tr)) (chk (0<=s1.2/\ s1.2<(length l:Int)) (zay (ix l s1.2) (fun x1=>(bif (((x1.k:Nat):Int)==k) then(chk ((length s1.1+length x1.l)*80<=140737488355328) (some (inl ((s1.1++x1.l))))) else(bif (((x1.k:Nat):Int)==w) then(some (inl (s1.1))) else(chk ((length s1.1+length [x1])*80<=140737488355328) (some (inl ((s1.1++[x1])))))))))) (fun j2=>(chk (-9223372036854775808<=(s1.2+1)/\ (s1.2+1)<9223372036854775808) (some (inl (j2,(s1.2+1))))))) else(some (inr (inl (s1.1)))))) fuel (([]:(List Tr)),0)) (fun j1=>(some j1)))
theorem ent45:Ent prog 45:=enters_of Tryz.func45 (by kernel_rfl) rfl
theorem qev (fuel:Nat)(k:Int)(w:Int)(l:(List Tr))(r:(List Tr))(h:zsa fuel k w l=some r):Pure (ITP prog) prog 45 [.raw (.int .u8 k),.raw (.int .u8 w),.L (l:List Tr)] (.L (r:List Tr)):=by
 unfold zsa at h;refine zbg 31 mix Tryz.func45 ent45 ?_;refine wq 1 ?_;refine w_r [.v (.list 0 [] .full)] ?_;refine wq 1 ?_;refine w_r [.v (.list 0 [] .full)] ?_;refine zal h (bz 0 34 17179869183) (fun j1=>[(7,(.O (j1:List Tr)))]) (fun j1=>(zbp [] 29 (length (j1:List Tr)) 8)) ?_ ?_;intro or1 h hr1;refine wq 4 ?_;refine zt ?_;refine zcf h (bz 0 34 17179866108) (fun s1=>[(7,(.O (s1.1:List Tr))),(12,.i s1.2)]) (fun s1=>(zbp [] 29 (length (s1.1:List Tr)) 8)) ?_ ?_;exact zaz (bl 34 7299);intro s1 p1 h;refine zdf ?_;refine wq 2 ?_;refine zi ?_;refine zbr h (fun hc1 h=> ?_) (fun hc1 h=> ?_);refine zal h (bz 0 32 4294959744) (fun j2=>[(7,(.O (j2:List Tr)))]) (fun j2=>(zbp [] 29 (length (j2:List Tr)) 8)) ?_ ?_;intro or2 h hr2;refine zt ?_;refine wq 1 ?_;obtain⟨g1,h⟩:=ze h;obtain⟨x1,hx1,h⟩:=zh h;refine z4t hx1 g1 ?_;refine w_o (a:= .A (x1:Tr)) ?_;refine zqm (a:= .ptr 0 0) (U'':=(zbp [(29,zN)] 29 (length (s1.1:List Tr)) 8)) ?_;refine zoa 8 (zbp [(29,(Enc.cells (x1:Tr)))] 29 (length (s1.1:List Tr)) 8) ?_;refine wq 3 ?_;refine zt ?_;refine wq 4 ?_;refine zbr h (fun hc2 h=> ?_) (fun hc2 h=> ?_);refine zb (k0:=0) (id:=8) ?_;refine wq 2 ?_;refine w_r [.v (.L (x1.l:List Tr))] ?_;obtain⟨g2,h⟩:=ze h;refine zho (a:=(.O ((s1.1++x1.l):List Tr))) (U'':=(zbp [(29,(Enc.cells (x1:Tr)))] 29 (length ((s1.1++x1.l):List Tr)) 8)) rfl rfl rfl (zkj rfl rfl rfl rfl (zfn (α:=Tr) (bs:=[(29,(Enc.cells (x1:Tr)))]) (a:=s1.1) (b:=x1.l) g2 rfl rfl rfl rfl rfl ⟨rfl,by decide⟩)) (by dsimp only[zaf,List.set]) rfl ?_;refine zao ?_;refine zc (o:=or2) ((s1.1++x1.l)) h ?_;exact zdj (bl 34 12884909567) 0 (by kernel_rfl) (le_of_ble_eq_true rfl) (zbs rfl) (by dsimp only[zau,zbo,foldl,List.set,bz,bzc,Nat.reduceMod,Nat.reduceDiv,Nat.reduceBEq,Nat.reduceAdd];exact(za rfl (za rfl (za rfl (za rfl (za rfl (za rfl (za rfl (za (zdg (Enc.cloL _)) (za rfl (za rfl (za (zbj (Enc.cloL _)) (by kernel_rfl))))))))))))) (by kernel_rfl);refine wq 4 ?_;refine zbr h (fun hc3 h=> ?_) (fun hc3 h=> ?_);refine zc (o:=or2) (s1.1) h ?_;exact zdj (bl 34 12884909567) 0 (by kernel_rfl) (le_of_ble_eq_true rfl) (zbs rfl) (by dsimp only[zau,zbo,foldl,List.set,bz,bzc,Nat.reduceMod,Nat.reduceDiv,Nat.reduceBEq,Nat.reduceAdd];exact(za rfl (za rfl (za rfl (za rfl (za rfl (za rfl (za rfl (za (zdg (Enc.cloL _)) (za rfl (za rfl (za (zbj (Enc.cloL _)) (by kernel_rfl))))))))))))) (by kernel_rfl);refine zb (k0:=0) (id:=6) ?_;refine wq 2 ?_;refine w_o (a:= .F ([x1]:List Tr)) (h:=zba (zhz (α:=Tr) (l:=[x1]) (cs:=Enc.cells (x1:Tr)++[]) rfl (by rw[Enc.cons,Enc.nil]))) ?_;obtain⟨g3,h⟩:=ze h;refine zho (a:=(.O ((s1.1++[x1]):List Tr))) (U'':=(zbp [(29,(Enc.cells (x1:Tr)))] 29 (length ((s1.1++[x1]):List Tr)) 8)) rfl rfl rfl (zkj rfl rfl rfl rfl (zfn (α:=Tr) (bs:=[(29,(Enc.cells (x1:Tr)))]) (a:=s1.1) (b:=[x1]) g3 rfl rfl rfl rfl rfl ⟨rfl,by decide⟩)) (by dsimp only[zaf,List.set]) rfl ?_;refine zao ?_;refine zc (o:=or2) ((s1.1++[x1])) h ?_;exact zdj (bl 34 12884909567) 0 (by kernel_rfl) (le_of_ble_eq_true rfl) (zbs rfl) (by dsimp only[zau,zbo,foldl,List.set,bz,bzc,Nat.reduceMod,Nat.reduceDiv,Nat.reduceBEq,Nat.reduceAdd];exact(za rfl (za rfl (za rfl (za rfl (za rfl (za rfl (za rfl (za (zdg (Enc.cloL _)) (za rfl (za rfl (za (zbj (Enc.cloL _)) (by kernel_rfl))))))))))))) (by kernel_rfl);intro j2 h;refine zdf ?_;refine zb (k0:=0) (id:=10) ?_;obtain⟨g4,h⟩:=ze h;refine zhd g4 ?_;refine zao ?_;refine zbb (p:=p1) (j2,(s1.2+1)) h ?_;exact zaz (bl 34 7299);refine zy h (fun h=> ?_);refine zc (o:=or1) (s1.1) h ?_;exact zaz (bl 34 128);intro j1 h;refine zdf ?_;refine wq 3 ?_;exact zbu (fun(r:(List Tr))=> .L (r:List Tr)) h (.O (j1:List Tr))
def zjn (k:Int)(l:(List Tr))(z:Tr):Option Tr:=
 (bif ((length l:Int)==0) then(some z) else(bif ((length l:Int)==1) then(chk (0<=(0:Int)/\ (0:Int)<(length l:Int)) (zay (ix l (0:Int)) (fun x1=>(zai (zgk x1) (fun x2=>(some x2)))))) else(chk (0<=k) (zai (zgk (Tr.mk (toNat k) (0#256) 0 0 l)) (fun x3=>(some x3))))))
theorem ent44:Ent prog 44:=enters_of Tryz.func44 (by kernel_rfl) rfl
theorem z1g (k:Int)(l:(List Tr))(z:Tr)(r:Tr)(h:zjn k l z=some r):Pure (ITP prog) prog 44 [.raw (.int .u8 k),.L (l:List Tr),.A (z:Tr)] (.A (r:Tr)):=by
 unfold zjn at h;refine zbg 19 mix Tryz.func44 ent44 ?_;refine wq 1 ?_;refine zda (Enc.cells (z:Tr)) ?_;refine zda zN ?_;refine zi ?_;refine wq 3 ?_;refine zt ?_;refine wq 3 ?_;refine zbr h (fun hc1 h=> ?_) (fun hc1 h=> ?_);refine wq 2 ?_;refine zeq 8 (Enc.cells (z:Tr)) ?_;exact zbu (fun(r:Tr)=> .A (r:Tr)) h (.A (z:Tr));refine wq 3 ?_;refine zbr h (fun hc2 h=> ?_) (fun hc2 h=> ?_);refine wq 2 ?_;obtain⟨g1,h⟩:=ze h;obtain⟨x1,hx1,h⟩:=zh h;refine z4t hx1 g1 ?_;refine w_o (a:= .A (x1:Tr)) ?_;obtain⟨x2,hx2,h⟩:=zr h;refine zcp (znn x1 x2 hx2) ?_;refine zeq 8 (Enc.cells (x2:Tr)) ?_;exact zbu (fun(r:Tr)=> .A (r:Tr)) h (.A (x2:Tr));refine wq 3 ?_;obtain⟨g2,h⟩:=ze h;refine w_qs (.A ((Tr.mk (toNat k) (0#256) 0 0 l):Tr)) (a0:=(qoh k (0#256) 0 0 l .none)) rfl rfl rfl (by kernel_rfl) (zuu g2 _ _ _ _ _) (by dsimp only[zaf,List.set]) ?_;obtain⟨x3,hx3,h⟩:=zr h;refine zcp (znn (Tr.mk (toNat k) (0#256) 0 0 l) x3 hx3) ?_;refine zeq 8 (Enc.cells (x3:Tr)) ?_;exact zbu (fun(r:Tr)=> .A (r:Tr)) h (.A (x3:Tr))
def qma (fuel:Nat)(l:(List Tr)):Option Tr:=
 (zct (τ:=Unit) (zav (β:=Int) (fun s1=>(bif (decide (s1<(length l:Int))) then(chk (0<=s1/\ s1<(length l:Int)) (zay (ix l s1) (fun x1=>(bif (((x1.k:Nat):Int)==0) then(some (inr (inr noneT))) else(chk ((pre x1).length<2^61) (zay (zev x1) (fun x2=>(bif (!x2) then(some (inr (inr noneT))) else(chk (-9223372036854775808<=(s1+1)/\ (s1+1)<9223372036854775808) (some (inl ((s1+1))))))))))))) else(some (inr (inl ()))))) fuel (0)) (fun j1=>(zai (zsa fuel 3 1 l) (fun x3=>(zai (zjn 3 x3 (Tr.mk 1 (0#256) 0 0 [])) (fun x4=>(some x4)))))))
theorem ent17:Ent prog 17:=enters_of Tryz.func17 (by kernel_rfl) rfl
theorem seq_sh (fuel:Nat)(l:(List Tr))(r:Tr)(h:qma fuel l=some r):Pure (ITP prog) prog 17 [.L (l:List Tr)] (.A (r:Tr)):=by
 unfold qma at h;refine zbg 24 mix Tryz.func17 ent17 ?_;refine wq 1 ?_;refine zda zN ?_;refine zal h (bz 0 25 33554426) (fun j1=>[]) (fun j1=>(.B [(29,zN)])) ?_ ?_;intro or1 h hr1;refine wq 4 ?_;refine zt ?_;refine zcf h (bz 0 25 33554330) (fun s1=>[(7,.i s1)]) (fun s1=>(.B [(29,zN)])) ?_ ?_;exact zaz (bl 25 229);intro s1 p1 h;refine zdf ?_;refine wq 2 ?_;refine zi ?_;refine zbr h (fun hc1 h=> ?_) (fun hc1 h=> ?_);refine zi ?_;refine zt ?_;refine wq 1 ?_;obtain⟨g1,h⟩:=ze h;obtain⟨x1,hx1,h⟩:=zh h;refine z4t hx1 g1 ?_;refine w_o (a:= .A (x1:Tr)) ?_;refine zda zN ?_;refine zeq 8 (Enc.cells (x1:Tr)) ?_;refine wq 4 ?_;refine zab h (fun hc2 h=> ?_) (fun hc2 h=> ?_);refine zap hc2 ?_;refine wq 4 ?_;refine zdx rfl ?_;refine wq 1 ?_;refine zwa noneT ?_;refine zeq 8 (Enc.cells (noneT:Tr)) ?_;refine zy h (fun h=> ?_);replace h:=zax h hr1;exact zbu (fun(r:Tr)=> .A (r:Tr)) h (.A (noneT:Tr));refine zap hc2 ?_;refine wq 1 ?_;refine zan rfl rfl ?_;obtain⟨g2,h⟩:=ze h;obtain⟨x2,hx2,h⟩:=zh h;refine zcp (args':=[.A (x1:Tr)]) (r:= .b x2) (by rw[<-hx2];exact(zyj x1 g2)) ?_;refine wq 2 ?_;refine zbr h (fun hc3 h=> ?_) (fun hc3 h=> ?_);refine wq 1 ?_;refine zwa noneT ?_;refine zoa 8 (.B [(29,(Enc.cells (noneT:Tr))),(29,(Enc.cells (x1:Tr)))]) ?_;refine zy h (fun h=> ?_);replace h:=zax h hr1;exact zbu (fun(r:Tr)=> .A (r:Tr)) h (.A (noneT:Tr));refine zb (k0:=0) (id:=6) ?_;obtain⟨g3,h⟩:=ze h;refine zhd g3 ?_;refine zao ?_;refine zbb (p:=p1) ((s1+1)) h ?_;exact zdj (bl 25 229) 1 (by kernel_rfl) (le_of_ble_eq_true rfl) (zbs (zz rfl rfl)) (by dsimp only[zau,zbo,foldl,List.set,bz,bzc,Nat.reduceMod,Nat.reduceDiv,Nat.reduceBEq,Nat.reduceAdd];exact(za (zbj (Enc.cloL _)) (za rfl (za (by decide) (za rfl (za rfl (za (zbj (Enc.cloL _)) (by kernel_rfl)))))))) (by kernel_rfl);refine zy h (fun h=> ?_);refine zc (o:=or1) () h ?_;exact zaz (bl 25 5);intro j1 h;refine zdf ?_;refine wq 2 ?_;obtain⟨x3,hx3,h⟩:=zr h;refine zcp (qev fuel 3 1 l x3 hx3) ?_;refine zwa (Tr.mk 1 (0#256) 0 0 []) ?_;obtain⟨x4,hx4,h⟩:=zr h;refine zcp (z1g 3 x3 (Tr.mk 1 (0#256) 0 0 []) x4 hx4) ?_;refine zoa 8 (.B [(29,(Enc.cells (x4:Tr)))]) ?_;exact zbu (fun(r:Tr)=> .A (r:Tr)) h (.A (x4:Tr))
def F_or (fuel:Nat)(l:(List Tr)):Option Tr:=
 (zct (τ:=Unit) (zav (β:=Int) (fun s1=>(bif (decide (s1<(length l:Int))) then(chk (0<=s1/\ s1<(length l:Int)) (zay (ix l s1) (fun x1=>(zai (zxd x1) (fun x2=>(bif (!x2) then(some (inr (inr noneT))) else(chk (-9223372036854775808<=(s1+1)/\ (s1+1)<9223372036854775808) (some (inl ((s1+1))))))))))) else(some (inr (inl ()))))) fuel (0)) (fun j1=>(zai (zsa fuel 4 0 l) (fun x3=>(zai (zjn 4 x3 noneT) (fun x4=>(some x4)))))))
theorem ent16:Ent prog 16:=enters_of Tryz.func16 (by kernel_rfl) rfl
theorem or_sh (fuel:Nat)(l:(List Tr))(r:Tr)(h:F_or fuel l=some r):Pure (ITP prog) prog 16 [.L (l:List Tr)] (.A (r:Tr)):=by
 unfold F_or at h;refine zbg 19 mix Tryz.func16 ent16 ?_;refine wq 1 ?_;refine zda zN ?_;refine zal h (bz 0 20 1048570) (fun j1=>[]) (fun j1=>(.B [(29,zN)])) ?_ ?_;intro or1 h hr1;refine wq 4 ?_;refine zt ?_;refine zcf h (bz 0 20 1048474) (fun s1=>[(7,.i s1)]) (fun s1=>(.B [(29,zN)])) ?_ ?_;exact zaz (bl 20 229);intro s1 p1 h;refine zdf ?_;refine wq 2 ?_;refine zi ?_;refine zbr h (fun hc1 h=> ?_) (fun hc1 h=> ?_);refine zi ?_;refine zt ?_;refine wq 1 ?_;obtain⟨g1,h⟩:=ze h;obtain⟨x1,hx1,h⟩:=zh h;refine z4t hx1 g1 ?_;refine w_o (a:= .A (x1:Tr)) ?_;refine zda zN ?_;refine zeq 8 (Enc.cells (x1:Tr)) ?_;refine wq 2 ?_;obtain⟨x2,hx2,h⟩:=zr h;refine zcp (qjf x1 x2 hx2) ?_;refine wq 1 ?_;refine zbr h (fun hc2 h=> ?_) (fun hc2 h=> ?_);refine wq 1 ?_;refine zwa noneT ?_;refine zeq 8 (Enc.cells (noneT:Tr)) ?_;refine zy h (fun h=> ?_);replace h:=zax h hr1;exact zbu (fun(r:Tr)=> .A (r:Tr)) h (.A (noneT:Tr));refine zb (k0:=0) (id:=6) ?_;obtain⟨g2,h⟩:=ze h;refine zhd g2 ?_;refine zao ?_;refine zbb (p:=p1) ((s1+1)) h ?_;exact zdj (bl 20 229) 1 (by kernel_rfl) (le_of_ble_eq_true rfl) (zbs (zz rfl rfl)) (by dsimp only[zau,zbo,foldl,List.set,bz,bzc,Nat.reduceMod,Nat.reduceDiv,Nat.reduceBEq,Nat.reduceAdd];exact(za (zbj (Enc.cloL _)) (za rfl (za (by decide) (za rfl (za rfl (za (zbj (Enc.cloL _)) (by kernel_rfl)))))))) (by kernel_rfl);refine zy h (fun h=> ?_);refine zc (o:=or1) () h ?_;exact zaz (bl 20 5);intro j1 h;refine zdf ?_;refine wq 2 ?_;obtain⟨x3,hx3,h⟩:=zr h;refine zcp (qev fuel 4 0 l x3 hx3) ?_;refine zwa noneT ?_;obtain⟨x4,hx4,h⟩:=zr h;refine zcp (z1g 4 x3 noneT x4 hx4) ?_;refine zoa 8 (.B [(29,(Enc.cells (x4:Tr)))]) ?_;exact zbu (fun(r:Tr)=> .A (r:Tr)) h (.A (x4:Tr))
def zyi (t:Tr)(lo:Int)(hi:Int):Option Tr:=
 (zct (τ:=Bool×Bool) (bif (lo==0) then(bif (lo==1) then(some (inl ((hi==0),(hi==1)))) else(some (inl ((hi==0),false)))) else(bif (lo==1) then(some (inl (false,(hi==1)))) else(some (inl (false,false))))) (fun j1=>(zct (τ:=Bool) (zai (zxd t) (fun x1=>(bif (!x1) then(some (inl (true))) else(bif (!j1.1) then(bif (!j1.2) then(zai (zka lo hi) (fun x2=>(some (inl ((!x2)))))) else(some (inl (false)))) else(some (inl (false))))))) (fun j2=>(bif j2 then(some noneT) else(zct (τ:=Bool) (bif (((t.k:Nat):Int)==0) then(some (inl ((decide (lo>0))))) else(some (inl (false)))) (fun j3=>(bif j3 then(some noneT) else(zct (τ:=Bool) (bif j1.1 then(some (inl (true))) else(bif (((t.k:Nat):Int)==0) then(some (inl (true))) else(some (inl ((((t.k:Nat):Int)==1)))))) (fun j4=>(bif j4 then(some (Tr.mk 1 (0#256) 0 0 [])) else(bif j1.2 then(chk ((pre t).length<2^40) (zay t (fun x3=>(some x3)))) else(zai (zgk (Tr.mk 5 (0#256) lo hi [t])) (fun x4=>(some x4)))))))))))))))
theorem ent20:Ent prog 20:=enters_of Tryz.func20 (by kernel_rfl) rfl
theorem qmc (t:Tr)(lo:Int)(hi:Int)(r:Tr)(h:zyi t lo hi=some r):Pure (ITP prog) prog 20 [.A (t:Tr),.raw (.int .i64 lo),.raw (.int .i64 hi)] (.A (r:Tr)):=by
 unfold zyi at h;refine zbg 69 mix Tryz.func20 ent20 ?_;refine wq 1 ?_;refine zda (Enc.cells (t:Tr)) ?_;refine zda zN ?_;refine zal h (bz 0 72 4722366482869645213617) (fun j1=>[(7,.b j1.1),(8,.b j1.2)]) (fun j1=>(.B [(29,(Enc.cells (t:Tr))),(29,zN)])) ?_ ?_;intro or1 h hr1;refine zb (k0:=0) (id:=1) ?_;refine wq 2 ?_;refine zab h (fun hc1 h=> ?_) (fun hc1 h=> ?_);refine zap hc1 ?_;refine wq 5 ?_;refine zab h (fun hc2 h=> ?_) (fun hc2 h=> ?_);refine zap hc2 ?_;refine wq 5 ?_;refine zc (o:=or1) ((hi==0),(hi==1)) h ?_;exact zaz (bl 72 462);refine zap hc2 ?_;refine wq 5 ?_;refine zc (o:=or1) ((hi==0),false) h ?_;exact zaz (bl 72 462);refine zap hc1 ?_;refine wq 5 ?_;refine zab h (fun hc3 h=> ?_) (fun hc3 h=> ?_);refine zap hc3 ?_;refine wq 5 ?_;refine zc (o:=or1) (false,(hi==1)) h ?_;exact zaz (bl 72 462);refine zap hc3 ?_;refine wq 5 ?_;refine zc (o:=or1) (false,false) h ?_;exact zaz (bl 72 462);intro j1 h;refine zdf ?_;refine zi ?_;refine zt ?_;refine zal h (bz 0 39 549753716736) (fun j2=>[(21,.b j2)]) (fun j2=>(.B [(29,(Enc.cells (t:Tr))),(29,zN)])) ?_ ?_;intro or2 h hr2;refine zb (k0:=0) (id:=2) ?_;refine wq 1 ?_;obtain⟨x1,hx1,h⟩:=zr h;refine zcp (qjf t x1 hx1) ?_;refine wq 1 ?_;refine zab h (fun hc4 h=> ?_) (fun hc4 h=> ?_);refine zap hc4 ?_;refine wq 14 ?_;refine zc (o:=or2) (true) h ?_;exact zaz (bl 72 4722366482319893594111);refine zap hc4 ?_;refine wq 2 ?_;refine zan rfl rfl ?_;refine zab h (fun hc5 h=> ?_) (fun hc5 h=> ?_);refine zap hc5 ?_;refine wq 3 ?_;refine zan rfl rfl ?_;refine zab h (fun hc6 h=> ?_) (fun hc6 h=> ?_);refine zap hc6 ?_;refine wq 2 ?_;refine zan rfl rfl ?_;obtain⟨x2,hx2,h⟩:=zr h;refine zcp (zxa lo hi x2 hx2) ?_;refine wq 4 ?_;refine zc (o:=or2) ((!x2)) h ?_;exact zaz (bl 72 4722366482319893594111);refine zap hc6 ?_;refine wq 7 ?_;refine zc (o:=or2) (false) h ?_;exact zaz (bl 72 4722366482319893594111);refine zap hc5 ?_;refine wq 11 ?_;refine zc (o:=or2) (false) h ?_;exact zaz (bl 72 4722366482319893594111);intro j2 h;refine zdf ?_;refine zbr h (fun hc7 h=> ?_) (fun hc7 h=> ?_);refine wq 1 ?_;refine zwa noneT ?_;refine zeq 8 (Enc.cells (noneT:Tr)) ?_;exact zbu (fun(r:Tr)=> .A (r:Tr)) h (.A (noneT:Tr));refine zal h (bz 0 48 280375467180032) (fun j3=>[(40,.b j3)]) (fun j3=>(.B [(29,(Enc.cells (t:Tr))),(29,zN)])) ?_ ?_;intro or3 h hr3;refine zb (k0:=0) (id:=4) ?_;refine wq 3 ?_;refine zab h (fun hc8 h=> ?_) (fun hc8 h=> ?_);refine zap hc8 ?_;refine wq 4 ?_;refine zc (o:=or3) ((decide (lo>0))) h ?_;exact zaz (bl 72 4722366203593689661439);refine zap hc8 ?_;refine wq 4 ?_;refine zc (o:=or3) (false) h ?_;exact zaz (bl 72 4722366203593689661439);intro j3 h;refine zdf ?_;refine zbr h (fun hc9 h=> ?_) (fun hc9 h=> ?_);refine wq 1 ?_;refine zwa noneT ?_;refine zeq 8 (Enc.cells (noneT:Tr)) ?_;exact zbu (fun(r:Tr)=> .A (r:Tr)) h (.A (noneT:Tr));refine zal h (bz 0 61 2305281158771900544) (fun j4=>[(49,.b j4)]) (fun j4=>(.B [(29,(Enc.cells (t:Tr))),(29,zN)])) ?_ ?_;intro or4 h hr4;refine zb (k0:=0) (id:=6) ?_;refine zao ?_;refine zab h (fun hc10 h=> ?_) (fun hc10 h=> ?_);refine zap hc10 ?_;refine wq 10 ?_;refine zc (o:=or4) (true) h ?_;exact zaz (bl 72 4720061764660826734463);refine zap hc10 ?_;refine wq 4 ?_;refine zab h (fun hc11 h=> ?_) (fun hc11 h=> ?_);refine zap hc11 ?_;refine wq 5 ?_;refine zc (o:=or4) (true) h ?_;exact zaz (bl 72 4720061764660826734463);refine zap hc11 ?_;refine wq 5 ?_;refine zc (o:=or4) ((((t.k:Nat):Int)==1)) h ?_;exact zaz (bl 72 4720061764660826734463);intro j4 h;refine zdf ?_;refine zbr h (fun hc12 h=> ?_) (fun hc12 h=> ?_);refine wq 1 ?_;refine zwa (Tr.mk 1 (0#256) 0 0 []) ?_;refine zeq 8 (Enc.cells ((Tr.mk 1 (0#256) 0 0 []):Tr)) ?_;exact zbu (fun(r:Tr)=> .A (r:Tr)) h (.A ((Tr.mk 1 (0#256) 0 0 []):Tr));refine wq 3 ?_;refine zbr h (fun hc13 h=> ?_) (fun hc13 h=> ?_);refine wq 2 ?_;obtain⟨g1,h⟩:=ze h;obtain⟨x3,hx3,h⟩:=zh h;refine zcp (args':=[.A (t:Tr)]) (r:= .A (x3:Tr)) (by rw[<-hx3];exact(qai t g1)) ?_;refine zeq 8 (Enc.cells (x3:Tr)) ?_;exact zbu (fun(r:Tr)=> .A (r:Tr)) h (.A (x3:Tr));refine wq 4 ?_;refine w_o (a:= .F ([t]:List Tr)) (h:=zba (zhz (α:=Tr) (l:=[t]) (cs:=Enc.cells (t:Tr)++[]) rfl (by rw[Enc.cons,Enc.nil]))) ?_;refine zwa (Tr.mk 5 (0#256) lo hi [t]) ?_;obtain⟨x4,hx4,h⟩:=zr h;refine zcp (znn (Tr.mk 5 (0#256) lo hi [t]) x4 hx4) ?_;refine zeq 8 (Enc.cells (x4:Tr)) ?_;exact zbu (fun(r:Tr)=> .A (r:Tr)) h (.A (x4:Tr))
def zoy (t:Tr):Option Tr:=
 (zai (zgk (Tr.mk 6 (0#256) 0 0 [t])) (fun x1=>(some x1)))
theorem ent15:Ent prog 15:=enters_of Tryz.func15 (by kernel_rfl) rfl
theorem qce (t:Tr)(r:Tr)(h:zoy t=some r):Pure (ITP prog) prog 15 [.A (t:Tr)] (.A (r:Tr)):=by
 unfold zoy at h;refine zbg 6 mix Tryz.func15 ent15 ?_;refine wq 1 ?_;refine zda (Enc.cells (t:Tr)) ?_;refine zda zN ?_;refine wq 2 ?_;refine w_o (a:= .F ([t]:List Tr)) (h:=zba (zhz (α:=Tr) (l:=[t]) (cs:=Enc.cells (t:Tr)++[]) rfl (by rw[Enc.cons,Enc.nil]))) ?_;refine zwa (Tr.mk 6 (0#256) 0 0 [t]) ?_;obtain⟨x1,hx1,h⟩:=zr h;refine zcp (znn (Tr.mk 6 (0#256) 0 0 [t]) x1 hx1) ?_;refine zeq 8 (Enc.cells (x1:Tr)) ?_;exact zbu (fun(r:Tr)=> .A (r:Tr)) h (.A (x1:Tr))
theorem qin:(pre noneT).length=1:=by simp[noneT,pre,zbe]
theorem qii (t:Tr)(h:(pre t).length<2^60):zxd t=some (znx t):=by
 unfold zxd znx;rw[zes ⟨h,by rw[qin];omega⟩,zay];cases zgv t noneT with
 |true=>rfl
 |false=>show chk _ _=_;rw[zes (by omega)];rfl
theorem znj (t:Tr)(h:(pre t).length<2^61):zgk t=some (zen t):=by
 unfold zgk zen;rw[zes h,zay];cases hl:zev t with
 |false=>rfl
 |true=>have:=zny hl;show chk _ _=_;rw[zes (by omega)];rfl
theorem qed {fuel:Nat} (k w:Nat)(l:List Tr)(hl:(zbe l).length<=2^40)(hf:l.length<fuel):zsa fuel k w l=some (zgn k w l):=by
 have hlen:=zaw l;unfold zsa;refine zaj (zgn k w l) ?_ rfl;refine zii l.length (fun i=>(zgn k w (l.take i),(i:Int))) (by simp[zgn]) (fun i hi=> ?_) ?_ hf
 ·have hp:=zsg l (i+1);have hfl:=znc k w (l.take (i+1));have hlf:(zgn k w (l.take (i+1))).length<=(zbe l).length:=by have:=zaw (zgn k w (l.take (i+1)));omega
  have hs:zgn k w (l.take (i+1))=zgn k w (l.take i)++(bif (l[i].k:Int)==k then l[i].l else bif (l[i].k:Int)==w then[] else[l[i]]):=by
   rw[List.take_succ_eq_append_getElem hi,zgn,List.flatMap_append];simp[zgn]
  refine zdr (by simp;omega) ?_;refine zaj (zgn k w (l.take (i+1))) ?_ ?_
  ·refine zf (by simp only;omega) (zj fun x1 e1=> ?_);simp only at e1;rw[zgu hi] at e1;rw[<-e1,hs];rw[hs,List.length_append] at hlf;cases h1:(l[i].k:Int)==k with
   | true=>
    rw[h1,cond_true] at hlf;exact zdr rfl (zf (by simp only;omega) rfl)
   | false=>
    rw[h1,cond_false] at hlf;cases h2:(l[i].k:Int)==w with
    |true=>exact zdh rfl (zdr rfl (by simp))
    | false=>
     rw[h2,cond_false] at hlf;exact zdh rfl (zdh rfl (zf (by simp only;omega) rfl))
  ·refine zf (by simp only;omega) ?_;simp only;rfl
 ·exact zdh (by simp) (by simp[List.take_length])
theorem z4h (k:Nat)(l:List Tr)(z:Tr)(hl:(zbe l).length<=2^41):zjn k l z=some (zkx k l z):=by
 unfold zjn zkx;cases h0:(l.length:Int)==0 with
 |true=>rfl
 | false=>
  simp only[cond_false];cases h1:(l.length:Int)==1 with
  | true=>
   cases l with
   |nil=>simp at h1
   | cons x l=>
    have hx:(pre x).length<=(zbe (x::l)).length:=by simp[zbe]
    refine zf (by simp) (zj fun x1 e1=> ?_);have:x1=x:=by rw[<-e1];rfl
    subst this;rw[znj _ (by omega)];rfl
  | false=>
   simp only[cond_false];refine zf (by omega) ?_;rw[Int.toNat_natCast,znj _ (by rw[pre,length_cons];omega)];rfl
theorem qag {l:List Tr} {x:Tr} (h:x∈l):(pre x).length<=(zbe l).length:=znp h
theorem qhz {ρ:Type} (q:Tr->Bool)(y:ρ)(l:List Tr) {body:Int->Option (Int ⊕ (Unit ⊕ ρ))} (hb: ∀i (hi:i<l.length),body (i:Int)=some (if q l[i]=true then .inr (.inr y) else .inl ((i+1:Nat):Int)))(he:body (l.length:Int)=some (.inr (.inl ()))):
 ∀(k i n:Nat),i+k=l.length->k<n->zav body n (i:Int)=some (if(l.drop i).any q=true then .inr y else .inl ()):=by
 intro k;induction k with
 | zero=>
  intro i n hi hn
  match n,hn with
  | n+1,_=>
   have:i=l.length:=by omega
   subst this;rw[zav,he,List.drop_length];rfl
 | succ k ih=>
  intro i n hi hn
  match n,hn with
  | n+1,hn=>
   have hil:i<l.length:=by omega
   rw[zav,hb i hil,List.drop_eq_getElem_cons hil,List.any_cons];by_cases hq:q l[i]=true
   ·simp[hq]
   ·rw[if_neg hq];simp only;rw[ih (i+1) n (by omega) (by omega)];simp[hq]
theorem seq_eqF {fuel:Nat} (l:List Tr)(hl:(zbe l).length<=2^40)(hf:l.length<fuel):qma fuel l=some (zsq l):=by
 have hlen:=zaw l;have hfl:=znc 3 1 l;unfold qma zsq;rw[show(0:Int)=((0:Nat):Int) from rfl,qhz (fun x=>(x.k:Int)==0|| !zev x) noneT l (fun i hi=> ?_) ?_ l.length 0 fuel (by omega) hf,List.drop_zero]
 ·cases l.any (fun x=>(x.k:Int)==0|| !zev x) with
  |true=>rfl
  | false=>
   show zai (zsa fuel ((3:Nat):Int) ((1:Nat):Int) l) _=_;rw[qed 3 1 l hl hf,bindE_some];show zai (zjn ((3:Nat):Int) _ _) _=_;rw[z4h 3 _ _ (by omega)];rfl
 ·exact zdh (by simp) rfl
 ·skip
  have hx:=qag (getElem_mem hi);refine zdr (by simp;omega) (zf (by omega) (zj fun x1 e1=> ?_));rw[zgu hi] at e1;subst e1;cases h1:(l[i].k:Int)==0 with
  |true=>exact zdr rfl (by simp)
  | false=>
   refine zdh rfl (zf (by omega) (zj fun x2 e2=> ?_));subst e2;cases h2:zev l[i] with
   |true=>exact zdh rfl (zf (by omega) (by simp))
   |false=>exact zdr rfl (by simp)
theorem or_eqF {fuel:Nat} (l:List Tr)(hl:(zbe l).length<=2^40)(hf:l.length<fuel):F_or fuel l=some (orT l):=by
 have hlen:=zaw l;have hfl:=znc 4 0 l;unfold F_or orT;rw[show(0:Int)=((0:Nat):Int) from rfl,qhz (fun x=> !znx x) noneT l (fun i hi=> ?_) ?_ l.length 0 fuel (by omega) hf,List.drop_zero]
 ·cases l.any (fun x=> !znx x) with
  |true=>rfl
  | false=>
   show zai (zsa fuel ((4:Nat):Int) ((0:Nat):Int) l) _=_;rw[qed 4 0 l hl hf,bindE_some];show zai (zjn ((4:Nat):Int) _ _) _=_;rw[z4h 4 _ _ (by omega)];rfl
 ·exact zdh (by simp) rfl
 ·skip
  have hx:=qag (getElem_mem hi);refine zdr (by simp;omega) (zf (by omega) (zj fun x1 e1=> ?_));rw[zgu hi] at e1;subst e1;refine zu (znx l[i]) (qii _ (by omega)) ?_;cases h2:znx l[i] with
  |true=>exact zdh rfl (zf (by omega) (by simp))
  |false=>exact zdr rfl (by simp)
theorem k_seq (l:List Tr)(h:(zbe l).length<=2^40):Pure (ITP prog) prog 17 [.list l.length (Enc.cellsL l) .none] (.agg (Enc.cells (zsq l))):=seq_sh (l.length+1) l _ (seq_eqF l h (by omega))
theorem k_or (l:List Tr)(h:(zbe l).length<=2^40):Pure (ITP prog) prog 16 [.list l.length (Enc.cellsL l) .none] (.agg (Enc.cells (orT l))):=or_sh (l.length+1) l _ (or_eqF l h (by omega))
theorem qdb (t:Tr)(h:(pre t).length<2^60):zoy t=some (zgj t):=by
 unfold zoy zgj;rw[znj _ (by rw[z0e];omega)];rfl
theorem qiw (t:Tr)(h:(pre t).length<2^60):Pure (ITP prog) prog 15 [.agg (Enc.cells t)] (.agg (Enc.cells (zgj t))):=qce t _ (qdb t h)
theorem qfp (t:Tr)(lo hi:Int)(h:(pre t).length<2^40):zyi t lo hi=some (zfr t lo hi):=by
 have e1:=qii t (by omega);have e2:=zxu lo hi;have e3:zgk (Tr.mk 5 0#256 lo hi [t])=some (zen (Tr.mk 5 0#256 lo hi [t])):=znj _ (by rw[z0e];omega);unfold zyi zfr;simp only[e1,e2,e3,bindE_some];have hE:emptyT=Tr.mk 1 0#256 0 0 []:=rfl;rw[<-hE];simp only[zes h,zay];generalize znx t=G
 generalize zel lo hi=B
 generalize zen (Tr.mk 5 0#256 lo hi [t])=X
 generalize (lo==0)=a
 generalize (lo==1)=b
 generalize (hi==0)=c
 generalize (hi==1)=d
 generalize ((t.k:Int)==0)=e
 generalize ((t.k:Int)==1)=f
 generalize decide (lo>0)=p
 generalize noneT=N
 generalize emptyT=M
 cases a<;>cases b<;>cases c<;>cases d<;>cases e<;>cases f<;>cases p<;>cases G<;>cases B<;>rfl
theorem k_times (t:Tr)(lo hi:Int)(h:(pre t).length<2^40):Pure (ITP prog) prog 20 [.agg (Enc.cells t),.raw (.int .i64 lo),.raw (.int .i64 hi)] (.agg (Enc.cells (zfr t lo hi))):=qmc t lo hi _ (qfp t lo hi h)
theorem rxof_eq (s:BS):qac s=some (ofT s):=by
 unfold qac ofT;by_cases h:s=0#256<;>simp[h]
theorem k_of (s:BS):Pure (ITP prog) prog 132 [.agg (Enc.cells s)] (.agg (Enc.cells (ofT s))):=rxof_sh s _ (rxof_eq s)
def crT (t:Tr):Bool:=(pre t).all zcq
def q1 (f:Tr->Bool)(n:Nat)(x:Tr):Option Bool:=if(pre x).length<n/\ crT x=true then some (f x) else none
end Go.Ab
namespace Go.Ab
open Go Go.RowKit Go.Fwd Go.Proofs
def z7w (fuel:Nat)(n:Nat)(t:Tr):Option Int:=
 (zct (τ:=Int) (bif (((t.k:Nat):Int)==2) then(some (inl (1))) else(some (inl (0)))) (fun j1=>(zct (τ:=Int) (zav (β:=Int×Int) (fun s1=>(bif (decide (s1.2<(length t.l:Int))) then(chk (0<=s1.2/\ s1.2<(length t.l:Int)) (zay (ix t.l s1.2) (fun x1=>(chk (((pre x1).length<n)) (zay (zlv x1) (fun x2=>(chk (-9223372036854775808<=(s1.1+x2)/\ (s1.1+x2)<9223372036854775808) (chk (-9223372036854775808<=(s1.2+1)/\ (s1.2+1)<9223372036854775808) (some (inl ((s1.1+x2),(s1.2+1)))))))))))) else(some (inr (inl (s1.1)))))) fuel (j1,0)) (fun j2=>(zct (τ:=Int) (bif (((t.k:Nat):Int)==5) then(zct (τ:=Int) (bif (t.mx==(-1)) then(some (inl ((max (max t.mn 0) 1)))) else(some (inl ((max (max t.mn 0) t.mx))))) (fun j4=>(chk (-9223372036854775808<=(j2*(min j4 10001))/\ (j2*(min j4 10001))<9223372036854775808) (some (inl ((j2*(min j4 10001)))))))) else(some (inl (j2)))) (fun j3=>(some (min j3 10001))))))))
theorem ent67:Ent prog 67:=enters_of Tryz.func67 (by kernel_rfl) rfl
theorem posn_sh (fuel:Nat)(n:Nat)(t:Tr)(r:Int)(ih: ∀x:Tr,((pre x).length<n)->Pure (ITP prog) prog 67 [.A x] (.raw (.int .i64 (zlv x))))(h:z7w fuel n t=some r):Pure (ITP prog) prog 67 [.A (t:Tr)] (.raw (.int .i64 r)):=by
 unfold z7w at h;refine zbg 43 mix Tryz.func67 ent67 ?_;refine wq 1 ?_;refine zda (Enc.cells (t:Tr)) ?_;refine wq 3 ?_;refine zal h (bz 0 44 17592186044413) (fun j1=>[(3,.i j1)]) (fun j1=>(.B [(29,(Enc.cells (t:Tr)))])) ?_ ?_;intro or1 h hr1;refine wq 4 ?_;refine zbr h (fun hc1 h=> ?_) (fun hc1 h=> ?_);refine zb (k0:=0) (id:=3) ?_;refine wq 1 ?_;refine zc (o:=or1) (1) h ?_;exact zaz (bl 44 10);refine zc (o:=or1) (0) h ?_;exact zaz (bl 44 10);intro j1 h;refine zdf ?_;refine zal h (bz 0 23 8386600) (fun j2=>[(3,.i j2)]) (fun j2=>(.B [(29,(Enc.cells (t:Tr)))])) ?_ ?_;intro or2 h hr2;refine wq 2 ?_;refine w_r [.v (.L (t.l:List Tr))] ?_;refine wq 2 ?_;refine zt ?_;refine zcf h (bz 0 23 8374312) (fun s1=>[(3,.i s1.1),(14,.i s1.2)]) (fun s1=>(.B [(29,(Enc.cells (t:Tr)))])) ?_ ?_;exact zaz (bl 44 17592177686495);intro s1 p1 h;refine zdf ?_;refine wq 2 ?_;refine zi ?_;refine zbr h (fun hc2 h=> ?_) (fun hc2 h=> ?_);refine zi ?_;refine zt ?_;refine wq 1 ?_;obtain⟨g1,h⟩:=ze h;obtain⟨x1,hx1,h⟩:=zh h;refine z4t hx1 g1 ?_;refine w_o (a:= .A (x1:Tr)) ?_;refine zda zN ?_;refine zeq 8 (Enc.cells (x1:Tr)) ?_;refine zb (k0:=0) (id:=7) ?_;refine wq 2 ?_;obtain⟨g2,h⟩:=ze h;obtain⟨x2,hx2,h⟩:=zh h;refine zcp (args':=[.A (x1:Tr)]) (r:= .i x2) (by rw[<-hx2];exact(ih x1 g2)) ?_;obtain⟨g3,h⟩:=ze h;refine zhd g3 ?_;refine zao ?_;refine zb (k0:=0) (id:=8) ?_;obtain⟨g4,h⟩:=ze h;refine zhd g4 ?_;refine zao ?_;refine zbb (p:=p1) ((s1.1+x2),(s1.2+1)) h ?_;exact zdj (bl 44 17592177686495) 1 (by kernel_rfl) (le_of_ble_eq_true rfl) (zbs (zz (zo _ _ (Enc.clo _)) rfl)) (by dsimp only[zau,zbo,foldl,List.set,bz,bzc,Nat.reduceMod,Nat.reduceDiv,Nat.reduceBEq,Nat.reduceAdd];exact(za rfl (za (by decide) (za rfl (za rfl (za rfl (za rfl (za rfl (za rfl (za rfl (za rfl (za rfl (za rfl (za (zbj (Enc.cloL _)) (by kernel_rfl))))))))))))))) (by kernel_rfl);refine zy h (fun h=> ?_);refine zc (o:=or2) (s1.1) h ?_;exact zaz (bl 44 17592177657823);intro j2 h;refine zdf ?_;refine zal h (bz 0 42 4398038122698) (fun j3=>[(3,.i j3)]) (fun j3=>(.B [(29,(Enc.cells (t:Tr)))])) ?_ ?_;intro or3 h hr3;refine wq 4 ?_;refine zbr h (fun hc3 h=> ?_) (fun hc3 h=> ?_);refine wq 3 ?_;refine w_o (a:= .i (max t.mn 0)) (h:=zba (q_max rfl rfl rfl rfl rfl)) ?_;refine wq 5 ?_;refine w_o (a:= .i (max (max t.mn 0) t.mx)) (h:=zba (q_max rfl rfl rfl rfl rfl)) ?_;refine zao ?_;refine zal h (bz 0 38 274869518530) (fun j4=>[(7,.i j4)]) (fun j4=>(.B [(29,(Enc.cells (t:Tr)))])) ?_ ?_;intro or4 h hr4;refine wq 4 ?_;refine zbr h (fun hc4 h=> ?_) (fun hc4 h=> ?_);refine zb (k0:=0) (id:=13) ?_;refine zao ?_;refine w_o (a:= .i (max (max t.mn 0) 1)) (h:=zba (q_max rfl rfl rfl rfl rfl)) ?_;refine zao ?_;refine zc (o:=or4) ((max (max t.mn 0) 1)) h ?_;exact zaz (bl 44 17317316526013);refine zc (o:=or4) ((max (max t.mn 0) t.mx)) h ?_;exact zaz (bl 44 17317316526013);intro j4 h;refine zdf ?_;refine zb (k0:=0) (id:=14) ?_;refine wq 2 ?_;refine w_o (a:= .i (min j4 10001)) (h:=zba (q_min rfl rfl rfl rfl rfl)) ?_;obtain⟨g5,h⟩:=ze h;refine w_o (a:= .i (j2*(min j4 10001))) (h:=zba (qns rfl rfl rfl rfl g5.1 g5.2)) ?_;refine zao ?_;refine zc (o:=or3) ((j2*(min j4 10001))) h ?_;exact zaz (bl 44 13194147921725);refine zc (o:=or3) (j2) h ?_;exact zaz (bl 44 13194147921725);intro j3 h;refine zdf ?_;refine wq 2 ?_;refine w_o (a:= .i (min j3 10001)) (h:=zba (q_min rfl rfl rfl rfl rfl)) ?_;refine zao ?_;exact zki h
def zzs (t:Tr):Option Int:=
 (chk ((pre t).length<2^61) (zay (zhf t) (fun x1=>(bif (!x1) then(some 10001) else(zct (τ:=Int) (chk ((pre t).length<2^61) (zay (pre t) (fun x2=>(zct (zeg (β:=Int) (fun s1 w1=>(chk (-9223372036854775808<=(s1+1)/\ (s1+1)<9223372036854775808) (some (inl ((s1+1)))))) x2 (0)) (fun s1=>(some (inl (s1)))))))) (fun j1=>(some j1)))))))
theorem ent36:Ent prog 36:=enters_of Tryz.func36 (by kernel_rfl) rfl
theorem qgv (t:Tr)(r:Int)(h:zzs t=some r):Pure (ITP prog) prog 36 [.A (t:Tr)] (.raw (.int .i64 r)):=by
 unfold zzs at h;refine zbg 12 mix Tryz.func36 ent36 ?_;refine wq 1 ?_;refine zda (Enc.cells (t:Tr)) ?_;refine wq 1 ?_;refine zi ?_;refine wq 2 ?_;obtain⟨g1,h⟩:=ze h;obtain⟨x1,hx1,h⟩:=zh h;refine zcp (args':=[.A (t:Tr)]) (r:= .b x1) (by rw[<-hx1];exact(zyh t g1)) ?_;refine wq 1 ?_;refine zbr h (fun hc1 h=> ?_) (fun hc1 h=> ?_);refine wq 2 ?_;exact zki h;refine wq 1 ?_;refine zda [.i 0] ?_;refine zoa 1 (.B [(29,(Enc.cells (t:Tr))),(3,[.i 0])]) ?_;refine zal h (bz 0 13 8183) (fun j1=>[]) (fun j1=>(.B [(29,(Enc.cells (t:Tr))),(3,[.i j1])])) ?_ ?_;intro or1 h hr1;refine wq 2 ?_;obtain⟨g2,h⟩:=ze h;obtain⟨x2,hx2,h⟩:=zh h;refine zcp (args':=[.A (t:Tr)]) (r:= .iter (List.map zoh x2)) (by rw[<-hx2];exact(zyx t g2)) ?_;refine zt ?_;refine zns h zoh (fun s1=>(.B [(29,(Enc.cells (t:Tr))),(3,[.i s1])])) rfl (fun _=>rfl) rfl rfl ?_ ?_;intro s1 w1 p1 h;refine zbq (by dsimp only[zmb,List.zip,List.zipWith,foldl,List.set,Array.toList,zoh]) rfl ?_;refine zt ?_;refine zb (k0:=0) (id:=5) ?_;refine wq 1 ?_;obtain⟨g3,h⟩:=ze h;refine zhd g3 ?_;refine zeq 1 [.i (s1+1)] ?_;exact zfv (p:=p1) ((s1+1)) h (zbs (zz (zo _ _ (Enc.clo _)) (zz (by kernel_rfl) rfl))) (by kernel_rfl);intro s1 h;refine zc (o:=or1) (s1) h ?_;exact zaz (bl 13 8);intro j1 h;refine zdf ?_;refine wq 3 ?_;exact zki h
def zrp (t:Tr):Option Int:=
 (chk ((pre t).length<2^61) (zay (zhf t) (fun x1=>(bif (!x1) then(some 10001) else(zct (τ:=Int) (chk ((pre t).length<2^61) (zay (pre t) (fun x2=>(zct (zeg (β:=Int) (fun s1 w1=>(bif (((w1.k:Nat):Int)==6) then(chk (-9223372036854775808<=(s1+1)/\ (s1+1)<9223372036854775808) (some (inl ((s1+1))))) else(some (inl (s1))))) x2 (0)) (fun s1=>(some (inl (s1)))))))) (fun j1=>(some j1)))))))
theorem ent38:Ent prog 38:=enters_of Tryz.func38 (by kernel_rfl) rfl
theorem z6e (t:Tr)(r:Int)(h:zrp t=some r):Pure (ITP prog) prog 38 [.A (t:Tr)] (.raw (.int .i64 r)):=by
 unfold zrp at h;refine zbg 16 mix Tryz.func38 ent38 ?_;refine wq 1 ?_;refine zda (Enc.cells (t:Tr)) ?_;refine wq 1 ?_;refine zi ?_;refine wq 2 ?_;obtain⟨g1,h⟩:=ze h;obtain⟨x1,hx1,h⟩:=zh h;refine zcp (args':=[.A (t:Tr)]) (r:= .b x1) (by rw[<-hx1];exact(zyh t g1)) ?_;refine wq 1 ?_;refine zbr h (fun hc1 h=> ?_) (fun hc1 h=> ?_);refine wq 2 ?_;exact zki h;refine wq 1 ?_;refine zda [.i 0] ?_;refine zoa 1 (.B [(29,(Enc.cells (t:Tr))),(3,[.i 0])]) ?_;refine zal h (bz 0 17 131063) (fun j1=>[]) (fun j1=>(.B [(29,(Enc.cells (t:Tr))),(3,[.i j1])])) ?_ ?_;intro or1 h hr1;refine wq 2 ?_;obtain⟨g2,h⟩:=ze h;obtain⟨x2,hx2,h⟩:=zh h;refine zcp (args':=[.A (t:Tr)]) (r:= .iter (List.map zoh x2)) (by rw[<-hx2];exact(zyx t g2)) ?_;refine zt ?_;refine zns h zoh (fun s1=>(.B [(29,(Enc.cells (t:Tr))),(3,[.i s1])])) rfl (fun _=>rfl) rfl rfl ?_ ?_;intro s1 w1 p1 h;refine zbq (by dsimp only[zmb,List.zip,List.zipWith,foldl,List.set,Array.toList,zoh]) rfl ?_;refine zb (k0:=0) (id:=5) ?_;refine zda zN ?_;refine zeq 8 (Enc.cells (w1:Tr)) ?_;refine zt ?_;refine wq 4 ?_;refine zbr h (fun hc2 h=> ?_) (fun hc2 h=> ?_);refine zb (k0:=0) (id:=7) ?_;refine wq 1 ?_;obtain⟨g3,h⟩:=ze h;refine zhd g3 ?_;refine zeq 1 [.i (s1+1)] ?_;exact zfv (p:=p1) ((s1+1)) h (zbs (zz (zo _ _ (Enc.clo _)) (zz (by kernel_rfl) rfl))) (by kernel_rfl);exact zfv (p:=p1) (s1) h (zbs (zz (zo _ _ (Enc.clo _)) (zz (by kernel_rfl) rfl))) (by kernel_rfl);intro s1 h;refine zc (o:=or1) (s1) h ?_;exact zaz (bl 17 8);intro j1 h;refine zdf ?_;refine wq 3 ?_;exact zki h
end Go.Ab
namespace Go.Ab
open Go Go.RowKit Go.Fwd Go.Proofs
theorem zzm {α β ρ:Type} {body:β->α->Option (β ⊕ ρ)} (f:β->α->β)(I:β->Nat->Prop): ∀(xs:List α) (s:β),I s xs.length->(∀s x k,x∈xs->k<xs.length->I s (k+1)->body s x=some (.inl (f s x))/\ I (f s x) k)->zeg body xs s=some (.inl (xs.foldl f s))
 |[],s,_,_=>rfl
 | x::xs,s,h0,h=>by
  obtain⟨h1,h2⟩:=h s x xs.length (by simp) (by simp) h0;rw[zeg,h1];exact zzm f I xs (f s x) h2 fun s y k hy hk=>h s y k (by simp[hy]) (by simp;omega)
theorem z3s {α:Type} (p:α->Bool): ∀(xs:List α) (s:Int),xs.foldl (fun s x=>bif p x then s+1 else s) s=s+(xs.countP p:Int)
 |[],s=>by simp
 | x::xs,s=>by
  rw[List.foldl_cons,z3s p xs,List.countP_cons];cases p x<;>simp<;>omega
theorem k_size (t:Tr)(h:(pre t).length<2^61):Pure (ITP prog) prog 36 [.agg (Enc.cells t)] (.raw (.int .i64 (qiz t))):=by
 refine qgv t _ ?_;unfold zzs qiz;refine zf h (zj fun x1 e1=> ?_);subst e1;cases hl:zhf t with
 |false=>rfl
 | true=>
  refine zdh rfl (zaj ((pre t).length:Int) (zf h (zj fun x2 e2=> ?_)) rfl);subst e2;refine zaj ((pre t).length:Int) ?_ rfl;refine Eq.trans (zzm (fun(s:Int) _=>s+1) (fun s k=>0<=s/\ s+k<=(pre t).length) (pre t) 0 (by omega) (fun s x k _ hk hI=>⟨zf (by omega) rfl,by omega⟩)) ?_;have: ∀(xs:List Tr) (s:Int),xs.foldl (fun s _=>s+1) s=s+(xs.length:Int):=fun xs=>by
   induction xs with
   |nil=>intro s;simp
   |cons x xs ih=>intro s;rw[List.foldl_cons,ih,length_cons];omega
  rw[this,Int.zero_add]
theorem qoj (t:Tr)(h:(pre t).length<2^61):Pure (ITP prog) prog 38 [.agg (Enc.cells t)] (.raw (.int .i64 (z7a t))):=by
 refine z6e t _ ?_;unfold zrp z7a;refine zf h (zj fun x1 e1=> ?_);subst e1;cases hl:zhf t with
 |false=>rfl
 | true=>
  refine zdh rfl (zaj (((pre t).countP fun x=>decide (x.k=6)):Int) (zf h (zj fun x2 e2=> ?_)) rfl);subst e2;refine zaj (((pre t).countP fun x=>decide (x.k=6)):Int) ?_ rfl;refine Eq.trans (zzm (fun(s:Int) x=>bif decide (x.k=6) then s+1 else s) (fun s k=>0<=s/\ s+k<=(pre t).length) (pre t) 0 (by omega) (fun s x k _ hk hI=> ?_)) ?_
  rotate_left
  ·rw[z3s (fun x:Tr=>decide (x.k=6)),Int.zero_add]
  ·by_cases h6:x.k=6
   ·simp only[h6,decide_true,cond_true];exact⟨zf (by omega) rfl,by omega⟩
   ·rw[show decide (x.k=6)=false by simpa using h6];exact⟨zdh (by simp;omega) rfl,by simp only[cond_false];omega⟩
theorem posn_eq {fuel:Nat} (n:Nat)(t:Tr)(h:(pre t).length<=10000)(hn:(pre t).length<n+1)(hf:10001<fuel):z7w fuel n t=some (zlv t):=by
 have hp:(pre t).length=1+(zbe t.l).length:=by rw[zea,length_cons];omega
 have hlen:=zaw t.l;have hpl:=z6g t.l;have hpn:=zed t.l;unfold z7w;have hpos:zlv t=min (if t.k=5 then((if t.k=2 then 1 else 0)+zey t.l)*min (if t.mx= -1 then max (max t.mn 0) 1 else max (max t.mn 0) t.mx) 10001 else(if t.k=2 then 1 else 0)+zey t.l) 10001:=by
  obtain⟨k,s,mn,mx,l⟩:=t;rw[zlv];rfl
 rw[hpos];refine zaj (if t.k=2 then 1 else 0) ?_ ?_
 ·by_cases h2:t.k=2
  ·rw[if_pos h2];exact zdr (by simp[h2]) rfl
  ·rw[if_neg h2];exact zdh (by simp;omega) rfl
 ·generalize hb:(if t.k=2 then(1:Int) else 0)=b
  have hb1:0<=b/\ b<=1:=by rw[<-hb];split<;>omega
  refine zaj (b+zey t.l) ?_ ?_
  ·refine zii t.l.length (fun i=>(b+zey (t.l.take i),(i:Int))) (by simp[zey]) (fun i hi=> ?_) ?_ (by omega)
   ·refine zdr (by simpa using hi) (zf (by simp only;omega) (zj fun x1 e1=> ?_));simp only at e1;rw[zgu hi] at e1;have hm:x1∈t.l:=e1▸getElem_mem hi;have hx:=zcn hm;have q1:=z6g (t.l.take i);have q2:=zed (t.l.take i);have q3:=qfi x1;have q4:=zks x1;have q5:(t.l.take i).length<=t.l.length:=List.length_take_le' _ _;refine zf (by omega) (zj fun x2 e2=>zf (by simp only;omega) (zf (by simp only;omega) ?_));rw[qji _ _ hi,e1, <-e2];simp only[Int.add_assoc];rfl
   ·refine zdh (by simp) ?_;simp
  ·generalize hj:b+zey t.l=j
   have hj1:0<=j/\ j<=200000000:=by omega
   by_cases h5:t.k=5
   ·rw[if_pos h5];generalize hq:(if t.mx= -1 then max (max t.mn 0) 1 else max (max t.mn 0) t.mx)=q
    have hm:0<=min q 10001/\ min q 10001<=10001:=by
     have:0<=q:=by rw[<-hq];split<;>omega
     omega
    have hmul:0<=j*min q 10001/\ j*min q 10001<=200000000*10001:=⟨Int.mul_nonneg hj1.1 hm.1,Int.mul_le_mul hj1.2 hm.2 hm.1 (by omega)⟩;refine zaj (j*min q 10001) (zdr (by simp[h5]) (zaj q ?_ (zf (by omega) rfl))) rfl;by_cases hx:t.mx= -1
    ·rw[if_pos hx] at hq;exact zdr (by simp[hx]) (by rw[hq])
    ·rw[if_neg hx] at hq;exact zdh (by simpa using hx) (by rw[hq])
   ·rw[if_neg h5];exact zaj j (zdh (by simp;omega) rfl) rfl
theorem z7o: ∀(n:Nat) (t:Tr),(pre t).length<n->(pre t).length<=10000->Pure (ITP prog) prog 67 [.agg (Enc.cells t)] (.raw (.int .i64 (zlv t)))
 |0,t,h,_=>absurd h (Nat.not_lt_zero _)
 | n+1,t,h,hl=>by
  have hp:(pre t).length=1+(zbe t.l).length:=by rw[zea,length_cons];omega
  exact posn_sh 10002 (min n 10000) t _ (fun x hx=>z7o n x (by omega) (by omega)) (posn_eq (min n 10000) t hl (by omega) (by decide))
theorem k_posn (t:Tr)(h:(pre t).length<=10000):Pure (ITP prog) prog 67 [.agg (Enc.cells t)] (.raw (.int .i64 (zlv t))):=z7o 10001 t (by omega) h
variable {n:Nat} {c:Call} {y h1 h2:Operand} {k':IntKind} {j:Int}
def z0y (b n sz:Nat):AV:=match n with|0=> .list 0 [] .full|n+1=> .bsl b 0 (n+1) sz false
section
variable {α:Type}
theorem zge {e:List α} (h:e.isEmpty=true)(b sz:Nat):z0y b e.length sz= .list 0 [] .full:=by rw[List.isEmpty_iff.1 h];rfl
theorem zha {e:List α} (h:e.isEmpty=false)(b sz:Nat):z0y b e.length sz= .bsl b 0 e.length sz false:=by
 cases e with
 |nil=>cases h
 |cons x l=>rfl
theorem zmz {l:List α} (h:l.length=n)(hp:0<n)(b sz:Nat):AV.bsl b 0 n sz false=z0y b l.length sz:=by
 subst h;cases l with
 |nil=>exact absurd hp (Nat.lt_irrefl _)
 |cons x l=>rfl
theorem qlv {m b sz:Nat} {z:FZ} (h: ∀k,zid m z (.bsl b 0 (k+1) sz false)= .bsl b 0 (k+1) sz false):zid m z (z0y b n sz)=z0y b n sz:=by
 cases n with
 |zero=>rfl
 |succ n=>exact h n
theorem zvq {e:List α} (h:e.isEmpty=false):0<e.length:=by
 cases e with
 |nil=>cases h
 |cons x l=>simp
end
section
variable {α:Type} [Enc α] {P:Program} {ρ:Operand->AV} {U:St} {o:Oper}
theorem zqd {x:Operand} {t e:TypeId} {i:TypeInfo} {z:Value} {by':Nat} {r:List α} {st:Room} (hn:0<r.length/\ r.length*by'<=140737488355328)(ho:o.op= .call c)(hc:c.callee= .builtin .append)(ha:c.args.toList=[x,y])(ht:c.argTypes.toList=[t,t])
 (hx:ρ x= .list 0 [] .full) (hy:ρ y= .list r.length (Enc.cellsL r) st) (hu:P.underlying t=some (.slice e)) (hi:P.info? e=some i) (hz:i.zero=some z) (hsz:i.size=Enc.sz α) (hzs:z.cells.size=Enc.sz α) (hby:i.bytes=by'/\ 0<by'):
 zwb P ρ U o=some (.bsl U.boxes.length 0 r.length (Enc.sz α) false,{U with boxes:=U.boxes++[(e,Enc.cellsL r)]}):=by
 obtain⟨h1,h2⟩:=hn;have hp:=Enc.pos (α:=α);have hsrc:qdh P U (Enc.sz α) t t (ρ y)=some (r.length,Enc.cellsL r):=by rw[hy];exact zpw ⟨rfl,by rw[Enc.lenL],by omega⟩
 have hmax:r.length<=maxLen:=by
  unfold maxLen;have:r.length*1<=r.length*by':=Nat.mul_le_mul_left _ hby.2
  omega
 have h:=z8n (P:=P) (U:=U) ho hc ha ht hx hu hi hz hsz hsrc ⟨hp,hzs,h1⟩ ⟨by simp,by rw[zero_add];exact hmax,by rw[zero_add,hby.1];exact h2⟩;rw[h,zero_add,List.nil_append]
theorem z9q {x:Operand} {t e:TypeId} {i:TypeInfo} {z:Value} {s by':Nat} {l r:List α} {st:Room} (hn:n<=l.length/\ 0<r.length/\ (n+r.length)*by'<=140737488355328)(ho:o.op= .call c)(hc:c.callee= .builtin .append)(ha:c.args.toList=[x,y])(ht:c.argTypes.toList=[t,t])
 (hx:ρ x= .bsl s 0 n (Enc.sz α) true) (hy:ρ y= .list r.length (Enc.cellsL r) st) (hb:U.boxes[s]? =some (e,Enc.cellsL l)) (hu:P.underlying t=some (.slice e)) (hi:P.info? e=some i) (hz:i.zero=some z) (hsz:i.size=Enc.sz α) (hzs:z.cells.size=Enc.sz α) (hby:i.bytes=by'/\ 0<by'):
 zwb P ρ U o=some (.bsl U.boxes.length 0 (n+r.length) (Enc.sz α) false,{U with boxes:=U.boxes++[(e,Enc.cellsL (l.take n++r))]}):=by
 obtain⟨h1,h3,h4⟩:=hn;have hp:=Enc.pos (α:=α);have hsrc:qdh P U i.size t t (ρ y)=some (r.length,Enc.cellsL r):=by rw[hy];exact zpw ⟨rfl,by rw[Enc.lenL,hsz],by omega⟩
 have hmax:n+r.length<=maxLen:=by
  unfold maxLen;have:(n+r.length)*1<=(n+r.length)*by':=Nat.mul_le_mul_left _ hby.2
  omega
 have hle:0+n*Enc.sz α<=(Enc.cellsL l).length:=by rw[Enc.lenL,zero_add];exact Nat.mul_le_mul_right _ h1
 have hnn:zsu (.bsl s 0 n (Enc.sz α) true)=false:=rfl;have c1:0<i.size/\ z.cells.size=i.size/\ 0<r.length:=⟨by omega,by omega,h3⟩;have c2:Enc.sz α=i.size/\ n+r.length<=maxLen/\ (n+r.length)*i.bytes<=140737488355328/\ 0+n*Enc.sz α<=(Enc.cellsL l).length:=⟨hsz.symm,hmax,by rw[hby.1];exact h4,hle⟩;simp only[zwb,ho,hc,ha,ht,hx,hnn,Bool.false_eq_true,if_false,zpz,hu,hi,hz,hsrc,hb,if_pos c1,if_pos c2,if_true,List.drop_zero];rw[Enc.app,Enc.take]
theorem qpk {t e:TypeId} {x:Operand} {s:Nat} {f:Bool} {k:IntKind} (g:0<j/\ j<=n)(ho:o.op= .slice t x none (some h1) (some h2))(hx:ρ x= .bsl s 0 n (Enc.sz α) f)(hi:ρ h1= .raw (.int k j))(hi2:ρ h2= .raw (.int k' j))(hu:P.underlying t=some (.slice e))(hs:zcl P e=some (Enc.sz α)):
 qop P ρ U o=some (.bsl s 0 j.toNat (Enc.sz α) true):=by
 have h4:zek n none (some (.raw (.int k j))) (some (.raw (.int k' j)))=some (0,j.toNat,true):=by
  have c:0<=j/\ j<=(n:Int):=by omega
  have c2:0<=j/\ j<=((j.toNat:Nat):Int):=by omega
  have c3:(0<=j/\ j<=max j 0):=by omega
  simp only[zek,zim,if_pos c];first|rw[if_pos c]|skip
  simp[if_pos c3]
 have hlt:0<j.toNat:=by omega
 simp only[qop,ho,hx,hi,hi2,Option.map_some,Option.map_none,zlm,hu,hs,h4,if_true,if_pos hlt,zero_add,Nat.zero_mul,Nat.sub_zero];simp
theorem qgr {t e:TypeId} {x:Operand} {s:Nat} {f:Bool} {k:IntKind} (g:j=0)(ho:o.op= .slice t x none (some h1) (some h2))(hx:ρ x= .bsl s 0 n (Enc.sz α) f)(hi:ρ h1= .raw (.int k j))(hi2:ρ h2= .raw (.int k' j))(hu:P.underlying t=some (.slice e))(hs:zcl P e=some (Enc.sz α)):
 qop P ρ U o=some (.list 0 [] .full):=by
 subst g;have h4:zek n none (some (.raw (.int k 0))) (some (.raw (.int k' 0)))=some (0,0,true):=by
  have c:0<=(0:Int)/\ (0:Int)<=(n:Int):=by omega
  simp only[zek,zim,if_pos c];first|rw[if_pos c]|skip
  simp
 simp only[qop,ho,hx,hi,hi2,Option.map_some,Option.map_none,zlm,hu,hs,h4,if_true,Nat.lt_irrefl,if_false];simp
theorem q_bslLz {t e:TypeId} {x i:Operand} {s:Nat} {k:IntKind} (g:0<=j/\ j=n)(ho:o.op= .slice t x (some i) none none)(hx:ρ x= .bsl s 0 n (Enc.sz α) false)(hi:ρ i= .raw (.int k j))(hu:P.underlying t=some (.slice e))(hs:zcl P e=some (Enc.sz α)):
 qop P ρ U o=some (.list 0 [] .none):=by
 have h4:zek n (some (.raw (.int k j))) none none=some (j.toNat,n,false):=by
  have c:0<=j/\ j<=(n:Int):=by omega
  simp only[zek,zim,if_pos c]
 have hlt: ¬j.toNat<n:=by omega
 simp only[qop,ho,hx,hi,Option.map_some,Option.map_none,zlm,hu,hs,h4,if_true,if_neg hlt];simp
theorem q_idxBO {t e:TypeId} {x i:Operand} {s off:Nat} {f:Bool} {k:IntKind} (g:0<=j/\ j<n)(ho:o.op= .indexAddr t x i)(hx:ρ x= .bsl s (off*Enc.sz α) n (Enc.sz α) f)(hi:ρ i= .raw (.int k j))(hu:P.underlying t=some (.slice e))(hs:zcl P e=some (Enc.sz α)):
 qop P ρ U o=some (.ptr s (0+((off:Int)+j).toNat*Enc.sz α)):=by
 rw[z8u ho hx hi hu hs g];congr 2
 rw[show((off:Int)+j).toNat=off+j.toNat by omega,Nat.add_mul,zero_add]
end
section
variable {P:Program} {ρ:Operand->AV} {U:St} {o:Oper}
theorem q_max3 {x z:Operand} {k k'':IntKind} {m n r:Int} (ho:o.op= .call c)(hc:c.callee= .builtin .max)(ha:c.args= #[x,y,z])(hx:ρ x= .raw (.int k m))(hy:ρ y= .raw (.int k' n))(hz:ρ z= .raw (.int k'' r)):qop P ρ U o=some (.raw (.int k (max (max m n) r))):=by
 have e:(if n>m then n else m)=max m n:=by split<;>omega
 have e2:(if r>max m n then r else max m n)=max (max m n) r:=by split<;>omega
 simp[qop,zfz,ho,hc,ha,Op.operands,Call.operands,hx,hy,hz,zdq,execOp,zbw,resolve,invoke,builtin,Builtin.max_,Builtin.max2,val?,zof,zje,zjt,e,e2];simp[Pure.pure,Bind.bind,Sem.bind,val?,zof,zje,zjt,e,e2]
end
theorem pos_ofP {α:Type} {l:List α} (h:l.isEmpty=false):0<l.length:=by cases l with|nil=>cases h|cons=>simp
theorem wmp {k0:Nat} {S S':List AV} {U U':St} (m:List Bool)(n:Nat)(fs js:List Nat)(d:Nat)(hn:k0<=n)(hσ:zeo U U.lens.length n fs js d=U')(hok:zcx U n js=true:=by exact rfl)(h:fgM m (zx U.lens.length (kz U.boxes U.lens.length n fs js d) S)=S':=by
 try dsimp only[zau,zbo,List.foldl,List.set,bz,bzc,Nat.reduceMod,Nat.reduceDiv,Nat.reduceBEq,Nat.reduceAdd]
 repeat(first|exact zik|refine zfe rfl ?_|refine zfe (zah _ _ _ rfl) ?_|refine zfe (qlv (fun _=>rfl)) ?_|refine zfe (zah _ _ _ (zkr (Enc.cloL _))) ?_|refine zfe (zmz (by first|(simp;done)|(simp only[List.length_append,List.length_take];omega)) (by first|(simp;done)|exact pos_ofP (by assumption)) _ _) ?_|apply zvv)):Wk k0 S U S' U':=zqx m n fs js d hn hok h hσ
section
variable {IT:IterP} {P:Program} {W:Owed} {k0:Nat}
end
section
variable {α:Type} [Enc α] {P:Program} {ρ:Operand->AV} {U:St} {o:Oper}
end
theorem q_lenP {α:Type} [Enc α] {P:Program} {ρ:Operand->AV} {U:St} {o:Oper} {c:Call} {x:Operand} {t e:TypeId} {l:List α} {b sz:Nat} (ho:o.op= .call c)(hc:c.callee= .builtin .len)(ha:c.args.toList=[x])(ht:c.argTypes.toList=[t])(hx:ρ x=z0y b l.length sz)(hu:P.underlying t=some (.slice e)):
 qop P ρ U o=some (.raw (.int .i64 (l.length:Int))):=by
 cases l with
 | nil=>
  have hx:ρ x= .list 0 [] .full:=hx;simp[qop,ho,hc,ha,ht,hx,qdj,hu]
 | cons y l=>
  have hx:ρ x= .bsl b 0 (l.length+1) sz false:=hx;simp[qop,ho,hc,ha,ht,hx,qdj,hu]
theorem qee {α:Type} [Enc α] {l:List α} (h:0<l.length):zbn l.length (Enc.cellsL l)= .list l.length (Enc.cellsL l) (.own 0):=by
 unfold zbn;rw[if_neg (by omega)]
theorem q_idxO {α:Type} [Enc α] {P:Program} {ρ:Operand->AV} {U:St} {o:Oper} {t e:TypeId} {x i:Operand} {l:List α} {k:IntKind} {n:Int} (hb:0<=n/\ n<l.length)(ho:o.op= .indexAddr t x i)(hx:ρ x=zbn l.length (Enc.cellsL l))(hi:ρ i= .raw (.int k n))(hu:P.underlying t=some (.slice e))(hs:zcl P e=some (Enc.sz α)):
 qop P ρ U o=some (.iptr (Enc.cells (ix l n)++Enc.cellsL (l.drop (n.toNat+1)))):=qck hb ho (hx.trans (qee (by omega))) hi hu hs
theorem pos_of0 {α:Type} {l:List α} (h:((l.length:Int)==0)=false):0<l.length:=by
 have: ¬((l.length:Int)=0):=by simpa using h
 omega
def lbU (n:Nat):List UInt8:=(zxk (n%12)).map UInt8.ofNat
def clsU (l:List UInt8):Tr:=z8g (l.map UInt8.toNat)
def clsA:List (List UInt8):=[[97],[98],[97,98],[99],[97,98,99],[98,99],[10],[0,255],[]]
theorem qhf: ∀n:Nat,n<256->lbU n∈clsA/\ bsOf ((lbU n).map UInt8.toNat)=bsOf (zxk (n%12)):=by decide+kernel
theorem clsU_lb (n:Nat)(h:n<256):clsU (lbU n)=z8g (zxk (n%12)):=by rw[clsU,z8g,(qhf n h).2];rfl
noncomputable def run1 (f:Nat)(args:List AV)(r:AV):Bool:=match zlo prog noP (evQ true prog noP noS 300) f args with
 |some x=>z5q x r
 |none=>false
theorem z0i {f:Nat} {args:List AV} {r:AV} (h:run1 f args r=true):Pure (ITP prog) prog f args r:=by
 unfold run1 at h;split at h
 ·rename_i x hx;rw[qeo _ _ h] at hx;exact zde true goodN 300 hx
 ·cases h
theorem let_tab:((List.range 256).all fun n=>run1 27 [.raw (.int .u8 (n:Int))] (.raw (.string (bs (lbU n)))))=true:=by kernel_rfl
theorem qij (n:Int)(h:0<=n/\ n<256):Pure (ITP prog) prog 27 [.raw (.int .u8 n)] (.raw (.string (bs (lbU n.toNat)))):=by
 obtain⟨m,rfl⟩: ∃m:Nat,n=m:=⟨n.toNat,by omega⟩;rw[Int.toNat_natCast];exact z0i (all_eq_true.1 let_tab m (mem_range.2 (by omega)))
theorem cls_tab:(clsA.all fun l=>run1 26 [.raw (.string (bs l))] (.agg (Enc.cells (clsU l))))=true:=by kernel_rfl
theorem zuq (l:List UInt8)(h:l∈clsA):Pure (ITP prog) prog 26 [.raw (.string (bs l))] (.agg (Enc.cells (clsU l))):=z0i (all_eq_true.1 cls_tab l h)
end Go.Ab
namespace Go.Ab
open Go Go.RowKit Go.Fwd
section
variable {P:Program} {ρ:Operand->AV} {U:St} {o:Oper}
theorem zeu {x:Operand} {t:TypeId} {l:List UInt8} (ho:o.op= .call ⟨.builtin .len, #[x], #[t]⟩)(hx:ρ x= .raw (.string (bs l)))(hu:P.underlying t=some .string):qop P ρ U o=some (.raw (.int .i64 (l.length:Int))):=by
 have h2:qdj P t (.raw (.string (bs l)))=none:=rfl;have h1:o.op.operands.toList.all (fun x=>(zdq (ρ x)).isSome)=true:=by rw[ho];simp[Op.operands,Call.operands,hx,zdq]
 have h3:val? P (execOp (zbw ρ) o)=some (.value (.int .i64 (l.length:Int))):=by
  have hsz:(bs l).size=l.length:=rfl;simp[execOp,ho,resolve,invoke,zbw,hx,zdq,builtin,Builtin.len_,underlying,goInt,hsz];simp only[program,Bind.bind,Pure.pure,Functor.map,Sem.bind,val?,hu,hsz];rfl
 have h4:zfz P ρ o=some (.raw (.int .i64 (l.length:Int))):=by
  unfold zfz;rw[if_pos h1,ho,h3];rfl
 simp only[qop,ho,hx,h2,h4]
end
theorem bs_beq (a b:List UInt8):((bs a).toList==(bs b).toList)=decide (a=b):=by
 rw[ByteArray.toList_eq,ByteArray.toList_eq]
 show((a.toArray.toList)==(b.toArray.toList))=_
 by_cases h:a=b<;>simp[h]
section
variable {P:Program} {ρ:Operand->AV} {U:St} {o:Oper}
theorem bs_app (a b:List UInt8):bs a++bs b=bs (a++b):=by
 apply ByteArray.ext
 show(bs a++bs b).data=_
 rw[ByteArray.data_append];simp[bs]
theorem qjc {t:TypeId} {x y:Operand} {c} {a b:List UInt8} (ho:o.op= .binOp .eql t x y c)(hx:ρ x= .raw (.string (bs a)))(hy:ρ y= .raw (.string (bs b))):qop P ρ U o=some (.raw (.bool (a==b))):=by
 have hst:(a==b)=decide (a=b):=by by_cases h:a=b<;>simp[h]
 have h3:val? P (execOp (zbw ρ) o)=some (.value (.bool (a==b))):=by
  rw[hst, <-bs_beq];simp[execOp,ho,zbw,hx,hy,zdq,eqGuard,binOp,Op.stringOp];rfl
 have h1:o.op.operands.toList.all (fun x=>(zdq (ρ x)).isSome)=true:=by rw[ho];simp[Op.operands,hx,hy,zdq]
 have h4:zfz P ρ o=some (.raw (.bool (a==b))):=by
  unfold zfz;rw[if_pos h1,ho,h3];rfl
 simp only[qop,ho,hx,hy,h4]
end
end Go.Ab
namespace Go.Ab
open Go Go.RowKit Go.Fwd Go.Proofs
variable {ρ:Operand->AV} {U:St} {o:Oper}
theorem zcs {P:Program} {t:TypeId} {x y:Operand} {c} {a b:List UInt8} (g:a.length+b.length<=9223372036854775807)(ho:o.op= .binOp .add t x y c)(hx:ρ x= .raw (.string (bs a)))(hy:ρ y= .raw (.string (bs b))):qop P ρ U o=some (.raw (.string (bs (a++b)))):=by
 have hs: ¬((((bs a).size+(bs b).size:Nat):Int)>IntKind.i64.max):=by
  have h1:(bs a).size=a.length:=rfl;have h2:(bs b).size=b.length:=rfl;have h3:IntKind.i64.max=9223372036854775807:=rfl;rw[h1,h2,h3];omega
 have h3:val? P (execOp (zbw ρ) o)=some (.value (.string (bs (a++b)))):=by
  rw[<-bs_app];simp only[execOp,ho,zbw,hx,hy,zdq,eqGuard,binOp,Op.stringOp,Option.getD_some];simp only[if_neg hs];rfl
 have h1:o.op.operands.toList.all (fun x=>(zdq (ρ x)).isSome)=true:=by rw[ho];simp[Op.operands,hx,hy,zdq]
 have h4:zfz P ρ o=some (.raw (.string (bs (a++b)))):=by
  unfold zfz;rw[if_pos h1,ho,h3];rfl
 simp only[qop,ho,hx,hy,h4]
theorem qmo {x:Operand} {b:Nat} {tt:TypeId} {i:Int} (t:Tr)(hi:0<=i/\ i<4)(ho:o.op= .load 24 x)(hx:ρ x= .ptr b (1+i.toNat*1))(hb:U.boxes[b]? =some (tt,Enc.cells t)):qop prog ρ U o=some (.raw (.int .u64 (wd t.s i.toNat))):=by
 have key: ∀j:Nat,j<4->rd prog 24 ((Enc.cells t).drop (1+j*1))=some (.raw (.int .u64 (wd t.s j))):=by
  intro j hj;obtain⟨k,s,mn,mx,l⟩:=t
  match j,hj with
  |0,_=>rfl
  |1,_=>rfl
  |2,_=>rfl
  |3,_=>rfl
 simp only[qop,ho,zlu,hx,hb];exact key i.toNat (by omega)
def hexD (n:Nat):UInt8:=UInt8.ofNat (if n<10 then 48+n else 87+n)
def hexS (n:Nat):List UInt8:=[92,120,hexD (n/16),hexD (n%16)]
def zhc (n:Nat):List UInt8:=if n<10 then[UInt8.ofNat (48+n)] else[49,UInt8.ofNat (38+n)]
theorem hex_tab:((List.range 256).all fun n=>run1 31 [.raw (.int .u8 (n:Int))] (.raw (.string (bs (hexS n)))))=true:=by kernel_rfl
theorem k_hex (c:Int)(h:0<=c/\ c<256):Pure (ITP prog) prog 31 [.raw (.int .u8 c)] (.raw (.string (bs (hexS (toNat c))))):=by
 have:=z0i (all_eq_true.1 hex_tab c.toNat (mem_range.2 (by omega)));rwa[Int.toNat_of_nonneg h.1] at this
theorem qnn:((List.range 20).all fun n=>run1 22 [.raw (.int .i64 (n:Int))] (.raw (.string (bs (zhc n)))))=true:=by kernel_rfl
theorem qqh (c:Int)(h:0<=c/\ c<20):Pure (ITP prog) prog 22 [.raw (.int .i64 c)] (.raw (.string (bs (zhc (toNat c))))):=by
 have:=z0i (all_eq_true.1 qnn c.toNat (mem_range.2 (by omega)));rwa[Int.toNat_of_nonneg h.1] at this
def zfm (s:BS):List Nat:=(List.range 256).filter fun i=>s.getLsbD i
mutual
def zds:Tr->List UInt8
 | .mk k s mn mx l=>
  if k=2 then[91]++(zfm s).flatMap hexS++[93]
  else if k=3 then zov l
  else if k=4 then zla true l
  else if k=6 then[40]++qcy l++[41]
  else if k=5 then[40,63,58]++qcy l++[41,123]++zhc mn.toNat++[44]++(if mx= -1 then[] else zhc mx.toNat)++[125]
  else[]
def zov:List Tr->List UInt8
 |[]=>[]
 |x::l=>[40,63,58]++zds x++[41]++zov l
def zla:Bool->List Tr->List UInt8
 |_,[]=>[]
 |b,x::l=>(if b=true then[] else[124])++[40,63,58]++zds x++[41]++zla false l
def qcy:List Tr->List UInt8
 |[]=>[]
 |x::_=>zds x
end
def SY (t:Tr):Prop:=(∀x∈pre t,(x.k=5->(0<=x.mn/\ x.mn<20)/\ (x.mx= -1 \/0<=x.mx/\ x.mx<20))/\ (x.k=5 \/x.k=6->x.l≠[]))/\ (zds t).length<=2^40
instance (t:Tr):Decidable (SY t):=by unfold SY;infer_instance
end Go.Ab
namespace Go.Ab
open Go Go.RowKit Go.Fwd Go.Proofs
def z7s (fuel:Nat)(n:Nat)(t:Tr):Option (List UInt8):=
 (zct (τ:=(List UInt8)) (bif (((t.k:Nat):Int)==2) then(zct (τ:=(List UInt8)) (zav (β:=(List UInt8)×Int) (fun s1=>(bif (decide (s1.2<256)) then(zct (τ:=(List UInt8)) (chk (0<=(IntKind.i64.wrap (tdiv s1.2 64))/\ (IntKind.i64.wrap (tdiv s1.2 64))<4) (chk (0<=(tmod s1.2 64)) (bif ((zly .u64 (zga .u64 (wd t.s (toNat (IntKind.i64.wrap (tdiv s1.2 64)))) (tmod s1.2 64)) 1)==1) then(chk (0<=(IntKind.u8.wrap s1.2)/\ (IntKind.u8.wrap s1.2)<256) (zay (hexS (toNat (IntKind.u8.wrap s1.2))) (fun x1=>(chk (length s1.1+length x1<=9223372036854775807) (some (inl ((s1.1++x1)))))))) else(some (inl (s1.1)))))) (fun j3=>(chk (-9223372036854775808<=(s1.2+1)/\ (s1.2+1)<9223372036854775808) (some (inl (j3,(s1.2+1))))))) else(some (inr (inl (s1.1)))))) fuel (([]:List UInt8),0)) (fun j2=>(chk (length ([91]:List UInt8)+length j2<=9223372036854775807) (chk (length (([91]:List UInt8)++j2)+length ([93]:List UInt8)<=9223372036854775807) (some (inr ((([91]:List UInt8)++j2)++([93]:List UInt8)))))))) else(bif (((t.k:Nat):Int)==3) then(zav (β:=(List UInt8)×Int) (fun s2=>(bif (decide (s2.2<(length t.l:Int))) then(chk (0<=s2.2/\ s2.2<(length t.l:Int)) (zay (ix t.l s2.2) (fun x2=>(chk ((pre x2).length<n/\ SY x2) (zay (zds x2) (fun x3=>(chk (length ([40,63,58]:List UInt8)+length x3<=9223372036854775807) (chk (length (([40,63,58]:List UInt8)++x3)+length ([41]:List UInt8)<=9223372036854775807) (chk (length s2.1+length ((([40,63,58]:List UInt8)++x3)++([41]:List UInt8))<=9223372036854775807) (chk (-9223372036854775808<=(s2.2+1)/\ (s2.2+1)<9223372036854775808) (some (inl ((s2.1++((([40,63,58]:List UInt8)++x3)++([41]:List UInt8))),(s2.2+1)))))))))))))) else(some (inr (inl (s2.1)))))) fuel (([]:List UInt8),0)) else(bif (((t.k:Nat):Int)==4) then(zav (β:=(List UInt8)×Int) (fun s3=>(bif (decide (s3.2<(length t.l:Int))) then(chk (0<=s3.2/\ s3.2<(length t.l:Int)) (zay (ix t.l s3.2) (fun x4=>(zct (τ:=(List UInt8)) (bif (decide (s3.2>0)) then(chk (length s3.1+length ([124]:List UInt8)<=9223372036854775807) (some (inl ((s3.1++([124]:List UInt8)))))) else(some (inl (s3.1)))) (fun j4=>(chk ((pre x4).length<n/\ SY x4) (zay (zds x4) (fun x5=>(chk (length ([40,63,58]:List UInt8)+length x5<=9223372036854775807) (chk (length (([40,63,58]:List UInt8)++x5)+length ([41]:List UInt8)<=9223372036854775807) (chk (length j4+length ((([40,63,58]:List UInt8)++x5)++([41]:List UInt8))<=9223372036854775807) (chk (-9223372036854775808<=(s3.2+1)/\ (s3.2+1)<9223372036854775808) (some (inl ((j4++((([40,63,58]:List UInt8)++x5)++([41]:List UInt8))),(s3.2+1)))))))))))))))) else(some (inr (inl (s3.1)))))) fuel (([]:List UInt8),0)) else(bif (((t.k:Nat):Int)==6) then(chk (0<=(0:Int)/\ (0:Int)<(length t.l:Int)) (zay (ix t.l (0:Int)) (fun x6=>(chk ((pre x6).length<n/\ SY x6) (zay (zds x6) (fun x7=>(chk (length ([40]:List UInt8)+length x7<=9223372036854775807) (chk (length (([40]:List UInt8)++x7)+length ([41]:List UInt8)<=9223372036854775807) (some (inr ((([40]:List UInt8)++x7)++([41]:List UInt8)))))))))))) else(bif (((t.k:Nat):Int)==5) then(chk (0<=(0:Int)/\ (0:Int)<(length t.l:Int)) (zay (ix t.l (0:Int)) (fun x8=>(chk ((pre x8).length<n/\ SY x8) (zay (zds x8) (fun x9=>(chk (length ([40,63,58]:List UInt8)+length x9<=9223372036854775807) (chk (length (([40,63,58]:List UInt8)++x9)+length ([41,123]:List UInt8)<=9223372036854775807) (chk (0<=t.mn/\ t.mn<20) (zay (zhc (toNat t.mn)) (fun x10=>(chk (length ((([40,63,58]:List UInt8)++x9)++([41,123]:List UInt8))+length x10<=9223372036854775807) (chk (length (((([40,63,58]:List UInt8)++x9)++([41,123]:List UInt8))++x10)+length ([44]:List UInt8)<=9223372036854775807) (zct (τ:=(List UInt8)) (bif (t.mx !=(-1)) then(chk (0<=t.mx/\ t.mx<20) (zay (zhc (toNat t.mx)) (fun x11=>(chk (length ((((([40,63,58]:List UInt8)++x9)++([41,123]:List UInt8))++x10)++([44]:List UInt8))+length x11<=9223372036854775807) (some (inl ((((((([40,63,58]:List UInt8)++x9)++([41,123]:List UInt8))++x10)++([44]:List UInt8))++x11)))))))) else(some (inl (((((([40,63,58]:List UInt8)++x9)++([41,123]:List UInt8))++x10)++([44]:List UInt8)))))) (fun j5=>(chk (length j5+length ([125]:List UInt8)<=9223372036854775807) (some (inr (j5++([125]:List UInt8)))))))))))))))))))) else(some (inl (([]:List UInt8))))))))) (fun j1=>(some j1)))
theorem ent10:Ent prog 10:=enters_of Tryz.func10 (by kernel_rfl) rfl
theorem say1_sh (fuel:Nat)(n:Nat)(t:Tr)(r:(List UInt8))(ih: ∀x:Tr,(pre x).length<n/\ SY x->Pure (ITP prog) prog 10 [.A x] (.raw (.string (bs (zds x)))))(h:z7s fuel n t=some r):Pure (ITP prog) prog 10 [.A (t:Tr)] (.raw (.string (bs r))):=by
 unfold z7s at h;refine zbg 105 mix Tryz.func10 ent10 ?_;refine zi (zb ?_);refine zda (Enc.cells (t:Tr)) ?_;refine w_o (a:= .s ([]:List UInt8)) ?_;refine zae [.v (.s ([]:List UInt8))] ?_;refine zal h (bz 0 106 81129638414606681695789005144063) (fun j1=>[(3,.s j1)]) (fun j1=>(.B [(29,(Enc.cells (t:Tr)))])) ?_ ?_;intro or1 h hr1;refine zae [.v (.ptr 0 0),.v (.u ((t.k:Nat):Int))] ?_;refine zt ?_;refine zae [.v (.b (((t.k:Nat):Int)==2)),.m _] ?_;refine zbr h (fun hc1 h=> ?_) (fun hc1 h=> ?_);refine zal h (bz 0 106 81129638414606681695789005144063) (fun j2=>[(3,.s j2)]) (fun j2=>(.B [(29,(Enc.cells (t:Tr)))])) ?_ ?_;intro or2 h hr2;refine zae [.v (.i 0)] ?_;refine zt ?_;refine zcf h (bz 0 106 81129638414606681695789005144061) (fun s1=>[(3,.s s1.1),(13,.i s1.2)]) (fun s1=>(.B [(29,(Enc.cells (t:Tr)))])) ?_ ?_;exact zaz (bl 106 8202);intro s1 p1 h;refine zdf ?_;refine zae [.v (.b (decide (s1.2<256)))] ?_;refine zi ?_;refine zbr h (fun hc2 h=> ?_) (fun hc2 h=> ?_);refine zal h (bz 0 31 2147467288) (fun j3=>[(3,.s j3)]) (fun j3=>(.B [(29,(Enc.cells (t:Tr)))])) ?_ ?_;intro or3 h hr3;refine zt ?_;refine zae [.m _,.m _] ?_;refine zae [.m _,.v (.i (IntKind.i64.wrap (tdiv s1.2 64))),.v (.ptr 0 1)] ?_;obtain⟨g1,h⟩:=ze h;refine w_o (a:= .ptr 0 (1+toNat (IntKind.i64.wrap (tdiv s1.2 64))*1)) (h:=zba (zsk g1 rfl rfl rfl rfl rfl)) ?_;refine w_o (a:= .raw (.int .u64 (wd t.s (toNat (IntKind.i64.wrap (tdiv s1.2 64)))))) (h:=zba (qmo t (by omega) rfl rfl rfl)) ?_;refine w_r [.m _,.v (.i (tmod s1.2 64))] ?_;obtain⟨g2,h⟩:=ze h;refine w_o (a:= .raw (.int .u64 (zga .u64 (wd t.s (toNat (IntKind.i64.wrap (tdiv s1.2 64)))) (tmod s1.2 64)))) (h:=zba (qdu g2 rfl rfl rfl)) ?_;refine w_r [.v (.raw (.int .u64 (zly .u64 (zga .u64 (wd t.s (toNat (IntKind.i64.wrap (tdiv s1.2 64)))) (tmod s1.2 64)) 1))),.v (.b ((zly .u64 (zga .u64 (wd t.s (toNat (IntKind.i64.wrap (tdiv s1.2 64)))) (tmod s1.2 64)) 1)==1))] ?_;refine zbr h (fun hc3 h=> ?_) (fun hc3 h=> ?_);refine zb (k0:=0) (id:=8) ?_;refine w_r [.m _,.m _,.v (.u (IntKind.u8.wrap s1.2))] ?_;obtain⟨g3,h⟩:=ze h;obtain⟨x1,hx1,h⟩:=zh h;refine zcp (args':=[.u (IntKind.u8.wrap s1.2)]) (r:= .s x1) (by rw[<-hx1];exact(k_hex (IntKind.u8.wrap s1.2) g3)) ?_;obtain⟨g4,h⟩:=ze h;refine w_o (a:= .s (s1.1++x1)) (h:=zba (zcs g4 rfl rfl rfl)) ?_;refine zao ?_;refine zc (o:=or3) ((s1.1++x1)) h ?_;exact zaz (bl 106 81129638414606681695786857676783);refine zc (o:=or3) (s1.1) h ?_;exact zaz (bl 106 81129638414606681695786857676783);intro j3 h;refine zdf ?_;refine zb (k0:=0) (id:=9) ?_;obtain⟨g5,h⟩:=ze h;refine zhd g5 ?_;refine zao ?_;refine zbb (p:=p1) (j3,(s1.2+1)) h ?_;exact zaz (bl 106 8202);refine zy h (fun h=> ?_);refine zc (o:=or2) (s1.1) h ?_;exact zaz (bl 106 8);intro j2 h;refine zdf ?_;refine zae [.m _] ?_;obtain⟨g6,h⟩:=ze h;refine w_o (a:= .s (([91]:List UInt8)++j2)) (h:=zba (zcs g6 rfl rfl rfl)) ?_;obtain⟨g7,h⟩:=ze h;refine w_o (a:= .s ((([91]:List UInt8)++j2)++([93]:List UInt8))) (h:=zba (zcs g7 rfl rfl rfl)) ?_;refine zao ?_;replace h:=zax h hr1;exact qnj h;refine zae [.v (.b (((t.k:Nat):Int)==3)),.m _] ?_;refine zbr h (fun hc4 h=> ?_) (fun hc4 h=> ?_);refine zae [.v (.ptr 0 7),.v (.L (t.l:List Tr)),.v (.i (length t.l:Int)),.v (.i 0)] ?_;refine zt ?_;refine zcf h (bz 0 106 81129638414606681694964371423231) (fun s2=>[(3,.s s2.1),(40,.i s2.2)]) (fun s2=>(.B [(29,(Enc.cells (t:Tr)))])) ?_ ?_;exact zaz (bl 106 1924145348616);intro s2 p2 h;refine zdf ?_;refine zae [.v (.b (decide (s2.2<(length t.l:Int))))] ?_;refine zi ?_;refine zbr h (fun hc5 h=> ?_) (fun hc5 h=> ?_);refine zi ?_;refine zt ?_;refine zi (zb ?_);obtain⟨g8,h⟩:=ze h;obtain⟨x2,hx2,h⟩:=zh h;refine z4t hx2 g8 ?_;refine w_o (a:= .A (x2:Tr)) ?_;refine zda zN ?_;refine zeq 8 (Enc.cells (x2:Tr)) ?_;refine zb (k0:=0) (id:=15) ?_;refine w_r [.m _,.v (.A (x2:Tr))] ?_;obtain⟨g9,h⟩:=ze h;obtain⟨x3,hx3,h⟩:=zh h;refine zcp (args':=[.A (x2:Tr)]) (r:= .s x3) (by rw[<-hx3];exact(ih x2 g9)) ?_;obtain⟨g10,h⟩:=ze h;refine w_o (a:= .s (([40,63,58]:List UInt8)++x3)) (h:=zba (zcs g10 rfl rfl rfl)) ?_;obtain⟨g11,h⟩:=ze h;refine w_o (a:= .s ((([40,63,58]:List UInt8)++x3)++([41]:List UInt8))) (h:=zba (zcs g11 rfl rfl rfl)) ?_;obtain⟨g12,h⟩:=ze h;refine w_o (a:= .s (s2.1++((([40,63,58]:List UInt8)++x3)++([41]:List UInt8)))) (h:=zba (zcs g12 rfl rfl rfl)) ?_;refine zao ?_;refine zb (k0:=0) (id:=16) ?_;obtain⟨g13,h⟩:=ze h;refine zhd g13 ?_;refine zao ?_;refine zbb (p:=p2) ((s2.1++((([40,63,58]:List UInt8)++x3)++([41]:List UInt8))),(s2.2+1)) h ?_;exact zdj (bl 106 1924145348616) 1 (by kernel_rfl) (le_of_ble_eq_true rfl) (zbs (zz (zo _ _ (Enc.clo _)) rfl)) (by dsimp only[zau,zbo,foldl,List.set,bz,bzc,Nat.reduceMod,Nat.reduceDiv,Nat.reduceBEq,Nat.reduceAdd];exact(za rfl (za rfl (za rfl (za rfl (za rfl (za rfl (za rfl (za rfl (za rfl (za rfl (za rfl (za rfl (za rfl (za rfl (za rfl (za rfl (za rfl (za rfl (za rfl (za rfl (za rfl (za rfl (za rfl (za rfl (za rfl (za rfl (za rfl (za rfl (za rfl (za rfl (za rfl (za rfl (za rfl (za rfl (za rfl (za rfl (za rfl (za rfl (za (zbj (Enc.cloL _)) (by kernel_rfl))))))))))))))))))))))))))))))))))))))))) (by kernel_rfl);refine zy h (fun h=> ?_);refine zc (o:=or1) (s2.1) h ?_;exact zaz (bl 106 8);refine zae [.v (.b (((t.k:Nat):Int)==4)),.m _] ?_;refine zbr h (fun hc6 h=> ?_) (fun hc6 h=> ?_);refine zae [.v (.ptr 0 7),.v (.L (t.l:List Tr)),.v (.i (length t.l:Int)),.v (.i 0)] ?_;refine zt ?_;refine zcf h (bz 0 106 81129638414606627652593476698111) (fun s3=>[(3,.s s3.1),(56,.i s3.2)]) (fun s3=>(.B [(29,(Enc.cells (t:Tr)))])) ?_ ?_;exact zaz (bl 106 126100789566373896);intro s3 p3 h;refine zdf ?_;refine zae [.v (.b (decide (s3.2<(length t.l:Int))))] ?_;refine zi ?_;refine zbr h (fun hc7 h=> ?_) (fun hc7 h=> ?_);refine zi ?_;refine zt ?_;refine zae [.m _] ?_;obtain⟨g14,h⟩:=ze h;obtain⟨x4,hx4,h⟩:=zh h;refine z4t hx4 g14 ?_;refine w_o (a:= .A (x4:Tr)) ?_;refine zda zN ?_;refine zao ?_;refine zeq 8 (Enc.cells (x4:Tr)) ?_;refine zal h (bz 0 65 36749372959343247496) (fun j4=>[(3,.s j4)]) (fun j4=>(.B [(29,(Enc.cells (t:Tr))),(29,(Enc.cells (x4:Tr)))])) ?_ ?_;intro or4 h hr4;refine zae [.m _,.v (.b (decide (s3.2>0)))] ?_;refine zbr h (fun hc8 h=> ?_) (fun hc8 h=> ?_);refine zb (k0:=0) (id:=22) ?_;refine zao ?_;obtain⟨g15,h⟩:=ze h;refine w_o (a:= .s (s3.1++([124]:List UInt8))) (h:=zba (zcs g15 rfl rfl rfl)) ?_;refine zao ?_;refine zc (o:=or4) ((s3.1++([124]:List UInt8))) h ?_;exact zaz (bl 106 81129638414569932322829661896575);refine zc (o:=or4) (s3.1) h ?_;exact zaz (bl 106 81129638414569932322829661896575);intro j4 h;refine zdf ?_;refine zb (k0:=0) (id:=23) ?_;refine w_r [.m _,.v (.A (x4:Tr))] ?_;obtain⟨g16,h⟩:=ze h;obtain⟨x5,hx5,h⟩:=zh h;refine zcp (args':=[.A (x4:Tr)]) (r:= .s x5) (by rw[<-hx5];exact(ih x4 g16)) ?_;obtain⟨g17,h⟩:=ze h;refine w_o (a:= .s (([40,63,58]:List UInt8)++x5)) (h:=zba (zcs g17 rfl rfl rfl)) ?_;obtain⟨g18,h⟩:=ze h;refine w_o (a:= .s ((([40,63,58]:List UInt8)++x5)++([41]:List UInt8))) (h:=zba (zcs g18 rfl rfl rfl)) ?_;obtain⟨g19,h⟩:=ze h;refine w_o (a:= .s (j4++((([40,63,58]:List UInt8)++x5)++([41]:List UInt8)))) (h:=zba (zcs g19 rfl rfl rfl)) ?_;refine zao ?_;refine zb (k0:=0) (id:=24) ?_;obtain⟨g20,h⟩:=ze h;refine zhd g20 ?_;refine zao ?_;refine zbb (p:=p3) ((j4++((([40,63,58]:List UInt8)++x5)++([41]:List UInt8))),(s3.2+1)) h ?_;exact zdj (bl 106 126100789566373896) 1 (by kernel_rfl) (le_of_ble_eq_true rfl) (zbs (zz (zo _ _ (Enc.clo _)) rfl)) (by dsimp only[zau,zbo,foldl,List.set,bz,bzc,Nat.reduceMod,Nat.reduceDiv,Nat.reduceBEq,Nat.reduceAdd];exact(za rfl (za rfl (za rfl (za rfl (za rfl (za rfl (za rfl (za rfl (za rfl (za rfl (za rfl (za rfl (za rfl (za rfl (za rfl (za rfl (za rfl (za rfl (za rfl (za rfl (za rfl (za rfl (za rfl (za rfl (za rfl (za rfl (za rfl (za rfl (za rfl (za rfl (za rfl (za rfl (za rfl (za rfl (za rfl (za rfl (za rfl (za rfl (za rfl (za rfl (za rfl (za rfl (za rfl (za rfl (za rfl (za rfl (za rfl (za rfl (za rfl (za rfl (za rfl (za rfl (za rfl (za rfl (za (zbj (Enc.cloL _)) (by kernel_rfl))))))))))))))))))))))))))))))))))))))))))))))))))))))))) (by kernel_rfl);refine zy h (fun h=> ?_);refine zc (o:=or1) (s3.1) h ?_;exact zaz (bl 106 8);refine zae [.v (.b (((t.k:Nat):Int)==6)),.m _] ?_;refine zbr h (fun hc9 h=> ?_) (fun hc9 h=> ?_);refine zae [.v (.ptr 0 7),.v (.L (t.l:List Tr))] ?_;obtain⟨g21,h⟩:=ze h;obtain⟨x6,hx6,h⟩:=zh h;refine z4t hx6 g21 ?_;refine w_o (a:= .A (x6:Tr)) ?_;obtain⟨g22,h⟩:=ze h;obtain⟨x7,hx7,h⟩:=zh h;refine zcp (args':=[.A (x6:Tr)]) (r:= .s x7) (by rw[<-hx7];exact(ih x6 g22)) ?_;obtain⟨g23,h⟩:=ze h;refine w_o (a:= .s (([40]:List UInt8)++x7)) (h:=zba (zcs g23 rfl rfl rfl)) ?_;obtain⟨g24,h⟩:=ze h;refine w_o (a:= .s ((([40]:List UInt8)++x7)++([41]:List UInt8))) (h:=zba (zcs g24 rfl rfl rfl)) ?_;refine zao ?_;replace h:=zax h hr1;exact qnj h;refine zae [.v (.b (((t.k:Nat):Int)==5)),.m _] ?_;refine zbr h (fun hc10 h=> ?_) (fun hc10 h=> ?_);refine zi ?_;refine zhg (k0:=0) (id:=28) 10 (by kernel_rfl) (by kernel_rfl) ?_;refine h_o (a:= .ptr 0 7) ?_;refine h_o (a:= .L (t.l:List Tr)) ?_;obtain⟨g25,h⟩:=ze h;obtain⟨x8,hx8,h⟩:=zh h;refine h_ix hx8 g25 ?_;refine h_o (a:= .A (x8:Tr)) ?_;obtain⟨g26,h⟩:=ze h;obtain⟨x9,hx9,h⟩:=zh h;refine qcb (args':=[.A (x8:Tr)]) (r:= .s x9) (by rw[<-hx9];exact(ih x8 g26)) ?_;obtain⟨g27,h⟩:=ze h;refine h_o (a:= .s (([40,63,58]:List UInt8)++x9)) (h:=zcs g27 rfl rfl rfl) ?_;obtain⟨g28,h⟩:=ze h;refine h_o (a:= .s ((([40,63,58]:List UInt8)++x9)++([41,123]:List UInt8))) (h:=zcs g28 rfl rfl rfl) ?_;refine h_o (a:= .ptr 0 5) ?_;refine h_o (a:= .i t.mn) ?_;obtain⟨g29,h⟩:=ze h;obtain⟨x10,hx10,h⟩:=zh h;refine qcb (args':=[.i t.mn]) (r:= .s x10) (by rw[<-hx10];exact(qqh t.mn g29)) ?_;refine ziw ?_;obtain⟨g30,h⟩:=ze h;refine w_o (a:= .s (((([40,63,58]:List UInt8)++x9)++([41,123]:List UInt8))++x10)) (h:=zba (zcs g30 rfl rfl rfl)) ?_;obtain⟨g31,h⟩:=ze h;refine w_o (a:= .s ((((([40,63,58]:List UInt8)++x9)++([41,123]:List UInt8))++x10)++([44]:List UInt8))) (h:=zba (zcs g31 rfl rfl rfl)) ?_;refine zao ?_;refine zal h (bz 0 106 81129638414606681695789005144063) (fun j5=>[(3,.s j5)]) (fun j5=>(.B [(29,(Enc.cells (t:Tr)))])) ?_ ?_;intro or5 h hr5;refine zae [.v (.ptr 0 6),.v (.i t.mx),.v (.b (t.mx !=(-1)))] ?_;refine zbr h (fun hc11 h=> ?_) (fun hc11 h=> ?_);refine zb (k0:=0) (id:=30) ?_;refine w_r [.m _,.v (.ptr 0 6),.v (.i t.mx)] ?_;obtain⟨g32,h⟩:=ze h;obtain⟨x11,hx11,h⟩:=zh h;refine zcp (args':=[.i t.mx]) (r:= .s x11) (by rw[<-hx11];exact(qqh t.mx g32)) ?_;obtain⟨g33,h⟩:=ze h;refine w_o (a:= .s (((((([40,63,58]:List UInt8)++x9)++([41,123]:List UInt8))++x10)++([44]:List UInt8))++x11)) (h:=zba (zcs g33 rfl rfl rfl)) ?_;refine zao ?_;refine zc (o:=or5) ((((((([40,63,58]:List UInt8)++x9)++([41,123]:List UInt8))++x10)++([44]:List UInt8))++x11)) h ?_;exact zaz (bl 106 8);refine zc (o:=or5) (((((([40,63,58]:List UInt8)++x9)++([41,123]:List UInt8))++x10)++([44]:List UInt8))) h ?_;exact zaz (bl 106 8);intro j5 h;refine zdf ?_;refine zae [.m _] ?_;obtain⟨g34,h⟩:=ze h;refine w_o (a:= .s (j5++([125]:List UInt8))) (h:=zba (zcs g34 rfl rfl rfl)) ?_;refine zao ?_;replace h:=zax h hr1;exact qnj h;refine zc (o:=or1) (([]:List UInt8)) h ?_;exact zaz (bl 106 8);intro j1 h;refine zdf ?_;refine zae [.m _,.m _] ?_;exact qnj h
end Go.Ab
