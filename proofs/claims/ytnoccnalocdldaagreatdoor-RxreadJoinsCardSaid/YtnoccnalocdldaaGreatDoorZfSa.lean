import Derived.Test.YtnoccnalocdldaaGreatDoorZfV3
set_option linter.all false
set_option maxRecDepth 100000
set_option maxHeartbeats 4000000
open Sum (inl inr)
open Int (toNat tmod tdiv)
open Nat (zero_add le_of_ble_eq_true)
open List (length length_cons all_eq_true foldl mem_range getElem_mem)
open Go.Proofs.Tryz (prog)
namespace Go.Ab
open Go Go.RowKit Go.Fwd Go.Proofs
def zxh (t:Tr):Option Bool:=
 (chk ((pre t).length<2^60/\ (pre zax).length<2^60) (zay (zgk t zax) (fun x1=>(bif x1 then(some true) else(chk ((pre t).length<2^61) (zay (zdd t) (fun x2=>(some x2))))))))
theorem ent43:Ent prog 43:=enters_of Tryz.func43 (by kernel_rfl) rfl
theorem qid (t:Tr)(r:Bool)(h:zxh t=some r):Pure (ITP prog) prog 43 [.A (t:Tr)] (.raw (.bool r)):=by
 unfold zxh at h;refine zbl 9 mix Tryz.func43 ent43 ?_;refine wq 1 ?_;refine zda (Enc.cells (t:Tr)) ?_;refine wq 3 ?_;refine zwd zax ?_;obtain⟨g1,h⟩:=zf h;obtain⟨x1,hx1,h⟩:=zi h;refine zct (args':=[.A (t:Tr),.A (zax:Tr)]) (r:= .b x1) (by rw[<-hx1];exact(k_sameT t zax g1)) ?_;refine zac h (fun hc1 h=> ?_) (fun hc1 h=> ?_);refine zav hc1 ?_;refine wq 4 ?_;exact zbb h;refine zav hc1 ?_;refine wq 1 ?_;refine zaf rfl rfl ?_;obtain⟨g2,h⟩:=zf h;obtain⟨x2,hx2,h⟩:=zi h;refine zct (args':=[.A (t:Tr)]) (r:= .b x2) (by rw[<-hx2];exact(zyj t g2)) ?_;refine wq 2 ?_;exact zbb h
def zgh (t:Tr):Option Tr:=
 (chk ((pre t).length<2^61) (zay (zdd t) (fun x1=>(bif (!x1) then(some zax) else(chk ((pre t).length<2^40) (zay t (fun x2=>(some x2))))))))
theorem ent42:Ent prog 42:=enters_of Tryz.func42 (by kernel_rfl) rfl
theorem zns (t:Tr)(r:Tr)(h:zgh t=some r):Pure (ITP prog) prog 42 [.A (t:Tr)] (.A (r:Tr)):=by
 unfold zgh at h;refine zbl 8 mix Tryz.func42 ent42 ?_;refine wq 1 ?_;refine zda (Enc.cells (t:Tr)) ?_;refine zda zN ?_;refine zj ?_;refine wq 2 ?_;obtain⟨g1,h⟩:=zf h;obtain⟨x1,hx1,h⟩:=zi h;refine zct (args':=[.A (t:Tr)]) (r:= .b x1) (by rw[<-hx1];exact(zyj t g1)) ?_;refine wq 1 ?_;refine zbu h (fun hc1 h=> ?_) (fun hc1 h=> ?_);refine wq 1 ?_;refine zwd zax ?_;refine zer 8 (Enc.cells (zax:Tr)) ?_;exact zbx (fun(r:Tr)=> .A (r:Tr)) h (.A (zax:Tr));refine wq 2 ?_;obtain⟨g2,h⟩:=zf h;obtain⟨x2,hx2,h⟩:=zi h;refine zct (args':=[.A (t:Tr)]) (r:= .A (x2:Tr)) (by rw[<-hx2];exact(z9m t g2)) ?_;refine zer 8 (Enc.cells (x2:Tr)) ?_;exact zbx (fun(r:Tr)=> .A (r:Tr)) h (.A (x2:Tr))
def zsn (fuel:Nat)(k:Int)(w:Int)(l:(List Tr)):Option (List Tr):=
 (zcv (τ:=(List Tr)) (zaz (β:=(List Tr)×Int) (fun s1=>(bif (decide (s1.2<(length l:Int))) then(zcv (τ:=(List Tr)) (chk (0<=s1.2/\ s1.2<(length l:Int)) (zay (ix l s1.2) (fun x1=>(bif (((x1.k:Nat):Int)==k) then(chk ((length s1.1+length x1.l)*80<=140737488355328) (some (inl ((s1.1++x1.l))))) else(bif (((x1.k:Nat):Int)==w) then(some (inl (s1.1))) else(chk ((length s1.1+length [x1])*80<=140737488355328) (some (inl ((s1.1++[x1])))))))))) (fun j2=>(chk (-9223372036854775808<=(s1.2+1)/\ (s1.2+1)<9223372036854775808) (some (inl (j2,(s1.2+1))))))) else(some (inr (inl (s1.1)))))) fuel (([]:(List Tr)),0)) (fun j1=>(some j1)))
theorem ent45:Ent prog 45:=enters_of Tryz.func45 (by kernel_rfl) rfl
theorem qfg (fuel:Nat)(k:Int)(w:Int)(l:(List Tr))(r:(List Tr))(h:zsn fuel k w l=some r):Pure (ITP prog) prog 45 [.raw (.int .u8 k),.raw (.int .u8 w),.L (l:List Tr)] (.L (r:List Tr)):=by
 unfold zsn at h;refine zbl 31 mix Tryz.func45 ent45 ?_;refine wq 1 ?_;refine w_r [.v (.list 0 [] .full)] ?_;refine wq 1 ?_;refine w_r [.v (.list 0 [] .full)] ?_;refine zan h (bz 0 34 17179869183) (fun j1=>[(7,(.O (j1:List Tr)))]) (fun j1=>(zbt [] 29 (length (j1:List Tr)) 8)) ?_ ?_;intro or1 h hr1;refine wq 4 ?_;refine zu ?_;refine zch h (bz 0 34 17179866108) (fun s1=>[(7,(.O (s1.1:List Tr))),(12,.i s1.2)]) (fun s1=>(zbt [] 29 (length (s1.1:List Tr)) 8)) ?_ ?_;exact zbc (bl 34 7299);intro s1 p1 h;refine zdj ?_;refine wq 2 ?_;refine zj ?_;refine zbu h (fun hc1 h=> ?_) (fun hc1 h=> ?_);refine zan h (bz 0 32 4294959744) (fun j2=>[(7,(.O (j2:List Tr)))]) (fun j2=>(zbt [] 29 (length (j2:List Tr)) 8)) ?_ ?_;intro or2 h hr2;refine zu ?_;refine wq 1 ?_;obtain⟨g1,h⟩:=zf h;obtain⟨x1,hx1,h⟩:=zi h;refine z5i hx1 g1 ?_;refine w_o (a:= .A (x1:Tr)) ?_;refine zpg (a:= .ptr 0 0) (U'':=(zbt [(29,zN)] 29 (length (s1.1:List Tr)) 8)) ?_;refine zob 8 (zbt [(29,(Enc.cells (x1:Tr)))] 29 (length (s1.1:List Tr)) 8) ?_;refine wq 3 ?_;refine zu ?_;refine wq 4 ?_;refine zbu h (fun hc2 h=> ?_) (fun hc2 h=> ?_);refine zb (k0:=0) (id:=8) ?_;refine wq 2 ?_;refine w_r [.v (.L (x1.l:List Tr))] ?_;obtain⟨g2,h⟩:=zf h;refine zhp (a:=(.O ((s1.1++x1.l):List Tr))) (U'':=(zbt [(29,(Enc.cells (x1:Tr)))] 29 (length ((s1.1++x1.l):List Tr)) 8)) rfl rfl rfl (zkm rfl rfl rfl rfl (zfp (α:=Tr) (bs:=[(29,(Enc.cells (x1:Tr)))]) (a:=s1.1) (b:=x1.l) g2 rfl rfl rfl rfl rfl ⟨rfl,by decide⟩)) (by dsimp only[zae,List.set]) rfl ?_;refine zao ?_;refine zc (o:=or2) ((s1.1++x1.l)) h ?_;exact zdk (bl 34 12884909567) 0 (by kernel_rfl) (le_of_ble_eq_true rfl) (zbv rfl) (by dsimp only[zau,zbs,foldl,List.set,bz,bzc,Nat.reduceMod,Nat.reduceDiv,Nat.reduceBEq,Nat.reduceAdd];exact(za rfl (za rfl (za rfl (za rfl (za rfl (za rfl (za rfl (za (zdi (Enc.cloL _)) (za rfl (za rfl (za (zbd (Enc.cloL _)) (by kernel_rfl))))))))))))) (by kernel_rfl);refine wq 4 ?_;refine zbu h (fun hc3 h=> ?_) (fun hc3 h=> ?_);refine zc (o:=or2) (s1.1) h ?_;exact zdk (bl 34 12884909567) 0 (by kernel_rfl) (le_of_ble_eq_true rfl) (zbv rfl) (by dsimp only[zau,zbs,foldl,List.set,bz,bzc,Nat.reduceMod,Nat.reduceDiv,Nat.reduceBEq,Nat.reduceAdd];exact(za rfl (za rfl (za rfl (za rfl (za rfl (za rfl (za rfl (za (zdi (Enc.cloL _)) (za rfl (za rfl (za (zbd (Enc.cloL _)) (by kernel_rfl))))))))))))) (by kernel_rfl);refine zb (k0:=0) (id:=6) ?_;refine wq 2 ?_;refine w_o (a:= .F ([x1]:List Tr)) (h:=zap (zhr (α:=Tr) (l:=[x1]) (cs:=Enc.cells (x1:Tr)++[]) rfl (by rw[Enc.cons,Enc.nil]))) ?_;obtain⟨g3,h⟩:=zf h;refine zhp (a:=(.O ((s1.1++[x1]):List Tr))) (U'':=(zbt [(29,(Enc.cells (x1:Tr)))] 29 (length ((s1.1++[x1]):List Tr)) 8)) rfl rfl rfl (zkm rfl rfl rfl rfl (zfp (α:=Tr) (bs:=[(29,(Enc.cells (x1:Tr)))]) (a:=s1.1) (b:=[x1]) g3 rfl rfl rfl rfl rfl ⟨rfl,by decide⟩)) (by dsimp only[zae,List.set]) rfl ?_;refine zao ?_;refine zc (o:=or2) ((s1.1++[x1])) h ?_;exact zdk (bl 34 12884909567) 0 (by kernel_rfl) (le_of_ble_eq_true rfl) (zbv rfl) (by dsimp only[zau,zbs,foldl,List.set,bz,bzc,Nat.reduceMod,Nat.reduceDiv,Nat.reduceBEq,Nat.reduceAdd];exact(za rfl (za rfl (za rfl (za rfl (za rfl (za rfl (za rfl (za (zdi (Enc.cloL _)) (za rfl (za rfl (za (zbd (Enc.cloL _)) (by kernel_rfl))))))))))))) (by kernel_rfl);intro j2 h;refine zdj ?_;refine zb (k0:=0) (id:=10) ?_;obtain⟨g4,h⟩:=zf h;refine zhk g4 ?_;refine zao ?_;refine zbe (p:=p1) (j2,(s1.2+1)) h ?_;exact zbc (bl 34 7299);refine zaa h (fun h=> ?_);refine zc (o:=or1) (s1.1) h ?_;exact zbc (bl 34 128);intro j1 h;refine zdj ?_;refine wq 3 ?_;exact zbx (fun(r:(List Tr))=> .L (r:List Tr)) h (.O (j1:List Tr))
def zju (k:Int)(l:(List Tr))(z:Tr):Option Tr:=
 (bif ((length l:Int)==0) then(some z) else(bif ((length l:Int)==1) then(chk (0<=(0:Int)/\ (0:Int)<(length l:Int)) (zay (ix l (0:Int)) (fun x1=>(zai (zgh x1) (fun x2=>(some x2)))))) else(chk (0<=k) (zai (zgh (Tr.mk (toNat k) (0#256) 0 0 l)) (fun x3=>(some x3))))))
theorem ent44:Ent prog 44:=enters_of Tryz.func44 (by kernel_rfl) rfl
theorem z2l (k:Int)(l:(List Tr))(z:Tr)(r:Tr)(h:zju k l z=some r):Pure (ITP prog) prog 44 [.raw (.int .u8 k),.L (l:List Tr),.A (z:Tr)] (.A (r:Tr)):=by
 unfold zju at h;refine zbl 19 mix Tryz.func44 ent44 ?_;refine wq 1 ?_;refine zda (Enc.cells (z:Tr)) ?_;refine zda zN ?_;refine zj ?_;refine wq 3 ?_;refine zu ?_;refine wq 3 ?_;refine zbu h (fun hc1 h=> ?_) (fun hc1 h=> ?_);refine wq 2 ?_;refine zer 8 (Enc.cells (z:Tr)) ?_;exact zbx (fun(r:Tr)=> .A (r:Tr)) h (.A (z:Tr));refine wq 3 ?_;refine zbu h (fun hc2 h=> ?_) (fun hc2 h=> ?_);refine wq 2 ?_;obtain⟨g1,h⟩:=zf h;obtain⟨x1,hx1,h⟩:=zi h;refine z5i hx1 g1 ?_;refine w_o (a:= .A (x1:Tr)) ?_;obtain⟨x2,hx2,h⟩:=zp h;refine zct (zns x1 x2 hx2) ?_;refine zer 8 (Enc.cells (x2:Tr)) ?_;exact zbx (fun(r:Tr)=> .A (r:Tr)) h (.A (x2:Tr));refine wq 3 ?_;obtain⟨g2,h⟩:=zf h;refine qon (.A ((Tr.mk (toNat k) (0#256) 0 0 l):Tr)) (a0:=(qlp k (0#256) 0 0 l .none)) rfl rfl rfl (by kernel_rfl) (zvo g2 _ _ _ _ _) (by dsimp only[zae,List.set]) ?_;obtain⟨x3,hx3,h⟩:=zp h;refine zct (zns (Tr.mk (toNat k) (0#256) 0 0 l) x3 hx3) ?_;refine zer 8 (Enc.cells (x3:Tr)) ?_;exact zbx (fun(r:Tr)=> .A (r:Tr)) h (.A (x3:Tr))
def qmz (fuel:Nat)(l:(List Tr)):Option Tr:=
 (zcv (τ:=Unit) (zaz (β:=Int) (fun s1=>(bif (decide (s1<(length l:Int))) then(chk (0<=s1/\ s1<(length l:Int)) (zay (ix l s1) (fun x1=>(bif (((x1.k:Nat):Int)==0) then(some (inr (inr zax))) else(chk ((pre x1).length<2^61) (zay (zdd x1) (fun x2=>(bif (!x2) then(some (inr (inr zax))) else(chk (-9223372036854775808<=(s1+1)/\ (s1+1)<9223372036854775808) (some (inl ((s1+1))))))))))))) else(some (inr (inl ()))))) fuel (0)) (fun j1=>(zai (zsn fuel 3 1 l) (fun x3=>(zai (zju 3 x3 (Tr.mk 1 (0#256) 0 0 [])) (fun x4=>(some x4)))))))
theorem ent17:Ent prog 17:=enters_of Tryz.func17 (by kernel_rfl) rfl
theorem seq_sh (fuel:Nat)(l:(List Tr))(r:Tr)(h:qmz fuel l=some r):Pure (ITP prog) prog 17 [.L (l:List Tr)] (.A (r:Tr)):=by
 unfold qmz at h;refine zbl 24 mix Tryz.func17 ent17 ?_;refine wq 1 ?_;refine zda zN ?_;refine zan h (bz 0 25 33554426) (fun j1=>[]) (fun j1=>(.B [(29,zN)])) ?_ ?_;intro or1 h hr1;refine wq 4 ?_;refine zu ?_;refine zch h (bz 0 25 33554330) (fun s1=>[(7,.i s1)]) (fun s1=>(.B [(29,zN)])) ?_ ?_;exact zbc (bl 25 229);intro s1 p1 h;refine zdj ?_;refine wq 2 ?_;refine zj ?_;refine zbu h (fun hc1 h=> ?_) (fun hc1 h=> ?_);refine zj ?_;refine zu ?_;refine wq 1 ?_;obtain⟨g1,h⟩:=zf h;obtain⟨x1,hx1,h⟩:=zi h;refine z5i hx1 g1 ?_;refine w_o (a:= .A (x1:Tr)) ?_;refine zda zN ?_;refine zer 8 (Enc.cells (x1:Tr)) ?_;refine wq 4 ?_;refine zac h (fun hc2 h=> ?_) (fun hc2 h=> ?_);refine zav hc2 ?_;refine wq 4 ?_;refine zeb rfl ?_;refine wq 1 ?_;refine zwd zax ?_;refine zer 8 (Enc.cells (zax:Tr)) ?_;refine zaa h (fun h=> ?_);replace h:=zba h hr1;exact zbx (fun(r:Tr)=> .A (r:Tr)) h (.A (zax:Tr));refine zav hc2 ?_;refine wq 1 ?_;refine zaf rfl rfl ?_;obtain⟨g2,h⟩:=zf h;obtain⟨x2,hx2,h⟩:=zi h;refine zct (args':=[.A (x1:Tr)]) (r:= .b x2) (by rw[<-hx2];exact(zyj x1 g2)) ?_;refine wq 2 ?_;refine zbu h (fun hc3 h=> ?_) (fun hc3 h=> ?_);refine wq 1 ?_;refine zwd zax ?_;refine zob 8 (.B [(29,(Enc.cells (zax:Tr))),(29,(Enc.cells (x1:Tr)))]) ?_;refine zaa h (fun h=> ?_);replace h:=zba h hr1;exact zbx (fun(r:Tr)=> .A (r:Tr)) h (.A (zax:Tr));refine zb (k0:=0) (id:=6) ?_;obtain⟨g3,h⟩:=zf h;refine zhk g3 ?_;refine zao ?_;refine zbe (p:=p1) ((s1+1)) h ?_;exact zdk (bl 25 229) 1 (by kernel_rfl) (le_of_ble_eq_true rfl) (zbv (zab rfl rfl)) (by dsimp only[zau,zbs,foldl,List.set,bz,bzc,Nat.reduceMod,Nat.reduceDiv,Nat.reduceBEq,Nat.reduceAdd];exact(za (zbd (Enc.cloL _)) (za rfl (za (by decide) (za rfl (za rfl (za (zbd (Enc.cloL _)) (by kernel_rfl)))))))) (by kernel_rfl);refine zaa h (fun h=> ?_);refine zc (o:=or1) () h ?_;exact zbc (bl 25 5);intro j1 h;refine zdj ?_;refine wq 2 ?_;obtain⟨x3,hx3,h⟩:=zp h;refine zct (qfg fuel 3 1 l x3 hx3) ?_;refine zwd (Tr.mk 1 (0#256) 0 0 []) ?_;obtain⟨x4,hx4,h⟩:=zp h;refine zct (z2l 3 x3 (Tr.mk 1 (0#256) 0 0 []) x4 hx4) ?_;refine zob 8 (.B [(29,(Enc.cells (x4:Tr)))]) ?_;exact zbx (fun(r:Tr)=> .A (r:Tr)) h (.A (x4:Tr))
def F_or (fuel:Nat)(l:(List Tr)):Option Tr:=
 (zcv (τ:=Unit) (zaz (β:=Int) (fun s1=>(bif (decide (s1<(length l:Int))) then(chk (0<=s1/\ s1<(length l:Int)) (zay (ix l s1) (fun x1=>(zai (zxh x1) (fun x2=>(bif (!x2) then(some (inr (inr zax))) else(chk (-9223372036854775808<=(s1+1)/\ (s1+1)<9223372036854775808) (some (inl ((s1+1))))))))))) else(some (inr (inl ()))))) fuel (0)) (fun j1=>(zai (zsn fuel 4 0 l) (fun x3=>(zai (zju 4 x3 zax) (fun x4=>(some x4)))))))
theorem ent16:Ent prog 16:=enters_of Tryz.func16 (by kernel_rfl) rfl
theorem or_sh (fuel:Nat)(l:(List Tr))(r:Tr)(h:F_or fuel l=some r):Pure (ITP prog) prog 16 [.L (l:List Tr)] (.A (r:Tr)):=by
 unfold F_or at h;refine zbl 19 mix Tryz.func16 ent16 ?_;refine wq 1 ?_;refine zda zN ?_;refine zan h (bz 0 20 1048570) (fun j1=>[]) (fun j1=>(.B [(29,zN)])) ?_ ?_;intro or1 h hr1;refine wq 4 ?_;refine zu ?_;refine zch h (bz 0 20 1048474) (fun s1=>[(7,.i s1)]) (fun s1=>(.B [(29,zN)])) ?_ ?_;exact zbc (bl 20 229);intro s1 p1 h;refine zdj ?_;refine wq 2 ?_;refine zj ?_;refine zbu h (fun hc1 h=> ?_) (fun hc1 h=> ?_);refine zj ?_;refine zu ?_;refine wq 1 ?_;obtain⟨g1,h⟩:=zf h;obtain⟨x1,hx1,h⟩:=zi h;refine z5i hx1 g1 ?_;refine w_o (a:= .A (x1:Tr)) ?_;refine zda zN ?_;refine zer 8 (Enc.cells (x1:Tr)) ?_;refine wq 2 ?_;obtain⟨x2,hx2,h⟩:=zp h;refine zct (qid x1 x2 hx2) ?_;refine wq 1 ?_;refine zbu h (fun hc2 h=> ?_) (fun hc2 h=> ?_);refine wq 1 ?_;refine zwd zax ?_;refine zer 8 (Enc.cells (zax:Tr)) ?_;refine zaa h (fun h=> ?_);replace h:=zba h hr1;exact zbx (fun(r:Tr)=> .A (r:Tr)) h (.A (zax:Tr));refine zb (k0:=0) (id:=6) ?_;obtain⟨g2,h⟩:=zf h;refine zhk g2 ?_;refine zao ?_;refine zbe (p:=p1) ((s1+1)) h ?_;exact zdk (bl 20 229) 1 (by kernel_rfl) (le_of_ble_eq_true rfl) (zbv (zab rfl rfl)) (by dsimp only[zau,zbs,foldl,List.set,bz,bzc,Nat.reduceMod,Nat.reduceDiv,Nat.reduceBEq,Nat.reduceAdd];exact(za (zbd (Enc.cloL _)) (za rfl (za (by decide) (za rfl (za rfl (za (zbd (Enc.cloL _)) (by kernel_rfl)))))))) (by kernel_rfl);refine zaa h (fun h=> ?_);refine zc (o:=or1) () h ?_;exact zbc (bl 20 5);intro j1 h;refine zdj ?_;refine wq 2 ?_;obtain⟨x3,hx3,h⟩:=zp h;refine zct (qfg fuel 4 0 l x3 hx3) ?_;refine zwd zax ?_;obtain⟨x4,hx4,h⟩:=zp h;refine zct (z2l 4 x3 zax x4 hx4) ?_;refine zob 8 (.B [(29,(Enc.cells (x4:Tr)))]) ?_;exact zbx (fun(r:Tr)=> .A (r:Tr)) h (.A (x4:Tr))
def zyv (t:Tr)(lo:Int)(hi:Int):Option Tr:=
 (zcv (τ:=Bool×Bool) (bif (lo==0) then(bif (lo==1) then(some (inl ((hi==0),(hi==1)))) else(some (inl ((hi==0),false)))) else(bif (lo==1) then(some (inl (false,(hi==1)))) else(some (inl (false,false))))) (fun j1=>(zcv (τ:=Bool) (zai (zxh t) (fun x1=>(bif (!x1) then(some (inl (true))) else(bif (!j1.1) then(bif (!j1.2) then(zai (zkq lo hi) (fun x2=>(some (inl ((!x2)))))) else(some (inl (false)))) else(some (inl (false))))))) (fun j2=>(bif j2 then(some zax) else(zcv (τ:=Bool) (bif (((t.k:Nat):Int)==0) then(some (inl ((decide (lo>0))))) else(some (inl (false)))) (fun j3=>(bif j3 then(some zax) else(zcv (τ:=Bool) (bif j1.1 then(some (inl (true))) else(bif (((t.k:Nat):Int)==0) then(some (inl (true))) else(some (inl ((((t.k:Nat):Int)==1)))))) (fun j4=>(bif j4 then(some (Tr.mk 1 (0#256) 0 0 [])) else(bif j1.2 then(chk ((pre t).length<2^40) (zay t (fun x3=>(some x3)))) else(zai (zgh (Tr.mk 5 (0#256) lo hi [t])) (fun x4=>(some x4)))))))))))))))
theorem ent20:Ent prog 20:=enters_of Tryz.func20 (by kernel_rfl) rfl
theorem qks (t:Tr)(lo:Int)(hi:Int)(r:Tr)(h:zyv t lo hi=some r):Pure (ITP prog) prog 20 [.A (t:Tr),.raw (.int .i64 lo),.raw (.int .i64 hi)] (.A (r:Tr)):=by
 unfold zyv at h;refine zbl 69 mix Tryz.func20 ent20 ?_;refine wq 1 ?_;refine zda (Enc.cells (t:Tr)) ?_;refine zda zN ?_;refine zan h (bz 0 72 4722366482869645213617) (fun j1=>[(7,.b j1.1),(8,.b j1.2)]) (fun j1=>(.B [(29,(Enc.cells (t:Tr))),(29,zN)])) ?_ ?_;intro or1 h hr1;refine zb (k0:=0) (id:=1) ?_;refine wq 2 ?_;refine zac h (fun hc1 h=> ?_) (fun hc1 h=> ?_);refine zav hc1 ?_;refine wq 5 ?_;refine zac h (fun hc2 h=> ?_) (fun hc2 h=> ?_);refine zav hc2 ?_;refine wq 5 ?_;refine zc (o:=or1) ((hi==0),(hi==1)) h ?_;exact zbc (bl 72 462);refine zav hc2 ?_;refine wq 5 ?_;refine zc (o:=or1) ((hi==0),false) h ?_;exact zbc (bl 72 462);refine zav hc1 ?_;refine wq 5 ?_;refine zac h (fun hc3 h=> ?_) (fun hc3 h=> ?_);refine zav hc3 ?_;refine wq 5 ?_;refine zc (o:=or1) (false,(hi==1)) h ?_;exact zbc (bl 72 462);refine zav hc3 ?_;refine wq 5 ?_;refine zc (o:=or1) (false,false) h ?_;exact zbc (bl 72 462);intro j1 h;refine zdj ?_;refine zj ?_;refine zu ?_;refine zan h (bz 0 39 549753716736) (fun j2=>[(21,.b j2)]) (fun j2=>(.B [(29,(Enc.cells (t:Tr))),(29,zN)])) ?_ ?_;intro or2 h hr2;refine zb (k0:=0) (id:=2) ?_;refine wq 1 ?_;obtain⟨x1,hx1,h⟩:=zp h;refine zct (qid t x1 hx1) ?_;refine wq 1 ?_;refine zac h (fun hc4 h=> ?_) (fun hc4 h=> ?_);refine zav hc4 ?_;refine wq 14 ?_;refine zc (o:=or2) (true) h ?_;exact zbc (bl 72 4722366482319893594111);refine zav hc4 ?_;refine wq 2 ?_;refine zaf rfl rfl ?_;refine zac h (fun hc5 h=> ?_) (fun hc5 h=> ?_);refine zav hc5 ?_;refine wq 3 ?_;refine zaf rfl rfl ?_;refine zac h (fun hc6 h=> ?_) (fun hc6 h=> ?_);refine zav hc6 ?_;refine wq 2 ?_;refine zaf rfl rfl ?_;obtain⟨x2,hx2,h⟩:=zp h;refine zct (zxk lo hi x2 hx2) ?_;refine wq 4 ?_;refine zc (o:=or2) ((!x2)) h ?_;exact zbc (bl 72 4722366482319893594111);refine zav hc6 ?_;refine wq 7 ?_;refine zc (o:=or2) (false) h ?_;exact zbc (bl 72 4722366482319893594111);refine zav hc5 ?_;refine wq 11 ?_;refine zc (o:=or2) (false) h ?_;exact zbc (bl 72 4722366482319893594111);intro j2 h;refine zdj ?_;refine zbu h (fun hc7 h=> ?_) (fun hc7 h=> ?_);refine wq 1 ?_;refine zwd zax ?_;refine zer 8 (Enc.cells (zax:Tr)) ?_;exact zbx (fun(r:Tr)=> .A (r:Tr)) h (.A (zax:Tr));refine zan h (bz 0 48 280375467180032) (fun j3=>[(40,.b j3)]) (fun j3=>(.B [(29,(Enc.cells (t:Tr))),(29,zN)])) ?_ ?_;intro or3 h hr3;refine zb (k0:=0) (id:=4) ?_;refine wq 3 ?_;refine zac h (fun hc8 h=> ?_) (fun hc8 h=> ?_);refine zav hc8 ?_;refine wq 4 ?_;refine zc (o:=or3) ((decide (lo>0))) h ?_;exact zbc (bl 72 4722366203593689661439);refine zav hc8 ?_;refine wq 4 ?_;refine zc (o:=or3) (false) h ?_;exact zbc (bl 72 4722366203593689661439);intro j3 h;refine zdj ?_;refine zbu h (fun hc9 h=> ?_) (fun hc9 h=> ?_);refine wq 1 ?_;refine zwd zax ?_;refine zer 8 (Enc.cells (zax:Tr)) ?_;exact zbx (fun(r:Tr)=> .A (r:Tr)) h (.A (zax:Tr));refine zan h (bz 0 61 2305281158771900544) (fun j4=>[(49,.b j4)]) (fun j4=>(.B [(29,(Enc.cells (t:Tr))),(29,zN)])) ?_ ?_;intro or4 h hr4;refine zb (k0:=0) (id:=6) ?_;refine zao ?_;refine zac h (fun hc10 h=> ?_) (fun hc10 h=> ?_);refine zav hc10 ?_;refine wq 10 ?_;refine zc (o:=or4) (true) h ?_;exact zbc (bl 72 4720061764660826734463);refine zav hc10 ?_;refine wq 4 ?_;refine zac h (fun hc11 h=> ?_) (fun hc11 h=> ?_);refine zav hc11 ?_;refine wq 5 ?_;refine zc (o:=or4) (true) h ?_;exact zbc (bl 72 4720061764660826734463);refine zav hc11 ?_;refine wq 5 ?_;refine zc (o:=or4) ((((t.k:Nat):Int)==1)) h ?_;exact zbc (bl 72 4720061764660826734463);intro j4 h;refine zdj ?_;refine zbu h (fun hc12 h=> ?_) (fun hc12 h=> ?_);refine wq 1 ?_;refine zwd (Tr.mk 1 (0#256) 0 0 []) ?_;refine zer 8 (Enc.cells ((Tr.mk 1 (0#256) 0 0 []):Tr)) ?_;exact zbx (fun(r:Tr)=> .A (r:Tr)) h (.A ((Tr.mk 1 (0#256) 0 0 []):Tr));refine wq 3 ?_;refine zbu h (fun hc13 h=> ?_) (fun hc13 h=> ?_);refine wq 2 ?_;obtain⟨g1,h⟩:=zf h;obtain⟨x3,hx3,h⟩:=zi h;refine zct (args':=[.A (t:Tr)]) (r:= .A (x3:Tr)) (by rw[<-hx3];exact(z9m t g1)) ?_;refine zer 8 (Enc.cells (x3:Tr)) ?_;exact zbx (fun(r:Tr)=> .A (r:Tr)) h (.A (x3:Tr));refine wq 4 ?_;refine w_o (a:= .F ([t]:List Tr)) (h:=zap (zhr (α:=Tr) (l:=[t]) (cs:=Enc.cells (t:Tr)++[]) rfl (by rw[Enc.cons,Enc.nil]))) ?_;refine zwd (Tr.mk 5 (0#256) lo hi [t]) ?_;obtain⟨x4,hx4,h⟩:=zp h;refine zct (zns (Tr.mk 5 (0#256) lo hi [t]) x4 hx4) ?_;refine zer 8 (Enc.cells (x4:Tr)) ?_;exact zbx (fun(r:Tr)=> .A (r:Tr)) h (.A (x4:Tr))
def zpn (t:Tr):Option Tr:=
 (zai (zgh (Tr.mk 6 (0#256) 0 0 [t])) (fun x1=>(some x1)))
theorem ent15:Ent prog 15:=enters_of Tryz.func15 (by kernel_rfl) rfl
theorem qcf (t:Tr)(r:Tr)(h:zpn t=some r):Pure (ITP prog) prog 15 [.A (t:Tr)] (.A (r:Tr)):=by
 unfold zpn at h;refine zbl 6 mix Tryz.func15 ent15 ?_;refine wq 1 ?_;refine zda (Enc.cells (t:Tr)) ?_;refine zda zN ?_;refine wq 2 ?_;refine w_o (a:= .F ([t]:List Tr)) (h:=zap (zhr (α:=Tr) (l:=[t]) (cs:=Enc.cells (t:Tr)++[]) rfl (by rw[Enc.cons,Enc.nil]))) ?_;refine zwd (Tr.mk 6 (0#256) 0 0 [t]) ?_;obtain⟨x1,hx1,h⟩:=zp h;refine zct (zns (Tr.mk 6 (0#256) 0 0 [t]) x1 hx1) ?_;refine zer 8 (Enc.cells (x1:Tr)) ?_;exact zbx (fun(r:Tr)=> .A (r:Tr)) h (.A (x1:Tr))
theorem qes:(pre zax).length=1:=by simp[zax,pre,zbi]
theorem qdv (t:Tr)(h:(pre t).length<2^60):zxh t=some (znt t):=by
 unfold zxh znt;rw[zev ⟨h,by rw[qes];omega⟩,zay];cases zgk t zax with
 |true=>rfl
 |false=>show chk _ _=_;rw[zev (by omega)];rfl
theorem zno (t:Tr)(h:(pre t).length<2^61):zgh t=some (zdq t):=by
 unfold zgh zdq;rw[zev h,zay];cases hl:zdd t with
 |false=>rfl
 |true=>have:=zha hl;show chk _ _=_;rw[zev (by omega)];rfl
theorem qhn {fuel:Nat} (k w:Nat)(l:List Tr)(hl:(zbi l).length<=2^40)(hf:l.length<fuel):zsn fuel k w l=some (zdv k w l):=by
 have hlen:=zaw l;unfold zsn;refine zat (zdv k w l) ?_ rfl;refine zit l.length (fun i=>(zdv k w (l.take i),(i:Int))) (by simp[zdv]) (fun i hi=> ?_) ?_ hf
 ·have hp:=zsg l (i+1);have hfl:=znk k w (l.take (i+1));have hlf:(zdv k w (l.take (i+1))).length<=(zbi l).length:=by have:=zaw (zdv k w (l.take (i+1)));omega
  have hs:zdv k w (l.take (i+1))=zdv k w (l.take i)++(bif (l[i].k:Int)==k then l[i].l else bif (l[i].k:Int)==w then[] else[l[i]]):=by
   rw[List.take_succ_eq_append_getElem hi,zdv,List.flatMap_append];simp[zdv]
  refine zds (by simp;omega) ?_;refine zat (zdv k w (l.take (i+1))) ?_ ?_
  ·refine zg (by simp only;omega) (zk fun x1 e1=> ?_);simp only at e1;rw[zgy hi] at e1;rw[<-e1,hs];rw[hs,List.length_append] at hlf;cases h1:(l[i].k:Int)==k with
   | true=>
    rw[h1,cond_true] at hlf;exact zds rfl (zg (by simp only;omega) rfl)
   | false=>
    rw[h1,cond_false] at hlf;cases h2:(l[i].k:Int)==w with
    |true=>exact zdl rfl (zds rfl (by simp))
    | false=>
     rw[h2,cond_false] at hlf;exact zdl rfl (zdl rfl (zg (by simp only;omega) rfl))
  ·refine zg (by simp only;omega) ?_;simp only;rfl
 ·exact zdl (by simp) (by simp[List.take_length])
theorem z1w (k:Nat)(l:List Tr)(z:Tr)(hl:(zbi l).length<=2^41):zju k l z=some (zjy k l z):=by
 unfold zju zjy;cases h0:(l.length:Int)==0 with
 |true=>rfl
 | false=>
  simp only[cond_false];cases h1:(l.length:Int)==1 with
  | true=>
   cases l with
   |nil=>simp at h1
   | cons x l=>
    have hx:(pre x).length<=(zbi (x::l)).length:=by simp[zbi]
    refine zg (by simp) (zk fun x1 e1=> ?_);have:x1=x:=by rw[<-e1];rfl
    subst this;rw[zno _ (by omega)];rfl
  | false=>
   simp only[cond_false];refine zg (by omega) ?_;rw[Int.toNat_natCast,zno _ (by rw[pre,length_cons];omega)];rfl
theorem z8m {l:List Tr} {x:Tr} (h:x∈l):(pre x).length<=(zbi l).length:=znq h
theorem qfn {ρ:Type} (q:Tr->Bool)(y:ρ)(l:List Tr) {body:Int->Option (Int ⊕ (Unit ⊕ ρ))} (hb: ∀i (hi:i<l.length),body (i:Int)=some (if q l[i]=true then .inr (.inr y) else .inl ((i+1:Nat):Int)))(he:body (l.length:Int)=some (.inr (.inl ()))):
 ∀(k i n:Nat),i+k=l.length->k<n->zaz body n (i:Int)=some (if(l.drop i).any q=true then .inr y else .inl ()):=by
 intro k;induction k with
 | zero=>
  intro i n hi hn
  match n,hn with
  | n+1,_=>
   have:i=l.length:=by omega
   subst this;rw[zaz,he,List.drop_length];rfl
 | succ k ih=>
  intro i n hi hn
  match n,hn with
  | n+1,hn=>
   have hil:i<l.length:=by omega
   rw[zaz,hb i hil,List.drop_eq_getElem_cons hil,List.any_cons];by_cases hq:q l[i]=true
   ·simp[hq]
   ·rw[if_neg hq];simp only;rw[ih (i+1) n (by omega) (by omega)];simp[hq]
theorem seq_eqF {fuel:Nat} (l:List Tr)(hl:(zbi l).length<=2^40)(hf:l.length<fuel):qmz fuel l=some (zoj l):=by
 have hlen:=zaw l;have hfl:=znk 3 1 l;unfold qmz zoj;rw[show(0:Int)=((0:Nat):Int) from rfl,qfn (fun x=>(x.k:Int)==0|| !zdd x) zax l (fun i hi=> ?_) ?_ l.length 0 fuel (by omega) hf,List.drop_zero]
 ·cases l.any (fun x=>(x.k:Int)==0|| !zdd x) with
  |true=>rfl
  | false=>
   show zai (zsn fuel ((3:Nat):Int) ((1:Nat):Int) l) _=_;rw[qhn 3 1 l hl hf,bindE_some];show zai (zju ((3:Nat):Int) _ _) _=_;rw[z1w 3 _ _ (by omega)];rfl
 ·exact zdl (by simp) rfl
 ·skip
  have hx:=z8m (getElem_mem hi);refine zds (by simp;omega) (zg (by omega) (zk fun x1 e1=> ?_));rw[zgy hi] at e1;subst e1;cases h1:(l[i].k:Int)==0 with
  |true=>exact zds rfl (by simp)
  | false=>
   refine zdl rfl (zg (by omega) (zk fun x2 e2=> ?_));subst e2;cases h2:zdd l[i] with
   |true=>exact zdl rfl (zg (by omega) (by simp))
   |false=>exact zds rfl (by simp)
theorem or_eqF {fuel:Nat} (l:List Tr)(hl:(zbi l).length<=2^40)(hf:l.length<fuel):F_or fuel l=some (orT l):=by
 have hlen:=zaw l;have hfl:=znk 4 0 l;unfold F_or orT;rw[show(0:Int)=((0:Nat):Int) from rfl,qfn (fun x=> !znt x) zax l (fun i hi=> ?_) ?_ l.length 0 fuel (by omega) hf,List.drop_zero]
 ·cases l.any (fun x=> !znt x) with
  |true=>rfl
  | false=>
   show zai (zsn fuel ((4:Nat):Int) ((0:Nat):Int) l) _=_;rw[qhn 4 0 l hl hf,bindE_some];show zai (zju ((4:Nat):Int) _ _) _=_;rw[z1w 4 _ _ (by omega)];rfl
 ·exact zdl (by simp) rfl
 ·skip
  have hx:=z8m (getElem_mem hi);refine zds (by simp;omega) (zg (by omega) (zk fun x1 e1=> ?_));rw[zgy hi] at e1;subst e1;refine zaj (znt l[i]) (qdv _ (by omega)) ?_;cases h2:znt l[i] with
  |true=>exact zdl rfl (zg (by omega) (by simp))
  |false=>exact zds rfl (by simp)
theorem k_seq (l:List Tr)(h:(zbi l).length<=2^40):Pure (ITP prog) prog 17 [.list l.length (Enc.cellsL l) .none] (.agg (Enc.cells (zoj l))):=seq_sh (l.length+1) l _ (seq_eqF l h (by omega))
theorem k_or (l:List Tr)(h:(zbi l).length<=2^40):Pure (ITP prog) prog 16 [.list l.length (Enc.cellsL l) .none] (.agg (Enc.cells (orT l))):=or_sh (l.length+1) l _ (or_eqF l h (by omega))
theorem qcw (t:Tr)(h:(pre t).length<2^60):zpn t=some (zgz t):=by
 unfold zpn zgz;rw[zno _ (by rw[ztv];omega)];rfl
theorem z0w (t:Tr)(h:(pre t).length<2^60):Pure (ITP prog) prog 15 [.agg (Enc.cells t)] (.agg (Enc.cells (zgz t))):=qcf t _ (qcw t h)
theorem qhc (t:Tr)(lo hi:Int)(h:(pre t).length<2^40):zyv t lo hi=some (zgj t lo hi):=by
 have e1:=qdv t (by omega);have e2:=zxs lo hi;have e3:zgh (Tr.mk 5 0#256 lo hi [t])=some (zdq (Tr.mk 5 0#256 lo hi [t])):=zno _ (by rw[ztv];omega);unfold zyv zgj;simp only[e1,e2,e3,bindE_some];have hE:emptyT=Tr.mk 1 0#256 0 0 []:=rfl;rw[<-hE];simp only[zev h,zay];generalize znt t=G
 generalize zen lo hi=B
 generalize zdq (Tr.mk 5 0#256 lo hi [t])=X
 generalize (lo==0)=a
 generalize (lo==1)=b
 generalize (hi==0)=c
 generalize (hi==1)=d
 generalize ((t.k:Int)==0)=e
 generalize ((t.k:Int)==1)=f
 generalize decide (lo>0)=p
 generalize zax=N
 generalize emptyT=M
 cases a<;>cases b<;>cases c<;>cases d<;>cases e<;>cases f<;>cases p<;>cases G<;>cases B<;>rfl
theorem k_times (t:Tr)(lo hi:Int)(h:(pre t).length<2^40):Pure (ITP prog) prog 20 [.agg (Enc.cells t),.raw (.int .i64 lo),.raw (.int .i64 hi)] (.agg (Enc.cells (zgj t lo hi))):=qks t lo hi _ (qhc t lo hi h)
theorem rxof_eq (s:BS):z7u s=some (ofT s):=by
 unfold z7u ofT;by_cases h:s=0#256<;>simp[h]
theorem k_of (s:BS):Pure (ITP prog) prog 132 [.agg (Enc.cells s)] (.agg (Enc.cells (ofT s))):=rxof_sh s _ (rxof_eq s)
def crT (t:Tr):Bool:=(pre t).all zcn
def q1 (f:Tr->Bool)(n:Nat)(x:Tr):Option Bool:=if(pre x).length<n/\ crT x=true then some (f x) else none
end Go.Ab
namespace Go.Ab
open Go Go.RowKit Go.Fwd Go.Proofs
def z9z (fuel:Nat)(n:Nat)(t:Tr):Option Int:=
 (zcv (τ:=Int) (bif (((t.k:Nat):Int)==2) then(some (inl (1))) else(some (inl (0)))) (fun j1=>(zcv (τ:=Int) (zaz (β:=Int×Int) (fun s1=>(bif (decide (s1.2<(length t.l:Int))) then(chk (0<=s1.2/\ s1.2<(length t.l:Int)) (zay (ix t.l s1.2) (fun x1=>(chk (((pre x1).length<n)) (zay (zlu x1) (fun x2=>(chk (-9223372036854775808<=(s1.1+x2)/\ (s1.1+x2)<9223372036854775808) (chk (-9223372036854775808<=(s1.2+1)/\ (s1.2+1)<9223372036854775808) (some (inl ((s1.1+x2),(s1.2+1)))))))))))) else(some (inr (inl (s1.1)))))) fuel (j1,0)) (fun j2=>(zcv (τ:=Int) (bif (((t.k:Nat):Int)==5) then(zcv (τ:=Int) (bif (t.mx==(-1)) then(some (inl ((max (max t.mn 0) 1)))) else(some (inl ((max (max t.mn 0) t.mx))))) (fun j4=>(chk (-9223372036854775808<=(j2*(min j4 10001))/\ (j2*(min j4 10001))<9223372036854775808) (some (inl ((j2*(min j4 10001)))))))) else(some (inl (j2)))) (fun j3=>(some (min j3 10001))))))))
theorem ent67:Ent prog 67:=enters_of Tryz.func67 (by kernel_rfl) rfl
theorem posn_sh (fuel:Nat)(n:Nat)(t:Tr)(r:Int)(ih: ∀x:Tr,((pre x).length<n)->Pure (ITP prog) prog 67 [.A x] (.raw (.int .i64 (zlu x))))(h:z9z fuel n t=some r):Pure (ITP prog) prog 67 [.A (t:Tr)] (.raw (.int .i64 r)):=by
 unfold z9z at h;refine zbl 43 mix Tryz.func67 ent67 ?_;refine wq 1 ?_;refine zda (Enc.cells (t:Tr)) ?_;refine wq 3 ?_;refine zan h (bz 0 44 17592186044413) (fun j1=>[(3,.i j1)]) (fun j1=>(.B [(29,(Enc.cells (t:Tr)))])) ?_ ?_;intro or1 h hr1;refine wq 4 ?_;refine zbu h (fun hc1 h=> ?_) (fun hc1 h=> ?_);refine zb (k0:=0) (id:=3) ?_;refine wq 1 ?_;refine zc (o:=or1) (1) h ?_;exact zbc (bl 44 10);refine zc (o:=or1) (0) h ?_;exact zbc (bl 44 10);intro j1 h;refine zdj ?_;refine zan h (bz 0 23 8386600) (fun j2=>[(3,.i j2)]) (fun j2=>(.B [(29,(Enc.cells (t:Tr)))])) ?_ ?_;intro or2 h hr2;refine wq 2 ?_;refine w_r [.v (.L (t.l:List Tr))] ?_;refine wq 2 ?_;refine zu ?_;refine zch h (bz 0 23 8374312) (fun s1=>[(3,.i s1.1),(14,.i s1.2)]) (fun s1=>(.B [(29,(Enc.cells (t:Tr)))])) ?_ ?_;exact zbc (bl 44 17592177686495);intro s1 p1 h;refine zdj ?_;refine wq 2 ?_;refine zj ?_;refine zbu h (fun hc2 h=> ?_) (fun hc2 h=> ?_);refine zj ?_;refine zu ?_;refine wq 1 ?_;obtain⟨g1,h⟩:=zf h;obtain⟨x1,hx1,h⟩:=zi h;refine z5i hx1 g1 ?_;refine w_o (a:= .A (x1:Tr)) ?_;refine zda zN ?_;refine zer 8 (Enc.cells (x1:Tr)) ?_;refine zb (k0:=0) (id:=7) ?_;refine wq 2 ?_;obtain⟨g2,h⟩:=zf h;obtain⟨x2,hx2,h⟩:=zi h;refine zct (args':=[.A (x1:Tr)]) (r:= .i x2) (by rw[<-hx2];exact(ih x1 g2)) ?_;obtain⟨g3,h⟩:=zf h;refine zhk g3 ?_;refine zao ?_;refine zb (k0:=0) (id:=8) ?_;obtain⟨g4,h⟩:=zf h;refine zhk g4 ?_;refine zao ?_;refine zbe (p:=p1) ((s1.1+x2),(s1.2+1)) h ?_;exact zdk (bl 44 17592177686495) 1 (by kernel_rfl) (le_of_ble_eq_true rfl) (zbv (zab (zt _ _ (Enc.clo _)) rfl)) (by dsimp only[zau,zbs,foldl,List.set,bz,bzc,Nat.reduceMod,Nat.reduceDiv,Nat.reduceBEq,Nat.reduceAdd];exact(za rfl (za (by decide) (za rfl (za rfl (za rfl (za rfl (za rfl (za rfl (za rfl (za rfl (za rfl (za rfl (za (zbd (Enc.cloL _)) (by kernel_rfl))))))))))))))) (by kernel_rfl);refine zaa h (fun h=> ?_);refine zc (o:=or2) (s1.1) h ?_;exact zbc (bl 44 17592177657823);intro j2 h;refine zdj ?_;refine zan h (bz 0 42 4398038122698) (fun j3=>[(3,.i j3)]) (fun j3=>(.B [(29,(Enc.cells (t:Tr)))])) ?_ ?_;intro or3 h hr3;refine wq 4 ?_;refine zbu h (fun hc3 h=> ?_) (fun hc3 h=> ?_);refine wq 3 ?_;refine w_o (a:= .i (max t.mn 0)) (h:=zap (q_max rfl rfl rfl rfl rfl)) ?_;refine wq 5 ?_;refine w_o (a:= .i (max (max t.mn 0) t.mx)) (h:=zap (q_max rfl rfl rfl rfl rfl)) ?_;refine zao ?_;refine zan h (bz 0 38 274869518530) (fun j4=>[(7,.i j4)]) (fun j4=>(.B [(29,(Enc.cells (t:Tr)))])) ?_ ?_;intro or4 h hr4;refine wq 4 ?_;refine zbu h (fun hc4 h=> ?_) (fun hc4 h=> ?_);refine zb (k0:=0) (id:=13) ?_;refine zao ?_;refine w_o (a:= .i (max (max t.mn 0) 1)) (h:=zap (q_max rfl rfl rfl rfl rfl)) ?_;refine zao ?_;refine zc (o:=or4) ((max (max t.mn 0) 1)) h ?_;exact zbc (bl 44 17317316526013);refine zc (o:=or4) ((max (max t.mn 0) t.mx)) h ?_;exact zbc (bl 44 17317316526013);intro j4 h;refine zdj ?_;refine zb (k0:=0) (id:=14) ?_;refine wq 2 ?_;refine w_o (a:= .i (min j4 10001)) (h:=zap (q_min rfl rfl rfl rfl rfl)) ?_;obtain⟨g5,h⟩:=zf h;refine w_o (a:= .i (j2*(min j4 10001))) (h:=zap (qlz rfl rfl rfl rfl g5.1 g5.2)) ?_;refine zao ?_;refine zc (o:=or3) ((j2*(min j4 10001))) h ?_;exact zbc (bl 44 13194147921725);refine zc (o:=or3) (j2) h ?_;exact zbc (bl 44 13194147921725);intro j3 h;refine zdj ?_;refine wq 2 ?_;refine w_o (a:= .i (min j3 10001)) (h:=zap (q_min rfl rfl rfl rfl rfl)) ?_;refine zao ?_;exact zka h
def z0j (t:Tr):Option Int:=
 (chk ((pre t).length<2^61) (zay (zfv t) (fun x1=>(bif (!x1) then(some 10001) else(zcv (τ:=Int) (chk ((pre t).length<2^61) (zay (pre t) (fun x2=>(zcv (zeh (β:=Int) (fun s1 w1=>(chk (-9223372036854775808<=(s1+1)/\ (s1+1)<9223372036854775808) (some (inl ((s1+1)))))) x2 (0)) (fun s1=>(some (inl (s1)))))))) (fun j1=>(some j1)))))))
theorem ent36:Ent prog 36:=enters_of Tryz.func36 (by kernel_rfl) rfl
theorem qiy (t:Tr)(r:Int)(h:z0j t=some r):Pure (ITP prog) prog 36 [.A (t:Tr)] (.raw (.int .i64 r)):=by
 unfold z0j at h;refine zbl 12 mix Tryz.func36 ent36 ?_;refine wq 1 ?_;refine zda (Enc.cells (t:Tr)) ?_;refine wq 1 ?_;refine zj ?_;refine wq 2 ?_;obtain⟨g1,h⟩:=zf h;obtain⟨x1,hx1,h⟩:=zi h;refine zct (args':=[.A (t:Tr)]) (r:= .b x1) (by rw[<-hx1];exact(zyh t g1)) ?_;refine wq 1 ?_;refine zbu h (fun hc1 h=> ?_) (fun hc1 h=> ?_);refine wq 2 ?_;exact zka h;refine wq 1 ?_;refine zda [.i 0] ?_;refine zob 1 (.B [(29,(Enc.cells (t:Tr))),(3,[.i 0])]) ?_;refine zan h (bz 0 13 8183) (fun j1=>[]) (fun j1=>(.B [(29,(Enc.cells (t:Tr))),(3,[.i j1])])) ?_ ?_;intro or1 h hr1;refine wq 2 ?_;obtain⟨g2,h⟩:=zf h;obtain⟨x2,hx2,h⟩:=zi h;refine zct (args':=[.A (t:Tr)]) (r:= .iter (List.map zon x2)) (by rw[<-hx2];exact(zyo t g2)) ?_;refine zu ?_;refine znb h zon (fun s1=>(.B [(29,(Enc.cells (t:Tr))),(3,[.i s1])])) rfl (fun _=>rfl) rfl rfl ?_ ?_;intro s1 w1 p1 h;refine zbo (by dsimp only[zmg,List.zip,List.zipWith,foldl,List.set,Array.toList,zon]) rfl ?_;refine zu ?_;refine zb (k0:=0) (id:=5) ?_;refine wq 1 ?_;obtain⟨g3,h⟩:=zf h;refine zhk g3 ?_;refine zer 1 [.i (s1+1)] ?_;exact zfr (p:=p1) ((s1+1)) h (zbv (zab (zt _ _ (Enc.clo _)) (zab (by kernel_rfl) rfl))) (by kernel_rfl);intro s1 h;refine zc (o:=or1) (s1) h ?_;exact zbc (bl 13 8);intro j1 h;refine zdj ?_;refine wq 3 ?_;exact zka h
def zqw (t:Tr):Option Int:=
 (chk ((pre t).length<2^61) (zay (zfv t) (fun x1=>(bif (!x1) then(some 10001) else(zcv (τ:=Int) (chk ((pre t).length<2^61) (zay (pre t) (fun x2=>(zcv (zeh (β:=Int) (fun s1 w1=>(bif (((w1.k:Nat):Int)==6) then(chk (-9223372036854775808<=(s1+1)/\ (s1+1)<9223372036854775808) (some (inl ((s1+1))))) else(some (inl (s1))))) x2 (0)) (fun s1=>(some (inl (s1)))))))) (fun j1=>(some j1)))))))
theorem ent38:Ent prog 38:=enters_of Tryz.func38 (by kernel_rfl) rfl
theorem z5z (t:Tr)(r:Int)(h:zqw t=some r):Pure (ITP prog) prog 38 [.A (t:Tr)] (.raw (.int .i64 r)):=by
 unfold zqw at h;refine zbl 16 mix Tryz.func38 ent38 ?_;refine wq 1 ?_;refine zda (Enc.cells (t:Tr)) ?_;refine wq 1 ?_;refine zj ?_;refine wq 2 ?_;obtain⟨g1,h⟩:=zf h;obtain⟨x1,hx1,h⟩:=zi h;refine zct (args':=[.A (t:Tr)]) (r:= .b x1) (by rw[<-hx1];exact(zyh t g1)) ?_;refine wq 1 ?_;refine zbu h (fun hc1 h=> ?_) (fun hc1 h=> ?_);refine wq 2 ?_;exact zka h;refine wq 1 ?_;refine zda [.i 0] ?_;refine zob 1 (.B [(29,(Enc.cells (t:Tr))),(3,[.i 0])]) ?_;refine zan h (bz 0 17 131063) (fun j1=>[]) (fun j1=>(.B [(29,(Enc.cells (t:Tr))),(3,[.i j1])])) ?_ ?_;intro or1 h hr1;refine wq 2 ?_;obtain⟨g2,h⟩:=zf h;obtain⟨x2,hx2,h⟩:=zi h;refine zct (args':=[.A (t:Tr)]) (r:= .iter (List.map zon x2)) (by rw[<-hx2];exact(zyo t g2)) ?_;refine zu ?_;refine znb h zon (fun s1=>(.B [(29,(Enc.cells (t:Tr))),(3,[.i s1])])) rfl (fun _=>rfl) rfl rfl ?_ ?_;intro s1 w1 p1 h;refine zbo (by dsimp only[zmg,List.zip,List.zipWith,foldl,List.set,Array.toList,zon]) rfl ?_;refine zb (k0:=0) (id:=5) ?_;refine zda zN ?_;refine zer 8 (Enc.cells (w1:Tr)) ?_;refine zu ?_;refine wq 4 ?_;refine zbu h (fun hc2 h=> ?_) (fun hc2 h=> ?_);refine zb (k0:=0) (id:=7) ?_;refine wq 1 ?_;obtain⟨g3,h⟩:=zf h;refine zhk g3 ?_;refine zer 1 [.i (s1+1)] ?_;exact zfr (p:=p1) ((s1+1)) h (zbv (zab (zt _ _ (Enc.clo _)) (zab (by kernel_rfl) rfl))) (by kernel_rfl);exact zfr (p:=p1) (s1) h (zbv (zab (zt _ _ (Enc.clo _)) (zab (by kernel_rfl) rfl))) (by kernel_rfl);intro s1 h;refine zc (o:=or1) (s1) h ?_;exact zbc (bl 17 8);intro j1 h;refine zdj ?_;refine wq 3 ?_;exact zka h
end Go.Ab
namespace Go.Ab
open Go Go.RowKit Go.Fwd Go.Proofs
theorem zzn {α β ρ:Type} {body:β->α->Option (β ⊕ ρ)} (f:β->α->β)(I:β->Nat->Prop): ∀(xs:List α) (s:β),I s xs.length->(∀s x k,x∈xs->k<xs.length->I s (k+1)->body s x=some (.inl (f s x))/\ I (f s x) k)->zeh body xs s=some (.inl (xs.foldl f s))
 |[],s,_,_=>rfl
 | x::xs,s,h0,h=>by
  obtain⟨h1,h2⟩:=h s x xs.length (by simp) (by simp) h0;rw[zeh,h1];exact zzn f I xs (f s x) h2 fun s y k hy hk=>h s y k (by simp[hy]) (by simp;omega)
theorem z3k {α:Type} (p:α->Bool): ∀(xs:List α) (s:Int),xs.foldl (fun s x=>bif p x then s+1 else s) s=s+(xs.countP p:Int)
 |[],s=>by simp
 | x::xs,s=>by
  rw[List.foldl_cons,z3k p xs,List.countP_cons];cases p x<;>simp<;>omega
theorem k_size (t:Tr)(h:(pre t).length<2^61):Pure (ITP prog) prog 36 [.agg (Enc.cells t)] (.raw (.int .i64 (zsj t))):=by
 refine qiy t _ ?_;unfold z0j zsj;refine zg h (zk fun x1 e1=> ?_);subst e1;cases hl:zfv t with
 |false=>rfl
 | true=>
  refine zdl rfl (zat ((pre t).length:Int) (zg h (zk fun x2 e2=> ?_)) rfl);subst e2;refine zat ((pre t).length:Int) ?_ rfl;refine Eq.trans (zzn (fun(s:Int) _=>s+1) (fun s k=>0<=s/\ s+k<=(pre t).length) (pre t) 0 (by omega) (fun s x k _ hk hI=>⟨zg (by omega) rfl,by omega⟩)) ?_;have: ∀(xs:List Tr) (s:Int),xs.foldl (fun s _=>s+1) s=s+(xs.length:Int):=fun xs=>by
   induction xs with
   |nil=>intro s;simp
   |cons x xs ih=>intro s;rw[List.foldl_cons,ih,length_cons];omega
  rw[this,Int.zero_add]
theorem qoe (t:Tr)(h:(pre t).length<2^61):Pure (ITP prog) prog 38 [.agg (Enc.cells t)] (.raw (.int .i64 (zul t))):=by
 refine z5z t _ ?_;unfold zqw zul;refine zg h (zk fun x1 e1=> ?_);subst e1;cases hl:zfv t with
 |false=>rfl
 | true=>
  refine zdl rfl (zat (((pre t).countP fun x=>decide (x.k=6)):Int) (zg h (zk fun x2 e2=> ?_)) rfl);subst e2;refine zat (((pre t).countP fun x=>decide (x.k=6)):Int) ?_ rfl;refine Eq.trans (zzn (fun(s:Int) x=>bif decide (x.k=6) then s+1 else s) (fun s k=>0<=s/\ s+k<=(pre t).length) (pre t) 0 (by omega) (fun s x k _ hk hI=> ?_)) ?_
  rotate_left
  ·rw[z3k (fun x:Tr=>decide (x.k=6)),Int.zero_add]
  ·by_cases h6:x.k=6
   ·simp only[h6,decide_true,cond_true];exact⟨zg (by omega) rfl,by omega⟩
   ·rw[show decide (x.k=6)=false by simpa using h6];exact⟨zdl (by simp;omega) rfl,by simp only[cond_false];omega⟩
theorem posn_eq {fuel:Nat} (n:Nat)(t:Tr)(h:(pre t).length<=10000)(hn:(pre t).length<n+1)(hf:10001<fuel):z9z fuel n t=some (zlu t):=by
 have hp:(pre t).length=1+(zbi t.l).length:=by rw[zec,length_cons];omega
 have hlen:=zaw t.l;have hpl:=z6u t.l;have hpn:=zed t.l;unfold z9z;have hpos:zlu t=min (if t.k=5 then((if t.k=2 then 1 else 0)+zfb t.l)*min (if t.mx= -1 then max (max t.mn 0) 1 else max (max t.mn 0) t.mx) 10001 else(if t.k=2 then 1 else 0)+zfb t.l) 10001:=by
  obtain⟨k,s,mn,mx,l⟩:=t;rw[zlu];rfl
 rw[hpos];refine zat (if t.k=2 then 1 else 0) ?_ ?_
 ·by_cases h2:t.k=2
  ·rw[if_pos h2];exact zds (by simp[h2]) rfl
  ·rw[if_neg h2];exact zdl (by simp;omega) rfl
 ·generalize hb:(if t.k=2 then(1:Int) else 0)=b
  have hb1:0<=b/\ b<=1:=by rw[<-hb];split<;>omega
  refine zat (b+zfb t.l) ?_ ?_
  ·refine zit t.l.length (fun i=>(b+zfb (t.l.take i),(i:Int))) (by simp[zfb]) (fun i hi=> ?_) ?_ (by omega)
   ·refine zds (by simpa using hi) (zg (by simp only;omega) (zk fun x1 e1=> ?_));simp only at e1;rw[zgy hi] at e1;have hm:x1∈t.l:=e1▸getElem_mem hi;have hx:=zcp hm;have q1:=z6u (t.l.take i);have q2:=zed (t.l.take i);have q3:=qgu x1;have q4:=zkx x1;have q5:(t.l.take i).length<=t.l.length:=List.length_take_le' _ _;refine zg (by omega) (zk fun x2 e2=>zg (by simp only;omega) (zg (by simp only;omega) ?_));rw[qgp _ _ hi,e1, <-e2];simp only[Int.add_assoc];rfl
   ·refine zdl (by simp) ?_;simp
  ·generalize hj:b+zfb t.l=j
   have hj1:0<=j/\ j<=200000000:=by omega
   by_cases h5:t.k=5
   ·rw[if_pos h5];generalize hq:(if t.mx= -1 then max (max t.mn 0) 1 else max (max t.mn 0) t.mx)=q
    have hm:0<=min q 10001/\ min q 10001<=10001:=by
     have:0<=q:=by rw[<-hq];split<;>omega
     omega
    have hmul:0<=j*min q 10001/\ j*min q 10001<=200000000*10001:=⟨Int.mul_nonneg hj1.1 hm.1,Int.mul_le_mul hj1.2 hm.2 hm.1 (by omega)⟩;refine zat (j*min q 10001) (zds (by simp[h5]) (zat q ?_ (zg (by omega) rfl))) rfl;by_cases hx:t.mx= -1
    ·rw[if_pos hx] at hq;exact zds (by simp[hx]) (by rw[hq])
    ·rw[if_neg hx] at hq;exact zdl (by simpa using hx) (by rw[hq])
   ·rw[if_neg h5];exact zat j (zdl (by simp;omega) rfl) rfl
theorem z9n: ∀(n:Nat) (t:Tr),(pre t).length<n->(pre t).length<=10000->Pure (ITP prog) prog 67 [.agg (Enc.cells t)] (.raw (.int .i64 (zlu t)))
 |0,t,h,_=>absurd h (Nat.not_lt_zero _)
 | n+1,t,h,hl=>by
  have hp:(pre t).length=1+(zbi t.l).length:=by rw[zec,length_cons];omega
  exact posn_sh 10002 (min n 10000) t _ (fun x hx=>z9n n x (by omega) (by omega)) (posn_eq (min n 10000) t hl (by omega) (by decide))
theorem k_posn (t:Tr)(h:(pre t).length<=10000):Pure (ITP prog) prog 67 [.agg (Enc.cells t)] (.raw (.int .i64 (zlu t))):=z9n 10001 t (by omega) h
variable {n:Nat} {c:Call} {y h1 h2:Operand} {k':IntKind} {j:Int}
def z0r (b n sz:Nat):AV:=match n with|0=> .list 0 [] .full|n+1=> .bsl b 0 (n+1) sz false
section
variable {α:Type}
theorem zgm {e:List α} (h:e.isEmpty=true)(b sz:Nat):z0r b e.length sz= .list 0 [] .full:=by rw[List.isEmpty_iff.1 h];rfl
theorem zhb {e:List α} (h:e.isEmpty=false)(b sz:Nat):z0r b e.length sz= .bsl b 0 e.length sz false:=by
 cases e with
 |nil=>cases h
 |cons x l=>rfl
theorem zmj {l:List α} (h:l.length=n)(hp:0<n)(b sz:Nat):AV.bsl b 0 n sz false=z0r b l.length sz:=by
 subst h;cases l with
 |nil=>exact absurd hp (Nat.lt_irrefl _)
 |cons x l=>rfl
theorem qmd {m b sz:Nat} {z:FZ} (h: ∀k,zhx m z (.bsl b 0 (k+1) sz false)= .bsl b 0 (k+1) sz false):zhx m z (z0r b n sz)=z0r b n sz:=by
 cases n with
 |zero=>rfl
 |succ n=>exact h n
theorem zuf {e:List α} (h:e.isEmpty=false):0<e.length:=by
 cases e with
 |nil=>cases h
 |cons x l=>simp
end
section
variable {α:Type} [Enc α] {P:Program} {ρ:Operand->AV} {U:St} {o:Oper}
theorem zpx {x:Operand} {t e:TypeId} {i:TypeInfo} {z:Value} {by':Nat} {r:List α} {st:Room} (hn:0<r.length/\ r.length*by'<=140737488355328)(ho:o.op= .call c)(hc:c.callee= .builtin .append)(ha:c.args.toList=[x,y])(ht:c.argTypes.toList=[t,t])
 (hx:ρ x= .list 0 [] .full) (hy:ρ y= .list r.length (Enc.cellsL r) st) (hu:P.underlying t=some (.slice e)) (hi:P.info? e=some i) (hz:i.zero=some z) (hsz:i.size=Enc.sz α) (hzs:z.cells.size=Enc.sz α) (hby:i.bytes=by'/\ 0<by'):
 zwa P ρ U o=some (.bsl U.boxes.length 0 r.length (Enc.sz α) false,{U with boxes:=U.boxes++[(e,Enc.cellsL r)]}):=by
 obtain⟨h1,h2⟩:=hn;have hp:=Enc.pos (α:=α);have hsrc:qcy P U (Enc.sz α) t t (ρ y)=some (r.length,Enc.cellsL r):=by rw[hy];exact zph ⟨rfl,by rw[Enc.lenL],by omega⟩
 have hmax:r.length<=maxLen:=by
  unfold maxLen;have:r.length*1<=r.length*by':=Nat.mul_le_mul_left _ hby.2
  omega
 have h:=z8l (P:=P) (U:=U) ho hc ha ht hx hu hi hz hsz hsrc ⟨hp,hzs,h1⟩ ⟨by simp,by rw[zero_add];exact hmax,by rw[zero_add,hby.1];exact h2⟩;rw[h,zero_add,List.nil_append]
theorem z9v {x:Operand} {t e:TypeId} {i:TypeInfo} {z:Value} {s by':Nat} {l r:List α} {st:Room} (hn:n<=l.length/\ 0<r.length/\ (n+r.length)*by'<=140737488355328)(ho:o.op= .call c)(hc:c.callee= .builtin .append)(ha:c.args.toList=[x,y])(ht:c.argTypes.toList=[t,t])
 (hx:ρ x= .bsl s 0 n (Enc.sz α) true) (hy:ρ y= .list r.length (Enc.cellsL r) st) (hb:U.boxes[s]? =some (e,Enc.cellsL l)) (hu:P.underlying t=some (.slice e)) (hi:P.info? e=some i) (hz:i.zero=some z) (hsz:i.size=Enc.sz α) (hzs:z.cells.size=Enc.sz α) (hby:i.bytes=by'/\ 0<by'):
 zwa P ρ U o=some (.bsl U.boxes.length 0 (n+r.length) (Enc.sz α) false,{U with boxes:=U.boxes++[(e,Enc.cellsL (l.take n++r))]}):=by
 obtain⟨h1,h3,h4⟩:=hn;have hp:=Enc.pos (α:=α);have hsrc:qcy P U i.size t t (ρ y)=some (r.length,Enc.cellsL r):=by rw[hy];exact zph ⟨rfl,by rw[Enc.lenL,hsz],by omega⟩
 have hmax:n+r.length<=maxLen:=by
  unfold maxLen;have:(n+r.length)*1<=(n+r.length)*by':=Nat.mul_le_mul_left _ hby.2
  omega
 have hle:0+n*Enc.sz α<=(Enc.cellsL l).length:=by rw[Enc.lenL,zero_add];exact Nat.mul_le_mul_right _ h1
 have hnn:zsd (.bsl s 0 n (Enc.sz α) true)=false:=rfl;have c1:0<i.size/\ z.cells.size=i.size/\ 0<r.length:=⟨by omega,by omega,h3⟩;have c2:Enc.sz α=i.size/\ n+r.length<=maxLen/\ (n+r.length)*i.bytes<=140737488355328/\ 0+n*Enc.sz α<=(Enc.cellsL l).length:=⟨hsz.symm,hmax,by rw[hby.1];exact h4,hle⟩;simp only[zwa,ho,hc,ha,ht,hx,hnn,Bool.false_eq_true,if_false,zow,hu,hi,hz,hsrc,hb,if_pos c1,if_pos c2,if_true,List.drop_zero];rw[Enc.app,Enc.take]
theorem qpd {t e:TypeId} {x:Operand} {s:Nat} {f:Bool} {k:IntKind} (g:0<j/\ j<=n)(ho:o.op= .slice t x none (some h1) (some h2))(hx:ρ x= .bsl s 0 n (Enc.sz α) f)(hi:ρ h1= .raw (.int k j))(hi2:ρ h2= .raw (.int k' j))(hu:P.underlying t=some (.slice e))(hs:zcr P e=some (Enc.sz α)):
 qop P ρ U o=some (.bsl s 0 j.toNat (Enc.sz α) true):=by
 have h4:zel n none (some (.raw (.int k j))) (some (.raw (.int k' j)))=some (0,j.toNat,true):=by
  have c:0<=j/\ j<=(n:Int):=by omega
  have c2:0<=j/\ j<=((j.toNat:Nat):Int):=by omega
  have c3:(0<=j/\ j<=max j 0):=by omega
  simp only[zel,zio,if_pos c];first|rw[if_pos c]|skip
  simp[if_pos c3]
 have hlt:0<j.toNat:=by omega
 simp only[qop,ho,hx,hi,hi2,Option.map_some,Option.map_none,zls,hu,hs,h4,if_true,if_pos hlt,zero_add,Nat.zero_mul,Nat.sub_zero];simp
theorem qhe {t e:TypeId} {x:Operand} {s:Nat} {f:Bool} {k:IntKind} (g:j=0)(ho:o.op= .slice t x none (some h1) (some h2))(hx:ρ x= .bsl s 0 n (Enc.sz α) f)(hi:ρ h1= .raw (.int k j))(hi2:ρ h2= .raw (.int k' j))(hu:P.underlying t=some (.slice e))(hs:zcr P e=some (Enc.sz α)):
 qop P ρ U o=some (.list 0 [] .full):=by
 subst g;have h4:zel n none (some (.raw (.int k 0))) (some (.raw (.int k' 0)))=some (0,0,true):=by
  have c:0<=(0:Int)/\ (0:Int)<=(n:Int):=by omega
  simp only[zel,zio,if_pos c];first|rw[if_pos c]|skip
  simp
 simp only[qop,ho,hx,hi,hi2,Option.map_some,Option.map_none,zls,hu,hs,h4,if_true,Nat.lt_irrefl,if_false];simp
theorem q_bslLz {t e:TypeId} {x i:Operand} {s:Nat} {k:IntKind} (g:0<=j/\ j=n)(ho:o.op= .slice t x (some i) none none)(hx:ρ x= .bsl s 0 n (Enc.sz α) false)(hi:ρ i= .raw (.int k j))(hu:P.underlying t=some (.slice e))(hs:zcr P e=some (Enc.sz α)):
 qop P ρ U o=some (.list 0 [] .none):=by
 have h4:zel n (some (.raw (.int k j))) none none=some (j.toNat,n,false):=by
  have c:0<=j/\ j<=(n:Int):=by omega
  simp only[zel,zio,if_pos c]
 have hlt: ¬j.toNat<n:=by omega
 simp only[qop,ho,hx,hi,Option.map_some,Option.map_none,zls,hu,hs,h4,if_true,if_neg hlt];simp
theorem q_idxBO {t e:TypeId} {x i:Operand} {s off:Nat} {f:Bool} {k:IntKind} (g:0<=j/\ j<n)(ho:o.op= .indexAddr t x i)(hx:ρ x= .bsl s (off*Enc.sz α) n (Enc.sz α) f)(hi:ρ i= .raw (.int k j))(hu:P.underlying t=some (.slice e))(hs:zcr P e=some (Enc.sz α)):
 qop P ρ U o=some (.ptr s (0+((off:Int)+j).toNat*Enc.sz α)):=by
 rw[z9r ho hx hi hu hs g];congr 2
 rw[show((off:Int)+j).toNat=off+j.toNat by omega,Nat.add_mul,zero_add]
end
section
variable {P:Program} {ρ:Operand->AV} {U:St} {o:Oper}
theorem q_max3 {x z:Operand} {k k'':IntKind} {m n r:Int} (ho:o.op= .call c)(hc:c.callee= .builtin .max)(ha:c.args= #[x,y,z])(hx:ρ x= .raw (.int k m))(hy:ρ y= .raw (.int k' n))(hz:ρ z= .raw (.int k'' r)):qop P ρ U o=some (.raw (.int k (max (max m n) r))):=by
 have e:(if n>m then n else m)=max m n:=by split<;>omega
 have e2:(if r>max m n then r else max m n)=max (max m n) r:=by split<;>omega
 simp[qop,zga,ho,hc,ha,Op.operands,Call.operands,hx,hy,hz,zdt,execOp,zbz,resolve,invoke,builtin,Builtin.max_,Builtin.max2,val?,zop,zjf,zjn,e,e2];simp[Pure.pure,Bind.bind,Sem.bind,val?,zop,zjf,zjn,e,e2]
end
theorem pos_ofP {α:Type} {l:List α} (h:l.isEmpty=false):0<l.length:=by cases l with|nil=>cases h|cons=>simp
theorem wmp {k0:Nat} {S S':List AV} {U U':St} (m:List Bool)(n:Nat)(fs js:List Nat)(d:Nat)(hn:k0<=n)(hσ:zeo U U.lens.length n fs js d=U')(hok:zcz U n js=true:=by exact rfl)(h:fgM m (zy U.lens.length (kz U.boxes U.lens.length n fs js d) S)=S':=by
 try dsimp only[zau,zbs,List.foldl,List.set,bz,bzc,Nat.reduceMod,Nat.reduceDiv,Nat.reduceBEq,Nat.reduceAdd]
 repeat(first|exact zig|refine zff rfl ?_|refine zff (zak _ _ _ rfl) ?_|refine zff (qmd (fun _=>rfl)) ?_|refine zff (zak _ _ _ (zky (Enc.cloL _))) ?_|refine zff (zmj (by first|(simp;done)|(simp only[List.length_append,List.length_take];omega)) (by first|(simp;done)|exact pos_ofP (by assumption)) _ _) ?_|apply zut)):Wk k0 S U S' U':=zre m n fs js d hn hok h hσ
section
variable {IT:IterP} {P:Program} {W:Owed} {k0:Nat}
end
section
variable {α:Type} [Enc α] {P:Program} {ρ:Operand->AV} {U:St} {o:Oper}
end
theorem q_lenP {α:Type} [Enc α] {P:Program} {ρ:Operand->AV} {U:St} {o:Oper} {c:Call} {x:Operand} {t e:TypeId} {l:List α} {b sz:Nat} (ho:o.op= .call c)(hc:c.callee= .builtin .len)(ha:c.args.toList=[x])(ht:c.argTypes.toList=[t])(hx:ρ x=z0r b l.length sz)(hu:P.underlying t=some (.slice e)):
 qop P ρ U o=some (.raw (.int .i64 (l.length:Int))):=by
 cases l with
 | nil=>
  have hx:ρ x= .list 0 [] .full:=hx;simp[qop,ho,hc,ha,ht,hx,qcz,hu]
 | cons y l=>
  have hx:ρ x= .bsl b 0 (l.length+1) sz false:=hx;simp[qop,ho,hc,ha,ht,hx,qcz,hu]
theorem qfe {α:Type} [Enc α] {l:List α} (h:0<l.length):zbr l.length (Enc.cellsL l)= .list l.length (Enc.cellsL l) (.own 0):=by
 unfold zbr;rw[if_neg (by omega)]
theorem q_idxO {α:Type} [Enc α] {P:Program} {ρ:Operand->AV} {U:St} {o:Oper} {t e:TypeId} {x i:Operand} {l:List α} {k:IntKind} {n:Int} (hb:0<=n/\ n<l.length)(ho:o.op= .indexAddr t x i)(hx:ρ x=zbr l.length (Enc.cellsL l))(hi:ρ i= .raw (.int k n))(hu:P.underlying t=some (.slice e))(hs:zcr P e=some (Enc.sz α)):
 qop P ρ U o=some (.iptr (Enc.cells (ix l n)++Enc.cellsL (l.drop (n.toNat+1)))):=qcd hb ho (hx.trans (qfe (by omega))) hi hu hs
theorem pos_of0 {α:Type} {l:List α} (h:((l.length:Int)==0)=false):0<l.length:=by
 have: ¬((l.length:Int)=0):=by simpa using h
 omega
def lbU (n:Nat):List UInt8:=(zxc (n%12)).map UInt8.ofNat
def clsU (l:List UInt8):Tr:=z8b (l.map UInt8.toNat)
def clsA:List (List UInt8):=[[97],[98],[97,98],[99],[97,98,99],[98,99],[10],[0,255],[]]
theorem qgy: ∀n:Nat,n<256->lbU n∈clsA/\ bsOf ((lbU n).map UInt8.toNat)=bsOf (zxc (n%12)):=by decide+kernel
theorem clsU_lb (n:Nat)(h:n<256):clsU (lbU n)=z8b (zxc (n%12)):=by rw[clsU,z8b,(qgy n h).2];rfl
noncomputable def run1 (f:Nat)(args:List AV)(r:AV):Bool:=match zlo prog noP (evQ true prog noP noS 300) f args with
 |some x=>z5w x r
 |none=>false
theorem zyr {f:Nat} {args:List AV} {r:AV} (h:run1 f args r=true):Pure (ITP prog) prog f args r:=by
 unfold run1 at h;split at h
 ·rename_i x hx;rw[qev _ _ h] at hx;exact zde true goodN 300 hx
 ·cases h
theorem let_tab:((List.range 256).all fun n=>run1 27 [.raw (.int .u8 (n:Int))] (.raw (.string (bs (lbU n)))))=true:=by kernel_rfl
theorem qeg (n:Int)(h:0<=n/\ n<256):Pure (ITP prog) prog 27 [.raw (.int .u8 n)] (.raw (.string (bs (lbU n.toNat)))):=by
 obtain⟨m,rfl⟩: ∃m:Nat,n=m:=⟨n.toNat,by omega⟩;rw[Int.toNat_natCast];exact zyr (all_eq_true.1 let_tab m (mem_range.2 (by omega)))
theorem cls_tab:(clsA.all fun l=>run1 26 [.raw (.string (bs l))] (.agg (Enc.cells (clsU l))))=true:=by kernel_rfl
theorem zty (l:List UInt8)(h:l∈clsA):Pure (ITP prog) prog 26 [.raw (.string (bs l))] (.agg (Enc.cells (clsU l))):=zyr (all_eq_true.1 cls_tab l h)
end Go.Ab
namespace Go.Ab
open Go Go.RowKit Go.Fwd
section
variable {P:Program} {ρ:Operand->AV} {U:St} {o:Oper}
theorem zep {x:Operand} {t:TypeId} {l:List UInt8} (ho:o.op= .call ⟨.builtin .len, #[x], #[t]⟩)(hx:ρ x= .raw (.string (bs l)))(hu:P.underlying t=some .string):qop P ρ U o=some (.raw (.int .i64 (l.length:Int))):=by
 have h2:qcz P t (.raw (.string (bs l)))=none:=rfl;have h1:o.op.operands.toList.all (fun x=>(zdt (ρ x)).isSome)=true:=by rw[ho];simp[Op.operands,Call.operands,hx,zdt]
 have h3:val? P (execOp (zbz ρ) o)=some (.value (.int .i64 (l.length:Int))):=by
  have hsz:(bs l).size=l.length:=rfl;simp[execOp,ho,resolve,invoke,zbz,hx,zdt,builtin,Builtin.len_,underlying,goInt,hsz];simp only[program,Bind.bind,Pure.pure,Functor.map,Sem.bind,val?,hu,hsz];rfl
 have h4:zga P ρ o=some (.raw (.int .i64 (l.length:Int))):=by
  unfold zga;rw[if_pos h1,ho,h3];rfl
 simp only[qop,ho,hx,h2,h4]
end
theorem bs_beq (a b:List UInt8):((bs a).toList==(bs b).toList)=decide (a=b):=by
 rw[ByteArray.toList_eq,ByteArray.toList_eq]
 show((a.toArray.toList)==(b.toArray.toList))=_
 by_cases h:a=b<;>simp[h]
section
variable {P:Program} {ρ:Operand->AV} {U:St} {o:Oper}
theorem bs_app (a b:List UInt8):bs a++bs b=bs (a++b):=by
 apply ByteArray.ext
 show(bs a++bs b).data=_
 rw[ByteArray.data_append];simp[bs]
theorem qdt {t:TypeId} {x y:Operand} {c} {a b:List UInt8} (ho:o.op= .binOp .eql t x y c)(hx:ρ x= .raw (.string (bs a)))(hy:ρ y= .raw (.string (bs b))):qop P ρ U o=some (.raw (.bool (a==b))):=by
 have hst:(a==b)=decide (a=b):=by by_cases h:a=b<;>simp[h]
 have h3:val? P (execOp (zbz ρ) o)=some (.value (.bool (a==b))):=by
  rw[hst, <-bs_beq];simp[execOp,ho,zbz,hx,hy,zdt,eqGuard,binOp,Op.stringOp];rfl
 have h1:o.op.operands.toList.all (fun x=>(zdt (ρ x)).isSome)=true:=by rw[ho];simp[Op.operands,hx,hy,zdt]
 have h4:zga P ρ o=some (.raw (.bool (a==b))):=by
  unfold zga;rw[if_pos h1,ho,h3];rfl
 simp only[qop,ho,hx,hy,h4]
end
end Go.Ab
namespace Go.Ab
open Go Go.RowKit Go.Fwd Go.Proofs
variable {ρ:Operand->AV} {U:St} {o:Oper}
theorem zbh {P:Program} {t:TypeId} {x y:Operand} {c} {a b:List UInt8} (g:a.length+b.length<=9223372036854775807)(ho:o.op= .binOp .add t x y c)(hx:ρ x= .raw (.string (bs a)))(hy:ρ y= .raw (.string (bs b))):qop P ρ U o=some (.raw (.string (bs (a++b)))):=by
 have hs: ¬((((bs a).size+(bs b).size:Nat):Int)>IntKind.i64.max):=by
  have h1:(bs a).size=a.length:=rfl;have h2:(bs b).size=b.length:=rfl;have h3:IntKind.i64.max=9223372036854775807:=rfl;rw[h1,h2,h3];omega
 have h3:val? P (execOp (zbz ρ) o)=some (.value (.string (bs (a++b)))):=by
  rw[<-bs_app];simp only[execOp,ho,zbz,hx,hy,zdt,eqGuard,binOp,Op.stringOp,Option.getD_some];simp only[if_neg hs];rfl
 have h1:o.op.operands.toList.all (fun x=>(zdt (ρ x)).isSome)=true:=by rw[ho];simp[Op.operands,hx,hy,zdt]
 have h4:zga P ρ o=some (.raw (.string (bs (a++b)))):=by
  unfold zga;rw[if_pos h1,ho,h3];rfl
 simp only[qop,ho,hx,hy,h4]
theorem qll {x:Operand} {b:Nat} {tt:TypeId} {i:Int} (t:Tr)(hi:0<=i/\ i<4)(ho:o.op= .load 24 x)(hx:ρ x= .ptr b (1+i.toNat*1))(hb:U.boxes[b]? =some (tt,Enc.cells t)):qop prog ρ U o=some (.raw (.int .u64 (wd t.s i.toNat))):=by
 have key: ∀j:Nat,j<4->rd prog 24 ((Enc.cells t).drop (1+j*1))=some (.raw (.int .u64 (wd t.s j))):=by
  intro j hj;obtain⟨k,s,mn,mx,l⟩:=t
  match j,hj with
  |0,_=>rfl
  |1,_=>rfl
  |2,_=>rfl
  |3,_=>rfl
 simp only[qop,ho,zlw,hx,hb];exact key i.toNat (by omega)
def hexD (n:Nat):UInt8:=UInt8.ofNat (if n<10 then 48+n else 87+n)
def hexS (n:Nat):List UInt8:=[92,120,hexD (n/16),hexD (n%16)]
def zhi (n:Nat):List UInt8:=if n<10 then[UInt8.ofNat (48+n)] else[49,UInt8.ofNat (38+n)]
theorem hex_tab:((List.range 256).all fun n=>run1 31 [.raw (.int .u8 (n:Int))] (.raw (.string (bs (hexS n)))))=true:=by kernel_rfl
theorem k_hex (c:Int)(h:0<=c/\ c<256):Pure (ITP prog) prog 31 [.raw (.int .u8 c)] (.raw (.string (bs (hexS (toNat c))))):=by
 have:=zyr (all_eq_true.1 hex_tab c.toNat (mem_range.2 (by omega)));rwa[Int.toNat_of_nonneg h.1] at this
theorem qky:((List.range 20).all fun n=>run1 22 [.raw (.int .i64 (n:Int))] (.raw (.string (bs (zhi n)))))=true:=by kernel_rfl
theorem qpq (c:Int)(h:0<=c/\ c<20):Pure (ITP prog) prog 22 [.raw (.int .i64 c)] (.raw (.string (bs (zhi (toNat c))))):=by
 have:=zyr (all_eq_true.1 qky c.toNat (mem_range.2 (by omega)));rwa[Int.toNat_of_nonneg h.1] at this
def zfq (s:BS):List Nat:=(List.range 256).filter fun i=>s.getLsbD i
mutual
def zdc:Tr->List UInt8
 | .mk k s mn mx l=>
  if k=2 then[91]++(zfq s).flatMap hexS++[93]
  else if k=3 then zlz l
  else if k=4 then zjb true l
  else if k=6 then[40]++qap l++[41]
  else if k=5 then[40,63,58]++qap l++[41,123]++zhi mn.toNat++[44]++(if mx= -1 then[] else zhi mx.toNat)++[125]
  else[]
def zlz:List Tr->List UInt8
 |[]=>[]
 |x::l=>[40,63,58]++zdc x++[41]++zlz l
def zjb:Bool->List Tr->List UInt8
 |_,[]=>[]
 |b,x::l=>(if b=true then[] else[124])++[40,63,58]++zdc x++[41]++zjb false l
def qap:List Tr->List UInt8
 |[]=>[]
 |x::_=>zdc x
end
def SY (t:Tr):Prop:=(∀x∈pre t,(x.k=5->(0<=x.mn/\ x.mn<20)/\ (x.mx= -1 \/0<=x.mx/\ x.mx<20))/\ (x.k=5 \/x.k=6->x.l≠[]))/\ (zdc t).length<=2^40
instance (t:Tr):Decidable (SY t):=by unfold SY;infer_instance
end Go.Ab
namespace Go.Ab
open Go Go.RowKit Go.Fwd Go.Proofs
def z7v (fuel:Nat)(n:Nat)(t:Tr):Option (List UInt8):=
 (zcv (τ:=(List UInt8)) (bif (((t.k:Nat):Int)==2) then(zcv (τ:=(List UInt8)) (zaz (β:=(List UInt8)×Int) (fun s1=>(bif (decide (s1.2<256)) then(zcv (τ:=(List UInt8)) (chk (0<=(IntKind.i64.wrap (tdiv s1.2 64))/\ (IntKind.i64.wrap (tdiv s1.2 64))<4) (chk (0<=(tmod s1.2 64)) (bif ((zly .u64 (zfz .u64 (wd t.s (toNat (IntKind.i64.wrap (tdiv s1.2 64)))) (tmod s1.2 64)) 1)==1) then(chk (0<=(IntKind.u8.wrap s1.2)/\ (IntKind.u8.wrap s1.2)<256) (zay (hexS (toNat (IntKind.u8.wrap s1.2))) (fun x1=>(chk (length s1.1+length x1<=9223372036854775807) (some (inl ((s1.1++x1)))))))) else(some (inl (s1.1)))))) (fun j3=>(chk (-9223372036854775808<=(s1.2+1)/\ (s1.2+1)<9223372036854775808) (some (inl (j3,(s1.2+1))))))) else(some (inr (inl (s1.1)))))) fuel (([]:List UInt8),0)) (fun j2=>(chk (length ([91]:List UInt8)+length j2<=9223372036854775807) (chk (length (([91]:List UInt8)++j2)+length ([93]:List UInt8)<=9223372036854775807) (some (inr ((([91]:List UInt8)++j2)++([93]:List UInt8)))))))) else(bif (((t.k:Nat):Int)==3) then(zaz (β:=(List UInt8)×Int) (fun s2=>(bif (decide (s2.2<(length t.l:Int))) then(chk (0<=s2.2/\ s2.2<(length t.l:Int)) (zay (ix t.l s2.2) (fun x2=>(chk ((pre x2).length<n/\ SY x2) (zay (zdc x2) (fun x3=>(chk (length ([40,63,58]:List UInt8)+length x3<=9223372036854775807) (chk (length (([40,63,58]:List UInt8)++x3)+length ([41]:List UInt8)<=9223372036854775807) (chk (length s2.1+length ((([40,63,58]:List UInt8)++x3)++([41]:List UInt8))<=9223372036854775807) (chk (-9223372036854775808<=(s2.2+1)/\ (s2.2+1)<9223372036854775808) (some (inl ((s2.1++((([40,63,58]:List UInt8)++x3)++([41]:List UInt8))),(s2.2+1)))))))))))))) else(some (inr (inl (s2.1)))))) fuel (([]:List UInt8),0)) else(bif (((t.k:Nat):Int)==4) then(zaz (β:=(List UInt8)×Int) (fun s3=>(bif (decide (s3.2<(length t.l:Int))) then(chk (0<=s3.2/\ s3.2<(length t.l:Int)) (zay (ix t.l s3.2) (fun x4=>(zcv (τ:=(List UInt8)) (bif (decide (s3.2>0)) then(chk (length s3.1+length ([124]:List UInt8)<=9223372036854775807) (some (inl ((s3.1++([124]:List UInt8)))))) else(some (inl (s3.1)))) (fun j4=>(chk ((pre x4).length<n/\ SY x4) (zay (zdc x4) (fun x5=>(chk (length ([40,63,58]:List UInt8)+length x5<=9223372036854775807) (chk (length (([40,63,58]:List UInt8)++x5)+length ([41]:List UInt8)<=9223372036854775807) (chk (length j4+length ((([40,63,58]:List UInt8)++x5)++([41]:List UInt8))<=9223372036854775807) (chk (-9223372036854775808<=(s3.2+1)/\ (s3.2+1)<9223372036854775808) (some (inl ((j4++((([40,63,58]:List UInt8)++x5)++([41]:List UInt8))),(s3.2+1)))))))))))))))) else(some (inr (inl (s3.1)))))) fuel (([]:List UInt8),0)) else(bif (((t.k:Nat):Int)==6) then(chk (0<=(0:Int)/\ (0:Int)<(length t.l:Int)) (zay (ix t.l (0:Int)) (fun x6=>(chk ((pre x6).length<n/\ SY x6) (zay (zdc x6) (fun x7=>(chk (length ([40]:List UInt8)+length x7<=9223372036854775807) (chk (length (([40]:List UInt8)++x7)+length ([41]:List UInt8)<=9223372036854775807) (some (inr ((([40]:List UInt8)++x7)++([41]:List UInt8)))))))))))) else(bif (((t.k:Nat):Int)==5) then(chk (0<=(0:Int)/\ (0:Int)<(length t.l:Int)) (zay (ix t.l (0:Int)) (fun x8=>(chk ((pre x8).length<n/\ SY x8) (zay (zdc x8) (fun x9=>(chk (length ([40,63,58]:List UInt8)+length x9<=9223372036854775807) (chk (length (([40,63,58]:List UInt8)++x9)+length ([41,123]:List UInt8)<=9223372036854775807) (chk (0<=t.mn/\ t.mn<20) (zay (zhi (toNat t.mn)) (fun x10=>(chk (length ((([40,63,58]:List UInt8)++x9)++([41,123]:List UInt8))+length x10<=9223372036854775807) (chk (length (((([40,63,58]:List UInt8)++x9)++([41,123]:List UInt8))++x10)+length ([44]:List UInt8)<=9223372036854775807) (zcv (τ:=(List UInt8)) (bif (t.mx !=(-1)) then(chk (0<=t.mx/\ t.mx<20) (zay (zhi (toNat t.mx)) (fun x11=>(chk (length ((((([40,63,58]:List UInt8)++x9)++([41,123]:List UInt8))++x10)++([44]:List UInt8))+length x11<=9223372036854775807) (some (inl ((((((([40,63,58]:List UInt8)++x9)++([41,123]:List UInt8))++x10)++([44]:List UInt8))++x11)))))))) else(some (inl (((((([40,63,58]:List UInt8)++x9)++([41,123]:List UInt8))++x10)++([44]:List UInt8)))))) (fun j5=>(chk (length j5+length ([125]:List UInt8)<=9223372036854775807) (some (inr (j5++([125]:List UInt8)))))))))))))))))))) else(some (inl (([]:List UInt8))))))))) (fun j1=>(some j1)))
theorem ent10:Ent prog 10:=enters_of Tryz.func10 (by kernel_rfl) rfl
theorem say1_sh (fuel:Nat)(n:Nat)(t:Tr)(r:(List UInt8))(ih: ∀x:Tr,(pre x).length<n/\ SY x->Pure (ITP prog) prog 10 [.A x] (.raw (.string (bs (zdc x)))))(h:z7v fuel n t=some r):Pure (ITP prog) prog 10 [.A (t:Tr)] (.raw (.string (bs r))):=by
 unfold z7v at h;refine zbl 105 mix Tryz.func10 ent10 ?_;refine zj (zb ?_);refine zda (Enc.cells (t:Tr)) ?_;refine w_o (a:= .s ([]:List UInt8)) ?_;refine zah [.v (.s ([]:List UInt8))] ?_;refine zan h (bz 0 106 81129638414606681695789005144063) (fun j1=>[(3,.s j1)]) (fun j1=>(.B [(29,(Enc.cells (t:Tr)))])) ?_ ?_;intro or1 h hr1;refine zah [.v (.ptr 0 0),.v (.u ((t.k:Nat):Int))] ?_;refine zu ?_;refine zah [.v (.b (((t.k:Nat):Int)==2)),.m _] ?_;refine zbu h (fun hc1 h=> ?_) (fun hc1 h=> ?_);refine zan h (bz 0 106 81129638414606681695789005144063) (fun j2=>[(3,.s j2)]) (fun j2=>(.B [(29,(Enc.cells (t:Tr)))])) ?_ ?_;intro or2 h hr2;refine zah [.v (.i 0)] ?_;refine zu ?_;refine zch h (bz 0 106 81129638414606681695789005144061) (fun s1=>[(3,.s s1.1),(13,.i s1.2)]) (fun s1=>(.B [(29,(Enc.cells (t:Tr)))])) ?_ ?_;exact zbc (bl 106 8202);intro s1 p1 h;refine zdj ?_;refine zah [.v (.b (decide (s1.2<256)))] ?_;refine zj ?_;refine zbu h (fun hc2 h=> ?_) (fun hc2 h=> ?_);refine zan h (bz 0 31 2147467288) (fun j3=>[(3,.s j3)]) (fun j3=>(.B [(29,(Enc.cells (t:Tr)))])) ?_ ?_;intro or3 h hr3;refine zu ?_;refine zah [.m _,.m _] ?_;refine zah [.m _,.v (.i (IntKind.i64.wrap (tdiv s1.2 64))),.v (.ptr 0 1)] ?_;obtain⟨g1,h⟩:=zf h;refine w_o (a:= .ptr 0 (1+toNat (IntKind.i64.wrap (tdiv s1.2 64))*1)) (h:=zap (zsb g1 rfl rfl rfl rfl rfl)) ?_;refine w_o (a:= .raw (.int .u64 (wd t.s (toNat (IntKind.i64.wrap (tdiv s1.2 64)))))) (h:=zap (qll t (by omega) rfl rfl rfl)) ?_;refine w_r [.m _,.v (.i (tmod s1.2 64))] ?_;obtain⟨g2,h⟩:=zf h;refine w_o (a:= .raw (.int .u64 (zfz .u64 (wd t.s (toNat (IntKind.i64.wrap (tdiv s1.2 64)))) (tmod s1.2 64)))) (h:=zap (qeu g2 rfl rfl rfl)) ?_;refine w_r [.v (.raw (.int .u64 (zly .u64 (zfz .u64 (wd t.s (toNat (IntKind.i64.wrap (tdiv s1.2 64)))) (tmod s1.2 64)) 1))),.v (.b ((zly .u64 (zfz .u64 (wd t.s (toNat (IntKind.i64.wrap (tdiv s1.2 64)))) (tmod s1.2 64)) 1)==1))] ?_;refine zbu h (fun hc3 h=> ?_) (fun hc3 h=> ?_);refine zb (k0:=0) (id:=8) ?_;refine w_r [.m _,.m _,.v (.u (IntKind.u8.wrap s1.2))] ?_;obtain⟨g3,h⟩:=zf h;obtain⟨x1,hx1,h⟩:=zi h;refine zct (args':=[.u (IntKind.u8.wrap s1.2)]) (r:= .s x1) (by rw[<-hx1];exact(k_hex (IntKind.u8.wrap s1.2) g3)) ?_;obtain⟨g4,h⟩:=zf h;refine w_o (a:= .s (s1.1++x1)) (h:=zap (zbh g4 rfl rfl rfl)) ?_;refine zao ?_;refine zc (o:=or3) ((s1.1++x1)) h ?_;exact zbc (bl 106 81129638414606681695786857676783);refine zc (o:=or3) (s1.1) h ?_;exact zbc (bl 106 81129638414606681695786857676783);intro j3 h;refine zdj ?_;refine zb (k0:=0) (id:=9) ?_;obtain⟨g5,h⟩:=zf h;refine zhk g5 ?_;refine zao ?_;refine zbe (p:=p1) (j3,(s1.2+1)) h ?_;exact zbc (bl 106 8202);refine zaa h (fun h=> ?_);refine zc (o:=or2) (s1.1) h ?_;exact zbc (bl 106 8);intro j2 h;refine zdj ?_;refine zah [.m _] ?_;obtain⟨g6,h⟩:=zf h;refine w_o (a:= .s (([91]:List UInt8)++j2)) (h:=zap (zbh g6 rfl rfl rfl)) ?_;obtain⟨g7,h⟩:=zf h;refine w_o (a:= .s ((([91]:List UInt8)++j2)++([93]:List UInt8))) (h:=zap (zbh g7 rfl rfl rfl)) ?_;refine zao ?_;replace h:=zba h hr1;exact qkp h;refine zah [.v (.b (((t.k:Nat):Int)==3)),.m _] ?_;refine zbu h (fun hc4 h=> ?_) (fun hc4 h=> ?_);refine zah [.v (.ptr 0 7),.v (.L (t.l:List Tr)),.v (.i (length t.l:Int)),.v (.i 0)] ?_;refine zu ?_;refine zch h (bz 0 106 81129638414606681694964371423231) (fun s2=>[(3,.s s2.1),(40,.i s2.2)]) (fun s2=>(.B [(29,(Enc.cells (t:Tr)))])) ?_ ?_;exact zbc (bl 106 1924145348616);intro s2 p2 h;refine zdj ?_;refine zah [.v (.b (decide (s2.2<(length t.l:Int))))] ?_;refine zj ?_;refine zbu h (fun hc5 h=> ?_) (fun hc5 h=> ?_);refine zj ?_;refine zu ?_;refine zj (zb ?_);obtain⟨g8,h⟩:=zf h;obtain⟨x2,hx2,h⟩:=zi h;refine z5i hx2 g8 ?_;refine w_o (a:= .A (x2:Tr)) ?_;refine zda zN ?_;refine zer 8 (Enc.cells (x2:Tr)) ?_;refine zb (k0:=0) (id:=15) ?_;refine w_r [.m _,.v (.A (x2:Tr))] ?_;obtain⟨g9,h⟩:=zf h;obtain⟨x3,hx3,h⟩:=zi h;refine zct (args':=[.A (x2:Tr)]) (r:= .s x3) (by rw[<-hx3];exact(ih x2 g9)) ?_;obtain⟨g10,h⟩:=zf h;refine w_o (a:= .s (([40,63,58]:List UInt8)++x3)) (h:=zap (zbh g10 rfl rfl rfl)) ?_;obtain⟨g11,h⟩:=zf h;refine w_o (a:= .s ((([40,63,58]:List UInt8)++x3)++([41]:List UInt8))) (h:=zap (zbh g11 rfl rfl rfl)) ?_;obtain⟨g12,h⟩:=zf h;refine w_o (a:= .s (s2.1++((([40,63,58]:List UInt8)++x3)++([41]:List UInt8)))) (h:=zap (zbh g12 rfl rfl rfl)) ?_;refine zao ?_;refine zb (k0:=0) (id:=16) ?_;obtain⟨g13,h⟩:=zf h;refine zhk g13 ?_;refine zao ?_;refine zbe (p:=p2) ((s2.1++((([40,63,58]:List UInt8)++x3)++([41]:List UInt8))),(s2.2+1)) h ?_;exact zdk (bl 106 1924145348616) 1 (by kernel_rfl) (le_of_ble_eq_true rfl) (zbv (zab (zt _ _ (Enc.clo _)) rfl)) (by dsimp only[zau,zbs,foldl,List.set,bz,bzc,Nat.reduceMod,Nat.reduceDiv,Nat.reduceBEq,Nat.reduceAdd];exact(za rfl (za rfl (za rfl (za rfl (za rfl (za rfl (za rfl (za rfl (za rfl (za rfl (za rfl (za rfl (za rfl (za rfl (za rfl (za rfl (za rfl (za rfl (za rfl (za rfl (za rfl (za rfl (za rfl (za rfl (za rfl (za rfl (za rfl (za rfl (za rfl (za rfl (za rfl (za rfl (za rfl (za rfl (za rfl (za rfl (za rfl (za rfl (za (zbd (Enc.cloL _)) (by kernel_rfl))))))))))))))))))))))))))))))))))))))))) (by kernel_rfl);refine zaa h (fun h=> ?_);refine zc (o:=or1) (s2.1) h ?_;exact zbc (bl 106 8);refine zah [.v (.b (((t.k:Nat):Int)==4)),.m _] ?_;refine zbu h (fun hc6 h=> ?_) (fun hc6 h=> ?_);refine zah [.v (.ptr 0 7),.v (.L (t.l:List Tr)),.v (.i (length t.l:Int)),.v (.i 0)] ?_;refine zu ?_;refine zch h (bz 0 106 81129638414606627652593476698111) (fun s3=>[(3,.s s3.1),(56,.i s3.2)]) (fun s3=>(.B [(29,(Enc.cells (t:Tr)))])) ?_ ?_;exact zbc (bl 106 126100789566373896);intro s3 p3 h;refine zdj ?_;refine zah [.v (.b (decide (s3.2<(length t.l:Int))))] ?_;refine zj ?_;refine zbu h (fun hc7 h=> ?_) (fun hc7 h=> ?_);refine zj ?_;refine zu ?_;refine zah [.m _] ?_;obtain⟨g14,h⟩:=zf h;obtain⟨x4,hx4,h⟩:=zi h;refine z5i hx4 g14 ?_;refine w_o (a:= .A (x4:Tr)) ?_;refine zda zN ?_;refine zao ?_;refine zer 8 (Enc.cells (x4:Tr)) ?_;refine zan h (bz 0 65 36749372959343247496) (fun j4=>[(3,.s j4)]) (fun j4=>(.B [(29,(Enc.cells (t:Tr))),(29,(Enc.cells (x4:Tr)))])) ?_ ?_;intro or4 h hr4;refine zah [.m _,.v (.b (decide (s3.2>0)))] ?_;refine zbu h (fun hc8 h=> ?_) (fun hc8 h=> ?_);refine zb (k0:=0) (id:=22) ?_;refine zao ?_;obtain⟨g15,h⟩:=zf h;refine w_o (a:= .s (s3.1++([124]:List UInt8))) (h:=zap (zbh g15 rfl rfl rfl)) ?_;refine zao ?_;refine zc (o:=or4) ((s3.1++([124]:List UInt8))) h ?_;exact zbc (bl 106 81129638414569932322829661896575);refine zc (o:=or4) (s3.1) h ?_;exact zbc (bl 106 81129638414569932322829661896575);intro j4 h;refine zdj ?_;refine zb (k0:=0) (id:=23) ?_;refine w_r [.m _,.v (.A (x4:Tr))] ?_;obtain⟨g16,h⟩:=zf h;obtain⟨x5,hx5,h⟩:=zi h;refine zct (args':=[.A (x4:Tr)]) (r:= .s x5) (by rw[<-hx5];exact(ih x4 g16)) ?_;obtain⟨g17,h⟩:=zf h;refine w_o (a:= .s (([40,63,58]:List UInt8)++x5)) (h:=zap (zbh g17 rfl rfl rfl)) ?_;obtain⟨g18,h⟩:=zf h;refine w_o (a:= .s ((([40,63,58]:List UInt8)++x5)++([41]:List UInt8))) (h:=zap (zbh g18 rfl rfl rfl)) ?_;obtain⟨g19,h⟩:=zf h;refine w_o (a:= .s (j4++((([40,63,58]:List UInt8)++x5)++([41]:List UInt8)))) (h:=zap (zbh g19 rfl rfl rfl)) ?_;refine zao ?_;refine zb (k0:=0) (id:=24) ?_;obtain⟨g20,h⟩:=zf h;refine zhk g20 ?_;refine zao ?_;refine zbe (p:=p3) ((j4++((([40,63,58]:List UInt8)++x5)++([41]:List UInt8))),(s3.2+1)) h ?_;exact zdk (bl 106 126100789566373896) 1 (by kernel_rfl) (le_of_ble_eq_true rfl) (zbv (zab (zt _ _ (Enc.clo _)) rfl)) (by dsimp only[zau,zbs,foldl,List.set,bz,bzc,Nat.reduceMod,Nat.reduceDiv,Nat.reduceBEq,Nat.reduceAdd];exact(za rfl (za rfl (za rfl (za rfl (za rfl (za rfl (za rfl (za rfl (za rfl (za rfl (za rfl (za rfl (za rfl (za rfl (za rfl (za rfl (za rfl (za rfl (za rfl (za rfl (za rfl (za rfl (za rfl (za rfl (za rfl (za rfl (za rfl (za rfl (za rfl (za rfl (za rfl (za rfl (za rfl (za rfl (za rfl (za rfl (za rfl (za rfl (za rfl (za rfl (za rfl (za rfl (za rfl (za rfl (za rfl (za rfl (za rfl (za rfl (za rfl (za rfl (za rfl (za rfl (za rfl (za rfl (za (zbd (Enc.cloL _)) (by kernel_rfl))))))))))))))))))))))))))))))))))))))))))))))))))))))))) (by kernel_rfl);refine zaa h (fun h=> ?_);refine zc (o:=or1) (s3.1) h ?_;exact zbc (bl 106 8);refine zah [.v (.b (((t.k:Nat):Int)==6)),.m _] ?_;refine zbu h (fun hc9 h=> ?_) (fun hc9 h=> ?_);refine zah [.v (.ptr 0 7),.v (.L (t.l:List Tr))] ?_;obtain⟨g21,h⟩:=zf h;obtain⟨x6,hx6,h⟩:=zi h;refine z5i hx6 g21 ?_;refine w_o (a:= .A (x6:Tr)) ?_;obtain⟨g22,h⟩:=zf h;obtain⟨x7,hx7,h⟩:=zi h;refine zct (args':=[.A (x6:Tr)]) (r:= .s x7) (by rw[<-hx7];exact(ih x6 g22)) ?_;obtain⟨g23,h⟩:=zf h;refine w_o (a:= .s (([40]:List UInt8)++x7)) (h:=zap (zbh g23 rfl rfl rfl)) ?_;obtain⟨g24,h⟩:=zf h;refine w_o (a:= .s ((([40]:List UInt8)++x7)++([41]:List UInt8))) (h:=zap (zbh g24 rfl rfl rfl)) ?_;refine zao ?_;replace h:=zba h hr1;exact qkp h;refine zah [.v (.b (((t.k:Nat):Int)==5)),.m _] ?_;refine zbu h (fun hc10 h=> ?_) (fun hc10 h=> ?_);refine zj ?_;refine zgq (k0:=0) (id:=28) 10 (by kernel_rfl) (by kernel_rfl) ?_;refine h_o (a:= .ptr 0 7) ?_;refine h_o (a:= .L (t.l:List Tr)) ?_;obtain⟨g25,h⟩:=zf h;obtain⟨x8,hx8,h⟩:=zi h;refine h_ix hx8 g25 ?_;refine h_o (a:= .A (x8:Tr)) ?_;obtain⟨g26,h⟩:=zf h;obtain⟨x9,hx9,h⟩:=zi h;refine qbr (args':=[.A (x8:Tr)]) (r:= .s x9) (by rw[<-hx9];exact(ih x8 g26)) ?_;obtain⟨g27,h⟩:=zf h;refine h_o (a:= .s (([40,63,58]:List UInt8)++x9)) (h:=zbh g27 rfl rfl rfl) ?_;obtain⟨g28,h⟩:=zf h;refine h_o (a:= .s ((([40,63,58]:List UInt8)++x9)++([41,123]:List UInt8))) (h:=zbh g28 rfl rfl rfl) ?_;refine h_o (a:= .ptr 0 5) ?_;refine h_o (a:= .i t.mn) ?_;obtain⟨g29,h⟩:=zf h;obtain⟨x10,hx10,h⟩:=zi h;refine qbr (args':=[.i t.mn]) (r:= .s x10) (by rw[<-hx10];exact(qpq t.mn g29)) ?_;refine zhw ?_;obtain⟨g30,h⟩:=zf h;refine w_o (a:= .s (((([40,63,58]:List UInt8)++x9)++([41,123]:List UInt8))++x10)) (h:=zap (zbh g30 rfl rfl rfl)) ?_;obtain⟨g31,h⟩:=zf h;refine w_o (a:= .s ((((([40,63,58]:List UInt8)++x9)++([41,123]:List UInt8))++x10)++([44]:List UInt8))) (h:=zap (zbh g31 rfl rfl rfl)) ?_;refine zao ?_;refine zan h (bz 0 106 81129638414606681695789005144063) (fun j5=>[(3,.s j5)]) (fun j5=>(.B [(29,(Enc.cells (t:Tr)))])) ?_ ?_;intro or5 h hr5;refine zah [.v (.ptr 0 6),.v (.i t.mx),.v (.b (t.mx !=(-1)))] ?_;refine zbu h (fun hc11 h=> ?_) (fun hc11 h=> ?_);refine zb (k0:=0) (id:=30) ?_;refine w_r [.m _,.v (.ptr 0 6),.v (.i t.mx)] ?_;obtain⟨g32,h⟩:=zf h;obtain⟨x11,hx11,h⟩:=zi h;refine zct (args':=[.i t.mx]) (r:= .s x11) (by rw[<-hx11];exact(qpq t.mx g32)) ?_;obtain⟨g33,h⟩:=zf h;refine w_o (a:= .s (((((([40,63,58]:List UInt8)++x9)++([41,123]:List UInt8))++x10)++([44]:List UInt8))++x11)) (h:=zap (zbh g33 rfl rfl rfl)) ?_;refine zao ?_;refine zc (o:=or5) ((((((([40,63,58]:List UInt8)++x9)++([41,123]:List UInt8))++x10)++([44]:List UInt8))++x11)) h ?_;exact zbc (bl 106 8);refine zc (o:=or5) (((((([40,63,58]:List UInt8)++x9)++([41,123]:List UInt8))++x10)++([44]:List UInt8))) h ?_;exact zbc (bl 106 8);intro j5 h;refine zdj ?_;refine zah [.m _] ?_;obtain⟨g34,h⟩:=zf h;refine w_o (a:= .s (j5++([125]:List UInt8))) (h:=zap (zbh g34 rfl rfl rfl)) ?_;refine zao ?_;replace h:=zba h hr1;exact qkp h;refine zc (o:=or1) (([]:List UInt8)) h ?_;exact zbc (bl 106 8);intro j1 h;refine zdj ?_;refine zah [.m _,.m _] ?_;exact qkp h
end Go.Ab
