import Derived.Test.YtjkcellkmmfkdaaGreatDoorZhV3
import Derived.Test.YtjkcellkmmfkdaaGreatDoorZhSy
set_option linter.all false
set_option maxRecDepth 100000
set_option maxHeartbeats 4000000
open Sum (inl inr)
open Int (toNat tmod tdiv)
open List (length length_cons all_eq_true foldl mem_range map_cons)
open Go.Proofs.Tryz (prog)
namespace Go.Ab
open Go Go.RowKit Go.Fwd Go.Proofs
def zwx (t:Tr):Option Bool:=
 (chk ((pre t).length<2^60/\ (pre zax).length<2^60) (zaz (znt t zax) (fun x1=>(bif x1 then(some true) else(chk ((pre t).length<2^61) (zaz (zdj t) (fun x2=>(some x2))))))))
theorem ent157:Ent prog 157:=enters_of Tryz.func157 (by kernel_rfl) rfl
theorem qis (t:Tr)(r:Bool)(h:zwx t=some r):Pure (ITP prog) prog 157 [.A (t:Tr)] (.raw (.bool r)):=by
 unfold zwx at h;refine zbc 9 mix Tryz.func157 ent157 ?_;refine zj (zb ?_);refine zdl (Enc.cells (t:Tr)) ?_;refine w_o (a:= .b false) ?_;refine zr [.v (.A (t:Tr))] ?_;refine z0s zax ?_;obtain⟨g1,h⟩:=zk h;obtain⟨x1,hx1,h⟩:=zn h;refine zbx (args':=[.A (t:Tr),.A (zax:Tr)]) (r:= .b x1) (by rw[<-hx1];exact(qhb t zax g1)) ?_;refine zan h (fun hc1 h=> ?_) (fun hc1 h=> ?_);refine zav hc1 ?_;refine w_r [.p,.p,.v (.b true),.m _] ?_;exact zbn h;refine zav hc1 ?_;refine zbj rfl rfl ?_;refine w_o (a:= .A (t:Tr)) ?_;refine zbj rfl rfl ?_;obtain⟨g2,h⟩:=zk h;obtain⟨x2,hx2,h⟩:=zn h;refine zbx (args':=[.A (t:Tr)]) (r:= .b x2) (by rw[<-hx2];exact(zqg t g2)) ?_;refine w_r [.v (.b x2),.m _] ?_;exact zbn h
def zfz (t:Tr):Option Tr:=
 (chk ((pre t).length<2^61) (zaz (zdj t) (fun x1=>(bif (!x1) then(some zax) else(chk ((pre t).length<2^40) (zaz t (fun x2=>(some x2))))))))
theorem ent124:Ent prog 124:=enters_of Tryz.func124 (by kernel_rfl) rfl
theorem zmu (t:Tr)(r:Tr)(h:zfz t=some r):Pure (ITP prog) prog 124 [.A (t:Tr)] (.A (r:Tr)):=by
 unfold zfz at h;refine zbc 8 mix Tryz.func124 ent124 ?_;refine zj (zb ?_);refine zdl (Enc.cells (t:Tr)) ?_;refine zdl zN ?_;refine zj ?_;refine zr [.v (.A (t:Tr))] ?_;obtain⟨g1,h⟩:=zk h;obtain⟨x1,hx1,h⟩:=zn h;refine zbx (args':=[.A (t:Tr)]) (r:= .b x1) (by rw[<-hx1];exact(zqg t g1)) ?_;refine w_o (a:= .b (!x1)) ?_;refine zbv h (fun hc1 h=> ?_) (fun hc1 h=> ?_);refine zj (zb ?_);refine z0s zax ?_;refine zfs 8 (Enc.cells (zax:Tr)) ?_;exact zbs (fun(r:Tr)=> .A (r:Tr)) h (.A (zax:Tr));refine zr [.v (.A (t:Tr))] ?_;obtain⟨g2,h⟩:=zk h;obtain⟨x2,hx2,h⟩:=zn h;refine zbx (args':=[.A (t:Tr)]) (r:= .A (x2:Tr)) (by rw[<-hx2];exact(qac t g2)) ?_;refine zfs 8 (Enc.cells (x2:Tr)) ?_;exact zbs (fun(r:Tr)=> .A (r:Tr)) h (.A (x2:Tr))
def zri (fuel:Nat)(k:Int)(w:Int)(l:(List Tr)):Option (List Tr):=
 (zda (τ:=(List Tr)) (zbk (β:=(List Tr)×Int) (fun s1=>(bif (decide (s1.2<(length l:Int))) then(zda (τ:=(List Tr)) (chk (0<=s1.2/\ s1.2<(length l:Int)) (zaz (ix l s1.2) (fun x1=>(bif (((x1.k:Nat):Int)==k) then(chk ((length s1.1+length x1.l)*80<=140737488355328) (some (inl ((s1.1++x1.l))))) else(bif (((x1.k:Nat):Int)==w) then(some (inl (s1.1))) else(chk ((length s1.1+length [x1])*80<=140737488355328) (some (inl ((s1.1++[x1])))))))))) (fun j2=>(chk (-9223372036854775808<=(s1.2+1)/\ (s1.2+1)<9223372036854775808) (some (inl (j2,(s1.2+1))))))) else(some (inr (inl (s1.1)))))) fuel (([]:(List Tr)),0)) (fun j1=>(some j1)))
theorem ent156:Ent prog 156:=enters_of Tryz.func156 (by kernel_rfl) rfl
theorem qej (fuel:Nat)(k:Int)(w:Int)(l:(List Tr))(r:(List Tr))(h:zri fuel k w l=some r):Pure (ITP prog) prog 156 [.raw (.int .u8 k),.raw (.int .u8 w),.L (l:List Tr)] (.L (r:List Tr)):=by
 unfold zri at h;refine zbc 31 mix Tryz.func156 ent156 ?_;iterate 2 refine zr [.v (.list 0 [] .full)] ?_
 refine zau h (bz 0 34 17179869183) (fun j1=>[(7,(.O (j1:List Tr)))]) (fun j1=>(zar [] 27 (length (j1:List Tr)) 8)) ?_ ?_;intro or1 h hr1;refine zr [.m _,.v (.i (length l:Int)),.v (.i 0)] ?_;refine zy ?_;refine zdg h (bz 0 34 17179866108) (fun s1=>[(7,(.O (s1.1:List Tr))),(12,.i s1.2)]) (fun s1=>(zar [] 27 (length (s1.1:List Tr)) 8)) ?_ ?_;exact zbh (bl 34 7299);intro s1 p1 h;refine zdw ?_;refine zr [.v (.b (decide (s1.2<(length l:Int))))] ?_;refine zj ?_;refine zbv h (fun hc1 h=> ?_) (fun hc1 h=> ?_);refine zau h (bz 0 32 4294959744) (fun j2=>[(7,(.O (j2:List Tr)))]) (fun j2=>(zar [] 27 (length (j2:List Tr)) 8)) ?_ ?_;intro or2 h hr2;refine zy ?_;refine zj (zb ?_);obtain⟨g1,h⟩:=zk h;obtain⟨x1,hx1,h⟩:=zn h;refine qbx hx1 g1 ?_;refine w_o (a:= .A (x1:Tr)) ?_;refine zoc (a:= .ptr 0 0) (U'':=(zar [(27,zN)] 27 (length (s1.1:List Tr)) 8)) ?_;refine znb 8 (zar [(27,(Enc.cells (x1:Tr)))] 27 (length (s1.1:List Tr)) 8) ?_;refine zr [.v (.ptr 0 0),.v (.u ((x1.k:Nat):Int))] ?_;refine zy ?_;refine zr [.m _,.v (.b (((x1.k:Nat):Int)==k)),.m _] ?_;refine zbv h (fun hc2 h=> ?_) (fun hc2 h=> ?_);refine zb (k0:=0) (id:=8) ?_;refine w_r [.m _,.v (.ptr 0 7),.v (.L (x1.l:List Tr))] ?_;obtain⟨g2,h⟩:=zk h;refine zis (a:=(.O ((s1.1++x1.l):List Tr))) (U'':=(zar [(27,(Enc.cells (x1:Tr)))] 27 (length ((s1.1++x1.l):List Tr)) 8)) rfl rfl rfl (zpa rfl rfl rfl rfl (zif (α:=Tr) (bs:=[(27,(Enc.cells (x1:Tr)))]) (a:=s1.1) (b:=x1.l) g2 rfl rfl rfl rfl rfl ⟨rfl,by decide⟩)) (by dsimp only[zad,List.set]) rfl ?_;refine zah ?_;refine zc (o:=or2) ((s1.1++x1.l)) h ?_;exact zfl (bl 34 12884909567) 0 (by kernel_rfl) (Nat.le_of_ble_eq_true rfl) (zci rfl) (by dsimp only[zbq,zdf,foldl,List.set,bz,bzc,Nat.reduceMod,Nat.reduceDiv,Nat.reduceBEq,Nat.reduceAdd];exact(za rfl (za rfl (za rfl (za rfl (za rfl (za rfl (za rfl (za (zeg (Enc.cloL _)) (za rfl (za rfl (za (zca (Enc.cloL _)) (by kernel_rfl))))))))))))) (by kernel_rfl);refine zr [.m _,.v (.b (((x1.k:Nat):Int)==w)),.m _] ?_;refine zbv h (fun hc3 h=> ?_) (fun hc3 h=> ?_);refine zc (o:=or2) (s1.1) h ?_;exact zfl (bl 34 12884909567) 0 (by kernel_rfl) (Nat.le_of_ble_eq_true rfl) (zci rfl) (by dsimp only[zbq,zdf,foldl,List.set,bz,bzc,Nat.reduceMod,Nat.reduceDiv,Nat.reduceBEq,Nat.reduceAdd];exact(za rfl (za rfl (za rfl (za rfl (za rfl (za rfl (za rfl (za (zeg (Enc.cloL _)) (za rfl (za rfl (za (zca (Enc.cloL _)) (by kernel_rfl))))))))))))) (by kernel_rfl);refine zb (k0:=0) (id:=6) ?_;refine w_r [.m _,.v (.A (x1:Tr))] ?_;refine w_o (a:= .F ([x1]:List Tr)) (h:=zbl (zhc (α:=Tr) (l:=[x1]) (cs:=Enc.cells (x1:Tr)++[]) rfl (by rw[Enc.cons,Enc.nil]))) ?_;obtain⟨g3,h⟩:=zk h;refine zis (a:=(.O ((s1.1++[x1]):List Tr))) (U'':=(zar [(27,(Enc.cells (x1:Tr)))] 27 (length ((s1.1++[x1]):List Tr)) 8)) rfl rfl rfl (zpa rfl rfl rfl rfl (zif (α:=Tr) (bs:=[(27,(Enc.cells (x1:Tr)))]) (a:=s1.1) (b:=[x1]) g3 rfl rfl rfl rfl rfl ⟨rfl,by decide⟩)) (by dsimp only[zad,List.set]) rfl ?_;refine zah ?_;refine zc (o:=or2) ((s1.1++[x1])) h ?_;exact zfl (bl 34 12884909567) 0 (by kernel_rfl) (Nat.le_of_ble_eq_true rfl) (zci rfl) (by dsimp only[zbq,zdf,foldl,List.set,bz,bzc,Nat.reduceMod,Nat.reduceDiv,Nat.reduceBEq,Nat.reduceAdd];exact(za rfl (za rfl (za rfl (za rfl (za rfl (za rfl (za rfl (za (zeg (Enc.cloL _)) (za rfl (za rfl (za (zca (Enc.cloL _)) (by kernel_rfl))))))))))))) (by kernel_rfl);intro j2 h;refine zdw ?_;refine zb (k0:=0) (id:=10) ?_;obtain⟨g4,h⟩:=zk h;refine zjg g4 ?_;refine zah ?_;refine zbr (p:=p1) (j2,(s1.2+1)) h ?_;exact zbh (bl 34 7299);refine zae h (fun h=> ?_);refine zc (o:=or1) (s1.1) h ?_;exact zbh (bl 34 128);intro j1 h;refine zdw ?_;refine zr [.m _,.m _] ?_;exact zbs (fun(r:(List Tr))=> .L (r:List Tr)) h (.O (j1:List Tr))
def zhj (k:Int)(l:(List Tr))(z:Tr):Option Tr:=
 (bif ((length l:Int)==0) then(some z) else(bif ((length l:Int)==1) then(chk (0<=(0:Int)/\ (0:Int)<(length l:Int)) (zaz (ix l (0:Int)) (fun x1=>(zaa (zfz x1) (fun x2=>(some x2)))))) else(chk (0<=k) (zaa (zfz (Tr.mk (toNat k) (0#256) 0 0 l)) (fun x3=>(some x3))))))
theorem ent74:Ent prog 74:=enters_of Tryz.func74 (by kernel_rfl) rfl
theorem ztj (k:Int)(l:(List Tr))(z:Tr)(r:Tr)(h:zhj k l z=some r):Pure (ITP prog) prog 74 [.raw (.int .u8 k),.L (l:List Tr),.A (z:Tr)] (.A (r:Tr)):=by
 unfold zhj at h;refine zbc 19 mix Tryz.func74 ent74 ?_;refine zj (zb ?_);refine zdl (Enc.cells (z:Tr)) ?_;refine zdl zN ?_;refine zj ?_;refine zr [.m _,.v (.i (length l:Int))] ?_;refine zy ?_;refine zr [.v (.b ((length l:Int)==0)),.m _] ?_;refine zbv h (fun hc1 h=> ?_) (fun hc1 h=> ?_);refine zr [.v (.A (z:Tr))] ?_;refine zfs 8 (Enc.cells (z:Tr)) ?_;exact zbs (fun(r:Tr)=> .A (r:Tr)) h (.A (z:Tr));refine zr [.v (.b ((length l:Int)==1)),.m _] ?_;refine zbv h (fun hc2 h=> ?_) (fun hc2 h=> ?_);refine zr [.m _] ?_;obtain⟨g1,h⟩:=zk h;obtain⟨x1,hx1,h⟩:=zn h;refine qbx hx1 g1 ?_;refine w_o (a:= .A (x1:Tr)) ?_;obtain⟨x2,hx2,h⟩:=zm h;refine zbx (zmu x1 x2 hx2) ?_;refine zfs 8 (Enc.cells (x2:Tr)) ?_;exact zbs (fun(r:Tr)=> .A (r:Tr)) h (.A (x2:Tr));refine zr [.m _,.m _] ?_;obtain⟨g2,h⟩:=zk h;refine w_qs (.A ((Tr.mk (toNat k) (0#256) 0 0 l):Tr)) (a0:=(nodeK k (0#256) 0 0 l .none)) rfl rfl rfl (by kernel_rfl) (z6b g2 _ _ _ _ _) (by dsimp only[zad,List.set]) ?_;obtain⟨x3,hx3,h⟩:=zm h;refine zbx (zmu (Tr.mk (toNat k) (0#256) 0 0 l) x3 hx3) ?_;refine zfs 8 (Enc.cells (x3:Tr)) ?_;exact zbs (fun(r:Tr)=> .A (r:Tr)) h (.A (x3:Tr))
def qky (fuel:Nat)(l:(List Tr)):Option Tr:=
 (zda (τ:=Unit) (zbk (β:=Int) (fun s1=>(bif (decide (s1<(length l:Int))) then(chk (0<=s1/\ s1<(length l:Int)) (zaz (ix l s1) (fun x1=>(bif (((x1.k:Nat):Int)==0) then(some (inr (inr zax))) else(chk ((pre x1).length<2^61) (zaz (zdj x1) (fun x2=>(bif (!x2) then(some (inr (inr zax))) else(chk (-9223372036854775808<=(s1+1)/\ (s1+1)<9223372036854775808) (some (inl ((s1+1))))))))))))) else(some (inr (inl ()))))) fuel (0)) (fun j1=>(zaa (zri fuel 3 1 l) (fun x3=>(zaa (zhj 3 x3 (Tr.mk 1 (0#256) 0 0 [])) (fun x4=>(some x4)))))))
theorem ent107:Ent prog 107:=enters_of Tryz.func107 (by kernel_rfl) rfl
theorem seq_sh (fuel:Nat)(l:(List Tr))(r:Tr)(h:qky fuel l=some r):Pure (ITP prog) prog 107 [.L (l:List Tr)] (.A (r:Tr)):=by
 unfold qky at h;refine zbc 24 mix Tryz.func107 ent107 ?_;refine zj (zb ?_);refine zdl zN ?_;refine zau h (bz 0 25 33554426) (fun j1=>[]) (fun j1=>(.B [(27,zN)])) ?_ ?_;intro or1 h hr1;refine zr [.m _,.v (.i (length l:Int)),.v (.i 0)] ?_;refine zy ?_;refine zdg h (bz 0 25 33554330) (fun s1=>[(7,.i s1)]) (fun s1=>(.B [(27,zN)])) ?_ ?_;exact zbh (bl 25 229);intro s1 p1 h;refine zdw ?_;refine zr [.v (.b (decide (s1<(length l:Int))))] ?_;refine zj ?_;refine zbv h (fun hc1 h=> ?_) (fun hc1 h=> ?_);refine zj ?_;refine zy ?_;refine zj (zb ?_);obtain⟨g1,h⟩:=zk h;obtain⟨x1,hx1,h⟩:=zn h;refine qbx hx1 g1 ?_;refine w_o (a:= .A (x1:Tr)) ?_;refine zdl zN ?_;refine zfs 8 (Enc.cells (x1:Tr)) ?_;refine zr [.v (.ptr 1 0),.v (.u ((x1.k:Nat):Int)),.v (.b (((x1.k:Nat):Int)==0))] ?_;refine zan h (fun hc2 h=> ?_) (fun hc2 h=> ?_);refine zav hc2 ?_;refine w_r [.p,.p,.p,.v (.b true)] ?_;refine zel rfl ?_;refine zj (zb ?_);refine z0s zax ?_;refine zfs 8 (Enc.cells (zax:Tr)) ?_;refine zae h (fun h=> ?_);replace h:=zaq h hr1;exact zbs (fun(r:Tr)=> .A (r:Tr)) h (.A (zax:Tr));refine zav hc2 ?_;refine zbj rfl rfl ?_;refine w_o (a:= .A (x1:Tr)) ?_;refine zbj rfl rfl ?_;obtain⟨g2,h⟩:=zk h;obtain⟨x2,hx2,h⟩:=zn h;refine zbx (args':=[.A (x1:Tr)]) (r:= .b x2) (by rw[<-hx2];exact(zqg x1 g2)) ?_;refine w_r [.v (.b (!x2)),.v (.b (!x2))] ?_;refine zbv h (fun hc3 h=> ?_) (fun hc3 h=> ?_);refine zj (zb ?_);refine z0s zax ?_;refine znb 8 (.B [(27,(Enc.cells (zax:Tr))),(27,(Enc.cells (x1:Tr)))]) ?_;refine zae h (fun h=> ?_);replace h:=zaq h hr1;exact zbs (fun(r:Tr)=> .A (r:Tr)) h (.A (zax:Tr));refine zb (k0:=0) (id:=6) ?_;obtain⟨g3,h⟩:=zk h;refine zjg g3 ?_;refine zah ?_;refine zbr (p:=p1) ((s1+1)) h ?_;exact zfl (bl 25 229) 1 (by kernel_rfl) (Nat.le_of_ble_eq_true rfl) (zci (zaj rfl rfl)) (by dsimp only[zbq,zdf,foldl,List.set,bz,bzc,Nat.reduceMod,Nat.reduceDiv,Nat.reduceBEq,Nat.reduceAdd];exact(za (zca (Enc.cloL _)) (za rfl (za (by decide) (za rfl (za rfl (za (zca (Enc.cloL _)) (by kernel_rfl)))))))) (by kernel_rfl);refine zae h (fun h=> ?_);refine zc (o:=or1) () h ?_;exact zbh (bl 25 5);intro j1 h;refine zdw ?_;refine zr [.m _] ?_;obtain⟨x3,hx3,h⟩:=zm h;refine zbx (qej fuel 3 1 l x3 hx3) ?_;refine z0s (Tr.mk 1 (0#256) 0 0 []) ?_;obtain⟨x4,hx4,h⟩:=zm h;refine zbx (ztj 3 x3 (Tr.mk 1 (0#256) 0 0 []) x4 hx4) ?_;refine znb 8 (.B [(27,(Enc.cells (x4:Tr)))]) ?_;exact zbs (fun(r:Tr)=> .A (r:Tr)) h (.A (x4:Tr))
def F_or (fuel:Nat)(l:(List Tr)):Option Tr:=
 (zda (τ:=Unit) (zbk (β:=Int) (fun s1=>(bif (decide (s1<(length l:Int))) then(chk (0<=s1/\ s1<(length l:Int)) (zaz (ix l s1) (fun x1=>(zaa (zwx x1) (fun x2=>(bif (!x2) then(some (inr (inr zax))) else(chk (-9223372036854775808<=(s1+1)/\ (s1+1)<9223372036854775808) (some (inl ((s1+1))))))))))) else(some (inr (inl ()))))) fuel (0)) (fun j1=>(zaa (zri fuel 4 0 l) (fun x3=>(zaa (zhj 4 x3 zax) (fun x4=>(some x4)))))))
theorem ent109:Ent prog 109:=enters_of Tryz.func109 (by kernel_rfl) rfl
theorem or_sh (fuel:Nat)(l:(List Tr))(r:Tr)(h:F_or fuel l=some r):Pure (ITP prog) prog 109 [.L (l:List Tr)] (.A (r:Tr)):=by
 unfold F_or at h;refine zbc 19 mix Tryz.func109 ent109 ?_;refine zj (zb ?_);refine zdl zN ?_;refine zau h (bz 0 20 1048570) (fun j1=>[]) (fun j1=>(.B [(27,zN)])) ?_ ?_;intro or1 h hr1;refine zr [.m _,.v (.i (length l:Int)),.v (.i 0)] ?_;refine zy ?_;refine zdg h (bz 0 20 1048474) (fun s1=>[(7,.i s1)]) (fun s1=>(.B [(27,zN)])) ?_ ?_;exact zbh (bl 20 229);intro s1 p1 h;refine zdw ?_;refine zr [.v (.b (decide (s1<(length l:Int))))] ?_;refine zj ?_;refine zbv h (fun hc1 h=> ?_) (fun hc1 h=> ?_);refine zj ?_;refine zy ?_;refine zj (zb ?_);obtain⟨g1,h⟩:=zk h;obtain⟨x1,hx1,h⟩:=zn h;refine qbx hx1 g1 ?_;refine w_o (a:= .A (x1:Tr)) ?_;refine zdl zN ?_;refine zfs 8 (Enc.cells (x1:Tr)) ?_;refine zr [.v (.A (x1:Tr))] ?_;obtain⟨x2,hx2,h⟩:=zm h;refine zbx (qis x1 x2 hx2) ?_;refine w_o (a:= .b (!x2)) ?_;refine zbv h (fun hc2 h=> ?_) (fun hc2 h=> ?_);refine zj (zb ?_);refine z0s zax ?_;refine zfs 8 (Enc.cells (zax:Tr)) ?_;refine zae h (fun h=> ?_);replace h:=zaq h hr1;exact zbs (fun(r:Tr)=> .A (r:Tr)) h (.A (zax:Tr));refine zb (k0:=0) (id:=6) ?_;obtain⟨g2,h⟩:=zk h;refine zjg g2 ?_;refine zah ?_;refine zbr (p:=p1) ((s1+1)) h ?_;exact zfl (bl 20 229) 1 (by kernel_rfl) (Nat.le_of_ble_eq_true rfl) (zci (zaj rfl rfl)) (by dsimp only[zbq,zdf,foldl,List.set,bz,bzc,Nat.reduceMod,Nat.reduceDiv,Nat.reduceBEq,Nat.reduceAdd];exact(za (zca (Enc.cloL _)) (za rfl (za (by decide) (za rfl (za rfl (za (zca (Enc.cloL _)) (by kernel_rfl)))))))) (by kernel_rfl);refine zae h (fun h=> ?_);refine zc (o:=or1) () h ?_;exact zbh (bl 20 5);intro j1 h;refine zdw ?_;refine zr [.m _] ?_;obtain⟨x3,hx3,h⟩:=zm h;refine zbx (qej fuel 4 0 l x3 hx3) ?_;refine z0s zax ?_;obtain⟨x4,hx4,h⟩:=zm h;refine zbx (ztj 4 x3 zax x4 hx4) ?_;refine znb 8 (.B [(27,(Enc.cells (x4:Tr)))]) ?_;exact zbs (fun(r:Tr)=> .A (r:Tr)) h (.A (x4:Tr))
def zya (t:Tr)(lo:Int)(hi:Int):Option Tr:=
 (zda (τ:=Bool×Bool) (bif (lo==0) then(bif (lo==1) then(some (inl ((hi==0),(hi==1)))) else(some (inl ((hi==0),false)))) else(bif (lo==1) then(some (inl (false,(hi==1)))) else(some (inl (false,false))))) (fun j1=>(zda (τ:=Bool) (zaa (zwx t) (fun x1=>(bif (!x1) then(some (inl (true))) else(bif (!j1.1) then(bif (!j1.2) then(zaa (zjp lo hi) (fun x2=>(some (inl ((!x2)))))) else(some (inl (false)))) else(some (inl (false))))))) (fun j2=>(bif j2 then(some zax) else(zda (τ:=Bool) (bif (((t.k:Nat):Int)==0) then(some (inl ((decide (lo>0))))) else(some (inl (false)))) (fun j3=>(bif j3 then(some zax) else(zda (τ:=Bool) (bif j1.1 then(some (inl (true))) else(bif (((t.k:Nat):Int)==0) then(some (inl (true))) else(some (inl ((((t.k:Nat):Int)==1)))))) (fun j4=>(bif j4 then(some (Tr.mk 1 (0#256) 0 0 [])) else(bif j1.2 then(chk ((pre t).length<2^40) (zaz t (fun x3=>(some x3)))) else(zaa (zfz (Tr.mk 5 (0#256) lo hi [t])) (fun x4=>(some x4)))))))))))))))
theorem ent183:Ent prog 183:=enters_of Tryz.func183 (by kernel_rfl) rfl
theorem qkz (t:Tr)(lo:Int)(hi:Int)(r:Tr)(h:zya t lo hi=some r):Pure (ITP prog) prog 183 [.A (t:Tr),.raw (.int .i64 lo),.raw (.int .i64 hi)] (.A (r:Tr)):=by
 unfold zya at h;refine zbc 69 mix Tryz.func183 ent183 ?_;refine zj (zb ?_);refine zdl (Enc.cells (t:Tr)) ?_;refine zdl zN ?_;refine zau h (bz 0 72 4722366482869645213617) (fun j1=>[(7,.b j1.1),(8,.b j1.2)]) (fun j1=>(.B [(27,(Enc.cells (t:Tr))),(27,zN)])) ?_ ?_;intro or1 h hr1;refine zb (k0:=0) (id:=1) ?_;refine w_r [.m _,.v (.b (lo==0))] ?_;refine zan h (fun hc1 h=> ?_) (fun hc1 h=> ?_);refine zav hc1 ?_;refine w_r [.m _,.v (.b (hi==0)),.v (.b (hi==0)),.m _,.v (.b (lo==1))] ?_;refine zan h (fun hc2 h=> ?_) (fun hc2 h=> ?_);refine zav hc2 ?_;refine w_r [.m _,.v (.b (hi==1)),.v (.b (hi==1)),.m _,.m _] ?_;refine zc (o:=or1) ((hi==0),(hi==1)) h ?_;exact zbh (bl 72 462);refine zav hc2 ?_;refine w_r [.p,.p,.v (.b false),.m _,.m _] ?_;refine zc (o:=or1) ((hi==0),false) h ?_;exact zbh (bl 72 462);refine zav hc1 ?_;refine w_r [.p,.p,.v (.b false),.m _,.v (.b (lo==1))] ?_;refine zan h (fun hc3 h=> ?_) (fun hc3 h=> ?_);refine zav hc3 ?_;refine w_r [.m _,.v (.b (hi==1)),.v (.b (hi==1)),.m _,.m _] ?_;refine zc (o:=or1) (false,(hi==1)) h ?_;exact zbh (bl 72 462);refine zav hc3 ?_;refine w_r [.p,.p,.v (.b false),.m _,.m _] ?_;refine zc (o:=or1) (false,false) h ?_;exact zbh (bl 72 462);intro j1 h;refine zdw ?_;refine zj ?_;refine zy ?_;refine zau h (bz 0 39 549753716736) (fun j2=>[(21,.b j2)]) (fun j2=>(.B [(27,(Enc.cells (t:Tr))),(27,zN)])) ?_ ?_;intro or2 h hr2;refine zb (k0:=0) (id:=2) ?_;refine w_o (a:= .A (t:Tr)) ?_;obtain⟨x1,hx1,h⟩:=zm h;refine zbx (qis t x1 hx1) ?_;refine w_o (a:= .b (!x1)) ?_;refine zan h (fun hc4 h=> ?_) (fun hc4 h=> ?_);refine zav hc4 ?_;iterate 2 refine w_r [.p,.p,.p,.p,.p] ?_
 refine w_r [.p,.p,.v (.b true),.m _] ?_;refine zc (o:=or2) (true) h ?_;exact zbh (bl 72 4722366482319893594111);refine zav hc4 ?_;refine w_r [.m _,.v (.b (!j1.1))] ?_;refine zbj rfl rfl ?_;refine zan h (fun hc5 h=> ?_) (fun hc5 h=> ?_);refine zav hc5 ?_;refine w_r [.m _,.v (.b (!j1.2)),.v (.b (!j1.2))] ?_;refine zbj rfl rfl ?_;refine zan h (fun hc6 h=> ?_) (fun hc6 h=> ?_);refine zav hc6 ?_;refine w_r [.m _,.m _] ?_;refine zbj rfl rfl ?_;obtain⟨x2,hx2,h⟩:=zm h;refine zbx (zwu lo hi x2 hx2) ?_;refine w_r [.v (.b (!x2)),.v (.b (!x2)),.v (.b (!x2)),.m _] ?_;refine zc (o:=or2) ((!x2)) h ?_;exact zbh (bl 72 4722366482319893594111);refine zav hc6 ?_;refine w_r [.p,.p,.p,.p,.v (.b false)] ?_;refine w_r [.v (.b false),.m _] ?_;refine zc (o:=or2) (false) h ?_;exact zbh (bl 72 4722366482319893594111);refine zav hc5 ?_;refine w_r [.p,.p,.v (.b false),.m _,.p] ?_;refine w_r [.p,.p,.p,.v (.b false),.v (.b false)] ?_;refine w_r [.m _] ?_;refine zc (o:=or2) (false) h ?_;exact zbh (bl 72 4722366482319893594111);intro j2 h;refine zdw ?_;refine zbv h (fun hc7 h=> ?_) (fun hc7 h=> ?_);refine zj (zb ?_);refine z0s zax ?_;refine zfs 8 (Enc.cells (zax:Tr)) ?_;exact zbs (fun(r:Tr)=> .A (r:Tr)) h (.A (zax:Tr));refine zau h (bz 0 48 280375467180032) (fun j3=>[(40,.b j3)]) (fun j3=>(.B [(27,(Enc.cells (t:Tr))),(27,zN)])) ?_ ?_;intro or3 h hr3;refine zb (k0:=0) (id:=4) ?_;refine w_r [.v (.ptr 0 0),.v (.u ((t.k:Nat):Int)),.v (.b (((t.k:Nat):Int)==0))] ?_;refine zan h (fun hc8 h=> ?_) (fun hc8 h=> ?_);refine zav hc8 ?_;refine w_r [.m _,.v (.b (decide (lo>0))),.v (.b (decide (lo>0))),.m _] ?_;refine zc (o:=or3) ((decide (lo>0))) h ?_;exact zbh (bl 72 4722366203593689661439);refine zav hc8 ?_;refine w_r [.p,.p,.v (.b false),.m _] ?_;refine zc (o:=or3) (false) h ?_;exact zbh (bl 72 4722366203593689661439);intro j3 h;refine zdw ?_;refine zbv h (fun hc9 h=> ?_) (fun hc9 h=> ?_);refine zj (zb ?_);refine z0s zax ?_;refine zfs 8 (Enc.cells (zax:Tr)) ?_;exact zbs (fun(r:Tr)=> .A (r:Tr)) h (.A (zax:Tr));refine zau h (bz 0 61 2305281158771900544) (fun j4=>[(49,.b j4)]) (fun j4=>(.B [(27,(Enc.cells (t:Tr))),(27,zN)])) ?_ ?_;intro or4 h hr4;refine zb (k0:=0) (id:=6) ?_;refine zah ?_;refine zan h (fun hc10 h=> ?_) (fun hc10 h=> ?_);refine zav hc10 ?_;iterate 2 refine w_r [.p,.p,.p,.v (.b true),.m _] ?_
 refine zc (o:=or4) (true) h ?_;exact zbh (bl 72 4720061764660826734463);refine zav hc10 ?_;refine w_r [.v (.ptr 0 0),.v (.u ((t.k:Nat):Int)),.v (.b (((t.k:Nat):Int)==0)),.v (.b (((t.k:Nat):Int)==0))] ?_;refine zan h (fun hc11 h=> ?_) (fun hc11 h=> ?_);refine zav hc11 ?_;refine w_r [.p,.p,.p,.v (.b true),.m _] ?_;refine zc (o:=or4) (true) h ?_;exact zbh (bl 72 4720061764660826734463);refine zav hc11 ?_;refine w_r [.v (.ptr 0 0),.v (.u ((t.k:Nat):Int)),.v (.b (((t.k:Nat):Int)==1)),.v (.b (((t.k:Nat):Int)==1)),.m _] ?_;refine zc (o:=or4) ((((t.k:Nat):Int)==1)) h ?_;exact zbh (bl 72 4720061764660826734463);intro j4 h;refine zdw ?_;refine zbv h (fun hc12 h=> ?_) (fun hc12 h=> ?_);refine zj (zb ?_);refine z0s (Tr.mk 1 (0#256) 0 0 []) ?_;refine zfs 8 (Enc.cells ((Tr.mk 1 (0#256) 0 0 []):Tr)) ?_;exact zbs (fun(r:Tr)=> .A (r:Tr)) h (.A ((Tr.mk 1 (0#256) 0 0 []):Tr));refine zr [.m _,.m _] ?_;refine zbv h (fun hc13 h=> ?_) (fun hc13 h=> ?_);refine zr [.v (.A (t:Tr))] ?_;obtain⟨g1,h⟩:=zk h;obtain⟨x3,hx3,h⟩:=zn h;refine zbx (args':=[.A (t:Tr)]) (r:= .A (x3:Tr)) (by rw[<-hx3];exact(qac t g1)) ?_;refine zfs 8 (Enc.cells (x3:Tr)) ?_;exact zbs (fun(r:Tr)=> .A (r:Tr)) h (.A (x3:Tr));refine zr [.m _,.m _,.v (.A (t:Tr))] ?_;refine w_o (a:= .F ([t]:List Tr)) (h:=zbl (zhc (α:=Tr) (l:=[t]) (cs:=Enc.cells (t:Tr)++[]) rfl (by rw[Enc.cons,Enc.nil]))) ?_;refine z0s (Tr.mk 5 (0#256) lo hi [t]) ?_;obtain⟨x4,hx4,h⟩:=zm h;refine zbx (zmu (Tr.mk 5 (0#256) lo hi [t]) x4 hx4) ?_;refine zfs 8 (Enc.cells (x4:Tr)) ?_;exact zbs (fun(r:Tr)=> .A (r:Tr)) h (.A (x4:Tr))
def zof (t:Tr):Option Tr:=
 (zaa (zfz (Tr.mk 6 (0#256) 0 0 [t])) (fun x1=>(some x1)))
theorem ent185:Ent prog 185:=enters_of Tryz.func185 (by kernel_rfl) rfl
theorem qch (t:Tr)(r:Tr)(h:zof t=some r):Pure (ITP prog) prog 185 [.A (t:Tr)] (.A (r:Tr)):=by
 unfold zof at h;refine zbc 6 mix Tryz.func185 ent185 ?_;refine zj (zb ?_);refine zdl (Enc.cells (t:Tr)) ?_;refine zdl zN ?_;refine zr [.v (.A (t:Tr))] ?_;refine w_o (a:= .F ([t]:List Tr)) (h:=zbl (zhc (α:=Tr) (l:=[t]) (cs:=Enc.cells (t:Tr)++[]) rfl (by rw[Enc.cons,Enc.nil]))) ?_;refine z0s (Tr.mk 6 (0#256) 0 0 [t]) ?_;obtain⟨x1,hx1,h⟩:=zm h;refine zbx (zmu (Tr.mk 6 (0#256) 0 0 [t]) x1 hx1) ?_;refine zfs 8 (Enc.cells (x1:Tr)) ?_;exact zbs (fun(r:Tr)=> .A (r:Tr)) h (.A (x1:Tr))
theorem qhv:(pre zax).length=1:=by simp[zax,pre,zck]
theorem qht (t:Tr)(h:(pre t).length<2^60):zwx t=some (zpq t):=by
 unfold zwx zpq;rw[zbo ⟨h,by rw[qhv];omega⟩,zaz];cases znt t zax with
 |true=>rfl
 |false=>show chk _ _=_;rw[zbo (by omega)];rfl
theorem zmr (t:Tr)(h:(pre t).length<2^61):zfz t=some (zdy t):=by
 unfold zfz zdy;rw[zbo h,zaz];cases hl:zdj t with
 |false=>rfl
 |true=>have:=zje hl;show chk _ _=_;rw[zbo (by omega)];rfl
theorem qdy {fuel:Nat} (k w:Nat)(l:List Tr)(hl:(zck l).length<=2^40)(hf:l.length<fuel):zri fuel k w l=some (zgb k w l):=by
 have hlen:=zdo l;unfold zri;refine zbg (zgb k w l) ?_ rfl;refine zpy l.length (fun i=>(zgb k w (l.take i),(i:Int))) (by simp[zgb]) (fun i hi=> ?_) ?_ hf
 ·have hp:=z1z l (i+1);have hfl:=zmi k w (l.take (i+1));have hlf:(zgb k w (l.take (i+1))).length<=(zck l).length:=by have:=zdo (zgb k w (l.take (i+1)));omega
  have hs:zgb k w (l.take (i+1))=zgb k w (l.take i)++(bif (l[i].k:Int)==k then l[i].l else bif (l[i].k:Int)==w then[] else[l[i]]):=by
   rw[List.take_succ_eq_append_getElem hi,zgb,List.flatMap_append];simp[zgb]
  refine zkb (by simp;omega) ?_;refine zbg (zgb k w (l.take (i+1))) ?_ ?_
  ·refine zt (by simp only;omega) (zv fun x1 e1=> ?_);simp only at e1;rw[znq hi] at e1;rw[<-e1,hs];rw[hs,List.length_append] at hlf;cases h1:(l[i].k:Int)==k with
   | true=>
    rw[h1,cond_true] at hlf;exact zkb rfl (zt (by simp only;omega) rfl)
   | false=>
    rw[h1,cond_false] at hlf;cases h2:(l[i].k:Int)==w with
    |true=>exact zig rfl (zkb rfl (by simp))
    | false=>
     rw[h2,cond_false] at hlf;exact zig rfl (zig rfl (zt (by simp only;omega) rfl))
  ·refine zt (by simp only;omega) ?_;simp only;rfl
 ·exact zig (by simp) (by simp[List.take_length])
theorem zvj (k:Nat)(l:List Tr)(z:Tr)(hl:(zck l).length<=2^41):zhj k l z=some (zha k l z):=by
 unfold zhj zha;cases h0:(l.length:Int)==0 with
 |true=>rfl
 | false=>
  simp only[cond_false];cases h1:(l.length:Int)==1 with
  | true=>
   cases l with
   |nil=>simp at h1
   | cons x l=>
    have hx:(pre x).length<=(zck (x::l)).length:=by simp[zck]
    refine zt (by simp) (zv fun x1 e1=> ?_);have:x1=x:=by rw[<-e1];rfl
    subst this;rw[zmr _ (by omega)];rfl
  | false=>
   simp only[cond_false];refine zt (by omega) ?_;rw[Int.toNat_natCast,zmr _ (by rw[pre,length_cons];omega)];rfl
theorem qab {l:List Tr} {x:Tr} (h:x∈l):(pre x).length<=(zck l).length:=zmx h
theorem qhk {ρ:Type} (q:Tr->Bool)(y:ρ)(l:List Tr) {body:Int->Option (Int ⊕ (Unit ⊕ ρ))} (hb: ∀i (hi:i<l.length),body (i:Int)=some (if q l[i]=true then .inr (.inr y) else .inl ((i+1:Nat):Int)))(he:body (l.length:Int)=some (.inr (.inl ()))):
 ∀(k i n:Nat),i+k=l.length->k<n->zbk body n (i:Int)=some (if(l.drop i).any q=true then .inr y else .inl ()):=by
 intro k;induction k with
 | zero=>
  intro i n hi hn
  match n,hn with
  | n+1,_=>
   have:i=l.length:=by omega
   subst this;rw[zbk,he,List.drop_length];rfl
 | succ k ih=>
  intro i n hi hn
  match n,hn with
  | n+1,hn=>
   have hil:i<l.length:=by omega
   rw[zbk,hb i hil,List.drop_eq_getElem_cons hil,List.any_cons];by_cases hq:q l[i]=true
   ·simp[hq]
   ·rw[if_neg hq];simp only;rw[ih (i+1) n (by omega) (by omega)];simp[hq]
theorem seq_eqF {fuel:Nat} (l:List Tr)(hl:(zck l).length<=2^40)(hf:l.length<fuel):qky fuel l=some (z0u l):=by
 have hlen:=zdo l;have hfl:=zmi 3 1 l;unfold qky z0u;rw[show(0:Int)=((0:Nat):Int) from rfl,qhk (fun x=>(x.k:Int)==0|| !zdj x) zax l (fun i hi=> ?_) ?_ l.length 0 fuel (by omega) hf,List.drop_zero]
 ·cases l.any (fun x=>(x.k:Int)==0|| !zdj x) with
  |true=>rfl
  | false=>
   show zaa (zri fuel ((3:Nat):Int) ((1:Nat):Int) l) _=_;rw[qdy 3 1 l hl hf,bindE_some];show zaa (zhj ((3:Nat):Int) _ _) _=_;rw[zvj 3 _ _ (by omega)];rfl
 ·exact zig (by simp) rfl
 ·skip
  have hx:=qab (List.getElem_mem hi);refine zkb (by simp;omega) (zt (by omega) (zv fun x1 e1=> ?_));rw[znq hi] at e1;subst e1;cases h1:(l[i].k:Int)==0 with
  |true=>exact zkb rfl (by simp)
  | false=>
   refine zig rfl (zt (by omega) (zv fun x2 e2=> ?_));subst e2;cases h2:zdj l[i] with
   |true=>exact zig rfl (zt (by omega) (by simp))
   |false=>exact zkb rfl (by simp)
theorem or_eqF {fuel:Nat} (l:List Tr)(hl:(zck l).length<=2^40)(hf:l.length<fuel):F_or fuel l=some (orT l):=by
 have hlen:=zdo l;have hfl:=zmi 4 0 l;unfold F_or orT;rw[show(0:Int)=((0:Nat):Int) from rfl,qhk (fun x=> !zpq x) zax l (fun i hi=> ?_) ?_ l.length 0 fuel (by omega) hf,List.drop_zero]
 ·cases l.any (fun x=> !zpq x) with
  |true=>rfl
  | false=>
   show zaa (zri fuel ((4:Nat):Int) ((0:Nat):Int) l) _=_;rw[qdy 4 0 l hl hf,bindE_some];show zaa (zhj ((4:Nat):Int) _ _) _=_;rw[zvj 4 _ _ (by omega)];rfl
 ·exact zig (by simp) rfl
 ·skip
  have hx:=qab (List.getElem_mem hi);refine zkb (by simp;omega) (zt (by omega) (zv fun x1 e1=> ?_));rw[znq hi] at e1;subst e1;refine zaf (zpq l[i]) (qht _ (by omega)) ?_;cases h2:zpq l[i] with
  |true=>exact zig rfl (zt (by omega) (by simp))
  |false=>exact zkb rfl (by simp)
theorem k_seq (l:List Tr)(h:(zck l).length<=2^40):Pure (ITP prog) prog 107 [.list l.length (Enc.cellsL l) .none] (.agg (Enc.cells (z0u l))):=seq_sh (l.length+1) l _ (seq_eqF l h (by omega))
theorem k_or (l:List Tr)(h:(zck l).length<=2^40):Pure (ITP prog) prog 109 [.list l.length (Enc.cellsL l) .none] (.agg (Enc.cells (orT l))):=or_sh (l.length+1) l _ (or_eqF l h (by omega))
theorem qda (t:Tr)(h:(pre t).length<2^60):zof t=some (zfx t):=by
 unfold zof zfx;rw[zmr _ (by rw[qif];omega)];rfl
theorem qij (t:Tr)(h:(pre t).length<2^60):Pure (ITP prog) prog 185 [.agg (Enc.cells t)] (.agg (Enc.cells (zfx t))):=qch t _ (qda t h)
theorem qex (t:Tr)(lo hi:Int)(h:(pre t).length<2^40):zya t lo hi=some (zet t lo hi):=by
 have e1:=qht t (by omega);have e2:=zxp lo hi;have e3:zfz (Tr.mk 5 0#256 lo hi [t])=some (zdy (Tr.mk 5 0#256 lo hi [t])):=zmr _ (by rw[qif];omega);unfold zya zet;simp only[e1,e2,e3,bindE_some];have hE:emptyT=Tr.mk 1 0#256 0 0 []:=rfl;rw[<-hE];simp only[zbo h,zaz];generalize zpq t=G
 generalize zew lo hi=B
 generalize zdy (Tr.mk 5 0#256 lo hi [t])=X
 generalize (lo==0)=a
 generalize (lo==1)=b
 generalize (hi==0)=c
 generalize (hi==1)=d
 generalize ((t.k:Int)==0)=e
 generalize ((t.k:Int)==1)=f
 generalize decide (lo>0)=p
 generalize zax=N
 generalize emptyT=M
 cases a<;>cases b<;>cases c<;>cases d<;>cases e<;>cases f<;>cases p<;>cases G<;>cases B<;>rfl
theorem k_times (t:Tr)(lo hi:Int)(h:(pre t).length<2^40):Pure (ITP prog) prog 183 [.agg (Enc.cells t),.raw (.int .i64 lo),.raw (.int .i64 hi)] (.agg (Enc.cells (zet t lo hi))):=qkz t lo hi _ (qex t lo hi h)
theorem rxof_eq (s:BS):z9x s=some (ofT s):=by
 unfold z9x ofT;by_cases h:s=0#256<;>simp[h]
theorem k_of (s:BS):Pure (ITP prog) prog 123 [.agg (Enc.cells s)] (.agg (Enc.cells (ofT s))):=rxof_sh s _ (rxof_eq s)
end Go.Ab
namespace Go.Ab
open Go Go.RowKit Go.Fwd Go.Proofs
def zim (s:BS):Option Int:=
 (zda (τ:=Int) (zaz (els s) (fun x1=>(zda (zcp (β:=Int) (fun s1 w1=>(chk (-9223372036854775808<=(s1+1)/\ (s1+1)<9223372036854775808) (some (inl ((s1+1)))))) x1 (0)) (fun s1=>(some (inl (s1))))))) (fun j1=>(some j1)))
theorem ent65:Ent prog 65:=enters_of Tryz.func65 (by kernel_rfl) rfl
theorem zyf (s:BS)(r:Int)(h:zim s=some r):Pure (ITP prog) prog 65 [.A (s:BS)] (.raw (.int .i64 r)):=by
 unfold zim at h;refine zbc 9 mix Tryz.func65 ent65 ?_;refine zj (zb ?_);refine zdl (Enc.cells (s:BS)) ?_;refine w_o (a:= .i 0) ?_;refine zj (zb ?_);refine zdl [.i 0] ?_;refine znb 1 (.B [(24,(Enc.cells (s:BS))),(3,[.i 0])]) ?_;refine zau h (bz 0 10 1015) (fun j1=>[]) (fun j1=>(.B [(24,(Enc.cells (s:BS))),(3,[.i j1])])) ?_ ?_;intro or1 h hr1;refine zr [.v (.A (s:BS))] ?_;obtain⟨x1,hx1,h⟩:=zn h;refine zbx (args':=[.A (s:BS)]) (r:= .iter (List.map qbp x1)) (by rw[<-hx1];exact(k_all s)) ?_;refine zy ?_;refine zjc h qbp (fun s1=>(.B [(24,(Enc.cells (s:BS))),(3,[.i s1])])) rfl (fun _=>rfl) rfl rfl ?_ ?_;intro s1 w1 p1 h;refine zbt (by dsimp only[zkc,List.zip,List.zipWith,foldl,List.set,Array.toList,qbp]) rfl ?_;refine zy ?_;refine zb (k0:=0) (id:=3) ?_;refine w_o (a:= .i s1) ?_;obtain⟨g1,h⟩:=zk h;refine zjg g1 ?_;refine zfs 1 [.i (s1+1)] ?_;exact zes (p:=p1) ((s1+1)) h (zci (zaj (zab _ _ (Enc.clo _)) (zaj (by kernel_rfl) rfl))) (by kernel_rfl);intro s1 h;refine zc (o:=or1) (s1) h ?_;exact zbh (bl 10 8);intro j1 h;refine zdw ?_;refine zr [.v (.i j1),.m _] ?_;exact zkq h
def zlz (fuel:Nat)(s:(List UInt8)):Option (BS×Int×Int×Int):=
 (zaz (zhe s) (fun x1=>(bif x1.2 then(some (x1.1,0,2,0)) else(zaa (zas s zaw) (fun x2=>(chk (0<=x2.1/\ x2.1<256) (zaa (zex fuel ([(zkt x2.1)]:List UInt8)) (fun x3=>(some (x3,x2.1,x2.2.1,x2.2.2))))))))))
theorem ent64:Ent prog 64:=enters_of Tryz.func64 (by kernel_rfl) rfl
theorem qha (fuel:Nat)(s:(List UInt8))(r:(BS×Int×Int×Int))(h:zlz fuel s=some r):Pure (ITP prog) prog 64 [.raw (.string (bs s))] (.tup [.A (r.1:BS),.raw (.int .u8 r.2.1),.raw (.int .i64 r.2.2.1),.raw (.int .i64 r.2.2.2)]):=by
 unfold zlz at h;refine zbc 27 mix Tryz.func64 ent64 ?_;refine zj (zb ?_);refine zdl (Enc.cells (0#256:BS)) ?_;refine w_r [.v (.u 0),.v (.i 0),.v (.i 0)] ?_;refine zj ?_;refine zr [.m _] ?_;obtain⟨x1,hx1,h⟩:=zn h;refine zbx (args':=[.s s]) (r:= .tup [.A (x1.1:BS),.b x1.2]) (by rw[<-hx1];exact(qel s)) ?_;refine w_r [.m _,.x _,.x _] ?_;refine zdl (Enc.cells (0#256:BS)) ?_;refine zfs 4 (Enc.cells (x1.1:BS)) ?_;refine zah ?_;refine zr [.m _] ?_;refine zbv h (fun hc1 h=> ?_) (fun hc1 h=> ?_);refine zr [.v (.A (x1.1:BS))] ?_;refine zfs 4 (Enc.cells (x1.1:BS)) ?_;refine w_r [.v (.u 0),.v (.i 2),.v (.i 0)] ?_;exact zbs (fun(r:(BS×Int×Int×Int))=> .tup [.A (r.1:BS),.u r.2.1,.i r.2.2.1,.i r.2.2.2]) h (.tup [.A (x1.1:BS),.u 0,.i 2,.i 0]);refine zr [.m _] ?_;refine zbx (r:= .A (zaw:BS)) qgl ?_;obtain⟨x2,hx2,h⟩:=zm h;refine zbx (ztx s zaw x2 hx2) ?_;refine w_r [.m _,.x _,.x _,.x _,.m _] ?_;refine w_r [.m _,.m _] ?_;refine zr [.m _] ?_;obtain⟨g1,h⟩:=zk h;refine w_o (a:= .F (([(zkt x2.1)]:List UInt8):List UInt8)) (h:=zbl (zhc (α:=UInt8) (l:=([(zkt x2.1)]:List UInt8)) (cs:=[.u x2.1]) rfl (by show List.map _ _=_;simp only[map_cons,List.map_nil,u8c g1]))) ?_;obtain⟨x3,hx3,h⟩:=zm h;refine zbx (zhn fuel ([(zkt x2.1)]:List UInt8) x3 hx3) ?_;refine w_r [.m _,.m _,.m _] ?_;refine zfs 4 (Enc.cells (x3:BS)) ?_;refine w_r [.m _,.m _,.m _] ?_;exact zbs (fun(r:(BS×Int×Int×Int))=> .tup [.A (r.1:BS),.u r.2.1,.i r.2.2.1,.i r.2.2.2]) h (.tup [.A (x3:BS),.u x2.1,.i x2.2.1,.i x2.2.2])
def zdt (fuel:Nat)(s:(List UInt8)):Option (BS×Int×Int):=
 (zaz (Lib.hasPrefix s ([91]:List UInt8)) (fun x1=>(bif (!x1) then(some (0#256,0,94)) else(chk (0<=(1:Int)/\ (1:Int)<=(length s:Int)/\ (length s:Int)<=(length s:Int)) (zaz (sub s (1:Int) (length s:Int)) (fun x2=>(zaz (Lib.hasPrefix x2 ([94]:List UInt8)) (fun x3=>(zda (τ:=Int) (bif x3 then(some (inl (2))) else(some (inl (1)))) (fun j1=>(zda (τ:=Int×BS) (zbk (β:=Int×Bool×BS) (fun s1=>(zda (τ:=Unit) (bif s1.2.1 then(some (inl ())) else(bif (decide (s1.1<(length s:Int))) then(chk (0<=s1.1/\ s1.1<(length s:Int)) (zaz (ix s s1.1) (fun x4=>(bif ((((x4).toNat:Nat):Int) !=93) then(some (inl ())) else(some (inr (inr (inl (s1.1,s1.2.2))))))))) else(some (inr (inr (inl (s1.1,s1.2.2))))))) (fun j3=>(chk (0<=s1.1/\ s1.1<=(length s:Int)/\ (length s:Int)<=(length s:Int)) (zaz (sub s s1.1 (length s:Int)) (fun x5=>(zaa (zlz fuel x5) (fun x6=>(bif (x6.2.2.2 !=0) then(some (inr (inr (0#256,s1.1,94)))) else(chk (-9223372036854775808<=(s1.1+x6.2.2.1)/\ (s1.1+x6.2.2.1)<9223372036854775808) (zda (τ:=Int×BS) (bif (decide ((s1.1+x6.2.2.1)<(length s:Int))) then(chk (0<=(s1.1+x6.2.2.1)/\ (s1.1+x6.2.2.1)<(length s:Int)) (zaz (ix s (s1.1+x6.2.2.1)) (fun x7=>(bif ((((x7).toNat:Nat):Int)==45) then(chk (-9223372036854775808<=((s1.1+x6.2.2.1)+1)/\ ((s1.1+x6.2.2.1)+1)<9223372036854775808) (chk (0<=((s1.1+x6.2.2.1)+1)/\ ((s1.1+x6.2.2.1)+1)<=(length s:Int)/\ (length s:Int)<=(length s:Int)) (zaz (sub s ((s1.1+x6.2.2.1)+1) (length s:Int)) (fun x8=>(zaa (zlz fuel x8) (fun x9=>(bif (x9.2.2.2 !=0) then(chk (-9223372036854775808<=((s1.1+x6.2.2.1)+1)/\ ((s1.1+x6.2.2.1)+1)<9223372036854775808) (some (inr (inr (inr (0#256,((s1.1+x6.2.2.1)+1),94)))))) else(zaa (zim x6.1) (fun x10=>(bif (x10 !=1) then(some (inr (inr (inr (0#256,(s1.1+x6.2.2.1),94))))) else(zaa (zim x9.1) (fun x11=>(bif (x11 !=1) then(some (inr (inr (inr (0#256,(s1.1+x6.2.2.1),94))))) else(bif (decide (x6.2.1>x9.2.1)) then(some (inr (inr (inr (0#256,(s1.1+x6.2.2.1),94))))) else(chk (-9223372036854775808<=(1+x9.2.2.1)/\ (1+x9.2.2.1)<9223372036854775808) (chk (-9223372036854775808<=((s1.1+x6.2.2.1)+(1+x9.2.2.1))/\ ((s1.1+x6.2.2.1)+(1+x9.2.2.1))<9223372036854775808) (zaa (zdi fuel x6.2.1 x9.2.1) (fun x12=>(some (inl (((s1.1+x6.2.2.1)+(1+x9.2.2.1)),x12))))))))))))))))))))) else(some (inl ((s1.1+x6.2.2.1),x6.1))))))) else(some (inl ((s1.1+x6.2.2.1),x6.1)))) (fun j4=>(zaz (s1.2.2|||j4.2) (fun x13=>(some (inl (j4.1,false,x13))))))))))))))))) fuel (j1,true,0#256)) (fun j2=>(bif (j2.1==(length s:Int)) then(some (0#256,j2.1,94)) else(zda (τ:=BS) (bif x3 then(zaz (~~~j2.2) (fun x14=>(some (inl (x14))))) else(some (inl (j2.2)))) (fun j5=>(bif (decide (j5=(0#256))) then(some (0#256,0,94)) else(chk (-9223372036854775808<=(j2.1+1)/\ (j2.1+1)<9223372036854775808) (some (j5,(j2.1+1),0)))))))))))))))))))
theorem ent29:Ent prog 29:=enters_of Tryz.func29 (by kernel_rfl) rfl
theorem qbm (fuel:Nat)(s:(List UInt8))(r:(BS×Int×Int))(h:zdt fuel s=some r):Pure (ITP prog) prog 29 [.raw (.string (bs s))] (.tup [.A (r.1:BS),.raw (.int .i64 r.2.1),.raw (.int .i64 r.2.2)]):=by
 unfold zdt at h;refine zbc 121 mix Tryz.func29 ent29 ?_;refine zj (zb ?_);refine zdl (Enc.cells (0#256:BS)) ?_;refine w_r [.v (.i 0),.v (.i 0)] ?_;refine zj ?_;refine zr [.m _] ?_;obtain⟨x1,hx1,h⟩:=zn h;refine zbx (args':=[.s s,.s ([91]:List UInt8)]) (r:= .b x1) (by rw[<-hx1];exact(zts s ([91]:List UInt8))) ?_;refine w_o (a:= .b (!x1)) ?_;refine zbv h (fun hc1 h=> ?_) (fun hc1 h=> ?_);refine zr [.v (.A (0#256:BS))] ?_;refine znb 4 (.B [(24,(Enc.cells (0#256:BS)))]) ?_;refine w_r [.v (.i 0),.v (.i 94)] ?_;exact zbs (fun(r:(BS×Int×Int))=> .tup [.A (r.1:BS),.i r.2.1,.i r.2.2]) h (.tup [.A (0#256:BS),.i 0,.i 94]);refine zr [.v (.i 1)] ?_;refine zr [.m _] ?_;obtain⟨g1,h⟩:=zk h;obtain⟨x2,hx2,h⟩:=zn h;refine w_o (a:= .s x2) (h:=zbl (by rw[<-hx2];exact(zns (l:=s) g1 rfl rfl rfl rfl))) ?_;obtain⟨x3,hx3,h⟩:=zn h;refine zbx (args':=[.s x2,.s ([94]:List UInt8)]) (r:= .b x3) (by rw[<-hx3];exact(zts x2 ([94]:List UInt8))) ?_;refine zah ?_;refine zau h (bz 0 122 5316911983139663491615228241121378234) (fun j1=>[(5,.i j1)]) (fun j1=>(.B [(24,(Enc.cells (0#256:BS)))])) ?_ ?_;intro or1 h hr1;refine zr [.m _] ?_;refine zbv h (fun hc2 h=> ?_) (fun hc2 h=> ?_);refine zb (k0:=0) (id:=6) ?_;refine w_o (a:= .i 2) ?_;refine zc (o:=or1) (2) h ?_;exact zbh (bl 122 101);refine zc (o:=or1) (1) h ?_;exact zbh (bl 122 101);intro j1 h;refine zdw ?_;refine zj (zb ?_);refine zdl (Enc.cells (0#256:BS)) ?_;refine zau h (bz 0 106 81129638414606681695788971720504) (fun j2=>[(5,.i j2.1)]) (fun j2=>(.B [(24,(Enc.cells (0#256:BS))),(24,(Enc.cells (j2.2:BS)))])) ?_ ?_;intro or2 h hr2;refine zr [.v (.b true)] ?_;refine zy ?_;refine zdg h (bz 0 106 81129638414606681695788971720504) (fun s1=>[(5,.i s1.1),(8,.b s1.2.1)]) (fun s1=>(.B [(24,(Enc.cells (0#256:BS))),(24,(Enc.cells (s1.2.2:BS)))])) ?_ ?_;exact zbh (bl 122 5316830853501248884933532452149658087);intro s1 p1 h;refine zdw ?_;refine zau h (bz 0 38 274844352768) (fun j3=>[]) (fun j3=>(.B [(24,(Enc.cells (0#256:BS))),(24,(Enc.cells (s1.2.2:BS)))])) ?_ ?_;intro or3 h hr3;refine zr [.m _] ?_;refine zan h (fun hc3 h=> ?_) (fun hc3 h=> ?_);refine zav hc3 ?_;iterate 2 refine w_r [.p,.p,.p,.p,.p] ?_
 refine w_r [.v (.b true)] ?_;refine zel rfl ?_;refine zc (o:=or3) () h ?_;exact zbh (bl 122 5316911983139663491615227966277025535);refine zav hc3 ?_;refine w_r [.m _,.m _] ?_;refine zbj rfl rfl ?_;refine w_o (a:= .i (length s:Int)) (h:=zbl (zdq rfl rfl rfl)) ?_;refine zbj rfl rfl ?_;refine w_o (a:= .b (decide (s1.1<(length s:Int)))) ?_;refine zbj rfl rfl ?_;refine zan h (fun hc4 h=> ?_) (fun hc4 h=> ?_);refine zav hc4 ?_;refine w_r [.m _,.m _] ?_;refine zbj rfl rfl ?_;obtain⟨g2,h⟩:=zk h;obtain⟨x4,hx4,h⟩:=zn h;refine w_o (a:= .u (((x4).toNat:Nat):Int)) (h:=zbl (by rw[<-hx4];exact(zdv (l:=s) (n:=s1.1) g2 rfl rfl rfl rfl))) ?_;refine w_r [.v (.b ((((x4).toNat:Nat):Int) !=93)),.v (.b ((((x4).toNat:Nat):Int) !=93)),.v (.b ((((x4).toNat:Nat):Int) !=93))] ?_;refine zbv h (fun hc5 h=> ?_) (fun hc5 h=> ?_);refine zc (o:=or3) () h ?_;exact zbh (bl 122 5316911983139663491615227966277025535);replace h:=zaq h hr3;refine zae h (fun h=> ?_);refine zc (o:=or2) (s1.1,s1.2.2) h ?_;exact zbh (bl 122 5316830853501248884933532452149657831);refine zav hc4 ?_;refine w_r [.p,.p,.p,.p,.v (.b false)] ?_;refine w_r [.v (.b false)] ?_;refine zce rfl ?_;replace h:=zaq h hr3;refine zae h (fun h=> ?_);refine zc (o:=or2) (s1.1,s1.2.2) h ?_;exact zbh (bl 122 5316830853501248884933532452149657831);intro j3 h;refine zdw ?_;refine zj ?_;refine zy ?_;refine zr [.m _,.m _] ?_;obtain⟨g3,h⟩:=zk h;obtain⟨x5,hx5,h⟩:=zn h;refine w_o (a:= .s x5) (h:=zbl (by rw[<-hx5];exact(zns (l:=s) g3 rfl rfl rfl rfl))) ?_;obtain⟨x6,hx6,h⟩:=zm h;refine zbx (qha fuel x5 x6 hx6) ?_;refine w_r [.m _,.x _,.x _,.x _,.x _] ?_;refine zdl (Enc.cells (0#256:BS)) ?_;refine zfs 4 (Enc.cells (x6.1:BS)) ?_;refine w_r [.m _,.m _,.m _] ?_;refine zj ?_;refine zr [.m _,.v (.b (x6.2.2.2 !=0))] ?_;refine zbv h (fun hc6 h=> ?_) (fun hc6 h=> ?_);refine zr [.v (.A (0#256:BS)),.m _] ?_;refine znb 4 (.B [(24,(Enc.cells (0#256:BS))),(24,(Enc.cells (s1.2.2:BS))),(24,(Enc.cells (x6.1:BS)))]) ?_;refine w_r [.m _,.v (.i 94)] ?_;refine zae h (fun h=> ?_);replace h:=zaq h hr2;exact zbs (fun(r:(BS×Int×Int))=> .tup [.A (r.1:BS),.i r.2.1,.i r.2.2]) h (.tup [.A (0#256:BS),.i s1.1,.i 94]);refine zr [.m _,.m _] ?_;obtain⟨g4,h⟩:=zk h;refine zjg g4 ?_;refine zah ?_;refine zau h (bz 0 103 10141204801825833522848887602232) (fun j4=>[(5,.i j4.1)]) (fun j4=>(.B [(24,(Enc.cells (0#256:BS))),(24,(Enc.cells (s1.2.2:BS))),(24,(Enc.cells (j4.2:BS)))])) ?_ ?_;intro or4 h hr4;refine zr [.m _,.m _] ?_;refine w_o (a:= .i (length s:Int)) (h:=zbl (zdq rfl rfl rfl)) ?_;refine w_o (a:= .b (decide ((s1.1+x6.2.2.1)<(length s:Int)))) ?_;refine zan h (fun hc7 h=> ?_) (fun hc7 h=> ?_);refine zav hc7 ?_;refine w_r [.m _,.m _] ?_;refine zbj rfl rfl ?_;obtain⟨g5,h⟩:=zk h;obtain⟨x7,hx7,h⟩:=zn h;refine w_o (a:= .u (((x7).toNat:Nat):Int)) (h:=zbl (by rw[<-hx7];exact(zdv (l:=s) (n:=(s1.1+x6.2.2.1)) g5 rfl rfl rfl rfl))) ?_;refine w_r [.v (.b ((((x7).toNat:Nat):Int)==45)),.v (.b ((((x7).toNat:Nat):Int)==45))] ?_;refine zbv h (fun hc8 h=> ?_) (fun hc8 h=> ?_);refine zr [.m _,.m _] ?_;obtain⟨g6,h⟩:=zk h;refine zjg g6 ?_;obtain⟨g7,h⟩:=zk h;obtain⟨x8,hx8,h⟩:=zn h;refine w_o (a:= .s x8) (h:=zbl (by rw[<-hx8];exact(zns (l:=s) g7 rfl rfl rfl rfl))) ?_;obtain⟨x9,hx9,h⟩:=zm h;refine zbx (qha fuel x8 x9 hx9) ?_;refine w_r [.m _,.x _,.x _,.x _,.x _] ?_;refine zdl (Enc.cells (0#256:BS)) ?_;refine zfs 4 (Enc.cells (x9.1:BS)) ?_;refine w_r [.m _,.m _,.m _] ?_;refine zj ?_;refine zy ?_;refine zr [.m _,.v (.b (x9.2.2.2 !=0)),.m _] ?_;refine zbv h (fun hc9 h=> ?_) (fun hc9 h=> ?_);refine zr [.v (.A (0#256:BS)),.m _] ?_;obtain⟨g8,h⟩:=zk h;refine zjg g8 ?_;refine znb 4 (.B [(24,(Enc.cells (0#256:BS))),(24,(Enc.cells (s1.2.2:BS))),(24,(Enc.cells (x6.1:BS))),(24,(Enc.cells (x9.1:BS)))]) ?_;refine w_r [.m _,.v (.i 94)] ?_;replace h:=zaq h hr4;refine zae h (fun h=> ?_);replace h:=zaq h hr2;exact zbs (fun(r:(BS×Int×Int))=> .tup [.A (r.1:BS),.i r.2.1,.i r.2.2]) h (.tup [.A (0#256:BS),.i ((s1.1+x6.2.2.1)+1),.i 94]);refine zr [.v (.A (x6.1:BS))] ?_;obtain⟨x10,hx10,h⟩:=zm h;refine zbx (zyf x6.1 x10 hx10) ?_;refine w_o (a:= .b (x10 !=1)) ?_;refine zan h (fun hc10 h=> ?_) (fun hc10 h=> ?_);refine zav hc10 ?_;iterate 2 refine w_r [.p,.p,.p,.v (.b true),.m _] ?_
 refine zel rfl ?_;refine zr [.v (.A (0#256:BS)),.m _] ?_;refine znb 4 (.B [(24,(Enc.cells (0#256:BS))),(24,(Enc.cells (s1.2.2:BS))),(24,(Enc.cells (x6.1:BS))),(24,(Enc.cells (x9.1:BS)))]) ?_;refine w_r [.m _,.v (.i 94)] ?_;replace h:=zaq h hr4;refine zae h (fun h=> ?_);replace h:=zaq h hr2;exact zbs (fun(r:(BS×Int×Int))=> .tup [.A (r.1:BS),.i r.2.1,.i r.2.2]) h (.tup [.A (0#256:BS),.i (s1.1+x6.2.2.1),.i 94]);refine zav hc10 ?_;refine zbj rfl rfl ?_;refine w_o (a:= .A (x9.1:BS)) ?_;refine zbj rfl rfl ?_;obtain⟨x11,hx11,h⟩:=zm h;refine zbx (zyf x9.1 x11 hx11) ?_;refine w_r [.v (.b (x11 !=1)),.v (.b (x11 !=1))] ?_;refine zan h (fun hc11 h=> ?_) (fun hc11 h=> ?_);refine zav hc11 ?_;refine w_r [.p,.p,.p,.v (.b true),.m _] ?_;refine zel rfl ?_;refine zr [.v (.A (0#256:BS)),.m _] ?_;refine znb 4 (.B [(24,(Enc.cells (0#256:BS))),(24,(Enc.cells (s1.2.2:BS))),(24,(Enc.cells (x6.1:BS))),(24,(Enc.cells (x9.1:BS)))]) ?_;refine w_r [.m _,.v (.i 94)] ?_;replace h:=zaq h hr4;refine zae h (fun h=> ?_);replace h:=zaq h hr2;exact zbs (fun(r:(BS×Int×Int))=> .tup [.A (r.1:BS),.i r.2.1,.i r.2.2]) h (.tup [.A (0#256:BS),.i (s1.1+x6.2.2.1),.i 94]);refine zav hc11 ?_;refine w_r [.m _,.m _,.v (.b (decide (x6.2.1>x9.2.1))),.v (.b (decide (x6.2.1>x9.2.1))),.m _] ?_;refine zbv h (fun hc12 h=> ?_) (fun hc12 h=> ?_);refine zr [.v (.A (0#256:BS)),.m _] ?_;refine znb 4 (.B [(24,(Enc.cells (0#256:BS))),(24,(Enc.cells (s1.2.2:BS))),(24,(Enc.cells (x6.1:BS))),(24,(Enc.cells (x9.1:BS)))]) ?_;refine w_r [.m _,.v (.i 94)] ?_;replace h:=zaq h hr4;refine zae h (fun h=> ?_);replace h:=zaq h hr2;exact zbs (fun(r:(BS×Int×Int))=> .tup [.A (r.1:BS),.i r.2.1,.i r.2.2]) h (.tup [.A (0#256:BS),.i (s1.1+x6.2.2.1),.i 94]);refine zr [.m _,.m _] ?_;obtain⟨g9,h⟩:=zk h;refine zjg g9 ?_;obtain⟨g10,h⟩:=zk h;refine zjg g10 ?_;refine zah ?_;refine zb (k0:=0) (id:=22) ?_;refine w_r [.m _,.m _] ?_;obtain⟨x12,hx12,h⟩:=zm h;refine zbx (zks fuel x6.2.1 x9.2.1 x12 hx12) ?_;refine zfs 4 (Enc.cells (x12:BS)) ?_;refine zc (o:=or4) (((s1.1+x6.2.2.1)+(1+x9.2.2.1)),x12) h ?_;exact zfl (bl 122 5316901841934861665781705392233776103) 3 (by kernel_rfl) (Nat.le_of_ble_eq_true rfl) (zci (zaj (zab _ _ (Enc.clo _)) (zaj (zab _ _ (Enc.clo _)) (zaj (zab _ _ (Enc.clo _)) rfl)))) (by dsimp only[zbq,zdf,foldl,List.set,bz,bzc,Nat.reduceMod,Nat.reduceDiv,Nat.reduceBEq,Nat.reduceAdd];exact(za rfl (za rfl (za (by decide) (za rfl (za rfl (za rfl (za rfl (za (by decide) (za rfl (za (by decide) (by kernel_rfl)))))))))))) (by kernel_rfl);refine zc (o:=or4) ((s1.1+x6.2.2.1),x6.1) h ?_;exact zbh (bl 122 5316901841934861665781705392233776103);refine zav hc7 ?_;refine w_r [.p,.p,.p,.p,.v (.b false)] ?_;refine zce rfl ?_;refine zc (o:=or4) ((s1.1+x6.2.2.1),x6.1) h ?_;exact zbh (bl 122 5316901841934861665781705392233776103);intro j4 h;refine zdw ?_;refine zb (k0:=0) (id:=23) ?_;refine w_r [.v (.A (s1.2.2:BS)),.v (.A (j4.2:BS))] ?_;obtain⟨x13,hx13,h⟩:=zn h;refine zbx (args':=[.A (s1.2.2:BS),.A (j4.2:BS)]) (r:= .A (x13:BS)) (by rw[<-hx13];exact(qld s1.2.2 j4.2)) ?_;refine znb 4 (.B [(24,(Enc.cells (0#256:BS))),(24,(Enc.cells (x13:BS))),(24,(Enc.cells (j4.2:BS)))]) ?_;refine zb (k0:=0) (id:=10) ?_;refine w_o (a:= .b false) ?_;refine zbr (p:=p1) (j4.1,false,x13) h ?_;exact zfl (bl 122 5316830853501248884933532452149658087) 2 (by kernel_rfl) (Nat.le_of_ble_eq_true rfl) (zci (zaj (zab _ _ (Enc.clo _)) (zaj (zab _ _ (Enc.clo _)) rfl))) (by dsimp only[zbq,zdf,foldl,List.set,bz,bzc,Nat.reduceMod,Nat.reduceDiv,Nat.reduceBEq,Nat.reduceAdd];exact(za rfl (za rfl (za (by decide) (za rfl (za rfl (za rfl (za rfl (za (by decide) (by kernel_rfl)))))))))) (by kernel_rfl);intro j2 h;refine zdw ?_;refine zj ?_;refine zr [.m _,.m _] ?_;refine w_o (a:= .i (length s:Int)) (h:=zbl (zdq rfl rfl rfl)) ?_;refine w_o (a:= .b (j2.1==(length s:Int))) ?_;refine zbv h (fun hc13 h=> ?_) (fun hc13 h=> ?_);refine zr [.v (.A (0#256:BS)),.m _] ?_;refine znb 4 (.B [(24,(Enc.cells (0#256:BS))),(24,(Enc.cells (j2.2:BS)))]) ?_;refine w_r [.m _,.v (.i 94)] ?_;exact zbs (fun(r:(BS×Int×Int))=> .tup [.A (r.1:BS),.i r.2.1,.i r.2.2]) h (.tup [.A (0#256:BS),.i j2.1,.i 94]);refine zau h (bz 0 115 37563022585962893625150309381701697) (fun j5=>[]) (fun j5=>(.B [(24,(Enc.cells (0#256:BS))),(24,(Enc.cells (j5:BS)))])) ?_ ?_;intro or5 h hr5;refine zr [.m _] ?_;refine zbv h (fun hc14 h=> ?_) (fun hc14 h=> ?_);refine zb (k0:=0) (id:=27) ?_;refine w_o (a:= .A (j2.2:BS)) ?_;obtain⟨x14,hx14,h⟩:=zn h;refine zbx (args':=[.A (j2.2:BS)]) (r:= .A (x14:BS)) (by rw[<-hx14];exact(qep j2.2)) ?_;refine zfs 4 (Enc.cells (x14:BS)) ?_;refine zc (o:=or5) (x14) h ?_;exact zbh (bl 122 5279348960553700597990077931739676606);refine zc (o:=or5) (j2.2) h ?_;exact zbh (bl 122 5279348960553700597990077931739676606);intro j5 h;refine zdw ?_;refine zj ?_;refine zr [.v (.A (j5:BS)),.v (.A (0#256:BS))] ?_;refine zzi (.b (decide (j5=(0#256)))) rfl rfl rfl (zmk j5 (0#256) rfl rfl rfl) (by dsimp only[zad,List.set]) ?_;refine zbv h (fun hc15 h=> ?_) (fun hc15 h=> ?_);refine zr [.v (.A (0#256:BS))] ?_;refine znb 4 (.B [(24,(Enc.cells (0#256:BS))),(24,(Enc.cells (j5:BS)))]) ?_;refine w_r [.v (.i 0),.v (.i 94)] ?_;exact zbs (fun(r:(BS×Int×Int))=> .tup [.A (r.1:BS),.i r.2.1,.i r.2.2]) h (.tup [.A (0#256:BS),.i 0,.i 94]);refine zr [.v (.A (j5:BS)),.m _] ?_;obtain⟨g11,h⟩:=zk h;refine zjg g11 ?_;refine zfs 4 (Enc.cells (j5:BS)) ?_;refine w_r [.m _,.v (.i 0)] ?_;exact zbs (fun(r:(BS×Int×Int))=> .tup [.A (r.1:BS),.i r.2.1,.i r.2.2]) h (.tup [.A (j5:BS),.i (j2.1+1),.i 0])
def zkk (fuel:Nat)(c:Int):Option Tr:=
 (chk (0<=c/\ c<256) (zaa (zex fuel ([(zkt c)]:List UInt8)) (fun x1=>(zaz (ofT x1) (fun x2=>(some x2))))))
theorem ent73:Ent prog 73:=enters_of Tryz.func73 (by kernel_rfl) rfl
theorem z4f (fuel:Nat)(c:Int)(r:Tr)(h:zkk fuel c=some r):Pure (ITP prog) prog 73 [.raw (.int .u8 c)] (.A (r:Tr)):=by
 unfold zkk at h;refine zbc 6 mix Tryz.func73 ent73 ?_;refine zj (zb ?_);refine zdl zN ?_;refine zr [.m _] ?_;obtain⟨g1,h⟩:=zk h;refine w_o (a:= .F (([(zkt c)]:List UInt8):List UInt8)) (h:=zbl (zhc (α:=UInt8) (l:=([(zkt c)]:List UInt8)) (cs:=[.u c]) rfl (by show List.map _ _=_;simp only[map_cons,List.map_nil,u8c g1]))) ?_;obtain⟨x1,hx1,h⟩:=zm h;refine zbx (zhn fuel ([(zkt c)]:List UInt8) x1 hx1) ?_;obtain⟨x2,hx2,h⟩:=zn h;refine zbx (args':=[.A (x1:BS)]) (r:= .A (x2:Tr)) (by rw[<-hx2];exact(k_of x1)) ?_;refine zfs 8 (Enc.cells (x2:Tr)) ?_;exact zbs (fun(r:Tr)=> .A (r:Tr)) h (.A (x2:Tr))
theorem zdz {P:Program} {ρ:Operand->AV} {U:St} {o:Oper} {t:TypeId} {x y:Operand} {c} {a b:List UInt8} (g:a.length+b.length<=9223372036854775807)(ho:o.op= .binOp .add t x y c)(hx:ρ x= .raw (.string (bs a)))(hy:ρ y= .raw (.string (bs b))):qop P ρ U o=some (.raw (.string (bs (a++b)))):=by
 have hs: ¬((((bs a).size+(bs b).size:Nat):Int)>IntKind.i64.max):=by
  have h1:(bs a).size=a.length:=rfl;have h2:(bs b).size=b.length:=rfl;have h3:IntKind.i64.max=9223372036854775807:=rfl;rw[h1,h2,h3];omega
 have h3:val? P (execOp (zch ρ) o)=some (.value (.string (bs (a++b)))):=by
  rw[<-bs_app];simp only[execOp,ho,zch,hx,hy,zdr,eqGuard,binOp,Op.stringOp,Option.getD_some];simp only[if_neg hs];rfl
 have h1:o.op.operands.toList.all (fun x=>(zdr (ρ x)).isSome)=true:=by rw[ho];simp[Op.operands,hx,hy,zdr]
 have h4:zfi P ρ o=some (.raw (.string (bs (a++b)))):=by
  unfold zfi;rw[if_pos h1,ho,h3];rfl
 simp only[qop,ho,hx,hy,h4]
def hexD (n:Nat):UInt8:=UInt8.ofNat (if n<10 then 48+n else 87+n)
def hexS (n:Nat):List UInt8:=[92,120,hexD (n/16),hexD (n%16)]
def bit (n:Nat):BS:=1#256<<<n
def bits:Nat->Nat->BS
 |_,0=>0#256
 |c,k+1=>bit c|||bits (c+1) k
theorem wd_inj4 {s t:BS} (h: ∀j,j<4->wd s j=wd t j):s=t:=by
 have h2:=qfb s t;have h3:(wd s 0==wd t 0&&wd s 1==wd t 1&&wd s 2==wd t 2&&wd s 3==wd t 3)=true:=by
  rw[h 0 (by decide),h 1 (by decide),h 2 (by decide),h 3 (by decide)];simp
 rw[h2] at h3;exact of_decide_eq_true h3
theorem qnu (s:BS)(j:Nat):orI .u64 (wd s j) 0=wd s j:=by
 have h:=qgc s 0#256 j;rw[show s|||0#256=s by simp,wd_zero] at h;exact h
theorem qew:((List.range 256).all fun c=>decide (wd (bit c) (c/64)=zqn .u64 1 ((c%64:Nat):Int))&&(List.range 4).all fun j=>j==c/64||decide (wd (bit c) j=0))=true:=by decide+kernel
theorem st_bit (s:BS)(c:Nat)(hc:c<256):stW s (c/64) (orI .u64 (wd s (c/64)) (zqn .u64 1 ((c%64:Nat):Int)))=s|||bit c:=by
 have ht:=all_eq_true.1 qew c (mem_range.2 hc);rw[Bool.and_eq_true] at ht;have h1:=of_decide_eq_true ht.1;have h2: ∀j,j<4->j≠c/64->wd (bit c) j=0:=fun j hj hne=>by
  have:=all_eq_true.1 ht.2 j (mem_range.2 hj);simpa[hne] using this
 have hv:0<=orI .u64 (wd s (c/64)) (zqn .u64 1 ((c%64:Nat):Int))/\ orI .u64 (wd s (c/64)) (zqn .u64 1 ((c%64:Nat):Int))<2^64:=by
  rw[<-h1,qgc];exact qbd _ _
 refine wd_inj4 fun j hj=> ?_;rw[qfh _ _ _ hv j hj, <-qgc];split
 ·rename_i e;subst e;rw[h1]
 ·rename_i e;rw[h2 j hj e,qnu]
theorem orI_lt (s:BS)(c:Nat)(hc:c<256):0<=orI .u64 (wd s (c/64)) (zqn .u64 1 ((c%64:Nat):Int))/\ orI .u64 (wd s (c/64)) (zqn .u64 1 ((c%64:Nat):Int))<18446744073709551616:=by
 have ht:=all_eq_true.1 qew c (mem_range.2 hc);rw[Bool.and_eq_true] at ht;have h1:=of_decide_eq_true ht.1;rw[<-h1,qgc];exact qbd _ _
theorem sh_tab:((List.range 256).all fun c=>decide (zge .i64 ((c:Nat):Int) 6=((c/64:Nat):Int))&&decide (znf .i64 ((c:Nat):Int) 63=((c%64:Nat):Int))&&decide (IntKind.i64.wrap (tdiv ((c:Nat):Int) 64)=((c/64:Nat):Int))&&decide (tmod ((c:Nat):Int) 64=((c%64:Nat):Int))&&decide (zex 1100 [UInt8.ofNat c]=some (bit c))&&decide (zim (bit c)=some 1))=true:=by decide+kernel
theorem z7y {ρ:Type} (body:Int×BS->Option ((Int×BS) ⊕ ρ))(R:BS->ρ)(d:Nat)(hs: ∀(c:Nat)(s:BS),c<=d->body (((c:Nat):Int),s)=some (.inl (((c:Nat):Int)+1,s|||bit c)))(he: ∀s:BS,body (((d+1:Nat):Int),s)=some (.inr (R s))):
 ∀(k c:Nat) (s:BS) (fuel:Nat),c+k=d+1->k<fuel->zbk body fuel (((c:Nat):Int),s)=some (R (s|||bits c k))
 | 0,c,s,fuel,h1,h2=>by
  obtain⟨f,rfl⟩: ∃f,fuel=f+1:=⟨fuel-1,by omega⟩;have:c=d+1:=by omega
  subst this;rw[zbk,he];simp[bits]
 | k+1,c,s,fuel,h1,h2=>by
  obtain⟨f,rfl⟩: ∃f,fuel=f+1:=⟨fuel-1,by omega⟩;rw[zbk,hs c s (by omega)];have:=z7y body R d hs he k (c+1) (s|||bit c) f (by omega) (by omega);simp only[Int.natCast_add,Int.cast_ofNat_Int] at this;show zbk body f (((c:Nat):Int)+1,s|||bit c)=_;rw[this,bits,BitVec.or_assoc]
theorem z6d (c:Nat)(hc:c<256):zge .i64 ((c:Nat):Int) 6=((c/64:Nat):Int)/\ znf .i64 ((c:Nat):Int) 63=((c%64:Nat):Int)/\ IntKind.i64.wrap (tdiv ((c:Nat):Int) 64)=((c/64:Nat):Int)/\ tmod ((c:Nat):Int) 64=((c%64:Nat):Int)/\ zex 1100 [UInt8.ofNat c]=some (bit c)/\ zim (bit c)=some 1:=by
 have ht:=all_eq_true.1 sh_tab c (mem_range.2 hc);simp only[Bool.and_eq_true,decide_eq_true_eq] at ht;obtain⟨⟨⟨⟨⟨a,b⟩,c⟩,d⟩,e⟩,f⟩:=ht;exact⟨a,b,c,d,e,f⟩
theorem z5y (c d:Nat)(hcd:c<=d)(hd:d<256):zdi 1100 ((c:Nat):Int) ((d:Nat):Int)=some (bits c (d+1-c)):=by
 unfold zdi;refine zbg (bits c (d+1-c)) ?_ rfl;refine zt (by omega) ?_;have h:=z7y (ρ:=BS ⊕ BS) (fun s1=>(chk (-9223372036854775808<=((d:Nat):Int)/\ ((d:Nat):Int)<9223372036854775808) (bif (decide (s1.1<=((d:Nat):Int))) then(chk (0<=(zge .i64 s1.1 6)/\ (zge .i64 s1.1 6)<4) (chk (0<=(znf .i64 s1.1 63)) (chk (0<=(zge .i64 s1.1 6)/\ (zge .i64 s1.1 6)<4) (chk (0<=(orI .u64 (wd s1.2 (toNat (zge .i64 s1.1 6))) (zqn .u64 1 (znf .i64 s1.1 63)))/\ (orI .u64 (wd s1.2 (toNat (zge .i64 s1.1 6))) (zqn .u64 1 (znf .i64 s1.1 63)))<18446744073709551616) (zaz (stW s1.2 (toNat (zge .i64 s1.1 6)) (orI .u64 (wd s1.2 (toNat (zge .i64 s1.1 6))) (zqn .u64 1 (znf .i64 s1.1 63)))) (fun x1=>(chk (-9223372036854775808<=(s1.1+1)/\ (s1.1+1)<9223372036854775808) (some (inl ((s1.1+1),x1)))))))))) else(some (inr (inl (s1.2))))))) (fun s=> .inl s) d ?_ ?_ (d+1-c) c 0#256 1100 (by omega) (by omega)
 ·rw[show(0#256:BS)|||bits c (d+1-c)=bits c (d+1-c) by simp] at h;exact h
 ·intro e s he;obtain⟨q1,q2,_⟩:=z6d e (by omega);refine zt (by omega) ?_;rw[show decide (((e:Nat):Int)<=((d:Nat):Int))=true by simp;omega,cond_true];simp only[q1,q2,Int.toNat_natCast];refine zt (by omega) (zt (by omega) (zt (by omega) (zt (orI_lt s e (by omega)) ?_)));refine zv fun x hx=> ?_;rw[st_bit s e (by omega)] at hx;subst hx;exact zt (by omega) rfl
 ·intro s;refine zt (by omega) ?_;rw[show decide (((d+1:Nat):Int)<=((d:Nat):Int))=false by simp;omega,cond_false]
abbrev It:=Nat×Option Nat
def qnp:It->BS
 |(c,none)=>bit c
 |(c,some d)=>bits c (d+1-c)
def gdI:It->Prop
 |(c,none)=>c<256
 |(c,some d)=>c<=d/\ d<256
def zxz (s:BS)(l:List It):BS:=l.foldl (fun s i=>s|||qnp i) s
def zxg (s:List UInt8):Int×Bool×BS->Option ((Int×Bool×BS) ⊕ ((Int×BS) ⊕ (BS×Int×Int))):=
 (fun s1=>(zda (τ:=Unit) (bif s1.2.1 then(some (inl ())) else(bif (decide (s1.1<(length s:Int))) then(chk (0<=s1.1/\ s1.1<(length s:Int)) (zaz (ix s s1.1) (fun x4=>(bif ((((x4).toNat:Nat):Int) !=93) then(some (inl ())) else(some (inr (inr (inl (s1.1,s1.2.2))))))))) else(some (inr (inr (inl (s1.1,s1.2.2))))))) (fun j3=>(chk (0<=s1.1/\ s1.1<=(length s:Int)/\ (length s:Int)<=(length s:Int)) (zaz (sub s s1.1 (length s:Int)) (fun x5=>(zaa (zlz 1100 x5) (fun x6=>(bif (x6.2.2.2 !=0) then(some (inr (inr (0#256,s1.1,94)))) else(chk (-9223372036854775808<=(s1.1+x6.2.2.1)/\ (s1.1+x6.2.2.1)<9223372036854775808) (zda (τ:=Int×BS) (bif (decide ((s1.1+x6.2.2.1)<(length s:Int))) then(chk (0<=(s1.1+x6.2.2.1)/\ (s1.1+x6.2.2.1)<(length s:Int)) (zaz (ix s (s1.1+x6.2.2.1)) (fun x7=>(bif ((((x7).toNat:Nat):Int)==45) then(chk (-9223372036854775808<=((s1.1+x6.2.2.1)+1)/\ ((s1.1+x6.2.2.1)+1)<9223372036854775808) (chk (0<=((s1.1+x6.2.2.1)+1)/\ ((s1.1+x6.2.2.1)+1)<=(length s:Int)/\ (length s:Int)<=(length s:Int)) (zaz (sub s ((s1.1+x6.2.2.1)+1) (length s:Int)) (fun x8=>(zaa (zlz 1100 x8) (fun x9=>(bif (x9.2.2.2 !=0) then(chk (-9223372036854775808<=((s1.1+x6.2.2.1)+1)/\ ((s1.1+x6.2.2.1)+1)<9223372036854775808) (some (inr (inr (inr (0#256,((s1.1+x6.2.2.1)+1),94)))))) else(zaa (zim x6.1) (fun x10=>(bif (x10 !=1) then(some (inr (inr (inr (0#256,(s1.1+x6.2.2.1),94))))) else(zaa (zim x9.1) (fun x11=>(bif (x11 !=1) then(some (inr (inr (inr (0#256,(s1.1+x6.2.2.1),94))))) else(bif (decide (x6.2.1>x9.2.1)) then(some (inr (inr (inr (0#256,(s1.1+x6.2.2.1),94))))) else(chk (-9223372036854775808<=(1+x9.2.2.1)/\ (1+x9.2.2.1)<9223372036854775808) (chk (-9223372036854775808<=((s1.1+x6.2.2.1)+(1+x9.2.2.1))/\ ((s1.1+x6.2.2.1)+(1+x9.2.2.1))<9223372036854775808) (zaa (zdi 1100 x6.2.1 x9.2.1) (fun x12=>(some (inl (((s1.1+x6.2.2.1)+(1+x9.2.2.1)),x12))))))))))))))))))))) else(some (inl ((s1.1+x6.2.2.1),x6.1))))))) else(some (inl ((s1.1+x6.2.2.1),x6.1)))) (fun j4=>(zaz (s1.2.2|||j4.2) (fun x13=>(some (inl (j4.1,false,x13)))))))))))))))))
theorem zmb {α:Type} (l:List α)(k:Nat):sub l ((k:Nat):Int) (l.length:Int)=l.drop k:=by
 unfold sub;rw[Int.toNat_natCast,Int.toNat_natCast,List.take_of_length_le (by simp)]
theorem qde (a b:List UInt8)(c:UInt8):ix (a++c::b) (a.length:Int)=c:=by
 unfold ix;rw[Int.toNat_natCast,List.getD_eq_getElem?_getD,List.getElem?_append_right (Nat.le_refl _)];simp
def Ag (m:Nat)(x y:List UInt8):Prop:=m<=x.length/\ m<=y.length/\ ∀i,i<m->x[i]? =y[i]?
theorem Ag.mono {m n:Nat} {x y:List UInt8} (h:Ag m x y)(hn:n<=m):Ag n x y:=⟨by have:=h.1;omega,by have:=h.2.1;omega,fun i hi=>h.2.2 i (by omega)⟩
theorem Ag.drop {m n k:Nat} {x y:List UInt8} (h:Ag m x y)(hn:k+n<=m):Ag n (x.drop k) (y.drop k):=by
 refine⟨?_,?_,fun i hi=> ?_⟩
 ·have:=h.1;simp;omega
 ·have:=h.2.1;simp;omega
 ·rw[List.getElem?_drop,List.getElem?_drop];exact h.2.2 _ (by omega)
theorem Ag.ix {m:Nat} {x y:List UInt8} (h:Ag m x y) {i:Int} (hi:i.toNat<m):Ab.ix x i=Ab.ix y i:=by
 unfold Ab.ix;rw[List.getD_eq_getElem?_getD,List.getD_eq_getElem?_getD,h.2.2 _ hi]
theorem Ag.cons {m:Nat} {a:UInt8} {t y:List UInt8} (h:Ag (m+1) (a::t) y): ∃u,y=a::u/\ Ag m t u:=by
 obtain⟨h1,h2,h3⟩:=h;cases y with
 |nil=>simp at h2
 | cons b u=>
  have:=h3 0 (by omega);simp only[List.getElem?_cons_zero,Option.some.injEq] at this;subst this;exact⟨u,rfl,by simpa using h1,by simpa using h2,fun i hi=>by simpa using h3 (i+1) (by omega)⟩
theorem qni:((List.range 256).all fun c=>decide (0<=zge .u8 ((c:Nat):Int) 6/\ zge .u8 ((c:Nat):Int) 6<4)&&decide (0<=znf .u8 ((c:Nat):Int) 63))=true:=by decide+kernel
theorem z9j (m:BS)(a:UInt8): ∃b,zlh m ((a.toNat:Nat):Int)=some b:=by
 have ht:=all_eq_true.1 qni a.toNat (mem_range.2 a.toNat_lt);simp only[Bool.and_eq_true,decide_eq_true_eq] at ht;exact⟨_,zt ht.1 (zt ht.2 rfl)⟩
theorem qkh {α:Type} {c:Bool} {A B:Option α} (ha: ∃b,A=some b)(hb: ∃b,B=some b): ∃b,(bif c then A else B)=some b:=by
 cases c
 ·exact hb
 ·exact ha
theorem zwt (m:BS)(a:UInt8): ∃b,zfy m ((a.toNat:Nat):Int)=some b:=by
 obtain⟨b,hb⟩:=z9j m a;unfold zfy;simp only[hb,bindE_some];repeat' first|exact⟨_,rfl⟩|refine qkh ?_ ?_
theorem nib_tab:((List.range 256).all fun c=>(ziv ((c:Nat):Int)).isSome)=true:=by decide+kernel
theorem qdh (a:UInt8): ∃b,ziv ((a.toNat:Nat):Int)=some b:=by
 have ht:=all_eq_true.1 nib_tab a.toNat (mem_range.2 a.toNat_lt);exact Option.isSome_iff_exists.1 ht
theorem qoy (m:BS):zfy m 120=some false:=by
 obtain⟨b,hb⟩:=z9j m 120;have hb:zlh m 120=some b:=hb;unfold zfy;simp only[hb,bindE_some];cases b<;>rfl
theorem len1 (a:UInt8)(t:List UInt8):(0:Int)<=(0:Int)/\ (0:Int)<(((a::t).length:Nat):Int):=by simp only[length_cons];omega
theorem rb1 (a:UInt8)(ha:a≠92)(m:BS): ∃r:Int×Int×Int,(∀t,zas (a::t) m=some r)/\ (r.2.2=0->r.2.1=1)/\ 0<=r.1/\ r.1<256:=by
 obtain⟨b,hb⟩:=zwt m a;have h92:(((a.toNat:Nat):Int) !=92)=true:=by
  simp only[bne_iff_ne,ne_eq];intro e;exact ha (UInt8.toNat_inj.1 (by simp;omega))
 have hne: ∀t:List UInt8,(a::t==[])=false:=fun _=>rfl;have i0: ∀t:List UInt8,ix (a::t) (0:Int)=a:=fun _=>rfl;have hl:=a.toNat_lt;by_cases hg:(32<=((a.toNat:Nat):Int)/\ ((a.toNat:Nat):Int)<=126)/\ b=false
 ·obtain⟨⟨g1,g2⟩,rfl⟩:=hg;refine⟨(((a.toNat:Nat):Int),1,0),fun t=> ?_,fun _=>rfl,by simp only;omega,by simp only;omega⟩;unfold zas;simp only[hne,cond_false,zbo (len1 a t),i0,zaz,h92,cond_true,hb,bindE_some,Bool.not_false,decide_eq_true (show((a.toNat:Nat):Int)>=32 from g1),decide_eq_true g2,cutE_inl,cond_true]
 ·refine⟨(0,0,20),fun t=> ?_,fun h=>by simp at h,by simp,by simp⟩;unfold zas;simp only[hne,cond_false,zbo (len1 a t),i0,zaz,h92,cond_true,hb,bindE_some];by_cases g1:((a.toNat:Nat):Int)>=32
  ·by_cases g2:((a.toNat:Nat):Int)<=126
   ·have:b=true:=by cases b;exact absurd ⟨⟨g1,g2⟩,rfl⟩ hg;rfl
    simp only[decide_eq_true g1,decide_eq_true g2,this,cond_true,Bool.not_true,cond_false,cutE_inl]
   ·simp only[decide_eq_true g1,decide_eq_false g2,cond_true,cond_false,cutE_inl]
  ·simp only[decide_eq_false g1,cond_false,cutE_inl,cond_true]
theorem rb_nil (m:BS):zas [] m=some (0,0,20):=rfl
theorem rb_92 (m:BS):zas [92] m=some (0,0,20):=rfl
theorem nrt (b:UInt8):Lib.indexByte ([110,114,116]:List UInt8) b>=0->Lib.indexByte ([110,114,116]:List UInt8) b<3:=by
 unfold Lib.indexByte Lib.indexByte Lib.indexByte Lib.indexByte;intro _;repeat' split
 all_goals omega
theorem rb2 (b:UInt8)(hb:b≠120)(m:BS): ∃r:Int×Int×Int,(∀t,zas (92::b::t) m=some r)/\ (r.2.2=0->r.2.1=2)/\ 0<=r.1/\ r.1<256:=by
 obtain⟨k,hk⟩:=zwt m b;have hne: ∀t:List UInt8,(92::b::t==[])=false:=fun _=>rfl;have i0: ∀t:List UInt8,ix (92::b::t) (0:Int)=92:=fun _=>rfl;have i1: ∀t:List UInt8,ix (92::b::t) (1:Int)=b:=fun _=>rfl;have l2: ∀t:List UInt8,(0:Int)<=(1:Int)/\ (1:Int)<(((92::b::t).length:Nat):Int):=fun t=>by simp only[length_cons];omega
 have g2: ∀t:List UInt8,decide ((((92::b::t).length:Nat):Int)<2)=false:=fun t=>decide_eq_false (by simp only[length_cons];omega);have h120:(((b.toNat:Nat):Int)==120)=false:=by
  rw[beq_eq_false_iff_ne];intro e;exact hb (UInt8.toNat_inj.1 (by simp;omega))
 have hl:=b.toNat_lt;have q:((((92:UInt8).toNat:Nat):Int) !=92)=false:=rfl;suffices h: ∃r:Int×Int×Int,(∀t,zas (92::b::t) m=some r)/\ ((r=(((b.toNat:Nat):Int),2,0)) \/r=(0,0,20) \/ ∃c:UInt8,r=(((c.toNat:Nat):Int),2,0)) by
  obtain⟨r,h1,h2⟩:=h;refine⟨r,h1,?_⟩;rcases h2 with rfl|rfl|⟨c,rfl⟩
  ·exact⟨fun _=>rfl,by simp only;omega,by simp only;omega⟩
  ·exact⟨fun h=>by simp at h,by simp,by simp⟩
  ·have:=c.toNat_lt;exact⟨fun _=>rfl,by simp only;omega,by simp only;omega⟩
 have e: ∀t,zas (92::b::t) m=zda (τ:=Bool) (bif ((((b).toNat:Nat):Int)==92) then(some (inl true)) else(some (inl k))) (fun j4=>(bif j4 then(some ((((b).toNat:Nat):Int),2,0)) else(bif (decide (Lib.indexByte ([110,114,116]:List UInt8) b>=0)) then(chk (0<=Lib.indexByte ([110,114,116]:List UInt8) b/\ Lib.indexByte ([110,114,116]:List UInt8) b<(length ([10,13,9]:List UInt8):Int)) (some ((((ix ([10,13,9]:List UInt8) (Lib.indexByte ([110,114,116]:List UInt8) b)).toNat:Nat):Int),2,0))) else(some (0,0,20))))):=by
  intro t;unfold zas;simp only[hne,cond_false,zbo (len1 92 (b::t)),i0,zaz,q,g2,cutE_inl,i1,zbo (l2 t),h120,hk,bindE_some]
 cases h1:(((b.toNat:Nat):Int)==92) with
 |true=>exact⟨_,fun t=>by rw[e,h1];rfl,.inl rfl⟩
 | false=>
  cases k with
  |true=>exact⟨_,fun t=>by rw[e,h1];rfl,.inl rfl⟩
  | false=>
   by_cases h2:Lib.indexByte ([110,114,116]:List UInt8) b>=0
   ·refine⟨_,fun t=> ?_,.inr (.inr ⟨ix ([10,13,9]:List UInt8) (Lib.indexByte ([110,114,116]:List UInt8) b),rfl⟩)⟩;rw[e,h1,cond_false,cutE_inl,cond_false,decide_eq_true h2,cond_true,zbo ⟨h2,by simpa using nrt b h2⟩]
   ·exact⟨_,fun t=>by rw[e,h1,cond_false,cutE_inl,cond_false,decide_eq_false h2];rfl,.inr (.inl rfl)⟩
theorem wrap8 (v:Int):0<=IntKind.u8.wrap v/\ IntKind.u8.wrap v<256:=by
 unfold IntKind.wrap;simp only[IntKind.bits,IntKind.signed];simp;omega
theorem rb3 (c d:UInt8)(m:BS): ∃r:Int×Int×Int,(∀t,zas (92::120::c::d::t) m=some r)/\ (r.2.2=0->r.2.1=4)/\ 0<=r.1/\ r.1<256:=by
 obtain⟨p,hp⟩:=qdh c;obtain⟨q,hq⟩:=qdh d;have hne: ∀t:List UInt8,(92::120::c::d::t==[])=false:=fun _=>rfl;have i0: ∀t:List UInt8,ix (92::120::c::d::t) (0:Int)=92:=fun _=>rfl;have i1: ∀t:List UInt8,ix (92::120::c::d::t) (1:Int)=120:=fun _=>rfl;have i2: ∀t:List UInt8,ix (92::120::c::d::t) (2:Int)=c:=fun _=>rfl;have i3: ∀t:List UInt8,ix (92::120::c::d::t) (3:Int)=d:=fun _=>rfl;have l1: ∀t:List UInt8,(0:Int)<=(1:Int)/\ (1:Int)<(((92::120::c::d::t).length:Nat):Int):=fun t=>by simp only[length_cons];omega
 have l2: ∀t:List UInt8,(0:Int)<=(2:Int)/\ (2:Int)<(((92::120::c::d::t).length:Nat):Int):=fun t=>by simp only[length_cons];omega
 have l3: ∀t:List UInt8,(0:Int)<=(3:Int)/\ (3:Int)<(((92::120::c::d::t).length:Nat):Int):=fun t=>by simp only[length_cons];omega
 have g2: ∀t:List UInt8,decide ((((92::120::c::d::t).length:Nat):Int)<2)=false:=fun t=>decide_eq_false (by simp only[length_cons];omega);have g3: ∀t:List UInt8,decide ((((92::120::c::d::t).length:Nat):Int)>3)=true:=fun t=>decide_eq_true (by simp only[length_cons];omega);have q92:((((92:UInt8).toNat:Nat):Int) !=92)=false:=rfl;have q120:((((120:UInt8).toNat:Nat):Int)==120)=true:=rfl;have q1292:((((120:UInt8).toNat:Nat):Int)==92)=false:=rfl;have qx:decide (Lib.indexByte ([110,114,116]:List UInt8) 120>=0)=false:=rfl;have hm:zfy m (((120:UInt8).toNat:Nat):Int)=some false:=qoy m;by_cases h:p<16/\ q<16
 ·refine⟨(IntKind.u8.wrap (orI .i64 (zqn .i64 p 4) q),4,0),fun t=> ?_,fun _=>rfl,(wrap8 _).1,(wrap8 _).2⟩;unfold zas;simp only[hne,cond_false,zbo (len1 92 (120::c::d::t)),i0,zaz,q92,g2,cutE_inl,i1,zbo (l1 t),q120,cond_true,g3,zbo (l2 t),i2,hp,bindE_some,decide_eq_true h.1,zbo (l3 t),i3,hq,decide_eq_true h.2,cutE_inr]
 ·refine⟨(0,0,20),fun t=> ?_,fun h=>by simp at h,by simp,by simp⟩;unfold zas;simp only[hne,cond_false,zbo (len1 92 (120::c::d::t)),i0,zaz,q92,g2,cutE_inl,i1,zbo (l1 t),q120,cond_true,g3,zbo (l2 t),i2,hp,bindE_some,zbo (l3 t),i3,hq,q1292,hm,qx];by_cases h1:p<16
  ·have h2: ¬q<16:=fun h2=>h ⟨h1,h2⟩;simp only[decide_eq_true h1,cond_true,decide_eq_false h2,cond_false,cutE_inl]
  ·simp only[decide_eq_false h1,cond_false,cutE_inl]
theorem rb_x0 (m:BS)(t:List UInt8)(ht:t.length<2):zas (92::120::t) m=some (0,0,20):=by
 have hne:(92::120::t==([]:List UInt8))=false:=rfl;have i0:ix (92::120::t:List UInt8) (0:Int)=92:=rfl;have i1:ix (92::120::t:List UInt8) (1:Int)=120:=rfl;have l1:(0:Int)<=(1:Int)/\ (1:Int)<(((92::120::t:List UInt8).length:Nat):Int):=by simp only[length_cons];omega
 have g2:decide ((((92::120::t:List UInt8).length:Nat):Int)<2)=false:=decide_eq_false (by simp only[length_cons];omega);have g3:decide ((((92::120::t:List UInt8).length:Nat):Int)>3)=false:=decide_eq_false (by simp only[length_cons];omega);have q92:((((92:UInt8).toNat:Nat):Int) !=92)=false:=rfl;have q120:((((120:UInt8).toNat:Nat):Int)==120)=true:=rfl;have q1292:((((120:UInt8).toNat:Nat):Int)==92)=false:=rfl;have qx:decide (Lib.indexByte ([110,114,116]:List UInt8) 120>=0)=false:=rfl;have hm:zfy m (((120:UInt8).toNat:Nat):Int)=some false:=qoy m;unfold zas;simp only[hne,cond_false,zbo (len1 92 (120::t)),i0,zaz,q92,g2,cutE_inl,i1,zbo l1,q120,cond_true,g3,q1292,hm,bindE_some,qx]
structure RB (m:BS)(x:List UInt8)(r:Int×Int×Int):Prop where
 run:zas x m=some r
 lo:0<=r.1
 hi:r.1<256
 len:r.2.2=0->1<=r.2.1/\ r.2.1<=x.length
 one:r.2.2=0->r.2.1<2-> ∃a t,x=a::t/\ a≠92
 same:r.2.2=0-> ∀y,Ag r.2.1.toNat x y->zas y m=some r
 bad:r.2.2≠0-> ∀a t,x=a::t->a≠92-> ∀u,zas (a::u) m=some r
theorem rb_all (m:BS)(x:List UInt8): ∃r,RB m x r:=by
 match x with
 |[]=>exact⟨_,rb_nil m,by simp,by simp,fun h=>by simp at h,fun h=>by simp at h,fun h=>by simp at h,fun _ a t h=>by cases h⟩
 | a :: t=>
  by_cases ha:a=92
  ·subst ha;have nb: ∀r:Int×Int×Int,r.2.2≠0-> ∀a s,(92:UInt8)::t=a::s->a≠92-> ∀u,zas (a::u) m=some r:=fun r _ a s h hn=>absurd (List.cons.inj h).1.symm hn
   match t with
   |[]=>exact⟨_,rb_92 m,by simp,by simp,fun h=>by simp at h,fun h=>by simp at h,fun h=>by simp at h,nb _⟩
   | b ::t=>
    by_cases hb:b=120
    ·subst hb
     match t with
     |[]=>exact⟨_,rb_x0 m [] (by simp),by simp,by simp,fun h=>by simp at h,fun h=>by simp at h,fun h=>by simp at h,nb _⟩
     |[c]=>exact⟨_,rb_x0 m [c] (by simp),by simp,by simp,fun h=>by simp at h,fun h=>by simp at h,fun h=>by simp at h,nb _⟩
     | c::d::t=>
      obtain⟨r,h1,h2,h3,h4⟩:=rb3 c d m;refine⟨r,h1 t,h3,h4,fun h=> ?_,fun h=> ?_,fun h y hy=> ?_,nb _⟩
      ·rw[h2 h];simp only[length_cons];omega
      ·rw[h2 h];intro h;omega
      ·rw[h2 h] at hy;obtain⟨y1,rfl,hy1⟩:=Ag.cons (m:=3) hy;obtain⟨y2,rfl,hy2⟩:=Ag.cons (m:=2) hy1;obtain⟨y3,rfl,hy3⟩:=Ag.cons (m:=1) hy2;obtain⟨y4,rfl,hy4⟩:=Ag.cons (m:=0) hy3;exact h1 y4
    ·obtain⟨r,h1,h2,h3,h4⟩:=rb2 b hb m;refine⟨r,h1 t,h3,h4,fun h=> ?_,fun h=> ?_,fun h y hy=> ?_,nb _⟩
     ·rw[h2 h];simp only[length_cons];omega
     ·rw[h2 h];intro h;omega
     ·rw[h2 h] at hy;obtain⟨y1,rfl,hy1⟩:=Ag.cons (m:=1) hy;obtain⟨y2,rfl,hy2⟩:=Ag.cons (m:=0) hy1;exact h1 y2
  ·obtain⟨r,h1,h2,h3,h4⟩:=rb1 a ha m;refine⟨r,h1 t,h3,h4,fun h=> ?_,fun h _=>⟨a,t,rfl,ha⟩,fun h y hy=> ?_,fun h b s e hn u=> ?_⟩
   ·rw[h2 h];simp only[length_cons];omega
   ·rw[h2 h] at hy;obtain⟨y1,rfl,hy1⟩:=Ag.cons (m:=0) hy;exact h1 y1
   ·cases e;exact h1 u
theorem qii {x y:List UInt8} (h:Ag 2 x y):zhe y=zhe x:=by
 match x,h with
 |[],h=>exact absurd h.1 (by simp)
 |[a],h=>exact absurd h.1 (by simp)
 | a::b::t,h=>
  obtain⟨y1,rfl,h1⟩:=Ag.cons (m:=1) h;obtain⟨y2,rfl,h2⟩:=Ag.cons (m:=0) h1;rfl
theorem qhr {a:UInt8} {t:List UInt8} (h:a≠92):zhe (a::t)=(0#256,false):=by
 cases t with
 |nil=>rfl
 |cons b t=>unfold zhe;simp only;rw[if_neg h]
structure IT1 (x:List UInt8)(r:BS×Int×Int×Int):Prop where
 run:zlz 1100 x=some r
 lo:0<=r.2.1
 hi:r.2.1<256
 len:r.2.2.2=0->1<=r.2.2.1/\ r.2.2.1<=x.length
 same:r.2.2.2=0-> ∀y,Ag r.2.2.1.toNat x y->zlz 1100 y=some r
theorem qke {x:List UInt8} {r:Int×Int×Int} (hs:(zhe x).2=false)(h:zas x zaw=some r)(lo:0<=r.1)(hi:r.1<256):zlz 1100 x=some (bit r.1.toNat,r.1,r.2.1,r.2.2):=by
 unfold zlz;refine zv fun x1 hx1=> ?_;have h2:x1.2=false:=by rw[<-hx1];exact hs
 rw[h2,cond_false];refine zaf _ h (zt ⟨lo,hi⟩ ?_);have hq:=(z6d r.1.toNat (by omega)).2.2.2.2.1;refine zaf (bit r.1.toNat) hq rfl
end Go.Ab
