import Derived.Test.YtjkcellkmmfkdaaGreatDoorZhV3
import Derived.Test.YtjkcellkmmfkdaaGreatDoorZhSy
set_option linter.all false
set_option maxRecDepth 100000
set_option maxHeartbeats 4000000
open Sum (inl inr)
open Int (toNat tmod tdiv)
open List (length length_cons all_eq_true foldl mem_range map_cons)
open Go.Proofs.Tryz (prog)
namespace Go.Ab
open Go Go.RowKit Go.Fwd Go.Proofs
def zuf (t:Tr):Option Bool:=
 (chk ((pre t).length<2^60/\ (pre zbc).length<2^60) (zbl (zro t zbc) (fun x1=>(bif x1 then(some true) else(chk ((pre t).length<2^61) (zbl (zff t) (fun x2=>(some x2))))))))
theorem ent157:Ent prog 157:=enters_of Tryz.func157 (by kernel_rfl) rfl
theorem qdu (t:Tr)(r:Bool)(h:zuf t=some r):Pure (ITP prog) prog 157 [.A (t:Tr)] (.raw (.bool r)):=by
 unfold zuf at h;refine zbq 9 mix Tryz.func157 ent157 ?_;refine zm (zb ?_);refine zdz (Enc.cells (t:Tr)) ?_;refine w_o (a:= .b false) ?_;refine zx [.v (.A (t:Tr))] ?_;refine zxr zbc ?_;obtain⟨g1,h⟩:=zt h;obtain⟨x1,hx1,h⟩:=zu h;refine zdd (args':=[.A (t:Tr),.A (zbc:Tr)]) (r:= .b x1) (by rw[<-hx1];exact(k_sameT t zbc g1)) ?_;refine zah h (fun hc1 h=> ?_) (fun hc1 h=> ?_);refine zaw hc1 ?_;refine w_r [.p,.p,.v (.b true),.m _] ?_;exact zbh h;refine zaw hc1 ?_;refine zaq rfl rfl ?_;refine w_o (a:= .A (t:Tr)) ?_;refine zaq rfl rfl ?_;obtain⟨g2,h⟩:=zt h;obtain⟨x2,hx2,h⟩:=zu h;refine zdd (args':=[.A (t:Tr)]) (r:= .b x2) (by rw[<-hx2];exact(zrc t g2)) ?_;refine w_r [.v (.b x2),.m _] ?_;exact zbh h
def zfj (t:Tr):Option Tr:=
 (chk ((pre t).length<2^61) (zbl (zff t) (fun x1=>(bif (!x1) then(some zbc) else(chk ((pre t).length<2^40) (zbl t (fun x2=>(some x2))))))))
theorem ent124:Ent prog 124:=enters_of Tryz.func124 (by kernel_rfl) rfl
theorem zll (t:Tr)(r:Tr)(h:zfj t=some r):Pure (ITP prog) prog 124 [.A (t:Tr)] (.A (r:Tr)):=by
 unfold zfj at h;refine zbq 8 mix Tryz.func124 ent124 ?_;refine zm (zb ?_);refine zdz (Enc.cells (t:Tr)) ?_;refine zdz zN ?_;refine zm ?_;refine zx [.v (.A (t:Tr))] ?_;obtain⟨g1,h⟩:=zt h;obtain⟨x1,hx1,h⟩:=zu h;refine zdd (args':=[.A (t:Tr)]) (r:= .b x1) (by rw[<-hx1];exact(zrc t g1)) ?_;refine w_o (a:= .b (!x1)) ?_;refine zch h (fun hc1 h=> ?_) (fun hc1 h=> ?_);refine zm (zb ?_);refine zxr zbc ?_;refine zft 8 (Enc.cells (zbc:Tr)) ?_;exact zbr (fun(r:Tr)=> .A (r:Tr)) h (.A (zbc:Tr));refine zx [.v (.A (t:Tr))] ?_;obtain⟨g2,h⟩:=zt h;obtain⟨x2,hx2,h⟩:=zu h;refine zdd (args':=[.A (t:Tr)]) (r:= .A (x2:Tr)) (by rw[<-hx2];exact(z5z t g2)) ?_;refine zft 8 (Enc.cells (x2:Tr)) ?_;exact zbr (fun(r:Tr)=> .A (r:Tr)) h (.A (x2:Tr))
def zpi (fuel:Nat)(k:Int)(w:Int)(l:(List Tr)):Option (List Tr):=
 (zdg (τ:=(List Tr)) (zcf (β:=(List Tr)×Int) (fun s1=>(bif (decide (s1.2<(length l:Int))) then(zdg (τ:=(List Tr)) (chk (0<=s1.2/\ s1.2<(length l:Int)) (zbl (ix l s1.2) (fun x1=>(bif (((x1.k:Nat):Int)==k) then(chk ((length s1.1+length x1.l)*80<=140737488355328) (some (inl ((s1.1++x1.l))))) else(bif (((x1.k:Nat):Int)==w) then(some (inl (s1.1))) else(chk ((length s1.1+length [x1])*80<=140737488355328) (some (inl ((s1.1++[x1])))))))))) (fun j2=>(chk (-9223372036854775808<=(s1.2+1)/\ (s1.2+1)<9223372036854775808) (some (inl (j2,(s1.2+1))))))) else(some (inr (inl (s1.1)))))) fuel (([]:(List Tr)),0)) (fun j1=>(some j1)))
theorem ent156:Ent prog 156:=enters_of Tryz.func156 (by kernel_rfl) rfl
theorem z9v (fuel:Nat)(k:Int)(w:Int)(l:(List Tr))(r:(List Tr))(h:zpi fuel k w l=some r):Pure (ITP prog) prog 156 [.raw (.int .u8 k),.raw (.int .u8 w),.L (l:List Tr)] (.L (r:List Tr)):=by
 unfold zpi at h;refine zbq 31 mix Tryz.func156 ent156 ?_;iterate 2 refine zx [.v (.list 0 [] .full)] ?_
 refine zaz h (bz 0 34 17179869183) (fun j1=>[(7,(.O (j1:List Tr)))]) (fun j1=>(zcn [] 27 (length (j1:List Tr)) 8)) ?_ ?_;intro or1 h hr1;refine zx [.m _,.v (.i (length l:Int)),.v (.i 0)] ?_;refine zac ?_;refine zec h (bz 0 34 17179866108) (fun s1=>[(7,(.O (s1.1:List Tr))),(12,.i s1.2)]) (fun s1=>(zcn [] 27 (length (s1.1:List Tr)) 8)) ?_ ?_;exact zbp (bl 34 7299);intro s1 p1 h;refine zeo ?_;refine zx [.v (.b (decide (s1.2<(length l:Int))))] ?_;refine zm ?_;refine zch h (fun hc1 h=> ?_) (fun hc1 h=> ?_);refine zaz h (bz 0 32 4294959744) (fun j2=>[(7,(.O (j2:List Tr)))]) (fun j2=>(zcn [] 27 (length (j2:List Tr)) 8)) ?_ ?_;intro or2 h hr2;refine zac ?_;refine zm (zb ?_);obtain⟨g1,h⟩:=zt h;obtain⟨x1,hx1,h⟩:=zu h;refine qgf hx1 g1 ?_;refine w_o (a:= .A (x1:Tr)) ?_;refine zoc (a:= .ptr 0 0) (U'':=(zcn [(27,zN)] 27 (length (s1.1:List Tr)) 8)) ?_;refine zng 8 (zcn [(27,(Enc.cells (x1:Tr)))] 27 (length (s1.1:List Tr)) 8) ?_;refine zx [.v (.ptr 0 0),.v (.u ((x1.k:Nat):Int))] ?_;refine zac ?_;refine zx [.m _,.v (.b (((x1.k:Nat):Int)==k)),.m _] ?_;refine zch h (fun hc2 h=> ?_) (fun hc2 h=> ?_);refine zb (k0:=0) (id:=8) ?_;refine w_r [.m _,.v (.ptr 0 7),.v (.L (x1.l:List Tr))] ?_;obtain⟨g2,h⟩:=zt h;refine zdu (a:=(.O ((s1.1++x1.l):List Tr))) (U'':=(zcn [(27,(Enc.cells (x1:Tr)))] 27 (length ((s1.1++x1.l):List Tr)) 8)) rfl rfl rfl (zzy rfl rfl rfl rfl (zmj (α:=Tr) (bs:=[(27,(Enc.cells (x1:Tr)))]) (a:=s1.1) (b:=x1.l) g2 rfl rfl rfl rfl rfl ⟨rfl,by decide⟩)) (by dsimp only[zi,List.set]) rfl ?_;refine zz ?_;refine zc (o:=or2) ((s1.1++x1.l)) h ?_;exact zfx (bl 34 12884909567) 0 (by kernel_rfl) (Nat.le_of_ble_eq_true rfl) (zcm rfl) (by dsimp only[zbg,zcl,foldl,List.set,bz,bzc,Nat.reduceMod,Nat.reduceDiv,Nat.reduceBEq,Nat.reduceAdd];exact(za rfl (za rfl (za rfl (za rfl (za rfl (za rfl (za rfl (za (zei (Enc.cloL _)) (za rfl (za rfl (za (zbw (Enc.cloL _)) (by kernel_rfl))))))))))))) (by kernel_rfl);refine zx [.m _,.v (.b (((x1.k:Nat):Int)==w)),.m _] ?_;refine zch h (fun hc3 h=> ?_) (fun hc3 h=> ?_);refine zc (o:=or2) (s1.1) h ?_;exact zfx (bl 34 12884909567) 0 (by kernel_rfl) (Nat.le_of_ble_eq_true rfl) (zcm rfl) (by dsimp only[zbg,zcl,foldl,List.set,bz,bzc,Nat.reduceMod,Nat.reduceDiv,Nat.reduceBEq,Nat.reduceAdd];exact(za rfl (za rfl (za rfl (za rfl (za rfl (za rfl (za rfl (za (zei (Enc.cloL _)) (za rfl (za rfl (za (zbw (Enc.cloL _)) (by kernel_rfl))))))))))))) (by kernel_rfl);refine zb (k0:=0) (id:=6) ?_;refine w_r [.m _,.v (.A (x1:Tr))] ?_;refine w_o (a:= .F ([x1]:List Tr)) (h:=zbf (zic (α:=Tr) (l:=[x1]) (cs:=Enc.cells (x1:Tr)++[]) rfl (by rw[Enc.cons,Enc.nil]))) ?_;obtain⟨g3,h⟩:=zt h;refine zdu (a:=(.O ((s1.1++[x1]):List Tr))) (U'':=(zcn [(27,(Enc.cells (x1:Tr)))] 27 (length ((s1.1++[x1]):List Tr)) 8)) rfl rfl rfl (zzy rfl rfl rfl rfl (zmj (α:=Tr) (bs:=[(27,(Enc.cells (x1:Tr)))]) (a:=s1.1) (b:=[x1]) g3 rfl rfl rfl rfl rfl ⟨rfl,by decide⟩)) (by dsimp only[zi,List.set]) rfl ?_;refine zz ?_;refine zc (o:=or2) ((s1.1++[x1])) h ?_;exact zfx (bl 34 12884909567) 0 (by kernel_rfl) (Nat.le_of_ble_eq_true rfl) (zcm rfl) (by dsimp only[zbg,zcl,foldl,List.set,bz,bzc,Nat.reduceMod,Nat.reduceDiv,Nat.reduceBEq,Nat.reduceAdd];exact(za rfl (za rfl (za rfl (za rfl (za rfl (za rfl (za rfl (za (zei (Enc.cloL _)) (za rfl (za rfl (za (zbw (Enc.cloL _)) (by kernel_rfl))))))))))))) (by kernel_rfl);intro j2 h;refine zeo ?_;refine zb (k0:=0) (id:=10) ?_;obtain⟨g4,h⟩:=zt h;refine zjv g4 ?_;refine zz ?_;refine zcj (p:=p1) (j2,(s1.2+1)) h ?_;exact zbp (bl 34 7299);refine zak h (fun h=> ?_);refine zc (o:=or1) (s1.1) h ?_;exact zbp (bl 34 128);intro j1 h;refine zeo ?_;refine zx [.m _,.m _] ?_;exact zbr (fun(r:(List Tr))=> .L (r:List Tr)) h (.O (j1:List Tr))
def zhr (k:Int)(l:(List Tr))(z:Tr):Option Tr:=
 (bif ((length l:Int)==0) then(some z) else(bif ((length l:Int)==1) then(chk (0<=(0:Int)/\ (0:Int)<(length l:Int)) (zbl (ix l (0:Int)) (fun x1=>(zaa (zfj x1) (fun x2=>(some x2)))))) else(chk (0<=k) (zaa (zfj (Tr.mk (toNat k) (0#256) 0 0 l)) (fun x3=>(some x3))))))
theorem ent74:Ent prog 74:=enters_of Tryz.func74 (by kernel_rfl) rfl
theorem zxw (k:Int)(l:(List Tr))(z:Tr)(r:Tr)(h:zhr k l z=some r):Pure (ITP prog) prog 74 [.raw (.int .u8 k),.L (l:List Tr),.A (z:Tr)] (.A (r:Tr)):=by
 unfold zhr at h;refine zbq 19 mix Tryz.func74 ent74 ?_;refine zm (zb ?_);refine zdz (Enc.cells (z:Tr)) ?_;refine zdz zN ?_;refine zm ?_;refine zx [.m _,.v (.i (length l:Int))] ?_;refine zac ?_;refine zx [.v (.b ((length l:Int)==0)),.m _] ?_;refine zch h (fun hc1 h=> ?_) (fun hc1 h=> ?_);refine zx [.v (.A (z:Tr))] ?_;refine zft 8 (Enc.cells (z:Tr)) ?_;exact zbr (fun(r:Tr)=> .A (r:Tr)) h (.A (z:Tr));refine zx [.v (.b ((length l:Int)==1)),.m _] ?_;refine zch h (fun hc2 h=> ?_) (fun hc2 h=> ?_);refine zx [.m _] ?_;obtain⟨g1,h⟩:=zt h;obtain⟨x1,hx1,h⟩:=zu h;refine qgf hx1 g1 ?_;refine w_o (a:= .A (x1:Tr)) ?_;obtain⟨x2,hx2,h⟩:=zr h;refine zdd (zll x1 x2 hx2) ?_;refine zft 8 (Enc.cells (x2:Tr)) ?_;exact zbr (fun(r:Tr)=> .A (r:Tr)) h (.A (x2:Tr));refine zx [.m _,.m _] ?_;obtain⟨g2,h⟩:=zt h;refine w_qs (.A ((Tr.mk (toNat k) (0#256) 0 0 l):Tr)) (a0:=(nodeK k (0#256) 0 0 l .none)) rfl rfl rfl (by kernel_rfl) (z2j g2 _ _ _ _ _) (by dsimp only[zi,List.set]) ?_;obtain⟨x3,hx3,h⟩:=zr h;refine zdd (zll (Tr.mk (toNat k) (0#256) 0 0 l) x3 hx3) ?_;refine zft 8 (Enc.cells (x3:Tr)) ?_;exact zbr (fun(r:Tr)=> .A (r:Tr)) h (.A (x3:Tr))
def qfs (fuel:Nat)(l:(List Tr)):Option Tr:=
 (zdg (τ:=Unit) (zcf (β:=Int) (fun s1=>(bif (decide (s1<(length l:Int))) then(chk (0<=s1/\ s1<(length l:Int)) (zbl (ix l s1) (fun x1=>(bif (((x1.k:Nat):Int)==0) then(some (inr (inr zbc))) else(chk ((pre x1).length<2^61) (zbl (zff x1) (fun x2=>(bif (!x2) then(some (inr (inr zbc))) else(chk (-9223372036854775808<=(s1+1)/\ (s1+1)<9223372036854775808) (some (inl ((s1+1))))))))))))) else(some (inr (inl ()))))) fuel (0)) (fun j1=>(zaa (zpi fuel 3 1 l) (fun x3=>(zaa (zhr 3 x3 (Tr.mk 1 (0#256) 0 0 [])) (fun x4=>(some x4)))))))
theorem ent107:Ent prog 107:=enters_of Tryz.func107 (by kernel_rfl) rfl
theorem seq_sh (fuel:Nat)(l:(List Tr))(r:Tr)(h:qfs fuel l=some r):Pure (ITP prog) prog 107 [.L (l:List Tr)] (.A (r:Tr)):=by
 unfold qfs at h;refine zbq 24 mix Tryz.func107 ent107 ?_;refine zm (zb ?_);refine zdz zN ?_;refine zaz h (bz 0 25 33554426) (fun j1=>[]) (fun j1=>(.B [(27,zN)])) ?_ ?_;intro or1 h hr1;refine zx [.m _,.v (.i (length l:Int)),.v (.i 0)] ?_;refine zac ?_;refine zec h (bz 0 25 33554330) (fun s1=>[(7,.i s1)]) (fun s1=>(.B [(27,zN)])) ?_ ?_;exact zbp (bl 25 229);intro s1 p1 h;refine zeo ?_;refine zx [.v (.b (decide (s1<(length l:Int))))] ?_;refine zm ?_;refine zch h (fun hc1 h=> ?_) (fun hc1 h=> ?_);refine zm ?_;refine zac ?_;refine zm (zb ?_);obtain⟨g1,h⟩:=zt h;obtain⟨x1,hx1,h⟩:=zu h;refine qgf hx1 g1 ?_;refine w_o (a:= .A (x1:Tr)) ?_;refine zdz zN ?_;refine zft 8 (Enc.cells (x1:Tr)) ?_;refine zx [.v (.ptr 1 0),.v (.u ((x1.k:Nat):Int)),.v (.b (((x1.k:Nat):Int)==0))] ?_;refine zah h (fun hc2 h=> ?_) (fun hc2 h=> ?_);refine zaw hc2 ?_;refine w_r [.p,.p,.p,.v (.b true)] ?_;refine zdy rfl ?_;refine zm (zb ?_);refine zxr zbc ?_;refine zft 8 (Enc.cells (zbc:Tr)) ?_;refine zak h (fun h=> ?_);replace h:=zax h hr1;exact zbr (fun(r:Tr)=> .A (r:Tr)) h (.A (zbc:Tr));refine zaw hc2 ?_;refine zaq rfl rfl ?_;refine w_o (a:= .A (x1:Tr)) ?_;refine zaq rfl rfl ?_;obtain⟨g2,h⟩:=zt h;obtain⟨x2,hx2,h⟩:=zu h;refine zdd (args':=[.A (x1:Tr)]) (r:= .b x2) (by rw[<-hx2];exact(zrc x1 g2)) ?_;refine w_r [.v (.b (!x2)),.v (.b (!x2))] ?_;refine zch h (fun hc3 h=> ?_) (fun hc3 h=> ?_);refine zm (zb ?_);refine zxr zbc ?_;refine zng 8 (.B [(27,(Enc.cells (zbc:Tr))),(27,(Enc.cells (x1:Tr)))]) ?_;refine zak h (fun h=> ?_);replace h:=zax h hr1;exact zbr (fun(r:Tr)=> .A (r:Tr)) h (.A (zbc:Tr));refine zb (k0:=0) (id:=6) ?_;obtain⟨g3,h⟩:=zt h;refine zjv g3 ?_;refine zz ?_;refine zcj (p:=p1) ((s1+1)) h ?_;exact zfx (bl 25 229) 1 (by kernel_rfl) (Nat.le_of_ble_eq_true rfl) (zcm (zan rfl rfl)) (by dsimp only[zbg,zcl,foldl,List.set,bz,bzc,Nat.reduceMod,Nat.reduceDiv,Nat.reduceBEq,Nat.reduceAdd];exact(za (zbw (Enc.cloL _)) (za rfl (za (by decide) (za rfl (za rfl (za (zbw (Enc.cloL _)) (by kernel_rfl)))))))) (by kernel_rfl);refine zak h (fun h=> ?_);refine zc (o:=or1) () h ?_;exact zbp (bl 25 5);intro j1 h;refine zeo ?_;refine zx [.m _] ?_;obtain⟨x3,hx3,h⟩:=zr h;refine zdd (z9v fuel 3 1 l x3 hx3) ?_;refine zxr (Tr.mk 1 (0#256) 0 0 []) ?_;obtain⟨x4,hx4,h⟩:=zr h;refine zdd (zxw 3 x3 (Tr.mk 1 (0#256) 0 0 []) x4 hx4) ?_;refine zng 8 (.B [(27,(Enc.cells (x4:Tr)))]) ?_;exact zbr (fun(r:Tr)=> .A (r:Tr)) h (.A (x4:Tr))
def F_or (fuel:Nat)(l:(List Tr)):Option Tr:=
 (zdg (τ:=Unit) (zcf (β:=Int) (fun s1=>(bif (decide (s1<(length l:Int))) then(chk (0<=s1/\ s1<(length l:Int)) (zbl (ix l s1) (fun x1=>(zaa (zuf x1) (fun x2=>(bif (!x2) then(some (inr (inr zbc))) else(chk (-9223372036854775808<=(s1+1)/\ (s1+1)<9223372036854775808) (some (inl ((s1+1))))))))))) else(some (inr (inl ()))))) fuel (0)) (fun j1=>(zaa (zpi fuel 4 0 l) (fun x3=>(zaa (zhr 4 x3 zbc) (fun x4=>(some x4)))))))
theorem ent109:Ent prog 109:=enters_of Tryz.func109 (by kernel_rfl) rfl
theorem or_sh (fuel:Nat)(l:(List Tr))(r:Tr)(h:F_or fuel l=some r):Pure (ITP prog) prog 109 [.L (l:List Tr)] (.A (r:Tr)):=by
 unfold F_or at h;refine zbq 19 mix Tryz.func109 ent109 ?_;refine zm (zb ?_);refine zdz zN ?_;refine zaz h (bz 0 20 1048570) (fun j1=>[]) (fun j1=>(.B [(27,zN)])) ?_ ?_;intro or1 h hr1;refine zx [.m _,.v (.i (length l:Int)),.v (.i 0)] ?_;refine zac ?_;refine zec h (bz 0 20 1048474) (fun s1=>[(7,.i s1)]) (fun s1=>(.B [(27,zN)])) ?_ ?_;exact zbp (bl 20 229);intro s1 p1 h;refine zeo ?_;refine zx [.v (.b (decide (s1<(length l:Int))))] ?_;refine zm ?_;refine zch h (fun hc1 h=> ?_) (fun hc1 h=> ?_);refine zm ?_;refine zac ?_;refine zm (zb ?_);obtain⟨g1,h⟩:=zt h;obtain⟨x1,hx1,h⟩:=zu h;refine qgf hx1 g1 ?_;refine w_o (a:= .A (x1:Tr)) ?_;refine zdz zN ?_;refine zft 8 (Enc.cells (x1:Tr)) ?_;refine zx [.v (.A (x1:Tr))] ?_;obtain⟨x2,hx2,h⟩:=zr h;refine zdd (qdu x1 x2 hx2) ?_;refine w_o (a:= .b (!x2)) ?_;refine zch h (fun hc2 h=> ?_) (fun hc2 h=> ?_);refine zm (zb ?_);refine zxr zbc ?_;refine zft 8 (Enc.cells (zbc:Tr)) ?_;refine zak h (fun h=> ?_);replace h:=zax h hr1;exact zbr (fun(r:Tr)=> .A (r:Tr)) h (.A (zbc:Tr));refine zb (k0:=0) (id:=6) ?_;obtain⟨g2,h⟩:=zt h;refine zjv g2 ?_;refine zz ?_;refine zcj (p:=p1) ((s1+1)) h ?_;exact zfx (bl 20 229) 1 (by kernel_rfl) (Nat.le_of_ble_eq_true rfl) (zcm (zan rfl rfl)) (by dsimp only[zbg,zcl,foldl,List.set,bz,bzc,Nat.reduceMod,Nat.reduceDiv,Nat.reduceBEq,Nat.reduceAdd];exact(za (zbw (Enc.cloL _)) (za rfl (za (by decide) (za rfl (za rfl (za (zbw (Enc.cloL _)) (by kernel_rfl)))))))) (by kernel_rfl);refine zak h (fun h=> ?_);refine zc (o:=or1) () h ?_;exact zbp (bl 20 5);intro j1 h;refine zeo ?_;refine zx [.m _] ?_;obtain⟨x3,hx3,h⟩:=zr h;refine zdd (z9v fuel 4 0 l x3 hx3) ?_;refine zxr zbc ?_;obtain⟨x4,hx4,h⟩:=zr h;refine zdd (zxw 4 x3 zbc x4 hx4) ?_;refine zng 8 (.B [(27,(Enc.cells (x4:Tr)))]) ?_;exact zbr (fun(r:Tr)=> .A (r:Tr)) h (.A (x4:Tr))
def zvd (t:Tr)(lo:Int)(hi:Int):Option Tr:=
 (zdg (τ:=Bool×Bool) (bif (lo==0) then(bif (lo==1) then(some (inl ((hi==0),(hi==1)))) else(some (inl ((hi==0),false)))) else(bif (lo==1) then(some (inl (false,(hi==1)))) else(some (inl (false,false))))) (fun j1=>(zdg (τ:=Bool) (zaa (zuf t) (fun x1=>(bif (!x1) then(some (inl (true))) else(bif (!j1.1) then(bif (!j1.2) then(zaa (zii lo hi) (fun x2=>(some (inl ((!x2)))))) else(some (inl (false)))) else(some (inl (false))))))) (fun j2=>(bif j2 then(some zbc) else(zdg (τ:=Bool) (bif (((t.k:Nat):Int)==0) then(some (inl ((decide (lo>0))))) else(some (inl (false)))) (fun j3=>(bif j3 then(some zbc) else(zdg (τ:=Bool) (bif j1.1 then(some (inl (true))) else(bif (((t.k:Nat):Int)==0) then(some (inl (true))) else(some (inl ((((t.k:Nat):Int)==1)))))) (fun j4=>(bif j4 then(some (Tr.mk 1 (0#256) 0 0 [])) else(bif j1.2 then(chk ((pre t).length<2^40) (zbl t (fun x3=>(some x3)))) else(zaa (zfj (Tr.mk 5 (0#256) lo hi [t])) (fun x4=>(some x4)))))))))))))))
theorem ent183:Ent prog 183:=enters_of Tryz.func183 (by kernel_rfl) rfl
theorem qft (t:Tr)(lo:Int)(hi:Int)(r:Tr)(h:zvd t lo hi=some r):Pure (ITP prog) prog 183 [.A (t:Tr),.raw (.int .i64 lo),.raw (.int .i64 hi)] (.A (r:Tr)):=by
 unfold zvd at h;refine zbq 69 mix Tryz.func183 ent183 ?_;refine zm (zb ?_);refine zdz (Enc.cells (t:Tr)) ?_;refine zdz zN ?_;refine zaz h (bz 0 72 4722366482869645213617) (fun j1=>[(7,.b j1.1),(8,.b j1.2)]) (fun j1=>(.B [(27,(Enc.cells (t:Tr))),(27,zN)])) ?_ ?_;intro or1 h hr1;refine zb (k0:=0) (id:=1) ?_;refine w_r [.m _,.v (.b (lo==0))] ?_;refine zah h (fun hc1 h=> ?_) (fun hc1 h=> ?_);refine zaw hc1 ?_;refine w_r [.m _,.v (.b (hi==0)),.v (.b (hi==0)),.m _,.v (.b (lo==1))] ?_;refine zah h (fun hc2 h=> ?_) (fun hc2 h=> ?_);refine zaw hc2 ?_;refine w_r [.m _,.v (.b (hi==1)),.v (.b (hi==1)),.m _,.m _] ?_;refine zc (o:=or1) ((hi==0),(hi==1)) h ?_;exact zbp (bl 72 462);refine zaw hc2 ?_;refine w_r [.p,.p,.v (.b false),.m _,.m _] ?_;refine zc (o:=or1) ((hi==0),false) h ?_;exact zbp (bl 72 462);refine zaw hc1 ?_;refine w_r [.p,.p,.v (.b false),.m _,.v (.b (lo==1))] ?_;refine zah h (fun hc3 h=> ?_) (fun hc3 h=> ?_);refine zaw hc3 ?_;refine w_r [.m _,.v (.b (hi==1)),.v (.b (hi==1)),.m _,.m _] ?_;refine zc (o:=or1) (false,(hi==1)) h ?_;exact zbp (bl 72 462);refine zaw hc3 ?_;refine w_r [.p,.p,.v (.b false),.m _,.m _] ?_;refine zc (o:=or1) (false,false) h ?_;exact zbp (bl 72 462);intro j1 h;refine zeo ?_;refine zm ?_;refine zac ?_;refine zaz h (bz 0 39 549753716736) (fun j2=>[(21,.b j2)]) (fun j2=>(.B [(27,(Enc.cells (t:Tr))),(27,zN)])) ?_ ?_;intro or2 h hr2;refine zb (k0:=0) (id:=2) ?_;refine w_o (a:= .A (t:Tr)) ?_;obtain⟨x1,hx1,h⟩:=zr h;refine zdd (qdu t x1 hx1) ?_;refine w_o (a:= .b (!x1)) ?_;refine zah h (fun hc4 h=> ?_) (fun hc4 h=> ?_);refine zaw hc4 ?_;iterate 2 refine w_r [.p,.p,.p,.p,.p] ?_
 refine w_r [.p,.p,.v (.b true),.m _] ?_;refine zc (o:=or2) (true) h ?_;exact zbp (bl 72 4722366482319893594111);refine zaw hc4 ?_;refine w_r [.m _,.v (.b (!j1.1))] ?_;refine zaq rfl rfl ?_;refine zah h (fun hc5 h=> ?_) (fun hc5 h=> ?_);refine zaw hc5 ?_;refine w_r [.m _,.v (.b (!j1.2)),.v (.b (!j1.2))] ?_;refine zaq rfl rfl ?_;refine zah h (fun hc6 h=> ?_) (fun hc6 h=> ?_);refine zaw hc6 ?_;refine w_r [.m _,.m _] ?_;refine zaq rfl rfl ?_;obtain⟨x2,hx2,h⟩:=zr h;refine zdd (zuc lo hi x2 hx2) ?_;refine w_r [.v (.b (!x2)),.v (.b (!x2)),.v (.b (!x2)),.m _] ?_;refine zc (o:=or2) ((!x2)) h ?_;exact zbp (bl 72 4722366482319893594111);refine zaw hc6 ?_;refine w_r [.p,.p,.p,.p,.v (.b false)] ?_;refine w_r [.v (.b false),.m _] ?_;refine zc (o:=or2) (false) h ?_;exact zbp (bl 72 4722366482319893594111);refine zaw hc5 ?_;refine w_r [.p,.p,.v (.b false),.m _,.p] ?_;refine w_r [.p,.p,.p,.v (.b false),.v (.b false)] ?_;refine w_r [.m _] ?_;refine zc (o:=or2) (false) h ?_;exact zbp (bl 72 4722366482319893594111);intro j2 h;refine zeo ?_;refine zch h (fun hc7 h=> ?_) (fun hc7 h=> ?_);refine zm (zb ?_);refine zxr zbc ?_;refine zft 8 (Enc.cells (zbc:Tr)) ?_;exact zbr (fun(r:Tr)=> .A (r:Tr)) h (.A (zbc:Tr));refine zaz h (bz 0 48 280375467180032) (fun j3=>[(40,.b j3)]) (fun j3=>(.B [(27,(Enc.cells (t:Tr))),(27,zN)])) ?_ ?_;intro or3 h hr3;refine zb (k0:=0) (id:=4) ?_;refine w_r [.v (.ptr 0 0),.v (.u ((t.k:Nat):Int)),.v (.b (((t.k:Nat):Int)==0))] ?_;refine zah h (fun hc8 h=> ?_) (fun hc8 h=> ?_);refine zaw hc8 ?_;refine w_r [.m _,.v (.b (decide (lo>0))),.v (.b (decide (lo>0))),.m _] ?_;refine zc (o:=or3) ((decide (lo>0))) h ?_;exact zbp (bl 72 4722366203593689661439);refine zaw hc8 ?_;refine w_r [.p,.p,.v (.b false),.m _] ?_;refine zc (o:=or3) (false) h ?_;exact zbp (bl 72 4722366203593689661439);intro j3 h;refine zeo ?_;refine zch h (fun hc9 h=> ?_) (fun hc9 h=> ?_);refine zm (zb ?_);refine zxr zbc ?_;refine zft 8 (Enc.cells (zbc:Tr)) ?_;exact zbr (fun(r:Tr)=> .A (r:Tr)) h (.A (zbc:Tr));refine zaz h (bz 0 61 2305281158771900544) (fun j4=>[(49,.b j4)]) (fun j4=>(.B [(27,(Enc.cells (t:Tr))),(27,zN)])) ?_ ?_;intro or4 h hr4;refine zb (k0:=0) (id:=6) ?_;refine zz ?_;refine zah h (fun hc10 h=> ?_) (fun hc10 h=> ?_);refine zaw hc10 ?_;iterate 2 refine w_r [.p,.p,.p,.v (.b true),.m _] ?_
 refine zc (o:=or4) (true) h ?_;exact zbp (bl 72 4720061764660826734463);refine zaw hc10 ?_;refine w_r [.v (.ptr 0 0),.v (.u ((t.k:Nat):Int)),.v (.b (((t.k:Nat):Int)==0)),.v (.b (((t.k:Nat):Int)==0))] ?_;refine zah h (fun hc11 h=> ?_) (fun hc11 h=> ?_);refine zaw hc11 ?_;refine w_r [.p,.p,.p,.v (.b true),.m _] ?_;refine zc (o:=or4) (true) h ?_;exact zbp (bl 72 4720061764660826734463);refine zaw hc11 ?_;refine w_r [.v (.ptr 0 0),.v (.u ((t.k:Nat):Int)),.v (.b (((t.k:Nat):Int)==1)),.v (.b (((t.k:Nat):Int)==1)),.m _] ?_;refine zc (o:=or4) ((((t.k:Nat):Int)==1)) h ?_;exact zbp (bl 72 4720061764660826734463);intro j4 h;refine zeo ?_;refine zch h (fun hc12 h=> ?_) (fun hc12 h=> ?_);refine zm (zb ?_);refine zxr (Tr.mk 1 (0#256) 0 0 []) ?_;refine zft 8 (Enc.cells ((Tr.mk 1 (0#256) 0 0 []):Tr)) ?_;exact zbr (fun(r:Tr)=> .A (r:Tr)) h (.A ((Tr.mk 1 (0#256) 0 0 []):Tr));refine zx [.m _,.m _] ?_;refine zch h (fun hc13 h=> ?_) (fun hc13 h=> ?_);refine zx [.v (.A (t:Tr))] ?_;obtain⟨g1,h⟩:=zt h;obtain⟨x3,hx3,h⟩:=zu h;refine zdd (args':=[.A (t:Tr)]) (r:= .A (x3:Tr)) (by rw[<-hx3];exact(z5z t g1)) ?_;refine zft 8 (Enc.cells (x3:Tr)) ?_;exact zbr (fun(r:Tr)=> .A (r:Tr)) h (.A (x3:Tr));refine zx [.m _,.m _,.v (.A (t:Tr))] ?_;refine w_o (a:= .F ([t]:List Tr)) (h:=zbf (zic (α:=Tr) (l:=[t]) (cs:=Enc.cells (t:Tr)++[]) rfl (by rw[Enc.cons,Enc.nil]))) ?_;refine zxr (Tr.mk 5 (0#256) lo hi [t]) ?_;obtain⟨x4,hx4,h⟩:=zr h;refine zdd (zll (Tr.mk 5 (0#256) lo hi [t]) x4 hx4) ?_;refine zft 8 (Enc.cells (x4:Tr)) ?_;exact zbr (fun(r:Tr)=> .A (r:Tr)) h (.A (x4:Tr))
def zmp (t:Tr):Option Tr:=
 (zaa (zfj (Tr.mk 6 (0#256) 0 0 [t])) (fun x1=>(some x1)))
theorem ent185:Ent prog 185:=enters_of Tryz.func185 (by kernel_rfl) rfl
theorem z7w (t:Tr)(r:Tr)(h:zmp t=some r):Pure (ITP prog) prog 185 [.A (t:Tr)] (.A (r:Tr)):=by
 unfold zmp at h;refine zbq 6 mix Tryz.func185 ent185 ?_;refine zm (zb ?_);refine zdz (Enc.cells (t:Tr)) ?_;refine zdz zN ?_;refine zx [.v (.A (t:Tr))] ?_;refine w_o (a:= .F ([t]:List Tr)) (h:=zbf (zic (α:=Tr) (l:=[t]) (cs:=Enc.cells (t:Tr)++[]) rfl (by rw[Enc.cons,Enc.nil]))) ?_;refine zxr (Tr.mk 6 (0#256) 0 0 [t]) ?_;obtain⟨x1,hx1,h⟩:=zr h;refine zdd (zll (Tr.mk 6 (0#256) 0 0 [t]) x1 hx1) ?_;refine zft 8 (Enc.cells (x1:Tr)) ?_;exact zbr (fun(r:Tr)=> .A (r:Tr)) h (.A (x1:Tr))
theorem qdc:(pre zbc).length=1:=by simp[zbc,pre,zdn]
theorem qda (t:Tr)(h:(pre t).length<2^60):zuf t=some (zsx t):=by
 unfold zuf zsx;rw[zbs ⟨h,by rw[qdc];omega⟩,zbl];cases zro t zbc with
 |true=>rfl
 |false=>show chk _ _=_;rw[zbs (by omega)];rfl
theorem zlf (t:Tr)(h:(pre t).length<2^61):zfj t=some (zep t):=by
 unfold zfj zep;rw[zbs h,zbl];cases hl:zff t with
 |false=>rfl
 |true=>have:=zte hl;show chk _ _=_;rw[zbs (by omega)];rfl
theorem z9m {fuel:Nat} (k w:Nat)(l:List Tr)(hl:(zdn l).length<=2^40)(hf:l.length<fuel):zpi fuel k w l=some (zku k w l):=by
 have hlen:=zdh l;unfold zpi;refine zbj (zku k w l) ?_ rfl;refine zof l.length (fun i=>(zku k w (l.take i),(i:Int))) (by simp[zku]) (fun i hi=> ?_) ?_ hf
 ·have hp:=zys l (i+1);have hfl:=zkz k w (l.take (i+1));have hlf:(zku k w (l.take (i+1))).length<=(zdn l).length:=by have:=zdh (zku k w (l.take (i+1)));omega
  have hs:zku k w (l.take (i+1))=zku k w (l.take i)++(bif (l[i].k:Int)==k then l[i].l else bif (l[i].k:Int)==w then[] else[l[i]]):=by
   rw[List.take_succ_eq_append_getElem hi,zku,List.flatMap_append];simp[zku]
  refine ziw (by simp;omega) ?_;refine zbj (zku k w (l.take (i+1))) ?_ ?_
  ·refine zal (by simp only;omega) (zaj fun x1 e1=> ?_);simp only at e1;rw[zmd hi] at e1;rw[<-e1,hs];rw[hs,List.length_append] at hlf;cases h1:(l[i].k:Int)==k with
   | true=>
    rw[h1,cond_true] at hlf;exact ziw rfl (zal (by simp only;omega) rfl)
   | false=>
    rw[h1,cond_false] at hlf;cases h2:(l[i].k:Int)==w with
    |true=>exact zhf rfl (ziw rfl (by simp))
    | false=>
     rw[h2,cond_false] at hlf;exact zhf rfl (zhf rfl (zal (by simp only;omega) rfl))
  ·refine zal (by simp only;omega) ?_;simp only;rfl
 ·exact zhf (by simp) (by simp[List.take_length])
theorem z0w (k:Nat)(l:List Tr)(z:Tr)(hl:(zdn l).length<=2^41):zhr k l z=some (zvn k l z):=by
 unfold zhr zvn;cases h0:(l.length:Int)==0 with
 |true=>rfl
 | false=>
  simp only[cond_false];cases h1:(l.length:Int)==1 with
  | true=>
   cases l with
   |nil=>simp at h1
   | cons x l=>
    have hx:(pre x).length<=(zdn (x::l)).length:=by simp[zdn]
    refine zal (by simp) (zaj fun x1 e1=> ?_);have:x1=x:=by rw[<-e1];rfl
    subst this;rw[zlf _ (by omega)];rfl
  | false=>
   simp only[cond_false];refine zal (by omega) ?_;rw[Int.toNat_natCast,zlf _ (by rw[pre,length_cons];omega)];rfl
theorem z5y {l:List Tr} {x:Tr} (h:x∈l):(pre x).length<=(zdn l).length:=zln h
theorem qcr {ρ:Type} (q:Tr->Bool)(y:ρ)(l:List Tr) {body:Int->Option (Int ⊕ (Unit ⊕ ρ))} (hb: ∀i (hi:i<l.length),body (i:Int)=some (if q l[i]=true then .inr (.inr y) else .inl ((i+1:Nat):Int)))(he:body (l.length:Int)=some (.inr (.inl ()))):
 ∀(k i n:Nat),i+k=l.length->k<n->zcf body n (i:Int)=some (if(l.drop i).any q=true then .inr y else .inl ()):=by
 intro k;induction k with
 | zero=>
  intro i n hi hn
  match n,hn with
  | n+1,_=>
   have:i=l.length:=by omega
   subst this;rw[zcf,he,List.drop_length];rfl
 | succ k ih=>
  intro i n hi hn
  match n,hn with
  | n+1,hn=>
   have hil:i<l.length:=by omega
   rw[zcf,hb i hil,List.drop_eq_getElem_cons hil,List.any_cons];by_cases hq:q l[i]=true
   ·simp[hq]
   ·rw[if_neg hq];simp only;rw[ih (i+1) n (by omega) (by omega)];simp[hq]
theorem seq_eqF {fuel:Nat} (l:List Tr)(hl:(zdn l).length<=2^40)(hf:l.length<fuel):qfs fuel l=some (seqT l):=by
 have hlen:=zdh l;have hfl:=zkz 3 1 l;unfold qfs seqT;rw[show(0:Int)=((0:Nat):Int) from rfl,qcr (fun x=>(x.k:Int)==0|| !zff x) zbc l (fun i hi=> ?_) ?_ l.length 0 fuel (by omega) hf,List.drop_zero]
 ·cases l.any (fun x=>(x.k:Int)==0|| !zff x) with
  |true=>rfl
  | false=>
   show zaa (zpi fuel ((3:Nat):Int) ((1:Nat):Int) l) _=_;rw[z9m 3 1 l hl hf,bindE_some];show zaa (zhr ((3:Nat):Int) _ _) _=_;rw[z0w 3 _ _ (by omega)];rfl
 ·exact zhf (by simp) rfl
 ·skip
  have hx:=z5y (List.getElem_mem hi);refine ziw (by simp;omega) (zal (by omega) (zaj fun x1 e1=> ?_));rw[zmd hi] at e1;subst e1;cases h1:(l[i].k:Int)==0 with
  |true=>exact ziw rfl (by simp)
  | false=>
   refine zhf rfl (zal (by omega) (zaj fun x2 e2=> ?_));subst e2;cases h2:zff l[i] with
   |true=>exact zhf rfl (zal (by omega) (by simp))
   |false=>exact ziw rfl (by simp)
theorem or_eqF {fuel:Nat} (l:List Tr)(hl:(zdn l).length<=2^40)(hf:l.length<fuel):F_or fuel l=some (orT l):=by
 have hlen:=zdh l;have hfl:=zkz 4 0 l;unfold F_or orT;rw[show(0:Int)=((0:Nat):Int) from rfl,qcr (fun x=> !zsx x) zbc l (fun i hi=> ?_) ?_ l.length 0 fuel (by omega) hf,List.drop_zero]
 ·cases l.any (fun x=> !zsx x) with
  |true=>rfl
  | false=>
   show zaa (zpi fuel ((4:Nat):Int) ((0:Nat):Int) l) _=_;rw[z9m 4 0 l hl hf,bindE_some];show zaa (zhr ((4:Nat):Int) _ _) _=_;rw[z0w 4 _ _ (by omega)];rfl
 ·exact zhf (by simp) rfl
 ·skip
  have hx:=z5y (List.getElem_mem hi);refine ziw (by simp;omega) (zal (by omega) (zaj fun x1 e1=> ?_));rw[zmd hi] at e1;subst e1;refine zai (zsx l[i]) (qda _ (by omega)) ?_;cases h2:zsx l[i] with
  |true=>exact zhf rfl (zal (by omega) (by simp))
  |false=>exact ziw rfl (by simp)
theorem k_seq (l:List Tr)(h:(zdn l).length<=2^40):Pure (ITP prog) prog 107 [.list l.length (Enc.cellsL l) .none] (.agg (Enc.cells (seqT l))):=seq_sh (l.length+1) l _ (seq_eqF l h (by omega))
theorem k_or (l:List Tr)(h:(zdn l).length<=2^40):Pure (ITP prog) prog 109 [.list l.length (Enc.cellsL l) .none] (.agg (Enc.cells (orT l))):=or_sh (l.length+1) l _ (or_eqF l h (by omega))
theorem z8o (t:Tr)(h:(pre t).length<2^60):zmp t=some (znh t):=by
 unfold zmp znh;rw[zlf _ (by rw[qdj];omega)];rfl
theorem qdm (t:Tr)(h:(pre t).length<2^60):Pure (ITP prog) prog 185 [.agg (Enc.cells t)] (.agg (Enc.cells (znh t))):=z7w t _ (z8o t h)
theorem qan (t:Tr)(lo hi:Int)(h:(pre t).length<2^40):zvd t lo hi=some (zto t lo hi):=by
 have e1:=qda t (by omega);have e2:=zus lo hi;have e3:zfj (Tr.mk 5 0#256 lo hi [t])=some (zep (Tr.mk 5 0#256 lo hi [t])):=zlf _ (by rw[qdj];omega);unfold zvd zto;simp only[e1,e2,e3,bindE_some];have hE:z5a=Tr.mk 1 0#256 0 0 []:=rfl;rw[<-hE];simp only[zbs h,zbl];generalize zsx t=G
 generalize zmh lo hi=B
 generalize zep (Tr.mk 5 0#256 lo hi [t])=X
 generalize (lo==0)=a
 generalize (lo==1)=b
 generalize (hi==0)=c
 generalize (hi==1)=d
 generalize ((t.k:Int)==0)=e
 generalize ((t.k:Int)==1)=f
 generalize decide (lo>0)=p
 generalize zbc=N
 generalize z5a=M
 cases a<;>cases b<;>cases c<;>cases d<;>cases e<;>cases f<;>cases p<;>cases G<;>cases B<;>rfl
theorem k_times (t:Tr)(lo hi:Int)(h:(pre t).length<2^40):Pure (ITP prog) prog 183 [.agg (Enc.cells t),.raw (.int .i64 lo),.raw (.int .i64 hi)] (.agg (Enc.cells (zto t lo hi))):=qft t lo hi _ (qan t lo hi h)
theorem rxof_eq (s:BS):z5t s=some (ofT s):=by
 unfold z5t ofT;by_cases h:s=0#256<;>simp[h]
theorem k_of (s:BS):Pure (ITP prog) prog 123 [.agg (Enc.cells s)] (.agg (Enc.cells (ofT s))):=rxof_sh s _ (rxof_eq s)
end Go.Ab
namespace Go.Ab
open Go Go.RowKit Go.Fwd Go.Proofs
def zhj (s:BS):Option Int:=
 (zdg (τ:=Int) (zbl (els s) (fun x1=>(zdg (zcu (β:=Int) (fun s1 w1=>(chk (-9223372036854775808<=(s1+1)/\ (s1+1)<9223372036854775808) (some (inl ((s1+1)))))) x1 (0)) (fun s1=>(some (inl (s1))))))) (fun j1=>(some j1)))
theorem ent65:Ent prog 65:=enters_of Tryz.func65 (by kernel_rfl) rfl
theorem zvj (s:BS)(r:Int)(h:zhj s=some r):Pure (ITP prog) prog 65 [.A (s:BS)] (.raw (.int .i64 r)):=by
 unfold zhj at h;refine zbq 9 mix Tryz.func65 ent65 ?_;refine zm (zb ?_);refine zdz (Enc.cells (s:BS)) ?_;refine w_o (a:= .i 0) ?_;refine zm (zb ?_);refine zdz [.i 0] ?_;refine zng 1 (.B [(24,(Enc.cells (s:BS))),(3,[.i 0])]) ?_;refine zaz h (bz 0 10 1015) (fun j1=>[]) (fun j1=>(.B [(24,(Enc.cells (s:BS))),(3,[.i j1])])) ?_ ?_;intro or1 h hr1;refine zx [.v (.A (s:BS))] ?_;obtain⟨x1,hx1,h⟩:=zu h;refine zdd (args':=[.A (s:BS)]) (r:= .iter (List.map z7h x1)) (by rw[<-hx1];exact(k_all s)) ?_;refine zac ?_;refine zhw h z7h (fun s1=>(.B [(24,(Enc.cells (s:BS))),(3,[.i s1])])) rfl (fun _=>rfl) rfl rfl ?_ ?_;intro s1 w1 p1 h;refine zav (by dsimp only[zix,List.zip,List.zipWith,foldl,List.set,Array.toList,z7h]) rfl ?_;refine zac ?_;refine zb (k0:=0) (id:=3) ?_;refine w_o (a:= .i s1) ?_;obtain⟨g1,h⟩:=zt h;refine zjv g1 ?_;refine zft 1 [.i (s1+1)] ?_;exact zeh (p:=p1) ((s1+1)) h (zcm (zan (zaf _ _ (Enc.clo _)) (zan (by kernel_rfl) rfl))) (by kernel_rfl);intro s1 h;refine zc (o:=or1) (s1) h ?_;exact zbp (bl 10 8);intro j1 h;refine zeo ?_;refine zx [.v (.i j1),.m _] ?_;exact zjj h
def zkr (fuel:Nat)(s:(List UInt8)):Option (BS×Int×Int×Int):=
 (zbl (zgo s) (fun x1=>(bif x1.2 then(some (x1.1,0,2,0)) else(zaa (zas s zat) (fun x2=>(chk (0<=x2.1/\ x2.1<256) (zaa (zek fuel ([(zkx x2.1)]:List UInt8)) (fun x3=>(some (x3,x2.1,x2.2.1,x2.2.2))))))))))
theorem ent64:Ent prog 64:=enters_of Tryz.func64 (by kernel_rfl) rfl
theorem qci (fuel:Nat)(s:(List UInt8))(r:(BS×Int×Int×Int))(h:zkr fuel s=some r):Pure (ITP prog) prog 64 [.raw (.string (bs s))] (.tup [.A (r.1:BS),.raw (.int .u8 r.2.1),.raw (.int .i64 r.2.2.1),.raw (.int .i64 r.2.2.2)]):=by
 unfold zkr at h;refine zbq 27 mix Tryz.func64 ent64 ?_;refine zm (zb ?_);refine zdz (Enc.cells (0#256:BS)) ?_;refine w_r [.v (.u 0),.v (.i 0),.v (.i 0)] ?_;refine zm ?_;refine zx [.m _] ?_;obtain⟨x1,hx1,h⟩:=zu h;refine zdd (args':=[.s s]) (r:= .tup [.A (x1.1:BS),.b x1.2]) (by rw[<-hx1];exact(z9x s)) ?_;refine w_r [.m _,.x _,.x _] ?_;refine zdz (Enc.cells (0#256:BS)) ?_;refine zft 4 (Enc.cells (x1.1:BS)) ?_;refine zz ?_;refine zx [.m _] ?_;refine zch h (fun hc1 h=> ?_) (fun hc1 h=> ?_);refine zx [.v (.A (x1.1:BS))] ?_;refine zft 4 (Enc.cells (x1.1:BS)) ?_;refine w_r [.v (.u 0),.v (.i 2),.v (.i 0)] ?_;exact zbr (fun(r:(BS×Int×Int×Int))=> .tup [.A (r.1:BS),.u r.2.1,.i r.2.2.1,.i r.2.2.2]) h (.tup [.A (x1.1:BS),.u 0,.i 2,.i 0]);refine zx [.m _] ?_;refine zdd (r:= .A (zat:BS)) qbv ?_;obtain⟨x2,hx2,h⟩:=zr h;refine zdd (zri s zat x2 hx2) ?_;refine w_r [.m _,.x _,.x _,.x _,.m _] ?_;refine w_r [.m _,.m _] ?_;refine zx [.m _] ?_;obtain⟨g1,h⟩:=zt h;refine w_o (a:= .F (([(zkx x2.1)]:List UInt8):List UInt8)) (h:=zbf (zic (α:=UInt8) (l:=([(zkx x2.1)]:List UInt8)) (cs:=[.u x2.1]) rfl (by show List.map _ _=_;simp only[map_cons,List.map_nil,u8c g1]))) ?_;obtain⟨x3,hx3,h⟩:=zr h;refine zdd (zgt fuel ([(zkx x2.1)]:List UInt8) x3 hx3) ?_;refine w_r [.m _,.m _,.m _] ?_;refine zft 4 (Enc.cells (x3:BS)) ?_;refine w_r [.m _,.m _,.m _] ?_;exact zbr (fun(r:(BS×Int×Int×Int))=> .tup [.A (r.1:BS),.u r.2.1,.i r.2.2.1,.i r.2.2.2]) h (.tup [.A (x3:BS),.u x2.1,.i x2.2.1,.i x2.2.2])
def zci (fuel:Nat)(s:(List UInt8)):Option (BS×Int×Int):=
 (zbl (Lib.hasPrefix s ([91]:List UInt8)) (fun x1=>(bif (!x1) then(some (0#256,0,94)) else(chk (0<=(1:Int)/\ (1:Int)<=(length s:Int)/\ (length s:Int)<=(length s:Int)) (zbl (sub s (1:Int) (length s:Int)) (fun x2=>(zbl (Lib.hasPrefix x2 ([94]:List UInt8)) (fun x3=>(zdg (τ:=Int) (bif x3 then(some (inl (2))) else(some (inl (1)))) (fun j1=>(zdg (τ:=Int×BS) (zcf (β:=Int×Bool×BS) (fun s1=>(zdg (τ:=Unit) (bif s1.2.1 then(some (inl ())) else(bif (decide (s1.1<(length s:Int))) then(chk (0<=s1.1/\ s1.1<(length s:Int)) (zbl (ix s s1.1) (fun x4=>(bif ((((x4).toNat:Nat):Int) !=93) then(some (inl ())) else(some (inr (inr (inl (s1.1,s1.2.2))))))))) else(some (inr (inr (inl (s1.1,s1.2.2))))))) (fun j3=>(chk (0<=s1.1/\ s1.1<=(length s:Int)/\ (length s:Int)<=(length s:Int)) (zbl (sub s s1.1 (length s:Int)) (fun x5=>(zaa (zkr fuel x5) (fun x6=>(bif (x6.2.2.2 !=0) then(some (inr (inr (0#256,s1.1,94)))) else(chk (-9223372036854775808<=(s1.1+x6.2.2.1)/\ (s1.1+x6.2.2.1)<9223372036854775808) (zdg (τ:=Int×BS) (bif (decide ((s1.1+x6.2.2.1)<(length s:Int))) then(chk (0<=(s1.1+x6.2.2.1)/\ (s1.1+x6.2.2.1)<(length s:Int)) (zbl (ix s (s1.1+x6.2.2.1)) (fun x7=>(bif ((((x7).toNat:Nat):Int)==45) then(chk (-9223372036854775808<=((s1.1+x6.2.2.1)+1)/\ ((s1.1+x6.2.2.1)+1)<9223372036854775808) (chk (0<=((s1.1+x6.2.2.1)+1)/\ ((s1.1+x6.2.2.1)+1)<=(length s:Int)/\ (length s:Int)<=(length s:Int)) (zbl (sub s ((s1.1+x6.2.2.1)+1) (length s:Int)) (fun x8=>(zaa (zkr fuel x8) (fun x9=>(bif (x9.2.2.2 !=0) then(chk (-9223372036854775808<=((s1.1+x6.2.2.1)+1)/\ ((s1.1+x6.2.2.1)+1)<9223372036854775808) (some (inr (inr (inr (0#256,((s1.1+x6.2.2.1)+1),94)))))) else(zaa (zhj x6.1) (fun x10=>(bif (x10 !=1) then(some (inr (inr (inr (0#256,(s1.1+x6.2.2.1),94))))) else(zaa (zhj x9.1) (fun x11=>(bif (x11 !=1) then(some (inr (inr (inr (0#256,(s1.1+x6.2.2.1),94))))) else(bif (decide (x6.2.1>x9.2.1)) then(some (inr (inr (inr (0#256,(s1.1+x6.2.2.1),94))))) else(chk (-9223372036854775808<=(1+x9.2.2.1)/\ (1+x9.2.2.1)<9223372036854775808) (chk (-9223372036854775808<=((s1.1+x6.2.2.1)+(1+x9.2.2.1))/\ ((s1.1+x6.2.2.1)+(1+x9.2.2.1))<9223372036854775808) (zaa (zdc fuel x6.2.1 x9.2.1) (fun x12=>(some (inl (((s1.1+x6.2.2.1)+(1+x9.2.2.1)),x12))))))))))))))))))))) else(some (inl ((s1.1+x6.2.2.1),x6.1))))))) else(some (inl ((s1.1+x6.2.2.1),x6.1)))) (fun j4=>(zbl (s1.2.2|||j4.2) (fun x13=>(some (inl (j4.1,false,x13))))))))))))))))) fuel (j1,true,0#256)) (fun j2=>(bif (j2.1==(length s:Int)) then(some (0#256,j2.1,94)) else(zdg (τ:=BS) (bif x3 then(zbl (~~~j2.2) (fun x14=>(some (inl (x14))))) else(some (inl (j2.2)))) (fun j5=>(bif (decide (j5=(0#256))) then(some (0#256,0,94)) else(chk (-9223372036854775808<=(j2.1+1)/\ (j2.1+1)<9223372036854775808) (some (j5,(j2.1+1),0)))))))))))))))))))
theorem ent29:Ent prog 29:=enters_of Tryz.func29 (by kernel_rfl) rfl
theorem ztu (fuel:Nat)(s:(List UInt8))(r:(BS×Int×Int))(h:zci fuel s=some r):Pure (ITP prog) prog 29 [.raw (.string (bs s))] (.tup [.A (r.1:BS),.raw (.int .i64 r.2.1),.raw (.int .i64 r.2.2)]):=by
 unfold zci at h;refine zbq 121 mix Tryz.func29 ent29 ?_;refine zm (zb ?_);refine zdz (Enc.cells (0#256:BS)) ?_;refine w_r [.v (.i 0),.v (.i 0)] ?_;refine zm ?_;refine zx [.m _] ?_;obtain⟨x1,hx1,h⟩:=zu h;refine zdd (args':=[.s s,.s ([91]:List UInt8)]) (r:= .b x1) (by rw[<-hx1];exact(zmy s ([91]:List UInt8))) ?_;refine w_o (a:= .b (!x1)) ?_;refine zch h (fun hc1 h=> ?_) (fun hc1 h=> ?_);refine zx [.v (.A (0#256:BS))] ?_;refine zng 4 (.B [(24,(Enc.cells (0#256:BS)))]) ?_;refine w_r [.v (.i 0),.v (.i 94)] ?_;exact zbr (fun(r:(BS×Int×Int))=> .tup [.A (r.1:BS),.i r.2.1,.i r.2.2]) h (.tup [.A (0#256:BS),.i 0,.i 94]);refine zx [.v (.i 1)] ?_;refine zx [.m _] ?_;obtain⟨g1,h⟩:=zt h;obtain⟨x2,hx2,h⟩:=zu h;refine w_o (a:= .s x2) (h:=zbf (by rw[<-hx2];exact(zmf (l:=s) g1 rfl rfl rfl rfl))) ?_;obtain⟨x3,hx3,h⟩:=zu h;refine zdd (args':=[.s x2,.s ([94]:List UInt8)]) (r:= .b x3) (by rw[<-hx3];exact(zmy x2 ([94]:List UInt8))) ?_;refine zz ?_;refine zaz h (bz 0 122 5316911983139663491615228241121378234) (fun j1=>[(5,.i j1)]) (fun j1=>(.B [(24,(Enc.cells (0#256:BS)))])) ?_ ?_;intro or1 h hr1;refine zx [.m _] ?_;refine zch h (fun hc2 h=> ?_) (fun hc2 h=> ?_);refine zb (k0:=0) (id:=6) ?_;refine w_o (a:= .i 2) ?_;refine zc (o:=or1) (2) h ?_;exact zbp (bl 122 101);refine zc (o:=or1) (1) h ?_;exact zbp (bl 122 101);intro j1 h;refine zeo ?_;refine zm (zb ?_);refine zdz (Enc.cells (0#256:BS)) ?_;refine zaz h (bz 0 106 81129638414606681695788971720504) (fun j2=>[(5,.i j2.1)]) (fun j2=>(.B [(24,(Enc.cells (0#256:BS))),(24,(Enc.cells (j2.2:BS)))])) ?_ ?_;intro or2 h hr2;refine zx [.v (.b true)] ?_;refine zac ?_;refine zec h (bz 0 106 81129638414606681695788971720504) (fun s1=>[(5,.i s1.1),(8,.b s1.2.1)]) (fun s1=>(.B [(24,(Enc.cells (0#256:BS))),(24,(Enc.cells (s1.2.2:BS)))])) ?_ ?_;exact zbp (bl 122 5316830853501248884933532452149658087);intro s1 p1 h;refine zeo ?_;refine zaz h (bz 0 38 274844352768) (fun j3=>[]) (fun j3=>(.B [(24,(Enc.cells (0#256:BS))),(24,(Enc.cells (s1.2.2:BS)))])) ?_ ?_;intro or3 h hr3;refine zx [.m _] ?_;refine zah h (fun hc3 h=> ?_) (fun hc3 h=> ?_);refine zaw hc3 ?_;iterate 2 refine w_r [.p,.p,.p,.p,.p] ?_
 refine w_r [.v (.b true)] ?_;refine zdy rfl ?_;refine zc (o:=or3) () h ?_;exact zbp (bl 122 5316911983139663491615227966277025535);refine zaw hc3 ?_;refine w_r [.m _,.m _] ?_;refine zaq rfl rfl ?_;refine w_o (a:= .i (length s:Int)) (h:=zbf (zdw rfl rfl rfl)) ?_;refine zaq rfl rfl ?_;refine w_o (a:= .b (decide (s1.1<(length s:Int)))) ?_;refine zaq rfl rfl ?_;refine zah h (fun hc4 h=> ?_) (fun hc4 h=> ?_);refine zaw hc4 ?_;refine w_r [.m _,.m _] ?_;refine zaq rfl rfl ?_;obtain⟨g2,h⟩:=zt h;obtain⟨x4,hx4,h⟩:=zu h;refine w_o (a:= .u (((x4).toNat:Nat):Int)) (h:=zbf (by rw[<-hx4];exact(zds (l:=s) (n:=s1.1) g2 rfl rfl rfl rfl))) ?_;refine w_r [.v (.b ((((x4).toNat:Nat):Int) !=93)),.v (.b ((((x4).toNat:Nat):Int) !=93)),.v (.b ((((x4).toNat:Nat):Int) !=93))] ?_;refine zch h (fun hc5 h=> ?_) (fun hc5 h=> ?_);refine zc (o:=or3) () h ?_;exact zbp (bl 122 5316911983139663491615227966277025535);replace h:=zax h hr3;refine zak h (fun h=> ?_);refine zc (o:=or2) (s1.1,s1.2.2) h ?_;exact zbp (bl 122 5316830853501248884933532452149657831);refine zaw hc4 ?_;refine w_r [.p,.p,.p,.p,.v (.b false)] ?_;refine w_r [.v (.b false)] ?_;refine zbz rfl ?_;replace h:=zax h hr3;refine zak h (fun h=> ?_);refine zc (o:=or2) (s1.1,s1.2.2) h ?_;exact zbp (bl 122 5316830853501248884933532452149657831);intro j3 h;refine zeo ?_;refine zm ?_;refine zac ?_;refine zx [.m _,.m _] ?_;obtain⟨g3,h⟩:=zt h;obtain⟨x5,hx5,h⟩:=zu h;refine w_o (a:= .s x5) (h:=zbf (by rw[<-hx5];exact(zmf (l:=s) g3 rfl rfl rfl rfl))) ?_;obtain⟨x6,hx6,h⟩:=zr h;refine zdd (qci fuel x5 x6 hx6) ?_;refine w_r [.m _,.x _,.x _,.x _,.x _] ?_;refine zdz (Enc.cells (0#256:BS)) ?_;refine zft 4 (Enc.cells (x6.1:BS)) ?_;refine w_r [.m _,.m _,.m _] ?_;refine zm ?_;refine zx [.m _,.v (.b (x6.2.2.2 !=0))] ?_;refine zch h (fun hc6 h=> ?_) (fun hc6 h=> ?_);refine zx [.v (.A (0#256:BS)),.m _] ?_;refine zng 4 (.B [(24,(Enc.cells (0#256:BS))),(24,(Enc.cells (s1.2.2:BS))),(24,(Enc.cells (x6.1:BS)))]) ?_;refine w_r [.m _,.v (.i 94)] ?_;refine zak h (fun h=> ?_);replace h:=zax h hr2;exact zbr (fun(r:(BS×Int×Int))=> .tup [.A (r.1:BS),.i r.2.1,.i r.2.2]) h (.tup [.A (0#256:BS),.i s1.1,.i 94]);refine zx [.m _,.m _] ?_;obtain⟨g4,h⟩:=zt h;refine zjv g4 ?_;refine zz ?_;refine zaz h (bz 0 103 10141204801825833522848887602232) (fun j4=>[(5,.i j4.1)]) (fun j4=>(.B [(24,(Enc.cells (0#256:BS))),(24,(Enc.cells (s1.2.2:BS))),(24,(Enc.cells (j4.2:BS)))])) ?_ ?_;intro or4 h hr4;refine zx [.m _,.m _] ?_;refine w_o (a:= .i (length s:Int)) (h:=zbf (zdw rfl rfl rfl)) ?_;refine w_o (a:= .b (decide ((s1.1+x6.2.2.1)<(length s:Int)))) ?_;refine zah h (fun hc7 h=> ?_) (fun hc7 h=> ?_);refine zaw hc7 ?_;refine w_r [.m _,.m _] ?_;refine zaq rfl rfl ?_;obtain⟨g5,h⟩:=zt h;obtain⟨x7,hx7,h⟩:=zu h;refine w_o (a:= .u (((x7).toNat:Nat):Int)) (h:=zbf (by rw[<-hx7];exact(zds (l:=s) (n:=(s1.1+x6.2.2.1)) g5 rfl rfl rfl rfl))) ?_;refine w_r [.v (.b ((((x7).toNat:Nat):Int)==45)),.v (.b ((((x7).toNat:Nat):Int)==45))] ?_;refine zch h (fun hc8 h=> ?_) (fun hc8 h=> ?_);refine zx [.m _,.m _] ?_;obtain⟨g6,h⟩:=zt h;refine zjv g6 ?_;obtain⟨g7,h⟩:=zt h;obtain⟨x8,hx8,h⟩:=zu h;refine w_o (a:= .s x8) (h:=zbf (by rw[<-hx8];exact(zmf (l:=s) g7 rfl rfl rfl rfl))) ?_;obtain⟨x9,hx9,h⟩:=zr h;refine zdd (qci fuel x8 x9 hx9) ?_;refine w_r [.m _,.x _,.x _,.x _,.x _] ?_;refine zdz (Enc.cells (0#256:BS)) ?_;refine zft 4 (Enc.cells (x9.1:BS)) ?_;refine w_r [.m _,.m _,.m _] ?_;refine zm ?_;refine zac ?_;refine zx [.m _,.v (.b (x9.2.2.2 !=0)),.m _] ?_;refine zch h (fun hc9 h=> ?_) (fun hc9 h=> ?_);refine zx [.v (.A (0#256:BS)),.m _] ?_;obtain⟨g8,h⟩:=zt h;refine zjv g8 ?_;refine zng 4 (.B [(24,(Enc.cells (0#256:BS))),(24,(Enc.cells (s1.2.2:BS))),(24,(Enc.cells (x6.1:BS))),(24,(Enc.cells (x9.1:BS)))]) ?_;refine w_r [.m _,.v (.i 94)] ?_;replace h:=zax h hr4;refine zak h (fun h=> ?_);replace h:=zax h hr2;exact zbr (fun(r:(BS×Int×Int))=> .tup [.A (r.1:BS),.i r.2.1,.i r.2.2]) h (.tup [.A (0#256:BS),.i ((s1.1+x6.2.2.1)+1),.i 94]);refine zx [.v (.A (x6.1:BS))] ?_;obtain⟨x10,hx10,h⟩:=zr h;refine zdd (zvj x6.1 x10 hx10) ?_;refine w_o (a:= .b (x10 !=1)) ?_;refine zah h (fun hc10 h=> ?_) (fun hc10 h=> ?_);refine zaw hc10 ?_;iterate 2 refine w_r [.p,.p,.p,.v (.b true),.m _] ?_
 refine zdy rfl ?_;refine zx [.v (.A (0#256:BS)),.m _] ?_;refine zng 4 (.B [(24,(Enc.cells (0#256:BS))),(24,(Enc.cells (s1.2.2:BS))),(24,(Enc.cells (x6.1:BS))),(24,(Enc.cells (x9.1:BS)))]) ?_;refine w_r [.m _,.v (.i 94)] ?_;replace h:=zax h hr4;refine zak h (fun h=> ?_);replace h:=zax h hr2;exact zbr (fun(r:(BS×Int×Int))=> .tup [.A (r.1:BS),.i r.2.1,.i r.2.2]) h (.tup [.A (0#256:BS),.i (s1.1+x6.2.2.1),.i 94]);refine zaw hc10 ?_;refine zaq rfl rfl ?_;refine w_o (a:= .A (x9.1:BS)) ?_;refine zaq rfl rfl ?_;obtain⟨x11,hx11,h⟩:=zr h;refine zdd (zvj x9.1 x11 hx11) ?_;refine w_r [.v (.b (x11 !=1)),.v (.b (x11 !=1))] ?_;refine zah h (fun hc11 h=> ?_) (fun hc11 h=> ?_);refine zaw hc11 ?_;refine w_r [.p,.p,.p,.v (.b true),.m _] ?_;refine zdy rfl ?_;refine zx [.v (.A (0#256:BS)),.m _] ?_;refine zng 4 (.B [(24,(Enc.cells (0#256:BS))),(24,(Enc.cells (s1.2.2:BS))),(24,(Enc.cells (x6.1:BS))),(24,(Enc.cells (x9.1:BS)))]) ?_;refine w_r [.m _,.v (.i 94)] ?_;replace h:=zax h hr4;refine zak h (fun h=> ?_);replace h:=zax h hr2;exact zbr (fun(r:(BS×Int×Int))=> .tup [.A (r.1:BS),.i r.2.1,.i r.2.2]) h (.tup [.A (0#256:BS),.i (s1.1+x6.2.2.1),.i 94]);refine zaw hc11 ?_;refine w_r [.m _,.m _,.v (.b (decide (x6.2.1>x9.2.1))),.v (.b (decide (x6.2.1>x9.2.1))),.m _] ?_;refine zch h (fun hc12 h=> ?_) (fun hc12 h=> ?_);refine zx [.v (.A (0#256:BS)),.m _] ?_;refine zng 4 (.B [(24,(Enc.cells (0#256:BS))),(24,(Enc.cells (s1.2.2:BS))),(24,(Enc.cells (x6.1:BS))),(24,(Enc.cells (x9.1:BS)))]) ?_;refine w_r [.m _,.v (.i 94)] ?_;replace h:=zax h hr4;refine zak h (fun h=> ?_);replace h:=zax h hr2;exact zbr (fun(r:(BS×Int×Int))=> .tup [.A (r.1:BS),.i r.2.1,.i r.2.2]) h (.tup [.A (0#256:BS),.i (s1.1+x6.2.2.1),.i 94]);refine zx [.m _,.m _] ?_;obtain⟨g9,h⟩:=zt h;refine zjv g9 ?_;obtain⟨g10,h⟩:=zt h;refine zjv g10 ?_;refine zz ?_;refine zb (k0:=0) (id:=22) ?_;refine w_r [.m _,.m _] ?_;obtain⟨x12,hx12,h⟩:=zr h;refine zdd (zjl fuel x6.2.1 x9.2.1 x12 hx12) ?_;refine zft 4 (Enc.cells (x12:BS)) ?_;refine zc (o:=or4) (((s1.1+x6.2.2.1)+(1+x9.2.2.1)),x12) h ?_;exact zfx (bl 122 5316901841934861665781705392233776103) 3 (by kernel_rfl) (Nat.le_of_ble_eq_true rfl) (zcm (zan (zaf _ _ (Enc.clo _)) (zan (zaf _ _ (Enc.clo _)) (zan (zaf _ _ (Enc.clo _)) rfl)))) (by dsimp only[zbg,zcl,foldl,List.set,bz,bzc,Nat.reduceMod,Nat.reduceDiv,Nat.reduceBEq,Nat.reduceAdd];exact(za rfl (za rfl (za (by decide) (za rfl (za rfl (za rfl (za rfl (za (by decide) (za rfl (za (by decide) (by kernel_rfl)))))))))))) (by kernel_rfl);refine zc (o:=or4) ((s1.1+x6.2.2.1),x6.1) h ?_;exact zbp (bl 122 5316901841934861665781705392233776103);refine zaw hc7 ?_;refine w_r [.p,.p,.p,.p,.v (.b false)] ?_;refine zbz rfl ?_;refine zc (o:=or4) ((s1.1+x6.2.2.1),x6.1) h ?_;exact zbp (bl 122 5316901841934861665781705392233776103);intro j4 h;refine zeo ?_;refine zb (k0:=0) (id:=23) ?_;refine w_r [.v (.A (s1.2.2:BS)),.v (.A (j4.2:BS))] ?_;obtain⟨x13,hx13,h⟩:=zu h;refine zdd (args':=[.A (s1.2.2:BS),.A (j4.2:BS)]) (r:= .A (x13:BS)) (by rw[<-hx13];exact(qfx s1.2.2 j4.2)) ?_;refine zng 4 (.B [(24,(Enc.cells (0#256:BS))),(24,(Enc.cells (x13:BS))),(24,(Enc.cells (j4.2:BS)))]) ?_;refine zb (k0:=0) (id:=10) ?_;refine w_o (a:= .b false) ?_;refine zcj (p:=p1) (j4.1,false,x13) h ?_;exact zfx (bl 122 5316830853501248884933532452149658087) 2 (by kernel_rfl) (Nat.le_of_ble_eq_true rfl) (zcm (zan (zaf _ _ (Enc.clo _)) (zan (zaf _ _ (Enc.clo _)) rfl))) (by dsimp only[zbg,zcl,foldl,List.set,bz,bzc,Nat.reduceMod,Nat.reduceDiv,Nat.reduceBEq,Nat.reduceAdd];exact(za rfl (za rfl (za (by decide) (za rfl (za rfl (za rfl (za rfl (za (by decide) (by kernel_rfl)))))))))) (by kernel_rfl);intro j2 h;refine zeo ?_;refine zm ?_;refine zx [.m _,.m _] ?_;refine w_o (a:= .i (length s:Int)) (h:=zbf (zdw rfl rfl rfl)) ?_;refine w_o (a:= .b (j2.1==(length s:Int))) ?_;refine zch h (fun hc13 h=> ?_) (fun hc13 h=> ?_);refine zx [.v (.A (0#256:BS)),.m _] ?_;refine zng 4 (.B [(24,(Enc.cells (0#256:BS))),(24,(Enc.cells (j2.2:BS)))]) ?_;refine w_r [.m _,.v (.i 94)] ?_;exact zbr (fun(r:(BS×Int×Int))=> .tup [.A (r.1:BS),.i r.2.1,.i r.2.2]) h (.tup [.A (0#256:BS),.i j2.1,.i 94]);refine zaz h (bz 0 115 37563022585962893625150309381701697) (fun j5=>[]) (fun j5=>(.B [(24,(Enc.cells (0#256:BS))),(24,(Enc.cells (j5:BS)))])) ?_ ?_;intro or5 h hr5;refine zx [.m _] ?_;refine zch h (fun hc14 h=> ?_) (fun hc14 h=> ?_);refine zb (k0:=0) (id:=27) ?_;refine w_o (a:= .A (j2.2:BS)) ?_;obtain⟨x14,hx14,h⟩:=zu h;refine zdd (args':=[.A (j2.2:BS)]) (r:= .A (x14:BS)) (by rw[<-hx14];exact(qac j2.2)) ?_;refine zft 4 (Enc.cells (x14:BS)) ?_;refine zc (o:=or5) (x14) h ?_;exact zbp (bl 122 5279348960553700597990077931739676606);refine zc (o:=or5) (j2.2) h ?_;exact zbp (bl 122 5279348960553700597990077931739676606);intro j5 h;refine zeo ?_;refine zm ?_;refine zx [.v (.A (j5:BS)),.v (.A (0#256:BS))] ?_;refine znl (.b (decide (j5=(0#256)))) rfl rfl rfl (zfy j5 (0#256) rfl rfl rfl) (by dsimp only[zi,List.set]) ?_;refine zch h (fun hc15 h=> ?_) (fun hc15 h=> ?_);refine zx [.v (.A (0#256:BS))] ?_;refine zng 4 (.B [(24,(Enc.cells (0#256:BS))),(24,(Enc.cells (j5:BS)))]) ?_;refine w_r [.v (.i 0),.v (.i 94)] ?_;exact zbr (fun(r:(BS×Int×Int))=> .tup [.A (r.1:BS),.i r.2.1,.i r.2.2]) h (.tup [.A (0#256:BS),.i 0,.i 94]);refine zx [.v (.A (j5:BS)),.m _] ?_;obtain⟨g11,h⟩:=zt h;refine zjv g11 ?_;refine zft 4 (Enc.cells (j5:BS)) ?_;refine w_r [.m _,.v (.i 0)] ?_;exact zbr (fun(r:(BS×Int×Int))=> .tup [.A (r.1:BS),.i r.2.1,.i r.2.2]) h (.tup [.A (j5:BS),.i (j2.1+1),.i 0])
def zlh (fuel:Nat)(c:Int):Option Tr:=
 (chk (0<=c/\ c<256) (zaa (zek fuel ([(zkx c)]:List UInt8)) (fun x1=>(zbl (ofT x1) (fun x2=>(some x2))))))
theorem ent73:Ent prog 73:=enters_of Tryz.func73 (by kernel_rfl) rfl
theorem qdw (fuel:Nat)(c:Int)(r:Tr)(h:zlh fuel c=some r):Pure (ITP prog) prog 73 [.raw (.int .u8 c)] (.A (r:Tr)):=by
 unfold zlh at h;refine zbq 6 mix Tryz.func73 ent73 ?_;refine zm (zb ?_);refine zdz zN ?_;refine zx [.m _] ?_;obtain⟨g1,h⟩:=zt h;refine w_o (a:= .F (([(zkx c)]:List UInt8):List UInt8)) (h:=zbf (zic (α:=UInt8) (l:=([(zkx c)]:List UInt8)) (cs:=[.u c]) rfl (by show List.map _ _=_;simp only[map_cons,List.map_nil,u8c g1]))) ?_;obtain⟨x1,hx1,h⟩:=zr h;refine zdd (zgt fuel ([(zkx c)]:List UInt8) x1 hx1) ?_;obtain⟨x2,hx2,h⟩:=zu h;refine zdd (args':=[.A (x1:BS)]) (r:= .A (x2:Tr)) (by rw[<-hx2];exact(k_of x1)) ?_;refine zft 8 (Enc.cells (x2:Tr)) ?_;exact zbr (fun(r:Tr)=> .A (r:Tr)) h (.A (x2:Tr))
theorem zlk {P:Program} {ρ:Operand->AV} {U:St} {o:Oper} {t:TypeId} {x y:Operand} {c} {a b:List UInt8} (g:a.length+b.length<=9223372036854775807)(ho:o.op= .binOp .add t x y c)(hx:ρ x= .raw (.string (bs a)))(hy:ρ y= .raw (.string (bs b))):qop P ρ U o=some (.raw (.string (bs (a++b)))):=by
 have hs: ¬((((bs a).size+(bs b).size:Nat):Int)>IntKind.i64.max):=by
  have h1:(bs a).size=a.length:=rfl;have h2:(bs b).size=b.length:=rfl;have h3:IntKind.i64.max=9223372036854775807:=rfl;rw[h1,h2,h3];omega
 have h3:val? P (execOp (zce ρ) o)=some (.value (.string (bs (a++b)))):=by
  rw[<-bs_app];simp only[execOp,ho,zce,hx,hy,zdm,eqGuard,binOp,Op.stringOp,Option.getD_some];simp only[if_neg hs];rfl
 have h1:o.op.operands.toList.all (fun x=>(zdm (ρ x)).isSome)=true:=by rw[ho];simp[Op.operands,hx,hy,zdm]
 have h4:zfd P ρ o=some (.raw (.string (bs (a++b)))):=by
  unfold zfd;rw[if_pos h1,ho,h3];rfl
 simp only[qop,ho,hx,hy,h4]
def hexD (n:Nat):UInt8:=UInt8.ofNat (if n<10 then 48+n else 87+n)
def hexS (n:Nat):List UInt8:=[92,120,hexD (n/16),hexD (n%16)]
def bit (n:Nat):BS:=1#256<<<n
def bits:Nat->Nat->BS
 |_,0=>0#256
 |c,k+1=>bit c|||bits (c+1) k
theorem wd_inj4 {s t:BS} (h: ∀j,j<4->wd s j=wd t j):s=t:=by
 have h2:=qaq s t;have h3:(wd s 0==wd t 0&&wd s 1==wd t 1&&wd s 2==wd t 2&&wd s 3==wd t 3)=true:=by
  rw[h 0 (by decide),h 1 (by decide),h 2 (by decide),h 3 (by decide)];simp
 rw[h2] at h3;exact of_decide_eq_true h3
theorem qib (s:BS)(j:Nat):orI .u64 (wd s j) 0=wd s j:=by
 have h:=qbm s 0#256 j;rw[show s|||0#256=s by simp,wd_zero] at h;exact h
theorem qal:((List.range 256).all fun c=>decide (wd (bit c) (c/64)=zor .u64 1 ((c%64:Nat):Int))&&(List.range 4).all fun j=>j==c/64||decide (wd (bit c) j=0))=true:=by decide+kernel
theorem st_bit (s:BS)(c:Nat)(hc:c<256):stW s (c/64) (orI .u64 (wd s (c/64)) (zor .u64 1 ((c%64:Nat):Int)))=s|||bit c:=by
 have ht:=all_eq_true.1 qal c (mem_range.2 hc);rw[Bool.and_eq_true] at ht;have h1:=of_decide_eq_true ht.1;have h2: ∀j,j<4->j≠c/64->wd (bit c) j=0:=fun j hj hne=>by
  have:=all_eq_true.1 ht.2 j (mem_range.2 hj);simpa[hne] using this
 have hv:0<=orI .u64 (wd s (c/64)) (zor .u64 1 ((c%64:Nat):Int))/\ orI .u64 (wd s (c/64)) (zor .u64 1 ((c%64:Nat):Int))<2^64:=by
  rw[<-h1,qbm];exact z6y _ _
 refine wd_inj4 fun j hj=> ?_;rw[qav _ _ _ hv j hj, <-qbm];split
 ·rename_i e;subst e;rw[h1]
 ·rename_i e;rw[h2 j hj e,qib]
theorem orI_lt (s:BS)(c:Nat)(hc:c<256):0<=orI .u64 (wd s (c/64)) (zor .u64 1 ((c%64:Nat):Int))/\ orI .u64 (wd s (c/64)) (zor .u64 1 ((c%64:Nat):Int))<18446744073709551616:=by
 have ht:=all_eq_true.1 qal c (mem_range.2 hc);rw[Bool.and_eq_true] at ht;have h1:=of_decide_eq_true ht.1;rw[<-h1,qbm];exact z6y _ _
theorem sh_tab:((List.range 256).all fun c=>decide (zfq .i64 ((c:Nat):Int) 6=((c/64:Nat):Int))&&decide (zlu .i64 ((c:Nat):Int) 63=((c%64:Nat):Int))&&decide (IntKind.i64.wrap (tdiv ((c:Nat):Int) 64)=((c/64:Nat):Int))&&decide (tmod ((c:Nat):Int) 64=((c%64:Nat):Int))&&decide (zek 1100 [UInt8.ofNat c]=some (bit c))&&decide (zhj (bit c)=some 1))=true:=by decide+kernel
theorem z4f {ρ:Type} (body:Int×BS->Option ((Int×BS) ⊕ ρ))(R:BS->ρ)(d:Nat)(hs: ∀(c:Nat)(s:BS),c<=d->body (((c:Nat):Int),s)=some (.inl (((c:Nat):Int)+1,s|||bit c)))(he: ∀s:BS,body (((d+1:Nat):Int),s)=some (.inr (R s))):
 ∀(k c:Nat) (s:BS) (fuel:Nat),c+k=d+1->k<fuel->zcf body fuel (((c:Nat):Int),s)=some (R (s|||bits c k))
 | 0,c,s,fuel,h1,h2=>by
  obtain⟨f,rfl⟩: ∃f,fuel=f+1:=⟨fuel-1,by omega⟩;have:c=d+1:=by omega
  subst this;rw[zcf,he];simp[bits]
 | k+1,c,s,fuel,h1,h2=>by
  obtain⟨f,rfl⟩: ∃f,fuel=f+1:=⟨fuel-1,by omega⟩;rw[zcf,hs c s (by omega)];have:=z4f body R d hs he k (c+1) (s|||bit c) f (by omega) (by omega);simp only[Int.natCast_add,Int.cast_ofNat_Int] at this;show zcf body f (((c:Nat):Int)+1,s|||bit c)=_;rw[this,bits,BitVec.or_assoc]
theorem z2l (c:Nat)(hc:c<256):zfq .i64 ((c:Nat):Int) 6=((c/64:Nat):Int)/\ zlu .i64 ((c:Nat):Int) 63=((c%64:Nat):Int)/\ IntKind.i64.wrap (tdiv ((c:Nat):Int) 64)=((c/64:Nat):Int)/\ tmod ((c:Nat):Int) 64=((c%64:Nat):Int)/\ zek 1100 [UInt8.ofNat c]=some (bit c)/\ zhj (bit c)=some 1:=by
 have ht:=all_eq_true.1 sh_tab c (mem_range.2 hc);simp only[Bool.and_eq_true,decide_eq_true_eq] at ht;obtain⟨⟨⟨⟨⟨a,b⟩,c⟩,d⟩,e⟩,f⟩:=ht;exact⟨a,b,c,d,e,f⟩
theorem z2f (c d:Nat)(hcd:c<=d)(hd:d<256):zdc 1100 ((c:Nat):Int) ((d:Nat):Int)=some (bits c (d+1-c)):=by
 unfold zdc;refine zbj (bits c (d+1-c)) ?_ rfl;refine zal (by omega) ?_;have h:=z4f (ρ:=BS ⊕ BS) (fun s1=>(chk (-9223372036854775808<=((d:Nat):Int)/\ ((d:Nat):Int)<9223372036854775808) (bif (decide (s1.1<=((d:Nat):Int))) then(chk (0<=(zfq .i64 s1.1 6)/\ (zfq .i64 s1.1 6)<4) (chk (0<=(zlu .i64 s1.1 63)) (chk (0<=(zfq .i64 s1.1 6)/\ (zfq .i64 s1.1 6)<4) (chk (0<=(orI .u64 (wd s1.2 (toNat (zfq .i64 s1.1 6))) (zor .u64 1 (zlu .i64 s1.1 63)))/\ (orI .u64 (wd s1.2 (toNat (zfq .i64 s1.1 6))) (zor .u64 1 (zlu .i64 s1.1 63)))<18446744073709551616) (zbl (stW s1.2 (toNat (zfq .i64 s1.1 6)) (orI .u64 (wd s1.2 (toNat (zfq .i64 s1.1 6))) (zor .u64 1 (zlu .i64 s1.1 63)))) (fun x1=>(chk (-9223372036854775808<=(s1.1+1)/\ (s1.1+1)<9223372036854775808) (some (inl ((s1.1+1),x1)))))))))) else(some (inr (inl (s1.2))))))) (fun s=> .inl s) d ?_ ?_ (d+1-c) c 0#256 1100 (by omega) (by omega)
 ·rw[show(0#256:BS)|||bits c (d+1-c)=bits c (d+1-c) by simp] at h;exact h
 ·intro e s he;obtain⟨q1,q2,_⟩:=z2l e (by omega);refine zal (by omega) ?_;rw[show decide (((e:Nat):Int)<=((d:Nat):Int))=true by simp;omega,cond_true];simp only[q1,q2,Int.toNat_natCast];refine zal (by omega) (zal (by omega) (zal (by omega) (zal (orI_lt s e (by omega)) ?_)));refine zaj fun x hx=> ?_;rw[st_bit s e (by omega)] at hx;subst hx;exact zal (by omega) rfl
 ·intro s;refine zal (by omega) ?_;rw[show decide (((d+1:Nat):Int)<=((d:Nat):Int))=false by simp;omega,cond_false]
abbrev It:=Nat×Option Nat
def qhy:It->BS
 |(c,none)=>bit c
 |(c,some d)=>bits c (d+1-c)
def gdI:It->Prop
 |(c,none)=>c<256
 |(c,some d)=>c<=d/\ d<256
def zva (s:BS)(l:List It):BS:=l.foldl (fun s i=>s|||qhy i) s
def zun (s:List UInt8):Int×Bool×BS->Option ((Int×Bool×BS) ⊕ ((Int×BS) ⊕ (BS×Int×Int))):=
 (fun s1=>(zdg (τ:=Unit) (bif s1.2.1 then(some (inl ())) else(bif (decide (s1.1<(length s:Int))) then(chk (0<=s1.1/\ s1.1<(length s:Int)) (zbl (ix s s1.1) (fun x4=>(bif ((((x4).toNat:Nat):Int) !=93) then(some (inl ())) else(some (inr (inr (inl (s1.1,s1.2.2))))))))) else(some (inr (inr (inl (s1.1,s1.2.2))))))) (fun j3=>(chk (0<=s1.1/\ s1.1<=(length s:Int)/\ (length s:Int)<=(length s:Int)) (zbl (sub s s1.1 (length s:Int)) (fun x5=>(zaa (zkr 1100 x5) (fun x6=>(bif (x6.2.2.2 !=0) then(some (inr (inr (0#256,s1.1,94)))) else(chk (-9223372036854775808<=(s1.1+x6.2.2.1)/\ (s1.1+x6.2.2.1)<9223372036854775808) (zdg (τ:=Int×BS) (bif (decide ((s1.1+x6.2.2.1)<(length s:Int))) then(chk (0<=(s1.1+x6.2.2.1)/\ (s1.1+x6.2.2.1)<(length s:Int)) (zbl (ix s (s1.1+x6.2.2.1)) (fun x7=>(bif ((((x7).toNat:Nat):Int)==45) then(chk (-9223372036854775808<=((s1.1+x6.2.2.1)+1)/\ ((s1.1+x6.2.2.1)+1)<9223372036854775808) (chk (0<=((s1.1+x6.2.2.1)+1)/\ ((s1.1+x6.2.2.1)+1)<=(length s:Int)/\ (length s:Int)<=(length s:Int)) (zbl (sub s ((s1.1+x6.2.2.1)+1) (length s:Int)) (fun x8=>(zaa (zkr 1100 x8) (fun x9=>(bif (x9.2.2.2 !=0) then(chk (-9223372036854775808<=((s1.1+x6.2.2.1)+1)/\ ((s1.1+x6.2.2.1)+1)<9223372036854775808) (some (inr (inr (inr (0#256,((s1.1+x6.2.2.1)+1),94)))))) else(zaa (zhj x6.1) (fun x10=>(bif (x10 !=1) then(some (inr (inr (inr (0#256,(s1.1+x6.2.2.1),94))))) else(zaa (zhj x9.1) (fun x11=>(bif (x11 !=1) then(some (inr (inr (inr (0#256,(s1.1+x6.2.2.1),94))))) else(bif (decide (x6.2.1>x9.2.1)) then(some (inr (inr (inr (0#256,(s1.1+x6.2.2.1),94))))) else(chk (-9223372036854775808<=(1+x9.2.2.1)/\ (1+x9.2.2.1)<9223372036854775808) (chk (-9223372036854775808<=((s1.1+x6.2.2.1)+(1+x9.2.2.1))/\ ((s1.1+x6.2.2.1)+(1+x9.2.2.1))<9223372036854775808) (zaa (zdc 1100 x6.2.1 x9.2.1) (fun x12=>(some (inl (((s1.1+x6.2.2.1)+(1+x9.2.2.1)),x12))))))))))))))))))))) else(some (inl ((s1.1+x6.2.2.1),x6.1))))))) else(some (inl ((s1.1+x6.2.2.1),x6.1)))) (fun j4=>(zbl (s1.2.2|||j4.2) (fun x13=>(some (inl (j4.1,false,x13)))))))))))))))))
theorem zmm {α:Type} (l:List α)(k:Nat):sub l ((k:Nat):Int) (l.length:Int)=l.drop k:=by
 unfold sub;rw[Int.toNat_natCast,Int.toNat_natCast,List.take_of_length_le (by simp)]
theorem qeh (a b:List UInt8)(c:UInt8):ix (a++c::b) (a.length:Int)=c:=by
 unfold ix;rw[Int.toNat_natCast,List.getD_eq_getElem?_getD,List.getElem?_append_right (Nat.le_refl _)];simp
def Ag (m:Nat)(x y:List UInt8):Prop:=m<=x.length/\ m<=y.length/\ ∀i,i<m->x[i]? =y[i]?
theorem Ag.mono {m n:Nat} {x y:List UInt8} (h:Ag m x y)(hn:n<=m):Ag n x y:=⟨by have:=h.1;omega,by have:=h.2.1;omega,fun i hi=>h.2.2 i (by omega)⟩
theorem Ag.drop {m n k:Nat} {x y:List UInt8} (h:Ag m x y)(hn:k+n<=m):Ag n (x.drop k) (y.drop k):=by
 refine⟨?_,?_,fun i hi=> ?_⟩
 ·have:=h.1;simp;omega
 ·have:=h.2.1;simp;omega
 ·rw[List.getElem?_drop,List.getElem?_drop];exact h.2.2 _ (by omega)
theorem Ag.ix {m:Nat} {x y:List UInt8} (h:Ag m x y) {i:Int} (hi:i.toNat<m):Ab.ix x i=Ab.ix y i:=by
 unfold Ab.ix;rw[List.getD_eq_getElem?_getD,List.getD_eq_getElem?_getD,h.2.2 _ hi]
theorem Ag.cons {m:Nat} {a:UInt8} {t y:List UInt8} (h:Ag (m+1) (a::t) y): ∃u,y=a::u/\ Ag m t u:=by
 obtain⟨h1,h2,h3⟩:=h;cases y with
 |nil=>simp at h2
 | cons b u=>
  have:=h3 0 (by omega);simp only[List.getElem?_cons_zero,Option.some.injEq] at this;subst this;exact⟨u,rfl,by simpa using h1,by simpa using h2,fun i hi=>by simpa using h3 (i+1) (by omega)⟩
theorem qhs:((List.range 256).all fun c=>decide (0<=zfq .u8 ((c:Nat):Int) 6/\ zfq .u8 ((c:Nat):Int) 6<4)&&decide (0<=zlu .u8 ((c:Nat):Int) 63))=true:=by decide+kernel
theorem z5h (m:BS)(a:UInt8): ∃b,zkb m ((a.toNat:Nat):Int)=some b:=by
 have ht:=all_eq_true.1 qhs a.toNat (mem_range.2 a.toNat_lt);simp only[Bool.and_eq_true,decide_eq_true_eq] at ht;exact⟨_,zal ht.1 (zal ht.2 rfl)⟩
theorem qfc {α:Type} {c:Bool} {A B:Option α} (ha: ∃b,A=some b)(hb: ∃b,B=some b): ∃b,(bif c then A else B)=some b:=by
 cases c
 ·exact hb
 ·exact ha
theorem zub (m:BS)(a:UInt8): ∃b,zfi m ((a.toNat:Nat):Int)=some b:=by
 obtain⟨b,hb⟩:=z5h m a;unfold zfi;simp only[hb,bindE_some];repeat' first|exact⟨_,rfl⟩|refine qfc ?_ ?_
theorem nib_tab:((List.range 256).all fun c=>(zhp ((c:Nat):Int)).isSome)=true:=by decide+kernel
theorem z8w (a:UInt8): ∃b,zhp ((a.toNat:Nat):Int)=some b:=by
 have ht:=all_eq_true.1 nib_tab a.toNat (mem_range.2 a.toNat_lt);exact Option.isSome_iff_exists.1 ht
theorem qix (m:BS):zfi m 120=some false:=by
 obtain⟨b,hb⟩:=z5h m 120;have hb:zkb m 120=some b:=hb;unfold zfi;simp only[hb,bindE_some];cases b<;>rfl
theorem len1 (a:UInt8)(t:List UInt8):(0:Int)<=(0:Int)/\ (0:Int)<(((a::t).length:Nat):Int):=by simp only[length_cons];omega
theorem rb1 (a:UInt8)(ha:a≠92)(m:BS): ∃r:Int×Int×Int,(∀t,zas (a::t) m=some r)/\ (r.2.2=0->r.2.1=1)/\ 0<=r.1/\ r.1<256:=by
 obtain⟨b,hb⟩:=zub m a;have h92:(((a.toNat:Nat):Int) !=92)=true:=by
  simp only[bne_iff_ne,ne_eq];intro e;exact ha (UInt8.toNat_inj.1 (by simp;omega))
 have hne: ∀t:List UInt8,(a::t==[])=false:=fun _=>rfl;have i0: ∀t:List UInt8,ix (a::t) (0:Int)=a:=fun _=>rfl;have hl:=a.toNat_lt;by_cases hg:(32<=((a.toNat:Nat):Int)/\ ((a.toNat:Nat):Int)<=126)/\ b=false
 ·obtain⟨⟨g1,g2⟩,rfl⟩:=hg;refine⟨(((a.toNat:Nat):Int),1,0),fun t=> ?_,fun _=>rfl,by simp only;omega,by simp only;omega⟩;unfold zas;simp only[hne,cond_false,zbs (len1 a t),i0,zbl,h92,cond_true,hb,bindE_some,Bool.not_false,decide_eq_true (show((a.toNat:Nat):Int)>=32 from g1),decide_eq_true g2,cutE_inl,cond_true]
 ·refine⟨(0,0,20),fun t=> ?_,fun h=>by simp at h,by simp,by simp⟩;unfold zas;simp only[hne,cond_false,zbs (len1 a t),i0,zbl,h92,cond_true,hb,bindE_some];by_cases g1:((a.toNat:Nat):Int)>=32
  ·by_cases g2:((a.toNat:Nat):Int)<=126
   ·have:b=true:=by cases b;exact absurd ⟨⟨g1,g2⟩,rfl⟩ hg;rfl
    simp only[decide_eq_true g1,decide_eq_true g2,this,cond_true,Bool.not_true,cond_false,cutE_inl]
   ·simp only[decide_eq_true g1,decide_eq_false g2,cond_true,cond_false,cutE_inl]
  ·simp only[decide_eq_false g1,cond_false,cutE_inl,cond_true]
theorem rb_nil (m:BS):zas [] m=some (0,0,20):=rfl
theorem rb_92 (m:BS):zas [92] m=some (0,0,20):=rfl
theorem nrt (b:UInt8):Lib.indexByte ([110,114,116]:List UInt8) b>=0->Lib.indexByte ([110,114,116]:List UInt8) b<3:=by
 unfold Lib.indexByte Lib.indexByte Lib.indexByte Lib.indexByte;intro _;repeat' split
 all_goals omega
theorem rb2 (b:UInt8)(hb:b≠120)(m:BS): ∃r:Int×Int×Int,(∀t,zas (92::b::t) m=some r)/\ (r.2.2=0->r.2.1=2)/\ 0<=r.1/\ r.1<256:=by
 obtain⟨k,hk⟩:=zub m b;have hne: ∀t:List UInt8,(92::b::t==[])=false:=fun _=>rfl;have i0: ∀t:List UInt8,ix (92::b::t) (0:Int)=92:=fun _=>rfl;have i1: ∀t:List UInt8,ix (92::b::t) (1:Int)=b:=fun _=>rfl;have l2: ∀t:List UInt8,(0:Int)<=(1:Int)/\ (1:Int)<(((92::b::t).length:Nat):Int):=fun t=>by simp only[length_cons];omega
 have g2: ∀t:List UInt8,decide ((((92::b::t).length:Nat):Int)<2)=false:=fun t=>decide_eq_false (by simp only[length_cons];omega);have h120:(((b.toNat:Nat):Int)==120)=false:=by
  rw[beq_eq_false_iff_ne];intro e;exact hb (UInt8.toNat_inj.1 (by simp;omega))
 have hl:=b.toNat_lt;have q:((((92:UInt8).toNat:Nat):Int) !=92)=false:=rfl;suffices h: ∃r:Int×Int×Int,(∀t,zas (92::b::t) m=some r)/\ ((r=(((b.toNat:Nat):Int),2,0)) \/r=(0,0,20) \/ ∃c:UInt8,r=(((c.toNat:Nat):Int),2,0)) by
  obtain⟨r,h1,h2⟩:=h;refine⟨r,h1,?_⟩;rcases h2 with rfl|rfl|⟨c,rfl⟩
  ·exact⟨fun _=>rfl,by simp only;omega,by simp only;omega⟩
  ·exact⟨fun h=>by simp at h,by simp,by simp⟩
  ·have:=c.toNat_lt;exact⟨fun _=>rfl,by simp only;omega,by simp only;omega⟩
 have e: ∀t,zas (92::b::t) m=zdg (τ:=Bool) (bif ((((b).toNat:Nat):Int)==92) then(some (inl true)) else(some (inl k))) (fun j4=>(bif j4 then(some ((((b).toNat:Nat):Int),2,0)) else(bif (decide (Lib.indexByte ([110,114,116]:List UInt8) b>=0)) then(chk (0<=Lib.indexByte ([110,114,116]:List UInt8) b/\ Lib.indexByte ([110,114,116]:List UInt8) b<(length ([10,13,9]:List UInt8):Int)) (some ((((ix ([10,13,9]:List UInt8) (Lib.indexByte ([110,114,116]:List UInt8) b)).toNat:Nat):Int),2,0))) else(some (0,0,20))))):=by
  intro t;unfold zas;simp only[hne,cond_false,zbs (len1 92 (b::t)),i0,zbl,q,g2,cutE_inl,i1,zbs (l2 t),h120,hk,bindE_some]
 cases h1:(((b.toNat:Nat):Int)==92) with
 |true=>exact⟨_,fun t=>by rw[e,h1];rfl,.inl rfl⟩
 | false=>
  cases k with
  |true=>exact⟨_,fun t=>by rw[e,h1];rfl,.inl rfl⟩
  | false=>
   by_cases h2:Lib.indexByte ([110,114,116]:List UInt8) b>=0
   ·refine⟨_,fun t=> ?_,.inr (.inr ⟨ix ([10,13,9]:List UInt8) (Lib.indexByte ([110,114,116]:List UInt8) b),rfl⟩)⟩;rw[e,h1,cond_false,cutE_inl,cond_false,decide_eq_true h2,cond_true,zbs ⟨h2,by simpa using nrt b h2⟩]
   ·exact⟨_,fun t=>by rw[e,h1,cond_false,cutE_inl,cond_false,decide_eq_false h2];rfl,.inr (.inl rfl)⟩
theorem wrap8 (v:Int):0<=IntKind.u8.wrap v/\ IntKind.u8.wrap v<256:=by
 unfold IntKind.wrap;simp only[IntKind.bits,IntKind.signed];simp;omega
theorem rb3 (c d:UInt8)(m:BS): ∃r:Int×Int×Int,(∀t,zas (92::120::c::d::t) m=some r)/\ (r.2.2=0->r.2.1=4)/\ 0<=r.1/\ r.1<256:=by
 obtain⟨p,hp⟩:=z8w c;obtain⟨q,hq⟩:=z8w d;have hne: ∀t:List UInt8,(92::120::c::d::t==[])=false:=fun _=>rfl;have i0: ∀t:List UInt8,ix (92::120::c::d::t) (0:Int)=92:=fun _=>rfl;have i1: ∀t:List UInt8,ix (92::120::c::d::t) (1:Int)=120:=fun _=>rfl;have i2: ∀t:List UInt8,ix (92::120::c::d::t) (2:Int)=c:=fun _=>rfl;have i3: ∀t:List UInt8,ix (92::120::c::d::t) (3:Int)=d:=fun _=>rfl;have l1: ∀t:List UInt8,(0:Int)<=(1:Int)/\ (1:Int)<(((92::120::c::d::t).length:Nat):Int):=fun t=>by simp only[length_cons];omega
 have l2: ∀t:List UInt8,(0:Int)<=(2:Int)/\ (2:Int)<(((92::120::c::d::t).length:Nat):Int):=fun t=>by simp only[length_cons];omega
 have l3: ∀t:List UInt8,(0:Int)<=(3:Int)/\ (3:Int)<(((92::120::c::d::t).length:Nat):Int):=fun t=>by simp only[length_cons];omega
 have g2: ∀t:List UInt8,decide ((((92::120::c::d::t).length:Nat):Int)<2)=false:=fun t=>decide_eq_false (by simp only[length_cons];omega);have g3: ∀t:List UInt8,decide ((((92::120::c::d::t).length:Nat):Int)>3)=true:=fun t=>decide_eq_true (by simp only[length_cons];omega);have q92:((((92:UInt8).toNat:Nat):Int) !=92)=false:=rfl;have q120:((((120:UInt8).toNat:Nat):Int)==120)=true:=rfl;have q1292:((((120:UInt8).toNat:Nat):Int)==92)=false:=rfl;have qx:decide (Lib.indexByte ([110,114,116]:List UInt8) 120>=0)=false:=rfl;have hm:zfi m (((120:UInt8).toNat:Nat):Int)=some false:=qix m;by_cases h:p<16/\ q<16
 ·refine⟨(IntKind.u8.wrap (orI .i64 (zor .i64 p 4) q),4,0),fun t=> ?_,fun _=>rfl,(wrap8 _).1,(wrap8 _).2⟩;unfold zas;simp only[hne,cond_false,zbs (len1 92 (120::c::d::t)),i0,zbl,q92,g2,cutE_inl,i1,zbs (l1 t),q120,cond_true,g3,zbs (l2 t),i2,hp,bindE_some,decide_eq_true h.1,zbs (l3 t),i3,hq,decide_eq_true h.2,cutE_inr]
 ·refine⟨(0,0,20),fun t=> ?_,fun h=>by simp at h,by simp,by simp⟩;unfold zas;simp only[hne,cond_false,zbs (len1 92 (120::c::d::t)),i0,zbl,q92,g2,cutE_inl,i1,zbs (l1 t),q120,cond_true,g3,zbs (l2 t),i2,hp,bindE_some,zbs (l3 t),i3,hq,q1292,hm,qx];by_cases h1:p<16
  ·have h2: ¬q<16:=fun h2=>h ⟨h1,h2⟩;simp only[decide_eq_true h1,cond_true,decide_eq_false h2,cond_false,cutE_inl]
  ·simp only[decide_eq_false h1,cond_false,cutE_inl]
theorem rb_x0 (m:BS)(t:List UInt8)(ht:t.length<2):zas (92::120::t) m=some (0,0,20):=by
 have hne:(92::120::t==([]:List UInt8))=false:=rfl;have i0:ix (92::120::t:List UInt8) (0:Int)=92:=rfl;have i1:ix (92::120::t:List UInt8) (1:Int)=120:=rfl;have l1:(0:Int)<=(1:Int)/\ (1:Int)<(((92::120::t:List UInt8).length:Nat):Int):=by simp only[length_cons];omega
 have g2:decide ((((92::120::t:List UInt8).length:Nat):Int)<2)=false:=decide_eq_false (by simp only[length_cons];omega);have g3:decide ((((92::120::t:List UInt8).length:Nat):Int)>3)=false:=decide_eq_false (by simp only[length_cons];omega);have q92:((((92:UInt8).toNat:Nat):Int) !=92)=false:=rfl;have q120:((((120:UInt8).toNat:Nat):Int)==120)=true:=rfl;have q1292:((((120:UInt8).toNat:Nat):Int)==92)=false:=rfl;have qx:decide (Lib.indexByte ([110,114,116]:List UInt8) 120>=0)=false:=rfl;have hm:zfi m (((120:UInt8).toNat:Nat):Int)=some false:=qix m;unfold zas;simp only[hne,cond_false,zbs (len1 92 (120::t)),i0,zbl,q92,g2,cutE_inl,i1,zbs l1,q120,cond_true,g3,q1292,hm,bindE_some,qx]
structure RB (m:BS)(x:List UInt8)(r:Int×Int×Int):Prop where
 run:zas x m=some r
 lo:0<=r.1
 hi:r.1<256
 len:r.2.2=0->1<=r.2.1/\ r.2.1<=x.length
 one:r.2.2=0->r.2.1<2-> ∃a t,x=a::t/\ a≠92
 same:r.2.2=0-> ∀y,Ag r.2.1.toNat x y->zas y m=some r
 bad:r.2.2≠0-> ∀a t,x=a::t->a≠92-> ∀u,zas (a::u) m=some r
theorem rb_all (m:BS)(x:List UInt8): ∃r,RB m x r:=by
 match x with
 |[]=>exact⟨_,rb_nil m,by simp,by simp,fun h=>by simp at h,fun h=>by simp at h,fun h=>by simp at h,fun _ a t h=>by cases h⟩
 | a :: t=>
  by_cases ha:a=92
  ·subst ha;have nb: ∀r:Int×Int×Int,r.2.2≠0-> ∀a s,(92:UInt8)::t=a::s->a≠92-> ∀u,zas (a::u) m=some r:=fun r _ a s h hn=>absurd (List.cons.inj h).1.symm hn
   match t with
   |[]=>exact⟨_,rb_92 m,by simp,by simp,fun h=>by simp at h,fun h=>by simp at h,fun h=>by simp at h,nb _⟩
   | b ::t=>
    by_cases hb:b=120
    ·subst hb
     match t with
     |[]=>exact⟨_,rb_x0 m [] (by simp),by simp,by simp,fun h=>by simp at h,fun h=>by simp at h,fun h=>by simp at h,nb _⟩
     |[c]=>exact⟨_,rb_x0 m [c] (by simp),by simp,by simp,fun h=>by simp at h,fun h=>by simp at h,fun h=>by simp at h,nb _⟩
     | c::d::t=>
      obtain⟨r,h1,h2,h3,h4⟩:=rb3 c d m;refine⟨r,h1 t,h3,h4,fun h=> ?_,fun h=> ?_,fun h y hy=> ?_,nb _⟩
      ·rw[h2 h];simp only[length_cons];omega
      ·rw[h2 h];intro h;omega
      ·rw[h2 h] at hy;obtain⟨y1,rfl,hy1⟩:=Ag.cons (m:=3) hy;obtain⟨y2,rfl,hy2⟩:=Ag.cons (m:=2) hy1;obtain⟨y3,rfl,hy3⟩:=Ag.cons (m:=1) hy2;obtain⟨y4,rfl,hy4⟩:=Ag.cons (m:=0) hy3;exact h1 y4
    ·obtain⟨r,h1,h2,h3,h4⟩:=rb2 b hb m;refine⟨r,h1 t,h3,h4,fun h=> ?_,fun h=> ?_,fun h y hy=> ?_,nb _⟩
     ·rw[h2 h];simp only[length_cons];omega
     ·rw[h2 h];intro h;omega
     ·rw[h2 h] at hy;obtain⟨y1,rfl,hy1⟩:=Ag.cons (m:=1) hy;obtain⟨y2,rfl,hy2⟩:=Ag.cons (m:=0) hy1;exact h1 y2
  ·obtain⟨r,h1,h2,h3,h4⟩:=rb1 a ha m;refine⟨r,h1 t,h3,h4,fun h=> ?_,fun h _=>⟨a,t,rfl,ha⟩,fun h y hy=> ?_,fun h b s e hn u=> ?_⟩
   ·rw[h2 h];simp only[length_cons];omega
   ·rw[h2 h] at hy;obtain⟨y1,rfl,hy1⟩:=Ag.cons (m:=0) hy;exact h1 y1
   ·cases e;exact h1 u
theorem qdl {x y:List UInt8} (h:Ag 2 x y):zgo y=zgo x:=by
 match x,h with
 |[],h=>exact absurd h.1 (by simp)
 |[a],h=>exact absurd h.1 (by simp)
 | a::b::t,h=>
  obtain⟨y1,rfl,h1⟩:=Ag.cons (m:=1) h;obtain⟨y2,rfl,h2⟩:=Ag.cons (m:=0) h1;rfl
theorem qcy {a:UInt8} {t:List UInt8} (h:a≠92):zgo (a::t)=(0#256,false):=by
 cases t with
 |nil=>rfl
 |cons b t=>unfold zgo;simp only;rw[if_neg h]
structure IT1 (x:List UInt8)(r:BS×Int×Int×Int):Prop where
 run:zkr 1100 x=some r
 lo:0<=r.2.1
 hi:r.2.1<256
 len:r.2.2.2=0->1<=r.2.2.1/\ r.2.2.1<=x.length
 same:r.2.2.2=0-> ∀y,Ag r.2.2.1.toNat x y->zkr 1100 y=some r
theorem qez {x:List UInt8} {r:Int×Int×Int} (hs:(zgo x).2=false)(h:zas x zat=some r)(lo:0<=r.1)(hi:r.1<256):zkr 1100 x=some (bit r.1.toNat,r.1,r.2.1,r.2.2):=by
 unfold zkr;refine zaj fun x1 hx1=> ?_;have h2:x1.2=false:=by rw[<-hx1];exact hs
 rw[h2,cond_false];refine zai _ h (zal ⟨lo,hi⟩ ?_);have hq:=(z2l r.1.toNat (by omega)).2.2.2.2.1;refine zai (bit r.1.toNat) hq rfl
end Go.Ab
