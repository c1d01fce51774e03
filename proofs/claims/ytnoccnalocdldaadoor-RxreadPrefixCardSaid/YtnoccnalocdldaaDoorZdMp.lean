import Derived.Test.YtnoccnalocdldaaDoorZgW1
import Derived.Shelf.Spec.SlicesInsert
import Derived.Lib.AppendZerosOnto
import Derived.Laws.CopyRow
import Derived.Laws.IdiomRangeMap
import Derived.Maps.RangeRun
set_option linter.all false
set_option maxRecDepth 100000
set_option maxHeartbeats 4000000
open Sum (inl inr)
open Int (toNat tmod)
open Nat (le_refl le_trans zero_add lt_or_ge)
open List (length mem_append all_eq_true mem_cons)
open Go.Proofs.Tryd (prog)
namespace Go.Ab
open Go Go.RowKit Go.Fwd Go.Proofs
def zfu (fuel:Nat)(s:(List UInt8)):Option (Int×Int):=
 (zdl (τ:=Int×Int) (zbg (β:=Int×Int) (fun s1=>(bif (decide (s1.2<(length s:Int))) then(bif (decide (s1.2<2)) then(chk (0<=s1.2/\ s1.2<(length s:Int)) (zbe (ix s s1.2) (fun x1=>(bif (decide ((((x1).toNat:Nat):Int)>=48)) then(chk (0<=s1.2/\ s1.2<(length s:Int)) (zbe (ix s s1.2) (fun x2=>(bif (decide ((((x2).toNat:Nat):Int)<=57)) then(chk (-9223372036854775808<=(10*s1.1)/\ (10*s1.1)<9223372036854775808) (chk (0<=s1.2/\ s1.2<(length s:Int)) (zbe (ix s s1.2) (fun x3=>(chk (-9223372036854775808<=(IntKind.u8.wrap ((((x3).toNat:Nat):Int)-48))/\ (IntKind.u8.wrap ((((x3).toNat:Nat):Int)-48))<9223372036854775808) (chk (-9223372036854775808<=((10*s1.1)+(IntKind.u8.wrap ((((x3).toNat:Nat):Int)-48)))/\ ((10*s1.1)+(IntKind.u8.wrap ((((x3).toNat:Nat):Int)-48)))<9223372036854775808) (chk (-9223372036854775808<=(s1.2+1)/\ (s1.2+1)<9223372036854775808) (some (inl (((10*s1.1)+(IntKind.u8.wrap ((((x3).toNat:Nat):Int)-48))),(s1.2+1))))))))))) else(some (inr (inl (s1.1,s1.2)))))))) else(some (inr (inl (s1.1,s1.2)))))))) else(some (inr (inl (s1.1,s1.2))))) else(some (inr (inl (s1.1,s1.2)))))) fuel (0,0)) (fun j1=>(some (j1.1,j1.2))))
theorem ent97:Ent prog 97:=enters_of Tryd.func97 (by kernel_rfl) rfl
theorem zyv (fuel:Nat)(s:(List UInt8))(r:(Int×Int))(h:zfu fuel s=some r):Pure (ITP prog) prog 97 [.raw (.string (bs s))] (.tup [.raw (.int .i64 r.1),.raw (.int .i64 r.2)]):=by
 unfold zfu at h;refine zbx 37 mix Tryd.func97 ent97 ?_;iterate 2 refine zaa [.v (.i 0),.v (.i 0)] ?_
 refine zbk h (bz 0 38 274877906943) (fun j1=>[(4,.i j1.1),(5,.i j1.2)]) (fun j1=>(.B [])) ?_ ?_;intro or1 h hr1;refine zaj ?_;refine zds h (bz 0 38 274877906942) (fun s1=>[(4,.i s1.1),(5,.i s1.2)]) (fun s1=>(.B [])) ?_ ?_;exact zbt (bl 38 49);intro s1 p1 h;refine zfa ?_;refine zm ?_;refine zaa [.m _,.m _] ?_;refine w_o (a:= .i (length s:Int)) (h:=zbf (zdk rfl rfl rfl)) ?_;refine w_o (a:= .b (decide (s1.2<(length s:Int)))) ?_;refine zt h (fun hc1 h=> ?_) (fun hc1 h=> ?_);refine zae hc1 ?_;refine w_r [.m _,.v (.b (decide (s1.2<2))),.v (.b (decide (s1.2<2)))] ?_;refine zt h (fun hc2 h=> ?_) (fun hc2 h=> ?_);refine zae hc2 ?_;refine w_r [.m _,.m _] ?_;refine zal rfl rfl ?_;obtain⟨g1,h⟩:=zr h;obtain⟨x1,hx1,h⟩:=zx h;refine w_o (a:= .u (((x1).toNat:Nat):Int)) (h:=zbf (by rw[<-hx1];exact(zdd (l:=s) (n:=s1.2) g1 rfl rfl rfl rfl))) ?_;refine w_r [.v (.b (decide ((((x1).toNat:Nat):Int)>=48))),.v (.b (decide ((((x1).toNat:Nat):Int)>=48)))] ?_;refine zt h (fun hc3 h=> ?_) (fun hc3 h=> ?_);refine zae hc3 ?_;refine w_r [.m _,.m _] ?_;refine zal rfl rfl ?_;obtain⟨g2,h⟩:=zr h;obtain⟨x2,hx2,h⟩:=zx h;refine w_o (a:= .u (((x2).toNat:Nat):Int)) (h:=zbf (by rw[<-hx2];exact(zdd (l:=s) (n:=s1.2) g2 rfl rfl rfl rfl))) ?_;refine w_r [.v (.b (decide ((((x2).toNat:Nat):Int)<=57))),.v (.b (decide ((((x2).toNat:Nat):Int)<=57)))] ?_;refine zcj h (fun hc4 h=> ?_) (fun hc4 h=> ?_);refine zaj ?_;refine zaa [.m _] ?_;obtain⟨g3,h⟩:=zr h;refine w_o (a:= .i (10*s1.1)) (h:=zbf (q_mul rfl rfl rfl rfl g3.1 g3.2)) ?_;refine w_r [.m _,.m _] ?_;obtain⟨g4,h⟩:=zr h;obtain⟨x3,hx3,h⟩:=zx h;refine w_o (a:= .u (((x3).toNat:Nat):Int)) (h:=zbf (by rw[<-hx3];exact(zdd (l:=s) (n:=s1.2) g4 rfl rfl rfl rfl))) ?_;refine w_o (a:= .u (IntKind.u8.wrap ((((x3).toNat:Nat):Int)-48))) ?_;obtain⟨g5,h⟩:=zr h;refine w_o (a:= .i (IntKind.u8.wrap ((((x3).toNat:Nat):Int)-48))) (h:=zbf (zmf g5 rfl rfl rfl)) ?_;obtain⟨g6,h⟩:=zr h;refine zlt g6 ?_;refine zac ?_;refine zc (k0:=0) (id:=4) ?_;refine zac ?_;obtain⟨g7,h⟩:=zr h;refine zlt g7 ?_;refine zac ?_;refine zbz (p:=p1) (((10*s1.1)+(IntKind.u8.wrap ((((x3).toNat:Nat):Int)-48))),(s1.2+1)) h ?_;exact zbt (bl 38 49);refine zap h (fun h=> ?_);refine ze (o:=or1) (s1.1,s1.2) h ?_;exact zbt (bl 38 48);refine zae hc3 ?_;refine w_r [.p,.p,.p,.p,.v (.b false)] ?_;refine zba rfl ?_;refine zap h (fun h=> ?_);refine ze (o:=or1) (s1.1,s1.2) h ?_;exact zbt (bl 38 48);refine zae hc2 ?_;refine w_r [.p,.p,.p,.p,.v (.b false)] ?_;refine w_r [.m _,.p,.p,.p,.p] ?_;refine w_r [.v (.b false)] ?_;refine zba rfl ?_;refine zap h (fun h=> ?_);refine ze (o:=or1) (s1.1,s1.2) h ?_;exact zbt (bl 38 48);refine zae hc1 ?_;refine w_r [.p,.p,.v (.b false),.m _,.p] ?_;refine w_r [.p,.p,.p,.v (.b false),.m _] ?_;refine w_r [.p,.p,.p,.p,.v (.b false)] ?_;refine zba rfl ?_;refine zap h (fun h=> ?_);refine ze (o:=or1) (s1.1,s1.2) h ?_;exact zbt (bl 38 48);intro j1 h;refine zfa ?_;refine zaa [.m _,.m _,.m _,.m _] ?_;exact zar (fun(r:(Int×Int))=> .tup [.i r.1,.i r.2]) h (.tup [.i j1.1,.i j1.2])
def zhj (fuel:Nat)(s:(List UInt8)):Option (Int×Int×Int×Int):=
 (chk (0<=(1:Int)/\ (1:Int)<=(length s:Int)/\ (length s:Int)<=(length s:Int)) (zbe (sub s (1:Int) (length s:Int)) (fun x1=>(zai (zfu fuel x1) (fun x2=>(chk (-9223372036854775808<=(1+x2.2)/\ (1+x2.2)<9223372036854775808) (zdl (τ:=Int×Int) (bif (decide (x2.2>0)) then(bif (decide ((1+x2.2)<(length s:Int))) then(chk (0<=(1+x2.2)/\ (1+x2.2)<(length s:Int)) (zbe (ix s (1+x2.2)) (fun x3=>(bif ((((x3).toNat:Nat):Int)==44) then(chk (-9223372036854775808<=((1+x2.2)+1)/\ ((1+x2.2)+1)<9223372036854775808) (chk (0<=((1+x2.2)+1)/\ ((1+x2.2)+1)<=(length s:Int)/\ (length s:Int)<=(length s:Int)) (zbe (sub s ((1+x2.2)+1) (length s:Int)) (fun x4=>(zai (zfu fuel x4) (fun x5=>(zdl (τ:=Int) (bif (x5.2==0) then(some (inl ((-1)))) else(some (inl (x5.1)))) (fun j2=>(chk (-9223372036854775808<=(((1+x2.2)+1)+x5.2)/\ (((1+x2.2)+1)+x5.2)<9223372036854775808) (some (inl (j2,(((1+x2.2)+1)+x5.2))))))))))))) else(some (inl (x2.1,(1+x2.2)))))))) else(some (inl (x2.1,(1+x2.2))))) else(some (inl (x2.1,(1+x2.2))))) (fun j1=>(bif (x2.2==0) then(some (0,0,j1.2,93)) else(bif (j1.2==(length s:Int)) then(some (0,0,j1.2,93)) else(chk (0<=j1.2/\ j1.2<(length s:Int)) (zbe (ix s j1.2) (fun x6=>(bif ((((x6).toNat:Nat):Int) !=125) then(some (0,0,j1.2,93)) else(zdl (τ:=Unit) (bif (j1.1==0) then(some (inr (0,0,0,93))) else(bif (decide (x2.1>16)) then(some (inr (0,0,0,93))) else(bif (decide (j1.1>16)) then(some (inr (0,0,0,93))) else(bif (j1.1 !=(-1)) then(bif (decide (j1.1<x2.1)) then(some (inr (0,0,0,93))) else(some (inl ()))) else(some (inl ())))))) (fun j3=>(chk (-9223372036854775808<=(j1.2+1)/\ (j1.2+1)<9223372036854775808) (some (x2.1,j1.1,(j1.2+1),0)))))))))))))))))))
theorem ent88:Ent prog 88:=enters_of Tryd.func88 (by kernel_rfl) rfl
theorem qcy (fuel:Nat)(s:(List UInt8))(r:(Int×Int×Int×Int))(h:zhj fuel s=some r):Pure (ITP prog) prog 88 [.raw (.string (bs s))] (.tup [.raw (.int .i64 r.1),.raw (.int .i64 r.2.1),.raw (.int .i64 r.2.2.1),.raw (.int .i64 r.2.2.2)]):=by
 unfold zhj at h;refine zbx 85 mix Tryd.func88 ent88 ?_;refine zaa [.v (.i 0),.v (.i 0),.v (.i 0),.v (.i 0)] ?_;refine zaa [.m _] ?_;obtain⟨g1,h⟩:=zr h;obtain⟨x1,hx1,h⟩:=zx h;refine w_o (a:= .s x1) (h:=zbf (by rw[<-hx1];exact(zmu (l:=s) g1 rfl rfl rfl rfl))) ?_;obtain⟨x2,hx2,h⟩:=zv h;refine zdh (zyv fuel x1 x2 hx2) ?_;refine w_r [.m _,.x _,.x _,.m _,.m _] ?_;refine zaa [.m _] ?_;obtain⟨g2,h⟩:=zr h;refine zlt g2 ?_;refine zac ?_;refine zaa [.m _,.m _] ?_;refine zbk h (bz 0 86 77371252455336267181195194) (fun j1=>[(3,.i j1.1),(7,.i j1.2)]) (fun j1=>(.B [])) ?_ ?_;intro or1 h hr1;refine zaa [.m _,.v (.b (decide (x2.2>0)))] ?_;refine zt h (fun hc1 h=> ?_) (fun hc1 h=> ?_);refine zae hc1 ?_;refine w_r [.m _,.m _] ?_;refine zal rfl rfl ?_;refine w_o (a:= .i (length s:Int)) (h:=zbf (zdk rfl rfl rfl)) ?_;refine w_r [.v (.b (decide ((1+x2.2)<(length s:Int)))),.v (.b (decide ((1+x2.2)<(length s:Int))))] ?_;refine zt h (fun hc2 h=> ?_) (fun hc2 h=> ?_);refine zae hc2 ?_;refine w_r [.m _,.m _] ?_;refine zal rfl rfl ?_;obtain⟨g3,h⟩:=zr h;obtain⟨x3,hx3,h⟩:=zx h;refine w_o (a:= .u (((x3).toNat:Nat):Int)) (h:=zbf (by rw[<-hx3];exact(zdd (l:=s) (n:=(1+x2.2)) g3 rfl rfl rfl rfl))) ?_;refine w_r [.v (.b ((((x3).toNat:Nat):Int)==44)),.v (.b ((((x3).toNat:Nat):Int)==44))] ?_;refine zcj h (fun hc3 h=> ?_) (fun hc3 h=> ?_);refine zaa [.m _] ?_;obtain⟨g4,h⟩:=zr h;refine zlt g4 ?_;refine zac ?_;refine zaa [.m _,.m _] ?_;obtain⟨g5,h⟩:=zr h;obtain⟨x4,hx4,h⟩:=zx h;refine w_o (a:= .s x4) (h:=zbf (by rw[<-hx4];exact(zmu (l:=s) g5 rfl rfl rfl rfl))) ?_;obtain⟨x5,hx5,h⟩:=zv h;refine zdh (zyv fuel x4 x5 hx5) ?_;refine w_r [.m _,.x _,.x _,.m _,.m _] ?_;refine zaa [.m _,.m _] ?_;refine zbk h (bz 0 86 77371252455336267181194554) (fun j2=>[(3,.i j2)]) (fun j2=>(.B [])) ?_ ?_;intro or2 h hr2;refine zaa [.m _,.v (.b (x5.2==0))] ?_;refine zcj h (fun hc4 h=> ?_) (fun hc4 h=> ?_);refine zc (k0:=0) (id:=9) ?_;refine w_o (a:= .i (-1)) ?_;refine ze (o:=or2) ((-1)) h ?_;exact zbt (bl 86 717);refine ze (o:=or2) (x5.1) h ?_;exact zbt (bl 86 717);intro j2 h;refine zfa ?_;refine zc (k0:=0) (id:=10) ?_;refine w_r [.m _,.m _] ?_;obtain⟨g6,h⟩:=zr h;refine zlt g6 ?_;refine zac ?_;refine ze (o:=or1) (j2,(((1+x2.2)+1)+x5.2)) h ?_;exact zbt (bl 86 205);refine ze (o:=or1) (x2.1,(1+x2.2)) h ?_;exact zbt (bl 86 205);refine zae hc2 ?_;refine w_r [.p,.p,.p,.p,.v (.b false)] ?_;refine zba rfl ?_;refine ze (o:=or1) (x2.1,(1+x2.2)) h ?_;exact zbt (bl 86 205);refine zae hc1 ?_;refine w_r [.p,.p,.p,.p,.v (.b false)] ?_;refine w_r [.m _,.p,.p,.p,.p] ?_;refine w_r [.v (.b false)] ?_;refine zba rfl ?_;refine ze (o:=or1) (x2.1,(1+x2.2)) h ?_;exact zbt (bl 86 205);intro j1 h;refine zfa ?_;refine zm ?_;refine zaa [.m _,.v (.b (x2.2==0))] ?_;refine zt h (fun hc5 h=> ?_) (fun hc5 h=> ?_);refine zae hc5 ?_;refine w_r [.p,.p,.p,.p,.v (.b true)] ?_;refine w_r [.m _,.p,.p,.p,.p] ?_;refine w_r [.v (.b true)] ?_;refine zbi rfl ?_;refine zaa [.m _,.v (.i 0),.v (.i 0),.m _,.v (.i 93)] ?_;exact zar (fun(r:(Int×Int×Int×Int))=> .tup [.i r.1,.i r.2.1,.i r.2.2.1,.i r.2.2.2]) h (.tup [.i 0,.i 0,.i j1.2,.i 93]);refine zae hc5 ?_;refine w_r [.m _,.m _] ?_;refine zal rfl rfl ?_;refine w_o (a:= .i (length s:Int)) (h:=zbf (zdk rfl rfl rfl)) ?_;refine w_r [.v (.b (j1.2==(length s:Int))),.v (.b (j1.2==(length s:Int)))] ?_;refine zt h (fun hc6 h=> ?_) (fun hc6 h=> ?_);refine zae hc6 ?_;refine w_r [.p,.p,.p,.p,.v (.b true)] ?_;refine zbi rfl ?_;refine zaa [.m _,.v (.i 0),.v (.i 0),.m _,.v (.i 93)] ?_;exact zar (fun(r:(Int×Int×Int×Int))=> .tup [.i r.1,.i r.2.1,.i r.2.2.1,.i r.2.2.2]) h (.tup [.i 0,.i 0,.i j1.2,.i 93]);refine zae hc6 ?_;refine w_r [.m _,.m _] ?_;refine zal rfl rfl ?_;obtain⟨g7,h⟩:=zr h;obtain⟨x6,hx6,h⟩:=zx h;refine w_o (a:= .u (((x6).toNat:Nat):Int)) (h:=zbf (by rw[<-hx6];exact(zdd (l:=s) (n:=j1.2) g7 rfl rfl rfl rfl))) ?_;refine w_r [.v (.b ((((x6).toNat:Nat):Int) !=125)),.v (.b ((((x6).toNat:Nat):Int) !=125))] ?_;refine zcj h (fun hc7 h=> ?_) (fun hc7 h=> ?_);refine zaa [.m _,.v (.i 0),.v (.i 0),.m _,.v (.i 93)] ?_;exact zar (fun(r:(Int×Int×Int×Int))=> .tup [.i r.1,.i r.2.1,.i r.2.2.1,.i r.2.2.2]) h (.tup [.i 0,.i 0,.i j1.2,.i 93]);refine zbk h (bz 0 82 4835698666491023294726269) (fun j3=>[(2,.i x2.1),(3,.i j1.1)]) (fun j3=>(.B [])) ?_ ?_;intro or3 h hr3;refine zaa [.m _,.v (.b (j1.1==0))] ?_;refine zt h (fun hc8 h=> ?_) (fun hc8 h=> ?_);refine zae hc8 ?_;refine w_r [.p,.p,.v (.b true),.m _,.p] ?_;refine w_r [.p,.v (.b true),.m _,.p,.p] ?_;refine w_r [.p,.p,.p,.p,.p] ?_;refine w_r [.v (.b true)] ?_;refine zbi rfl ?_;refine zaa [.v (.i 0),.v (.i 0),.v (.i 0),.v (.i 93)] ?_;replace h:=zp h hr3;exact zar (fun(r:(Int×Int×Int×Int))=> .tup [.i r.1,.i r.2.1,.i r.2.2.1,.i r.2.2.2]) h (.tup [.i 0,.i 0,.i 0,.i 93]);refine zae hc8 ?_;refine w_r [.m _,.v (.b (decide (x2.1>16))),.v (.b (decide (x2.1>16)))] ?_;refine zt h (fun hc9 h=> ?_) (fun hc9 h=> ?_);refine zae hc9 ?_;refine w_r [.p,.p,.v (.b true),.m _,.p] ?_;refine w_r [.p,.p,.p,.p,.p] ?_;refine w_r [.p,.v (.b true)] ?_;refine zbi rfl ?_;refine zaa [.v (.i 0),.v (.i 0),.v (.i 0),.v (.i 93)] ?_;replace h:=zp h hr3;exact zar (fun(r:(Int×Int×Int×Int))=> .tup [.i r.1,.i r.2.1,.i r.2.2.1,.i r.2.2.2]) h (.tup [.i 0,.i 0,.i 0,.i 93]);refine zae hc9 ?_;refine w_r [.m _,.v (.b (decide (j1.1>16))),.v (.b (decide (j1.1>16)))] ?_;refine zt h (fun hc10 h=> ?_) (fun hc10 h=> ?_);refine zae hc10 ?_;refine w_r [.p,.p,.p,.p,.p] ?_;refine w_r [.p,.p,.v (.b true)] ?_;refine zbi rfl ?_;refine zaa [.v (.i 0),.v (.i 0),.v (.i 0),.v (.i 93)] ?_;replace h:=zp h hr3;exact zar (fun(r:(Int×Int×Int×Int))=> .tup [.i r.1,.i r.2.1,.i r.2.2.1,.i r.2.2.2]) h (.tup [.i 0,.i 0,.i 0,.i 93]);refine zae hc10 ?_;refine w_r [.m _,.v (.b (j1.1 !=(-1)))] ?_;refine zal rfl rfl ?_;refine zt h (fun hc11 h=> ?_) (fun hc11 h=> ?_);refine zae hc11 ?_;refine w_r [.m _,.m _,.v (.b (decide (j1.1<x2.1))),.v (.b (decide (j1.1<x2.1))),.v (.b (decide (j1.1<x2.1)))] ?_;refine zcj h (fun hc12 h=> ?_) (fun hc12 h=> ?_);refine zaa [.v (.i 0),.v (.i 0),.v (.i 0),.v (.i 93)] ?_;replace h:=zp h hr3;exact zar (fun(r:(Int×Int×Int×Int))=> .tup [.i r.1,.i r.2.1,.i r.2.2.1,.i r.2.2.2]) h (.tup [.i 0,.i 0,.i 0,.i 93]);refine ze (o:=or3) () h ?_;exact zbt (bl 86 72535553788845243886469006);refine zae hc11 ?_;refine w_r [.p,.p,.p,.v (.b false),.v (.b false)] ?_;refine zba rfl ?_;refine ze (o:=or3) () h ?_;exact zbt (bl 86 72535553788845243886469006);intro j3 h;refine zfa ?_;refine zaa [.m _,.m _,.m _] ?_;obtain⟨g8,h⟩:=zr h;refine zlt g8 ?_;refine w_r [.m _,.m _,.m _,.v (.i 0)] ?_;exact zar (fun(r:(Int×Int×Int×Int))=> .tup [.i r.1,.i r.2.1,.i r.2.2.1,.i r.2.2.2]) h (.tup [.i x2.1,.i j1.1,.i (j1.2+1),.i 0])
def zlh (fuel:Nat)(s:(List UInt8)):Option (Int×Int×Int×Int):=
 (bif (s==([]:List UInt8)) then(some (1,1,0,0)) else(chk (0<=(0:Int)/\ (0:Int)<(length s:Int)) (zbe (ix s (0:Int)) (fun x1=>(bif ((((x1).toNat:Nat):Int)==42) then(some (0,(-1),1,0)) else(bif ((((x1).toNat:Nat):Int)==43) then(some (1,(-1),1,0)) else(bif ((((x1).toNat:Nat):Int)==63) then(some (0,1,1,0)) else(bif ((((x1).toNat:Nat):Int)==123) then(zai (zhj fuel s) (fun x2=>(some (x2.1,x2.2.1,x2.2.2.1,x2.2.2.2)))) else(some (1,1,0,0))))))))))
theorem ent71:Ent prog 71:=enters_of Tryd.func71 (by kernel_rfl) rfl
theorem qfd (fuel:Nat)(s:(List UInt8))(r:(Int×Int×Int×Int))(h:zlh fuel s=some r):Pure (ITP prog) prog 71 [.raw (.string (bs s))] (.tup [.raw (.int .i64 r.1),.raw (.int .i64 r.2.1),.raw (.int .i64 r.2.2.1),.raw (.int .i64 r.2.2.2)]):=by
 unfold zlh at h;refine zbx 23 mix Tryd.func71 ent71 ?_;refine zaa [.v (.i 0),.v (.i 0),.v (.i 0),.v (.i 0)] ?_;refine zm ?_;refine zaa [.m _] ?_;refine w_o (a:= .b (s==([]:List UInt8))) (h:=zbf (qdp rfl rfl rfl)) ?_;refine zcj h (fun hc1 h=> ?_) (fun hc1 h=> ?_);refine zaa [.v (.i 1),.v (.i 1),.v (.i 0),.v (.i 0)] ?_;exact zar (fun(r:(Int×Int×Int×Int))=> .tup [.i r.1,.i r.2.1,.i r.2.2.1,.i r.2.2.2]) h (.tup [.i 1,.i 1,.i 0,.i 0]);refine zm ?_;refine zaa [.m _] ?_;obtain⟨g1,h⟩:=zr h;obtain⟨x1,hx1,h⟩:=zx h;refine w_o (a:= .u (((x1).toNat:Nat):Int)) (h:=zbf (by rw[<-hx1];exact(zdd (l:=s) (n:=(0:Int)) g1 rfl rfl rfl rfl))) ?_;refine zaj ?_;refine zaa [.v (.b ((((x1).toNat:Nat):Int)==42)),.m _] ?_;refine zcj h (fun hc2 h=> ?_) (fun hc2 h=> ?_);refine zaa [.v (.i 0),.v (.i (-1)),.v (.i 1),.v (.i 0)] ?_;exact zar (fun(r:(Int×Int×Int×Int))=> .tup [.i r.1,.i r.2.1,.i r.2.2.1,.i r.2.2.2]) h (.tup [.i 0,.i (-1),.i 1,.i 0]);refine zaa [.v (.b ((((x1).toNat:Nat):Int)==43)),.m _] ?_;refine zcj h (fun hc3 h=> ?_) (fun hc3 h=> ?_);refine zaa [.v (.i 1),.v (.i (-1)),.v (.i 1),.v (.i 0)] ?_;exact zar (fun(r:(Int×Int×Int×Int))=> .tup [.i r.1,.i r.2.1,.i r.2.2.1,.i r.2.2.2]) h (.tup [.i 1,.i (-1),.i 1,.i 0]);refine zaa [.v (.b ((((x1).toNat:Nat):Int)==63)),.m _] ?_;refine zcj h (fun hc4 h=> ?_) (fun hc4 h=> ?_);refine zaa [.v (.i 0),.v (.i 1),.v (.i 1),.v (.i 0)] ?_;exact zar (fun(r:(Int×Int×Int×Int))=> .tup [.i r.1,.i r.2.1,.i r.2.2.1,.i r.2.2.2]) h (.tup [.i 0,.i 1,.i 1,.i 0]);refine zaa [.v (.b ((((x1).toNat:Nat):Int)==123)),.m _] ?_;refine zcj h (fun hc5 h=> ?_) (fun hc5 h=> ?_);refine zaa [.m _] ?_;obtain⟨x2,hx2,h⟩:=zv h;refine zdh (qcy fuel s x2 hx2) ?_;refine w_r [.x _,.x _,.x _,.x _,.m _] ?_;refine w_r [.m _,.m _,.m _] ?_;exact zar (fun(r:(Int×Int×Int×Int))=> .tup [.i r.1,.i r.2.1,.i r.2.2.1,.i r.2.2.2]) h (.tup [.i x2.1,.i x2.2.1,.i x2.2.2.1,.i x2.2.2.2]);refine zaa [.v (.i 1),.v (.i 1),.v (.i 0),.v (.i 0)] ?_;exact zar (fun(r:(Int×Int×Int×Int))=> .tup [.i r.1,.i r.2.1,.i r.2.2.1,.i r.2.2.2]) h (.tup [.i 1,.i 1,.i 0,.i 0])
def zzw (s:(List UInt8)):Option Bool:=
 (chk (length s<=9223372036854775807) (zbe (Lib.trimSuffix s ([36]:List UInt8),Lib.hasSuffix s ([36]:List UInt8)) (fun x1=>(bif x1.2 then(chk (length x1.1<=9223372036854775807) (zbe (Lib.trimRightB x1.1 92) (fun x2=>(chk (-9223372036854775808<=((length x1.1:Int)-(length x2:Int))/\ ((length x1.1:Int)-(length x2:Int))<9223372036854775808) (some ((tmod ((length x1.1:Int)-(length x2:Int)) 2)==0)))))) else(some false)))))
theorem ent19:Ent prog 19:=enters_of Tryd.func19 (by kernel_rfl) rfl
theorem ends_sh (s:(List UInt8))(r:Bool)(h:zzw s=some r):Pure (ITP prog) prog 19 [.raw (.string (bs s))] (.raw (.bool r)):=by
 unfold zzw at h;refine zbx 20 mix Tryd.func19 ent19 ?_;refine zaa [.v (.b false)] ?_;refine zaa [.m _] ?_;obtain⟨g1,h⟩:=zr h;obtain⟨x1,hx1,h⟩:=zx h;refine zdh (args':=[.s s,.s ([36]:List UInt8)]) (r:= .tup [.s x1.1,.b x1.2]) (by rw[<-hx1];exact(z9k s ([36]:List UInt8) g1)) ?_;refine w_r [.m _,.x _,.x _,.m _,.m _] ?_;refine zaa [.m _] ?_;refine zt h (fun hc1 h=> ?_) (fun hc1 h=> ?_);refine zae hc1 ?_;refine zal rfl rfl ?_;refine zac ?_;refine zal rfl rfl ?_;refine w_o (a:= .i (length x1.1:Int)) (h:=zbf (zdk rfl rfl rfl)) ?_;refine zal rfl rfl ?_;refine zac ?_;refine zal rfl rfl ?_;obtain⟨g2,h⟩:=zr h;obtain⟨x2,hx2,h⟩:=zx h;refine zdh (args':=[.s x1.1,.s ([92]:List UInt8)]) (r:= .s x2) (by rw[<-hx2];exact(z7b x1.1 92 (by decide) g2)) ?_;refine zal rfl rfl ?_;refine w_o (a:= .i (length x2:Int)) (h:=zbf (zdk rfl rfl rfl)) ?_;refine zal rfl rfl ?_;obtain⟨g3,h⟩:=zr h;refine w_sb g3 ?_;refine w_r [.v (.i (tmod ((length x1.1:Int)-(length x2:Int)) 2)),.v (.b ((tmod ((length x1.1:Int)-(length x2:Int)) 2)==0)),.v (.b ((tmod ((length x1.1:Int)-(length x2:Int)) 2)==0)),.m _] ?_;exact zbm h;refine zae hc1 ?_;refine w_r [.p,.p,.p,.p,.p] ?_;refine w_r [.p,.p,.p,.v (.b false),.m _] ?_;exact zbm h
def zii (c:Int):Option Int:=
 (zdl (τ:=Unit) (chk (0<=(orI .u8 c 32)/\ (orI .u8 c 32)<256) (zbe (Lib.indexByte ([48,49,50,51,52,53,54,55,56,57,97,98,99,100,101,102]:List UInt8) (z1e (orI .u8 c 32))) (fun x1=>(bif (decide (c>=48)) then(bif (decide (c<=57)) then(chk (-9223372036854775808<=(IntKind.u8.wrap (c-48))/\ (IntKind.u8.wrap (c-48))<9223372036854775808) (some (inr (IntKind.u8.wrap (c-48))))) else(bif (decide (x1>=10)) then(bif (decide (c>=65)) then(some (inr x1)) else(some (inl ()))) else(some (inl ())))) else(bif (decide (x1>=10)) then(bif (decide (c>=65)) then(some (inr x1)) else(some (inl ()))) else(some (inl ()))))))) (fun j1=>(some 16)))
theorem ent48:Ent prog 48:=enters_of Tryd.func48 (by kernel_rfl) rfl
theorem znq (c:Int)(r:Int)(h:zii c=some r):Pure (ITP prog) prog 48 [.raw (.int .u8 c)] (.raw (.int .i64 r)):=by
 unfold zii at h;refine zbx 24 mix Tryd.func48 ent48 ?_;refine zaa [.v (.i 0)] ?_;refine zbk h (bz 0 25 33554431) (fun j1=>[]) (fun j1=>(.B [])) ?_ ?_;intro or1 h hr1;refine zaa [.m _,.v (.u (orI .u8 c 32))] ?_;obtain⟨g1,h⟩:=zr h;obtain⟨x1,hx1,h⟩:=zx h;refine zdh (args':=[.s ([48,49,50,51,52,53,54,55,56,57,97,98,99,100,101,102]:List UInt8),.u (orI .u8 c 32)]) (r:= .i x1) (by rw[<-hx1];exact(zyx ([48,49,50,51,52,53,54,55,56,57,97,98,99,100,101,102]:List UInt8) g1)) ?_;refine zac ?_;refine zaj ?_;refine zaa [.m _,.v (.b (decide (c>=48)))] ?_;refine zt h (fun hc1 h=> ?_) (fun hc1 h=> ?_);refine zae hc1 ?_;refine w_r [.m _,.v (.b (decide (c<=57))),.v (.b (decide (c<=57))),.m _] ?_;refine zcj h (fun hc2 h=> ?_) (fun hc2 h=> ?_);refine zaa [.m _,.v (.u (IntKind.u8.wrap (c-48)))] ?_;obtain⟨g2,h⟩:=zr h;refine w_o (a:= .i (IntKind.u8.wrap (c-48))) (h:=zbf (zmf g2 rfl rfl rfl)) ?_;refine zac ?_;replace h:=zp h hr1;exact zjh h;refine zaa [.m _,.v (.b (decide (x1>=10)))] ?_;refine zt h (fun hc3 h=> ?_) (fun hc3 h=> ?_);refine zae hc3 ?_;refine w_r [.m _,.v (.b (decide (c>=65))),.v (.b (decide (c>=65))),.m _] ?_;refine zcj h (fun hc4 h=> ?_) (fun hc4 h=> ?_);refine zaa [.m _,.m _] ?_;replace h:=zp h hr1;exact zjh h;refine ze (o:=or1) () h ?_;exact zbt (bl 25 0);refine zae hc3 ?_;refine w_r [.p,.p,.v (.b false),.m _] ?_;refine zba rfl ?_;refine ze (o:=or1) () h ?_;exact zbt (bl 25 0);refine zae hc1 ?_;refine w_r [.p,.p,.v (.b false),.m _] ?_;refine zba rfl ?_;refine zaa [.m _,.v (.b (decide (x1>=10)))] ?_;refine zt h (fun hc5 h=> ?_) (fun hc5 h=> ?_);refine zae hc5 ?_;refine w_r [.m _,.v (.b (decide (c>=65))),.v (.b (decide (c>=65))),.m _] ?_;refine zcj h (fun hc6 h=> ?_) (fun hc6 h=> ?_);refine zaa [.m _,.m _] ?_;replace h:=zp h hr1;exact zjh h;refine ze (o:=or1) () h ?_;exact zbt (bl 25 0);refine zae hc5 ?_;refine w_r [.p,.p,.v (.b false),.m _] ?_;refine zba rfl ?_;refine ze (o:=or1) () h ?_;exact zbt (bl 25 0);intro j1 h;refine zfa ?_;refine zaa [.v (.i 16)] ?_;exact zjh h
def zet (m:BS)(c:Int):Option Bool:=
 (bif (decide ((orI .u8 c 32)>=97)) then(bif (decide (c>=48)) then(zai (zkv m c) (fun x1=>(bif x1 then(bif (decide (c>=32)) then(bif (decide (c<=126)) then(bif (!(decide ((orI .u8 c 32)<=122))) then(some (!(decide (c<=57)))) else(some false)) else(some false)) else(some false)) else(some false)))) else(zai (zkv m c) (fun x2=>(bif x2 then(bif (decide (c>=32)) then(bif (decide (c<=126)) then(bif (!(decide ((orI .u8 c 32)<=122))) then(some true) else(some false)) else(some false)) else(some false)) else(some false))))) else(bif (decide (c>=48)) then(zai (zkv m c) (fun x3=>(bif x3 then(bif (decide (c>=32)) then(bif (decide (c<=126)) then(some (!(decide (c<=57)))) else(some false)) else(some false)) else(some false)))) else(zai (zkv m c) (fun x4=>(bif x4 then(bif (decide (c>=32)) then(bif (decide (c<=126)) then(some true) else(some false)) else(some false)) else(some false))))))
theorem ent46:Ent prog 46:=enters_of Tryd.func46 (by kernel_rfl) rfl
theorem zll (m:BS)(c:Int)(r:Bool)(h:zet m c=some r):Pure (ITP prog) prog 46 [.A (m:BS),.raw (.int .u8 c)] (.raw (.bool r)):=by
 unfold zet at h;refine zbx 38 mix Tryd.func46 ent46 ?_;refine zm (zc ?_);refine zcc (a:= .ptr 0 0) (U'':=(.B [(27,(Enc.cells (m:BS)))])) ?_;refine w_o (a:= .b false) ?_;refine zaa [.m _,.v (.u (orI .u8 c 32)),.v (.b (decide ((orI .u8 c 32)>=97)))] ?_;refine zt h (fun hc1 h=> ?_) (fun hc1 h=> ?_);refine zae hc1 ?_;refine w_r [.m _,.v (.u (orI .u8 c 32)),.v (.b (decide ((orI .u8 c 32)<=122))),.v (.b (decide ((orI .u8 c 32)<=122))),.m _] ?_;refine zaa [.m _,.v (.b (decide (c>=48)))] ?_;refine zt h (fun hc2 h=> ?_) (fun hc2 h=> ?_);refine zae hc2 ?_;refine w_r [.m _,.v (.b (decide (c<=57))),.v (.b (decide (c<=57))),.m _] ?_;refine zaa [.v (.A (m:BS)),.m _] ?_;obtain⟨x1,hx1,h⟩:=zv h;refine zdh (ztd m c x1 hx1) ?_;refine zt h (fun hc3 h=> ?_) (fun hc3 h=> ?_);refine zae hc3 ?_;refine w_r [.m _,.v (.b (decide (c>=32))),.v (.b (decide (c>=32)))] ?_;refine zt h (fun hc4 h=> ?_) (fun hc4 h=> ?_);refine zae hc4 ?_;refine w_r [.m _,.v (.b (decide (c<=126))),.v (.b (decide (c<=126)))] ?_;refine zt h (fun hc5 h=> ?_) (fun hc5 h=> ?_);refine zae hc5 ?_;refine w_r [.m _,.v (.b (!(decide ((orI .u8 c 32)<=122)))),.v (.b (!(decide ((orI .u8 c 32)<=122))))] ?_;refine zt h (fun hc6 h=> ?_) (fun hc6 h=> ?_);refine zae hc6 ?_;refine w_r [.m _,.v (.b (!(decide (c<=57)))),.v (.b (!(decide (c<=57)))),.m _] ?_;exact zbm h;refine zae hc6 ?_;refine w_r [.p,.p,.v (.b false),.m _] ?_;exact zbm h;refine zae hc5 ?_;refine w_r [.p,.p,.v (.b false),.m _,.p] ?_;refine w_r [.p,.v (.b false),.m _] ?_;exact zbm h;refine zae hc4 ?_;refine w_r [.p,.p,.v (.b false),.m _,.p] ?_;refine w_r [.p,.v (.b false),.m _,.p,.p] ?_;refine w_r [.v (.b false),.m _] ?_;exact zbm h;refine zae hc3 ?_;refine w_r [.p,.p,.v (.b false),.m _,.p] ?_;refine w_r [.p,.v (.b false),.m _,.p,.p] ?_;refine w_r [.v (.b false),.m _,.p,.p,.v (.b false)] ?_;refine w_r [.m _] ?_;exact zbm h;refine zae hc2 ?_;refine w_r [.p,.p,.v (.b false),.m _] ?_;refine zaa [.v (.A (m:BS)),.m _] ?_;obtain⟨x2,hx2,h⟩:=zv h;refine zdh (ztd m c x2 hx2) ?_;refine zt h (fun hc7 h=> ?_) (fun hc7 h=> ?_);refine zae hc7 ?_;refine w_r [.m _,.v (.b (decide (c>=32))),.v (.b (decide (c>=32)))] ?_;refine zt h (fun hc8 h=> ?_) (fun hc8 h=> ?_);refine zae hc8 ?_;refine w_r [.m _,.v (.b (decide (c<=126))),.v (.b (decide (c<=126)))] ?_;refine zt h (fun hc9 h=> ?_) (fun hc9 h=> ?_);refine zae hc9 ?_;refine w_r [.m _,.v (.b (!(decide ((orI .u8 c 32)<=122)))),.v (.b (!(decide ((orI .u8 c 32)<=122))))] ?_;refine zt h (fun hc10 h=> ?_) (fun hc10 h=> ?_);refine zae hc10 ?_;refine w_r [.m _,.v (.b true),.v (.b true),.m _] ?_;exact zbm h;refine zae hc10 ?_;refine w_r [.p,.p,.v (.b false),.m _] ?_;exact zbm h;refine zae hc9 ?_;refine w_r [.p,.p,.v (.b false),.m _,.p] ?_;refine w_r [.p,.v (.b false),.m _] ?_;exact zbm h;refine zae hc8 ?_;refine w_r [.p,.p,.v (.b false),.m _,.p] ?_;refine w_r [.p,.v (.b false),.m _,.p,.p] ?_;refine w_r [.v (.b false),.m _] ?_;exact zbm h;refine zae hc7 ?_;refine w_r [.p,.p,.v (.b false),.m _,.p] ?_;refine w_r [.p,.v (.b false),.m _,.p,.p] ?_;refine w_r [.v (.b false),.m _,.p,.p,.v (.b false)] ?_;refine w_r [.m _] ?_;exact zbm h;refine zae hc1 ?_;refine w_r [.p,.p,.p,.v (.b false),.m _] ?_;refine zaa [.m _,.v (.b (decide (c>=48)))] ?_;refine zt h (fun hc11 h=> ?_) (fun hc11 h=> ?_);refine zae hc11 ?_;refine w_r [.m _,.v (.b (decide (c<=57))),.v (.b (decide (c<=57))),.m _] ?_;refine zaa [.v (.A (m:BS)),.m _] ?_;obtain⟨x3,hx3,h⟩:=zv h;refine zdh (ztd m c x3 hx3) ?_;refine zt h (fun hc12 h=> ?_) (fun hc12 h=> ?_);refine zae hc12 ?_;refine w_r [.m _,.v (.b (decide (c>=32))),.v (.b (decide (c>=32)))] ?_;refine zt h (fun hc13 h=> ?_) (fun hc13 h=> ?_);refine zae hc13 ?_;refine w_r [.m _,.v (.b (decide (c<=126))),.v (.b (decide (c<=126)))] ?_;refine zt h (fun hc14 h=> ?_) (fun hc14 h=> ?_);refine zae hc14 ?_;refine w_r [.m _,.v (.b true),.v (.b true),.m _,.m _] ?_;refine w_r [.v (.b (!(decide (c<=57)))),.v (.b (!(decide (c<=57)))),.m _] ?_;exact zbm h;refine zae hc14 ?_;refine w_r [.p,.p,.v (.b false),.m _,.p] ?_;refine w_r [.p,.v (.b false),.m _] ?_;exact zbm h;refine zae hc13 ?_;refine w_r [.p,.p,.v (.b false),.m _,.p] ?_;refine w_r [.p,.v (.b false),.m _,.p,.p] ?_;refine w_r [.v (.b false),.m _] ?_;exact zbm h;refine zae hc12 ?_;refine w_r [.p,.p,.v (.b false),.m _,.p] ?_;refine w_r [.p,.v (.b false),.m _,.p,.p] ?_;refine w_r [.v (.b false),.m _,.p,.p,.v (.b false)] ?_;refine w_r [.m _] ?_;exact zbm h;refine zae hc11 ?_;refine w_r [.p,.p,.v (.b false),.m _] ?_;refine zaa [.v (.A (m:BS)),.m _] ?_;obtain⟨x4,hx4,h⟩:=zv h;refine zdh (ztd m c x4 hx4) ?_;refine zt h (fun hc15 h=> ?_) (fun hc15 h=> ?_);refine zae hc15 ?_;refine w_r [.m _,.v (.b (decide (c>=32))),.v (.b (decide (c>=32)))] ?_;refine zt h (fun hc16 h=> ?_) (fun hc16 h=> ?_);refine zae hc16 ?_;refine w_r [.m _,.v (.b (decide (c<=126))),.v (.b (decide (c<=126)))] ?_;refine zt h (fun hc17 h=> ?_) (fun hc17 h=> ?_);refine zae hc17 ?_;refine w_r [.m _,.v (.b true),.v (.b true),.m _,.m _] ?_;refine w_r [.v (.b true),.v (.b true),.m _] ?_;exact zbm h;refine zae hc17 ?_;refine w_r [.p,.p,.v (.b false),.m _,.p] ?_;refine w_r [.p,.v (.b false),.m _] ?_;exact zbm h;refine zae hc16 ?_;refine w_r [.p,.p,.v (.b false),.m _,.p] ?_;refine w_r [.p,.v (.b false),.m _,.p,.p] ?_;refine w_r [.v (.b false),.m _] ?_;exact zbm h;refine zae hc15 ?_;refine w_r [.p,.p,.v (.b false),.m _,.p] ?_;refine w_r [.p,.v (.b false),.m _,.p,.p] ?_;refine w_r [.v (.b false),.m _,.p,.p,.v (.b false)] ?_;refine w_r [.m _] ?_;exact zbm h
def zbb (s:(List UInt8))(m:BS):Option (Int×Int×Int):=
 (zdl (τ:=Unit) (bif (s==([]:List UInt8)) then(some (inr (0,0,20))) else(chk (0<=(0:Int)/\ (0:Int)<(length s:Int)) (zbe (ix s (0:Int)) (fun x1=>(bif ((((x1).toNat:Nat):Int) !=92) then(chk (0<=(0:Int)/\ (0:Int)<(length s:Int)) (zbe (ix s (0:Int)) (fun x2=>(bif (decide ((((x2).toNat:Nat):Int)>=32)) then(chk (0<=(0:Int)/\ (0:Int)<(length s:Int)) (zbe (ix s (0:Int)) (fun x3=>(bif (decide ((((x3).toNat:Nat):Int)<=126)) then(chk (0<=(0:Int)/\ (0:Int)<(length s:Int)) (zbe (ix s (0:Int)) (fun x4=>(zai (zet m (((x4).toNat:Nat):Int)) (fun x5=>(bif (!x5) then(chk (0<=(0:Int)/\ (0:Int)<(length s:Int)) (zbe (ix s (0:Int)) (fun x6=>(some (inr ((((x6).toNat:Nat):Int),1,0)))))) else(chk (0<=(0:Int)/\ (0:Int)<(length s:Int)) (zbe (ix s (0:Int)) (fun x7=>(bif ((((x7).toNat:Nat):Int) !=92) then(some (inr (0,0,20))) else(bif (decide ((length s:Int)<2)) then(some (inr (0,0,20))) else(some (inl ()))))))))))))) else(chk (0<=(0:Int)/\ (0:Int)<(length s:Int)) (zbe (ix s (0:Int)) (fun x8=>(bif ((((x8).toNat:Nat):Int) !=92) then(some (inr (0,0,20))) else(bif (decide ((length s:Int)<2)) then(some (inr (0,0,20))) else(some (inl ()))))))))))) else(chk (0<=(0:Int)/\ (0:Int)<(length s:Int)) (zbe (ix s (0:Int)) (fun x9=>(bif ((((x9).toNat:Nat):Int) !=92) then(some (inr (0,0,20))) else(bif (decide ((length s:Int)<2)) then(some (inr (0,0,20))) else(some (inl ()))))))))))) else(chk (0<=(0:Int)/\ (0:Int)<(length s:Int)) (zbe (ix s (0:Int)) (fun x10=>(bif ((((x10).toNat:Nat):Int) !=92) then(some (inr (0,0,20))) else(bif (decide ((length s:Int)<2)) then(some (inr (0,0,20))) else(some (inl ())))))))))))) (fun j1=>(chk (0<=(1:Int)/\ (1:Int)<(length s:Int)) (zbe (ix s (1:Int)) (fun x11=>(zbe (Lib.indexByte ([110,114,116]:List UInt8) x11) (fun x12=>(zdl (τ:=Unit) (bif ((((x11).toNat:Nat):Int)==120) then(bif (decide ((length s:Int)>3)) then(chk (0<=(2:Int)/\ (2:Int)<(length s:Int)) (zbe (ix s (2:Int)) (fun x13=>(zai (zii (((x13).toNat:Nat):Int)) (fun x14=>(bif (decide (x14<16)) then(chk (0<=(3:Int)/\ (3:Int)<(length s:Int)) (zbe (ix s (3:Int)) (fun x15=>(zai (zii (((x15).toNat:Nat):Int)) (fun x16=>(bif (decide (x16<16)) then(chk (0<=(2:Int)/\ (2:Int)<(length s:Int)) (zbe (ix s (2:Int)) (fun x17=>(zai (zii (((x17).toNat:Nat):Int)) (fun x18=>(chk (0<=(3:Int)/\ (3:Int)<(length s:Int)) (zbe (ix s (3:Int)) (fun x19=>(zai (zii (((x19).toNat:Nat):Int)) (fun x20=>(some (inr ((IntKind.u8.wrap (orI .i64 (zpj .i64 x18 4) x20)),4,0))))))))))))) else(bif ((((x11).toNat:Nat):Int)==92) then(some (inr ((((x11).toNat:Nat):Int),2,0))) else(zai (zet m (((x11).toNat:Nat):Int)) (fun x21=>(bif x21 then(some (inr ((((x11).toNat:Nat):Int),2,0))) else(bif (decide (x12>=0)) then(chk (0<=x12/\ x12<(length ([10,13,9]:List UInt8):Int)) (zbe (ix ([10,13,9]:List UInt8) x12) (fun x22=>(some (inr ((((x22).toNat:Nat):Int),2,0)))))) else(some (inl ()))))))))))))) else(bif ((((x11).toNat:Nat):Int)==92) then(some (inr ((((x11).toNat:Nat):Int),2,0))) else(zai (zet m (((x11).toNat:Nat):Int)) (fun x23=>(bif x23 then(some (inr ((((x11).toNat:Nat):Int),2,0))) else(bif (decide (x12>=0)) then(chk (0<=x12/\ x12<(length ([10,13,9]:List UInt8):Int)) (zbe (ix ([10,13,9]:List UInt8) x12) (fun x24=>(some (inr ((((x24).toNat:Nat):Int),2,0)))))) else(some (inl ()))))))))))))) else(bif ((((x11).toNat:Nat):Int)==92) then(some (inr ((((x11).toNat:Nat):Int),2,0))) else(zai (zet m (((x11).toNat:Nat):Int)) (fun x25=>(bif x25 then(some (inr ((((x11).toNat:Nat):Int),2,0))) else(bif (decide (x12>=0)) then(chk (0<=x12/\ x12<(length ([10,13,9]:List UInt8):Int)) (zbe (ix ([10,13,9]:List UInt8) x12) (fun x26=>(some (inr ((((x26).toNat:Nat):Int),2,0)))))) else(some (inl ())))))))) else(bif ((((x11).toNat:Nat):Int)==92) then(some (inr ((((x11).toNat:Nat):Int),2,0))) else(zai (zet m (((x11).toNat:Nat):Int)) (fun x27=>(bif x27 then(some (inr ((((x11).toNat:Nat):Int),2,0))) else(bif (decide (x12>=0)) then(chk (0<=x12/\ x12<(length ([10,13,9]:List UInt8):Int)) (zbe (ix ([10,13,9]:List UInt8) x12) (fun x28=>(some (inr ((((x28).toNat:Nat):Int),2,0)))))) else(some (inl ())))))))) (fun j2=>(some (0,0,20)))))))))))
theorem ent27:Ent prog 27:=enters_of Tryd.func27 (by kernel_rfl) rfl
theorem zsg (s:(List UInt8))(m:BS)(r:(Int×Int×Int))(h:zbb s m=some r):Pure (ITP Tryd.prog) Tryd.prog 27 [.raw (.string (bs s)),.A (m:BS)] (.tup [.raw (.int .u8 r.1),.raw (.int .i64 r.2.1),.raw (.int .i64 r.2.2)]):=by
 unfold zbb at h;refine zbx 89 mix Tryd.func27 ent27 ?_;refine zm (zc ?_);refine zcc (a:= .ptr 0 0) (U'':=(.B [(27,(Enc.cells (m:BS)))])) ?_;refine w_r [.v (.u 0),.v (.i 0),.v (.i 0)] ?_;refine zbk h (bz 0 91 2475880078570760549798248438) (fun j1=>[]) (fun j1=>(.B [(27,(Enc.cells (m:BS)))])) ?_ ?_;intro or1 h hr1;refine zaj ?_;refine zaa [.m _] ?_;refine w_o (a:= .b (s==([]:List UInt8))) (h:=zbf (qdp rfl rfl rfl)) ?_;refine zac ?_;refine zcj h (fun hc1 h=> ?_) (fun hc1 h=> ?_);refine zaa [.v (.u 0),.v (.i 0),.v (.i 20)] ?_;replace h:=zp h hr1;exact zar (fun(r:(Int×Int×Int))=> .tup [.u r.1,.i r.2.1,.i r.2.2]) h (.tup [.u 0,.i 0,.i 20]);refine zm ?_;refine zkh (k0:=0) (id:=3) 17 (by kernel_rfl) (by kernel_rfl) ?_;refine zmh ?_;obtain⟨g1,h⟩:=zr h;obtain⟨x1,hx1,h⟩:=zx h;refine h_o (a:= .u (((x1).toNat:Nat):Int)) (h:=by rw[<-hx1];exact(zdd (l:=s) (n:=(0:Int)) g1 rfl rfl rfl rfl)) ?_;refine h_o (a:= .b ((((x1).toNat:Nat):Int) !=92)) ?_;refine zt h (fun hc2 h=> ?_) (fun hc2 h=> ?_);refine h_o (a:= .b true) (h:=zeq rfl hc2) ?_;refine zhi rfl rfl ?_;refine zmh ?_;refine zhi rfl rfl ?_;obtain⟨g2,h⟩:=zr h;obtain⟨x2,hx2,h⟩:=zx h;refine h_o (a:= .u (((x2).toNat:Nat):Int)) (h:=by rw[<-hx2];exact(zdd (l:=s) (n:=(0:Int)) g2 rfl rfl rfl rfl)) ?_;refine zhi rfl rfl ?_;iterate 2 refine h_o (a:= .b (decide ((((x2).toNat:Nat):Int)>=32))) ?_
 refine zt h (fun hc3 h=> ?_) (fun hc3 h=> ?_);refine h_o (a:= .b true) (h:=zeq rfl hc3) ?_;refine zhi rfl rfl ?_;refine zmh ?_;refine zhi rfl rfl ?_;obtain⟨g3,h⟩:=zr h;obtain⟨x3,hx3,h⟩:=zx h;refine h_o (a:= .u (((x3).toNat:Nat):Int)) (h:=by rw[<-hx3];exact(zdd (l:=s) (n:=(0:Int)) g3 rfl rfl rfl rfl)) ?_;refine zhi rfl rfl ?_;iterate 2 refine h_o (a:= .b (decide ((((x3).toNat:Nat):Int)<=126))) ?_
 refine zt h (fun hc4 h=> ?_) (fun hc4 h=> ?_);refine h_o (a:= .b true) (h:=zeq rfl hc4) ?_;refine zhi rfl rfl ?_;refine h_o (a:= .A (m:BS)) ?_;refine zhi rfl rfl ?_;refine zmh ?_;refine zhi rfl rfl ?_;obtain⟨g4,h⟩:=zr h;obtain⟨x4,hx4,h⟩:=zx h;refine h_o (a:= .u (((x4).toNat:Nat):Int)) (h:=by rw[<-hx4];exact(zdd (l:=s) (n:=(0:Int)) g4 rfl rfl rfl rfl)) ?_;refine zkn ?_;refine zal rfl rfl ?_;obtain⟨x5,hx5,h⟩:=zv h;refine zdh (zll m (((x4).toNat:Nat):Int) x5 hx5) ?_;refine w_r [.v (.b (!x5)),.v (.b (!x5)),.m _] ?_;refine zcj h (fun hc5 h=> ?_) (fun hc5 h=> ?_);refine zaa [.m _] ?_;obtain⟨g5,h⟩:=zr h;obtain⟨x6,hx6,h⟩:=zx h;refine w_o (a:= .u (((x6).toNat:Nat):Int)) (h:=zbf (by rw[<-hx6];exact(zdd (l:=s) (n:=(0:Int)) g5 rfl rfl rfl rfl))) ?_;refine w_r [.m _,.v (.i 1),.v (.i 0)] ?_;replace h:=zp h hr1;exact zar (fun(r:(Int×Int×Int))=> .tup [.u r.1,.i r.2.1,.i r.2.2]) h (.tup [.u (((x6).toNat:Nat):Int),.i 1,.i 0]);refine zaa [.m _] ?_;obtain⟨g6,h⟩:=zr h;obtain⟨x7,hx7,h⟩:=zx h;refine w_o (a:= .u (((x7).toNat:Nat):Int)) (h:=zbf (by rw[<-hx7];exact(zdd (l:=s) (n:=(0:Int)) g6 rfl rfl rfl rfl))) ?_;refine w_o (a:= .b ((((x7).toNat:Nat):Int) !=92)) ?_;refine zt h (fun hc6 h=> ?_) (fun hc6 h=> ?_);refine zae hc6 ?_;refine w_r [.p,.p,.p,.v (.b true),.m _] ?_;refine zbi rfl ?_;refine zaa [.v (.u 0),.v (.i 0),.v (.i 20)] ?_;replace h:=zp h hr1;exact zar (fun(r:(Int×Int×Int))=> .tup [.u r.1,.i r.2.1,.i r.2.2]) h (.tup [.u 0,.i 0,.i 20]);refine zae hc6 ?_;refine zal rfl rfl ?_;refine zac ?_;refine zal rfl rfl ?_;refine w_o (a:= .i (List.length s:Int)) (h:=zbf (zdk rfl rfl rfl)) ?_;refine w_r [.v (.b (decide ((List.length s:Int)<2))),.v (.b (decide ((List.length s:Int)<2))),.m _] ?_;refine zcj h (fun hc7 h=> ?_) (fun hc7 h=> ?_);refine zaa [.v (.u 0),.v (.i 0),.v (.i 20)] ?_;replace h:=zp h hr1;exact zar (fun(r:(Int×Int×Int))=> .tup [.u r.1,.i r.2.1,.i r.2.2]) h (.tup [.u 0,.i 0,.i 20]);refine ze (o:=or1) () h ?_;exact zbt (bl 91 9);refine h_o (a:= .b false) (h:=zeq rfl hc4) ?_;iterate 3 refine zkp ?_
 refine zkn ?_;refine w_r [.p,.p,.v (.b false),.m _] ?_;refine zba rfl ?_;refine zaa [.m _] ?_;obtain⟨g7,h⟩:=zr h;obtain⟨x8,hx8,h⟩:=zx h;refine w_o (a:= .u (((x8).toNat:Nat):Int)) (h:=zbf (by rw[<-hx8];exact(zdd (l:=s) (n:=(0:Int)) g7 rfl rfl rfl rfl))) ?_;refine w_o (a:= .b ((((x8).toNat:Nat):Int) !=92)) ?_;refine zt h (fun hc8 h=> ?_) (fun hc8 h=> ?_);refine zae hc8 ?_;refine w_r [.p,.p,.p,.v (.b true),.m _] ?_;refine zbi rfl ?_;refine zaa [.v (.u 0),.v (.i 0),.v (.i 20)] ?_;replace h:=zp h hr1;exact zar (fun(r:(Int×Int×Int))=> .tup [.u r.1,.i r.2.1,.i r.2.2]) h (.tup [.u 0,.i 0,.i 20]);refine zae hc8 ?_;refine zal rfl rfl ?_;refine zac ?_;refine zal rfl rfl ?_;refine w_o (a:= .i (List.length s:Int)) (h:=zbf (zdk rfl rfl rfl)) ?_;refine w_r [.v (.b (decide ((List.length s:Int)<2))),.v (.b (decide ((List.length s:Int)<2))),.m _] ?_;refine zcj h (fun hc9 h=> ?_) (fun hc9 h=> ?_);refine zaa [.v (.u 0),.v (.i 0),.v (.i 20)] ?_;replace h:=zp h hr1;exact zar (fun(r:(Int×Int×Int))=> .tup [.u r.1,.i r.2.1,.i r.2.2]) h (.tup [.u 0,.i 0,.i 20]);refine ze (o:=or1) () h ?_;exact zbt (bl 91 9);refine h_o (a:= .b false) (h:=zeq rfl hc3) ?_;iterate 3 refine zkp ?_
 refine h_o (a:= .b false) ?_;refine zmh ?_;iterate 3 refine zkp ?_
 refine zkn ?_;refine w_r [.p,.p,.v (.b false),.m _] ?_;refine zba rfl ?_;refine zaa [.m _] ?_;obtain⟨g8,h⟩:=zr h;obtain⟨x9,hx9,h⟩:=zx h;refine w_o (a:= .u (((x9).toNat:Nat):Int)) (h:=zbf (by rw[<-hx9];exact(zdd (l:=s) (n:=(0:Int)) g8 rfl rfl rfl rfl))) ?_;refine w_o (a:= .b ((((x9).toNat:Nat):Int) !=92)) ?_;refine zt h (fun hc10 h=> ?_) (fun hc10 h=> ?_);refine zae hc10 ?_;refine w_r [.p,.p,.p,.v (.b true),.m _] ?_;refine zbi rfl ?_;refine zaa [.v (.u 0),.v (.i 0),.v (.i 20)] ?_;replace h:=zp h hr1;exact zar (fun(r:(Int×Int×Int))=> .tup [.u r.1,.i r.2.1,.i r.2.2]) h (.tup [.u 0,.i 0,.i 20]);refine zae hc10 ?_;refine zal rfl rfl ?_;refine zac ?_;refine zal rfl rfl ?_;refine w_o (a:= .i (List.length s:Int)) (h:=zbf (zdk rfl rfl rfl)) ?_;refine w_r [.v (.b (decide ((List.length s:Int)<2))),.v (.b (decide ((List.length s:Int)<2))),.m _] ?_;refine zcj h (fun hc11 h=> ?_) (fun hc11 h=> ?_);refine zaa [.v (.u 0),.v (.i 0),.v (.i 20)] ?_;replace h:=zp h hr1;exact zar (fun(r:(Int×Int×Int))=> .tup [.u r.1,.i r.2.1,.i r.2.2]) h (.tup [.u 0,.i 0,.i 20]);refine ze (o:=or1) () h ?_;exact zbt (bl 91 9);refine h_o (a:= .b false) (h:=zeq rfl hc2) ?_;iterate 3 refine zkp ?_
 refine h_o (a:= .b false) ?_;refine zmh ?_;iterate 3 refine zkp ?_
 refine h_o (a:= .b false) ?_;refine zmh ?_;iterate 3 refine zkp ?_
 refine zkn ?_;refine w_r [.p,.p,.v (.b false),.m _] ?_;refine zba rfl ?_;refine zaa [.m _] ?_;obtain⟨g9,h⟩:=zr h;obtain⟨x10,hx10,h⟩:=zx h;refine w_o (a:= .u (((x10).toNat:Nat):Int)) (h:=zbf (by rw[<-hx10];exact(zdd (l:=s) (n:=(0:Int)) g9 rfl rfl rfl rfl))) ?_;refine w_o (a:= .b ((((x10).toNat:Nat):Int) !=92)) ?_;refine zt h (fun hc12 h=> ?_) (fun hc12 h=> ?_);refine zae hc12 ?_;refine w_r [.p,.p,.p,.v (.b true),.m _] ?_;refine zbi rfl ?_;refine zaa [.v (.u 0),.v (.i 0),.v (.i 20)] ?_;replace h:=zp h hr1;exact zar (fun(r:(Int×Int×Int))=> .tup [.u r.1,.i r.2.1,.i r.2.2]) h (.tup [.u 0,.i 0,.i 20]);refine zae hc12 ?_;refine zal rfl rfl ?_;refine zac ?_;refine zal rfl rfl ?_;refine w_o (a:= .i (List.length s:Int)) (h:=zbf (zdk rfl rfl rfl)) ?_;refine w_r [.v (.b (decide ((List.length s:Int)<2))),.v (.b (decide ((List.length s:Int)<2))),.m _] ?_;refine zcj h (fun hc13 h=> ?_) (fun hc13 h=> ?_);refine zaa [.v (.u 0),.v (.i 0),.v (.i 20)] ?_;replace h:=zp h hr1;exact zar (fun(r:(Int×Int×Int))=> .tup [.u r.1,.i r.2.1,.i r.2.2]) h (.tup [.u 0,.i 0,.i 20]);refine ze (o:=or1) () h ?_;exact zbt (bl 91 9);intro j1 h;refine zfa ?_;refine zaa [.m _] ?_;obtain⟨g10,h⟩:=zr h;obtain⟨x11,hx11,h⟩:=zx h;refine w_o (a:= .u (((x11).toNat:Nat):Int)) (h:=zbf (by rw[<-hx11];exact(zdd (l:=s) (n:=(1:Int)) g10 rfl rfl rfl rfl))) ?_;refine zac ?_;refine zaa [.m _] ?_;obtain⟨x12,hx12,h⟩:=zx h;refine zdh (args':=[.s ([110,114,116]:List UInt8),.u (((x11).toNat:Nat):Int)]) (r:= .i x12) (by rw[<-hx12];exact(z5t ([110,114,116]:List UInt8) x11)) ?_;refine zac ?_;refine zbk h (bz 0 91 2475880078570742957612204537) (fun j2=>[]) (fun j2=>(.B [(27,(Enc.cells (m:BS)))])) ?_ ?_;intro or2 h hr2;refine zaj ?_;refine zaa [.m _,.v (.b ((((x11).toNat:Nat):Int)==120))] ?_;refine zt h (fun hc14 h=> ?_) (fun hc14 h=> ?_);refine zae hc14 ?_;refine zal rfl rfl ?_;refine zac ?_;refine zal rfl rfl ?_;refine w_o (a:= .i (List.length s:Int)) (h:=zbf (zdk rfl rfl rfl)) ?_;refine w_r [.v (.b (decide ((List.length s:Int)>3))),.v (.b (decide ((List.length s:Int)>3)))] ?_;refine zt h (fun hc15 h=> ?_) (fun hc15 h=> ?_);refine zae hc15 ?_;refine zal rfl rfl ?_;refine zac ?_;refine zal rfl rfl ?_;obtain⟨g11,h⟩:=zr h;obtain⟨x13,hx13,h⟩:=zx h;refine w_o (a:= .u (((x13).toNat:Nat):Int)) (h:=zbf (by rw[<-hx13];exact(zdd (l:=s) (n:=(2:Int)) g11 rfl rfl rfl rfl))) ?_;refine zal rfl rfl ?_;obtain⟨x14,hx14,h⟩:=zv h;refine zdh (znq (((x13).toNat:Nat):Int) x14 hx14) ?_;refine w_r [.v (.b (decide (x14<16))),.v (.b (decide (x14<16)))] ?_;refine zt h (fun hc16 h=> ?_) (fun hc16 h=> ?_);refine zae hc16 ?_;refine zal rfl rfl ?_;refine zac ?_;refine zal rfl rfl ?_;obtain⟨g12,h⟩:=zr h;obtain⟨x15,hx15,h⟩:=zx h;refine w_o (a:= .u (((x15).toNat:Nat):Int)) (h:=zbf (by rw[<-hx15];exact(zdd (l:=s) (n:=(3:Int)) g12 rfl rfl rfl rfl))) ?_;refine zal rfl rfl ?_;obtain⟨x16,hx16,h⟩:=zv h;refine zdh (znq (((x15).toNat:Nat):Int) x16 hx16) ?_;refine w_r [.v (.b (decide (x16<16))),.v (.b (decide (x16<16))),.m _] ?_;refine zcj h (fun hc17 h=> ?_) (fun hc17 h=> ?_);refine zm ?_;refine zkh (k0:=0) (id:=10) 7 (by kernel_rfl) (by kernel_rfl) ?_;refine zmh ?_;obtain⟨g13,h⟩:=zr h;obtain⟨x17,hx17,h⟩:=zx h;refine h_o (a:= .u (((x17).toNat:Nat):Int)) (h:=by rw[<-hx17];exact(zdd (l:=s) (n:=(2:Int)) g13 rfl rfl rfl rfl)) ?_;obtain⟨x18,hx18,h⟩:=zv h;refine h_ck (znq (((x17).toNat:Nat):Int) x18 hx18) ?_;refine h_o (a:= .i (zpj .i64 x18 4)) (h:=q_shl (by decide) rfl rfl rfl) ?_;refine zmh ?_;obtain⟨g14,h⟩:=zr h;obtain⟨x19,hx19,h⟩:=zx h;refine h_o (a:= .u (((x19).toNat:Nat):Int)) (h:=by rw[<-hx19];exact(zdd (l:=s) (n:=(3:Int)) g14 rfl rfl rfl rfl)) ?_;obtain⟨x20,hx20,h⟩:=zv h;refine h_ck (znq (((x19).toNat:Nat):Int) x20 hx20) ?_;refine zkn ?_;refine w_r [.v (.i (orI .i64 (zpj .i64 x18 4) x20)),.v (.u (IntKind.u8.wrap (orI .i64 (zpj .i64 x18 4) x20))),.m _,.v (.i 4),.v (.i 0)] ?_;replace h:=zp h hr2;exact zar (fun(r:(Int×Int×Int))=> .tup [.u r.1,.i r.2.1,.i r.2.2]) h (.tup [.u (IntKind.u8.wrap (orI .i64 (zpj .i64 x18 4) x20)),.i 4,.i 0]);refine zaa [.m _,.v (.b ((((x11).toNat:Nat):Int)==92))] ?_;refine zt h (fun hc18 h=> ?_) (fun hc18 h=> ?_);refine zae hc18 ?_;refine w_r [.p,.p,.p,.v (.b true),.m _] ?_;refine zbi rfl ?_;refine zaa [.m _,.m _,.v (.i 2),.v (.i 0)] ?_;replace h:=zp h hr2;exact zar (fun(r:(Int×Int×Int))=> .tup [.u r.1,.i r.2.1,.i r.2.2]) h (.tup [.u (((x11).toNat:Nat):Int),.i 2,.i 0]);refine zae hc18 ?_;refine w_r [.v (.A (m:BS)),.m _] ?_;refine zal rfl rfl ?_;obtain⟨x21,hx21,h⟩:=zv h;refine zdh (zll m (((x11).toNat:Nat):Int) x21 hx21) ?_;refine w_r [.v (.b x21),.m _] ?_;refine zcj h (fun hc19 h=> ?_) (fun hc19 h=> ?_);refine zaa [.m _,.m _,.v (.i 2),.v (.i 0)] ?_;replace h:=zp h hr2;exact zar (fun(r:(Int×Int×Int))=> .tup [.u r.1,.i r.2.1,.i r.2.2]) h (.tup [.u (((x11).toNat:Nat):Int),.i 2,.i 0]);refine zaa [.m _,.v (.b (decide (x12>=0))),.m _] ?_;refine zcj h (fun hc20 h=> ?_) (fun hc20 h=> ?_);refine zaa [.m _] ?_;obtain⟨g15,h⟩:=zr h;obtain⟨x22,hx22,h⟩:=zx h;refine w_o (a:= .u (((x22).toNat:Nat):Int)) (h:=zbf (by rw[<-hx22];exact(zdd (l:=([10,13,9]:List UInt8)) (n:=x12) g15 rfl rfl rfl rfl))) ?_;refine w_r [.m _,.v (.i 2),.v (.i 0)] ?_;replace h:=zp h hr2;exact zar (fun(r:(Int×Int×Int))=> .tup [.u r.1,.i r.2.1,.i r.2.2]) h (.tup [.u (((x22).toNat:Nat):Int),.i 2,.i 0]);refine ze (o:=or2) () h ?_;exact zbt (bl 91 17592186043910);refine zae hc16 ?_;refine w_r [.p,.p,.p,.p,.v (.b false)] ?_;refine w_r [.m _] ?_;refine zba rfl ?_;refine zaa [.m _,.v (.b ((((x11).toNat:Nat):Int)==92))] ?_;refine zt h (fun hc21 h=> ?_) (fun hc21 h=> ?_);refine zae hc21 ?_;refine w_r [.p,.p,.p,.v (.b true),.m _] ?_;refine zbi rfl ?_;refine zaa [.m _,.m _,.v (.i 2),.v (.i 0)] ?_;replace h:=zp h hr2;exact zar (fun(r:(Int×Int×Int))=> .tup [.u r.1,.i r.2.1,.i r.2.2]) h (.tup [.u (((x11).toNat:Nat):Int),.i 2,.i 0]);refine zae hc21 ?_;refine w_r [.v (.A (m:BS)),.m _] ?_;refine zal rfl rfl ?_;obtain⟨x23,hx23,h⟩:=zv h;refine zdh (zll m (((x11).toNat:Nat):Int) x23 hx23) ?_;refine w_r [.v (.b x23),.m _] ?_;refine zcj h (fun hc22 h=> ?_) (fun hc22 h=> ?_);refine zaa [.m _,.m _,.v (.i 2),.v (.i 0)] ?_;replace h:=zp h hr2;exact zar (fun(r:(Int×Int×Int))=> .tup [.u r.1,.i r.2.1,.i r.2.2]) h (.tup [.u (((x11).toNat:Nat):Int),.i 2,.i 0]);refine zaa [.m _,.v (.b (decide (x12>=0))),.m _] ?_;refine zcj h (fun hc23 h=> ?_) (fun hc23 h=> ?_);refine zaa [.m _] ?_;obtain⟨g16,h⟩:=zr h;obtain⟨x24,hx24,h⟩:=zx h;refine w_o (a:= .u (((x24).toNat:Nat):Int)) (h:=zbf (by rw[<-hx24];exact(zdd (l:=([10,13,9]:List UInt8)) (n:=x12) g16 rfl rfl rfl rfl))) ?_;refine w_r [.m _,.v (.i 2),.v (.i 0)] ?_;replace h:=zp h hr2;exact zar (fun(r:(Int×Int×Int))=> .tup [.u r.1,.i r.2.1,.i r.2.2]) h (.tup [.u (((x24).toNat:Nat):Int),.i 2,.i 0]);refine ze (o:=or2) () h ?_;exact zbt (bl 91 17592186043910);refine zae hc15 ?_;refine w_r [.p,.p,.p,.p,.v (.b false)] ?_;refine w_r [.m _,.p,.p,.p,.p] ?_;refine w_r [.v (.b false),.m _] ?_;refine zba rfl ?_;refine zaa [.m _,.v (.b ((((x11).toNat:Nat):Int)==92))] ?_;refine zt h (fun hc24 h=> ?_) (fun hc24 h=> ?_);refine zae hc24 ?_;refine w_r [.p,.p,.p,.v (.b true),.m _] ?_;refine zbi rfl ?_;refine zaa [.m _,.m _,.v (.i 2),.v (.i 0)] ?_;replace h:=zp h hr2;exact zar (fun(r:(Int×Int×Int))=> .tup [.u r.1,.i r.2.1,.i r.2.2]) h (.tup [.u (((x11).toNat:Nat):Int),.i 2,.i 0]);refine zae hc24 ?_;refine w_r [.v (.A (m:BS)),.m _] ?_;refine zal rfl rfl ?_;obtain⟨x25,hx25,h⟩:=zv h;refine zdh (zll m (((x11).toNat:Nat):Int) x25 hx25) ?_;refine w_r [.v (.b x25),.m _] ?_;refine zcj h (fun hc25 h=> ?_) (fun hc25 h=> ?_);refine zaa [.m _,.m _,.v (.i 2),.v (.i 0)] ?_;replace h:=zp h hr2;exact zar (fun(r:(Int×Int×Int))=> .tup [.u r.1,.i r.2.1,.i r.2.2]) h (.tup [.u (((x11).toNat:Nat):Int),.i 2,.i 0]);refine zaa [.m _,.v (.b (decide (x12>=0))),.m _] ?_;refine zcj h (fun hc26 h=> ?_) (fun hc26 h=> ?_);refine zaa [.m _] ?_;obtain⟨g17,h⟩:=zr h;obtain⟨x26,hx26,h⟩:=zx h;refine w_o (a:= .u (((x26).toNat:Nat):Int)) (h:=zbf (by rw[<-hx26];exact(zdd (l:=([10,13,9]:List UInt8)) (n:=x12) g17 rfl rfl rfl rfl))) ?_;refine w_r [.m _,.v (.i 2),.v (.i 0)] ?_;replace h:=zp h hr2;exact zar (fun(r:(Int×Int×Int))=> .tup [.u r.1,.i r.2.1,.i r.2.2]) h (.tup [.u (((x26).toNat:Nat):Int),.i 2,.i 0]);refine ze (o:=or2) () h ?_;exact zbt (bl 91 17592186043910);refine zae hc14 ?_;refine w_r [.p,.p,.p,.v (.b false),.m _] ?_;refine w_r [.p,.p,.p,.p,.v (.b false)] ?_;refine w_r [.m _,.p,.p,.p,.p] ?_;refine w_r [.v (.b false),.m _] ?_;refine zba rfl ?_;refine zaa [.m _,.v (.b ((((x11).toNat:Nat):Int)==92))] ?_;refine zt h (fun hc27 h=> ?_) (fun hc27 h=> ?_);refine zae hc27 ?_;refine w_r [.p,.p,.p,.v (.b true),.m _] ?_;refine zbi rfl ?_;refine zaa [.m _,.m _,.v (.i 2),.v (.i 0)] ?_;replace h:=zp h hr2;exact zar (fun(r:(Int×Int×Int))=> .tup [.u r.1,.i r.2.1,.i r.2.2]) h (.tup [.u (((x11).toNat:Nat):Int),.i 2,.i 0]);refine zae hc27 ?_;refine w_r [.v (.A (m:BS)),.m _] ?_;refine zal rfl rfl ?_;obtain⟨x27,hx27,h⟩:=zv h;refine zdh (zll m (((x11).toNat:Nat):Int) x27 hx27) ?_;refine w_r [.v (.b x27),.m _] ?_;refine zcj h (fun hc28 h=> ?_) (fun hc28 h=> ?_);refine zaa [.m _,.m _,.v (.i 2),.v (.i 0)] ?_;replace h:=zp h hr2;exact zar (fun(r:(Int×Int×Int))=> .tup [.u r.1,.i r.2.1,.i r.2.2]) h (.tup [.u (((x11).toNat:Nat):Int),.i 2,.i 0]);refine zaa [.m _,.v (.b (decide (x12>=0))),.m _] ?_;refine zcj h (fun hc29 h=> ?_) (fun hc29 h=> ?_);refine zaa [.m _] ?_;obtain⟨g18,h⟩:=zr h;obtain⟨x28,hx28,h⟩:=zx h;refine w_o (a:= .u (((x28).toNat:Nat):Int)) (h:=zbf (by rw[<-hx28];exact(zdd (l:=([10,13,9]:List UInt8)) (n:=x12) g18 rfl rfl rfl rfl))) ?_;refine w_r [.m _,.v (.i 2),.v (.i 0)] ?_;replace h:=zp h hr2;exact zar (fun(r:(Int×Int×Int))=> .tup [.u r.1,.i r.2.1,.i r.2.2]) h (.tup [.u (((x28).toNat:Nat):Int),.i 2,.i 0]);refine ze (o:=or2) () h ?_;exact zbt (bl 91 17592186043910);intro j2 h;refine zfa ?_;refine zaa [.v (.u 0),.v (.i 0),.v (.i 20)] ?_;exact zar (fun(r:(Int×Int×Int))=> .tup [.u r.1,.i r.2.1,.i r.2.2]) h (.tup [.u 0,.i 0,.i 20])
def zfy (fuel:Nat)(l:(List UInt8)):Option BS:=
 (zdl (τ:=BS) (zbg (β:=Int×BS) (fun s1=>(bif (decide (s1.1<(length l:Int))) then(chk (0<=s1.1/\ s1.1<(length l:Int)) (chk (0<=(zge .u8 ((((ix l s1.1)).toNat:Nat):Int) 6)/\ (zge .u8 ((((ix l s1.1)).toNat:Nat):Int) 6)<4) (chk (0<=(zmk .u8 ((((ix l s1.1)).toNat:Nat):Int) 63)) (chk (0<=(zge .u8 ((((ix l s1.1)).toNat:Nat):Int) 6)/\ (zge .u8 ((((ix l s1.1)).toNat:Nat):Int) 6)<4) (chk (0<=(orI .u64 (wd s1.2 (toNat (zge .u8 ((((ix l s1.1)).toNat:Nat):Int) 6))) (zpj .u64 1 (zmk .u8 ((((ix l s1.1)).toNat:Nat):Int) 63)))/\ (orI .u64 (wd s1.2 (toNat (zge .u8 ((((ix l s1.1)).toNat:Nat):Int) 6))) (zpj .u64 1 (zmk .u8 ((((ix l s1.1)).toNat:Nat):Int) 63)))<18446744073709551616) (zbe (stW s1.2 (toNat (zge .u8 ((((ix l s1.1)).toNat:Nat):Int) 6)) (orI .u64 (wd s1.2 (toNat (zge .u8 ((((ix l s1.1)).toNat:Nat):Int) 6))) (zpj .u64 1 (zmk .u8 ((((ix l s1.1)).toNat:Nat):Int) 63)))) (fun x1=>(chk (-9223372036854775808<=(s1.1+1)/\ (s1.1+1)<9223372036854775808) (some (inl ((s1.1+1),x1))))))))))) else(some (inr (inl (s1.2)))))) fuel (0,0#256)) (fun j1=>(some j1)))
theorem ent29:Ent prog 29:=enters_of Tryd.func29 (by kernel_rfl) rfl
theorem zkc (fuel:Nat)(l:(List UInt8))(r:BS)(h:zfy fuel l=some r):Pure (ITP prog) prog 29 [.L (l:List UInt8)] (.A (r:BS)):=by
 unfold zfy at h;refine zbx 22 mix Tryd.func29 ent29 ?_;refine zm (zc ?_);refine zcc (a:= .ptr 0 0) (U'':=(.B [(27,(Enc.cells (0#256:BS)))])) ?_;refine zm (zc ?_);refine zcc (a:= .ptr 1 0) (U'':=(.B [(27,(Enc.cells (0#256:BS))),(27,(Enc.cells (0#256:BS)))])) ?_;refine zbk h (bz 0 23 8388595) (fun j1=>[]) (fun j1=>(.B [(27,(Enc.cells (0#256:BS))),(27,(Enc.cells (j1:BS)))])) ?_ ?_;intro or1 h hr1;refine zaa [.m _,.v (.i (length l:Int)),.v (.i 0)] ?_;refine zaj ?_;refine zds h (bz 0 23 8388403) (fun s1=>[(8,.i s1.1)]) (fun s1=>(.B [(27,(Enc.cells (0#256:BS))),(27,(Enc.cells (s1.2:BS)))])) ?_ ?_;exact zbt (bl 23 460);intro s1 p1 h;refine zfa ?_;refine zaa [.v (.b (decide (s1.1<(length l:Int))))] ?_;refine zm ?_;refine zcj h (fun hc1 h=> ?_) (fun hc1 h=> ?_);refine zm ?_;refine zaj ?_;refine zm (zc ?_);obtain⟨g1,h⟩:=zr h;refine w_o (a:= .iptr (Enc.cells (ix l s1.1)++Enc.cellsL (List.drop (toNat s1.1+1) l))) (h:=zbf (qhp (α:=UInt8) (l:=l) g1 rfl rfl rfl rfl rfl)) ?_;refine w_r [.v (.u ((((ix l s1.1)).toNat:Nat):Int)),.m _] ?_;refine zc (k0:=0) (id:=5) ?_;refine zac ?_;refine w_o (a:= .u (zge .u8 ((((ix l s1.1)).toNat:Nat):Int) 6)) (h:=zbf (qex (by decide) rfl rfl rfl)) ?_;obtain⟨g2,h⟩:=zr h;refine w_o (a:= .ptr 1 (0+toNat (zge .u8 ((((ix l s1.1)).toNat:Nat):Int) 6)*1)) (h:=zbf (zsp g2 rfl rfl rfl rfl rfl)) ?_;refine w_o (a:= .raw (.int .u64 (wd s1.2 (toNat (zge .u8 ((((ix l s1.1)).toNat:Nat):Int) 6))))) (h:=zbf (zwz s1.2 (by omega) rfl rfl rfl)) ?_;refine w_r [.m _,.v (.u (zmk .u8 ((((ix l s1.1)).toNat:Nat):Int) 63))] ?_;obtain⟨g3,h⟩:=zr h;refine w_o (a:= .raw (.int .u64 (zpj .u64 1 (zmk .u8 ((((ix l s1.1)).toNat:Nat):Int) 63)))) (h:=zbf (q_shl g3 rfl rfl rfl)) ?_;refine w_o (a:= .raw (.int .u64 (orI .u64 (wd s1.2 (toNat (zge .u8 ((((ix l s1.1)).toNat:Nat):Int) 6))) (zpj .u64 1 (zmk .u8 ((((ix l s1.1)).toNat:Nat):Int) 63))))) ?_;obtain⟨g4,h⟩:=zr h;refine w_o (a:= .ptr 1 (0+toNat (zge .u8 ((((ix l s1.1)).toNat:Nat):Int) 6)*1)) (h:=zbf (zsp g4 rfl rfl rfl rfl rfl)) ?_;obtain⟨g5,h⟩:=zr h;obtain⟨x1,hx1,h⟩:=zx h;refine zgl (U'':=(.B [(27,(Enc.cells (0#256:BS))),(27,(Enc.cells (x1:BS)))])) rfl rfl rfl (zzd s1.2 g4 g5 rfl rfl rfl rfl) (by dsimp only[zy,List.set]) (by subst hx1;rfl) ?_;refine zc (k0:=0) (id:=6) ?_;obtain⟨g6,h⟩:=zr h;refine zlt g6 ?_;refine zac ?_;refine zbz (p:=p1) ((s1.1+1),x1) h ?_;exact zbt (bl 23 460);refine zap h (fun h=> ?_);refine ze (o:=or1) (s1.2) h ?_;exact zbt (bl 23 12);intro j1 h;refine zfa ?_;refine zaa [.v (.A (j1:BS))] ?_;refine zcu 4 (.B [(27,(Enc.cells (j1:BS))),(27,(Enc.cells (j1:BS)))]) ?_;exact zar (fun(r:BS)=> .A (r:BS)) h (.A (j1:BS))
def zcz (fuel:Nat)(lo:Int)(hi:Int):Option BS:=
 (zdl (τ:=BS) (chk (-9223372036854775808<=lo/\ lo<9223372036854775808) (zbg (β:=Int×BS) (fun s1=>(chk (-9223372036854775808<=hi/\ hi<9223372036854775808) (bif (decide (s1.1<=hi)) then(chk (0<=(zge .i64 s1.1 6)/\ (zge .i64 s1.1 6)<4) (chk (0<=(zmk .i64 s1.1 63)) (chk (0<=(zge .i64 s1.1 6)/\ (zge .i64 s1.1 6)<4) (chk (0<=(orI .u64 (wd s1.2 (toNat (zge .i64 s1.1 6))) (zpj .u64 1 (zmk .i64 s1.1 63)))/\ (orI .u64 (wd s1.2 (toNat (zge .i64 s1.1 6))) (zpj .u64 1 (zmk .i64 s1.1 63)))<18446744073709551616) (zbe (stW s1.2 (toNat (zge .i64 s1.1 6)) (orI .u64 (wd s1.2 (toNat (zge .i64 s1.1 6))) (zpj .u64 1 (zmk .i64 s1.1 63)))) (fun x1=>(chk (-9223372036854775808<=(s1.1+1)/\ (s1.1+1)<9223372036854775808) (some (inl ((s1.1+1),x1)))))))))) else(some (inr (inl (s1.2))))))) fuel (lo,0#256))) (fun j1=>(some j1)))
theorem ent15:Ent prog 15:=enters_of Tryd.func15 (by kernel_rfl) rfl
theorem zkd (fuel:Nat)(lo:Int)(hi:Int)(r:BS)(h:zcz fuel lo hi=some r):Pure (ITP prog) prog 15 [.raw (.int .u8 lo),.raw (.int .u8 hi)] (.A (r:BS)):=by
 unfold zcz at h;refine zbx 23 mix Tryd.func15 ent15 ?_;refine zm (zc ?_);refine zcc (a:= .ptr 0 0) (U'':=(.B [(27,(Enc.cells (0#256:BS)))])) ?_;refine zm (zc ?_);refine zcc (a:= .ptr 1 0) (U'':=(.B [(27,(Enc.cells (0#256:BS))),(27,(Enc.cells (0#256:BS)))])) ?_;refine zbk h (bz 0 25 33554383) (fun j1=>[]) (fun j1=>(.B [(27,(Enc.cells (0#256:BS))),(27,(Enc.cells (j1:BS)))])) ?_ ?_;intro or1 h hr1;refine zaa [.m _] ?_;obtain⟨g1,h⟩:=zr h;refine w_o (a:= .i lo) (h:=zbf (zmf g1 rfl rfl rfl)) ?_;refine zac ?_;refine zaj ?_;refine zds h (bz 0 25 33554381) (fun s1=>[(6,.i s1.1)]) (fun s1=>(.B [(27,(Enc.cells (0#256:BS))),(27,(Enc.cells (s1.2:BS)))])) ?_ ?_;exact zbt (bl 25 114);intro s1 p1 h;refine zfa ?_;refine zm ?_;refine zaa [.m _,.m _] ?_;obtain⟨g2,h⟩:=zr h;refine w_o (a:= .i hi) (h:=zbf (zmf g2 rfl rfl rfl)) ?_;refine w_o (a:= .b (decide (s1.1<=hi))) ?_;refine zcj h (fun hc1 h=> ?_) (fun hc1 h=> ?_);refine zm ?_;refine zaj ?_;refine zkh (k0:=0) (id:=5) 7 (by kernel_rfl) (by kernel_rfl) ?_;refine zmh ?_;refine h_o (a:= .i (zge .i64 s1.1 6)) (h:=qex (by decide) rfl rfl rfl) ?_;obtain⟨g3,h⟩:=zr h;refine h_o (a:= .ptr 1 (0+toNat (zge .i64 s1.1 6)*1)) (h:=zsp g3 rfl rfl rfl rfl rfl) ?_;refine h_o (a:= .raw (.int .u64 (wd s1.2 (toNat (zge .i64 s1.1 6))))) (h:=zwz s1.2 (by omega) rfl rfl rfl) ?_;refine zmh ?_;refine h_o (a:= .i (zmk .i64 s1.1 63)) ?_;obtain⟨g4,h⟩:=zr h;refine h_o (a:= .raw (.int .u64 (zpj .u64 1 (zmk .i64 s1.1 63)))) (h:=q_shl g4 rfl rfl rfl) ?_;refine zkn ?_;refine w_o (a:= .raw (.int .u64 (orI .u64 (wd s1.2 (toNat (zge .i64 s1.1 6))) (zpj .u64 1 (zmk .i64 s1.1 63))))) ?_;obtain⟨g5,h⟩:=zr h;refine w_o (a:= .ptr 1 (0+toNat (zge .i64 s1.1 6)*1)) (h:=zbf (zsp g5 rfl rfl rfl rfl rfl)) ?_;obtain⟨g6,h⟩:=zr h;obtain⟨x1,hx1,h⟩:=zx h;refine zgl (U'':=(.B [(27,(Enc.cells (0#256:BS))),(27,(Enc.cells (x1:BS)))])) rfl rfl rfl (zzd s1.2 g5 g6 rfl rfl rfl rfl) (by dsimp only[zy,List.set]) (by subst hx1;rfl) ?_;refine zc (k0:=0) (id:=4) ?_;refine zac ?_;obtain⟨g7,h⟩:=zr h;refine zlt g7 ?_;refine zac ?_;refine zbz (p:=p1) ((s1.1+1),x1) h ?_;exact zbt (bl 25 114);refine zap h (fun h=> ?_);refine ze (o:=or1) (s1.2) h ?_;exact zbt (bl 25 48);intro j1 h;refine zfa ?_;refine zaa [.v (.A (j1:BS))] ?_;refine zcu 4 (.B [(27,(Enc.cells (j1:BS))),(27,(Enc.cells (j1:BS)))]) ?_;exact zar (fun(r:BS)=> .A (r:BS)) h (.A (j1:BS))
end Go.Ab
namespace Go.Ab
open Go Go.RowKit Go.Fwd
end Go.Ab
namespace Go.Ab
open Go Go.RowKit Go.Fwd Go.Proofs
variable {y:Code} {Q:AQ} {S:List AV} {U:St}
structure InsLaw (P:Program)(f:FuncId)(S e:TypeId)(sz by':Nat):Prop where
 room: ∀(b n c i vb voff m vc:Nat) (R V:List Value) (t0:TypeId) (tA:TypeId) (kA:Nat) (w:World) (hi:i<n) (hm:0<m) (hroom:n+m<=c) (hc63:n+m<=4611686018427387904) (hvb:vb≠b)
  (hrow:w.heap[b]? =some (.cells R.toArray t0 (0,0))) (hR:c*sz<=R.length) (hone: ∀v∈R.take (n*sz),v.oneCell'=true) (hVl:V.length=m*sz) (hV: ∀j v,V[j]? =some v->w.cell? ⟨vb,voff+j,none⟩=some v) (h1v: ∀v∈V,v.oneCell'=true)
  (hsa:w.shape? vb=some (tA,kA)) (hkA:kA≠0),
  Calls P f #[.slice (some ⟨b,0,none⟩) n c,.int .i64 i,.slice (some ⟨vb,voff,none⟩) m vc] w fun e w'=>
   e= .returned (.slice (some ⟨b,0,none⟩) (n+m) c)/\ w'=w.drew.setRow b (R.take (i*sz)++V++(R.drop (i*sz)).take ((n-i)*sz)++R.drop ((n+m)*sz)).toArray
 stop: ∀(base:Option Addr) (n c m vc:Nat) (va:Option Addr) (r:Value) (w w1:World) (hm:0<m) (hnc:n<=c) (hc63:n+m<=4611686018427387904) (hnil:base=none->c=0)
  (hrun:(Builtin.append_ #[S,S] S #[.slice base n c,.slice va m vc]).run P w= .ok r w1),
  Calls P f #[.slice base n c,.int .i64 n,.slice va m vc] w fun e w'=>e= .returned r/\ w'=w1
 grow: ∀(b n c i vb voff m vc:Nat) (R V:List Value) (t0:TypeId) (tA:TypeId) (kA:Nat) (w:World) (hi:i<n) (hm:0<m) (hnc:n<=c) (hroom:c<n+m) (hbig:(n+m)*by'<=140737488355328) (hvb:vb<w.heap.size)
  (hrow:w.heap[b]? =some (.cells R.toArray t0 (0,0))) (hR:c*sz<=R.length) (hone: ∀v∈R.take (n*sz),v.oneCell'=true) (hVl:V.length=m*sz) (hV: ∀j v,V[j]? =some v->w.cell? ⟨vb,voff+j,none⟩=some v) (h1v: ∀v∈V,v.oneCell'=true),
  Calls P f #[.slice (some ⟨b,0,none⟩) n c,.int .i64 i,.slice (some ⟨vb,voff,none⟩) m vc] w fun e' w'=>
   ∃G Z,n+m<=G/\ e'= .returned (.slice (some ⟨w.heap.size,0,none⟩) (n+m) G)/\ Z.length+(n+m)*sz=G*sz/\ w'=w.drew.drew.alloc (.cells (R.take (i*sz)++V++(R.drop (i*sz)).take ((n-i)*sz)++Z:List Value).toArray e)
theorem zxg {w:World} {b o:Nat} {v:Value} (h:w.cell? ⟨b,o,none⟩=some v): ∃t k,w.shape? b=some (t,k)/\ k≠0/\ b<w.heap.size:=by
 unfold World.cell? at h;unfold World.shape?;split at h
 ·rename_i c t f hq;simp only[hq];refine⟨t,c.size,rfl,?_,(Array.getElem?_eq_some_iff.1 hq).1⟩;have:=(Array.getElem?_eq_some_iff.1 h).1;omega
 ·cases h
section
variable {α:Type} [Enc α]
theorem Enc.ins (l r:List α)(k:Nat):(Enc.cellsL l).take (k*Enc.sz α)++Enc.cellsL r++(Enc.cellsL l).drop (k*Enc.sz α)=Enc.cellsL (l.take k++r++l.drop k):=by
 rw[Enc.take,Enc.drop,Enc.app,Enc.app]
end
theorem z8h {IT:IterP} (hIT:ITMono IT) {U:St} {X:Cx} (hI:Inv IT U X) {s b:Nat} {t:TypeId} {cs:List AV} (hs:X.κ[s]? =some b)(hb:U.boxes[s]? =some (t,cs)):
 ∃X',X'.w=X.w/\ Ext X X'/\ Inv IT {U with boxes:=U.boxes.set s (t,[])} X'/\ At IT X' cs b 0:=by
 have hbm:b∈X.κ:=List.mem_of_getElem? hs;obtain⟨us,zs,k1,k2,k3⟩:=hI.box s b t cs hs hb;have hul:=zq k2
 have hE:Ext X {X with F:=fun b' o=>X.F b' o \/(b'=b/\ o<us.length)}:={Ext.refl X with
  F:=fun _ _ h=> .inl h
  cell:=fun _ _ _=>rfl
  Fnew:=fun b' o h=>h.elim .inl fun h=> .inr (.inr (.inr (h.1▸hbm)))}
 have hK:=zrn hI hb;refine⟨{X with F:=fun b' o=>X.F b' o \/(b'=b/\ o<us.length)},rfl,hE,?_,?_⟩
 ·refine {lens:=hK.lens,elems:=hK.elems,κlen:=hK.κlen,κnd:=hK.κnd,box:= ?_,κF:= ?_,βlen:=hK.βlen,βnd:=hK.βnd,βκ:=hK.βκ,row:= ?_,Ok:= ?_,Fcell:= ?_}
  ·intro s' b' t' cs' hs' hb';obtain⟨vs',zs',u1,u2,u3⟩:=hK.box s' b' t' cs' hs' hb';exact⟨vs',zs',u1,zaw hIT hE _ _ u2,u3⟩
  ·intro s' b' t' cs' hs' hb' hc o hf;rcases hf with hf|⟨rfl,hlt⟩
   ·exact hK.κF s' b' t' cs' hs' hb' hc o hf
   ·have hne:cs≠[]:=fun e=>by rw[e] at hul;simp at hul;omega
    have hs0:s<U.boxes.length:=(List.getElem?_eq_some_iff.1 hb).1;by_cases e:s=s'
    ·subst e;have hb'':(U.boxes.set s (t,[]))[s]? =some (t',cs'):=hb';rw[List.getElem?_set_self hs0] at hb'';cases hb'';exact hc rfl
    ·have hb'':(U.boxes.set s (t,[]))[s']? =some (t',cs'):=hb';rw[List.getElem?_set_ne e] at hb'';rcases hI.κnd s s' b' hs hs' e with⟨t0,h0⟩|⟨t0,h0⟩
     ·rw[hb] at h0;exact hne (congrArg Prod.snd (Option.some.inj h0))
     ·rw[hb''] at h0;exact hc (congrArg Prod.snd (Option.some.inj h0))
  ·intro s' r L hr hL;obtain⟨cur,fz,c1,c2,c3,c4,c5,c6,c7⟩:=hI.row s' r L hr hL;refine⟨cur,fz,c1,c2,c3,c4,c5,fun o hf=> ?_,c7⟩;rcases hf with hf|⟨e,_⟩
   ·exact c6 o hf
   ·exact absurd (e▸hbm) (hI.βκ r (List.mem_of_getElem? hr))
  ·intro b' ho;obtain⟨h1,h2,h3,h4⟩:=hI.Ok b' ho;exact⟨h1,h2,h3,fun o hf=>hf.elim (h4 o) fun h=>absurd (h.1▸hbm) h2⟩
  ·intro b' o hf;rcases hf with hf|⟨rfl,hlt⟩
   ·exact hI.Fcell b' o hf
   ·refine⟨us[o],?_⟩;show X.w.cell? _=_;rw[cell_of_row _ _ _ _ _ _ k1,List.getElem?_toArray,List.getElem?_append_left hlt];exact List.getElem?_eq_getElem hlt
 ·refine zyh (fun j hj=> .inr ⟨rfl,by omega⟩) k3 (zaw hIT hE _ _ k2) fun j u hu=> ?_;show X.w.cell? _=_;have hj:=(List.getElem?_eq_some_iff.1 hu).1;rw[cell_of_row _ _ _ _ _ _ k1,zero_add,List.getElem?_toArray,List.getElem?_append_left hj];exact hu
theorem snd_frz {IT:IterP} (hIT:ITMono IT) {α:Type} [Enc α] {P:Program} {f:FuncId} {ar ar':List AV} {r:AV} {U:St} {s:Nat} {t:TypeId} {l:List α} {fl:Bool} (h:Pure IT P f (.list (length l) (Enc.cellsL l) .none   ::ar') r)(has:stripL ar=ar')(hok:zaf 0 ar=true)(hb:U.boxes[s]? =some (t,Enc.cellsL l)):
 Snd IT P f (.bsl s 0 (length l) (Enc.sz α) fl::ar) U r {U with boxes:=U.boxes.set s (t,[])}:=by
 refine⟨h.1,fun X vs hI hr=> ?_⟩;rw[zbr] at hr;obtain⟨v0,vr,rfl,hv0,hrr⟩:=hr;have hv0:Bsl X s 0 l.length (Enc.sz α) fl v0:=hv0;obtain⟨b,c,cur,t1,hκ,rfl,hcap,_,hrow,hfit⟩:=hv0;obtain⟨X',x1,x2,x3,x4⟩:=z8h hIT hI hκ hb;have hr':zbr IT X' (.list (length l) (Enc.cellsL l) .none::ar) (.slice (some ⟨b,0,none⟩) l.length c::vr):=by
  rw[zbr];refine⟨_,vr,rfl,?_,zaw hIT x2 _ _ hrr⟩;rw[Rep];exact⟨_,_,rfl,⟨hcap,fun h=>by cases h⟩,.inr ⟨_,_,rfl,x4⟩,trivial⟩
 have hl:=ziy hIT h (args:= .list (length l) (Enc.cellsL l) .none::ar) (by rw[Go.Ab.stripL,zde,Enc.stripL,has]) (by rw[za (zcl (Enc.cloL l)) hok]) x3 hr';rw[x1] at hl;refine hl.mono ?_;rintro e w' ⟨v,Y,h1,h2,h3,h4,h5,_⟩;exact⟨v,Y,h1,h2,x2.trans h3,h4,h5⟩
section
variable {IT:IterP} {P:Program} {W:Owed} {k0:Nat}
theorem zgs {x:Code} (h:awp IT P W k0 x (ztu (fun S U=> ∃S' U',Wk k0 S U S' U'/\ awp IT P W k0 y Q S' U') Q) S U):awp IT P W k0 (.seq x y) Q S U:= .inl h
theorem w_semB {id:Nat} {x:Code} (S':List AV)(U':St)(hs:qel IT P (.block id x) S U S' U')(h:Q .normal S' U'):awp IT P none k0 (.block id x) Q S U:= .inr ⟨rfl,S',U',hs,h⟩
theorem qif {x:Code} (S':List AV)(U':St)(hs:qel IT P x S U S' U')(h:awp IT P none k0 y Q S' U'):awp IT P none k0 (.seq x y) Q S U:= .inr ⟨rfl,S',U',hs,h⟩
theorem zkm {S':List AV} {U':St} (hw:Wk k0 S U S' U')(h:awp IT P W k0 y Q S' U'): ∃S' U',Wk k0 S U S' U'/\ awp IT P W k0 y Q S' U':=⟨S',U',hw,h⟩
end
end Go.Ab
namespace Go.Ab
open Go Go.RowKit Go.Fwd
theorem zwj {P:Program} {w:World} {t e:TypeId} {row:Array Value} {n:Nat} (hu:P.underlying t=some (.slice e))(he:P.underlying e=some (.int .u8)):
 (convert t t (.slice (some ⟨w.heap.size,0,none⟩) n n)).run P (w.alloc (.cells row e))= .ok (.slice (some ⟨w.heap.size,0,none⟩) n n) (w.alloc (.cells row e (row.size,row.size+1))):=by
 have hsh:(w.alloc (.cells row e)).shape? w.heap.size=some (e,row.size):=by
  unfold World.shape?;rw[zeu _ _ _ rfl]
 have hfr:(w.alloc (.cells row e)).freeze ⟨w.heap.size,row.size,none⟩ 1=w.alloc (.cells row e (row.size,row.size+1)):=by
  unfold World.freeze World.alloc;simp only[Nat.one_ne_zero,if_false];congr 1
  apply Array.ext_getElem?;intro i;rw[Array.getElem?_modify,Array.getElem?_push,Array.getElem?_push];by_cases h:w.heap.size=i
  ·subst h;simp
  ·simp[h,Ne.symm h]
 simp[convert,run_underlying hu,run_underlying he,markStringish,shape,freeze,Sem.run,hsh,hfr]
theorem qav {IT:IterP} (hIT:ITMono IT) {P:Program} {id:Nat} {ops:Array Oper} {o1 o2:Oper} {rest:List Oper} {S S':List AV} {U U':St} {t e:TypeId} {n sz d1 d2:Nat} {parts:Array (Nat×Operand)} {cs:List AV}
 (hops:ops.toList=o1::o2::rest) (ho1:o1.op= .buildSlice t n parts) (hd1:o1.dst=some d1) (hg1:o1.guard=none) (ho2:o2.op= .convert t t (.tmp d1)) (hd2:o2.dst=some d2) (hg2:o2.guard=none)
 (hlit:zjv P t n (parts.toList.map fun p=>(p.1,zcb S p.2))=some (cs,e,sz)) (hu:P.underlying t=some (.slice e)) (he:P.underlying e=some (.int .u8)) (hdl:d1<S.length)
 (hrest:zcs IT P none ops (fun S2 U2=>S2=S'/\ U2=U') rest ((S.set d1 (.list n cs .none)).set d2 (.list n cs .none)) U):qel IT P (.region id ops false) S U S' U':=by
 intro F nn B X0 X a hF hI0 hn hfe;refine wpIn_region_list ?_;rw[hops];simp only[wpListIn];rw[if_pos (by simp[Region.wanted,hg1])];obtain⟨vs,e1,e2,e3⟩:=zky (IT:=IT) (X:=X) (qs:=parts.map fun(i,x)=>(i,a.eval x)) hlit (by simpa using zle (IT:=IT) (X:=X) (ρ:=zcb S) (ρc:=a.eval) parts.toList fun p hp=>zdj hn.reps p.2);obtain⟨X',k1,k2,k3,k4⟩:=zth hIT hn.inv e ((vs.toArray).size,(vs.toArray).size+1) (cs:=cs) (vs:=vs) [] e2 e3;rw[List.append_nil] at k1;unfold Oper.wpIn;refine⟨fun f _=>hF.fn f,?_⟩;rw[Oper.semAt_plain F _ _ (by intro c hc;rw[ho1] at hc;cases hc)];have r1:(execOp a.eval o1).run P X.w= .ok (.value (.slice (some ⟨X.w.heap.size,0,none⟩) n n)) (X.w.alloc (.cells vs.toArray e)):=by simp[execOp,ho1,e1]
 rw[r1]
 show(if Region.wanted o2 _=true then _ else _)
 rw[if_pos (by simp[Region.wanted,hg2])];refine⟨fun f _=>hF.fn f,?_⟩;rw[Oper.semAt_plain F _ _ (by intro c hc;rw[ho2] at hc;cases hc)];have hlen:d1<a.tmps.size:=by
  have:=zq hn.reps;simp at this;omega
 have hev:(a.put o1.dst (.slice (some ⟨X.w.heap.size,0,none⟩) n n)).eval (.tmp d1)= .slice (some ⟨X.w.heap.size,0,none⟩) n n:=by
  rw[hd1];simp[Act.put,Act.eval,hlen]
 have r2:(execOp (a.put o1.dst (.slice (some ⟨X.w.heap.size,0,none⟩) n n)).eval o2).run P (X.w.alloc (.cells vs.toArray e))= .ok (.value (.slice (some ⟨X.w.heap.size,0,none⟩) n n)) X'.w:=by
  rw[k1];simp only[execOp,ho2,hev];rw[Sem.run_bind,zwj hu he];rfl
 rw[r2];have hx:Rep IT X' (.list n cs .none) (.slice (some ⟨X.w.heap.size,0,none⟩) n n):=by
  rw[Rep];exact⟨_,_,rfl,⟨le_refl _,fun h=>by cases h⟩,.inr ⟨_,_,rfl,k4⟩,trivial⟩
 have hG:zri P B none:=trivial;have n1:=zch hG hIT hn k2 k3 ⟨rfl,rfl⟩ o1.dst hx;have n2:=zch hG hIT n1 (Ext.refl X') n1.inv ⟨rfl,rfl⟩ o2.dst hx;rw[hd1,hd2] at n2;refine zfg hIT hF hG (M:=none) (X0:=X0) (Q:=fun S2 U2=>S2=S'/\ U2=U') (K:=fun e a' w'=>e= .normal/\ ∃X',X'.w=w'/\ Now IT none F B X0 S' U' X' a') ?_ rest _ _ X' _ hrest ?_
 ·rintro S2 U2 X2 a2 ⟨rfl,rfl⟩ hn2;exact⟨rfl,X2,rfl,hn2⟩
 ·rw[hd1,hd2];exact n2
end Go.Ab
namespace Go.Ab
open Go Go.RowKit Go.Fwd Go.Proofs
def zfz:BS:=74436767796141729913256682227557728256#256
def zim:BS:=32186441021420063069237673984#256
def digS:BS:=287948901175001088#256
def wrdS:BS:=10633823849912963253799171395480977408#256
def spcS:BS:=4294977024#256
theorem ent77:Ent prog 77:=enters_of Tryd.func77 (by kernel_rfl) rfl
theorem k_marks:Pure (ITP prog) prog 77 [] (.agg (Enc.cells zfz)):=by
 obtain⟨d,hd⟩: ∃d,Tryd.f77.body=some d:=⟨_,rfl⟩;refine ziu mix Tryd.func77 hd ent77 ?_;cases hd;refine zbn (by dsimp only[zat,Tryd.f77,List.length_cons,List.length_nil,zero_add,Nat.reduceAdd,Nat.reduceSub,List.replicate,List.cons_append,List.nil_append]) (by dsimp only[St.empty]) ?_;refine zm (zc ?_);refine zgl (a:= .ptr 0 0) (U'':=⟨[(27,[.raw (.int .u64 0),.raw (.int .u64 0),.raw (.int .u64 0),.raw (.int .u64 0)])],[],[],0,false⟩) rfl rfl rfl rfl (by dsimp only[zy,List.set]) rfl ?_;refine qif [.ptr 0 0,(.list 14 (Enc.cellsL ([94,36,124,40,41,91,93,123,125,42,43,63,46,47]:List UInt8)) .none),(.list 14 (Enc.cellsL ([94,36,124,40,41,91,93,123,125,42,43,63,46,47]:List UInt8)) .none),.agg (Enc.cells zfz)] ⟨[(27,Enc.cells zfz)],[],[],0,false⟩ (qav (zn _) (cs:=Enc.cellsL ([94,36,124,40,41,91,93,123,125,42,43,63,46,47]:List UInt8)) (e:=5) (sz:=1) rfl rfl rfl rfl rfl rfl rfl (by kernel_rfl) rfl rfl (by decide) ?_) ?_
 .
  refine zcx (args':=[(.list 14 (Enc.cellsL ([94,36,124,40,41,91,93,123,125,42,43,63,46,47]:List UInt8)) .none)]) (r:= .agg (Enc.cells zfz)) (zkc 100 [94,36,124,40,41,91,93,123,125,42,43,63,46,47] zfz (by decide+kernel)) rfl rfl (by kernel_rfl) (by kernel_rfl) (by dsimp only[zy,List.set]) ?_
  refine zgl (U'':=⟨[(27,(Enc.cells (zfz:BS)))],[],[],0,false⟩) rfl rfl rfl (zay (n:=4) rfl rfl rfl rfl rfl rfl rfl rfl (by decide)) (by dsimp only[zy,List.set]) rfl ?_
  exact⟨rfl,rfl⟩
 .
  exact zee (fun(r:BS)=>(.agg (Enc.cells (r:BS)):AV)) (show some zfz=some zfz from rfl) (a:= .agg (Enc.cells (zfz:BS))) rfl (zao _ _ (zab (Enc.clo _))) (zbu (zab (Enc.clo _)))
theorem ent28:Ent prog 28:=enters_of Tryd.func28 (by kernel_rfl) rfl
theorem k_inner:Pure (ITP prog) prog 28 [] (.agg (Enc.cells zim)):=by
 obtain⟨d,hd⟩: ∃d,Tryd.f28.body=some d:=⟨_,rfl⟩;refine ziu mix Tryd.func28 hd ent28 ?_;cases hd;refine zbn (by dsimp only[zat,Tryd.f28,List.length_cons,List.length_nil,zero_add,Nat.reduceAdd,Nat.reduceSub,List.replicate,List.cons_append,List.nil_append]) (by dsimp only[St.empty]) ?_;refine zm (zc ?_);refine zgl (a:= .ptr 0 0) (U'':=⟨[(27,[.raw (.int .u64 0),.raw (.int .u64 0),.raw (.int .u64 0),.raw (.int .u64 0)])],[],[],0,false⟩) rfl rfl rfl rfl (by dsimp only[zy,List.set]) rfl ?_;refine qif [.ptr 0 0,(.list 5 (Enc.cellsL ([94,45,91,93,47]:List UInt8)) .none),(.list 5 (Enc.cellsL ([94,45,91,93,47]:List UInt8)) .none),.agg (Enc.cells zim)] ⟨[(27,Enc.cells zim)],[],[],0,false⟩ (qav (zn _) (cs:=Enc.cellsL ([94,45,91,93,47]:List UInt8)) (e:=5) (sz:=1) rfl rfl rfl rfl rfl rfl rfl (by kernel_rfl) rfl rfl (by decide) ?_) ?_
 .
  refine zcx (args':=[(.list 5 (Enc.cellsL ([94,45,91,93,47]:List UInt8)) .none)]) (r:= .agg (Enc.cells zim)) (zkc 100 [94,45,91,93,47] zim (by decide+kernel)) rfl rfl (by kernel_rfl) (by kernel_rfl) (by dsimp only[zy,List.set]) ?_
  refine zgl (U'':=⟨[(27,(Enc.cells (zim:BS)))],[],[],0,false⟩) rfl rfl rfl (zay (n:=4) rfl rfl rfl rfl rfl rfl rfl rfl (by decide)) (by dsimp only[zy,List.set]) rfl ?_
  exact⟨rfl,rfl⟩
 .
  exact zee (fun(r:BS)=>(.agg (Enc.cells (r:BS)):AV)) (show some zim=some zim from rfl) (a:= .agg (Enc.cells (zim:BS))) rfl (zao _ _ (zab (Enc.clo _))) (zbu (zab (Enc.clo _)))
def zem (l:List UInt8):BS×Bool:=
 match l with
 |a::b::_=>if a=92 then(if b=100 then(digS,true) else if b=119 then(wrdS,true) else if b=115 then(spcS,true) else(0#256,false)) else(0#256,false)
 |_=>(0#256,false)
end Go.Ab
namespace Go.Ab
open Go Go.RowKit Go.Fwd
variable {w':World} {n0:Nat} {d:Nat->Bool}
open Go.ChangeMaps (setBlock)
structure Side (w w':World)(m:Nat):Prop where
 os:w'.os=w.os
 tape:w'.tape=w.tape
 output:w'.output=w.output
 size:w.heap.size<=w'.heap.size
 drawn:w.drawn<=w'.drawn
 same: ∀b,b<w.heap.size->b≠m->w'.heap[b]? =w.heap[b]?
 cel: ∀cs t f,w.heap[m]? ≠some (.cells cs t f)
 dfr: ∀d,w.heap[m]? ≠some (.deferred d)
theorem zhm {w:World} {m b:Nat} (h:Side w w' m) {cs:Array Value} {t:TypeId} {f:Nat×Nat} (hb:w.heap[b]? =some (.cells cs t f)):w'.heap[b]? =some (.cells cs t f):=by
 rw[h.same b (Array.getElem?_eq_some_iff.1 hb).1 (fun e=>h.cel _ _ _ (e▸hb))];exact hb
theorem zxf {IT:IterP} {U:St} {X:Cx} {m:Nat} (hI:Inv IT U X)(h:Side X.w w' m):Sub X {X with w:=w'} where
 F:=fun _ _ h=>h
 cell:=fun b o hf=>by
  obtain⟨v,hv⟩:=hI.Fcell b o hf;obtain⟨t,k,hs,_,hlt⟩:=zxg hv;refine World.cell?_of_block (h.same b hlt fun e=> ?_);unfold World.shape? at hs;split at hs
  ·rename_i c t' f hq;exact h.cel _ _ _ (e▸hq)
  ·cases hs
 κ:=fun _ _ h=>h
 lens:=fun s L h=>⟨L,h,le_refl _,fun _=>rfl⟩
 blk:=fun s b hs cur t f hc=>⟨cur,zhm h hc,rfl⟩
 szs:=fun k cs t f hc=>⟨cs,t,f,zhm h hc,rfl⟩
theorem qer {IT:IterP} (hIT:ITMono IT) {U:St} {X:Cx} {w':World} {m:Nat} (hI:Inv IT U X)(h:Side X.w w' m):Inv IT U {X with w:=w'}:=
  have hs:=zxf hI h
  { lens:=hI.lens,elems:=hI.elems,κlen:=hI.κlen,κnd:=hI.κnd,κF:=hI.κF,βlen:=hI.βlen,βnd:=hI.βnd,βκ:=hI.βκ
    box:=fun s b t cs h1 h2=>by
      obtain⟨vs,zs,k1,k2,k3⟩:=hI.box s b t cs h1 h2;exact⟨vs,zs,zhm h k1,zby hIT hs _ _ k2,k3⟩
    row:=fun s r L h1 h2=>by
      obtain⟨cur,fz,k1,k2⟩:=hI.row s r L h1 h2;exact⟨cur,fz,zhm h k1,k2⟩
    Ok :=fun b hb=>by
      obtain⟨⟨cs,t,f,k1⟩,k2⟩:=hI.Ok b hb;exact⟨⟨cs,t,f,zhm h k1⟩,k2⟩
    Fcell:=fun b o hf=>by
      obtain⟨v,hv⟩:=hI.Fcell b o hf;exact⟨v,(hs.cell b o hf).trans hv⟩
    gv:=qab hIT hs hI.gv}
theorem zrf {IT:IterP} (hIT:ITMono IT) {F:Fence} {B:Nat} {X0 X:Cx} {S:List AV} {U:St} {a:Act} {w':World} {m:Nat} (hm:X0.w.heap.size<=m)(hn:Now IT none F B X0 S U X a)(h:Side X.w w' m):Now IT none F B X0 S U {X with w:=w'} a:=
  have hs:=zxf hn.inv h
  have hE:Ext X0 X:=hn.ext
  { ext := show Ext X0 {X with w:=w'} from
      { F :=hE.F,κ:=hE.κ,lens:=hE.lens,O:=hE.O,C:=hE.C,Fnew:=hE.Fnew,κnew:=hE.κnew,βnew:=hE.βnew
        cell:=fun b o hf=>(hs.cell b o (hE.F b o hf)).trans (hE.cell b o hf)
        blk:=fun s b hk cur t f hc=>by
          obtain⟨cur',k1,k2⟩:=hE.blk s b hk cur t f hc;exact⟨cur',zhm h k1,k2⟩
        szs:=hE.szs.trans hs.szs
        os:=h.os.trans hE.os,tape:=h.tape.trans hE.tape,output:=h.output.trans hE.output,size:=le_trans hE.size h.size
        drawn:=(by first|exact le_trans hE.drawn h.drawn|exact hE.drawn)
        frame:=fun b hb h1 h2=>(h.same b (Nat.lt_of_lt_of_le hb hE.size) (by omega)).trans (hE.frame b hb h1 h2)}
    inv:=qer hIT hn.inv h
    reps:=zby hIT hs _ _ hn.reps
    marks:=⟨le_trans hn.marks.1 h.size,fun e=>by
      obtain⟨h0,Ds,h1,h2,h3⟩:=hn.marks.2.1 e;exact⟨le_trans h0 h.size,Ds,h1,h2,fun D hD=>⟨(h3 D hD).1,(h.same D (Array.getElem?_eq_some_iff.1 (h3 D hD).2).1 fun e=>h.dfr _ (e▸(h3 D hD).2)).trans (h3 D hD).2⟩⟩,hn.marks.2.2⟩
    frn:=trivial}
theorem zut (w:World)(o:Obj)(ho:o.isCells=false):Side w (w.alloc o) w.heap.size where
 os:=rfl
 tape:=rfl
 output:=rfl
 size:=by simp
 drawn:=le_refl _
 same:=fun b hb _=>Below.heap_alloc _ _ _ hb
 cel:=fun cs t f h=>by simp at h
 dfr:=fun d h=>by simp at h
theorem z4a {w:World} {m:Nat} {o:Obj} (o':Obj)(hm:w.heap[m]? =some o)(ho:o.isCells=false)(hd: ∀d,o≠ .deferred d):Side w (setBlock w m o') m where
 os:=rfl
 tape:=rfl
 output:=rfl
 size:=by simp[setBlock]
 drawn:=le_refl _
 same:=fun b hb hne=>by simp[setBlock,Array.getElem?_setIfInBounds,Ne.symm hne]
 cel:=fun cs t f h=>by rw[hm] at h;cases h;cases ho
 dfr:=fun d h=>by rw[hm] at h;cases h;exact hd d rfl
section
variable {IT:IterP} {P:Program} {F:Fence} {nn B:Nat}
theorem zwr (hIT:ITMono IT)(hF:FenceOk F P) {o:Oper} {S E:List AV} {U U':St} {X0 X:Cx} {a:Act} {x:AV} {next:Act->World->Prop} {Q:Exit->Act->World->Prop} (h:zyy IT P o E U x U')(hn:Now IT none F B X0 S U X a)
 (hρ: ∀y∈o.op.operands,Rep IT X (zcb E y) (a.eval y)) (hK: ∀X' v,Ext X X'->Now IT none F B X0 (zy S o.dst x) U' X' (a.put o.dst v)->next (a.put o.dst v) X'.w):o.wpIn F nn P a X.w next Q:=by
 have hG:zri P B none:=trivial;rcases h with⟨f,args,hc,rfl,hok,h⟩|ha
 ·obtain⟨vs,hrun,hr⟩:=zgm (P:=P) hc hρ h.1;unfold Oper.wpIn;refine⟨fun f _=>hF.fn f,?_⟩;rw[Oper.semAt_plain F _ _ (zmq hc),hrun];refine⟨fun hd=>(by rw[hF.depth] at hd;cases hd),hF.calls _ _ _ _ _ ?_⟩;refine(ziy hIT h rfl hok hn.inv hr).mono ?_;rintro e w' ⟨v,X',rfl,rfl,h1,h2,h3,_⟩;exact hK _ _ h1 (zch hG hIT hn h1 h2 ⟨rfl,rfl⟩ o.dst h3)
 ·obtain⟨v,X',h1,h2,h3,h4⟩:=zpe hIT ha hρ hn.inv;unfold Oper.wpIn;refine⟨fun f _=>hF.fn f,?_⟩;rw[Oper.semAt_plain F _ _ (zph ha)];rcases h1 with h1|⟨h1,rfl⟩
  ·rw[h1];exact hK _ _ h2 (zch hG hIT hn h2 h3 (zpd ha) o.dst h4)
  ·rw[h1];exact hK _ _ h2 (zch hG hIT hn h2 h3 (zpd ha) o.dst h4)
theorem qau (hIT:ITMono IT)(hF:FenceOk F P)(hmix:P.follows .mixedOrders=true) {id:Nat} {ops:Array Oper} {K:Exit->Act->World->Prop} {X0 X:Cx} {S E vs:List AV} {U:St} {a:Act} {sg:(Nat->Bool)->St} (Φ:(Nat->Bool)->Act->World->Prop)
 (hE:zhe ops.toList vs S=E) (hlen:ops.toList.length=vs.length) (hfl:floB ops S.length=true) (hback:zvu ops=true) (hσ:sg (fun j=>Nat.ble ops.size j)=U) (hΦ:Φ (fun j=>Nat.ble ops.size j) a X.w.drew) (hn:Now IT none F B X0 S U X a)
 (hop: ∀i o x,ops[i]? =some o->vs[i]? =some x->o.guard=none/\ ∀(d:Nat->Bool) (S':List AV) (X:Cx) (a:Act) (next:Act->World->Prop),X0.w.heap.size<=X.w.heap.size->d i=false->(∀t,(∀j,zbo ops j=some t->d j=true)->S'[t]? =E[t]?)->(∀j,zhs ops j i=true->d j=false)->(∀j,zhs ops i j=true->d j=true)->(∀j t,zbo ops j=some t->t∈zgn ops i->d j=true)->(∀y∈o.op.operands,Rep IT X (zcb E y) (a.eval y))->a.tmps.size=E.length->Now IT none F B X0 S' (sg d) X a->Φ d a X.w->
  (∀X' a',Now IT none F B X0 (zy S' o.dst x) (sg (zjl d i)) X' a'->Φ (zjl d i) a' X'.w->next a' X'.w)->o.wpIn F nn P a X.w next K)
 (hQ: ∀X a,Now IT none F B X0 E (sg fun _=>true) X a->Φ (fun _=>true) a X.w->K .normal a X.w):(Code.region id ops true).wpIn F nn P K a X.w:=by
 have hG:zri P B none:=trivial;have hdst: ∀ {j:Nat} {o:Oper},ops[j]? =some o->zbo ops j=o.dst:=fun {j o} ho=>by rw[zbo,ho];rfl
 have hEl:E.length=S.length:=by rw[<-hE,zju]
 have hat: ∀ {j:Nat} {o:Oper},ops[j]? =some o-> ∃a,vs[j]? =some a:=fun {j o} ho=>by
  have:=(Array.getElem?_eq_some_iff.1 ho).1;exact⟨vs[j]'(by simp at hlen;omega),List.getElem?_eq_getElem _⟩
 have hEd: ∀ {j:Nat} {o:Oper} {a:AV} {t:Tmp},ops[j]? =some o->vs[j]? =some a->o.dst=some t->E[t]? =some a:=fun {j o a t} ho ha ht=>by
  obtain⟨s1,s2,_⟩:=zjk hfl ((hdst ho).trans ht);rw[<-hE];exact znd _ _ _ j o a (by rw[<-ho,Array.getElem?_toList]) ha ht s1 fun i o' hi ho'=>by
   rw[Array.getElem?_toList] at hi;exact s2 i ((hdst hi).trans ho')
 have key: ∀(f:Nat) (listed:Array Bool) (S':List AV) (X:Cx) (a:Act),left ops.size listed=f->listed.size=ops.size->S'.length=E.length->
  (∀t,(∀j,zbo ops j=some t->listed.getD j true=true)->S'[t]? =E[t]?)->(∀j k,zhs ops j k=true->listed.getD j true=true->listed.getD k true=true)->Now IT none F B X0 S' (sg fun j=>listed.getD j true) X a->Φ (fun j=>listed.getD j true) a X.w->wpAnyIn F nn P .any ops K f listed a X.w:=by
  intro f;induction f with
  | zero=>
   intro listed S' X a h0 hs hl hk hcl hn hΦ;have hd:=zib ops.size h0;have hg: ∀j,listed.getD j true=true:=fun j=>by
    rcases lt_or_ge j ops.size with h'|h'
    ·exact hd j h'
    ·simp[Array.getElem?_eq_none (by rw[hs];exact h':listed.size<=j)]
   have e1:S'=E:=List.ext_getElem? fun t=>hk t fun j _=>hg j;have e2:(fun j=>listed.getD j true)=fun _=>true:=funext hg;rw[e1,e2] at hn;rw[e2] at hΦ;refine⟨List.eq_nil_iff_forall_not_mem.2 fun i hi=> ?_,hQ X a hn hΦ⟩;obtain⟨h1,o,ho,_⟩:=mem_ready.1 hi;rw[hg i] at h1;cases h1
  | succ f ih=>
   intro listed S' X a h0 hs hl hk hcl hn hΦ;obtain⟨i0,hi0,hu0,hb0⟩:=zlu ops.size (by rw[h0];exact Nat.succ_ne_zero f);have hr0:i0∈Region.ready .any ops listed:=by
    refine mem_ready.2 ⟨hu0,ops[i0],by simp[hi0],fun e he hb=> ?_⟩;have h1:=all_eq_true.1 hback i0 (List.mem_range.2 hi0);rw[Array.getElem?_eq_getElem hi0] at h1;have h2:=Array.all_eq_true'.1 h1 e he;have h3:e.on<i0:=by simpa[hb] using h2
    exact zne (by omega) (hb0 _ h3)
   refine⟨fun he=>(by rw[he] at hr0;cases hr0),fun i hi=> ?_⟩;obtain⟨hun,o,ho,hwait⟩:=mem_ready.1 hi;have hlt:i<ops.size:=(Array.getElem?_eq_some_iff.1 ho).1;obtain⟨x,hx⟩:=hat ho;obtain⟨hgu,hone⟩:=hop i o x ho hx;have hwr: ∀j t,zbo ops j=some t->t∈zgn ops i->listed.getD j true=true:=fun j t hj ht=>by
    obtain⟨o',ho',e,he,hb,hon⟩:=zeh ((zjk hfl hj).2.2 i ht);rw[ho] at ho';cases ho';rw[<-hon];exact zpn (hwait e he hb)
   have hwt: ∀j,zhs ops i j=true->listed.getD j true=true:=fun j hj=>by
    obtain⟨o',ho',e,he,hb,hon⟩:=zeh hj;rw[ho] at ho';cases ho';rw[<-hon];exact zpn (hwait e he hb)
   have hset: ∀t∈zgn ops i,S'[t]? =E[t]? :=fun t ht=>hk t fun j hj=>hwr j t hj ht;have hup:(fun j=>(listed.setIfInBounds i true).getD j true)=zjl (fun j=>listed.getD j true) i:=by
    funext j
    by_cases e:j=i
    ·subst e;rw[zdz];simp[hs,hlt]
    ·rw[zbq e,getD_set_ne true (Ne.symm e)]
   have next: ∀X' a',Now IT none F B X0 (zy S' o.dst x) (sg (zjl (fun j=>listed.getD j true) i)) X' a'->Φ (zjl (fun j=>listed.getD j true) i) a' X'.w->wpAnyIn F nn P .any ops K f (listed.setIfInBounds i true) a' X'.w:=fun X' a' hn' hΦ'=>by
    refine ih _ (zy S' o.dst x) X' a' (by have:=zlp hun ops.size hlt;omega) (by simp[hs]) (by rw[zbc];exact hl) (fun t ht=> ?_) (fun j k hw hj=> ?_) (by rw[hup];exact hn') (by rw[hup];exact hΦ')
    rotate_left
    ·by_cases ek:k=i
     ·subst ek;simp[hs,hlt]
     ·rw[getD_set_ne true (Ne.symm ek)];by_cases ej:j=i
      ·subst ej;exact hwt k hw
      ·rw[getD_set_ne true (Ne.symm ej)] at hj;exact hcl j k hw hj
    by_cases e:o.dst=some t
    ·rw[hEd ho hx e,e];have:t<S'.length:=by rw[hl,hEl];exact(zjk hfl ((hdst ho).trans e)).1
     exact List.getElem?_set_self this
    ·rw[z2p e];refine hk t fun j hj=> ?_;have:=ht j hj;rwa[getD_set_ne true (fun eq=>e (by rw[<-hdst ho,eq];exact hj))] at this
   have hopr: ∀y∈o.op.operands,Rep IT X (zcb E y) (a.eval y):=fun y hy=>by
    have e:zcb E y=zcb S' y:=by
     cases y with
     | tmp t=>
      have:t∈zgn ops i:=by
       simp only[zgn,ho];exact mem_append.2 (.inl (zgi (by simpa using hy)))
      simp only[zcb,hset t this]
     |const=>rfl
     |func=>rfl
     |global=>rfl
    rw[e];exact zdj hn.reps y
   unfold wpOpIn;rw[ho];simp only;rw[if_pos (by simp[Region.wanted,hgu])];have hsz:a.tmps.size=E.length:=by
    have:=zq hn.reps;simp at this;omega
   exact hone _ S' X a _ (show X0.w.heap.size<=X.w.heap.size from Ext.size hn.ext) hun hk (fun j hj=>by
    cases hq:listed.getD j true with
    |false=>rfl
    |true=>exact absurd (hcl j i hj hq) (by rw[hun];decide)) hwt hwr hopr hsz hn hΦ next
 refine wpIn_region_any hmix ?_;obtain⟨hEx,hI⟩:=zke hIT hn.inv;have hrs:zma IT {X with w:=X.w.drew} S a.tmps:=zaw hIT hEx _ _ hn.reps;have e0:(fun j=>(Array.replicate ops.size false).getD j true)=fun j=>Nat.ble ops.size j:=by
  funext j
  rcases lt_or_ge j ops.size with h'|h'
  ·have:Nat.ble ops.size j=false:=by
    cases h:Nat.ble ops.size j with
    |false=>rfl
    |true=>exact absurd (Nat.le_of_ble_eq_true h) (by omega)
   rw[this];simp[h']
  ·rw[Nat.ble_eq_true_of_le h'];simp[Nat.not_lt.2 h']
 have hnow:Now IT none F B X0 S (sg fun j=>(Array.replicate ops.size false).getD j true) {X with w:=X.w.drew} a:=by
  rw[e0,hσ];exact⟨hn.ext.trans (Rel.of hEx),hI,hrs,hn.marks.ext hEx hn.inv,trivial⟩
 have hleft: ∀m,m<=ops.size->left m (Array.replicate ops.size false)=m:=by
  intro m;induction m with
  |zero=>intro _;rfl
  |succ m ih=>intro hm;simp[left,ih (by omega),show m<ops.size by omega]
 refine key ops.size (Array.replicate ops.size false) S _ a (hleft _ (le_refl _)) (by simp) hEl.symm (fun t ht=> ?_) (fun j k hw hj=> ?_) hnow (by rw[e0];exact hΦ)
 rotate_left
 ·obtain⟨o',ho',_⟩:=zeh hw;have hj':=(Array.getElem?_eq_some_iff.1 ho').1;simp[hj'] at hj
 have hno: ∀o∈ops.toList,o.dst≠some t:=fun o ho he=>by
  obtain⟨j,hj,rfl⟩:=List.mem_iff_getElem.1 ho;have hj':j<ops.size:=by simpa using hj
  have hjo:ops[j]? =some (ops.toList[j]):=by simp[hj']
  have:=ht j ((hdst hjo).trans he);simp[hj'] at this
 rw[<-hE];exact(zir _ _ _ hno).symm
theorem any_gen (hmix:P.follows .mixedOrders=true) {id:Nat} {ops:Array Oper} {K:Exit->Act->World->Prop} {a:Act} {w:World} (I:(Nat->Bool)->Act->World->Prop)(hback:zvu ops=true)(h0:I (fun j=>Nat.ble ops.size j) a w.drew)
 (hop: ∀i o,ops.toList[i]? =some o->o.guard=none/\ ∀(d:Nat->Bool) (a:Act) (w:World) (next:Act->World->Prop),d i=false->(∀j,zhs ops j i=true->d j=false)->(∀j,zhs ops i j=true->d j=true)->I d a w->(∀a' w',I (zjl d i) a' w'->next a' w')->o.wpIn F nn P a w next K)
 (hQ: ∀a w,I (fun _=>true) a w->K .normal a w):(Code.region id ops true).wpIn F nn P K a w:=by
 have key: ∀(f:Nat) (listed:Array Bool) (a:Act) (w:World),left ops.size listed=f->listed.size=ops.size->(∀j k,zhs ops j k=true->listed.getD j true=true->listed.getD k true=true)->I (fun j=>listed.getD j true) a w->wpAnyIn F nn P .any ops K f listed a w:=by
  intro f;induction f with
  | zero=>
   intro listed a w h0 hs hcl hΦ;have hd:=zib ops.size h0;have hg: ∀j,listed.getD j true=true:=fun j=>by
    rcases lt_or_ge j ops.size with h'|h'
    ·exact hd j h'
    ·simp[Array.getElem?_eq_none (by rw[hs];exact h':listed.size<=j)]
   have e2:(fun j=>listed.getD j true)=fun _=>true:=funext hg;rw[e2] at hΦ;refine⟨List.eq_nil_iff_forall_not_mem.2 fun i hi=> ?_,hQ a w hΦ⟩;obtain⟨h1,o,ho,_⟩:=mem_ready.1 hi;rw[hg i] at h1;cases h1
  | succ f ih=>
   intro listed a w h0 hs hcl hΦ;obtain⟨i0,hi0,hu0,hb0⟩:=zlu ops.size (by rw[h0];exact Nat.succ_ne_zero f);have hr0:i0∈Region.ready .any ops listed:=by
    refine mem_ready.2 ⟨hu0,ops[i0],by simp[hi0],fun e he hb=> ?_⟩;have h1:=all_eq_true.1 hback i0 (List.mem_range.2 hi0);rw[Array.getElem?_eq_getElem hi0] at h1;have h2:=Array.all_eq_true'.1 h1 e he;have h3:e.on<i0:=by simpa[hb] using h2
    exact zne (by omega) (hb0 _ h3)
   refine⟨fun he=>(by rw[he] at hr0;cases hr0),fun i hi=> ?_⟩;obtain⟨hun,o,ho,hwait⟩:=mem_ready.1 hi;have hlt:i<ops.size:=(Array.getElem?_eq_some_iff.1 ho).1;obtain⟨hgu,hone⟩:=hop i o (by rw[<-ho,Array.getElem?_toList]);have hwt: ∀j,zhs ops i j=true->listed.getD j true=true:=fun j hj=>by
    obtain⟨o',ho',e,he,hb,hon⟩:=zeh hj;rw[ho] at ho';cases ho';rw[<-hon];exact zpn (hwait e he hb)
   have hup:(fun j=>(listed.setIfInBounds i true).getD j true)=zjl (fun j=>listed.getD j true) i:=by
    funext j
    by_cases e:j=i
    ·subst e;rw[zdz];simp[hs,hlt]
    ·rw[zbq e,getD_set_ne true (Ne.symm e)]
   unfold wpOpIn;rw[ho];simp only;rw[if_pos (by simp[Region.wanted,hgu])];refine hone _ a w _ hun (fun j hj=>by
    cases hq:listed.getD j true with
    |false=>rfl
    |true=>exact absurd (hcl j i hj hq) (by rw[hun];decide)) hwt hΦ fun a' w' hΦ'=> ?_
   refine ih _ a' w' (by have:=zlp hun ops.size hlt;omega) (by simp[hs]) (fun j k hw hj=> ?_) (by rw[hup];exact hΦ');by_cases ek:k=i
   ·subst ek;simp[hs,hlt]
   ·rw[getD_set_ne true (Ne.symm ek)];by_cases ej:j=i
    ·subst ej;exact hwt k hw
    ·rw[getD_set_ne true (Ne.symm ej)] at hj;exact hcl j k hw hj
 refine wpIn_region_any hmix ?_;have e0:(fun j=>(Array.replicate ops.size false).getD j true)=fun j=>Nat.ble ops.size j:=by
  funext j
  rcases lt_or_ge j ops.size with h'|h'
  ·have:Nat.ble ops.size j=false:=by
    cases h:Nat.ble ops.size j with
    |false=>rfl
    |true=>exact absurd (Nat.le_of_ble_eq_true h) (by omega)
   rw[this];simp[h']
  ·rw[Nat.ble_eq_true_of_le h'];simp[Nat.not_lt.2 h']
 have hleft: ∀m,m<=ops.size->left m (Array.replicate ops.size false)=m:=by
  intro m;induction m with
  |zero=>intro _;rfl
  |succ m ih=>intro hm;simp[left,ih (by omega),show m<ops.size by omega]
 refine key ops.size (Array.replicate ops.size false) a _ (hleft _ (le_refl _)) (by simp) (fun j k hw hj=> ?_) (by rw[e0];exact h0);obtain⟨o',ho',_⟩:=zeh hw;have hj':=(Array.getElem?_eq_some_iff.1 ho').1;simp[hj'] at hj
structure MI where
 om:Nat
 mvs:List (Nat×Nat×Bool)
 ins:List (Nat×Value×Nat)
 it:List (Nat×Nat)
structure MapAt (Mi:MI)(d:Nat->Bool)(a:Act)(es:Array MapEntry)(c:Nat):Prop where
 born: ∀e∈es.toList,e.born<c
 nd:(es.toList.map (·.born)).Nodup
 of: ∀e∈es.toList,∃q∈Mi.ins,d q.1=true/\ e.key=q.2.1/\ e.val=a.eval (.tmp q.2.2)
 all: ∀q∈Mi.ins,d q.1=true-> ∃e∈es.toList,e.key=q.2.1
structure MpOk (ops:Array Oper)(Mi:MI)(n0:Nat)(d:Nat->Bool)(a:Act)(w:World):Prop where
 ins: ∀q∈Mi.ins,d q.1=true->d Mi.om=true/\ ∀j,zbo ops j=some q.2.2->d j=true
 mvs: ∀p∈Mi.mvs,d p.1=true->d Mi.om=true/\ (p.2.2=true-> ∀q∈Mi.ins,d q.1=true)
 it: ∀p∈Mi.it,d p.1=true->d Mi.om=true/\ ∀q∈Mi.ins,d q.1=true
 map:d Mi.om=true-> ∃m es c,n0<=m/\ w.heap[m]? =some (.map es c)/\ (∀p∈Mi.mvs,d p.1=true->a.eval (.tmp p.2.1)= .map (some m))/\ MapAt Mi d a es c/\
  ∀p∈Mi.it,d p.1=true-> ∃r,n0<=r/\ w.heap[r]? =some (.mapIter (some m) c #[] c)/\ a.eval (.tmp p.2)= .pointer (some ⟨r,0,none⟩)
def qiq (Mi:MI)(i:Nat)(dst:Option Tmp):Bool:=
 (Mi.om !=i)&&(Mi.mvs.all fun p=>p.1 !=i&&decide (dst≠some p.2.1))&&(Mi.ins.all fun q=>q.1 !=i)&&Mi.it.all fun p=>p.1 !=i&&decide (dst≠some p.2)
theorem zep (a:Act)(d:Option Tmp)(v:Value)(t:Tmp)(h:d≠some t):(a.put d v).eval (.tmp t)=a.eval (.tmp t):=by
 refine Act.eval_put fun d' e=> ?_;rintro⟨⟩;exact h e
theorem qds {ops:Array Oper} {Mi:MI} {i:Nat} {a:Act} {w:World} {dst:Option Tmp} {v:Value} (h:MpOk ops Mi n0 d a w)(ho:qiq Mi i dst=true)(hd:d i=false)(hdst:zbo ops i=dst)
 (hw: ∀(k:Nat) (o:Obj),w.heap[k]? =some o->o.isCells=false->w'.heap[k]? =some o):MpOk ops Mi n0 (zjl d i) (a.put dst v) w':=by
 unfold qiq at ho;simp only[Bool.and_eq_true,all_eq_true,bne_iff_ne,ne_eq,decide_eq_true_eq] at ho;obtain⟨⟨⟨h1,h2⟩,h3⟩,h4⟩:=ho;have up: ∀j,j≠i->zjl d i j=d j:=fun j hj=>zbq hj;have up': ∀j,d j=true->zjl d i j=true:=fun j hj=>by
  by_cases e:j=i
  ·subst e;rw[hd] at hj;cases hj
  ·rw[up j e];exact hj
 refine⟨fun q hq hqd=> ?_,fun p hp hpd=> ?_,fun p hp hpd=> ?_,fun hom=> ?_⟩
 ·rw[up _ (h3 q hq)] at hqd;exact⟨up' _ (h.ins q hq hqd).1,fun j hj=>up' _ ((h.ins q hq hqd).2 j hj)⟩
 ·rw[up _ (h2 p hp).1] at hpd;exact⟨up' _ (h.mvs p hp hpd).1,fun hf q hq=>up' _ ((h.mvs p hp hpd).2 hf q hq)⟩
 ·rw[up _ (h4 p hp).1] at hpd;exact⟨up' _ (h.it p hp hpd).1,fun q hq=>up' _ ((h.it p hp hpd).2 q hq)⟩
 ·rw[up _ h1] at hom;obtain⟨m,es,c,k1,k2,k3,k4,k5⟩:=h.map hom;refine⟨m,es,c,k1,hw _ _ k2 rfl,fun p hp hpd=> ?_,⟨k4.born,k4.nd,fun e he=> ?_,fun q hq hqd=> ?_⟩,fun p hp hpd=> ?_⟩
  ·rw[up _ (h2 p hp).1] at hpd;rw[zep _ _ _ _ (h2 p hp).2];exact k3 p hp hpd
  ·obtain⟨q,hq,q1,q2,q3⟩:=k4.of e he;refine⟨q,hq,up' _ q1,q2,?_⟩;rw[zep _ _ _ _ fun e'=> ?_];exact q3;have:=(h.ins q hq q1).2 i (hdst.trans e');rw[hd] at this;cases this
  ·rw[up _ (h3 q hq)] at hqd;exact k4.all q hq hqd
  ·rw[up _ (h4 p hp).1] at hpd;obtain⟨r,r1,r2,r3⟩:=k5 p hp hpd;exact⟨r,r1,hw _ _ r2 rfl,by rw[zep _ _ _ _ (h4 p hp).2];exact r3⟩
end
def z8j (IT:IterP)(P:Program)(F:Fence)(nn B:Nat)(K:Exit->Act->World->Prop)(X0:Cx)(ops:Array Oper)(E:List AV)(sg:(Nat->Bool)->St)(Φ:(Nat->Bool)->Act->World->Prop)(i:Nat)(o:Oper)(x:AV):Prop:=
 o.guard=none/\ ∀(d:Nat->Bool) (S':List AV) (X:Cx) (a:Act) (next:Act->World->Prop),X0.w.heap.size<=X.w.heap.size->d i=false->(∀t,(∀j,zbo ops j=some t->d j=true)->S'[t]? =E[t]?)->(∀j,zhs ops j i=true->d j=false)->(∀j,zhs ops i j=true->d j=true)->(∀j t,zbo ops j=some t->t∈zgn ops i->d j=true)->(∀y∈o.op.operands,Rep IT X (zcb E y) (a.eval y))->a.tmps.size=E.length->Now IT none F B X0 S' (sg d) X a->Φ d a X.w->
  (∀X' a',Now IT none F B X0 (zy S' o.dst x) (sg (zjl d i)) X' a'->Φ (zjl d i) a' X'.w->next a' X'.w)->o.wpIn F nn P a X.w next K
section
variable {IT:IterP} {P:Program} {F:Fence} {nn B:Nat} {K:Exit->Act->World->Prop} {X0:Cx} {ops:Array Oper} {E:List AV} {sg:(Nat->Bool)->St} {Mi:MI} {i:Nat} {o:Oper} {x:AV}
theorem z5n (hIT:ITMono IT)(hF:FenceOk F P)(ho:ops[i]? =some o)(hg:o.guard=none)(hb:qiq Mi i o.dst=true)(h: ∀d,d i=false->(∀j,zhs ops j i=true->d j=false)->(∀j,zhs ops i j=true->d j=true)->zyy IT P o E (sg d) x (sg (zjl d i))):z8j IT P F nn B K X0 ops E sg (MpOk ops Mi X0.w.heap.size) i o x:=
 ⟨hg,fun d S' X a next hs hd hkk hbe hwt hwr hr hsz hn hΦ hK=>zwr hIT hF (h d hd hbe hwt) hn hr fun X' v hE hn'=>hK X' _ hn' (qds hΦ hb hd (by rw[zbo,ho];rfl) fun k o' hk hc=>hE.noncells hn.inv hk hc)⟩
theorem qbp (hIT:ITMono IT)(hF:FenceOk F P) {t tm:Nat} (hg:o.guard=none)(hop:o.op= .makeMap t none)(hd:o.dst=some tm)(hi:Mi.om=i)(hm:(i,tm,false)∈Mi.mvs)(hmv: ∀p∈Mi.mvs,p.1=i->p=(i,tm,false))(hin: ∀q∈Mi.ins,q.1≠i)(hit: ∀q∈Mi.it,q.1≠i)(htm:tm<E.length)(hsg: ∀d,sg (zjl d i)=sg d):
 z8j IT P F nn B K X0 ops E sg (MpOk ops Mi X0.w.heap.size) i o .top:=by
 subst hi;refine⟨hg,fun d S' X a next hs hd' hkk hbe hwt hwr hr hsz hn hΦ hK=> ?_⟩;unfold Oper.wpIn;refine⟨fun f _=>hF.fn f,?_⟩;rw[Oper.semAt_plain F _ _ (by intro c hc;rw[hop] at hc;cases hc)];have r1:(execOp a.eval o).run P X.w= .ok (.value (.map (some X.w.heap.size))) (X.w.alloc (.map #[] 0)):=by
  simp only[execOp,hop];rfl
 rw[r1];have n1:=zrf hIT hs hn (zut X.w (.map #[] 0) rfl);have n2:=zch (P:=P) (M:=none) trivial hIT n1 (Ext.refl _) n1.inv ⟨rfl,rfl⟩ o.dst (x:= .top) (v:= .map (some X.w.heap.size)) (by rw[Rep];trivial);refine hK _ _ (by rw[hsg];exact n2) ?_;have off: ∀j,j≠Mi.om->zjl d Mi.om j=true->d j=true:=fun j hj h=>by rwa[zbq hj] at h
 have no:d Mi.om≠true:=by rw[hd'];decide
 refine⟨fun q hq hqd=>absurd (hΦ.ins q hq (off _ (hin q hq) hqd)).1 no,fun p hp hpd=> ?_,fun p hp hpd=>absurd (hΦ.it p hp (off _ (hit p hp) hpd)).1 no,fun _=>⟨X.w.heap.size, #[],0,hs,zeu _ _ _ rfl,fun p hp hpd=> ?_,⟨by simp,by simp,by simp,fun q hq hqd=>absurd (hΦ.ins q hq (off _ (hin q hq) hqd)).1 no⟩,fun p hp hpd=>absurd (hΦ.it p hp (off _ (hit p hp) hpd)).1 no⟩⟩
 ·by_cases e:p.1=Mi.om
  ·rw[hmv p hp e];exact⟨zdz _ _,fun h=>by cases h⟩
  ·exact absurd (hΦ.mvs p hp (off _ e hpd)).1 no
 ·by_cases e:p.1=Mi.om
  ·rw[hmv p hp e,hd];have hl:tm<a.tmps.size:=by omega
   simp[Act.put,Act.eval,hl]
  ·exact absurd (hΦ.mvs p hp (off _ e hpd)).1 no
theorem du_mv (hIT:ITMono IT)(hF:FenceOk F P) {t t' j':Nat} {f f':Bool} (hg:o.guard=none)(hop:o.op= .move (.tmp t'))(hd:o.dst=some t)(ho:ops[i]? =some o)(hi:Mi.om≠i)(hm:(i,t,f)∈Mi.mvs)(hm':(j',t',f')∈Mi.mvs)(hj:zbo ops j'=some t')(hmv: ∀p∈Mi.mvs,p.1=i \/p.2.1=t->p=(i,t,f))(hin: ∀q∈Mi.ins,q.1≠i/\ q.2.2≠t)(hit: ∀q∈Mi.it,q.1≠i/\ q.2≠t)(htm:t<E.length)(hsg: ∀d,sg (zjl d i)=sg d)
 (hfull:f=true->(Mi.ins.all fun q=>zhs ops i q.1)=true):z8j IT P F nn B K X0 ops E sg (MpOk ops Mi X0.w.heap.size) i o .top:=by
 refine⟨hg,fun d S' X a next hs hd' hkk hbe hwt hwr hr hsz hn hΦ hK=> ?_⟩;unfold Oper.wpIn;refine⟨fun f _=>hF.fn f,?_⟩;rw[Oper.semAt_plain F _ _ (by intro c hc;rw[hop] at hc;cases hc)];have r1:(execOp a.eval o).run P X.w= .ok (.value (a.eval (.tmp t'))) X.w:=by simp[execOp,hop]
 rw[r1];have n2:=zch (P:=P) (M:=none) trivial hIT hn (Ext.refl _) hn.inv ⟨rfl,rfl⟩ o.dst (x:= .top) (v:=a.eval (.tmp t')) (by rw[Rep];trivial);refine hK _ _ (by rw[hsg];exact n2) ?_;have up: ∀j,j≠i->zjl d i j=d j:=fun j hj=>zbq hj;have up': ∀j,d j=true->zjl d i j=true:=fun j hj=>by
  by_cases e:j=i
  ·subst e;rw[hd'] at hj;cases hj
  ·rw[up j e];exact hj
 have hj':d j'=true:=hwr j' t' hj (by simp only[zgn,ho,hop];exact mem_append.2 (.inl (zgi (by simp[Op.operands]))));have hom:=(hΦ.mvs _ hm' hj').1;have ne: ∀t1,t1≠t->(a.put o.dst (a.eval (.tmp t'))).eval (.tmp t1)=a.eval (.tmp t1):=fun t1 h=>zep _ _ _ _ (by rw[hd];intro e;exact h (Option.some.inj e).symm);refine⟨fun q hq hqd=> ?_,fun p hp hpd=> ?_,fun p hp hpd=> ?_,fun _=> ?_⟩
 ·rw[up _ (hin q hq).1] at hqd;exact⟨up' _ (hΦ.ins q hq hqd).1,fun j hj=>up' _ ((hΦ.ins q hq hqd).2 j hj)⟩
 ·by_cases e:p.1=i
  ·rw[hmv p hp (.inl e)];exact⟨up' _ hom,fun hf q hq=>up' _ (hwt _ (all_eq_true.1 (hfull hf) q hq))⟩
  ·rw[up _ e] at hpd;exact⟨up' _ hom,fun hf q hq=>up' _ ((hΦ.mvs p hp hpd).2 hf q hq)⟩
 ·rw[up _ (hit p hp).1] at hpd;exact⟨up' _ hom,fun q hq=>up' _ ((hΦ.it p hp hpd).2 q hq)⟩
 ·obtain⟨m,es,c,k1,k2,k3,k4,k5⟩:=hΦ.map hom;refine⟨m,es,c,k1,k2,fun p hp hpd=> ?_,⟨k4.born,k4.nd,fun e he=> ?_,fun q hq hqd=> ?_⟩,fun p hp hpd=> ?_⟩
  ·by_cases e:p.1=i \/p.2.1=t
   ·rw[hmv p hp e,hd];have hl:t<a.tmps.size:=by omega
    have e2:(a.put (some t) (a.eval (.tmp t'))).eval (.tmp t)=a.eval (.tmp t'):=by simp[Act.put,Act.eval,hl]
    rw[e2];exact k3 _ hm' hj'
   ·rw[ne _ (fun h=>e (.inr h))];rw[up _ (fun h=>e (.inl h))] at hpd;exact k3 p hp hpd
  ·obtain⟨q,hq,q1,q2,q3⟩:=k4.of e he;exact⟨q,hq,up' _ q1,q2,by rw[ne _ (hin q hq).2];exact q3⟩
  ·rw[up _ (hin q hq).1] at hqd;exact k4.all q hq hqd
  ·rw[up _ (hit p hp).1] at hpd;obtain⟨r,r1,r2,r3⟩:=k5 p hp hpd;exact⟨r,r1,r2,by rw[ne _ (hit p hp).2];exact r3⟩
def zzr (kd:TypeDesc)(k k':Value):Prop:=Instr.sameNow kd k k'=some false
theorem zsi {kd:TypeDesc} {k:Value}: ∀ {l:List MapEntry} {i:Nat},(∀e∈l,zzr kd k e.key)->Instr.findNow kd k l i=some none
 |[],_,_=>rfl
 | e::l,i,h=>by
  have h1:Instr.sameNow kd k e.key=some false:=h e (by simp);simp only[Instr.findNow,h1];exact zsi fun e he=>h e (by simp[he])
theorem run_ins {P:Program} {W:World} {mt kt et:TypeId} {kd:TypeDesc} {b c:Nat} {es:Array MapEntry} {k:Value} (v:Value)(hm:P.underlying mt=some (.map kt et))(hkt:P.underlying kt=some kd)(hk:MapKept.IsKey kd k)(hb:W.heap[b]? =some (.map es c))(hno: ∀e∈es.toList,zzr kd k e.key):
 (Instr.mapUpdate mt (.map (some b)) k v).run P W= .ok () (setBlock W b (.map (es.push ⟨k,v,c⟩) (c+1))):=by
 unfold Instr.mapUpdate;simp only[Sem.run_bind,run_underlying hm,Result.andThen_ok,MapKept.run_getObj_map hb,MapKept.run_checkKey hkt hk,MapKept.run_findKey hkt (zsi hno)];rw[MapKept.run_setObj_map _ hb];rfl
theorem zol (hIT:ITMono IT)(hF:FenceOk F P) {t kt et tm tv j':Nat} {f':Bool} {kd:TypeDesc} {k:Value} (hg:o.guard=none)(hop:o.op= .insert t (.tmp tm) (.const k) (.tmp tv))(hd:o.dst=none)(ho:ops[i]? =some o)(hu:P.underlying t=some (.map kt et))(hkt:P.underlying kt=some kd)(hk:MapKept.IsKey kd k)(hi:Mi.om≠i)(hm:(i,k,tv)∈Mi.ins)(hm':(j',tm,f')∈Mi.mvs)(hj:zbo ops j'=some tm)
 (hin: ∀q∈Mi.ins,q=(i,k,tv) \/(q.1≠i/\ zzr kd k q.2.1)) (hmv: ∀p∈Mi.mvs,p.1≠i) (hit: ∀p∈Mi.it,p.1≠i) (hsg: ∀d,sg (zjl d i)=sg d):z8j IT P F nn B K X0 ops E sg (MpOk ops Mi X0.w.heap.size) i o (.raw undef):=by
 refine⟨hg,fun d S' X a next hs hd' hkk hbe hwt hwr hr hsz hn hΦ hK=> ?_⟩;have up: ∀j,j≠i->zjl d i j=d j:=fun j hj=>zbq hj;have up': ∀j,d j=true->zjl d i j=true:=fun j hj=>by
  by_cases e:j=i
  ·subst e;rw[hd'] at hj;cases hj
  ·rw[up j e];exact hj
 have hlk: ∀t1,t1=tm \/t1=tv->t1∈zgn ops i:=fun t1 h=>by
  simp only[zgn,ho,hop];refine mem_append.2 (.inl (zgi ?_));rcases h with rfl|rfl<;>simp[Op.operands]
 have hj':d j'=true:=hwr j' tm hj (hlk _ (.inl rfl));have hom:=(hΦ.mvs _ hm' hj').1;obtain⟨m,es,c,k1,k2,k3,k4,k5⟩:=hΦ.map hom;have hno: ∀e∈es.toList,zzr kd k e.key:=fun e he=>by
  obtain⟨q,hq,q1,q2,q3⟩:=k4.of e he;rcases hin q hq with rfl|⟨_,h⟩
  ·rw[hd'] at q1;cases q1
  ·rw[q2];exact h
 unfold Oper.wpIn;refine⟨fun f _=>hF.fn f,?_⟩;rw[Oper.semAt_plain F _ _ (by intro c hc;rw[hop] at hc;cases hc)];have r1:(execOp a.eval o).run P X.w= .ok .skip (setBlock X.w m (.map (es.push ⟨k,a.eval (.tmp tv),c⟩) (c+1))):=by
  have e1:a.eval (.tmp tm)= .map (some m):=k3 _ hm' hj';have e2:a.eval (.const k)=k:=rfl;simp only[execOp,hop,e1,e2,Sem.run_bind,run_ins (a.eval (.tmp tv)) hu hkt hk k2 hno];rfl
 rw[r1];have hsd:=z4a (.map (es.push ⟨k,a.eval (.tmp tv),c⟩) (c+1)) k2 rfl (fun _ h=>by cases h);have n1:=zrf hIT k1 hn hsd;have n2:=zch (P:=P) (M:=none) trivial hIT n1 (Ext.refl _) n1.inv ⟨rfl,rfl⟩ o.dst (x:= .raw undef) (v:=undef) (by rw[Rep]);refine hK _ _ (by rw[hsg];exact n2) ?_;have ev: ∀t1,(a.put o.dst undef).eval (.tmp t1)=a.eval (.tmp t1):=fun t1=>zep _ _ _ _ (by rw[hd];intro e;cases e);have hml:m<X.w.heap.size:=(Array.getElem?_eq_some_iff.1 k2).1;refine⟨fun q hq hqd=> ?_,fun p hp hpd=> ?_,fun p hp hpd=> ?_,fun _=>⟨m,es.push ⟨k,a.eval (.tmp tv),c⟩,c+1,k1,by simp[setBlock,hml],fun p hp hpd=> ?_,⟨fun e he=> ?_,?_,fun e he=> ?_,fun q hq hqd=> ?_⟩,fun p hp hpd=> ?_⟩⟩
 ·rcases hin q hq with rfl|⟨h,_⟩
  ·exact⟨up' _ hom,fun j hj=>up' _ (hwr j tv hj (hlk _ (.inr rfl)))⟩
  ·rw[up _ h] at hqd;exact⟨up' _ hom,fun j hj=>up' _ ((hΦ.ins q hq hqd).2 j hj)⟩
 ·rw[up _ (hmv p hp)] at hpd;exact⟨up' _ hom,fun hf q hq=>up' _ ((hΦ.mvs p hp hpd).2 hf q hq)⟩
 ·rw[up _ (hit p hp)] at hpd;exact⟨up' _ hom,fun q hq=>up' _ ((hΦ.it p hp hpd).2 q hq)⟩
 ·rw[up _ (hmv p hp)] at hpd;rw[ev];exact k3 p hp hpd
 ·rcases mem_append.1 (by simpa using he:e∈es.toList++[(⟨k,a.eval (.tmp tv),c⟩:MapEntry)]) with he|he
  ·have:=k4.born e he;omega
  ·simp at he;subst he;simp
 ·rw[Array.toList_push,List.map_append];refine List.nodup_append.2 ⟨k4.nd,by simp,fun x hx y hy e=> ?_⟩;obtain⟨e',he',rfl⟩:=List.mem_map.1 hx;simp at hy;have:=k4.born e' he';omega
 ·rcases mem_append.1 (by simpa using he:e∈es.toList++[(⟨k,a.eval (.tmp tv),c⟩:MapEntry)]) with he|he
  ·obtain⟨q,hq,q1,q2,q3⟩:=k4.of e he;exact⟨q,hq,up' _ q1,q2,by rw[ev];exact q3⟩
  ·simp at he;subst he;exact⟨_,hm,zdz _ _,rfl,(ev _).symm⟩
 ·rcases hin q hq with rfl|⟨h,_⟩
  ·exact⟨⟨k,a.eval (.tmp tv),c⟩,by simp,rfl⟩
  ·rw[up _ h] at hqd;obtain⟨e,he,hk⟩:=k4.all q hq hqd;exact⟨e,by simp[he],hk⟩
 ·rw[up _ (hit p hp)] at hpd;have:=(hΦ.it p hp hpd).2 _ hm;rw[hd'] at this;cases this
theorem du_look (hIT:ITMono IT)(hF:FenceOk F P) {tm j':Nat} (hg:o.guard=none)(hdf: ∀c,o.op≠ .defer c)(ho:ops[i]? =some o)(hb:qiq Mi i o.dst=true)(hm':(j',tm,true)∈Mi.mvs)(hj:zbo ops j'=some tm)(htm:tm∈zgn ops i)(hsg: ∀d,sg (zjl d i)=sg d)
 (h: ∀(X:Cx) (a:Act) (m c:Nat) (es:Array MapEntry),X.w.heap[m]? =some (.map es c)->a.eval (.tmp tm)= .map (some m)->(∀y∈o.op.operands,Rep IT X (zcb E y) (a.eval y))->(∀e∈es.toList,∃q∈Mi.ins,e.key=q.2.1/\ Rep IT X (E[q.2.2]?.getD (.raw undef)) e.val)->(∀q∈Mi.ins,∃e∈es.toList,e.key=q.2.1)-> ∃v,(execOp a.eval o).run P X.w= .ok (.value v) X.w/\ Rep IT X x v)
 :z8j IT P F nn B K X0 ops E sg (MpOk ops Mi X0.w.heap.size) i o x:=by
 refine⟨hg,fun d S' X a next hs hd' hkk hbe hwt hwr hr hsz hn hΦ hK=> ?_⟩;have hj':d j'=true:=hwr j' tm hj htm;obtain⟨hom,hall⟩:=hΦ.mvs _ hm' hj';obtain⟨m,es,c,k1,k2,k3,k4,k5⟩:=hΦ.map hom;obtain⟨v,r1,r2⟩:=h X a m c es k2 (k3 _ hm' hj') hr (fun e he=>by
  obtain⟨q,hq,q1,q2,q3⟩:=k4.of e he;refine⟨q,hq,q2,?_⟩;rw[q3, <-hkk _ (hΦ.ins q hq q1).2];exact zdj hn.reps (.tmp q.2.2)) (fun q hq=>k4.all q hq (hall rfl q hq))
 unfold Oper.wpIn;refine⟨fun f _=>hF.fn f,?_⟩;rw[Oper.semAt_plain F _ _ hdf,r1];have n2:=zch (P:=P) (M:=none) trivial hIT hn (Ext.refl _) hn.inv ⟨rfl,rfl⟩ o.dst r2;exact hK _ _ (by rw[hsg];exact n2) (qds hΦ hb hd' (by rw[zbo,ho];rfl) fun k o' hk hc=>hk)
def sgL (U0:St):List (Nat×St)->(Nat->Bool)->St
 |[],_=>U0
 |(p,U)::l,d=>bif d p then U else sgL U0 l d
theorem z9n {β:Type} {f:St->β} {y:β} {U0:St}: ∀ {l:List (Nat×St)},f U0=y->(∀p∈l,f p.2=y)->f (sgL U0 l d)=y
 |[],h,_=>h
 | (p,U)::l,h,k=>by
  rw[sgL];cases d p
  ·exact z9n (l:=l) h fun q hq=>k q (by simp[hq])
  ·exact k (p,U) (by simp)
theorem qhy {α:Type} {p:α->Prop} {x:α} {l:List α} (h:p x)(k: ∀y∈l,p y): ∀y∈x::l,p y:=fun y hy=>by
 rcases mem_cons.1 hy with rfl|hy
 ·exact h
 ·exact k y hy
theorem z6l {α:Type} {p:α->Prop}: ∀y∈([]:List α),p y:=fun y hy=>by cases hy
theorem d_l (hIT:ITMono IT)(hF:FenceOk F P) {U0:St} {l:List (Nat×St)} (h0:qop P (zcb E) U0 o=some x)(h: ∀p∈l,qop P (zcb E) p.2 o=some x)(hg:o.guard=none:=by exact rfl)(hb:qiq Mi i o.dst=true:=by exact rfl)(hs: ∀d,sgL U0 l (zjl d i)=sgL U0 l d:=by exact fun _=>rfl)(ho:ops[i]? =some o):z8j IT P F nn B K X0 ops E (sgL U0 l) (MpOk ops Mi X0.w.heap.size) i o x:=
 z5n hIT hF ho hg hb fun d _ _ _=>by rw[hs];exact .inr (.inl (by unfold aop;rw[z9n (f:=fun U=>qop P (zcb E) U o) h0 h]))
theorem d_q (hIT:ITMono IT)(hF:FenceOk F P)(h: ∀U,qop P (zcb E) U o=some x)(hg:o.guard=none:=by exact rfl)(hb:qiq Mi i o.dst=true:=by exact rfl)(hs: ∀d,sg (zjl d i)=sg d:=by exact fun _=>rfl)(ho:ops[i]? =some o):z8j IT P F nn B K X0 ops E sg (MpOk ops Mi X0.w.heap.size) i o x:=
 z5n hIT hF ho hg hb fun d _ _ _=>by rw[hs];exact .inr (.inl (by unfold aop;rw[h]))
theorem d_c (hIT:ITMono IT)(hF:FenceOk F P) {f:FuncId} {args args':List AV} (hp:Pure IT P f args' x)(hc:zdn E o=some (f,args):=by exact rfl)(hst:stripL args=args':=by kernel_rfl)(hok:zaf 0 args=true:=by kernel_rfl)(hg:o.guard=none:=by exact rfl)(hb:qiq Mi i o.dst=true:=by exact rfl)(hs: ∀d,sg (zjl d i)=sg d:=by exact fun _=>rfl)(ho:ops[i]? =some o):z8j IT P F nn B K X0 ops E sg (MpOk ops Mi X0.w.heap.size) i o x:=
 z5n hIT hF ho hg hb fun d _ _ _=>by rw[hs];exact .inl ⟨f,args,hc,rfl,hok,by rw[hst];exact hp⟩
theorem d_s (hIT:ITMono IT)(hF:FenceOk F P)(h: ∀d,d i=false->(∀j,zhs ops j i=true->d j=false)->(∀j,zhs ops i j=true->d j=true)->aop P (zcb E) (sg d) o=some (x,sg (zjl d i)))(hg:o.guard=none:=by exact rfl)(hb:qiq Mi i o.dst=true:=by exact rfl)(ho:ops[i]? =some o):z8j IT P F nn B K X0 ops E sg (MpOk ops Mi X0.w.heap.size) i o x:=
 z5n hIT hF ho hg hb fun d h1 h2 h3=> .inr (.inl (h d h1 h2 h3))
def qee (IT:IterP)(P:Program)(F:Fence)(nn B:Nat)(K:Exit->Act->World->Prop)(X0:Cx)(ops:Array Oper)(E:List AV)(sg:(Nat->Bool)->St)(Φ:(Nat->Bool)->Act->World->Prop):Nat->List Oper->List AV->Prop
 |i,o::l,x::vs=>(ops[i]? =some o->z8j IT P F nn B K X0 ops E sg Φ i o x)/\ qee IT P F nn B K X0 ops E sg Φ (i+1) l vs
 |_,[],[]=>True
 |_,_,_=>False
theorem zwc {Φ:(Nat->Bool)->Act->World->Prop}: ∀(l:List Oper) (vs:List AV) (k:Nat),qee IT P F nn B K X0 ops E sg Φ k l vs->l.length=vs.length/\ ∀j o x,l[j]? =some o->vs[j]? =some x->ops[k+j]? =some o->z8j IT P F nn B K X0 ops E sg Φ (k+j) o x
 |[],[],k,_=>⟨rfl,fun j o x h=>by simp at h⟩
 |[],_::_,_,h=>h.elim
 |_::_,[],_,h=>h.elim
 | o::l,a::vs,k,⟨h1,h2⟩=>by
  obtain⟨e,h3⟩:=zwc l vs (k+1) h2;refine⟨by simp[e],fun j o' x hj hx ho=> ?_⟩;cases j with
  |zero=>simp at hj hx;subst hj hx;exact h1 ho
  |succ j=>simp at hj hx;rw[show k+(j+1)=k+1+j by omega] at ho⊢;exact h3 j o' x hj hx ho
def bndB (Mi:MI)(n:Nat):Bool:=decide (Mi.om<n)&&(Mi.mvs.all fun p=>decide (p.1<n))&&(Mi.ins.all fun p=>decide (p.1<n))&&Mi.it.all fun p=>decide (p.1<n)
theorem z4e {a:Act} {w:World} (h:bndB Mi ops.size=true):MpOk ops Mi n0 (fun j=>Nat.ble ops.size j) a w:=by
 unfold bndB at h;simp only[Bool.and_eq_true,all_eq_true,decide_eq_true_eq] at h;obtain⟨⟨⟨h1,h2⟩,h3⟩,h4⟩:=h;have no: ∀ {j},j<ops.size-> ¬Nat.ble ops.size j=true:=fun hj h=>by have:=Nat.le_of_ble_eq_true h;omega
 exact⟨fun q hq h=>absurd h (no (h3 q hq)),fun q hq h=>absurd h (no (h2 q hq)),fun q hq h=>absurd h (no (h4 q hq)),fun h=>absurd h (no h1)⟩
end
theorem zza {kd:TypeDesc} {k:Value}: ∀ {l:List MapEntry} {i:Nat},(∀e∈l,∃b,Instr.sameNow kd k e.key=some b)->(∃e∈l,Instr.sameNow kd k e.key=some true)-> ∃j e,e∈l/\ Instr.sameNow kd k e.key=some true/\ Instr.findNow kd k l i=some (some (j,e.val))
 |[],_,_,⟨e,he,_⟩=>by cases he
 | e ::l,i,h,⟨f,hf,hk⟩=>by
  obtain⟨b,hb⟩:=h e (by simp);cases b with
  |true=>exact⟨i,e,by simp,hb,by simp only[Instr.findNow,hb]⟩
  | false=>
   obtain⟨j,e',h1,h2,h3⟩:=zza (l:=l) (i:=i+1) (fun e he=>h e (by simp[he])) (by
    rcases mem_cons.1 hf with rfl|hf
    ·rw[hb] at hk;cases hk
    ·exact⟨f,hf,hk⟩)
   exact⟨j,e',by simp[h1],h2,by simp only[Instr.findNow,hb];exact h3⟩
def zkj (i:Nat):Code->Option (Array Oper)
 | .region j ops _=>if i=j then some ops else none
 | .seq x y=>match zkj i x with|some r=>some r|none=>zkj i y
 | .cond _ x y=>match zkj i x with|some r=>some r|none=>zkj i y
 | .block _ x=>zkj i x
 | .loop x=>zkj i x
 | .scope x=>zkj i x
 | .rangeFunc _ _ x y=>match zkj i x with|some r=>some r|none=>zkj i y
 |_=>none
theorem sem_map {IT:IterP} {P:Program} (hIT:ITMono IT)(hmix:P.follows .mixedOrders=true) {id:Nat} {ops:Array Oper} {S E vs:List AV} {U U':St} {sg:(Nat->Bool)->St} (Mi:MI)
 (hall: ∀ {F:Fence} {nn B:Nat} {K:Exit->Act->World->Prop} {X0:Cx},FenceOk F P->qee IT P F nn B K X0 ops E sg (MpOk ops Mi X0.w.heap.size) 0 ops.toList vs)
 (hE:zhe ops.toList vs S=E:=by kernel_rfl) (hfl:(floB ops S.length&&zvu ops)=true:=by kernel_rfl) (hσ:sg (fun j=>Nat.ble ops.size j)=U:=by kernel_rfl) (hσ':sg (fun _=>true)=U':=by kernel_rfl) (hb:bndB Mi ops.size=true:=by kernel_rfl):qel IT P (.region id ops true) S U E U':=by
 intro F nn B X0 X a hF hI0 hn hfe;rw[Bool.and_eq_true] at hfl;obtain⟨hl,hat⟩:=zwc _ _ _ (hall (nn:=nn) (B:=B) (K:=fun e a' w'=>e= .normal/\ ∃X',X'.w=w'/\ Now IT none F B X0 E U' X' a') (X0:=X0) hF);refine qau hIT hF hmix (MpOk ops Mi X0.w.heap.size) hE hl hfl.1 hfl.2 hσ (z4e hb) hn (fun i o x ho hx=> ?_) fun X a hn hΦ=>⟨rfl,X,rfl,hσ'▸hn⟩;have:=hat i o x (by rw[<-ho,Array.getElem?_toList]) hx (by rw[Nat.zero_add];exact ho);rw[Nat.zero_add] at this;exact this
end Go.Ab
