import Derived.Test.YtnoccnalocdldaaDoorZgW1
set_option linter.all false
set_option maxRecDepth 100000
set_option maxHeartbeats 4000000
namespace Go.Ab
open Go Go.RowKit Go.Fwd Go.Proofs
def zrj (fuel:Nat)(s:(List UInt8)):Option (Int×Int):=
 (zdr (τ:=Int×Int) (zbo (β:=Int×Int) (fun s1=>(bif (decide (s1.2<(List.length s:Int))) then(bif (decide (s1.2<2)) then(chk (0≤s1.2∧s1.2<(List.length s:Int)) (zbi (ix s s1.2) (fun x1=>(bif (decide ((((x1).toNat:Nat):Int)≥48)) then(chk (0≤s1.2∧s1.2<(List.length s:Int)) (zbi (ix s s1.2) (fun x2=>(bif (decide ((((x2).toNat:Nat):Int)≤57)) then(chk (-9223372036854775808≤(10*s1.1)∧(10*s1.1)<9223372036854775808) (chk (0≤s1.2∧s1.2<(List.length s:Int)) (zbi (ix s s1.2) (fun x3=>(chk (-9223372036854775808≤(IntKind.u8.wrap ((((x3).toNat:Nat):Int)-48))∧(IntKind.u8.wrap ((((x3).toNat:Nat):Int)-48))<9223372036854775808) (chk (-9223372036854775808≤((10*s1.1)+(IntKind.u8.wrap ((((x3).toNat:Nat):Int)-48)))∧((10*s1.1)+(IntKind.u8.wrap ((((x3).toNat:Nat):Int)-48)))<9223372036854775808) (chk (-9223372036854775808≤(s1.2+1)∧(s1.2+1)<9223372036854775808) (some (Sum.inl (((10*s1.1)+(IntKind.u8.wrap ((((x3).toNat:Nat):Int)-48))),(s1.2+1))))))))))) else(some (Sum.inr (Sum.inl (s1.1,s1.2)))))))) else(some (Sum.inr (Sum.inl (s1.1,s1.2)))))))) else(some (Sum.inr (Sum.inl (s1.1,s1.2))))) else(some (Sum.inr (Sum.inl (s1.1,s1.2)))))) fuel (0,0)) (fun j1=>(some (j1.1,j1.2))))
theorem ent97:Ent Tryd.prog 97:=enters_of Tryd.func97 (by kernel_rfl) rfl
theorem z0g (fuel:Nat)(s:(List UInt8))(r:(Int×Int))(h:zrj fuel s=some r):Pure (ITP Tryd.prog) Tryd.prog 97 [.raw (.string (bs s))] (.tup [.raw (.int .i64 r.1),.raw (.int .i64 r.2)]):=by
 unfold zrj at h
 refine zby 37 mix Tryd.func97 ent97 ?_
 refine zx [.v (.i 0),.v (.i 0)] ?_
 refine zx [.v (.i 0),.v (.i 0)] ?_
 refine zbh h (bz 0 38 274877906943) (fun j1=>[(4,.i j1.1),(5,.i j1.2)]) (fun j1=>(.B [])) ?_ ?_
 intro or1 h hr1
 refine zag ?_
 refine zcx h (bz 0 38 274877906942) (fun s1=>[(4,.i s1.1),(5,.i s1.2)]) (fun s1=>(.B [])) ?_ ?_
 exact zcs (bl 38 49)
 intro s1 p1 h
 refine zet ?_
 refine zi ?_
 refine zx [.m _,.m _] ?_
 refine w_o (a:= .i (List.length s:Int)) (h:=zbb (zdv rfl rfl rfl)) ?_
 refine w_o (a:= .b (decide (s1.2<(List.length s:Int)))) ?_
 refine zaa h (fun hc1 h=> ?_) (fun hc1 h=> ?_)
 refine zak hc1 ?_
 refine w_r [.m _,.v (.b (decide (s1.2<2))),.v (.b (decide (s1.2<2)))] ?_
 refine zaa h (fun hc2 h=> ?_) (fun hc2 h=> ?_)
 refine zak hc2 ?_
 refine w_r [.m _,.m _] ?_
 refine zan rfl rfl ?_
 obtain⟨g1,h⟩:=zp h
 obtain⟨x1,hx1,h⟩:=zt h
 refine w_o (a:= .u (((x1).toNat:Nat):Int)) (h:=zbb (by rw[←hx1];exact(zdd (l:=s) (n:=s1.2) g1 rfl rfl rfl rfl))) ?_
 refine w_r [.v (.b (decide ((((x1).toNat:Nat):Int)≥48))),.v (.b (decide ((((x1).toNat:Nat):Int)≥48)))] ?_
 refine zaa h (fun hc3 h=> ?_) (fun hc3 h=> ?_)
 refine zak hc3 ?_
 refine w_r [.m _,.m _] ?_
 refine zan rfl rfl ?_
 obtain⟨g2,h⟩:=zp h
 obtain⟨x2,hx2,h⟩:=zt h
 refine w_o (a:= .u (((x2).toNat:Nat):Int)) (h:=zbb (by rw[←hx2];exact(zdd (l:=s) (n:=s1.2) g2 rfl rfl rfl rfl))) ?_
 refine w_r [.v (.b (decide ((((x2).toNat:Nat):Int)≤57))),.v (.b (decide ((((x2).toNat:Nat):Int)≤57)))] ?_
 refine zcd h (fun hc4 h=> ?_) (fun hc4 h=> ?_)
 refine zag ?_
 refine zx [.m _] ?_
 obtain⟨g3,h⟩:=zp h
 refine w_o (a:= .i (10*s1.1)) (h:=zbb (q_mul rfl rfl rfl rfl g3.1 g3.2)) ?_
 refine w_r [.m _,.m _] ?_
 obtain⟨g4,h⟩:=zp h
 obtain⟨x3,hx3,h⟩:=zt h
 refine w_o (a:= .u (((x3).toNat:Nat):Int)) (h:=zbb (by rw[←hx3];exact(zdd (l:=s) (n:=s1.2) g4 rfl rfl rfl rfl))) ?_
 refine w_o (a:= .u (IntKind.u8.wrap ((((x3).toNat:Nat):Int)-48))) ?_
 obtain⟨g5,h⟩:=zp h
 refine w_o (a:= .i (IntKind.u8.wrap ((((x3).toNat:Nat):Int)-48))) (h:=zbb (zib g5 rfl rfl rfl)) ?_
 obtain⟨g6,h⟩:=zp h
 refine zio g6 ?_
 refine zac ?_
 refine zc (k0:=0) (id:=4) ?_
 refine zac ?_
 obtain⟨g7,h⟩:=zp h
 refine zio g7 ?_
 refine zac ?_
 refine zbs (p:=p1) (((10*s1.1)+(IntKind.u8.wrap ((((x3).toNat:Nat):Int)-48))),(s1.2+1)) h ?_
 exact zcs (bl 38 49)
 refine zaj h (fun h=> ?_)
 refine zg (o:=or1) (s1.1,s1.2) h ?_
 exact zcs (bl 38 48)
 refine zak hc3 ?_
 refine w_r [.p,.p,.p,.p,.v (.b false)] ?_
 refine zax rfl ?_
 refine zaj h (fun h=> ?_)
 refine zg (o:=or1) (s1.1,s1.2) h ?_
 exact zcs (bl 38 48)
 refine zak hc2 ?_
 refine w_r [.p,.p,.p,.p,.v (.b false)] ?_
 refine w_r [.m _,.p,.p,.p,.p] ?_
 refine w_r [.v (.b false)] ?_
 refine zax rfl ?_
 refine zaj h (fun h=> ?_)
 refine zg (o:=or1) (s1.1,s1.2) h ?_
 exact zcs (bl 38 48)
 refine zak hc1 ?_
 refine w_r [.p,.p,.v (.b false),.m _,.p] ?_
 refine w_r [.p,.p,.p,.v (.b false),.m _] ?_
 refine w_r [.p,.p,.p,.p,.v (.b false)] ?_
 refine zax rfl ?_
 refine zaj h (fun h=> ?_)
 refine zg (o:=or1) (s1.1,s1.2) h ?_
 exact zcs (bl 38 48)
 intro j1 h
 refine zet ?_
 refine zx [.m _,.m _,.m _,.m _] ?_
 exact zaq (fun(r:(Int×Int))=> .tup [.i r.1,.i r.2]) h (.tup [.i j1.1,.i j1.2])
def zxb (fuel:Nat)(s:(List UInt8)):Option (Int×Int×Int×Int):=
 (chk (0≤(1:Int)∧(1:Int)≤(List.length s:Int)∧(List.length s:Int)≤(List.length s:Int)) (zbi (sub s (1:Int) (List.length s:Int)) (fun x1=>(zar (zrj fuel x1) (fun x2=>(chk (-9223372036854775808≤(1+x2.2)∧(1+x2.2)<9223372036854775808) (zdr (τ:=Int×Int) (bif (decide (x2.2>0)) then(bif (decide ((1+x2.2)<(List.length s:Int))) then(chk (0≤(1+x2.2)∧(1+x2.2)<(List.length s:Int)) (zbi (ix s (1+x2.2)) (fun x3=>(bif ((((x3).toNat:Nat):Int)==44) then(chk (-9223372036854775808≤((1+x2.2)+1)∧((1+x2.2)+1)<9223372036854775808) (chk (0≤((1+x2.2)+1)∧((1+x2.2)+1)≤(List.length s:Int)∧(List.length s:Int)≤(List.length s:Int)) (zbi (sub s ((1+x2.2)+1) (List.length s:Int)) (fun x4=>(zar (zrj fuel x4) (fun x5=>(zdr (τ:=Int) (bif (x5.2==0) then(some (Sum.inl ((-1)))) else(some (Sum.inl (x5.1)))) (fun j2=>(chk (-9223372036854775808≤(((1+x2.2)+1)+x5.2)∧(((1+x2.2)+1)+x5.2)<9223372036854775808) (some (Sum.inl (j2,(((1+x2.2)+1)+x5.2))))))))))))) else(some (Sum.inl (x2.1,(1+x2.2)))))))) else(some (Sum.inl (x2.1,(1+x2.2))))) else(some (Sum.inl (x2.1,(1+x2.2))))) (fun j1=>(bif (x2.2==0) then(some (0,0,j1.2,93)) else(bif (j1.2==(List.length s:Int)) then(some (0,0,j1.2,93)) else(chk (0≤j1.2∧j1.2<(List.length s:Int)) (zbi (ix s j1.2) (fun x6=>(bif ((((x6).toNat:Nat):Int) !=125) then(some (0,0,j1.2,93)) else(zdr (τ:=Unit) (bif (j1.1==0) then(some (Sum.inr (0,0,0,93))) else(bif (decide (x2.1>16)) then(some (Sum.inr (0,0,0,93))) else(bif (decide (j1.1>16)) then(some (Sum.inr (0,0,0,93))) else(bif (j1.1 !=(-1)) then(bif (decide (j1.1<x2.1)) then(some (Sum.inr (0,0,0,93))) else(some (Sum.inl ()))) else(some (Sum.inl ())))))) (fun j3=>(chk (-9223372036854775808≤(j1.2+1)∧(j1.2+1)<9223372036854775808) (some (x2.1,j1.1,(j1.2+1),0)))))))))))))))))))
theorem ent88:Ent Tryd.prog 88:=enters_of Tryd.func88 (by kernel_rfl) rfl
theorem qbe (fuel:Nat)(s:(List UInt8))(r:(Int×Int×Int×Int))(h:zxb fuel s=some r):Pure (ITP Tryd.prog) Tryd.prog 88 [.raw (.string (bs s))] (.tup [.raw (.int .i64 r.1),.raw (.int .i64 r.2.1),.raw (.int .i64 r.2.2.1),.raw (.int .i64 r.2.2.2)]):=by
 unfold zxb at h
 refine zby 85 mix Tryd.func88 ent88 ?_
 refine zx [.v (.i 0),.v (.i 0),.v (.i 0),.v (.i 0)] ?_
 refine zx [.m _] ?_
 obtain⟨g1,h⟩:=zp h
 obtain⟨x1,hx1,h⟩:=zt h
 refine w_o (a:= .s x1) (h:=zbb (by rw[←hx1];exact(zmg (l:=s) g1 rfl rfl rfl rfl))) ?_
 obtain⟨x2,hx2,h⟩:=zv h
 refine zdb (z0g fuel x1 x2 hx2) ?_
 refine w_r [.m _,.x _,.x _,.m _,.m _] ?_
 refine zx [.m _] ?_
 obtain⟨g2,h⟩:=zp h
 refine zio g2 ?_
 refine zac ?_
 refine zx [.m _,.m _] ?_
 refine zbh h (bz 0 86 77371252455336267181195194) (fun j1=>[(3,.i j1.1),(7,.i j1.2)]) (fun j1=>(.B [])) ?_ ?_
 intro or1 h hr1
 refine zx [.m _,.v (.b (decide (x2.2>0)))] ?_
 refine zaa h (fun hc1 h=> ?_) (fun hc1 h=> ?_)
 refine zak hc1 ?_
 refine w_r [.m _,.m _] ?_
 refine zan rfl rfl ?_
 refine w_o (a:= .i (List.length s:Int)) (h:=zbb (zdv rfl rfl rfl)) ?_
 refine w_r [.v (.b (decide ((1+x2.2)<(List.length s:Int)))),.v (.b (decide ((1+x2.2)<(List.length s:Int))))] ?_
 refine zaa h (fun hc2 h=> ?_) (fun hc2 h=> ?_)
 refine zak hc2 ?_
 refine w_r [.m _,.m _] ?_
 refine zan rfl rfl ?_
 obtain⟨g3,h⟩:=zp h
 obtain⟨x3,hx3,h⟩:=zt h
 refine w_o (a:= .u (((x3).toNat:Nat):Int)) (h:=zbb (by rw[←hx3];exact(zdd (l:=s) (n:=(1+x2.2)) g3 rfl rfl rfl rfl))) ?_
 refine w_r [.v (.b ((((x3).toNat:Nat):Int)==44)),.v (.b ((((x3).toNat:Nat):Int)==44))] ?_
 refine zcd h (fun hc3 h=> ?_) (fun hc3 h=> ?_)
 refine zx [.m _] ?_
 obtain⟨g4,h⟩:=zp h
 refine zio g4 ?_
 refine zac ?_
 refine zx [.m _,.m _] ?_
 obtain⟨g5,h⟩:=zp h
 obtain⟨x4,hx4,h⟩:=zt h
 refine w_o (a:= .s x4) (h:=zbb (by rw[←hx4];exact(zmg (l:=s) g5 rfl rfl rfl rfl))) ?_
 obtain⟨x5,hx5,h⟩:=zv h
 refine zdb (z0g fuel x4 x5 hx5) ?_
 refine w_r [.m _,.x _,.x _,.m _,.m _] ?_
 refine zx [.m _,.m _] ?_
 refine zbh h (bz 0 86 77371252455336267181194554) (fun j2=>[(3,.i j2)]) (fun j2=>(.B [])) ?_ ?_
 intro or2 h hr2
 refine zx [.m _,.v (.b (x5.2==0))] ?_
 refine zcd h (fun hc4 h=> ?_) (fun hc4 h=> ?_)
 refine zc (k0:=0) (id:=9) ?_
 refine w_o (a:= .i (-1)) ?_
 refine zg (o:=or2) ((-1)) h ?_
 exact zcs (bl 86 717)
 refine zg (o:=or2) (x5.1) h ?_
 exact zcs (bl 86 717)
 intro j2 h
 refine zet ?_
 refine zc (k0:=0) (id:=10) ?_
 refine w_r [.m _,.m _] ?_
 obtain⟨g6,h⟩:=zp h
 refine zio g6 ?_
 refine zac ?_
 refine zg (o:=or1) (j2,(((1+x2.2)+1)+x5.2)) h ?_
 exact zcs (bl 86 205)
 refine zg (o:=or1) (x2.1,(1+x2.2)) h ?_
 exact zcs (bl 86 205)
 refine zak hc2 ?_
 refine w_r [.p,.p,.p,.p,.v (.b false)] ?_
 refine zax rfl ?_
 refine zg (o:=or1) (x2.1,(1+x2.2)) h ?_
 exact zcs (bl 86 205)
 refine zak hc1 ?_
 refine w_r [.p,.p,.p,.p,.v (.b false)] ?_
 refine w_r [.m _,.p,.p,.p,.p] ?_
 refine w_r [.v (.b false)] ?_
 refine zax rfl ?_
 refine zg (o:=or1) (x2.1,(1+x2.2)) h ?_
 exact zcs (bl 86 205)
 intro j1 h
 refine zet ?_
 refine zi ?_
 refine zx [.m _,.v (.b (x2.2==0))] ?_
 refine zaa h (fun hc5 h=> ?_) (fun hc5 h=> ?_)
 refine zak hc5 ?_
 refine w_r [.p,.p,.p,.p,.v (.b true)] ?_
 refine w_r [.m _,.p,.p,.p,.p] ?_
 refine w_r [.v (.b true)] ?_
 refine zbf rfl ?_
 refine zx [.m _,.v (.i 0),.v (.i 0),.m _,.v (.i 93)] ?_
 exact zaq (fun(r:(Int×Int×Int×Int))=> .tup [.i r.1,.i r.2.1,.i r.2.2.1,.i r.2.2.2]) h (.tup [.i 0,.i 0,.i j1.2,.i 93])
 refine zak hc5 ?_
 refine w_r [.m _,.m _] ?_
 refine zan rfl rfl ?_
 refine w_o (a:= .i (List.length s:Int)) (h:=zbb (zdv rfl rfl rfl)) ?_
 refine w_r [.v (.b (j1.2==(List.length s:Int))),.v (.b (j1.2==(List.length s:Int)))] ?_
 refine zaa h (fun hc6 h=> ?_) (fun hc6 h=> ?_)
 refine zak hc6 ?_
 refine w_r [.p,.p,.p,.p,.v (.b true)] ?_
 refine zbf rfl ?_
 refine zx [.m _,.v (.i 0),.v (.i 0),.m _,.v (.i 93)] ?_
 exact zaq (fun(r:(Int×Int×Int×Int))=> .tup [.i r.1,.i r.2.1,.i r.2.2.1,.i r.2.2.2]) h (.tup [.i 0,.i 0,.i j1.2,.i 93])
 refine zak hc6 ?_
 refine w_r [.m _,.m _] ?_
 refine zan rfl rfl ?_
 obtain⟨g7,h⟩:=zp h
 obtain⟨x6,hx6,h⟩:=zt h
 refine w_o (a:= .u (((x6).toNat:Nat):Int)) (h:=zbb (by rw[←hx6];exact(zdd (l:=s) (n:=j1.2) g7 rfl rfl rfl rfl))) ?_
 refine w_r [.v (.b ((((x6).toNat:Nat):Int) !=125)),.v (.b ((((x6).toNat:Nat):Int) !=125))] ?_
 refine zcd h (fun hc7 h=> ?_) (fun hc7 h=> ?_)
 refine zx [.m _,.v (.i 0),.v (.i 0),.m _,.v (.i 93)] ?_
 exact zaq (fun(r:(Int×Int×Int×Int))=> .tup [.i r.1,.i r.2.1,.i r.2.2.1,.i r.2.2.2]) h (.tup [.i 0,.i 0,.i j1.2,.i 93])
 refine zbh h (bz 0 82 4835698666491023294726269) (fun j3=>[(2,.i x2.1),(3,.i j1.1)]) (fun j3=>(.B [])) ?_ ?_
 intro or3 h hr3
 refine zx [.m _,.v (.b (j1.1==0))] ?_
 refine zaa h (fun hc8 h=> ?_) (fun hc8 h=> ?_)
 refine zak hc8 ?_
 refine w_r [.p,.p,.v (.b true),.m _,.p] ?_
 refine w_r [.p,.v (.b true),.m _,.p,.p] ?_
 refine w_r [.p,.p,.p,.p,.p] ?_
 refine w_r [.v (.b true)] ?_
 refine zbf rfl ?_
 refine zx [.v (.i 0),.v (.i 0),.v (.i 0),.v (.i 93)] ?_
 replace h:=zq h hr3
 exact zaq (fun(r:(Int×Int×Int×Int))=> .tup [.i r.1,.i r.2.1,.i r.2.2.1,.i r.2.2.2]) h (.tup [.i 0,.i 0,.i 0,.i 93])
 refine zak hc8 ?_
 refine w_r [.m _,.v (.b (decide (x2.1>16))),.v (.b (decide (x2.1>16)))] ?_
 refine zaa h (fun hc9 h=> ?_) (fun hc9 h=> ?_)
 refine zak hc9 ?_
 refine w_r [.p,.p,.v (.b true),.m _,.p] ?_
 refine w_r [.p,.p,.p,.p,.p] ?_
 refine w_r [.p,.v (.b true)] ?_
 refine zbf rfl ?_
 refine zx [.v (.i 0),.v (.i 0),.v (.i 0),.v (.i 93)] ?_
 replace h:=zq h hr3
 exact zaq (fun(r:(Int×Int×Int×Int))=> .tup [.i r.1,.i r.2.1,.i r.2.2.1,.i r.2.2.2]) h (.tup [.i 0,.i 0,.i 0,.i 93])
 refine zak hc9 ?_
 refine w_r [.m _,.v (.b (decide (j1.1>16))),.v (.b (decide (j1.1>16)))] ?_
 refine zaa h (fun hc10 h=> ?_) (fun hc10 h=> ?_)
 refine zak hc10 ?_
 refine w_r [.p,.p,.p,.p,.p] ?_
 refine w_r [.p,.p,.v (.b true)] ?_
 refine zbf rfl ?_
 refine zx [.v (.i 0),.v (.i 0),.v (.i 0),.v (.i 93)] ?_
 replace h:=zq h hr3
 exact zaq (fun(r:(Int×Int×Int×Int))=> .tup [.i r.1,.i r.2.1,.i r.2.2.1,.i r.2.2.2]) h (.tup [.i 0,.i 0,.i 0,.i 93])
 refine zak hc10 ?_
 refine w_r [.m _,.v (.b (j1.1 !=(-1)))] ?_
 refine zan rfl rfl ?_
 refine zaa h (fun hc11 h=> ?_) (fun hc11 h=> ?_)
 refine zak hc11 ?_
 refine w_r [.m _,.m _,.v (.b (decide (j1.1<x2.1))),.v (.b (decide (j1.1<x2.1))),.v (.b (decide (j1.1<x2.1)))] ?_
 refine zcd h (fun hc12 h=> ?_) (fun hc12 h=> ?_)
 refine zx [.v (.i 0),.v (.i 0),.v (.i 0),.v (.i 93)] ?_
 replace h:=zq h hr3
 exact zaq (fun(r:(Int×Int×Int×Int))=> .tup [.i r.1,.i r.2.1,.i r.2.2.1,.i r.2.2.2]) h (.tup [.i 0,.i 0,.i 0,.i 93])
 refine zg (o:=or3) () h ?_
 exact zcs (bl 86 72535553788845243886469006)
 refine zak hc11 ?_
 refine w_r [.p,.p,.p,.v (.b false),.v (.b false)] ?_
 refine zax rfl ?_
 refine zg (o:=or3) () h ?_
 exact zcs (bl 86 72535553788845243886469006)
 intro j3 h
 refine zet ?_
 refine zx [.m _,.m _,.m _] ?_
 obtain⟨g8,h⟩:=zp h
 refine zio g8 ?_
 refine w_r [.m _,.m _,.m _,.v (.i 0)] ?_
 exact zaq (fun(r:(Int×Int×Int×Int))=> .tup [.i r.1,.i r.2.1,.i r.2.2.1,.i r.2.2.2]) h (.tup [.i x2.1,.i j1.1,.i (j1.2+1),.i 0])
def z3q (fuel:Nat)(s:(List UInt8)):Option (Int×Int×Int×Int):=
 (bif (s==([]:List UInt8)) then(some (1,1,0,0)) else(chk (0≤(0:Int)∧(0:Int)<(List.length s:Int)) (zbi (ix s (0:Int)) (fun x1=>(bif ((((x1).toNat:Nat):Int)==42) then(some (0,(-1),1,0)) else(bif ((((x1).toNat:Nat):Int)==43) then(some (1,(-1),1,0)) else(bif ((((x1).toNat:Nat):Int)==63) then(some (0,1,1,0)) else(bif ((((x1).toNat:Nat):Int)==123) then(zar (zxb fuel s) (fun x2=>(some (x2.1,x2.2.1,x2.2.2.1,x2.2.2.2)))) else(some (1,1,0,0))))))))))
theorem ent71:Ent Tryd.prog 71:=enters_of Tryd.func71 (by kernel_rfl) rfl
theorem qex (fuel:Nat)(s:(List UInt8))(r:(Int×Int×Int×Int))(h:z3q fuel s=some r):Pure (ITP Tryd.prog) Tryd.prog 71 [.raw (.string (bs s))] (.tup [.raw (.int .i64 r.1),.raw (.int .i64 r.2.1),.raw (.int .i64 r.2.2.1),.raw (.int .i64 r.2.2.2)]):=by
 unfold z3q at h
 refine zby 23 mix Tryd.func71 ent71 ?_
 refine zx [.v (.i 0),.v (.i 0),.v (.i 0),.v (.i 0)] ?_
 refine zi ?_
 refine zx [.m _] ?_
 refine w_o (a:= .b (s==([]:List UInt8))) (h:=zbb (qdp rfl rfl rfl)) ?_
 refine zcd h (fun hc1 h=> ?_) (fun hc1 h=> ?_)
 refine zx [.v (.i 1),.v (.i 1),.v (.i 0),.v (.i 0)] ?_
 exact zaq (fun(r:(Int×Int×Int×Int))=> .tup [.i r.1,.i r.2.1,.i r.2.2.1,.i r.2.2.2]) h (.tup [.i 1,.i 1,.i 0,.i 0])
 refine zi ?_
 refine zx [.m _] ?_
 obtain⟨g1,h⟩:=zp h
 obtain⟨x1,hx1,h⟩:=zt h
 refine w_o (a:= .u (((x1).toNat:Nat):Int)) (h:=zbb (by rw[←hx1];exact(zdd (l:=s) (n:=(0:Int)) g1 rfl rfl rfl rfl))) ?_
 refine zag ?_
 refine zx [.v (.b ((((x1).toNat:Nat):Int)==42)),.m _] ?_
 refine zcd h (fun hc2 h=> ?_) (fun hc2 h=> ?_)
 refine zx [.v (.i 0),.v (.i (-1)),.v (.i 1),.v (.i 0)] ?_
 exact zaq (fun(r:(Int×Int×Int×Int))=> .tup [.i r.1,.i r.2.1,.i r.2.2.1,.i r.2.2.2]) h (.tup [.i 0,.i (-1),.i 1,.i 0])
 refine zx [.v (.b ((((x1).toNat:Nat):Int)==43)),.m _] ?_
 refine zcd h (fun hc3 h=> ?_) (fun hc3 h=> ?_)
 refine zx [.v (.i 1),.v (.i (-1)),.v (.i 1),.v (.i 0)] ?_
 exact zaq (fun(r:(Int×Int×Int×Int))=> .tup [.i r.1,.i r.2.1,.i r.2.2.1,.i r.2.2.2]) h (.tup [.i 1,.i (-1),.i 1,.i 0])
 refine zx [.v (.b ((((x1).toNat:Nat):Int)==63)),.m _] ?_
 refine zcd h (fun hc4 h=> ?_) (fun hc4 h=> ?_)
 refine zx [.v (.i 0),.v (.i 1),.v (.i 1),.v (.i 0)] ?_
 exact zaq (fun(r:(Int×Int×Int×Int))=> .tup [.i r.1,.i r.2.1,.i r.2.2.1,.i r.2.2.2]) h (.tup [.i 0,.i 1,.i 1,.i 0])
 refine zx [.v (.b ((((x1).toNat:Nat):Int)==123)),.m _] ?_
 refine zcd h (fun hc5 h=> ?_) (fun hc5 h=> ?_)
 refine zx [.m _] ?_
 obtain⟨x2,hx2,h⟩:=zv h
 refine zdb (qbe fuel s x2 hx2) ?_
 refine w_r [.x _,.x _,.x _,.x _,.m _] ?_
 refine w_r [.m _,.m _,.m _] ?_
 exact zaq (fun(r:(Int×Int×Int×Int))=> .tup [.i r.1,.i r.2.1,.i r.2.2.1,.i r.2.2.2]) h (.tup [.i x2.1,.i x2.2.1,.i x2.2.2.1,.i x2.2.2.2])
 refine zx [.v (.i 1),.v (.i 1),.v (.i 0),.v (.i 0)] ?_
 exact zaq (fun(r:(Int×Int×Int×Int))=> .tup [.i r.1,.i r.2.1,.i r.2.2.1,.i r.2.2.2]) h (.tup [.i 1,.i 1,.i 0,.i 0])
def zus (s:(List UInt8)):Option Bool:=
 (chk (List.length s≤9223372036854775807) (zbi (Lib.trimSuffix s ([36]:List UInt8),Lib.hasSuffix s ([36]:List UInt8)) (fun x1=>(bif x1.2 then(chk (List.length x1.1≤9223372036854775807) (zbi (Lib.trimRightB x1.1 92) (fun x2=>(chk (-9223372036854775808≤((List.length x1.1:Int)-(List.length x2:Int))∧((List.length x1.1:Int)-(List.length x2:Int))<9223372036854775808) (some ((Int.tmod ((List.length x1.1:Int)-(List.length x2:Int)) 2)==0)))))) else(some false)))))
theorem ent19:Ent Tryd.prog 19:=enters_of Tryd.func19 (by kernel_rfl) rfl
theorem ends_sh (s:(List UInt8))(r:Bool)(h:zus s=some r):Pure (ITP Tryd.prog) Tryd.prog 19 [.raw (.string (bs s))] (.raw (.bool r)):=by
 unfold zus at h
 refine zby 20 mix Tryd.func19 ent19 ?_
 refine zx [.v (.b false)] ?_
 refine zx [.m _] ?_
 obtain⟨g1,h⟩:=zp h
 obtain⟨x1,hx1,h⟩:=zt h
 refine zdb (args':=[.s s,.s ([36]:List UInt8)]) (r:= .tup [.s x1.1,.b x1.2]) (by rw[←hx1];exact(qbt s ([36]:List UInt8) g1)) ?_
 refine w_r [.m _,.x _,.x _,.m _,.m _] ?_
 refine zx [.m _] ?_
 refine zaa h (fun hc1 h=> ?_) (fun hc1 h=> ?_)
 refine zak hc1 ?_
 refine zan rfl rfl ?_
 refine zac ?_
 refine zan rfl rfl ?_
 refine w_o (a:= .i (List.length x1.1:Int)) (h:=zbb (zdv rfl rfl rfl)) ?_
 refine zan rfl rfl ?_
 refine zac ?_
 refine zan rfl rfl ?_
 obtain⟨g2,h⟩:=zp h
 obtain⟨x2,hx2,h⟩:=zt h
 refine zdb (args':=[.s x1.1,.s ([92]:List UInt8)]) (r:= .s x2) (by rw[←hx2];exact(z6v x1.1 92 (by decide) g2)) ?_
 refine zan rfl rfl ?_
 refine w_o (a:= .i (List.length x2:Int)) (h:=zbb (zdv rfl rfl rfl)) ?_
 refine zan rfl rfl ?_
 obtain⟨g3,h⟩:=zp h
 refine w_sb g3 ?_
 refine w_r [.v (.i (Int.tmod ((List.length x1.1:Int)-(List.length x2:Int)) 2)),.v (.b ((Int.tmod ((List.length x1.1:Int)-(List.length x2:Int)) 2)==0)),.v (.b ((Int.tmod ((List.length x1.1:Int)-(List.length x2:Int)) 2)==0)),.m _] ?_
 exact zbe h
 refine zak hc1 ?_
 refine w_r [.p,.p,.p,.p,.p] ?_
 refine w_r [.p,.p,.p,.v (.b false),.m _] ?_
 exact zbe h
def zij (c:Int):Option Int:=
 (zdr (τ:=Unit) (chk (0≤(orI .u8 c 32)∧(orI .u8 c 32)<256) (zbi (Lib.indexByte ([48,49,50,51,52,53,54,55,56,57,97,98,99,100,101,102]:List UInt8) (z1o (orI .u8 c 32))) (fun x1=>(bif (decide (c≥48)) then(bif (decide (c≤57)) then(chk (-9223372036854775808≤(IntKind.u8.wrap (c-48))∧(IntKind.u8.wrap (c-48))<9223372036854775808) (some (Sum.inr (IntKind.u8.wrap (c-48))))) else(bif (decide (x1≥10)) then(bif (decide (c≥65)) then(some (Sum.inr x1)) else(some (Sum.inl ()))) else(some (Sum.inl ())))) else(bif (decide (x1≥10)) then(bif (decide (c≥65)) then(some (Sum.inr x1)) else(some (Sum.inl ()))) else(some (Sum.inl ()))))))) (fun j1=>(some 16)))
theorem ent48:Ent Tryd.prog 48:=enters_of Tryd.func48 (by kernel_rfl) rfl
theorem znr (c:Int)(r:Int)(h:zij c=some r):Pure (ITP Tryd.prog) Tryd.prog 48 [.raw (.int .u8 c)] (.raw (.int .i64 r)):=by
 unfold zij at h
 refine zby 24 mix Tryd.func48 ent48 ?_
 refine zx [.v (.i 0)] ?_
 refine zbh h (bz 0 25 33554431) (fun j1=>[]) (fun j1=>(.B [])) ?_ ?_
 intro or1 h hr1
 refine zx [.m _,.v (.u (orI .u8 c 32))] ?_
 obtain⟨g1,h⟩:=zp h
 obtain⟨x1,hx1,h⟩:=zt h
 refine zdb (args':=[.s ([48,49,50,51,52,53,54,55,56,57,97,98,99,100,101,102]:List UInt8),.u (orI .u8 c 32)]) (r:= .i x1) (by rw[←hx1];exact(zyl ([48,49,50,51,52,53,54,55,56,57,97,98,99,100,101,102]:List UInt8) g1)) ?_
 refine zac ?_
 refine zag ?_
 refine zx [.m _,.v (.b (decide (c≥48)))] ?_
 refine zaa h (fun hc1 h=> ?_) (fun hc1 h=> ?_)
 refine zak hc1 ?_
 refine w_r [.m _,.v (.b (decide (c≤57))),.v (.b (decide (c≤57))),.m _] ?_
 refine zcd h (fun hc2 h=> ?_) (fun hc2 h=> ?_)
 refine zx [.m _,.v (.u (IntKind.u8.wrap (c-48)))] ?_
 obtain⟨g2,h⟩:=zp h
 refine w_o (a:= .i (IntKind.u8.wrap (c-48))) (h:=zbb (zib g2 rfl rfl rfl)) ?_
 refine zac ?_
 replace h:=zq h hr1
 exact zjd h
 refine zx [.m _,.v (.b (decide (x1≥10)))] ?_
 refine zaa h (fun hc3 h=> ?_) (fun hc3 h=> ?_)
 refine zak hc3 ?_
 refine w_r [.m _,.v (.b (decide (c≥65))),.v (.b (decide (c≥65))),.m _] ?_
 refine zcd h (fun hc4 h=> ?_) (fun hc4 h=> ?_)
 refine zx [.m _,.m _] ?_
 replace h:=zq h hr1
 exact zjd h
 refine zg (o:=or1) () h ?_
 exact zcs (bl 25 0)
 refine zak hc3 ?_
 refine w_r [.p,.p,.v (.b false),.m _] ?_
 refine zax rfl ?_
 refine zg (o:=or1) () h ?_
 exact zcs (bl 25 0)
 refine zak hc1 ?_
 refine w_r [.p,.p,.v (.b false),.m _] ?_
 refine zax rfl ?_
 refine zx [.m _,.v (.b (decide (x1≥10)))] ?_
 refine zaa h (fun hc5 h=> ?_) (fun hc5 h=> ?_)
 refine zak hc5 ?_
 refine w_r [.m _,.v (.b (decide (c≥65))),.v (.b (decide (c≥65))),.m _] ?_
 refine zcd h (fun hc6 h=> ?_) (fun hc6 h=> ?_)
 refine zx [.m _,.m _] ?_
 replace h:=zq h hr1
 exact zjd h
 refine zg (o:=or1) () h ?_
 exact zcs (bl 25 0)
 refine zak hc5 ?_
 refine w_r [.p,.p,.v (.b false),.m _] ?_
 refine zax rfl ?_
 refine zg (o:=or1) () h ?_
 exact zcs (bl 25 0)
 intro j1 h
 refine zet ?_
 refine zx [.v (.i 16)] ?_
 exact zjd h
def zjz (m:BS)(c:Int):Option Bool:=
 (bif (decide ((orI .u8 c 32)≥97)) then(bif (decide (c≥48)) then(zar (znc m c) (fun x1=>(bif x1 then(bif (decide (c≥32)) then(bif (decide (c≤126)) then(bif (!(decide ((orI .u8 c 32)≤122))) then(some (!(decide (c≤57)))) else(some false)) else(some false)) else(some false)) else(some false)))) else(zar (znc m c) (fun x2=>(bif x2 then(bif (decide (c≥32)) then(bif (decide (c≤126)) then(bif (!(decide ((orI .u8 c 32)≤122))) then(some true) else(some false)) else(some false)) else(some false)) else(some false))))) else(bif (decide (c≥48)) then(zar (znc m c) (fun x3=>(bif x3 then(bif (decide (c≥32)) then(bif (decide (c≤126)) then(some (!(decide (c≤57)))) else(some false)) else(some false)) else(some false)))) else(zar (znc m c) (fun x4=>(bif x4 then(bif (decide (c≥32)) then(bif (decide (c≤126)) then(some true) else(some false)) else(some false)) else(some false))))))
theorem ent46:Ent Tryd.prog 46:=enters_of Tryd.func46 (by kernel_rfl) rfl
theorem zld (m:BS)(c:Int)(r:Bool)(h:zjz m c=some r):Pure (ITP Tryd.prog) Tryd.prog 46 [.A (m:BS),.raw (.int .u8 c)] (.raw (.bool r)):=by
 unfold zjz at h
 refine zby 38 mix Tryd.func46 ent46 ?_
 refine zi (zc ?_)
 refine zcb (a:= .ptr 0 0) (σ'':=(.B [(27,(Enc.cells (m:BS)))])) ?_
 refine w_o (a:= .b false) ?_
 refine zx [.m _,.v (.u (orI .u8 c 32)),.v (.b (decide ((orI .u8 c 32)≥97)))] ?_
 refine zaa h (fun hc1 h=> ?_) (fun hc1 h=> ?_)
 refine zak hc1 ?_
 refine w_r [.m _,.v (.u (orI .u8 c 32)),.v (.b (decide ((orI .u8 c 32)≤122))),.v (.b (decide ((orI .u8 c 32)≤122))),.m _] ?_
 refine zx [.m _,.v (.b (decide (c≥48)))] ?_
 refine zaa h (fun hc2 h=> ?_) (fun hc2 h=> ?_)
 refine zak hc2 ?_
 refine w_r [.m _,.v (.b (decide (c≤57))),.v (.b (decide (c≤57))),.m _] ?_
 refine zx [.v (.A (m:BS)),.m _] ?_
 obtain⟨x1,hx1,h⟩:=zv h
 refine zdb (zsp m c x1 hx1) ?_
 refine zaa h (fun hc3 h=> ?_) (fun hc3 h=> ?_)
 refine zak hc3 ?_
 refine w_r [.m _,.v (.b (decide (c≥32))),.v (.b (decide (c≥32)))] ?_
 refine zaa h (fun hc4 h=> ?_) (fun hc4 h=> ?_)
 refine zak hc4 ?_
 refine w_r [.m _,.v (.b (decide (c≤126))),.v (.b (decide (c≤126)))] ?_
 refine zaa h (fun hc5 h=> ?_) (fun hc5 h=> ?_)
 refine zak hc5 ?_
 refine w_r [.m _,.v (.b (!(decide ((orI .u8 c 32)≤122)))),.v (.b (!(decide ((orI .u8 c 32)≤122))))] ?_
 refine zaa h (fun hc6 h=> ?_) (fun hc6 h=> ?_)
 refine zak hc6 ?_
 refine w_r [.m _,.v (.b (!(decide (c≤57)))),.v (.b (!(decide (c≤57)))),.m _] ?_
 exact zbe h
 refine zak hc6 ?_
 refine w_r [.p,.p,.v (.b false),.m _] ?_
 exact zbe h
 refine zak hc5 ?_
 refine w_r [.p,.p,.v (.b false),.m _,.p] ?_
 refine w_r [.p,.v (.b false),.m _] ?_
 exact zbe h
 refine zak hc4 ?_
 refine w_r [.p,.p,.v (.b false),.m _,.p] ?_
 refine w_r [.p,.v (.b false),.m _,.p,.p] ?_
 refine w_r [.v (.b false),.m _] ?_
 exact zbe h
 refine zak hc3 ?_
 refine w_r [.p,.p,.v (.b false),.m _,.p] ?_
 refine w_r [.p,.v (.b false),.m _,.p,.p] ?_
 refine w_r [.v (.b false),.m _,.p,.p,.v (.b false)] ?_
 refine w_r [.m _] ?_
 exact zbe h
 refine zak hc2 ?_
 refine w_r [.p,.p,.v (.b false),.m _] ?_
 refine zx [.v (.A (m:BS)),.m _] ?_
 obtain⟨x2,hx2,h⟩:=zv h
 refine zdb (zsp m c x2 hx2) ?_
 refine zaa h (fun hc7 h=> ?_) (fun hc7 h=> ?_)
 refine zak hc7 ?_
 refine w_r [.m _,.v (.b (decide (c≥32))),.v (.b (decide (c≥32)))] ?_
 refine zaa h (fun hc8 h=> ?_) (fun hc8 h=> ?_)
 refine zak hc8 ?_
 refine w_r [.m _,.v (.b (decide (c≤126))),.v (.b (decide (c≤126)))] ?_
 refine zaa h (fun hc9 h=> ?_) (fun hc9 h=> ?_)
 refine zak hc9 ?_
 refine w_r [.m _,.v (.b (!(decide ((orI .u8 c 32)≤122)))),.v (.b (!(decide ((orI .u8 c 32)≤122))))] ?_
 refine zaa h (fun hc10 h=> ?_) (fun hc10 h=> ?_)
 refine zak hc10 ?_
 refine w_r [.m _,.v (.b true),.v (.b true),.m _] ?_
 exact zbe h
 refine zak hc10 ?_
 refine w_r [.p,.p,.v (.b false),.m _] ?_
 exact zbe h
 refine zak hc9 ?_
 refine w_r [.p,.p,.v (.b false),.m _,.p] ?_
 refine w_r [.p,.v (.b false),.m _] ?_
 exact zbe h
 refine zak hc8 ?_
 refine w_r [.p,.p,.v (.b false),.m _,.p] ?_
 refine w_r [.p,.v (.b false),.m _,.p,.p] ?_
 refine w_r [.v (.b false),.m _] ?_
 exact zbe h
 refine zak hc7 ?_
 refine w_r [.p,.p,.v (.b false),.m _,.p] ?_
 refine w_r [.p,.v (.b false),.m _,.p,.p] ?_
 refine w_r [.v (.b false),.m _,.p,.p,.v (.b false)] ?_
 refine w_r [.m _] ?_
 exact zbe h
 refine zak hc1 ?_
 refine w_r [.p,.p,.p,.v (.b false),.m _] ?_
 refine zx [.m _,.v (.b (decide (c≥48)))] ?_
 refine zaa h (fun hc11 h=> ?_) (fun hc11 h=> ?_)
 refine zak hc11 ?_
 refine w_r [.m _,.v (.b (decide (c≤57))),.v (.b (decide (c≤57))),.m _] ?_
 refine zx [.v (.A (m:BS)),.m _] ?_
 obtain⟨x3,hx3,h⟩:=zv h
 refine zdb (zsp m c x3 hx3) ?_
 refine zaa h (fun hc12 h=> ?_) (fun hc12 h=> ?_)
 refine zak hc12 ?_
 refine w_r [.m _,.v (.b (decide (c≥32))),.v (.b (decide (c≥32)))] ?_
 refine zaa h (fun hc13 h=> ?_) (fun hc13 h=> ?_)
 refine zak hc13 ?_
 refine w_r [.m _,.v (.b (decide (c≤126))),.v (.b (decide (c≤126)))] ?_
 refine zaa h (fun hc14 h=> ?_) (fun hc14 h=> ?_)
 refine zak hc14 ?_
 refine w_r [.m _,.v (.b true),.v (.b true),.m _,.m _] ?_
 refine w_r [.v (.b (!(decide (c≤57)))),.v (.b (!(decide (c≤57)))),.m _] ?_
 exact zbe h
 refine zak hc14 ?_
 refine w_r [.p,.p,.v (.b false),.m _,.p] ?_
 refine w_r [.p,.v (.b false),.m _] ?_
 exact zbe h
 refine zak hc13 ?_
 refine w_r [.p,.p,.v (.b false),.m _,.p] ?_
 refine w_r [.p,.v (.b false),.m _,.p,.p] ?_
 refine w_r [.v (.b false),.m _] ?_
 exact zbe h
 refine zak hc12 ?_
 refine w_r [.p,.p,.v (.b false),.m _,.p] ?_
 refine w_r [.p,.v (.b false),.m _,.p,.p] ?_
 refine w_r [.v (.b false),.m _,.p,.p,.v (.b false)] ?_
 refine w_r [.m _] ?_
 exact zbe h
 refine zak hc11 ?_
 refine w_r [.p,.p,.v (.b false),.m _] ?_
 refine zx [.v (.A (m:BS)),.m _] ?_
 obtain⟨x4,hx4,h⟩:=zv h
 refine zdb (zsp m c x4 hx4) ?_
 refine zaa h (fun hc15 h=> ?_) (fun hc15 h=> ?_)
 refine zak hc15 ?_
 refine w_r [.m _,.v (.b (decide (c≥32))),.v (.b (decide (c≥32)))] ?_
 refine zaa h (fun hc16 h=> ?_) (fun hc16 h=> ?_)
 refine zak hc16 ?_
 refine w_r [.m _,.v (.b (decide (c≤126))),.v (.b (decide (c≤126)))] ?_
 refine zaa h (fun hc17 h=> ?_) (fun hc17 h=> ?_)
 refine zak hc17 ?_
 refine w_r [.m _,.v (.b true),.v (.b true),.m _,.m _] ?_
 refine w_r [.v (.b true),.v (.b true),.m _] ?_
 exact zbe h
 refine zak hc17 ?_
 refine w_r [.p,.p,.v (.b false),.m _,.p] ?_
 refine w_r [.p,.v (.b false),.m _] ?_
 exact zbe h
 refine zak hc16 ?_
 refine w_r [.p,.p,.v (.b false),.m _,.p] ?_
 refine w_r [.p,.v (.b false),.m _,.p,.p] ?_
 refine w_r [.v (.b false),.m _] ?_
 exact zbe h
 refine zak hc15 ?_
 refine w_r [.p,.p,.v (.b false),.m _,.p] ?_
 refine w_r [.p,.v (.b false),.m _,.p,.p] ?_
 refine w_r [.v (.b false),.m _,.p,.p,.v (.b false)] ?_
 refine w_r [.m _] ?_
 exact zbe h
def zhf (s:(List UInt8))(m:BS):Option (Int×Int×Int):=
 (zdr (τ:=Unit) (bif (s==([]:List UInt8)) then(some (Sum.inr (0,0,20))) else(chk (0≤(0:Int)∧(0:Int)<(List.length s:Int)) (zbi (ix s (0:Int)) (fun x1=>(bif ((((x1).toNat:Nat):Int) !=92) then(chk (0≤(0:Int)∧(0:Int)<(List.length s:Int)) (zbi (ix s (0:Int)) (fun x2=>(bif (decide ((((x2).toNat:Nat):Int)≥32)) then(chk (0≤(0:Int)∧(0:Int)<(List.length s:Int)) (zbi (ix s (0:Int)) (fun x3=>(bif (decide ((((x3).toNat:Nat):Int)≤126)) then(chk (0≤(0:Int)∧(0:Int)<(List.length s:Int)) (zbi (ix s (0:Int)) (fun x4=>(zar (zjz m (((x4).toNat:Nat):Int)) (fun x5=>(bif (!x5) then(chk (0≤(0:Int)∧(0:Int)<(List.length s:Int)) (zbi (ix s (0:Int)) (fun x6=>(some (Sum.inr ((((x6).toNat:Nat):Int),1,0)))))) else(chk (0≤(0:Int)∧(0:Int)<(List.length s:Int)) (zbi (ix s (0:Int)) (fun x7=>(bif ((((x7).toNat:Nat):Int) !=92) then(some (Sum.inr (0,0,20))) else(bif (decide ((List.length s:Int)<2)) then(some (Sum.inr (0,0,20))) else(some (Sum.inl ()))))))))))))) else(chk (0≤(0:Int)∧(0:Int)<(List.length s:Int)) (zbi (ix s (0:Int)) (fun x8=>(bif ((((x8).toNat:Nat):Int) !=92) then(some (Sum.inr (0,0,20))) else(bif (decide ((List.length s:Int)<2)) then(some (Sum.inr (0,0,20))) else(some (Sum.inl ()))))))))))) else(chk (0≤(0:Int)∧(0:Int)<(List.length s:Int)) (zbi (ix s (0:Int)) (fun x9=>(bif ((((x9).toNat:Nat):Int) !=92) then(some (Sum.inr (0,0,20))) else(bif (decide ((List.length s:Int)<2)) then(some (Sum.inr (0,0,20))) else(some (Sum.inl ()))))))))))) else(chk (0≤(0:Int)∧(0:Int)<(List.length s:Int)) (zbi (ix s (0:Int)) (fun x10=>(bif ((((x10).toNat:Nat):Int) !=92) then(some (Sum.inr (0,0,20))) else(bif (decide ((List.length s:Int)<2)) then(some (Sum.inr (0,0,20))) else(some (Sum.inl ())))))))))))) (fun j1=>(chk (0≤(1:Int)∧(1:Int)<(List.length s:Int)) (zbi (ix s (1:Int)) (fun x11=>(zbi (Lib.indexByte ([110,114,116]:List UInt8) x11) (fun x12=>(zdr (τ:=Unit) (bif ((((x11).toNat:Nat):Int)==120) then(bif (decide ((List.length s:Int)>3)) then(chk (0≤(2:Int)∧(2:Int)<(List.length s:Int)) (zbi (ix s (2:Int)) (fun x13=>(zar (zij (((x13).toNat:Nat):Int)) (fun x14=>(bif (decide (x14<16)) then(chk (0≤(3:Int)∧(3:Int)<(List.length s:Int)) (zbi (ix s (3:Int)) (fun x15=>(zar (zij (((x15).toNat:Nat):Int)) (fun x16=>(bif (decide (x16<16)) then(chk (0≤(2:Int)∧(2:Int)<(List.length s:Int)) (zbi (ix s (2:Int)) (fun x17=>(zar (zij (((x17).toNat:Nat):Int)) (fun x18=>(chk (0≤(3:Int)∧(3:Int)<(List.length s:Int)) (zbi (ix s (3:Int)) (fun x19=>(zar (zij (((x19).toNat:Nat):Int)) (fun x20=>(some (Sum.inr ((IntKind.u8.wrap (orI .i64 (zkd .i64 x18 4) x20)),4,0))))))))))))) else(bif ((((x11).toNat:Nat):Int)==92) then(some (Sum.inr ((((x11).toNat:Nat):Int),2,0))) else(zar (zjz m (((x11).toNat:Nat):Int)) (fun x21=>(bif x21 then(some (Sum.inr ((((x11).toNat:Nat):Int),2,0))) else(bif (decide (x12≥0)) then(chk (0≤x12∧x12<(List.length ([10,13,9]:List UInt8):Int)) (zbi (ix ([10,13,9]:List UInt8) x12) (fun x22=>(some (Sum.inr ((((x22).toNat:Nat):Int),2,0)))))) else(some (Sum.inl ()))))))))))))) else(bif ((((x11).toNat:Nat):Int)==92) then(some (Sum.inr ((((x11).toNat:Nat):Int),2,0))) else(zar (zjz m (((x11).toNat:Nat):Int)) (fun x23=>(bif x23 then(some (Sum.inr ((((x11).toNat:Nat):Int),2,0))) else(bif (decide (x12≥0)) then(chk (0≤x12∧x12<(List.length ([10,13,9]:List UInt8):Int)) (zbi (ix ([10,13,9]:List UInt8) x12) (fun x24=>(some (Sum.inr ((((x24).toNat:Nat):Int),2,0)))))) else(some (Sum.inl ()))))))))))))) else(bif ((((x11).toNat:Nat):Int)==92) then(some (Sum.inr ((((x11).toNat:Nat):Int),2,0))) else(zar (zjz m (((x11).toNat:Nat):Int)) (fun x25=>(bif x25 then(some (Sum.inr ((((x11).toNat:Nat):Int),2,0))) else(bif (decide (x12≥0)) then(chk (0≤x12∧x12<(List.length ([10,13,9]:List UInt8):Int)) (zbi (ix ([10,13,9]:List UInt8) x12) (fun x26=>(some (Sum.inr ((((x26).toNat:Nat):Int),2,0)))))) else(some (Sum.inl ())))))))) else(bif ((((x11).toNat:Nat):Int)==92) then(some (Sum.inr ((((x11).toNat:Nat):Int),2,0))) else(zar (zjz m (((x11).toNat:Nat):Int)) (fun x27=>(bif x27 then(some (Sum.inr ((((x11).toNat:Nat):Int),2,0))) else(bif (decide (x12≥0)) then(chk (0≤x12∧x12<(List.length ([10,13,9]:List UInt8):Int)) (zbi (ix ([10,13,9]:List UInt8) x12) (fun x28=>(some (Sum.inr ((((x28).toNat:Nat):Int),2,0)))))) else(some (Sum.inl ())))))))) (fun j2=>(some (0,0,20)))))))))))
theorem ent27:Ent Tryd.prog 27:=enters_of Tryd.func27 (by kernel_rfl) rfl
theorem zsx (s:(List UInt8))(m:BS)(r:(Int×Int×Int))(h:zhf s m=some r):Pure (ITP Tryd.prog) Tryd.prog 27 [.raw (.string (bs s)),.A (m:BS)] (.tup [.raw (.int .u8 r.1),.raw (.int .i64 r.2.1),.raw (.int .i64 r.2.2)]):=by
 unfold zhf at h
 refine zby 89 mix Tryd.func27 ent27 ?_
 refine zi (zc ?_)
 refine zcb (a:= .ptr 0 0) (σ'':=(.B [(27,(Enc.cells (m:BS)))])) ?_
 refine w_r [.v (.u 0),.v (.i 0),.v (.i 0)] ?_
 refine zbh h (bz 0 91 2475880078570760549798248438) (fun j1=>[]) (fun j1=>(.B [(27,(Enc.cells (m:BS)))])) ?_ ?_
 intro or1 h hr1
 refine zag ?_
 refine zx [.m _] ?_
 refine w_o (a:= .b (s==([]:List UInt8))) (h:=zbb (qdp rfl rfl rfl)) ?_
 refine zac ?_
 refine zcd h (fun hc1 h=> ?_) (fun hc1 h=> ?_)
 refine zx [.v (.u 0),.v (.i 0),.v (.i 20)] ?_
 replace h:=zq h hr1
 exact zaq (fun(r:(Int×Int×Int))=> .tup [.u r.1,.i r.2.1,.i r.2.2]) h (.tup [.u 0,.i 0,.i 20])
 refine zi ?_
 refine zid (k0:=0) (id:=3) 17 (by kernel_rfl) (by kernel_rfl) ?_
 refine zjj ?_
 obtain⟨g1,h⟩:=zp h
 obtain⟨x1,hx1,h⟩:=zt h
 refine h_o (a:= .u (((x1).toNat:Nat):Int)) (h:=by rw[←hx1];exact(zdd (l:=s) (n:=(0:Int)) g1 rfl rfl rfl rfl)) ?_
 refine h_o (a:= .b ((((x1).toNat:Nat):Int) !=92)) ?_
 refine zaa h (fun hc2 h=> ?_) (fun hc2 h=> ?_)
 refine h_o (a:= .b true) (h:=zeh rfl hc2) ?_
 refine zgz rfl rfl ?_
 refine zjj ?_
 refine zgz rfl rfl ?_
 obtain⟨g2,h⟩:=zp h
 obtain⟨x2,hx2,h⟩:=zt h
 refine h_o (a:= .u (((x2).toNat:Nat):Int)) (h:=by rw[←hx2];exact(zdd (l:=s) (n:=(0:Int)) g2 rfl rfl rfl rfl)) ?_
 refine zgz rfl rfl ?_
 refine h_o (a:= .b (decide ((((x2).toNat:Nat):Int)≥32))) ?_
 refine h_o (a:= .b (decide ((((x2).toNat:Nat):Int)≥32))) ?_
 refine zaa h (fun hc3 h=> ?_) (fun hc3 h=> ?_)
 refine h_o (a:= .b true) (h:=zeh rfl hc3) ?_
 refine zgz rfl rfl ?_
 refine zjj ?_
 refine zgz rfl rfl ?_
 obtain⟨g3,h⟩:=zp h
 obtain⟨x3,hx3,h⟩:=zt h
 refine h_o (a:= .u (((x3).toNat:Nat):Int)) (h:=by rw[←hx3];exact(zdd (l:=s) (n:=(0:Int)) g3 rfl rfl rfl rfl)) ?_
 refine zgz rfl rfl ?_
 refine h_o (a:= .b (decide ((((x3).toNat:Nat):Int)≤126))) ?_
 refine h_o (a:= .b (decide ((((x3).toNat:Nat):Int)≤126))) ?_
 refine zaa h (fun hc4 h=> ?_) (fun hc4 h=> ?_)
 refine h_o (a:= .b true) (h:=zeh rfl hc4) ?_
 refine zgz rfl rfl ?_
 refine h_o (a:= .A (m:BS)) ?_
 refine zgz rfl rfl ?_
 refine zjj ?_
 refine zgz rfl rfl ?_
 obtain⟨g4,h⟩:=zp h
 obtain⟨x4,hx4,h⟩:=zt h
 refine h_o (a:= .u (((x4).toNat:Nat):Int)) (h:=by rw[←hx4];exact(zdd (l:=s) (n:=(0:Int)) g4 rfl rfl rfl rfl)) ?_
 refine ziy ?_
 refine zan rfl rfl ?_
 obtain⟨x5,hx5,h⟩:=zv h
 refine zdb (zld m (((x4).toNat:Nat):Int) x5 hx5) ?_
 refine w_r [.v (.b (!x5)),.v (.b (!x5)),.m _] ?_
 refine zcd h (fun hc5 h=> ?_) (fun hc5 h=> ?_)
 refine zx [.m _] ?_
 obtain⟨g5,h⟩:=zp h
 obtain⟨x6,hx6,h⟩:=zt h
 refine w_o (a:= .u (((x6).toNat:Nat):Int)) (h:=zbb (by rw[←hx6];exact(zdd (l:=s) (n:=(0:Int)) g5 rfl rfl rfl rfl))) ?_
 refine w_r [.m _,.v (.i 1),.v (.i 0)] ?_
 replace h:=zq h hr1
 exact zaq (fun(r:(Int×Int×Int))=> .tup [.u r.1,.i r.2.1,.i r.2.2]) h (.tup [.u (((x6).toNat:Nat):Int),.i 1,.i 0])
 refine zx [.m _] ?_
 obtain⟨g6,h⟩:=zp h
 obtain⟨x7,hx7,h⟩:=zt h
 refine w_o (a:= .u (((x7).toNat:Nat):Int)) (h:=zbb (by rw[←hx7];exact(zdd (l:=s) (n:=(0:Int)) g6 rfl rfl rfl rfl))) ?_
 refine w_o (a:= .b ((((x7).toNat:Nat):Int) !=92)) ?_
 refine zaa h (fun hc6 h=> ?_) (fun hc6 h=> ?_)
 refine zak hc6 ?_
 refine w_r [.p,.p,.p,.v (.b true),.m _] ?_
 refine zbf rfl ?_
 refine zx [.v (.u 0),.v (.i 0),.v (.i 20)] ?_
 replace h:=zq h hr1
 exact zaq (fun(r:(Int×Int×Int))=> .tup [.u r.1,.i r.2.1,.i r.2.2]) h (.tup [.u 0,.i 0,.i 20])
 refine zak hc6 ?_
 refine zan rfl rfl ?_
 refine zac ?_
 refine zan rfl rfl ?_
 refine w_o (a:= .i (List.length s:Int)) (h:=zbb (zdv rfl rfl rfl)) ?_
 refine w_r [.v (.b (decide ((List.length s:Int)<2))),.v (.b (decide ((List.length s:Int)<2))),.m _] ?_
 refine zcd h (fun hc7 h=> ?_) (fun hc7 h=> ?_)
 refine zx [.v (.u 0),.v (.i 0),.v (.i 20)] ?_
 replace h:=zq h hr1
 exact zaq (fun(r:(Int×Int×Int))=> .tup [.u r.1,.i r.2.1,.i r.2.2]) h (.tup [.u 0,.i 0,.i 20])
 refine zg (o:=or1) () h ?_
 exact zcs (bl 91 9)
 refine h_o (a:= .b false) (h:=zeh rfl hc4) ?_
 refine zkl ?_
 refine zkl ?_
 refine zkl ?_
 refine ziy ?_
 refine w_r [.p,.p,.v (.b false),.m _] ?_
 refine zax rfl ?_
 refine zx [.m _] ?_
 obtain⟨g7,h⟩:=zp h
 obtain⟨x8,hx8,h⟩:=zt h
 refine w_o (a:= .u (((x8).toNat:Nat):Int)) (h:=zbb (by rw[←hx8];exact(zdd (l:=s) (n:=(0:Int)) g7 rfl rfl rfl rfl))) ?_
 refine w_o (a:= .b ((((x8).toNat:Nat):Int) !=92)) ?_
 refine zaa h (fun hc8 h=> ?_) (fun hc8 h=> ?_)
 refine zak hc8 ?_
 refine w_r [.p,.p,.p,.v (.b true),.m _] ?_
 refine zbf rfl ?_
 refine zx [.v (.u 0),.v (.i 0),.v (.i 20)] ?_
 replace h:=zq h hr1
 exact zaq (fun(r:(Int×Int×Int))=> .tup [.u r.1,.i r.2.1,.i r.2.2]) h (.tup [.u 0,.i 0,.i 20])
 refine zak hc8 ?_
 refine zan rfl rfl ?_
 refine zac ?_
 refine zan rfl rfl ?_
 refine w_o (a:= .i (List.length s:Int)) (h:=zbb (zdv rfl rfl rfl)) ?_
 refine w_r [.v (.b (decide ((List.length s:Int)<2))),.v (.b (decide ((List.length s:Int)<2))),.m _] ?_
 refine zcd h (fun hc9 h=> ?_) (fun hc9 h=> ?_)
 refine zx [.v (.u 0),.v (.i 0),.v (.i 20)] ?_
 replace h:=zq h hr1
 exact zaq (fun(r:(Int×Int×Int))=> .tup [.u r.1,.i r.2.1,.i r.2.2]) h (.tup [.u 0,.i 0,.i 20])
 refine zg (o:=or1) () h ?_
 exact zcs (bl 91 9)
 refine h_o (a:= .b false) (h:=zeh rfl hc3) ?_
 refine zkl ?_
 refine zkl ?_
 refine zkl ?_
 refine h_o (a:= .b false) ?_
 refine zjj ?_
 refine zkl ?_
 refine zkl ?_
 refine zkl ?_
 refine ziy ?_
 refine w_r [.p,.p,.v (.b false),.m _] ?_
 refine zax rfl ?_
 refine zx [.m _] ?_
 obtain⟨g8,h⟩:=zp h
 obtain⟨x9,hx9,h⟩:=zt h
 refine w_o (a:= .u (((x9).toNat:Nat):Int)) (h:=zbb (by rw[←hx9];exact(zdd (l:=s) (n:=(0:Int)) g8 rfl rfl rfl rfl))) ?_
 refine w_o (a:= .b ((((x9).toNat:Nat):Int) !=92)) ?_
 refine zaa h (fun hc10 h=> ?_) (fun hc10 h=> ?_)
 refine zak hc10 ?_
 refine w_r [.p,.p,.p,.v (.b true),.m _] ?_
 refine zbf rfl ?_
 refine zx [.v (.u 0),.v (.i 0),.v (.i 20)] ?_
 replace h:=zq h hr1
 exact zaq (fun(r:(Int×Int×Int))=> .tup [.u r.1,.i r.2.1,.i r.2.2]) h (.tup [.u 0,.i 0,.i 20])
 refine zak hc10 ?_
 refine zan rfl rfl ?_
 refine zac ?_
 refine zan rfl rfl ?_
 refine w_o (a:= .i (List.length s:Int)) (h:=zbb (zdv rfl rfl rfl)) ?_
 refine w_r [.v (.b (decide ((List.length s:Int)<2))),.v (.b (decide ((List.length s:Int)<2))),.m _] ?_
 refine zcd h (fun hc11 h=> ?_) (fun hc11 h=> ?_)
 refine zx [.v (.u 0),.v (.i 0),.v (.i 20)] ?_
 replace h:=zq h hr1
 exact zaq (fun(r:(Int×Int×Int))=> .tup [.u r.1,.i r.2.1,.i r.2.2]) h (.tup [.u 0,.i 0,.i 20])
 refine zg (o:=or1) () h ?_
 exact zcs (bl 91 9)
 refine h_o (a:= .b false) (h:=zeh rfl hc2) ?_
 refine zkl ?_
 refine zkl ?_
 refine zkl ?_
 refine h_o (a:= .b false) ?_
 refine zjj ?_
 refine zkl ?_
 refine zkl ?_
 refine zkl ?_
 refine h_o (a:= .b false) ?_
 refine zjj ?_
 refine zkl ?_
 refine zkl ?_
 refine zkl ?_
 refine ziy ?_
 refine w_r [.p,.p,.v (.b false),.m _] ?_
 refine zax rfl ?_
 refine zx [.m _] ?_
 obtain⟨g9,h⟩:=zp h
 obtain⟨x10,hx10,h⟩:=zt h
 refine w_o (a:= .u (((x10).toNat:Nat):Int)) (h:=zbb (by rw[←hx10];exact(zdd (l:=s) (n:=(0:Int)) g9 rfl rfl rfl rfl))) ?_
 refine w_o (a:= .b ((((x10).toNat:Nat):Int) !=92)) ?_
 refine zaa h (fun hc12 h=> ?_) (fun hc12 h=> ?_)
 refine zak hc12 ?_
 refine w_r [.p,.p,.p,.v (.b true),.m _] ?_
 refine zbf rfl ?_
 refine zx [.v (.u 0),.v (.i 0),.v (.i 20)] ?_
 replace h:=zq h hr1
 exact zaq (fun(r:(Int×Int×Int))=> .tup [.u r.1,.i r.2.1,.i r.2.2]) h (.tup [.u 0,.i 0,.i 20])
 refine zak hc12 ?_
 refine zan rfl rfl ?_
 refine zac ?_
 refine zan rfl rfl ?_
 refine w_o (a:= .i (List.length s:Int)) (h:=zbb (zdv rfl rfl rfl)) ?_
 refine w_r [.v (.b (decide ((List.length s:Int)<2))),.v (.b (decide ((List.length s:Int)<2))),.m _] ?_
 refine zcd h (fun hc13 h=> ?_) (fun hc13 h=> ?_)
 refine zx [.v (.u 0),.v (.i 0),.v (.i 20)] ?_
 replace h:=zq h hr1
 exact zaq (fun(r:(Int×Int×Int))=> .tup [.u r.1,.i r.2.1,.i r.2.2]) h (.tup [.u 0,.i 0,.i 20])
 refine zg (o:=or1) () h ?_
 exact zcs (bl 91 9)
 intro j1 h
 refine zet ?_
 refine zx [.m _] ?_
 obtain⟨g10,h⟩:=zp h
 obtain⟨x11,hx11,h⟩:=zt h
 refine w_o (a:= .u (((x11).toNat:Nat):Int)) (h:=zbb (by rw[←hx11];exact(zdd (l:=s) (n:=(1:Int)) g10 rfl rfl rfl rfl))) ?_
 refine zac ?_
 refine zx [.m _] ?_
 obtain⟨x12,hx12,h⟩:=zt h
 refine zdb (args':=[.s ([110,114,116]:List UInt8),.u (((x11).toNat:Nat):Int)]) (r:= .i x12) (by rw[←hx12];exact(z4d ([110,114,116]:List UInt8) x11)) ?_
 refine zac ?_
 refine zbh h (bz 0 91 2475880078570742957612204537) (fun j2=>[]) (fun j2=>(.B [(27,(Enc.cells (m:BS)))])) ?_ ?_
 intro or2 h hr2
 refine zag ?_
 refine zx [.m _,.v (.b ((((x11).toNat:Nat):Int)==120))] ?_
 refine zaa h (fun hc14 h=> ?_) (fun hc14 h=> ?_)
 refine zak hc14 ?_
 refine zan rfl rfl ?_
 refine zac ?_
 refine zan rfl rfl ?_
 refine w_o (a:= .i (List.length s:Int)) (h:=zbb (zdv rfl rfl rfl)) ?_
 refine w_r [.v (.b (decide ((List.length s:Int)>3))),.v (.b (decide ((List.length s:Int)>3)))] ?_
 refine zaa h (fun hc15 h=> ?_) (fun hc15 h=> ?_)
 refine zak hc15 ?_
 refine zan rfl rfl ?_
 refine zac ?_
 refine zan rfl rfl ?_
 obtain⟨g11,h⟩:=zp h
 obtain⟨x13,hx13,h⟩:=zt h
 refine w_o (a:= .u (((x13).toNat:Nat):Int)) (h:=zbb (by rw[←hx13];exact(zdd (l:=s) (n:=(2:Int)) g11 rfl rfl rfl rfl))) ?_
 refine zan rfl rfl ?_
 obtain⟨x14,hx14,h⟩:=zv h
 refine zdb (znr (((x13).toNat:Nat):Int) x14 hx14) ?_
 refine w_r [.v (.b (decide (x14<16))),.v (.b (decide (x14<16)))] ?_
 refine zaa h (fun hc16 h=> ?_) (fun hc16 h=> ?_)
 refine zak hc16 ?_
 refine zan rfl rfl ?_
 refine zac ?_
 refine zan rfl rfl ?_
 obtain⟨g12,h⟩:=zp h
 obtain⟨x15,hx15,h⟩:=zt h
 refine w_o (a:= .u (((x15).toNat:Nat):Int)) (h:=zbb (by rw[←hx15];exact(zdd (l:=s) (n:=(3:Int)) g12 rfl rfl rfl rfl))) ?_
 refine zan rfl rfl ?_
 obtain⟨x16,hx16,h⟩:=zv h
 refine zdb (znr (((x15).toNat:Nat):Int) x16 hx16) ?_
 refine w_r [.v (.b (decide (x16<16))),.v (.b (decide (x16<16))),.m _] ?_
 refine zcd h (fun hc17 h=> ?_) (fun hc17 h=> ?_)
 refine zi ?_
 refine zid (k0:=0) (id:=10) 7 (by kernel_rfl) (by kernel_rfl) ?_
 refine zjj ?_
 obtain⟨g13,h⟩:=zp h
 obtain⟨x17,hx17,h⟩:=zt h
 refine h_o (a:= .u (((x17).toNat:Nat):Int)) (h:=by rw[←hx17];exact(zdd (l:=s) (n:=(2:Int)) g13 rfl rfl rfl rfl)) ?_
 obtain⟨x18,hx18,h⟩:=zv h
 refine h_ck (znr (((x17).toNat:Nat):Int) x18 hx18) ?_
 refine h_o (a:= .i (zkd .i64 x18 4)) (h:=qgr (by decide) rfl rfl rfl) ?_
 refine zjj ?_
 obtain⟨g14,h⟩:=zp h
 obtain⟨x19,hx19,h⟩:=zt h
 refine h_o (a:= .u (((x19).toNat:Nat):Int)) (h:=by rw[←hx19];exact(zdd (l:=s) (n:=(3:Int)) g14 rfl rfl rfl rfl)) ?_
 obtain⟨x20,hx20,h⟩:=zv h
 refine h_ck (znr (((x19).toNat:Nat):Int) x20 hx20) ?_
 refine ziy ?_
 refine w_r [.v (.i (orI .i64 (zkd .i64 x18 4) x20)),.v (.u (IntKind.u8.wrap (orI .i64 (zkd .i64 x18 4) x20))),.m _,.v (.i 4),.v (.i 0)] ?_
 replace h:=zq h hr2
 exact zaq (fun(r:(Int×Int×Int))=> .tup [.u r.1,.i r.2.1,.i r.2.2]) h (.tup [.u (IntKind.u8.wrap (orI .i64 (zkd .i64 x18 4) x20)),.i 4,.i 0])
 refine zx [.m _,.v (.b ((((x11).toNat:Nat):Int)==92))] ?_
 refine zaa h (fun hc18 h=> ?_) (fun hc18 h=> ?_)
 refine zak hc18 ?_
 refine w_r [.p,.p,.p,.v (.b true),.m _] ?_
 refine zbf rfl ?_
 refine zx [.m _,.m _,.v (.i 2),.v (.i 0)] ?_
 replace h:=zq h hr2
 exact zaq (fun(r:(Int×Int×Int))=> .tup [.u r.1,.i r.2.1,.i r.2.2]) h (.tup [.u (((x11).toNat:Nat):Int),.i 2,.i 0])
 refine zak hc18 ?_
 refine w_r [.v (.A (m:BS)),.m _] ?_
 refine zan rfl rfl ?_
 obtain⟨x21,hx21,h⟩:=zv h
 refine zdb (zld m (((x11).toNat:Nat):Int) x21 hx21) ?_
 refine w_r [.v (.b x21),.m _] ?_
 refine zcd h (fun hc19 h=> ?_) (fun hc19 h=> ?_)
 refine zx [.m _,.m _,.v (.i 2),.v (.i 0)] ?_
 replace h:=zq h hr2
 exact zaq (fun(r:(Int×Int×Int))=> .tup [.u r.1,.i r.2.1,.i r.2.2]) h (.tup [.u (((x11).toNat:Nat):Int),.i 2,.i 0])
 refine zx [.m _,.v (.b (decide (x12≥0))),.m _] ?_
 refine zcd h (fun hc20 h=> ?_) (fun hc20 h=> ?_)
 refine zx [.m _] ?_
 obtain⟨g15,h⟩:=zp h
 obtain⟨x22,hx22,h⟩:=zt h
 refine w_o (a:= .u (((x22).toNat:Nat):Int)) (h:=zbb (by rw[←hx22];exact(zdd (l:=([10,13,9]:List UInt8)) (n:=x12) g15 rfl rfl rfl rfl))) ?_
 refine w_r [.m _,.v (.i 2),.v (.i 0)] ?_
 replace h:=zq h hr2
 exact zaq (fun(r:(Int×Int×Int))=> .tup [.u r.1,.i r.2.1,.i r.2.2]) h (.tup [.u (((x22).toNat:Nat):Int),.i 2,.i 0])
 refine zg (o:=or2) () h ?_
 exact zcs (bl 91 17592186043910)
 refine zak hc16 ?_
 refine w_r [.p,.p,.p,.p,.v (.b false)] ?_
 refine w_r [.m _] ?_
 refine zax rfl ?_
 refine zx [.m _,.v (.b ((((x11).toNat:Nat):Int)==92))] ?_
 refine zaa h (fun hc21 h=> ?_) (fun hc21 h=> ?_)
 refine zak hc21 ?_
 refine w_r [.p,.p,.p,.v (.b true),.m _] ?_
 refine zbf rfl ?_
 refine zx [.m _,.m _,.v (.i 2),.v (.i 0)] ?_
 replace h:=zq h hr2
 exact zaq (fun(r:(Int×Int×Int))=> .tup [.u r.1,.i r.2.1,.i r.2.2]) h (.tup [.u (((x11).toNat:Nat):Int),.i 2,.i 0])
 refine zak hc21 ?_
 refine w_r [.v (.A (m:BS)),.m _] ?_
 refine zan rfl rfl ?_
 obtain⟨x23,hx23,h⟩:=zv h
 refine zdb (zld m (((x11).toNat:Nat):Int) x23 hx23) ?_
 refine w_r [.v (.b x23),.m _] ?_
 refine zcd h (fun hc22 h=> ?_) (fun hc22 h=> ?_)
 refine zx [.m _,.m _,.v (.i 2),.v (.i 0)] ?_
 replace h:=zq h hr2
 exact zaq (fun(r:(Int×Int×Int))=> .tup [.u r.1,.i r.2.1,.i r.2.2]) h (.tup [.u (((x11).toNat:Nat):Int),.i 2,.i 0])
 refine zx [.m _,.v (.b (decide (x12≥0))),.m _] ?_
 refine zcd h (fun hc23 h=> ?_) (fun hc23 h=> ?_)
 refine zx [.m _] ?_
 obtain⟨g16,h⟩:=zp h
 obtain⟨x24,hx24,h⟩:=zt h
 refine w_o (a:= .u (((x24).toNat:Nat):Int)) (h:=zbb (by rw[←hx24];exact(zdd (l:=([10,13,9]:List UInt8)) (n:=x12) g16 rfl rfl rfl rfl))) ?_
 refine w_r [.m _,.v (.i 2),.v (.i 0)] ?_
 replace h:=zq h hr2
 exact zaq (fun(r:(Int×Int×Int))=> .tup [.u r.1,.i r.2.1,.i r.2.2]) h (.tup [.u (((x24).toNat:Nat):Int),.i 2,.i 0])
 refine zg (o:=or2) () h ?_
 exact zcs (bl 91 17592186043910)
 refine zak hc15 ?_
 refine w_r [.p,.p,.p,.p,.v (.b false)] ?_
 refine w_r [.m _,.p,.p,.p,.p] ?_
 refine w_r [.v (.b false),.m _] ?_
 refine zax rfl ?_
 refine zx [.m _,.v (.b ((((x11).toNat:Nat):Int)==92))] ?_
 refine zaa h (fun hc24 h=> ?_) (fun hc24 h=> ?_)
 refine zak hc24 ?_
 refine w_r [.p,.p,.p,.v (.b true),.m _] ?_
 refine zbf rfl ?_
 refine zx [.m _,.m _,.v (.i 2),.v (.i 0)] ?_
 replace h:=zq h hr2
 exact zaq (fun(r:(Int×Int×Int))=> .tup [.u r.1,.i r.2.1,.i r.2.2]) h (.tup [.u (((x11).toNat:Nat):Int),.i 2,.i 0])
 refine zak hc24 ?_
 refine w_r [.v (.A (m:BS)),.m _] ?_
 refine zan rfl rfl ?_
 obtain⟨x25,hx25,h⟩:=zv h
 refine zdb (zld m (((x11).toNat:Nat):Int) x25 hx25) ?_
 refine w_r [.v (.b x25),.m _] ?_
 refine zcd h (fun hc25 h=> ?_) (fun hc25 h=> ?_)
 refine zx [.m _,.m _,.v (.i 2),.v (.i 0)] ?_
 replace h:=zq h hr2
 exact zaq (fun(r:(Int×Int×Int))=> .tup [.u r.1,.i r.2.1,.i r.2.2]) h (.tup [.u (((x11).toNat:Nat):Int),.i 2,.i 0])
 refine zx [.m _,.v (.b (decide (x12≥0))),.m _] ?_
 refine zcd h (fun hc26 h=> ?_) (fun hc26 h=> ?_)
 refine zx [.m _] ?_
 obtain⟨g17,h⟩:=zp h
 obtain⟨x26,hx26,h⟩:=zt h
 refine w_o (a:= .u (((x26).toNat:Nat):Int)) (h:=zbb (by rw[←hx26];exact(zdd (l:=([10,13,9]:List UInt8)) (n:=x12) g17 rfl rfl rfl rfl))) ?_
 refine w_r [.m _,.v (.i 2),.v (.i 0)] ?_
 replace h:=zq h hr2
 exact zaq (fun(r:(Int×Int×Int))=> .tup [.u r.1,.i r.2.1,.i r.2.2]) h (.tup [.u (((x26).toNat:Nat):Int),.i 2,.i 0])
 refine zg (o:=or2) () h ?_
 exact zcs (bl 91 17592186043910)
 refine zak hc14 ?_
 refine w_r [.p,.p,.p,.v (.b false),.m _] ?_
 refine w_r [.p,.p,.p,.p,.v (.b false)] ?_
 refine w_r [.m _,.p,.p,.p,.p] ?_
 refine w_r [.v (.b false),.m _] ?_
 refine zax rfl ?_
 refine zx [.m _,.v (.b ((((x11).toNat:Nat):Int)==92))] ?_
 refine zaa h (fun hc27 h=> ?_) (fun hc27 h=> ?_)
 refine zak hc27 ?_
 refine w_r [.p,.p,.p,.v (.b true),.m _] ?_
 refine zbf rfl ?_
 refine zx [.m _,.m _,.v (.i 2),.v (.i 0)] ?_
 replace h:=zq h hr2
 exact zaq (fun(r:(Int×Int×Int))=> .tup [.u r.1,.i r.2.1,.i r.2.2]) h (.tup [.u (((x11).toNat:Nat):Int),.i 2,.i 0])
 refine zak hc27 ?_
 refine w_r [.v (.A (m:BS)),.m _] ?_
 refine zan rfl rfl ?_
 obtain⟨x27,hx27,h⟩:=zv h
 refine zdb (zld m (((x11).toNat:Nat):Int) x27 hx27) ?_
 refine w_r [.v (.b x27),.m _] ?_
 refine zcd h (fun hc28 h=> ?_) (fun hc28 h=> ?_)
 refine zx [.m _,.m _,.v (.i 2),.v (.i 0)] ?_
 replace h:=zq h hr2
 exact zaq (fun(r:(Int×Int×Int))=> .tup [.u r.1,.i r.2.1,.i r.2.2]) h (.tup [.u (((x11).toNat:Nat):Int),.i 2,.i 0])
 refine zx [.m _,.v (.b (decide (x12≥0))),.m _] ?_
 refine zcd h (fun hc29 h=> ?_) (fun hc29 h=> ?_)
 refine zx [.m _] ?_
 obtain⟨g18,h⟩:=zp h
 obtain⟨x28,hx28,h⟩:=zt h
 refine w_o (a:= .u (((x28).toNat:Nat):Int)) (h:=zbb (by rw[←hx28];exact(zdd (l:=([10,13,9]:List UInt8)) (n:=x12) g18 rfl rfl rfl rfl))) ?_
 refine w_r [.m _,.v (.i 2),.v (.i 0)] ?_
 replace h:=zq h hr2
 exact zaq (fun(r:(Int×Int×Int))=> .tup [.u r.1,.i r.2.1,.i r.2.2]) h (.tup [.u (((x28).toNat:Nat):Int),.i 2,.i 0])
 refine zg (o:=or2) () h ?_
 exact zcs (bl 91 17592186043910)
 intro j2 h
 refine zet ?_
 refine zx [.v (.u 0),.v (.i 0),.v (.i 20)] ?_
 exact zaq (fun(r:(Int×Int×Int))=> .tup [.u r.1,.i r.2.1,.i r.2.2]) h (.tup [.u 0,.i 0,.i 20])
def zgt (fuel:Nat)(l:(List UInt8)):Option BS:=
 (zdr (τ:=BS) (zbo (β:=Int×BS) (fun s1=>(bif (decide (s1.1<(List.length l:Int))) then(chk (0≤s1.1∧s1.1<(List.length l:Int)) (chk (0≤(zge .u8 ((((ix l s1.1)).toNat:Nat):Int) 6)∧(zge .u8 ((((ix l s1.1)).toNat:Nat):Int) 6)<4) (chk (0≤(zmx .u8 ((((ix l s1.1)).toNat:Nat):Int) 63)) (chk (0≤(zge .u8 ((((ix l s1.1)).toNat:Nat):Int) 6)∧(zge .u8 ((((ix l s1.1)).toNat:Nat):Int) 6)<4) (chk (0≤(orI .u64 (wd s1.2 (Int.toNat (zge .u8 ((((ix l s1.1)).toNat:Nat):Int) 6))) (zkd .u64 1 (zmx .u8 ((((ix l s1.1)).toNat:Nat):Int) 63)))∧(orI .u64 (wd s1.2 (Int.toNat (zge .u8 ((((ix l s1.1)).toNat:Nat):Int) 6))) (zkd .u64 1 (zmx .u8 ((((ix l s1.1)).toNat:Nat):Int) 63)))<18446744073709551616) (zbi (stW s1.2 (Int.toNat (zge .u8 ((((ix l s1.1)).toNat:Nat):Int) 6)) (orI .u64 (wd s1.2 (Int.toNat (zge .u8 ((((ix l s1.1)).toNat:Nat):Int) 6))) (zkd .u64 1 (zmx .u8 ((((ix l s1.1)).toNat:Nat):Int) 63)))) (fun x1=>(chk (-9223372036854775808≤(s1.1+1)∧(s1.1+1)<9223372036854775808) (some (Sum.inl ((s1.1+1),x1))))))))))) else(some (Sum.inr (Sum.inl (s1.2)))))) fuel (0,0#256)) (fun j1=>(some j1)))
theorem ent29:Ent Tryd.prog 29:=enters_of Tryd.func29 (by kernel_rfl) rfl
theorem zjl (fuel:Nat)(l:(List UInt8))(r:BS)(h:zgt fuel l=some r):Pure (ITP Tryd.prog) Tryd.prog 29 [.L (l:List UInt8)] (.A (r:BS)):=by
 unfold zgt at h
 refine zby 22 mix Tryd.func29 ent29 ?_
 refine zi (zc ?_)
 refine zcb (a:= .ptr 0 0) (σ'':=(.B [(27,(Enc.cells (0#256:BS)))])) ?_
 refine zi (zc ?_)
 refine zcb (a:= .ptr 1 0) (σ'':=(.B [(27,(Enc.cells (0#256:BS))),(27,(Enc.cells (0#256:BS)))])) ?_
 refine zbh h (bz 0 23 8388595) (fun j1=>[]) (fun j1=>(.B [(27,(Enc.cells (0#256:BS))),(27,(Enc.cells (j1:BS)))])) ?_ ?_
 intro or1 h hr1
 refine zx [.m _,.v (.i (List.length l:Int)),.v (.i 0)] ?_
 refine zag ?_
 refine zcx h (bz 0 23 8388403) (fun s1=>[(8,.i s1.1)]) (fun s1=>(.B [(27,(Enc.cells (0#256:BS))),(27,(Enc.cells (s1.2:BS)))])) ?_ ?_
 exact zcs (bl 23 460)
 intro s1 p1 h
 refine zet ?_
 refine zx [.v (.b (decide (s1.1<(List.length l:Int))))] ?_
 refine zi ?_
 refine zcd h (fun hc1 h=> ?_) (fun hc1 h=> ?_)
 refine zi ?_
 refine zag ?_
 refine zi (zc ?_)
 obtain⟨g1,h⟩:=zp h
 refine w_o (a:= .iptr (Enc.cells (ix l s1.1)++Enc.cellsL (List.drop (Int.toNat s1.1+1) l))) (h:=zbb (qhs (α:=UInt8) (l:=l) g1 rfl rfl rfl rfl rfl)) ?_
 refine w_r [.v (.u ((((ix l s1.1)).toNat:Nat):Int)),.m _] ?_
 refine zc (k0:=0) (id:=5) ?_
 refine zac ?_
 refine w_o (a:= .u (zge .u8 ((((ix l s1.1)).toNat:Nat):Int) 6)) (h:=zbb (qii (by decide) rfl rfl rfl)) ?_
 obtain⟨g2,h⟩:=zp h
 refine w_o (a:= .ptr 1 (0+Int.toNat (zge .u8 ((((ix l s1.1)).toNat:Nat):Int) 6)*1)) (h:=zbb (zko g2 rfl rfl rfl rfl rfl)) ?_
 refine w_o (a:= .raw (.int .u64 (wd s1.2 (Int.toNat (zge .u8 ((((ix l s1.1)).toNat:Nat):Int) 6))))) (h:=zbb (zom s1.2 (by omega) rfl rfl rfl)) ?_
 refine w_r [.m _,.v (.u (zmx .u8 ((((ix l s1.1)).toNat:Nat):Int) 63))] ?_
 obtain⟨g3,h⟩:=zp h
 refine w_o (a:= .raw (.int .u64 (zkd .u64 1 (zmx .u8 ((((ix l s1.1)).toNat:Nat):Int) 63)))) (h:=zbb (qgr g3 rfl rfl rfl)) ?_
 refine w_o (a:= .raw (.int .u64 (orI .u64 (wd s1.2 (Int.toNat (zge .u8 ((((ix l s1.1)).toNat:Nat):Int) 6))) (zkd .u64 1 (zmx .u8 ((((ix l s1.1)).toNat:Nat):Int) 63))))) ?_
 obtain⟨g4,h⟩:=zp h
 refine w_o (a:= .ptr 1 (0+Int.toNat (zge .u8 ((((ix l s1.1)).toNat:Nat):Int) 6)*1)) (h:=zbb (zko g4 rfl rfl rfl rfl rfl)) ?_
 obtain⟨g5,h⟩:=zp h
 obtain⟨x1,hx1,h⟩:=zt h
 refine zfs (σ'':=(.B [(27,(Enc.cells (0#256:BS))),(27,(Enc.cells (x1:BS)))])) rfl rfl rfl (znb s1.2 g4 g5 rfl rfl rfl rfl) (by dsimp only[zy,List.set]) (by subst hx1;rfl) ?_
 refine zc (k0:=0) (id:=6) ?_
 obtain⟨g6,h⟩:=zp h
 refine zio g6 ?_
 refine zac ?_
 refine zbs (p:=p1) ((s1.1+1),x1) h ?_
 exact zcs (bl 23 460)
 refine zaj h (fun h=> ?_)
 refine zg (o:=or1) (s1.2) h ?_
 exact zcs (bl 23 12)
 intro j1 h
 refine zet ?_
 refine zx [.v (.A (j1:BS))] ?_
 refine zco 4 (.B [(27,(Enc.cells (j1:BS))),(27,(Enc.cells (j1:BS)))]) ?_
 exact zaq (fun(r:BS)=> .A (r:BS)) h (.A (j1:BS))
def zdm (fuel:Nat)(lo:Int)(hi:Int):Option BS:=
 (zdr (τ:=BS) (chk (-9223372036854775808≤lo∧lo<9223372036854775808) (zbo (β:=Int×BS) (fun s1=>(chk (-9223372036854775808≤hi∧hi<9223372036854775808) (bif (decide (s1.1≤hi)) then(chk (0≤(zge .i64 s1.1 6)∧(zge .i64 s1.1 6)<4) (chk (0≤(zmx .i64 s1.1 63)) (chk (0≤(zge .i64 s1.1 6)∧(zge .i64 s1.1 6)<4) (chk (0≤(orI .u64 (wd s1.2 (Int.toNat (zge .i64 s1.1 6))) (zkd .u64 1 (zmx .i64 s1.1 63)))∧(orI .u64 (wd s1.2 (Int.toNat (zge .i64 s1.1 6))) (zkd .u64 1 (zmx .i64 s1.1 63)))<18446744073709551616) (zbi (stW s1.2 (Int.toNat (zge .i64 s1.1 6)) (orI .u64 (wd s1.2 (Int.toNat (zge .i64 s1.1 6))) (zkd .u64 1 (zmx .i64 s1.1 63)))) (fun x1=>(chk (-9223372036854775808≤(s1.1+1)∧(s1.1+1)<9223372036854775808) (some (Sum.inl ((s1.1+1),x1)))))))))) else(some (Sum.inr (Sum.inl (s1.2))))))) fuel (lo,0#256))) (fun j1=>(some j1)))
theorem ent15:Ent Tryd.prog 15:=enters_of Tryd.func15 (by kernel_rfl) rfl
theorem zjx (fuel:Nat)(lo:Int)(hi:Int)(r:BS)(h:zdm fuel lo hi=some r):Pure (ITP Tryd.prog) Tryd.prog 15 [.raw (.int .u8 lo),.raw (.int .u8 hi)] (.A (r:BS)):=by
 unfold zdm at h
 refine zby 23 mix Tryd.func15 ent15 ?_
 refine zi (zc ?_)
 refine zcb (a:= .ptr 0 0) (σ'':=(.B [(27,(Enc.cells (0#256:BS)))])) ?_
 refine zi (zc ?_)
 refine zcb (a:= .ptr 1 0) (σ'':=(.B [(27,(Enc.cells (0#256:BS))),(27,(Enc.cells (0#256:BS)))])) ?_
 refine zbh h (bz 0 25 33554383) (fun j1=>[]) (fun j1=>(.B [(27,(Enc.cells (0#256:BS))),(27,(Enc.cells (j1:BS)))])) ?_ ?_
 intro or1 h hr1
 refine zx [.m _] ?_
 obtain⟨g1,h⟩:=zp h
 refine w_o (a:= .i lo) (h:=zbb (zib g1 rfl rfl rfl)) ?_
 refine zac ?_
 refine zag ?_
 refine zcx h (bz 0 25 33554381) (fun s1=>[(6,.i s1.1)]) (fun s1=>(.B [(27,(Enc.cells (0#256:BS))),(27,(Enc.cells (s1.2:BS)))])) ?_ ?_
 exact zcs (bl 25 114)
 intro s1 p1 h
 refine zet ?_
 refine zi ?_
 refine zx [.m _,.m _] ?_
 obtain⟨g2,h⟩:=zp h
 refine w_o (a:= .i hi) (h:=zbb (zib g2 rfl rfl rfl)) ?_
 refine w_o (a:= .b (decide (s1.1≤hi))) ?_
 refine zcd h (fun hc1 h=> ?_) (fun hc1 h=> ?_)
 refine zi ?_
 refine zag ?_
 refine zid (k0:=0) (id:=5) 7 (by kernel_rfl) (by kernel_rfl) ?_
 refine zjj ?_
 refine h_o (a:= .i (zge .i64 s1.1 6)) (h:=qii (by decide) rfl rfl rfl) ?_
 obtain⟨g3,h⟩:=zp h
 refine h_o (a:= .ptr 1 (0+Int.toNat (zge .i64 s1.1 6)*1)) (h:=zko g3 rfl rfl rfl rfl rfl) ?_
 refine h_o (a:= .raw (.int .u64 (wd s1.2 (Int.toNat (zge .i64 s1.1 6))))) (h:=zom s1.2 (by omega) rfl rfl rfl) ?_
 refine zjj ?_
 refine h_o (a:= .i (zmx .i64 s1.1 63)) ?_
 obtain⟨g4,h⟩:=zp h
 refine h_o (a:= .raw (.int .u64 (zkd .u64 1 (zmx .i64 s1.1 63)))) (h:=qgr g4 rfl rfl rfl) ?_
 refine ziy ?_
 refine w_o (a:= .raw (.int .u64 (orI .u64 (wd s1.2 (Int.toNat (zge .i64 s1.1 6))) (zkd .u64 1 (zmx .i64 s1.1 63))))) ?_
 obtain⟨g5,h⟩:=zp h
 refine w_o (a:= .ptr 1 (0+Int.toNat (zge .i64 s1.1 6)*1)) (h:=zbb (zko g5 rfl rfl rfl rfl rfl)) ?_
 obtain⟨g6,h⟩:=zp h
 obtain⟨x1,hx1,h⟩:=zt h
 refine zfs (σ'':=(.B [(27,(Enc.cells (0#256:BS))),(27,(Enc.cells (x1:BS)))])) rfl rfl rfl (znb s1.2 g5 g6 rfl rfl rfl rfl) (by dsimp only[zy,List.set]) (by subst hx1;rfl) ?_
 refine zc (k0:=0) (id:=4) ?_
 refine zac ?_
 obtain⟨g7,h⟩:=zp h
 refine zio g7 ?_
 refine zac ?_
 refine zbs (p:=p1) ((s1.1+1),x1) h ?_
 exact zcs (bl 25 114)
 refine zaj h (fun h=> ?_)
 refine zg (o:=or1) (s1.2) h ?_
 exact zcs (bl 25 48)
 intro j1 h
 refine zet ?_
 refine zx [.v (.A (j1:BS))] ?_
 refine zco 4 (.B [(27,(Enc.cells (j1:BS))),(27,(Enc.cells (j1:BS)))]) ?_
 exact zaq (fun(r:BS)=> .A (r:BS)) h (.A (j1:BS))
end Go.Ab
