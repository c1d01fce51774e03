/-
  DerivePlain: its walk.
-/
import Derived.Test.YtfkkellnlmjenaaGreatZeLa
set_option linter.unusedSimpArgs false
set_option linter.unusedVariables false
set_option maxRecDepth 100000
set_option maxHeartbeats 4000000
namespace Go.Ab
open Go Go.RowKit Go.Fwd Go.Proofs
def zkt (fuel:Nat)(t:Tr)(s:(List UInt8)):Option Bool:=
 (zau (zim fuel t s) (fun x1=>(bif x1.1 then(some (x1.2==0)) else(some false))))
theorem ent24:Ent Tryz.prog 24:=enters_of Tryz.func24 (by kernel_rfl) rfl
theorem zvd (fuel:Nat)(t:Tr)(s:(List UInt8))(r:Bool)(h:zkt fuel t s=some r):Pure (ITP Tryz.prog) Tryz.prog 24 [.A (t:Tr),.raw (.string (bs s))] (.raw (.bool r)):=by
 unfold zkt at h
 refine zav 16 mix Tryz.func24 ent24 ?_
 refine zf (zb ?_)
 refine zbs (a:= .ptr 0 0) (σ'':=(.B [(29,(Enc.cells (t:Tr)))])) ?_
 refine w_o (a:= .b false) ?_
 refine zo [.v (.A (t:Tr)),.m _] ?_
 obtain⟨x1,hx1,h⟩:=zt h
 refine zce (znf fuel t s x1 hx1) ?_
 refine w_r [.m _,.x _,.x _,.m _,.m _] ?_
 refine zo [.m _] ?_
 refine zac h (fun hc1 h=> ?_) (fun hc1 h=> ?_)
 refine zbe hc1 ?_
 refine w_r [.m _,.v (.b (x1.2==0)),.v (.b (x1.2==0)),.m _] ?_
 exact zbb h
 refine zbe hc1 ?_
 refine w_r [.p,.p,.v (.b false),.m _] ?_
 exact zbb h
def zsn (fuel:Nat)(x:(List Sm))(b:(List UInt8)):Option Bool:=
 (chk (List.length x<2^63∧ ∀y∈x,y.2.1<256) (zba (zub x) (fun x1=>(chk (0≤0∧0≤(min (List.length b:Int) 10)∧(min (List.length b:Int) 10)≤(List.length b:Int)) (zau (zkx x1) (fun x2=>(zau (zkx x2.1) (fun x3=>(zau (zhg x1) (fun x4=>(zau (zhg x2.1) (fun x5=>(zau (znl fuel x1 (sub b 0 (min (List.length b:Int) 10))) (fun x6=>(zau (znl fuel x2.1 (sub b 0 (min (List.length b:Int) 10))) (fun x7=>(chk (-9223372036854775808≤(x2.2+x3.2)∧(x2.2+x3.2)<9223372036854775808) (chk (-9223372036854775808≤((x2.2+x3.2)+x4.2)∧((x2.2+x3.2)+x4.2)<9223372036854775808) (chk (-9223372036854775808≤(((x2.2+x3.2)+x4.2)+x5.2)∧(((x2.2+x3.2)+x4.2)+x5.2)<9223372036854775808) (chk (-9223372036854775808≤((((x2.2+x3.2)+x4.2)+x5.2)+x6.2)∧((((x2.2+x3.2)+x4.2)+x5.2)+x6.2)<9223372036854775808) (chk (-9223372036854775808≤(((((x2.2+x3.2)+x4.2)+x5.2)+x6.2)+x7.2)∧(((((x2.2+x3.2)+x4.2)+x5.2)+x6.2)+x7.2)<9223372036854775808) (bif ((((((x2.2+x3.2)+x4.2)+x5.2)+x6.2)+x7.2) !=0) then(some false) else(chk ((pre x2.1).length<2^61) (zba (zch x2.1) (fun x8=>(bif (!x8) then(some false) else(chk ((pre x2.1).length<2^61) (zba (ztv x2.1) (fun x9=>(bif (x9 !=0) then(some false) else(chk ((pre x2.1).length<2^61) (zba (ztc x2.1) (fun x10=>(chk ((pre x1).length<2^61) (zba (ztc x1) (fun x11=>(bif (decide (x10>x11)) then(some false) else(chk ((pre x2.1).length<2^61∧(pre x3.1).length<2^61) (zba (zkm x2.1 x3.1) (fun x12=>(bif (!x12) then(some false) else(bif (!(x4.1==x5.1)) then(some false) else(zau (qgk fuel x6.1 x7.1) (fun x13=>(bif (!x13) then(some false) else(zau (zkt fuel x1 (sub b 0 (min (List.length b:Int) 10))) (fun x14=>(zau (zkt fuel x2.1 (sub b 0 (min (List.length b:Int) 10))) (fun x15=>(bif (x14==x15) then(zau (zkt fuel x1 ([]:List UInt8)) (fun x16=>(bif (x4.1==x16) then(zau (zul x1) (fun x17=>(bif x17 then(zau (zul x2.1) (fun x18=>(some x18))) else(some false)))) else(some false)))) else(some false)))))))))))))))))))))))))))))))))))))))))))))))))))
theorem ent4:Ent Tryz.prog 4:=enters_of Tryz.func4 (by kernel_rfl) rfl
theorem qeb (fuel:Nat)(x:(List Sm))(b:(List UInt8))(r:Bool)(h:zsn fuel x b=some r):Pure (ITP Tryz.prog) Tryz.prog 4 [.L (x:List Sm),.L (b:List UInt8)] (.raw (.bool r)):=by
 unfold zsn at h
 refine zav 126 mix Tryz.func4 ent4 ?_
 refine zo [.v (.b false)] ?_
 refine zf ?_
 refine zf (zb ?_)
 refine zce (r:= .b true) qdp ?_
 refine w_o (a:= .b false) ?_
 refine zcg rfl ?_
 refine zo [.m _] ?_
 obtain⟨g1,h⟩:=zh h
 obtain⟨x1,hx1,h⟩:=zl h
 refine zce (args':=[.L (x:List Sm)]) (r:= .A (x1:Tr)) (by rw[←hx1];exact(k_made x g1)) ?_
 refine zbs (a:= .ptr 0 0) (σ'':=(.B [(29,[.u 0,.raw (.int .u64 0),.raw (.int .u64 0),.raw (.int .u64 0),.raw (.int .u64 0),.i 0,.i 0,.list 0 [] .full])])) ?_
 refine zcs 8 (.B [(29,(Enc.cells (x1:Tr)))]) ?_
 refine zo [.m _,.m _,.v (.i (List.length b:Int))] ?_
 refine w_o (a:= .i (min (List.length b:Int) 10)) (h:=zbu (qng rfl rfl rfl rfl rfl)) ?_
 obtain⟨g2,h⟩:=zh h
 refine zeq (.L ((sub b 0 (min (List.length b:Int) 10)):List UInt8)) rfl rfl rfl (qim (α:=UInt8) (l:=b) g2 rfl rfl rfl rfl rfl) (zux _ _ _) (by dsimp only[zab,List.set]) ?_
 refine w_o (a:= .s (sub b 0 (min (List.length b:Int) 10))) (h:=zbu (q_bstr (l:=(sub b 0 (min (List.length b:Int) 10))) rfl rfl ⟨rfl,rfl⟩ rfl)) ?_
 refine zaj ?_
 refine zo [.v (.A (x1:Tr))] ?_
 obtain⟨x2,hx2,h⟩:=zt h
 refine zce (zvh x1 x2 hx2) ?_
 refine w_r [.m _,.x _,.x _] ?_
 refine zbs (a:= .ptr 1 0) (σ'':=(.B [(29,(Enc.cells (x1:Tr))),(29,[.u 0,.raw (.int .u64 0),.raw (.int .u64 0),.raw (.int .u64 0),.raw (.int .u64 0),.i 0,.i 0,.list 0 [] .full])])) ?_
 refine zcs 8 (.B [(29,(Enc.cells (x1:Tr))),(29,(Enc.cells (x2.1:Tr)))]) ?_
 refine zaj ?_
 refine zo [.v (.A (x2.1:Tr))] ?_
 obtain⟨x3,hx3,h⟩:=zt h
 refine zce (zvh x2.1 x3 hx3) ?_
 refine w_r [.m _,.x _,.x _] ?_
 refine zbs (a:= .ptr 2 0) (σ'':=(.B [(29,(Enc.cells (x1:Tr))),(29,(Enc.cells (x2.1:Tr))),(29,[.u 0,.raw (.int .u64 0),.raw (.int .u64 0),.raw (.int .u64 0),.raw (.int .u64 0),.i 0,.i 0,.list 0 [] .full])])) ?_
 refine zcs 8 (.B [(29,(Enc.cells (x1:Tr))),(29,(Enc.cells (x2.1:Tr))),(29,(Enc.cells (x3.1:Tr)))]) ?_
 refine zaj ?_
 refine zo [.v (.A (x1:Tr))] ?_
 obtain⟨x4,hx4,h⟩:=zt h
 refine zce (zrc x1 x4 hx4) ?_
 refine w_r [.m _,.x _,.x _,.m _,.m _] ?_
 refine zo [.v (.A (x2.1:Tr))] ?_
 obtain⟨x5,hx5,h⟩:=zt h
 refine zce (zrc x2.1 x5 hx5) ?_
 refine w_r [.m _,.x _,.x _,.m _,.m _] ?_
 refine zo [.v (.A (x1:Tr)),.m _] ?_
 obtain⟨x6,hx6,h⟩:=zt h
 refine zce (zyw fuel x1 (sub b 0 (min (List.length b:Int) 10)) x6 hx6) ?_
 refine w_r [.m _,.x _,.x _,.m _,.m _] ?_
 refine zo [.v (.A (x2.1:Tr)),.m _] ?_
 obtain⟨x7,hx7,h⟩:=zt h
 refine zce (zyw fuel x2.1 (sub b 0 (min (List.length b:Int) 10)) x7 hx7) ?_
 refine w_r [.m _,.x _,.x _,.m _,.m _] ?_
 refine zf ?_
 refine zf ?_
 refine zgs (k0:=0) (id:=11) 43 (by kernel_rfl) (by kernel_rfl) ?_
 refine zel ?_
 refine zel ?_
 obtain⟨g3,h⟩:=zh h
 refine h_o (a:= .i (x2.2+x3.2)) (h:=zmr rfl rfl rfl rfl g3.1 g3.2) ?_
 refine zel ?_
 obtain⟨g4,h⟩:=zh h
 refine h_o (a:= .i ((x2.2+x3.2)+x4.2)) (h:=zmr rfl rfl rfl rfl g4.1 g4.2) ?_
 refine zel ?_
 obtain⟨g5,h⟩:=zh h
 refine h_o (a:= .i (((x2.2+x3.2)+x4.2)+x5.2)) (h:=zmr rfl rfl rfl rfl g5.1 g5.2) ?_
 refine zel ?_
 obtain⟨g6,h⟩:=zh h
 refine h_o (a:= .i ((((x2.2+x3.2)+x4.2)+x5.2)+x6.2)) (h:=zmr rfl rfl rfl rfl g6.1 g6.2) ?_
 refine zel ?_
 obtain⟨g7,h⟩:=zh h
 refine h_o (a:= .i (((((x2.2+x3.2)+x4.2)+x5.2)+x6.2)+x7.2)) (h:=zmr rfl rfl rfl rfl g7.1 g7.2) ?_
 refine h_o (a:= .b ((((((x2.2+x3.2)+x4.2)+x5.2)+x6.2)+x7.2) !=0)) ?_
 refine zac h (fun hc1 h=> ?_) (fun hc1 h=> ?_)
 refine h_o (a:= .b true) (h:=zcj rfl hc1) ?_
 refine zfj ?_
 refine zfj ?_
 refine zfj ?_
 refine h_o (a:= .b true) ?_
 refine zel ?_
 refine zfj ?_
 refine zfj ?_
 refine zfj ?_
 refine h_o (a:= .b true) ?_
 refine zel ?_
 refine zfj ?_
 refine zfj ?_
 refine zfj ?_
 refine zfj ?_
 refine zfj ?_
 refine h_o (a:= .b true) ?_
 refine zel ?_
 refine zfj ?_
 refine zfj ?_
 refine zfj ?_
 refine zfj ?_
 refine h_o (a:= .b true) ?_
 refine zel ?_
 refine zfj ?_
 refine zfj ?_
 refine zfj ?_
 refine h_o (a:= .b true) ?_
 refine zel ?_
 refine zfj ?_
 refine zfj ?_
 refine zhw ?_
 refine w_r [.p,.p,.v (.b true)] ?_
 refine zbx rfl ?_
 refine zo [.v (.b false)] ?_
 exact zbb h
 refine h_o (a:= .b false) (h:=zcj rfl hc1) ?_
 refine zja rfl rfl ?_
 refine h_o (a:= .A (x2.1:Tr)) ?_
 refine zja rfl rfl ?_
 obtain⟨g8,h⟩:=zh h
 obtain⟨x8,hx8,h⟩:=zl h
 refine z3g (args':=[.A (x2.1:Tr)]) (r:= .b x8) (by rw[←hx8];exact(zvw x2.1 g8)) ?_
 refine zja rfl rfl ?_
 refine h_o (a:= .b (!x8)) ?_
 refine h_o (a:= .b (!x8)) ?_
 refine zac h (fun hc2 h=> ?_) (fun hc2 h=> ?_)
 refine h_o (a:= .b true) (h:=zcj rfl hc2) ?_
 refine zfj ?_
 refine zfj ?_
 refine zfj ?_
 refine h_o (a:= .b true) ?_
 refine zel ?_
 refine zfj ?_
 refine zfj ?_
 refine zfj ?_
 refine zfj ?_
 refine zfj ?_
 refine h_o (a:= .b true) ?_
 refine zel ?_
 refine zfj ?_
 refine zfj ?_
 refine zfj ?_
 refine zfj ?_
 refine h_o (a:= .b true) ?_
 refine zel ?_
 refine zfj ?_
 refine zfj ?_
 refine zfj ?_
 refine h_o (a:= .b true) ?_
 refine zel ?_
 refine zfj ?_
 refine zfj ?_
 refine zhw ?_
 refine w_r [.p,.p,.v (.b true)] ?_
 refine zbx rfl ?_
 refine zo [.v (.b false)] ?_
 exact zbb h
 refine h_o (a:= .b false) (h:=zcj rfl hc2) ?_
 refine zja rfl rfl ?_
 refine h_o (a:= .A (x2.1:Tr)) ?_
 refine zja rfl rfl ?_
 obtain⟨g9,h⟩:=zh h
 obtain⟨x9,hx9,h⟩:=zl h
 refine z3g (args':=[.A (x2.1:Tr)]) (r:= .i x9) (by rw[←hx9];exact(qnm x2.1 g9)) ?_
 refine zja rfl rfl ?_
 refine h_o (a:= .b (x9 !=0)) ?_
 refine h_o (a:= .b (x9 !=0)) ?_
 refine zac h (fun hc3 h=> ?_) (fun hc3 h=> ?_)
 refine h_o (a:= .b true) (h:=zcj rfl hc3) ?_
 refine zfj ?_
 refine zfj ?_
 refine zfj ?_
 refine zfj ?_
 refine zfj ?_
 refine h_o (a:= .b true) ?_
 refine zel ?_
 refine zfj ?_
 refine zfj ?_
 refine zfj ?_
 refine zfj ?_
 refine h_o (a:= .b true) ?_
 refine zel ?_
 refine zfj ?_
 refine zfj ?_
 refine zfj ?_
 refine h_o (a:= .b true) ?_
 refine zel ?_
 refine zfj ?_
 refine zfj ?_
 refine zhw ?_
 refine w_r [.p,.p,.v (.b true)] ?_
 refine zbx rfl ?_
 refine zo [.v (.b false)] ?_
 exact zbb h
 refine h_o (a:= .b false) (h:=zcj rfl hc3) ?_
 refine zja rfl rfl ?_
 refine h_o (a:= .A (x2.1:Tr)) ?_
 refine zja rfl rfl ?_
 obtain⟨g10,h⟩:=zh h
 obtain⟨x10,hx10,h⟩:=zl h
 refine z3g (args':=[.A (x2.1:Tr)]) (r:= .i x10) (by rw[←hx10];exact(qft x2.1 g10)) ?_
 refine zja rfl rfl ?_
 refine h_o (a:= .A (x1:Tr)) ?_
 refine zja rfl rfl ?_
 obtain⟨g11,h⟩:=zh h
 obtain⟨x11,hx11,h⟩:=zl h
 refine z3g (args':=[.A (x1:Tr)]) (r:= .i x11) (by rw[←hx11];exact(qft x1 g11)) ?_
 refine zja rfl rfl ?_
 refine h_o (a:= .b (decide (x10>x11))) ?_
 refine h_o (a:= .b (decide (x10>x11))) ?_
 refine zac h (fun hc4 h=> ?_) (fun hc4 h=> ?_)
 refine h_o (a:= .b true) (h:=zcj rfl hc4) ?_
 refine zfj ?_
 refine zfj ?_
 refine zfj ?_
 refine zfj ?_
 refine h_o (a:= .b true) ?_
 refine zel ?_
 refine zfj ?_
 refine zfj ?_
 refine zfj ?_
 refine h_o (a:= .b true) ?_
 refine zel ?_
 refine zfj ?_
 refine zfj ?_
 refine zhw ?_
 refine w_r [.p,.p,.v (.b true)] ?_
 refine zbx rfl ?_
 refine zo [.v (.b false)] ?_
 exact zbb h
 refine h_o (a:= .b false) (h:=zcj rfl hc4) ?_
 refine zja rfl rfl ?_
 refine h_o (a:= .A (x2.1:Tr)) ?_
 refine zja rfl rfl ?_
 refine h_o (a:= .A (x3.1:Tr)) ?_
 refine zja rfl rfl ?_
 obtain⟨g12,h⟩:=zh h
 obtain⟨x12,hx12,h⟩:=zl h
 refine z3g (args':=[.A (x2.1:Tr),.A (x3.1:Tr)]) (r:= .b x12) (by rw[←hx12];exact(zws x2.1 x3.1 g12)) ?_
 refine zja rfl rfl ?_
 refine h_o (a:= .b (!x12)) ?_
 refine h_o (a:= .b (!x12)) ?_
 refine zac h (fun hc5 h=> ?_) (fun hc5 h=> ?_)
 refine h_o (a:= .b true) (h:=zcj rfl hc5) ?_
 refine zfj ?_
 refine zfj ?_
 refine zfj ?_
 refine h_o (a:= .b true) ?_
 refine zel ?_
 refine zfj ?_
 refine zfj ?_
 refine zhw ?_
 refine w_r [.p,.p,.v (.b true)] ?_
 refine zbx rfl ?_
 refine zo [.v (.b false)] ?_
 exact zbb h
 refine h_o (a:= .b false) (h:=zcj rfl hc5) ?_
 refine zja rfl rfl ?_
 refine zel ?_
 refine zja rfl rfl ?_
 refine zel ?_
 refine zja rfl rfl ?_
 refine h_o (a:= .b (!(x4.1==x5.1))) (h:=by kernel_rfl) ?_
 refine h_o (a:= .b (!(x4.1==x5.1))) ?_
 refine zac h (fun hc6 h=> ?_) (fun hc6 h=> ?_)
 refine h_o (a:= .b true) (h:=zcj rfl hc6) ?_
 refine zfj ?_
 refine zfj ?_
 refine zhw ?_
 refine w_r [.p,.p,.v (.b true)] ?_
 refine zbx rfl ?_
 refine zo [.v (.b false)] ?_
 exact zbb h
 refine h_o (a:= .b false) (h:=zcj rfl hc6) ?_
 refine zja rfl rfl ?_
 refine zel ?_
 refine zja rfl rfl ?_
 refine zel ?_
 refine zhw ?_
 refine zak rfl rfl ?_
 obtain⟨x13,hx13,h⟩:=zt h
 refine zce (eqL_sh fuel x6.1 x7.1 x13 hx13) ?_
 refine w_r [.v (.b (!x13)),.v (.b (!x13))] ?_
 refine zbz h (fun hc7 h=> ?_) (fun hc7 h=> ?_)
 refine zo [.v (.b false)] ?_
 exact zbb h
 refine zf ?_
 refine zgs (k0:=0) (id:=13) 11 (by kernel_rfl) (by kernel_rfl) ?_
 refine h_o (a:= .A (x1:Tr)) ?_
 refine zel ?_
 obtain⟨x14,hx14,h⟩:=zt h
 refine z3g (zvd fuel x1 (sub b 0 (min (List.length b:Int) 10)) x14 hx14) ?_
 refine h_o (a:= .A (x2.1:Tr)) ?_
 refine zel ?_
 obtain⟨x15,hx15,h⟩:=zt h
 refine z3g (zvd fuel x2.1 (sub b 0 (min (List.length b:Int) 10)) x15 hx15) ?_
 refine h_o (a:= .b (x14==x15)) (h:=by kernel_rfl) ?_
 refine zac h (fun hc8 h=> ?_) (fun hc8 h=> ?_)
 refine h_o (a:= .b true) (h:=zcj rfl hc8) ?_
 refine zja rfl rfl ?_
 refine zel ?_
 refine zja rfl rfl ?_
 refine h_o (a:= .A (x1:Tr)) ?_
 refine zja rfl rfl ?_
 obtain⟨x16,hx16,h⟩:=zt h
 refine z3g (zvd fuel x1 ([]:List UInt8) x16 hx16) ?_
 refine zhw ?_
 refine zak rfl rfl ?_
 refine w_o (a:= .b (x4.1==x16)) (h:=zbu (by kernel_rfl)) ?_
 refine w_o (a:= .b (x4.1==x16)) ?_
 refine zac h (fun hc9 h=> ?_) (fun hc9 h=> ?_)
 refine zbe hc9 ?_
 refine zak rfl rfl ?_
 refine w_o (a:= .A (x1:Tr)) ?_
 refine zak rfl rfl ?_
 obtain⟨x17,hx17,h⟩:=zt h
 refine zce (zqz x1 x17 hx17) ?_
 refine w_o (a:= .b x17) ?_
 refine zac h (fun hc10 h=> ?_) (fun hc10 h=> ?_)
 refine zbe hc10 ?_
 refine zak rfl rfl ?_
 refine w_o (a:= .A (x2.1:Tr)) ?_
 refine zak rfl rfl ?_
 obtain⟨x18,hx18,h⟩:=zt h
 refine zce (zqz x2.1 x18 hx18) ?_
 refine w_r [.v (.b x18),.m _] ?_
 exact zbb h
 refine zbe hc10 ?_
 refine w_r [.p,.p,.v (.b false),.m _] ?_
 exact zbb h
 refine zbe hc9 ?_
 refine w_r [.p,.p,.v (.b false),.m _,.p] ?_
 refine w_r [.p,.v (.b false),.m _] ?_
 exact zbb h
 refine h_o (a:= .b false) (h:=zcj rfl hc8) ?_
 refine zfj ?_
 refine zfj ?_
 refine zfj ?_
 refine zhw ?_
 refine w_r [.p,.v (.b false),.m _,.p,.p] ?_
 refine w_r [.v (.b false),.m _,.p,.p,.v (.b false)] ?_
 refine w_r [.m _] ?_
 exact zbb h
end Go.Ab
