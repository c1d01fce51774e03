/-
  slices.Clone of nodes.
-/
import Derived.Test.YtfkkellnlmjenaaGreatZeV1
set_option linter.unusedSimpArgs false
set_option linter.unusedVariables false
set_option maxRecDepth 100000
set_option maxHeartbeats 4000000
set_option maxRecDepth 100000
set_option maxHeartbeats 4000000
namespace Go.Ab
open Go Go.RowKit Go.Fwd Go.Proofs
def q2 {α:Type} (f:Tr→Tr→α)(n:Nat)(x y:Tr):Option α:=if(pre x).length<n∧(pre y).length<n then some (f x y) else none
def qcr:Nat→Tr→Tr→Option Bool:=q2 zfo
def qcmp:Nat→Tr→Tr→Option Int:=q2 zla
theorem qot {α:Type} {f:Tr→Tr→α} {n:Nat} {x y:Tr} {z:α} (h:q2 f n x y=some z):((pre x).length<n∧(pre y).length<n)∧z=f x y:=by
 unfold q2 at h
 split at h
 ·rename_i h1;exact⟨h1,(Option.some.inj h).symm⟩
 ·cases h
def zzt (t:Tr):Option Bool:=
 (zdn (τ:=Int) (chk ((pre t).length<2^61) (zbc (pre t) (fun x1=>(zdn (zgo (β:=Int) (fun s1 w1=>(chk (-9223372036854775808≤(s1+1)∧(s1+1)<9223372036854775808) (bif (decide ((s1+1)>10000)) then(some (Sum.inr (Sum.inl ((s1+1))))) else(some (Sum.inl ((s1+1))))))) x1 (0)) (fun s1=>(some (Sum.inl (s1)))))))) (fun j1=>(some (decide (j1≤10000)))))
theorem ent62:Ent Tryz.prog 62:=enters_of Tryz.func62 (by kernel_rfl) rfl
theorem qng (t:Tr)(r:Bool)(h:zzt t=some r):Pure (ITP Tryz.prog) Tryz.prog 62 [.A (t:Tr)] (.raw (.bool r)):=by
 unfold zzt at h
 refine zbd 12 mix Tryz.func62 ent62 ?_
 refine zf (zb ?_)
 refine zbz (a:= .ptr 0 0) (σ'':=(.B [(29,(Enc.cells (t:Tr)))])) ?_
 refine w_o (a:= .b false) ?_
 refine qgv ?_
 refine zf (zb ?_)
 refine zbz (a:= .ptr 1 0) (σ'':=(.B [(29,(Enc.cells (t:Tr))),(3,[.i 0])])) ?_
 refine zcx 1 (.B [(29,(Enc.cells (t:Tr))),(3,[.i 0])]) ?_
 refine zf ?_
 refine w_label ?_
 refine zau h (bz 0 13 8183) (fun j1=>[]) (fun j1=>(.B [(29,(Enc.cells (t:Tr))),(3,[.i j1])])) ?_ ?_
 intro or1 h hr1
 refine zr [.v (.A (t:Tr))] ?_
 obtain⟨g1,h⟩:=zi h
 obtain⟨x1,hx1,h⟩:=zo h
 refine zcq (args':=[.A (t:Tr)]) (r:= .iter (List.map zqw x1)) (by rw[←hx1];exact(zut t g1)) ?_
 refine zp ?_
 refine zks h zqw (fun s1=>(.B [(29,(Enc.cells (t:Tr))),(3,[.i s1])])) rfl (fun _=>rfl) rfl rfl ?_ ?_
 intro s1 w1 p1 h
 refine zah (by dsimp only[znd,List.zip,List.zipWith,List.foldl,List.set,Array.toList]) rfl ?_
 refine zp ?_
 refine zr [.v (.i s1)] ?_
 obtain⟨g2,h⟩:=zi h
 refine zpe g2 ?_
 refine zcx 1 (.B [(29,(Enc.cells (t:Tr))),(3,[.i (s1+1)])]) ?_
 refine zr [.v (.i (s1+1)),.v (.b (decide ((s1+1)>10000)))] ?_
 refine zci h (fun hc1 h=> ?_) (fun hc1 h=> ?_)
 refine zw h (fun h=>⟨(zbi (zt (zm _ _ (Enc.clo _)) (zt (by kernel_rfl) rfl))),?_⟩)
 refine zg (o:=or1) ((s1+1)) h ?_
 exact zdl (bl 13 8)
 exact zfg (p:=p1) ((s1+1)) h (zbi (zt (zm _ _ (Enc.clo _)) (zt (by kernel_rfl) rfl))) (by kernel_rfl)
 intro s1 h
 refine zg (o:=or1) (s1) h ?_
 exact zdl (bl 13 8)
 intro j1 h
 refine zfj ?_
 refine zr [.v (.i j1),.v (.b (decide (j1≤10000))),.m _] ?_
 exact zbg h
def zza (fuel:Nat)(n:Nat)(a:Tr)(b:Tr):Option Bool:=
 (bif (((a.k:Nat):Int)==((b.k:Nat):Int)) then(bif (decide (a.s=b.s)) then(bif (a.mn==b.mn) then(bif (a.mx==b.mx) then(zav (z6l fuel (qcr n) a.l b.l) (fun x1=>(some x1))) else(some false)) else(some false)) else(some false)) else(some false))
theorem ent65:Ent Tryz.prog 65:=enters_of Tryz.func65 (by kernel_rfl) rfl
theorem qkl (fuel:Nat)(n:Nat)(a:Tr)(b:Tr)(r:Bool)(ih: ∀x y:Tr,(pre x).length<n∧(pre y).length<n→Pure (ITP Tryz.prog) Tryz.prog 65 [.A x,.A y] (.raw (.bool (zfo x y))))(h:zza fuel n a b=some r):Pure (ITP Tryz.prog) Tryz.prog 65 [.A (a:Tr),.A (b:Tr)] (.raw (.bool r)):=by
 unfold zza at h
 refine zbd 36 mix Tryz.func65 ent65 ?_
 refine zf (zb ?_)
 refine zbz (a:= .ptr 0 0) (σ'':=(.B [(29,(Enc.cells (a:Tr)))])) ?_
 refine zbz (a:= .ptr 1 0) (σ'':=(.B [(29,(Enc.cells (a:Tr))),(29,(Enc.cells (b:Tr)))])) ?_
 refine w_o (a:= .b false) ?_
 refine zr [.v (.ptr 0 0),.v (.u ((a.k:Nat):Int)),.v (.ptr 1 0),.v (.u ((b.k:Nat):Int)),.v (.b (((a.k:Nat):Int)==((b.k:Nat):Int)))] ?_
 refine zae h (fun hc1 h=> ?_) (fun hc1 h=> ?_)
 refine zbj hc1 ?_
 refine w_r [.v (.ptr 0 1),.v (.A (a.s:BS)),.v (.ptr 1 1),.v (.A (b.s:BS))] ?_
 refine zaf rfl rfl ?_
 refine qar (.b (decide (a.s=b.s))) rfl rfl rfl (qaj a.s b.s rfl rfl rfl) (by dsimp only[zh,List.set]) ?_
 refine w_o (a:= .b (decide (a.s=b.s))) ?_
 refine zae h (fun hc2 h=> ?_) (fun hc2 h=> ?_)
 refine zbj hc2 ?_
 refine w_r [.v (.ptr 0 5),.v (.i a.mn),.v (.ptr 1 5),.v (.i b.mn),.v (.b (a.mn==b.mn))] ?_
 refine w_r [.v (.b (a.mn==b.mn))] ?_
 refine zae h (fun hc3 h=> ?_) (fun hc3 h=> ?_)
 refine zbj hc3 ?_
 refine w_r [.v (.ptr 0 6),.v (.i a.mx),.v (.ptr 1 6),.v (.i b.mx),.v (.b (a.mx==b.mx))] ?_
 refine w_r [.v (.b (a.mx==b.mx))] ?_
 refine zae h (fun hc4 h=> ?_) (fun hc4 h=> ?_)
 refine zbj hc4 ?_
 refine w_r [.v (.ptr 0 7),.v (.L (a.l:List Tr)),.v (.ptr 1 7),.v (.L (b.l:List Tr))] ?_
 refine zaf rfl rfl ?_
 obtain⟨x1,hx1,h⟩:=zu h
 refine zbr (args':=[.L (a.l:List Tr),.L (b.l:List Tr),.clos 65 []]) (r:= .b x1) (eqf_sh fuel (qcr n) a.l b.l x1 65 (fun x y z h=>by obtain⟨h1,rfl⟩:=qot h;exact ih x y h1) hx1) rfl rfl (zd (zet (Enc.cloL _)) (zd (zet (Enc.cloL _)) (zd (show AV.clos _ (stripL _)=_ from congrArg (AV.clos _) rfl) rfl))) (za (zan (Enc.cloL _)) (za (zan (Enc.cloL _)) (za (show zaa _ _=true from rfl) rfl))) (by dsimp only[zh,List.set]) ?_
 refine w_r [.v (.b x1),.m _] ?_
 exact zbg h
 refine zbj hc4 ?_
 refine w_r [.p,.p,.p,.p,.p] ?_
 refine w_r [.v (.b false),.m _] ?_
 exact zbg h
 refine zbj hc3 ?_
 refine w_r [.p,.p,.p,.p,.p] ?_
 refine w_r [.v (.b false),.m _,.p,.p,.p] ?_
 refine w_r [.p,.p,.v (.b false),.m _] ?_
 exact zbg h
 refine zbj hc2 ?_
 refine w_r [.p,.p,.p,.p,.p] ?_
 refine w_r [.v (.b false),.m _,.p,.p,.p] ?_
 refine w_r [.p,.p,.v (.b false),.m _,.p] ?_
 refine w_r [.p,.p,.p,.p,.v (.b false)] ?_
 refine w_r [.m _] ?_
 exact zbg h
 refine zbj hc1 ?_
 refine w_r [.p,.p,.p,.p,.p] ?_
 refine w_r [.v (.b false),.m _,.p,.p,.p] ?_
 refine w_r [.p,.p,.v (.b false),.m _,.p] ?_
 refine w_r [.p,.p,.p,.p,.v (.b false)] ?_
 refine w_r [.m _,.p,.p,.p,.p] ?_
 refine w_r [.p,.v (.b false),.m _] ?_
 exact zbg h
def zmz (s:BS):Option (Int×Bool):=
 (zdn (τ:=Unit) (zbc (els s) (fun x1=>(zdn (zgo (β:=Unit) (fun s1 w1=>(some (Sum.inr (Sum.inr (w1,true))))) x1 ()) (fun s1=>(some (Sum.inl ())))))) (fun j1=>(some (0,false))))
theorem ent11:Ent Tryz.prog 11:=enters_of Tryz.func11 (by kernel_rfl) rfl
theorem zyj (s:BS)(r:(Int×Bool))(h:zmz s=some r):Pure (ITP Tryz.prog) Tryz.prog 11 [.A (s:BS)] (.tup [.raw (.int .u8 r.1),.raw (.bool r.2)]):=by
 unfold zmz at h
 refine zbd 8 mix Tryz.func11 ent11 ?_
 refine zf (zb ?_)
 refine zbz (a:= .ptr 0 0) (σ'':=(.B [(26,(Enc.cells (s:BS)))])) ?_
 refine zbz (a:= .ptr 1 0) (σ'':=(.B [(26,(Enc.cells (s:BS))),(5,[.u 0])])) ?_
 refine zbz (a:= .ptr 2 0) (σ'':=(.B [(26,(Enc.cells (s:BS))),(5,[.u 0]),(4,[.b false])])) ?_
 refine zau h (bz 0 9 499) (fun j1=>[]) (fun j1=>(.B [(26,(Enc.cells (s:BS))),(5,[.u 0]),(4,[.b false])])) ?_ ?_
 intro or1 h hr1
 refine zr [.v (.A (s:BS))] ?_
 obtain⟨x1,hx1,h⟩:=zo h
 refine zcq (args':=[.A (s:BS)]) (r:= .iter (List.map qmk x1)) (by rw[←hx1];exact(k_all s)) ?_
 refine zp ?_
 refine zks h qmk (fun s1=>(.B [(26,(Enc.cells (s:BS))),(5,[.u 0]),(4,[.b false])])) rfl (fun _=>rfl) rfl rfl ?_ ?_
 intro s1 w1 p1 h
 refine zah (by dsimp only[znd,List.zip,List.zipWith,List.foldl,List.set,Array.toList]) rfl ?_
 refine zb (k0:=0) (id:=2) ?_
 refine zab ?_
 refine zp ?_
 refine zr [.m _] ?_
 refine zcx 1 (.B [(26,(Enc.cells (s:BS))),(5,[.u w1]),(4,[.b false])]) ?_
 refine zcx 1 (.B [(26,(Enc.cells (s:BS))),(5,[.u w1]),(4,[.b true])]) ?_
 refine zw h (fun h=>⟨(zbi (zt (zm _ _ (Enc.clo _)) (zt (by kernel_rfl) (zt (by kernel_rfl) rfl)))),?_⟩)
 replace h:=zz h hr1
 exact zax (fun(r:(Int×Bool))=> .tup [.u r.1,.b r.2]) h (.tup [.u w1,.b true])
 intro s1 h
 refine zg (o:=or1) () h ?_
 exact zdl (bl 9 12)
 intro j1 h
 refine zfj ?_
 refine zf (zb ?_)
 refine zcx 1 (.B [(26,(Enc.cells (s:BS))),(5,[.u 0]),(4,[.b false])]) ?_
 refine zcx 1 (.B [(26,(Enc.cells (s:BS))),(5,[.u 0]),(4,[.b false])]) ?_
 exact zax (fun(r:(Int×Bool))=> .tup [.u r.1,.b r.2]) h (.tup [.u 0,.b false])
def zno (a:BS)(b:BS):Option Int:=
 (zbc (a&&& ~~~b) (fun x1=>(zbc (b&&& ~~~a) (fun x2=>(zbc (x1|||x2) (fun x3=>(zav (zmz x3) (fun x4=>(bif (!x4.2) then(some 0) else(zav (zum a x4.1) (fun x5=>(bif x5 then(some (-1)) else(some 1)))))))))))))
theorem ent108:Ent Tryz.prog 108:=enters_of Tryz.func108 (by kernel_rfl) rfl
theorem z4h (a:BS)(b:BS)(r:Int)(h:zno a b=some r):Pure (ITP Tryz.prog) Tryz.prog 108 [.A (a:BS),.A (b:BS)] (.raw (.int .i64 r)):=by
 unfold zno at h
 refine zbd 23 mix Tryz.func108 ent108 ?_
 refine zf (zb ?_)
 refine zbz (a:= .ptr 0 0) (σ'':=(.B [(26,(Enc.cells (a:BS)))])) ?_
 refine zbz (a:= .ptr 1 0) (σ'':=(.B [(26,(Enc.cells (a:BS))),(26,(Enc.cells (b:BS)))])) ?_
 refine w_o (a:= .i 0) ?_
 refine zf ?_
 refine zgc (k0:=0) (id:=1) 12 (by kernel_rfl) (by kernel_rfl) ?_
 refine h_o (a:= .A (a:BS)) ?_
 refine h_o (a:= .A (b:BS)) ?_
 obtain⟨x1,hx1,h⟩:=zo h
 refine qni (args':=[.A (a:BS),.A (b:BS)]) (r:= .A (x1:BS)) (by rw[←hx1];exact(qcy a b)) ?_
 refine h_o (a:= .A (b:BS)) ?_
 refine h_o (a:= .A (a:BS)) ?_
 obtain⟨x2,hx2,h⟩:=zo h
 refine qni (args':=[.A (b:BS),.A (a:BS)]) (r:= .A (x2:BS)) (by rw[←hx2];exact(qcy b a)) ?_
 obtain⟨x3,hx3,h⟩:=zo h
 refine qni (args':=[.A (x1:BS),.A (x2:BS)]) (r:= .A (x3:BS)) (by rw[←hx3];exact(k_or2 x1 x2)) ?_
 obtain⟨x4,hx4,h⟩:=zu h
 refine qni (zyj x3 x4 hx4) ?_
 refine zhd ?_
 refine h_ex ?_
 refine h_ex ?_
 refine zhd ?_
 refine zjo ?_
 refine zab ?_
 refine zf ?_
 refine zp ?_
 refine zr [.m _,.v (.b (!x4.2)),.m _] ?_
 refine zci h (fun hc1 h=> ?_) (fun hc1 h=> ?_)
 refine zr [.v (.i 0)] ?_
 exact zdr h
 refine zr [.v (.A (a:BS)),.m _] ?_
 obtain⟨x5,hx5,h⟩:=zu h
 refine zcq (z6u a x4.1 x5 hx5) ?_
 refine zab ?_
 refine zci h (fun hc2 h=> ?_) (fun hc2 h=> ?_)
 refine zr [.v (.i (-1))] ?_
 exact zdr h
 refine zr [.v (.i 1)] ?_
 exact zdr h
def z8d (fuel:Nat)(n:Nat)(a:Tr)(b:Tr):Option Int:=
 (bif (((a.k:Nat):Int) !=((b.k:Nat):Int)) then(zav (z4e ((a.k:Nat):Int) ((b.k:Nat):Int)) (fun x1=>(some x1))) else(zdn (τ:=Unit) (bif (((a.k:Nat):Int)==2) then(zav (zno a.s b.s) (fun x2=>(some (Sum.inr x2)))) else(bif (((a.k:Nat):Int)==5) then(zav (zpf a.mn b.mn) (fun x3=>(zav (zwd a) (fun x4=>(zav (zwd b) (fun x5=>(zav (zpf x4 x5) (fun x6=>(zav (zvk fuel ([x3,x6]:List Int)) (fun x7=>(bif (x7 !=0) then(some (Sum.inr x7)) else(some (Sum.inl ()))))))))))))) else(zdn (τ:=Bool) (bif (((a.k:Nat):Int)==0) then(some (Sum.inl ((((a.k:Nat):Int)==0)))) else(some (Sum.inl ((((a.k:Nat):Int)==1))))) (fun j2=>(bif j2 then(some (Sum.inr 0)) else(some (Sum.inl ()))))))) (fun j1=>(zav (qeu fuel (qcmp n) a.l b.l) (fun x8=>(some x8))))))
theorem ent71:Ent Tryz.prog 71:=enters_of Tryz.func71 (by kernel_rfl) rfl
theorem cmpt_sh (fuel:Nat)(n:Nat)(a:Tr)(b:Tr)(r:Int)(ih: ∀x y:Tr,(pre x).length<n∧(pre y).length<n→Pure (ITP Tryz.prog) Tryz.prog 71 [.A x,.A y] (.raw (.int .i64 (zla x y))))(h:z8d fuel n a b=some r):Pure (ITP Tryz.prog) Tryz.prog 71 [.A (a:Tr),.A (b:Tr)] (.raw (.int .i64 r)):=by
 unfold z8d at h
 refine zbd 48 mix Tryz.func71 ent71 ?_
 refine zf (zb ?_)
 refine zbz (a:= .ptr 0 0) (σ'':=(.B [(29,(Enc.cells (a:Tr)))])) ?_
 refine zbz (a:= .ptr 1 0) (σ'':=(.B [(29,(Enc.cells (a:Tr))),(29,(Enc.cells (b:Tr)))])) ?_
 refine w_o (a:= .i 0) ?_
 refine zf ?_
 refine zr [.v (.ptr 0 0),.v (.u ((a.k:Nat):Int)),.v (.ptr 1 0),.v (.u ((b.k:Nat):Int)),.v (.b (((a.k:Nat):Int) !=((b.k:Nat):Int)))] ?_
 refine zci h (fun hc1 h=> ?_) (fun hc1 h=> ?_)
 refine zr [.v (.ptr 0 0),.v (.u ((a.k:Nat):Int)),.v (.ptr 1 0),.v (.u ((b.k:Nat):Int))] ?_
 obtain⟨x1,hx1,h⟩:=zu h
 refine zcq (cmp8_sh ((a.k:Nat):Int) ((b.k:Nat):Int) x1 hx1) ?_
 refine zab ?_
 exact zdr h
 refine zau h (bz 0 50 1125899906842611) (fun j1=>[]) (fun j1=>(.B [(29,(Enc.cells (a:Tr))),(29,(Enc.cells (b:Tr)))])) ?_ ?_
 intro or1 h hr1
 refine zr [.v (.ptr 0 0),.v (.u ((a.k:Nat):Int))] ?_
 refine zp ?_
 refine zr [.v (.b (((a.k:Nat):Int)==2)),.m _] ?_
 refine zci h (fun hc2 h=> ?_) (fun hc2 h=> ?_)
 refine zr [.v (.ptr 0 1),.v (.A (a.s:BS)),.v (.ptr 1 1),.v (.A (b.s:BS))] ?_
 obtain⟨x2,hx2,h⟩:=zu h
 refine zcq (z4h a.s b.s x2 hx2) ?_
 refine zab ?_
 replace h:=zz h hr1
 exact zdr h
 refine zr [.v (.b (((a.k:Nat):Int)==5)),.m _] ?_
 refine zci h (fun hc3 h=> ?_) (fun hc3 h=> ?_)
 refine zf ?_
 refine zgc (k0:=0) (id:=7) 8 (by kernel_rfl) (by kernel_rfl) ?_
 refine h_o (a:= .ptr 0 5) ?_
 refine h_o (a:= .i a.mn) ?_
 refine h_o (a:= .ptr 1 5) ?_
 refine h_o (a:= .i b.mn) ?_
 obtain⟨x3,hx3,h⟩:=zu h
 refine qni (z8n a.mn b.mn x3 hx3) ?_
 refine h_o (a:= .A (a:Tr)) ?_
 obtain⟨x4,hx4,h⟩:=zu h
 refine qni (qfk a x4 hx4) ?_
 refine h_o (a:= .A (b:Tr)) ?_
 refine zjo ?_
 obtain⟨x5,hx5,h⟩:=zu h
 refine zcq (qfk b x5 hx5) ?_
 obtain⟨x6,hx6,h⟩:=zu h
 refine zcq (z8n x4 x5 x6 hx6) ?_
 refine w_o (a:= .F (([x3,x6]:List Int):List Int)) (h:=zbh (zev (α:=Int) (l:=[x3,x6]) (cs:=Enc.cells (x3:Int)++(Enc.cells (x6:Int)++[])) rfl (by rw[Enc.cons,Enc.cons,Enc.nil]))) ?_
 obtain⟨x7,hx7,h⟩:=zu h
 refine zcq (qlm fuel ([x3,x6]:List Int) x7 hx7) ?_
 refine zab ?_
 refine zr [.m _,.v (.b (x7 !=0))] ?_
 refine zci h (fun hc4 h=> ?_) (fun hc4 h=> ?_)
 refine zr [.m _,.m _] ?_
 replace h:=zz h hr1
 exact zdr h
 refine zg (o:=or1) () h ?_
 exact zdl (bl 50 12)
 refine zau h (bz 0 50 1125899906842611) (fun j2=>[(42,.b j2)]) (fun j2=>(.B [(29,(Enc.cells (a:Tr))),(29,(Enc.cells (b:Tr)))])) ?_ ?_
 intro or2 h hr2
 refine zr [.v (.b (((a.k:Nat):Int)==0)),.m _] ?_
 refine zci h (fun hc5 h=> ?_) (fun hc5 h=> ?_)
 refine zg (o:=or2) ((((a.k:Nat):Int)==0)) h ?_
 exact zdl (bl 50 4398046511116)
 refine zb (k0:=0) (id:=11) ?_
 refine w_r [.v (.b (((a.k:Nat):Int)==1)),.m _] ?_
 refine zg (o:=or2) ((((a.k:Nat):Int)==1)) h ?_
 exact zdl (bl 50 4398046511116)
 intro j2 h
 refine zfj ?_
 refine zci h (fun hc6 h=> ?_) (fun hc6 h=> ?_)
 refine zr [.v (.i 0)] ?_
 replace h:=zz h hr1
 exact zdr h
 refine zg (o:=or1) () h ?_
 exact zdl (bl 50 12)
 intro j1 h
 refine zfj ?_
 refine zr [.v (.ptr 0 7),.v (.L (a.l:List Tr)),.v (.ptr 1 7),.v (.L (b.l:List Tr))] ?_
 obtain⟨x8,hx8,h⟩:=zu h
 refine zbr (args':=[.L (a.l:List Tr),.L (b.l:List Tr),.clos 71 []]) (r:= .i x8) (cpf_sh fuel (qcmp n) a.l b.l x8 71 (fun x y z h=>by obtain⟨h1,rfl⟩:=qot h;exact ih x y h1) hx8) rfl rfl (zd (zet (Enc.cloL _)) (zd (zet (Enc.cloL _)) (zd (show AV.clos _ (stripL _)=_ from congrArg (AV.clos _) rfl) rfl))) (za (zan (Enc.cloL _)) (za (zan (Enc.cloL _)) (za (show zaa _ _=true from rfl) rfl))) (by dsimp only[zh,List.set]) ?_
 refine zab ?_
 exact zdr h
theorem qle (s:BS):zmz s=some (match els s with|[]=>(0,false)|c::_=>(c,true)):=by
 unfold zmz
 rw[zbc]
 generalize els s=l
 cases l with
 |nil=>rfl
 |cons c l=>rfl
theorem z4i (a b:BS):zno a b=some (zws a b):=by
 unfold zno
 rw[zbc,zbc,zbc,qle]
 generalize hd:(a&&& ~~~b)|||(b&&& ~~~a)=d
 have hf:=zxi a.getLsbD b.getLsbD d.getLsbD (List.range 256) (fun j hj=>by
  have hj:=List.mem_range.1 hj
  rw[←hd]
  simp only[BitVec.getLsbD_or,BitVec.getLsbD_and,BitVec.getLsbD_not,hj,decide_true,Bool.true_and]
  cases a.getLsbD j<;>cases b.getLsbD j<;>rfl)
 rw[zws,hf]
 have he:els d=((List.range 256).filter fun j=>d.getLsbD j).map fun(j:Nat)=>(j:Int):=rfl
 rw[he]
 have hm: ∀c∈(List.range 256).filter (fun j=>d.getLsbD j),c<256:=fun c hc=>List.mem_range.1 (List.mem_filter.1 hc).1
 rw[show(List.range 256).filter d.getLsbD=(List.range 256).filter (fun j=>d.getLsbD j) from rfl]
 revert hm
 generalize (List.range 256).filter (fun j=>d.getLsbD j)=l
 intro hm
 cases l with
 |nil=>rfl
 | cons c l=>
  refine zaw _ rfl (zay rfl ?_)
  refine zaw (a.getLsbD c) (z6q a c (hm c (by simp))) ?_
  cases h:a.getLsbD c
  ·simp[h]
  ·simp[h]
theorem qll (x y:Int):zpf x y=some (znh x y):=by
 unfold zpf zva znh
 simp only[bindE_some,bne_self_eq_false,cond_false]
 by_cases h:x<y
 ·simp[h]
 ·by_cases h2:x>y
  ·simp[h,h2]
  ·simp[h,h2]
theorem cmp8_eq (x y:Int):z4e x y=some (znh x y):=by
 unfold z4e zor znh
 simp only[bindE_some,bne_self_eq_false,cond_false]
 by_cases h:x<y
 ·simp[h]
 ·by_cases h2:x>y
  ·simp[h,h2]
  ·simp[h,h2]
theorem most_eq (t:Tr):zwd t=some (z6i t.mx):=by
 unfold zwd z6i
 by_cases h:t.mx= -1
 ·simp[h]
 ·rw[show(t.mx== -1)=false by simpa using h,if_neg h];rfl
theorem qkc (n:Nat)(x y:Int):zvk (n+3) [x,y]=some (zes x y):=by
 unfold zvk zes
 by_cases hx:x=0
 ·by_cases hy:y=0
  ·subst hx hy;rfl
  ·subst hx
   have:(y !=0)=true:=by simpa using hy
   simp[zbv,chk,ix,this]
 ·have:(x !=0)=true:=by simpa using hx
  simp[zbv,chk,ix,this,hx]
theorem cmpf_eq (n:Nat)(a b:List Tr)(ha: ∀x∈a,(pre x).length<n)(hb: ∀x∈b,(pre x).length<n)(hl:a.length<2^60)(m:Nat)(hm:a.length<m):qeu m (qcmp n) a b=some (zkf a b):=by
 unfold qeu
 refine qem a.length (fun i=>(i:Int)) (fun i=>some (zkf (a.drop i) (b.drop i))) hm fun i hi=> ?_
 by_cases h:i<a.length
 ·have ea:a.drop i=a[i]::a.drop (i+1):=List.drop_eq_getElem_cons h
  by_cases h2:i<b.length
  ·have eb:b.drop i=b[i]::b.drop (i+1):=List.drop_eq_getElem_cons h2
   have hA:=ha a[i] (List.getElem_mem h)
   have hB:=hb b[i] (List.getElem_mem h2)
   by_cases h0:zla a[i] b[i]=0
   ·refine .inl ⟨h,?_,by simp only[ea,eb,zkf,zes,h0];simp⟩
    refine zbe (by simpa using h) (zq ⟨by omega,by omega⟩ (zai fun x1 e1=>zay (by simp;omega) (zq ⟨by omega,by omega⟩ (zai fun x2 e2=> ?_))))
    rw[zlu h] at e1
    rw[zlu h2] at e2
    subst e1 e2
    refine zaw (zla a[i] b[i]) (if_pos ⟨hA,hB⟩) (zay (by rw[h0];rfl) (zq (by omega) ?_))
    simp
   ·refine .inr ⟨.inr (zla a[i] b[i]),?_,by simp only[ea,eb,zkf,zes];rw[if_pos h0];rfl⟩
    refine zbe (by simpa using h) (zq ⟨by omega,by omega⟩ (zai fun x1 e1=>zay (by simp;omega) (zq ⟨by omega,by omega⟩ (zai fun x2 e2=> ?_))))
    rw[zlu h] at e1
    rw[zlu h2] at e2
    subst e1 e2
    refine zaw (zla a[i] b[i]) (if_pos ⟨hA,hB⟩) (zbe (by simpa using h0) ?_)
    rfl
  ·refine .inr ⟨.inr 1,?_,?_⟩
   ·exact zbe (by simpa using h) (zq ⟨by omega,by omega⟩ (zai fun x1 e1=>zbe (by simp;omega) rfl))
   ·show some 1=some (zkf (a.drop i) (b.drop i))
    rw[ea,List.drop_of_length_le (show b.length≤i by omega),zkf]
 ·refine .inr ⟨.inl (),zay (by simp;omega) rfl,?_⟩
  have ea:a.drop i=[]:=List.drop_of_length_le (by omega)
  show(bif decide ((a.length:Int)<(b.length:Int)) then some (-1) else some 0)=some (zkf (a.drop i) (b.drop i))
  rw[ea]
  by_cases h2:a.length<b.length
  ·have eb:b.drop i=b[i]::b.drop (i+1):=List.drop_eq_getElem_cons (by omega)
   rw[eb,zkf,show decide ((a.length:Int)<(b.length:Int))=true by simp;omega];rfl
  ·rw[List.drop_of_length_le (show b.length≤i by omega),zkf,show decide ((a.length:Int)<(b.length:Int))=false by simp;omega];rfl
theorem cmpt_eq (n:Nat)(a b:Tr)(ha:(pre a).length<n+1)(hb:(pre b).length<n+1)(hn:n<2^60):z8d (n+4) n a b=some (zla a b):=by
 obtain⟨k,s,mn,mx,l⟩:=a
 obtain⟨k',s',mn',mx',l'⟩:=b
 have sub: ∀(k:Nat) (s:BS) (mn mx:Int) (l:List Tr),(pre (Tr.mk k s mn mx l)).length<n+1→(∀x∈l,(pre x).length<n)∧l.length<n:=fun k s mn mx l h=>by
  rw[pre,List.length_cons] at h
  exact⟨fun x hx=>by have:=zck hx;omega,by have:=zaq l;omega⟩
 obtain⟨a1,a2⟩:=sub _ _ _ _ _ ha
 obtain⟨b1,b2⟩:=sub _ _ _ _ _ hb
 have hf:=cmpf_eq n l l' a1 b1 (by omega) (n+4) (by omega)
 unfold z8d
 simp only[Tr.k,Tr.s,Tr.mn,Tr.mx,Tr.l,cmp8_eq,qll,z4i,most_eq,bindE_some,hf]
 rw[show n+4=(n+1)+3 by omega,qkc,zla]
 simp only[bindE_some]
 by_cases e:k=k'
 ·subst e
  refine zay (by simp) ?_
  simp only[ne_eq,not_true_eq_false,if_false]
  by_cases h2:k=2
  ·subst h2;rfl
  ·have e2:(((k:Nat):Int)==2)=false:=by simp;omega
   rw[e2,cond_false,if_neg h2]
   by_cases h5:k=5
   ·subst h5
    rw[if_pos rfl]
    rw[show((((5:Nat):Int))==5)=true from rfl,cond_true]
    generalize zes (znh mn mn') (znh (z6i mx) (z6i mx'))=c
    by_cases hc:c=0
    ·subst hc;rfl
    ·rw[show(c !=0)=true by simpa using hc,zes,if_pos hc];rfl
   ·have e5:(((k:Nat):Int)==5)=false:=by simp;omega
    rw[e5,cond_false,if_neg h5]
    by_cases h0:k=0
    ·subst h0;rfl
    ·have e0:(((k:Nat):Int)==0)=false:=by simp;omega
     rw[e0,cond_false]
     by_cases h1:k=1
     ·subst h1;rfl
     ·have e1:(((k:Nat):Int)==1)=false:=by simp;omega
      rw[e1,if_neg (by omega)];rfl
 ·refine zbe (by simp;omega) ?_
  rw[if_pos e]
theorem qfj: ∀(n:Nat),n<2^60+1→ ∀a b:Tr,(pre a).length<n∧(pre b).length<n→Pure (ITP Tryz.prog) Tryz.prog 71 [.agg (Enc.cells a),.agg (Enc.cells b)] (.raw (.int .i64 (zla a b)))
 |0,_=>fun a b h=>by omega
 |n+1,hn=>fun a b h=>cmpt_sh (n+4) n a b _ (fun x y hxy=>qfj n (by omega) x y hxy) (cmpt_eq n a b h.1 h.2 (by omega))
theorem cmp_at (a b:Tr)(h:(pre a).length<2^60∧(pre b).length<2^60):Pure (ITP Tryz.prog) Tryz.prog 71 [.agg (Enc.cells a),.agg (Enc.cells b)] (.raw (.int .i64 (zla a b))):=qfj (2^60) (by decide) a b h
theorem qcb {ρ:Type} (M:Nat)(Z T:Int)(hZ:Z=M)(hT:T=M+1)(lo hi:Int)(hlo:lo≤0)(hhi:(M:Int)+1<hi)(l:List Tr): ∀(s:Nat),s≤M→zgo (β:=Int) (ρ:=Int ⊕ ρ) (fun s1 w1=>(chk (lo≤(s1+1)∧(s1+1)<hi) (bif (decide ((s1+1)>Z)) then(some (Sum.inr (Sum.inl ((s1+1))))) else(some (Sum.inl ((s1+1))))))) l (s:Int)=if s+l.length≤M then some (.inl ((s+l.length:Nat):Int)) else some (.inr (.inl T)):=by
 induction l with
 |nil=>intro s h;rw[if_pos (by simpa using h)];rfl
 | cons x l ih=>
  intro s h
  have hb:(chk (lo≤((s:Int)+1)∧((s:Int)+1)<hi) (bif (decide (((s:Int)+1)>Z)) then(some (Sum.inr (Sum.inl (((s:Int)+1))))) else(some (Sum.inl (((s:Int)+1))))):Option (Int ⊕ (Int ⊕ ρ)))=if s+1≤M then some (.inl ((s+1:Nat):Int)) else some (.inr (.inl T)):=by
   refine zq (by omega) ?_
   by_cases h1:s+1≤M
   ·rw[if_pos h1,show decide ((s:Int)+1>Z)=false by simp;omega];rfl
   ·rw[if_neg h1,show decide ((s:Int)+1>Z)=true by simp;omega,show((s:Int)+1)=T by omega];rfl
  simp only[zgo,hb]
  rw[List.length_cons]
  by_cases h1:s+1≤M
  ·simp only[if_pos h1]
   rw[ih (s+1) h1]
   simp only[show s+1+l.length=s+(l.length+1) by omega]
  ·simp only[if_neg h1];rw[if_neg (by omega)]
theorem qlz (t:Tr)(h:(pre t).length<2^61):zzt t=some (zcj t):=by
 unfold zzt
 rw[zdk h,zbc,show(0:Int)=((0:Nat):Int) from rfl,qcb 10000 10000 10001 (by omega) (by omega) _ _ (by omega) (by omega) (pre t) 0 (by omega)]
 unfold zcj
 by_cases h1:(pre t).length≤10000
 ·rw[if_pos (by omega)]
  show some _=some _
  congr 1
  rw[Bool.eq_iff_iff];simp;omega
 ·rw[if_neg (by omega)]
  show some _=some _
  congr 1
  rw[Bool.eq_iff_iff];simp;omega
theorem zji (t:Tr)(h:(pre t).length<2^61):Pure (ITP Tryz.prog) Tryz.prog 62 [.agg (Enc.cells t)] (.raw (.bool (zcj t))):=qng t _ (qlz t h)
theorem qme (n:Nat)(a b:List Tr)(hab:a.length=b.length)(hl:a.length<2^60)(ha: ∀x∈a,(pre x).length<n)(hb: ∀x∈b,(pre x).length<n)(m:Nat)(hm:a.length<m):z6l m (qcr n) a b=some (zkt a b):=by
 unfold z6l
 refine zay (by rw[hab];simp) ?_
 refine qem a.length (fun i=>(i:Int)) (fun i=>some (zkt (a.drop i) (b.drop i))) hm fun i hi=> ?_
 by_cases h:i<a.length
 ·have h2:i<b.length:=by omega
  have ea:a.drop i=a[i]::a.drop (i+1):=List.drop_eq_getElem_cons h
  have eb:b.drop i=b[i]::b.drop (i+1):=List.drop_eq_getElem_cons h2
  have hA:=ha a[i] (List.getElem_mem h)
  have hB:=hb b[i] (List.getElem_mem h2)
  cases h0:zfo a[i] b[i] with
  | true=>
   refine .inl ⟨h,?_,by simp only[ea,eb,zkt,h0,Bool.true_and]⟩
   refine zbe (by simpa using h) (zq ⟨by omega,by omega⟩ (zai fun x1 e1=>zq ⟨by omega,by omega⟩ (zai fun x2 e2=> ?_)))
   rw[zlu h] at e1
   rw[zlu h2] at e2
   subst e1 e2
   refine zaw true (by unfold qcr q2;rw[if_pos ⟨hA,hB⟩,h0]) (zay rfl (zq (by omega) ?_))
   simp
  | false=>
   refine .inr ⟨.inr false,?_,by simp only[ea,eb,zkt,h0];rfl⟩
   refine zbe (by simpa using h) (zq ⟨by omega,by omega⟩ (zai fun x1 e1=>zq ⟨by omega,by omega⟩ (zai fun x2 e2=> ?_)))
   rw[zlu h] at e1
   rw[zlu h2] at e2
   subst e1 e2
   exact zaw false (by unfold qcr q2;rw[if_pos ⟨hA,hB⟩,h0]) (zbe rfl rfl)
 ·refine .inr ⟨.inl (),zay (by simp;omega) rfl,?_⟩
  rw[List.drop_of_length_le (by omega),List.drop_of_length_le (by omega)]
  rfl
theorem z9h: ∀(a b:List Tr),a.length≠b.length→zkt a b=false
 |[],[],h=>absurd rfl h
 |[],_::_,_=>rfl
 |_::_,[],_=>rfl
 |x::a,y::b,h=>by rw[zkt,z9h a b (by simpa using h),Bool.and_false]
theorem qlv (n:Nat)(a b:List Tr)(hl:a.length<2^60)(ha: ∀x∈a,(pre x).length<n)(hb: ∀x∈b,(pre x).length<n)(m:Nat)(hm:a.length<m):z6l m (qcr n) a b=some (zkt a b):=by
 by_cases hab:a.length=b.length
 ·exact qme n a b hab hl ha hb m hm
 ·unfold z6l
  rw[z9h a b hab]
  exact zbe (by simp;omega) rfl
theorem qmf (n:Nat)(a b:Tr)(ha:(pre a).length<n+1)(hb:(pre b).length<n+1)(hn:n<2^60):zza (n+1) n a b=some (zfo a b):=by
 obtain⟨k,s,mn,mx,l⟩:=a
 obtain⟨k',s',mn',mx',l'⟩:=b
 have sub: ∀(k:Nat) (s:BS) (mn mx:Int) (l:List Tr),(pre (Tr.mk k s mn mx l)).length<n+1→(∀x∈l,(pre x).length<n)∧l.length<n+1:=fun k s mn mx l h=>by
  rw[pre,List.length_cons] at h
  exact⟨fun x hx=>by have:=zck hx;omega,by have:=zaq l;omega⟩
 obtain⟨a1,a2⟩:=sub _ _ _ _ _ ha
 obtain⟨b1,b2⟩:=sub _ _ _ _ _ hb
 have hf:=qlv n l l' (by omega) a1 b1 (n+1) (by omega)
 unfold zza
 simp only[Tr.k,Tr.s,Tr.mn,Tr.mx,Tr.l,hf,bindE_some,zfo]
 by_cases hs:s=s'<;>cases (k:Int)==k'<;>cases mn==mn'<;>cases mx==mx'<;>simp[hs]
theorem z9e: ∀(n:Nat),n<2^60+1→ ∀a b:Tr,(pre a).length<n∧(pre b).length<n→Pure (ITP Tryz.prog) Tryz.prog 65 [.agg (Enc.cells a),.agg (Enc.cells b)] (.raw (.bool (zfo a b)))
 |0,_=>fun a b h=>by omega
 |n+1,hn=>fun a b h=>qkl (n+1) n a b _ (fun x y hxy=>z9e n (by omega) x y hxy) (qmf n a b h.1 h.2 (by omega))
theorem qhr (a b:Tr)(h:(pre a).length<2^60∧(pre b).length<2^60):Pure (ITP Tryz.prog) Tryz.prog 65 [.agg (Enc.cells a),.agg (Enc.cells b)] (.raw (.bool (zfo a b))):=z9e (2^60) (by decide) a b h
theorem qon:Ent Tryz.prog 168:=enters_of Tryz.func168 (by kernel_rfl) rfl
theorem z7g (l:List Tr)(hl:List.isEmpty l=true):Snd (ITP Tryz.prog) Tryz.prog 168 [.list (List.length l) (Enc.cellsL l) .none] St.empty (.list 0 [] .full) ⟨[],[],[],0,false⟩:=by
 obtain rfl:l=[]:=List.isEmpty_iff.1 hl
 obtain⟨d,hd⟩: ∃d,Tryz.f168.body=some d:=⟨_,rfl⟩
 refine zrd mix Tryz.func168 hd qon ?_
 cases hd
 refine zah (by dsimp only[zbf,Tryz.f168,List.length_cons,List.length_nil,Nat.zero_add,Nat.reduceAdd,Nat.reduceSub,List.replicate,List.cons_append,List.nil_append]) (by dsimp only[St.empty]) ?_
 refine zf (zb ?_)
 refine zbm (a:= .list 0 [] .full) rfl rfl rfl rfl (by dsimp only[zh,List.set]) ?_
 refine zf ?_
 refine zf (zb ?_)
 refine zbm (a:= .list 0 [] .none) rfl rfl rfl rfl (by dsimp only[zh,List.set]) ?_
 refine w_nil 0 false rfl rfl rfl ⟨_,_,_,_,_,rfl,.inl ⟨rfl,rfl⟩,rfl,.inl ⟨_,_,rfl⟩⟩ (by dsimp only[zh,List.set]) (by dsimp only[zh,List.set]) (fun h1=> ?_) ?_
 ·refine zce rfl ?_
  refine zf (zb ?_)
  refine zbm (a:= .list 0 [] .full) rfl rfl rfl rfl (by dsimp only[zh,List.set]) ?_
  exact zsc (n:=0) (m:=0) [] [] 1 rfl rfl rfl rfl
 ·refine zcl rfl ?_
  refine zf (zb ?_)
  refine zbm (a:= .list 0 [] .full) rfl rfl rfl rfl (by dsimp only[zh,List.set]) ?_
  refine zbm (a:= .list 0 [] .none) rfl rfl rfl rfl (by dsimp only[zh,List.set]) ?_
  refine zbm (a:= .list 0 [] .full) rfl rfl rfl rfl (by dsimp only[zh,List.set]) ?_
  refine zbm (a:= .list 0 [] .full) rfl rfl rfl rfl (by dsimp only[zh,List.set]) ?_
  exact zsc (n:=0) (m:=0) [] [] 1 rfl rfl rfl rfl
theorem z1v (l:List Tr)(g:List.length l*80≤140737488355328)(hl:List.isEmpty l=false):Snd (ITP Tryz.prog) Tryz.prog 168 [.list (List.length l) (Enc.cellsL l) .none] St.empty (.bsl 0 0 (List.length l) 8 false) ⟨[(29,Enc.cellsL l)],[],[],0,false⟩:=by
 have h0:l≠[]:=fun e=>by rw[e] at hl;cases hl
 have hp:=List.length_pos_iff.2 h0
 obtain⟨d,hd⟩: ∃d,Tryz.f168.body=some d:=⟨_,rfl⟩
 refine zrd mix Tryz.func168 hd qon ?_
 cases hd
 refine zah (by dsimp only[zbf,Tryz.f168,List.length_cons,List.length_nil,Nat.zero_add,Nat.reduceAdd,Nat.reduceSub,List.replicate,List.cons_append,List.nil_append]) (by dsimp only[St.empty]) ?_
 refine zf (zb ?_)
 refine zbm (a:= .list 0 [] .full) rfl rfl rfl rfl (by dsimp only[zh,List.set]) ?_
 refine zf ?_
 refine zf (zb ?_)
 refine zbm (a:= .list l.length (Enc.cellsL l) .none) rfl rfl rfl rfl (by dsimp only[zh,List.set]) ?_
 refine w_nil l.length false rfl rfl rfl ⟨_,_,_,_,_,rfl,.inl ⟨rfl,rfl⟩,rfl,.inl ⟨_,_,rfl⟩⟩ (by dsimp only[zh,List.set]) (by dsimp only[zh,List.set]) (fun h1=> ?_) ?_
 ·omega
 ·refine zcl rfl ?_
  refine zf (zb ?_)
  refine zbm (a:= .list 0 [] .full) rfl rfl rfl rfl (by dsimp only[zh,List.set]) ?_
  refine zbm (a:= .list l.length (Enc.cellsL l) .none) rfl rfl rfl rfl (by dsimp only[zh,List.set]) ?_
  refine zgs rfl rfl rfl (qah rfl rfl rfl rfl rfl rfl rfl rfl rfl (zox ⟨rfl,Enc.lenL l,by decide⟩) ⟨by decide,rfl,hp⟩ ⟨rfl,by unfold maxLen;omega,by show(0+l.length)*80≤_;omega⟩) (by dsimp only[zh,List.set]) rfl ?_
  refine zbm rfl rfl rfl rfl (by dsimp only[zh,List.set,zeg,List.getElem?_cons_zero,List.getElem?_cons_succ,Option.getD]) ?_
  refine zsc (n:=0) (m:=0) [] [0] 1 rfl rfl ?_ ?_
  ·rw[Nat.zero_add];rfl
  ·exact zdp (zal (cs:=Enc.cellsL l) rfl (zam _ _ _ (Enc.cloL _)) zcr) rfl
theorem qbh (l:List Tr)(hl:List.isEmpty l=true)(σ:St):Snd (ITP Tryz.prog) Tryz.prog 168 [.list (List.length l) (Enc.cellsL l) .none] σ (.list 0 [] .full) σ:=by
 have h:=z9r (zat _) (z7g l hl) (args:=[.list l.length (Enc.cellsL l) .none]) (by rw[stripL,zcv,Enc.stripL];rfl) (by rw[zaa,zbk,zm _ _ (Enc.cloL l)];rfl) σ
 simpa[zmo,zby,qla,shz,zht] using h
theorem z5p (l:List Tr)(g:List.length l*80≤140737488355328)(hl:List.isEmpty l=false)(n:Nat)(σ:St)(hσ:σ.boxes.length=n):Snd (ITP Tryz.prog) Tryz.prog 168 [.list (List.length l) (Enc.cellsL l) .none] σ (.bsl n 0 (List.length l) 8 false) {σ with boxes:=σ.boxes++[(29,Enc.cellsL l)]}:=by
 subst hσ
 have h:=z9r (zat _) (z1v l g hl) (args:=[.list l.length (Enc.cellsL l) .none]) (by rw[stripL,zcv,Enc.stripL];rfl) (by rw[zaa,zbk,zm _ _ (Enc.cloL l)];rfl) σ
 simpa[zmo,zby,qla,shz,zht,zam _ _ _ (Enc.cloL l)] using h
end Go.Ab
