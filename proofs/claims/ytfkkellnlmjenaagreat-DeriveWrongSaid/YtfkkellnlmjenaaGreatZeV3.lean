/-
  rx: Clean, Same, Compare, copied as plain functions.
-/
import Derived.Shelf.Spec.SlicesInsert
import Derived.Lib.AppendZerosOnto
import Derived.Laws.CopyRow
import Derived.Test.YtfkkellnlmjenaaGreatZeCl
set_option linter.unusedSimpArgs false
set_option linter.unusedVariables false
namespace Go.Ab
open Go Go.RowKit Go.Fwd
end Go.Ab
namespace Go.Ab
open Go Go.RowKit Go.Fwd Go.Proofs
structure InsLaw (P:Program)(f:FuncId)(S e:TypeId)(sz by':Nat):Prop where
 room: ∀(b n c i vb voff m vc:Nat) (R V:List Value) (t0:TypeId) (tA:TypeId) (kA:Nat) (w:World) (hi:i<n) (hm:0<m) (hroom:n+m≤c) (hc63:n+m≤4611686018427387904) (hvb:vb≠b)
  (hrow:w.heap[b]? =some (.cells R.toArray t0 (0,0))) (hR:c*sz≤R.length) (hone: ∀v∈R.take (n*sz),v.oneCell'=true) (hVl:V.length=m*sz) (hV: ∀j v,V[j]? =some v→w.cell? ⟨vb,voff+j,none⟩=some v) (h1v: ∀v∈V,v.oneCell'=true)
  (hsa:w.shape? vb=some (tA,kA)) (hkA:kA≠0),
  Calls P f #[.slice (some ⟨b,0,none⟩) n c,.int .i64 i,.slice (some ⟨vb,voff,none⟩) m vc] w fun e w'=>
   e= .returned (.slice (some ⟨b,0,none⟩) (n+m) c)∧w'=w.drew.setRow b (R.take (i*sz)++V++(R.drop (i*sz)).take ((n-i)*sz)++R.drop ((n+m)*sz)).toArray
 stop: ∀(base:Option Addr) (n c m vc:Nat) (va:Option Addr) (r:Value) (w w1:World) (hm:0<m) (hnc:n≤c) (hc63:n+m≤4611686018427387904) (hnil:base=none→c=0)
  (hrun:(Builtin.append_ #[S,S] S #[.slice base n c,.slice va m vc]).run P w= .ok r w1),
  Calls P f #[.slice base n c,.int .i64 n,.slice va m vc] w fun e w'=>e= .returned r∧w'=w1
 grow: ∀(b n c i vb voff m vc:Nat) (R V:List Value) (t0:TypeId) (tA:TypeId) (kA:Nat) (w:World) (hi:i<n) (hm:0<m) (hnc:n≤c) (hroom:c<n+m) (hbig:(n+m)*by'≤140737488355328) (hvb:vb<w.heap.size)
  (hrow:w.heap[b]? =some (.cells R.toArray t0 (0,0))) (hR:c*sz≤R.length) (hone: ∀v∈R.take (n*sz),v.oneCell'=true) (hVl:V.length=m*sz) (hV: ∀j v,V[j]? =some v→w.cell? ⟨vb,voff+j,none⟩=some v) (h1v: ∀v∈V,v.oneCell'=true),
  Calls P f #[.slice (some ⟨b,0,none⟩) n c,.int .i64 i,.slice (some ⟨vb,voff,none⟩) m vc] w fun e' w'=>
   ∃G Z,n+m≤G∧e'= .returned (.slice (some ⟨w.heap.size,0,none⟩) (n+m) G)∧Z.length+(n+m)*sz=G*sz∧w'=w.drew.drew.alloc (.cells (R.take (i*sz)++V++(R.drop (i*sz)).take ((n-i)*sz)++Z:List Value).toArray e)
section
variable {α:Type} [Enc α]
end
section
variable {IT:IterP} {P:Program} {W:Owed} {k0:Nat}
theorem z4q {x y:Code} {Q:AQ} {S:List AV} {σ:St} (h:awp IT P W k0 x (zvq (fun S σ=> ∃S' σ',Wk k0 S σ S' σ'∧awp IT P W k0 y Q S' σ') Q) S σ):awp IT P W k0 (.seq x y) Q S σ:=h
theorem qei {y:Code} {Q:AQ} {S S':List AV} {σ σ':St} (hw:Wk k0 S σ S' σ')(h:awp IT P W k0 y Q S' σ'): ∃S' σ',Wk k0 S σ S' σ'∧awp IT P W k0 y Q S' σ':=⟨S',σ',hw,h⟩
end
end Go.Ab
set_option maxRecDepth 100000
set_option maxHeartbeats 4000000
namespace Go.Ab
open Go Go.RowKit Go.Fwd Go.Proofs
def zyz (t:Tr):Option Bool:=
 (chk ((pre t).length<2^61) (zbc (zcj t) (fun x1=>(bif (!x1) then(some false) else(zdn (τ:=Unit) (chk ((pre t).length<2^61) (zbc (pre t) (fun x2=>(zdn (zgo (β:=Unit) (fun s1 w1=>(chk ((pre w1).length<2^61) (zbc (zds w1) (fun x3=>(bif (!x3) then(some (Sum.inr (Sum.inr false))) else(some (Sum.inl ()))))))) x2 ()) (fun s1=>(some (Sum.inl ()))))))) (fun j1=>(some true)))))))
theorem ent20:Ent Tryz.prog 20:=enters_of Tryz.func20 (by kernel_rfl) rfl
theorem qmb (t:Tr)(r:Bool)(h:zyz t=some r):Pure (ITP Tryz.prog) Tryz.prog 20 [.A (t:Tr)] (.raw (.bool r)):=by
 unfold zyz at h
 refine zbd 12 mix Tryz.func20 ent20 ?_
 refine zf (zb ?_)
 refine zbz (a:= .ptr 0 0) (σ'':=(.B [(29,(Enc.cells (t:Tr)))])) ?_
 refine zbz (a:= .ptr 1 0) (σ'':=(.B [(29,(Enc.cells (t:Tr))),(4,[.b false])])) ?_
 refine zf ?_
 refine zr [.v (.A (t:Tr))] ?_
 obtain⟨g1,h⟩:=zi h
 obtain⟨x1,hx1,h⟩:=zo h
 refine zcq (args':=[.A (t:Tr)]) (r:= .b x1) (by rw[←hx1];exact(zji t g1)) ?_
 refine w_o (a:= .b (!x1)) ?_
 refine zci h (fun hc1 h=> ?_) (fun hc1 h=> ?_)
 refine zf (zb ?_)
 refine zcx 1 (.B [(29,(Enc.cells (t:Tr))),(4,[.b false])]) ?_
 exact zbg h
 refine zau h (bz 0 13 8187) (fun j1=>[]) (fun j1=>(.B [(29,(Enc.cells (t:Tr))),(4,[.b false])])) ?_ ?_
 intro or1 h hr1
 refine zr [.v (.A (t:Tr))] ?_
 obtain⟨g2,h⟩:=zi h
 obtain⟨x2,hx2,h⟩:=zo h
 refine zcq (args':=[.A (t:Tr)]) (r:= .iter (List.map zqw x2)) (by rw[←hx2];exact(zut t g2)) ?_
 refine zp ?_
 refine zks h zqw (fun s1=>(.B [(29,(Enc.cells (t:Tr))),(4,[.b false])])) rfl (fun _=>rfl) rfl rfl ?_ ?_
 intro s1 w1 p1 h
 refine zah (by dsimp only[znd,List.zip,List.zipWith,List.foldl,List.set,Array.toList]) rfl ?_
 refine zb (k0:=0) (id:=4) ?_
 refine zbz (a:= .ptr 2 0) (σ'':=(.B [(29,(Enc.cells (t:Tr))),(4,[.b false]),(29,[.u 0,.raw (.int .u64 0),.raw (.int .u64 0),.raw (.int .u64 0),.raw (.int .u64 0),.i 0,.i 0,.list 0 [] .full])])) ?_
 refine zcx 8 (.B [(29,(Enc.cells (t:Tr))),(4,[.b false]),(29,(Enc.cells (w1:Tr)))]) ?_
 refine zp ?_
 refine zr [.v (.A (w1:Tr))] ?_
 obtain⟨g3,h⟩:=zi h
 obtain⟨x3,hx3,h⟩:=zo h
 refine zcq (args':=[.A (w1:Tr)]) (r:= .b x3) (by rw[←hx3];exact(k_right w1 g3)) ?_
 refine w_o (a:= .b (!x3)) ?_
 refine zci h (fun hc2 h=> ?_) (fun hc2 h=> ?_)
 refine zf (zb ?_)
 refine zcx 1 (.B [(29,(Enc.cells (t:Tr))),(4,[.b false]),(29,(Enc.cells (w1:Tr)))]) ?_
 refine zw h (fun h=>⟨(zbi (zt (zm _ _ (Enc.clo _)) (zt (by kernel_rfl) rfl))),?_⟩)
 replace h:=zz h hr1
 exact zbg h
 exact zfg (p:=p1) () h (zbi (zt (zm _ _ (Enc.clo _)) (zt (by kernel_rfl) rfl))) (by kernel_rfl)
 intro s1 h
 refine zg (o:=or1) () h ?_
 exact zdl (bl 13 4)
 intro j1 h
 refine zfj ?_
 refine zf (zb ?_)
 refine zcx 1 (.B [(29,(Enc.cells (t:Tr))),(4,[.b true])]) ?_
 exact zbg h
def qai (a:Tr)(b:Tr):Option Bool:=
 (chk ((pre a).length<2^61) (zbc (zcj a) (fun x1=>(bif x1 then(chk ((pre b).length<2^61) (zbc (zcj b) (fun x2=>(bif x2 then(chk ((pre a).length<2^60∧(pre b).length<2^60) (zbc (zfo a b) (fun x3=>(some x3)))) else(some false))))) else(some false)))))
theorem ent23:Ent Tryz.prog 23:=enters_of Tryz.func23 (by kernel_rfl) rfl
theorem same_sh (a:Tr)(b:Tr)(r:Bool)(h:qai a b=some r):Pure (ITP Tryz.prog) Tryz.prog 23 [.A (a:Tr),.A (b:Tr)] (.raw (.bool r)):=by
 unfold qai at h
 refine zbd 14 mix Tryz.func23 ent23 ?_
 refine zf (zb ?_)
 refine zbz (a:= .ptr 0 0) (σ'':=(.B [(29,(Enc.cells (a:Tr)))])) ?_
 refine zbz (a:= .ptr 1 0) (σ'':=(.B [(29,(Enc.cells (a:Tr))),(29,(Enc.cells (b:Tr)))])) ?_
 refine w_o (a:= .b false) ?_
 refine zr [.v (.A (a:Tr))] ?_
 obtain⟨g1,h⟩:=zi h
 obtain⟨x1,hx1,h⟩:=zo h
 refine zcq (args':=[.A (a:Tr)]) (r:= .b x1) (by rw[←hx1];exact(zji a g1)) ?_
 refine zae h (fun hc1 h=> ?_) (fun hc1 h=> ?_)
 refine zbj hc1 ?_
 refine zaf rfl rfl ?_
 refine w_o (a:= .A (b:Tr)) ?_
 refine zaf rfl rfl ?_
 obtain⟨g2,h⟩:=zi h
 obtain⟨x2,hx2,h⟩:=zo h
 refine zcq (args':=[.A (b:Tr)]) (r:= .b x2) (by rw[←hx2];exact(zji b g2)) ?_
 refine w_o (a:= .b x2) ?_
 refine zae h (fun hc2 h=> ?_) (fun hc2 h=> ?_)
 refine zbj hc2 ?_
 refine w_r [.v (.A (a:Tr)),.v (.A (b:Tr))] ?_
 refine zaf rfl rfl ?_
 obtain⟨g3,h⟩:=zi h
 obtain⟨x3,hx3,h⟩:=zo h
 refine zcq (args':=[.A (a:Tr),.A (b:Tr)]) (r:= .b x3) (by rw[←hx3];exact(qhr a b g3)) ?_
 refine w_r [.v (.b x3),.m _] ?_
 exact zbg h
 refine zbj hc2 ?_
 refine w_r [.p,.p,.p,.v (.b false),.m _] ?_
 exact zbg h
 refine zbj hc1 ?_
 refine w_r [.p,.p,.v (.b false),.m _,.p] ?_
 refine w_r [.p,.p,.v (.b false),.m _] ?_
 exact zbg h
def zov (a:Tr)(b:Tr):Option Int:=
 (chk ((pre a).length<2^61) (zbc (zcj a) (fun x1=>(bif (!x1) then(some 0) else(chk ((pre b).length<2^61) (zbc (zcj b) (fun x2=>(bif (!x2) then(some 0) else(chk ((pre a).length<2^60∧(pre b).length<2^60) (zbc (zla a b) (fun x3=>(some x3))))))))))))
theorem ent31:Ent Tryz.prog 31:=enters_of Tryz.func31 (by kernel_rfl) rfl
theorem qau (a:Tr)(b:Tr)(r:Int)(h:zov a b=some r):Pure (ITP Tryz.prog) Tryz.prog 31 [.A (a:Tr),.A (b:Tr)] (.raw (.int .i64 r)):=by
 unfold zov at h
 refine zbd 14 mix Tryz.func31 ent31 ?_
 refine zf (zb ?_)
 refine zbz (a:= .ptr 0 0) (σ'':=(.B [(29,(Enc.cells (a:Tr)))])) ?_
 refine zbz (a:= .ptr 1 0) (σ'':=(.B [(29,(Enc.cells (a:Tr))),(29,(Enc.cells (b:Tr)))])) ?_
 refine w_o (a:= .i 0) ?_
 refine zf ?_
 refine zr [.v (.A (a:Tr))] ?_
 obtain⟨g1,h⟩:=zi h
 obtain⟨x1,hx1,h⟩:=zo h
 refine zcq (args':=[.A (a:Tr)]) (r:= .b x1) (by rw[←hx1];exact(zji a g1)) ?_
 refine w_o (a:= .b (!x1)) ?_
 refine zae h (fun hc1 h=> ?_) (fun hc1 h=> ?_)
 refine zbj hc1 ?_
 refine w_r [.p,.p,.p,.v (.b true)] ?_
 refine zce rfl ?_
 refine zr [.v (.i 0)] ?_
 exact zdr h
 refine zbj hc1 ?_
 refine zaf rfl rfl ?_
 refine w_o (a:= .A (b:Tr)) ?_
 refine zaf rfl rfl ?_
 obtain⟨g2,h⟩:=zi h
 obtain⟨x2,hx2,h⟩:=zo h
 refine zcq (args':=[.A (b:Tr)]) (r:= .b x2) (by rw[←hx2];exact(zji b g2)) ?_
 refine w_r [.v (.b (!x2)),.v (.b (!x2))] ?_
 refine zci h (fun hc2 h=> ?_) (fun hc2 h=> ?_)
 refine zr [.v (.i 0)] ?_
 exact zdr h
 refine zr [.v (.A (a:Tr)),.v (.A (b:Tr))] ?_
 obtain⟨g3,h⟩:=zi h
 obtain⟨x3,hx3,h⟩:=zo h
 refine zcq (args':=[.A (a:Tr),.A (b:Tr)]) (r:= .i x3) (by rw[←hx3];exact(cmp_at a b g3)) ?_
 refine zab ?_
 exact zdr h
def znw (fuel:Nat)(n:Nat)(t:Tr):Option Tr:=
 (bif (List.isEmpty t.l) then(zdn (τ:=Unit) (zbv (β:=Int) (fun s1=>(bif (decide (s1<0)) then none else(some (Sum.inr (Sum.inl ()))))) fuel (0)) (fun j1=>(some (Tr.mk t.k t.s t.mn t.mx [])))) else(chk (List.length t.l*80≤140737488355328) (zdn (τ:=(List Tr)) (zbv (β:=Int×(List Tr)) (fun s2=>(bif (decide (s2.1<(((List.length t.l):Nat):Int))) then(chk (0≤s2.1∧s2.1<(((List.length t.l):Nat):Int)) (chk (0≤s2.1∧s2.1<(List.length s2.2:Int)) (zbc (ix s2.2 s2.1) (fun x1=>(chk ((pre x1).length<n) (zbc x1 (fun x2=>(chk (0≤s2.1∧s2.1<(((List.length t.l):Nat):Int)) (chk (0≤s2.1∧s2.1<(List.length s2.2:Int)) (zbc (ix s2.2 s2.1) (fun x3=>(chk (-9223372036854775808≤(s2.1+1)∧(s2.1+1)<9223372036854775808) (some (Sum.inl ((s2.1+1),(List.set s2.2 (Int.toNat s2.1) x2)))))))))))))))) else(some (Sum.inr (Sum.inl (s2.2)))))) fuel (0,t.l)) (fun j2=>(chk (List.length j2=(List.length t.l)) (some (Tr.mk t.k t.s t.mn t.mx j2)))))))
theorem ent140:Ent Tryz.prog 140:=enters_of Tryz.func140 (by kernel_rfl) rfl
theorem qch (fuel:Nat)(n:Nat)(t:Tr)(r:Tr)(ih: ∀x:Tr,(pre x).length<n→Pure (ITP Tryz.prog) Tryz.prog 140 [.A x] (.A x))(h:znw fuel n t=some r):Pure (ITP Tryz.prog) Tryz.prog 140 [.A (t:Tr)] (.A (r:Tr)):=by
 unfold znw at h
 refine zbd 24 mix Tryz.func140 ent140 ?_
 refine zf (zb ?_)
 refine zbz (a:= .ptr 0 0) (σ'':=(.B [(29,(Enc.cells (t:Tr)))])) ?_
 refine zbz (a:= .ptr 1 0) (σ'':=(.B [(29,(Enc.cells (t:Tr))),(29,[.u 0,.raw (.int .u64 0),.raw (.int .u64 0),.raw (.int .u64 0),.raw (.int .u64 0),.i 0,.i 0,.list 0 [] .full])])) ?_
 refine zr [.v (.ptr 0 7),.v (.L (t.l:List Tr))] ?_
 refine zae h (fun hc1 h=> ?_) (fun hc1 h=> ?_)
 refine z3i (r:= .list 0 [] .full) (σ':=(.B [(29,(Enc.cells (t:Tr))),(29,[.u 0,.raw (.int .u64 0),.raw (.int .u64 0),.raw (.int .u64 0),.raw (.int .u64 0),.i 0,.i 0,.list 0 [] .full])])) (qbh t.l hc1 _) rfl rfl ⟨rfl,rfl⟩ (by dsimp only[zh,List.set]) ?_
 refine w_o (a:= .ptr 0 7) ?_
 refine zbz (σ'':=(.B [(29,[.u ((t.k:Nat):Int),.raw (.int .u64 (wd t.s 0)),.raw (.int .u64 (wd t.s 1)),.raw (.int .u64 (wd t.s 2)),.raw (.int .u64 (wd t.s 3)),.i t.mn,.i t.mx,.list 0 [] .full]),(29,[.u 0,.raw (.int .u64 0),.raw (.int .u64 0),.raw (.int .u64 0),.raw (.int .u64 0),.i 0,.i 0,.list 0 [] .full])])) (h:=zmb (n:=1) rfl rfl rfl rfl rfl ⟨rfl,rfl,Nat.le_of_ble_eq_true rfl,by decide⟩) ?_
 refine zau h (bz 0 25 33554425) (fun j1=>[]) (fun j1=>(.B [(29,[.u ((t.k:Nat):Int),.raw (.int .u64 (wd t.s 0)),.raw (.int .u64 (wd t.s 1)),.raw (.int .u64 (wd t.s 2)),.raw (.int .u64 (wd t.s 3)),.i t.mn,.i t.mx,.list 0 [] .full]),(29,[.u 0,.raw (.int .u64 0),.raw (.int .u64 0),.raw (.int .u64 0),.raw (.int .u64 0),.i 0,.i 0,.list 0 [] .full])])) ?_ ?_
 intro or1 h hr1
 refine zr [.v (.ptr 0 7),.v (.list 0 [] .full),.v (.i 0),.v (.i 0)] ?_
 refine zp ?_
 refine zbx h (bz 0 25 33551353) (fun s1=>[(12,.i s1)]) (fun s1=>(.B [(29,[.u ((t.k:Nat):Int),.raw (.int .u64 (wd t.s 0)),.raw (.int .u64 (wd t.s 1)),.raw (.int .u64 (wd t.s 2)),.raw (.int .u64 (wd t.s 3)),.i t.mn,.i t.mx,.list 0 [] .full]),(29,[.u 0,.raw (.int .u64 0),.raw (.int .u64 0),.raw (.int .u64 0),.raw (.int .u64 0),.i 0,.i 0,.list 0 [] .full])])) ?_ ?_
 exact zdl (bl 25 7174)
 intro s1 p1 h
 refine zfj ?_
 refine zr [.v (.b (decide (s1<0)))] ?_
 refine zf ?_
 refine zci h (fun hc2 h=> ?_) (fun hc2 h=> ?_)
 refine zf ?_
 refine zp ?_
 refine zr [.m _] ?_
 cases h
 refine zw h (fun h=> ?_)
 refine zg (o:=or1) () h ?_
 exact zdl (bl 25 6)
 intro j1 h
 refine zfj ?_
 refine z4q (zb ?_)
 refine w_o (a:= .agg [.u ((t.k:Nat):Int),.raw (.int .u64 (wd t.s 0)),.raw (.int .u64 (wd t.s 1)),.raw (.int .u64 (wd t.s 2)),.raw (.int .u64 (wd t.s 3)),.i t.mn,.i t.mx,.list 0 [] .full]) ?_
 refine zcx 8 (.B [(29,[.u ((t.k:Nat):Int),.raw (.int .u64 (wd t.s 0)),.raw (.int .u64 (wd t.s 1)),.raw (.int .u64 (wd t.s 2)),.raw (.int .u64 (wd t.s 3)),.i t.mn,.i t.mx,.list 0 [] .full]),(29,[.u ((t.k:Nat):Int),.raw (.int .u64 (wd t.s 0)),.raw (.int .u64 (wd t.s 1)),.raw (.int .u64 (wd t.s 2)),.raw (.int .u64 (wd t.s 3)),.i t.mn,.i t.mx,.list 0 [] .full])]) ?_
 refine qei (S':=(.top:: .top:: .ptr 0 0:: .top:: .top:: .top:: .top:: .top:: .top:: .top:: .top:: .top:: .top:: .top:: .top:: .top:: .top:: .top:: .top:: .top:: .top:: .top:: .top:: .top:: .top::[])) (zdx (true::false::true::true::true::true::true::true::true::true::true::true::true::true::true::true::true::true::true::true::true::true::true::true::false::[]) 0 [] [1] 1 (Nat.le_refl _) rfl (zc rfl (zak (zc rfl (zc rfl (zc rfl (zc rfl (zc rfl (zc rfl (zc rfl (zc rfl (zc rfl (zc rfl (zc rfl (zc rfl (zc rfl (zc rfl (zc rfl (zc rfl (zc rfl (zc rfl (zc rfl (zc rfl (zc rfl (zc rfl (zak zdw))))))))))))))))))))))))) (zdp (zal rfl (zbu (zk _ _ _ rfl) (zbu (zk _ _ _ rfl) (zbu (zk _ _ _ rfl) (zbu (zk _ _ _ rfl) (zbu (zk _ _ _ rfl) (zbu (zk _ _ _ rfl) (zbu (zk _ _ _ rfl) (zbu rfl zvy)))))))) zcr) rfl)) ?_
 exact zax (fun(r:Tr)=> .A (r:Tr)) h (.agg [.u ((t.k:Nat):Int),.raw (.int .u64 (wd t.s 0)),.raw (.int .u64 (wd t.s 1)),.raw (.int .u64 (wd t.s 2)),.raw (.int .u64 (wd t.s 3)),.i t.mn,.i t.mx,.list 0 [] .full])
 obtain⟨g1,h⟩:=zi h
 refine z3i (r:= .bsl 2 0 (List.length t.l) 8 false) (σ':=(.B [(29,(Enc.cells (t:Tr))),(29,[.u 0,.raw (.int .u64 0),.raw (.int .u64 0),.raw (.int .u64 0),.raw (.int .u64 0),.i 0,.i 0,.list 0 [] .full]),(29,(Enc.cellsL (t.l:List Tr)))])) (z5p t.l g1 hc1 2 _ rfl) rfl rfl ⟨rfl,rfl⟩ (by dsimp only[zh,List.set]) ?_
 refine w_o (a:= .ptr 0 7) ?_
 refine zbz (σ'':=(.B [(29,[.u ((t.k:Nat):Int),.raw (.int .u64 (wd t.s 0)),.raw (.int .u64 (wd t.s 1)),.raw (.int .u64 (wd t.s 2)),.raw (.int .u64 (wd t.s 3)),.i t.mn,.i t.mx,.bsl 2 0 (List.length t.l) 8 false]),(29,[.u 0,.raw (.int .u64 0),.raw (.int .u64 0),.raw (.int .u64 0),.raw (.int .u64 0),.i 0,.i 0,.list 0 [] .full]),(29,(Enc.cellsL (t.l:List Tr)))])) (h:=zmb (n:=1) rfl rfl rfl rfl rfl ⟨rfl,rfl,Nat.le_of_ble_eq_true rfl,by decide⟩) ?_
 refine zau h (bz 0 25 33554425) (fun j2=>[]) (fun j2=>(.B [(29,[.u ((t.k:Nat):Int),.raw (.int .u64 (wd t.s 0)),.raw (.int .u64 (wd t.s 1)),.raw (.int .u64 (wd t.s 2)),.raw (.int .u64 (wd t.s 3)),.i t.mn,.i t.mx,.bsl 2 0 (List.length t.l) 8 false]),(29,[.u 0,.raw (.int .u64 0),.raw (.int .u64 0),.raw (.int .u64 0),.raw (.int .u64 0),.i 0,.i 0,.list 0 [] .full]),(29,(Enc.cellsL (j2:List Tr)))])) ?_ ?_
 intro or2 h hr2
 refine zr [.v (.ptr 0 7),.v (.bsl 2 0 (List.length t.l) 8 false),.v (.i (((List.length t.l):Nat):Int)),.v (.i 0)] ?_
 refine zp ?_
 refine zbx h (bz 0 25 33551353) (fun s2=>[(12,.i s2.1)]) (fun s2=>(.B [(29,[.u ((t.k:Nat):Int),.raw (.int .u64 (wd t.s 0)),.raw (.int .u64 (wd t.s 1)),.raw (.int .u64 (wd t.s 2)),.raw (.int .u64 (wd t.s 3)),.i t.mn,.i t.mx,.bsl 2 0 (List.length t.l) 8 false]),(29,[.u 0,.raw (.int .u64 0),.raw (.int .u64 0),.raw (.int .u64 0),.raw (.int .u64 0),.i 0,.i 0,.list 0 [] .full]),(29,(Enc.cellsL (s2.2:List Tr)))])) ?_ ?_
 exact zdl (bl 25 7174)
 intro s2 p2 h
 refine zfj ?_
 refine zr [.v (.b (decide (s2.1<(((List.length t.l):Nat):Int))))] ?_
 refine zf ?_
 refine zci h (fun hc3 h=> ?_) (fun hc3 h=> ?_)
 refine zf ?_
 refine zp ?_
 refine zr [.m _] ?_
 obtain⟨g2,h⟩:=zi h
 refine w_o (a:= .ptr 2 (0+Int.toNat s2.1*8)) (h:=zbh (zex (α:=Tr) g2 rfl rfl rfl rfl rfl)) ?_
 obtain⟨g3,h⟩:=zi h
 obtain⟨x1,hx1,h⟩:=zo h
 refine w_o (a:= .A (x1:Tr)) (h:=zbh (by rw[←hx1];exact(zef (α:=Tr) (l:=s2.2) (i:=s2.1) (k:=0) (te:=29) g3 rfl rfl rfl rfl))) ?_
 refine zbz (a:= .ptr 3 0) (σ'':=(.B [(29,[.u ((t.k:Nat):Int),.raw (.int .u64 (wd t.s 0)),.raw (.int .u64 (wd t.s 1)),.raw (.int .u64 (wd t.s 2)),.raw (.int .u64 (wd t.s 3)),.i t.mn,.i t.mx,.bsl 2 0 (List.length t.l) 8 false]),(29,[.u 0,.raw (.int .u64 0),.raw (.int .u64 0),.raw (.int .u64 0),.raw (.int .u64 0),.i 0,.i 0,.list 0 [] .full]),(29,(Enc.cellsL (s2.2:List Tr))),(29,[.u 0,.raw (.int .u64 0),.raw (.int .u64 0),.raw (.int .u64 0),.raw (.int .u64 0),.i 0,.i 0,.list 0 [] .full])])) ?_
 refine zab ?_
 refine zcx 8 (.B [(29,[.u ((t.k:Nat):Int),.raw (.int .u64 (wd t.s 0)),.raw (.int .u64 (wd t.s 1)),.raw (.int .u64 (wd t.s 2)),.raw (.int .u64 (wd t.s 3)),.i t.mn,.i t.mx,.bsl 2 0 (List.length t.l) 8 false]),(29,[.u 0,.raw (.int .u64 0),.raw (.int .u64 0),.raw (.int .u64 0),.raw (.int .u64 0),.i 0,.i 0,.list 0 [] .full]),(29,(Enc.cellsL (s2.2:List Tr))),(29,(Enc.cells (x1:Tr)))]) ?_
 refine zgc (k0:=0) (id:=5) 5 (by kernel_rfl) (by kernel_rfl) ?_
 refine h_o (a:= .ptr 0 7) ?_
 refine h_o (a:= .bsl 2 0 (List.length t.l) 8 false) ?_
 refine zhd ?_
 refine h_o (a:= .A (x1:Tr)) ?_
 obtain⟨g4,h⟩:=zi h
 obtain⟨x2,hx2,h⟩:=zo h
 refine qni (args':=[.A (x1:Tr)]) (r:= .A (x2:Tr)) (by rw[←hx2];exact(ih x1 g4)) ?_
 refine zjo ?_
 obtain⟨g5,h⟩:=zi h
 refine w_o (a:= .ptr 2 (0+Int.toNat s2.1*8)) (h:=zbh (zex (α:=Tr) g5 rfl rfl rfl rfl rfl)) ?_
 obtain⟨g6,h⟩:=zi h
 obtain⟨x3,hx3,h⟩:=zo h
 refine zbz (σ'':=(.B [(29,[.u ((t.k:Nat):Int),.raw (.int .u64 (wd t.s 0)),.raw (.int .u64 (wd t.s 1)),.raw (.int .u64 (wd t.s 2)),.raw (.int .u64 (wd t.s 3)),.i t.mn,.i t.mx,.bsl 2 0 (List.length t.l) 8 false]),(29,[.u 0,.raw (.int .u64 0),.raw (.int .u64 0),.raw (.int .u64 0),.raw (.int .u64 0),.i 0,.i 0,.list 0 [] .full]),(29,(Enc.cellsL ((List.set s2.2 (Int.toNat s2.1) x2):List Tr))),(29,(Enc.cells (x1:Tr)))])) (h:=zhl (α:=Tr) (l:=s2.2) (i:=s2.1) (k:=0) (te:=29) (n:=8) x2 g6 rfl rfl rfl rfl rfl rfl rfl (by decide) (by decide) (by rw[hx3];rfl)) ?_
 refine zb (k0:=0) (id:=6) ?_
 obtain⟨g7,h⟩:=zi h
 refine zpe g7 ?_
 refine zab ?_
 refine zas (p:=p2) ((s2.1+1),(List.set s2.2 (Int.toNat s2.1) x2)) h ?_
 exact zdd (bl 25 7174) 3 (by kernel_rfl) (Nat.le_of_ble_eq_true rfl) (zbi (zt (by kernel_rfl) (zt rfl (zt (zm _ _ (Enc.cloL _)) rfl)))) (by dsimp only[zac,zag,List.foldl,List.set,bz,bzc,Nat.reduceMod,Nat.reduceDiv,Nat.reduceBEq,Nat.reduceAdd];exact(za rfl (za (by decide) (za (by decide) (by kernel_rfl))))) (by kernel_rfl)
 refine zw h (fun h=> ?_)
 refine zg (o:=or2) (s2.2) h ?_
 exact zdl (bl 25 6)
 intro j2 h
 refine zfj ?_
 refine z4q (zb ?_)
 refine w_o (a:= .agg [.u ((t.k:Nat):Int),.raw (.int .u64 (wd t.s 0)),.raw (.int .u64 (wd t.s 1)),.raw (.int .u64 (wd t.s 2)),.raw (.int .u64 (wd t.s 3)),.i t.mn,.i t.mx,.bsl 2 0 (List.length t.l) 8 false]) ?_
 refine zcx 8 (.B [(29,[.u ((t.k:Nat):Int),.raw (.int .u64 (wd t.s 0)),.raw (.int .u64 (wd t.s 1)),.raw (.int .u64 (wd t.s 2)),.raw (.int .u64 (wd t.s 3)),.i t.mn,.i t.mx,.bsl 2 0 (List.length t.l) 8 false]),(29,[.u ((t.k:Nat):Int),.raw (.int .u64 (wd t.s 0)),.raw (.int .u64 (wd t.s 1)),.raw (.int .u64 (wd t.s 2)),.raw (.int .u64 (wd t.s 3)),.i t.mn,.i t.mx,.bsl 2 0 (List.length t.l) 8 false]),(29,(Enc.cellsL (j2:List Tr)))]) ?_
 obtain⟨g8,h⟩:=zi h
 refine qei (S':=(.top:: .top:: .ptr 0 0:: .top:: .top:: .top:: .top:: .top:: .top:: .top:: .top:: .top:: .top:: .top:: .top:: .top:: .top:: .top:: .top:: .top:: .top:: .top:: .top:: .top:: .top::[])) (zdx (true::false::true::true::true::true::true::true::true::true::true::true::true::true::true::true::true::true::true::true::true::true::true::true::false::[]) 0 [] [1] 1 (Nat.le_refl _) rfl (zc rfl (zak (zc rfl (zc rfl (zc rfl (zc rfl (zc rfl (zc rfl (zc rfl (zc rfl (zc rfl (zc rfl (zc rfl (zc rfl (zc rfl (zc rfl (zc rfl (zc rfl (zc rfl (zc rfl (zc rfl (zc rfl (zc rfl (zc rfl (zak zdw))))))))))))))))))))))))) (zdp (zal rfl (zbu (zk _ _ _ rfl) (zbu (zk _ _ _ rfl) (zbu (zk _ _ _ rfl) (zbu (zk _ _ _ rfl) (zbu (zk _ _ _ rfl) (zbu (zk _ _ _ rfl) (zbu (zk _ _ _ rfl) (zbu (kz_bsl (α:=Tr) (t:=29) (l:=j2) g8 rfl rfl) zvy)))))))) zcr) rfl)) ?_
 exact zax (fun(r:Tr)=> .A (r:Tr)) h (.A ((Tr.mk t.k t.s t.mn t.mx j2):Tr))
theorem z6t {ρ:Type}: ∀(l:List Tr),(∀x∈l,(pre x).length<2^61)→zgo (β:=Unit) (ρ:=Unit ⊕ Bool) (fun s1 w1=>(chk ((pre w1).length<2^61) (zbc (zds w1) (fun x3=>(bif (!x3) then(some (Sum.inr (Sum.inr false))) else(some (Sum.inl ()))))))) l ()=if l.all zds=true then some (.inl ()) else some (.inr (.inr false)):=by
 intro l
 induction l with
 |nil=>intro _;rfl
 | cons x l ih=>
  intro h
  have hb:(chk ((pre x).length<2^61) (zbc (zds x) (fun x3=>(bif (!x3) then(some (Sum.inr (Sum.inr false))) else(some (Sum.inl ()))))):Option (Unit ⊕ (Unit ⊕ Bool)))=if zds x=true then some (.inl ()) else some (.inr (.inr false)):=by
   rw[zdk (h x (by simp)),zbc];cases zds x<;>rfl
  simp only[zgo,hb,List.all_cons]
  by_cases hr:zds x=true
  ·simp only[hr,if_true,Bool.true_and];exact ih (fun y hy=>h y (by simp[hy]))
  ·simp[hr]
theorem qku (t:Tr)(h:(pre t).length<2^61):zyz t=some (zcd t):=by
 unfold zyz zcd
 rw[zdk h,zbc]
 cases hl:zcj t with
 |false=>rfl
 | true=>
  show zdn _ _=_
  rw[zdk h,zbc,z6t (ρ:=Unit) (pre t) (fun x hx=>by have:=zvt hx;omega),Bool.true_and]
  cases (pre t).all zds<;>rfl
theorem ztz (t:Tr)(h:(pre t).length<2^61):Pure (ITP Tryz.prog) Tryz.prog 20 [.agg (Enc.cells t)] (.raw (.bool (zcd t))):=qmb t _ (qku t h)
theorem zku {t:Tr}:zcj t=true↔(pre t).length≤10000:=by simp[zcj]
theorem same_eq (a b:Tr)(h:(pre a).length<2^61∧(pre b).length<2^61):qai a b=some (zrq a b):=by
 unfold qai zrq
 rw[zdk h.1,zbc]
 cases hl:zcj a with
 |false=>rfl
 | true=>
  show chk _ _=_
  rw[zdk h.2,zbc]
  cases hl2:zcj b with
  |false=>rfl
  | true=>
   have h1:=zku.1 hl;have h2:=zku.1 hl2
   show chk _ _=_
   rw[zdk ⟨by omega,by omega⟩];rfl
theorem z4f (a b:Tr)(h:(pre a).length<2^61∧(pre b).length<2^61):Pure (ITP Tryz.prog) Tryz.prog 23 [.agg (Enc.cells a),.agg (Enc.cells b)] (.raw (.bool (zrq a b))):=same_sh a b _ (same_eq a b h)
def zkh (a b:Tr):Int:=if zcj a&&zcj b then zla a b else 0
theorem z5g (a b:Tr)(h:(pre a).length<2^61∧(pre b).length<2^61):zov a b=some (zkh a b):=by
 unfold zov zkh
 rw[zdk h.1,zbc]
 cases hl:zcj a with
 |false=>rfl
 | true=>
  show chk _ _=_
  rw[zdk h.2,zbc]
  cases hl2:zcj b with
  |false=>rfl
  | true=>
   have h1:=zku.1 hl;have h2:=zku.1 hl2
   show chk _ _=_
   rw[zdk ⟨by omega,by omega⟩];rfl
theorem z3o (a b:Tr)(h:(pre a).length<2^61∧(pre b).length<2^61):Pure (ITP Tryz.prog) Tryz.prog 31 [.agg (Enc.cells a),.agg (Enc.cells b)] (.raw (.int .i64 (zkh a b))):=qau a b _ (z5g a b h)
theorem qbv (n:Nat)(t:Tr)(h:(pre t).length<n+1)(hl:(pre t).length<2^40):znw (n+1) n t=some t:=by
 have hlen:=z5d t
 have hp:(pre t).length=1+(zap t.l).length:=by rw[zcw,List.length_cons];omega
 unfold znw
 cases hn:t.l with
 | nil=>
  refine zbe rfl ?_
  refine zcb () ?_ ?_
  ·rw[zbv];rfl
  ·obtain⟨k,s,mn,mx,l⟩:=t
   simp only[Tr.l] at hn;subst hn;rfl
 | cons x l=>
  rw[←hn]
  refine zay (by rw[hn];rfl) (zq (by omega) ?_)
  refine zcb t.l ?_ ?_
  ·refine zew t.l.length (fun i=>((i:Int),t.l)) rfl (fun i hi=> ?_) ?_ (by omega)
   ·refine zbe (by simp;omega) (zq (by simp only;omega) (zq (by simp only;omega) (zai fun x1 e1=> ?_)))
    simp only at e1
    rw[zel hi] at e1
    have hm:x1∈t.l:=e1▸List.getElem_mem hi
    have hx:=zhb hm
    refine zq (by omega) (zai fun x2 e2=>(zq (by simp only;omega) (zq (by simp only;omega) (zai fun x3 e3=>zq (by simp only;omega) ?_))))
    subst e2
    simp only[Int.toNat_natCast]
    rw[←e1,List.set_getElem_self];rfl
   ·exact zay (by simp) rfl
  ·refine zq rfl ?_
   rw[←Tr.eta t]
theorem zwp: ∀(n:Nat) (t:Tr),(pre t).length<n→n≤2^40→Pure (ITP Tryz.prog) Tryz.prog 140 [.agg (Enc.cells t)] (.agg (Enc.cells t))
 |0,t,h,_=>absurd h (Nat.not_lt_zero _)
 |n+1,t,h,hn=>qch (n+1) n t t (fun x hx=>zwp n x hx (by omega)) (qbv n t h (by omega))
theorem zkg (t:Tr)(h:(pre t).length<2^40):Pure (ITP Tryz.prog) Tryz.prog 140 [.agg (Enc.cells t)] (.agg (Enc.cells t)):=zwp (2^40) t h (Nat.le_refl _)
end Go.Ab
