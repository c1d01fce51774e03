/-
  derive: exported functions.
-/
import Derived.Test.YtfkkellnlmjenaaGreatZeEb
set_option linter.unusedSimpArgs false
set_option linter.unusedVariables false
namespace Go.Ab
open Go Go.RowKit Go.Fwd
section
variable {P:Program} {ρ:Operand→AV} {σ:St} {o:Oper}
theorem qpg {x:Operand} {t:TypeId} {l:List UInt8} (ho:o.op= .call ⟨.builtin .len, #[x], #[t]⟩)(hx:ρ x= .raw (.string (bs l)))(hu:P.underlying t=some .string):qop P ρ σ o=some (.raw (.int .i64 (l.length:Int))):=by
 have h2:qjs P t (.raw (.string (bs l)))=none:=rfl
 have h1:o.op.operands.toList.all (fun x=>(zgg (ρ x)).isSome)=true:=by rw[ho];simp[Op.operands,Call.operands,hx,zgg]
 have h3:val? P (execOp (zdh ρ) o)=some (.value (.int .i64 (l.length:Int))):=by
  have hsz:(bs l).size=l.length:=rfl
  simp[execOp,ho,resolve,invoke,zdh,hx,zgg,builtin,Builtin.len_,underlying,goInt,hsz]
  simp only[program,Bind.bind,Pure.pure,Functor.map,Sem.bind,val?,hu,hsz]
  rfl
 have h4:zhu P ρ o=some (.raw (.int .i64 (l.length:Int))):=by
  unfold zhu;rw[if_pos h1,ho,h3];rfl
 simp only[qop,ho,hx,h2,h4]
end
end Go.Ab
set_option maxRecDepth 100000
set_option maxHeartbeats 4000000
namespace Go.Ab
open Go Go.RowKit Go.Fwd Go.Proofs
def behT (l:List Tr)(c:Nat):List Tr:=setT (l.flatMap (byT c))
theorem z2r (l:List Tr)(c:Int)(h:0≤c∧((Int.toNat c<256∧ ∀x∈l,BO x)∧(List.flatMap (byT (Int.toNat c)) l).length<2^40∧List.length l<2^40)):Pure (ITP Tryz.prog) Tryz.prog 54 [.list (List.length l) (Enc.cellsL l) .none,.raw (.int .u8 c)] (.list (behT l (Int.toNat c)).length (Enc.cellsL (behT l (Int.toNat c))) .none):=by
 have:=qka l (Int.toNat c) h.2
 rw[Int.toNat_of_nonneg h.1] at this;exact this
structure Arc where
 s:BS
 l:List Tr
def zlv (a:Arc):List AV:=[.raw (.int .u64 (wd a.s 0)),.raw (.int .u64 (wd a.s 1)),.raw (.int .u64 (wd a.s 2)),.raw (.int .u64 (wd a.s 3)),.list a.l.length (Enc.cellsL a.l) .none]
def z3q:List Arc→List AV
 |[]=>[]
 |a::l=>zlv a++z3q l
instance:Enc Arc:=⟨⟨0#256,[]⟩,zlv,z3q,5,by decide,rfl,fun _ _=>rfl,fun _=>rfl,fun a=>by show cloL (zlv a)=true;simp[zlv,cloL,clo,Enc.cloL]⟩
def arcR (a:Arc)(st:Room):AV:= .agg [.raw (.int .u64 (wd a.s 0)),.raw (.int .u64 (wd a.s 1)),.raw (.int .u64 (wd a.s 2)),.raw (.int .u64 (wd a.s 3)),.list a.l.length (Enc.cellsL a.l) st]
theorem qbw (a:Arc)(st:Room):zcv (arcR a st)= .agg (Enc.cells a):=by
 show AV.agg (stripL _)= .agg (zlv a)
 simp only[stripL,zcv,zlv,zdc _ (Enc.cloL a.l)]
def nulQ (t:Tr):Option Bool:=if(pre t).length<2^60∧crT t=true then some (zeu t) else none
theorem nulQ_ok {x:Tr} {y:Bool} (h:nulQ x=some y):Pure (ITP Tryz.prog) Tryz.prog 60 [.agg (Enc.cells x)] (.raw (.bool y)):=by
 unfold nulQ at h
 split at h
 ·rename_i h1;cases h;exact z5v x h1
 ·cases h
def zii (t:Tr):Option Int:=
 (chk ((pre t).length<2^61) (zbc (zcj t) (fun x1=>(bif (!x1) then(some 10001) else(chk ((pre t).length≤10000) (zbc (zkv t) (fun x2=>(some x2))))))))
theorem ent27:Ent Tryz.prog 27:=enters_of Tryz.func27 (by kernel_rfl) rfl
theorem z2c (t:Tr)(r:Int)(h:zii t=some r):Pure (ITP Tryz.prog) Tryz.prog 27 [.A (t:Tr)] (.raw (.int .i64 r)):=by
 unfold zii at h
 refine zbd 7 mix Tryz.func27 ent27 ?_
 refine zf (zb ?_)
 refine zbz (a:= .ptr 0 0) (σ'':=(.B [(29,(Enc.cells (t:Tr)))])) ?_
 refine w_o (a:= .i 0) ?_
 refine zf ?_
 refine zr [.v (.A (t:Tr))] ?_
 obtain⟨g1,h⟩:=zi h
 obtain⟨x1,hx1,h⟩:=zo h
 refine zcq (args':=[.A (t:Tr)]) (r:= .b x1) (by rw[←hx1];exact(zji t g1)) ?_
 refine w_o (a:= .b (!x1)) ?_
 refine zci h (fun hc1 h=> ?_) (fun hc1 h=> ?_)
 refine zr [.v (.i 10001)] ?_
 exact zdr h
 refine zr [.v (.A (t:Tr))] ?_
 obtain⟨g2,h⟩:=zi h
 obtain⟨x2,hx2,h⟩:=zo h
 refine zcq (args':=[.A (t:Tr)]) (r:= .i x2) (by rw[←hx2];exact(k_posn t g2)) ?_
 refine zab ?_
 exact zdr h
def zgf (t:Tr):Option Bool:=
 (chk ((pre t).length<2^61) (zbc (isNone t) (fun x1=>(bif x1 then(some true) else(chk ((pre t).length<2^61) (zbc (zcd t) (fun x2=>(bif x2 then(chk ((pre t).length<2^61) (zbc (z9p t) (fun x3=>(bif (decide (x3≤120)) then(zav (zii t) (fun x4=>(some (decide (x4≤400))))) else(some false))))) else(some false)))))))))
theorem ent25:Ent Tryz.prog 25:=enters_of Tryz.func25 (by kernel_rfl) rfl
theorem zns (t:Tr)(r:Bool)(h:zgf t=some r):Pure (ITP Tryz.prog) Tryz.prog 25 [.A (t:Tr)] (.raw (.bool r)):=by
 unfold zgf at h
 refine zbd 18 mix Tryz.func25 ent25 ?_
 refine zf (zb ?_)
 refine zbz (a:= .ptr 0 0) (σ'':=(.B [(29,(Enc.cells (t:Tr)))])) ?_
 refine w_o (a:= .b false) ?_
 refine zr [.v (.A (t:Tr))] ?_
 obtain⟨g1,h⟩:=zi h
 obtain⟨x1,hx1,h⟩:=zo h
 refine zcq (args':=[.A (t:Tr)]) (r:= .b x1) (by rw[←hx1];exact(qgk t g1)) ?_
 refine zae h (fun hc1 h=> ?_) (fun hc1 h=> ?_)
 refine zbj hc1 ?_
 refine w_r [.p,.p,.p,.p,.p] ?_
 refine w_r [.p,.p,.p,.p,.p] ?_
 refine w_r [.p,.p,.v (.b true),.m _] ?_
 exact zbg h
 refine zbj hc1 ?_
 refine zaf rfl rfl ?_
 refine w_o (a:= .A (t:Tr)) ?_
 refine zaf rfl rfl ?_
 obtain⟨g2,h⟩:=zi h
 obtain⟨x2,hx2,h⟩:=zo h
 refine zcq (args':=[.A (t:Tr)]) (r:= .b x2) (by rw[←hx2];exact(ztz t g2)) ?_
 refine zaf rfl rfl ?_
 refine zae h (fun hc2 h=> ?_) (fun hc2 h=> ?_)
 refine zbj hc2 ?_
 refine zaf rfl rfl ?_
 refine w_o (a:= .A (t:Tr)) ?_
 refine zaf rfl rfl ?_
 obtain⟨g3,h⟩:=zi h
 obtain⟨x3,hx3,h⟩:=zo h
 refine zcq (args':=[.A (t:Tr)]) (r:= .i x3) (by rw[←hx3];exact(k_size t g3)) ?_
 refine w_r [.v (.b (decide (x3≤120))),.v (.b (decide (x3≤120)))] ?_
 refine zaf rfl rfl ?_
 refine zae h (fun hc3 h=> ?_) (fun hc3 h=> ?_)
 refine zbj hc3 ?_
 refine zaf rfl rfl ?_
 refine w_o (a:= .A (t:Tr)) ?_
 refine zaf rfl rfl ?_
 obtain⟨x4,hx4,h⟩:=zu h
 refine zcq (z2c t x4 hx4) ?_
 refine w_r [.v (.b (decide (x4≤400))),.v (.b (decide (x4≤400))),.v (.b (decide (x4≤400))),.m _] ?_
 exact zbg h
 refine zbj hc3 ?_
 refine w_r [.p,.p,.p,.v (.b false),.v (.b false)] ?_
 refine w_r [.m _] ?_
 exact zbg h
 refine zbj hc2 ?_
 refine w_r [.p,.p,.p,.v (.b false),.m _] ?_
 refine w_r [.p,.p,.p,.v (.b false),.v (.b false)] ?_
 refine w_r [.m _] ?_
 exact zbg h
def zlz (t:Tr):Option (Tr×Int):=
 (zav (zgf t) (fun x1=>(bif (!x1) then(some (noneT,120)) else(chk (CS 998 t) (zbc (plT t) (fun x2=>(some (x2,0))))))))
theorem ent17:Ent Tryz.prog 17:=enters_of Tryz.func17 (by kernel_rfl) rfl
theorem z4v (t:Tr)(r:(Tr×Int))(h:zlz t=some r):Pure (ITP Tryz.prog) Tryz.prog 17 [.A (t:Tr)] (.tup [.A (r.1:Tr),.raw (.int .i64 r.2)]):=by
 unfold zlz at h
 refine zbd 9 mix Tryz.func17 ent17 ?_
 refine zf (zb ?_)
 refine zbz (a:= .ptr 0 0) (σ'':=(.B [(29,(Enc.cells (t:Tr)))])) ?_
 refine zbz (a:= .ptr 1 0) (σ'':=(.B [(29,(Enc.cells (t:Tr))),(29,[.u 0,.raw (.int .u64 0),.raw (.int .u64 0),.raw (.int .u64 0),.raw (.int .u64 0),.i 0,.i 0,.list 0 [] .full])])) ?_
 refine w_o (a:= .i 0) ?_
 refine zf ?_
 refine zr [.v (.A (t:Tr))] ?_
 obtain⟨x1,hx1,h⟩:=zu h
 refine zcq (zns t x1 hx1) ?_
 refine w_o (a:= .b (!x1)) ?_
 refine zci h (fun hc1 h=> ?_) (fun hc1 h=> ?_)
 refine zf (zb ?_)
 refine zeh (.A (noneT:Tr)) (a0:=(zca noneT .full)) rfl rfl rfl (by kernel_rfl) (zj _ _) (by dsimp only[zh,List.set]) ?_
 refine zcx 8 (.B [(29,(Enc.cells (t:Tr))),(29,(Enc.cells (noneT:Tr)))]) ?_
 refine w_o (a:= .i 120) ?_
 exact zax (fun(r:(Tr×Int))=> .tup [.A (r.1:Tr),.i r.2]) h (.tup [.A (noneT:Tr),.i 120])
 refine zr [.v (.A (t:Tr))] ?_
 obtain⟨g1,h⟩:=zi h
 obtain⟨x2,hx2,h⟩:=zo h
 refine zcq (args':=[.A (t:Tr)]) (r:= .A (x2:Tr)) (by rw[←hx2];exact(ztg t g1)) ?_
 refine zcx 8 (.B [(29,(Enc.cells (t:Tr))),(29,(Enc.cells (x2:Tr)))]) ?_
 refine w_o (a:= .i 0) ?_
 exact zax (fun(r:(Tr×Int))=> .tup [.A (r.1:Tr),.i r.2]) h (.tup [.A (x2:Tr),.i 0])
def zil (t:Tr):Option (Bool×Int):=
 (zav (zgf t) (fun x1=>(bif (!x1) then(some (false,120)) else(chk (((pre t).length<2^60∧crT t=true)) (zbc (zeu t) (fun x2=>(some (x2,0))))))))
theorem ent18:Ent Tryz.prog 18:=enters_of Tryz.func18 (by kernel_rfl) rfl
theorem z2h (t:Tr)(r:(Bool×Int))(h:zil t=some r):Pure (ITP Tryz.prog) Tryz.prog 18 [.A (t:Tr)] (.tup [.raw (.bool r.1),.raw (.int .i64 r.2)]):=by
 unfold zil at h
 refine zbd 8 mix Tryz.func18 ent18 ?_
 refine zf (zb ?_)
 refine zbz (a:= .ptr 0 0) (σ'':=(.B [(29,(Enc.cells (t:Tr)))])) ?_
 refine w_r [.v (.b false),.v (.i 0)] ?_
 refine zf ?_
 refine zr [.v (.A (t:Tr))] ?_
 obtain⟨x1,hx1,h⟩:=zu h
 refine zcq (zns t x1 hx1) ?_
 refine w_o (a:= .b (!x1)) ?_
 refine zci h (fun hc1 h=> ?_) (fun hc1 h=> ?_)
 refine zr [.v (.b false),.v (.i 120)] ?_
 exact zax (fun(r:(Bool×Int))=> .tup [.b r.1,.i r.2]) h (.tup [.b false,.i 120])
 refine zr [.v (.A (t:Tr))] ?_
 obtain⟨g1,h⟩:=zi h
 obtain⟨x2,hx2,h⟩:=zo h
 refine zcq (args':=[.A (t:Tr)]) (r:= .b x2) (by rw[←hx2];exact(z5v t g1)) ?_
 refine w_r [.m _,.v (.i 0)] ?_
 exact zax (fun(r:(Bool×Int))=> .tup [.b r.1,.i r.2]) h (.tup [.b x2,.i 0])
def zvv (t:Tr)(c:Int):Option ((List Tr)×Int):=
 (zav (zgf t) (fun x1=>(bif (!x1) then(some (([]:(List Tr)),120)) else(chk (CS 998 t) (zbc (plT t) (fun x2=>(chk (0≤c∧((Int.toNat c<256∧ ∀x∈[x2],BO x)∧(List.flatMap (byT (Int.toNat c)) [x2]).length<2^40∧List.length [x2]<2^40)) (zbc (behT [x2] (Int.toNat c)) (fun x3=>(some (x3,0)))))))))))
theorem ent14:Ent Tryz.prog 14:=enters_of Tryz.func14 (by kernel_rfl) rfl
theorem zxl (t:Tr)(c:Int)(r:((List Tr)×Int))(h:zvv t c=some r):Pure (ITP Tryz.prog) Tryz.prog 14 [.A (t:Tr),.raw (.int .u8 c)] (.tup [.L (r.1:List Tr),.raw (.int .i64 r.2)]):=by
 unfold zvv at h
 refine zbd 12 mix Tryz.func14 ent14 ?_
 refine zf (zb ?_)
 refine zbz (a:= .ptr 0 0) (σ'':=(.B [(29,(Enc.cells (t:Tr)))])) ?_
 refine w_r [.v (.list 0 [] .full),.v (.i 0)] ?_
 refine zf ?_
 refine zr [.v (.A (t:Tr))] ?_
 obtain⟨x1,hx1,h⟩:=zu h
 refine zcq (zns t x1 hx1) ?_
 refine w_o (a:= .b (!x1)) ?_
 refine zci h (fun hc1 h=> ?_) (fun hc1 h=> ?_)
 refine zr [.v (.list 0 [] .full),.v (.i 120)] ?_
 exact zax (fun(r:((List Tr)×Int))=> .tup [.L (r.1:List Tr),.i r.2]) h (.tup [.list 0 [] .full,.i 120])
 refine zr [.v (.A (t:Tr))] ?_
 obtain⟨g1,h⟩:=zi h
 obtain⟨x2,hx2,h⟩:=zo h
 refine zcq (args':=[.A (t:Tr)]) (r:= .A (x2:Tr)) (by rw[←hx2];exact(ztg t g1)) ?_
 refine w_o (a:= .F ([x2]:List Tr)) (h:=zbh (zev (α:=Tr) (l:=[x2]) (cs:=Enc.cells (x2:Tr)++[]) rfl (by rw[Enc.cons,Enc.nil]))) ?_
 refine zab ?_
 obtain⟨g2,h⟩:=zi h
 obtain⟨x3,hx3,h⟩:=zo h
 refine zcq (args':=[.L ([x2]:List Tr),.u c]) (r:= .L (x3:List Tr)) (by rw[←hx3];exact(z2r [x2] c g2)) ?_
 refine w_r [.m _,.v (.i 0)] ?_
 exact zax (fun(r:((List Tr)×Int))=> .tup [.L (r.1:List Tr),.i r.2]) h (.tup [.L (x3:List Tr),.i 0])
def zml (fuel:Nat)(l:(List Tr))(c:Int):Option ((List Tr)×Int):=
 (zdn (τ:=Unit) (zbv (β:=Int) (fun s1=>(bif (decide (s1<(List.length l:Int))) then(zdn (τ:=Unit) (chk (0≤s1∧s1<(List.length l:Int)) (zbc (ix l s1) (fun x1=>(chk ((pre x1).length<2^61) (zbc (isNone x1) (fun x2=>(bif (!x2) then(chk ((pre x1).length<2^61) (zbc (zcd x1) (fun x3=>(bif (!x3) then(some (Sum.inr (Sum.inr (Sum.inr (([]:(List Tr)),120))))) else(chk ((pre x1).length<2^61) (zbc (zuo x1) (fun x4=>(bif (decide (x4>0)) then(some (Sum.inr (Sum.inr (Sum.inr (([]:(List Tr)),120))))) else(some (Sum.inl ())))))))))) else(some (Sum.inl ()))))))))) (fun j2=>(chk (-9223372036854775808≤(s1+1)∧(s1+1)<9223372036854775808) (some (Sum.inl ((s1+1))))))) else(some (Sum.inr (Sum.inl ()))))) fuel (0)) (fun j1=>(chk (0≤c∧((Int.toNat c<256∧ ∀x∈l,BO x)∧(List.flatMap (byT (Int.toNat c)) l).length<2^40∧List.length l<2^40)) (zbc (behT l (Int.toNat c)) (fun x5=>(some (x5,0)))))))
theorem ent33:Ent Tryz.prog 33:=enters_of Tryz.func33 (by kernel_rfl) rfl
theorem qdl (fuel:Nat)(l:(List Tr))(c:Int)(r:((List Tr)×Int))(h:zml fuel l c=some r):Pure (ITP Tryz.prog) Tryz.prog 33 [.L (l:List Tr),.raw (.int .u8 c)] (.tup [.L (r.1:List Tr),.raw (.int .i64 r.2)]):=by
 unfold zml at h
 refine zbd 29 mix Tryz.func33 ent33 ?_
 refine zr [.v (.list 0 [] .full),.v (.i 0)] ?_
 refine zau h (bz 0 31 2147483644) (fun j1=>[]) (fun j1=>(.B [])) ?_ ?_
 intro or1 h hr1
 refine zr [.m _,.v (.i (List.length l:Int)),.v (.i 0)] ?_
 refine zp ?_
 refine zbx h (bz 0 31 2147482876) (fun s1=>[(10,.i s1)]) (fun s1=>(.B [])) ?_ ?_
 exact zdl (bl 31 1795)
 intro s1 p1 h
 refine zfj ?_
 refine zr [.v (.b (decide (s1<(List.length l:Int))))] ?_
 refine zf ?_
 refine zci h (fun hc1 h=> ?_) (fun hc1 h=> ?_)
 refine zau h (bz 0 27 134215856) (fun j2=>[]) (fun j2=>(.B [])) ?_ ?_
 intro or2 h hr2
 refine zp ?_
 refine zf (zb ?_)
 obtain⟨g1,h⟩:=zi h
 obtain⟨x1,hx1,h⟩:=zo h
 refine zvo hx1 g1 ?_
 refine w_o (a:= .A (x1:Tr)) ?_
 refine zbz (a:= .ptr 0 0) (σ'':=(.B [(29,[.u 0,.raw (.int .u64 0),.raw (.int .u64 0),.raw (.int .u64 0),.raw (.int .u64 0),.i 0,.i 0,.list 0 [] .full])])) ?_
 refine zcx 8 (.B [(29,(Enc.cells (x1:Tr)))]) ?_
 refine zr [.v (.A (x1:Tr))] ?_
 obtain⟨g2,h⟩:=zi h
 obtain⟨x2,hx2,h⟩:=zo h
 refine zcq (args':=[.A (x1:Tr)]) (r:= .b x2) (by rw[←hx2];exact(qgk x1 g2)) ?_
 refine w_o (a:= .b (!x2)) ?_
 refine zae h (fun hc2 h=> ?_) (fun hc2 h=> ?_)
 refine zbj hc2 ?_
 refine zaf rfl rfl ?_
 refine w_o (a:= .A (x1:Tr)) ?_
 refine zaf rfl rfl ?_
 obtain⟨g3,h⟩:=zi h
 obtain⟨x3,hx3,h⟩:=zo h
 refine zcq (args':=[.A (x1:Tr)]) (r:= .b x3) (by rw[←hx3];exact(ztz x1 g3)) ?_
 refine zaf rfl rfl ?_
 refine w_o (a:= .b (!x3)) ?_
 refine zaf rfl rfl ?_
 refine zae h (fun hc3 h=> ?_) (fun hc3 h=> ?_)
 refine zbj hc3 ?_
 refine w_r [.p,.p,.p,.v (.b true),.v (.b true)] ?_
 refine zce rfl ?_
 refine zr [.v (.list 0 [] .full),.v (.i 120)] ?_
 replace h:=zz h hr2
 refine zw h (fun h=> ?_)
 replace h:=zz h hr1
 exact zax (fun(r:((List Tr)×Int))=> .tup [.L (r.1:List Tr),.i r.2]) h (.tup [.list 0 [] .full,.i 120])
 refine zbj hc3 ?_
 refine zaf rfl rfl ?_
 refine w_o (a:= .A (x1:Tr)) ?_
 refine zaf rfl rfl ?_
 obtain⟨g4,h⟩:=zi h
 obtain⟨x4,hx4,h⟩:=zo h
 refine zcq (args':=[.A (x1:Tr)]) (r:= .i x4) (by rw[←hx4];exact(qkw x1 g4)) ?_
 refine w_r [.v (.b (decide (x4>0))),.v (.b (decide (x4>0))),.v (.b (decide (x4>0)))] ?_
 refine zci h (fun hc4 h=> ?_) (fun hc4 h=> ?_)
 refine zr [.v (.list 0 [] .full),.v (.i 120)] ?_
 replace h:=zz h hr2
 refine zw h (fun h=> ?_)
 replace h:=zz h hr1
 exact zax (fun(r:((List Tr)×Int))=> .tup [.L (r.1:List Tr),.i r.2]) h (.tup [.list 0 [] .full,.i 120])
 refine zg (o:=or2) () h ?_
 exact zdd (bl 31 2013267791) 0 (by kernel_rfl) (Nat.le_of_ble_eq_true rfl) (zbi rfl) (by dsimp only[zac,zag,List.foldl,List.set,bz,bzc,Nat.reduceMod,Nat.reduceDiv,Nat.reduceBEq,Nat.reduceAdd];exact(za (zan (Enc.cloL _)) (za rfl (za rfl (za rfl (za rfl (za rfl (za rfl (za rfl (za (zan (Enc.cloL _)) (by kernel_rfl))))))))))) (by kernel_rfl)
 refine zbj hc2 ?_
 refine w_r [.p,.p,.p,.p,.p] ?_
 refine w_r [.p,.p,.p,.v (.b false)] ?_
 refine zcl rfl ?_
 refine zg (o:=or2) () h ?_
 exact zdd (bl 31 2013267791) 0 (by kernel_rfl) (Nat.le_of_ble_eq_true rfl) (zbi rfl) (by dsimp only[zac,zag,List.foldl,List.set,bz,bzc,Nat.reduceMod,Nat.reduceDiv,Nat.reduceBEq,Nat.reduceAdd];exact(za (zan (Enc.cloL _)) (za rfl (za rfl (za rfl (za rfl (za rfl (za rfl (za rfl (za (zan (Enc.cloL _)) (by kernel_rfl))))))))))) (by kernel_rfl)
 intro j2 h
 refine zfj ?_
 refine zb (k0:=0) (id:=6) ?_
 obtain⟨g5,h⟩:=zi h
 refine zpe g5 ?_
 refine zab ?_
 refine zas (p:=p1) ((s1+1)) h ?_
 exact zdl (bl 31 1795)
 refine zw h (fun h=> ?_)
 refine zg (o:=or1) () h ?_
 exact zdl (bl 31 3)
 intro j1 h
 refine zfj ?_
 refine zr [.m _,.m _] ?_
 obtain⟨g6,h⟩:=zi h
 obtain⟨x5,hx5,h⟩:=zo h
 refine zcq (args':=[.L (l:List Tr),.u c]) (r:= .L (x5:List Tr)) (by rw[←hx5];exact(z2r l c g6)) ?_
 refine w_r [.m _,.v (.i 0)] ?_
 exact zax (fun(r:((List Tr)×Int))=> .tup [.L (r.1:List Tr),.i r.2]) h (.tup [.L (x5:List Tr),.i 0])
def zpo (fuel:Nat)(t:Tr):Option ((List Arc)×Int):=
 (zav (zgf t) (fun x1=>(bif (!x1) then(some (([]:(List Arc)),120)) else(chk (CS 998 t) (zbc (plT t) (fun x2=>(zdn (τ:=(List Arc)) (chk (List.length [x2]<2^20∧ ∀x∈[x2],(pre x).length<2^61) (zbc (znm [x2]) (fun x3=>(zbv (β:=(List Arc)×Int) (fun s1=>(bif (decide (s1.2<(List.length x3:Int))) then(zdn (τ:=(List Arc)) (chk (0≤s1.2∧s1.2<(List.length x3:Int)) (zbc (ix x3 s1.2) (fun x4=>(zav (zmz x4) (fun x5=>(chk (0≤x5.1∧((Int.toNat x5.1<256∧ ∀x∈[x2],BO x)∧(List.flatMap (byT (Int.toNat x5.1)) [x2]).length<2^40∧List.length [x2]<2^40)) (zbc (behT [x2] (Int.toNat x5.1)) (fun x6=>(bif (decide ((List.length x6:Int)>0)) then(chk ((List.length s1.1+List.length [(Arc.mk x4 x6)])*56≤140737488355328) (some (Sum.inl ((s1.1++[(Arc.mk x4 x6)]))))) else(some (Sum.inl (s1.1)))))))))))) (fun j2=>(chk (-9223372036854775808≤(s1.2+1)∧(s1.2+1)<9223372036854775808) (some (Sum.inl (j2,(s1.2+1))))))) else(some (Sum.inr (Sum.inl (s1.1)))))) fuel (([]:(List Arc)),0))))) (fun j1=>(some (j1,0))))))))))
theorem ent10:Ent Tryz.prog 10:=enters_of Tryz.func10 (by kernel_rfl) rfl
theorem qaf (fuel:Nat)(t:Tr)(r:((List Arc)×Int))(h:zpo fuel t=some r):Pure (ITP Tryz.prog) Tryz.prog 10 [.A (t:Tr)] (.tup [.L (r.1:List Arc),.raw (.int .i64 r.2)]):=by
 unfold zpo at h
 refine zbd 43 mix Tryz.func10 ent10 ?_
 refine zf (zb ?_)
 refine zbz (a:= .ptr 0 0) (σ'':=(.B [(29,(Enc.cells (t:Tr)))])) ?_
 refine w_r [.v (.list 0 [] .full),.v (.i 0)] ?_
 refine zf ?_
 refine zr [.v (.A (t:Tr))] ?_
 obtain⟨x1,hx1,h⟩:=zu h
 refine zcq (zns t x1 hx1) ?_
 refine w_o (a:= .b (!x1)) ?_
 refine zci h (fun hc1 h=> ?_) (fun hc1 h=> ?_)
 refine zr [.v (.list 0 [] .full),.v (.i 120)] ?_
 exact zax (fun(r:((List Arc)×Int))=> .tup [.L (r.1:List Arc),.i r.2]) h (.tup [.list 0 [] .full,.i 120])
 refine zr [.v (.list 0 [] .full)] ?_
 refine zr [.v (.A (t:Tr))] ?_
 obtain⟨g1,h⟩:=zi h
 obtain⟨x2,hx2,h⟩:=zo h
 refine zcq (args':=[.A (t:Tr)]) (r:= .A (x2:Tr)) (by rw[←hx2];exact(ztg t g1)) ?_
 refine zbz (a:= .ptr 1 0) (σ'':=(.B [(29,(Enc.cells (t:Tr))),(29,[.u 0,.raw (.int .u64 0),.raw (.int .u64 0),.raw (.int .u64 0),.raw (.int .u64 0),.i 0,.i 0,.list 0 [] .full])])) ?_
 refine zcx 8 (.B [(29,(Enc.cells (t:Tr))),(29,(Enc.cells (x2:Tr)))]) ?_
 refine zau h (bz 0 44 17592186044415) (fun j1=>[(4,(.O (j1:List Arc)))]) (fun j1=>(zbs [(29,(Enc.cells (t:Tr))),(29,(Enc.cells (x2:Tr)))] 36 (List.length (j1:List Arc)) 5)) ?_ ?_
 intro or1 h hr1
 refine zr [.v (.A (x2:Tr))] ?_
 refine w_o (a:= .F ([x2]:List Tr)) (h:=zbh (zev (α:=Tr) (l:=[x2]) (cs:=Enc.cells (x2:Tr)++[]) rfl (by rw[Enc.cons,Enc.nil]))) ?_
 obtain⟨g2,h⟩:=zi h
 obtain⟨x3,hx3,h⟩:=zo h
 refine zcq (args':=[.L ([x2]:List Tr)]) (r:= .L (x3:List BS)) (by rw[←hx3];exact(z1d [x2] g2)) ?_
 refine w_r [.v (.i (List.length x3:Int)),.v (.i 0)] ?_
 refine zp ?_
 refine zbx h (bz 0 44 17592185257951) (fun s1=>[(4,(.O (s1.1:List Arc))),(20,.i s1.2)]) (fun s1=>(zbs [(29,(Enc.cells (t:Tr))),(29,(Enc.cells (x2:Tr)))] 36 (List.length (s1.1:List Arc)) 5)) ?_ ?_
 exact zdl (bl 44 1835056)
 intro s1 p1 h
 refine zfj ?_
 refine zr [.v (.b (decide (s1.2<(List.length x3:Int))))] ?_
 refine zf ?_
 refine zci h (fun hc2 h=> ?_) (fun hc2 h=> ?_)
 refine zau h (bz 0 42 4398044415888) (fun j2=>[(4,(.O (j2:List Arc)))]) (fun j2=>(zbs [(29,(Enc.cells (t:Tr))),(29,(Enc.cells (x2:Tr)))] 36 (List.length (j2:List Arc)) 5)) ?_ ?_
 intro or2 h hr2
 refine zp ?_
 refine zf (zb ?_)
 obtain⟨g3,h⟩:=zi h
 obtain⟨x4,hx4,h⟩:=zo h
 refine zvo hx4 g3 ?_
 refine w_o (a:= .A (x4:BS)) ?_
 refine zbz (a:= .ptr 2 0) (σ'':=(zbs [(29,(Enc.cells (t:Tr))),(29,(Enc.cells (x2:Tr))),(26,(Enc.cells (0#256:BS)))] 36 (List.length (s1.1:List Arc)) 5)) ?_
 refine zcx 4 (zbs [(29,(Enc.cells (t:Tr))),(29,(Enc.cells (x2:Tr))),(26,(Enc.cells (x4:BS)))] 36 (List.length (s1.1:List Arc)) 5) ?_
 refine zr [.v (.A (x4:BS))] ?_
 obtain⟨x5,hx5,h⟩:=zu h
 refine zcq (zyj x4 x5 hx5) ?_
 refine w_r [.m _,.x _,.x _,.m _,.m _] ?_
 refine zr [.v (.A (x2:Tr))] ?_
 refine w_o (a:= .F ([x2]:List Tr)) (h:=zbh (zev (α:=Tr) (l:=[x2]) (cs:=Enc.cells (x2:Tr)++[]) rfl (by rw[Enc.cons,Enc.nil]))) ?_
 refine zab ?_
 obtain⟨g4,h⟩:=zi h
 obtain⟨x6,hx6,h⟩:=zo h
 refine zcq (args':=[.L ([x2]:List Tr),.u x5.1]) (r:= .L (x6:List Tr)) (by rw[←hx6];exact(z2r [x2] x5.1 g4)) ?_
 refine zab ?_
 refine zr [.m _,.v (.i (List.length x6:Int)),.v (.b (decide ((List.length x6:Int)>0)))] ?_
 refine zci h (fun hc3 h=> ?_) (fun hc3 h=> ?_)
 refine zb (k0:=0) (id:=11) ?_
 refine w_r [.m _,.v (.A (x4:BS)),.m _] ?_
 refine zeh (.A ((Arc.mk x4 x6):Arc)) (a0:=(arcR (Arc.mk x4 x6) .none)) rfl rfl rfl (by kernel_rfl) (qbw _ _) (by dsimp only[zh,List.set]) ?_
 refine w_o (a:= .F ([(Arc.mk x4 x6)]:List Arc)) (h:=zbh (zev (α:=Arc) (l:=[(Arc.mk x4 x6)]) (cs:=Enc.cells ((Arc.mk x4 x6):Arc)++[]) rfl (by rw[Enc.cons,Enc.nil]))) ?_
 obtain⟨g5,h⟩:=zi h
 refine zfp (a:=(.O ((s1.1++[(Arc.mk x4 x6)]):List Arc))) (σ'':=(zbs [(29,(Enc.cells (t:Tr))),(29,(Enc.cells (x2:Tr))),(26,(Enc.cells (x4:BS)))] 36 (List.length ((s1.1++[(Arc.mk x4 x6)]):List Arc)) 5)) rfl rfl rfl (zft rfl rfl rfl rfl (zdy (α:=Arc) (bs:=[(29,(Enc.cells (t:Tr))),(29,(Enc.cells (x2:Tr))),(26,(Enc.cells (x4:BS)))]) (a:=s1.1) (b:=[(Arc.mk x4 x6)]) g5 rfl rfl rfl rfl rfl ⟨rfl,by decide⟩)) (by dsimp only[zh,List.set]) rfl ?_
 refine zab ?_
 refine zg (o:=or2) ((s1.1++[(Arc.mk x4 x6)])) h ?_
 exact zdd (bl 44 13194141628543) 2 (by kernel_rfl) (Nat.le_of_ble_eq_true rfl) (zbi (zt (zm _ _ (Enc.clo _)) (zt (zm _ _ (Enc.clo _)) rfl))) (by dsimp only[zac,zag,List.foldl,List.set,bz,bzc,Nat.reduceMod,Nat.reduceDiv,Nat.reduceBEq,Nat.reduceAdd];exact(za rfl (za rfl (za rfl (za rfl (za (zcf (Enc.cloL _)) (za (by decide) (za rfl (za rfl (za rfl (za rfl (za rfl (za rfl (za rfl (za rfl (za rfl (za rfl (za rfl (za rfl (za (zan (Enc.cloL _)) (by kernel_rfl))))))))))))))))))))) (by kernel_rfl)
 refine zg (o:=or2) (s1.1) h ?_
 exact zdd (bl 44 13194141628543) 2 (by kernel_rfl) (Nat.le_of_ble_eq_true rfl) (zbi (zt (zm _ _ (Enc.clo _)) (zt (zm _ _ (Enc.clo _)) rfl))) (by dsimp only[zac,zag,List.foldl,List.set,bz,bzc,Nat.reduceMod,Nat.reduceDiv,Nat.reduceBEq,Nat.reduceAdd];exact(za rfl (za rfl (za rfl (za rfl (za (zcf (Enc.cloL _)) (za (by decide) (za rfl (za rfl (za rfl (za rfl (za rfl (za rfl (za rfl (za rfl (za rfl (za rfl (za rfl (za rfl (za (zan (Enc.cloL _)) (by kernel_rfl))))))))))))))))))))) (by kernel_rfl)
 intro j2 h
 refine zfj ?_
 refine zb (k0:=0) (id:=12) ?_
 obtain⟨g6,h⟩:=zi h
 refine zpe g6 ?_
 refine zab ?_
 refine zas (p:=p1) (j2,(s1.2+1)) h ?_
 exact zdl (bl 44 1835056)
 refine zw h (fun h=> ?_)
 refine zg (o:=or1) (s1.1) h ?_
 exact zdl (bl 44 16)
 intro j1 h
 refine zfj ?_
 refine zr [.m _,.m _,.v (.i 0)] ?_
 exact zax (fun(r:((List Arc)×Int))=> .tup [.L (r.1:List Arc),.i r.2]) h (.tup [(.O (j1:List Arc)),.i 0])
def zkq (fuel:Nat)(t:Tr)(s:(List UInt8)):Option ((List Tr)×Int):=
 (zav (zgf t) (fun x1=>(bif (!x1) then(some (([]:(List Tr)),120)) else(bif (decide ((List.length s:Int)>4096)) then(some (([]:(List Tr)),3)) else(chk (CS 998 t) (zbc (plT t) (fun x2=>(chk ((pre x2).length<2^61) (zbc (z8p x2) (fun x3=>(zdn (τ:=(List Tr)) (zbv (β:=(List Tr)×Int) (fun s1=>(bif (decide (s1.2<(List.length s:Int))) then(chk (0≤s1.2∧s1.2<(List.length s:Int)) (zbc (ix s s1.2) (fun x4=>(chk (0≤(((x4).toNat:Nat):Int)∧((Int.toNat (((x4).toNat:Nat):Int)<256∧ ∀x∈s1.1,BO x)∧(List.flatMap (byT (Int.toNat (((x4).toNat:Nat):Int))) s1.1).length<2^40∧List.length s1.1<2^40)) (zbc (behT s1.1 (Int.toNat (((x4).toNat:Nat):Int))) (fun x5=>(chk (-9223372036854775808≤(s1.2+1)∧(s1.2+1)<9223372036854775808) (some (Sum.inl (x5,(s1.2+1))))))))))) else(some (Sum.inr (Sum.inl (s1.1)))))) fuel (x3,0)) (fun j1=>(some (j1,0))))))))))))))
theorem ent19:Ent Tryz.prog 19:=enters_of Tryz.func19 (by kernel_rfl) rfl
theorem z0e (fuel:Nat)(t:Tr)(s:(List UInt8))(r:((List Tr)×Int))(h:zkq fuel t s=some r):Pure (ITP Tryz.prog) Tryz.prog 19 [.A (t:Tr),.raw (.string (bs s))] (.tup [.L (r.1:List Tr),.raw (.int .i64 r.2)]):=by
 unfold zkq at h
 refine zbd 29 mix Tryz.func19 ent19 ?_
 refine zf (zb ?_)
 refine zbz (a:= .ptr 0 0) (σ'':=(.B [(29,(Enc.cells (t:Tr)))])) ?_
 refine w_r [.v (.list 0 [] .full),.v (.i 0)] ?_
 refine zf ?_
 refine zp ?_
 refine zr [.v (.A (t:Tr))] ?_
 obtain⟨x1,hx1,h⟩:=zu h
 refine zcq (zns t x1 hx1) ?_
 refine w_r [.v (.b (!x1)),.m _] ?_
 refine zci h (fun hc1 h=> ?_) (fun hc1 h=> ?_)
 refine zr [.v (.list 0 [] .full),.v (.i 120)] ?_
 exact zax (fun(r:((List Tr)×Int))=> .tup [.L (r.1:List Tr),.i r.2]) h (.tup [.list 0 [] .full,.i 120])
 refine zr [.m _] ?_
 refine w_o (a:= .i (List.length s:Int)) (h:=zbh (qpg rfl rfl rfl)) ?_
 refine w_r [.v (.b (decide ((List.length s:Int)>4096))),.m _] ?_
 refine zci h (fun hc2 h=> ?_) (fun hc2 h=> ?_)
 refine zr [.v (.list 0 [] .full),.v (.i 3)] ?_
 exact zax (fun(r:((List Tr)×Int))=> .tup [.L (r.1:List Tr),.i r.2]) h (.tup [.list 0 [] .full,.i 3])
 refine zr [.v (.A (t:Tr))] ?_
 obtain⟨g1,h⟩:=zi h
 obtain⟨x2,hx2,h⟩:=zo h
 refine zcq (args':=[.A (t:Tr)]) (r:= .A (x2:Tr)) (by rw[←hx2];exact(ztg t g1)) ?_
 obtain⟨g2,h⟩:=zi h
 obtain⟨x3,hx3,h⟩:=zo h
 refine zcq (args':=[.A (x2:Tr)]) (r:= .L (x3:List Tr)) (by rw[←hx3];exact(k_first x2 g2)) ?_
 refine zab ?_
 refine zau h (bz 0 31 2147483647) (fun j1=>[(6,.L (j1:List Tr))]) (fun j1=>(.B [(29,(Enc.cells (t:Tr)))])) ?_ ?_
 intro or1 h hr1
 refine zr [.m _] ?_
 refine w_o (a:= .i (List.length s:Int)) (h:=zbh (qpg rfl rfl rfl)) ?_
 refine w_o (a:= .i 0) ?_
 refine zp ?_
 refine zbx h (bz 0 31 2146435069) (fun s1=>[(6,.L (s1.1:List Tr)),(21,.i s1.2)]) (fun s1=>(.B [(29,(Enc.cells (t:Tr)))])) ?_ ?_
 exact zdl (bl 31 3145794)
 intro s1 p1 h
 refine zfj ?_
 refine zr [.v (.b (decide (s1.2<(List.length s:Int))))] ?_
 refine zf ?_
 refine zci h (fun hc3 h=> ?_) (fun hc3 h=> ?_)
 refine zf ?_
 refine zp ?_
 refine zr [.m _,.m _] ?_
 refine zb (k0:=0) (id:=9) ?_
 refine w_r [.m _,.m _,.m _] ?_
 obtain⟨g3,h⟩:=zi h
 obtain⟨x4,hx4,h⟩:=zo h
 refine w_o (a:= .u (((x4).toNat:Nat):Int)) (h:=zbh (by rw[←hx4];exact(q_sidx (l:=s) (n:=s1.2) g3 rfl rfl rfl rfl))) ?_
 obtain⟨g4,h⟩:=zi h
 obtain⟨x5,hx5,h⟩:=zo h
 refine zcq (args':=[.L (s1.1:List Tr),.u (((x4).toNat:Nat):Int)]) (r:= .L (x5:List Tr)) (by rw[←hx5];exact(z2r s1.1 (((x4).toNat:Nat):Int) g4)) ?_
 refine zab ?_
 refine zb (k0:=0) (id:=10) ?_
 obtain⟨g5,h⟩:=zi h
 refine zpe g5 ?_
 refine zab ?_
 refine zas (p:=p1) (x5,(s1.2+1)) h ?_
 exact zdl (bl 31 3145794)
 refine zw h (fun h=> ?_)
 refine zg (o:=or1) (s1.1) h ?_
 exact zdl (bl 31 64)
 intro j1 h
 refine zfj ?_
 refine zr [.m _,.m _,.v (.i 0)] ?_
 exact zax (fun(r:((List Tr)×Int))=> .tup [.L (r.1:List Tr),.i r.2]) h (.tup [.L (j1:List Tr),.i 0])
def zer (fuel:Nat)(t:Tr)(s:(List UInt8)):Option (Bool×Int):=
 (zav (zkq fuel t s) (fun x1=>(bif (x1.2==0) then(zav (z7i fuel nulQ x1.1) (fun x2=>(some (x2,x1.2)))) else(some (false,x1.2)))))
theorem ent38:Ent Tryz.prog 38:=enters_of Tryz.func38 (by kernel_rfl) rfl
theorem zkr (fuel:Nat)(t:Tr)(s:(List UInt8))(r:(Bool×Int))(h:zer fuel t s=some r):Pure (ITP Tryz.prog) Tryz.prog 38 [.A (t:Tr),.raw (.string (bs s))] (.tup [.raw (.bool r.1),.raw (.int .i64 r.2)]):=by
 unfold zer at h
 refine zbd 19 mix Tryz.func38 ent38 ?_
 refine zf (zb ?_)
 refine zbz (a:= .ptr 0 0) (σ'':=(.B [(29,(Enc.cells (t:Tr)))])) ?_
 refine w_r [.v (.b false),.v (.i 0)] ?_
 refine zr [.v (.A (t:Tr)),.m _] ?_
 obtain⟨x1,hx1,h⟩:=zu h
 refine zcq (z0e fuel t s x1 hx1) ?_
 refine w_r [.m _,.x _,.x _,.m _,.m _] ?_
 refine zr [.m _,.v (.b (x1.2==0))] ?_
 refine zae h (fun hc1 h=> ?_) (fun hc1 h=> ?_)
 refine zbj hc1 ?_
 refine zaf rfl rfl ?_
 refine zab ?_
 refine zaf rfl rfl ?_
 obtain⟨x2,hx2,h⟩:=zu h
 refine zbr (args':=[.L (x1.1:List Tr),.clos 60 []]) (r:= .b x2) (qfe fuel nulQ x1.1 x2 60 (fun x y h=>nulQ_ok h) hx2) rfl rfl (zd (zet (Enc.cloL _)) (zd (show AV.clos _ (stripL _)=_ from congrArg (AV.clos _) rfl) rfl)) (za (zan (Enc.cloL _)) (za (show zaa _ _=true from rfl) rfl)) (by dsimp only[zh,List.set]) ?_
 refine w_r [.v (.b x2),.m _,.m _,.m _] ?_
 exact zax (fun(r:(Bool×Int))=> .tup [.b r.1,.i r.2]) h (.tup [.b x2,.i x1.2])
 refine zbj hc1 ?_
 refine w_r [.p,.p,.v (.b false),.m _,.m _] ?_
 refine w_r [.m _] ?_
 exact zax (fun(r:(Bool×Int))=> .tup [.b r.1,.i r.2]) h (.tup [.b false,.i x1.2])
end Go.Ab
