/-
  derive: by's contract.
-/
import Derived.Test.YtfkkellnlmjenaaGreatZeE3
import Derived.Test.YtfkkellnlmjenaaGreatZdCc
set_option linter.unusedSimpArgs false
set_option linter.unusedVariables false
set_option maxRecDepth 100000
set_option maxHeartbeats 4000000
namespace Go.Ab
open Go Go.RowKit Go.Fwd Go.Proofs
theorem z9n: ∀cv:List Value,cloL (cv.map AV.raw)=true
 |[]=>rfl
 |v::cv=>by rw[List.map_cons,cloL,z9n cv];rfl
theorem qnz (g:FuncId)(cv:List Value):clo (.clos g (cv.map AV.raw))=true:=by rw[clo];exact z9n cv
theorem zry (g:FuncId)(cv:List Value):zcv (.clos g (cv.map AV.raw))= .clos g (cv.map AV.raw):=by rw[zcv,zxc]
theorem zou (n:Nat)(g:FuncId)(cv:List Value):zbk n (.clos g (cv.map AV.raw))=true:=by rw[zbk];exact zvj n cv
noncomputable def zli (A:Nat→Tr→Prop)(k:Nat)(t:Tr)(b:Tr):Option Nat:=
 (chk ((zap [t,b]).length≤2^40) (zbc (zlc [t,b]) (fun x1=>(z7n (A k x1) (some (k+1))))))
theorem qny:Ent Tryz.prog 173:=enters_of Tryz.func173 (by kernel_rfl) rfl
theorem qma (A:Nat→Tr→Prop)(k:Nat)(t:Tr)(b:Tr)(n1:Nat)(h:zli A k t b=some n1)(G:Gen)(g:FuncId)(cv:List Value)(hG:GenOk Tryz.prog G)(hown: ∀b,¬G.own b)(eg:Ent Tryz.prog g)(hR: ∀i t,A i t→Rnd Tryz.prog G g cv i [.A t]):z4z (ITP Tryz.prog) Tryz.prog G 173 [.A (t:Tr),.iptr [.clos g (cv.map AV.raw)],.iptr (Enc.cells (b:Tr))] (zff k) .top (zff n1):=by
 obtain⟨d,hd⟩: ∃d,Tryz.f173.body=some d:=⟨_,rfl⟩
 refine qiz mix hG Tryz.func173 hd qny ?_
 cases hd
 unfold zli at h
 refine zah (by dsimp only[zbf,Tryz.f173,List.length_cons,List.length_nil,Nat.zero_add,Nat.reduceAdd,Nat.reduceSub,List.replicate,List.cons_append,List.nil_append]) (by dsimp only[zff]) ?_
 refine zf (zb ?_)
 refine zbz (a:= .ptr 0 0) (σ'':=⟨[(29,(Enc.cells (t:Tr)))],[],[],k,false⟩) ?_
 refine zgc (k0:=0) (id:=1) 5 (by kernel_rfl) (by kernel_rfl) ?_
 refine h_o (a:= .clos g (cv.map AV.raw)) ?_
 refine h_o (a:= .A (t:Tr)) ?_
 refine h_o (a:= .A (b:Tr)) ?_
 refine h_o (a:= .F ([t,b]:List Tr)) (h:=zev (α:=Tr) (l:=[t,b]) (cs:=Enc.cells (t:Tr)++(Enc.cells (b:Tr)++[])) rfl (by rw[Enc.cons,Enc.cons,Enc.nil])) ?_
 obtain⟨g1,h⟩:=zi h
 obtain⟨x1,hx1,h⟩:=zo h
 refine qni (args':=[.L ([t,b]:List Tr)]) (r:= .A (x1:Tr)) (by rw[←hx1];exact(k_seq [t,b] g1)) ?_
 refine zjo ?_
 obtain⟨g2,h⟩:=zoh h
 refine zpu (r:= .top) (σ':=⟨[(29,(Enc.cells (t:Tr)))],[],[],(k+1),false⟩) (qiu (k:=k) (args:=[.A (x1:Tr)]) (zat _) eg (hR _ _ g2) (zd (zaj (zl (Enc.clo _))) rfl) (za (zn _ _ (zl (Enc.clo _))) rfl) (zsk rfl) rfl rfl) rfl rfl rfl (by dsimp only[zh,List.set]) ?_
 exact⟨⟨.tup [],rfl⟩,rfl,Option.some.inj h⟩
theorem ent146:Ent Tryz.prog 146:=enters_of Tryz.func146 (by kernel_rfl) rfl
set_option maxRecDepth 100000 in
theorem z4c (g:FuncId)(cv:List Value)(b:Tr):Pure (ITP Tryz.prog) Tryz.prog 146 [.clos g (cv.map AV.raw),.agg (Enc.cells b)] (.clos 173 [.iptr [.clos g (cv.map AV.raw)],.iptr (Enc.cells b)]):=by
 obtain⟨d,hd⟩: ∃d,Tryz.f146.body=some d:=⟨_,rfl⟩
 refine zgk mix Tryz.func146 hd ent146 ?_
 cases hd
 refine zah (by dsimp only[zbf,Tryz.f146,List.length_cons,List.length_nil,Nat.zero_add,Nat.reduceAdd,Nat.reduceSub,List.replicate,List.cons_append,List.nil_append]) (by dsimp only[St.empty]) ?_
 refine zf (zb ?_)
 refine zbz (a:= .ptr 0 0) (σ'':=⟨[(129,[.clos g (cv.map AV.raw)])],[],[],0,false⟩) ?_
 refine zbz (a:= .ptr 1 0) (σ'':=⟨[(129,[.clos g (cv.map AV.raw)]),(29,(Enc.cells (b:Tr)))],[],[],0,false⟩) ?_
 refine w_o (a:= .raw Value.nilFunc) ?_
 refine zf (zb ?_)
 refine w_o (a:= .clos 173 [.ptr 0 0,.ptr 1 0]) ?_
 refine zab ?_
 exact z5c 1 rfl (by show AV.clos _ [AV.iptr (zbp _ [AV.clos g (cv.map AV.raw)]),AV.iptr (zbp _ (Enc.cells b))]=_;rw[zdg _ _ (Enc.clo _),zdg _ _ (zxu (qnz g cv) rfl)])
theorem ent97:Ent Tryz.prog 97:=enters_of Tryz.func97 (by kernel_rfl) rfl
def ByC (x:Tr)(c:Int):Prop:= ∀(G:Gen) (g:FuncId) (cv:List Value) (k:Nat),GenOk Tryz.prog G→(∀b,¬G.own b)→Ent Tryz.prog g→(∀i t,(byT c.toNat x)[i]? =some t→Rnd Tryz.prog G g cv (k+i) [.agg (Enc.cells t)])→
 z4z (ITP Tryz.prog) Tryz.prog G 97 [.agg (Enc.cells x),.raw (.int .u8 c),.clos g (cv.map AV.raw)] (zff k) .top (zff (k+(byT c.toNat x).length))
theorem by_id {A:Nat→Tr→Prop} {x:Tr} {c:Int} {G:Gen} {g:FuncId} {cv:List Value} {k:Nat} {σ:St} (h:ByC x c)(hG:GenOk Tryz.prog G)(hown: ∀b,¬G.own b)(eg:Ent Tryz.prog g)(hR: ∀i t,A i t→Rnd Tryz.prog G g cv i [.agg (Enc.cells t)])(ho:σ.out=k)(hst:σ.stop=false)
 (hA: ∀i t,(byT c.toNat x)[i]? =some t→A (k+i) t):z4z (ITP Tryz.prog) Tryz.prog G 97 [.agg (Enc.cells x),.raw (.int .u8 c),.clos g (cv.map AV.raw)] σ .top {σ with out:=k+(byT c.toNat x).length}:=
 z2a (zat _) hown (h G g cv k hG hown eg fun i t hi=>hR _ _ (hA i t hi)) (zd (zaj (zl (Enc.clo _))) (zd rfl (zd (zry g cv) rfl))) (za (zn _ _ (zl (Enc.clo _))) (za rfl (za (zou _ g cv) rfl))) ho hst
theorem qhq {A:Nat→Tr→Prop} {x b:Tr} {c:Int} {G:Gen} {g:FuncId} {cv:List Value} {k:Nat} {σ:St} (h:ByC x c)(hG:GenOk Tryz.prog G)(hown: ∀b,¬G.own b)(eg:Ent Tryz.prog g)(hR: ∀i t,A i t→Rnd Tryz.prog G g cv i [.agg (Enc.cells t)])(ho:σ.out=k)(hst:σ.stop=false)
 (hA: ∀i t,(byT c.toNat x)[i]? =some t→zli A (k+i) t b=some (k+i+1)):z4z (ITP Tryz.prog) Tryz.prog G 97 [.agg (Enc.cells x),.raw (.int .u8 c),.clos 173 [.iptr [.clos g (cv.map AV.raw)],.iptr (Enc.cells b)]] σ .top {σ with out:=k+(byT c.toNat x).length}:=by
 have h1:=sndg_sw (P:=Tryz.prog) (H:=G) hG (f:=97) (g:=173) (pre:=[.agg (Enc.cells x),.raw (.int .u8 c)]) (pre':=[.agg (Enc.cells x),.raw (.int .u8 c)]) (caps:=[.iptr [.clos g (cv.map AV.raw)],.iptr (Enc.cells b)]) (σ:=fun i=>{σ with out:=k+i}) (rows:=fun i=>[.agg (Enc.cells ((byT c.toNat x).getD i noneT))]) (m:=(byT c.toNat x).length) ent97
  (zd (zaj (zl (Enc.clo _))) (zd rfl rfl)) (za (zn _ _ (zl (Enc.clo _))) (by kernel_rfl)) (fun i=>hst) (fun G' cv' hG' ho' hR'=> ?_) (fun i hi=> ?_)
 ·have e:{σ with out:=k+0}=σ:=by rw[Nat.add_zero,←ho]
  have h1:z4z (ITP Tryz.prog) Tryz.prog G 97 [.agg (Enc.cells x),.raw (.int .u8 c),.clos 173 [.iptr [.clos g (cv.map AV.raw)],.iptr (Enc.cells b)]] {σ with out:=k+0} .top {σ with out:=k+(byT c.toNat x).length}:=h1
  rw[e] at h1;exact h1
 ·have h2:=h G' 173 cv' 0 hG' ho' qny (fun i t hi=>by
   have hl:=(List.getElem?_eq_some_iff.1 hi).1
   have:=hR' i hl
   rw[List.getD_eq_getElem?_getD,hi] at this
   rw[Nat.zero_add];exact this)
  rw[Nat.zero_add] at h2;exact h2
 ·have hg:(byT c.toNat x)[i]? =some ((byT c.toNat x).getD i noneT):=by rw[List.getD_eq_getElem?_getD,List.getElem?_eq_getElem hi];rfl
  exact z2a (zat _) hown (qma A (k+i) _ b _ (hA i _ hg) G g cv hG hown eg hR) (zd (zaj (zl (Enc.clo _))) (zd (by rw[zcv,stripL,zry];rfl) (zd (zaj (zsd (Enc.clo _))) rfl))) (za (zn _ _ (zl (Enc.clo _))) (za (zn _ _ (zsd (zxu (qnz g cv) rfl))) (za (zn _ _ (zsd (Enc.clo _))) rfl))) rfl hst
noncomputable def F_by (fuel:Nat)(n:Nat)(A:Nat→Tr→Prop)(k:Nat)(t:Tr)(c:Int):Option Nat:=
 (bif (((t.k:Nat):Int)==2) then(zav (zum t.s c) (fun x1=>(bif x1 then(z7n (A k (Tr.mk 1 (0#256) 0 0 [])) (some (k+1))) else(some k)))) else(bif (((t.k:Nat):Int)==4) then(zbv (β:=Int×Nat) (fun s1=>(bif (decide (s1.1<(List.length t.l:Int))) then(chk (0≤s1.1∧s1.1<(List.length t.l:Int)) (zbc (ix t.l s1.1) (fun x2=>(chk (((pre x2).length<n∧BO x2)) (z7n (∀i t,(byT (Int.toNat c) x2)[i]? =some t→A (s1.2+i) t) (chk (-9223372036854775808≤(s1.1+1)∧(s1.1+1)<9223372036854775808) (some (Sum.inl ((s1.1+1),(s1.2+List.length (byT (Int.toNat c) x2))))))))))) else(some (Sum.inr s1.2)))) fuel (0,k)) else(bif (((t.k:Nat):Int)==5) then(zdn (τ:=Int) (bif (t.mx !=(-1)) then(chk (-9223372036854775808≤(t.mx-1)∧(t.mx-1)<9223372036854775808) (some (Sum.inl ((t.mx-1))))) else(some (Sum.inl (t.mx)))) (fun j1=>(chk (0≤(0:Int)∧(0:Int)<(List.length t.l:Int)) (zbc (ix t.l (0:Int)) (fun x3=>(chk (0≤(0:Int)∧(0:Int)<(List.length t.l:Int)) (zbc (ix t.l (0:Int)) (fun x4=>(chk (-9223372036854775808≤(t.mn-1)∧(t.mn-1)<9223372036854775808) (chk ((pre x4).length<2^40) (zbc (zis x4 (max (t.mn-1) 0) j1) (fun x5=>(chk (((pre x3).length<n∧BO x3)) (z7n (∀i t,(byT (Int.toNat c) x3)[i]? =some t→zli A (k+i) t x5=some (k+i+1)) (some (k+List.length (byT (Int.toNat c) x3))))))))))))))))) else(bif (((t.k:Nat):Int)==3) then(chk (0≤(1:Int)∧(1:Int)≤(List.length t.l:Int)∧(List.length t.l:Int)≤(List.length t.l:Int)) (chk ((zap (sub t.l (1:Int) (List.length t.l:Int))).length≤2^40) (zbc (zlc (sub t.l (1:Int) (List.length t.l:Int))) (fun x6=>(chk (0≤(0:Int)∧(0:Int)<(List.length t.l:Int)) (zbc (ix t.l (0:Int)) (fun x7=>(chk (((pre x7).length<n∧BO x7)) (z7n (∀i t,(byT (Int.toNat c) x7)[i]? =some t→zli A (k+i) t x6=some (k+i+1)) (chk (0≤(0:Int)∧(0:Int)<(List.length t.l:Int)) (zbc (ix t.l (0:Int)) (fun x8=>(chk (((pre x8).length<2^60∧crT x8=true)) (zbc (zeu x8) (fun x9=>(bif x9 then(chk (((pre x6).length<n∧BO x6)) (z7n (∀i t,(byT (Int.toNat c) x6)[i]? =some t→A ((k+List.length (byT (Int.toNat c) x7))+i) t) (some ((k+List.length (byT (Int.toNat c) x7))+List.length (byT (Int.toNat c) x6))))) else(some (k+List.length (byT (Int.toNat c) x7))))))))))))))))))) else(some k)))))
theorem by_sh (fuel:Nat)(n:Nat)(A:Nat→Tr→Prop)(k:Nat)(t:Tr)(c:Int)(n1:Nat)(ih: ∀x:Tr,((pre x).length<n∧BO x)→ByC x c)(h:F_by fuel n A k t c=some n1)(G:Gen)(g:FuncId)(cv:List Value)(hG:GenOk Tryz.prog G)(hown: ∀b,¬G.own b)(eg:Ent Tryz.prog g)(hR: ∀i t,A i t→Rnd Tryz.prog G g cv i [.A t]):z4z (ITP Tryz.prog) Tryz.prog G 97 [.A (t:Tr),.raw (.int .u8 c),.clos g (cv.map AV.raw)] (zff k) .top (zff n1):=by
 obtain⟨d,hd⟩: ∃d,Tryz.f97.body=some d:=⟨_,rfl⟩
 refine qiz mix hG Tryz.func97 hd ent97 ?_
 cases hd
 unfold F_by at h
 refine zah (by dsimp only[zbf,Tryz.f97,List.length_cons,List.length_nil,Nat.zero_add,Nat.reduceAdd,Nat.reduceSub,List.replicate,List.cons_append,List.nil_append]) (by dsimp only[zff]) ?_
 refine zf (zb ?_)
 refine zbz (a:= .ptr 0 0) (σ'':=⟨[(29,(Enc.cells (t:Tr)))],[],[],k,false⟩) ?_
 refine zr [.v (.ptr 0 0),.v (.u ((t.k:Nat):Int))] ?_
 refine zp ?_
 refine zr [.v (.b (((t.k:Nat):Int)==2)),.m _] ?_
 refine zci h (fun hc1 h=> ?_) (fun hc1 h=> ?_)
 refine zr [.v (.ptr 0 1),.v (.A (t.s:BS)),.m _] ?_
 obtain⟨x1,hx1,h⟩:=zu h
 refine zcq (z6u t.s c x1 hx1) ?_
 refine zci h (fun hc2 h=> ?_) (fun hc2 h=> ?_)
 refine zb (k0:=0) (id:=4) ?_
 refine zab ?_
 refine zeh (.A ((Tr.mk 1 (0#256) 0 0 []):Tr)) (a0:=(zca (Tr.mk 1 (0#256) 0 0 []) .full)) rfl rfl rfl (by kernel_rfl) (zj _ _) (by dsimp only[zh,List.set]) ?_
 obtain⟨g1,h⟩:=zoh h
 refine zpu (r:= .top) (σ':=⟨[(29,(Enc.cells (t:Tr)))],[],[],(k+1),false⟩) (qiu (k:=k) (args:=[.A ((Tr.mk 1 (0#256) 0 0 []):Tr)]) (zat _) eg (hR _ _ g1) (zd (zaj (zl (Enc.clo _))) rfl) (za (zn _ _ (zl (Enc.clo _))) rfl) (zsk rfl) rfl rfl) rfl rfl rfl (by dsimp only[zh,List.set]) ?_
 exact⟨⟨.tup [],rfl⟩,rfl,Option.some.inj h⟩
 exact⟨⟨.tup [],rfl⟩,rfl,Option.some.inj h⟩
 refine zr [.v (.b (((t.k:Nat):Int)==4)),.m _] ?_
 refine zci h (fun hc3 h=> ?_) (fun hc3 h=> ?_)
 refine zr [.v (.ptr 0 7),.v (.L (t.l:List Tr)),.v (.i (List.length t.l:Int)),.v (.i 0)] ?_
 refine zp ?_
 refine zbx h (bz 0 85 38685626227668133540265977) (fun s1=>[(26,.i s1.1)]) (fun s1=>⟨[(29,(Enc.cells (t:Tr)))],[],[],s1.2,false⟩) ?_ ?_
 exact zdl (bl 85 117440518)
 intro s1 p1 h
 refine zfj ?_
 refine zr [.v (.b (decide (s1.1<(List.length t.l:Int))))] ?_
 refine zf ?_
 refine zci h (fun hc4 h=> ?_) (fun hc4 h=> ?_)
 refine zf ?_
 refine zp ?_
 refine zf (zb ?_)
 obtain⟨g2,h⟩:=zi h
 obtain⟨x2,hx2,h⟩:=zo h
 refine zvo hx2 g2 ?_
 refine w_o (a:= .A (x2:Tr)) ?_
 refine zbz (a:= .ptr 1 0) (σ'':=⟨[(29,(Enc.cells (t:Tr))),(29,[.u 0,.raw (.int .u64 0),.raw (.int .u64 0),.raw (.int .u64 0),.raw (.int .u64 0),.i 0,.i 0,.list 0 [] .full])],[],[],s1.2,false⟩) ?_
 refine zcx 8 ⟨[(29,(Enc.cells (t:Tr))),(29,(Enc.cells (x2:Tr)))],[],[],s1.2,false⟩ ?_
 refine zb (k0:=0) (id:=9) ?_
 refine w_r [.v (.A (x2:Tr)),.m _,.m _] ?_
 obtain⟨g3,h⟩:=zi h
 obtain⟨g4,h⟩:=zoh h
 refine zpu (r:= .top) (σ':=⟨[(29,(Enc.cells (t:Tr))),(29,(Enc.cells (x2:Tr)))],[],[],(s1.2+List.length (byT (Int.toNat c) x2)),false⟩) (by_id (k:=s1.2) (x:=x2) (ih x2 g3) hG hown eg hR rfl rfl g4) rfl rfl rfl (by dsimp only[zh,List.set]) ?_
 refine zb (k0:=0) (id:=10) ?_
 obtain⟨g5,h⟩:=zi h
 refine zpe g5 ?_
 refine zab ?_
 refine zas (p:=p1) ((s1.1+1),(s1.2+List.length (byT (Int.toNat c) x2))) h ?_
 exact zdd (bl 85 117440518) 1 (by kernel_rfl) (Nat.le_of_ble_eq_true rfl) (zbi (zt (zm _ _ (Enc.clo _)) rfl)) (by dsimp only[zac,zag,List.foldl,List.set,bz,bzc,Nat.reduceMod,Nat.reduceDiv,Nat.reduceBEq,Nat.reduceAdd];exact(za rfl (za rfl (za (zou _ g cv) (za rfl (za rfl (za rfl (za rfl (za rfl (za rfl (za rfl (za rfl (za rfl (za rfl (za rfl (za rfl (za rfl (za rfl (za rfl (za rfl (za rfl (za rfl (za rfl (za rfl (za rfl (za (zan (Enc.cloL _)) (by kernel_rfl))))))))))))))))))))))))))) (by kernel_rfl)
 refine zw h (fun h=> ?_)
 exact⟨⟨.tup [],rfl⟩,rfl,Option.some.inj h⟩
 refine zr [.v (.b (((t.k:Nat):Int)==5)),.m _] ?_
 refine zci h (fun hc5 h=> ?_) (fun hc5 h=> ?_)
 refine zr [.v (.ptr 0 6),.v (.i t.mx),.m _] ?_
 refine zau h (bz 0 85 38685626227668133590597617) (fun j1=>[(8,.i j1)]) (fun j1=>⟨[(29,(Enc.cells (t:Tr)))],[],[],k,false⟩) ?_ ?_
 intro or1 h hr1
 refine zr [.m _,.v (.b (t.mx !=(-1)))] ?_
 refine zci h (fun hc6 h=> ?_) (fun hc6 h=> ?_)
 refine zb (k0:=0) (id:=14) ?_
 refine zab ?_
 obtain⟨g6,h⟩:=zi h
 refine w_sb g6 ?_
 refine zab ?_
 refine zg (o:=or1) ((t.mx-1)) h ?_
 exact zdl (bl 85 270)
 refine zg (o:=or1) (t.mx) h ?_
 exact zdl (bl 85 270)
 intro j1 h
 refine zfj ?_
 refine zgc (k0:=0) (id:=15) 17 (by kernel_rfl) (by kernel_rfl) ?_
 refine h_o (a:= .ptr 0 7) ?_
 refine h_o (a:= .L (t.l:List Tr)) ?_
 obtain⟨g7,h⟩:=zi h
 obtain⟨x3,hx3,h⟩:=zo h
 refine h_ix hx3 g7 ?_
 refine h_o (a:= .A (x3:Tr)) ?_
 refine zhd ?_
 refine zhd ?_
 refine h_o (a:= .ptr 0 7) ?_
 refine h_o (a:= .L (t.l:List Tr)) ?_
 obtain⟨g8,h⟩:=zi h
 obtain⟨x4,hx4,h⟩:=zo h
 refine h_ix hx4 g8 ?_
 refine h_o (a:= .A (x4:Tr)) ?_
 refine h_o (a:= .ptr 0 5) ?_
 refine h_o (a:= .i t.mn) ?_
 obtain⟨g9,h⟩:=zi h
 refine h_o (a:= .i (t.mn-1)) (h:=zgr rfl rfl rfl rfl g9.1 g9.2) ?_
 refine h_o (a:= .i (max (t.mn-1) 0)) (h:=qkd rfl rfl rfl rfl rfl) ?_
 refine zhd ?_
 obtain⟨g10,h⟩:=zi h
 obtain⟨x5,hx5,h⟩:=zo h
 refine qni (args':=[.A (x4:Tr),.i (max (t.mn-1) 0),.i j1]) (r:= .A (x5:Tr)) (by rw[←hx5];exact(qde x4 (max (t.mn-1) 0) j1 g10)) ?_
 refine zjn (args':=[.clos g (cv.map AV.raw),.A (x5:Tr)]) (r:= .clos 173 [.iptr [.clos g (cv.map AV.raw)],.iptr (Enc.cells (x5:Tr))]) (z4c g cv x5) rfl rfl rfl (zd (zry g cv) (zd (zaj (zl (Enc.clo _))) rfl)) (za (zou _ g cv) (za (zn _ _ (zl (Enc.clo _))) rfl)) (by dsimp only[zh,List.set]) ?_
 refine zjo ?_
 obtain⟨g11,h⟩:=zi h
 obtain⟨g12,h⟩:=zoh h
 refine zpu (r:= .top) (σ':=⟨[(29,(Enc.cells (t:Tr)))],[],[],(k+List.length (byT (Int.toNat c) x3)),false⟩) (qhq (k:=k) (x:=x3) (b:=x5) (ih x3 g11) hG hown eg hR rfl rfl g12) rfl rfl rfl (by dsimp only[zh,List.set]) ?_
 exact⟨⟨.tup [],rfl⟩,rfl,Option.some.inj h⟩
 refine zr [.v (.b (((t.k:Nat):Int)==3)),.m _] ?_
 refine zci h (fun hc7 h=> ?_) (fun hc7 h=> ?_)
 refine zr [.v (.ptr 0 7),.v (.L (t.l:List Tr))] ?_
 obtain⟨g13,h⟩:=zi h
 refine zeh (.L ((sub t.l (1:Int) (List.length t.l:Int)):List Tr)) rfl rfl rfl (q_subL_ (α:=Tr) (l:=t.l) g13 rfl rfl rfl rfl rfl) (z1n _ _ _) (by dsimp only[zh,List.set]) ?_
 obtain⟨g14,h⟩:=zi h
 obtain⟨x6,hx6,h⟩:=zo h
 refine zcq (args':=[.L ((sub t.l (1:Int) (List.length t.l:Int)):List Tr)]) (r:= .A (x6:Tr)) (by rw[←hx6];exact(k_seq (sub t.l (1:Int) (List.length t.l:Int)) g14)) ?_
 refine zbz (a:= .ptr 1 0) (σ'':=⟨[(29,(Enc.cells (t:Tr))),(29,[.u 0,.raw (.int .u64 0),.raw (.int .u64 0),.raw (.int .u64 0),.raw (.int .u64 0),.i 0,.i 0,.list 0 [] .full])],[],[],k,false⟩) ?_
 refine zcx 8 ⟨[(29,(Enc.cells (t:Tr))),(29,(Enc.cells (x6:Tr)))],[],[],k,false⟩ ?_
 refine zf ?_
 refine zgc (k0:=0) (id:=18) 8 (by kernel_rfl) (by kernel_rfl) ?_
 refine h_o (a:= .ptr 0 7) ?_
 refine h_o (a:= .L (t.l:List Tr)) ?_
 obtain⟨g15,h⟩:=zi h
 obtain⟨x7,hx7,h⟩:=zo h
 refine h_ix hx7 g15 ?_
 refine h_o (a:= .A (x7:Tr)) ?_
 refine zhd ?_
 refine zhd ?_
 refine h_o (a:= .A (x6:Tr)) ?_
 refine zjn (args':=[.clos g (cv.map AV.raw),.A (x6:Tr)]) (r:= .clos 173 [.iptr [.clos g (cv.map AV.raw)],.iptr (Enc.cells (x6:Tr))]) (z4c g cv x6) rfl rfl rfl (zd (zry g cv) (zd (zaj (zl (Enc.clo _))) rfl)) (za (zou _ g cv) (za (zn _ _ (zl (Enc.clo _))) rfl)) (by dsimp only[zh,List.set]) ?_
 refine zjo ?_
 obtain⟨g16,h⟩:=zi h
 obtain⟨g17,h⟩:=zoh h
 refine zpu (r:= .top) (σ':=⟨[(29,(Enc.cells (t:Tr))),(29,(Enc.cells (x6:Tr)))],[],[],(k+List.length (byT (Int.toNat c) x7)),false⟩) (qhq (k:=k) (x:=x7) (b:=x6) (ih x7 g16) hG hown eg hR rfl rfl g17) rfl rfl rfl (by dsimp only[zh,List.set]) ?_
 refine zr [.v (.ptr 0 7),.v (.L (t.l:List Tr))] ?_
 obtain⟨g18,h⟩:=zi h
 obtain⟨x8,hx8,h⟩:=zo h
 refine zvo hx8 g18 ?_
 refine w_o (a:= .A (x8:Tr)) ?_
 obtain⟨g19,h⟩:=zi h
 obtain⟨x9,hx9,h⟩:=zo h
 refine zcq (args':=[.A (x8:Tr)]) (r:= .b x9) (by rw[←hx9];exact(z5v x8 g19)) ?_
 refine zci h (fun hc8 h=> ?_) (fun hc8 h=> ?_)
 refine zb (k0:=0) (id:=20) ?_
 refine w_r [.v (.A (x6:Tr)),.m _,.m _] ?_
 obtain⟨g20,h⟩:=zi h
 obtain⟨g21,h⟩:=zoh h
 refine zpu (r:= .top) (σ':=⟨[(29,(Enc.cells (t:Tr))),(29,(Enc.cells (x6:Tr)))],[],[],((k+List.length (byT (Int.toNat c) x7))+List.length (byT (Int.toNat c) x6)),false⟩) (by_id (k:=(k+List.length (byT (Int.toNat c) x7))) (x:=x6) (ih x6 g20) hG hown eg hR rfl rfl g21) rfl rfl rfl (by dsimp only[zh,List.set]) ?_
 exact⟨⟨.tup [],rfl⟩,rfl,Option.some.inj h⟩
 exact⟨⟨.tup [],rfl⟩,rfl,Option.some.inj h⟩
 exact⟨⟨.tup [],rfl⟩,rfl,Option.some.inj h⟩
theorem zxo {α β:Type} (f:α→List β): ∀(l:List α) (i:Nat) (hi:i<l.length) (j:Nat) (y:β),(f l[i])[j]? =some y→(l.flatMap f)[((l.take i).flatMap f).length+j]? =some y
 | x::l,0,_,j,y,h=>by
  simp only[List.take_zero,List.flatMap_nil,List.length_nil,Nat.zero_add,List.flatMap_cons]
  have h:(f x)[j]? =some y:=h
  have:=(List.getElem?_eq_some_iff.1 h).1
  rw[List.getElem?_append_left this];exact h
 | x::l,i+1,hi,j,y,h=>by
  have ih:=zxo f l i (by simpa using hi) j y h
  rw[List.take_succ_cons,List.flatMap_cons,List.flatMap_cons,List.length_append,Nat.add_assoc,List.getElem?_append_right (by omega),show(f x).length+(((l.take i).flatMap f).length+j)-(f x).length=((l.take i).flatMap f).length+j by omega]
  exact ih
theorem zif {a:Tr} (h:BO a):(pre a).length≤4000:=Nat.le_trans h.1.tb h.2
theorem z9t {A:Nat→Tr→Prop} {k:Nat} {t b:Tr} (hs:(pre t).length+(pre b).length≤9000)(h:A k (zlc [t,b])):zli A k t b=some (k+1):=by
 unfold zli
 refine zq (by simp only[zap,List.append_nil,List.length_append];omega) (zai fun x e=> ?_)
 subst e
 exact znz h rfl
theorem z9k (c:Nat)(x:Tr)(l:List Tr):zia c (x::l)=(byT c x).map (fun t=>zlc [t,zlc l])++(bif zeu x then zia c l else[]):=by rw[zia]
theorem qlb {c:Nat} {l:List Tr} (h:CRL l)(hk: ∀x∈l,x.k≠1∧x.k≠3)(hs:tbL l≤4000)(hne:l≠[]):byT c (zlc l)=zia c l:=by
 have h1:=qhs h
 obtain⟨e1,e2,e3,e4⟩:=zsi h hk (by omega)
 rw[e1]
 match l,hne with
 | [x],_=>
  rw[zja,z9k,zia]
  have hx:BO x:=⟨((zbb _ _).1 h).1,by rw[tbL] at hs;omega⟩
  have e:zlc []=emptyT:=by rw[z4u zdf (by simp[zap])];rfl
  rw[e]
  have hm:(byT c x).map (fun t=>zlc [t,emptyT])=byT c x:=by
   conv=>rhs;rw[←List.map_id (byT c x)]
   apply List.map_congr_left
   intro y hy
   have hy':=(qmh hx hy).1
   exact qhy hy'.1 (by have:=zif hy';omega)
  rw[hm];cases zeu x<;>simp
 |x::y::r,_=>rw[zhh,qgx];rfl
theorem by_eq {fuel:Nat} (hf:4001<fuel) {A:Nat→Tr→Prop} (n k:Nat)(t:Tr)(c:Nat)(hc:c<256)(hn:(pre t).length<n+1)(h:BO t)(hA: ∀i y,(byT c t)[i]? =some y→A (k+i) y):F_by fuel n A k t (c:Int)=some (k+(byT c t).length):=by
 have hp:(pre t).length=1+(zap t.l).length:=by rw[zcw,List.length_cons];omega
 have hcl:=(zeo t.l).1 ((zcn t).1 h.1).2
 have hh:=zif h
 have hlen:=zaq t.l
 unfold F_by
 simp only[Int.toNat_natCast]
 have hbt:=qgx c t
 rcases zkn ((zcn t).1 h.1).1 with hk|hk|hk|hk|hk|hk
 ·rw[hk] at hbt;rw[hbt,hk];rfl
 ·rw[hk] at hbt
  rw[hk]
  have hbt:byT c t=bif t.s.getLsbD c then[emptyT] else[]:=hbt
  refine zbe rfl (zaw _ (z6q t.s c hc) ?_)
  cases hb:t.s.getLsbD c with
  |false=>rw[hbt,hb];rfl
  | true=>
   rw[hb] at hbt
   rw[hbt]
   exact zbe rfl (znz (by have:=hA 0 emptyT (by rw[hbt];rfl);exact this) rfl)
 ·rw [hk] at hbt
  have hbt:byT c t=zia c t.l:=hbt
  have hci:=zgl ((zcn t).1 h.1).1 hk
  have hb:=h.2
  rw[qbl hk] at hb
  rw[hbt] at hA⊢
  rw[hk]
  refine zay rfl (zay rfl (zay rfl (zbe rfl ?_)))
  match hl:t.l,hci.1 with
  | x ::r,hr=>
   have hrne:r≠[]:=fun e=>by subst e;simp at hr
   rw[hl] at hcl hp hA hb hci hlen
   have hcr:CRL r:=(zeo r).2 fun y hy=>hcl y (List.mem_cons_of_mem _ hy)
   have hx:BO x:=⟨hcl x (by simp),by rw[tbL] at hb;omega⟩
   have htr:tbL r≤4000:=by rw[tbL] at hb;omega
   have hpr:(zap (x::r)).length=(pre x).length+(zap r).length:=by rw[zap,List.length_append]
   have hkr: ∀y∈r,y.k≠1∧y.k≠3:=fun y hy=>hci.2 y (List.mem_cons_of_mem _ hy)
   obtain⟨e1,e2,e3,e4⟩:=zsi hcr hkr (by omega)
   have hsub:sub (x::r) (1:Int) ((x::r).length:Int)=r:=by simp[sub]
   have hj:=zmi 3 r
   have hrs:(pre (zlc r)).length≤(zap r).length+1:=by rw[e1];exact zmi 3 r
   rw[z9k] at hA⊢
   refine zq (by simp;omega) (zq (by rw[hsub];omega) (zai fun x6 h6=> ?_))
   rw[hsub] at h6
   subst h6
   refine zq (by simp) (zai fun x7 h7=> ?_)
   have h7:x=x7:=h7
   subst h7
   have hA1: ∀i y,(byT c x)[i]? =some y→zli A (k+i) y (zlc r)=some (k+i+1):=fun i y hy=>by
    have hy2:=(qmh hx (List.mem_of_getElem? hy)).1
    have:=zif hy2
    refine z9t (by omega) (hA i _ ?_)
    have hl1:=(List.getElem?_eq_some_iff.1 hy).1
    rw[List.getElem?_append_left (by simpa using hl1),List.getElem?_map,hy];rfl
   refine zq ⟨by omega,hx⟩ (znz hA1 (zq (by simp) (zai fun x8 h8=> ?_)))
   have h8:x=x8:=h8
   subst h8
   refine zq ⟨by omega,hx.1⟩ (zai fun x9 h9=> ?_)
   cases x9 with
   |false=>rw[h9];simp
   | true=>
    rw[h9] at hA⊢
    simp only[cond_true] at hA⊢
    have hbr:=qlb (c:=c) hcr hkr htr hrne
    have hsz:(pre (zlc r)).length<n:=by
     match r,hrne,e1 with
     |[z],_,e1=>rw[e1,zja];simp only[zap,List.append_nil] at hpr hp;rw[List.length_append] at hp;have:=zjg x;omega
     |z::z2::q,_,e1=>have:=zjg x;omega
    refine zq ⟨hsz,e2,by omega⟩ (znz (fun i y hy=> ?_) ?_)
    ·rw[hbr] at hy
     have:=hA ((byT c x).length+i) y (by rw[List.getElem?_append_right (by simp),List.length_map,Nat.add_sub_cancel_left];exact hy)
     rw[Nat.add_assoc];exact this
    ·rw[hbr,List.length_append,List.length_map,Nat.add_assoc]
 ·rw [hk] at hbt
  have hbt:byT c t=t.l.flatMap (byT c):=hbt
  rw[hk]
  refine zay rfl (zbe rfl ?_)
  rw[hbt] at hA⊢
  refine zew t.l.length (fun i=>((i:Int),k+((t.l.take i).flatMap (byT c)).length)) (by simp) (fun i hi=> ?_) ?_ (by omega)
  ·refine zbe (by simpa using hi) (zq (by simp only;omega) (zai fun x1 e1=> ?_))
   simp only at e1
   rw[zel hi] at e1
   have hm:x1∈t.l:=e1▸List.getElem_mem hi
   have hx:=zck hm
   have h1:=zue hm
   have h2:tbT t=max (1+(zap t.l).length) (zkj t.l):=z0a (by omega) (by omega)
   have hb:=h.2
   refine zq ⟨by omega,hcl x1 hm,by omega⟩ (znz (fun j y hy=> ?_) (zq (by simp only;omega) ?_))
   ·have:=hA _ y (zxo (byT c) t.l i hi j y (by rw[e1];exact hy))
    simp only;rw[Nat.add_assoc];exact this
   ·rw[List.take_succ_eq_append_getElem hi,List.flatMap_append,e1]
    simp[Nat.add_assoc]
  ·refine zay (by simp) ?_
   simp
 ·rw[hk] at hbt
  have hbt:byT c t=(z5b c t.l).map (fun x=>zlc [x,zmp (hdT t.l) t.mn t.mx]):=hbt
  obtain⟨z,e,hb,hz1,hz⟩:=z8r h.1 hk
  have hl:t.l=[z]:=by rw[e];rfl
  have hzb:BO z:=⟨hz,by have:=h.2;rw[qdc hk,hl,zkj] at this;omega⟩
  rw[hl,z5b,show hdT [z]=z from rfl] at hbt
  rw[hbt] at hA⊢
  rw[hk]
  have hbb:=(zib _ _).1 hb
  rw[hl] at hp⊢
  simp only[zap,List.append_nil] at hp
  refine zay rfl (zay rfl (zbe rfl (zcb (bif t.mx != -1 then t.mx-1 else t.mx) ?_ ?_)))
  ·refine z7o (fun h1=>zq (by omega) (by rw[h1];rfl)) (fun h1=>by rw[h1];rfl)
  ·refine zq (by simp) (zai fun x3 h3=>zq (by simp) (zai fun x4 h4=> ?_))
   have h3:z=x3:=h3
   have h4:z=x4:=h4
   subst h3 h4
   refine zq (by omega) (zq (by omega) (zai fun x5 h5=> ?_))
   have h5:zmp z t.mn t.mx=x5:=h5
   subst h5
   obtain⟨b1,b2,b3,b4⟩:=qda hz (by omega) hz1 hb
   refine zq ⟨by omega,hzb⟩ (znz (fun i y hy=> ?_) (by rw[List.length_map]))
   have hy2:=(qmh hzb (List.mem_of_getElem? hy)).1
   have:=zif hy2
   refine z9t (by omega) (hA i _ ?_)
   rw[List.getElem?_map,hy];rfl
 ·rw[hk] at hbt;rw[hbt,hk];rfl
theorem qok: ∀(n:Nat) (t:Tr) (c:Nat),c<256→((pre t).length<n∧BO t)→ByC t (c:Int)
 |0,t,c,_,h=>absurd h.1 (Nat.not_lt_zero _)
 | n+1,t,c,hc,h=>fun G g cv k hG ho eg hR=>by
  rw[Int.toNat_natCast] at hR⊢
  exact by_sh 4002 n (fun i y=>Rnd Tryz.prog G g cv i [.agg (Enc.cells y)]) k t (c:Int) _ (fun x hx=>qok n x c hc hx) (by_eq (by decide) n k t c hc h.1 h.2 hR) G g cv hG ho eg (fun i y hy=>hy)
theorem k_by (t:Tr)(c:Nat)(hc:c<256)(h:BO t):ByC t (c:Int):=qok 4001 t c hc ⟨by have:=zif h;omega,h⟩
end Go.Ab
