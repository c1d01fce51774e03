import Derived.Test.YtnoccnalocdldaaDoorZdMp
set_option linter.all false
set_option maxRecDepth 100000
set_option maxHeartbeats 4000000
namespace Go.Ab
open Go Go.RowKit Go.Fwd Go.Proofs
def z0l (d w p:BS)(c:UInt8):BS×Bool:=if c=100 then(d,true) else if c=119 then(w,true) else if c=115 then(p,true) else(0#256,false)
def miS:MI:=⟨0,[(0,27,false),(8,32,true)],[(2,.int .u8 100,28),(4,.int .u8 119,29),(7,.int .u8 115,31)],[]⟩
theorem z5i {P:Program} {w:World} {t kt et:TypeId} {ie:TypeInfo} {z:Value} {m c:Nat} {es:Array MapEntry} {k:Int} (hu:P.underlying t=some (.map kt et))(hk:P.underlying kt=some (.int .u8))(hb:w.heap[m]? =some (.map es c)):
 (∀ {v:Value} {j:Nat},Instr.findNow (.int .u8) (.int .u8 k) es.toList 0=some (some (j,v))→(Instr.lookup t (.map (some m)) (.int .u8 k) true).run P w= .ok (.tuple #[v,.bool true]) w)∧
 (Instr.findNow (.int .u8) (.int .u8 k) es.toList 0=some none→(zeroValue et).run P w= .ok z w→(Instr.lookup t (.map (some m)) (.int .u8 k) true).run P w= .ok (.tuple #[z,.bool false]) w):=by
 refine⟨fun {v j} hf=> ?_,fun hf hz=> ?_⟩
 ·unfold Instr.lookup
  simp only[Sem.run_bind,run_underlying hu,Result.andThen_ok,MapKept.run_getObj_map hb,Sem.run_pure,MapKept.run_checkKey hk (k:= .int .u8 k) rfl,MapKept.run_findKey hk hf]
  rfl
 ·unfold Instr.lookup
  simp only[Sem.run_bind,run_underlying hu,Result.andThen_ok,MapKept.run_getObj_map hb,Sem.run_pure,MapKept.run_checkKey hk (k:= .int .u8 k) rfl,MapKept.run_findKey hk hf,hz]
  rfl
theorem z8l {X:Cx} {m c:Nat} {es:Array MapEntry} {x2 x8 x9:BS} {x10:UInt8} {x11:BS×Bool} {R:Value→Prop} (hu:Tryd.prog.underlying 90=some (.map 5 27))(hk:Tryd.prog.underlying 5=some (.int .u8))(hz:(zeroValue 27).run Tryd.prog X.w= .ok (.agg #[.int .u64 0,.int .u64 0,.int .u64 0,.int .u64 0]) X.w)(hm:X.w.heap[m]? =some (.map es c))
 (hk3: ∀e∈es.toList,(e.key= .int .u8 100∧Rep (ITP Tryd.prog) X (.agg (Enc.cells x2)) e.val)∨(e.key= .int .u8 119∧Rep (ITP Tryd.prog) X (.agg (Enc.cells x8)) e.val)∨(e.key= .int .u8 115∧Rep (ITP Tryd.prog) X (.agg (Enc.cells x9)) e.val))
 (hall:(∃e∈es.toList,e.key= .int .u8 100)∧(∃e∈es.toList,e.key= .int .u8 119)∧ ∃e∈es.toList,e.key= .int .u8 115) (hx:z0l x2 x8 x9 x10=x11)
 (hR: ∀v,(Instr.lookup 90 (.map (some m)) (.int .u8 (((x10).toNat:Nat):Int)) true).run Tryd.prog X.w= .ok v X.w→R v): ∃v,R v∧Rep (ITP Tryd.prog) X (.tup [.agg (Enc.cells (x11.1:BS)),.raw (.bool x11.2)]) v:=by
 have rep: ∀(x:BS) (b:Bool) (u:Value),Rep (ITP Tryd.prog) X (.agg (Enc.cells x)) u→Rep (ITP Tryd.prog) X (.tup [.agg (Enc.cells x),.raw (.bool b)]) (.tuple #[u,.bool b]):=fun x b u h=>by
  rw[Rep]
  exact⟨[u,.bool b],rfl,u,[.bool b],rfl,h,.bool b,[],rfl,rfl,rfl⟩
 have hn: ∀k:Nat,x10=UInt8.ofNat k→k<256→(((x10).toNat:Nat):Int)=k:=fun k h hk=>by subst h;simp;omega
 have hsn: ∀e∈es.toList,∀k:Int,∃b,Instr.sameNow (.int .u8) (.int .u8 k) e.key=some b:=fun e he k=>by
  rcases hk3 e he with⟨h,_⟩|⟨h,_⟩|⟨h,_⟩<;>rw[h]<;>exact⟨_,rfl⟩
 have got: ∀(k:Int) (x:BS),(((x10).toNat:Nat):Int)=k→(∃e∈es.toList,e.key= .int .u8 k)→(∀e∈es.toList,e.key= .int .u8 k→Rep (ITP Tryd.prog) X (.agg (Enc.cells x)) e.val)→ ∃v,R v∧Rep (ITP Tryd.prog) X (.tup [.agg (Enc.cells x),.raw (.bool true)]) v:=fun k x hk0 hex hrep=>by
  obtain⟨e0,he0,hke⟩:=hex
  obtain⟨j,e,he,hs,hf⟩:=zyo (kd:= .int .u8) (k:= .int .u8 k) (l:=es.toList) (i:=0) (fun e he=>hsn e he k) ⟨e0,he0,by rw[hke];simp[Instr.sameNow]⟩
  have hke:e.key= .int .u8 k:=by
   rcases hk3 e he with⟨h,_⟩|⟨h,_⟩|⟨h,_⟩<;>rw[h] at hs⊢ <;>simp[Instr.sameNow] at hs<;>rw[hs]
  exact⟨.tuple #[e.val,.bool true],hR _ (by rw[hk0];exact(z5i (ie:=default) (z:=default) hu hk hm).1 hf),rep _ _ _ (hrep e he hke)⟩
 unfold z0l at hx
 split at hx
 ·rename_i h;subst hx
  exact got 100 x2 (hn 100 h (by decide)) hall.1 fun e he hke=>by
   rcases hk3 e he with⟨_,h⟩|⟨h,_⟩|⟨h,_⟩
   ·exact h
   ·rw[h] at hke;cases hke
   ·rw[h] at hke;cases hke
 ·rename_i n1
  split at hx
  ·rename_i h;subst hx
   exact got 119 x8 (hn 119 h (by decide)) hall.2.1 fun e he hke=>by
    rcases hk3 e he with⟨h,_⟩|⟨_,h⟩|⟨h,_⟩
    ·rw[h] at hke;cases hke
    ·exact h
    ·rw[h] at hke;cases hke
  ·rename_i n2
   split at hx
   ·rename_i h;subst hx
    exact got 115 x9 (hn 115 h (by decide)) hall.2.2 fun e he hke=>by
     rcases hk3 e he with⟨h,_⟩|⟨h,_⟩|⟨_,h⟩
     ·rw[h] at hke;cases hke
     ·rw[h] at hke;cases hke
     ·exact h
   ·rename_i n3;subst hx
    have ne: ∀k:Nat,k<256→x10≠UInt8.ofNat k→ ¬(((x10).toNat:Nat):Int)=(k:Int):=fun k hk h h2=>h (by
     have:x10.toNat=k:=by omega
     rw[←this];simp)
    have hnone:Instr.findNow (.int .u8) (.int .u8 (((x10).toNat:Nat):Int)) es.toList 0=some none:=ztl fun e he=>by
     rcases hk3 e he with⟨h,_⟩|⟨h,_⟩|⟨h,_⟩<;>rw[h]<;>simp only[z0x,Instr.sameNow,if_true,Option.some.injEq,beq_eq_false_iff_ne,ne_eq]
     ·exact ne 100 (by decide) n1
     ·exact ne 119 (by decide) n2
     ·exact ne 115 (by decide) n3
    refine⟨_,hR _ ((z5i (ie:=default) hu hk hm).2 hnone hz),rep _ _ _ ?_⟩
    rw[Rep]
    have hc:(Enc.cells (0#256:BS))=[.raw (.int .u64 0),.raw (.int .u64 0),.raw (.int .u64 0),.raw (.int .u64 0)]:=by kernel_rfl
    refine⟨[.int .u64 0,.int .u64 0,.int .u64 0,.int .u64 0],rfl,?_,by simp[Value.oneCell']⟩
    rw[hc]
    exact ziv [.int .u64 0,.int .u64 0,.int .u64 0,.int .u64 0]
theorem short5 (fuel:Nat)(s:List UInt8)(x1 x10:UInt8)(x2 x3 x4 x5 x6 x7 x8 x9:BS)(x11:BS×Bool)(hx9:zgt fuel ([9,10,13,32]:List UInt8)=some x9)(g:0≤(1:Int)∧(1:Int)<(List.length s:Int))(hx10:ix s (1:Int)=x10)(hx11:z0l x2 x8 x9 x10=x11) {id:Nat} {ops:Array Oper} (hops:(do let c ←Tryd.f26.body;zkf 5 c)=some ops):
 qel (ITP Tryd.prog) Tryd.prog (.region id ops true) (.raw (.string (bs s)):: .raw undef:: .ptr 0 0:: .raw (.bool false):: .ptr 1 0:: .ptr 2 0:: .raw undef:: .raw undef:: .raw (.string (bs s)):: .raw (.int .i64 (List.length s:Int)):: .raw (.bool (decide ((List.length s:Int)<2))):: .raw (.bool false):: .raw (.string (bs s)):: .raw (.int .u8 (((x1).toNat:Nat):Int)):: .raw (.bool ((((x1).toNat:Nat):Int) !=92)):: .raw (.bool ((((x1).toNat:Nat):Int) !=92)):: .raw undef:: .agg (Enc.cells (x2:BS)):: .agg (Enc.cells (x3:BS)):: .agg (Enc.cells (x4:BS)):: .agg (Enc.cells (x5:BS)):: .agg (Enc.cells (x2:BS)):: .list (List.length (([95]:List UInt8):List UInt8)) (Enc.cellsL (([95]:List UInt8):List UInt8)) .full:: .agg (Enc.cells (x6:BS)):: .agg (Enc.cells (x7:BS)):: .agg (Enc.cells (x8:BS)):: .raw undef:: .raw undef:: .raw undef:: .raw undef:: .raw undef:: .raw undef:: .raw undef:: .raw undef:: .raw undef:: .raw undef:: .raw undef:: .raw undef:: .raw undef:: .raw undef::[]) ⟨[(27,(Enc.cells (0#256:BS))),(27,(Enc.cells (x2:BS))),(27,(Enc.cells (x8:BS)))],[],[],0,false⟩ (.raw (.string (bs s)):: .raw undef:: .ptr 0 0:: .raw (.bool false):: .ptr 1 0:: .ptr 2 0:: .ptr 3 0:: .raw (.bool x11.2):: .raw (.string (bs s)):: .raw (.int .i64 (List.length s:Int)):: .raw (.bool (decide ((List.length s:Int)<2))):: .raw (.bool false):: .raw (.string (bs s)):: .raw (.int .u8 (((x1).toNat:Nat):Int)):: .raw (.bool ((((x1).toNat:Nat):Int) !=92)):: .raw (.bool ((((x1).toNat:Nat):Int) !=92)):: .raw undef:: .agg (Enc.cells (x2:BS)):: .agg (Enc.cells (x3:BS)):: .agg (Enc.cells (x4:BS)):: .agg (Enc.cells (x5:BS)):: .agg (Enc.cells (x2:BS)):: .list (List.length (([95]:List UInt8):List UInt8)) (Enc.cellsL (([95]:List UInt8):List UInt8)) .full:: .agg (Enc.cells (x6:BS)):: .agg (Enc.cells (x7:BS)):: .agg (Enc.cells (x8:BS)):: .tup [.agg (Enc.cells (x11.1:BS)),.raw (.bool x11.2)]:: .top:: .agg (Enc.cells (x2:BS)):: .agg (Enc.cells (x8:BS)):: .list (List.length (([9,10,13,32]:List UInt8):List UInt8)) (Enc.cellsL (([9,10,13,32]:List UInt8):List UInt8)) .full:: .agg (Enc.cells (x9:BS)):: .top:: .raw (.string (bs s)):: .raw (.int .u8 (((x10).toNat:Nat):Int)):: .tup [.agg (Enc.cells (x11.1:BS)),.raw (.bool x11.2)]:: .agg (Enc.cells (x11.1:BS)):: .raw (.bool x11.2):: .raw undef:: .raw undef::[]) ⟨[(27,(Enc.cells (0#256:BS))),(27,(Enc.cells (x2:BS))),(27,(Enc.cells (x8:BS))),(27,(Enc.cells (x11.1:BS)))],[],[],0,false⟩:=by
 cases hops
 refine sem_map (zn _) mix (sg:=sgL ⟨[(27,(Enc.cells (0#256:BS))),(27,(Enc.cells (x2:BS))),(27,(Enc.cells (x8:BS)))],[],[],0,false⟩ [(16,⟨[(27,(Enc.cells (0#256:BS))),(27,(Enc.cells (x2:BS))),(27,(Enc.cells (x8:BS))),(27,(Enc.cells (x11.1:BS)))],[],[],0,false⟩),(15,⟨[(27,(Enc.cells (0#256:BS))),(27,(Enc.cells (x2:BS))),(27,(Enc.cells (x8:BS))),(27,(Enc.cells (0#256:BS)))],[],[],0,false⟩)]) (vs:=[.top,.agg (Enc.cells (x2:BS)),.raw undef,.agg (Enc.cells (x8:BS)),.raw undef,.list (List.length (([9,10,13,32]:List UInt8):List UInt8)) (Enc.cellsL (([9,10,13,32]:List UInt8):List UInt8)) .full,.agg (Enc.cells (x9:BS)),.raw undef,.top,.raw (.string (bs s)),.raw (.int .u8 (((x10).toNat:Nat):Int)),.tup [.agg (Enc.cells (x11.1:BS)),.raw (.bool x11.2)],.tup [.agg (Enc.cells (x11.1:BS)),.raw (.bool x11.2)],.agg (Enc.cells (x11.1:BS)),.raw (.bool x11.2),.ptr 3 0,.raw undef,.raw (.bool x11.2)]) miS (fun hF=> ?_)
 have ci: ∀(i:Nat) (k:Int) (t:Nat) (q:Nat×Value×Nat),q∈miS.ins→(i,Value.int .u8 k,t)∈[((2:Nat),Value.int .u8 100,(28:Nat)),(4,.int .u8 119,29),(7,.int .u8 115,31)]→q=(i,Value.int .u8 k,t)∨(q.1≠i∧z0x (.int .u8) (.int .u8 k) q.2.1):=by
  intro i k t q hq h
  simp only[miS,List.mem_cons,List.not_mem_nil,or_false,Prod.mk.injEq,Value.int.injEq,true_and] at hq h
  rcases h with⟨rfl,rfl,rfl⟩|⟨rfl,rfl,rfl⟩|⟨rfl,rfl,rfl⟩<;>rcases hq with rfl|rfl|rfl<;>first|exact .inl rfl|exact .inr ⟨by decide,rfl⟩
 refine⟨qbx (zn _) hF rfl rfl rfl rfl (by simp[miS]) (by decide) (by decide) (by decide) (Nat.le_of_ble_eq_true rfl) (fun _=>rfl)|>fun h _=>h,d_l (zn _) hF rfl (qfg rfl (qfg rfl z8g)),?_⟩
 refine⟨fun ho=>znu (kd:= .int .u8) (j':=0) (tm:=27) (tv:=28) (f':=false) (zn _) hF rfl rfl rfl ho rfl rfl rfl (by decide) (by simp[miS]) (by simp[miS]) rfl (fun q hq=>ci 2 100 28 q hq (by simp)) (by decide) (by decide) (fun _=>rfl),d_l (zn _) hF rfl (qfg rfl (qfg rfl z8g)),?_⟩
 refine⟨fun ho=>znu (kd:= .int .u8) (j':=0) (tm:=27) (tv:=29) (f':=false) (zn _) hF rfl rfl rfl ho rfl rfl rfl (by decide) (by simp[miS]) (by simp[miS]) rfl (fun q hq=>ci 4 119 29 q hq (by simp)) (by decide) (by decide) (fun _=>rfl),d_q (zn _) hF (fun _=>zhr (α:=UInt8) (l:=([9,10,13,32]:List UInt8)) (cs:=[.raw (.int .u8 9),.raw (.int .u8 10),.raw (.int .u8 13),.raw (.int .u8 32)]) rfl rfl),?_⟩
 refine⟨d_c (zn _) hF (zjl fuel ([9,10,13,32]:List UInt8) x9 hx9),?_⟩
 refine⟨fun ho=>znu (kd:= .int .u8) (j':=0) (tm:=27) (tv:=31) (f':=false) (zn _) hF rfl rfl rfl ho rfl rfl rfl (by decide) (by simp[miS]) (by simp[miS]) rfl (fun q hq=>ci 7 115 31 q hq (by simp)) (by decide) (by decide) (fun _=>rfl),?_⟩
 refine⟨fun ho=>du_mv (zn _) hF (t:=32) (t':=27) (j':=0) (f:=true) (f':=false) rfl rfl rfl ho (by decide) (by simp[miS]) (by simp[miS]) rfl (by decide) (by decide) (by decide) (Nat.le_of_ble_eq_true rfl) (fun _=>rfl) (fun _=>by kernel_rfl),?_⟩
 refine⟨d_q (zn _) hF (fun _=>rfl),d_q (zn _) hF (fun _=>by rw[←hx10];exact zdd (l:=s) (n:=(1:Int)) g rfl rfl rfl rfl),?_⟩
 refine⟨fun ho=>du_look (zn _) hF (tm:=32) (j':=8) rfl (fun c hc=>by cases hc) ho rfl (by simp[miS]) rfl (by decide) (fun _=>rfl) ?_,?_⟩
 ·intro X a m c es hm hev hr hent hall
  have h34:a.eval (.tmp 34)= .int .u8 (((x10).toNat:Nat):Int):=hr (.tmp 34) (by simp[Op.operands])
  have hk3: ∀e∈es.toList,(e.key= .int .u8 100∧Rep (ITP Tryd.prog) X (.agg (Enc.cells x2)) e.val)∨(e.key= .int .u8 119∧Rep (ITP Tryd.prog) X (.agg (Enc.cells x8)) e.val)∨(e.key= .int .u8 115∧Rep (ITP Tryd.prog) X (.agg (Enc.cells x9)) e.val):=fun e he=>by
   obtain⟨q,hq,q1,q2⟩:=hent e he
   simp only[miS,List.mem_cons,List.not_mem_nil,or_false] at hq
   rcases hq with rfl|rfl|rfl
   ·exact .inl ⟨q1,q2⟩
   ·exact .inr (.inl ⟨q1,q2⟩)
   ·exact .inr (.inr ⟨q1,q2⟩)
  have hall3:(∃e∈es.toList,e.key= .int .u8 100)∧(∃e∈es.toList,e.key= .int .u8 119)∧ ∃e∈es.toList,e.key= .int .u8 115:=⟨hall (2,.int .u8 100,28) (by simp[miS]),hall (4,.int .u8 119,29) (by simp[miS]),hall (7,.int .u8 115,31) (by simp[miS])⟩
  exact z8l (by kernel_rfl) (by kernel_rfl) (by kernel_rfl) hm hk3 hall3 hx11 (fun v hv=>by
   show(execOp a.eval _).run Tryd.prog X.w=_
   simp only[execOp,hev,h34,Sem.run_bind,hv]
   rfl)
 refine⟨d_q (zn _) hF (fun _=>rfl),d_q (zn _) hF (fun _=>rfl),d_q (zn _) hF (fun _=>rfl),?_⟩
 refine⟨d_s (zn _) hF (fun d h1 h2 h3=> ?_),d_s (zn _) hF (fun d h1 h2 h3=> ?_),d_q (zn _) hF (fun _=>rfl),trivial⟩
 ·have h16:=h2 16 (by kernel_rfl)
  simp only[sgL,h16,h1,zdu,zbm (show(16:Nat)≠15 by decide),cond_false,cond_true]
  rfl
 ·have h15:=h3 15 (by kernel_rfl)
  simp only[sgL,h15,h1,zdu,cond_false,cond_true]
  rfl
def zwn (fuel:Nat)(s:(List UInt8)):Option (BS×Bool):=
 (bif (decide ((List.length s:Int)<2)) then(some (0#256,false)) else(chk (0≤(0:Int)∧(0:Int)<(List.length s:Int)) (zbi (ix s (0:Int)) (fun x1=>(bif ((((x1).toNat:Nat):Int) !=92) then(some (0#256,false)) else(zar (zdm fuel 48 57) (fun x2=>(zar (zdm fuel 97 122) (fun x3=>(zar (zdm fuel 65 90) (fun x4=>(zbi (x3|||x4) (fun x5=>(zar (zgt fuel ([95]:List UInt8)) (fun x6=>(zbi (x2|||x6) (fun x7=>(zbi (x5|||x7) (fun x8=>(zar (zgt fuel ([9,10,13,32]:List UInt8)) (fun x9=>(chk (0≤(1:Int)∧(1:Int)<(List.length s:Int)) (zbi (ix s (1:Int)) (fun x10=>(zbi (z0l x2 x8 x9 x10) (fun x11=>some x11))))))))))))))))))))))))))
theorem ent26:Ent Tryd.prog 26:=enters_of Tryd.func26 (by kernel_rfl) rfl
theorem qip (fuel:Nat)(s:(List UInt8))(r:(BS×Bool))(h:zwn fuel s=some r):Pure (ITP Tryd.prog) Tryd.prog 26 [.raw (.string (bs s))] (.tup [.agg (Enc.cells (r.1:BS)),.raw (.bool r.2)]):=by
 obtain⟨d,hd⟩: ∃d,Tryd.f26.body=some d:=⟨_,rfl⟩
 refine zik mix Tryd.func26 hd ent26 ?_
 cases hd
 unfold zwn at h
 refine zbj (by dsimp only[zat,Tryd.f26,List.length_cons,List.length_nil,Nat.zero_add,Nat.reduceAdd,Nat.reduceSub,List.replicate,List.cons_append,List.nil_append]) (by dsimp only[St.empty]) ?_
 refine zi (zc ?_)
 refine zfs (a:= .ptr 0 0) (σ'':=⟨[(27,(Enc.cells (0#256:BS)))],[],[],0,false⟩) rfl rfl rfl rfl (by dsimp only[zy,List.set]) rfl ?_
 refine zhw (a:= .raw (.bool false)) rfl rfl rfl rfl (by dsimp only[zy,List.set]) ?_
 refine zi ?_
 refine zi (zc ?_)
 refine zac ?_
 refine zhw (a:= .raw (.int .i64 (List.length s:Int))) rfl rfl rfl (zbb (zdv rfl rfl rfl)) (by dsimp only[zy,List.set]) ?_
 refine zhw (a:= .raw (.bool (decide ((List.length s:Int)<2)))) rfl rfl rfl rfl (by dsimp only[zy,List.set]) ?_
 refine zaa h (fun hc1 h=> ?_) (fun hc1 h=> ?_)
 ·
  refine zhw (a:= .raw (.bool true)) rfl rfl rfl (zbb (zeh rfl hc1)) (by dsimp only[zy,List.set]) ?_
  refine z1h rfl rfl (by decide) (by dsimp only[zy,List.set]) ?_
  refine z1h rfl rfl (by decide) (by dsimp only[zy,List.set]) ?_
  refine z1h rfl rfl (by decide) (by dsimp only[zy,List.set]) ?_
  refine zhw (a:= .raw (.bool true)) rfl rfl rfl rfl (by dsimp only[zy,List.set]) ?_
  refine zbf rfl ?_
  refine zi (zc ?_)
  refine zhw (a:= .agg (Enc.cells (0#256:BS))) rfl rfl rfl rfl (by dsimp only[zy,List.set]) ?_
  refine zfs (σ'':=⟨[(27,(Enc.cells (0#256:BS)))],[],[],0,false⟩) rfl rfl rfl (zaz (n:=4) rfl rfl rfl rfl rfl rfl rfl rfl (by decide)) (by dsimp only[zy,List.set]) rfl ?_
  refine zhw (a:= .raw (.bool false)) rfl rfl rfl rfl (by dsimp only[zy,List.set]) ?_
  exact zdy (fun(r:(BS×Bool))=>(.tup [.agg (Enc.cells (r.1:BS)),.raw (.bool r.2)]:AV)) h (a:= .tup [.agg (Enc.cells (0#256:BS)),.raw (.bool false)]) rfl (show zad _ _=true from(za (zam _ _ (zab (Enc.clo _))) (za rfl rfl))) (show AV.tup (stripL _)=_ from congrArg AV.tup (zh (zbu (zab (Enc.clo _))) (zh rfl rfl)))
 ·
  refine zhw (a:= .raw (.bool false)) rfl rfl rfl (zbb (zeh rfl hc1)) (by dsimp only[zy,List.set]) ?_
  refine zan rfl rfl ?_
  refine zac ?_
  refine zan rfl rfl ?_
  obtain⟨g1,h⟩:=zp h
  obtain⟨x1,hx1,h⟩:=zt h
  refine zhw (a:= .raw (.int .u8 (((x1).toNat:Nat):Int))) rfl rfl rfl (zbb (by rw[←hx1];exact(zdd (l:=s) (n:=(0:Int)) g1 rfl rfl rfl rfl))) (by dsimp only[zy,List.set]) ?_
  refine zan rfl rfl ?_
  refine zhw (a:= .raw (.bool ((((x1).toNat:Nat):Int) !=92))) rfl rfl rfl rfl (by dsimp only[zy,List.set]) ?_
  refine zhw (a:= .raw (.bool ((((x1).toNat:Nat):Int) !=92))) rfl rfl rfl rfl (by dsimp only[zy,List.set]) ?_
  refine zaa h (fun hc2 h=> ?_) (fun hc2 h=> ?_)
  ·
   refine zbw hc2 rfl ?_
   refine zi (zc ?_)
   refine zhw (a:= .agg (Enc.cells (0#256:BS))) rfl rfl rfl rfl (by dsimp only[zy,List.set]) ?_
   refine zfs (σ'':=⟨[(27,(Enc.cells (0#256:BS)))],[],[],0,false⟩) rfl rfl rfl (zaz (n:=4) rfl rfl rfl rfl rfl rfl rfl rfl (by decide)) (by dsimp only[zy,List.set]) rfl ?_
   refine zhw (a:= .raw (.bool false)) rfl rfl rfl rfl (by dsimp only[zy,List.set]) ?_
   exact zdy (fun(r:(BS×Bool))=>(.tup [.agg (Enc.cells (r.1:BS)),.raw (.bool r.2)]:AV)) h (a:= .tup [.agg (Enc.cells (0#256:BS)),.raw (.bool false)]) rfl (show zad _ _=true from(za (zam _ _ (zab (Enc.clo _))) (za rfl rfl))) (show AV.tup (stripL _)=_ from congrArg AV.tup (zh (zbu (zab (Enc.clo _))) (zh rfl rfl)))
  ·
   refine zbv hc2 rfl ?_
   refine zi (zc ?_)
   obtain⟨x2,hx2,h⟩:=zv h
   refine zct (args':=[.raw (.int .u8 48),.raw (.int .u8 57)]) (r:= .agg (Enc.cells (x2:BS))) (zjx fuel 48 57 x2 hx2) rfl rfl (zh rfl (zh rfl rfl)) (za rfl (za rfl rfl)) (by dsimp only[zy,List.set]) ?_
   refine zfs (a:= .ptr 1 0) (σ'':=⟨[(27,(Enc.cells (0#256:BS))),(27,(Enc.cells (0#256:BS)))],[],[],0,false⟩) rfl rfl rfl rfl (by dsimp only[zy,List.set]) rfl ?_
   refine zfs (σ'':=⟨[(27,(Enc.cells (0#256:BS))),(27,(Enc.cells (x2:BS)))],[],[],0,false⟩) rfl rfl rfl (zaz (n:=4) rfl rfl rfl rfl rfl rfl rfl rfl (by decide)) (by dsimp only[zy,List.set]) rfl ?_
   refine zi ?_
   refine qeg (k0:=0) (id:=4) 9 (by kernel_rfl) (by kernel_rfl) ?_
   obtain⟨x3,hx3,h⟩:=zv h
   refine zmn (args':=[.raw (.int .u8 97),.raw (.int .u8 122)]) (r:= .agg (Enc.cells (x3:BS))) (zjx fuel 97 122 x3 hx3) rfl rfl rfl rfl (zh rfl (zh rfl rfl)) (za rfl (za rfl rfl)) (by dsimp only[zy,List.set]) ?_
   obtain⟨x4,hx4,h⟩:=zv h
   refine zmn (args':=[.raw (.int .u8 65),.raw (.int .u8 90)]) (r:= .agg (Enc.cells (x4:BS))) (zjx fuel 65 90 x4 hx4) rfl rfl rfl rfl (zh rfl (zh rfl rfl)) (za rfl (za rfl rfl)) (by dsimp only[zy,List.set]) ?_
   obtain⟨x5,hx5,h⟩:=zt h
   refine zmn (args':=[.agg (Enc.cells (x3:BS)),.agg (Enc.cells (x4:BS))]) (r:= .agg (Enc.cells (x5:BS))) (by rw[←hx5];exact(qgk x3 x4)) rfl rfl rfl rfl (zh (zbu (zab (Enc.clo _))) (zh (zbu (zab (Enc.clo _))) rfl)) (za (zam _ _ (zab (Enc.clo _))) (za (zam _ _ (zab (Enc.clo _))) rfl)) (by dsimp only[zy,List.set]) ?_
   refine zqy (a:= .agg (Enc.cells (x2:BS))) rfl rfl rfl rfl rfl (by dsimp only[zy,List.set]) ?_
   refine zqy (a:= .list (List.length (([95]:List UInt8):List UInt8)) (Enc.cellsL (([95]:List UInt8):List UInt8)) .full) rfl rfl rfl rfl (zhr (α:=UInt8) (l:=([95]:List UInt8)) (cs:=[.raw (.int .u8 95)]) rfl rfl) (by dsimp only[zy,List.set]) ?_
   obtain⟨x6,hx6,h⟩:=zv h
   refine zmn (args':=[.list (List.length (([95]:List UInt8):List UInt8)) (Enc.cellsL (([95]:List UInt8):List UInt8)) .none]) (r:= .agg (Enc.cells (x6:BS))) (zjl fuel ([95]:List UInt8) x6 hx6) rfl rfl rfl rfl (zh (zjw (Enc.cloL _)) rfl) (za (zcl (Enc.cloL _)) rfl) (by dsimp only[zy,List.set]) ?_
   obtain⟨x7,hx7,h⟩:=zt h
   refine zmn (args':=[.agg (Enc.cells (x2:BS)),.agg (Enc.cells (x6:BS))]) (r:= .agg (Enc.cells (x7:BS))) (by rw[←hx7];exact(qgk x2 x6)) rfl rfl rfl rfl (zh (zbu (zab (Enc.clo _))) (zh (zbu (zab (Enc.clo _))) rfl)) (za (zam _ _ (zab (Enc.clo _))) (za (zam _ _ (zab (Enc.clo _))) rfl)) (by dsimp only[zy,List.set]) ?_
   obtain⟨x8,hx8,h⟩:=zt h
   refine zmn (args':=[.agg (Enc.cells (x5:BS)),.agg (Enc.cells (x7:BS))]) (r:= .agg (Enc.cells (x8:BS))) (by rw[←hx8];exact(qgk x5 x7)) rfl rfl rfl rfl (zh (zbu (zab (Enc.clo _))) (zh (zbu (zab (Enc.clo _))) rfl)) (za (zam _ _ (zab (Enc.clo _))) (za (zam _ _ (zab (Enc.clo _))) rfl)) (by dsimp only[zy,List.set]) ?_
   refine qjn _ rfl rfl rfl rfl rfl rfl (by dsimp only[List.set]) ?_
   refine z4o (n:=2) rfl (show _=(⟨[(27,(Enc.cells (0#256:BS))),(27,(Enc.cells (x2:BS))),(27,(Enc.cells (0#256:BS)))],[],[],0,false⟩:St) from rfl) (by dsimp only[List.nil_append,List.cons_append,zmh,List.set,Nat.reduceAdd]) ?_
   refine zfs (σ'':=⟨[(27,(Enc.cells (0#256:BS))),(27,(Enc.cells (x2:BS))),(27,(Enc.cells (x8:BS)))],[],[],0,false⟩) rfl rfl rfl (zaz (n:=4) rfl rfl rfl rfl rfl rfl rfl rfl (by decide)) (by dsimp only[zy,List.set]) rfl ?_
   obtain⟨x9,hx9,h⟩:=zv h
   obtain⟨g2,h⟩:=zp h
   obtain⟨x10,hx10,h⟩:=zt h
   obtain⟨x11,hx11,h⟩:=zt h
   refine qew (.raw (.string (bs s)):: .raw undef:: .ptr 0 0:: .raw (.bool false):: .ptr 1 0:: .ptr 2 0:: .ptr 3 0:: .raw (.bool x11.2):: .raw (.string (bs s)):: .raw (.int .i64 (List.length s:Int)):: .raw (.bool (decide ((List.length s:Int)<2))):: .raw (.bool false):: .raw (.string (bs s)):: .raw (.int .u8 (((x1).toNat:Nat):Int)):: .raw (.bool ((((x1).toNat:Nat):Int) !=92)):: .raw (.bool ((((x1).toNat:Nat):Int) !=92)):: .raw undef:: .agg (Enc.cells (x2:BS)):: .agg (Enc.cells (x3:BS)):: .agg (Enc.cells (x4:BS)):: .agg (Enc.cells (x5:BS)):: .agg (Enc.cells (x2:BS)):: .list (List.length (([95]:List UInt8):List UInt8)) (Enc.cellsL (([95]:List UInt8):List UInt8)) .full:: .agg (Enc.cells (x6:BS)):: .agg (Enc.cells (x7:BS)):: .agg (Enc.cells (x8:BS)):: .tup [.agg (Enc.cells (x11.1:BS)),.raw (.bool x11.2)]:: .top:: .agg (Enc.cells (x2:BS)):: .agg (Enc.cells (x8:BS)):: .list (List.length (([9,10,13,32]:List UInt8):List UInt8)) (Enc.cellsL (([9,10,13,32]:List UInt8):List UInt8)) .full:: .agg (Enc.cells (x9:BS)):: .top:: .raw (.string (bs s)):: .raw (.int .u8 (((x10).toNat:Nat):Int)):: .tup [.agg (Enc.cells (x11.1:BS)),.raw (.bool x11.2)]:: .agg (Enc.cells (x11.1:BS)):: .raw (.bool x11.2):: .raw undef:: .raw undef::[]) ⟨[(27,(Enc.cells (0#256:BS))),(27,(Enc.cells (x2:BS))),(27,(Enc.cells (x8:BS))),(27,(Enc.cells (x11.1:BS)))],[],[],0,false⟩ (short5 fuel s x1 x10 x2 x3 x4 x5 x6 x7 x8 x9 x11 hx9 g2 hx10 hx11 rfl) ?_
   refine zi (zc ?_)
   refine zhw (a:= .agg (Enc.cells (x11.1:BS))) rfl rfl rfl rfl (by dsimp only[zy,List.set]) ?_
   refine zac ?_
   refine zfs (σ'':=⟨[(27,(Enc.cells (x11.1:BS))),(27,(Enc.cells (x2:BS))),(27,(Enc.cells (x8:BS))),(27,(Enc.cells (x11.1:BS)))],[],[],0,false⟩) rfl rfl rfl (zaz (n:=4) rfl rfl rfl rfl rfl rfl rfl rfl (by decide)) (by dsimp only[zy,List.set]) rfl ?_
   refine zac ?_
   exact zdy (fun(r:(BS×Bool))=>(.tup [.agg (Enc.cells (r.1:BS)),.raw (.bool r.2)]:AV)) h (a:= .tup [.agg (Enc.cells (x11.1:BS)),.raw (.bool x11.2)]) rfl (show zad _ _=true from(za (zam _ _ (zab (Enc.clo _))) (za rfl rfl))) (show AV.tup (stripL _)=_ from congrArg AV.tup (zh (zbu (zab (Enc.clo _))) (zh rfl rfl)))
def lowS:BS:=BitVec.ofNat 256 10633823807823001954701781295154855936
def uppS:BS:=BitVec.ofNat 256 2475880041677272402379145216
def underS:BS:=BitVec.ofNat 256 39614081257132168796771975168
theorem qfn (l:List UInt8):zwn 100 l=some (zqf l):=by
 have h1:zdm 100 48 57=some digS:=by decide+kernel
 have h2:zdm 100 97 122=some lowS:=by decide+kernel
 have h3:zdm 100 65 90=some uppS:=by decide+kernel
 have h4:zgt 100 ([95]:List UInt8)=some underS:=by decide+kernel
 have h5:zgt 100 ([9,10,13,32]:List UInt8)=some spcS:=by decide+kernel
 have h6:(lowS|||uppS)|||(digS|||underS)=wrdS:=by decide+kernel
 unfold zwn
 match l with
 |[]=>rfl
 |[a]=>rfl
 | a ::b::t=>
  refine bif_i (fun hc=>by simp only[List.length_cons,decide_eq_true_eq] at hc;omega) (fun _=> ?_)
  refine zae ⟨by decide,by simp only[List.length_cons];omega⟩ ?_
  refine zap (fun x1 hx1=> ?_)
  have hx1:a=x1:=hx1
  subst hx1
  refine bif_i (fun hc=> ?_) (fun hc=> ?_)
  ·have hn:a≠92:=fun e=>by subst e;simp at hc
   simp[zqf,hn]
  ·have ha:a=92:=by
    simp only[bne_eq_false_iff_eq] at hc
    exact UInt8.toNat_inj.1 (show a.toNat=92 by omega)
   subst ha
   refine zbq _ h1 (zbq _ h2 (zbq _ h3 (zap fun x5 e5=>zbq _ h4 (zap fun x7 e7=>zap fun x8 e8=>zbq _ h5 (zae ⟨by decide,by simp only[List.length_cons];omega⟩ (zap fun x10 e10=>zap fun x11 e11=> ?_))))))
   have e10:b=x10:=e10
   subst e5 e7 e10
   have e8:wrdS=x8:=h6.symm.trans e8
   subst e8 e11
   simp[zqf,z0l]
theorem qbc (l:List UInt8):Pure (ITP Tryd.prog) Tryd.prog 26 [.raw (.string (bs l))] (.tup [.agg (Enc.cells (zqf l).1),.raw (.bool (zqf l).2)]):=qip 100 l _ (qfn l)
end Go.Ab
