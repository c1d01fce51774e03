import Derived.Test.YtnoccnalocdldaaDoorZgRk
import Derived.Test.YtnoccnalocdldaaDoorZgR3
set_option linter.all false
set_option maxRecDepth 100000
set_option maxHeartbeats 4000000
set_option maxRecDepth 100000
set_option maxHeartbeats 4000000
namespace Go.Ab
@[reducible] def zzT:Bool:=true
@[reducible] def zzF:Bool:=false
open Go Go.RowKit Go.Fwd Go.Proofs
def zlc (at_:Int)(e:Int)(r:Rd):Option Rd:=
 (bif (r.e==0) then(some (Rd.mk r.s at_ e r.q)) else(some r))
theorem ent72:Ent Tryd.prog 72:=enters_of Tryd.func72 (by kernel_rfl) rfl
theorem zlq (at_:Int)(e:Int)(r:Rd)  (y:Rd)(h:zlc at_ e r=some y):RdC Tryd.prog 72 [.raw (.int .i64 at_),.raw (.int .i64 e)] r (.tup []) y:=by
 obtain⟨d,hd⟩: ∃d,Tryd.f72.body=some d:=⟨_,rfl⟩
 refine z7n mix Tryd.func72 hd ent72 (by first|rfl|exact(zoa rfl (zoa rfl rfl))) rfl (fun k0 hk0=> ?_)
 cases hd
 unfold zlc at h
 refine zbj (by dsimp only[zat,Tryd.f72,List.length_cons,List.length_nil,Nat.zero_add,Nat.reduceAdd,Nat.reduceSub,List.replicate,List.cons_append,List.nil_append]) (show rdS r.q r=⟨[(59,[.raw (.string (bs r.s)),.raw (.int .i64 r.a),.raw (.int .i64 r.e),(zbd 2 r.q)]),((zm r.q).1,[]),((zm r.q).1,(zm r.q).2)],[],[],0,false⟩ from rfl) ?_
 refine zi (zc ?_)
 refine zac ?_
 refine w_o (a:= .ptr 0 0) ?_
 refine w_o (a:= .ptr 0 2) ?_
 refine w_o (a:= .i r.e) ?_
 refine w_o (a:= .b (r.e==0)) ?_
 refine zaa h (fun hc1 h=> ?_) (fun hc1 h=> ?_)
 ·
  refine zbw hc1 rfl ?_
  refine zc (k0:=k0) (id:=1) ?_
  refine zac ?_
  refine zac ?_
  refine zac ?_
  refine zac ?_
  refine w_o (a:= .ptr 0 0) ?_
  refine w_o (a:= .ptr 0 1) ?_
  refine zcb (σ'':=(.B [(59,[.s r.s,.i at_,.i r.e,(zbd 2 r.q)]),((zm r.q).1,[]),((zm r.q).1,(zm r.q).2)])) (h:=zcr (n:=1) rfl rfl rfl rfl rfl ⟨rfl,rfl,Nat.le_of_ble_eq_true rfl,by decide⟩) ?_
  refine w_o (a:= .ptr 0 0) ?_
  refine w_o (a:= .ptr 0 2) ?_
  refine zcb (σ'':=(.B [(59,[.s r.s,.i at_,.i e,(zbd 2 r.q)]),((zm r.q).1,[]),((zm r.q).1,(zm r.q).2)])) (h:=zcr (n:=1) rfl rfl rfl rfl rfl ⟨rfl,rfl,Nat.le_of_ble_eq_true rfl,by decide⟩) ?_
  have he1:=Option.some.inj h
  subst he1
  exact qbk [2] 1 rfl rfl (by rw[zhc];rfl) (zay rfl (zb (zd _ _ _ rfl) (zb (zd _ _ _ rfl) (zb (zd _ _ _ rfl) (zb (zas (fun _=>rfl)) ze)))) ze (zj rfl (zu _ _ _) zao) rfl)
 ·
  refine zbv hc1 rfl ?_
  have he2:=Option.some.inj h
  subst he2
  exact qbk [2] 1 rfl rfl (by rw[zhc];rfl) (zay rfl (zb (zd _ _ _ rfl) (zb (zd _ _ _ rfl) (zb (zd _ _ _ rfl) (zb (zas (fun _=>rfl)) ze)))) ze (zj rfl (zu _ _ _) zao) rfl)
def zfz (r:Rd):Option (Int×Rd):=
 (bif (r.e !=0) then(some (0,r)) else(bif (decide (r.a≥(List.length r.s:Int))) then(some (0,r)) else(chk (0≤r.a∧r.a<(List.length r.s:Int)) (zbi (ix r.s r.a) (fun x1=>(some ((((x1).toNat:Nat):Int),r)))))))
theorem ent39:Ent Tryd.prog 39:=enters_of Tryd.func39 (by kernel_rfl) rfl
theorem zpe (r:Rd)  (y:Int×Rd)(h:zfz r=some y):RdC Tryd.prog 39 [] r (.raw (.int .u8 y.1)) y.2:=by
 obtain⟨d,hd⟩: ∃d,Tryd.f39.body=some d:=⟨_,rfl⟩
 refine z7n mix Tryd.func39 hd ent39 rfl (by first|rfl|exact rfl) (fun k0 hk0=> ?_)
 cases hd
 unfold zfz at h
 refine zbj (by dsimp only[zat,Tryd.f39,List.length_cons,List.length_nil,Nat.zero_add,Nat.reduceAdd,Nat.reduceSub,List.replicate,List.cons_append,List.nil_append]) (show rdS r.q r=⟨[(59,[.raw (.string (bs r.s)),.raw (.int .i64 r.a),.raw (.int .i64 r.e),(zbd 2 r.q)]),((zm r.q).1,[]),((zm r.q).1,(zm r.q).2)],[],[],0,false⟩ from rfl) ?_
 refine zi (zc ?_)
 refine w_o (a:= .u 0) ?_
 refine zi ?_
 refine zi ?_
 refine zid (k0:=k0) (id:=1) 15 (by kernel_rfl) (by kernel_rfl) ?_
 refine zjj ?_
 refine h_o (a:= .ptr 0 0) ?_
 refine h_o (a:= .ptr 0 2) ?_
 refine h_o (a:= .i r.e) ?_
 refine h_o (a:= .b (r.e !=0)) ?_
 refine zaa h (fun hc1 h=> ?_) (fun hc1 h=> ?_)
 ·
  refine h_o (a:= .b true) (h:=zeh rfl hc1) ?_
  refine zkl ?_
  refine zkl ?_
  refine zkl ?_
  refine zkl ?_
  refine zkl ?_
  refine zkl ?_
  refine zkl ?_
  refine zkl ?_
  refine zkl ?_
  refine ziy ?_
  refine zyc ?_
  refine w_o (a:= .b true) ?_
  refine zbf rfl ?_
  refine zi (zc ?_)
  refine w_o (a:= .u 0) ?_
  have he1:=Option.some.inj h
  subst he1
  exact zgc (a:= .u 0) [2] 1 rfl rfl (zd _ _ _ rfl) (zay rfl (zb (zd _ _ _ rfl) (zb (zd _ _ _ rfl) (zb (zd _ _ _ rfl) (zb (zas (fun _=>rfl)) ze)))) ze (zj rfl (zu _ _ _) zao) rfl)
 ·
  refine h_o (a:= .b false) (h:=zeh rfl hc1) ?_
  refine zgz rfl rfl ?_
  refine zjj ?_
  refine zgz rfl rfl ?_
  refine h_o (a:= .ptr 0 0) ?_
  refine zgz rfl rfl ?_
  refine h_o (a:= .ptr 0 1) ?_
  refine zgz rfl rfl ?_
  refine h_o (a:= .i r.a) ?_
  refine zgz rfl rfl ?_
  refine zjj ?_
  refine zgz rfl rfl ?_
  refine h_o (a:= .ptr 0 0) ?_
  refine zgz rfl rfl ?_
  refine h_o (a:= .ptr 0 0) ?_
  refine zgz rfl rfl ?_
  refine h_o (a:= .s r.s) ?_
  refine zgz rfl rfl ?_
  refine h_o (a:= .i (List.length r.s:Int)) (h:=zdv rfl rfl rfl) ?_
  refine ziy ?_
  refine zan rfl rfl ?_
  refine w_o (a:= .b (decide (r.a≥(List.length r.s:Int)))) ?_
  refine w_o (a:= .b (decide (r.a≥(List.length r.s:Int)))) ?_
  refine zaa h (fun hc2 h=> ?_) (fun hc2 h=> ?_)
  ·
   refine zbw hc2 rfl ?_
   refine zi (zc ?_)
   refine w_o (a:= .u 0) ?_
   have he2:=Option.some.inj h
   subst he2
   exact zgc (a:= .u 0) [2] 1 rfl rfl (zd _ _ _ rfl) (zay rfl (zb (zd _ _ _ rfl) (zb (zd _ _ _ rfl) (zb (zd _ _ _ rfl) (zb (zas (fun _=>rfl)) ze)))) ze (zj rfl (zu _ _ _) zao) rfl)
  ·
   refine zbv hc2 rfl ?_
   refine zi ?_
   refine zid (k0:=k0) (id:=3) 8 (by kernel_rfl) (by kernel_rfl) ?_
   refine zjj ?_
   refine h_o (a:= .ptr 0 0) ?_
   refine h_o (a:= .ptr 0 0) ?_
   refine h_o (a:= .s r.s) ?_
   refine zjj ?_
   refine h_o (a:= .ptr 0 0) ?_
   refine h_o (a:= .ptr 0 1) ?_
   refine h_o (a:= .i r.a) ?_
   refine ziy ?_
   obtain⟨g1,h⟩:=zp h
   obtain⟨x1,hx1,h⟩:=zt h
   refine w_o (a:= .u (((x1).toNat:Nat):Int)) (h:=zbb (by rw[←hx1];exact(zdd (l:=r.s) (n:=r.a) g1 rfl rfl rfl rfl))) ?_
   refine zac ?_
   have he3:=Option.some.inj h
   subst he3
   exact zgc (a:= .u (((x1).toNat:Nat):Int)) [2] 1 rfl rfl (zd _ _ _ rfl) (zay rfl (zb (zd _ _ _ rfl) (zb (zd _ _ _ rfl) (zb (zd _ _ _ rfl) (zb (zas (fun _=>rfl)) ze)))) ze (zj rfl (zu _ _ _) zao) rfl)
def zew (fuel:Nat)(n:Tr)(r:Rd):Option (Tr×Rd):=
 (bif (r.e !=0) then(some (zz,r)) else(chk (0≤r.a∧r.a≤(List.length r.s:Int)∧(List.length r.s:Int)≤(List.length r.s:Int)) (zbi (sub r.s r.a (List.length r.s:Int)) (fun x1=>(zar (z3q fuel x1) (fun x2=>(bif (x2.2.2.2 !=0) then(chk (-9223372036854775808≤(r.a+x2.2.2.1)∧(r.a+x2.2.2.1)<9223372036854775808) (zar (zlc (r.a+x2.2.2.1) x2.2.2.2 r) (fun x3=>(some (zz,x3))))) else(chk (-9223372036854775808≤(r.a+x2.2.2.1)∧(r.a+x2.2.2.1)<9223372036854775808) (zdr (τ:=Rd) (bif (decide (x2.2.2.1>0)) then(zar (zfz (Rd.mk r.s (r.a+x2.2.2.1) r.e r.q)) (fun x4=>(chk (0≤x4.1∧x4.1<256) (zbi (Lib.indexByte ([42,43,63,123]:List UInt8) (z1o x4.1)) (fun x5=>(bif (decide (x5≥0)) then(zar (zlc x4.2.a 92 x4.2) (fun x6=>(some (Sum.inl (x6))))) else(some (Sum.inl (x4.2))))))))) else(some (Sum.inl ((Rd.mk r.s (r.a+x2.2.2.1) r.e r.q))))) (fun j1=>(chk ((pre n).length<2^40) (zbi (zvg n x2.1 x2.2.1) (fun x7=>(some (x7,j1)))))))))))))))
theorem ent57:Ent Tryd.prog 57:=enters_of Tryd.func57 (by kernel_rfl) rfl
theorem zvh (fuel:Nat)(n:Tr)(r:Rd)  (y:Tr×Rd)(h:zew fuel n r=some y):RdC Tryd.prog 57 [.agg (Enc.cells (n:Tr))] r (.agg (Enc.cells (y.1:Tr))) y.2:=by
 obtain⟨d,hd⟩: ∃d,Tryd.f57.body=some d:=⟨_,rfl⟩
 refine z7n mix Tryd.func57 hd ent57 (by first|rfl|exact(zoa (zab (Enc.clo _)) rfl)) (by first|rfl|exact(zab (Enc.clo _))) (fun k0 hk0=> ?_)
 cases hd
 unfold zew at h
 refine zbj (by dsimp only[zat,Tryd.f57,List.length_cons,List.length_nil,Nat.zero_add,Nat.reduceAdd,Nat.reduceSub,List.replicate,List.cons_append,List.nil_append]) (show rdS r.q r=⟨[(59,[.raw (.string (bs r.s)),.raw (.int .i64 r.a),.raw (.int .i64 r.e),(zbd 2 r.q)]),((zm r.q).1,[]),((zm r.q).1,(zm r.q).2)],[],[],0,false⟩ from rfl) ?_
 refine zi (zc ?_)
 refine zcb (a:= .ptr 3 0) (σ'':=(.B [(59,[.s r.s,.i r.a,.i r.e,(zbd 2 r.q)]),((zm r.q).1,[]),((zm r.q).1,(zm r.q).2),(33,(Enc.cells (n:Tr)))])) ?_
 refine zcb (a:= .ptr 4 0) (σ'':=(.B [(59,[.s r.s,.i r.a,.i r.e,(zbd 2 r.q)]),((zm r.q).1,[]),((zm r.q).1,(zm r.q).2),(33,(Enc.cells (n:Tr))),(33,[.u 0,.raw (.int .u64 0),.raw (.int .u64 0),.raw (.int .u64 0),.raw (.int .u64 0),.i 0,.i 0,.list 0 [] .full])])) ?_
 refine zi ?_
 refine zi (zc ?_)
 refine zac ?_
 refine w_o (a:= .ptr 0 0) ?_
 refine w_o (a:= .ptr 0 2) ?_
 refine w_o (a:= .i r.e) ?_
 refine w_o (a:= .b (r.e !=0)) ?_
 refine zaa h (fun hc1 h=> ?_) (fun hc1 h=> ?_)
 ·
  refine zbw hc1 rfl ?_
  refine zi (zc ?_)
  refine zey (.A (zz:Tr)) (a0:=(zce zz .full)) rfl rfl rfl (by kernel_rfl) (zo _ _) (by dsimp only[zy,List.set]) ?_
  refine zcb (σ'':=(.B [(59,[.s r.s,.i r.a,.i r.e,(zbd 2 r.q)]),((zm r.q).1,[]),((zm r.q).1,(zm r.q).2),(33,(Enc.cells (n:Tr))),(33,(Enc.cells (zz:Tr)))])) (h:=zaz (n:=8) rfl rfl rfl rfl rfl rfl rfl rfl (by decide)) ?_
  have he1:=Option.some.inj h
  subst he1
  exact zgc (a:= .A (zz:Tr)) [2] 1 rfl rfl (zd _ _ _ (zab (Enc.clo _))) (zay rfl (zb (zd _ _ _ rfl) (zb (zd _ _ _ rfl) (zb (zd _ _ _ rfl) (zb (zas (fun _=>rfl)) ze)))) ze (zj rfl (zu _ _ _) zao) rfl)
 ·
  refine zbv hc1 rfl ?_
  refine zi ?_
  refine zid (k0:=k0) (id:=3) 18 (by kernel_rfl) (by kernel_rfl) ?_
  refine zjj ?_
  refine h_o (a:= .ptr 0 0) ?_
  refine h_o (a:= .ptr 0 0) ?_
  refine h_o (a:= .s r.s) ?_
  refine zjj ?_
  refine h_o (a:= .ptr 0 0) ?_
  refine h_o (a:= .ptr 0 1) ?_
  refine h_o (a:= .i r.a) ?_
  obtain⟨g1,h⟩:=zp h
  obtain⟨x1,hx1,h⟩:=zt h
  refine h_o (a:= .s x1) (h:=by rw[←hx1];exact(zmg (l:=r.s) g1 rfl rfl rfl rfl)) ?_
  obtain⟨x2,hx2,h⟩:=zv h
  refine qeb (args':=[.s x1]) (r:= .tup [.i x2.1,.i x2.2.1,.i x2.2.2.1,.i x2.2.2.2]) (qex fuel x1 x2 hx2) rfl rfl rfl (zh rfl rfl) (by kernel_rfl) (by dsimp only[zy,List.set]) ?_
  refine zjj ?_
  refine h_ex ?_
  refine h_ex ?_
  refine h_ex ?_
  refine h_ex ?_
  refine zjj ?_
  refine zjj ?_
  refine zjj ?_
  refine ziy ?_
  refine zac ?_
  refine zi ?_
  refine zi (zc ?_)
  refine zac ?_
  refine w_o (a:= .b (x2.2.2.2 !=0)) ?_
  refine zaa h (fun hc2 h=> ?_) (fun hc2 h=> ?_)
  ·
   refine zbw hc2 rfl ?_
   refine zgn (zc ?_)
   refine zac ?_
   refine zac ?_
   refine w_o (a:= .ptr 0 0) ?_
   refine w_o (a:= .ptr 0 1) ?_
   refine w_o (a:= .i r.a) ?_
   refine zac ?_
   obtain⟨g2,h⟩:=zp h
   refine w_o (a:= .i (r.a+x2.2.2.1)) (h:=zbb (znj rfl rfl rfl rfl g2.1 g2.2)) ?_
   refine zac ?_
   obtain⟨x3,hx3,h⟩:=zv h
   refine zgm (r:= .tup []) (σ':=(.B [(59,[.s x3.s,.i x3.a,.i x3.e,(zbd 5 x3.q)]),((zm r.q).1,[]),((zm r.q).1,[]),(33,(Enc.cells (n:Tr))),(33,[.u 0,.raw (.int .u64 0),.raw (.int .u64 0),.raw (.int .u64 0),.raw (.int .u64 0),.i 0,.i 0,.list 0 [] .full]),((zm x3.q).1,(zm x3.q).2)])) ((zlq (r.a+x2.2.2.1) x2.2.2.2 r x3 hx3) _ 2 (by decide) rfl rfl) rfl rfl ⟨rfl,rfl⟩ (by dsimp only[zy,List.set]) ?_
   refine zki (S':=[.top,.top,.top,.top,.ptr 4 0,.top,.top,.top,.top,.top,.top,.top,.top,.top,.top,.top,.top,.top,.top,.top,.top,.top,.top,.top,.top,.top,.top,.top,.top,.top,.top,.top,.top,.top,.top,.top,.top,.top,.top,.top,.top,.top,.top,.top,.top,.top,.top,.top,.top,.top,.top,.top,.top,.top,.top,.top,.top,.top,.top,.top,.top,.top,.top,.top,.top,.top,.top,.top]) (σ':=(.B [(59,[.s x3.s,.i x3.a,.i x3.e,(zbd 2 x3.q)]),((zm r.q).1,[]),((zm x3.q).1,(zm x3.q).2),(33,(Enc.cells (n:Tr))),(33,[.u 0,.raw (.int .u64 0),.raw (.int .u64 0),.raw (.int .u64 0),.raw (.int .u64 0),.i 0,.i 0,.list 0 [] .full])])) (zdo [zzF,zzF,zzF,zzF,zzT,zzF,zzF,zzF,zzF,zzF,zzF,zzF,zzF,zzF,zzF,zzF,zzF,zzF,zzF,zzF,zzF,zzF,zzF,zzF,zzF,zzF,zzF,zzF,zzF,zzF,zzF,zzF,zzF,zzF,zzF,zzF,zzF,zzF,zzF,zzF,zzF,zzF,zzF,zzF,zzF,zzF,zzF,zzF,zzF,zzF,zzF,zzF,zzF,zzF,zzF,zzF,zzF,zzF,zzF,zzF,zzF,zzF,zzF,zzF,zzF,zzF,zzF,zzF] 2 [] [5,3,4] 1 hk0 rfl (zah (zah (zah (zah (zai rfl (zk (zk (zk (zk (zk (zk (zk (zah (zah (zah (zah (zah (zah (zah zcu))))))))))))))))))) (zay rfl (zb (zd _ _ _ rfl) (zb (zd _ _ _ rfl) (zb (zd _ _ _ rfl) (zb (zas (fun _=>rfl)) ze)))) ze (zj rfl (zu _ _ _) (zj rfl (zau _ _ _ (Enc.clo _)) (zj rfl rfl zao))) rfl)) ?_
   refine zi (zc ?_)
   refine zey (.A (zz:Tr)) (a0:=(zce zz .full)) rfl rfl rfl (by kernel_rfl) (zo _ _) (by dsimp only[zy,List.set]) ?_
   refine zcb (σ'':=(.B [(59,[.s x3.s,.i x3.a,.i x3.e,(zbd 2 x3.q)]),((zm r.q).1,[]),((zm x3.q).1,(zm x3.q).2),(33,(Enc.cells (n:Tr))),(33,(Enc.cells (zz:Tr)))])) (h:=zaz (n:=8) rfl rfl rfl rfl rfl rfl rfl rfl (by decide)) ?_
   have he2:=Option.some.inj h
   subst he2
   exact zgc (a:= .A (zz:Tr)) [2] 1 rfl rfl (zd _ _ _ (zab (Enc.clo _))) (zay rfl (zb (zd _ _ _ rfl) (zb (zd _ _ _ rfl) (zb (zd _ _ _ rfl) (zb (zas (fun _=>rfl)) ze)))) ze (zj rfl (zu _ _ _) zao) rfl)
  ·
   refine zbv hc2 rfl ?_
   refine zi (zc ?_)
   refine zac ?_
   refine w_o (a:= .ptr 0 0) ?_
   refine w_o (a:= .ptr 0 1) ?_
   refine w_o (a:= .i r.a) ?_
   refine zac ?_
   obtain⟨g3,h⟩:=zp h
   refine w_o (a:= .i (r.a+x2.2.2.1)) (h:=zbb (znj rfl rfl rfl rfl g3.1 g3.2)) ?_
   refine w_o (a:= .ptr 0 0) ?_
   refine w_o (a:= .ptr 0 1) ?_
   refine zcb (σ'':=(.B [(59,[.s r.s,.i (r.a+x2.2.2.1),.i r.e,(zbd 2 r.q)]),((zm r.q).1,[]),((zm r.q).1,(zm r.q).2),(33,(Enc.cells (n:Tr))),(33,[.u 0,.raw (.int .u64 0),.raw (.int .u64 0),.raw (.int .u64 0),.raw (.int .u64 0),.i 0,.i 0,.list 0 [] .full])])) (h:=zcr (n:=1) rfl rfl rfl rfl rfl ⟨rfl,rfl,Nat.le_of_ble_eq_true rfl,by decide⟩) ?_
   refine zbh h [0,1,2,7,8,9,10,11,12,13,14,15,16,17,18,19,20,21,22,23,24,25,26,27,28,29,30,31,32,33,34,35,36,37,38,39,40,41,42,43,44,45,46,47,48,49,50,51,52,53,54,55,56,57,58,59,60,61,62,63,64,65,66,67] (fun j1=>[]) (fun j1=>(.B [(59,[.s j1.s,.i j1.a,.i j1.e,(zbd 2 j1.q)]),((zm r.q).1,[]),((zm j1.q).1,(zm j1.q).2),(33,(Enc.cells (n:Tr))),(33,[.u 0,.raw (.int .u64 0),.raw (.int .u64 0),.raw (.int .u64 0),.raw (.int .u64 0),.i 0,.i 0,.list 0 [] .full])])) ?_ ?_
   ·
    intro or1 h hr1
    refine zgn (zc ?_)
    refine zac ?_
    refine w_o (a:= .b (decide (x2.2.2.1>0))) ?_
    refine zaa h (fun hc3 h=> ?_) (fun hc3 h=> ?_)
    ·
     refine w_o (a:= .b true) (h:=zbb (zeh rfl hc3)) ?_
     refine zan rfl rfl ?_
     refine zac ?_
     refine zan rfl rfl ?_
     obtain⟨x4,hx4,h⟩:=zv h
     refine zgm (r:= .u x4.1) (σ':=(.B [(59,[.s x4.2.s,.i x4.2.a,.i x4.2.e,(zbd 5 x4.2.q)]),((zm r.q).1,[]),((zm r.q).1,[]),(33,(Enc.cells (n:Tr))),(33,[.u 0,.raw (.int .u64 0),.raw (.int .u64 0),.raw (.int .u64 0),.raw (.int .u64 0),.i 0,.i 0,.list 0 [] .full]),((zm x4.2.q).1,(zm x4.2.q).2)])) ((zpe (Rd.mk r.s (r.a+x2.2.2.1) r.e r.q) x4 hx4) _ 2 (by decide) rfl rfl) rfl rfl ⟨rfl,rfl⟩ (by dsimp only[zy,List.set]) ?_
     refine zan rfl rfl ?_
     obtain⟨g4,h⟩:=zp h
     obtain⟨x5,hx5,h⟩:=zt h
     refine zct (args':=[.s ([42,43,63,123]:List UInt8),.u x4.1]) (r:= .i x5) (by rw[←hx5];exact(zyl ([42,43,63,123]:List UInt8) g4)) rfl rfl (zh rfl (zh rfl rfl)) (by kernel_rfl) (by dsimp only[zy,List.set]) ?_
     refine zan rfl rfl ?_
     refine w_o (a:= .b (decide (x5≥0))) ?_
     refine w_o (a:= .b (decide (x5≥0))) ?_
     refine zki (S':=[.ptr 0 0,.top,.top,.ptr 3 0,.ptr 4 0,.i x2.1,.i x2.2.1,.top,.top,.top,.top,.top,.top,.top,.top,.top,.top,.top,.top,.top,.top,.top,.top,.top,.top,.top,.top,.top,.top,.top,.top,.top,.top,.top,.top,.top,.top,.top,.top,.top,.top,.top,.top,.top,.top,.top,.top,.top,.top,.top,.top,.top,.top,.top,.top,.top,.top,.b (decide (x5≥0)),.top,.top,.top,.top,.top,.top,.top,.top,.top,.top]) (σ':=(.B [(59,[.s x4.2.s,.i x4.2.a,.i x4.2.e,(zbd 2 x4.2.q)]),((zm r.q).1,[]),((zm x4.2.q).1,(zm x4.2.q).2),(33,(Enc.cells (n:Tr))),(33,[.u 0,.raw (.int .u64 0),.raw (.int .u64 0),.raw (.int .u64 0),.raw (.int .u64 0),.i 0,.i 0,.list 0 [] .full])])) (zdo [zzT,zzF,zzF,zzT,zzT,zzT,zzT,zzF,zzF,zzF,zzF,zzF,zzF,zzF,zzF,zzF,zzF,zzF,zzF,zzF,zzF,zzF,zzF,zzF,zzF,zzF,zzF,zzF,zzF,zzF,zzF,zzF,zzF,zzF,zzF,zzF,zzF,zzF,zzF,zzF,zzF,zzF,zzF,zzF,zzF,zzF,zzF,zzF,zzF,zzF,zzF,zzF,zzF,zzF,zzF,zzF,zzF,zzT,zzF,zzF,zzF,zzF,zzF,zzF,zzF,zzF,zzF,zzF] 2 [] [5,3,4] 1 hk0 rfl (zai rfl (zah (zah (zai rfl (zai rfl (zai (zd _ _ _ rfl) (zai (zd _ _ _ rfl) (zk (zk (zk (zk (zk (zk (zah (zah (zai (zd _ _ _ rfl) (zk (zah (zah zcu))))))))))))))))))) (zay rfl (zb (zd _ _ _ rfl) (zb (zd _ _ _ rfl) (zb (zd _ _ _ rfl) (zb (zas (fun _=>rfl)) ze)))) ze (zj rfl (zu _ _ _) (zj rfl (zau _ _ _ (Enc.clo _)) (zj rfl rfl zao))) rfl)) ?_
     refine zaa h (fun hc4 h=> ?_) (fun hc4 h=> ?_)
     ·
      refine zbw hc4 rfl ?_
      refine zc (k0:=k0) (id:=9) ?_
      refine zac ?_
      refine zac ?_
      refine w_o (a:= .ptr 0 0) ?_
      refine w_o (a:= .ptr 0 1) ?_
      refine w_o (a:= .i x4.2.a) ?_
      obtain⟨x6,hx6,h⟩:=zv h
      refine zgm (r:= .tup []) (σ':=(.B [(59,[.s x6.s,.i x6.a,.i x6.e,(zbd 5 x6.q)]),((zm r.q).1,[]),((zm x4.2.q).1,[]),(33,(Enc.cells (n:Tr))),(33,[.u 0,.raw (.int .u64 0),.raw (.int .u64 0),.raw (.int .u64 0),.raw (.int .u64 0),.i 0,.i 0,.list 0 [] .full]),((zm x6.q).1,(zm x6.q).2)])) ((zlq x4.2.a 92 x4.2 x6 hx6) _ 2 (by decide) rfl rfl) rfl rfl ⟨rfl,rfl⟩ (by dsimp only[zy,List.set]) ?_
      refine zg (o:=or1) (x6) h ?_
      exact(zdo (bl 68 120) 2 [] [5,3,4] 1 hk0 rfl (by dsimp only[zbg,zbz,List.foldl,List.set];exact(zah (zah (zah (zai rfl (zai rfl (zai (zd _ _ _ rfl) (zai (zd _ _ _ rfl) (zk (zk (zk (zk (zk (zk (zk (zah (zah (zah (zah (zah zcu)))))))))))))))))))) (zay rfl (zb (zd _ _ _ rfl) (zb (zd _ _ _ rfl) (zb (zd _ _ _ rfl) (zb (zas (fun _=>rfl)) ze)))) ze (zj rfl (zu _ _ _) (zj rfl (zau _ _ _ (Enc.clo _)) (zj rfl rfl zao))) rfl))
     ·
      refine zbv hc4 rfl ?_
      refine zg (o:=or1) (x4.2) h ?_
      exact zdq [zzF,zzF,zzF,zzT,zzT,zzT,zzT,zzF,zzF,zzF,zzF,zzF,zzF,zzF,zzF,zzF,zzF,zzF,zzF,zzF,zzF,zzF,zzF,zzF,zzF,zzF,zzF,zzF,zzF,zzF,zzF,zzF,zzF,zzF,zzF,zzF,zzF,zzF,zzF,zzF,zzF,zzF,zzF,zzF,zzF,zzF,zzF,zzF,zzF,zzF,zzF,zzF,zzF,zzF,zzF,zzF,zzF,zzF,zzF,zzF,zzF,zzF,zzF,zzF,zzF,zzF,zzF,zzF] (by kernel_rfl) (by kernel_rfl)
    ·
     refine w_o (a:= .b false) (h:=zbb (zeh rfl hc3)) ?_
     refine zyc ?_
     refine zyc ?_
     refine zyc ?_
     refine zyc ?_
     refine w_o (a:= .b false) ?_
     refine zki (Wk.refl _ _ _) ?_
     refine zax rfl ?_
     refine zg (o:=or1) ((Rd.mk r.s (r.a+x2.2.2.1) r.e r.q)) h ?_
     exact zdq [zzF,zzF,zzF,zzT,zzT,zzT,zzT,zzF,zzF,zzF,zzF,zzF,zzF,zzF,zzF,zzF,zzF,zzF,zzF,zzF,zzF,zzF,zzF,zzF,zzF,zzF,zzF,zzF,zzF,zzF,zzF,zzF,zzF,zzF,zzF,zzF,zzF,zzF,zzF,zzF,zzF,zzF,zzF,zzF,zzF,zzF,zzF,zzF,zzF,zzF,zzF,zzF,zzF,zzF,zzF,zzF,zzF,zzF,zzF,zzF,zzF,zzF,zzF,zzF,zzF,zzF,zzF,zzF] (by kernel_rfl) (by kernel_rfl)
   ·
    intro j1 h
    refine zbj (by dsimp only[zbg,zbz,List.foldl,List.set]) rfl ?_
    refine zi (zc ?_)
    refine w_o (a:= .A (n:Tr)) ?_
    refine zac ?_
    refine zac ?_
    obtain⟨g5,h⟩:=zp h
    obtain⟨x7,hx7,h⟩:=zt h
    refine zct (args':=[.A (n:Tr),.i x2.1,.i x2.2.1]) (r:= .A (x7:Tr)) (by rw[←hx7];exact(k_times n x2.1 x2.2.1 g5)) rfl rfl (zh (zbu (zab (Enc.clo _))) (zh rfl (zh rfl rfl))) (za (zam _ _ (zab (Enc.clo _))) (by kernel_rfl)) (by dsimp only[zy,List.set]) ?_
    refine zcb (σ'':=(.B [(59,[.s j1.s,.i j1.a,.i j1.e,(zbd 2 j1.q)]),((zm r.q).1,[]),((zm j1.q).1,(zm j1.q).2),(33,(Enc.cells (n:Tr))),(33,(Enc.cells (x7:Tr)))])) (h:=zaz (n:=8) rfl rfl rfl rfl rfl rfl rfl rfl (by decide)) ?_
    have he3:=Option.some.inj h
    subst he3
    exact zgc (a:= .A (x7:Tr)) [2] 1 rfl rfl (zd _ _ _ (zab (Enc.clo _))) (zay rfl (zb (zd _ _ _ rfl) (zb (zd _ _ _ rfl) (zb (zd _ _ _ rfl) (zb (zas (fun _=>rfl)) ze)))) ze (zj rfl (zu _ _ _) zao) rfl)
end Go.Ab
