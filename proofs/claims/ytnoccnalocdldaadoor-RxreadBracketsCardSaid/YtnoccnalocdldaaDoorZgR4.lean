import Derived.Test.YtnoccnalocdldaaDoorZgR2
set_option linter.all false
set_option maxRecDepth 100000
set_option maxHeartbeats 4000000
namespace Go.Ab
open Go Go.RowKit Go.Fwd Go.Proofs
def zrx (fuel:Nat)(g:Int→Rd→Option (Tr×Rd))(r:Rd):Option (Tr×Rd):=
 (chk (0≤r.a∧r.a≤(List.length r.s:Int)∧(List.length r.s:Int)≤(List.length r.s:Int)) (zbi (sub r.s r.a (List.length r.s:Int)) (fun x1=>(zdr (τ:=Rd) (chk (0≤(0:Int)∧(0:Int)<(List.length x1:Int)) (zbi (ix x1 (0:Int)) (fun x2=>(bif ((((x2).toNat:Nat):Int)==40) then(zbi (Lib.hasPrefix x1 ([40,63,58]:List UInt8)) (fun x3=>(bif x3 then(zar (g 3 r) (fun x4=>(some (Sum.inr (x4.1,x4.2))))) else(zar (g 1 r) (fun x5=>(chk ((pre x5.1).length<2^60) (zbi (zra x5.1) (fun x6=>(some (Sum.inr (x6,x5.2))))))))))) else(bif ((((x2).toNat:Nat):Int)==91) then(zar (zec fuel x1) (fun x7=>(bif (x7.2.2 !=0) then(chk (-9223372036854775808≤(r.a+x7.2.1)∧(r.a+x7.2.1)<9223372036854775808) (zar (zlc (r.a+x7.2.1) x7.2.2 r) (fun x8=>(some (Sum.inr (zz,x8)))))) else(chk (-9223372036854775808≤(r.a+x7.2.1)∧(r.a+x7.2.1)<9223372036854775808) (zbi (ofT x7.1) (fun x9=>(some (Sum.inr (x9,(Rd.mk r.s (r.a+x7.2.1) r.e r.q)))))))))) else(bif ((((x2).toNat:Nat):Int)==46) then(chk (-9223372036854775808≤(r.a+1)∧(r.a+1)<9223372036854775808) (zar (zgt fuel ([10]:List UInt8)) (fun x10=>(zbi (~~~x10) (fun x11=>(zbi (ofT x11) (fun x12=>(some (Sum.inr (x12,(Rd.mk r.s (r.a+1) r.e r.q))))))))))) else(zdr (τ:=Bool) (bif ((((x2).toNat:Nat):Int)==42) then(some (Sum.inl (((((x2).toNat:Nat):Int)==42)))) else(bif ((((x2).toNat:Nat):Int)==43) then(some (Sum.inl (((((x2).toNat:Nat):Int)==43)))) else(bif ((((x2).toNat:Nat):Int)==63) then(some (Sum.inl (((((x2).toNat:Nat):Int)==63)))) else(some (Sum.inl (((((x2).toNat:Nat):Int)==123))))))) (fun j2=>(bif j2 then(zar (zlc r.a 92 r) (fun x13=>(some (Sum.inl (x13))))) else(zdr (τ:=Bool) (bif ((((x2).toNat:Nat):Int)==94) then(some (Sum.inl (((((x2).toNat:Nat):Int)==94)))) else(some (Sum.inl (((((x2).toNat:Nat):Int)==36))))) (fun j3=>(bif j3 then(zar (zlc r.a 95 r) (fun x14=>(some (Sum.inl (x14))))) else(some (Sum.inl (r))))))))))))))) (fun j1=>(zbi (zqf x1) (fun x15=>(bif x15.2 then(chk (-9223372036854775808≤(j1.a+2)∧(j1.a+2)<9223372036854775808) (zbi (ofT x15.1) (fun x16=>(some (x16,(Rd.mk j1.s (j1.a+2) j1.e j1.q)))))) else(zar (zhf x1 zje) (fun x17=>(bif (x17.2.2 !=0) then(zar (zlc j1.a 90 j1) (fun x18=>(some (zz,x18)))) else(chk (-9223372036854775808≤(j1.a+x17.2.1)∧(j1.a+x17.2.1)<9223372036854775808) (zar (zxx fuel x17.1) (fun x19=>(some (x19,(Rd.mk j1.s (j1.a+x17.2.1) j1.e j1.q)))))))))))))))))
theorem ent58:Ent Tryd.prog 58:=enters_of Tryd.func58 (by kernel_rfl) rfl
set_option maxRecDepth 100000 in
set_option maxHeartbeats 16000000 in
theorem atom_rd (fuel:Nat)(g:Int→Rd→Option (Tr×Rd))(r:Rd)(hg: ∀(k:Int)(r:Rd)(y:Tr×Rd),g k r=some y→RdC Tryd.prog 74 [.raw (.int .i64 k)] r (.agg (Enc.cells y.1)) y.2)(y:Tr×Rd)(h:zrx fuel g r=some y):RdC Tryd.prog 58 [] r (.agg (Enc.cells (y.1:Tr))) y.2:=by
 obtain⟨d,hd⟩: ∃d,Tryd.f58.body=some d:=⟨_,rfl⟩
 refine z7n mix Tryd.func58 hd ent58 rfl (by first|rfl|exact(zab (Enc.clo _))) (fun k0 hk0=> ?_)
 cases hd
 unfold zrx at h
 refine zbj (by dsimp only[zat,Tryd.f58,List.length_cons,List.length_nil,Nat.zero_add,Nat.reduceAdd,Nat.reduceSub,List.replicate,List.cons_append,List.nil_append]) (show rdS r.q r=⟨[(59,[.raw (.string (bs r.s)),.raw (.int .i64 r.a),.raw (.int .i64 r.e),(zbd 2 r.q)]),((zm r.q).1,[]),((zm r.q).1,(zm r.q).2)],[],[],0,false⟩ from rfl) ?_
 refine zi (zc ?_)
 refine zcb (a:= .ptr 3 0) (σ'':=(.B [(59,[.s r.s,.i r.a,.i r.e,(zbd 2 r.q)]),((zm r.q).1,[]),((zm r.q).1,(zm r.q).2),(33,[.u 0,.raw (.int .u64 0),.raw (.int .u64 0),.raw (.int .u64 0),.raw (.int .u64 0),.i 0,.i 0,.list 0 [] .full])])) ?_
 refine zi ?_
 refine zid (k0:=k0) (id:=1) 8 (by kernel_rfl) (by kernel_rfl) ?_
 refine zjj ?_
 refine h_o (a:= .ptr 0 0) ?_
 refine h_o (a:= .ptr 0 0) ?_
 refine h_o (a:= .s r.s) ?_
 refine zjj ?_
 refine h_o (a:= .ptr 0 0) ?_
 refine h_o (a:= .ptr 0 1) ?_
 refine h_o (a:= .i r.a) ?_
 refine ziy ?_
 obtain⟨g1,h⟩:=zp h
 obtain⟨x1,hx1,h⟩:=zt h
 refine w_o (a:= .s x1) (h:=zbb (by rw[←hx1];exact(zmg (l:=r.s) g1 rfl rfl rfl rfl))) ?_
 refine zac ?_
 refine zbh h [1,4,5,6,7,8,9,10,11,12,13,14,15,16,17,18,19,20,21,22,23,24,25,26,27,28,29,30,31,32,33,34,35,36,37,38,39,40,41,42,43,44,45,46,47,48,49,50,51,52,53,54,55,56,57,58,59,60,61,62,63,64,65,66,67,68,69,70,71,72,73,74,75,76,77,78,79,80,81,82,83,84,85,86,87,88,89,90,91,92,93,94,95,96,97,98,99,100,101,102,103,104,105,106,107,108,109,110,111,112,113,114,115,116,117,118,119,120,121,122,123,124,125,126,127,128,129,130,131,132,133,134,135] (fun j1=>[]) (fun j1=>(.B [(59,[.s j1.s,.i j1.a,.i j1.e,(zbd 2 j1.q)]),((zm r.q).1,[]),((zm j1.q).1,(zm j1.q).2),(33,[.u 0,.raw (.int .u64 0),.raw (.int .u64 0),.raw (.int .u64 0),.raw (.int .u64 0),.i 0,.i 0,.list 0 [] .full])])) ?_ ?_
 ·
  intro or1 h hr1
  refine zi (zc ?_)
  refine zac ?_
  obtain⟨g2,h⟩:=zp h
  obtain⟨x2,hx2,h⟩:=zt h
  refine w_o (a:= .u (((x2).toNat:Nat):Int)) (h:=zbb (by rw[←hx2];exact(zdd (l:=x1) (n:=(0:Int)) g2 rfl rfl rfl rfl))) ?_
  refine zag ?_
  refine zi (zc ?_)
  refine w_o (a:= .b ((((x2).toNat:Nat):Int)==40)) ?_
  refine zac ?_
  refine zaa h (fun hc1 h=> ?_) (fun hc1 h=> ?_)
  ·
   refine zbw hc1 rfl ?_
   refine zi ?_
   refine zi (zc ?_)
   refine zac ?_
   obtain⟨x3,hx3,h⟩:=zt h
   refine zct (args':=[.s x1,.s ([40,63,58]:List UInt8)]) (r:= .b x3) (by rw[←hx3];exact(zsc x1 ([40,63,58]:List UInt8))) rfl rfl (zh rfl (zh rfl rfl)) (by kernel_rfl) (by dsimp only[zy,List.set]) ?_
   refine zaa h (fun hc2 h=> ?_) (fun hc2 h=> ?_)
   ·
    refine zbw hc2 rfl ?_
    refine zgn (zc ?_)
    refine zac ?_
    obtain⟨x4,hx4,h⟩:=zv h
    refine zgm (r:= .A (x4.1:Tr)) (σ':=(.B [(59,[.s x4.2.s,.i x4.2.a,.i x4.2.e,(zbd 4 x4.2.q)]),((zm r.q).1,[]),((zm r.q).1,[]),(33,[.u 0,.raw (.int .u64 0),.raw (.int .u64 0),.raw (.int .u64 0),.raw (.int .u64 0),.i 0,.i 0,.list 0 [] .full]),((zm x4.2.q).1,(zm x4.2.q).2)])) ((hg 3 r x4 hx4) _ 2 (by decide) rfl rfl) rfl rfl ⟨rfl,rfl⟩ (by dsimp only[zy,List.set]) ?_
    refine zcb (σ'':=(.B [(59,[.s x4.2.s,.i x4.2.a,.i x4.2.e,(zbd 4 x4.2.q)]),((zm r.q).1,[]),((zm r.q).1,[]),(33,(Enc.cells (x4.1:Tr))),((zm x4.2.q).1,(zm x4.2.q).2)])) (h:=zaz (n:=8) rfl rfl rfl rfl rfl rfl rfl rfl (by decide)) ?_
    refine zki (S':=[.top,.top,.ptr 3 0,.top,.top,.top,.top,.top,.top,.top,.top,.top,.top,.top,.top,.top,.top,.top,.top,.top,.top,.top,.top,.top,.top,.top,.top,.top,.top,.top,.top,.top,.top,.top,.top,.top,.top,.top,.top,.top,.top,.top,.top,.top,.top,.top,.top,.top,.top,.top,.top,.top,.top,.top,.top,.top,.top,.top,.top,.top,.top,.top,.top,.top,.top,.top,.top,.top,.top,.top,.top,.top,.top,.top,.top,.top,.top,.top,.top,.top,.top,.top,.top,.top,.top,.top,.top,.top,.top,.top,.top,.top,.top,.top,.top,.top,.top,.top,.top,.top,.top,.top,.top,.top,.top,.top,.top,.top,.top,.top,.top,.top,.top,.top,.top,.top,.top,.top,.top,.top,.top,.top,.top,.top,.top,.top,.top,.top,.top,.top,.top,.top,.top,.top,.top,.top]) (σ':=(.B [(59,[.s x4.2.s,.i x4.2.a,.i x4.2.e,(zbd 2 x4.2.q)]),((zm r.q).1,[]),((zm x4.2.q).1,(zm x4.2.q).2),(33,(Enc.cells (x4.1:Tr)))])) (zdo [zzF,zzF,zzT,zzF,zzF,zzF,zzF,zzF,zzF,zzF,zzF,zzF,zzF,zzF,zzF,zzF,zzF,zzF,zzF,zzF,zzF,zzF,zzF,zzF,zzF,zzF,zzF,zzF,zzF,zzF,zzF,zzF,zzF,zzF,zzF,zzF,zzF,zzF,zzF,zzF,zzF,zzF,zzF,zzF,zzF,zzF,zzF,zzF,zzF,zzF,zzF,zzF,zzF,zzF,zzF,zzF,zzF,zzF,zzF,zzF,zzF,zzF,zzF,zzF,zzF,zzF,zzF,zzF,zzF,zzF,zzF,zzF,zzF,zzF,zzF,zzF,zzF,zzF,zzF,zzF,zzF,zzF,zzF,zzF,zzF,zzF,zzF,zzF,zzF,zzF,zzF,zzF,zzF,zzF,zzF,zzF,zzF,zzF,zzF,zzF,zzF,zzF,zzF,zzF,zzF,zzF,zzF,zzF,zzF,zzF,zzF,zzF,zzF,zzF,zzF,zzF,zzF,zzF,zzF,zzF,zzF,zzF,zzF,zzF,zzF,zzF,zzF,zzF,zzF,zzF,zzF,zzF,zzF,zzF,zzF,zzF] 2 [] [4,3] 1 hk0 rfl (zah (zah (zai rfl (zk (zk (zk (zk (zk (zk (zk (zk (zk (zk (zk (zk (zk (zk (zk (zk (zah (zah (zah (zah (zah zcu)))))))))))))))))))))))) (zay rfl (zb (zd _ _ _ rfl) (zb (zd _ _ _ rfl) (zb (zd _ _ _ rfl) (zb (zas (fun _=>rfl)) ze)))) ze (zj rfl (zu _ _ _) (zj rfl (zau _ _ _ (Enc.clo _)) zao)) rfl)) ?_
    replace h:=zq h hr1
    have he1:=Option.some.inj h
    subst he1
    exact zgc (a:= .A (x4.1:Tr)) [2] 1 rfl rfl (zd _ _ _ (zab (Enc.clo _))) (zay rfl (zb (zd _ _ _ rfl) (zb (zd _ _ _ rfl) (zb (zd _ _ _ rfl) (zb (zas (fun _=>rfl)) ze)))) ze (zj rfl (zu _ _ _) zao) rfl)
   ·
    refine zbv hc2 rfl ?_
    refine zgn (zc ?_)
    refine zac ?_
    obtain⟨x5,hx5,h⟩:=zv h
    refine zgm (r:= .A (x5.1:Tr)) (σ':=(.B [(59,[.s x5.2.s,.i x5.2.a,.i x5.2.e,(zbd 4 x5.2.q)]),((zm r.q).1,[]),((zm r.q).1,[]),(33,[.u 0,.raw (.int .u64 0),.raw (.int .u64 0),.raw (.int .u64 0),.raw (.int .u64 0),.i 0,.i 0,.list 0 [] .full]),((zm x5.2.q).1,(zm x5.2.q).2)])) ((hg 1 r x5 hx5) _ 2 (by decide) rfl rfl) rfl rfl ⟨rfl,rfl⟩ (by dsimp only[zy,List.set]) ?_
    obtain⟨g3,h⟩:=zp h
    obtain⟨x6,hx6,h⟩:=zt h
    refine zct (args':=[.A (x5.1:Tr)]) (r:= .A (x6:Tr)) (by rw[←hx6];exact(qcx x5.1 g3)) rfl rfl (zh (zbu (zab (Enc.clo _))) rfl) (za (zam _ _ (zab (Enc.clo _))) rfl) (by dsimp only[zy,List.set]) ?_
    refine zcb (σ'':=(.B [(59,[.s x5.2.s,.i x5.2.a,.i x5.2.e,(zbd 4 x5.2.q)]),((zm r.q).1,[]),((zm r.q).1,[]),(33,(Enc.cells (x6:Tr))),((zm x5.2.q).1,(zm x5.2.q).2)])) (h:=zaz (n:=8) rfl rfl rfl rfl rfl rfl rfl rfl (by decide)) ?_
    refine zki (S':=[.top,.top,.ptr 3 0,.top,.top,.top,.top,.top,.top,.top,.top,.top,.top,.top,.top,.top,.top,.top,.top,.top,.top,.top,.top,.top,.top,.top,.top,.top,.top,.top,.top,.top,.top,.top,.top,.top,.top,.top,.top,.top,.top,.top,.top,.top,.top,.top,.top,.top,.top,.top,.top,.top,.top,.top,.top,.top,.top,.top,.top,.top,.top,.top,.top,.top,.top,.top,.top,.top,.top,.top,.top,.top,.top,.top,.top,.top,.top,.top,.top,.top,.top,.top,.top,.top,.top,.top,.top,.top,.top,.top,.top,.top,.top,.top,.top,.top,.top,.top,.top,.top,.top,.top,.top,.top,.top,.top,.top,.top,.top,.top,.top,.top,.top,.top,.top,.top,.top,.top,.top,.top,.top,.top,.top,.top,.top,.top,.top,.top,.top,.top,.top,.top,.top,.top,.top,.top]) (σ':=(.B [(59,[.s x5.2.s,.i x5.2.a,.i x5.2.e,(zbd 2 x5.2.q)]),((zm r.q).1,[]),((zm x5.2.q).1,(zm x5.2.q).2),(33,(Enc.cells (x6:Tr)))])) (zdo [zzF,zzF,zzT,zzF,zzF,zzF,zzF,zzF,zzF,zzF,zzF,zzF,zzF,zzF,zzF,zzF,zzF,zzF,zzF,zzF,zzF,zzF,zzF,zzF,zzF,zzF,zzF,zzF,zzF,zzF,zzF,zzF,zzF,zzF,zzF,zzF,zzF,zzF,zzF,zzF,zzF,zzF,zzF,zzF,zzF,zzF,zzF,zzF,zzF,zzF,zzF,zzF,zzF,zzF,zzF,zzF,zzF,zzF,zzF,zzF,zzF,zzF,zzF,zzF,zzF,zzF,zzF,zzF,zzF,zzF,zzF,zzF,zzF,zzF,zzF,zzF,zzF,zzF,zzF,zzF,zzF,zzF,zzF,zzF,zzF,zzF,zzF,zzF,zzF,zzF,zzF,zzF,zzF,zzF,zzF,zzF,zzF,zzF,zzF,zzF,zzF,zzF,zzF,zzF,zzF,zzF,zzF,zzF,zzF,zzF,zzF,zzF,zzF,zzF,zzF,zzF,zzF,zzF,zzF,zzF,zzF,zzF,zzF,zzF,zzF,zzF,zzF,zzF,zzF,zzF,zzF,zzF,zzF,zzF,zzF,zzF] 2 [] [4,3] 1 hk0 rfl (zah (zah (zai rfl (zk (zk (zk (zk (zk (zk (zk (zk (zk (zk (zk (zk (zk (zk (zk (zk (zah (zah (zah (zah (zah zcu)))))))))))))))))))))))) (zay rfl (zb (zd _ _ _ rfl) (zb (zd _ _ _ rfl) (zb (zd _ _ _ rfl) (zb (zas (fun _=>rfl)) ze)))) ze (zj rfl (zu _ _ _) (zj rfl (zau _ _ _ (Enc.clo _)) zao)) rfl)) ?_
    replace h:=zq h hr1
    have he2:=Option.some.inj h
    subst he2
    exact zgc (a:= .A (x6:Tr)) [2] 1 rfl rfl (zd _ _ _ (zab (Enc.clo _))) (zay rfl (zb (zd _ _ _ rfl) (zb (zd _ _ _ rfl) (zb (zd _ _ _ rfl) (zb (zas (fun _=>rfl)) ze)))) ze (zj rfl (zu _ _ _) zao) rfl)
  ·
   refine zbv hc1 rfl ?_
   refine zi (zc ?_)
   refine w_o (a:= .b ((((x2).toNat:Nat):Int)==91)) ?_
   refine zac ?_
   refine zaa h (fun hc3 h=> ?_) (fun hc3 h=> ?_)
   ·
    refine zbw hc3 rfl ?_
    refine zi (zc ?_)
    refine zac ?_
    obtain⟨x7,hx7,h⟩:=zv h
    refine zct (args':=[.s x1]) (r:= .tup [.A (x7.1:BS),.i x7.2.1,.i x7.2.2]) (zpc fuel x1 x7 hx7) rfl rfl (zh rfl rfl) (by kernel_rfl) (by dsimp only[zy,List.set]) ?_
    refine zac ?_
    refine qej ?_
    refine qej ?_
    refine qej ?_
    refine zcb (a:= .ptr 4 0) (σ'':=(.B [(59,[.s r.s,.i r.a,.i r.e,(zbd 2 r.q)]),((zm r.q).1,[]),((zm r.q).1,(zm r.q).2),(33,[.u 0,.raw (.int .u64 0),.raw (.int .u64 0),.raw (.int .u64 0),.raw (.int .u64 0),.i 0,.i 0,.list 0 [] .full]),(27,(Enc.cells (0#256:BS)))])) ?_
    refine zcb (σ'':=(.B [(59,[.s r.s,.i r.a,.i r.e,(zbd 2 r.q)]),((zm r.q).1,[]),((zm r.q).1,(zm r.q).2),(33,[.u 0,.raw (.int .u64 0),.raw (.int .u64 0),.raw (.int .u64 0),.raw (.int .u64 0),.i 0,.i 0,.list 0 [] .full]),(27,(Enc.cells (x7.1:BS)))])) (h:=zaz (n:=4) rfl rfl rfl rfl rfl rfl rfl rfl (by decide)) ?_
    refine zac ?_
    refine zac ?_
    refine zi ?_
    refine zi (zc ?_)
    refine zac ?_
    refine w_o (a:= .b (x7.2.2 !=0)) ?_
    refine zaa h (fun hc4 h=> ?_) (fun hc4 h=> ?_)
    ·
     refine zbw hc4 rfl ?_
     refine zgn (zc ?_)
     refine zac ?_
     refine zac ?_
     refine w_o (a:= .ptr 0 0) ?_
     refine w_o (a:= .ptr 0 1) ?_
     refine w_o (a:= .i r.a) ?_
     refine zac ?_
     obtain⟨g4,h⟩:=zp h
     refine w_o (a:= .i (r.a+x7.2.1)) (h:=zbb (znj rfl rfl rfl rfl g4.1 g4.2)) ?_
     refine zac ?_
     obtain⟨x8,hx8,h⟩:=zv h
     refine zgm (r:= .tup []) (σ':=(.B [(59,[.s x8.s,.i x8.a,.i x8.e,(zbd 5 x8.q)]),((zm r.q).1,[]),((zm r.q).1,[]),(33,[.u 0,.raw (.int .u64 0),.raw (.int .u64 0),.raw (.int .u64 0),.raw (.int .u64 0),.i 0,.i 0,.list 0 [] .full]),(27,(Enc.cells (x7.1:BS))),((zm x8.q).1,(zm x8.q).2)])) ((zlq (r.a+x7.2.1) x7.2.2 r x8 hx8) _ 2 (by decide) rfl rfl) rfl rfl ⟨rfl,rfl⟩ (by dsimp only[zy,List.set]) ?_
     refine zki (S':=[.top,.top,.ptr 3 0,.top,.top,.top,.top,.top,.top,.top,.top,.top,.top,.top,.top,.top,.top,.top,.top,.top,.top,.top,.top,.top,.top,.top,.top,.top,.top,.top,.top,.top,.top,.top,.top,.top,.top,.top,.top,.top,.top,.top,.top,.top,.top,.top,.top,.top,.top,.top,.top,.top,.top,.top,.top,.top,.top,.top,.top,.top,.top,.top,.top,.top,.top,.top,.top,.top,.top,.top,.top,.top,.top,.top,.top,.top,.top,.top,.top,.top,.top,.top,.top,.top,.top,.top,.top,.top,.top,.top,.top,.top,.top,.top,.top,.top,.top,.top,.top,.top,.top,.top,.top,.top,.top,.top,.top,.top,.top,.top,.top,.top,.top,.top,.top,.top,.top,.top,.top,.top,.top,.top,.top,.top,.top,.top,.top,.top,.top,.top,.top,.top,.top,.top,.top,.top]) (σ':=(.B [(59,[.s x8.s,.i x8.a,.i x8.e,(zbd 2 x8.q)]),((zm r.q).1,[]),((zm x8.q).1,(zm x8.q).2),(33,[.u 0,.raw (.int .u64 0),.raw (.int .u64 0),.raw (.int .u64 0),.raw (.int .u64 0),.i 0,.i 0,.list 0 [] .full]),(27,(Enc.cells (x7.1:BS)))])) (zdo [zzF,zzF,zzT,zzF,zzF,zzF,zzF,zzF,zzF,zzF,zzF,zzF,zzF,zzF,zzF,zzF,zzF,zzF,zzF,zzF,zzF,zzF,zzF,zzF,zzF,zzF,zzF,zzF,zzF,zzF,zzF,zzF,zzF,zzF,zzF,zzF,zzF,zzF,zzF,zzF,zzF,zzF,zzF,zzF,zzF,zzF,zzF,zzF,zzF,zzF,zzF,zzF,zzF,zzF,zzF,zzF,zzF,zzF,zzF,zzF,zzF,zzF,zzF,zzF,zzF,zzF,zzF,zzF,zzF,zzF,zzF,zzF,zzF,zzF,zzF,zzF,zzF,zzF,zzF,zzF,zzF,zzF,zzF,zzF,zzF,zzF,zzF,zzF,zzF,zzF,zzF,zzF,zzF,zzF,zzF,zzF,zzF,zzF,zzF,zzF,zzF,zzF,zzF,zzF,zzF,zzF,zzF,zzF,zzF,zzF,zzF,zzF,zzF,zzF,zzF,zzF,zzF,zzF,zzF,zzF,zzF,zzF,zzF,zzF,zzF,zzF,zzF,zzF,zzF,zzF,zzF,zzF,zzF,zzF,zzF,zzF] 2 [] [5,3,4] 1 hk0 rfl (zah (zah (zai rfl (zk (zk (zk (zk (zk (zk (zk (zk (zk (zk (zk (zk (zk (zk (zk (zk (zah (zah (zah (zah (zah zcu)))))))))))))))))))))))) (zay rfl (zb (zd _ _ _ rfl) (zb (zd _ _ _ rfl) (zb (zd _ _ _ rfl) (zb (zas (fun _=>rfl)) ze)))) ze (zj rfl (zu _ _ _) (zj rfl rfl (zj rfl (zau _ _ _ (Enc.clo _)) zao))) rfl)) ?_
     refine zi (zc ?_)
     refine zey (.A (zz:Tr)) (a0:=(zce zz .full)) rfl rfl rfl (by kernel_rfl) (zo _ _) (by dsimp only[zy,List.set]) ?_
     refine zcb (σ'':=(.B [(59,[.s x8.s,.i x8.a,.i x8.e,(zbd 2 x8.q)]),((zm r.q).1,[]),((zm x8.q).1,(zm x8.q).2),(33,(Enc.cells (zz:Tr))),(27,(Enc.cells (x7.1:BS)))])) (h:=zaz (n:=8) rfl rfl rfl rfl rfl rfl rfl rfl (by decide)) ?_
     replace h:=zq h hr1
     have he3:=Option.some.inj h
     subst he3
     exact zgc (a:= .A (zz:Tr)) [2] 1 rfl rfl (zd _ _ _ (zab (Enc.clo _))) (zay rfl (zb (zd _ _ _ rfl) (zb (zd _ _ _ rfl) (zb (zd _ _ _ rfl) (zb (zas (fun _=>rfl)) ze)))) ze (zj rfl (zu _ _ _) zao) rfl)
    ·
     refine zbv hc4 rfl ?_
     refine zi (zc ?_)
     refine zac ?_
     refine w_o (a:= .ptr 0 0) ?_
     refine w_o (a:= .ptr 0 1) ?_
     refine w_o (a:= .i r.a) ?_
     refine zac ?_
     obtain⟨g5,h⟩:=zp h
     refine w_o (a:= .i (r.a+x7.2.1)) (h:=zbb (znj rfl rfl rfl rfl g5.1 g5.2)) ?_
     refine w_o (a:= .ptr 0 0) ?_
     refine w_o (a:= .ptr 0 1) ?_
     refine zcb (σ'':=(.B [(59,[.s r.s,.i (r.a+x7.2.1),.i r.e,(zbd 2 r.q)]),((zm r.q).1,[]),((zm r.q).1,(zm r.q).2),(33,[.u 0,.raw (.int .u64 0),.raw (.int .u64 0),.raw (.int .u64 0),.raw (.int .u64 0),.i 0,.i 0,.list 0 [] .full]),(27,(Enc.cells (x7.1:BS)))])) (h:=zcr (n:=1) rfl rfl rfl rfl rfl ⟨rfl,rfl,Nat.le_of_ble_eq_true rfl,by decide⟩) ?_
     refine zi (zc ?_)
     refine w_o (a:= .A (x7.1:BS)) ?_
     obtain⟨x9,hx9,h⟩:=zt h
     refine zct (args':=[.A (x7.1:BS)]) (r:= .A (x9:Tr)) (by rw[←hx9];exact(k_of x7.1)) rfl rfl (zh (zbu (zab (Enc.clo _))) rfl) (za (zam _ _ (zab (Enc.clo _))) rfl) (by dsimp only[zy,List.set]) ?_
     refine zcb (σ'':=(.B [(59,[.s r.s,.i (r.a+x7.2.1),.i r.e,(zbd 2 r.q)]),((zm r.q).1,[]),((zm r.q).1,(zm r.q).2),(33,(Enc.cells (x9:Tr))),(27,(Enc.cells (x7.1:BS)))])) (h:=zaz (n:=8) rfl rfl rfl rfl rfl rfl rfl rfl (by decide)) ?_
     replace h:=zq h hr1
     have he4:=Option.some.inj h
     subst he4
     exact zgc (a:= .A (x9:Tr)) [2] 1 rfl rfl (zd _ _ _ (zab (Enc.clo _))) (zay rfl (zb (zd _ _ _ rfl) (zb (zd _ _ _ rfl) (zb (zd _ _ _ rfl) (zb (zas (fun _=>rfl)) ze)))) ze (zj rfl (zu _ _ _) zao) rfl)
   ·
    refine zbv hc3 rfl ?_
    refine zi (zc ?_)
    refine w_o (a:= .b ((((x2).toNat:Nat):Int)==46)) ?_
    refine zac ?_
    refine zaa h (fun hc5 h=> ?_) (fun hc5 h=> ?_)
    ·
     refine zbw hc5 rfl ?_
     refine zi (zc ?_)
     refine zac ?_
     refine w_o (a:= .ptr 0 0) ?_
     refine w_o (a:= .ptr 0 1) ?_
     refine w_o (a:= .i r.a) ?_
     obtain⟨g6,h⟩:=zp h
     refine w_o (a:= .i (r.a+1)) (h:=zbb (znj rfl rfl rfl rfl g6.1 g6.2)) ?_
     refine w_o (a:= .ptr 0 0) ?_
     refine w_o (a:= .ptr 0 1) ?_
     refine zcb (σ'':=(.B [(59,[.s r.s,.i (r.a+1),.i r.e,(zbd 2 r.q)]),((zm r.q).1,[]),((zm r.q).1,(zm r.q).2),(33,[.u 0,.raw (.int .u64 0),.raw (.int .u64 0),.raw (.int .u64 0),.raw (.int .u64 0),.i 0,.i 0,.list 0 [] .full])])) (h:=zcr (n:=1) rfl rfl rfl rfl rfl ⟨rfl,rfl,Nat.le_of_ble_eq_true rfl,by decide⟩) ?_
     refine zi (zc ?_)
     refine w_o (a:= .F (([10]:List UInt8):List UInt8)) (h:=zbb (zhr (α:=UInt8) (l:=([10]:List UInt8)) (cs:=[.u 10]) rfl rfl)) ?_
     obtain⟨x10,hx10,h⟩:=zv h
     refine zct (args':=[.L (([10]:List UInt8):List UInt8)]) (r:= .A (x10:BS)) (zjl fuel ([10]:List UInt8) x10 hx10) rfl rfl (zh (zjw (Enc.cloL _)) rfl) (za (zcl (Enc.cloL _)) rfl) (by dsimp only[zy,List.set]) ?_
     obtain⟨x11,hx11,h⟩:=zt h
     refine zct (args':=[.A (x10:BS)]) (r:= .A (x11:BS)) (by rw[←hx11];exact(k_not x10)) rfl rfl (zh (zbu (zab (Enc.clo _))) rfl) (za (zam _ _ (zab (Enc.clo _))) rfl) (by dsimp only[zy,List.set]) ?_
     obtain⟨x12,hx12,h⟩:=zt h
     refine zct (args':=[.A (x11:BS)]) (r:= .A (x12:Tr)) (by rw[←hx12];exact(k_of x11)) rfl rfl (zh (zbu (zab (Enc.clo _))) rfl) (za (zam _ _ (zab (Enc.clo _))) rfl) (by dsimp only[zy,List.set]) ?_
     refine zcb (σ'':=(.B [(59,[.s r.s,.i (r.a+1),.i r.e,(zbd 2 r.q)]),((zm r.q).1,[]),((zm r.q).1,(zm r.q).2),(33,(Enc.cells (x12:Tr)))])) (h:=zaz (n:=8) rfl rfl rfl rfl rfl rfl rfl rfl (by decide)) ?_
     replace h:=zq h hr1
     have he5:=Option.some.inj h
     subst he5
     exact zgc (a:= .A (x12:Tr)) [2] 1 rfl rfl (zd _ _ _ (zab (Enc.clo _))) (zay rfl (zb (zd _ _ _ rfl) (zb (zd _ _ _ rfl) (zb (zd _ _ _ rfl) (zb (zas (fun _=>rfl)) ze)))) ze (zj rfl (zu _ _ _) zao) rfl)
    ·
     refine zbv hc5 rfl ?_
     refine zbh h [1,4,5,6,7,8,9,10,11,12,13,14,15,16,17,18,19,20,21,23,24,25,26,27,28,29,30,31,32,33,34,35,36,37,38,39,40,41,42,43,44,45,46,47,48,49,50,51,52,53,54,55,56,57,58,59,60,61,62,63,64,65,66,67,68,69,70,71,72,73,74,75,76,77,78,79,80,81,82,83,84,85,86,87,88,89,90,91,92,93,94,95,96,97,98,99,100,101,102,103,104,105,106,107,108,109,110,111,112,113,114,115,116,117,118,119,120,121,122,123,124,125,126,127,128,129,130,131,132,133,134,135] (fun j2=>[(75,.b j2)]) (fun j2=>(.B [(59,[.s r.s,.i r.a,.i r.e,(zbd 2 r.q)]),((zm r.q).1,[]),((zm r.q).1,(zm r.q).2),(33,[.u 0,.raw (.int .u64 0),.raw (.int .u64 0),.raw (.int .u64 0),.raw (.int .u64 0),.i 0,.i 0,.list 0 [] .full])])) ?_ ?_
     ·
      intro or2 h hr2
      refine zi (zc ?_)
      refine w_o (a:= .b ((((x2).toNat:Nat):Int)==42)) ?_
      refine zac ?_
      refine zaa h (fun hc6 h=> ?_) (fun hc6 h=> ?_)
      ·
       refine zbw hc6 rfl ?_
       refine zg (o:=or2) (((((x2).toNat:Nat):Int)==42)) h ?_
       exact zdq (bl 136 37778931862957165903885) (by kernel_rfl) (by kernel_rfl)
      ·
       refine zbv hc6 rfl ?_
       refine zi (zc ?_)
       refine w_o (a:= .b ((((x2).toNat:Nat):Int)==43)) ?_
       refine zac ?_
       refine zaa h (fun hc7 h=> ?_) (fun hc7 h=> ?_)
       ·
        refine zbw hc7 rfl ?_
        refine zg (o:=or2) (((((x2).toNat:Nat):Int)==43)) h ?_
        exact zdq (bl 136 37778931862957165903885) (by kernel_rfl) (by kernel_rfl)
       ·
        refine zbv hc7 rfl ?_
        refine zi (zc ?_)
        refine w_o (a:= .b ((((x2).toNat:Nat):Int)==63)) ?_
        refine zac ?_
        refine zaa h (fun hc8 h=> ?_) (fun hc8 h=> ?_)
        ·
         refine zbw hc8 rfl ?_
         refine zg (o:=or2) (((((x2).toNat:Nat):Int)==63)) h ?_
         exact zdq (bl 136 37778931862957165903885) (by kernel_rfl) (by kernel_rfl)
        ·
         refine zbv hc8 rfl ?_
         refine zc (k0:=k0) (id:=20) ?_
         refine w_o (a:= .b ((((x2).toNat:Nat):Int)==123)) ?_
         refine zac ?_
         refine zg (o:=or2) (((((x2).toNat:Nat):Int)==123)) h ?_
         exact zdq (bl 136 37778931862957165903885) (by kernel_rfl) (by kernel_rfl)
     ·
      intro j2 h
      refine zbj (by dsimp only[zbg,zbz,List.foldl,List.set]) rfl ?_
      refine zaa h (fun hc9 h=> ?_) (fun hc9 h=> ?_)
      ·
       refine zbw hc9 rfl ?_
       refine zc (k0:=k0) (id:=21) ?_
       refine zac ?_
       refine zac ?_
       refine w_o (a:= .ptr 0 0) ?_
       refine w_o (a:= .ptr 0 1) ?_
       refine w_o (a:= .i r.a) ?_
       obtain⟨x13,hx13,h⟩:=zv h
       refine zgm (r:= .tup []) (σ':=(.B [(59,[.s x13.s,.i x13.a,.i x13.e,(zbd 4 x13.q)]),((zm r.q).1,[]),((zm r.q).1,[]),(33,[.u 0,.raw (.int .u64 0),.raw (.int .u64 0),.raw (.int .u64 0),.raw (.int .u64 0),.i 0,.i 0,.list 0 [] .full]),((zm x13.q).1,(zm x13.q).2)])) ((zlq r.a 92 r x13 hx13) _ 2 (by decide) rfl rfl) rfl rfl ⟨rfl,rfl⟩ (by dsimp only[zy,List.set]) ?_
       refine zg (o:=or1) (x13) h ?_
       exact(zdo (bl 136 13) 2 [] [4,3] 1 hk0 rfl (by dsimp only[zbg,zbz,List.foldl,List.set];exact(zai rfl (zah (zai rfl (zai (zd _ _ _ rfl) (zk (zk (zk (zk (zk (zk (zk (zk (zk (zk (zk (zk (zk (zk (zk (zk (zah (zah (zah (zah zcu))))))))))))))))))))))))) (zay rfl (zb (zd _ _ _ rfl) (zb (zd _ _ _ rfl) (zb (zd _ _ _ rfl) (zb (zas (fun _=>rfl)) ze)))) ze (zj rfl (zu _ _ _) (zj rfl rfl zao)) rfl))
      ·
       refine zbv hc9 rfl ?_
       refine zbh h [22,75,86,87,88] (fun j3=>[(86,.b j3)]) (fun j3=>(.B [(59,[.s r.s,.i r.a,.i r.e,(zbd 2 r.q)]),((zm r.q).1,[]),((zm r.q).1,(zm r.q).2),(33,[.u 0,.raw (.int .u64 0),.raw (.int .u64 0),.raw (.int .u64 0),.raw (.int .u64 0),.i 0,.i 0,.list 0 [] .full])])) ?_ ?_
       ·
        intro or3 h hr3
        refine zi (zc ?_)
        refine w_o (a:= .b ((((x2).toNat:Nat):Int)==94)) ?_
        refine zac ?_
        refine zaa h (fun hc10 h=> ?_) (fun hc10 h=> ?_)
        ·
         refine zbw hc10 rfl ?_
         refine zg (o:=or3) (((((x2).toNat:Nat):Int)==94)) h ?_
         exact zdq (bl 136 87112285931759782381330235621972409057279) (by kernel_rfl) (by kernel_rfl)
        ·
         refine zbv hc10 rfl ?_
         refine zc (k0:=k0) (id:=23) ?_
         refine w_o (a:= .b ((((x2).toNat:Nat):Int)==36)) ?_
         refine zac ?_
         refine zg (o:=or3) (((((x2).toNat:Nat):Int)==36)) h ?_
         exact zdq (bl 136 87112285931759782381330235621972409057279) (by kernel_rfl) (by kernel_rfl)
       ·
        intro j3 h
        refine zbj (by dsimp only[zbg,zbz,List.foldl,List.set]) rfl ?_
        refine zaa h (fun hc11 h=> ?_) (fun hc11 h=> ?_)
        ·
         refine zbw hc11 rfl ?_
         refine zc (k0:=k0) (id:=24) ?_
         refine zac ?_
         refine zac ?_
         refine w_o (a:= .ptr 0 0) ?_
         refine w_o (a:= .ptr 0 1) ?_
         refine w_o (a:= .i r.a) ?_
         obtain⟨x14,hx14,h⟩:=zv h
         refine zgm (r:= .tup []) (σ':=(.B [(59,[.s x14.s,.i x14.a,.i x14.e,(zbd 4 x14.q)]),((zm r.q).1,[]),((zm r.q).1,[]),(33,[.u 0,.raw (.int .u64 0),.raw (.int .u64 0),.raw (.int .u64 0),.raw (.int .u64 0),.i 0,.i 0,.list 0 [] .full]),((zm x14.q).1,(zm x14.q).2)])) ((zlq r.a 95 r x14 hx14) _ 2 (by decide) rfl rfl) rfl rfl ⟨rfl,rfl⟩ (by dsimp only[zy,List.set]) ?_
         refine zg (o:=or1) (x14) h ?_
         exact(zdo (bl 136 13) 2 [] [4,3] 1 hk0 rfl (by dsimp only[zbg,zbz,List.foldl,List.set];exact(zai rfl (zah (zai rfl (zai (zd _ _ _ rfl) (zk (zk (zk (zk (zk (zk (zk (zk (zk (zk (zk (zk (zk (zk (zk (zk (zah (zah (zah (zah zcu))))))))))))))))))))))))) (zay rfl (zb (zd _ _ _ rfl) (zb (zd _ _ _ rfl) (zb (zd _ _ _ rfl) (zb (zas (fun _=>rfl)) ze)))) ze (zj rfl (zu _ _ _) (zj rfl rfl zao)) rfl))
        ·
         refine zbv hc11 rfl ?_
         refine zg (o:=or1) (r) h ?_
         exact zdq (bl 136 13) (by kernel_rfl) (by kernel_rfl)
 ·
  intro j1 h
  refine zbj (by dsimp only[zbg,zbz,List.foldl,List.set]) rfl ?_
  refine zi ?_
  refine zi (zc ?_)
  refine zac ?_
  obtain⟨x15,hx15,h⟩:=zt h
  refine zct (args':=[.s x1]) (r:= .tup [.A (x15.1:BS),.b x15.2]) (by rw[←hx15];exact(qbc x1)) rfl rfl (zh rfl rfl) (by kernel_rfl) (by dsimp only[zy,List.set]) ?_
  refine zac ?_
  refine qej ?_
  refine qej ?_
  refine zcb (a:= .ptr 4 0) (σ'':=(.B [(59,[.s j1.s,.i j1.a,.i j1.e,(zbd 2 j1.q)]),((zm r.q).1,[]),((zm j1.q).1,(zm j1.q).2),(33,[.u 0,.raw (.int .u64 0),.raw (.int .u64 0),.raw (.int .u64 0),.raw (.int .u64 0),.i 0,.i 0,.list 0 [] .full]),(27,(Enc.cells (0#256:BS)))])) ?_
  refine zcb (σ'':=(.B [(59,[.s j1.s,.i j1.a,.i j1.e,(zbd 2 j1.q)]),((zm r.q).1,[]),((zm j1.q).1,(zm j1.q).2),(33,[.u 0,.raw (.int .u64 0),.raw (.int .u64 0),.raw (.int .u64 0),.raw (.int .u64 0),.i 0,.i 0,.list 0 [] .full]),(27,(Enc.cells (x15.1:BS)))])) (h:=zaz (n:=4) rfl rfl rfl rfl rfl rfl rfl rfl (by decide)) ?_
  refine zac ?_
  refine zi (zc ?_)
  refine zac ?_
  refine zaa h (fun hc12 h=> ?_) (fun hc12 h=> ?_)
  ·
   refine zbw hc12 rfl ?_
   refine zi (zc ?_)
   refine zac ?_
   refine w_o (a:= .ptr 0 0) ?_
   refine w_o (a:= .ptr 0 1) ?_
   refine w_o (a:= .i j1.a) ?_
   obtain⟨g7,h⟩:=zp h
   refine w_o (a:= .i (j1.a+2)) (h:=zbb (znj rfl rfl rfl rfl g7.1 g7.2)) ?_
   refine w_o (a:= .ptr 0 0) ?_
   refine w_o (a:= .ptr 0 1) ?_
   refine zcb (σ'':=(.B [(59,[.s j1.s,.i (j1.a+2),.i j1.e,(zbd 2 j1.q)]),((zm r.q).1,[]),((zm j1.q).1,(zm j1.q).2),(33,[.u 0,.raw (.int .u64 0),.raw (.int .u64 0),.raw (.int .u64 0),.raw (.int .u64 0),.i 0,.i 0,.list 0 [] .full]),(27,(Enc.cells (x15.1:BS)))])) (h:=zcr (n:=1) rfl rfl rfl rfl rfl ⟨rfl,rfl,Nat.le_of_ble_eq_true rfl,by decide⟩) ?_
   refine zi (zc ?_)
   refine w_o (a:= .A (x15.1:BS)) ?_
   obtain⟨x16,hx16,h⟩:=zt h
   refine zct (args':=[.A (x15.1:BS)]) (r:= .A (x16:Tr)) (by rw[←hx16];exact(k_of x15.1)) rfl rfl (zh (zbu (zab (Enc.clo _))) rfl) (za (zam _ _ (zab (Enc.clo _))) rfl) (by dsimp only[zy,List.set]) ?_
   refine zcb (σ'':=(.B [(59,[.s j1.s,.i (j1.a+2),.i j1.e,(zbd 2 j1.q)]),((zm r.q).1,[]),((zm j1.q).1,(zm j1.q).2),(33,(Enc.cells (x16:Tr))),(27,(Enc.cells (x15.1:BS)))])) (h:=zaz (n:=8) rfl rfl rfl rfl rfl rfl rfl rfl (by decide)) ?_
   have he6:=Option.some.inj h
   subst he6
   exact zgc (a:= .A (x16:Tr)) [2] 1 rfl rfl (zd _ _ _ (zab (Enc.clo _))) (zay rfl (zb (zd _ _ _ rfl) (zb (zd _ _ _ rfl) (zb (zd _ _ _ rfl) (zb (zas (fun _=>rfl)) ze)))) ze (zj rfl (zu _ _ _) zao) rfl)
  ·
   refine zbv hc12 rfl ?_
   refine zi (zc ?_)
   refine zac ?_
   refine zct (args':=[]) (r:= .A (zje:BS)) k_marks rfl rfl rfl rfl (by dsimp only[zy,List.set]) ?_
   obtain⟨x17,hx17,h⟩:=zv h
   refine zct (args':=[.s x1,.A (zje:BS)]) (r:= .tup [.u x17.1,.i x17.2.1,.i x17.2.2]) (zsx x1 zje x17 hx17) rfl rfl (zh rfl (zh (zbu (zab (Enc.clo _))) rfl)) (za rfl (za (zam _ _ (zab (Enc.clo _))) rfl)) (by dsimp only[zy,List.set]) ?_
   refine zac ?_
   refine qej ?_
   refine qej ?_
   refine qej ?_
   refine zac ?_
   refine zac ?_
   refine zac ?_
   refine zi ?_
   refine zi (zc ?_)
   refine zac ?_
   refine w_o (a:= .b (x17.2.2 !=0)) ?_
   refine zaa h (fun hc13 h=> ?_) (fun hc13 h=> ?_)
   ·
    refine zbw hc13 rfl ?_
    refine zgn (zc ?_)
    refine zac ?_
    refine zac ?_
    refine w_o (a:= .ptr 0 0) ?_
    refine w_o (a:= .ptr 0 1) ?_
    refine w_o (a:= .i j1.a) ?_
    obtain⟨x18,hx18,h⟩:=zv h
    refine zgm (r:= .tup []) (σ':=(.B [(59,[.s x18.s,.i x18.a,.i x18.e,(zbd 5 x18.q)]),((zm r.q).1,[]),((zm j1.q).1,[]),(33,[.u 0,.raw (.int .u64 0),.raw (.int .u64 0),.raw (.int .u64 0),.raw (.int .u64 0),.i 0,.i 0,.list 0 [] .full]),(27,(Enc.cells (x15.1:BS))),((zm x18.q).1,(zm x18.q).2)])) ((zlq j1.a 90 j1 x18 hx18) _ 2 (by decide) rfl rfl) rfl rfl ⟨rfl,rfl⟩ (by dsimp only[zy,List.set]) ?_
    refine zki (S':=[.top,.top,.ptr 3 0,.top,.top,.top,.top,.top,.top,.top,.top,.top,.top,.top,.top,.top,.top,.top,.top,.top,.top,.top,.top,.top,.top,.top,.top,.top,.top,.top,.top,.top,.top,.top,.top,.top,.top,.top,.top,.top,.top,.top,.top,.top,.top,.top,.top,.top,.top,.top,.top,.top,.top,.top,.top,.top,.top,.top,.top,.top,.top,.top,.top,.top,.top,.top,.top,.top,.top,.top,.top,.top,.top,.top,.top,.top,.top,.top,.top,.top,.top,.top,.top,.top,.top,.top,.top,.top,.top,.top,.top,.top,.top,.top,.top,.top,.top,.top,.top,.top,.top,.top,.top,.top,.top,.top,.top,.top,.top,.top,.top,.top,.top,.top,.top,.top,.top,.top,.top,.top,.top,.top,.top,.top,.top,.top,.top,.top,.top,.top,.top,.top,.top,.top,.top,.top]) (σ':=(.B [(59,[.s x18.s,.i x18.a,.i x18.e,(zbd 2 x18.q)]),((zm r.q).1,[]),((zm x18.q).1,(zm x18.q).2),(33,[.u 0,.raw (.int .u64 0),.raw (.int .u64 0),.raw (.int .u64 0),.raw (.int .u64 0),.i 0,.i 0,.list 0 [] .full]),(27,(Enc.cells (x15.1:BS)))])) (zdo [zzF,zzF,zzT,zzF,zzF,zzF,zzF,zzF,zzF,zzF,zzF,zzF,zzF,zzF,zzF,zzF,zzF,zzF,zzF,zzF,zzF,zzF,zzF,zzF,zzF,zzF,zzF,zzF,zzF,zzF,zzF,zzF,zzF,zzF,zzF,zzF,zzF,zzF,zzF,zzF,zzF,zzF,zzF,zzF,zzF,zzF,zzF,zzF,zzF,zzF,zzF,zzF,zzF,zzF,zzF,zzF,zzF,zzF,zzF,zzF,zzF,zzF,zzF,zzF,zzF,zzF,zzF,zzF,zzF,zzF,zzF,zzF,zzF,zzF,zzF,zzF,zzF,zzF,zzF,zzF,zzF,zzF,zzF,zzF,zzF,zzF,zzF,zzF,zzF,zzF,zzF,zzF,zzF,zzF,zzF,zzF,zzF,zzF,zzF,zzF,zzF,zzF,zzF,zzF,zzF,zzF,zzF,zzF,zzF,zzF,zzF,zzF,zzF,zzF,zzF,zzF,zzF,zzF,zzF,zzF,zzF,zzF,zzF,zzF,zzF,zzF,zzF,zzF,zzF,zzF,zzF,zzF,zzF,zzF,zzF,zzF] 2 [] [5,3,4] 1 hk0 rfl (zah (zah (zai rfl (zk (zk (zk (zk (zk (zk (zk (zk (zk (zk (zk (zk (zk (zk (zk (zk (zah (zah (zah (zah (zah zcu)))))))))))))))))))))))) (zay rfl (zb (zd _ _ _ rfl) (zb (zd _ _ _ rfl) (zb (zd _ _ _ rfl) (zb (zas (fun _=>rfl)) ze)))) ze (zj rfl (zu _ _ _) (zj rfl rfl (zj rfl (zau _ _ _ (Enc.clo _)) zao))) rfl)) ?_
    refine zi (zc ?_)
    refine zey (.A (zz:Tr)) (a0:=(zce zz .full)) rfl rfl rfl (by kernel_rfl) (zo _ _) (by dsimp only[zy,List.set]) ?_
    refine zcb (σ'':=(.B [(59,[.s x18.s,.i x18.a,.i x18.e,(zbd 2 x18.q)]),((zm r.q).1,[]),((zm x18.q).1,(zm x18.q).2),(33,(Enc.cells (zz:Tr))),(27,(Enc.cells (x15.1:BS)))])) (h:=zaz (n:=8) rfl rfl rfl rfl rfl rfl rfl rfl (by decide)) ?_
    have he7:=Option.some.inj h
    subst he7
    exact zgc (a:= .A (zz:Tr)) [2] 1 rfl rfl (zd _ _ _ (zab (Enc.clo _))) (zay rfl (zb (zd _ _ _ rfl) (zb (zd _ _ _ rfl) (zb (zd _ _ _ rfl) (zb (zas (fun _=>rfl)) ze)))) ze (zj rfl (zu _ _ _) zao) rfl)
   ·
    refine zbv hc13 rfl ?_
    refine zi (zc ?_)
    refine zac ?_
    refine w_o (a:= .ptr 0 0) ?_
    refine w_o (a:= .ptr 0 1) ?_
    refine w_o (a:= .i j1.a) ?_
    refine zac ?_
    obtain⟨g8,h⟩:=zp h
    refine w_o (a:= .i (j1.a+x17.2.1)) (h:=zbb (znj rfl rfl rfl rfl g8.1 g8.2)) ?_
    refine w_o (a:= .ptr 0 0) ?_
    refine w_o (a:= .ptr 0 1) ?_
    refine zcb (σ'':=(.B [(59,[.s j1.s,.i (j1.a+x17.2.1),.i j1.e,(zbd 2 j1.q)]),((zm r.q).1,[]),((zm j1.q).1,(zm j1.q).2),(33,[.u 0,.raw (.int .u64 0),.raw (.int .u64 0),.raw (.int .u64 0),.raw (.int .u64 0),.i 0,.i 0,.list 0 [] .full]),(27,(Enc.cells (x15.1:BS)))])) (h:=zcr (n:=1) rfl rfl rfl rfl rfl ⟨rfl,rfl,Nat.le_of_ble_eq_true rfl,by decide⟩) ?_
    refine zi (zc ?_)
    refine zac ?_
    obtain⟨x19,hx19,h⟩:=zv h
    refine zct (args':=[.u x17.1]) (r:= .A (x19:Tr)) (qdn fuel x17.1 x19 hx19) rfl rfl (zh rfl rfl) (by kernel_rfl) (by dsimp only[zy,List.set]) ?_
    refine zcb (σ'':=(.B [(59,[.s j1.s,.i (j1.a+x17.2.1),.i j1.e,(zbd 2 j1.q)]),((zm r.q).1,[]),((zm j1.q).1,(zm j1.q).2),(33,(Enc.cells (x19:Tr))),(27,(Enc.cells (x15.1:BS)))])) (h:=zaz (n:=8) rfl rfl rfl rfl rfl rfl rfl rfl (by decide)) ?_
    have he8:=Option.some.inj h
    subst he8
    exact zgc (a:= .A (x19:Tr)) [2] 1 rfl rfl (zd _ _ _ (zab (Enc.clo _))) (zay rfl (zb (zd _ _ _ rfl) (zb (zd _ _ _ rfl) (zb (zd _ _ _ rfl) (zb (zas (fun _=>rfl)) ze)))) ze (zj rfl (zu _ _ _) zao) rfl)
end Go.Ab
