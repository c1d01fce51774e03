import Derived.Test.YtnoccnalocdldaaDoorZgR2
import Derived.Test.YtnoccnalocdldaaDoorZgRm
set_option linter.all false
set_option maxRecDepth 100000
set_option maxRecDepth 100000
set_option maxHeartbeats 4000000
namespace Go.Ab
open Go Go.RowKit Go.Fwd Go.Proofs
def zxz (r:Rd):Option Rd:=
 (some r)
theorem ent37:Ent Tryd.prog 37:=enters_of Tryd.func37 (by kernel_rfl) rfl
set_option maxHeartbeats 4000000 in
theorem qdz (r:Rd)  (y:Rd)(h:zxz r=some y):RdC Tryd.prog 37 [] r (.clos 56 [.iptr [.ptr 0 0]]) y:=by
 obtain⟨d,hd⟩: ∃d,Tryd.f37.body=some d:=⟨_,rfl⟩
 refine qit mix Tryd.func37 hd ent37 rfl (fun m g hg=>by simp only[zhc,zaf,hg]) (fun k0 hk0=> ?_)
 cases hd
 unfold zxz at h
 refine zbj (by dsimp only[zat,Tryd.f37,List.length_cons,List.length_nil,Nat.zero_add,Nat.reduceAdd,Nat.reduceSub,List.replicate,List.cons_append,List.nil_append]) (show rdS r.q r=⟨[(59,[.raw (.string (bs r.s)),.raw (.int .i64 r.a),.raw (.int .i64 r.e),(zbd 2 r.q)]),((zm r.q).1,[]),((zm r.q).1,(zm r.q).2)],[],[],0,false⟩ from rfl) ?_
 refine zi (zc ?_)
 refine zcb (a:= .ptr 3 0) (σ'':=(.B [(59,[.s r.s,.i r.a,.i r.e,(zbd 2 r.q)]),((zm r.q).1,[]),((zm r.q).1,(zm r.q).2),(56,[.ptr 0 0])])) ?_
 refine w_o (a:= .raw Value.nilFunc) ?_
 refine zi (zc ?_)
 refine w_o (a:= .clos 56 [.ptr 3 0]) ?_
 refine zac ?_
 have he1:=Option.some.inj h
 subst he1
 exact zgc (a:= .clos 56 [.ptr 3 0]) [2] 1 rfl rfl rfl (zay rfl (zb (zd _ _ _ rfl) (zb (zd _ _ _ rfl) (zb (zd _ _ _ rfl) (zb (zas (fun _=>rfl)) ze)))) ze (zj rfl (zu _ _ _) zao) rfl)
theorem ent56:Ent Tryd.prog 56:=enters_of Tryd.func56 (by kernel_rfl) rfl
def z0t (fuel:Nat)(pcs:Rd→Option (List Tr×Rd))(r:Rd):Option (Tr×Rd):=
 (zdr (τ:=Rd×(List Tr)) (zbo (β:=Rd×(List Tr)) (fun s1=>(zdr (τ:=Rd×(List Tr)) (zar (zxz s1.1) (fun x1=>(zar (pcs x1) (fun x2=>(zdr (zek (β:=(List Tr)) (fun s2 w1=>(chk (List.length s2<2^40) (some (Sum.inl ((s2++[w1])))))) x2.1 (([]:List Tr))) (fun s2=>(some (Sum.inl (x2.2,s2))))))))) (fun j2=>(chk ((zda j2.2).length≤2^40) (zbi (seqT j2.2) (fun x3=>(bif (List.isEmpty s1.2) then(chk (0<(List.length [x3])∧(List.length [x3])*80≤140737488355328) (zar (zfz j2.1) (fun x4=>(bif (x4.1 !=124) then(some (Sum.inr (Sum.inl (x4.2,[x3])))) else(chk (-9223372036854775808≤(x4.2.a+1)∧(x4.2.a+1)<9223372036854775808) (some (Sum.inl ((Rd.mk x4.2.s (x4.2.a+1) x4.2.e x4.2.q),[x3])))))))) else(chk (List.length s1.2=(List.length s1.2)∧0<(List.length s1.2)∧0<List.length [x3]∧((List.length s1.2)+List.length [x3])*80≤140737488355328) (zar (zfz j2.1) (fun x5=>(bif (x5.1 !=124) then(some (Sum.inr (Sum.inl (x5.2,(s1.2++[x3]))))) else(chk (-9223372036854775808≤(x5.2.a+1)∧(x5.2.a+1)<9223372036854775808) (some (Sum.inl ((Rd.mk x5.2.s (x5.2.a+1) x5.2.e x5.2.q),(s1.2++[x3])))))))))))))))) fuel (r,([]:List Tr))) (fun j1=>(bif (List.isEmpty j1.2) then(chk ((zda ([]:List Tr)).length≤2^40) (zbi (orT ([]:List Tr)) (fun x6=>(some (x6,j1.1))))) else(chk ((zda j1.2).length≤2^40) (zbi (orT j1.2) (fun x7=>(some (x7,j1.1))))))))
theorem ent20:Ent Tryd.prog 20:=enters_of Tryd.func20 (by kernel_rfl) rfl
set_option maxHeartbeats 16000000 in
theorem alts_rd (fuel:Nat)(pcs:Rd→Option (List Tr×Rd))(r:Rd)(hpc: ∀(r:Rd)(y:List Tr×Rd),pcs r=some y→RdIt Tryd.prog 56 r (y.1.map zmr) y.2)(y:Tr×Rd)(h:z0t fuel pcs r=some y):RdC Tryd.prog 20 [] r (.agg (Enc.cells (y.1:Tr))) y.2:=by
 obtain⟨d,hd⟩: ∃d,Tryd.f20.body=some d:=⟨_,rfl⟩
 refine z7n mix Tryd.func20 hd ent20 rfl (by first|rfl|exact(zab (Enc.clo _))) (fun k0 hk0=> ?_)
 cases hd
 unfold z0t at h
 refine zbj (by dsimp only[zat,Tryd.f20,List.length_cons,List.length_nil,Nat.zero_add,Nat.reduceAdd,Nat.reduceSub,List.replicate,List.cons_append,List.nil_append]) (show rdS r.q r=⟨[(59,[.raw (.string (bs r.s)),.raw (.int .i64 r.a),.raw (.int .i64 r.e),(zbd 2 r.q)]),((zm r.q).1,[]),((zm r.q).1,(zm r.q).2)],[],[],0,false⟩ from rfl) ?_
 refine zi (zc ?_)
 refine zcb (a:= .ptr 3 0) (σ'':=(.B [(59,[.s r.s,.i r.a,.i r.e,(zbd 2 r.q)]),((zm r.q).1,[]),((zm r.q).1,(zm r.q).2),(33,[.u 0,.raw (.int .u64 0),.raw (.int .u64 0),.raw (.int .u64 0),.raw (.int .u64 0),.i 0,.i 0,.list 0 [] .full])])) ?_
 refine qdk ?_
 refine zgn (zc ?_)
 refine w_o (a:= .list 0 [] .full) ?_
 refine zki (S':=(.ptr 0 0:: .raw undef:: .ptr 3 0::(z8f 4 (List.length ([]:List Tr)) 8):: .raw undef:: .raw undef:: .raw undef:: .raw undef:: .raw undef:: .raw undef:: .raw undef:: .raw undef:: .raw undef:: .raw undef:: .raw undef:: .raw undef:: .raw undef:: .raw undef:: .raw undef:: .raw undef:: .raw undef:: .raw undef:: .raw undef:: .raw undef:: .raw undef:: .raw undef:: .raw undef:: .raw undef:: .raw undef:: .raw undef:: .raw undef:: .raw undef::[])) (σ':=(.B [(59,[.s r.s,.i r.a,.i r.e,(zbd 2 r.q)]),((zm r.q).1,[]),((zm r.q).1,(zm r.q).2),(33,[.u 0,.raw (.int .u64 0),.raw (.int .u64 0),.raw (.int .u64 0),.raw (.int .u64 0),.i 0,.i 0,.list 0 [] .full]),(33,(Enc.cellsL (([]:List Tr):List Tr)))])) (qht (true::true::true::true::true::true::true::true::true::true::true::true::true::true::true::true::true::true::true::true::true::true::true::true::true::true::true::true::true::true::true::true::[]) 3 rfl rfl rfl) ?_
 refine zi ?_
 refine qad ?_
 refine zbh h [0,1,3,4,5,6,7,8,9,10,11,12,13,14,15,16,17,18,19,20,21,22,23,24,25,26,27,28,29,30,31] (fun j1=>[(3,(z8f 4 (List.length j1.2) 8))]) (fun j1=>(.B [(59,[.s j1.1.s,.i j1.1.a,.i j1.1.e,(zbd 2 j1.1.q)]),((zm r.q).1,[]),((zm j1.1.q).1,(zm j1.1.q).2),(33,[.u 0,.raw (.int .u64 0),.raw (.int .u64 0),.raw (.int .u64 0),.raw (.int .u64 0),.i 0,.i 0,.list 0 [] .full]),(33,(Enc.cellsL (j1.2:List Tr)))])) ?_ ?_
 ·
  intro or1 h hr1
  refine z4g ?_
  refine zcx h [1,3,4,5,6,7,8,9,10,11,12,13,14,15,16,17,18,19,20,21,22,23,24,25,26,27,28,29,30,31] (fun s1=>[(3,(z8f 4 (List.length s1.2) 8))]) (fun s1=>(.B [(59,[.s s1.1.s,.i s1.1.a,.i s1.1.e,(zbd 2 s1.1.q)]),((zm r.q).1,[]),((zm s1.1.q).1,(zm s1.1.q).2),(33,[.u 0,.raw (.int .u64 0),.raw (.int .u64 0),.raw (.int .u64 0),.raw (.int .u64 0),.i 0,.i 0,.list 0 [] .full]),(33,(Enc.cellsL (s1.2:List Tr)))])) ?_ ?_
  ·
   exact zdq (bl 32 13) (by kernel_rfl) (by kernel_rfl)
  ·
   intro s1 p1 h
   refine zbj (by dsimp only[zbg,zbz,List.foldl,List.set]) rfl ?_
   refine z4g ?_
   refine zi (zc ?_)
   refine zcb (a:= .ptr 5 0) (σ'':=(.B [(59,[.s s1.1.s,.i s1.1.a,.i s1.1.e,(zbd 2 s1.1.q)]),((zm r.q).1,[]),((zm s1.1.q).1,(zm s1.1.q).2),(33,[.u 0,.raw (.int .u64 0),.raw (.int .u64 0),.raw (.int .u64 0),.raw (.int .u64 0),.i 0,.i 0,.list 0 [] .full]),(33,(Enc.cellsL (s1.2:List Tr))),(31,[.F (([]:List Tr):List Tr)])])) ?_
   refine zbh h [5,6,7,8,9,10,11,12,13,14] (fun j2=>[]) (fun j2=>(zcm [(59,[.s j2.1.s,.i j2.1.a,.i j2.1.e,(zbd 2 j2.1.q)]),((zm r.q).1,[]),((zm j2.1.q).1,(zm j2.1.q).2),(33,[.u 0,.raw (.int .u64 0),.raw (.int .u64 0),.raw (.int .u64 0),.raw (.int .u64 0),.i 0,.i 0,.list 0 [] .full]),(33,(Enc.cellsL (s1.2:List Tr))),(31,[(.O (j2.2:List Tr))])] 33 (List.length (j2.2:List Tr)) 8)) ?_ ?_
   ·
    intro or2 h hr2
    refine zgn (zc ?_)
    refine zac ?_
    obtain⟨x1,hx1,h⟩:=zv h
    refine zgm (r:= .clos 56 [.iptr [.ptr 0 0]]) (σ':=(.B [(59,[.s x1.s,.i x1.a,.i x1.e,(zbd 6 x1.q)]),((zm r.q).1,[]),((zm s1.1.q).1,[]),(33,[.u 0,.raw (.int .u64 0),.raw (.int .u64 0),.raw (.int .u64 0),.raw (.int .u64 0),.i 0,.i 0,.list 0 [] .full]),(33,(Enc.cellsL (s1.2:List Tr))),(31,[.F (([]:List Tr):List Tr)]),((zm x1.q).1,(zm x1.q).2)])) ((qdz s1.1 x1 hx1) _ 2 (by decide) rfl rfl) rfl rfl ⟨rfl,rfl⟩ (by dsimp only[zy,List.set]) ?_
    refine zki (S':=[.ptr 0 0,.top,.ptr 3 0,(z8f 4 (List.length s1.2) 8),.ptr 5 0,.top,.top,.clos 56 [.iptr [.ptr 0 0]],.top,.top,.top,.top,.top,.top,.top,.top,.top,.top,.top,.top,.top,.top,.top,.top,.top,.top,.top,.top,.top,.top,.top,.top]) (σ':=(.B [(59,[.s x1.s,.i x1.a,.i x1.e,(zbd 2 x1.q)]),((zm r.q).1,[]),((zm x1.q).1,(zm x1.q).2),(33,[.u 0,.raw (.int .u64 0),.raw (.int .u64 0),.raw (.int .u64 0),.raw (.int .u64 0),.i 0,.i 0,.list 0 [] .full]),(33,(Enc.cellsL (s1.2:List Tr))),(31,[.F (([]:List Tr):List Tr)])])) (zdo (bl 32 157) 2 [] [6,3,4,5] 1 hk0 rfl (zai rfl (zah (zai rfl (zai (z4z (fun _=>rfl)) (zai rfl (zah (zah (zai rfl (zk (zk (zk zcu))))))))))) (zay rfl (zb (zd _ _ _ rfl) (zb (zd _ _ _ rfl) (zb (zd _ _ _ rfl) (zb (zas (fun _=>rfl)) ze)))) ze (zj rfl (zu _ _ _) (zj rfl rfl (zj rfl (zau _ _ _ (Enc.cloL _)) (zj rfl (zb (qcc (Enc.cloL _)) ze) zao)))) rfl)) ?_
    refine zag ?_
    obtain⟨x2,hx2,h⟩:=zv h
    refine qbm h zmr (fun s2=>(zcm [(33,[]),(33,[]),(33,[]),(33,[.u 0,.raw (.int .u64 0),.raw (.int .u64 0),.raw (.int .u64 0),.raw (.int .u64 0),.i 0,.i 0,.list 0 [] .full]),(33,[]),(31,[(.O (s2:List Tr))])] 33 (List.length (s2:List Tr)) 8)) 2 3 [0,1,2,4] (tm:=33) (S':=[.top,.top,.ptr 3 0,.top,.ptr 5 0,.top,.top,.top,.top,.top,.top,.top,.top,.top,.top,.top,.top,.top,.top,.top,.top,.top,.top,.top,.top,.top,.top,.top,.top,.top,.top,.top]) ((hpc _ _ hx2)) ent56 rfl (by decide) rfl rfl rfl rfl (hd_of (by kernel_rfl)) rfl rfl (fgR_of [zzF,zzF,zzT,zzF,zzT,zzF,zzF,zzF,zzF,zzF,zzF,zzF,zzF,zzF,zzF,zzF,zzF,zzF,zzF,zzF,zzF,zzF,zzF,zzF,zzF,zzF,zzF,zzF,zzF,zzF,zzF,zzF] (zah (zah (zai rfl (zah (zai rfl (zk (zk (zk (zah (zah (zah zcu)))))))))))) (fun _=>rfl) rfl rfl ?_ ?_
    ·
     intro s2 w1 p2 h
     refine zbj (by dsimp only[zlh,List.zip,List.zipWith,List.foldl,List.set,Array.toList,zmr]) rfl ?_
     refine zc (k0:=k0) (id:=4) ?_
     refine zcb (a:= .ptr 6 0) (σ'':=(zcm [(33,[]),(33,[]),(33,[]),(33,[.u 0,.raw (.int .u64 0),.raw (.int .u64 0),.raw (.int .u64 0),.raw (.int .u64 0),.i 0,.i 0,.list 0 [] .full]),(33,[]),(31,[(.O (s2:List Tr))]),(33,[.u 0,.raw (.int .u64 0),.raw (.int .u64 0),.raw (.int .u64 0),.raw (.int .u64 0),.i 0,.i 0,.list 0 [] .full])] 33 (List.length (s2:List Tr)) 8)) ?_
     refine zcb (σ'':=(zcm [(33,[]),(33,[]),(33,[]),(33,[.u 0,.raw (.int .u64 0),.raw (.int .u64 0),.raw (.int .u64 0),.raw (.int .u64 0),.i 0,.i 0,.list 0 [] .full]),(33,[]),(31,[(.O (s2:List Tr))]),(33,(Enc.cells (w1:Tr)))] 33 (List.length (s2:List Tr)) 8)) (h:=zaz (n:=8) rfl rfl rfl rfl rfl rfl rfl rfl (by decide)) ?_
     obtain⟨g1,h⟩:=zp h
     refine w_semB [.top,.top,.ptr 3 0,.top,.ptr 5 0,.ptr 6 0,.top,.top,.A (w1:Tr),.top,.top,.top,.top,.top,.top,.top,.top,.top,.top,.top,.top,.top,.top,.top,.top,.top,.top,.top,.top,.top,.top,.top] (zcm [(33,[]),(33,[]),(33,[]),(33,[.u 0,.raw (.int .u64 0),.raw (.int .u64 0),.raw (.int .u64 0),.raw (.int .u64 0),.i 0,.i 0,.list 0 [] .full]),(33,[]),(31,[(.O ((s2++[w1]):List Tr))]),(33,[])] 33 (List.length ((s2++[w1]):List Tr)) 8) (app_reg _ _ _ _ _ s2 w1 g1 rfl) ?_
     exact zfi (p:=p2) ((s2++[w1])) h (zcw (zav rfl (zav rfl (zav rfl (zav rfl (zav rfl (zav (za (zed (Enc.cloL _)) rfl) rfl))))))) (by kernel_rfl)
    ·
     intro s2 h
     refine rd_back (zcm [(59,[.s x2.2.s,.i x2.2.a,.i x2.2.e,(zbd 6 x2.2.q)]),((zm r.q).1,[]),((zm x1.q).1,[]),(33,[.u 0,.raw (.int .u64 0),.raw (.int .u64 0),.raw (.int .u64 0),.raw (.int .u64 0),.i 0,.i 0,.list 0 [] .full]),(33,(Enc.cellsL (s1.2:List Tr))),(31,[(.O (s2:List Tr))]),((zm x2.2.q).1,(zm x2.2.q).2)] 33 (List.length (s2:List Tr)) 8) ?_ (z6t (congrArg (fun(z:List AV)=>([(59,[.s x2.2.s,.i x2.2.a,.i x2.2.e,(zbd 6 x2.2.q)]),((zm r.q).1,[]),((zm x1.q).1,[]),(33,[.u 0,.raw (.int .u64 0),.raw (.int .u64 0),.raw (.int .u64 0),.raw (.int .u64 0),.i 0,.i 0,.list 0 [] .full]),(33,(Enc.cellsL (s1.2:List Tr))),(31,z),((zm x2.2.q).1,(zm x2.2.q).2)]:List (TypeId×List AV))) (zb (zoc (fun hn=>z6e hn)) ze)))
     refine zg (o:=or2) (x2.2,s2) h ?_
     exact(zdo (bl 32 4294934559) 2 [] [6,3,4,5] 1 hk0 rfl (by dsimp only[zbg,zbz,List.foldl,List.set];exact(zai rfl (zai rfl (zai rfl (zai (z4z (fun _=>rfl)) (zai rfl (zk (zah (zah (zai rfl (zai rfl (zai rfl (zai rfl (zai rfl (zai rfl (zai rfl (zai rfl (zai rfl (zai rfl (zai rfl (zai rfl (zai rfl (zai rfl (zai rfl (zai rfl (zai rfl zcu)))))))))))))))))))))))))) (ztn (zb (zd _ _ _ rfl) (zb (zd _ _ _ rfl) (zb (zd _ _ _ rfl) (zb (zas (fun _=>rfl)) ze)))) ze (zj rfl (zu _ _ _) (zj rfl rfl (zj rfl (zau _ _ _ (Enc.cloL _)) (zj rfl (zb (zoc (fun hn=>z6e hn)) ze) zao))))))
   ·
    intro j2 h
    refine zbj (by dsimp only[zbg,zbz,List.foldl,List.set]) rfl ?_
    refine zi (zc ?_)
    refine zac ?_
    refine w_o (a:=(.O (j2.2:List Tr))) ?_
    obtain⟨g2,h⟩:=zp h
    obtain⟨x3,hx3,h⟩:=zt h
    refine zct (args':=[.L (j2.2:List Tr)]) (r:= .A (x3:Tr)) (by rw[←hx3];exact(k_seq j2.2 g2)) rfl rfl (zh (zps (Enc.cloL _) Enc.z) rfl) (za (zed (Enc.cloL _)) rfl) (by dsimp only[zy,List.set]) ?_
    refine w_o (a:= .F ([x3]:List Tr)) (h:=zbb (zhr (α:=Tr) (l:=[x3]) (cs:=Enc.cells (x3:Tr)++[]) rfl (by rw[Enc.cons,Enc.nil]))) ?_
    refine zaa h (fun hc1 h=> ?_) (fun hc1 h=> ?_)
    ·
     rw[z5l (b:=4) hc1]
     obtain⟨g3,h⟩:=zp h
     refine z8k (a:= .bsl 6 0 (List.length [x3]) 8 false) (σ'':=(zcm [(59,[.s j2.1.s,.i j2.1.a,.i j2.1.e,(zbd 2 j2.1.q)]),((zm r.q).1,[]),((zm j2.1.q).1,(zm j2.1.q).2),(33,[.u 0,.raw (.int .u64 0),.raw (.int .u64 0),.raw (.int .u64 0),.raw (.int .u64 0),.i 0,.i 0,.list 0 [] .full]),(33,(Enc.cellsL (s1.2:List Tr))),(31,[(.O (j2.2:List Tr))]),(33,(Enc.cellsL ([x3]:List Tr)))] 33 (List.length (j2.2:List Tr)) 8)) rfl rfl rfl (qgv (α:=Tr) (r:=[x3]) (by':=80) g3 rfl rfl rfl rfl rfl rfl rfl rfl rfl rfl rfl ⟨rfl,by decide⟩) (by dsimp only[zy,List.set]) rfl ?_
     refine zac ?_
     refine zi ?_
     refine zgn (zc ?_)
     refine zac ?_
     obtain⟨x4,hx4,h⟩:=zv h
     refine zgm (r:= .u x4.1) (σ':=(zcm [(59,[.s x4.2.s,.i x4.2.a,.i x4.2.e,(zbd 7 x4.2.q)]),((zm r.q).1,[]),((zm j2.1.q).1,[]),(33,[.u 0,.raw (.int .u64 0),.raw (.int .u64 0),.raw (.int .u64 0),.raw (.int .u64 0),.i 0,.i 0,.list 0 [] .full]),(33,(Enc.cellsL (s1.2:List Tr))),(31,[(.O (j2.2:List Tr))]),(33,(Enc.cellsL ([x3]:List Tr))),((zm x4.2.q).1,(zm x4.2.q).2)] 33 (List.length (j2.2:List Tr)) 8)) ((zpe j2.1 x4 hx4) _ 2 (by decide) rfl rfl) rfl rfl ⟨rfl,rfl⟩ (by dsimp only[zy,List.set]) ?_
     refine w_o (a:= .b (x4.1 !=124)) ?_
     refine zki (S':=[.ptr 0 0,.top,.ptr 3 0,.bsl 6 0 (List.length [x3]) 8 false,.top,.top,.top,.top,.top,.top,.top,.top,.top,.top,.top,.top,.top,.top,.top,.top,.top,.top,.b (x4.1 !=124),.top,.top,.top,.top,.top,.top,.top,.top,.top]) (σ':=(zcm [(59,[.s x4.2.s,.i x4.2.a,.i x4.2.e,(zbd 2 x4.2.q)]),((zm r.q).1,[]),((zm x4.2.q).1,(zm x4.2.q).2),(33,[.u 0,.raw (.int .u64 0),.raw (.int .u64 0),.raw (.int .u64 0),.raw (.int .u64 0),.i 0,.i 0,.list 0 [] .full]),(33,(Enc.cellsL (s1.2:List Tr))),(31,[(.O (j2.2:List Tr))]),(33,(Enc.cellsL ([x3]:List Tr)))] 33 (List.length (j2.2:List Tr)) 8)) (zdo (bl 32 4194317) 2 [] [7,3,4,5,6] 1 hk0 rfl (zai rfl (zah (zai rfl (zai rfl (zk (zk (zah (zah (zai (zd _ _ _ rfl) (zk (zah zcu))))))))))) (ztn (zb (zd _ _ _ rfl) (zb (zd _ _ _ rfl) (zb (zd _ _ _ rfl) (zb (zas (fun _=>rfl)) ze)))) ze (zj rfl (zu _ _ _) (zj rfl rfl (zj rfl (zau _ _ _ (Enc.cloL _)) (zj rfl (zb (zoc (fun hn=>z6e hn)) ze) (zj rfl (zau _ _ _ (Enc.cloL _)) zao))))))) ?_
     refine zaa h (fun hc2 h=> ?_) (fun hc2 h=> ?_)
     ·
      refine zbw hc2 rfl ?_
      refine zaj h (fun h=> ?_)
      refine zwq (S':=[.top,.top,.ptr 3 0,(z8f 4 (List.length [x3]) 8),.top,.top,.top,.top,.top,.top,.top,.top,.top,.top,.top,.top,.top,.top,.top,.top,.top,.top,.top,.top,.top,.top,.top,.top,.top,.top,.top,.top]) (σ':=(.B [(59,[.s x4.2.s,.i x4.2.a,.i x4.2.e,(zbd 2 x4.2.q)]),((zm r.q).1,[]),((zm x4.2.q).1,(zm x4.2.q).2),(33,[.u 0,.raw (.int .u64 0),.raw (.int .u64 0),.raw (.int .u64 0),.raw (.int .u64 0),.i 0,.i 0,.list 0 [] .full]),(33,(Enc.cellsL ([x3]:List Tr)))])) [zzF,zzF,zzT,zzT,zzF,zzF,zzF,zzF,zzF,zzF,zzF,zzF,zzF,zzF,zzF,zzF,zzF,zzF,zzF,zzF,zzF,zzF,zzF,zzF,zzF,zzF,zzF,zzF,zzF,zzF,zzF,zzF] 2 [2,3,6] 1 (Nat.le_refl _) hk0 rfl (zah (zah (zai rfl (zai (zwx (by first|(simp;done)|(simp only[List.length_append,List.length_take];omega)) (by first|(simp;done)) _ _) (zk (zk (zk (zah (zah (zah (zah zcu))))))))))) (zay rfl (zb (zd _ _ _ rfl) (zb (zd _ _ _ rfl) (zb (zd _ _ _ rfl) (zb (zas (fun _=>rfl)) ze)))) ze (zj rfl (zu _ _ _) (zj rfl rfl (zj rfl (zau _ _ _ (Enc.cloL _)) zao))) rfl) ?_
      refine zg (o:=or1) (x4.2,[x3]) h ?_
      exact zdq (bl 32 12) (by kernel_rfl) (by kernel_rfl)
     ·
      refine zbv hc2 rfl ?_
      refine zc (k0:=k0) (id:=8) ?_
      refine zac ?_
      refine w_o (a:= .ptr 0 0) ?_
      refine w_o (a:= .ptr 0 1) ?_
      refine w_o (a:= .i x4.2.a) ?_
      obtain⟨g4,h⟩:=zp h
      refine w_o (a:= .i (x4.2.a+1)) (h:=zbb (znj rfl rfl rfl rfl g4.1 g4.2)) ?_
      refine w_o (a:= .ptr 0 0) ?_
      refine w_o (a:= .ptr 0 1) ?_
      refine zcb (σ'':=(zcm [(59,[.s x4.2.s,.i (x4.2.a+1),.i x4.2.e,(zbd 2 x4.2.q)]),((zm r.q).1,[]),((zm x4.2.q).1,(zm x4.2.q).2),(33,[.u 0,.raw (.int .u64 0),.raw (.int .u64 0),.raw (.int .u64 0),.raw (.int .u64 0),.i 0,.i 0,.list 0 [] .full]),(33,(Enc.cellsL (s1.2:List Tr))),(31,[(.O (j2.2:List Tr))]),(33,(Enc.cellsL ([x3]:List Tr)))] 33 (List.length (j2.2:List Tr)) 8)) (h:=zcr (n:=1) rfl rfl rfl rfl rfl ⟨rfl,rfl,Nat.le_of_ble_eq_true rfl,by decide⟩) ?_
      refine zwq (S':=[.ptr 0 0,.top,.ptr 3 0,(z8f 4 (List.length [x3]) 8),.top,.top,.top,.top,.top,.top,.top,.top,.top,.top,.top,.top,.top,.top,.top,.top,.top,.top,.top,.top,.top,.top,.top,.top,.top,.top,.top,.top]) (σ':=(.B [(59,[.s x4.2.s,.i (x4.2.a+1),.i x4.2.e,(zbd 2 x4.2.q)]),((zm r.q).1,[]),((zm x4.2.q).1,(zm x4.2.q).2),(33,[.u 0,.raw (.int .u64 0),.raw (.int .u64 0),.raw (.int .u64 0),.raw (.int .u64 0),.i 0,.i 0,.list 0 [] .full]),(33,(Enc.cellsL ([x3]:List Tr)))])) [zzT,zzF,zzT,zzT,zzF,zzF,zzF,zzF,zzF,zzF,zzF,zzF,zzF,zzF,zzF,zzF,zzF,zzF,zzF,zzF,zzF,zzF,zzF,zzF,zzF,zzF,zzF,zzF,zzF,zzF,zzF,zzF] 2 [2,3,6] 1 (Nat.le_refl _) hk0 rfl (zai rfl (zah (zai rfl (zai (zwx (by first|(simp;done)|(simp only[List.length_append,List.length_take];omega)) (by first|(simp;done)) _ _) (zk (zk (zk (zah (zah (zah (zah zcu))))))))))) (zay rfl (zb (zd _ _ _ rfl) (zb (zd _ _ _ rfl) (zb (zd _ _ _ rfl) (zb (zas (fun _=>rfl)) ze)))) ze (zj rfl (zu _ _ _) (zj rfl rfl (zj rfl (zau _ _ _ (Enc.cloL _)) zao))) rfl) ?_
      refine zbs (p:=p1) ((Rd.mk x4.2.s (x4.2.a+1) x4.2.e x4.2.q),[x3]) h ?_
      exact zdq (bl 32 13) (by kernel_rfl) (by kernel_rfl)
    ·
     rw[z5t (b:=4) hc1]
     obtain⟨g5,h⟩:=zp h
     refine z8k (a:= .bsl 6 0 ((List.length s1.2)+List.length [x3]) 8 false) (σ'':=(zcm [(59,[.s j2.1.s,.i j2.1.a,.i j2.1.e,(zbd 2 j2.1.q)]),((zm r.q).1,[]),((zm j2.1.q).1,(zm j2.1.q).2),(33,[.u 0,.raw (.int .u64 0),.raw (.int .u64 0),.raw (.int .u64 0),.raw (.int .u64 0),.i 0,.i 0,.list 0 [] .full]),(33,(Enc.cellsL (([]:List Tr):List Tr))),(31,[(.O (j2.2:List Tr))]),(33,(Enc.cellsL ((s1.2++[x3]):List Tr)))] 33 (List.length (j2.2:List Tr)) 8)) rfl rfl rfl (opB_bsl (α:=Tr) (l:=s1.2) (r:=[x3]) (by':=80) g5 rfl rfl rfl rfl rfl rfl rfl rfl rfl rfl rfl rfl ⟨rfl,by decide⟩) (by dsimp only[zy,List.set]) rfl ?_
     refine zac ?_
     refine zi ?_
     refine zgn (zc ?_)
     refine zac ?_
     obtain⟨x5,hx5,h⟩:=zv h
     refine zgm (r:= .u x5.1) (σ':=(zcm [(59,[.s x5.2.s,.i x5.2.a,.i x5.2.e,(zbd 7 x5.2.q)]),((zm r.q).1,[]),((zm j2.1.q).1,[]),(33,[.u 0,.raw (.int .u64 0),.raw (.int .u64 0),.raw (.int .u64 0),.raw (.int .u64 0),.i 0,.i 0,.list 0 [] .full]),(33,(Enc.cellsL (([]:List Tr):List Tr))),(31,[(.O (j2.2:List Tr))]),(33,(Enc.cellsL ((s1.2++[x3]):List Tr))),((zm x5.2.q).1,(zm x5.2.q).2)] 33 (List.length (j2.2:List Tr)) 8)) ((zpe j2.1 x5 hx5) _ 2 (by decide) rfl rfl) rfl rfl ⟨rfl,rfl⟩ (by dsimp only[zy,List.set]) ?_
     refine w_o (a:= .b (x5.1 !=124)) ?_
     refine zki (S':=[.ptr 0 0,.top,.ptr 3 0,.bsl 6 0 ((List.length s1.2)+List.length [x3]) 8 false,.top,.top,.top,.top,.top,.top,.top,.top,.top,.top,.top,.top,.top,.top,.top,.top,.top,.top,.b (x5.1 !=124),.top,.top,.top,.top,.top,.top,.top,.top,.top]) (σ':=(zcm [(59,[.s x5.2.s,.i x5.2.a,.i x5.2.e,(zbd 2 x5.2.q)]),((zm r.q).1,[]),((zm x5.2.q).1,(zm x5.2.q).2),(33,[.u 0,.raw (.int .u64 0),.raw (.int .u64 0),.raw (.int .u64 0),.raw (.int .u64 0),.i 0,.i 0,.list 0 [] .full]),(33,(Enc.cellsL (([]:List Tr):List Tr))),(31,[(.O (j2.2:List Tr))]),(33,(Enc.cellsL ((s1.2++[x3]):List Tr)))] 33 (List.length (j2.2:List Tr)) 8)) (zdo (bl 32 4194317) 2 [] [7,3,4,5,6] 1 hk0 rfl (zai rfl (zah (zai rfl (zai rfl (zk (zk (zah (zah (zai (zd _ _ _ rfl) (zk (zah zcu))))))))))) (ztn (zb (zd _ _ _ rfl) (zb (zd _ _ _ rfl) (zb (zd _ _ _ rfl) (zb (zas (fun _=>rfl)) ze)))) ze (zj rfl (zu _ _ _) (zj rfl rfl (zj rfl (zau _ _ _ (Enc.cloL _)) (zj rfl (zb (zoc (fun hn=>z6e hn)) ze) (zj rfl (zau _ _ _ (Enc.cloL _)) zao))))))) ?_
     refine zaa h (fun hc3 h=> ?_) (fun hc3 h=> ?_)
     ·
      refine zbw hc3 rfl ?_
      refine zaj h (fun h=> ?_)
      refine zwq (S':=[.top,.top,.ptr 3 0,(z8f 4 (List.length (s1.2++[x3])) 8),.top,.top,.top,.top,.top,.top,.top,.top,.top,.top,.top,.top,.top,.top,.top,.top,.top,.top,.top,.top,.top,.top,.top,.top,.top,.top,.top,.top]) (σ':=(.B [(59,[.s x5.2.s,.i x5.2.a,.i x5.2.e,(zbd 2 x5.2.q)]),((zm r.q).1,[]),((zm x5.2.q).1,(zm x5.2.q).2),(33,[.u 0,.raw (.int .u64 0),.raw (.int .u64 0),.raw (.int .u64 0),.raw (.int .u64 0),.i 0,.i 0,.list 0 [] .full]),(33,(Enc.cellsL ((s1.2++[x3]):List Tr)))])) [zzF,zzF,zzT,zzT,zzF,zzF,zzF,zzF,zzF,zzF,zzF,zzF,zzF,zzF,zzF,zzF,zzF,zzF,zzF,zzF,zzF,zzF,zzF,zzF,zzF,zzF,zzF,zzF,zzF,zzF,zzF,zzF] 2 [2,3,6] 1 (Nat.le_refl _) hk0 rfl (zah (zah (zai rfl (zai (zwx (by first|(simp;done)|(simp only[List.length_append,List.length_take];omega)) (by first|(simp;done)) _ _) (zk (zk (zk (zah (zah (zah (zah zcu))))))))))) (zay rfl (zb (zd _ _ _ rfl) (zb (zd _ _ _ rfl) (zb (zd _ _ _ rfl) (zb (zas (fun _=>rfl)) ze)))) ze (zj rfl (zu _ _ _) (zj rfl rfl (zj rfl (zau _ _ _ (Enc.cloL _)) zao))) rfl) ?_
      refine zg (o:=or1) (x5.2,(s1.2++[x3])) h ?_
      exact zdq (bl 32 12) (by kernel_rfl) (by kernel_rfl)
     ·
      refine zbv hc3 rfl ?_
      refine zc (k0:=k0) (id:=8) ?_
      refine zac ?_
      refine w_o (a:= .ptr 0 0) ?_
      refine w_o (a:= .ptr 0 1) ?_
      refine w_o (a:= .i x5.2.a) ?_
      obtain⟨g6,h⟩:=zp h
      refine w_o (a:= .i (x5.2.a+1)) (h:=zbb (znj rfl rfl rfl rfl g6.1 g6.2)) ?_
      refine w_o (a:= .ptr 0 0) ?_
      refine w_o (a:= .ptr 0 1) ?_
      refine zcb (σ'':=(zcm [(59,[.s x5.2.s,.i (x5.2.a+1),.i x5.2.e,(zbd 2 x5.2.q)]),((zm r.q).1,[]),((zm x5.2.q).1,(zm x5.2.q).2),(33,[.u 0,.raw (.int .u64 0),.raw (.int .u64 0),.raw (.int .u64 0),.raw (.int .u64 0),.i 0,.i 0,.list 0 [] .full]),(33,(Enc.cellsL (([]:List Tr):List Tr))),(31,[(.O (j2.2:List Tr))]),(33,(Enc.cellsL ((s1.2++[x3]):List Tr)))] 33 (List.length (j2.2:List Tr)) 8)) (h:=zcr (n:=1) rfl rfl rfl rfl rfl ⟨rfl,rfl,Nat.le_of_ble_eq_true rfl,by decide⟩) ?_
      refine zwq (S':=[.ptr 0 0,.top,.ptr 3 0,(z8f 4 (List.length (s1.2++[x3])) 8),.top,.top,.top,.top,.top,.top,.top,.top,.top,.top,.top,.top,.top,.top,.top,.top,.top,.top,.top,.top,.top,.top,.top,.top,.top,.top,.top,.top]) (σ':=(.B [(59,[.s x5.2.s,.i (x5.2.a+1),.i x5.2.e,(zbd 2 x5.2.q)]),((zm r.q).1,[]),((zm x5.2.q).1,(zm x5.2.q).2),(33,[.u 0,.raw (.int .u64 0),.raw (.int .u64 0),.raw (.int .u64 0),.raw (.int .u64 0),.i 0,.i 0,.list 0 [] .full]),(33,(Enc.cellsL ((s1.2++[x3]):List Tr)))])) [zzT,zzF,zzT,zzT,zzF,zzF,zzF,zzF,zzF,zzF,zzF,zzF,zzF,zzF,zzF,zzF,zzF,zzF,zzF,zzF,zzF,zzF,zzF,zzF,zzF,zzF,zzF,zzF,zzF,zzF,zzF,zzF] 2 [2,3,6] 1 (Nat.le_refl _) hk0 rfl (zai rfl (zah (zai rfl (zai (zwx (by first|(simp;done)|(simp only[List.length_append,List.length_take];omega)) (by first|(simp;done)) _ _) (zk (zk (zk (zah (zah (zah (zah zcu))))))))))) (zay rfl (zb (zd _ _ _ rfl) (zb (zd _ _ _ rfl) (zb (zd _ _ _ rfl) (zb (zas (fun _=>rfl)) ze)))) ze (zj rfl (zu _ _ _) (zj rfl rfl (zj rfl (zau _ _ _ (Enc.cloL _)) zao))) rfl) ?_
      refine zbs (p:=p1) ((Rd.mk x5.2.s (x5.2.a+1) x5.2.e x5.2.q),(s1.2++[x3])) h ?_
      exact zdq (bl 32 13) (by kernel_rfl) (by kernel_rfl)
 ·
  intro j1 h
  refine zbj (by dsimp only[zbg,zbz,List.foldl,List.set]) rfl ?_
  refine zaa h (fun hc4 h=> ?_) (fun hc4 h=> ?_)
  ·
   rw[z5l (b:=4) hc4]
   refine zi (zc ?_)
   refine zac ?_
   obtain⟨g7,h⟩:=zp h
   obtain⟨x6,hx6,h⟩:=zt h
   refine zct (args':=[.list 0 [] .none]) (r:= .A (x6:Tr)) (by rw[←hx6];exact(k_or ([]:List Tr) g7)) rfl rfl (zh rfl rfl) (by kernel_rfl) (by dsimp only[zy,List.set]) ?_
   refine zcb (σ'':=(.B [(59,[.s j1.1.s,.i j1.1.a,.i j1.1.e,(zbd 2 j1.1.q)]),((zm r.q).1,[]),((zm j1.1.q).1,(zm j1.1.q).2),(33,(Enc.cells (x6:Tr))),(33,(Enc.cellsL (j1.2:List Tr)))])) (h:=zaz (n:=8) rfl rfl rfl rfl rfl rfl rfl rfl (by decide)) ?_
   have he1:=Option.some.inj h
   subst he1
   exact zgc (a:= .A (x6:Tr)) [2] 1 rfl rfl (zd _ _ _ (zab (Enc.clo _))) (zay rfl (zb (zd _ _ _ rfl) (zb (zd _ _ _ rfl) (zb (zd _ _ _ rfl) (zb (zas (fun _=>rfl)) ze)))) ze (zj rfl (zu _ _ _) zao) rfl)
  ·
   rw[z5t (b:=4) hc4]
   refine zi (zc ?_)
   refine zac ?_
   obtain⟨g8,h⟩:=zp h
   obtain⟨x7,hx7,h⟩:=zt h
   refine zgm (r:= .A (x7:Tr)) (σ':=(.B [(59,[.s j1.1.s,.i j1.1.a,.i j1.1.e,(zbd 2 j1.1.q)]),((zm r.q).1,[]),((zm j1.1.q).1,(zm j1.1.q).2),(33,[.u 0,.raw (.int .u64 0),.raw (.int .u64 0),.raw (.int .u64 0),.raw (.int .u64 0),.i 0,.i 0,.list 0 [] .full]),(33,(Enc.cellsL (([]:List Tr):List Tr)))])) (snd_frz (α:=Tr) (t:=33) (l:=j1.2) (ar:=[]) (ar':=[]) (r:= .A (x7:Tr)) (zn _) (by rw[←hx7];exact(k_or j1.2 g8)) rfl rfl rfl) rfl rfl ⟨rfl,rfl⟩ (by dsimp only[zy,List.set]) ?_
   refine zcb (σ'':=(.B [(59,[.s j1.1.s,.i j1.1.a,.i j1.1.e,(zbd 2 j1.1.q)]),((zm r.q).1,[]),((zm j1.1.q).1,(zm j1.1.q).2),(33,(Enc.cells (x7:Tr))),(33,(Enc.cellsL (([]:List Tr):List Tr)))])) (h:=zaz (n:=8) rfl rfl rfl rfl rfl rfl rfl rfl (by decide)) ?_
   have he2:=Option.some.inj h
   subst he2
   exact zgc (a:= .A (x7:Tr)) [2] 1 rfl rfl (zd _ _ _ (zab (Enc.clo _))) (zay rfl (zb (zd _ _ _ rfl) (zb (zd _ _ _ rfl) (zb (zd _ _ _ rfl) (zb (zas (fun _=>rfl)) ze)))) ze (zj rfl (zu _ _ _) zao) rfl)
end Go.Ab
