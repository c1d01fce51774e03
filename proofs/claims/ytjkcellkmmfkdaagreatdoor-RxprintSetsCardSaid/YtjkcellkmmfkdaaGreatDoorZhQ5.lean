import Derived.Test.YtjkcellkmmfkdaaGreatDoorZhR9
set_option linter.all false
set_option maxRecDepth 100000
set_option maxHeartbeats 4000000
open Sum (inl inr)
open Nat (le_refl zero_add)
open List (length length_cons length_append length_nil foldl cons_append nil_append mem_range isEmpty map_cons length_take)
open Go.Proofs.Tryz (prog)
namespace Go.Ab
open Go Go.RowKit Go.Fwd Go.Proofs
def zws (r:Rd):Option Rd:=
 (some r)
theorem ent106:Ent prog 106:=enters_of Tryz.func106 (by kernel_rfl) rfl
theorem qdp (r:Rd)  (y:Rd)(h:zws r=some y):RdC prog 106 [] r (.clos 153 [.iptr [.ptr 0 0]]) y:=by
 obtain⟨d,hd⟩: ∃d,Tryz.f106.body=some d:=⟨_,rfl⟩;refine qil mix Tryz.func106 hd ent106 rfl (fun m g hg=>by simp only[zgv,zv,hg]) (fun k0 hk0=> ?_);cases hd;unfold zws at h;refine zav (by dsimp only[zad,Tryz.f106,length_cons,length_nil,zero_add,Nat.reduceAdd,Nat.reduceSub,List.replicate,cons_append,nil_append]) (show rdS r.q r=⟨[(110,[.s r.s,.i r.a,.i r.e,(zbb 2 r.q)]),((zj r.q).1,[]),((zj r.q).1,(zj r.q).2)],[],[],0,false⟩ from rfl) ?_;refine zm (zb ?_);refine zoc (a:= .ptr 3 0) (U'':=⟨[(110,[.s r.s,.i r.a,.i r.e,(zbb 2 r.q)]),((zj r.q).1,[]),((zj r.q).1,(zj r.q).2),(108,[.ptr 0 0])],[],[],0,false⟩) ?_;refine w_o (a:= .raw Value.nilFunc) ?_;refine zm (zb ?_);refine w_o (a:= .clos 153 [.ptr 3 0]) ?_;refine zz ?_;have he1:=Option.some.inj h;subst he1;exact zfr (a:= .clos 153 [.ptr 3 0]) [2] 1 rfl rfl rfl (zap rfl (zf (zn _ _ _ rfl) (zf (zn _ _ _ rfl) (zf (zn _ _ _ rfl) (zf (zer (fun _=>rfl)) zk)))) zk (zh rfl (zo _ _ _) zae) rfl)
theorem ent153b:Ent prog 153:=enters_of Tryz.func153 (by kernel_rfl) rfl
def zsv (fuel:Nat)(pcs:Rd->Option (List Tr×Rd))(r:Rd):Option (Tr×Rd):=
 (zdg (τ:=Rd×(List Tr)) (zcf (β:=Rd×(List Tr)) (fun s1=>(zdg (τ:=Rd×(List Tr)) (zaa (zws s1.1) (fun x1=>(zaa (pcs x1) (fun x2=>(zdg (zcu (β:=(List Tr)) (fun s2 w1=>(chk (length s2<2^40) (some (inl ((s2++[w1])))))) x2.1 (([]:List Tr))) (fun s2=>(some (inl (x2.2,s2))))))))) (fun j2=>(chk ((zdn j2.2).length<=2^40) (zbl (seqT j2.2) (fun x3=>(bif (isEmpty s1.2) then(chk (0<(length [x3])/\ (length [x3])*80<=140737488355328) (zaa (zfm j2.1) (fun x4=>(bif (x4.1 !=124) then(some (inr (inl (x4.2,[x3])))) else(chk (-9223372036854775808<=(x4.2.a+1)/\ (x4.2.a+1)<9223372036854775808) (some (inl ((Rd.mk x4.2.s (x4.2.a+1) x4.2.e x4.2.q),[x3])))))))) else(chk (length s1.2=(length s1.2)/\ 0<(length s1.2)/\ 0<length [x3]/\ ((length s1.2)+length [x3])*80<=140737488355328) (zaa (zfm j2.1) (fun x5=>(bif (x5.1 !=124) then(some (inr (inl (x5.2,(s1.2++[x3]))))) else(chk (-9223372036854775808<=(x5.2.a+1)/\ (x5.2.a+1)<9223372036854775808) (some (inl ((Rd.mk x5.2.s (x5.2.a+1) x5.2.e x5.2.q),(s1.2++[x3])))))))))))))))) fuel (r,([]:List Tr))) (fun j1=>(bif (isEmpty j1.2) then(chk ((zdn ([]:List Tr)).length<=2^40) (zbl (orT ([]:List Tr)) (fun x6=>(some (x6,j1.1))))) else(chk ((zdn j1.2).length<=2^40) (zbl (orT j1.2) (fun x7=>(some (x7,j1.1))))))))
theorem ent59:Ent prog 59:=enters_of Tryz.func59 (by kernel_rfl) rfl
set_option maxHeartbeats 16000000 in
theorem alts_rd (fuel:Nat)(pcs:Rd->Option (List Tr×Rd))(r:Rd)(hpc: ∀(r:Rd)(y:List Tr×Rd),pcs r=some y->RdIt prog 153 r (y.1.map zmc) y.2)(y:Tr×Rd)(h:zsv fuel pcs r=some y):RdC prog 59 [] r (.agg (Enc.cells (y.1:Tr))) y.2:=by
 obtain⟨d,hd⟩: ∃d,Tryz.f59.body=some d:=⟨_,rfl⟩;refine z7x mix Tryz.func59 hd ent59 rfl (by first|rfl|exact(zp (Enc.clo _))) (fun k0 hk0=> ?_);cases hd;unfold zsv at h;refine zav (by dsimp only[zad,Tryz.f59,length_cons,length_nil,zero_add,Nat.reduceAdd,Nat.reduceSub,List.replicate,cons_append,nil_append]) (show rdS r.q r=⟨[(110,[.s r.s,.i r.a,.i r.e,(zbb 2 r.q)]),((zj r.q).1,[]),((zj r.q).1,(zj r.q).2)],[],[],0,false⟩ from rfl) ?_;refine zm (zb ?_);refine zoc (a:= .ptr 3 0) (U'':=⟨[(110,[.s r.s,.i r.a,.i r.e,(zbb 2 r.q)]),((zj r.q).1,[]),((zj r.q).1,(zj r.q).2),(27,[.u 0,.raw (.int .u64 0),.raw (.int .u64 0),.raw (.int .u64 0),.raw (.int .u64 0),.i 0,.i 0,.list 0 [] .full])],[],[],0,false⟩) ?_;refine z9k ?_;refine zge (zb ?_);refine w_o (a:= .list 0 [] .full) ?_;refine z9b (S':=(.ptr 0 0:: .raw undef:: .ptr 3 0::(z6f 4 (length ([]:List Tr)) 8):: .raw undef:: .raw undef:: .raw undef:: .raw undef:: .raw undef:: .raw undef:: .raw undef:: .raw undef:: .raw undef:: .raw undef:: .raw undef:: .raw undef:: .raw undef:: .raw undef:: .raw undef:: .raw undef:: .raw undef:: .raw undef:: .raw undef:: .raw undef:: .raw undef:: .raw undef:: .raw undef:: .raw undef:: .raw undef:: .raw undef:: .raw undef:: .raw undef::[])) (U':=⟨[(110,[.s r.s,.i r.a,.i r.e,(zbb 2 r.q)]),((zj r.q).1,[]),((zj r.q).1,(zj r.q).2),(27,[.u 0,.raw (.int .u64 0),.raw (.int .u64 0),.raw (.int .u64 0),.raw (.int .u64 0),.i 0,.i 0,.list 0 [] .full]),(27,(Enc.cellsL (([]:List Tr):List Tr)))],[],[],0,false⟩) (qgr (true::true::true::true::true::true::true::true::true::true::true::true::true::true::true::true::true::true::true::true::true::true::true::true::true::true::true::true::true::true::true::true::[]) 3 rfl rfl rfl) ?_;refine zm ?_;refine qds ?_;refine zaz h [0,1,3,4,5,6,7,8,9,10,11,12,13,14,15,16,17,18,19,20,21,22,23,24,25,26,27,28,29,30,31] (fun j1=>[(3,(z6f 4 (length j1.2) 8))]) (fun j1=>⟨[(110,[.s j1.1.s,.i j1.1.a,.i j1.1.e,(zbb 2 j1.1.q)]),((zj r.q).1,[]),((zj j1.1.q).1,(zj j1.1.q).2),(27,[.u 0,.raw (.int .u64 0),.raw (.int .u64 0),.raw (.int .u64 0),.raw (.int .u64 0),.i 0,.i 0,.list 0 [] .full]),(27,(Enc.cellsL (j1.2:List Tr)))],[],[],0,false⟩) ?_ ?_;intro or1 h hr1;refine z3o ?_;refine zec h [1,3,4,5,6,7,8,9,10,11,12,13,14,15,16,17,18,19,20,21,22,23,24,25,26,27,28,29,30,31] (fun s1=>[(3,(z6f 4 (length s1.2) 8))]) (fun s1=>⟨[(110,[.s s1.1.s,.i s1.1.a,.i s1.1.e,(zbb 2 s1.1.q)]),((zj r.q).1,[]),((zj s1.1.q).1,(zj s1.1.q).2),(27,[.u 0,.raw (.int .u64 0),.raw (.int .u64 0),.raw (.int .u64 0),.raw (.int .u64 0),.i 0,.i 0,.list 0 [] .full]),(27,(Enc.cellsL (s1.2:List Tr)))],[],[],0,false⟩) ?_ ?_;exact zhm (bl 32 13) (by kernel_rfl) (by kernel_rfl);intro s1 p1 h;refine zav (by dsimp only[zbg,zcl,foldl,List.set]) rfl ?_;refine z3o ?_;refine zm (zb ?_);refine zoc (a:= .ptr 5 0) (U'':=⟨[(110,[.s s1.1.s,.i s1.1.a,.i s1.1.e,(zbb 2 s1.1.q)]),((zj r.q).1,[]),((zj s1.1.q).1,(zj s1.1.q).2),(27,[.u 0,.raw (.int .u64 0),.raw (.int .u64 0),.raw (.int .u64 0),.raw (.int .u64 0),.i 0,.i 0,.list 0 [] .full]),(27,(Enc.cellsL (s1.2:List Tr))),(25,[.list (length (([]:List Tr):List Tr)) (Enc.cellsL (([]:List Tr):List Tr)) .full])],[],[],0,false⟩) ?_;refine zaz h [5,6,7,8,9,10,11,12,13,14] (fun j2=>[]) (fun j2=>(zcn [(110,[.s j2.1.s,.i j2.1.a,.i j2.1.e,(zbb 2 j2.1.q)]),((zj r.q).1,[]),((zj j2.1.q).1,(zj j2.1.q).2),(27,[.u 0,.raw (.int .u64 0),.raw (.int .u64 0),.raw (.int .u64 0),.raw (.int .u64 0),.i 0,.i 0,.list 0 [] .full]),(27,(Enc.cellsL (s1.2:List Tr))),(25,[(zck (length (j2.2:List Tr)) (Enc.cellsL (j2.2:List Tr)))])] 27 (length (j2.2:List Tr)) 8)) ?_ ?_;intro or2 h hr2;refine zge (zb ?_);refine zz ?_;obtain⟨x1,hx1,h⟩:=zr h;refine zgg (r:= .clos 153 [.iptr [.ptr 0 0]]) (U':=⟨[(110,[.s x1.s,.i x1.a,.i x1.e,(zbb 6 x1.q)]),((zj r.q).1,[]),((zj s1.1.q).1,[]),(27,[.u 0,.raw (.int .u64 0),.raw (.int .u64 0),.raw (.int .u64 0),.raw (.int .u64 0),.i 0,.i 0,.list 0 [] .full]),(27,(Enc.cellsL (s1.2:List Tr))),(25,[.list (length (([]:List Tr):List Tr)) (Enc.cellsL (([]:List Tr):List Tr)) .full]),((zj x1.q).1,(zj x1.q).2)],[],[],0,false⟩) ((qdp s1.1 x1 hx1) _ 2 (by decide) rfl rfl) rfl rfl ⟨rfl,rfl⟩ (by dsimp only[zi,List.set]) ?_;refine z9b (S':=[.ptr 0 0,.top,.ptr 3 0,(z6f 4 (length s1.2) 8),.ptr 5 0,.top,.top,.clos 153 [.iptr [.ptr 0 0]],.top,.top,.top,.top,.top,.top,.top,.top,.top,.top,.top,.top,.top,.top,.top,.top,.top,.top,.top,.top,.top,.top,.top,.top]) (U':=⟨[(110,[.s x1.s,.i x1.a,.i x1.e,(zbb 2 x1.q)]),((zj r.q).1,[]),((zj x1.q).1,(zj x1.q).2),(27,[.u 0,.raw (.int .u64 0),.raw (.int .u64 0),.raw (.int .u64 0),.raw (.int .u64 0),.i 0,.i 0,.list 0 [] .full]),(27,(Enc.cellsL (s1.2:List Tr))),(25,[.list (length (([]:List Tr):List Tr)) (Enc.cellsL (([]:List Tr):List Tr)) .full])],[],[],0,false⟩) (zqz (bl 32 157) 2 [] [6,3,4,5] 1 hk0 rfl (zco rfl (zcp (zco rfl (zco (z4o (fun _=>rfl)) (zco rfl (zcp (zcp (zco rfl (zdr (zdr (zdr zhx))))))))))) (zap rfl (zf (zn _ _ _ rfl) (zf (zn _ _ _ rfl) (zf (zn _ _ _ rfl) (zf (zer (fun _=>rfl)) zk)))) zk (zh rfl (zo _ _ _) (zh rfl rfl (zh rfl (zam _ _ _ (Enc.cloL _)) (zh rfl (zf (qcl (Enc.cloL _)) zk) zae)))) rfl)) ?_;refine zac ?_;obtain⟨x2,hx2,h⟩:=zr h;refine z9u h zmc (fun s2=>(zcn [(27,[]),(27,[]),(27,[]),(27,[.u 0,.raw (.int .u64 0),.raw (.int .u64 0),.raw (.int .u64 0),.raw (.int .u64 0),.i 0,.i 0,.list 0 [] .full]),(27,[]),(25,[(zck (length (s2:List Tr)) (Enc.cellsL (s2:List Tr)))])] 27 (length (s2:List Tr)) 8)) 2 3 [0,1,2,4] (tm:=27) (S':=[.top,.top,.ptr 3 0,.top,.ptr 5 0,.top,.top,.top,.top,.top,.top,.top,.top,.top,.top,.top,.top,.top,.top,.top,.top,.top,.top,.top,.top,.top,.top,.top,.top,.top,.top,.top]) ((hpc _ _ hx2)) ent153b rfl (by decide) rfl rfl rfl rfl (hd_of (by kernel_rfl)) rfl rfl (fgR_of [false,false,true,false,true,false,false,false,false,false,false,false,false,false,false,false,false,false,false,false,false,false,false,false,false,false,false,false,false,false,false,false] (zcp (zcp (zco rfl (zcp (zco rfl (zdr (zdr (zdr (zcp (zcp (zcp zhx)))))))))))) (fun _=>rfl) rfl rfl ?_ ?_;intro s2 w1 p2 h;refine zav (by dsimp only[zix,List.zip,List.zipWith,foldl,List.set,Array.toList,zmc]) rfl ?_;refine zb (k0:=k0) (id:=4) ?_;refine zoc (a:= .ptr 6 0) (U'':=(zcn [(27,[]),(27,[]),(27,[]),(27,[.u 0,.raw (.int .u64 0),.raw (.int .u64 0),.raw (.int .u64 0),.raw (.int .u64 0),.i 0,.i 0,.list 0 [] .full]),(27,[]),(25,[(zck (length (s2:List Tr)) (Enc.cellsL (s2:List Tr)))]),(27,[.u 0,.raw (.int .u64 0),.raw (.int .u64 0),.raw (.int .u64 0),.raw (.int .u64 0),.i 0,.i 0,.list 0 [] .full])] 27 (length (s2:List Tr)) 8)) ?_;refine zoc (U'':=(zcn [(27,[]),(27,[]),(27,[]),(27,[.u 0,.raw (.int .u64 0),.raw (.int .u64 0),.raw (.int .u64 0),.raw (.int .u64 0),.i 0,.i 0,.list 0 [] .full]),(27,[]),(25,[(zck (length (s2:List Tr)) (Enc.cellsL (s2:List Tr)))]),(27,(Enc.cells (w1:Tr)))] 27 (length (s2:List Tr)) 8)) (h:=zcd (n:=8) rfl rfl rfl rfl rfl rfl rfl rfl (by decide)) ?_;obtain⟨g1,h⟩:=zt h;refine w_semB [.top,.top,.ptr 3 0,.top,.ptr 5 0,.ptr 6 0,.top,.top,.agg (Enc.cells (w1:Tr)),.top,.top,.top,.top,.top,.top,.top,.top,.top,.top,.top,.top,.top,.top,.top,.top,.top,.top,.top,.top,.top,.top,.top] (zcn [(27,[]),(27,[]),(27,[]),(27,[.u 0,.raw (.int .u64 0),.raw (.int .u64 0),.raw (.int .u64 0),.raw (.int .u64 0),.i 0,.i 0,.list 0 [] .full]),(27,[]),(25,[(zck (length ((s2++[w1]):List Tr)) (Enc.cellsL ((s2++[w1]):List Tr)))]),(27,[])] 27 (length ((s2++[w1]):List Tr)) 8) (app_reg _ _ _ _ _ s2 w1 g1 rfl) ?_;exact zeh (p:=p2) ((s2++[w1])) h (zcm (zan rfl (zan rfl (zan rfl (zan rfl (zan rfl (zan (za (zei (Enc.cloL _)) rfl) rfl))))))) (by kernel_rfl);intro s2 h;refine rd_back (zcn [(110,[.s x2.2.s,.i x2.2.a,.i x2.2.e,(zbb 6 x2.2.q)]),((zj r.q).1,[]),((zj x1.q).1,[]),(27,[.u 0,.raw (.int .u64 0),.raw (.int .u64 0),.raw (.int .u64 0),.raw (.int .u64 0),.i 0,.i 0,.list 0 [] .full]),(27,(Enc.cellsL (s1.2:List Tr))),(25,[(zck (length (s2:List Tr)) (Enc.cellsL (s2:List Tr)))]),((zj x2.2.q).1,(zj x2.2.q).2)] 27 (length (s2:List Tr)) 8) ?_ (z7m (congrArg (fun(z:List AV)=>([(110,[.s x2.2.s,.i x2.2.a,.i x2.2.e,(zbb 6 x2.2.q)]),((zj r.q).1,[]),((zj x1.q).1,[]),(27,[.u 0,.raw (.int .u64 0),.raw (.int .u64 0),.raw (.int .u64 0),.raw (.int .u64 0),.i 0,.i 0,.list 0 [] .full]),(27,(Enc.cellsL (s1.2:List Tr))),(25,z),((zj x2.2.q).1,(zj x2.2.q).2)]:List (TypeId×List AV))) (zf (zms (fun hn=>z3q hn)) zk)));refine zc (o:=or2) (x2.2,s2) h ?_;exact(zqz (bl 32 4294934559) 2 [] [6,3,4,5] 1 hk0 rfl (by dsimp only[zbg,zcl,foldl,List.set];exact(zco rfl (zco rfl (zco rfl (zco (z4o (fun _=>rfl)) (zco rfl (zdr (zcp (zcp (zco rfl (zco rfl (zco rfl (zco rfl (zco rfl (zco rfl (zco rfl (zco rfl (zco rfl (zco rfl (zco rfl (zco rfl (zco rfl (zco rfl (zco rfl (zco rfl (zco rfl zhx)))))))))))))))))))))))))) (zsw (zf (zn _ _ _ rfl) (zf (zn _ _ _ rfl) (zf (zn _ _ _ rfl) (zf (zer (fun _=>rfl)) zk)))) zk (zh rfl (zo _ _ _) (zh rfl rfl (zh rfl (zam _ _ _ (Enc.cloL _)) (zh rfl (zf (zms (fun hn=>z3q hn)) zk) zae))))));intro j2 h;refine zav (by dsimp only[zbg,zcl,foldl,List.set]) rfl ?_;refine zm (zb ?_);refine zz ?_;refine w_o (a:=(zck (length (j2.2:List Tr)) (Enc.cellsL (j2.2:List Tr)))) ?_;obtain⟨g2,h⟩:=zt h;obtain⟨x3,hx3,h⟩:=zu h;refine zbt (args':=[.list (length (j2.2:List Tr)) (Enc.cellsL (j2.2:List Tr)) .none]) (r:= .agg (Enc.cells (x3:Tr))) (by rw[<-hx3];exact(k_seq j2.2 g2)) rfl rfl (zg (zsz (Enc.cloL _) Enc.z) rfl) (za (zei (Enc.cloL _)) rfl) (by dsimp only[zi,List.set]) ?_;refine w_o (a:= .list (length ([x3]:List Tr)) (Enc.cellsL ([x3]:List Tr)) .full) (h:=zbf (zic (α:=Tr) (l:=[x3]) (cs:=Enc.cells (x3:Tr)++[]) rfl (by rw[Enc.cons,Enc.nil]))) ?_;refine zah h (fun hc1 h=> ?_) (fun hc1 h=> ?_);rw[z4q (b:=4) hc1];obtain⟨g3,h⟩:=zt h;refine z7f (a:= .bsl 6 0 (length [x3]) 8 false) (U'':=(zcn [(110,[.s j2.1.s,.i j2.1.a,.i j2.1.e,(zbb 2 j2.1.q)]),((zj r.q).1,[]),((zj j2.1.q).1,(zj j2.1.q).2),(27,[.u 0,.raw (.int .u64 0),.raw (.int .u64 0),.raw (.int .u64 0),.raw (.int .u64 0),.i 0,.i 0,.list 0 [] .full]),(27,(Enc.cellsL (s1.2:List Tr))),(25,[(zck (length (j2.2:List Tr)) (Enc.cellsL (j2.2:List Tr)))]),(27,(Enc.cellsL ([x3]:List Tr)))] 27 (length (j2.2:List Tr)) 8)) rfl rfl rfl (qha (α:=Tr) (r:=[x3]) (by':=80) g3 rfl rfl rfl rfl rfl rfl rfl rfl rfl rfl rfl ⟨rfl,by decide⟩) (by dsimp only[zi,List.set]) rfl ?_;refine zz ?_;refine zm ?_;refine zge (zb ?_);refine zz ?_;obtain⟨x4,hx4,h⟩:=zr h;refine zgg (r:= .u x4.1) (U':=(zcn [(110,[.s x4.2.s,.i x4.2.a,.i x4.2.e,(zbb 7 x4.2.q)]),((zj r.q).1,[]),((zj j2.1.q).1,[]),(27,[.u 0,.raw (.int .u64 0),.raw (.int .u64 0),.raw (.int .u64 0),.raw (.int .u64 0),.i 0,.i 0,.list 0 [] .full]),(27,(Enc.cellsL (s1.2:List Tr))),(25,[(zck (length (j2.2:List Tr)) (Enc.cellsL (j2.2:List Tr)))]),(27,(Enc.cellsL ([x3]:List Tr))),((zj x4.2.q).1,(zj x4.2.q).2)] 27 (length (j2.2:List Tr)) 8)) ((zoq j2.1 x4 hx4) _ 2 (by decide) rfl rfl) rfl rfl ⟨rfl,rfl⟩ (by dsimp only[zi,List.set]) ?_;refine w_o (a:= .b (x4.1 !=124)) ?_;refine z9b (S':=[.ptr 0 0,.top,.ptr 3 0,.bsl 6 0 (length [x3]) 8 false,.top,.top,.top,.top,.top,.top,.top,.top,.top,.top,.top,.top,.top,.top,.top,.top,.top,.top,.b (x4.1 !=124),.top,.top,.top,.top,.top,.top,.top,.top,.top]) (U':=(zcn [(110,[.s x4.2.s,.i x4.2.a,.i x4.2.e,(zbb 2 x4.2.q)]),((zj r.q).1,[]),((zj x4.2.q).1,(zj x4.2.q).2),(27,[.u 0,.raw (.int .u64 0),.raw (.int .u64 0),.raw (.int .u64 0),.raw (.int .u64 0),.i 0,.i 0,.list 0 [] .full]),(27,(Enc.cellsL (s1.2:List Tr))),(25,[(zck (length (j2.2:List Tr)) (Enc.cellsL (j2.2:List Tr)))]),(27,(Enc.cellsL ([x3]:List Tr)))] 27 (length (j2.2:List Tr)) 8)) (zqz (bl 32 4194317) 2 [] [7,3,4,5,6] 1 hk0 rfl (zco rfl (zcp (zco rfl (zco rfl (zdr (zdr (zcp (zcp (zco (zn _ _ _ rfl) (zdr (zcp zhx))))))))))) (zsw (zf (zn _ _ _ rfl) (zf (zn _ _ _ rfl) (zf (zn _ _ _ rfl) (zf (zer (fun _=>rfl)) zk)))) zk (zh rfl (zo _ _ _) (zh rfl rfl (zh rfl (zam _ _ _ (Enc.cloL _)) (zh rfl (zf (zms (fun hn=>z3q hn)) zk) (zh rfl (zam _ _ _ (Enc.cloL _)) zae))))))) ?_;refine zah h (fun hc2 h=> ?_) (fun hc2 h=> ?_);refine zet hc2 rfl ?_;refine zak h (fun h=> ?_);refine zww (S':=[.top,.top,.ptr 3 0,(z6f 4 (length [x3]) 8),.top,.top,.top,.top,.top,.top,.top,.top,.top,.top,.top,.top,.top,.top,.top,.top,.top,.top,.top,.top,.top,.top,.top,.top,.top,.top,.top,.top]) (U':=⟨[(110,[.s x4.2.s,.i x4.2.a,.i x4.2.e,(zbb 2 x4.2.q)]),((zj r.q).1,[]),((zj x4.2.q).1,(zj x4.2.q).2),(27,[.u 0,.raw (.int .u64 0),.raw (.int .u64 0),.raw (.int .u64 0),.raw (.int .u64 0),.i 0,.i 0,.list 0 [] .full]),(27,(Enc.cellsL ([x3]:List Tr)))],[],[],0,false⟩) [false,false,true,true,false,false,false,false,false,false,false,false,false,false,false,false,false,false,false,false,false,false,false,false,false,false,false,false,false,false,false,false] 2 [2,3,6] 1 (le_refl _) hk0 rfl (zcp (zcp (zco rfl (zco (zxj (by first|(simp;done)|(simp only[length_append,length_take];omega)) (by first|(simp;done)) _ _) (zdr (zdr (zdr (zcp (zcp (zcp (zcp zhx))))))))))) (zap rfl (zf (zn _ _ _ rfl) (zf (zn _ _ _ rfl) (zf (zn _ _ _ rfl) (zf (zer (fun _=>rfl)) zk)))) zk (zh rfl (zo _ _ _) (zh rfl rfl (zh rfl (zam _ _ _ (Enc.cloL _)) zae))) rfl) ?_;refine zc (o:=or1) (x4.2,[x3]) h ?_;exact zhm (bl 32 12) (by kernel_rfl) (by kernel_rfl);refine zev hc2 rfl ?_;refine zb (k0:=k0) (id:=8) ?_;refine zz ?_;refine w_o (a:= .ptr 0 0) ?_;refine w_o (a:= .ptr 0 1) ?_;refine w_o (a:= .i x4.2.a) ?_;obtain⟨g4,h⟩:=zt h;refine w_o (a:= .i (x4.2.a+1)) (h:=zbf (z2r rfl rfl rfl rfl g4.1 g4.2)) ?_;refine w_o (a:= .ptr 0 0) ?_;refine w_o (a:= .ptr 0 1) ?_;refine zoc (U'':=(zcn [(110,[.s x4.2.s,.i (x4.2.a+1),.i x4.2.e,(zbb 2 x4.2.q)]),((zj r.q).1,[]),((zj x4.2.q).1,(zj x4.2.q).2),(27,[.u 0,.raw (.int .u64 0),.raw (.int .u64 0),.raw (.int .u64 0),.raw (.int .u64 0),.i 0,.i 0,.list 0 [] .full]),(27,(Enc.cellsL (s1.2:List Tr))),(25,[(zck (length (j2.2:List Tr)) (Enc.cellsL (j2.2:List Tr)))]),(27,(Enc.cellsL ([x3]:List Tr)))] 27 (length (j2.2:List Tr)) 8)) (h:=zcr (n:=1) rfl rfl rfl rfl rfl ⟨rfl,rfl,Nat.le_of_ble_eq_true rfl,by decide⟩) ?_;refine zww (S':=[.ptr 0 0,.top,.ptr 3 0,(z6f 4 (length [x3]) 8),.top,.top,.top,.top,.top,.top,.top,.top,.top,.top,.top,.top,.top,.top,.top,.top,.top,.top,.top,.top,.top,.top,.top,.top,.top,.top,.top,.top]) (U':=⟨[(110,[.s x4.2.s,.i (x4.2.a+1),.i x4.2.e,(zbb 2 x4.2.q)]),((zj r.q).1,[]),((zj x4.2.q).1,(zj x4.2.q).2),(27,[.u 0,.raw (.int .u64 0),.raw (.int .u64 0),.raw (.int .u64 0),.raw (.int .u64 0),.i 0,.i 0,.list 0 [] .full]),(27,(Enc.cellsL ([x3]:List Tr)))],[],[],0,false⟩) [true,false,true,true,false,false,false,false,false,false,false,false,false,false,false,false,false,false,false,false,false,false,false,false,false,false,false,false,false,false,false,false] 2 [2,3,6] 1 (le_refl _) hk0 rfl (zco rfl (zcp (zco rfl (zco (zxj (by first|(simp;done)|(simp only[length_append,length_take];omega)) (by first|(simp;done)) _ _) (zdr (zdr (zdr (zcp (zcp (zcp (zcp zhx))))))))))) (zap rfl (zf (zn _ _ _ rfl) (zf (zn _ _ _ rfl) (zf (zn _ _ _ rfl) (zf (zer (fun _=>rfl)) zk)))) zk (zh rfl (zo _ _ _) (zh rfl rfl (zh rfl (zam _ _ _ (Enc.cloL _)) zae))) rfl) ?_;refine zcj (p:=p1) ((Rd.mk x4.2.s (x4.2.a+1) x4.2.e x4.2.q),[x3]) h ?_;exact zhm (bl 32 13) (by kernel_rfl) (by kernel_rfl);rw[z4d (b:=4) hc1];obtain⟨g5,h⟩:=zt h;refine z7f (a:= .bsl 6 0 ((length s1.2)+length [x3]) 8 false) (U'':=(zcn [(110,[.s j2.1.s,.i j2.1.a,.i j2.1.e,(zbb 2 j2.1.q)]),((zj r.q).1,[]),((zj j2.1.q).1,(zj j2.1.q).2),(27,[.u 0,.raw (.int .u64 0),.raw (.int .u64 0),.raw (.int .u64 0),.raw (.int .u64 0),.i 0,.i 0,.list 0 [] .full]),(27,(Enc.cellsL (([]:List Tr):List Tr))),(25,[(zck (length (j2.2:List Tr)) (Enc.cellsL (j2.2:List Tr)))]),(27,(Enc.cellsL ((s1.2++[x3]):List Tr)))] 27 (length (j2.2:List Tr)) 8)) rfl rfl rfl (opB_bsl (α:=Tr) (l:=s1.2) (r:=[x3]) (by':=80) g5 rfl rfl rfl rfl rfl rfl rfl rfl rfl rfl rfl rfl ⟨rfl,by decide⟩) (by dsimp only[zi,List.set]) rfl ?_;refine zz ?_;refine zm ?_;refine zge (zb ?_);refine zz ?_;obtain⟨x5,hx5,h⟩:=zr h;refine zgg (r:= .u x5.1) (U':=(zcn [(110,[.s x5.2.s,.i x5.2.a,.i x5.2.e,(zbb 7 x5.2.q)]),((zj r.q).1,[]),((zj j2.1.q).1,[]),(27,[.u 0,.raw (.int .u64 0),.raw (.int .u64 0),.raw (.int .u64 0),.raw (.int .u64 0),.i 0,.i 0,.list 0 [] .full]),(27,(Enc.cellsL (([]:List Tr):List Tr))),(25,[(zck (length (j2.2:List Tr)) (Enc.cellsL (j2.2:List Tr)))]),(27,(Enc.cellsL ((s1.2++[x3]):List Tr))),((zj x5.2.q).1,(zj x5.2.q).2)] 27 (length (j2.2:List Tr)) 8)) ((zoq j2.1 x5 hx5) _ 2 (by decide) rfl rfl) rfl rfl ⟨rfl,rfl⟩ (by dsimp only[zi,List.set]) ?_;refine w_o (a:= .b (x5.1 !=124)) ?_;refine z9b (S':=[.ptr 0 0,.top,.ptr 3 0,.bsl 6 0 ((length s1.2)+length [x3]) 8 false,.top,.top,.top,.top,.top,.top,.top,.top,.top,.top,.top,.top,.top,.top,.top,.top,.top,.top,.b (x5.1 !=124),.top,.top,.top,.top,.top,.top,.top,.top,.top]) (U':=(zcn [(110,[.s x5.2.s,.i x5.2.a,.i x5.2.e,(zbb 2 x5.2.q)]),((zj r.q).1,[]),((zj x5.2.q).1,(zj x5.2.q).2),(27,[.u 0,.raw (.int .u64 0),.raw (.int .u64 0),.raw (.int .u64 0),.raw (.int .u64 0),.i 0,.i 0,.list 0 [] .full]),(27,(Enc.cellsL (([]:List Tr):List Tr))),(25,[(zck (length (j2.2:List Tr)) (Enc.cellsL (j2.2:List Tr)))]),(27,(Enc.cellsL ((s1.2++[x3]):List Tr)))] 27 (length (j2.2:List Tr)) 8)) (zqz (bl 32 4194317) 2 [] [7,3,4,5,6] 1 hk0 rfl (zco rfl (zcp (zco rfl (zco rfl (zdr (zdr (zcp (zcp (zco (zn _ _ _ rfl) (zdr (zcp zhx))))))))))) (zsw (zf (zn _ _ _ rfl) (zf (zn _ _ _ rfl) (zf (zn _ _ _ rfl) (zf (zer (fun _=>rfl)) zk)))) zk (zh rfl (zo _ _ _) (zh rfl rfl (zh rfl (zam _ _ _ (Enc.cloL _)) (zh rfl (zf (zms (fun hn=>z3q hn)) zk) (zh rfl (zam _ _ _ (Enc.cloL _)) zae))))))) ?_;refine zah h (fun hc3 h=> ?_) (fun hc3 h=> ?_);refine zet hc3 rfl ?_;refine zak h (fun h=> ?_);refine zww (S':=[.top,.top,.ptr 3 0,(z6f 4 (length (s1.2++[x3])) 8),.top,.top,.top,.top,.top,.top,.top,.top,.top,.top,.top,.top,.top,.top,.top,.top,.top,.top,.top,.top,.top,.top,.top,.top,.top,.top,.top,.top]) (U':=⟨[(110,[.s x5.2.s,.i x5.2.a,.i x5.2.e,(zbb 2 x5.2.q)]),((zj r.q).1,[]),((zj x5.2.q).1,(zj x5.2.q).2),(27,[.u 0,.raw (.int .u64 0),.raw (.int .u64 0),.raw (.int .u64 0),.raw (.int .u64 0),.i 0,.i 0,.list 0 [] .full]),(27,(Enc.cellsL ((s1.2++[x3]):List Tr)))],[],[],0,false⟩) [false,false,true,true,false,false,false,false,false,false,false,false,false,false,false,false,false,false,false,false,false,false,false,false,false,false,false,false,false,false,false,false] 2 [2,3,6] 1 (le_refl _) hk0 rfl (zcp (zcp (zco rfl (zco (zxj (by first|(simp;done)|(simp only[length_append,length_take];omega)) (by first|(simp;done)) _ _) (zdr (zdr (zdr (zcp (zcp (zcp (zcp zhx))))))))))) (zap rfl (zf (zn _ _ _ rfl) (zf (zn _ _ _ rfl) (zf (zn _ _ _ rfl) (zf (zer (fun _=>rfl)) zk)))) zk (zh rfl (zo _ _ _) (zh rfl rfl (zh rfl (zam _ _ _ (Enc.cloL _)) zae))) rfl) ?_;refine zc (o:=or1) (x5.2,(s1.2++[x3])) h ?_;exact zhm (bl 32 12) (by kernel_rfl) (by kernel_rfl);refine zev hc3 rfl ?_;refine zb (k0:=k0) (id:=8) ?_;refine zz ?_;refine w_o (a:= .ptr 0 0) ?_;refine w_o (a:= .ptr 0 1) ?_;refine w_o (a:= .i x5.2.a) ?_;obtain⟨g6,h⟩:=zt h;refine w_o (a:= .i (x5.2.a+1)) (h:=zbf (z2r rfl rfl rfl rfl g6.1 g6.2)) ?_;refine w_o (a:= .ptr 0 0) ?_;refine w_o (a:= .ptr 0 1) ?_;refine zoc (U'':=(zcn [(110,[.s x5.2.s,.i (x5.2.a+1),.i x5.2.e,(zbb 2 x5.2.q)]),((zj r.q).1,[]),((zj x5.2.q).1,(zj x5.2.q).2),(27,[.u 0,.raw (.int .u64 0),.raw (.int .u64 0),.raw (.int .u64 0),.raw (.int .u64 0),.i 0,.i 0,.list 0 [] .full]),(27,(Enc.cellsL (([]:List Tr):List Tr))),(25,[(zck (length (j2.2:List Tr)) (Enc.cellsL (j2.2:List Tr)))]),(27,(Enc.cellsL ((s1.2++[x3]):List Tr)))] 27 (length (j2.2:List Tr)) 8)) (h:=zcr (n:=1) rfl rfl rfl rfl rfl ⟨rfl,rfl,Nat.le_of_ble_eq_true rfl,by decide⟩) ?_;refine zww (S':=[.ptr 0 0,.top,.ptr 3 0,(z6f 4 (length (s1.2++[x3])) 8),.top,.top,.top,.top,.top,.top,.top,.top,.top,.top,.top,.top,.top,.top,.top,.top,.top,.top,.top,.top,.top,.top,.top,.top,.top,.top,.top,.top]) (U':=⟨[(110,[.s x5.2.s,.i (x5.2.a+1),.i x5.2.e,(zbb 2 x5.2.q)]),((zj r.q).1,[]),((zj x5.2.q).1,(zj x5.2.q).2),(27,[.u 0,.raw (.int .u64 0),.raw (.int .u64 0),.raw (.int .u64 0),.raw (.int .u64 0),.i 0,.i 0,.list 0 [] .full]),(27,(Enc.cellsL ((s1.2++[x3]):List Tr)))],[],[],0,false⟩) [true,false,true,true,false,false,false,false,false,false,false,false,false,false,false,false,false,false,false,false,false,false,false,false,false,false,false,false,false,false,false,false] 2 [2,3,6] 1 (le_refl _) hk0 rfl (zco rfl (zcp (zco rfl (zco (zxj (by first|(simp;done)|(simp only[length_append,length_take];omega)) (by first|(simp;done)) _ _) (zdr (zdr (zdr (zcp (zcp (zcp (zcp zhx))))))))))) (zap rfl (zf (zn _ _ _ rfl) (zf (zn _ _ _ rfl) (zf (zn _ _ _ rfl) (zf (zer (fun _=>rfl)) zk)))) zk (zh rfl (zo _ _ _) (zh rfl rfl (zh rfl (zam _ _ _ (Enc.cloL _)) zae))) rfl) ?_;refine zcj (p:=p1) ((Rd.mk x5.2.s (x5.2.a+1) x5.2.e x5.2.q),(s1.2++[x3])) h ?_;exact zhm (bl 32 13) (by kernel_rfl) (by kernel_rfl);intro j1 h;refine zav (by dsimp only[zbg,zcl,foldl,List.set]) rfl ?_;refine zah h (fun hc4 h=> ?_) (fun hc4 h=> ?_);rw[z4q (b:=4) hc4];refine zm (zb ?_);refine zz ?_;obtain⟨g7,h⟩:=zt h;obtain⟨x6,hx6,h⟩:=zu h;refine zbt (args':=[.list 0 [] .none]) (r:= .agg (Enc.cells (x6:Tr))) (by rw[<-hx6];exact(k_or ([]:List Tr) g7)) rfl rfl (zg rfl rfl) (by kernel_rfl) (by dsimp only[zi,List.set]) ?_;refine zoc (U'':=⟨[(110,[.s j1.1.s,.i j1.1.a,.i j1.1.e,(zbb 2 j1.1.q)]),((zj r.q).1,[]),((zj j1.1.q).1,(zj j1.1.q).2),(27,(Enc.cells (x6:Tr))),(27,(Enc.cellsL (j1.2:List Tr)))],[],[],0,false⟩) (h:=zcd (n:=8) rfl rfl rfl rfl rfl rfl rfl rfl (by decide)) ?_;have he1:=Option.some.inj h;subst he1;exact zfr (a:= .agg (Enc.cells (x6:Tr))) [2] 1 rfl rfl (zn _ _ _ (zp (Enc.clo _))) (zap rfl (zf (zn _ _ _ rfl) (zf (zn _ _ _ rfl) (zf (zn _ _ _ rfl) (zf (zer (fun _=>rfl)) zk)))) zk (zh rfl (zo _ _ _) zae) rfl);rw[z4d (b:=4) hc4];refine zm (zb ?_);refine zz ?_;obtain⟨g8,h⟩:=zt h;obtain⟨x7,hx7,h⟩:=zu h;refine zgg (r:= .agg (Enc.cells (x7:Tr))) (U':=⟨[(110,[.s j1.1.s,.i j1.1.a,.i j1.1.e,(zbb 2 j1.1.q)]),((zj r.q).1,[]),((zj j1.1.q).1,(zj j1.1.q).2),(27,[.u 0,.raw (.int .u64 0),.raw (.int .u64 0),.raw (.int .u64 0),.raw (.int .u64 0),.i 0,.i 0,.list 0 [] .full]),(27,(Enc.cellsL (([]:List Tr):List Tr)))],[],[],0,false⟩) (snd_frz (α:=Tr) (t:=27) (l:=j1.2) (ar:=[]) (ar':=[]) (r:= .agg (Enc.cells (x7:Tr))) (ze _) (by rw[<-hx7];exact(k_or j1.2 g8)) rfl rfl rfl) rfl rfl ⟨rfl,rfl⟩ (by dsimp only[zi,List.set]) ?_;refine zoc (U'':=⟨[(110,[.s j1.1.s,.i j1.1.a,.i j1.1.e,(zbb 2 j1.1.q)]),((zj r.q).1,[]),((zj j1.1.q).1,(zj j1.1.q).2),(27,(Enc.cells (x7:Tr))),(27,(Enc.cellsL (([]:List Tr):List Tr)))],[],[],0,false⟩) (h:=zcd (n:=8) rfl rfl rfl rfl rfl rfl rfl rfl (by decide)) ?_;have he2:=Option.some.inj h;subst he2;exact zfr (a:= .agg (Enc.cells (x7:Tr))) [2] 1 rfl rfl (zn _ _ _ (zp (Enc.clo _))) (zap rfl (zf (zn _ _ _ rfl) (zf (zn _ _ _ rfl) (zf (zn _ _ _ rfl) (zf (zer (fun _=>rfl)) zk)))) zk (zh rfl (zo _ _ _) zae) rfl)
end Go.Ab
namespace Go.Ab
open Go Go.RowKit Go.Fwd Go.Proofs
noncomputable def qgq (fuel:Nat)(a:Rd->Option (Tr×Rd))(rows:List Tr)(r:Rd):Option (Nat×Rd):=
 (zaa (zfm r) (fun x1=>(zcf (β:=Int×Rd×Nat) (fun s1=>(bif (s1.1 !=0) then(bif (s1.1 !=124) then(bif (s1.1 !=41) then(zaa (a s1.2.1) (fun x2=>(zaa (zeb fuel x2.1 x2.2) (fun x3=>(z6n (rows[s1.2.2]? =some x3.1) (zaa (zfm x3.2) (fun x4=>(some (inl (x4.1,x4.2,(s1.2.2+1))))))))))) else(some (inr (s1.2.2,s1.2.1)))) else(some (inr (s1.2.2,s1.2.1)))) else(some (inr (s1.2.2,s1.2.1))))) fuel (x1.1,x1.2,0))))
theorem ent153:Ent prog 153:=enters_of Tryz.func153 (by kernel_rfl) rfl
theorem pc1_it (fuel:Nat)(a:Rd->Option (Tr×Rd))(rows:List Tr)(r:Rd)(ha: ∀(r:Rd)(y:Tr×Rd),a r=some y->RdC prog 155 [] r (.A y.1) y.2)(r2:Rd)(h:qgq fuel a rows r=some (rows.length,r2)):RdIt prog 153 r (rows.map zmc) r2:=by
 obtain⟨c,hc⟩: ∃c,Tryz.f153.body=some c:=⟨_,rfl⟩;refine qgu mix Tryz.func153 hc (fun G hGr k0 hk0=> ?_);obtain⟨l,hGl⟩: ∃l,G.l=l:=⟨_,rfl⟩;rw[List.length_map,hGl];cases hc;unfold qgq at h;refine zav (by dsimp only[zad,Tryz.f153,length_cons,length_nil,zero_add,Nat.reduceAdd,Nat.reduceSub,List.replicate,cons_append,nil_append]) (show rdS r.q r=(.B [(110,[.s r.s,.i r.a,.i r.e,(zbb 2 r.q)]),((zj r.q).1,[]),((zj r.q).1,(zj r.q).2)]) from rfl) ?_;refine zge (zb ?_);refine w_o (a:= .ptr 0 0) ?_;obtain⟨x1,hx1,h⟩:=zr h;refine zgg (r:= .u x1.1) (U':=(.B [(110,[.s x1.2.s,.i x1.2.a,.i x1.2.e,(zbb 3 x1.2.q)]),((zj r.q).1,[]),((zj r.q).1,[]),((zj x1.2.q).1,(zj x1.2.q).2)])) ((zoq r x1 hx1) _ 2 (by decide) rfl rfl) rfl rfl ⟨rfl,rfl⟩ (by dsimp only[zi,List.set]) ?_;refine zz ?_;refine zih 25 [(0,.yld l),(1,.iptr [.ptr 0 0]),(3,.u x1.1)] (U':=(.B [(110,[.s x1.2.s,.i x1.2.a,.i x1.2.e,(zbb 2 x1.2.q)]),((zj r.q).1,[]),((zj x1.2.q).1,(zj x1.2.q).2)])) (wmk (bl 25 11) 2 [] [3] 1 hk0 (zap rfl (zld fun _=>rfl) zk (zh rfl (zo _ _ _) zae) rfl)) ?_;refine zac ?_;refine zec h (bz 0 25 33554376) (fun s1=>[(3,.u s1.1)]) (fun s1=>⟨[(110,[.s s1.2.1.s,.i s1.2.1.a,.i s1.2.1.e,(zbb 2 s1.2.1.q)]),((zj r.q).1,[]),((zj s1.2.1.q).1,(zj s1.2.1.q).2)],[],[],s1.2.2,false⟩) ?_ ?_;exact zbp (bl 25 63);intro s1 p1 h;refine zeo ?_;refine zm ?_;refine zx [.m _,.v (.b (s1.1 !=0))] ?_;refine zah h (fun hc1 h=> ?_) (fun hc1 h=> ?_);refine zaw hc1 ?_;refine w_r [.m _,.v (.b (s1.1 !=124)),.v (.b (s1.1 !=124))] ?_;refine zah h (fun hc2 h=> ?_) (fun hc2 h=> ?_);refine zaw hc2 ?_;refine w_r [.m _,.v (.b (s1.1 !=41)),.v (.b (s1.1 !=41))] ?_;refine zch h (fun hc3 h=> ?_) (fun hc3 h=> ?_);refine zm ?_;refine zac ?_;obtain⟨x2,hx2,h⟩:=zr h;obtain⟨x3,hx3,h⟩:=zr h;obtain⟨g1,h⟩:=zyl h;refine w_seqC (id:=3) ?_;refine zos (fun ops hops FIN hFIN S0 hS0=> ?_);obtain⟨psY,hpsY⟩: ∃ps:List (Option (Nat×AV)),ps=[some (18,.yld l),some (19,.ptr 0 0),some (20,.ptr 0 0),some (21,.A (x2.1:Tr)),some (22,.A (x3.1:Tr)),some (23,.b true),some (24,.b false)]:=⟨_,rfl⟩;have zY7:aN (ITP prog) prog (some G) ops FIN S0 psY 7 0 127 ⟨[(110,[.s x3.2.s,.i x3.2.a,.i x3.2.e,(zbb 4 x3.2.q)]),((zj r.q).1,[]),((zj s1.2.1.q).1,[]),((zj x2.2.q).1,[]),((zj x3.2.q).1,(zj x3.2.q).2)],[],[],(s1.2.2+1),false⟩:=by
  refine aN_0 hops hS0 hpsY (hFIN _ _ ?_);refine zbz rfl ?_;refine zb (k0:=k0) (id:=2) ?_;refine w_o (a:= .ptr 0 0) ?_;obtain⟨x4,hx4,h⟩:=zr h;refine zgg (r:= .u x4.1) (U':=⟨[(110,[.s x4.2.s,.i x4.2.a,.i x4.2.e,(zbb 5 x4.2.q)]),((zj r.q).1,[]),((zj s1.2.1.q).1,[]),((zj x2.2.q).1,[]),((zj x3.2.q).1,[]),((zj x4.2.q).1,(zj x4.2.q).2)],[],[],(s1.2.2+1),false⟩) ((zoq x3.2 x4 hx4) _ 4 (by decide) rfl rfl) rfl rfl ⟨rfl,rfl⟩ (by dsimp only[zi,List.set]) ?_;refine zz ?_;refine zcj (p:=p1) (x4.1,x4.2,(s1.2.2+1)) h ?_;exact(wmk (bl 25 63) 2 [] [5] 1 hk0 (zap rfl (zld fun _=>rfl) zk (zh rfl (zo _ _ _) zae) rfl))
 have zY6:aN (ITP prog) prog (some G) ops FIN S0 psY 7 1 63 ⟨[(110,[.s x3.2.s,.i x3.2.a,.i x3.2.e,(zbb 4 x3.2.q)]),((zj r.q).1,[]),((zj s1.2.1.q).1,[]),((zj x2.2.q).1,[]),((zj x3.2.q).1,(zj x3.2.q).2)],[],[],(s1.2.2+1),false⟩:=by
  refine zju hops hS0 hpsY 6 ?_;refine w_o (a:= .b false) ?_;exact zd zY7 hS0 hpsY
 obtain⟨psN,hpsN⟩: ∃ps:List (Option (Nat×AV)),ps=[some (18,.yld l),some (19,.ptr 0 0),some (20,.ptr 0 0),some (21,.A (x2.1:Tr)),some (22,.A (x3.1:Tr)),some (23,.b false),some (24,.b true)]:=⟨_,rfl⟩;have zN7:aN (ITP prog) prog (some G) ops FIN S0 psN 7 0 127 ⟨[(110,[.s x3.2.s,.i x3.2.a,.i x3.2.e,(zbb 4 x3.2.q)]),((zj r.q).1,[]),((zj s1.2.1.q).1,[]),((zj x2.2.q).1,[]),((zj x3.2.q).1,(zj x3.2.q).2)],[],[],s1.2.2,true⟩:=by
  refine aN_0 hops hS0 hpsN (hFIN _ _ ?_);refine zdy rfl ?_;refine .inr ?_;exact⟨⟨.tup [],rfl⟩,.inl rfl⟩
 have zN6:aN (ITP prog) prog (some G) ops FIN S0 psN 7 1 63 ⟨[(110,[.s x3.2.s,.i x3.2.a,.i x3.2.e,(zbb 4 x3.2.q)]),((zj r.q).1,[]),((zj s1.2.1.q).1,[]),((zj x2.2.q).1,[]),((zj x3.2.q).1,(zj x3.2.q).2)],[],[],s1.2.2,true⟩:=by
  refine zju hops hS0 hpsN 6 ?_;refine w_o (a:= .b true) ?_;exact zd zN7 hS0 hpsN
 obtain⟨ps,hps⟩: ∃ps:List (Option (Nat×AV)),ps=[some (18,.yld l),some (19,.ptr 0 0),some (20,.ptr 0 0),some (21,.A (x2.1:Tr)),some (22,.A (x3.1:Tr)),none,none]:=⟨_,rfl⟩;have n13:aN (ITP prog) prog (some G) ops FIN S0 ps 7 2 31 ⟨[(110,[.s x3.2.s,.i x3.2.a,.i x3.2.e,(zbb 4 x3.2.q)]),((zj r.q).1,[]),((zj s1.2.1.q).1,[]),((zj x2.2.q).1,[]),((zj x3.2.q).1,(zj x3.2.q).2)],[],[],s1.2.2,false⟩:=by
  refine zju hops hS0 hps 5 ?_;refine znt (row:=zmc) (x:=x3.1) (U1:=⟨[(110,[.s x3.2.s,.i x3.2.a,.i x3.2.e,(zbb 4 x3.2.q)]),((zj r.q).1,[]),((zj s1.2.1.q).1,[]),((zj x2.2.q).1,[]),((zj x3.2.q).1,(zj x3.2.q).2)],[],[],(s1.2.2+1),false⟩) (U2:=⟨[(110,[.s x3.2.s,.i x3.2.a,.i x3.2.e,(zbb 4 x3.2.q)]),((zj r.q).1,[]),((zj s1.2.1.q).1,[]),((zj x2.2.q).1,[]),((zj x3.2.q).1,(zj x3.2.q).2)],[],[],s1.2.2,true⟩) g1 (zg (zbd (zp (Enc.clo _))) rfl) (za (zy _ _ (zp (Enc.clo _))) rfl) (zuz rfl) rfl hGl hGr rfl rfl rfl rfl (by dsimp only[zi,List.set]) (by dsimp only[zi,List.set]) rfl rfl ?_ ?_;exact zd zY6 hS0 hpsY;exact zd zN6 hS0 hpsN
 have n12:aN (ITP prog) prog (some G) ops FIN S0 ps 7 3 30 ⟨[(110,[.s x3.2.s,.i x3.2.a,.i x3.2.e,(zbb 4 x3.2.q)]),((zj r.q).1,[]),((zj s1.2.1.q).1,[]),((zj x2.2.q).1,[]),((zj x3.2.q).1,(zj x3.2.q).2)],[],[],s1.2.2,false⟩:=by
  refine zju hops hS0 hps 0 ?_;refine zz ?_;exact zd n13 hS0 hps
 have n11:aN (ITP prog) prog (some G) ops FIN S0 ps 7 3 15 ⟨[(110,[.s x2.2.s,.i x2.2.a,.i x2.2.e,(zbb 3 x2.2.q)]),((zj r.q).1,[]),((zj s1.2.1.q).1,[]),((zj x2.2.q).1,(zj x2.2.q).2)],[],[],s1.2.2,false⟩:=by
  refine zju hops hS0 hps 4 ?_;refine zgg (r:= .A (x3.1:Tr)) (U':=⟨[(110,[.s x3.2.s,.i x3.2.a,.i x3.2.e,(zbb 4 x3.2.q)]),((zj r.q).1,[]),((zj s1.2.1.q).1,[]),((zj x2.2.q).1,[]),((zj x3.2.q).1,(zj x3.2.q).2)],[],[],s1.2.2,false⟩) ((zuv fuel x2.1 x2.2 x3 hx3) _ 3 (by decide) rfl rfl) rfl rfl ⟨rfl,rfl⟩ (by dsimp only[zi,List.set]) ?_;exact zd n13 hS0 hps
 have n10:aN (ITP prog) prog (some G) ops FIN S0 ps 7 4 14 ⟨[(110,[.s x2.2.s,.i x2.2.a,.i x2.2.e,(zbb 3 x2.2.q)]),((zj r.q).1,[]),((zj s1.2.1.q).1,[]),((zj x2.2.q).1,(zj x2.2.q).2)],[],[],s1.2.2,false⟩:=by
  refine zea hops hS0 hps 0 4 ?_ ?_;refine zz ?_;exact zd n11 hS0 hps;refine zgg (r:= .A (x3.1:Tr)) (U':=⟨[(110,[.s x3.2.s,.i x3.2.a,.i x3.2.e,(zbb 4 x3.2.q)]),((zj r.q).1,[]),((zj s1.2.1.q).1,[]),((zj x2.2.q).1,[]),((zj x3.2.q).1,(zj x3.2.q).2)],[],[],s1.2.2,false⟩) ((zuv fuel x2.1 x2.2 x3 hx3) _ 3 (by decide) rfl rfl) rfl rfl ⟨rfl,rfl⟩ (by dsimp only[zi,List.set]) ?_;exact zd n12 hS0 hps
 have n9:aN (ITP prog) prog (some G) ops FIN S0 ps 7 4 13 ⟨[(110,[.s x2.2.s,.i x2.2.a,.i x2.2.e,(zbb 3 x2.2.q)]),((zj r.q).1,[]),((zj s1.2.1.q).1,[]),((zj x2.2.q).1,(zj x2.2.q).2)],[],[],s1.2.2,false⟩:=by
  refine zju hops hS0 hps 1 ?_;refine w_o (a:= .ptr 0 0) ?_;exact zd n11 hS0 hps
 have n8:aN (ITP prog) prog (some G) ops FIN S0 ps 7 4 7 ⟨[(110,[.s s1.2.1.s,.i s1.2.1.a,.i s1.2.1.e,(zbb 2 s1.2.1.q)]),((zj r.q).1,[]),((zj s1.2.1.q).1,(zj s1.2.1.q).2)],[],[],s1.2.2,false⟩:=by
  refine zju hops hS0 hps 3 ?_;refine zgg (r:= .A (x2.1:Tr)) (U':=⟨[(110,[.s x2.2.s,.i x2.2.a,.i x2.2.e,(zbb 3 x2.2.q)]),((zj r.q).1,[]),((zj s1.2.1.q).1,[]),((zj x2.2.q).1,(zj x2.2.q).2)],[],[],s1.2.2,false⟩) ((ha s1.2.1 x2 hx2) _ 2 (by decide) rfl rfl) rfl rfl ⟨rfl,rfl⟩ (by dsimp only[zi,List.set]) ?_;exact zd n11 hS0 hps
 have n7:aN (ITP prog) prog (some G) ops FIN S0 ps 7 5 12 ⟨[(110,[.s x2.2.s,.i x2.2.a,.i x2.2.e,(zbb 3 x2.2.q)]),((zj r.q).1,[]),((zj s1.2.1.q).1,[]),((zj x2.2.q).1,(zj x2.2.q).2)],[],[],s1.2.2,false⟩:=by
  refine zea hops hS0 hps 0 1 ?_ ?_;refine zz ?_;exact zd n9 hS0 hps;refine w_o (a:= .ptr 0 0) ?_;exact zd n10 hS0 hps
 have n6:aN (ITP prog) prog (some G) ops FIN S0 ps 7 5 6 ⟨[(110,[.s s1.2.1.s,.i s1.2.1.a,.i s1.2.1.e,(zbb 2 s1.2.1.q)]),((zj r.q).1,[]),((zj s1.2.1.q).1,(zj s1.2.1.q).2)],[],[],s1.2.2,false⟩:=by
  refine zea hops hS0 hps 0 3 ?_ ?_;refine zz ?_;exact zd n8 hS0 hps;refine zgg (r:= .A (x2.1:Tr)) (U':=⟨[(110,[.s x2.2.s,.i x2.2.a,.i x2.2.e,(zbb 3 x2.2.q)]),((zj r.q).1,[]),((zj s1.2.1.q).1,[]),((zj x2.2.q).1,(zj x2.2.q).2)],[],[],s1.2.2,false⟩) ((ha s1.2.1 x2 hx2) _ 2 (by decide) rfl rfl) rfl rfl ⟨rfl,rfl⟩ (by dsimp only[zi,List.set]) ?_;exact zd n10 hS0 hps
 have n5:aN (ITP prog) prog (some G) ops FIN S0 ps 7 5 5 ⟨[(110,[.s s1.2.1.s,.i s1.2.1.a,.i s1.2.1.e,(zbb 2 s1.2.1.q)]),((zj r.q).1,[]),((zj s1.2.1.q).1,(zj s1.2.1.q).2)],[],[],s1.2.2,false⟩:=by
  refine zea hops hS0 hps 1 3 ?_ ?_;refine w_o (a:= .ptr 0 0) ?_;exact zd n8 hS0 hps;refine zgg (r:= .A (x2.1:Tr)) (U':=⟨[(110,[.s x2.2.s,.i x2.2.a,.i x2.2.e,(zbb 3 x2.2.q)]),((zj r.q).1,[]),((zj s1.2.1.q).1,[]),((zj x2.2.q).1,(zj x2.2.q).2)],[],[],s1.2.2,false⟩) ((ha s1.2.1 x2 hx2) _ 2 (by decide) rfl rfl) rfl rfl ⟨rfl,rfl⟩ (by dsimp only[zi,List.set]) ?_;exact zd n9 hS0 hps
 have n4:aN (ITP prog) prog (some G) ops FIN S0 ps 7 5 3 ⟨[(110,[.s s1.2.1.s,.i s1.2.1.a,.i s1.2.1.e,(zbb 2 s1.2.1.q)]),((zj r.q).1,[]),((zj s1.2.1.q).1,(zj s1.2.1.q).2)],[],[],s1.2.2,false⟩:=by
  refine zju hops hS0 hps 2 ?_;refine w_o (a:= .ptr 0 0) ?_;exact zd n8 hS0 hps
 have n3:aN (ITP prog) prog (some G) ops FIN S0 ps 7 6 4 ⟨[(110,[.s s1.2.1.s,.i s1.2.1.a,.i s1.2.1.e,(zbb 2 s1.2.1.q)]),((zj r.q).1,[]),((zj s1.2.1.q).1,(zj s1.2.1.q).2)],[],[],s1.2.2,false⟩:=by
  refine zhl hops hS0 hps 0 1 3 ?_ ?_ ?_;refine zz ?_;exact zd n5 hS0 hps;refine w_o (a:= .ptr 0 0) ?_;exact zd n6 hS0 hps;refine zgg (r:= .A (x2.1:Tr)) (U':=⟨[(110,[.s x2.2.s,.i x2.2.a,.i x2.2.e,(zbb 3 x2.2.q)]),((zj r.q).1,[]),((zj s1.2.1.q).1,[]),((zj x2.2.q).1,(zj x2.2.q).2)],[],[],s1.2.2,false⟩) ((ha s1.2.1 x2 hx2) _ 2 (by decide) rfl rfl) rfl rfl ⟨rfl,rfl⟩ (by dsimp only[zi,List.set]) ?_;exact zd n7 hS0 hps
 have n2:aN (ITP prog) prog (some G) ops FIN S0 ps 7 6 2 ⟨[(110,[.s s1.2.1.s,.i s1.2.1.a,.i s1.2.1.e,(zbb 2 s1.2.1.q)]),((zj r.q).1,[]),((zj s1.2.1.q).1,(zj s1.2.1.q).2)],[],[],s1.2.2,false⟩:=by
  refine zea hops hS0 hps 0 2 ?_ ?_;refine zz ?_;exact zd n4 hS0 hps;refine w_o (a:= .ptr 0 0) ?_;exact zd n6 hS0 hps
 have n1:aN (ITP prog) prog (some G) ops FIN S0 ps 7 6 1 ⟨[(110,[.s s1.2.1.s,.i s1.2.1.a,.i s1.2.1.e,(zbb 2 s1.2.1.q)]),((zj r.q).1,[]),((zj s1.2.1.q).1,(zj s1.2.1.q).2)],[],[],s1.2.2,false⟩:=by
  refine zea hops hS0 hps 1 2 ?_ ?_;refine w_o (a:= .ptr 0 0) ?_;exact zd n4 hS0 hps;refine w_o (a:= .ptr 0 0) ?_;exact zd n5 hS0 hps
 have n0:aN (ITP prog) prog (some G) ops FIN S0 ps 7 7 0 ⟨[(110,[.s s1.2.1.s,.i s1.2.1.a,.i s1.2.1.e,(zbb 2 s1.2.1.q)]),((zj r.q).1,[]),((zj s1.2.1.q).1,(zj s1.2.1.q).2)],[],[],s1.2.2,false⟩:=by
  refine zhl hops hS0 hps 0 1 2 ?_ ?_ ?_;refine zz ?_;exact zd n1 hS0 hps;refine w_o (a:= .ptr 0 0) ?_;exact zd n2 hS0 hps;refine w_o (a:= .ptr 0 0) ?_;exact zd n3 hS0 hps
 exact zuy n0 hps;refine zak h (fun h=> ?_);have he1:=Option.some.inj h;exact⟨⟨.tup [],rfl⟩,.inr ⟨congrArg Prod.fst he1,[2],1,rfl,by have e2:=congrArg Prod.snd he1;dsimp only at e2;subst e2;exact(zvl rfl (zld fun _=>rfl) zk (zh rfl (zo _ _ _) zae))⟩⟩;refine zaw hc2 ?_;refine w_r [.p,.p,.v (.b false)] ?_;refine zbz rfl ?_;refine zak h (fun h=> ?_);have he2:=Option.some.inj h;exact⟨⟨.tup [],rfl⟩,.inr ⟨congrArg Prod.fst he2,[2],1,rfl,by have e2:=congrArg Prod.snd he2;dsimp only at e2;subst e2;exact(zvl rfl (zld fun _=>rfl) zk (zh rfl (zo _ _ _) zae))⟩⟩;refine zaw hc1 ?_;refine w_r [.p,.p,.v (.b false),.m _,.p] ?_;refine w_r [.p,.v (.b false)] ?_;refine zbz rfl ?_;refine zak h (fun h=> ?_);have he3:=Option.some.inj h;exact⟨⟨.tup [],rfl⟩,.inr ⟨congrArg Prod.fst he3,[2],1,rfl,by have e2:=congrArg Prod.snd he3;dsimp only at e2;subst e2;exact(zvl rfl (zld fun _=>rfl) zk (zh rfl (zo _ _ _) zae))⟩⟩
def z1o (fuel:Nat)(a:Rd->Option (Tr×Rd))(r:Rd):Option (List Tr×Rd):=
 zaa (zfm r) (fun x1=>zcf (β:=Int×Rd×List Tr) (fun s1=>bif (s1.1 !=0) then(bif (s1.1 !=124) then(bif (s1.1 !=41) then zaa (a s1.2.1) (fun x2=>zaa (zeb fuel x2.1 x2.2) (fun x3=>zaa (zfm x3.2) (fun x4=>some (inl (x4.1,x4.2,s1.2.2++[x3.1]))))) else some (inr (s1.2.2,s1.2.1))) else some (inr (s1.2.2,s1.2.1))) else some (inr (s1.2.2,s1.2.1))) fuel (x1.1,x1.2,[]))
theorem z5c (F:Nat)(a:Rd->Option (Tr×Rd))(rows:List Tr)(r2:Rd): ∀(fuel:Nat) (c:Int) (r:Rd) (acc:List Tr),
 zcf (β:=Int×Rd×List Tr) (fun s1=>bif (s1.1 !=0) then(bif (s1.1 !=124) then(bif (s1.1 !=41) then zaa (a s1.2.1) (fun x2=>zaa (zeb F x2.1 x2.2) (fun x3=>zaa (zfm x3.2) (fun x4=>some (inl (x4.1,x4.2,s1.2.2++[x3.1]))))) else some (inr (s1.2.2,s1.2.1))) else some (inr (s1.2.2,s1.2.1))) else some (inr (s1.2.2,s1.2.1))) fuel (c,r,acc)=some (rows,r2)->
 (∃tl,rows=acc++tl)/\ zcf (β:=Int×Rd×Nat) (fun s1=>(bif (s1.1 !=0) then(bif (s1.1 !=124) then(bif (s1.1 !=41) then(zaa (a s1.2.1) (fun x2=>(zaa (zeb F x2.1 x2.2) (fun x3=>(z6n (rows[s1.2.2]? =some x3.1) (zaa (zfm x3.2) (fun x4=>(some (inl (x4.1,x4.2,(s1.2.2+1))))))))))) else(some (inr (s1.2.2,s1.2.1)))) else(some (inr (s1.2.2,s1.2.1)))) else(some (inr (s1.2.2,s1.2.1))))) fuel (c,r,acc.length)=some (rows.length,r2)
 |0,_,_,_,h=>by cases h
 | fuel +1,c,r,acc,h=>by
  have stop:some (inr (acc,r):(Int×Rd×List Tr) ⊕ (List Tr×Rd))=some (inr (acc,r))->some (acc,r)=some (rows,r2)->(∃tl,rows=acc++tl)/\ some (acc.length,r)=some (rows.length,r2):=fun _ h=>by
   cases h;exact⟨⟨[],by simp⟩,rfl⟩
  rw[zcf] at h⊢;simp only at h⊢;cases h1:(c !=0) with
  |false=>rw[h1] at h;simp only[cond_false] at h⊢;exact stop rfl h
  | true =>
   rw[h1] at h;simp only[cond_true] at h⊢;cases h2:(c !=124) with
   |false=>rw[h2] at h;simp only[cond_false] at h⊢;exact stop rfl h
   | true=>
    rw[h2] at h;simp only[cond_true] at h⊢;cases h3:(c !=41) with
    |false=>rw[h3] at h;simp only[cond_false] at h⊢;exact stop rfl h
    | true=>
     rw[h3] at h;simp only[cond_true] at h⊢;cases ha:a r with
     |none=>rw[ha] at h;cases h
     | some x2=>
      rw[ha] at h;simp only[zaa] at h⊢;cases hc:zeb F x2.1 x2.2 with
      |none=>rw[hc] at h;cases h
      | some x3=>
       rw[hc] at h;simp only at h⊢;cases hn:zfm x3.2 with
       |none=>rw[hn] at h;cases h
       | some x4=>
        rw[hn] at h;simp only at h⊢;obtain⟨⟨tl,e1⟩,e2⟩:=z5c F a rows r2 fuel x4.1 x4.2 (acc++[x3.1]) h;have hr:rows[acc.length]? =some x3.1:=by rw[e1];simp
        refine⟨⟨x3.1::tl,by rw[e1];simp⟩,?_⟩;unfold z6n;rw[if_pos hr];simp only;rw[length_append] at e2;exact e2
theorem pcs_ok (fuel:Nat)(a:Rd->Option (Tr×Rd))(r:Rd)(y:List Tr×Rd)(h:z1o fuel a r=some y):qgq fuel a y.1 r=some (y.1.length,y.2):=by
 unfold z1o at h;obtain⟨x1,h1,h⟩:=zr h;unfold qgq;rw[h1];exact(z5c fuel a y.1 y.2 fuel x1.1 x1.2 [] h).2
def qed (fuel:Nat):Nat->Rd->Option (Tr×Rd)
 |0,_=>none
 |n+1,r=>zsv fuel (z1o fuel (zhs fuel (zki (qed fuel n)))) r
theorem qit (fuel:Nat): ∀(n:Nat) (r:Rd) (y:Tr×Rd),qed fuel n r=some y->RdC prog 59 [] r (.agg (Enc.cells y.1)) y.2
 |0,_,_,h=>by cases h
 |n+1,r,y,h=>alts_rd fuel _ r (fun r y h=>pc1_it fuel _ y.1 r (fun r y h=>atom_rd fuel _ r (fun k r y h=>qie _ k r (qit fuel n) y h) y h) y.2 (pcs_ok fuel _ r y h)) y h
def zxe (fuel n:Nat)(s:List UInt8):Option (Rg×Int×Int):=zzc (qed fuel n) s
theorem qin (fuel n:Nat)(s:List UInt8)(r:Rg×Int×Int)(h:zxe fuel n s=some r):Pure (ITP prog) prog 23 [.raw (.string (bs s))] (.tup [.agg (Enc.cells (r.1:Rg)),.raw (.int .i64 r.2.1),.raw (.int .i64 r.2.2)]):=read_sh _ s r (qit fuel n) h
def brT (s:BS):Tr:= .mk 2 s 0 0 []
theorem zko (s:BS):pre (brT s)=[brT s]:=by simp[brT,pre,zdn]
theorem qdz {s:BS} (h:s≠0#256):zex (brT s)=true:=by
 rw[brT,z0k,oddT_mk];simp[h]
theorem znj {s:BS} (h:s≠0#256):zff (brT s)=true:=by
 rw[zff,zgd,zko];simp[qdz h]
theorem zrp {s:BS} (h:s≠0#256):zep (brT s)=brT s:=by rw[zep,if_pos (znj h)]
theorem z3r {s:BS} (h:s≠0#256):zsx (brT s)=true:=by rw[zsx,znj h,Bool.or_true]
theorem qbr {s:BS} (h:s≠0#256):seqT [brT s]=brT s:=by
 unfold seqT;have hk:((brT s).k:Int)=2:=rfl;rw[if_neg (by simp[znj h,hk])];show zep (brT s)=brT s;exact zrp h
theorem qij {s:BS} (h:s≠0#256):orT [brT s]=brT s:=by
 unfold orT;rw[if_neg (by simp[z3r h])];show zep (brT s)=brT s;exact zrp h
theorem z9r {s:BS} (h:s≠0#256):zto (brT s) 1 1=brT s:=by
 unfold zto;rw[z3r h];rfl
theorem z0o {s:BS} (h:s≠0#256)(b e:Bool):zra (Rg.mk b e (brT s))=some 0:=by
 have hl:(pre (brT s)).length=1:=by rw[zko];rfl
 have hli:zgd (brT s)=true:=by rw[zgd,hl];rfl
 unfold zra;simp only[hl];refine zal (by omega) (zaj fun x hx=> ?_);rw[znj h] at hx;subst hx;rw[show(!true)=false from rfl,cond_false];refine zal (by omega) (zaj fun x hx=> ?_);rw[z5q,if_pos hli,hl] at hx;subst hx;rw[show decide (((1:Nat):Int)>120)=false from rfl,cond_false];refine zai 1 ?_ ?_
 ·unfold zjb;simp only[hl];refine zal (by omega) (zaj fun x hx=> ?_);rw[hli] at hx;subst hx;rw[show(!true)=false from rfl,cond_false];exact zal (by omega) (zaj fun x hx=>by rw[<-hx];rfl)
 ·rw[show decide ((1:Int)>400)=false from rfl,cond_false];refine zal (by omega) (zaj fun x hx=> ?_);rw[zxi,if_pos hli,zko] at hx;have:x=0:=by rw[<-hx];simp[brT,Tr.k]
  subst this;rfl
theorem ends_br (t:List UInt8)(h:t.length<2^40):zps (t++[93])=some false:=by
 unfold zps;have hs:Lib.hasSuffix (t++[93]) ([36]:List UInt8)=false:=by
  unfold Lib.hasSuffix;simp[List.isSuffixOf];rfl
 refine zal (by simp;omega) (zaj fun x hx=> ?_);have:x.2=false:=by rw[<-hx];exact hs
 rw[this,cond_false]
theorem zqo (s:List UInt8)(k:Int)(h:(s.length:Int)<=k)(q:Stk):zfm (Rd.mk s k 0 q)=some (0,Rd.mk s k 0 q):=by
 unfold zfm;rw[show((Rd.mk s k 0 q).e !=0)=false from rfl,cond_false,show decide ((Rd.mk s k 0 q).a>=(length (Rd.mk s k 0 q).s:Int))=true by simpa using h,cond_true]
theorem qak (s:List UInt8)(c:UInt8)(t:List UInt8)(q:Stk)(h:s=c::t):zfm (Rd.mk s 0 0 q)=some ((c.toNat:Int),Rd.mk s 0 0 q):=by
 unfold zfm;rw[show((Rd.mk s 0 0 q).e !=0)=false from rfl,cond_false,show decide ((Rd.mk s 0 0 q).a>=(length (Rd.mk s 0 0 q).s:Int))=false by simp[h],cond_false];refine zal (by simp[h]) (zaj fun x hx=> ?_);rw[<-hx,h];rfl
theorem zrw (s:List UInt8)(S:BS)(hS:S≠0#256)(h:s.length<2^40)(q:Stk):zeb 1100 (brT S) (Rd.mk s (s.length:Int) 0 q)=some (brT S,Rd.mk s ((s.length:Int)+0) 0 q):=by
 unfold zeb;rw[show((Rd.mk s (s.length:Int) 0 q).e !=0)=false from rfl,cond_false];refine zal (by simp only;omega) (zaj fun x hx=> ?_);have hx:x=[]:=by rw[<-hx];simp only;rw[zmm];simp
 subst hx;refine zai (1,1,0,0) rfl ?_;rw[show(((1,1,0,0):Int×Int×Int×Int).2.2.2 !=0)=false from rfl,cond_false];refine zal (by simp only;omega) ?_;refine zbj (Rd.mk s ((s.length:Int)+0) 0 q) rfl ?_;refine zal (by rw[zko];simp) (zaj fun x hx=> ?_);simp only at hx;rw[z9r hS] at hx;subst hx;rfl
theorem atom_br (s t:List UInt8)(g:Int->Rd->Option (Tr×Rd))(S:BS)(hS:S≠0#256)(he:s=91::t)(hb:zci 1100 s=some (S,(s.length:Int),0))(h:s.length<2^40)(q:Stk):zhs 1100 g (Rd.mk s 0 0 q)=some (brT S,Rd.mk s (0+(s.length:Int)) 0 q):=by
 unfold zhs;refine zal (by simp only;omega) (zaj fun x1 hx1=> ?_);have e1:x1=s:=by rw[<-hx1];show sub s ((0:Nat):Int) _=s;rw[zmm];rfl
 subst e1;refine qbs (brT S,Rd.mk x1 (0+(x1.length:Int)) 0 q) ?_ rfl;refine zal (by rw[he];simp only[length_cons];omega) (zaj fun x2 hx2=> ?_);have e2:x2=91:=by rw[<-hx2,he];rfl
 subst e2;rw[show((((91:UInt8).toNat:Nat):Int)==40)=false from rfl,cond_false,show((((91:UInt8).toNat:Nat):Int)==91)=true from rfl,cond_true];refine zai _ hb ?_;simp only;rw[show((0:Int) !=0)=false from rfl,cond_false];refine zal (by omega) (zaj fun x hx=> ?_);have:x=brT S:=by rw[<-hx,ofT,if_neg hS];rfl
 subst this;rfl
theorem z6a {β ρ:Type} {body:β->Option (β ⊕ ρ)} {s:β} {y:ρ} (n:Nat)(h:body s=some (.inr y)):zcf body (n+1) s=some y:=by rw[zcf,h]
theorem zzq {α β ρ:Type} {body:β->α->Option (β ⊕ ρ)} {x:α} {s s':β} (h:body s x=some (.inl s')):zcu body [x] s=some (.inl s'):=by
 rw[zcu,h];rfl
theorem alts_br (s t:List UInt8)(n:Nat)(S:BS)(hS:S≠0#256)(he:s=91::t)(hb:zci 1100 s=some (S,(s.length:Int),0))(h:s.length<2^40):qed 1100 (n+1) (Rd.mk s 0 0 none)=some (brT S,Rd.mk s (0+(s.length:Int)+0) 0 none):=by
 have hp:z1o 1100 (zhs 1100 (zki (qed 1100 n))) (Rd.mk s 0 0 none)=some ([brT S],Rd.mk s (0+(s.length:Int)+0) 0 none):=by
  unfold z1o;refine zai _ (qak s 91 t none he) ?_;simp only;rw[show(1100:Nat)=1099+1 from rfl,zcf];have hc:=zrw s S hS h none;have hb1:(bif ((((91:UInt8).toNat:Nat):Int) !=0) then(bif ((((91:UInt8).toNat:Nat):Int) !=124) then(bif ((((91:UInt8).toNat:Nat):Int) !=41) then zaa (zhs (1099+1) (zki (qed (1099+1) n)) (Rd.mk s 0 0 none)) (fun x2=>zaa (zeb (1099+1) x2.1 x2.2) (fun x3=>zaa (zfm x3.2) (fun x4=>some (inl (x4.1,x4.2,([]:List Tr)++[x3.1]):(Int×Rd×List Tr) ⊕ (List Tr×Rd))))) else some (inr ([],Rd.mk s 0 0 none))) else some (inr ([],Rd.mk s 0 0 none))) else some (inr ([],Rd.mk s 0 0 none)))=some (inl (0,Rd.mk s (0+(s.length:Int)+0) 0 none,[brT S])):=by
   rw[show((((91:UInt8).toNat:Nat):Int) !=0)=true from rfl,cond_true,show((((91:UInt8).toNat:Nat):Int) !=124)=true from rfl,cond_true,show((((91:UInt8).toNat:Nat):Int) !=41)=true from rfl,cond_true];refine zai _ (atom_br s t _ S hS he hb h none) ?_;simp only;rw[show(0:Int)+(s.length:Int)=(s.length:Int) by omega];refine zai _ hc ?_;refine zai _ (zqo s _ (by omega) none) ?_;rfl
  rw[hb1];rfl
 show zsv 1100 _ _=_;unfold zsv;refine zbj (Rd.mk s (0+(s.length:Int)+0) 0 none,[brT S]) ?_ ?_
 ·refine z6a 1099 (y:=inl (Rd.mk s (0+(s.length:Int)+0) 0 none,[brT S])) ?_;refine zbj (Rd.mk s (0+(s.length:Int)+0) 0 none,[brT S]) ?_ ?_
  ·refine zai (Rd.mk s 0 0 none) rfl (zai _ hp ?_);refine zbj [brT S] ?_ rfl;refine zzq ?_ ;exact zal (by simp) rfl
  ·refine zal (by simp only[zdn,zko];simp) (zaj fun x hx=> ?_);rw[qbr hS] at hx;subst hx;rw[show isEmpty ([]:List Tr)=true from rfl,cond_true];refine zal (by simp) ?_;refine zai _ (zqo s _ (by omega) none) ?_;simp only;rw[show((0:Int) !=124)=true from rfl,cond_true]
 ·simp only;rw[show isEmpty [brT S]=false from rfl,cond_false];refine zal (by simp only[zdn,zko];simp) (zaj fun x hx=> ?_);rw[qij hS] at hx;subst hx;rfl
theorem qdi (t:List UInt8)(S:BS)(hS:S≠0#256)(hb:zci 1100 (91::t++[93])=some (S,((91::t++[93]).length:Int),0))(h:t.length<900):zxe 1100 60 (91::t++[93])=some (Rg.mk false false (brT S),((91::t++[93]).length:Int),0):=by
 obtain⟨s,hs⟩: ∃s,s=91::t++[93]:=⟨_,rfl⟩;rw[<-hs] at hb⊢;have hl:s.length=t.length+2:=by rw[hs];simp
 have he:s=91::(t++[93]):=by rw[hs];rfl
 have hend:zps s=some false:=by rw[hs];exact ends_br (91::t) (by simp;omega)
 have hpre:Lib.hasPrefix s ([94]:List UInt8)=false:=by rw[he];rfl
 have htr:Lib.trimPrefix s ([94]:List UInt8)=s:=by unfold Lib.trimPrefix;rw[hpre];rfl
 unfold zxe zzc;rw[show decide ((length s:Int)>1000)=false by simp;omega,cond_false];refine zaj fun x1 hx1=> ?_;rw[htr,hpre] at hx1;subst hx1;simp only;refine zal (by omega) ?_;refine zai _ hend ?_;refine zbj s rfl ?_;refine zai _ (alts_br s (t++[93]) 59 S hS he hb (by omega)) ?_;simp only;refine zbj (Rd.mk s (0+(s.length:Int)+0) 0 none) ?_ ?_
 ·rw[show((0:Int) !=0)=false from rfl,cond_false,show decide (0+(s.length:Int)+0<(s.length:Int))=false by simp,cond_false];rfl
 ·simp only;rw[show((0:Int) !=0)=false from rfl,cond_false];refine zai _ (z0o hS false false) ?_;rfl
inductive BrO (x:List UInt8)(k:Nat)(st:Bool)(o:BS):(Int×Bool×BS) ⊕ ((Int×BS) ⊕ (BS×Int×Int))->Prop where
 |on (j:Nat) (t:BS) (hk:k<j) (hj:j<=x.length):BrO x k st o (.inl ((j:Int),false,t))
 |out (hk:k<=x.length):BrO x k st o (.inr (.inl ((k:Int),o)))
 |bad (j:Int) (h:0<=j/\ j<=x.length):BrO x k st o (.inr (.inr (0#256,j,94)))
structure BR1 (x:List UInt8)(r:BS×Int×Int):Prop where
 run:zci 1100 x=some r
 err:r.2.2=0 \/r.2.2=94
 len:0<=r.2.1/\ r.2.1<=x.length
 one:r.2.2=0->1<=r.2.1
 same:r.2.2=0-> ∀y,y.length<1000->Ag r.2.1.toNat x y->zci 1100 y=some r
def dig (a:UInt8):Prop:=48<=((a.toNat:Nat):Int)/\ ((a.toNat:Nat):Int)<=57
instance (a:UInt8):Decidable (dig a):=inferInstanceAs (Decidable (_/\ _))
structure CN1 (x:List UInt8)(f:List UInt8->Option (Int×Int×Int×Int))(r:Int×Int×Int×Int):Prop where
 run:f x=some r
 err:r.2.2.2=0 \/r.2.2.2=93
 len:0<=r.2.2.1/\ r.2.2.1<=x.length
 same:r.2.2.2=0-> ∀y,y.length<1000->Ag (max 1 r.2.2.1.toNat) x y->f y=some r
def TG (t:Tr):Prop:=(pre t).length<=10000
structure Two (s t:List UInt8)(k:Nat):Prop where
 ag:Ag (k+1) s t
 l1:s.length<1000
 l2:t.length<1000
def GK (s:List UInt8)(k:Nat)(e:Int):Prop:=(e=92/\ (((ix s (k:Int)).toNat:Nat):Int)≠63) \/(e=95/\ (((ix s (k:Int)).toNat:Nat):Int)=94) \/(e=90/\ (((ix s (k:Int)).toNat:Nat):Int)≠92)
def Fin1 (s:List UInt8)(k:Nat)(q:Rd):Prop:=(q.e=0/\ q.a<=k) \/(q.e≠0/\ q.a=k/\ GK s k q.e)
def atR (t:List UInt8)(r:Rd):Rd:=Rd.mk t r.a r.e r.q
def PS (s:List UInt8)(e a:Int):Prop:=e=93 \/e=94 \/((e=92 \/e=95 \/e=90)/\ 0<=a/\ a<s.length/\ (ix s a=36->e=95))
def SZ (s:List UInt8)(z:Int):Prop:=0<=z/\ z<s.length/\ ix s z=40
structure Sp {α:Type} (s:List UInt8)(r:Rd)(X:List UInt8->Option (α×Rd))(y:α×Rd):Prop where
 run:X s=some y
 txt:y.2.s=s
 lo:r.a<=y.2.a
 hi:y.2.a<=s.length
 stick:r.e≠0->y.2.e=r.e/\ y.2.a=r.a
 stl:(zel r.q).length<=(zel y.2.q).length
 stu:((zel y.2.q).length:Int)<=(zel r.q).length+(y.2.a-r.a)
 str:(∀z∈zel r.q,SZ s z)-> ∀z∈zel y.2.q,SZ s z
 same: ∀t k,Two s t k->Fin1 s k y.2->X t=some (y.1,atR t y.2)
 pos:r.e=0->y.2.e≠0->PS s y.2.e y.2.a
def atomA (g:Int->Rd->Option (Tr×Rd))(r:Rd)(x1:List UInt8)(c:UInt8):Option (Rd ⊕ (Tr×Rd)):=
 (bif ((((c).toNat:Nat):Int)==40) then(zbl (Lib.hasPrefix x1 ([40,63,58]:List UInt8)) (fun x3=>(bif x3 then(zaa (g 3 r) (fun x4=>(some (inr (x4.1,x4.2))))) else(zaa (g 1 r) (fun x5=>(chk ((pre x5.1).length<2^60) (zbl (znh x5.1) (fun x6=>(some (inr (x6,x5.2))))))))))) else(bif ((((c).toNat:Nat):Int)==91) then(zaa (zci 1100 x1) (fun x7=>(bif (x7.2.2 !=0) then(chk (-9223372036854775808<=(r.a+x7.2.1)/\ (r.a+x7.2.1)<9223372036854775808) (zaa (zgl (r.a+x7.2.1) x7.2.2 r) (fun x8=>(some (inr (zbc,x8)))))) else(chk (-9223372036854775808<=(r.a+x7.2.1)/\ (r.a+x7.2.1)<9223372036854775808) (zbl (ofT x7.1) (fun x9=>(some (inr (x9,(Rd.mk r.s (r.a+x7.2.1) r.e r.q)))))))))) else(bif ((((c).toNat:Nat):Int)==46) then(chk (-9223372036854775808<=(r.a+1)/\ (r.a+1)<9223372036854775808) (zaa (zek 1100 ([10]:List UInt8)) (fun x10=>(zbl (~~~x10) (fun x11=>(zbl (ofT x11) (fun x12=>(some (inr (x12,(Rd.mk r.s (r.a+1) r.e r.q))))))))))) else(zdg (τ:=Bool) (bif ((((c).toNat:Nat):Int)==42) then(some (inl (((((c).toNat:Nat):Int)==42)))) else(bif ((((c).toNat:Nat):Int)==43) then(some (inl (((((c).toNat:Nat):Int)==43)))) else(bif ((((c).toNat:Nat):Int)==63) then(some (inl (((((c).toNat:Nat):Int)==63)))) else(some (inl (((((c).toNat:Nat):Int)==123))))))) (fun j2=>(bif j2 then(zaa (zgl r.a 92 r) (fun x13=>(some (inl (x13))))) else(zdg (τ:=Bool) (bif ((((c).toNat:Nat):Int)==94) then(some (inl (((((c).toNat:Nat):Int)==94)))) else(some (inl (((((c).toNat:Nat):Int)==36))))) (fun j3=>(bif j3 then(zaa (zgl r.a 95 r) (fun x14=>(some (inl (x14))))) else(some (inl (r))))))))))))
def atomB (x1:List UInt8)(j1:Rd):Option (Tr×Rd):=
 (zbl (zgo x1) (fun x15=>(bif x15.2 then(chk (-9223372036854775808<=(j1.a+2)/\ (j1.a+2)<9223372036854775808) (zbl (ofT x15.1) (fun x16=>(some (x16,(Rd.mk j1.s (j1.a+2) j1.e j1.q)))))) else(zaa (zas x1 zbo) (fun x17=>(bif (x17.2.2 !=0) then(zaa (zgl j1.a 90 j1) (fun x18=>(some (zbc,x18)))) else(chk (-9223372036854775808<=(j1.a+x17.2.1)/\ (j1.a+x17.2.1)<9223372036854775808) (zaa (zlh 1100 x17.1) (fun x19=>(some (x19,(Rd.mk j1.s (j1.a+x17.2.1) j1.e j1.q))))))))))))
theorem z8s (g:Int->Rd->Option (Tr×Rd))(t:List UInt8)(a:Nat)(ha:a<=t.length)(q:Stk)(c:UInt8)(u:List UInt8)(h:t.drop a=c::u):
 zhs 1100 g (Rd.mk t (a:Int) 0 q)=zdg (atomA g (Rd.mk t (a:Int) 0 q) (c::u) c) (fun j1=>atomB (c::u) j1):=by
 unfold zhs;refine zal (by simp only;omega) (zaj fun x hx=> ?_);have hx:x=c::u:=by rw[<-hx];simp only;rw[zmm,h]
 subst hx;rw[zbs (len1 c u)];rfl
theorem z7s (c:Int)(h0:0<=c)(h:c<256):zlh 1100 c=some (ofT (bit c.toNat)):=by
 unfold zlh;have hq:=(z2l c.toNat (by omega)).2.2.2.2.1;exact zal ⟨h0,h⟩ (zai (bit c.toNat) hq (zaj fun x hx=>by rw[hx]))
theorem set10:zek 1100 ([10]:List UInt8)=some (bit 10):=(z2l 10 (by omega)).2.2.2.2.1
theorem qjk {c:UInt8} {n:Nat} (hn:n<256)(h:((c.toNat:Nat):Int)=(n:Int)):c=UInt8.ofNat n:=by
 apply UInt8.toNat_inj.1;simp;omega
structure AtS (n:Nat)(s:List UInt8)(a:Nat)(q:Stk)(c:UInt8)(y:Tr×Rd):Prop where
 sp:Sp s (Rd.mk s (a:Int) 0 q) (fun t=>zhs 1100 (zki (qed 1100 n)) (Rd.mk t (a:Int) 0 q)) y
 tg:TG y.1
 adv:y.2.e=0->(a:Int)<y.2.a
 qm:c=63->y.2.e=92/\ y.2.a=a
def zgx (b:(List UInt8))(s:BS):Option (List UInt8):=
 (zdg (τ:=(List UInt8)) (zbl (zls s) (fun x1=>(zdg (zcu (β:=(List UInt8)) (fun s1 w1=>(chk (length s1+length w1<=9223372036854775807) (some (inl ((s1++w1)))))) x1 (b)) (fun s1=>(some (inl (s1))))))) (fun j1=>(chk (length j1+length ([93]:List UInt8)<=9223372036854775807) (some (j1++([93]:List UInt8))))))
theorem ent114:Ent prog 114:=enters_of Tryz.func114 (by kernel_rfl) rfl
theorem zsu (b:(List UInt8))(s:BS)(r:(List UInt8))(h:zgx b s=some r):Pure (ITP prog) prog 114 [.raw (.string (bs b)),.agg (Enc.cells (s:BS))] (.raw (.string (bs r))):=by
 obtain⟨d,hd⟩: ∃d,Tryz.f114.body=some d:=⟨_,rfl⟩;refine zfh mix Tryz.func114 hd ent114 ?_;cases hd;unfold zgx at h;refine zav (by dsimp only[zad,Tryz.f114,length_cons,length_nil,zero_add,Nat.reduceAdd,Nat.reduceSub,List.replicate,cons_append,nil_append]) (by dsimp only[St.empty]) ?_;refine zm (zb ?_);refine zdu (a:= .ptr 0 0) (U'':=⟨[(9,[.raw (.string (bs b))])],[],[],0,false⟩) rfl rfl rfl rfl (by dsimp only[zi,List.set]) rfl ?_;refine zdu (a:= .ptr 1 0) (U'':=⟨[(9,[.raw (.string (bs b))]),(24,(Enc.cells (s:BS)))],[],[],0,false⟩) rfl rfl rfl rfl (by dsimp only[zi,List.set]) rfl ?_;refine zay (a:= .raw (.string (bs ([]:List UInt8)))) rfl rfl rfl rfl (by dsimp only[zi,List.set]) ?_;refine zaz h [0,1,3,4,5,6,7,8,9,10,11,12,13] (fun j1=>[]) (fun j1=>⟨[(9,[.raw (.string (bs j1))]),(24,(Enc.cells (s:BS)))],[],[],0,false⟩) ?_ ?_
 .
  intro or1 h hr1
  refine zm (zb ?_)
  refine zay (a:= .agg (Enc.cells (s:BS))) rfl rfl rfl rfl (by dsimp only[zi,List.set]) ?_
  obtain⟨x1,hx1,h⟩:=zu h
  refine zbt (args':=[.agg (Enc.cells (s:BS))]) (r:= .iter (List.map qea x1)) (by rw[<-hx1];exact(k_items s)) rfl rfl (zg (zbd (zp (Enc.clo _))) rfl) (za (zy _ _ (zp (Enc.clo _))) rfl) (by dsimp only[zi,List.set]) ?_
  refine zac ?_
  refine zhw h qea (fun s1=>⟨[(9,[.raw (.string (bs s1))]),(24,(Enc.cells (s:BS)))],[],[],0,false⟩) rfl (fun _=>rfl) rfl rfl ?_ ?_
  .
   intro s1 w1 p1 h
   refine zav (by dsimp only[zix,List.zip,List.zipWith,foldl,List.set,Array.toList,qea]) rfl ?_
   refine zb (k0:=0) (id:=2) ?_
   refine zz ?_
   refine zac ?_
   refine zb (k0:=0) (id:=3) ?_
   refine zay (a:= .raw (.string (bs s1))) rfl rfl rfl rfl (by dsimp only[zi,List.set]) ?_
   refine zz ?_
   obtain⟨g1,h⟩:=zt h
   refine zay (a:= .raw (.string (bs (s1++w1)))) rfl rfl rfl (zbf (zlk g1 rfl rfl rfl)) (by dsimp only[zi,List.set]) ?_
   refine zdu (U'':=⟨[(9,[.raw (.string (bs (s1++w1)))]),(24,(Enc.cells (s:BS)))],[],[],0,false⟩) rfl rfl rfl (zcd (n:=1) rfl rfl rfl rfl rfl rfl rfl rfl (by decide)) (by dsimp only[zi,List.set]) rfl ?_
   exact zeh (p:=p1) ((s1++w1)) h (zcm (zan (za rfl rfl) (zan (zaf _ _ (Enc.clo _)) rfl))) (by kernel_rfl)
  .
   intro s1 h
   refine zc (o:=or1) (s1) h ?_
   exact zhm [false,false,true,false,false,false,false,false,false,false,false,false,false,false] (by kernel_rfl) (by kernel_rfl)
 .
  intro j1 h
  refine zav (by dsimp only[zbg,zcl,foldl,List.set]) rfl ?_
  refine zm (zb ?_)
  refine zay (a:= .raw (.string (bs j1))) rfl rfl rfl rfl (by dsimp only[zi,List.set]) ?_
  obtain⟨g2,h⟩:=zt h
  refine zay (a:= .raw (.string (bs (j1++([93]:List UInt8))))) rfl rfl rfl (zbf (zlk g2 rfl rfl rfl)) (by dsimp only[zi,List.set]) ?_
  refine zz ?_
  exact qdb h
def zzz (fuel:Nat)(s:BS):Option (List UInt8):=
 (zaa (zrj s) (fun x1=>(chk (0<=x1.1/\ x1.1<256) (zaa (zek fuel ([(zkx x1.1)]:List UInt8)) (fun x2=>(bif (decide (s=x2)) then(chk (0<=x1.1/\ x1.1<256) (zbl (byT zbo (zkx x1.1)) (fun x3=>(some x3)))) else(zaa (zek fuel ([10]:List UInt8)) (fun x4=>(zbl (~~~x4) (fun x5=>(bif (decide (s=x5)) then(some ([46]:List UInt8)) else(zdg (τ:=Bool) (zaa (zhj s) (fun x6=>(bif (decide (x6>128)) then(zaa (zqh) (fun x7=>(some (inl ((decide (s≠x7))))))) else(some (inl (false)))))) (fun j1=>(bif j1 then(zbl (~~~s) (fun x8=>(zaa (zgx ([91,94]:List UInt8) x8) (fun x9=>(some x9))))) else(zaa (zgx ([91]:List UInt8) s) (fun x10=>(some x10)))))))))))))))))
theorem ent62:Ent prog 62:=enters_of Tryz.func62 (by kernel_rfl) rfl
theorem z9l (fuel:Nat)(s:BS)(r:(List UInt8))(h:zzz fuel s=some r):Pure (ITP prog) prog 62 [.agg (Enc.cells (s:BS))] (.raw (.string (bs r))):=by
 obtain⟨d,hd⟩: ∃d,Tryz.f62.body=some d:=⟨_,rfl⟩;refine zfh mix Tryz.func62 hd ent62 ?_;cases hd;unfold zzz at h;refine zav (by dsimp only[zad,Tryz.f62,length_cons,length_nil,zero_add,Nat.reduceAdd,Nat.reduceSub,List.replicate,cons_append,nil_append]) (by dsimp only[St.empty]) ?_;refine zm (zb ?_);refine zdu (a:= .ptr 0 0) (U'':=⟨[(24,(Enc.cells (s:BS)))],[],[],0,false⟩) rfl rfl rfl rfl (by dsimp only[zi,List.set]) rfl ?_;refine zay (a:= .raw (.string (bs ([]:List UInt8)))) rfl rfl rfl rfl (by dsimp only[zi,List.set]) ?_;refine zm (zb ?_);refine zay (a:= .agg (Enc.cells (s:BS))) rfl rfl rfl rfl (by dsimp only[zi,List.set]) ?_;obtain⟨x1,hx1,h⟩:=zr h;refine zbt (args':=[.agg (Enc.cells (s:BS))]) (r:= .tup [.raw (.int .u8 x1.1),.raw (.bool x1.2)]) (qeg s x1 hx1) rfl rfl (zg (zbd (zp (Enc.clo _))) rfl) (za (zy _ _ (zp (Enc.clo _))) rfl) (by dsimp only[zi,List.set]) ?_;refine zz ?_;iterate 2 refine z5x ?_
 iterate 2 refine zz ?_
 refine zm ?_;refine zac ?_;refine zm ?_;refine zkk (k0:=0) (id:=2) 4 (by kernel_rfl) (by kernel_rfl) ?_;refine z8q (a:= .agg (Enc.cells (s:BS))) rfl rfl rfl rfl (by dsimp only[zi,List.set]) ?_;refine zpu ?_;obtain⟨g1,h⟩:=zt h;refine z8q (a:= .list (length (([(zkx x1.1)]:List UInt8):List UInt8)) (Enc.cellsL (([(zkx x1.1)]:List UInt8):List UInt8)) .full) rfl rfl rfl (zic (α:=UInt8) (l:=([(zkx x1.1)]:List UInt8)) (cs:=[.raw (.int .u8 x1.1)]) rfl (by show List.map _ _=_;simp only[map_cons,List.map_nil,u8c g1])) (by dsimp only[zi,List.set]) ?_;obtain⟨x2,hx2,h⟩:=zr h;refine zuh (args':=[.list (length (([(zkx x1.1)]:List UInt8):List UInt8)) (Enc.cellsL (([(zkx x1.1)]:List UInt8):List UInt8)) .none]) (r:= .agg (Enc.cells (x2:BS))) (zgt fuel ([(zkx x1.1)]:List UInt8) x2 hx2) rfl rfl rfl (zg (zhz (Enc.cloL _)) rfl) (za (zbw (Enc.cloL _)) rfl) (by dsimp only[zi,List.set]) ?_;refine zlq ?_;refine znl (.raw (.bool (decide (s=x2)))) rfl rfl rfl (zfy s x2 rfl rfl rfl) (by dsimp only[zi,List.set]) ?_;refine zz ?_;refine zah h (fun hc1 h=> ?_) (fun hc1 h=> ?_)
 .
  refine zet hc1 rfl ?_
  refine zm (zb ?_)
  refine zz ?_
  refine zbt (args':=[]) (r:= .agg (Enc.cells (zbo:BS))) z3k rfl rfl rfl rfl (by dsimp only[zi,List.set]) ?_
  obtain⟨g2,h⟩:=zt h
  obtain⟨x3,hx3,h⟩:=zu h
  refine zbt (args':=[.raw (.int .u8 x1.1),.agg (Enc.cells (zbo:BS))]) (r:= .raw (.string (bs x3))) (by rw[<-hx3];exact(z9e g2)) rfl rfl (zg rfl (zg (zbd (zp (Enc.clo _))) rfl)) (za rfl (za (zy _ _ (zp (Enc.clo _))) rfl)) (by dsimp only[zi,List.set]) ?_
  refine zz ?_
  exact qdb h
 .
  refine zev hc1 rfl ?_
  refine zm ?_
  refine zkk (k0:=0) (id:=4) 4 (by kernel_rfl) (by kernel_rfl) ?_
  refine z8q (a:= .agg (Enc.cells (s:BS))) rfl rfl rfl rfl (by dsimp only[zi,List.set]) ?_
  refine z8q (a:= .list (length (([10]:List UInt8):List UInt8)) (Enc.cellsL (([10]:List UInt8):List UInt8)) .full) rfl rfl rfl (zic (α:=UInt8) (l:=([10]:List UInt8)) (cs:=[.raw (.int .u8 10)]) rfl rfl) (by dsimp only[zi,List.set]) ?_
  obtain⟨x4,hx4,h⟩:=zr h
  refine zuh (args':=[.list (length (([10]:List UInt8):List UInt8)) (Enc.cellsL (([10]:List UInt8):List UInt8)) .none]) (r:= .agg (Enc.cells (x4:BS))) (zgt fuel ([10]:List UInt8) x4 hx4) rfl rfl rfl (zg (zhz (Enc.cloL _)) rfl) (za (zbw (Enc.cloL _)) rfl) (by dsimp only[zi,List.set]) ?_
  obtain⟨x5,hx5,h⟩:=zu h
  refine zuh (args':=[.agg (Enc.cells (x4:BS))]) (r:= .agg (Enc.cells (x5:BS))) (by rw[<-hx5];exact(qac x4)) rfl rfl rfl (zg (zbd (zp (Enc.clo _))) rfl) (za (zy _ _ (zp (Enc.clo _))) rfl) (by dsimp only[zi,List.set]) ?_
  refine zlq ?_
  refine znl (.raw (.bool (decide (s=x5)))) rfl rfl rfl (zfy s x5 rfl rfl rfl) (by dsimp only[zi,List.set]) ?_
  refine zz ?_
  refine zah h (fun hc2 h=> ?_) (fun hc2 h=> ?_)
  .
   refine zet hc2 rfl ?_
   refine zm (zb ?_)
   refine zay (a:= .raw (.string (bs ([46]:List UInt8)))) rfl rfl rfl rfl (by dsimp only[zi,List.set]) ?_
   exact qdb h
  .
   refine zev hc2 rfl ?_
   refine zaz h [0,2,3,4,5,6,7,8,9,10,11,12,13,14,15,16,17,18,19,20,21,22,23,24,25,26,27,28,29,30,31,32,33,34,35,36,37,38] (fun j1=>[(25,.raw (.bool j1))]) (fun j1=>⟨[(24,(Enc.cells (s:BS)))],[],[],0,false⟩) ?_ ?_
   .
    intro or1 h hr1
    refine zkk (k0:=0) (id:=6) 6 (by kernel_rfl) (by kernel_rfl) ?_
    refine z8q (a:= .agg (Enc.cells (s:BS))) rfl rfl rfl rfl (by dsimp only[zi,List.set]) ?_
    obtain⟨x6,hx6,h⟩:=zr h
    refine zuh (args':=[.agg (Enc.cells (s:BS))]) (r:= .raw (.int .i64 x6)) (zvj s x6 hx6) rfl rfl rfl (zg (zbd (zp (Enc.clo _))) rfl) (za (zy _ _ (zp (Enc.clo _))) rfl) (by dsimp only[zi,List.set]) ?_
    refine z8q (a:= .raw (.bool (decide (x6>128)))) rfl rfl rfl rfl (by dsimp only[zi,List.set]) ?_
    refine zah h (fun hc3 h=> ?_) (fun hc3 h=> ?_)
    .
     refine z8q (a:= .raw (.bool true)) rfl rfl rfl (zdf rfl hc3) (by dsimp only[zi,List.set]) ?_
     refine zio rfl rfl ?_
     refine z8q (a:= .agg (Enc.cells (s:BS))) rfl rfl rfl rfl (by dsimp only[zi,List.set]) ?_
     refine zio rfl rfl ?_
     obtain⟨x7,hx7,h⟩:=zr h
     refine zuh (args':=[]) (r:= .agg (Enc.cells (x7:BS))) (qax  x7 hx7) rfl rfl rfl rfl rfl (by dsimp only[zi,List.set]) ?_
     refine zlq ?_
     refine zaq rfl rfl ?_
     refine znl (.raw (.bool (decide (s≠x7)))) rfl rfl rfl (znd s x7 rfl rfl rfl) (by dsimp only[zi,List.set]) ?_
     refine zay (a:= .raw (.bool (decide (s≠x7)))) rfl rfl rfl rfl (by dsimp only[zi,List.set]) ?_
     refine zz ?_
     refine zc (o:=or1) ((decide (s≠x7))) h ?_
     exact zhm [false,true,false,false,false,false,false,false,false,false,false,false,false,false,false,false,false,false,false,false,false,false,false,false,false,true,false,false,false,false,false,false,false,false,false,false,false,false,false] (by kernel_rfl) (by kernel_rfl)
    .
     refine z8q (a:= .raw (.bool false)) rfl rfl rfl (zdf rfl hc3) (by dsimp only[zi,List.set]) ?_
     iterate 2 refine z8v rfl rfl rfl (by decide) (by dsimp only[zi,List.set]) ?_
     refine zlq ?_
     refine zag rfl rfl (by decide) (by dsimp only[zi,List.set]) ?_
     refine zay (a:= .raw (.bool false)) rfl rfl rfl rfl (by dsimp only[zi,List.set]) ?_
     refine zz ?_
     refine zc (o:=or1) (false) h ?_
     exact zhm [false,true,false,false,false,false,false,false,false,false,false,false,false,false,false,false,false,false,false,false,false,false,false,false,false,true,false,false,false,false,false,false,false,false,false,false,false,false,false] (by kernel_rfl) (by kernel_rfl)
   .
    intro j1 h
    refine zav (by dsimp only[zbg,zcl,foldl,List.set]) rfl ?_
    refine zah h (fun hc4 h=> ?_) (fun hc4 h=> ?_)
    .
     refine zet hc4 rfl ?_
     refine zm (zb ?_)
     refine zay (a:= .agg (Enc.cells (s:BS))) rfl rfl rfl rfl (by dsimp only[zi,List.set]) ?_
     obtain⟨x8,hx8,h⟩:=zu h
     refine zbt (args':=[.agg (Enc.cells (s:BS))]) (r:= .agg (Enc.cells (x8:BS))) (by rw[<-hx8];exact(qac s)) rfl rfl (zg (zbd (zp (Enc.clo _))) rfl) (za (zy _ _ (zp (Enc.clo _))) rfl) (by dsimp only[zi,List.set]) ?_
     obtain⟨x9,hx9,h⟩:=zr h
     refine zbt (args':=[.raw (.string (bs ([91,94]:List UInt8))),.agg (Enc.cells (x8:BS))]) (r:= .raw (.string (bs x9))) (zsu ([91,94]:List UInt8) x8 x9 hx9) rfl rfl (zg rfl (zg (zbd (zp (Enc.clo _))) rfl)) (za rfl (za (zy _ _ (zp (Enc.clo _))) rfl)) (by dsimp only[zi,List.set]) ?_
     refine zz ?_
     exact qdb h
    .
     refine zev hc4 rfl ?_
     refine zm (zb ?_)
     refine zay (a:= .agg (Enc.cells (s:BS))) rfl rfl rfl rfl (by dsimp only[zi,List.set]) ?_
     obtain⟨x10,hx10,h⟩:=zr h
     refine zbt (args':=[.raw (.string (bs ([91]:List UInt8))),.agg (Enc.cells (s:BS))]) (r:= .raw (.string (bs x10))) (zsu ([91]:List UInt8) s x10 hx10) rfl rfl (zg rfl (zg (zbd (zp (Enc.clo _))) rfl)) (za rfl (za (zy _ _ (zp (Enc.clo _))) rfl)) (by dsimp only[zi,List.set]) ?_
     refine zz ?_
     exact qdb h
def zss (fuel:Nat)(s:BS):Option ((List UInt8)×Int):=
 (bif (decide (s=(0#256))) then(some (([]:List UInt8),100)) else(zaa (zzz fuel s) (fun x1=>(some (x1,0)))))
theorem ent27:Ent prog 27:=enters_of Tryz.func27 (by kernel_rfl) rfl
theorem zwb (fuel:Nat)(s:BS)(r:((List UInt8)×Int))(h:zss fuel s=some r):Pure (ITP prog) prog 27 [.agg (Enc.cells (s:BS))] (.tup [.raw (.string (bs r.1)),.raw (.int .i64 r.2)]):=by
 obtain⟨d,hd⟩: ∃d,Tryz.f27.body=some d:=⟨_,rfl⟩;refine zfh mix Tryz.func27 hd ent27 ?_;cases hd;unfold zss at h;refine zav (by dsimp only[zad,Tryz.f27,length_cons,length_nil,zero_add,Nat.reduceAdd,Nat.reduceSub,List.replicate,cons_append,nil_append]) (by dsimp only[St.empty]) ?_;refine zm (zb ?_);refine zdu (a:= .ptr 0 0) (U'':=⟨[(24,(Enc.cells (s:BS)))],[],[],0,false⟩) rfl rfl rfl rfl (by dsimp only[zi,List.set]) rfl ?_;refine zay (a:= .raw (.string (bs ([]:List UInt8)))) rfl rfl rfl rfl (by dsimp only[zi,List.set]) ?_;refine zay (a:= .raw (.int .i64 0)) rfl rfl rfl rfl (by dsimp only[zi,List.set]) ?_;refine zm ?_;refine zm (zb ?_);refine zay (a:= .agg (Enc.cells (s:BS))) rfl rfl rfl rfl (by dsimp only[zi,List.set]) ?_;refine zay (a:= .agg (Enc.cells (0#256:BS))) rfl rfl rfl rfl (by dsimp only[zi,List.set]) ?_;refine znl (.raw (.bool (decide (s=(0#256))))) rfl rfl rfl (zfy s (0#256) rfl rfl rfl) (by dsimp only[zi,List.set]) ?_;refine zah h (fun hc1 h=> ?_) (fun hc1 h=> ?_)
 .
  refine zet hc1 rfl ?_
  refine zm (zb ?_)
  refine zay (a:= .raw (.string (bs ([]:List UInt8)))) rfl rfl rfl rfl (by dsimp only[zi,List.set]) ?_
  refine zay (a:= .raw (.int .i64 100)) rfl rfl rfl rfl (by dsimp only[zi,List.set]) ?_
  exact zdl (fun(r:((List UInt8)×Int))=>(.tup [.raw (.string (bs r.1)),.raw (.int .i64 r.2)]:AV)) h (a:= .tup [.raw (.string (bs ([]:List UInt8))),.raw (.int .i64 100)]) rfl (show zab _ _=true from(za rfl (za rfl rfl))) (show AV.tup (stripL _)=_ from congrArg AV.tup (zg rfl (zg rfl rfl)))
 .
  refine zev hc1 rfl ?_
  refine zm (zb ?_)
  refine zay (a:= .agg (Enc.cells (s:BS))) rfl rfl rfl rfl (by dsimp only[zi,List.set]) ?_
  obtain⟨x1,hx1,h⟩:=zr h
  refine zbt (args':=[.agg (Enc.cells (s:BS))]) (r:= .raw (.string (bs x1))) (z9l fuel s x1 hx1) rfl rfl (zg (zbd (zp (Enc.clo _))) rfl) (za (zy _ _ (zp (Enc.clo _))) rfl) (by dsimp only[zi,List.set]) ?_
  refine zz ?_
  refine zay (a:= .raw (.int .i64 0)) rfl rfl rfl rfl (by dsimp only[zi,List.set]) ?_
  exact zdl (fun(r:((List UInt8)×Int))=>(.tup [.raw (.string (bs r.1)),.raw (.int .i64 r.2)]:AV)) h (a:= .tup [.raw (.string (bs x1)),.raw (.int .i64 0)]) rfl (show zab _ _=true from(za rfl (za rfl rfl))) (show AV.tup (stripL _)=_ from congrArg AV.tup (zg rfl (zg rfl rfl)))
theorem alts_at (s t:List UInt8)(n:Nat)(S:BS)(hS:S≠0#256)(c:UInt8)(hc0:((((c).toNat:Nat):Int) !=0)=true)(hc1:((((c).toNat:Nat):Int) !=124)=true)(hc2:((((c).toNat:Nat):Int) !=41)=true)(he:s=c::t)(hat: ∀g,zhs 1100 g (Rd.mk s 0 0 none)=some (brT S,Rd.mk s (0+(s.length:Int)) 0 none))(h:s.length<2^40):qed 1100 (n+1) (Rd.mk s 0 0 none)=some (brT S,Rd.mk s (0+(s.length:Int)+0) 0 none):=by
 have hp:z1o 1100 (zhs 1100 (zki (qed 1100 n))) (Rd.mk s 0 0 none)=some ([brT S],Rd.mk s (0+(s.length:Int)+0) 0 none):=by
  unfold z1o;refine zai _ (qak s c t none he) ?_;simp only;rw[show(1100:Nat)=1099+1 from rfl,zcf];have hc:=zrw s S hS h none;have hb1:(bif ((((c).toNat:Nat):Int) !=0) then(bif ((((c).toNat:Nat):Int) !=124) then(bif ((((c).toNat:Nat):Int) !=41) then zaa (zhs (1099+1) (zki (qed (1099+1) n)) (Rd.mk s 0 0 none)) (fun x2=>zaa (zeb (1099+1) x2.1 x2.2) (fun x3=>zaa (zfm x3.2) (fun x4=>some (inl (x4.1,x4.2,([]:List Tr)++[x3.1]):(Int×Rd×List Tr) ⊕ (List Tr×Rd))))) else some (inr ([],Rd.mk s 0 0 none))) else some (inr ([],Rd.mk s 0 0 none))) else some (inr ([],Rd.mk s 0 0 none)))=some (inl (0,Rd.mk s (0+(s.length:Int)+0) 0 none,[brT S])):=by
   rw[hc0,cond_true,hc1,cond_true,hc2,cond_true];refine zai _ (hat _) ?_;simp only;rw[show(0:Int)+(s.length:Int)=(s.length:Int) by omega];refine zai _ hc ?_;refine zai _ (zqo s _ (by omega) none) ?_;rfl
  rw[hb1];rfl
 show zsv 1100 _ _=_;unfold zsv;refine zbj (Rd.mk s (0+(s.length:Int)+0) 0 none,[brT S]) ?_ ?_
 ·refine z6a 1099 (y:=inl (Rd.mk s (0+(s.length:Int)+0) 0 none,[brT S])) ?_;refine zbj (Rd.mk s (0+(s.length:Int)+0) 0 none,[brT S]) ?_ ?_
  ·refine zai (Rd.mk s 0 0 none) rfl (zai _ hp ?_);refine zbj [brT S] ?_ rfl;refine zzq ?_ ;exact zal (by simp) rfl
  ·refine zal (by simp only[zdn,zko];simp) (zaj fun x hx=> ?_);rw[qbr hS] at hx;subst hx;rw[show isEmpty ([]:List Tr)=true from rfl,cond_true];refine zal (by simp) ?_;refine zai _ (zqo s _ (by omega) none) ?_;simp only;rw[show((0:Int) !=124)=true from rfl,cond_true]
 ·simp only;rw[show isEmpty [brT S]=false from rfl,cond_false];refine zal (by simp only[zdn,zko];simp) (zaj fun x hx=> ?_);rw[qij hS] at hx;subst hx;rfl
theorem qbz (s t:List UInt8)(S:BS)(hS:S≠0#256)(c:UInt8)(hc0:((((c).toNat:Nat):Int) !=0)=true)(hc1:((((c).toNat:Nat):Int) !=124)=true)(hc2:((((c).toNat:Nat):Int) !=41)=true)(he:s=c::t)(hpre:Lib.hasPrefix s ([94]:List UInt8)=false)(hend:zps s=some false)(hat: ∀g,zhs 1100 g (Rd.mk s 0 0 none)=some (brT S,Rd.mk s (0+(s.length:Int)) 0 none))(h:s.length<900):zxe 1100 60 s=some (Rg.mk false false (brT S),(s.length:Int),0):=by
 have htr:Lib.trimPrefix s ([94]:List UInt8)=s:=by unfold Lib.trimPrefix;rw[hpre];rfl
 unfold zxe zzc;rw[show decide ((length s:Int)>1000)=false by simp;omega,cond_false];refine zaj fun x1 hx1=> ?_;rw[htr,hpre] at hx1;subst hx1;simp only;refine zal (by omega) ?_;refine zai _ hend ?_;refine zbj s rfl ?_;refine zai _ (alts_at s t 59 S hS c hc0 hc1 hc2 he hat (by omega)) ?_;simp only;refine zbj (Rd.mk s (0+(s.length:Int)+0) 0 none) ?_ ?_
 ·rw[show((0:Int) !=0)=false from rfl,cond_false,show decide (0+(s.length:Int)+0<(s.length:Int))=false by simp,cond_false];rfl
 ·simp only;rw[show((0:Int) !=0)=false from rfl,cond_false];refine zai _ (z0o hS false false) ?_;rfl
theorem z4k:((List.range 256).all fun n=>decide (zps (byT zbo (UInt8.ofNat n))=some false)&& !Lib.hasPrefix (byT zbo (UInt8.ofNat n)) ([94]:List UInt8)&&(byT zbo (UInt8.ofNat n)).head?.all fun x=>([0,124,41,40,91,46,42,43,63,123,94,36]:List UInt8).all fun y=>x !=y)=true:=by decide+kernel
theorem ofT_bit (c:Nat)(h:c<256):ofT (bit c)=brT (bit c):=by
 have:bit c≠0#256:=by
  intro e;have h1:=zxb c h;rw[e] at h1;simp at h1
 rw[ofT,if_neg this];rfl
theorem bit_ne (c:Nat)(h:c<256):bit c≠0#256:=by
 intro e;have h1:=zxb c h;rw[e] at h1;simp at h1
theorem qck (c:UInt8):zxe 1100 60 (byT zbo c)=some (Rg.mk false false (brT (bit c.toNat)),((byT zbo c).length:Int),0):=by
 have ht:=List.all_eq_true.1 z4k c.toNat (mem_range.2 c.toNat_lt);rw[zwz] at ht;simp only[Bool.and_eq_true,decide_eq_true_eq,Bool.not_eq_true'] at ht;obtain⟨⟨h1,h2⟩,h3⟩:=ht;have hb:=z5u c;have hl:=c.toNat_lt;cases hx:byT zbo c with
 |nil=>have:=hb.lo;rw[hx] at this;simp at this
 | cons x l=>
  rw[hx] at h3;simp only[List.head?_cons,Option.all_some,List.all_cons,List.all_nil,Bool.and_true,Bool.and_eq_true,bne_iff_ne,ne_eq] at h3;obtain⟨n0,n124,n41,n40,n91,n46,n42,n43,n63,n123,n94,n36⟩:=h3;have ne: ∀k:Nat,k<256->x≠UInt8.ofNat k->(((x.toNat:Nat):Int) !=(k:Int))=true:=fun k hk hn=>by
   rw[bne_iff_ne];intro e;exact hn (qjk hk e)
  have nf: ∀k:Nat,k<256->x≠UInt8.ofNat k->(((x.toNat:Nat):Int)==(k:Int))=false:=fun k hk hn=>by
   rw[beq_eq_false_iff_ne];intro e;exact hn (qjk hk e)
  rw[<-hx];refine qbz (byT zbo c) l (bit c.toNat) (bit_ne _ hl) x (ne 0 (by omega) n0) (ne 124 (by omega) n124) (ne 41 (by omega) n41) hx h2 h1 (fun g=> ?_) (by have:=hb.hi;omega);have:=z8s g (byT zbo c) 0 (by omega) none x l (by rw[List.drop_zero];exact hx);refine Eq.trans this ?_;refine zbj (Rd.mk (byT zbo c) ((0:Nat):Int) 0 none) ?_ ?_
  ·unfold atomA;have f40:(((x.toNat:Nat):Int)==40)=false:=nf 40 (by omega) n40;have f91:(((x.toNat:Nat):Int)==91)=false:=nf 91 (by omega) n91;have f46:(((x.toNat:Nat):Int)==46)=false:=nf 46 (by omega) n46;have f42:(((x.toNat:Nat):Int)==42)=false:=nf 42 (by omega) n42;have f43:(((x.toNat:Nat):Int)==43)=false:=nf 43 (by omega) n43;have f63:(((x.toNat:Nat):Int)==63)=false:=nf 63 (by omega) n63;have f123:(((x.toNat:Nat):Int)==123)=false:=nf 123 (by omega) n123;have f94:(((x.toNat:Nat):Int)==94)=false:=nf 94 (by omega) n94;have f36:(((x.toNat:Nat):Int)==36)=false:=nf 36 (by omega) n36;rw[f40,cond_false,f91,cond_false,f46,cond_false,f42,f43,f63,f123,f94,f36];rfl
  ·rw[<-hx];have r1:=hb.run [];have r2:=hb.short [];rw[List.append_nil] at r1 r2;have hh:=hb.hi;unfold atomB;refine zaj fun y hy=> ?_;rw[<-hy,r2,cond_false];refine zai _ r1 ?_;simp only;rw[show((0:Int) !=0)=false from rfl,cond_false];refine zal (by(try simp only);omega) (zai _ (z7s ((c.toNat:Nat):Int) (by omega) (by omega)) ?_);rw[Int.toNat_natCast,ofT_bit _ hl];rfl
theorem qgs:zxe 1100 60 ([46]:List UInt8)=some (Rg.mk false false (brT (~~~ bit 10)),1,0):=by
 have hne: ~~~ bit 10≠0#256:=by decide+kernel
 refine qbz ([46]:List UInt8) [] (~~~ bit 10) hne 46 rfl rfl rfl rfl rfl (by decide+kernel) (fun g=> ?_) (by simp);have:=z8s g ([46]:List UInt8) 0 (by omega) none 46 [] rfl;refine Eq.trans this ?_;refine qbs _ ?_ rfl;unfold atomA;rw[show((((46:UInt8).toNat:Nat):Int)==40)=false from rfl,cond_false,show((((46:UInt8).toNat:Nat):Int)==91)=false from rfl,cond_false,show((((46:UInt8).toNat:Nat):Int)==46)=true from rfl,cond_true];refine zal (by decide) (zai _ set10 (zaj fun x hx=>zaj fun y hy=> ?_));subst hx;subst hy;rw[ofT,if_neg hne];rfl
def zgm (s:BS):List UInt8:=
 if s=bit ((elN s 256).headD 0) then byT zbo (UInt8.ofNat ((elN s 256).headD 0))
 else if s= ~~~ bit 10 then[46]
 else if(elN s 256).length>128/\ s≠ ~~~ 0#256 then[91,94]++gts (zdi (~~~ s))++[93]
 else[91]++gts (zdi s)++[93]
theorem qic (s:BS):(elN s 256).length+(elN (~~~ s) 256).length=256:=by
 have h: ∀l:List Nat,(∀k∈l,k<256)->(l.filter fun j=>s.getLsbD j).length+(l.filter fun j=>(~~~ s).getLsbD j).length=l.length:=by
  intro l;induction l with
  |nil=>intro _;rfl
  | cons k l ih=>
   intro hl;have hk:=hl k (by simp);have:=ih fun j hj=>hl j (by simp[hj]);have hn:(~~~ s).getLsbD k= !s.getLsbD k:=by simp[hk]
   rw[List.filter_cons,List.filter_cons,hn];cases s.getLsbD k with
   |true=>rw[if_pos rfl,if_neg (by decide),length_cons,length_cons];omega
   |false=>rw[if_neg (by decide),if_pos (by decide),length_cons,length_cons];omega
 have:=h (List.range 256) (fun k hk=>mem_range.1 hk);simpa[elN] using this
theorem qhu:([91]++gts (zdi (~~~ 0#256))++[93]:List UInt8).length=11:=by decide+kernel
theorem z2g (s:BS):(elN s 256).headD 0<256:=by
 cases h:elN s 256 with
 |nil=>simp
 |cons c l=>exact el_lt (s:=s) (by rw[h];simp)
theorem qbk (s:BS):(zgm s).length<=4*128+3:=by
 unfold zgm;split
 ·have:=(z5u (UInt8.ofNat ((elN s 256).headD 0))).hi;omega
 ·split
  ·simp
  ·split
   ·rename_i h;have h1:=(znk (~~~ s)).1;have h2:=qic s;simp only[length_append,length_cons,length_nil];omega
   ·rename_i h;by_cases ha:s= ~~~ 0#256
    ·rw[ha,qhu];omega
    ·have h1:=(znk s).1;have h2: ¬(elN s 256).length>128:=fun h2=>h ⟨h2,ha⟩;simp only[length_append,length_cons,length_nil];omega
theorem z4z {s:BS} (h:s≠ ~~~ 0#256): ~~~ s≠0#256:=by
 intro e;apply h;rw[<-e];simp
theorem zve (s:BS)(hs:s≠0#256):zxe 1100 60 (zgm s)=some (Rg.mk false false (brT s),((zgm s).length:Int),0):=by
 have hlen:=qbk s;by_cases h1:s=bit ((elN s 256).headD 0)
 ·have e:zgm s=byT zbo (UInt8.ofNat ((elN s 256).headD 0)):=by unfold zgm;rw[if_pos h1]
  have hh:=z2g s;rw[e,qck];have:(UInt8.ofNat ((elN s 256).headD 0)).toNat=(elN s 256).headD 0:=by
   obtain⟨v,hv⟩: ∃v,v=(elN s 256).headD 0:=⟨_,rfl⟩;rw[<-hv] at hh⊢;simp;omega
  rw[this, <-h1]
 ·by_cases h2:s= ~~~ bit 10
  ·have e:zgm s=[46]:=by unfold zgm;rw[if_neg h1,if_pos h2]
   rw[e,qgs, <-h2];rfl
  ·by_cases h3:(elN s 256).length>128/\ s≠ ~~~ 0#256
   ·have e:zgm s=91::(94::gts (zdi (~~~ s)))++[93]:=by unfold zgm;rw[if_neg h1,if_neg h2,if_pos h3];rfl
    have hb:=qdr (~~~ s) (z4z h3.2) (by simpa using hs) [] (by simp);rw[BitVec.not_not] at hb;rw[e] at hlen⊢;refine qdi _ s hs ?_ (by simp at hlen⊢;omega);rw[show(91::(94::gts (zdi (~~~ s)))++[93]:List UInt8)=([91,94]:List UInt8)++gts (zdi (~~~ s))++[93]++[] by simp,hb];simp;omega
   ·have e:zgm s=91::gts (zdi s)++[93]:=by unfold zgm;rw[if_neg h1,if_neg h2,if_neg h3];rfl
    have hb:=qje s hs [] (by simp);rw[e] at hlen⊢;refine qdi _ s hs ?_ (by simp at hlen⊢;omega);rw[show(91::gts (zdi s)++[93]:List UInt8)=([91]:List UInt8)++gts (zdi s)++[93]++[] by simp,hb];simp;omega
theorem z2h (s:BS)(hs:s≠0#256)(rest:List UInt8)(hr:rest.length<2^38)(h91:Lib.hasPrefix (zgm s) ([91]:List UInt8)=true):zci 1100 (zgm s++rest)=some (s,((zgm s).length:Int),0):=by
 by_cases h1:s=bit ((elN s 256).headD 0)
 ·have e:zgm s=byT zbo (UInt8.ofNat ((elN s 256).headD 0)):=by unfold zgm;rw[if_pos h1]
  exfalso
  have ht:=List.all_eq_true.1 z4k ((elN s 256).headD 0) (mem_range.2 (z2g s));simp only[Bool.and_eq_true] at ht;have h3:=ht.2;rw[e] at h91;cases hx:byT zbo (UInt8.ofNat ((elN s 256).headD 0)) with
  |nil=>rw[hx] at h91;cases h91
  | cons x l=>
   rw[hx] at h91 h3;simp[Lib.hasPrefix,List.isPrefixOf] at h91 h3;exact absurd h91.symm h3.2.2.2.2.1
 ·by_cases h2:s= ~~~ bit 10
  ·have e:zgm s=[46]:=by unfold zgm;rw[if_neg h1,if_pos h2]
   rw[e] at h91;cases h91
  ·by_cases h3:(elN s 256).length>128/\ s≠ ~~~ 0#256
   ·have e:zgm s=[91,94]++gts (zdi (~~~ s))++[93]:=by unfold zgm;rw[if_neg h1,if_neg h2,if_pos h3]
    have hb:=qdr (~~~ s) (z4z h3.2) (by simpa using hs) rest hr;rw[BitVec.not_not] at hb;rw[e,hb];simp;omega
   ·have e:zgm s=[91]++gts (zdi s)++[93]:=by unfold zgm;rw[if_neg h1,if_neg h2,if_neg h3]
    have hb:=qje s hs rest hr;rw[e,hb];simp;omega
theorem qff {a b:BS} (ha:a≠0#256)(hb:b≠0#256)(h:zgm a=zgm b):a=b:=by
 have h1:=zve a ha;have h2:=zve b hb;rw[h,h2] at h1;have:=Option.some.inj h1;simp only[Prod.mk.injEq,Rg.mk.injEq,brT,Tr.mk.injEq] at this;exact this.1.2.2.2.1.symm
theorem z6s (s:BS):(zls s).flatten=gts (zdi s):=by
 have h: ∀l:List Spn,(l.map fun x=>gts (z1i x)).flatten=gts (l.flatMap z1i):=by
  intro l;induction l with
  |nil=>rfl
  |cons x l ih=>rw[map_cons,List.flatten_cons,ih,List.flatMap_cons,zur]
 exact h _
theorem z9p {ρ:Type}: ∀(l:List (List UInt8)) (acc:List UInt8),acc.length+l.flatten.length<2^40->zcu (β:=List UInt8) (ρ:=ρ) (fun s1 w1=>(chk (length s1+length w1<=9223372036854775807) (some (inl ((s1++w1)))))) l acc=some (.inl (acc++l.flatten))
 |[],acc,_=>by simp[zcu]
 | x::l,acc,h=>by
  rw[List.flatten_cons,length_append] at h;rw[zcu,zbs (by omega)];simp only;rw[z9p l (acc++x) (by rw[length_append];omega),List.flatten_cons,List.append_assoc]
theorem zrv (b:List UInt8)(hb:b.length<1000)(s:BS):zgx b s=some (b++gts (zdi s)++[93]):=by
 have h1:=(znk s).1;have h2:=zmv s;have h3:=z6s s;unfold zgx;refine zbj (b++gts (zdi s)) ?_ ?_
 ·refine zaj fun x hx=> ?_;subst hx;refine zbj (b++gts (zdi s)) ?_ rfl;rw[z9p (zls s) b (by rw[h3];omega),h3]
 ·refine zal (by simp;omega) rfl
theorem zzs {ρ:Type}: ∀(l:List Int) (k:Int),0<=k->k+l.length<2^40->zcu (ρ:=ρ) (fun(s1:Int) (w1:Int)=>(chk (-9223372036854775808<=(s1+1)/\ (s1+1)<9223372036854775808) (some (inl ((s1+1)))))) l k=some (.inl (k+(l.length:Int)))
 |[],k,_,_=>by simp[zcu]
 | x::l,k,h0,h1=>by
  simp only[length_cons] at h1;rw[zcu,zbs (by omega)];simp only;rw[zzs l (k+1) (by omega) (by omega),length_cons];congr 2
  omega
theorem qey (s:BS):zhj s=some ((elN s 256).length:Int):=by
 have h2:=zmv s;have hl:(els s).length=(elN s 256).length:=by simp[els]
 unfold zhj;refine zbj ((elN s 256).length:Int) ?_ rfl;refine zaj fun x hx=> ?_;subst hx;refine zbj ((elN s 256).length:Int) ?_ rfl;rw[zzs (els s) 0 (by omega) (by omega),hl];simp
theorem qfp (s:BS): ∃b,zrj s=some ((((elN s 256).headD 0:Nat):Int),b):=by
 unfold zrj els;cases h:elN s 256 with
 |nil=>exact⟨_,rfl⟩
 |cons c l=>exact⟨_,rfl⟩
theorem qbi (s:BS)(hs:s≠0#256):zzz 1100 s=some (zgm s):=by
 obtain⟨fb,hf⟩:=qfp s;have hh:=z2g s;obtain⟨f,hfe⟩: ∃f,f=(elN s 256).headD 0:=⟨_,rfl⟩;rw[<-hfe] at hf hh;have hset:=(z2l f hh).2.2.2.2.1;unfold zzz zgm;rw[<-hfe];refine zai _ hf ?_;simp only;refine zal (by omega) ?_;rw[zqr];refine zai _ hset ?_;by_cases h1:s=bit f
 ·rw[decide_eq_true h1,cond_true,if_pos h1];exact zal (by omega) (zaj fun x hx=>by rw[hx])
 ·rw [decide_eq_false h1,cond_false,if_neg h1];refine zai _ set10 (zaj fun x hx=> ?_);subst hx;by_cases h2:s= ~~~ bit 10
  ·rw[decide_eq_true h2,cond_true,if_pos h2]
  ·rw [decide_eq_false h2,cond_false,if_neg h2];have hall:zqh=some (~~~ 0#256):=rfl;refine zbj (decide ((elN s 256).length>128/\ s≠ ~~~ 0#256)) ?_ ?_
   ·refine zai _ (qey s) ?_;by_cases h3:(elN s 256).length>128
    ·rw[decide_eq_true (show((elN s 256).length:Int)>128 by omega),cond_true];refine zai _ hall ?_;simp[h3]
    ·rw[decide_eq_false (show ¬((elN s 256).length:Int)>128 by omega),cond_false];simp[h3]
   ·by_cases h3:(elN s 256).length>128/\ s≠ ~~~ 0#256
    ·rw[decide_eq_true h3,cond_true,if_pos h3];refine zaj fun x hx=> ?_;subst hx;exact zai _ (zrv [91,94] (by simp) (~~~ s)) rfl
    ·rw[decide_eq_false h3,cond_false,if_neg h3];exact zai _ (zrv [91] (by simp) s) rfl
theorem zsp (s:BS):zss 1100 s=some (if s=0#256 then([],100) else(zgm s,0)):=by
 unfold zss;by_cases h:s=0#256
 ·rw[decide_eq_true h,cond_true,if_pos h]
 ·rw[decide_eq_false h,cond_false,if_neg h];exact zai _ (qbi s h) rfl
end Go.Ab
