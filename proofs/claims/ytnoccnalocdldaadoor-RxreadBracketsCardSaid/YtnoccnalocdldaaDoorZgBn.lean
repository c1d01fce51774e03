import Derived.Test.YtnoccnalocdldaaDoorZgR4
import Derived.Test.YtnoccnalocdldaaDoorZgR5
import Derived.Test.YtnoccnalocdldaaDoorZgR7
import Derived.Test.YtnoccnalocdldaaDoorZgR9
import Derived.Test.YtnoccnalocdldaaDoorZgBm
set_option linter.all false
set_option maxRecDepth 100000
set_option maxHeartbeats 4000000
namespace Go.Ab
open Go Go.RowKit Go.Fwd Go.Proofs
noncomputable def qfi (fuel:Nat)(a:Rd→Option (Tr×Rd))(rows:List Tr)(r:Rd):Option (Nat×Rd):=
 (zar (zfz r) (fun x1=>(zbo (β:=Int×Rd×Nat) (fun s1=>(bif (s1.1 !=0) then(bif (s1.1 !=124) then(bif (s1.1 !=41) then(zar (a s1.2.1) (fun x2=>(zar (zew fuel x2.1 x2.2) (fun x3=>(z8p (rows[s1.2.2]? =some x3.1) (zar (zfz x3.2) (fun x4=>(some (Sum.inl (x4.1,x4.2,(s1.2.2+1))))))))))) else(some (Sum.inr (s1.2.2,s1.2.1)))) else(some (Sum.inr (s1.2.2,s1.2.1)))) else(some (Sum.inr (s1.2.2,s1.2.1))))) fuel (x1.1,x1.2,0))))
set_option maxRecDepth 100000 in
set_option maxHeartbeats 4000000 in
theorem pc1_it (fuel:Nat)(a:Rd→Option (Tr×Rd))(rows:List Tr)(r:Rd)(ha: ∀(r:Rd)(y:Tr×Rd),a r=some y→RdC Tryd.prog 58 [] r (.agg (Enc.cells y.1)) y.2)(r2:Rd)(h:qfi fuel a rows r=some (rows.length,r2)):RdIt Tryd.prog 56 r (rows.map zmr) r2:=by
 obtain⟨c,hc⟩: ∃c,Tryd.f56.body=some c:=⟨_,rfl⟩
 refine qgj mix Tryd.func56 hc (fun G hGr k0 hk0=> ?_)
 obtain⟨l,hGl⟩: ∃l,G.l=l:=⟨_,rfl⟩
 rw[List.length_map,hGl]
 cases hc
 unfold qfi at h
 refine zbj (by dsimp only[zat,Tryd.f56,List.length_cons,List.length_nil,Nat.zero_add,Nat.reduceAdd,Nat.reduceSub,List.replicate,List.cons_append,List.nil_append]) (show rdS r.q r=⟨[(59,[.raw (.string (bs r.s)),.raw (.int .i64 r.a),.raw (.int .i64 r.e),(zbd 2 r.q)]),((zm r.q).1,[]),((zm r.q).1,(zm r.q).2)],[],[],0,false⟩ from rfl) ?_
 refine zgn (zc ?_)
 refine w_o (a:= .ptr 0 0) ?_
 obtain⟨x1,hx1,h⟩:=zv h
 refine zgm (r:= .u x1.1) (σ':=(.B [(59,[.s x1.2.s,.i x1.2.a,.i x1.2.e,(zbd 3 x1.2.q)]),((zm r.q).1,[]),((zm r.q).1,[]),((zm x1.2.q).1,(zm x1.2.q).2)])) ((zpe r x1 hx1) _ 2 (by decide) rfl rfl) rfl rfl ⟨rfl,rfl⟩ (by dsimp only[zy,List.set]) ?_
 refine zac ?_
 refine zki (S':=[.yld l,.iptr [.ptr 0 0],.top,.u x1.1,.top,.top,.top,.top,.top,.top,.top,.top,.top,.top,.top,.top,.top,.top,.top,.top,.top,.top,.top,.top,.top]) (σ':=(.B [(59,[.s x1.2.s,.i x1.2.a,.i x1.2.e,(zbd 2 x1.2.q)]),((zm r.q).1,[]),((zm x1.2.q).1,(zm x1.2.q).2)])) (zdo (bl 25 11) 2 [] [3] 1 hk0 rfl (zai (zd _ _ _ rfl) (zai rfl (zah (zai (zd _ _ _ rfl) (zk (zk (zah (zah (zah (zah (zah zcu))))))))))) (zay rfl (zb (zd _ _ _ rfl) (zb (zd _ _ _ rfl) (zb (zd _ _ _ rfl) (zb (zas (fun _=>rfl)) ze)))) ze (zj rfl (zu _ _ _) zao) rfl)) ?_
 refine zag ?_
 refine zcx h [3,6,7,8,9,10,11,12,13,14,15,16,17,18,19,20,21,22,23,24] (fun s1=>[(3,.u s1.1)]) (fun s1=>⟨[(59,[.s s1.2.1.s,.i s1.2.1.a,.i s1.2.1.e,(zbd 2 s1.2.1.q)]),((zm r.q).1,[]),((zm s1.2.1.q).1,(zm s1.2.1.q).2)],[],[],s1.2.2,false⟩) ?_ ?_
 ·
  exact zdq (bl 25 63) (by kernel_rfl) (by kernel_rfl)
 ·
  intro s1 p1 h
  refine zbj (by dsimp only[zbg,zbz,List.foldl,List.set]) rfl ?_
  refine zi ?_
  refine zi (zc ?_)
  refine zac ?_
  refine w_o (a:= .b (s1.1 !=0)) ?_
  refine zaa h (fun hc1 h=> ?_) (fun hc1 h=> ?_)
  ·
   refine w_o (a:= .b true) (h:=zbb (zeh rfl hc1)) ?_
   refine zan rfl rfl ?_
   refine zac ?_
   refine zan rfl rfl ?_
   refine w_o (a:= .b (s1.1 !=124)) ?_
   refine w_o (a:= .b (s1.1 !=124)) ?_
   refine zaa h (fun hc2 h=> ?_) (fun hc2 h=> ?_)
   ·
    refine w_o (a:= .b true) (h:=zbb (zeh rfl hc2)) ?_
    refine zan rfl rfl ?_
    refine zac ?_
    refine zan rfl rfl ?_
    refine w_o (a:= .b (s1.1 !=41)) ?_
    refine w_o (a:= .b (s1.1 !=41)) ?_
    refine zaa h (fun hc3 h=> ?_) (fun hc3 h=> ?_)
    ·
     refine zbw hc3 rfl ?_
     refine zi ?_
     refine zag ?_
     obtain⟨x2,hx2,h⟩:=zv h
     obtain⟨x3,hx3,h⟩:=zv h
     obtain⟨g1,h⟩:=z4p h
     refine w_seqC (id:=3) ?_
     refine zpw (fun ops hops FIN hFIN S0 hS0=> ?_)
     obtain⟨psY,hpsY⟩: ∃ps:List (Option (Nat×AV)),ps=[some (18,.yld l),some (19,.ptr 0 0),some (20,.ptr 0 0),some (21,.A (x2.1:Tr)),some (22,.A (x3.1:Tr)),some (23,.b true),some (24,.b false)]:=⟨_,rfl⟩
     have zY7:aN (ITP Tryd.prog) Tryd.prog (some G) ops FIN S0 psY 7 0 127 ⟨[(59,[.s x3.2.s,.i x3.2.a,.i x3.2.e,(zbd 4 x3.2.q)]),((zm r.q).1,[]),((zm s1.2.1.q).1,[]),((zm x2.2.q).1,[]),((zm x3.2.q).1,(zm x3.2.q).2)],[],[],(s1.2.2+1),false⟩:=by
      refine aN_0 hops hS0 hpsY (hFIN _ _ ?_)
      refine zax rfl ?_
      refine zc (k0:=k0) (id:=2) ?_
      refine w_o (a:= .ptr 0 0) ?_
      obtain⟨x4,hx4,h⟩:=zv h
      refine zgm (r:= .u x4.1) (σ':=⟨[(59,[.s x4.2.s,.i x4.2.a,.i x4.2.e,(zbd 5 x4.2.q)]),((zm r.q).1,[]),((zm s1.2.1.q).1,[]),((zm x2.2.q).1,[]),((zm x3.2.q).1,[]),((zm x4.2.q).1,(zm x4.2.q).2)],[],[],(s1.2.2+1),false⟩) ((zpe x3.2 x4 hx4) _ 4 (by decide) rfl rfl) rfl rfl ⟨rfl,rfl⟩ (by dsimp only[zy,List.set]) ?_
      refine zac ?_
      refine zbs (p:=p1) (x4.1,x4.2,(s1.2.2+1)) h ?_
      exact(zdo (bl 25 63) 2 [] [5] 1 hk0 rfl (by dsimp only[zbg,zbz,List.foldl,List.set];exact(zai (zd _ _ _ rfl) (zai rfl (zai rfl (zai (zd _ _ _ rfl) (zai rfl (zai rfl (zk (zk (zah (zah (zah zcu)))))))))))) (zay rfl (zb (zd _ _ _ rfl) (zb (zd _ _ _ rfl) (zb (zd _ _ _ rfl) (zb (zas (fun _=>rfl)) ze)))) ze (zj rfl (zu _ _ _) zao) rfl))
     have zY6:aN (ITP Tryd.prog) Tryd.prog (some G) ops FIN S0 psY 7 1 63 ⟨[(59,[.s x3.2.s,.i x3.2.a,.i x3.2.e,(zbd 4 x3.2.q)]),((zm r.q).1,[]),((zm s1.2.1.q).1,[]),((zm x2.2.q).1,[]),((zm x3.2.q).1,(zm x3.2.q).2)],[],[],(s1.2.2+1),false⟩:=by
      refine zkk hops hS0 hpsY 6 ?_
      refine w_o (a:= .b false) ?_
      exact zf zY7 hS0 hpsY
     obtain⟨psN,hpsN⟩: ∃ps:List (Option (Nat×AV)),ps=[some (18,.yld l),some (19,.ptr 0 0),some (20,.ptr 0 0),some (21,.A (x2.1:Tr)),some (22,.A (x3.1:Tr)),some (23,.b false),some (24,.b true)]:=⟨_,rfl⟩
     have zN7:aN (ITP Tryd.prog) Tryd.prog (some G) ops FIN S0 psN 7 0 127 ⟨[(59,[.s x3.2.s,.i x3.2.a,.i x3.2.e,(zbd 4 x3.2.q)]),((zm r.q).1,[]),((zm s1.2.1.q).1,[]),((zm x2.2.q).1,[]),((zm x3.2.q).1,(zm x3.2.q).2)],[],[],s1.2.2,true⟩:=by
      refine aN_0 hops hS0 hpsN (hFIN _ _ ?_)
      refine zbf rfl ?_
      refine .inr ?_
      exact⟨⟨.tup [],rfl⟩,.inl rfl⟩
     have zN6:aN (ITP Tryd.prog) Tryd.prog (some G) ops FIN S0 psN 7 1 63 ⟨[(59,[.s x3.2.s,.i x3.2.a,.i x3.2.e,(zbd 4 x3.2.q)]),((zm r.q).1,[]),((zm s1.2.1.q).1,[]),((zm x2.2.q).1,[]),((zm x3.2.q).1,(zm x3.2.q).2)],[],[],s1.2.2,true⟩:=by
      refine zkk hops hS0 hpsN 6 ?_
      refine w_o (a:= .b true) ?_
      exact zf zN7 hS0 hpsN
     obtain⟨ps,hps⟩: ∃ps:List (Option (Nat×AV)),ps=[some (18,.yld l),some (19,.ptr 0 0),some (20,.ptr 0 0),some (21,.A (x2.1:Tr)),some (22,.A (x3.1:Tr)),none,none]:=⟨_,rfl⟩
     have n13:aN (ITP Tryd.prog) Tryd.prog (some G) ops FIN S0 ps 7 2 31 ⟨[(59,[.s x3.2.s,.i x3.2.a,.i x3.2.e,(zbd 4 x3.2.q)]),((zm r.q).1,[]),((zm s1.2.1.q).1,[]),((zm x2.2.q).1,[]),((zm x3.2.q).1,(zm x3.2.q).2)],[],[],s1.2.2,false⟩:=by
      refine zkk hops hS0 hps 5 ?_
      refine zrd (row:=zmr) (x:=x3.1) (σ1:=⟨[(59,[.s x3.2.s,.i x3.2.a,.i x3.2.e,(zbd 4 x3.2.q)]),((zm r.q).1,[]),((zm s1.2.1.q).1,[]),((zm x2.2.q).1,[]),((zm x3.2.q).1,(zm x3.2.q).2)],[],[],(s1.2.2+1),false⟩) (σ2:=⟨[(59,[.s x3.2.s,.i x3.2.a,.i x3.2.e,(zbd 4 x3.2.q)]),((zm r.q).1,[]),((zm s1.2.1.q).1,[]),((zm x2.2.q).1,[]),((zm x3.2.q).1,(zm x3.2.q).2)],[],[],s1.2.2,true⟩) g1 (zh (zbu (zab (Enc.clo _))) rfl) (za (zam _ _ (zab (Enc.clo _))) rfl) (zwp rfl) rfl hGl hGr rfl rfl rfl rfl (by dsimp only[zy,List.set]) (by dsimp only[zy,List.set]) rfl rfl ?_ ?_
      ·
       exact zf zY6 hS0 hpsY
      ·
       exact zf zN6 hS0 hpsN
     have n12:aN (ITP Tryd.prog) Tryd.prog (some G) ops FIN S0 ps 7 3 30 ⟨[(59,[.s x3.2.s,.i x3.2.a,.i x3.2.e,(zbd 4 x3.2.q)]),((zm r.q).1,[]),((zm s1.2.1.q).1,[]),((zm x2.2.q).1,[]),((zm x3.2.q).1,(zm x3.2.q).2)],[],[],s1.2.2,false⟩:=by
      refine zkk hops hS0 hps 0 ?_
      ·
       refine zac ?_
       exact zf n13 hS0 hps
     have n11:aN (ITP Tryd.prog) Tryd.prog (some G) ops FIN S0 ps 7 3 15 ⟨[(59,[.s x2.2.s,.i x2.2.a,.i x2.2.e,(zbd 3 x2.2.q)]),((zm r.q).1,[]),((zm s1.2.1.q).1,[]),((zm x2.2.q).1,(zm x2.2.q).2)],[],[],s1.2.2,false⟩:=by
      refine zkk hops hS0 hps 4 ?_
      ·
       refine zgm (r:= .A (x3.1:Tr)) (σ':=⟨[(59,[.s x3.2.s,.i x3.2.a,.i x3.2.e,(zbd 4 x3.2.q)]),((zm r.q).1,[]),((zm s1.2.1.q).1,[]),((zm x2.2.q).1,[]),((zm x3.2.q).1,(zm x3.2.q).2)],[],[],s1.2.2,false⟩) ((zvh fuel x2.1 x2.2 x3 hx3) _ 3 (by decide) rfl rfl) rfl rfl ⟨rfl,rfl⟩ (by dsimp only[zy,List.set]) ?_
       exact zf n13 hS0 hps
     have n10:aN (ITP Tryd.prog) Tryd.prog (some G) ops FIN S0 ps 7 4 14 ⟨[(59,[.s x2.2.s,.i x2.2.a,.i x2.2.e,(zbd 3 x2.2.q)]),((zm r.q).1,[]),((zm s1.2.1.q).1,[]),((zm x2.2.q).1,(zm x2.2.q).2)],[],[],s1.2.2,false⟩:=by
      refine zei hops hS0 hps 0 4 ?_ ?_
      ·
       refine zac ?_
       exact zf n11 hS0 hps
      ·
       refine zgm (r:= .A (x3.1:Tr)) (σ':=⟨[(59,[.s x3.2.s,.i x3.2.a,.i x3.2.e,(zbd 4 x3.2.q)]),((zm r.q).1,[]),((zm s1.2.1.q).1,[]),((zm x2.2.q).1,[]),((zm x3.2.q).1,(zm x3.2.q).2)],[],[],s1.2.2,false⟩) ((zvh fuel x2.1 x2.2 x3 hx3) _ 3 (by decide) rfl rfl) rfl rfl ⟨rfl,rfl⟩ (by dsimp only[zy,List.set]) ?_
       exact zf n12 hS0 hps
     have n9:aN (ITP Tryd.prog) Tryd.prog (some G) ops FIN S0 ps 7 4 13 ⟨[(59,[.s x2.2.s,.i x2.2.a,.i x2.2.e,(zbd 3 x2.2.q)]),((zm r.q).1,[]),((zm s1.2.1.q).1,[]),((zm x2.2.q).1,(zm x2.2.q).2)],[],[],s1.2.2,false⟩:=by
      refine zkk hops hS0 hps 1 ?_
      ·
       refine w_o (a:= .ptr 0 0) ?_
       exact zf n11 hS0 hps
     have n8:aN (ITP Tryd.prog) Tryd.prog (some G) ops FIN S0 ps 7 4 7 ⟨[(59,[.s s1.2.1.s,.i s1.2.1.a,.i s1.2.1.e,(zbd 2 s1.2.1.q)]),((zm r.q).1,[]),((zm s1.2.1.q).1,(zm s1.2.1.q).2)],[],[],s1.2.2,false⟩:=by
      refine zkk hops hS0 hps 3 ?_
      ·
       refine zgm (r:= .A (x2.1:Tr)) (σ':=⟨[(59,[.s x2.2.s,.i x2.2.a,.i x2.2.e,(zbd 3 x2.2.q)]),((zm r.q).1,[]),((zm s1.2.1.q).1,[]),((zm x2.2.q).1,(zm x2.2.q).2)],[],[],s1.2.2,false⟩) ((ha s1.2.1 x2 hx2) _ 2 (by decide) rfl rfl) rfl rfl ⟨rfl,rfl⟩ (by dsimp only[zy,List.set]) ?_
       exact zf n11 hS0 hps
     have n7:aN (ITP Tryd.prog) Tryd.prog (some G) ops FIN S0 ps 7 5 12 ⟨[(59,[.s x2.2.s,.i x2.2.a,.i x2.2.e,(zbd 3 x2.2.q)]),((zm r.q).1,[]),((zm s1.2.1.q).1,[]),((zm x2.2.q).1,(zm x2.2.q).2)],[],[],s1.2.2,false⟩:=by
      refine zei hops hS0 hps 0 1 ?_ ?_
      ·
       refine zac ?_
       exact zf n9 hS0 hps
      ·
       refine w_o (a:= .ptr 0 0) ?_
       exact zf n10 hS0 hps
     have n6:aN (ITP Tryd.prog) Tryd.prog (some G) ops FIN S0 ps 7 5 6 ⟨[(59,[.s s1.2.1.s,.i s1.2.1.a,.i s1.2.1.e,(zbd 2 s1.2.1.q)]),((zm r.q).1,[]),((zm s1.2.1.q).1,(zm s1.2.1.q).2)],[],[],s1.2.2,false⟩:=by
      refine zei hops hS0 hps 0 3 ?_ ?_
      ·
       refine zac ?_
       exact zf n8 hS0 hps
      ·
       refine zgm (r:= .A (x2.1:Tr)) (σ':=⟨[(59,[.s x2.2.s,.i x2.2.a,.i x2.2.e,(zbd 3 x2.2.q)]),((zm r.q).1,[]),((zm s1.2.1.q).1,[]),((zm x2.2.q).1,(zm x2.2.q).2)],[],[],s1.2.2,false⟩) ((ha s1.2.1 x2 hx2) _ 2 (by decide) rfl rfl) rfl rfl ⟨rfl,rfl⟩ (by dsimp only[zy,List.set]) ?_
       exact zf n10 hS0 hps
     have n5:aN (ITP Tryd.prog) Tryd.prog (some G) ops FIN S0 ps 7 5 5 ⟨[(59,[.s s1.2.1.s,.i s1.2.1.a,.i s1.2.1.e,(zbd 2 s1.2.1.q)]),((zm r.q).1,[]),((zm s1.2.1.q).1,(zm s1.2.1.q).2)],[],[],s1.2.2,false⟩:=by
      refine zei hops hS0 hps 1 3 ?_ ?_
      ·
       refine w_o (a:= .ptr 0 0) ?_
       exact zf n8 hS0 hps
      ·
       refine zgm (r:= .A (x2.1:Tr)) (σ':=⟨[(59,[.s x2.2.s,.i x2.2.a,.i x2.2.e,(zbd 3 x2.2.q)]),((zm r.q).1,[]),((zm s1.2.1.q).1,[]),((zm x2.2.q).1,(zm x2.2.q).2)],[],[],s1.2.2,false⟩) ((ha s1.2.1 x2 hx2) _ 2 (by decide) rfl rfl) rfl rfl ⟨rfl,rfl⟩ (by dsimp only[zy,List.set]) ?_
       exact zf n9 hS0 hps
     have n4:aN (ITP Tryd.prog) Tryd.prog (some G) ops FIN S0 ps 7 5 3 ⟨[(59,[.s s1.2.1.s,.i s1.2.1.a,.i s1.2.1.e,(zbd 2 s1.2.1.q)]),((zm r.q).1,[]),((zm s1.2.1.q).1,(zm s1.2.1.q).2)],[],[],s1.2.2,false⟩:=by
      refine zkk hops hS0 hps 2 ?_
      ·
       refine w_o (a:= .ptr 0 0) ?_
       exact zf n8 hS0 hps
     have n3:aN (ITP Tryd.prog) Tryd.prog (some G) ops FIN S0 ps 7 6 4 ⟨[(59,[.s s1.2.1.s,.i s1.2.1.a,.i s1.2.1.e,(zbd 2 s1.2.1.q)]),((zm r.q).1,[]),((zm s1.2.1.q).1,(zm s1.2.1.q).2)],[],[],s1.2.2,false⟩:=by
      refine zhu hops hS0 hps 0 1 3 ?_ ?_ ?_
      ·
       refine zac ?_
       exact zf n5 hS0 hps
      ·
       refine w_o (a:= .ptr 0 0) ?_
       exact zf n6 hS0 hps
      ·
       refine zgm (r:= .A (x2.1:Tr)) (σ':=⟨[(59,[.s x2.2.s,.i x2.2.a,.i x2.2.e,(zbd 3 x2.2.q)]),((zm r.q).1,[]),((zm s1.2.1.q).1,[]),((zm x2.2.q).1,(zm x2.2.q).2)],[],[],s1.2.2,false⟩) ((ha s1.2.1 x2 hx2) _ 2 (by decide) rfl rfl) rfl rfl ⟨rfl,rfl⟩ (by dsimp only[zy,List.set]) ?_
       exact zf n7 hS0 hps
     have n2:aN (ITP Tryd.prog) Tryd.prog (some G) ops FIN S0 ps 7 6 2 ⟨[(59,[.s s1.2.1.s,.i s1.2.1.a,.i s1.2.1.e,(zbd 2 s1.2.1.q)]),((zm r.q).1,[]),((zm s1.2.1.q).1,(zm s1.2.1.q).2)],[],[],s1.2.2,false⟩:=by
      refine zei hops hS0 hps 0 2 ?_ ?_
      ·
       refine zac ?_
       exact zf n4 hS0 hps
      ·
       refine w_o (a:= .ptr 0 0) ?_
       exact zf n6 hS0 hps
     have n1:aN (ITP Tryd.prog) Tryd.prog (some G) ops FIN S0 ps 7 6 1 ⟨[(59,[.s s1.2.1.s,.i s1.2.1.a,.i s1.2.1.e,(zbd 2 s1.2.1.q)]),((zm r.q).1,[]),((zm s1.2.1.q).1,(zm s1.2.1.q).2)],[],[],s1.2.2,false⟩:=by
      refine zei hops hS0 hps 1 2 ?_ ?_
      ·
       refine w_o (a:= .ptr 0 0) ?_
       exact zf n4 hS0 hps
      ·
       refine w_o (a:= .ptr 0 0) ?_
       exact zf n5 hS0 hps
     have n0:aN (ITP Tryd.prog) Tryd.prog (some G) ops FIN S0 ps 7 7 0 ⟨[(59,[.s s1.2.1.s,.i s1.2.1.a,.i s1.2.1.e,(zbd 2 s1.2.1.q)]),((zm r.q).1,[]),((zm s1.2.1.q).1,(zm s1.2.1.q).2)],[],[],s1.2.2,false⟩:=by
      refine zhu hops hS0 hps 0 1 2 ?_ ?_ ?_
      ·
       refine zac ?_
       exact zf n1 hS0 hps
      ·
       refine w_o (a:= .ptr 0 0) ?_
       exact zf n2 hS0 hps
      ·
       refine w_o (a:= .ptr 0 0) ?_
       exact zf n3 hS0 hps
     exact zxq n0 hps
    ·
     refine zbv hc3 rfl ?_
     refine zaj h (fun h=> ?_)
     have he1:=Option.some.inj h
     exact⟨⟨.tup [],rfl⟩,.inr ⟨congrArg Prod.fst he1,[2],1,rfl,by have e2:=congrArg Prod.snd he1;dsimp only at e2;subst e2;exact(zxi rfl (zb (zd _ _ _ rfl) (zb (zd _ _ _ rfl) (zb (zd _ _ _ rfl) (zb (zas (fun _=>rfl)) ze)))) ze (zj rfl (zu _ _ _) zao))⟩⟩
   ·
    refine w_o (a:= .b false) (h:=zbb (zeh rfl hc2)) ?_
    refine zyc ?_
    refine zyc ?_
    refine w_o (a:= .b false) ?_
    refine zax rfl ?_
    refine zaj h (fun h=> ?_)
    have he2:=Option.some.inj h
    exact⟨⟨.tup [],rfl⟩,.inr ⟨congrArg Prod.fst he2,[2],1,rfl,by have e2:=congrArg Prod.snd he2;dsimp only at e2;subst e2;exact(zxi rfl (zb (zd _ _ _ rfl) (zb (zd _ _ _ rfl) (zb (zd _ _ _ rfl) (zb (zas (fun _=>rfl)) ze)))) ze (zj rfl (zu _ _ _) zao))⟩⟩
  ·
   refine w_o (a:= .b false) (h:=zbb (zeh rfl hc1)) ?_
   refine zyc ?_
   refine zyc ?_
   refine w_o (a:= .b false) ?_
   refine zac ?_
   refine zyc ?_
   refine zyc ?_
   refine w_o (a:= .b false) ?_
   refine zax rfl ?_
   refine zaj h (fun h=> ?_)
   have he3:=Option.some.inj h
   exact⟨⟨.tup [],rfl⟩,.inr ⟨congrArg Prod.fst he3,[2],1,rfl,by have e2:=congrArg Prod.snd he3;dsimp only at e2;subst e2;exact(zxi rfl (zb (zd _ _ _ rfl) (zb (zd _ _ _ rfl) (zb (zd _ _ _ rfl) (zb (zas (fun _=>rfl)) ze)))) ze (zj rfl (zu _ _ _) zao))⟩⟩
def qat (fuel:Nat)(a:Rd→Option (Tr×Rd))(r:Rd):Option (List Tr×Rd):=
 zar (zfz r) (fun x1=>zbo (β:=Int×Rd×List Tr) (fun s1=>bif (s1.1 !=0) then(bif (s1.1 !=124) then(bif (s1.1 !=41) then zar (a s1.2.1) (fun x2=>zar (zew fuel x2.1 x2.2) (fun x3=>zar (zfz x3.2) (fun x4=>some (Sum.inl (x4.1,x4.2,s1.2.2++[x3.1]))))) else some (Sum.inr (s1.2.2,s1.2.1))) else some (Sum.inr (s1.2.2,s1.2.1))) else some (Sum.inr (s1.2.2,s1.2.1))) fuel (x1.1,x1.2,[]))
theorem z4m (F:Nat)(a:Rd→Option (Tr×Rd))(rows:List Tr)(r2:Rd): ∀(fuel:Nat) (c:Int) (r:Rd) (acc:List Tr),
 zbo (β:=Int×Rd×List Tr) (fun s1=>bif (s1.1 !=0) then(bif (s1.1 !=124) then(bif (s1.1 !=41) then zar (a s1.2.1) (fun x2=>zar (zew F x2.1 x2.2) (fun x3=>zar (zfz x3.2) (fun x4=>some (Sum.inl (x4.1,x4.2,s1.2.2++[x3.1]))))) else some (Sum.inr (s1.2.2,s1.2.1))) else some (Sum.inr (s1.2.2,s1.2.1))) else some (Sum.inr (s1.2.2,s1.2.1))) fuel (c,r,acc)=some (rows,r2)→
 (∃tl,rows=acc++tl)∧zbo (β:=Int×Rd×Nat) (fun s1=>(bif (s1.1 !=0) then(bif (s1.1 !=124) then(bif (s1.1 !=41) then(zar (a s1.2.1) (fun x2=>(zar (zew F x2.1 x2.2) (fun x3=>(z8p (rows[s1.2.2]? =some x3.1) (zar (zfz x3.2) (fun x4=>(some (Sum.inl (x4.1,x4.2,(s1.2.2+1))))))))))) else(some (Sum.inr (s1.2.2,s1.2.1)))) else(some (Sum.inr (s1.2.2,s1.2.1)))) else(some (Sum.inr (s1.2.2,s1.2.1))))) fuel (c,r,acc.length)=some (rows.length,r2)
 |0,_,_,_,h=>by cases h
 | fuel +1,c,r,acc,h=>by
  have stop:some (Sum.inr (acc,r):(Int×Rd×List Tr) ⊕ (List Tr×Rd))=some (Sum.inr (acc,r))→some (acc,r)=some (rows,r2)→(∃tl,rows=acc++tl)∧some (acc.length,r)=some (rows.length,r2):=fun _ h=>by
   cases h;exact⟨⟨[],by simp⟩,rfl⟩
  rw[zbo] at h⊢
  simp only at h⊢
  cases h1:(c !=0) with
  |false=>rw[h1] at h;simp only[cond_false] at h⊢;exact stop rfl h
  | true =>
   rw[h1] at h
   simp only[cond_true] at h⊢
   cases h2:(c !=124) with
   |false=>rw[h2] at h;simp only[cond_false] at h⊢;exact stop rfl h
   | true=>
    rw[h2] at h
    simp only[cond_true] at h⊢
    cases h3:(c !=41) with
    |false=>rw[h3] at h;simp only[cond_false] at h⊢;exact stop rfl h
    | true=>
     rw[h3] at h
     simp only[cond_true] at h⊢
     cases ha:a r with
     |none=>rw[ha] at h;cases h
     | some x2=>
      rw[ha] at h
      simp only[zar] at h⊢
      cases hc:zew F x2.1 x2.2 with
      |none=>rw[hc] at h;cases h
      | some x3=>
       rw[hc] at h
       simp only at h⊢
       cases hn:zfz x3.2 with
       |none=>rw[hn] at h;cases h
       | some x4=>
        rw[hn] at h
        simp only at h⊢
        obtain⟨⟨tl,e1⟩,e2⟩:=z4m F a rows r2 fuel x4.1 x4.2 (acc++[x3.1]) h
        have hr:rows[acc.length]? =some x3.1:=by rw[e1];simp
        refine⟨⟨x3.1::tl,by rw[e1];simp⟩,?_⟩
        unfold z8p
        rw[if_pos hr]
        simp only
        rw[List.length_append] at e2
        exact e2
theorem pcs_ok (fuel:Nat)(a:Rd→Option (Tr×Rd))(r:Rd)(y:List Tr×Rd)(h:qat fuel a r=some y):qfi fuel a y.1 r=some (y.1.length,y.2):=by
 unfold qat at h
 obtain⟨x1,h1,h⟩:=zv h
 unfold qfi
 rw[h1]
 exact(z4m fuel a y.1 y.2 fuel x1.1 x1.2 [] h).2
def altP (fuel:Nat):Nat→Rd→Option (Tr×Rd)
 |0,_=>none
 |n+1,r=>z0t fuel (qat fuel (zrx fuel (zse (altP fuel n)))) r
theorem qjo (fuel:Nat): ∀(n:Nat) (r:Rd) (y:Tr×Rd),altP fuel n r=some y→RdC Tryd.prog 20 [] r (.agg (Enc.cells y.1)) y.2
 |0,_,_,h=>by cases h
 |n+1,r,y,h=>alts_rd fuel _ r (fun r y h=>pc1_it fuel _ y.1 r (fun r y h=>atom_rd fuel _ r (fun k r y h=>qhc _ k r (qjo fuel n) y h) y h) y.2 (pcs_ok fuel _ r y h)) y h
def qhv (fuel n:Nat)(s:List UInt8):Option (Rg×Int×Int):=z3z (altP fuel n) s
theorem qaq (fuel n:Nat)(s:List UInt8)(r:Rg×Int×Int)(h:qhv fuel n s=some r):Pure (ITP Tryd.prog) Tryd.prog 8 [.raw (.string (bs s))] (.tup [.agg (Enc.cells (r.1:Rg)),.raw (.int .i64 r.2.1),.raw (.int .i64 r.2.2)]):=read_sh _ s r (qjo fuel n) h
def brT (s:BS):Tr:= .mk 2 s 0 0 []
theorem zph (s:BS):pre (brT s)=[brT s]:=by simp[brT,pre,zda]
theorem qah {s:BS} (h:s≠0#256):zeu (brT s)=true:=by
 rw[brT,zrv,qak]
 simp[h]
theorem znn {s:BS} (h:s≠0#256):zga (brT s)=true:=by
 rw[zga,zgk,zph]
 simp[qah h]
theorem zti {s:BS} (h:s≠0#256):zex (brT s)=brT s:=by rw[zex,if_pos (znn h)]
theorem z4l {s:BS} (h:s≠0#256):zsa (brT s)=true:=by rw[zsa,znn h,Bool.or_true]
theorem seq_brT {s:BS} (h:s≠0#256):seqT [brT s]=brT s:=by
 unfold seqT
 have hk:((brT s).k:Int)=2:=rfl
 rw[if_neg (by simp[znn h,hk])]
 show zex (brT s)=brT s
 exact zti h
theorem or_brT {s:BS} (h:s≠0#256):orT [brT s]=brT s:=by
 unfold orT
 rw[if_neg (by simp[z4l h])]
 show zex (brT s)=brT s
 exact zti h
theorem qaz {s:BS} (h:s≠0#256):zvg (brT s) 1 1=brT s:=by
 unfold zvg
 rw[z4l h]
 rfl
theorem qdb {s:BS} (h:s≠0#256)(b e:Bool):zsn (Rg.mk b e (brT s))=some 0:=by
 have hl:(pre (brT s)).length=1:=by rw[zph];rfl
 have hli:zgk (brT s)=true:=by rw[zgk,hl];rfl
 unfold zsn
 simp only[hl]
 refine zae (by omega) (zap fun x hx=> ?_)
 rw[znn h] at hx
 subst hx
 rw[show(!true)=false from rfl,cond_false]
 refine zae (by omega) (zap fun x hx=> ?_)
 rw[z4w,if_pos hli,hl] at hx
 subst hx
 rw[show decide (((1:Nat):Int)>120)=false from rfl,cond_false]
 refine zbq 1 ?_ ?_
 ·unfold zju
  simp only[hl]
  refine zae (by omega) (zap fun x hx=> ?_)
  rw[hli] at hx
  subst hx
  rw[show(!true)=false from rfl,cond_false]
  exact zae (by omega) (zap fun x hx=>by rw[←hx];rfl)
 ·rw[show decide ((1:Int)>400)=false from rfl,cond_false]
  refine zae (by omega) (zap fun x hx=> ?_)
  rw[zvl,if_pos hli,zph] at hx
  have:x=0:=by rw[←hx];simp[brT,Tr.k]
  subst this
  rfl
theorem ends_br (t:List UInt8)(h:t.length<2^40):zus (t++[93])=some false:=by
 unfold zus
 have hs:Lib.hasSuffix (t++[93]) ([36]:List UInt8)=false:=by
  unfold Lib.hasSuffix
  simp[List.isSuffixOf]
  rfl
 refine zae (by simp;omega) (zap fun x hx=> ?_)
 have:x.2=false:=by rw[←hx];exact hs
 rw[this,cond_false]
theorem z4k (s:List UInt8)(k:Int)(h:(s.length:Int)≤k)(q:Stk):zfz (Rd.mk s k 0 q)=some (0,Rd.mk s k 0 q):=by
 unfold zfz
 rw[show((Rd.mk s k 0 q).e !=0)=false from rfl,cond_false,show decide ((Rd.mk s k 0 q).a≥(List.length (Rd.mk s k 0 q).s:Int))=true by simpa using h,cond_true]
theorem next_at (s:List UInt8)(c:UInt8)(t:List UInt8)(q:Stk)(h:s=c::t):zfz (Rd.mk s 0 0 q)=some ((c.toNat:Int),Rd.mk s 0 0 q):=by
 unfold zfz
 rw[show((Rd.mk s 0 0 q).e !=0)=false from rfl,cond_false,show decide ((Rd.mk s 0 0 q).a≥(List.length (Rd.mk s 0 0 q).s:Int))=false by simp[h],cond_false]
 refine zae (by simp[h]) (zap fun x hx=> ?_)
 rw[←hx,h];rfl
theorem z2t (s:List UInt8)(S:BS)(hS:S≠0#256)(h:s.length<2^40)(q:Stk):zew 1100 (brT S) (Rd.mk s (s.length:Int) 0 q)=some (brT S,Rd.mk s ((s.length:Int)+0) 0 q):=by
 unfold zew
 rw[show((Rd.mk s (s.length:Int) 0 q).e !=0)=false from rfl,cond_false]
 refine zae (by simp only;omega) (zap fun x hx=> ?_)
 have hx:x=[]:=by rw[←hx];simp only;rw[zpi];simp
 subst hx
 refine zbq (1,1,0,0) rfl ?_
 rw[show(((1,1,0,0):Int×Int×Int×Int).2.2.2 !=0)=false from rfl,cond_false]
 refine zae (by simp only;omega) ?_
 refine zca (Rd.mk s ((s.length:Int)+0) 0 q) rfl ?_
 refine zae (by rw[zph];simp) (zap fun x hx=> ?_)
 simp only at hx
 rw[qaz hS] at hx
 subst hx
 rfl
theorem atom_br (s t:List UInt8)(g:Int→Rd→Option (Tr×Rd))(S:BS)(hS:S≠0#256)(he:s=91::t)(hb:zec 1100 s=some (S,(s.length:Int),0))(h:s.length<2^40)(q:Stk):zrx 1100 g (Rd.mk s 0 0 q)=some (brT S,Rd.mk s (0+(s.length:Int)) 0 q):=by
 unfold zrx
 refine zae (by simp only;omega) (zap fun x1 hx1=> ?_)
 have e1:x1=s:=by rw[←hx1];show sub s ((0:Nat):Int) _=s;rw[zpi];rfl
 subst e1
 refine z4u (brT S,Rd.mk x1 (0+(x1.length:Int)) 0 q) ?_ rfl
 refine zae (by rw[he];simp only[List.length_cons];omega) (zap fun x2 hx2=> ?_)
 have e2:x2=91:=by rw[←hx2,he];rfl
 subst e2
 rw[show((((91:UInt8).toNat:Nat):Int)==40)=false from rfl,cond_false,show((((91:UInt8).toNat:Nat):Int)==91)=true from rfl,cond_true]
 refine zbq _ hb ?_
 simp only
 rw[show((0:Int) !=0)=false from rfl,cond_false]
 refine zae (by omega) (zap fun x hx=> ?_)
 have:x=brT S:=by rw[←hx,ofT,if_neg hS];rfl
 subst this
 rfl
theorem qfv {β ρ:Type} {body:β→Option (β ⊕ ρ)} {s:β} {y:ρ} (n:Nat)(h:body s=some (.inr y)):zbo body (n+1) s=some y:=by rw[zbo,h]
theorem qav {α β ρ:Type} {body:β→α→Option (β ⊕ ρ)} {x:α} {s s':β} (h:body s x=some (.inl s')):zek body [x] s=some (.inl s'):=by
 rw[zek,h];rfl
theorem alts_br (s t:List UInt8)(n:Nat)(S:BS)(hS:S≠0#256)(he:s=91::t)(hb:zec 1100 s=some (S,(s.length:Int),0))(h:s.length<2^40):altP 1100 (n+1) (Rd.mk s 0 0 none)=some (brT S,Rd.mk s (0+(s.length:Int)+0) 0 none):=by
 have hp:qat 1100 (zrx 1100 (zse (altP 1100 n))) (Rd.mk s 0 0 none)=some ([brT S],Rd.mk s (0+(s.length:Int)+0) 0 none):=by
  unfold qat
  refine zbq _ (next_at s 91 t none he) ?_
  simp only
  rw[show(1100:Nat)=1099+1 from rfl,zbo]
  have hc:=z2t s S hS h none
  have hb1:(bif ((((91:UInt8).toNat:Nat):Int) !=0) then(bif ((((91:UInt8).toNat:Nat):Int) !=124) then(bif ((((91:UInt8).toNat:Nat):Int) !=41) then zar (zrx (1099+1) (zse (altP (1099+1) n)) (Rd.mk s 0 0 none)) (fun x2=>zar (zew (1099+1) x2.1 x2.2) (fun x3=>zar (zfz x3.2) (fun x4=>some (Sum.inl (x4.1,x4.2,([]:List Tr)++[x3.1]):(Int×Rd×List Tr) ⊕ (List Tr×Rd))))) else some (Sum.inr ([],Rd.mk s 0 0 none))) else some (Sum.inr ([],Rd.mk s 0 0 none))) else some (Sum.inr ([],Rd.mk s 0 0 none)))=some (Sum.inl (0,Rd.mk s (0+(s.length:Int)+0) 0 none,[brT S])):=by
   rw[show((((91:UInt8).toNat:Nat):Int) !=0)=true from rfl,cond_true,show((((91:UInt8).toNat:Nat):Int) !=124)=true from rfl,cond_true,show((((91:UInt8).toNat:Nat):Int) !=41)=true from rfl,cond_true]
   refine zbq _ (atom_br s t _ S hS he hb h none) ?_
   simp only
   rw[show(0:Int)+(s.length:Int)=(s.length:Int) by omega]
   refine zbq _ hc ?_
   refine zbq _ (z4k s _ (by omega) none) ?_
   rfl
  rw[hb1]
  rfl
 show z0t 1100 _ _=_
 unfold z0t
 refine zca (Rd.mk s (0+(s.length:Int)+0) 0 none,[brT S]) ?_ ?_
 ·refine qfv 1099 (y:=Sum.inl (Rd.mk s (0+(s.length:Int)+0) 0 none,[brT S])) ?_
  refine zca (Rd.mk s (0+(s.length:Int)+0) 0 none,[brT S]) ?_ ?_
  ·refine zbq (Rd.mk s 0 0 none) rfl (zbq _ hp ?_)
   refine zca [brT S] ?_ rfl
   refine qav ?_ 
   exact zae (by simp) rfl
  ·refine zae (by simp only[zda,zph];simp) (zap fun x hx=> ?_)
   rw[seq_brT hS] at hx
   subst hx
   rw[show List.isEmpty ([]:List Tr)=true from rfl,cond_true]
   refine zae (by simp) ?_
   refine zbq _ (z4k s _ (by omega) none) ?_
   simp only
   rw[show((0:Int) !=124)=true from rfl,cond_true]
 ·simp only
  rw[show List.isEmpty [brT S]=false from rfl,cond_false]
  refine zae (by simp only[zda,zph];simp) (zap fun x hx=> ?_)
  rw[or_brT hS] at hx
  subst hx
  rfl
theorem read_br (t:List UInt8)(S:BS)(hS:S≠0#256)(hb:zec 1100 (91::t++[93])=some (S,((91::t++[93]).length:Int),0))(h:t.length<900):qhv 1100 60 (91::t++[93])=some (Rg.mk false false (brT S),((91::t++[93]).length:Int),0):=by
 obtain⟨s,hs⟩: ∃s,s=91::t++[93]:=⟨_,rfl⟩
 rw[←hs] at hb⊢
 have hl:s.length=t.length+2:=by rw[hs];simp
 have he:s=91::(t++[93]):=by rw[hs];rfl
 have hend:zus s=some false:=by rw[hs];exact ends_br (91::t) (by simp;omega)
 have hpre:Lib.hasPrefix s ([94]:List UInt8)=false:=by rw[he];rfl
 have htr:Lib.trimPrefix s ([94]:List UInt8)=s:=by unfold Lib.trimPrefix;rw[hpre];rfl
 unfold qhv z3z
 rw[show decide ((List.length s:Int)>1000)=false by simp;omega,cond_false]
 refine zap fun x1 hx1=> ?_
 rw[htr,hpre] at hx1
 subst hx1
 simp only
 refine zae (by omega) ?_
 refine zbq _ hend ?_
 refine zca s rfl ?_
 refine zbq _ (alts_br s (t++[93]) 59 S hS he hb (by omega)) ?_
 simp only
 refine zca (Rd.mk s (0+(s.length:Int)+0) 0 none) ?_ ?_
 ·rw[show((0:Int) !=0)=false from rfl,cond_false,show decide (0+(s.length:Int)+0<(s.length:Int))=false by simp,cond_false]
  rfl
 ·simp only
  rw[show((0:Int) !=0)=false from rfl,cond_false]
  refine zbq _ (qdb hS false false) ?_
  rfl
end Go.Ab
