/-
  slices.CompactFunc of nodes by Same.
-/
import Derived.Test.YtfkkellnlmjenaaGreatZeBx
set_option linter.unusedSimpArgs false
set_option linter.unusedVariables false
set_option maxRecDepth 100000
set_option maxHeartbeats 4000000
namespace Go.Ab
open Go Go.RowKit Go.Fwd Go.Proofs
def qan (fuel:Nat)(l:List Tr):Option (List Tr):=
 (bif (decide ((((List.length l):Nat):Int)<2)) then(some l) else(zeb (τ:=Unit) (zcc (β:=Int) (fun s1=>(bif (decide (s1<(((List.length l):Nat):Int))) then(zeb (τ:=Unit) (chk (0≤s1∧s1<(((List.length l):Nat):Int)) (chk (0≤s1∧s1<(List.length l:Int)) (zba (ix l s1) (fun x1=>(chk (-9223372036854775808≤(s1-1)∧(s1-1)<9223372036854775808) (chk (0≤(s1-1)∧(s1-1)<(((List.length l):Nat):Int)) (chk (0≤(s1-1)∧(s1-1)<(List.length l:Int)) (zba (ix l (s1-1)) (fun x2=>(chk ((pre x1).length<2^61∧(pre x2).length<2^61) (zba (zkm x1 x2) (fun x3=>(bif x3 then(chk (0≤s1∧s1<(((List.length l):Nat):Int)) (zeb (τ:=Int×(List Tr)) (zcc (β:=Int×Int×(List Tr)) (fun s2=>(bif (decide (s2.2.1<((((List.length l)-Int.toNat s1):Nat):Int))) then(zeb (τ:=Int×(List Tr)) (chk (0≤s2.2.1∧s2.2.1<((((List.length l)-Int.toNat s1):Nat):Int)) (chk (0≤(((Int.toNat s1:Nat):Int)+s2.2.1)∧(((Int.toNat s1:Nat):Int)+s2.2.1)<(List.length s2.2.2:Int)) (zba (ix s2.2.2 (((Int.toNat s1:Nat):Int)+s2.2.1)) (fun x4=>(chk (-9223372036854775808≤(s2.2.1-1)∧(s2.2.1-1)<9223372036854775808) (chk (0≤(s2.2.1-1)∧(s2.2.1-1)<((((List.length l)-Int.toNat s1):Nat):Int)) (chk (0≤(((Int.toNat s1:Nat):Int)+(s2.2.1-1))∧(((Int.toNat s1:Nat):Int)+(s2.2.1-1))<(List.length s2.2.2:Int)) (zba (ix s2.2.2 (((Int.toNat s1:Nat):Int)+(s2.2.1-1))) (fun x5=>(chk ((pre x4).length<2^61∧(pre x5).length<2^61) (zba (zkm x4 x5) (fun x6=>(bif (!x6) then(chk (0≤s2.2.1∧s2.2.1<((((List.length l)-Int.toNat s1):Nat):Int)) (chk (0≤(((Int.toNat s1:Nat):Int)+s2.2.1)∧(((Int.toNat s1:Nat):Int)+s2.2.1)<(List.length s2.2.2:Int)) (zba (ix s2.2.2 (((Int.toNat s1:Nat):Int)+s2.2.1)) (fun x7=>(chk (0≤s2.1∧s2.1<(((List.length l):Nat):Int)) (chk (0≤s2.1∧s2.1<(List.length s2.2.2:Int)) (zba (ix s2.2.2 s2.1) (fun x8=>(chk (-9223372036854775808≤(s2.1+1)∧(s2.1+1)<9223372036854775808) (some (Sum.inl ((s2.1+1),(List.set s2.2.2 (Int.toNat s2.1) x7))))))))))))) else(some (Sum.inl (s2.1,s2.2.2)))))))))))))))) (fun j4=>(chk (-9223372036854775808≤(s2.2.1+1)∧(s2.2.1+1)<9223372036854775808) (some (Sum.inl (j4.1,(s2.2.1+1),j4.2)))))) else(some (Sum.inr (Sum.inl (s2.1,s2.2.2)))))) fuel (s1,1,l)) (fun j3=>(chk (0≤j3.1∧j3.1<(((List.length l):Nat):Int)) (chk (Int.toNat j3.1≤List.length j3.2∧0<List.length j3.2∧0<((List.length l)-Int.toNat j3.1)) (chk ((0<j3.1∧j3.1≤(((List.length l):Nat):Int))∧List.length (List.take (Int.toNat j3.1) j3.2)=Int.toNat j3.1) (some (Sum.inr (Sum.inr (Sum.inr (List.take (Int.toNat j3.1) j3.2))))))))))) else(some (Sum.inl ()))))))))))))))) (fun j2=>(chk (-9223372036854775808≤(s1+1)∧(s1+1)<9223372036854775808) (some (Sum.inl ((s1+1))))))) else(some (Sum.inr (Sum.inl ()))))) fuel (1)) (fun j1=>(some l))))
theorem ent106:Ent Tryz.prog 106:=enters_of Tryz.func106 (by kernel_rfl) rfl
set_option maxRecDepth 100000 in
set_option maxHeartbeats 4000000 in
theorem comp_s0 (fuel:Nat)(l:List Tr)(r:List Tr)(h:qan fuel l=some r):Snd (ITP Tryz.prog) Tryz.prog 106 [.bsl 0 0 (List.length l) 8 false,.clos 23 []] ⟨[(29,Enc.cellsL l)],[],[],0,false⟩ (.bsl 0 0 r.length 8 false) ⟨[(29,Enc.cellsL r)],[],[],0,false⟩:=by
 obtain⟨d,hd⟩: ∃d,Tryz.f106.body=some d:=⟨_,rfl⟩
 refine zrp mix Tryz.func106 hd ent106 ?_
 cases hd
 unfold qan at h
 refine zal (by dsimp only[zbi,Tryz.f106,List.length_cons,List.length_nil,Nat.zero_add,Nat.reduceAdd,Nat.reduceSub,List.replicate,List.cons_append,List.nil_append]) rfl ?_
 refine zf (zb ?_)
 refine w_o (a:= .list 0 [] .full) ?_
 refine zf ?_
 refine zf (zb ?_)
 refine zaj ?_
 refine w_o (a:= .raw (.int .i64 (((List.length l):Nat):Int))) ?_
 refine w_o (a:= .raw (.bool (decide ((((List.length l):Nat):Int)<2)))) ?_
 refine zac h (fun hc1 h=> ?_) (fun hc1 h=> ?_)
 ·
  refine zcm hc1 rfl ?_
  refine zf (zb ?_)
  refine zaj ?_
  refine zaj ?_
  exact zyz (R:=l) h rfl (zbl (zr (zk _ _ (Enc.cloL _)) rfl)) rfl rfl
 ·
  refine zci hc1 rfl ?_
  refine zas h [1,2,3,4,5,6,7,8,9,10,11,12,13,14,15,16,17,18,19,20,21,22,23,24,25,26,27,28,29,30,31,32,33,34,35,36,37,38,39,40,41,42,43,44,45,46,47,48,49,50,51,52,53,54,55,56,57,58,59,60,61,62,63,64,65] (fun j1=>[]) (fun j1=>⟨[(29,(Enc.cellsL (l:List Tr)))],[],[],0,false⟩) ?_ ?_
  ·
   intro or1 h hr1
   refine zf (zb ?_)
   refine w_o (a:= .raw (.int .i64 1)) ?_
   refine zn ?_
   refine zcb h [2,3,4,5,6,7,8,9,10,11,12,13,14,15,16,17,18,19,20,21,22,23,24,25,26,27,28,29,30,31,32,33,34,35,36,37,38,39,40,41,42,43,44,45,46,47,48,49,50,51,52,53,54,55,56,57,58,59,60,61,62,63,64,65] (fun s1=>[(5,.raw (.int .i64 s1))]) (fun s1=>⟨[(29,(Enc.cellsL (l:List Tr)))],[],[],0,false⟩) ?_ ?_
   ·
    exact zdl (bl 66 35) (by kernel_rfl) (by kernel_rfl)
   ·
    intro s1 p1 h
    refine zal (by dsimp only[zz,zai,List.foldl,List.set]) rfl ?_
    refine zf ?_
    refine zf (zb ?_)
    refine zaj ?_
    refine zaj ?_
    refine w_o (a:= .raw (.int .i64 (((List.length l):Nat):Int))) ?_
    refine w_o (a:= .raw (.bool (decide (s1<(((List.length l):Nat):Int))))) ?_
    refine zac h (fun hc2 h=> ?_) (fun hc2 h=> ?_)
    ·
     refine zcm hc2 rfl ?_
     refine zas h [4,5,6,7,12,13,14,15,18,19,20,21,22,23,24,25,26,27,28,29,30,31,32,33,34,35,36,37,38,39,40,41,42,43,44,45,46,47,48,49,50,51,52,53,54,55,56,57,58,59,60,61,62,63,64] (fun j2=>[(5,.raw (.int .i64 s1))]) (fun j2=>⟨[(29,(Enc.cellsL (l:List Tr)))],[],[],0,false⟩) ?_ ?_
     ·
      intro or2 h hr2
      refine zn ?_
      refine zf ?_
      refine zgs (k0:=0) (id:=6) 10 (by kernel_rfl) (by kernel_rfl) ?_
      refine zel ?_
      refine zel ?_
      refine zel ?_
      obtain⟨g1,h⟩:=zh h
      refine h_o (a:= .ptr 0 (0+Int.toNat s1*8)) (h:=zfb (α:=Tr) g1 rfl rfl rfl rfl rfl) ?_
      obtain⟨g2,h⟩:=zh h
      obtain⟨x1,hx1,h⟩:=zl h
      refine h_o (a:= .agg (Enc.cells (x1:Tr))) (h:=by rw[←hx1];exact(zeg (α:=Tr) (l:=l) (i:=s1) (k:=0) (te:=29) g2 rfl rfl rfl rfl)) ?_
      refine zel ?_
      refine zel ?_
      obtain⟨g3,h⟩:=zh h
      refine h_o (a:= .raw (.int .i64 (s1-1))) (h:=zgz rfl rfl rfl rfl g3.1 g3.2) ?_
      obtain⟨g4,h⟩:=zh h
      refine h_o (a:= .ptr 0 (0+Int.toNat (s1-1)*8)) (h:=zfb (α:=Tr) g4 rfl rfl rfl rfl rfl) ?_
      obtain⟨g5,h⟩:=zh h
      obtain⟨x2,hx2,h⟩:=zl h
      refine h_o (a:= .agg (Enc.cells (x2:Tr))) (h:=by rw[←hx2];exact(zeg (α:=Tr) (l:=l) (i:=(s1-1)) (k:=0) (te:=29) g5 rfl rfl rfl rfl)) ?_
      refine zhw ?_
      obtain⟨g6,h⟩:=zh h
      obtain⟨x3,hx3,h⟩:=zl h
      refine zdk (args':=[.agg (Enc.cells (x1:Tr)),.agg (Enc.cells (x2:Tr))]) (r:= .raw (.bool x3)) (by rw[←hx3];exact(zws x1 x2 g6)) rfl rfl (ze (zaz (zp (Enc.clo _))) (ze (zaz (zp (Enc.clo _))) rfl)) (za (zq _ _ (zp (Enc.clo _))) (za (zq _ _ (zp (Enc.clo _))) rfl)) (by dsimp only[zab,List.set]) ?_
      refine zac h (fun hc3 h=> ?_) (fun hc3 h=> ?_)
      ·
       refine zcm hc3 rfl ?_
       refine zf (zb ?_)
       refine zaj ?_
       refine zaj ?_
       obtain⟨g7,h⟩:=zh h
       refine w_o (a:= .bsl 0 (Int.toNat s1*8) ((List.length l)-Int.toNat s1) 8 false) (h:=zbu (qjs (α:=Tr) g7 rfl rfl rfl rfl rfl)) ?_
       refine zaj ?_
       refine zas h [1,5,6,7,12,13,14,15,18,19,20,21,22,23,24,25,26,27,28,29,30,31,32,33,34,35,36,37,38,39,40,41,42,43,44,45,46,47,48,49,50,51,52,53,54,55,56,57,58] (fun j3=>[(5,.raw (.int .i64 j3.1))]) (fun j3=>⟨[(29,(Enc.cellsL (j3.2:List Tr)))],[],[],0,false⟩) ?_ ?_
       ·
        intro or3 h hr3
        refine zf (zb ?_)
        refine w_o (a:= .raw (.int .i64 1)) ?_
        refine zn ?_
        refine zcb h [5,7,12,13,14,15,18,19,20,21,22,23,24,25,26,27,28,29,30,31,32,33,34,35,36,37,38,39,40,41,42,43,44,45,46,47,48,49,50,51,52,53,54,55,56,57,58] (fun s2=>[(5,.raw (.int .i64 s2.1)),(7,.raw (.int .i64 s2.2.1))]) (fun s2=>⟨[(29,(Enc.cellsL (s2.2.2:List Tr)))],[],[],0,false⟩) ?_ ?_
        ·
         exact zdl (bl 66 73210515542534983679) (by kernel_rfl) (by kernel_rfl)
        ·
         intro s2 p2 h
         refine zal (by dsimp only[zz,zai,List.foldl,List.set]) rfl ?_
         refine zf ?_
         refine zf (zb ?_)
         refine zaj ?_
         refine zaj ?_
         refine w_o (a:= .raw (.int .i64 ((((List.length l)-Int.toNat s1):Nat):Int))) ?_
         refine w_o (a:= .raw (.bool (decide (s2.2.1<((((List.length l)-Int.toNat s1):Nat):Int))))) ?_
         refine zac h (fun hc4 h=> ?_) (fun hc4 h=> ?_)
         ·
          refine zcm hc4 rfl ?_
          refine zas h [5,32,33,34,35,38,39,40,41,42,43,44,45,46,47,48,49,50,51,52,53,54,55,56,57,58] (fun j4=>[(5,.raw (.int .i64 j4.1))]) (fun j4=>⟨[(29,(Enc.cellsL (j4.2:List Tr)))],[],[],0,false⟩) ?_ ?_
          ·
           intro or4 h hr4
           refine zn ?_
           refine zf ?_
           refine zgs (k0:=0) (id:=11) 10 (by kernel_rfl) (by kernel_rfl) ?_
           refine zel ?_
           refine zel ?_
           refine zel ?_
           obtain⟨g8,h⟩:=zh h
           refine h_o (a:= .ptr 0 (0+Int.toNat (((Int.toNat s1:Nat):Int)+s2.2.1)*8)) (h:=z0c (α:=Tr) g8 rfl rfl rfl rfl rfl) ?_
           obtain⟨g9,h⟩:=zh h
           obtain⟨x4,hx4,h⟩:=zl h
           refine h_o (a:= .agg (Enc.cells (x4:Tr))) (h:=by rw[←hx4];exact(zeg (α:=Tr) (l:=s2.2.2) (i:=(((Int.toNat s1:Nat):Int)+s2.2.1)) (k:=0) (te:=29) g9 rfl rfl rfl rfl)) ?_
           refine zel ?_
           refine zel ?_
           obtain⟨g10,h⟩:=zh h
           refine h_o (a:= .raw (.int .i64 (s2.2.1-1))) (h:=zgz rfl rfl rfl rfl g10.1 g10.2) ?_
           obtain⟨g11,h⟩:=zh h
           refine h_o (a:= .ptr 0 (0+Int.toNat (((Int.toNat s1:Nat):Int)+(s2.2.1-1))*8)) (h:=z0c (α:=Tr) g11 rfl rfl rfl rfl rfl) ?_
           obtain⟨g12,h⟩:=zh h
           obtain⟨x5,hx5,h⟩:=zl h
           refine h_o (a:= .agg (Enc.cells (x5:Tr))) (h:=by rw[←hx5];exact(zeg (α:=Tr) (l:=s2.2.2) (i:=(((Int.toNat s1:Nat):Int)+(s2.2.1-1))) (k:=0) (te:=29) g12 rfl rfl rfl rfl)) ?_
           refine zhw ?_
           obtain⟨g13,h⟩:=zh h
           obtain⟨x6,hx6,h⟩:=zl h
           refine zdk (args':=[.agg (Enc.cells (x4:Tr)),.agg (Enc.cells (x5:Tr))]) (r:= .raw (.bool x6)) (by rw[←hx6];exact(zws x4 x5 g13)) rfl rfl (ze (zaz (zp (Enc.clo _))) (ze (zaz (zp (Enc.clo _))) rfl)) (za (zq _ _ (zp (Enc.clo _))) (za (zq _ _ (zp (Enc.clo _))) rfl)) (by dsimp only[zab,List.set]) ?_
           refine w_o (a:= .raw (.bool (!x6))) ?_
           refine zac h (fun hc5 h=> ?_) (fun hc5 h=> ?_)
           ·
            refine zcm hc5 rfl ?_
            refine zf (zb ?_)
            refine zaj ?_
            refine zaj ?_
            refine zaj ?_
            refine zaj ?_
            obtain⟨g14,h⟩:=zh h
            refine w_o (a:= .ptr 0 (0+Int.toNat (((Int.toNat s1:Nat):Int)+s2.2.1)*8)) (h:=zbu (z0c (α:=Tr) g14 rfl rfl rfl rfl rfl)) ?_
            obtain⟨g15,h⟩:=zh h
            obtain⟨x7,hx7,h⟩:=zl h
            refine w_o (a:= .agg (Enc.cells (x7:Tr))) (h:=zbu (by rw[←hx7];exact(zeg (α:=Tr) (l:=s2.2.2) (i:=(((Int.toNat s1:Nat):Int)+s2.2.1)) (k:=0) (te:=29) g15 rfl rfl rfl rfl))) ?_
            obtain⟨g16,h⟩:=zh h
            refine w_o (a:= .ptr 0 (0+Int.toNat s2.1*8)) (h:=zbu (zfb (α:=Tr) g16 rfl rfl rfl rfl rfl)) ?_
            obtain⟨g17,h⟩:=zh h
            obtain⟨x8,hx8,h⟩:=zl h
            refine zbs (σ'':=⟨[(29,(Enc.cellsL ((List.set s2.2.2 (Int.toNat s2.1) x7):List Tr)))],[],[],0,false⟩) (h:=zhu (α:=Tr) (l:=s2.2.2) (i:=s2.1) (k:=0) (te:=29) (n:=8) x7 g17 rfl rfl rfl rfl rfl rfl rfl (by decide) (by decide) (by rw[hx8];rfl)) ?_
            refine zb (k0:=0) (id:=13) ?_
            refine zaj ?_
            obtain⟨g18,h⟩:=zh h
            refine w_o (a:= .raw (.int .i64 (s2.1+1))) (h:=zbu (zmr rfl rfl rfl rfl g18.1 g18.2)) ?_
            refine zaj ?_
            refine zg (o:=or4) ((s2.1+1),(List.set s2.2.2 (Int.toNat s2.1) x7)) h ?_
            exact zdl (bl 66 73210515752988180479) (by kernel_rfl) (by kernel_rfl)
           ·
            refine zci hc5 rfl ?_
            refine zg (o:=or4) (s2.1,s2.2.2) h ?_
            exact zdl (bl 66 73210515752988180479) (by kernel_rfl) (by kernel_rfl)
          ·
           intro j4 h
           refine zal (by dsimp only[zz,zai,List.foldl,List.set]) rfl ?_
           refine zb (k0:=0) (id:=10) ?_
           refine zaj ?_
           obtain⟨g19,h⟩:=zh h
           refine w_o (a:= .raw (.int .i64 (s2.2.1+1))) (h:=zbu (zmr rfl rfl rfl rfl g19.1 g19.2)) ?_
           refine zaj ?_
           refine zat (p:=p2) (j4.1,(s2.2.1+1),j4.2) h ?_
           exact zdl (bl 66 73210515542534983679) (by kernel_rfl) (by kernel_rfl)
         ·
          refine zci hc4 rfl ?_
          refine zaa h (fun h=> ?_)
          refine zg (o:=or3) (s2.1,s2.2.2) h ?_
          exact zdl (bl 66 73210515542534983485) (by kernel_rfl) (by kernel_rfl)
       ·
        intro j3 h
        refine zal (by dsimp only[zz,zai,List.foldl,List.set]) rfl ?_
        refine zf (zb ?_)
        refine zaj ?_
        refine zaj ?_
        obtain⟨g20,h⟩:=zh h
        refine w_o (a:= .bsl 0 (Int.toNat j3.1*8) ((List.length l)-Int.toNat j3.1) 8 false) (h:=zbu (qjs (α:=Tr) g20 rfl rfl rfl rfl rfl)) ?_
        obtain⟨g21,h⟩:=zh h
        refine zmq (a:= .tup []) (σ'':=⟨[(29,(Enc.cellsL ((List.take (Int.toNat j3.1) j3.2):List Tr)))],[],[],0,false⟩) rfl rfl rfl (qgl (α:=Tr) (l:=j3.2) g21 rfl rfl rfl rfl rfl rfl rfl rfl rfl rfl rfl (by decide)) (by dsimp only[zab,List.set]) rfl ?_
        refine zf (zb ?_)
        refine zaj ?_
        refine zaj ?_
        obtain⟨g22,h⟩:=zh h
        refine w_o (a:= .bsl 0 0 (Int.toNat j3.1) 8 (false&&(Int.toNat j3.1==(List.length l)))) (h:=zbu (q_bslH (α:=Tr) g22.1 rfl rfl rfl rfl rfl)) ?_
        refine zaj ?_
        replace h:=zw h hr2
        refine zaa h (fun h=> ?_)
        replace h:=zw h hr1
        exact zyz (R:=(List.take (Int.toNat j3.1) j3.2)) h rfl (zbl (zr (zk _ _ (Enc.cloL _)) rfl)) rfl g22.2
      ·
       refine zci hc3 rfl ?_
       refine zg (o:=or2) () h ?_
       exact zdl (bl 66 36893488147419303727) (by kernel_rfl) (by kernel_rfl)
     ·
      intro j2 h
      refine zal (by dsimp only[zz,zai,List.foldl,List.set]) rfl ?_
      refine zb (k0:=0) (id:=5) ?_
      refine zaj ?_
      obtain⟨g23,h⟩:=zh h
      refine w_o (a:= .raw (.int .i64 (s1+1))) (h:=zbu (zmr rfl rfl rfl rfl g23.1 g23.2)) ?_
      refine zaj ?_
      refine zat (p:=p1) ((s1+1)) h ?_
      exact zdl (bl 66 35) (by kernel_rfl) (by kernel_rfl)
    ·
     refine zci hc2 rfl ?_
     refine zaa h (fun h=> ?_)
     refine zg (o:=or1) () h ?_
     exact zdl (bl 66 1) (by kernel_rfl) (by kernel_rfl)
  ·
   intro j1 h
   refine zal (by dsimp only[zz,zai,List.foldl,List.set]) rfl ?_
   refine zf (zb ?_)
   refine zaj ?_
   refine zaj ?_
   exact zyz (R:=l) h rfl (zbl (zr (zk _ _ (Enc.cloL _)) rfl)) rfl rfl
end Go.Ab
