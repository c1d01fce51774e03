/-
  slices.CompactFunc of nodes by Same.
-/
import Derived.Test.YtfkkellnlmjenaaGreatZeBx
set_option linter.unusedSimpArgs false
set_option linter.unusedVariables false
set_option maxRecDepth 100000
set_option maxHeartbeats 4000000
namespace Go.Ab
open Go Go.RowKit Go.Fwd Go.Proofs
def z8v (fuel:Nat)(l:List Tr):Option (List Tr):=
 (bif (decide ((((List.length l):Nat):Int)<2)) then(some l) else(zdn (τ:=Unit) (zbv (β:=Int) (fun s1=>(bif (decide (s1<(((List.length l):Nat):Int))) then(zdn (τ:=Unit) (chk (0≤s1∧s1<(((List.length l):Nat):Int)) (chk (0≤s1∧s1<(List.length l:Int)) (zbc (ix l s1) (fun x1=>(chk (-9223372036854775808≤(s1-1)∧(s1-1)<9223372036854775808) (chk (0≤(s1-1)∧(s1-1)<(((List.length l):Nat):Int)) (chk (0≤(s1-1)∧(s1-1)<(List.length l:Int)) (zbc (ix l (s1-1)) (fun x2=>(chk ((pre x1).length<2^61∧(pre x2).length<2^61) (zbc (zrq x1 x2) (fun x3=>(bif x3 then(chk (0≤s1∧s1<(((List.length l):Nat):Int)) (zdn (τ:=Int×(List Tr)) (zbv (β:=Int×Int×(List Tr)) (fun s2=>(bif (decide (s2.2.1<((((List.length l)-Int.toNat s1):Nat):Int))) then(zdn (τ:=Int×(List Tr)) (chk (0≤s2.2.1∧s2.2.1<((((List.length l)-Int.toNat s1):Nat):Int)) (chk (0≤(((Int.toNat s1:Nat):Int)+s2.2.1)∧(((Int.toNat s1:Nat):Int)+s2.2.1)<(List.length s2.2.2:Int)) (zbc (ix s2.2.2 (((Int.toNat s1:Nat):Int)+s2.2.1)) (fun x4=>(chk (-9223372036854775808≤(s2.2.1-1)∧(s2.2.1-1)<9223372036854775808) (chk (0≤(s2.2.1-1)∧(s2.2.1-1)<((((List.length l)-Int.toNat s1):Nat):Int)) (chk (0≤(((Int.toNat s1:Nat):Int)+(s2.2.1-1))∧(((Int.toNat s1:Nat):Int)+(s2.2.1-1))<(List.length s2.2.2:Int)) (zbc (ix s2.2.2 (((Int.toNat s1:Nat):Int)+(s2.2.1-1))) (fun x5=>(chk ((pre x4).length<2^61∧(pre x5).length<2^61) (zbc (zrq x4 x5) (fun x6=>(bif (!x6) then(chk (0≤s2.2.1∧s2.2.1<((((List.length l)-Int.toNat s1):Nat):Int)) (chk (0≤(((Int.toNat s1:Nat):Int)+s2.2.1)∧(((Int.toNat s1:Nat):Int)+s2.2.1)<(List.length s2.2.2:Int)) (zbc (ix s2.2.2 (((Int.toNat s1:Nat):Int)+s2.2.1)) (fun x7=>(chk (0≤s2.1∧s2.1<(((List.length l):Nat):Int)) (chk (0≤s2.1∧s2.1<(List.length s2.2.2:Int)) (zbc (ix s2.2.2 s2.1) (fun x8=>(chk (-9223372036854775808≤(s2.1+1)∧(s2.1+1)<9223372036854775808) (some (Sum.inl ((s2.1+1),(List.set s2.2.2 (Int.toNat s2.1) x7))))))))))))) else(some (Sum.inl (s2.1,s2.2.2)))))))))))))))) (fun j4=>(chk (-9223372036854775808≤(s2.2.1+1)∧(s2.2.1+1)<9223372036854775808) (some (Sum.inl (j4.1,(s2.2.1+1),j4.2)))))) else(some (Sum.inr (Sum.inl (s2.1,s2.2.2)))))) fuel (s1,1,l)) (fun j3=>(chk (0≤j3.1∧j3.1<(((List.length l):Nat):Int)) (chk (Int.toNat j3.1≤List.length j3.2∧0<List.length j3.2∧0<((List.length l)-Int.toNat j3.1)) (chk ((0<j3.1∧j3.1≤(((List.length l):Nat):Int))∧List.length (List.take (Int.toNat j3.1) j3.2)=Int.toNat j3.1) (some (Sum.inr (Sum.inr (Sum.inr (List.take (Int.toNat j3.1) j3.2))))))))))) else(some (Sum.inl ()))))))))))))))) (fun j2=>(chk (-9223372036854775808≤(s1+1)∧(s1+1)<9223372036854775808) (some (Sum.inl ((s1+1))))))) else(some (Sum.inr (Sum.inl ()))))) fuel (1)) (fun j1=>(some l))))
theorem ent106:Ent Tryz.prog 106:=enters_of Tryz.func106 (by kernel_rfl) rfl
set_option maxRecDepth 100000 in
set_option maxHeartbeats 4000000 in
theorem comp_s0 (fuel:Nat)(l:List Tr)(r:List Tr)(h:z8v fuel l=some r):Snd (ITP Tryz.prog) Tryz.prog 106 [.bsl 0 0 (List.length l) 8 false,.clos 23 []] ⟨[(29,Enc.cellsL l)],[],[],0,false⟩ (.bsl 0 0 r.length 8 false) ⟨[(29,Enc.cellsL r)],[],[],0,false⟩:=by
 obtain⟨d,hd⟩: ∃d,Tryz.f106.body=some d:=⟨_,rfl⟩
 refine zrd mix Tryz.func106 hd ent106 ?_
 cases hd
 unfold z8v at h
 refine zah (by dsimp only[zbf,Tryz.f106,List.length_cons,List.length_nil,Nat.zero_add,Nat.reduceAdd,Nat.reduceSub,List.replicate,List.cons_append,List.nil_append]) rfl ?_
 refine zf (zb ?_)
 refine w_o (a:= .list 0 [] .full) ?_
 refine zf ?_
 refine zf (zb ?_)
 refine zab ?_
 refine w_o (a:= .raw (.int .i64 (((List.length l):Nat):Int))) ?_
 refine w_o (a:= .raw (.bool (decide ((((List.length l):Nat):Int)<2)))) ?_
 refine zae h (fun hc1 h=> ?_) (fun hc1 h=> ?_)
 ·
  refine zbw hc1 rfl ?_
  refine zf (zb ?_)
  refine zab ?_
  refine zab ?_
  exact zyn (R:=l) h rfl (zbi (zt (zm _ _ (Enc.cloL _)) rfl)) rfl rfl
 ·
  refine zbt hc1 rfl ?_
  refine zau h [1,2,3,4,5,6,7,8,9,10,11,12,13,14,15,16,17,18,19,20,21,22,23,24,25,26,27,28,29,30,31,32,33,34,35,36,37,38,39,40,41,42,43,44,45,46,47,48,49,50,51,52,53,54,55,56,57,58,59,60,61,62,63,64,65] (fun j1=>[]) (fun j1=>⟨[(29,(Enc.cellsL (l:List Tr)))],[],[],0,false⟩) ?_ ?_
  ·
   intro or1 h hr1
   refine zf (zb ?_)
   refine w_o (a:= .raw (.int .i64 1)) ?_
   refine zp ?_
   refine zbx h [2,3,4,5,6,7,8,9,10,11,12,13,14,15,16,17,18,19,20,21,22,23,24,25,26,27,28,29,30,31,32,33,34,35,36,37,38,39,40,41,42,43,44,45,46,47,48,49,50,51,52,53,54,55,56,57,58,59,60,61,62,63,64,65] (fun s1=>[(5,.raw (.int .i64 s1))]) (fun s1=>⟨[(29,(Enc.cellsL (l:List Tr)))],[],[],0,false⟩) ?_ ?_
   ·
    exact zct (bl 66 35) (by kernel_rfl) (by kernel_rfl)
   ·
    intro s1 p1 h
    refine zah (by dsimp only[zac,zag,List.foldl,List.set]) rfl ?_
    refine zf ?_
    refine zf (zb ?_)
    refine zab ?_
    refine zab ?_
    refine w_o (a:= .raw (.int .i64 (((List.length l):Nat):Int))) ?_
    refine w_o (a:= .raw (.bool (decide (s1<(((List.length l):Nat):Int))))) ?_
    refine zae h (fun hc2 h=> ?_) (fun hc2 h=> ?_)
    ·
     refine zbw hc2 rfl ?_
     refine zau h [4,5,6,7,12,13,14,15,18,19,20,21,22,23,24,25,26,27,28,29,30,31,32,33,34,35,36,37,38,39,40,41,42,43,44,45,46,47,48,49,50,51,52,53,54,55,56,57,58,59,60,61,62,63,64] (fun j2=>[(5,.raw (.int .i64 s1))]) (fun j2=>⟨[(29,(Enc.cellsL (l:List Tr)))],[],[],0,false⟩) ?_ ?_
     ·
      intro or2 h hr2
      refine zp ?_
      refine zf ?_
      refine zgc (k0:=0) (id:=6) 10 (by kernel_rfl) (by kernel_rfl) ?_
      refine zhd ?_
      refine zhd ?_
      refine zhd ?_
      obtain⟨g1,h⟩:=zi h
      refine h_o (a:= .ptr 0 (0+Int.toNat s1*8)) (h:=zex (α:=Tr) g1 rfl rfl rfl rfl rfl) ?_
      obtain⟨g2,h⟩:=zi h
      obtain⟨x1,hx1,h⟩:=zo h
      refine h_o (a:= .agg (Enc.cells (x1:Tr))) (h:=by rw[←hx1];exact(zef (α:=Tr) (l:=l) (i:=s1) (k:=0) (te:=29) g2 rfl rfl rfl rfl)) ?_
      refine zhd ?_
      refine zhd ?_
      obtain⟨g3,h⟩:=zi h
      refine h_o (a:= .raw (.int .i64 (s1-1))) (h:=zgr rfl rfl rfl rfl g3.1 g3.2) ?_
      obtain⟨g4,h⟩:=zi h
      refine h_o (a:= .ptr 0 (0+Int.toNat (s1-1)*8)) (h:=zex (α:=Tr) g4 rfl rfl rfl rfl rfl) ?_
      obtain⟨g5,h⟩:=zi h
      obtain⟨x2,hx2,h⟩:=zo h
      refine h_o (a:= .agg (Enc.cells (x2:Tr))) (h:=by rw[←hx2];exact(zef (α:=Tr) (l:=l) (i:=(s1-1)) (k:=0) (te:=29) g5 rfl rfl rfl rfl)) ?_
      refine zjo ?_
      obtain⟨g6,h⟩:=zi h
      obtain⟨x3,hx3,h⟩:=zo h
      refine zbr (args':=[.agg (Enc.cells (x1:Tr)),.agg (Enc.cells (x2:Tr))]) (r:= .raw (.bool x3)) (by rw[←hx3];exact(z4f x1 x2 g6)) rfl rfl (zd (zaj (zl (Enc.clo _))) (zd (zaj (zl (Enc.clo _))) rfl)) (za (zn _ _ (zl (Enc.clo _))) (za (zn _ _ (zl (Enc.clo _))) rfl)) (by dsimp only[zh,List.set]) ?_
      refine zae h (fun hc3 h=> ?_) (fun hc3 h=> ?_)
      ·
       refine zbw hc3 rfl ?_
       refine zf (zb ?_)
       refine zab ?_
       refine zab ?_
       obtain⟨g7,h⟩:=zi h
       refine w_o (a:= .bsl 0 (Int.toNat s1*8) ((List.length l)-Int.toNat s1) 8 false) (h:=zbh (qep (α:=Tr) g7 rfl rfl rfl rfl rfl)) ?_
       refine zab ?_
       refine zau h [1,5,6,7,12,13,14,15,18,19,20,21,22,23,24,25,26,27,28,29,30,31,32,33,34,35,36,37,38,39,40,41,42,43,44,45,46,47,48,49,50,51,52,53,54,55,56,57,58] (fun j3=>[(5,.raw (.int .i64 j3.1))]) (fun j3=>⟨[(29,(Enc.cellsL (j3.2:List Tr)))],[],[],0,false⟩) ?_ ?_
       ·
        intro or3 h hr3
        refine zf (zb ?_)
        refine w_o (a:= .raw (.int .i64 1)) ?_
        refine zp ?_
        refine zbx h [5,7,12,13,14,15,18,19,20,21,22,23,24,25,26,27,28,29,30,31,32,33,34,35,36,37,38,39,40,41,42,43,44,45,46,47,48,49,50,51,52,53,54,55,56,57,58] (fun s2=>[(5,.raw (.int .i64 s2.1)),(7,.raw (.int .i64 s2.2.1))]) (fun s2=>⟨[(29,(Enc.cellsL (s2.2.2:List Tr)))],[],[],0,false⟩) ?_ ?_
        ·
         exact zct (bl 66 73210515542534983679) (by kernel_rfl) (by kernel_rfl)
        ·
         intro s2 p2 h
         refine zah (by dsimp only[zac,zag,List.foldl,List.set]) rfl ?_
         refine zf ?_
         refine zf (zb ?_)
         refine zab ?_
         refine zab ?_
         refine w_o (a:= .raw (.int .i64 ((((List.length l)-Int.toNat s1):Nat):Int))) ?_
         refine w_o (a:= .raw (.bool (decide (s2.2.1<((((List.length l)-Int.toNat s1):Nat):Int))))) ?_
         refine zae h (fun hc4 h=> ?_) (fun hc4 h=> ?_)
         ·
          refine zbw hc4 rfl ?_
          refine zau h [5,32,33,34,35,38,39,40,41,42,43,44,45,46,47,48,49,50,51,52,53,54,55,56,57,58] (fun j4=>[(5,.raw (.int .i64 j4.1))]) (fun j4=>⟨[(29,(Enc.cellsL (j4.2:List Tr)))],[],[],0,false⟩) ?_ ?_
          ·
           intro or4 h hr4
           refine zp ?_
           refine zf ?_
           refine zgc (k0:=0) (id:=11) 10 (by kernel_rfl) (by kernel_rfl) ?_
           refine zhd ?_
           refine zhd ?_
           refine zhd ?_
           obtain⟨g8,h⟩:=zi h
           refine h_o (a:= .ptr 0 (0+Int.toNat (((Int.toNat s1:Nat):Int)+s2.2.1)*8)) (h:=zyd (α:=Tr) g8 rfl rfl rfl rfl rfl) ?_
           obtain⟨g9,h⟩:=zi h
           obtain⟨x4,hx4,h⟩:=zo h
           refine h_o (a:= .agg (Enc.cells (x4:Tr))) (h:=by rw[←hx4];exact(zef (α:=Tr) (l:=s2.2.2) (i:=(((Int.toNat s1:Nat):Int)+s2.2.1)) (k:=0) (te:=29) g9 rfl rfl rfl rfl)) ?_
           refine zhd ?_
           refine zhd ?_
           obtain⟨g10,h⟩:=zi h
           refine h_o (a:= .raw (.int .i64 (s2.2.1-1))) (h:=zgr rfl rfl rfl rfl g10.1 g10.2) ?_
           obtain⟨g11,h⟩:=zi h
           refine h_o (a:= .ptr 0 (0+Int.toNat (((Int.toNat s1:Nat):Int)+(s2.2.1-1))*8)) (h:=zyd (α:=Tr) g11 rfl rfl rfl rfl rfl) ?_
           obtain⟨g12,h⟩:=zi h
           obtain⟨x5,hx5,h⟩:=zo h
           refine h_o (a:= .agg (Enc.cells (x5:Tr))) (h:=by rw[←hx5];exact(zef (α:=Tr) (l:=s2.2.2) (i:=(((Int.toNat s1:Nat):Int)+(s2.2.1-1))) (k:=0) (te:=29) g12 rfl rfl rfl rfl)) ?_
           refine zjo ?_
           obtain⟨g13,h⟩:=zi h
           obtain⟨x6,hx6,h⟩:=zo h
           refine zbr (args':=[.agg (Enc.cells (x4:Tr)),.agg (Enc.cells (x5:Tr))]) (r:= .raw (.bool x6)) (by rw[←hx6];exact(z4f x4 x5 g13)) rfl rfl (zd (zaj (zl (Enc.clo _))) (zd (zaj (zl (Enc.clo _))) rfl)) (za (zn _ _ (zl (Enc.clo _))) (za (zn _ _ (zl (Enc.clo _))) rfl)) (by dsimp only[zh,List.set]) ?_
           refine w_o (a:= .raw (.bool (!x6))) ?_
           refine zae h (fun hc5 h=> ?_) (fun hc5 h=> ?_)
           ·
            refine zbw hc5 rfl ?_
            refine zf (zb ?_)
            refine zab ?_
            refine zab ?_
            refine zab ?_
            refine zab ?_
            obtain⟨g14,h⟩:=zi h
            refine w_o (a:= .ptr 0 (0+Int.toNat (((Int.toNat s1:Nat):Int)+s2.2.1)*8)) (h:=zbh (zyd (α:=Tr) g14 rfl rfl rfl rfl rfl)) ?_
            obtain⟨g15,h⟩:=zi h
            obtain⟨x7,hx7,h⟩:=zo h
            refine w_o (a:= .agg (Enc.cells (x7:Tr))) (h:=zbh (by rw[←hx7];exact(zef (α:=Tr) (l:=s2.2.2) (i:=(((Int.toNat s1:Nat):Int)+s2.2.1)) (k:=0) (te:=29) g15 rfl rfl rfl rfl))) ?_
            obtain⟨g16,h⟩:=zi h
            refine w_o (a:= .ptr 0 (0+Int.toNat s2.1*8)) (h:=zbh (zex (α:=Tr) g16 rfl rfl rfl rfl rfl)) ?_
            obtain⟨g17,h⟩:=zi h
            obtain⟨x8,hx8,h⟩:=zo h
            refine zbz (σ'':=⟨[(29,(Enc.cellsL ((List.set s2.2.2 (Int.toNat s2.1) x7):List Tr)))],[],[],0,false⟩) (h:=zhl (α:=Tr) (l:=s2.2.2) (i:=s2.1) (k:=0) (te:=29) (n:=8) x7 g17 rfl rfl rfl rfl rfl rfl rfl (by decide) (by decide) (by rw[hx8];rfl)) ?_
            refine zb (k0:=0) (id:=13) ?_
            refine zab ?_
            obtain⟨g18,h⟩:=zi h
            refine w_o (a:= .raw (.int .i64 (s2.1+1))) (h:=zbh (zld rfl rfl rfl rfl g18.1 g18.2)) ?_
            refine zab ?_
            refine zg (o:=or4) ((s2.1+1),(List.set s2.2.2 (Int.toNat s2.1) x7)) h ?_
            exact zct (bl 66 73210515752988180479) (by kernel_rfl) (by kernel_rfl)
           ·
            refine zbt hc5 rfl ?_
            refine zg (o:=or4) (s2.1,s2.2.2) h ?_
            exact zct (bl 66 73210515752988180479) (by kernel_rfl) (by kernel_rfl)
          ·
           intro j4 h
           refine zah (by dsimp only[zac,zag,List.foldl,List.set]) rfl ?_
           refine zb (k0:=0) (id:=10) ?_
           refine zab ?_
           obtain⟨g19,h⟩:=zi h
           refine w_o (a:= .raw (.int .i64 (s2.2.1+1))) (h:=zbh (zld rfl rfl rfl rfl g19.1 g19.2)) ?_
           refine zab ?_
           refine zas (p:=p2) (j4.1,(s2.2.1+1),j4.2) h ?_
           exact zct (bl 66 73210515542534983679) (by kernel_rfl) (by kernel_rfl)
         ·
          refine zbt hc4 rfl ?_
          refine zw h (fun h=> ?_)
          refine zg (o:=or3) (s2.1,s2.2.2) h ?_
          exact zct (bl 66 73210515542534983485) (by kernel_rfl) (by kernel_rfl)
       ·
        intro j3 h
        refine zah (by dsimp only[zac,zag,List.foldl,List.set]) rfl ?_
        refine zf (zb ?_)
        refine zab ?_
        refine zab ?_
        obtain⟨g20,h⟩:=zi h
        refine w_o (a:= .bsl 0 (Int.toNat j3.1*8) ((List.length l)-Int.toNat j3.1) 8 false) (h:=zbh (qep (α:=Tr) g20 rfl rfl rfl rfl rfl)) ?_
        obtain⟨g21,h⟩:=zi h
        refine zgs (a:= .tup []) (σ'':=⟨[(29,(Enc.cellsL ((List.take (Int.toNat j3.1) j3.2):List Tr)))],[],[],0,false⟩) rfl rfl rfl (qfy (α:=Tr) (l:=j3.2) g21 rfl rfl rfl rfl rfl rfl rfl rfl rfl rfl rfl (by decide)) (by dsimp only[zh,List.set]) rfl ?_
        refine zf (zb ?_)
        refine zab ?_
        refine zab ?_
        obtain⟨g22,h⟩:=zi h
        refine w_o (a:= .bsl 0 0 (Int.toNat j3.1) 8 (false&&(Int.toNat j3.1==(List.length l)))) (h:=zbh (q_bslH (α:=Tr) g22.1 rfl rfl rfl rfl rfl)) ?_
        refine zab ?_
        replace h:=zz h hr2
        refine zw h (fun h=> ?_)
        replace h:=zz h hr1
        exact zyn (R:=(List.take (Int.toNat j3.1) j3.2)) h rfl (zbi (zt (zm _ _ (Enc.cloL _)) rfl)) rfl g22.2
      ·
       refine zbt hc3 rfl ?_
       refine zg (o:=or2) () h ?_
       exact zct (bl 66 36893488147419303727) (by kernel_rfl) (by kernel_rfl)
     ·
      intro j2 h
      refine zah (by dsimp only[zac,zag,List.foldl,List.set]) rfl ?_
      refine zb (k0:=0) (id:=5) ?_
      refine zab ?_
      obtain⟨g23,h⟩:=zi h
      refine w_o (a:= .raw (.int .i64 (s1+1))) (h:=zbh (zld rfl rfl rfl rfl g23.1 g23.2)) ?_
      refine zab ?_
      refine zas (p:=p1) ((s1+1)) h ?_
      exact zct (bl 66 35) (by kernel_rfl) (by kernel_rfl)
    ·
     refine zbt hc2 rfl ?_
     refine zw h (fun h=> ?_)
     refine zg (o:=or1) () h ?_
     exact zct (bl 66 1) (by kernel_rfl) (by kernel_rfl)
  ·
   intro j1 h
   refine zah (by dsimp only[zac,zag,List.foldl,List.set]) rfl ?_
   refine zf (zb ?_)
   refine zab ?_
   refine zab ?_
   exact zyn (R:=l) h rfl (zbi (zt (zm _ _ (Enc.cloL _)) rfl)) rfl rfl
end Go.Ab
