/-
  sets.Parts: its contract.
-/
import Derived.Test.YtfkkellnlmjenaaGreatZeE8
set_option linter.unusedSimpArgs false
set_option linter.unusedVariables false
namespace Go.Ab
open Go Go.RowKit Go.Fwd Go.Proofs
theorem qgm {m b b' n sz:Nat} {z:FZ} (h: ∀k,zma m z (.bsl b 0 (k+1) sz false)= .bsl b' 0 (k+1) sz false):zma m z (zvu b n sz)=zvu b' n sz:=by
 cases n with
 |zero=>rfl
 |succ n=>exact h n
theorem z4n {m n:Nat} {g:FZ} {cs:List AV} (h:cloL cs=true):zma m g (.list n cs .full)= .list n cs .full:=by rw[zma,zah _ _ _ h];rfl
theorem qlg {b sz:Nat}:AV.bsl b 0 1 sz false=zvu b 1 sz:=rfl
def zyo (fuel:Nat)(l:(List BS)):Option (List BS):=
 (zeb (τ:=(List BS)) (zcc (β:=Int×(List BS)) (fun s1=>(bif (decide (s1.1<(List.length l:Int))) then(zeb (τ:=(List BS)) (chk (0≤s1.1∧s1.1<(List.length l:Int)) (zba (ix l s1.1) (fun x1=>(zeb (τ:=(List BS)) (zcc (β:=Int×(List BS)) (fun s2=>(bif (decide (s2.1<(List.length s1.2:Int))) then(zeb (τ:=(List BS)) (bif (List.isEmpty s1.2) then none else(chk (0≤s2.1∧s2.1<(((List.length s1.2):Nat):Int)) (chk (0≤s2.1∧s2.1<(List.length s1.2:Int)) (zba (ix s1.2 s2.1) (fun x2=>(zba (x2&&&x1) (fun x3=>(zba (x2&&& ~~~x1) (fun x4=>(zcc (β:=Int×(List BS)) (fun s3=>(bif (decide (s3.1<(List.length [x3,x4]:Int))) then(zeb (τ:=(List BS)) (chk (0≤s3.1∧s3.1<(List.length [x3,x4]:Int)) (zba (ix [x3,x4] s3.1) (fun x5=>(bif (decide (x5≠(0#256))) then(bif (List.isEmpty s3.2) then(chk (0<(List.length [x5])∧(List.length [x5])*32≤140737488355328) (some (Sum.inl ([x5])))) else(chk (List.length s3.2=(List.length s3.2)∧0<(List.length s3.2)∧0<List.length [x5]∧((List.length s3.2)+List.length [x5])*32≤140737488355328) (some (Sum.inl ((s3.2++[x5])))))) else(some (Sum.inl (s3.2))))))) (fun j5=>(chk (-9223372036854775808≤(s3.1+1)∧(s3.1+1)<9223372036854775808) (some (Sum.inl ((s3.1+1),j5)))))) else(some (Sum.inr (Sum.inl (s3.2)))))) fuel (0,s2.2))))))))))) (fun j4=>(chk (-9223372036854775808≤(s2.1+1)∧(s2.1+1)<9223372036854775808) (some (Sum.inl ((s2.1+1),j4)))))) else(some (Sum.inr (Sum.inl (s2.2)))))) fuel (0,([]:List BS))) (fun j3=>(some (Sum.inl (j3)))))))) (fun j2=>(chk (-9223372036854775808≤(s1.1+1)∧(s1.1+1)<9223372036854775808) (some (Sum.inl ((s1.1+1),j2)))))) else(some (Sum.inr (Sum.inl (s1.2)))))) fuel (0,[allS])) (fun j1=>(bif (List.isEmpty j1) then(some ([]:(List BS))) else(chk (0<List.length j1∧List.length j1<4611686018427387904) (zba (z6v j1) (fun x6=>(chk (List.length x6=(List.length j1)) (some x6))))))))
theorem ent96:Ent Tryz.prog 96:=enters_of Tryz.func96 (by kernel_rfl) rfl
set_option maxRecDepth 100000 in
set_option maxHeartbeats 4000000 in
theorem qlj (fuel:Nat)(l:(List BS))(r:(List BS))(h:zyo fuel l=some r):Pure (ITP Tryz.prog) Tryz.prog 96 [.list (List.length (l:List BS)) (Enc.cellsL (l:List BS)) .none] (.list (List.length (r:List BS)) (Enc.cellsL (r:List BS)) .none):=by
 obtain⟨d,hd⟩: ∃d,Tryz.f96.body=some d:=⟨_,rfl⟩
 refine zjp mix Tryz.func96 hd ent96 ?_
 cases hd
 unfold zyo at h
 refine zal (by dsimp only[zbi,Tryz.f96,List.length_cons,List.length_nil,Nat.zero_add,Nat.reduceAdd,Nat.reduceSub,List.replicate,List.cons_append,List.nil_append]) (by dsimp only[St.empty]) ?_
 refine zf (zb ?_)
 refine w_o (a:= .list 0 [] .full) ?_
 refine z3b (zb ?_)
 refine zdk (args':=[]) (r:= .agg (Enc.cells (allS:BS))) k_allS rfl rfl rfl rfl (by dsimp only[zab,List.set]) ?_
 refine zmq (a:= .bsl 0 0 1 4 true) (σ'':=⟨[(26,(Enc.cellsL ([allS]:List BS)))],[],[],0,false⟩) rfl rfl rfl (by rw[Enc.cons,Enc.nil];rfl) (by dsimp only[zab,List.set]) rfl ?_
 refine zaj ?_
 refine qje (S':=(.list (List.length (l:List BS)) (Enc.cellsL (l:List BS)) .none:: .top:: .top:: .bsl 0 0 1 4 false:: .top:: .top:: .top:: .top:: .top:: .top:: .top:: .top:: .top:: .top:: .top:: .top:: .top:: .top:: .top:: .top:: .top:: .top:: .top:: .top:: .top:: .top:: .top:: .top:: .top:: .top:: .top:: .top:: .top:: .top:: .top:: .top:: .top:: .top:: .top:: .top:: .top:: .top:: .top:: .top:: .top:: .top:: .top:: .top:: .top:: .top:: .top::[])) (σ':=⟨[(26,(Enc.cellsL ([allS]:List BS)))],[],[],0,false⟩) (zdy (true::false::false::true::false::false::false::false::false::false::false::false::false::false::false::false::false::false::false::false::false::false::false::false::false::false::false::false::false::false::false::false::false::false::false::false::false::false::false::false::false::false::false::false::false::false::false::false::false::false::false::[]) 0 [] [0] 1 (Nat.le_refl _) rfl (zc (zi _ _ _ (zcn (Enc.cloL _))) (zaf (zaf (zc rfl (zd (zd (zd (zd (zd (zaf (zaf (zaf (zaf (zaf (zaf (zaf zdx)))))))))))))))) (zdu (zag rfl (zah _ _ _ (Enc.cloL _)) zco) rfl)) ?_
 rw[qlg]
 refine zas h [0,3,5,6,8,10,13,14,15,16,17,18,19,20,21,22,23,24,25,26,27,28,29,30,31,32,33,34,35,36,37,38,39,40,41,42,43,44,45,46,47] (fun j1=>[(3,(zvu 0 (List.length j1) 4))]) (fun j1=>⟨[(26,(Enc.cellsL (j1:List BS)))],[],[],0,false⟩) ?_ ?_
 intro or1 h hr1
 refine zf (zb ?_)
 refine zaj ?_
 refine w_o (a:= .i (List.length l:Int)) ?_
 refine w_o (a:= .i 0) ?_
 refine zn ?_
 refine zcb h [0,3,5,6,8,10,15,16,17,18,19,20,21,22,23,24,25,26,27,28,29,30,31,32,33,34,35,36,37,38,39,40,41,42,43,44,45,46,47] (fun s1=>[(15,.i s1.1),(3,(zvu 0 (List.length s1.2) 4))]) (fun s1=>⟨[(26,(Enc.cellsL (s1.2:List BS)))],[],[],0,false⟩) ?_ ?_
 exact zdl (bl 51 1970324837038750) (by kernel_rfl) (by kernel_rfl)
 intro s1 p1 h
 refine zal (by dsimp only[zz,zai,List.foldl,List.set]) rfl ?_
 refine zf (zb ?_)
 refine w_o (a:= .b (decide (s1.1<(List.length l:Int)))) ?_
 refine zf ?_
 refine zac h (fun hc1 h=> ?_) (fun hc1 h=> ?_)
 refine zcm hc1 rfl ?_
 refine zas h [3,5,6,8,10,16,17,18,19,20,21,22,23,24,25,26,27,28,29,30,31,32,33,34,35,36,37,38,39,40,41,42,43,44,45,46] (fun j2=>[(3,(zvu 0 (List.length j2) 4))]) (fun j2=>⟨[(26,(Enc.cellsL (j2:List BS)))],[],[],0,false⟩) ?_ ?_
 intro or2 h hr2
 refine zn ?_
 refine zf (zb ?_)
 obtain⟨g1,h⟩:=zh h
 obtain⟨x1,hx1,h⟩:=zl h
 refine w_o (a:= .iptr (Enc.cells x1++Enc.cellsL (List.drop (Int.toNat s1.1+1) l))) (h:=zbu (by rw[←hx1];exact(z3w (α:=BS) (l:=l) g1 rfl rfl rfl rfl rfl))) ?_
 refine w_o (a:= .agg (Enc.cells (x1:BS))) ?_
 refine zbs (a:= .ptr 1 0) (σ'':=⟨[(26,(Enc.cellsL (s1.2:List BS))),(26,(Enc.cells (0#256:BS)))],[],[],0,false⟩) ?_
 refine zbs (σ'':=⟨[(26,(Enc.cellsL (s1.2:List BS))),(26,(Enc.cells (x1:BS)))],[],[],0,false⟩) (h:=zby (n:=4) rfl rfl rfl rfl rfl rfl rfl rfl (by decide)) ?_
 refine z3b (zb ?_)
 refine w_o (a:= .list 0 [] .full) ?_
 refine qje (S':=(.top:: .top:: .top::(zvu 0 (List.length s1.2) 4):: .top:: .ptr 1 0::(zvu 2 (List.length ([]:List BS)) 4):: .top:: .top:: .top:: .top:: .top:: .top:: .list (List.length (l:List BS)) (Enc.cellsL (l:List BS)) .none:: .i (List.length l:Int):: .i s1.1:: .b (decide (s1.1<(List.length l:Int))):: .iptr (Enc.cells x1++Enc.cellsL (List.drop (Int.toNat s1.1+1) l)):: .agg (Enc.cells (x1:BS)):: .top:: .top:: .top:: .top:: .top:: .top:: .top:: .top:: .top:: .top:: .top:: .top:: .top:: .top:: .top:: .top:: .top:: .top:: .top:: .top:: .top:: .top:: .top:: .top:: .top:: .top:: .top:: .top:: .top:: .top:: .top:: .top::[])) (σ':=⟨[(26,(Enc.cellsL (s1.2:List BS))),(26,(Enc.cells (x1:BS))),(26,(Enc.cellsL (([]:List BS):List BS)))],[],[],0,false⟩) (z8s (false::false::false::true::false::true::true::false::false::false::false::false::false::true::true::true::true::true::true::false::false::false::false::false::false::false::false::false::false::false::false::false::false::false::false::false::false::false::false::false::false::false::false::false::false::false::false::false::false::false::false::[]) 0 rfl rfl rfl) ?_
 refine zas h [3,5,6,8,10,16,17,18,19,20,21,22,23,24,25,26,27,28,29,30,31,32,33,34,35,36,37,38,39,40,41,42,43,44,45] (fun j3=>[(6,(zvu 2 (List.length j3) 4))]) (fun j3=>⟨[(26,(Enc.cellsL (s1.2:List BS))),(26,(Enc.cells (x1:BS))),(26,(Enc.cellsL (j3:List BS)))],[],[],0,false⟩) ?_ ?_
 intro or3 h hr3
 refine zf (zb ?_)
 refine zaj ?_
 refine w_o (a:= .i (List.length s1.2:Int)) (h:=zbu (qoy (α:=BS) (l:=s1.2) rfl rfl rfl rfl rfl rfl)) ?_
 refine w_o (a:= .i 0) ?_
 refine zn ?_
 refine zcb h [3,6,8,10,16,17,18,21,22,23,24,25,26,27,28,29,30,31,32,33,34,35,36,37,38,39,40,41,42,43,44,45] (fun s2=>[(21,.i s2.1),(6,(zvu 2 (List.length s2.2) 4))]) (fun s2=>⟨[(26,(Enc.cellsL (s1.2:List BS))),(26,(Enc.cells (x1:BS))),(26,(Enc.cellsL (s2.2:List BS)))],[],[],0,false⟩) ?_ ?_
 exact zdl (bl 51 2181431073241847) (by kernel_rfl) (by kernel_rfl)
 intro s2 p2 h
 refine zal (by dsimp only[zz,zai,List.foldl,List.set]) rfl ?_
 refine zf (zb ?_)
 refine w_o (a:= .b (decide (s2.1<(List.length s1.2:Int)))) ?_
 refine zf ?_
 refine zac h (fun hc2 h=> ?_) (fun hc2 h=> ?_)
 refine zcm hc2 rfl ?_
 refine zas h [6,8,10,22,23,24,25,26,27,28,29,30,31,32,33,34,35,36,37,38,39,40,41,42,43,44] (fun j4=>[(6,(zvu 2 (List.length j4) 4))]) (fun j4=>⟨[(26,(Enc.cellsL (s1.2:List BS))),(26,(Enc.cells (x1:BS))),(26,(Enc.cellsL (j4:List BS)))],[],[],0,false⟩) ?_ ?_
 intro or4 h hr4
 refine zn ?_
 refine zac h (fun hc3 h=> ?_) (fun hc3 h=> ?_)
 rw[zgb (b:=0) hc3]
 refine zf (zb ?_)
 cases h
 rw[zgq (b:=0) hc3]
 refine zf (zb ?_)
 obtain⟨g2,h⟩:=zh h
 refine w_o (a:= .ptr 0 (0+Int.toNat s2.1*4)) (h:=zbu (zfb (α:=BS) g2 rfl rfl rfl rfl rfl)) ?_
 obtain⟨g3,h⟩:=zh h
 obtain⟨x2,hx2,h⟩:=zl h
 refine w_o (a:= .agg (Enc.cells (x2:BS))) (h:=zbu (by rw[←hx2];exact(zeg (α:=BS) (l:=s1.2) (i:=s2.1) (k:=0) (te:=26) g3 rfl rfl rfl rfl))) ?_
 refine zbs (a:= .ptr 3 0) (σ'':=⟨[(26,(Enc.cellsL (s1.2:List BS))),(26,(Enc.cells (x1:BS))),(26,(Enc.cellsL (s2.2:List BS))),(26,(Enc.cells (0#256:BS)))],[],[],0,false⟩) ?_
 refine zbs (σ'':=⟨[(26,(Enc.cellsL (s1.2:List BS))),(26,(Enc.cells (x1:BS))),(26,(Enc.cellsL (s2.2:List BS))),(26,(Enc.cells (x2:BS)))],[],[],0,false⟩) (h:=zby (n:=4) rfl rfl rfl rfl rfl rfl rfl rfl (by decide)) ?_
 refine zf ?_
 refine zgs (k0:=0) (id:=9) 9 (by kernel_rfl) (by kernel_rfl) ?_
 refine h_o (a:= .agg (Enc.cells (x2:BS))) ?_
 refine h_o (a:= .agg (Enc.cells (x1:BS))) ?_
 obtain⟨x3,hx3,h⟩:=zl h
 refine zot (args':=[.agg (Enc.cells (x2:BS)),.agg (Enc.cells (x1:BS))]) (r:= .agg (Enc.cells (x3:BS))) (by rw[←hx3];exact(k_and x2 x1)) rfl rfl rfl (ze (zaz (zp (Enc.clo _))) (ze (zaz (zp (Enc.clo _))) rfl)) (za (zq _ _ (zp (Enc.clo _))) (za (zq _ _ (zp (Enc.clo _))) rfl)) (by dsimp only[zab,List.set]) ?_
 refine h_o (a:= .agg (Enc.cells (x2:BS))) ?_
 refine h_o (a:= .agg (Enc.cells (x1:BS))) ?_
 obtain⟨x4,hx4,h⟩:=zl h
 refine zot (args':=[.agg (Enc.cells (x2:BS)),.agg (Enc.cells (x1:BS))]) (r:= .agg (Enc.cells (x4:BS))) (by rw[←hx4];exact(qio x2 x1)) rfl rfl rfl (ze (zaz (zp (Enc.clo _))) (ze (zaz (zp (Enc.clo _))) rfl)) (za (zq _ _ (zp (Enc.clo _))) (za (zq _ _ (zp (Enc.clo _))) rfl)) (by dsimp only[zab,List.set]) ?_
 refine h_o (a:= .list (List.length ([x3,x4]:List BS)) (Enc.cellsL ([x3,x4]:List BS)) .full) (h:=zhc (α:=BS) (l:=[x3,x4]) (cs:=Enc.cells (x3:BS)++(Enc.cells (x4:BS)++[])) rfl (by rw[Enc.cons,Enc.cons,Enc.nil])) ?_
 refine h_o (a:= .i (List.length [x3,x4]:Int)) ?_
 refine h_o (a:= .i 0) ?_
 refine zhw ?_
 refine zn ?_
 refine zcb h [6,8,10,22,23,24,25,26,27,28,29,30,33,34,35,36,37,38,39,40,41,42,43,44] (fun s3=>[(33,.i s3.1),(6,(zvu 2 (List.length s3.2) 4))]) (fun s3=>⟨[(26,(Enc.cellsL (s1.2:List BS))),(26,(Enc.cells (x1:BS))),(26,(Enc.cellsL (s3.2:List BS))),(26,(Enc.cells (x2:BS)))],[],[],0,false⟩) ?_ ?_
 exact zdl (bl 51 2216630478174975) (by kernel_rfl) (by kernel_rfl)
 intro s3 p3 h
 refine zal (by dsimp only[zz,zai,List.foldl,List.set]) rfl ?_
 refine zf (zb ?_)
 refine w_o (a:= .b (decide (s3.1<(List.length [x3,x4]:Int)))) ?_
 refine zf ?_
 refine zac h (fun hc4 h=> ?_) (fun hc4 h=> ?_)
 refine zcm hc4 rfl ?_
 refine zas h [6,10,34,35,36,37,38,39,40,41,42,43] (fun j5=>[(6,(zvu 2 (List.length j5) 4))]) (fun j5=>⟨[(26,(Enc.cellsL (s1.2:List BS))),(26,(Enc.cells (x1:BS))),(26,(Enc.cellsL (j5:List BS))),(26,(Enc.cells (x2:BS)))],[],[],0,false⟩) ?_ ?_
 intro or5 h hr5
 refine zn ?_
 refine zf (zb ?_)
 obtain⟨g4,h⟩:=zh h
 obtain⟨x5,hx5,h⟩:=zl h
 refine w_o (a:= .iptr (Enc.cells x5++Enc.cellsL (List.drop (Int.toNat s3.1+1) [x3,x4]))) (h:=zbu (by rw[←hx5];exact(z3w (α:=BS) (l:=[x3,x4]) g4 rfl rfl rfl rfl rfl))) ?_
 refine w_o (a:= .agg (Enc.cells (x5:BS))) ?_
 refine zbs (a:= .ptr 4 0) (σ'':=⟨[(26,(Enc.cellsL (s1.2:List BS))),(26,(Enc.cells (x1:BS))),(26,(Enc.cellsL (s3.2:List BS))),(26,(Enc.cells (x2:BS))),(26,(Enc.cells (0#256:BS)))],[],[],0,false⟩) ?_
 refine zbs (σ'':=⟨[(26,(Enc.cellsL (s1.2:List BS))),(26,(Enc.cells (x1:BS))),(26,(Enc.cellsL (s3.2:List BS))),(26,(Enc.cells (x2:BS))),(26,(Enc.cells (x5:BS)))],[],[],0,false⟩) (h:=zby (n:=4) rfl rfl rfl rfl rfl rfl rfl rfl (by decide)) ?_
 refine zf (zb ?_)
 refine w_o (a:= .agg (Enc.cells (x5:BS))) ?_
 refine w_o (a:= .agg (Enc.cells (0#256:BS))) ?_
 refine qcx (.b (decide (x5≠(0#256)))) rfl rfl rfl (zuo x5 (0#256) rfl rfl rfl) (by dsimp only[zab,List.set]) ?_
 refine zac h (fun hc5 h=> ?_) (fun hc5 h=> ?_)
 refine zcm hc5 rfl ?_
 refine zb (k0:=0) (id:=13) ?_
 refine zaj ?_
 refine w_o (a:= .agg (Enc.cells (x5:BS))) ?_
 refine w_o (a:= .list (List.length ([x5]:List BS)) (Enc.cellsL ([x5]:List BS)) .full) (h:=zbu (zhc (α:=BS) (l:=[x5]) (cs:=Enc.cells (x5:BS)++[]) rfl (by rw[Enc.cons,Enc.nil]))) ?_
 refine zac h (fun hc6 h=> ?_) (fun hc6 h=> ?_)
 rw[zgb (b:=2) hc6]
 obtain⟨g5,h⟩:=zh h
 refine zmq (a:= .bsl 5 0 (List.length [x5]) 4 false) (σ'':=⟨[(26,(Enc.cellsL (s1.2:List BS))),(26,(Enc.cells (x1:BS))),(26,(Enc.cellsL (s3.2:List BS))),(26,(Enc.cells (x2:BS))),(26,(Enc.cells (x5:BS))),(26,(Enc.cellsL ([x5]:List BS)))],[],[],0,false⟩) rfl rfl rfl (zly (α:=BS) (r:=[x5]) (by':=32) g5 rfl rfl rfl rfl rfl rfl rfl rfl rfl rfl rfl ⟨rfl,by decide⟩) (by dsimp only[zab,List.set]) rfl ?_
 refine zaj ?_
 refine zg (o:=or5) ([x5]) h ?_
 exact zdy (bl 51 2234224807508991) 0 [] [0,1,5,3] 1 (Nat.le_refl _) rfl (by dsimp only[zz,zai,List.foldl,List.set];exact(zc rfl (zc rfl (zc rfl (zc rfl (zc rfl (zc rfl (zc (zgp (by first|(simp;done)|(simp only[List.length_append,List.length_take];omega)) (by first|(simp;done)|exact zgf hc3) _ _) (zc rfl (zc rfl (zc rfl (zaf (zc rfl (zc rfl (zc (zi _ _ _ (zcn (Enc.cloL _))) (zc (zi _ _ _ rfl) (zc (zi _ _ _ rfl) (zc rfl (zc rfl (zc rfl (zc rfl (zc (zi _ _ _ rfl) (zc (zi _ _ _ rfl) (zc rfl (zc rfl (zc rfl (zc rfl (zc rfl (zc rfl (zc rfl (zc rfl (zc rfl (zc (z4n (Enc.cloL _)) (zc (zi _ _ _ rfl) (zc (zi _ _ _ rfl) (zd (zaf (zaf (zc rfl (zc rfl (zc rfl (zc rfl (zc rfl (zc rfl (zc rfl zdx))))))))))))))))))))))))))))))))))))))))))))) (zdu (zag rfl (zah _ _ _ (Enc.cloL _)) (zag rfl (zah _ _ _ (Enc.clo _)) (zag rfl (zah _ _ _ (Enc.cloL _)) (zag rfl (zah _ _ _ (Enc.clo _)) zco)))) rfl)
 rw[zgq (b:=2) hc6]
 obtain⟨g6,h⟩:=zh h
 refine zmq (a:= .bsl 5 0 ((List.length s3.2)+List.length [x5]) 4 false) (σ'':=⟨[(26,(Enc.cellsL (s1.2:List BS))),(26,(Enc.cells (x1:BS))),(26,(Enc.cellsL (([]:List BS):List BS))),(26,(Enc.cells (x2:BS))),(26,(Enc.cells (x5:BS))),(26,(Enc.cellsL ((s3.2++[x5]):List BS)))],[],[],0,false⟩) rfl rfl rfl (zys (α:=BS) (l:=s3.2) (r:=[x5]) (by':=32) g6 rfl rfl rfl rfl rfl rfl rfl rfl rfl rfl rfl rfl ⟨rfl,by decide⟩) (by dsimp only[zab,List.set]) rfl ?_
 refine zaj ?_
 refine zg (o:=or5) ((s3.2++[x5])) h ?_
 exact zdy (bl 51 2234224807508991) 0 [] [0,1,5,3] 1 (Nat.le_refl _) rfl (by dsimp only[zz,zai,List.foldl,List.set];exact(zc rfl (zc rfl (zc rfl (zc rfl (zc rfl (zc rfl (zc (zgp (by first|(simp;done)|(simp only[List.length_append,List.length_take];omega)) (by first|(simp;done)|exact zgf hc3|exact zgf hc6) _ _) (zc rfl (zc rfl (zc rfl (zaf (zc rfl (zc rfl (zc (zi _ _ _ (zcn (Enc.cloL _))) (zc (zi _ _ _ rfl) (zc (zi _ _ _ rfl) (zc rfl (zc rfl (zc rfl (zc rfl (zc (zi _ _ _ rfl) (zc (zi _ _ _ rfl) (zc rfl (zc rfl (zc rfl (zc rfl (zc rfl (zc rfl (zc rfl (zc rfl (zc rfl (zc (z4n (Enc.cloL _)) (zc (zi _ _ _ rfl) (zc (zi _ _ _ rfl) (zd (zaf (zaf (zc rfl (zc rfl (zc rfl (zc rfl (zc rfl (zc rfl (zc rfl zdx))))))))))))))))))))))))))))))))))))))))))))) (zdu (zag rfl (zah _ _ _ (Enc.cloL _)) (zag rfl (zah _ _ _ (Enc.clo _)) (zag rfl (zah _ _ _ (Enc.cloL _)) (zag rfl (zah _ _ _ (Enc.clo _)) zco)))) rfl)
 refine zci hc5 rfl ?_
 refine zg (o:=or5) (s3.2) h ?_
 exact zdt (bl 51 2234224807508991) 4 (by kernel_rfl) (Nat.le_of_ble_eq_true rfl) (zbl (zr (zk _ _ (Enc.cloL _)) (zr (zk _ _ (Enc.clo _)) (zr (zk _ _ (Enc.cloL _)) (zr (zk _ _ (Enc.clo _)) rfl))))) (by dsimp only[zz,zai,List.foldl,List.set];exact(za rfl (za rfl (za rfl (za rfl (za rfl (za (by decide) (za (zwn (by decide)) (za rfl (za rfl (za rfl (za rfl (za rfl (za rfl (za (zao (Enc.cloL _)) (za rfl (za rfl (za rfl (za rfl (za rfl (za rfl (za rfl (za rfl (za rfl (za rfl (za rfl (za rfl (za rfl (za rfl (za rfl (za rfl (za rfl (za (zao (Enc.cloL _)) (by kernel_rfl)))))))))))))))))))))))))))))))))) (by kernel_rfl)
 intro j5 h
 refine zal (by dsimp only[zz,zai,List.foldl,List.set]) rfl ?_
 refine zb (k0:=0) (id:=14) ?_
 obtain⟨g7,h⟩:=zh h
 refine w_o (a:= .i (s3.1+1)) (h:=zbu (zmr rfl rfl rfl rfl g7.1 g7.2)) ?_
 refine zaj ?_
 refine zat (p:=p3) ((s3.1+1),j5) h ?_
 exact zdl (bl 51 2216630478174975) (by kernel_rfl) (by kernel_rfl)
 refine zci hc4 rfl ?_
 refine zaa h (fun h=> ?_)
 refine zg (o:=or4) (s3.2) h ?_
 exact zdt (bl 51 2216615445789439) 3 (by kernel_rfl) (Nat.le_of_ble_eq_true rfl) (zbl (zr (zk _ _ (Enc.cloL _)) (zr (zk _ _ (Enc.clo _)) (zr (zk _ _ (Enc.cloL _)) rfl)))) (by dsimp only[zz,zai,List.foldl,List.set];exact(za rfl (za rfl (za rfl (za rfl (za rfl (za (by decide) (za (zwn (by decide)) (za rfl (za rfl (za rfl (za rfl (za rfl (za rfl (za (zao (Enc.cloL _)) (by kernel_rfl)))))))))))))))) (by kernel_rfl)
 intro j4 h
 refine zal (by dsimp only[zz,zai,List.foldl,List.set]) rfl ?_
 refine zb (k0:=0) (id:=15) ?_
 obtain⟨g8,h⟩:=zh h
 refine w_o (a:= .i (s2.1+1)) (h:=zbu (zmr rfl rfl rfl rfl g8.1 g8.2)) ?_
 refine zaj ?_
 refine zat (p:=p2) ((s2.1+1),j4) h ?_
 exact zdl (bl 51 2181431073241847) (by kernel_rfl) (by kernel_rfl)
 refine zci hc2 rfl ?_
 refine zaa h (fun h=> ?_)
 refine zg (o:=or3) (s2.2) h ?_
 exact zdl (bl 51 2181431069571799) (by kernel_rfl) (by kernel_rfl)
 intro j3 h
 refine zal (by dsimp only[zz,zai,List.foldl,List.set]) rfl ?_
 refine zb (k0:=0) (id:=16) ?_
 refine zaj ?_
 refine zaj ?_
 refine zg (o:=or2) (j3) h ?_
 exact zdy (bl 51 2111062325394079) 0 [] [2] 1 (Nat.le_refl _) rfl (by dsimp only[zz,zai,List.foldl,List.set];exact(zc rfl (zc rfl (zc rfl (zc (qgm (fun _=>rfl)) (zc rfl (zaf (zaf (zc rfl (zaf (zc rfl (zaf (zc rfl (zc rfl (zc (zi _ _ _ (zcn (Enc.cloL _))) (zc (zi _ _ _ rfl) (zc (zi _ _ _ rfl) (zd (zd (zd (zaf (zaf (zaf (zaf (zaf (zaf (zaf (zc rfl (zc rfl (zc rfl (zc rfl zdx))))))))))))))))))))))))))))))) (zdu (zag rfl (zah _ _ _ (Enc.cloL _)) zco) rfl)
 intro j2 h
 refine zal (by dsimp only[zz,zai,List.foldl,List.set]) rfl ?_
 refine zb (k0:=0) (id:=17) ?_
 obtain⟨g9,h⟩:=zh h
 refine w_o (a:= .i (s1.1+1)) (h:=zbu (zmr rfl rfl rfl rfl g9.1 g9.2)) ?_
 refine zaj ?_
 refine zat (p:=p1) ((s1.1+1),j2) h ?_
 exact zdl (bl 51 1970324837038750) (by kernel_rfl) (by kernel_rfl)
 refine zci hc1 rfl ?_
 refine zaa h (fun h=> ?_)
 refine zg (o:=or1) (s1.2) h ?_
 exact zdl (bl 51 1970324836981406) (by kernel_rfl) (by kernel_rfl)
 intro j1 h
 refine zal (by dsimp only[zz,zai,List.foldl,List.set]) rfl ?_
 refine zf (zb ?_)
 refine zaj ?_
 refine zac h (fun hc7 h=> ?_) (fun hc7 h=> ?_)
 rw[zgb (b:=0) hc7]
 refine zdk (args':=[.list 0 [] .none,.clos 108 []]) (r:= .tup []) qjp rfl rfl (ze rfl (ze rfl rfl)) rfl (by dsimp only[zab,List.set]) ?_
 refine zf (zb ?_)
 refine zaj ?_
 refine zaj ?_
 exact zex (fun(r:(List BS))=>(.list (List.length (r:List BS)) (Enc.cellsL (r:List BS)) .none:AV)) h rfl rfl rfl
 rw[zgq (b:=0) hc7]
 obtain⟨g10,h⟩:=zh h
 obtain⟨x6,hx6,h⟩:=zl h
 refine z1t (r:= .tup []) (σ':=⟨[(26,(Enc.cellsL (x6:List BS)))],[],[],0,false⟩) (qjl j1 g10 hx6 rfl rfl) rfl rfl ⟨rfl,rfl⟩ (by dsimp only[zab,List.set]) ?_
 refine zf (zb ?_)
 refine zaj ?_
 refine zaj ?_
 obtain⟨g11,h⟩:=zh h
 have hxr:=Option.some.inj h
 subst hxr
 exact z6z 1 rfl (qeh (α:=BS) (t:=26) (l:=x6) g11 rfl)
end Go.Ab
namespace Go.Ab
open Go Go.RowKit Go.Fwd
def zmu (S p:BS):List BS:=[p&&&S,p&&& ~~~S]
def zjx (S:BS)(L:List BS):List BS:=L.flatMap fun p=>(zmu S p).filter fun x=> !(x==0#256)
def zht (l:List BS):List BS:=l.foldl (fun L S=>zjx S L) [BitVec.allOnes 256]
def zld (l:List BS):List BS:=z6v (zht l)
theorem z8k (l:List BS)(S:BS):zht (l++[S])=zjx S (zht l):=by simp[zht]
structure Cls (m L:List BS):Prop where
 ne: ∀p∈L,p≠0#256
 all: ∀c,c<256→ ∃p∈L,p.getLsbD c=true
 cls: ∀p∈L,∀c d,c<256→d<256→p.getLsbD c=true→(p.getLsbD d=true↔ ∀s∈m,s.getLsbD c=s.getLsbD d)
 dis:L.Pairwise fun p q=>p&&&q=0#256
theorem zpw {p:BS}:p=0#256↔ ∀c,c<256→p.getLsbD c=false:=
 ⟨fun h c _=>by rw[h];simp,fun h=>BitVec.eq_of_getLsbD_eq fun c hc=>by rw[h c hc];simp⟩
theorem bs_ne {p:BS} (h:p≠0#256): ∃c,c<256∧p.getLsbD c=true:=by
 rcases Classical.em (∃c,c<256∧p.getLsbD c=true) with h'|h'
 ·exact h'
 ·exfalso;refine h (zpw.2 fun c hc=> ?_)
  cases hb:p.getLsbD c
  ·rfl
  ·exact absurd ⟨c,hc,hb⟩ h'
theorem cls_nil:Cls [] [BitVec.allOnes 256] where
 ne p hp:=by
  simp at hp;subst hp
  intro h
  have:=zpw.1 h 0 (by decide)
  simp at this
 all c hc:=⟨BitVec.allOnes 256,List.mem_singleton.2 rfl,by rw[BitVec.getLsbD_allOnes];simpa using hc⟩
 cls p hp c d hc hd h:=by
  rw[List.mem_singleton] at hp;subst hp
  rw[BitVec.getLsbD_allOnes]
  simp only[hd,decide_true,true_iff]
  intro s hs;cases hs
 dis:=by simp
theorem zsp {S x:BS} {L:List BS}:x∈zjx S L↔x≠0#256∧ ∃p∈L,x=p&&&S∨x=p&&& ~~~S:=by
 simp only[zjx,zmu,List.mem_flatMap,List.mem_filter,List.mem_cons,List.not_mem_nil,or_false,Bool.not_eq_true',beq_eq_false_iff_ne,ne_eq]
 constructor
 ·rintro⟨p,hp,h,hn⟩;exact⟨hn,p,hp,h⟩
 ·rintro⟨hn,p,hp,h⟩;exact⟨p,hp,h,hn⟩
theorem qld {m L:List BS} (h:Cls m L)(S:BS):Cls (m++[S]) (zjx S L) where
 ne p hp:=(zsp.1 hp).1
 all c hc:=by
  obtain⟨p,hp,hb⟩:=h.all c hc
  cases hS:S.getLsbD c
  ·have hx:(p&&& ~~~S).getLsbD c=true:=by rw[BitVec.getLsbD_and,BitVec.getLsbD_not,hb,hS];simp[hc]
   exact⟨_,zsp.2 ⟨fun e=>(by rw[e] at hx;simp at hx),p,hp,.inr rfl⟩,hx⟩
  ·have hx:(p&&&S).getLsbD c=true:=by simp[hb,hS]
   exact⟨_,zsp.2 ⟨fun e=>(by rw[e] at hx;simp at hx),p,hp,.inl rfl⟩,hx⟩
 cls x hx c d hc hd hb:=by
  obtain⟨_,p,hp,he⟩:=zsp.1 hx
  have spl: ∀s,s∈m++[S]↔s∈m∨s=S:=fun s=>by simp
  rcases he with rfl|rfl
  ·simp only[BitVec.getLsbD_and,Bool.and_eq_true] at hb⊢
   rw[h.cls p hp c d hc hd hb.1]
   constructor
   ·rintro⟨h1,h2⟩ s hs
    rcases(spl s).1 hs with hs|rfl
    ·exact h1 s hs
    ·rw[hb.2,h2]
   ·intro h1
    exact⟨fun s hs=>h1 s ((spl s).2 (.inl hs)),by rw[←h1 S ((spl S).2 (.inr rfl)),hb.2]⟩
  ·simp only[BitVec.getLsbD_and,BitVec.getLsbD_not,hc,hd,decide_true,Bool.true_and,Bool.and_eq_true,Bool.not_eq_true'] at hb⊢
   rw[h.cls p hp c d hc hd hb.1]
   constructor
   ·rintro⟨h1,h2⟩ s hs
    rcases(spl s).1 hs with hs|rfl
    ·exact h1 s hs
    ·rw[hb.2,h2]
   ·intro h1
    exact⟨fun s hs=>h1 s ((spl s).2 (.inl hs)),by rw[←h1 S ((spl S).2 (.inr rfl)),hb.2]⟩
 dis :=by
  unfold zjx
  rw[List.pairwise_flatMap]
  constructor
  ·intro p _
   refine List.Pairwise.filter _ ?_
   simp only[zmu,List.pairwise_cons,List.mem_cons,List.not_mem_nil,or_false,forall_eq,List.Pairwise.nil,and_true,false_implies,implies_true]
   refine zpw.2 fun c hc=> ?_
   simp only[BitVec.getLsbD_and,BitVec.getLsbD_not,hc,decide_true,Bool.true_and]
   cases p.getLsbD c<;>cases S.getLsbD c<;>rfl
  ·refine h.dis.imp fun {p q} hpq x hx y hy=> ?_
   have hx':=(List.mem_filter.1 hx).1
   have hy':=(List.mem_filter.1 hy).1
   refine zpw.2 fun c hc=> ?_
   have h0:=zpw.1 hpq c hc
   rw[BitVec.getLsbD_and] at h0⊢
   have sub: ∀z w:BS,z∈zmu S w→z.getLsbD c=true→w.getLsbD c=true:=by
    intro z w hz hb
    simp only[zmu,List.mem_cons,List.not_mem_nil,or_false] at hz
    rcases hz with rfl|rfl<;> · rw[BitVec.getLsbD_and,Bool.and_eq_true] at hb;exact hb.1
   cases hxc:x.getLsbD c
   ·rfl
   ·cases hyc:y.getLsbD c
    ·rfl
    ·rw[sub x p hx' hxc,sub y q hy' hyc] at h0;cases h0
theorem z5f (m:List BS):Cls m (zht m):=by
 suffices ∀(k m0 L:List BS),Cls m0 L→Cls (m0++k) (k.foldl (fun L S=>zjx S L) L) by
  have:=this m [] _ cls_nil
  simpa[zht] using this
 intro k
 induction k with
 |nil=>intro m0 L h;simpa using h
 | cons S k ih=>
  intro m0 L h
  have:=ih (m0++[S]) _ (qld h S)
  simpa using this
theorem qbk (m:List BS):Cls m (zld m):=by
 have h:=z5f m
 have hp:(zld m).Perm (zht m):=zki _
 refine⟨fun p hm=>h.ne p (hp.mem_iff.1 hm),fun c hc=> ?_,fun p hm=>h.cls p (hp.mem_iff.1 hm),?_⟩
 ·obtain⟨p,h1,h2⟩:=h.all c hc
  exact⟨p,hp.mem_iff.2 h1,h2⟩
 ·refine(hp.pairwise_iff fun {a b} hab=> ?_).2 h.dis
  rw[BitVec.and_comm];exact hab
def lst (p:BS)(c:Nat):Prop:=c<256∧p.getLsbD c=true∧ ∀j,j<c→p.getLsbD j=false
theorem cmpS_lt {p q:BS} (h:zxv p q≤0):p=q∨ ∃c,c<256∧p.getLsbD c=true∧q.getLsbD c=false∧ ∀j,j<c→p.getLsbD j=q.getLsbD j:=by
 unfold zxv at h
 rw[zxy _ _ (fun j=>p.getLsbD j !=q.getLsbD j) _ (fun _ _=>rfl)] at h
 cases hf:(List.range 256).filter (fun j=>p.getLsbD j !=q.getLsbD j) with
 | nil=>
  left
  apply BitVec.eq_of_getLsbD_eq
  intro j hj
  have:=List.filter_eq_nil_iff.1 hf j (by simpa using hj)
  simpa using this
 | cons c r=>
  right
  rw[hf] at h
  obtain⟨l1,l2,e1,e2,e3,_⟩:=List.filter_eq_cons_iff.1 hf
  have hlen:l1.length<256:=by
   have:=congrArg List.length e1
   simp only[List.length_range,List.length_append,List.length_cons] at this;omega
  have hc:l1.length=c:=by
   have h1:(List.range 256)[l1.length]? =some l1.length:=by rw[List.getElem?_range hlen]
   rw[e1,List.getElem?_append_right (Nat.le_refl _),Nat.sub_self] at h1
   simpa using h1.symm
  have hlow: ∀j,j<c→p.getLsbD j=q.getLsbD j:=fun j hj=>by
   have h1:(List.range 256)[j]? =some j:=by rw[List.getElem?_range (by omega)]
   rw[e1,List.getElem?_append_left (by omega)] at h1
   have:=e2 j (List.mem_of_getElem? h1)
   simpa using this
  have hp:p.getLsbD c=true:=by
   have h:(if p.getLsbD c=true then(-1:Int) else 1)≤0:=h
   cases hpc:p.getLsbD c with
   |true=>rfl
   |false=>rw[hpc] at h;simp at h
  have hq:q.getLsbD c=false:=by
   have e3:(p.getLsbD c !=q.getLsbD c)=true:=e3
   rw[hp] at e3;cases hqc:q.getLsbD c with
   |false=>rfl
   |true=>rw[hqc] at e3;cases e3
  exact⟨c,by omega,hp,hq,hlow⟩
theorem qlr (m:List BS):(zld m).Pairwise fun p q=>p&&&q=0#256∧ ∀c d,lst p c→lst q d→c<d:=by
 have h:=qbk m
 have hs:(zld m).Pairwise fun x y=>zxv x y≤0:=zlp _
 have hn:(zld m).Pairwise fun p q=>p≠0#256∧q≠0#256:=List.pairwise_iff_forall_sublist.2 fun {a b} hab=>⟨h.ne a (hab.subset (by simp)),h.ne b (hab.subset (by simp))⟩
 refine((h.dis.and hs).and hn).imp ?_
 rintro p q ⟨⟨hd,hl⟩,hp,hq⟩
 refine⟨hd,fun c d hc hdd=> ?_⟩
 rcases cmpS_lt hl with rfl|⟨e,he,h1,h2,h3⟩
 ·exfalso;rw[BitVec.and_self] at hd;exact hp hd
 ·have low: ∀j,j<e→p.getLsbD j=false:=fun j hj=>by
   have h0:=zpw.1 hd j (by omega)
   rw[BitVec.getLsbD_and,←h3 j hj,Bool.and_self] at h0
   exact h0
  have hce:c=e:=by
   rcases Nat.lt_trichotomy c e with hlt|rfl|hgt
   ·have:=hc.2.1;rw[low c hlt] at this;cases this
   ·rfl
   ·have:=hc.2.2 e hgt;rw[h1] at this;cases this
  subst hce
  rcases Nat.lt_or_ge c d with hlt|hge
  ·exact hlt
  ·exfalso
   rcases Nat.lt_or_ge d c with hlt|hge2
   ·have:=hdd.2.1;rw[←h3 d hlt,low d hlt] at this;cases this
   ·obtain rfl:d=c:=by omega
    have:=hdd.2.1;rw[h2] at this;cases this
theorem qbz (P:Nat→Bool): ∀(n:Nat),P n=true→ ∃c,c≤n∧P c=true∧ ∀j,j<c→P j=false:=by
 intro n
 induction n using Nat.strongRecOn with
 | _ n ih=>
  intro h
  by_cases hj: ∃j,j<n∧P j=true
  ·obtain⟨j,hj,hp⟩:=hj
   obtain⟨c,h1,h2,h3⟩:=ih j hj hp
   exact⟨c,by omega,h2,h3⟩
  ·exact⟨n,Nat.le_refl _,h,fun j hjn=>by
    cases hp:P j with
    |false=>rfl
    |true=>exact absurd ⟨j,hjn,hp⟩ hj⟩
theorem lst_of {p:BS} (h:p≠0#256): ∃c,lst p c:=by
 obtain⟨c,hc,hb⟩:=bs_ne h
 obtain⟨d,h1,h2,h3⟩:=qbz p.getLsbD c hb
 exact⟨d,by omega,h2,h3⟩
theorem z8o: ∀(L:List BS) (a:Nat),(∀p∈L,∃c,lst p c∧a≤c)→L.Pairwise (fun p q=> ∀c d,lst p c→lst q d→c<d)→a+L.length≤256∨L=[]
 |[],a,_,_=> .inr rfl
 | p::L,a,h,hp=>by
  obtain⟨c,hc,hac⟩:=h p (by simp)
  have hp':=List.pairwise_cons.1 hp
  have:=hc.1
  rcases z8o L (c+1) (fun q hq=>by
   obtain⟨d,hd,_⟩:=h q (List.mem_cons_of_mem _ hq)
   exact⟨d,hd,hp'.1 q hq c d hc hd⟩) hp'.2 with h1|rfl
  ·left;simp only[List.length_cons];omega
  ·left;simp only[List.length_cons,List.length_nil];omega
theorem qcy (m:List BS):(zld m).length≤256:=by
 have h:=qbk m
 rcases z8o (zld m) 0 (fun p hp=>by obtain⟨c,hc⟩:=lst_of (h.ne p hp);exact⟨c,hc,Nat.zero_le _⟩) ((qlr m).imp fun h=>h.2) with h1|h1
 ·omega
 ·rw[h1];simp
theorem zxz (m:List BS):(zht m).length≤256:=by rw[←(zki (zht m)).length_eq];exact qcy m
theorem z3i (m:List BS):zht m≠[]:=fun e=>by
 obtain⟨p,hp,_⟩:=(z5f m).all 0 (by decide)
 rw[e] at hp;cases hp
end Go.Ab
namespace Go.Ab
open Go Go.RowKit Go.Fwd Go.Proofs
theorem qey (S:BS)(L:List BS)(i:Nat)(hi:i<L.length):zjx S (L.take (i+1))=zjx S (L.take i)++(zmu S L[i]).filter fun x=> !(x==0#256):=by
 unfold zjx;rw[List.take_succ_eq_append_getElem hi,List.flatMap_append];simp
theorem qnu (S:BS)(L:List BS):(zjx S L).length≤2*L.length:=by
 induction L with
 |nil=>simp[zjx]
 | cons p L ih=>
  have h1:zjx S (p::L)=((zmu S p).filter fun x=> !(x==0#256))++zjx S L:=by simp[zjx]
  have h2:=List.length_filter_le (fun x=> !(x==0#256)) (zmu S p)
  rw[h1,List.length_append,List.length_cons]
  simp only[zmu,List.length_cons,List.length_nil] at h2
  simp only[zmu];omega
theorem qmp {fuel:Nat} (l:List BS)(hl:l.length<2^40)(hf:l.length<fuel∧300<fuel):zyo fuel l=some (zld l):=by
 unfold zyo
 refine zbw (zht l) ?_ ?_
 ·refine zet l.length (fun i=>((i:Int),zht (l.take i))) (by simp[zht,allS]) (fun i hi=> ?_) ?_ hf.1
  ·refine zbp (by simpa using hi) (zbw (zht (l.take (i+1))) (zm (by simp only;omega) (zad fun x1 e1=> ?_)) (zm (by simp only;omega) rfl))
   simp only at e1
   rw[zdw hi] at e1
   rw[List.take_succ_eq_append_getElem hi,z8k,e1]
   have hne:=z3i (l.take i)
   have hL:=zxz (l.take i)
   generalize zht (l.take i)=L at hne hL
   refine zbw (zjx x1 L) ?_ rfl
   have hemp:List.isEmpty L=false:=by cases L with|nil=>exact absurd rfl hne|cons a L=>rfl
   refine zet L.length (fun j=>((j:Int),zjx x1 (L.take j))) (by simp[zjx]) (fun j hj=> ?_) ?_ (by omega)
   ·have hs:=qnu x1 (L.take j)
    rw[List.length_take,Nat.min_eq_left (by omega)] at hs
    refine zbp (by simpa using hj) (zbw (zjx x1 (L.take (j+1))) ?_ (zm (by simp only;omega) rfl))
    rw[qey _ _ _ hj]
    generalize zjx x1 (L.take j)=N at hs
    refine zaw hemp (zm (by simp only;omega) (zm (by simp only;omega) (zad fun x2 e2=> ?_)))
    simp only at e2
    rw[zdw hj] at e2
    subst e2
    refine zad fun x3 e3=>zad fun x4 e4=> ?_
    refine zet 2 (fun k=>((k:Int),N++(([x3,x4].take k).filter fun x=> !(x==0#256)))) (by simp) (fun k hk=> ?_) ?_ (by omega)
    ·have hk2:k<[x3,x4].length:=hk
     have hflt:=List.length_filter_le (fun x=> !(x==0#256)) ([x3,x4].take k)
     have htk:([x3,x4].take k).length≤2:=by simp;omega
     refine zbp (by simp;omega) (zbw (N++(([x3,x4].take (k+1)).filter fun x=> !(x==0#256))) ?_ (zm (by simp only;omega) rfl))
     rw[List.take_succ_eq_append_getElem hk2,List.filter_append,←List.append_assoc]
     have hM:(N++(([x3,x4].take k).filter fun x=> !(x==0#256))).length≤1000:=by rw[List.length_append];omega
     simp only
     generalize N++(([x3,x4].take k).filter fun x=> !(x==0#256))=M at hM
     refine zm (by simp only[List.length_cons,List.length_nil];omega) (zad fun x5 e5=> ?_)
     rw[zdw hk2] at e5
     rw[e5]
     by_cases hx:x5=0#256
     ·rw[show[x5].filter (fun x=> !(x==0#256))=[] by simp[hx],List.append_nil];exact zaw (by simpa using hx) rfl
     ·rw[show[x5].filter (fun x=> !(x==0#256))=[x5] by simp[hx]]
      refine zbp (by simpa using hx) ?_
      cases M with
      |nil=>exact zbp rfl (zm (by simp) rfl)
      |cons m M=>exact zaw rfl (zm (by simp only[List.length_cons,List.length_nil] at hM⊢;exact⟨trivial,by omega,by omega,by omega⟩) rfl)
    ·refine zaw (by simp) ?_
     subst e3 e4;rfl
   ·refine zaw (by simp) ?_
    simp
  ·refine zaw (by simp) ?_
   simp
 ·have hne:=z3i l
  have hL:=zxz l
  have hemp:List.isEmpty (zht l)=false:=by cases h:zht l with|nil=>exact absurd h hne|cons a L=>rfl
  refine zaw hemp (zm ⟨List.length_pos_iff.2 hne,by omega⟩ (zad fun x6 e6=>zm ?_ ?_))
  ·subst e6;exact(zki _).length_eq
  ·subst e6;rfl
theorem k_parts (l:List BS)(hl:l.length<2^40):Pure (ITP Tryz.prog) Tryz.prog 96 [.list l.length (Enc.cellsL l) .none] (.list (zld l).length (Enc.cellsL (zld l)) .none):=qlj (l.length+301) l _ (qmp l hl (by omega))
end Go.Ab
