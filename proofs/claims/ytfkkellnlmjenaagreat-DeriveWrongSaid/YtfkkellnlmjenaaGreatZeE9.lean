/-
  sets: Parts.
-/
import Derived.Test.YtfkkellnlmjenaaGreatZeE8
set_option linter.unusedSimpArgs false
set_option linter.unusedVariables false
namespace Go.Ab
open Go Go.RowKit Go.Fwd Go.Proofs
theorem qjk {m b b' n sz:Nat} {z:FZ} (h: ∀k,zmo m z (.bsl b 0 (k+1) sz false)= .bsl b' 0 (k+1) sz false):zmo m z (zvn b n sz)=zvn b' n sz:=by
 cases n with
 |zero=>rfl
 |succ n=>exact h n
theorem z2b {m n:Nat} {g:FZ} {cs:List AV} (h:cloL cs=true):zmo m g (.list n cs .full)= .list n cs .full:=by rw[zmo,zam _ _ _ h];rfl
theorem qnl {b sz:Nat}:AV.bsl b 0 1 sz false=zvn b 1 sz:=rfl
def zyo (fuel:Nat)(l:(List BS)):Option (List BS):=
 (zdn (τ:=(List BS)) (zbv (β:=Int×(List BS)) (fun s1=>(bif (decide (s1.1<(List.length l:Int))) then(zdn (τ:=(List BS)) (chk (0≤s1.1∧s1.1<(List.length l:Int)) (zbc (ix l s1.1) (fun x1=>(zdn (τ:=(List BS)) (zbv (β:=Int×(List BS)) (fun s2=>(bif (decide (s2.1<(List.length s1.2:Int))) then(zdn (τ:=(List BS)) (bif (List.isEmpty s1.2) then none else(chk (0≤s2.1∧s2.1<(((List.length s1.2):Nat):Int)) (chk (0≤s2.1∧s2.1<(List.length s1.2:Int)) (zbc (ix s1.2 s2.1) (fun x2=>(zbc (x2&&&x1) (fun x3=>(zbc (x2&&& ~~~x1) (fun x4=>(zbv (β:=Int×(List BS)) (fun s3=>(bif (decide (s3.1<(List.length [x3,x4]:Int))) then(zdn (τ:=(List BS)) (chk (0≤s3.1∧s3.1<(List.length [x3,x4]:Int)) (zbc (ix [x3,x4] s3.1) (fun x5=>(bif (decide (x5≠(0#256))) then(bif (List.isEmpty s3.2) then(chk (0<(List.length [x5])∧(List.length [x5])*32≤140737488355328) (some (Sum.inl ([x5])))) else(chk (List.length s3.2=(List.length s3.2)∧0<(List.length s3.2)∧0<List.length [x5]∧((List.length s3.2)+List.length [x5])*32≤140737488355328) (some (Sum.inl ((s3.2++[x5])))))) else(some (Sum.inl (s3.2))))))) (fun j5=>(chk (-9223372036854775808≤(s3.1+1)∧(s3.1+1)<9223372036854775808) (some (Sum.inl ((s3.1+1),j5)))))) else(some (Sum.inr (Sum.inl (s3.2)))))) fuel (0,s2.2))))))))))) (fun j4=>(chk (-9223372036854775808≤(s2.1+1)∧(s2.1+1)<9223372036854775808) (some (Sum.inl ((s2.1+1),j4)))))) else(some (Sum.inr (Sum.inl (s2.2)))))) fuel (0,([]:List BS))) (fun j3=>(some (Sum.inl (j3)))))))) (fun j2=>(chk (-9223372036854775808≤(s1.1+1)∧(s1.1+1)<9223372036854775808) (some (Sum.inl ((s1.1+1),j2)))))) else(some (Sum.inr (Sum.inl (s1.2)))))) fuel (0,[allS])) (fun j1=>(bif (List.isEmpty j1) then(some ([]:(List BS))) else(chk (0<List.length j1∧List.length j1<4611686018427387904) (zbc (z7d j1) (fun x6=>(chk (List.length x6=(List.length j1)) (some x6))))))))
theorem ent96:Ent Tryz.prog 96:=enters_of Tryz.func96 (by kernel_rfl) rfl
set_option maxRecDepth 100000 in
set_option maxHeartbeats 4000000 in
theorem qkt (fuel:Nat)(l:(List BS))(r:(List BS))(h:zyo fuel l=some r):Pure (ITP Tryz.prog) Tryz.prog 96 [.list (List.length (l:List BS)) (Enc.cellsL (l:List BS)) .none] (.list (List.length (r:List BS)) (Enc.cellsL (r:List BS)) .none):=by
 obtain⟨d,hd⟩: ∃d,Tryz.f96.body=some d:=⟨_,rfl⟩
 refine zgk mix Tryz.func96 hd ent96 ?_
 cases hd
 unfold zyo at h
 refine zah (by dsimp only[zbf,Tryz.f96,List.length_cons,List.length_nil,Nat.zero_add,Nat.reduceAdd,Nat.reduceSub,List.replicate,List.cons_append,List.nil_append]) (by dsimp only[St.empty]) ?_
 refine zf (zb ?_)
 refine w_o (a:= .list 0 [] .full) ?_
 refine z4q (zb ?_)
 refine zbr (args':=[]) (r:= .agg (Enc.cells (allS:BS))) k_allS rfl rfl rfl rfl (by dsimp only[zh,List.set]) ?_
 refine zgs (a:= .bsl 0 0 1 4 true) (σ'':=⟨[(26,(Enc.cellsL ([allS]:List BS)))],[],[],0,false⟩) rfl rfl rfl (by rw[Enc.cons,Enc.nil];rfl) (by dsimp only[zh,List.set]) rfl ?_
 refine zab ?_
 refine qei (S':=(.list (List.length (l:List BS)) (Enc.cellsL (l:List BS)) .none:: .top:: .top:: .bsl 0 0 1 4 false:: .top:: .top:: .top:: .top:: .top:: .top:: .top:: .top:: .top:: .top:: .top:: .top:: .top:: .top:: .top:: .top:: .top:: .top:: .top:: .top:: .top:: .top:: .top:: .top:: .top:: .top:: .top:: .top:: .top:: .top:: .top:: .top:: .top:: .top:: .top:: .top:: .top:: .top:: .top:: .top:: .top:: .top:: .top:: .top:: .top:: .top:: .top::[])) (σ':=⟨[(26,(Enc.cellsL ([allS]:List BS)))],[],[],0,false⟩) (zdx (true::false::false::true::false::false::false::false::false::false::false::false::false::false::false::false::false::false::false::false::false::false::false::false::false::false::false::false::false::false::false::false::false::false::false::false::false::false::false::false::false::false::false::false::false::false::false::false::false::false::false::[]) 0 [] [0] 1 (Nat.le_refl _) rfl (zc (zk _ _ _ (zcs (Enc.cloL _))) (zak (zak (zc rfl (ze (ze (ze (ze (ze (zak (zak (zak (zak (zak (zak (zak zdw)))))))))))))))) (zdp (zal rfl (zam _ _ _ (Enc.cloL _)) zcr) rfl)) ?_
 rw[qnl]
 refine zau h [0,3,5,6,8,10,13,14,15,16,17,18,19,20,21,22,23,24,25,26,27,28,29,30,31,32,33,34,35,36,37,38,39,40,41,42,43,44,45,46,47] (fun j1=>[(3,(zvn 0 (List.length j1) 4))]) (fun j1=>⟨[(26,(Enc.cellsL (j1:List BS)))],[],[],0,false⟩) ?_ ?_
 intro or1 h hr1
 refine zf (zb ?_)
 refine zab ?_
 refine w_o (a:= .i (List.length l:Int)) ?_
 refine w_o (a:= .i 0) ?_
 refine zp ?_
 refine zbx h [0,3,5,6,8,10,15,16,17,18,19,20,21,22,23,24,25,26,27,28,29,30,31,32,33,34,35,36,37,38,39,40,41,42,43,44,45,46,47] (fun s1=>[(15,.i s1.1),(3,(zvn 0 (List.length s1.2) 4))]) (fun s1=>⟨[(26,(Enc.cellsL (s1.2:List BS)))],[],[],0,false⟩) ?_ ?_
 exact zct (bl 51 1970324837038750) (by kernel_rfl) (by kernel_rfl)
 intro s1 p1 h
 refine zah (by dsimp only[zac,zag,List.foldl,List.set]) rfl ?_
 refine zf (zb ?_)
 refine w_o (a:= .b (decide (s1.1<(List.length l:Int)))) ?_
 refine zf ?_
 refine zae h (fun hc1 h=> ?_) (fun hc1 h=> ?_)
 refine zbw hc1 rfl ?_
 refine zau h [3,5,6,8,10,16,17,18,19,20,21,22,23,24,25,26,27,28,29,30,31,32,33,34,35,36,37,38,39,40,41,42,43,44,45,46] (fun j2=>[(3,(zvn 0 (List.length j2) 4))]) (fun j2=>⟨[(26,(Enc.cellsL (j2:List BS)))],[],[],0,false⟩) ?_ ?_
 intro or2 h hr2
 refine zp ?_
 refine zf (zb ?_)
 obtain⟨g1,h⟩:=zi h
 obtain⟨x1,hx1,h⟩:=zo h
 refine w_o (a:= .iptr (Enc.cells x1++Enc.cellsL (List.drop (Int.toNat s1.1+1) l))) (h:=zbh (by rw[←hx1];exact(ztq (α:=BS) (l:=l) g1 rfl rfl rfl rfl rfl))) ?_
 refine w_o (a:= .agg (Enc.cells (x1:BS))) ?_
 refine zbz (a:= .ptr 1 0) (σ'':=⟨[(26,(Enc.cellsL (s1.2:List BS))),(26,(Enc.cells (0#256:BS)))],[],[],0,false⟩) ?_
 refine zbz (σ'':=⟨[(26,(Enc.cellsL (s1.2:List BS))),(26,(Enc.cells (x1:BS)))],[],[],0,false⟩) (h:=zaz (n:=4) rfl rfl rfl rfl rfl rfl rfl rfl (by decide)) ?_
 refine z4q (zb ?_)
 refine w_o (a:= .list 0 [] .full) ?_
 refine qei (S':=(.top:: .top:: .top::(zvn 0 (List.length s1.2) 4):: .top:: .ptr 1 0::(zvn 2 (List.length ([]:List BS)) 4):: .top:: .top:: .top:: .top:: .top:: .top:: .list (List.length (l:List BS)) (Enc.cellsL (l:List BS)) .none:: .i (List.length l:Int):: .i s1.1:: .b (decide (s1.1<(List.length l:Int))):: .iptr (Enc.cells x1++Enc.cellsL (List.drop (Int.toNat s1.1+1) l)):: .agg (Enc.cells (x1:BS)):: .top:: .top:: .top:: .top:: .top:: .top:: .top:: .top:: .top:: .top:: .top:: .top:: .top:: .top:: .top:: .top:: .top:: .top:: .top:: .top:: .top:: .top:: .top:: .top:: .top:: .top:: .top:: .top:: .top:: .top:: .top:: .top::[])) (σ':=⟨[(26,(Enc.cellsL (s1.2:List BS))),(26,(Enc.cells (x1:BS))),(26,(Enc.cellsL (([]:List BS):List BS)))],[],[],0,false⟩) (z9f (false::false::false::true::false::true::true::false::false::false::false::false::false::true::true::true::true::true::true::false::false::false::false::false::false::false::false::false::false::false::false::false::false::false::false::false::false::false::false::false::false::false::false::false::false::false::false::false::false::false::false::[]) 0 rfl rfl rfl) ?_
 refine zau h [3,5,6,8,10,16,17,18,19,20,21,22,23,24,25,26,27,28,29,30,31,32,33,34,35,36,37,38,39,40,41,42,43,44,45] (fun j3=>[(6,(zvn 2 (List.length j3) 4))]) (fun j3=>⟨[(26,(Enc.cellsL (s1.2:List BS))),(26,(Enc.cells (x1:BS))),(26,(Enc.cellsL (j3:List BS)))],[],[],0,false⟩) ?_ ?_
 intro or3 h hr3
 refine zf (zb ?_)
 refine zab ?_
 refine w_o (a:= .i (List.length s1.2:Int)) (h:=zbh (qox (α:=BS) (l:=s1.2) rfl rfl rfl rfl rfl rfl)) ?_
 refine w_o (a:= .i 0) ?_
 refine zp ?_
 refine zbx h [3,6,8,10,16,17,18,21,22,23,24,25,26,27,28,29,30,31,32,33,34,35,36,37,38,39,40,41,42,43,44,45] (fun s2=>[(21,.i s2.1),(6,(zvn 2 (List.length s2.2) 4))]) (fun s2=>⟨[(26,(Enc.cellsL (s1.2:List BS))),(26,(Enc.cells (x1:BS))),(26,(Enc.cellsL (s2.2:List BS)))],[],[],0,false⟩) ?_ ?_
 exact zct (bl 51 2181431073241847) (by kernel_rfl) (by kernel_rfl)
 intro s2 p2 h
 refine zah (by dsimp only[zac,zag,List.foldl,List.set]) rfl ?_
 refine zf (zb ?_)
 refine w_o (a:= .b (decide (s2.1<(List.length s1.2:Int)))) ?_
 refine zf ?_
 refine zae h (fun hc2 h=> ?_) (fun hc2 h=> ?_)
 refine zbw hc2 rfl ?_
 refine zau h [6,8,10,22,23,24,25,26,27,28,29,30,31,32,33,34,35,36,37,38,39,40,41,42,43,44] (fun j4=>[(6,(zvn 2 (List.length j4) 4))]) (fun j4=>⟨[(26,(Enc.cellsL (s1.2:List BS))),(26,(Enc.cells (x1:BS))),(26,(Enc.cellsL (j4:List BS)))],[],[],0,false⟩) ?_ ?_
 intro or4 h hr4
 refine zp ?_
 refine zae h (fun hc3 h=> ?_) (fun hc3 h=> ?_)
 rw[zfv (b:=0) hc3]
 refine zf (zb ?_)
 cases h
 rw[zgq (b:=0) hc3]
 refine zf (zb ?_)
 obtain⟨g2,h⟩:=zi h
 refine w_o (a:= .ptr 0 (0+Int.toNat s2.1*4)) (h:=zbh (zex (α:=BS) g2 rfl rfl rfl rfl rfl)) ?_
 obtain⟨g3,h⟩:=zi h
 obtain⟨x2,hx2,h⟩:=zo h
 refine w_o (a:= .agg (Enc.cells (x2:BS))) (h:=zbh (by rw[←hx2];exact(zef (α:=BS) (l:=s1.2) (i:=s2.1) (k:=0) (te:=26) g3 rfl rfl rfl rfl))) ?_
 refine zbz (a:= .ptr 3 0) (σ'':=⟨[(26,(Enc.cellsL (s1.2:List BS))),(26,(Enc.cells (x1:BS))),(26,(Enc.cellsL (s2.2:List BS))),(26,(Enc.cells (0#256:BS)))],[],[],0,false⟩) ?_
 refine zbz (σ'':=⟨[(26,(Enc.cellsL (s1.2:List BS))),(26,(Enc.cells (x1:BS))),(26,(Enc.cellsL (s2.2:List BS))),(26,(Enc.cells (x2:BS)))],[],[],0,false⟩) (h:=zaz (n:=4) rfl rfl rfl rfl rfl rfl rfl rfl (by decide)) ?_
 refine zf ?_
 refine zgc (k0:=0) (id:=9) 9 (by kernel_rfl) (by kernel_rfl) ?_
 refine h_o (a:= .agg (Enc.cells (x2:BS))) ?_
 refine h_o (a:= .agg (Enc.cells (x1:BS))) ?_
 obtain⟨x3,hx3,h⟩:=zo h
 refine zjn (args':=[.agg (Enc.cells (x2:BS)),.agg (Enc.cells (x1:BS))]) (r:= .agg (Enc.cells (x3:BS))) (by rw[←hx3];exact(k_and x2 x1)) rfl rfl rfl (zd (zaj (zl (Enc.clo _))) (zd (zaj (zl (Enc.clo _))) rfl)) (za (zn _ _ (zl (Enc.clo _))) (za (zn _ _ (zl (Enc.clo _))) rfl)) (by dsimp only[zh,List.set]) ?_
 refine h_o (a:= .agg (Enc.cells (x2:BS))) ?_
 refine h_o (a:= .agg (Enc.cells (x1:BS))) ?_
 obtain⟨x4,hx4,h⟩:=zo h
 refine zjn (args':=[.agg (Enc.cells (x2:BS)),.agg (Enc.cells (x1:BS))]) (r:= .agg (Enc.cells (x4:BS))) (by rw[←hx4];exact(qcy x2 x1)) rfl rfl rfl (zd (zaj (zl (Enc.clo _))) (zd (zaj (zl (Enc.clo _))) rfl)) (za (zn _ _ (zl (Enc.clo _))) (za (zn _ _ (zl (Enc.clo _))) rfl)) (by dsimp only[zh,List.set]) ?_
 refine h_o (a:= .list (List.length ([x3,x4]:List BS)) (Enc.cellsL ([x3,x4]:List BS)) .full) (h:=zev (α:=BS) (l:=[x3,x4]) (cs:=Enc.cells (x3:BS)++(Enc.cells (x4:BS)++[])) rfl (by rw[Enc.cons,Enc.cons,Enc.nil])) ?_
 refine h_o (a:= .i (List.length [x3,x4]:Int)) ?_
 refine h_o (a:= .i 0) ?_
 refine zjo ?_
 refine zp ?_
 refine zbx h [6,8,10,22,23,24,25,26,27,28,29,30,33,34,35,36,37,38,39,40,41,42,43,44] (fun s3=>[(33,.i s3.1),(6,(zvn 2 (List.length s3.2) 4))]) (fun s3=>⟨[(26,(Enc.cellsL (s1.2:List BS))),(26,(Enc.cells (x1:BS))),(26,(Enc.cellsL (s3.2:List BS))),(26,(Enc.cells (x2:BS)))],[],[],0,false⟩) ?_ ?_
 exact zct (bl 51 2216630478174975) (by kernel_rfl) (by kernel_rfl)
 intro s3 p3 h
 refine zah (by dsimp only[zac,zag,List.foldl,List.set]) rfl ?_
 refine zf (zb ?_)
 refine w_o (a:= .b (decide (s3.1<(List.length [x3,x4]:Int)))) ?_
 refine zf ?_
 refine zae h (fun hc4 h=> ?_) (fun hc4 h=> ?_)
 refine zbw hc4 rfl ?_
 refine zau h [6,10,34,35,36,37,38,39,40,41,42,43] (fun j5=>[(6,(zvn 2 (List.length j5) 4))]) (fun j5=>⟨[(26,(Enc.cellsL (s1.2:List BS))),(26,(Enc.cells (x1:BS))),(26,(Enc.cellsL (j5:List BS))),(26,(Enc.cells (x2:BS)))],[],[],0,false⟩) ?_ ?_
 intro or5 h hr5
 refine zp ?_
 refine zf (zb ?_)
 obtain⟨g4,h⟩:=zi h
 obtain⟨x5,hx5,h⟩:=zo h
 refine w_o (a:= .iptr (Enc.cells x5++Enc.cellsL (List.drop (Int.toNat s3.1+1) [x3,x4]))) (h:=zbh (by rw[←hx5];exact(ztq (α:=BS) (l:=[x3,x4]) g4 rfl rfl rfl rfl rfl))) ?_
 refine w_o (a:= .agg (Enc.cells (x5:BS))) ?_
 refine zbz (a:= .ptr 4 0) (σ'':=⟨[(26,(Enc.cellsL (s1.2:List BS))),(26,(Enc.cells (x1:BS))),(26,(Enc.cellsL (s3.2:List BS))),(26,(Enc.cells (x2:BS))),(26,(Enc.cells (0#256:BS)))],[],[],0,false⟩) ?_
 refine zbz (σ'':=⟨[(26,(Enc.cellsL (s1.2:List BS))),(26,(Enc.cells (x1:BS))),(26,(Enc.cellsL (s3.2:List BS))),(26,(Enc.cells (x2:BS))),(26,(Enc.cells (x5:BS)))],[],[],0,false⟩) (h:=zaz (n:=4) rfl rfl rfl rfl rfl rfl rfl rfl (by decide)) ?_
 refine zf (zb ?_)
 refine w_o (a:= .agg (Enc.cells (x5:BS))) ?_
 refine w_o (a:= .agg (Enc.cells (0#256:BS))) ?_
 refine qar (.b (decide (x5≠(0#256)))) rfl rfl rfl (zvg x5 (0#256) rfl rfl rfl) (by dsimp only[zh,List.set]) ?_
 refine zae h (fun hc5 h=> ?_) (fun hc5 h=> ?_)
 refine zbw hc5 rfl ?_
 refine zb (k0:=0) (id:=13) ?_
 refine zab ?_
 refine w_o (a:= .agg (Enc.cells (x5:BS))) ?_
 refine w_o (a:= .list (List.length ([x5]:List BS)) (Enc.cellsL ([x5]:List BS)) .full) (h:=zbh (zev (α:=BS) (l:=[x5]) (cs:=Enc.cells (x5:BS)++[]) rfl (by rw[Enc.cons,Enc.nil]))) ?_
 refine zae h (fun hc6 h=> ?_) (fun hc6 h=> ?_)
 rw[zfv (b:=2) hc6]
 obtain⟨g5,h⟩:=zi h
 refine zgs (a:= .bsl 5 0 (List.length [x5]) 4 false) (σ'':=⟨[(26,(Enc.cellsL (s1.2:List BS))),(26,(Enc.cells (x1:BS))),(26,(Enc.cellsL (s3.2:List BS))),(26,(Enc.cells (x2:BS))),(26,(Enc.cells (x5:BS))),(26,(Enc.cellsL ([x5]:List BS)))],[],[],0,false⟩) rfl rfl rfl (zmg (α:=BS) (r:=[x5]) (by':=32) g5 rfl rfl rfl rfl rfl rfl rfl rfl rfl rfl rfl ⟨rfl,by decide⟩) (by dsimp only[zh,List.set]) rfl ?_
 refine zab ?_
 refine zg (o:=or5) ([x5]) h ?_
 exact zdx (bl 51 2234224807508991) 0 [] [0,1,5,3] 1 (Nat.le_refl _) rfl (by dsimp only[zac,zag,List.foldl,List.set];exact(zc rfl (zc rfl (zc rfl (zc rfl (zc rfl (zc rfl (zc (zgj (by first|(simp;done)|(simp only[List.length_append,List.length_take];omega)) (by first|(simp;done)|exact zfz hc3) _ _) (zc rfl (zc rfl (zc rfl (zak (zc rfl (zc rfl (zc (zk _ _ _ (zcs (Enc.cloL _))) (zc (zk _ _ _ rfl) (zc (zk _ _ _ rfl) (zc rfl (zc rfl (zc rfl (zc rfl (zc (zk _ _ _ rfl) (zc (zk _ _ _ rfl) (zc rfl (zc rfl (zc rfl (zc rfl (zc rfl (zc rfl (zc rfl (zc rfl (zc rfl (zc (z2b (Enc.cloL _)) (zc (zk _ _ _ rfl) (zc (zk _ _ _ rfl) (ze (zak (zak (zc rfl (zc rfl (zc rfl (zc rfl (zc rfl (zc rfl (zc rfl zdw))))))))))))))))))))))))))))))))))))))))))))) (zdp (zal rfl (zam _ _ _ (Enc.cloL _)) (zal rfl (zam _ _ _ (Enc.clo _)) (zal rfl (zam _ _ _ (Enc.cloL _)) (zal rfl (zam _ _ _ (Enc.clo _)) zcr)))) rfl)
 rw[zgq (b:=2) hc6]
 obtain⟨g6,h⟩:=zi h
 refine zgs (a:= .bsl 5 0 ((List.length s3.2)+List.length [x5]) 4 false) (σ'':=⟨[(26,(Enc.cellsL (s1.2:List BS))),(26,(Enc.cells (x1:BS))),(26,(Enc.cellsL (([]:List BS):List BS))),(26,(Enc.cells (x2:BS))),(26,(Enc.cells (x5:BS))),(26,(Enc.cellsL ((s3.2++[x5]):List BS)))],[],[],0,false⟩) rfl rfl rfl (zxp (α:=BS) (l:=s3.2) (r:=[x5]) (by':=32) g6 rfl rfl rfl rfl rfl rfl rfl rfl rfl rfl rfl rfl ⟨rfl,by decide⟩) (by dsimp only[zh,List.set]) rfl ?_
 refine zab ?_
 refine zg (o:=or5) ((s3.2++[x5])) h ?_
 exact zdx (bl 51 2234224807508991) 0 [] [0,1,5,3] 1 (Nat.le_refl _) rfl (by dsimp only[zac,zag,List.foldl,List.set];exact(zc rfl (zc rfl (zc rfl (zc rfl (zc rfl (zc rfl (zc (zgj (by first|(simp;done)|(simp only[List.length_append,List.length_take];omega)) (by first|(simp;done)|exact zfz hc3|exact zfz hc6) _ _) (zc rfl (zc rfl (zc rfl (zak (zc rfl (zc rfl (zc (zk _ _ _ (zcs (Enc.cloL _))) (zc (zk _ _ _ rfl) (zc (zk _ _ _ rfl) (zc rfl (zc rfl (zc rfl (zc rfl (zc (zk _ _ _ rfl) (zc (zk _ _ _ rfl) (zc rfl (zc rfl (zc rfl (zc rfl (zc rfl (zc rfl (zc rfl (zc rfl (zc rfl (zc (z2b (Enc.cloL _)) (zc (zk _ _ _ rfl) (zc (zk _ _ _ rfl) (ze (zak (zak (zc rfl (zc rfl (zc rfl (zc rfl (zc rfl (zc rfl (zc rfl zdw))))))))))))))))))))))))))))))))))))))))))))) (zdp (zal rfl (zam _ _ _ (Enc.cloL _)) (zal rfl (zam _ _ _ (Enc.clo _)) (zal rfl (zam _ _ _ (Enc.cloL _)) (zal rfl (zam _ _ _ (Enc.clo _)) zcr)))) rfl)
 refine zbt hc5 rfl ?_
 refine zg (o:=or5) (s3.2) h ?_
 exact zdd (bl 51 2234224807508991) 4 (by kernel_rfl) (Nat.le_of_ble_eq_true rfl) (zbi (zt (zm _ _ (Enc.cloL _)) (zt (zm _ _ (Enc.clo _)) (zt (zm _ _ (Enc.cloL _)) (zt (zm _ _ (Enc.clo _)) rfl))))) (by dsimp only[zac,zag,List.foldl,List.set];exact(za rfl (za rfl (za rfl (za rfl (za rfl (za (by decide) (za (zwb (by decide)) (za rfl (za rfl (za rfl (za rfl (za rfl (za rfl (za (zan (Enc.cloL _)) (za rfl (za rfl (za rfl (za rfl (za rfl (za rfl (za rfl (za rfl (za rfl (za rfl (za rfl (za rfl (za rfl (za rfl (za rfl (za rfl (za rfl (za (zan (Enc.cloL _)) (by kernel_rfl)))))))))))))))))))))))))))))))))) (by kernel_rfl)
 intro j5 h
 refine zah (by dsimp only[zac,zag,List.foldl,List.set]) rfl ?_
 refine zb (k0:=0) (id:=14) ?_
 obtain⟨g7,h⟩:=zi h
 refine w_o (a:= .i (s3.1+1)) (h:=zbh (zld rfl rfl rfl rfl g7.1 g7.2)) ?_
 refine zab ?_
 refine zas (p:=p3) ((s3.1+1),j5) h ?_
 exact zct (bl 51 2216630478174975) (by kernel_rfl) (by kernel_rfl)
 refine zbt hc4 rfl ?_
 refine zw h (fun h=> ?_)
 refine zg (o:=or4) (s3.2) h ?_
 exact zdd (bl 51 2216615445789439) 3 (by kernel_rfl) (Nat.le_of_ble_eq_true rfl) (zbi (zt (zm _ _ (Enc.cloL _)) (zt (zm _ _ (Enc.clo _)) (zt (zm _ _ (Enc.cloL _)) rfl)))) (by dsimp only[zac,zag,List.foldl,List.set];exact(za rfl (za rfl (za rfl (za rfl (za rfl (za (by decide) (za (zwb (by decide)) (za rfl (za rfl (za rfl (za rfl (za rfl (za rfl (za (zan (Enc.cloL _)) (by kernel_rfl)))))))))))))))) (by kernel_rfl)
 intro j4 h
 refine zah (by dsimp only[zac,zag,List.foldl,List.set]) rfl ?_
 refine zb (k0:=0) (id:=15) ?_
 obtain⟨g8,h⟩:=zi h
 refine w_o (a:= .i (s2.1+1)) (h:=zbh (zld rfl rfl rfl rfl g8.1 g8.2)) ?_
 refine zab ?_
 refine zas (p:=p2) ((s2.1+1),j4) h ?_
 exact zct (bl 51 2181431073241847) (by kernel_rfl) (by kernel_rfl)
 refine zbt hc2 rfl ?_
 refine zw h (fun h=> ?_)
 refine zg (o:=or3) (s2.2) h ?_
 exact zct (bl 51 2181431069571799) (by kernel_rfl) (by kernel_rfl)
 intro j3 h
 refine zah (by dsimp only[zac,zag,List.foldl,List.set]) rfl ?_
 refine zb (k0:=0) (id:=16) ?_
 refine zab ?_
 refine zab ?_
 refine zg (o:=or2) (j3) h ?_
 exact zdx (bl 51 2111062325394079) 0 [] [2] 1 (Nat.le_refl _) rfl (by dsimp only[zac,zag,List.foldl,List.set];exact(zc rfl (zc rfl (zc rfl (zc (qjk (fun _=>rfl)) (zc rfl (zak (zak (zc rfl (zak (zc rfl (zak (zc rfl (zc rfl (zc (zk _ _ _ (zcs (Enc.cloL _))) (zc (zk _ _ _ rfl) (zc (zk _ _ _ rfl) (ze (ze (ze (zak (zak (zak (zak (zak (zak (zak (zc rfl (zc rfl (zc rfl (zc rfl zdw))))))))))))))))))))))))))))))) (zdp (zal rfl (zam _ _ _ (Enc.cloL _)) zcr) rfl)
 intro j2 h
 refine zah (by dsimp only[zac,zag,List.foldl,List.set]) rfl ?_
 refine zb (k0:=0) (id:=17) ?_
 obtain⟨g9,h⟩:=zi h
 refine w_o (a:= .i (s1.1+1)) (h:=zbh (zld rfl rfl rfl rfl g9.1 g9.2)) ?_
 refine zab ?_
 refine zas (p:=p1) ((s1.1+1),j2) h ?_
 exact zct (bl 51 1970324837038750) (by kernel_rfl) (by kernel_rfl)
 refine zbt hc1 rfl ?_
 refine zw h (fun h=> ?_)
 refine zg (o:=or1) (s1.2) h ?_
 exact zct (bl 51 1970324836981406) (by kernel_rfl) (by kernel_rfl)
 intro j1 h
 refine zah (by dsimp only[zac,zag,List.foldl,List.set]) rfl ?_
 refine zf (zb ?_)
 refine zab ?_
 refine zae h (fun hc7 h=> ?_) (fun hc7 h=> ?_)
 rw[zfv (b:=0) hc7]
 refine zbr (args':=[.list 0 [] .none,.clos 108 []]) (r:= .tup []) qed rfl rfl (zd rfl (zd rfl rfl)) rfl (by dsimp only[zh,List.set]) ?_
 refine zf (zb ?_)
 refine zab ?_
 refine zab ?_
 exact zdi (fun(r:(List BS))=>(.list (List.length (r:List BS)) (Enc.cellsL (r:List BS)) .none:AV)) h rfl rfl rfl
 rw[zgq (b:=0) hc7]
 obtain⟨g10,h⟩:=zi h
 obtain⟨x6,hx6,h⟩:=zo h
 refine z3i (r:= .tup []) (σ':=⟨[(26,(Enc.cellsL (x6:List BS)))],[],[],0,false⟩) (qff j1 g10 hx6 rfl rfl) rfl rfl ⟨rfl,rfl⟩ (by dsimp only[zh,List.set]) ?_
 refine zf (zb ?_)
 refine zab ?_
 refine zab ?_
 obtain⟨g11,h⟩:=zi h
 have hxr:=Option.some.inj h
 subst hxr
 exact z5c 1 rfl (qgu (α:=BS) (t:=26) (l:=x6) g11 rfl)
end Go.Ab
