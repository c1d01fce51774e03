/-
  Made: joins, group, rep; node, rep of the laws.
-/
import Derived.Test.YtfkkellnlmjenaaGreatZeE1
set_option linter.unusedSimpArgs false
set_option linter.unusedVariables false
namespace Go.Ab
open Go Go.RowKit Go.Fwd Go.Proofs
def zij (fuel:Nat)(k:Int)(a:Tr)(b:Tr):Option Tr:=
 (zdn (τ:=(List Tr)) (zbv (β:=(List Tr)×Int) (fun s1=>(bif (decide (s1.2<(List.length [a,b]:Int))) then(zdn (τ:=(List Tr)) (chk (0≤s1.2∧s1.2<(List.length [a,b]:Int)) (zbc (ix [a,b] s1.2) (fun x1=>(bif (((x1.k:Nat):Int)==k) then(chk ((List.length s1.1+List.length x1.l)*80≤140737488355328) (some (Sum.inl ((s1.1++x1.l))))) else(bif (k==3) then(bif (((x1.k:Nat):Int)==1) then(some (Sum.inl (s1.1))) else(chk ((List.length s1.1+List.length [x1])*80≤140737488355328) (some (Sum.inl ((s1.1++[x1])))))) else(chk ((List.length s1.1+List.length [x1])*80≤140737488355328) (some (Sum.inl ((s1.1++[x1])))))))))) (fun j2=>(chk (-9223372036854775808≤(s1.2+1)∧(s1.2+1)<9223372036854775808) (some (Sum.inl (j2,(s1.2+1))))))) else(some (Sum.inr (Sum.inl (s1.1)))))) fuel (([]:(List Tr)),0)) (fun j1=>(bif ((List.length j1:Int)==0) then(some (Tr.mk 1 (0#256) 0 0 [])) else(bif ((List.length j1:Int)==1) then(chk (0≤(0:Int)∧(0:Int)<(List.length j1:Int)) (zbc (ix j1 (0:Int)) (fun x2=>(some x2)))) else(chk (0≤k) (some (Tr.mk (Int.toNat k) (0#256) 0 0 j1)))))))
theorem ent49:Ent Tryz.prog 49:=enters_of Tryz.func49 (by kernel_rfl) rfl
set_option maxRecDepth 100000 in
set_option maxHeartbeats 4000000 in
theorem znq (fuel:Nat)(k:Int)(a:Tr)(b:Tr)(r:Tr)(h:zij fuel k a b=some r):Pure (ITP Tryz.prog) Tryz.prog 49 [.raw (.int .u8 k),.agg (Enc.cells (a:Tr)),.agg (Enc.cells (b:Tr))] (.agg (Enc.cells (r:Tr))):=by
 obtain⟨d,hd⟩: ∃d,Tryz.f49.body=some d:=⟨_,rfl⟩
 refine zgk mix Tryz.func49 hd ent49 ?_
 cases hd
 unfold zij at h
 refine zah (by dsimp only[zbf,Tryz.f49,List.length_cons,List.length_nil,Nat.zero_add,Nat.reduceAdd,Nat.reduceSub,List.replicate,List.cons_append,List.nil_append]) (by dsimp only[St.empty]) ?_
 refine zf (zb ?_)
 refine zbz (a:= .ptr 0 0) (σ'':=⟨[(29,(Enc.cells (a:Tr)))],[],[],0,false⟩) ?_
 refine zbz (a:= .ptr 1 0) (σ'':=⟨[(29,(Enc.cells (a:Tr))),(29,(Enc.cells (b:Tr)))],[],[],0,false⟩) ?_
 refine zbz (a:= .ptr 2 0) (σ'':=⟨[(29,(Enc.cells (a:Tr))),(29,(Enc.cells (b:Tr))),(29,[.u 0,.raw (.int .u64 0),.raw (.int .u64 0),.raw (.int .u64 0),.raw (.int .u64 0),.i 0,.i 0,.list 0 [] .full])],[],[],0,false⟩) ?_
 refine zf (zb ?_)
 refine w_o (a:= .list 0 [] .full) ?_
 refine zau h [1,2,3,4,5,7,8,9,10,11,12,13,14,15,16,17,18,19,20,21,22,23,24,25,26,27,28,29,30,31,32,33,34,35,36,37,38,39,40,41,42,43,44,45,46,47,48,49,50,51,52] (fun j1=>[(7,(zcm (List.length (j1:List Tr)) (Enc.cellsL (j1:List Tr))))]) (fun j1=>(zbs [(29,(Enc.cells (a:Tr))),(29,(Enc.cells (b:Tr))),(29,[.u 0,.raw (.int .u64 0),.raw (.int .u64 0),.raw (.int .u64 0),.raw (.int .u64 0),.i 0,.i 0,.list 0 [] .full])] 29 (List.length (j1:List Tr)) 8)) ?_ ?_
 intro or1 h hr1
 refine zf (zb ?_)
 refine w_o (a:= .agg (Enc.cells (a:Tr))) ?_
 refine w_o (a:= .agg (Enc.cells (b:Tr))) ?_
 refine w_o (a:= .list (List.length ([a,b]:List Tr)) (Enc.cellsL ([a,b]:List Tr)) .full) (h:=zbh (zev (α:=Tr) (l:=[a,b]) (cs:=Enc.cells (a:Tr)++(Enc.cells (b:Tr)++[])) rfl (by rw[Enc.cons,Enc.cons,Enc.nil]))) ?_
 refine w_o (a:= .i (List.length [a,b]:Int)) ?_
 refine w_o (a:= .i 0) ?_
 refine zp ?_
 refine zbx h [1,2,3,4,5,7,8,9,10,11,14,15,16,17,18,19,20,21,22,23,24,25,26,27,28,29,30,31,32,33,34,35,36,37,38,39,40,41,42,43,44,45,46,47,48,49,50,51,52] (fun s1=>[(7,(zcm (List.length (s1.1:List Tr)) (Enc.cellsL (s1.1:List Tr)))),(14,.i s1.2)]) (fun s1=>(zbs [(29,(Enc.cells (a:Tr))),(29,(Enc.cells (b:Tr))),(29,[.u 0,.raw (.int .u64 0),.raw (.int .u64 0),.raw (.int .u64 0),.raw (.int .u64 0),.i 0,.i 0,.list 0 [] .full])] 29 (List.length (s1.1:List Tr)) 8)) ?_ ?_
 exact zct (bl 53 28865) (by kernel_rfl) (by kernel_rfl)
 intro s1 p1 h
 refine zah (by dsimp only[zac,zag,List.foldl,List.set]) rfl ?_
 refine zf (zb ?_)
 refine w_o (a:= .b (decide (s1.2<(List.length [a,b]:Int)))) ?_
 refine zf ?_
 refine zae h (fun hc1 h=> ?_) (fun hc1 h=> ?_)
 refine zbw hc1 rfl ?_
 refine zau h [7,9,15,16,17,18,19,20,21,22,23,24,25,26,27,28,29,30,31,32,33,34,35,36,37,38] (fun j2=>[(7,(zcm (List.length (j2:List Tr)) (Enc.cellsL (j2:List Tr))))]) (fun j2=>(zbs [(29,(Enc.cells (a:Tr))),(29,(Enc.cells (b:Tr))),(29,[.u 0,.raw (.int .u64 0),.raw (.int .u64 0),.raw (.int .u64 0),.raw (.int .u64 0),.i 0,.i 0,.list 0 [] .full])] 29 (List.length (j2:List Tr)) 8)) ?_ ?_
 intro or2 h hr2
 refine zp ?_
 refine zf (zb ?_)
 obtain⟨g1,h⟩:=zi h
 obtain⟨x1,hx1,h⟩:=zo h
 refine w_o (a:= .iptr (Enc.cells x1++Enc.cellsL (List.drop (Int.toNat s1.2+1) [a,b]))) (h:=zbh (by rw[←hx1];exact(ztq (α:=Tr) (l:=[a,b]) g1 rfl rfl rfl rfl rfl))) ?_
 refine w_o (a:= .agg (Enc.cells (x1:Tr))) ?_
 refine zbz (a:= .ptr 3 0) (σ'':=(zbs [(29,(Enc.cells (a:Tr))),(29,(Enc.cells (b:Tr))),(29,[.u 0,.raw (.int .u64 0),.raw (.int .u64 0),.raw (.int .u64 0),.raw (.int .u64 0),.i 0,.i 0,.list 0 [] .full]),(29,[.u 0,.raw (.int .u64 0),.raw (.int .u64 0),.raw (.int .u64 0),.raw (.int .u64 0),.i 0,.i 0,.list 0 [] .full])] 29 (List.length (s1.1:List Tr)) 8)) ?_
 refine zbz (σ'':=(zbs [(29,(Enc.cells (a:Tr))),(29,(Enc.cells (b:Tr))),(29,[.u 0,.raw (.int .u64 0),.raw (.int .u64 0),.raw (.int .u64 0),.raw (.int .u64 0),.i 0,.i 0,.list 0 [] .full]),(29,(Enc.cells (x1:Tr)))] 29 (List.length (s1.1:List Tr)) 8)) (h:=zaz (n:=8) rfl rfl rfl rfl rfl rfl rfl rfl (by decide)) ?_
 refine zp ?_
 refine zf (zb ?_)
 refine w_o (a:= .ptr 3 0) ?_
 refine w_o (a:= .u ((x1.k:Nat):Int)) ?_
 refine zab ?_
 refine w_o (a:= .b (((x1.k:Nat):Int)==k)) ?_
 refine zab ?_
 refine zae h (fun hc2 h=> ?_) (fun hc2 h=> ?_)
 refine zbw hc2 rfl ?_
 refine zb (k0:=0) (id:=7) ?_
 refine zab ?_
 refine w_o (a:= .ptr 3 7) ?_
 refine w_o (a:= .list (List.length (x1.l:List Tr)) (Enc.cellsL (x1.l:List Tr)) .none) ?_
 obtain⟨g2,h⟩:=zi h
 refine zfp (a:=(zcm (List.length ((s1.1++x1.l):List Tr)) (Enc.cellsL ((s1.1++x1.l):List Tr)))) (σ'':=(zbs [(29,(Enc.cells (a:Tr))),(29,(Enc.cells (b:Tr))),(29,[.u 0,.raw (.int .u64 0),.raw (.int .u64 0),.raw (.int .u64 0),.raw (.int .u64 0),.i 0,.i 0,.list 0 [] .full]),(29,(Enc.cells (x1:Tr)))] 29 (List.length ((s1.1++x1.l):List Tr)) 8)) rfl rfl rfl (zft rfl rfl rfl rfl (zdy (α:=Tr) (bs:=[(29,(Enc.cells (a:Tr))),(29,(Enc.cells (b:Tr))),(29,[.u 0,.raw (.int .u64 0),.raw (.int .u64 0),.raw (.int .u64 0),.raw (.int .u64 0),.i 0,.i 0,.list 0 [] .full]),(29,(Enc.cells (x1:Tr)))]) (a:=s1.1) (b:=x1.l) g2 rfl rfl rfl rfl rfl ⟨rfl,by decide⟩)) (by dsimp only[zh,List.set]) rfl ?_
 refine zab ?_
 refine zg (o:=or2) ((s1.1++x1.l)) h ?_
 exact zdd (bl 53 9006649498959359) 3 (by kernel_rfl) (Nat.le_of_ble_eq_true rfl) (zbi (zt (zm _ _ (Enc.clo _)) (zt (zm _ _ (Enc.clo _)) (zt rfl rfl)))) (by dsimp only[zac,zag,List.foldl,List.set];exact(za rfl (za rfl (za rfl (za rfl (za rfl (za rfl (za (by decide) (za (zcf (Enc.cloL _)) (za rfl (za rfl (za rfl (za rfl (za (zan (Enc.cloL _)) (by kernel_rfl))))))))))))))) (by kernel_rfl)
 refine zbt hc2 rfl ?_
 refine zf (zb ?_)
 refine zab ?_
 refine w_o (a:= .b (k==3)) ?_
 refine zae h (fun hc3 h=> ?_) (fun hc3 h=> ?_)
 refine w_o (a:= .b true) (h:=zbh (zcg rfl hc3)) ?_
 refine zaf rfl rfl ?_
 refine w_o (a:= .ptr 3 0) ?_
 refine zaf rfl rfl ?_
 refine w_o (a:= .u ((x1.k:Nat):Int)) ?_
 refine zaf rfl rfl ?_
 refine w_o (a:= .b (((x1.k:Nat):Int)==1)) ?_
 refine w_o (a:= .b (((x1.k:Nat):Int)==1)) ?_
 refine zab ?_
 refine zae h (fun hc4 h=> ?_) (fun hc4 h=> ?_)
 refine zbw hc4 rfl ?_
 refine zg (o:=or2) (s1.1) h ?_
 exact zdd (bl 53 9006649498959359) 3 (by kernel_rfl) (Nat.le_of_ble_eq_true rfl) (zbi (zt (zm _ _ (Enc.clo _)) (zt (zm _ _ (Enc.clo _)) (zt rfl rfl)))) (by dsimp only[zac,zag,List.foldl,List.set];exact(za rfl (za rfl (za rfl (za rfl (za rfl (za rfl (za (by decide) (za (zcf (Enc.cloL _)) (za rfl (za rfl (za rfl (za rfl (za (zan (Enc.cloL _)) (by kernel_rfl))))))))))))))) (by kernel_rfl)
 refine zbt hc4 rfl ?_
 refine zb (k0:=0) (id:=5) ?_
 refine zab ?_
 refine w_o (a:= .agg (Enc.cells (x1:Tr))) ?_
 refine w_o (a:= .list (List.length ([x1]:List Tr)) (Enc.cellsL ([x1]:List Tr)) .full) (h:=zbh (zev (α:=Tr) (l:=[x1]) (cs:=Enc.cells (x1:Tr)++[]) rfl (by rw[Enc.cons,Enc.nil]))) ?_
 obtain⟨g3,h⟩:=zi h
 refine zfp (a:=(zcm (List.length ((s1.1++[x1]):List Tr)) (Enc.cellsL ((s1.1++[x1]):List Tr)))) (σ'':=(zbs [(29,(Enc.cells (a:Tr))),(29,(Enc.cells (b:Tr))),(29,[.u 0,.raw (.int .u64 0),.raw (.int .u64 0),.raw (.int .u64 0),.raw (.int .u64 0),.i 0,.i 0,.list 0 [] .full]),(29,(Enc.cells (x1:Tr)))] 29 (List.length ((s1.1++[x1]):List Tr)) 8)) rfl rfl rfl (zft rfl rfl rfl rfl (zdy (α:=Tr) (bs:=[(29,(Enc.cells (a:Tr))),(29,(Enc.cells (b:Tr))),(29,[.u 0,.raw (.int .u64 0),.raw (.int .u64 0),.raw (.int .u64 0),.raw (.int .u64 0),.i 0,.i 0,.list 0 [] .full]),(29,(Enc.cells (x1:Tr)))]) (a:=s1.1) (b:=[x1]) g3 rfl rfl rfl rfl rfl ⟨rfl,by decide⟩)) (by dsimp only[zh,List.set]) rfl ?_
 refine zab ?_
 refine zg (o:=or2) ((s1.1++[x1])) h ?_
 exact zdd (bl 53 9006649498959359) 3 (by kernel_rfl) (Nat.le_of_ble_eq_true rfl) (zbi (zt (zm _ _ (Enc.clo _)) (zt (zm _ _ (Enc.clo _)) (zt rfl rfl)))) (by dsimp only[zac,zag,List.foldl,List.set];exact(za rfl (za rfl (za rfl (za rfl (za rfl (za rfl (za (by decide) (za (zcf (Enc.cloL _)) (za rfl (za rfl (za rfl (za rfl (za (zan (Enc.cloL _)) (by kernel_rfl))))))))))))))) (by kernel_rfl)
 refine w_o (a:= .b false) (h:=zbh (zcg rfl hc3)) ?_
 refine zge ?_
 refine zge ?_
 refine zge ?_
 refine w_o (a:= .b false) ?_
 refine zab ?_
 refine zcl rfl ?_
 refine zb (k0:=0) (id:=5) ?_
 refine zab ?_
 refine w_o (a:= .agg (Enc.cells (x1:Tr))) ?_
 refine w_o (a:= .list (List.length ([x1]:List Tr)) (Enc.cellsL ([x1]:List Tr)) .full) (h:=zbh (zev (α:=Tr) (l:=[x1]) (cs:=Enc.cells (x1:Tr)++[]) rfl (by rw[Enc.cons,Enc.nil]))) ?_
 obtain⟨g4,h⟩:=zi h
 refine zfp (a:=(zcm (List.length ((s1.1++[x1]):List Tr)) (Enc.cellsL ((s1.1++[x1]):List Tr)))) (σ'':=(zbs [(29,(Enc.cells (a:Tr))),(29,(Enc.cells (b:Tr))),(29,[.u 0,.raw (.int .u64 0),.raw (.int .u64 0),.raw (.int .u64 0),.raw (.int .u64 0),.i 0,.i 0,.list 0 [] .full]),(29,(Enc.cells (x1:Tr)))] 29 (List.length ((s1.1++[x1]):List Tr)) 8)) rfl rfl rfl (zft rfl rfl rfl rfl (zdy (α:=Tr) (bs:=[(29,(Enc.cells (a:Tr))),(29,(Enc.cells (b:Tr))),(29,[.u 0,.raw (.int .u64 0),.raw (.int .u64 0),.raw (.int .u64 0),.raw (.int .u64 0),.i 0,.i 0,.list 0 [] .full]),(29,(Enc.cells (x1:Tr)))]) (a:=s1.1) (b:=[x1]) g4 rfl rfl rfl rfl rfl ⟨rfl,by decide⟩)) (by dsimp only[zh,List.set]) rfl ?_
 refine zab ?_
 refine zg (o:=or2) ((s1.1++[x1])) h ?_
 exact zdd (bl 53 9006649498959359) 3 (by kernel_rfl) (Nat.le_of_ble_eq_true rfl) (zbi (zt (zm _ _ (Enc.clo _)) (zt (zm _ _ (Enc.clo _)) (zt rfl rfl)))) (by dsimp only[zac,zag,List.foldl,List.set];exact(za rfl (za rfl (za rfl (za rfl (za rfl (za rfl (za (by decide) (za (zcf (Enc.cloL _)) (za rfl (za rfl (za rfl (za rfl (za (zan (Enc.cloL _)) (by kernel_rfl))))))))))))))) (by kernel_rfl)
 intro j2 h
 refine zah (by dsimp only[zac,zag,List.foldl,List.set]) rfl ?_
 refine zb (k0:=0) (id:=9) ?_
 obtain⟨g5,h⟩:=zi h
 refine w_o (a:= .i (s1.2+1)) (h:=zbh (zld rfl rfl rfl rfl g5.1 g5.2)) ?_
 refine zab ?_
 refine zas (p:=p1) (j2,(s1.2+1)) h ?_
 exact zct (bl 53 28865) (by kernel_rfl) (by kernel_rfl)
 refine zbt hc1 rfl ?_
 refine zw h (fun h=> ?_)
 refine zg (o:=or1) (s1.1) h ?_
 exact zct (bl 53 193) (by kernel_rfl) (by kernel_rfl)
 intro j1 h
 refine zah (by dsimp only[zac,zag,List.foldl,List.set]) rfl ?_
 refine zf ?_
 refine zf (zb ?_)
 refine zab ?_
 refine w_o (a:= .i (List.length j1:Int)) (h:=zbh (q_lenO (α:=Tr) (l:=j1) rfl rfl rfl rfl rfl rfl)) ?_
 refine zp ?_
 refine zf (zb ?_)
 refine w_o (a:= .b ((List.length j1:Int)==0)) ?_
 refine zab ?_
 refine zae h (fun hc5 h=> ?_) (fun hc5 h=> ?_)
 refine zbw hc5 rfl ?_
 refine zf (zb ?_)
 refine zeh (.agg (Enc.cells ((Tr.mk 1 (0#256) 0 0 []):Tr))) (a0:=(zca (Tr.mk 1 (0#256) 0 0 []) .full)) rfl rfl rfl (by kernel_rfl) (zj _ _) (by dsimp only[zh,List.set]) ?_
 refine zbz (σ'':=(zbs [(29,(Enc.cells (a:Tr))),(29,(Enc.cells (b:Tr))),(29,(Enc.cells ((Tr.mk 1 (0#256) 0 0 []):Tr)))] 29 (List.length (j1:List Tr)) 8)) (h:=zaz (n:=8) rfl rfl rfl rfl rfl rfl rfl rfl (by decide)) ?_
 exact zdi (fun(r:Tr)=>(.agg (Enc.cells (r:Tr)):AV)) h (a:= .agg (Enc.cells ((Tr.mk 1 (0#256) 0 0 []):Tr))) rfl (zn _ _ (zl (Enc.clo _))) (zaj (zl (Enc.clo _)))
 refine zbt hc5 rfl ?_
 refine zf (zb ?_)
 refine w_o (a:= .b ((List.length j1:Int)==1)) ?_
 refine zab ?_
 refine zae h (fun hc6 h=> ?_) (fun hc6 h=> ?_)
 refine zbw hc6 rfl ?_
 refine zf (zb ?_)
 refine zab ?_
 obtain⟨g6,h⟩:=zi h
 obtain⟨x2,hx2,h⟩:=zo h
 refine w_o (a:= .iptr (Enc.cells x2++Enc.cellsL (List.drop (Int.toNat (0:Int)+1) j1))) (h:=zbh (by rw[←hx2];exact(qeh (α:=Tr) (l:=j1) g6 rfl rfl rfl rfl rfl))) ?_
 refine w_o (a:= .agg (Enc.cells (x2:Tr))) ?_
 refine zbz (σ'':=(zbs [(29,(Enc.cells (a:Tr))),(29,(Enc.cells (b:Tr))),(29,(Enc.cells (x2:Tr)))] 29 (List.length (j1:List Tr)) 8)) (h:=zaz (n:=8) rfl rfl rfl rfl rfl rfl rfl rfl (by decide)) ?_
 exact zdi (fun(r:Tr)=>(.agg (Enc.cells (r:Tr)):AV)) h (a:= .agg (Enc.cells (x2:Tr))) rfl (zn _ _ (zl (Enc.clo _))) (zaj (zl (Enc.clo _)))
 refine zbt hc6 rfl ?_
 refine zf (zb ?_)
 refine zab ?_
 refine zab ?_
 rw[qfl (l:=j1) (pos_of0 hc5)]
 obtain⟨g7,h⟩:=zi h
 refine zeh (.agg (Enc.cells ((Tr.mk (Int.toNat k) (0#256) 0 0 j1):Tr))) (a0:=(qlo k (0#256) 0 0 j1 (.own 0))) rfl rfl rfl (by kernel_rfl) (ztn g7 _ _ _ _ _) (by dsimp only[zh,List.set]) ?_
 refine zbz (σ'':=(zbs [(29,(Enc.cells (a:Tr))),(29,(Enc.cells (b:Tr))),(29,(Enc.cells ((Tr.mk (Int.toNat k) (0#256) 0 0 j1):Tr)))] 29 (List.length (j1:List Tr)) 8)) (h:=zaz (n:=8) rfl rfl rfl rfl rfl rfl rfl rfl (by decide)) ?_
 exact zdi (fun(r:Tr)=>(.agg (Enc.cells (r:Tr)):AV)) h (a:= .agg (Enc.cells ((Tr.mk (Int.toNat k) (0#256) 0 0 j1):Tr))) rfl (zn _ _ (zl (Enc.clo _))) (zaj (zl (Enc.clo _)))
end Go.Ab
