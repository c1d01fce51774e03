import Derived.Test.YtnoccnalocdldaaGreatDoorZfAx
import Derived.Deep.Slices
import Derived.Deep.Fields
import Derived.ChangeSame
set_option linter.all false
set_option maxRecDepth 100000
set_option maxHeartbeats 4000000
open Sum (inl inr)
open Int (toNat tmod tdiv)
open Bool (and_eq_true)
open Nat (le_refl le_of_ble_eq_true not_lt_zero)
open List (length length_cons length_append length_nil foldl cons_append nil_append mem_cons append_nil mem_map isEmpty map_cons getElem_mem mem_singleton length_map)
open Go.Proofs.Tryz (prog)
namespace Go.Ab
open Go Go.RowKit Go.Fwd Go.Proofs
def zit (fuel:Nat)(k:Int)(a:Tr)(b:Tr):Option Tr:=
 (zcu (τ:=(List Tr)) (zax (β:=(List Tr)×Int) (fun s1=>(bif (decide (s1.2<(length [a,b]:Int))) then(zcu (τ:=(List Tr)) (chk (0<=s1.2/\ s1.2<(length [a,b]:Int)) (zba (ix [a,b] s1.2) (fun x1=>(bif (((x1.k:Nat):Int)==k) then(chk ((length s1.1+length x1.l)*80<=140737488355328) (some (inl ((s1.1++x1.l))))) else(bif (k==3) then(bif (((x1.k:Nat):Int)==1) then(some (inl (s1.1))) else(chk ((length s1.1+length [x1])*80<=140737488355328) (some (inl ((s1.1++[x1])))))) else(chk ((length s1.1+length [x1])*80<=140737488355328) (some (inl ((s1.1++[x1])))))))))) (fun j2=>(chk (I64 (s1.2+1)) (some (inl (j2,(s1.2+1))))))) else(some (inr (inl (s1.1)))))) fuel (([]:(List Tr)),0)) (fun j1=>(bif ((length j1:Int)==0) then(some (Tr.mk 1 (0#256) 0 0 [])) else(bif ((length j1:Int)==1) then(chk (0<=(0:Int)/\ (0:Int)<(length j1:Int)) (zba (ix j1 (0:Int)) (fun x2=>(some x2)))) else(chk (0<=k) (some (Tr.mk (toNat k) (0#256) 0 0 j1)))))))
theorem ent28:Ent prog 28:=enters_of Tryz.func28 (by kernel_rfl) rfl
theorem zpx (fuel:Nat)(k:Int)(a:Tr)(b:Tr)(r:Tr)(h:zit fuel k a b=some r):Pure (ITP prog) prog 28 [.raw (.int .u8 k),.agg (Enc.cells (a:Tr)),.agg (Enc.cells (b:Tr))] (.agg (Enc.cells (r:Tr))):=by
 obtain⟨d,hd⟩: ∃d,Tryz.f28.body=some d:=⟨_,rfl⟩;refine zjw mix Tryz.func28 hd ent28 ?_;cases hd;unfold zit at h;refine zbv (by dsimp only[zaq,Tryz.f28,length_cons,length_nil,Nat.zero_add,Nat.reduceAdd,Nat.reduceSub,List.replicate,cons_append,nil_append]) (by dsimp only[St.empty]) ?_;refine zj (zb ?_);refine zdf (Enc.cells (a:Tr)) ?_;refine zdf (Enc.cells (b:Tr)) ?_;refine zdf zN ?_;refine zj (zb ?_);refine w_o (a:= .list 0 [] .full) ?_;refine zan h [1,2,3,4,5,7,8,9,10,11,12,13,14,15,16,17,18,19,20,21,22,23,24,25,26,27,28,29,30,31,32,33,34,35,36,37,38,39,40,41,42,43,44,45,46,47,48,49,50,51,52] (fun j1=>[(7,(zbt (length (j1:List Tr)) (Enc.cellsL (j1:List Tr))))]) (fun j1=>(zbu [(29,(Enc.cells (a:Tr))),(29,(Enc.cells (b:Tr))),(29,zN)] 29 (length (j1:List Tr)) 8)) ?_ ?_;intro or1 h hr1;refine zj (zb ?_);refine w_o (a:= .agg (Enc.cells (a:Tr))) ?_;refine w_o (a:= .agg (Enc.cells (b:Tr))) ?_;refine w_o (a:= .list (length ([a,b]:List Tr)) (Enc.cellsL ([a,b]:List Tr)) .full) (h:=zaz (zho (α:=Tr) (l:=[a,b]) (cs:=Enc.cells (a:Tr)++(Enc.cells (b:Tr)++[])) rfl (by rw[Enc.cons,Enc.cons,Enc.nil]))) ?_;refine w_o (a:= .i (length [a,b]:Int)) ?_;refine w_o (a:= .i 0) ?_;refine zx ?_;refine zcf h [1,2,3,4,5,7,8,9,10,11,14,15,16,17,18,19,20,21,22,23,24,25,26,27,28,29,30,31,32,33,34,35,36,37,38,39,40,41,42,43,44,45,46,47,48,49,50,51,52] (fun s1=>[(7,(zbt (length (s1.1:List Tr)) (Enc.cellsL (s1.1:List Tr)))),(14,.i s1.2)]) (fun s1=>(zbu [(29,(Enc.cells (a:Tr))),(29,(Enc.cells (b:Tr))),(29,zN)] 29 (length (s1.1:List Tr)) 8)) ?_ ?_;exact zpl (bl 53 28865) (by kernel_rfl) (by kernel_rfl);intro s1 p1 h;refine zbv (by dsimp only[zap,zbi,foldl,List.set]) rfl ?_;refine zj (zb ?_);refine w_o (a:= .b (decide (s1.2<(length [a,b]:Int)))) ?_;refine zj ?_;refine zz h (fun hc1 h=> ?_) (fun hc1 h=> ?_);refine zfn hc1 rfl ?_;refine zan h [7,9,15,16,17,18,19,20,21,22,23,24,25,26,27,28,29,30,31,32,33,34,35,36,37,38] (fun j2=>[(7,(zbt (length (j2:List Tr)) (Enc.cellsL (j2:List Tr))))]) (fun j2=>(zbu [(29,(Enc.cells (a:Tr))),(29,(Enc.cells (b:Tr))),(29,zN)] 29 (length (j2:List Tr)) 8)) ?_ ?_;intro or2 h hr2;refine zx ?_;refine zj (zb ?_);obtain⟨g1,h⟩:=ze h;obtain⟨x1,hx1,h⟩:=zk h;refine w_o (a:= .iptr (Enc.cells x1++Enc.cellsL (List.drop (toNat s1.2+1) [a,b]))) (h:=zaz (by rw[<-hx1];exact(qco (α:=Tr) (l:=[a,b]) g1 rfl rfl rfl rfl rfl))) ?_;refine w_o (a:= .agg (Enc.cells (x1:Tr))) ?_;refine zqo (a:= .ptr 3 0) (U'':=(zbu [(29,(Enc.cells (a:Tr))),(29,(Enc.cells (b:Tr))),(29,zN),(29,zN)] 29 (length (s1.1:List Tr)) 8)) ?_;refine zqo (U'':=(zbu [(29,(Enc.cells (a:Tr))),(29,(Enc.cells (b:Tr))),(29,zN),(29,(Enc.cells (x1:Tr)))] 29 (length (s1.1:List Tr)) 8)) (h:=zen (n:=8) rfl rfl rfl rfl rfl rfl rfl rfl (by decide)) ?_;refine zx ?_;refine zj (zb ?_);refine w_o (a:= .ptr 3 0) ?_;refine w_o (a:= .u ((x1.k:Nat):Int)) ?_;refine zar ?_;refine w_o (a:= .b (((x1.k:Nat):Int)==k)) ?_;refine zar ?_;refine zz h (fun hc2 h=> ?_) (fun hc2 h=> ?_);refine zfn hc2 rfl ?_;refine zb (k0:=0) (id:=7) ?_;refine zar ?_;refine w_o (a:= .ptr 3 7) ?_;refine w_o (a:= .list (length (x1.l:List Tr)) (Enc.cellsL (x1.l:List Tr)) .none) ?_;obtain⟨g2,h⟩:=ze h;refine zhn (a:=(zbt (length ((s1.1++x1.l):List Tr)) (Enc.cellsL ((s1.1++x1.l):List Tr)))) (U'':=(zbu [(29,(Enc.cells (a:Tr))),(29,(Enc.cells (b:Tr))),(29,zN),(29,(Enc.cells (x1:Tr)))] 29 (length ((s1.1++x1.l):List Tr)) 8)) rfl rfl rfl (zkk rfl rfl rfl rfl (zfp (α:=Tr) (bs:=[(29,(Enc.cells (a:Tr))),(29,(Enc.cells (b:Tr))),(29,zN),(29,(Enc.cells (x1:Tr)))]) (a:=s1.1) (b:=x1.l) g2 rfl rfl rfl rfl rfl ⟨rfl,by decide⟩)) (by dsimp only[zah,List.set]) rfl ?_;refine zar ?_;refine zc (o:=or2) ((s1.1++x1.l)) h ?_;exact zce (bl 53 9006649498959359) 3 (by kernel_rfl) (le_of_ble_eq_true rfl) (zbg (zy (zn _ _ (Enc.clo _)) (zy (zn _ _ (Enc.clo _)) (zy rfl rfl)))) (by dsimp only[zap,zbi,foldl,List.set];exact(za rfl (za rfl (za rfl (za rfl (za rfl (za rfl (za (by decide) (za (zdn (Enc.cloL _)) (za rfl (za rfl (za rfl (za rfl (za (zbc (Enc.cloL _)) (by kernel_rfl))))))))))))))) (by kernel_rfl);refine zfs hc2 rfl ?_;refine zj (zb ?_);refine zar ?_;refine w_o (a:= .b (k==3)) ?_;refine zz h (fun hc3 h=> ?_) (fun hc3 h=> ?_);refine w_o (a:= .b true) (h:=zaz (zhj rfl hc3)) ?_;refine zao rfl rfl ?_;refine w_o (a:= .ptr 3 0) ?_;refine zao rfl rfl ?_;refine w_o (a:= .u ((x1.k:Nat):Int)) ?_;refine zao rfl rfl ?_;iterate 2 refine w_o (a:= .b (((x1.k:Nat):Int)==1)) ?_
 refine zar ?_;refine zz h (fun hc4 h=> ?_) (fun hc4 h=> ?_);refine zfn hc4 rfl ?_;refine zc (o:=or2) (s1.1) h ?_;exact zce (bl 53 9006649498959359) 3 (by kernel_rfl) (le_of_ble_eq_true rfl) (zbg (zy (zn _ _ (Enc.clo _)) (zy (zn _ _ (Enc.clo _)) (zy rfl rfl)))) (by dsimp only[zap,zbi,foldl,List.set];exact(za rfl (za rfl (za rfl (za rfl (za rfl (za rfl (za (by decide) (za (zdn (Enc.cloL _)) (za rfl (za rfl (za rfl (za rfl (za (zbc (Enc.cloL _)) (by kernel_rfl))))))))))))))) (by kernel_rfl);refine zfs hc4 rfl ?_;refine zb (k0:=0) (id:=5) ?_;refine zar ?_;refine w_o (a:= .agg (Enc.cells (x1:Tr))) ?_;refine w_o (a:= .list (length ([x1]:List Tr)) (Enc.cellsL ([x1]:List Tr)) .full) (h:=zaz (zho (α:=Tr) (l:=[x1]) (cs:=Enc.cells (x1:Tr)++[]) rfl (by rw[Enc.cons,Enc.nil]))) ?_;obtain⟨g3,h⟩:=ze h;refine zhn (a:=(zbt (length ((s1.1++[x1]):List Tr)) (Enc.cellsL ((s1.1++[x1]):List Tr)))) (U'':=(zbu [(29,(Enc.cells (a:Tr))),(29,(Enc.cells (b:Tr))),(29,zN),(29,(Enc.cells (x1:Tr)))] 29 (length ((s1.1++[x1]):List Tr)) 8)) rfl rfl rfl (zkk rfl rfl rfl rfl (zfp (α:=Tr) (bs:=[(29,(Enc.cells (a:Tr))),(29,(Enc.cells (b:Tr))),(29,zN),(29,(Enc.cells (x1:Tr)))]) (a:=s1.1) (b:=[x1]) g3 rfl rfl rfl rfl rfl ⟨rfl,by decide⟩)) (by dsimp only[zah,List.set]) rfl ?_;refine zar ?_;refine zc (o:=or2) ((s1.1++[x1])) h ?_;exact zce (bl 53 9006649498959359) 3 (by kernel_rfl) (le_of_ble_eq_true rfl) (zbg (zy (zn _ _ (Enc.clo _)) (zy (zn _ _ (Enc.clo _)) (zy rfl rfl)))) (by dsimp only[zap,zbi,foldl,List.set];exact(za rfl (za rfl (za rfl (za rfl (za rfl (za rfl (za (by decide) (za (zdn (Enc.cloL _)) (za rfl (za rfl (za rfl (za rfl (za (zbc (Enc.cloL _)) (by kernel_rfl))))))))))))))) (by kernel_rfl);refine w_o (a:= .b false) (h:=zaz (zhj rfl hc3)) ?_;iterate 3 refine qkr ?_
 refine w_o (a:= .b false) ?_;refine zar ?_;refine zcd rfl ?_;refine zb (k0:=0) (id:=5) ?_;refine zar ?_;refine w_o (a:= .agg (Enc.cells (x1:Tr))) ?_;refine w_o (a:= .list (length ([x1]:List Tr)) (Enc.cellsL ([x1]:List Tr)) .full) (h:=zaz (zho (α:=Tr) (l:=[x1]) (cs:=Enc.cells (x1:Tr)++[]) rfl (by rw[Enc.cons,Enc.nil]))) ?_;obtain⟨g4,h⟩:=ze h;refine zhn (a:=(zbt (length ((s1.1++[x1]):List Tr)) (Enc.cellsL ((s1.1++[x1]):List Tr)))) (U'':=(zbu [(29,(Enc.cells (a:Tr))),(29,(Enc.cells (b:Tr))),(29,zN),(29,(Enc.cells (x1:Tr)))] 29 (length ((s1.1++[x1]):List Tr)) 8)) rfl rfl rfl (zkk rfl rfl rfl rfl (zfp (α:=Tr) (bs:=[(29,(Enc.cells (a:Tr))),(29,(Enc.cells (b:Tr))),(29,zN),(29,(Enc.cells (x1:Tr)))]) (a:=s1.1) (b:=[x1]) g4 rfl rfl rfl rfl rfl ⟨rfl,by decide⟩)) (by dsimp only[zah,List.set]) rfl ?_;refine zar ?_;refine zc (o:=or2) ((s1.1++[x1])) h ?_;exact zce (bl 53 9006649498959359) 3 (by kernel_rfl) (le_of_ble_eq_true rfl) (zbg (zy (zn _ _ (Enc.clo _)) (zy (zn _ _ (Enc.clo _)) (zy rfl rfl)))) (by dsimp only[zap,zbi,foldl,List.set];exact(za rfl (za rfl (za rfl (za rfl (za rfl (za rfl (za (by decide) (za (zdn (Enc.cloL _)) (za rfl (za rfl (za rfl (za rfl (za (zbc (Enc.cloL _)) (by kernel_rfl))))))))))))))) (by kernel_rfl);intro j2 h;refine zbv (by dsimp only[zap,zbi,foldl,List.set]) rfl ?_;refine zb (k0:=0) (id:=9) ?_;obtain⟨g5,h⟩:=ze h;refine w_o (a:= .i (s1.2+1)) (h:=zaz (qnt rfl rfl rfl rfl g5.1 g5.2)) ?_;refine zar ?_;refine zbf (p:=p1) (j2,(s1.2+1)) h ?_;exact zpl (bl 53 28865) (by kernel_rfl) (by kernel_rfl);refine zfs hc1 rfl ?_;refine zg h (fun h=> ?_);refine zc (o:=or1) (s1.1) h ?_;exact zpl (bl 53 193) (by kernel_rfl) (by kernel_rfl);intro j1 h;refine zbv (by dsimp only[zap,zbi,foldl,List.set]) rfl ?_;refine zj ?_;refine zj (zb ?_);refine zar ?_;refine w_o (a:= .i (length j1:Int)) (h:=zaz (qre (α:=Tr) (l:=j1) rfl rfl rfl rfl rfl rfl)) ?_;refine zx ?_;refine zj (zb ?_);refine w_o (a:= .b ((length j1:Int)==0)) ?_;refine zar ?_;refine zz h (fun hc5 h=> ?_) (fun hc5 h=> ?_);refine zfn hc5 rfl ?_;refine zj (zb ?_);refine zvz (Tr.mk 1 (0#256) 0 0 []) ?_;refine zqo (U'':=(zbu [(29,(Enc.cells (a:Tr))),(29,(Enc.cells (b:Tr))),(29,(Enc.cells ((Tr.mk 1 (0#256) 0 0 []):Tr)))] 29 (length (j1:List Tr)) 8)) (h:=zen (n:=8) rfl rfl rfl rfl rfl rfl rfl rfl (by decide)) ?_;exact zdz (fun(r:Tr)=>(.agg (Enc.cells (r:Tr)):AV)) h (a:= .agg (Enc.cells ((Tr.mk 1 (0#256) 0 0 []):Tr))) rfl (zas _ _ (zae (Enc.clo _))) (zcq (zae (Enc.clo _)));refine zfs hc5 rfl ?_;refine zj (zb ?_);refine w_o (a:= .b ((length j1:Int)==1)) ?_;refine zar ?_;refine zz h (fun hc6 h=> ?_) (fun hc6 h=> ?_);refine zfn hc6 rfl ?_;refine zj (zb ?_);refine zar ?_;obtain⟨g6,h⟩:=ze h;obtain⟨x2,hx2,h⟩:=zk h;refine w_o (a:= .iptr (Enc.cells x2++Enc.cellsL (List.drop (toNat (0:Int)+1) j1))) (h:=zaz (by rw[<-hx2];exact(q_idxO (α:=Tr) (l:=j1) g6 rfl rfl rfl rfl rfl))) ?_;refine w_o (a:= .agg (Enc.cells (x2:Tr))) ?_;refine zqo (U'':=(zbu [(29,(Enc.cells (a:Tr))),(29,(Enc.cells (b:Tr))),(29,(Enc.cells (x2:Tr)))] 29 (length (j1:List Tr)) 8)) (h:=zen (n:=8) rfl rfl rfl rfl rfl rfl rfl rfl (by decide)) ?_;exact zdz (fun(r:Tr)=>(.agg (Enc.cells (r:Tr)):AV)) h (a:= .agg (Enc.cells (x2:Tr))) rfl (zas _ _ (zae (Enc.clo _))) (zcq (zae (Enc.clo _)));refine zfs hc6 rfl ?_;refine zj (zb ?_);iterate 2 refine zar ?_
 rw[qep (l:=j1) (pos_of0 hc5)];obtain⟨g7,h⟩:=ze h;refine qol (.agg (Enc.cells ((Tr.mk (toNat k) (0#256) 0 0 j1):Tr))) (a0:=(qoz k (0#256) 0 0 j1 (.own 0))) rfl rfl rfl (by kernel_rfl) (zut g7 _ _ _ _ _) (by dsimp only[zah,List.set]) ?_;refine zqo (U'':=(zbu [(29,(Enc.cells (a:Tr))),(29,(Enc.cells (b:Tr))),(29,(Enc.cells ((Tr.mk (toNat k) (0#256) 0 0 j1):Tr)))] 29 (length (j1:List Tr)) 8)) (h:=zen (n:=8) rfl rfl rfl rfl rfl rfl rfl rfl (by decide)) ?_;exact zdz (fun(r:Tr)=>(.agg (Enc.cells (r:Tr)):AV)) h (a:= .agg (Enc.cells ((Tr.mk (toNat k) (0#256) 0 0 j1):Tr))) rfl (zas _ _ (zae (Enc.clo _))) (zcq (zae (Enc.clo _)))
end Go.Ab
namespace Go.Ab
open Go Go.RowKit Go.Fwd Go.Proofs
def z8i (fuel:Nat)(l:(List Sm)):Option Tr:=
 (zcu (τ:=(List Tr)) (chk (0<=0/\ 0<=(min (length l:Int) 25)/\ (min (length l:Int) 25)<=(length l:Int)) (zax (β:=Int×Int×Int×(List Tr)) (fun s1=>(bif (decide (s1.2.2.1<(length (sub l 0 (min (length l:Int) 25)):Int))) then(zcu (τ:=Int×Int×(List Tr)) (chk (0<=s1.2.2.1/\ s1.2.2.1<(length (sub l 0 (min (length l:Int) 25)):Int)) (zba (ix (sub l 0 (min (length l:Int) 25)) s1.2.2.1) (fun x1=>(bif (decide ((tmod ((x1.1:Nat):Int) 12)<4)) then(chk (0<=((x1.2.1:Nat):Int)/\ ((x1.2.1:Nat):Int)<256) (zba (lbU (toNat ((x1.2.1:Nat):Int))) (fun x2=>(chk (x2∈clsA) (zba (clsU x2) (fun x3=>(bif (isEmpty s1.2.2.2) then(chk (0<(length [x3])/\ (length [x3])*80<=140737488355328) (some (inl (s1.1,s1.2.1,[x3])))) else(chk (length s1.2.2.2=(length s1.2.2.2)/\ 0<(length s1.2.2.2)/\ 0<length [x3]/\ ((length s1.2.2.2)+length [x3])*80<=140737488355328) (some (inl (s1.1,s1.2.1,(s1.2.2.2++[x3])))))))))))) else(bif ((tmod ((x1.1:Nat):Int) 12)==4) then(bif (isEmpty s1.2.2.2) then(chk (0<(length [(Tr.mk 1 (0#256) 0 0 [])])/\ (length [(Tr.mk 1 (0#256) 0 0 [])])*80<=140737488355328) (some (inl (s1.1,s1.2.1,[(Tr.mk 1 (0#256) 0 0 [])])))) else(chk (length s1.2.2.2=(length s1.2.2.2)/\ 0<(length s1.2.2.2)/\ 0<length [(Tr.mk 1 (0#256) 0 0 [])]/\ ((length s1.2.2.2)+length [(Tr.mk 1 (0#256) 0 0 [])])*80<=140737488355328) (some (inl (s1.1,s1.2.1,(s1.2.2.2++[(Tr.mk 1 (0#256) 0 0 [])])))))) else(zcu (τ:=Bool) (bif (decide ((tmod ((x1.1:Nat):Int) 12)<7)) then(some (inl ((decide ((length s1.2.2.2:Int)>1))))) else(some (inl (false)))) (fun j3=>(bif j3 then(bif (isEmpty s1.2.2.2) then(chk (I64 ((length s1.2.2.2:Int)-2)) (chk (I64 ((length s1.2.2.2:Int)-2)) none)) else(chk (I64 ((length s1.2.2.2:Int)-2)) (chk (I64 ((length s1.2.2.2:Int)-2)) (bif (((length s1.2.2.2:Int)-2)==0) then(chk (I64 ((length s1.2.2.2:Int)-2)) (chk (0<=((length s1.2.2.2:Int)-2)/\ ((length s1.2.2.2:Int)-2)<(((length s1.2.2.2):Nat):Int)) (chk (0<=((length s1.2.2.2:Int)-2)/\ ((length s1.2.2.2:Int)-2)<(length s1.2.2.2:Int)) (zba (ix s1.2.2.2 ((length s1.2.2.2:Int)-2)) (fun x4=>(chk (I64 ((length s1.2.2.2:Int)-1)) (chk (0<=((length s1.2.2.2:Int)-1)/\ ((length s1.2.2.2:Int)-1)<(((length s1.2.2.2):Nat):Int)) (chk (0<=((length s1.2.2.2:Int)-1)/\ ((length s1.2.2.2:Int)-1)<(length s1.2.2.2:Int)) (zba (ix s1.2.2.2 ((length s1.2.2.2:Int)-1)) (fun x5=>(zag (zit fuel 3 x4 x5) (fun x6=>(chk (0<(length [x6])/\ (length [x6])*80<=140737488355328) (some (inl (s1.1,s1.2.1,[x6])))))))))))))))) else(chk (0<((length s1.2.2.2:Int)-2)/\ ((length s1.2.2.2:Int)-2)<=(((length s1.2.2.2):Nat):Int)) (chk (I64 ((length s1.2.2.2:Int)-2)) (chk (0<=((length s1.2.2.2:Int)-2)/\ ((length s1.2.2.2:Int)-2)<(((length s1.2.2.2):Nat):Int)) (chk (0<=((length s1.2.2.2:Int)-2)/\ ((length s1.2.2.2:Int)-2)<(length s1.2.2.2:Int)) (zba (ix s1.2.2.2 ((length s1.2.2.2:Int)-2)) (fun x7=>(chk (I64 ((length s1.2.2.2:Int)-1)) (chk (0<=((length s1.2.2.2:Int)-1)/\ ((length s1.2.2.2:Int)-1)<(((length s1.2.2.2):Nat):Int)) (chk (0<=((length s1.2.2.2:Int)-1)/\ ((length s1.2.2.2:Int)-1)<(length s1.2.2.2:Int)) (zba (ix s1.2.2.2 ((length s1.2.2.2:Int)-1)) (fun x8=>(zag (zit fuel 3 x7 x8) (fun x9=>(chk ((toNat ((length s1.2.2.2:Int)-2))<=length s1.2.2.2/\ 0<length [x9]/\ ((toNat ((length s1.2.2.2:Int)-2))+length [x9])*80<=140737488355328) (some (inl (s1.1,s1.2.1,(List.take (toNat ((length s1.2.2.2:Int)-2)) s1.2.2.2++[x9])))))))))))))))))))))) else(zcu (τ:=Bool) (bif (decide ((tmod ((x1.1:Nat):Int) 12)<9)) then(some (inl ((decide ((length s1.2.2.2:Int)>1))))) else(some (inl (false)))) (fun j4=>(bif j4 then(bif (isEmpty s1.2.2.2) then(chk (I64 ((length s1.2.2.2:Int)-2)) (chk (I64 ((length s1.2.2.2:Int)-2)) none)) else(chk (I64 ((length s1.2.2.2:Int)-2)) (chk (I64 ((length s1.2.2.2:Int)-2)) (bif (((length s1.2.2.2:Int)-2)==0) then(chk (I64 ((length s1.2.2.2:Int)-2)) (chk (0<=((length s1.2.2.2:Int)-2)/\ ((length s1.2.2.2:Int)-2)<(((length s1.2.2.2):Nat):Int)) (chk (0<=((length s1.2.2.2:Int)-2)/\ ((length s1.2.2.2:Int)-2)<(length s1.2.2.2:Int)) (zba (ix s1.2.2.2 ((length s1.2.2.2:Int)-2)) (fun x10=>(chk (I64 ((length s1.2.2.2:Int)-1)) (chk (0<=((length s1.2.2.2:Int)-1)/\ ((length s1.2.2.2:Int)-1)<(((length s1.2.2.2):Nat):Int)) (chk (0<=((length s1.2.2.2:Int)-1)/\ ((length s1.2.2.2:Int)-1)<(length s1.2.2.2:Int)) (zba (ix s1.2.2.2 ((length s1.2.2.2:Int)-1)) (fun x11=>(zag (zit fuel 4 x10 x11) (fun x12=>(chk (0<(length [x12])/\ (length [x12])*80<=140737488355328) (some (inl (s1.1,s1.2.1,[x12])))))))))))))))) else(chk (0<((length s1.2.2.2:Int)-2)/\ ((length s1.2.2.2:Int)-2)<=(((length s1.2.2.2):Nat):Int)) (chk (I64 ((length s1.2.2.2:Int)-2)) (chk (0<=((length s1.2.2.2:Int)-2)/\ ((length s1.2.2.2:Int)-2)<(((length s1.2.2.2):Nat):Int)) (chk (0<=((length s1.2.2.2:Int)-2)/\ ((length s1.2.2.2:Int)-2)<(length s1.2.2.2:Int)) (zba (ix s1.2.2.2 ((length s1.2.2.2:Int)-2)) (fun x13=>(chk (I64 ((length s1.2.2.2:Int)-1)) (chk (0<=((length s1.2.2.2:Int)-1)/\ ((length s1.2.2.2:Int)-1)<(((length s1.2.2.2):Nat):Int)) (chk (0<=((length s1.2.2.2:Int)-1)/\ ((length s1.2.2.2:Int)-1)<(length s1.2.2.2:Int)) (zba (ix s1.2.2.2 ((length s1.2.2.2:Int)-1)) (fun x14=>(zag (zit fuel 4 x13 x14) (fun x15=>(chk ((toNat ((length s1.2.2.2:Int)-2))<=length s1.2.2.2/\ 0<length [x15]/\ ((toNat ((length s1.2.2.2:Int)-2))+length [x15])*80<=140737488355328) (some (inl (s1.1,s1.2.1,(List.take (toNat ((length s1.2.2.2:Int)-2)) s1.2.2.2++[x15])))))))))))))))))))))) else(zcu (τ:=Bool) (bif ((tmod ((x1.1:Nat):Int) 12)==9) then(bif (decide ((length s1.2.2.2:Int)>0)) then(some (inl ((decide (s1.2.1<9))))) else(some (inl (false)))) else(some (inl (false)))) (fun j5=>(bif j5 then(bif (isEmpty s1.2.2.2) then(chk (I64 ((length s1.2.2.2:Int)-1)) (chk (I64 ((length s1.2.2.2:Int)-1)) none)) else(chk (I64 ((length s1.2.2.2:Int)-1)) (chk (I64 ((length s1.2.2.2:Int)-1)) (chk (0<=((length s1.2.2.2:Int)-1)/\ ((length s1.2.2.2:Int)-1)<(((length s1.2.2.2):Nat):Int)) (chk (0<=((length s1.2.2.2:Int)-1)/\ ((length s1.2.2.2:Int)-1)<(length s1.2.2.2:Int)) (zba (ix s1.2.2.2 ((length s1.2.2.2:Int)-1)) (fun x16=>(zag (z0j x16) (fun x17=>(chk (0<=((length s1.2.2.2:Int)-1)/\ ((length s1.2.2.2:Int)-1)<(((length s1.2.2.2):Nat):Int)) (chk (0<=((length s1.2.2.2:Int)-1)/\ ((length s1.2.2.2:Int)-1)<(length s1.2.2.2:Int)) (zba (ix s1.2.2.2 ((length s1.2.2.2:Int)-1)) (fun x18=>(chk (I64 (s1.2.1+1)) (some (inl (s1.1,(s1.2.1+1),(List.set s1.2.2.2 (toNat ((length s1.2.2.2:Int)-1)) x17)))))))))))))))))) else(bif (isEmpty s1.2.2.2) then(zcu (τ:=Unit) (bif (decide ((tmod ((x1.1:Nat):Int) 12)>9)) then(bif (decide ((length s1.2.2.2:Int)>0)) then(chk (I64 ((length s1.2.2.2:Int)-1)) none) else(some (inl ()))) else(some (inl ()))) (fun j6=>(some (inl (s1.1,s1.2.1,s1.2.2.2))))) else(zcu (τ:=Bool) (bif (decide ((tmod ((x1.1:Nat):Int) 12)>9)) then(bif (decide ((length s1.2.2.2:Int)>0)) then(chk (I64 ((length s1.2.2.2:Int)-1)) (chk (0<=((length s1.2.2.2:Int)-1)/\ ((length s1.2.2.2:Int)-1)<(((length s1.2.2.2):Nat):Int)) (chk (0<=((length s1.2.2.2:Int)-1)/\ ((length s1.2.2.2:Int)-1)<(length s1.2.2.2:Int)) (zba (ix s1.2.2.2 ((length s1.2.2.2:Int)-1)) (fun x19=>(some (inl ((((x19.k:Nat):Int) !=1))))))))) else(some (inl (false)))) else(some (inl (false)))) (fun j7=>(bif j7 then(chk (I64 (tmod ((x1.2.1:Nat):Int) 3)) (chk (I64 (tmod ((x1.2.2:Nat):Int) 4)) (zcu (τ:=Int) (zcu (τ:=Bool) (bif (decide ((tmod ((x1.2.2:Nat):Int) 4)<(tmod ((x1.2.1:Nat):Int) 3))) then(some (inl (true))) else(bif ((tmod ((x1.2.2:Nat):Int) 4)==0) then(some (inl (true))) else(bif ((tmod ((x1.2.1:Nat):Int) 3)==1) then(some (inl (((tmod ((x1.2.2:Nat):Int) 4)==1)))) else(some (inl (false)))))) (fun j9=>(bif j9 then(some (inl ((-1)))) else(some (inl ((tmod ((x1.2.2:Nat):Int) 4))))))) (fun j8=>(chk (I64 (s1.1*(max (max (tmod ((x1.2.1:Nat):Int) 3) j8) (1:Int)))) (bif (decide ((s1.1*(max (max (tmod ((x1.2.1:Nat):Int) 3) j8) (1:Int)))<=16)) then(chk (I64 (s1.1*(max (max (tmod ((x1.2.1:Nat):Int) 3) j8) (1:Int)))) (chk (I64 ((length s1.2.2.2:Int)-1)) (chk (I64 ((length s1.2.2.2:Int)-1)) (chk (0<=((length s1.2.2.2:Int)-1)/\ ((length s1.2.2.2:Int)-1)<(((length s1.2.2.2):Nat):Int)) (chk (0<=((length s1.2.2.2:Int)-1)/\ ((length s1.2.2.2:Int)-1)<(length s1.2.2.2:Int)) (zba (ix s1.2.2.2 ((length s1.2.2.2:Int)-1)) (fun x20=>(zag (qfr x20 (tmod ((x1.2.1:Nat):Int) 3) j8) (fun x21=>(chk (0<=((length s1.2.2.2:Int)-1)/\ ((length s1.2.2.2:Int)-1)<(((length s1.2.2.2):Nat):Int)) (chk (0<=((length s1.2.2.2:Int)-1)/\ ((length s1.2.2.2:Int)-1)<(length s1.2.2.2:Int)) (zba (ix s1.2.2.2 ((length s1.2.2.2:Int)-1)) (fun x22=>(some (inl ((s1.1*(max (max (tmod ((x1.2.1:Nat):Int) 3) j8) (1:Int))),s1.2.1,(List.set s1.2.2.2 (toNat ((length s1.2.2.2:Int)-1)) x21))))))))))))))))) else(some (inl (s1.1,s1.2.1,s1.2.2.2))))))))) else(some (inl (s1.1,s1.2.1,s1.2.2.2))))))))))))))))))))) (fun j2=>(chk (I64 (s1.2.2.1+1)) (some (inl (j2.1,j2.2.1,(s1.2.2.1+1),j2.2.2)))))) else(some (inr (inl (s1.2.2.2)))))) fuel (1,0,0,([]:List Tr)))) (fun j1=>(zcu (τ:=Unit) (bif (isEmpty j1) then(bif ((0:Int)==0) then(chk (([97]:List UInt8)∈clsA) (zba (clsU ([97]:List UInt8)) (fun x23=>(some (inr x23))))) else(some (inl ()))) else(bif ((((length j1):Nat):Int)==0) then(chk (([97]:List UInt8)∈clsA) (zba (clsU ([97]:List UInt8)) (fun x24=>(some (inr x24))))) else(some (inl ())))) (fun j10=>(bif (isEmpty j1) then none else(chk (0<=(0:Int)/\ (0:Int)<(((length j1):Nat):Int)) (chk (0<=(0:Int)/\ (0:Int)<(length j1:Int)) (zba (ix j1 (0:Int)) (fun x25=>(zcu (τ:=Tr) (bif ((1:Int)==(((length j1):Nat):Int)) then(chk (0<=(1:Int)) (zax (β:=Int) (fun s2=>(bif (decide (s2<0)) then none else(some (inr (inl (x25)))))) fuel (0))) else(chk (0<=(1:Int)/\ (1:Int)<(((length j1):Nat):Int)) (zax (β:=Int×Tr) (fun s3=>(bif (decide (s3.1<((((length j1)-toNat 1):Nat):Int))) then(chk (0<=s3.1/\ s3.1<((((length j1)-toNat 1):Nat):Int)) (chk (0<=(((toNat 1:Nat):Int)+s3.1)/\ (((toNat 1:Nat):Int)+s3.1)<(length j1:Int)) (zba (ix j1 (((toNat 1:Nat):Int)+s3.1)) (fun x26=>(zag (zit fuel 4 s3.2 x26) (fun x27=>(chk (I64 (s3.1+1)) (some (inl ((s3.1+1),x27)))))))))) else(some (inr (inl (s3.2)))))) fuel (0,x25)))) (fun j11=>(some j11))))))))))))
theorem ent8:Ent prog 8:=enters_of Tryz.func8 (by kernel_rfl) rfl
theorem made_sh (fuel:Nat)(l:(List Sm))(r:Tr)(h:z8i fuel l=some r):Pure (ITP Tryz.prog) Tryz.prog 8 [.L (l:List Sm)] (.A (r:Tr)):=by
 unfold z8i at h;refine zbl 203 mix Tryz.func8 ent8 ?_;refine zj (zb ?_);refine zdf zN ?_;refine zgq (zb ?_);refine w_o (a:= .list 0 [] .full) ?_;refine qrg 204 [(0,.L (l:List Sm)),(2,.ptr 0 0),(3,(z0s 1 (List.length ([]:List Tr)) 8))] (U':=(.B [(29,zN),(29,(Enc.cellsL (([]:List Tr):List Tr)))])) (z9n (bl 204 25711008708143844408671393477458601640355247900524685364822015) 0 rfl rfl rfl) ?_;refine zbb [.v (.i 1),.v (.i 0)] ?_;refine zan h (bz 0 204 25711008708143844408671393477458601640355247900524685364822011) (fun j1=>[(3,(z0s 1 (List.length j1) 8))]) (fun j1=>(.B [(29,zN),(29,(Enc.cellsL (j1:List Tr)))])) ?_ ?_;intro or1 h hr1;refine zj (zb ?_);iterate 2 refine zar ?_
 refine w_o (a:= .i (List.length l:Int)) ?_;refine w_o (a:= .i (min (List.length l:Int) 25)) (h:=zaz (q_min rfl rfl rfl rfl rfl)) ?_;obtain⟨g1,h⟩:=ze h;refine qol (.L ((sub l 0 (min (List.length l:Int) 25)):List Sm)) rfl rfl rfl (q_sub_H (α:=Sm) (l:=l) g1 rfl rfl rfl rfl rfl) (qjy _ _ _) (by dsimp only[zah,List.set]) ?_;refine w_r [.v (.i (List.length (sub l 0 (min (List.length l:Int) 25)):Int)),.v (.i 0)] ?_;refine zx ?_;refine zcf h (bz 0 204 25711008708143844408671393477458601640355247900524685361676283) (fun s1=>[(4,.i s1.1),(5,.i s1.2.1),(22,.i s1.2.2.1),(3,(z0s 1 (List.length s1.2.2.2) 8))]) (fun s1=>(.B [(29,zN),(29,(Enc.cellsL (s1.2.2.2:List Tr)))])) ?_ ?_;exact zbe (bl 204 7340092);intro s1 p1 h;refine zdi ?_;refine zbb [.v (.b (decide (s1.2.2.1<(List.length (sub l 0 (min (List.length l:Int) 25)):Int))))] ?_;refine zj ?_;refine zbn h (fun hc1 h=> ?_) (fun hc1 h=> ?_);refine zan h (bz 0 184 24519928653854221733733552434404946937899825954929254328) (fun j2=>[(4,.i j2.1),(5,.i j2.2.1),(3,(z0s 1 (List.length j2.2.2) 8))]) (fun j2=>(.B [(29,zN),(29,(Enc.cellsL (j2.2.2:List Tr)))])) ?_ ?_;intro or2 h hr2;refine zx ?_;refine zj (zb ?_);obtain⟨g2,h⟩:=ze h;obtain⟨x1,hx1,h⟩:=zk h;refine z4u hx1 g2 ?_;refine w_o (a:= .A (x1:Sm)) ?_;refine zdf (Enc.cells ((0,0,0):Sm)) ?_;refine zes 3 (Enc.cells (x1:Sm)) ?_;refine zj (zb ?_);refine zar ?_;refine w_o (a:= .i (List.length s1.2.2.2:Int)) (h:=zaz (q_lenP (α:=Tr) (l:=s1.2.2.2) rfl rfl rfl rfl rfl rfl)) ?_;refine zar ?_;refine zbb [.v (.ptr 2 0),.v (.u ((x1.1:Nat):Int)),.v (.u (Int.tmod ((x1.1:Nat):Int) 12))] ?_;refine zar ?_;refine zx ?_;refine zj (zb ?_);refine zar ?_;refine w_o (a:= .b (decide ((Int.tmod ((x1.1:Nat):Int) 12)<4))) ?_;refine zar ?_;refine zbn h (fun hc2 h=> ?_) (fun hc2 h=> ?_);refine zb (k0:=0) (id:=9) ?_;refine zar ?_;refine w_r [.v (.ptr 2 1),.v (.u ((x1.2.1:Nat):Int))] ?_;obtain⟨g3,h⟩:=ze h;obtain⟨x2,hx2,h⟩:=zk h;refine zch (args':=[.u ((x1.2.1:Nat):Int)]) (r:= .s x2) (by rw[<-hx2];exact(qix ((x1.2.1:Nat):Int) g3)) ?_;obtain⟨g4,h⟩:=ze h;obtain⟨x3,hx3,h⟩:=zk h;refine zch (args':=[.s x2]) (r:= .A (x3:Tr)) (by rw[<-hx3];exact(zup x2 g4)) ?_;refine w_o (a:= .F ([x3]:List Tr)) (h:=zaz (zho (α:=Tr) (l:=[x3]) (cs:=Enc.cells (x3:Tr)++[]) rfl (by rw[Enc.cons,Enc.nil]))) ?_;refine zz h (fun hc3 h=> ?_) (fun hc3 h=> ?_);rw[zgh (b:=1) hc3];obtain⟨g5,h⟩:=ze h;refine zsy (a:= .bsl 3 0 (List.length [x3]) 8 false) (U'':=(.B [(29,zN),(29,(Enc.cellsL (s1.2.2.2:List Tr))),(61,(Enc.cells (x1:Sm))),(29,(Enc.cellsL ([x3]:List Tr)))])) rfl rfl rfl (zqg (α:=Tr) (r:=[x3]) (by':=80) g5 rfl rfl rfl rfl rfl rfl rfl rfl rfl rfl rfl ⟨rfl,by decide⟩) (by dsimp only[zah,List.set]) rfl ?_;refine zar ?_;refine zc (o:=or2) (s1.1,s1.2.1,[x3]) h ?_;exact(wmp (bl 204 25710984188215190554449659743906167235408310000698730435567743) 0 [] [0,3] 1 (Nat.le_refl _) (zev (zd rfl rfl (zd rfl (zad _ _ _ (Enc.cloL _)) zab)) rfl));rw[zgy (b:=1) hc3];obtain⟨g6,h⟩:=ze h;refine zsy (a:= .bsl 3 0 ((List.length s1.2.2.2)+List.length [x3]) 8 false) (U'':=(.B [(29,zN),(29,(Enc.cellsL (([]:List Tr):List Tr))),(61,(Enc.cells (x1:Sm))),(29,(Enc.cellsL ((s1.2.2.2++[x3]):List Tr)))])) rfl rfl rfl (z7f (α:=Tr) (l:=s1.2.2.2) (r:=[x3]) (by':=80) g6 rfl rfl rfl rfl rfl rfl rfl rfl rfl rfl rfl rfl ⟨rfl,by decide⟩) (by dsimp only[zah,List.set]) rfl ?_;refine zar ?_;refine zc (o:=or2) (s1.1,s1.2.1,(s1.2.2.2++[x3])) h ?_;exact(wmp (bl 204 25710984188215190554449659743906167235408310000698730435567743) 0 [] [0,3] 1 (Nat.le_refl _) (zev (zd rfl rfl (zd rfl (zad _ _ _ (Enc.cloL _)) zab)) rfl));refine zj (zb ?_);refine zar ?_;refine w_o (a:= .b ((Int.tmod ((x1.1:Nat):Int) 12)==4)) ?_;refine zar ?_;refine zbn h (fun hc4 h=> ?_) (fun hc4 h=> ?_);refine zb (k0:=0) (id:=11) ?_;refine zar ?_;refine zvz (Tr.mk 1 (0#256) 0 0 []) ?_;refine w_o (a:= .F ([(Tr.mk 1 (0#256) 0 0 [])]:List Tr)) (h:=zaz (zho (α:=Tr) (l:=[(Tr.mk 1 (0#256) 0 0 [])]) (cs:=Enc.cells ((Tr.mk 1 (0#256) 0 0 []):Tr)++[]) rfl (by rw[Enc.cons,Enc.nil]))) ?_;refine zz h (fun hc5 h=> ?_) (fun hc5 h=> ?_);rw[zgh (b:=1) hc5];obtain⟨g7,h⟩:=ze h;refine zsy (a:= .bsl 3 0 (List.length [(Tr.mk 1 (0#256) 0 0 [])]) 8 false) (U'':=(.B [(29,zN),(29,(Enc.cellsL (s1.2.2.2:List Tr))),(61,(Enc.cells (x1:Sm))),(29,(Enc.cellsL ([(Tr.mk 1 (0#256) 0 0 [])]:List Tr)))])) rfl rfl rfl (zqg (α:=Tr) (r:=[(Tr.mk 1 (0#256) 0 0 [])]) (by':=80) g7 rfl rfl rfl rfl rfl rfl rfl rfl rfl rfl rfl ⟨rfl,by decide⟩) (by dsimp only[zah,List.set]) rfl ?_;refine zar ?_;refine zc (o:=or2) (s1.1,s1.2.1,[(Tr.mk 1 (0#256) 0 0 [])]) h ?_;exact(wmp (bl 204 25710984188215190554449659743906167235408310000698730435567743) 0 [] [0,3] 1 (Nat.le_refl _) (zev (zd rfl rfl (zd rfl (zad _ _ _ (Enc.cloL _)) zab)) rfl));rw[zgy (b:=1) hc5];obtain⟨g8,h⟩:=ze h;refine zsy (a:= .bsl 3 0 ((List.length s1.2.2.2)+List.length [(Tr.mk 1 (0#256) 0 0 [])]) 8 false) (U'':=(.B [(29,zN),(29,(Enc.cellsL (([]:List Tr):List Tr))),(61,(Enc.cells (x1:Sm))),(29,(Enc.cellsL ((s1.2.2.2++[(Tr.mk 1 (0#256) 0 0 [])]):List Tr)))])) rfl rfl rfl (z7f (α:=Tr) (l:=s1.2.2.2) (r:=[(Tr.mk 1 (0#256) 0 0 [])]) (by':=80) g8 rfl rfl rfl rfl rfl rfl rfl rfl rfl rfl rfl rfl ⟨rfl,by decide⟩) (by dsimp only[zah,List.set]) rfl ?_;refine zar ?_;refine zc (o:=or2) (s1.1,s1.2.1,(s1.2.2.2++[(Tr.mk 1 (0#256) 0 0 [])])) h ?_;exact(wmp (bl 204 25710984188215190554449659743906167235408310000698730435567743) 0 [] [0,3] 1 (Nat.le_refl _) (zev (zd rfl rfl (zd rfl (zad _ _ _ (Enc.cloL _)) zab)) rfl));refine zan h (bz 0 55 35762732376522752) (fun j3=>[(48,.b j3)]) (fun j3=>(.B [(29,zN),(29,(Enc.cellsL (s1.2.2.2:List Tr))),(61,(Enc.cells (x1:Sm)))])) ?_ ?_;intro or3 h hr3;refine zb (k0:=0) (id:=12) ?_;refine zar ?_;refine w_o (a:= .b (decide ((Int.tmod ((x1.1:Nat):Int) 12)<7))) ?_;refine zz h (fun hc6 h=> ?_) (fun hc6 h=> ?_);refine zai hc6 ?_;refine zao rfl rfl ?_;refine zar ?_;refine w_r [.v (.b (decide ((List.length s1.2.2.2:Int)>1))),.v (.b (decide ((List.length s1.2.2.2:Int)>1)))] ?_;refine zar ?_;refine zc (o:=or3) ((decide ((List.length s1.2.2.2:Int)>1))) h ?_;exact zbe (bl 204 25711008708143844408671393477458601640355247865043427965009919);refine zai hc6 ?_;refine w_r [.p,.p,.v (.b false)] ?_;refine zar ?_;refine zc (o:=or3) (false) h ?_;exact zbe (bl 204 25711008708143844408671393477458601640355247865043427965009919);intro j3 h;refine zdi ?_;refine zbn h (fun hc7 h=> ?_) (fun hc7 h=> ?_);refine zz h (fun hc8 h=> ?_) (fun hc8 h=> ?_);rw[zgh (b:=1) hc8];refine zhe (k0:=0) (id:=13) 18 (by kernel_rfl) (by kernel_rfl) ?_;iterate 2 refine zhv ?_
 obtain⟨g9,h⟩:=ze h;refine h_o (a:= .i ((List.length s1.2.2.2:Int)-2)) (h:=zju rfl rfl rfl rfl g9.1 g9.2) ?_;refine zhv ?_;obtain⟨g10,h⟩:=ze h;refine h_o (a:= .i ((List.length s1.2.2.2:Int)-2)) (h:=zju rfl rfl rfl rfl g10.1 g10.2) ?_;cases h;rw[zgy (b:=1) hc8];refine zhe (k0:=0) (id:=13) 18 (by kernel_rfl) (by kernel_rfl) ?_;iterate 2 refine zhv ?_
 obtain⟨g11,h⟩:=ze h;refine h_o (a:= .i ((List.length s1.2.2.2:Int)-2)) (h:=zju rfl rfl rfl rfl g11.1 g11.2) ?_;refine zhv ?_;obtain⟨g12,h⟩:=ze h;refine h_o (a:= .i ((List.length s1.2.2.2:Int)-2)) (h:=zju rfl rfl rfl rfl g12.1 g12.2) ?_;refine zz h (fun hc9 h=> ?_) (fun hc9 h=> ?_);refine h_o (a:= .list 0 [] .full) (h:=qhe (α:=Tr) (eq_of_beq hc9) rfl rfl rfl rfl rfl rfl) ?_;iterate 2 refine zhv ?_
 obtain⟨g13,h⟩:=ze h;refine h_o (a:= .i ((List.length s1.2.2.2:Int)-2)) (h:=zju rfl rfl rfl rfl g13.1 g13.2) ?_;obtain⟨g14,h⟩:=ze h;refine h_o (a:= .ptr 1 (0+Int.toNat ((List.length s1.2.2.2:Int)-2)*8)) (h:=zhi (α:=Tr) g14 rfl rfl rfl rfl rfl) ?_;obtain⟨g15,h⟩:=ze h;obtain⟨x4,hx4,h⟩:=zk h;refine h_o (a:= .A (x4:Tr)) (h:=by rw[<-hx4];exact(zgj (α:=Tr) (l:=s1.2.2.2) (i:=((List.length s1.2.2.2:Int)-2)) (k:=0) (te:=29) g15 rfl rfl rfl rfl)) ?_;iterate 2 refine zhv ?_
 obtain⟨g16,h⟩:=ze h;refine h_o (a:= .i ((List.length s1.2.2.2:Int)-1)) (h:=zju rfl rfl rfl rfl g16.1 g16.2) ?_;obtain⟨g17,h⟩:=ze h;refine h_o (a:= .ptr 1 (0+Int.toNat ((List.length s1.2.2.2:Int)-1)*8)) (h:=zhi (α:=Tr) g17 rfl rfl rfl rfl rfl) ?_;obtain⟨g18,h⟩:=ze h;obtain⟨x5,hx5,h⟩:=zk h;refine h_o (a:= .A (x5:Tr)) (h:=by rw[<-hx5];exact(zgj (α:=Tr) (l:=s1.2.2.2) (i:=((List.length s1.2.2.2:Int)-1)) (k:=0) (te:=29) g18 rfl rfl rfl rfl)) ?_;obtain⟨x6,hx6,h⟩:=zr h;refine qcf (zpx fuel 3 x4 x5 x6 hx6) ?_;refine h_o (a:= .F ([x6]:List Tr)) (h:=zho (α:=Tr) (l:=[x6]) (cs:=Enc.cells (x6:Tr)++[]) rfl (by rw[Enc.cons,Enc.nil])) ?_;refine ziq ?_;obtain⟨g19,h⟩:=ze h;refine zsy (a:= .bsl 3 0 (List.length [x6]) 8 false) (U'':=(.B [(29,zN),(29,(Enc.cellsL (s1.2.2.2:List Tr))),(61,(Enc.cells (x1:Sm))),(29,(Enc.cellsL ([x6]:List Tr)))])) rfl rfl rfl (zqg (α:=Tr) (r:=[x6]) (by':=80) g19 rfl rfl rfl rfl rfl rfl rfl rfl rfl rfl rfl ⟨rfl,by decide⟩) (by dsimp only[zah,List.set]) rfl ?_;refine zar ?_;refine zc (o:=or2) (s1.1,s1.2.1,[x6]) h ?_;exact(wmp (bl 204 25710984188215190554449659743906167235408310000698730435567743) 0 [] [0,3] 1 (Nat.le_refl _) (zev (zd rfl rfl (zd rfl (zad _ _ _ (Enc.cloL _)) zab)) rfl));obtain⟨g20,h⟩:=ze h;refine h_o (a:= .bsl 1 0 (Int.toNat ((List.length s1.2.2.2:Int)-2)) 8 true) (h:=qqe (α:=Tr) g20 rfl rfl rfl rfl rfl rfl) ?_;iterate 2 refine zhv ?_
 obtain⟨g21,h⟩:=ze h;refine h_o (a:= .i ((List.length s1.2.2.2:Int)-2)) (h:=zju rfl rfl rfl rfl g21.1 g21.2) ?_;obtain⟨g22,h⟩:=ze h;refine h_o (a:= .ptr 1 (0+Int.toNat ((List.length s1.2.2.2:Int)-2)*8)) (h:=zhi (α:=Tr) g22 rfl rfl rfl rfl rfl) ?_;obtain⟨g23,h⟩:=ze h;obtain⟨x7,hx7,h⟩:=zk h;refine h_o (a:= .A (x7:Tr)) (h:=by rw[<-hx7];exact(zgj (α:=Tr) (l:=s1.2.2.2) (i:=((List.length s1.2.2.2:Int)-2)) (k:=0) (te:=29) g23 rfl rfl rfl rfl)) ?_;iterate 2 refine zhv ?_
 obtain⟨g24,h⟩:=ze h;refine h_o (a:= .i ((List.length s1.2.2.2:Int)-1)) (h:=zju rfl rfl rfl rfl g24.1 g24.2) ?_;obtain⟨g25,h⟩:=ze h;refine h_o (a:= .ptr 1 (0+Int.toNat ((List.length s1.2.2.2:Int)-1)*8)) (h:=zhi (α:=Tr) g25 rfl rfl rfl rfl rfl) ?_;obtain⟨g26,h⟩:=ze h;obtain⟨x8,hx8,h⟩:=zk h;refine h_o (a:= .A (x8:Tr)) (h:=by rw[<-hx8];exact(zgj (α:=Tr) (l:=s1.2.2.2) (i:=((List.length s1.2.2.2:Int)-1)) (k:=0) (te:=29) g26 rfl rfl rfl rfl)) ?_;obtain⟨x9,hx9,h⟩:=zr h;refine qcf (zpx fuel 3 x7 x8 x9 hx9) ?_;refine h_o (a:= .F ([x9]:List Tr)) (h:=zho (α:=Tr) (l:=[x9]) (cs:=Enc.cells (x9:Tr)++[]) rfl (by rw[Enc.cons,Enc.nil])) ?_;refine ziq ?_;obtain⟨g27,h⟩:=ze h;refine zsy (a:= .bsl 3 0 ((Int.toNat ((List.length s1.2.2.2:Int)-2))+List.length [x9]) 8 false) (U'':=(.B [(29,zN),(29,(Enc.cellsL (s1.2.2.2:List Tr))),(61,(Enc.cells (x1:Sm))),(29,(Enc.cellsL ((List.take (Int.toNat ((List.length s1.2.2.2:Int)-2)) s1.2.2.2++[x9]):List Tr)))])) rfl rfl rfl (z9u (α:=Tr) (l:=s1.2.2.2) (r:=[x9]) (by':=80) g27 rfl rfl rfl rfl rfl rfl rfl rfl rfl rfl rfl rfl ⟨rfl,by decide⟩) (by dsimp only[zah,List.set]) rfl ?_;refine zar ?_;refine zc (o:=or2) (s1.1,s1.2.1,(List.take (Int.toNat ((List.length s1.2.2.2:Int)-2)) s1.2.2.2++[x9])) h ?_;exact(wmp (bl 204 25710984188215190554449659743906167235408310000698730435567743) 0 [] [0,3] 1 (Nat.le_refl _) (zev (zd rfl rfl (zd rfl (zad _ _ _ (Enc.cloL _)) zab)) rfl));refine zan h (bz 0 81 2398962173579254745268224) (fun j4=>[(74,.b j4)]) (fun j4=>(.B [(29,zN),(29,(Enc.cellsL (s1.2.2.2:List Tr))),(61,(Enc.cells (x1:Sm)))])) ?_ ?_;intro or4 h hr4;refine zb (k0:=0) (id:=14) ?_;refine zar ?_;refine w_o (a:= .b (decide ((Int.tmod ((x1.1:Nat):Int) 12)<9))) ?_;refine zz h (fun hc10 h=> ?_) (fun hc10 h=> ?_);refine zai hc10 ?_;refine zao rfl rfl ?_;refine zar ?_;refine w_r [.v (.b (decide ((List.length s1.2.2.2:Int)>1))),.v (.b (decide ((List.length s1.2.2.2:Int)>1)))] ?_;refine zar ?_;refine zc (o:=or4) ((decide ((List.length s1.2.2.2:Int)>1))) h ?_;exact zbe (bl 204 25711008708143844408671393477458601637975175192876909200408575);refine zai hc10 ?_;refine w_r [.p,.p,.v (.b false)] ?_;refine zar ?_;refine zc (o:=or4) (false) h ?_;exact zbe (bl 204 25711008708143844408671393477458601637975175192876909200408575);intro j4 h;refine zdi ?_;refine zbn h (fun hc11 h=> ?_) (fun hc11 h=> ?_);refine zz h (fun hc12 h=> ?_) (fun hc12 h=> ?_);rw[zgh (b:=1) hc12];refine zhe (k0:=0) (id:=15) 18 (by kernel_rfl) (by kernel_rfl) ?_;iterate 2 refine zhv ?_
 obtain⟨g28,h⟩:=ze h;refine h_o (a:= .i ((List.length s1.2.2.2:Int)-2)) (h:=zju rfl rfl rfl rfl g28.1 g28.2) ?_;refine zhv ?_;obtain⟨g29,h⟩:=ze h;refine h_o (a:= .i ((List.length s1.2.2.2:Int)-2)) (h:=zju rfl rfl rfl rfl g29.1 g29.2) ?_;cases h;rw[zgy (b:=1) hc12];refine zhe (k0:=0) (id:=15) 18 (by kernel_rfl) (by kernel_rfl) ?_;iterate 2 refine zhv ?_
 obtain⟨g30,h⟩:=ze h;refine h_o (a:= .i ((List.length s1.2.2.2:Int)-2)) (h:=zju rfl rfl rfl rfl g30.1 g30.2) ?_;refine zhv ?_;obtain⟨g31,h⟩:=ze h;refine h_o (a:= .i ((List.length s1.2.2.2:Int)-2)) (h:=zju rfl rfl rfl rfl g31.1 g31.2) ?_;refine zz h (fun hc13 h=> ?_) (fun hc13 h=> ?_);refine h_o (a:= .list 0 [] .full) (h:=qhe (α:=Tr) (eq_of_beq hc13) rfl rfl rfl rfl rfl rfl) ?_;iterate 2 refine zhv ?_
 obtain⟨g32,h⟩:=ze h;refine h_o (a:= .i ((List.length s1.2.2.2:Int)-2)) (h:=zju rfl rfl rfl rfl g32.1 g32.2) ?_;obtain⟨g33,h⟩:=ze h;refine h_o (a:= .ptr 1 (0+Int.toNat ((List.length s1.2.2.2:Int)-2)*8)) (h:=zhi (α:=Tr) g33 rfl rfl rfl rfl rfl) ?_;obtain⟨g34,h⟩:=ze h;obtain⟨x10,hx10,h⟩:=zk h;refine h_o (a:= .A (x10:Tr)) (h:=by rw[<-hx10];exact(zgj (α:=Tr) (l:=s1.2.2.2) (i:=((List.length s1.2.2.2:Int)-2)) (k:=0) (te:=29) g34 rfl rfl rfl rfl)) ?_;iterate 2 refine zhv ?_
 obtain⟨g35,h⟩:=ze h;refine h_o (a:= .i ((List.length s1.2.2.2:Int)-1)) (h:=zju rfl rfl rfl rfl g35.1 g35.2) ?_;obtain⟨g36,h⟩:=ze h;refine h_o (a:= .ptr 1 (0+Int.toNat ((List.length s1.2.2.2:Int)-1)*8)) (h:=zhi (α:=Tr) g36 rfl rfl rfl rfl rfl) ?_;obtain⟨g37,h⟩:=ze h;obtain⟨x11,hx11,h⟩:=zk h;refine h_o (a:= .A (x11:Tr)) (h:=by rw[<-hx11];exact(zgj (α:=Tr) (l:=s1.2.2.2) (i:=((List.length s1.2.2.2:Int)-1)) (k:=0) (te:=29) g37 rfl rfl rfl rfl)) ?_;obtain⟨x12,hx12,h⟩:=zr h;refine qcf (zpx fuel 4 x10 x11 x12 hx12) ?_;refine h_o (a:= .F ([x12]:List Tr)) (h:=zho (α:=Tr) (l:=[x12]) (cs:=Enc.cells (x12:Tr)++[]) rfl (by rw[Enc.cons,Enc.nil])) ?_;refine ziq ?_;obtain⟨g38,h⟩:=ze h;refine zsy (a:= .bsl 3 0 (List.length [x12]) 8 false) (U'':=(.B [(29,zN),(29,(Enc.cellsL (s1.2.2.2:List Tr))),(61,(Enc.cells (x1:Sm))),(29,(Enc.cellsL ([x12]:List Tr)))])) rfl rfl rfl (zqg (α:=Tr) (r:=[x12]) (by':=80) g38 rfl rfl rfl rfl rfl rfl rfl rfl rfl rfl rfl ⟨rfl,by decide⟩) (by dsimp only[zah,List.set]) rfl ?_;refine zar ?_;refine zc (o:=or2) (s1.1,s1.2.1,[x12]) h ?_;exact(wmp (bl 204 25710984188215190554449659743906167235408310000698730435567743) 0 [] [0,3] 1 (Nat.le_refl _) (zev (zd rfl rfl (zd rfl (zad _ _ _ (Enc.cloL _)) zab)) rfl));obtain⟨g39,h⟩:=ze h;refine h_o (a:= .bsl 1 0 (Int.toNat ((List.length s1.2.2.2:Int)-2)) 8 true) (h:=qqe (α:=Tr) g39 rfl rfl rfl rfl rfl rfl) ?_;iterate 2 refine zhv ?_
 obtain⟨g40,h⟩:=ze h;refine h_o (a:= .i ((List.length s1.2.2.2:Int)-2)) (h:=zju rfl rfl rfl rfl g40.1 g40.2) ?_;obtain⟨g41,h⟩:=ze h;refine h_o (a:= .ptr 1 (0+Int.toNat ((List.length s1.2.2.2:Int)-2)*8)) (h:=zhi (α:=Tr) g41 rfl rfl rfl rfl rfl) ?_;obtain⟨g42,h⟩:=ze h;obtain⟨x13,hx13,h⟩:=zk h;refine h_o (a:= .A (x13:Tr)) (h:=by rw[<-hx13];exact(zgj (α:=Tr) (l:=s1.2.2.2) (i:=((List.length s1.2.2.2:Int)-2)) (k:=0) (te:=29) g42 rfl rfl rfl rfl)) ?_;iterate 2 refine zhv ?_
 obtain⟨g43,h⟩:=ze h;refine h_o (a:= .i ((List.length s1.2.2.2:Int)-1)) (h:=zju rfl rfl rfl rfl g43.1 g43.2) ?_;obtain⟨g44,h⟩:=ze h;refine h_o (a:= .ptr 1 (0+Int.toNat ((List.length s1.2.2.2:Int)-1)*8)) (h:=zhi (α:=Tr) g44 rfl rfl rfl rfl rfl) ?_;obtain⟨g45,h⟩:=ze h;obtain⟨x14,hx14,h⟩:=zk h;refine h_o (a:= .A (x14:Tr)) (h:=by rw[<-hx14];exact(zgj (α:=Tr) (l:=s1.2.2.2) (i:=((List.length s1.2.2.2:Int)-1)) (k:=0) (te:=29) g45 rfl rfl rfl rfl)) ?_;obtain⟨x15,hx15,h⟩:=zr h;refine qcf (zpx fuel 4 x13 x14 x15 hx15) ?_;refine h_o (a:= .F ([x15]:List Tr)) (h:=zho (α:=Tr) (l:=[x15]) (cs:=Enc.cells (x15:Tr)++[]) rfl (by rw[Enc.cons,Enc.nil])) ?_;refine ziq ?_;obtain⟨g46,h⟩:=ze h;refine zsy (a:= .bsl 3 0 ((Int.toNat ((List.length s1.2.2.2:Int)-2))+List.length [x15]) 8 false) (U'':=(.B [(29,zN),(29,(Enc.cellsL (s1.2.2.2:List Tr))),(61,(Enc.cells (x1:Sm))),(29,(Enc.cellsL ((List.take (Int.toNat ((List.length s1.2.2.2:Int)-2)) s1.2.2.2++[x15]):List Tr)))])) rfl rfl rfl (z9u (α:=Tr) (l:=s1.2.2.2) (r:=[x15]) (by':=80) g46 rfl rfl rfl rfl rfl rfl rfl rfl rfl rfl rfl rfl ⟨rfl,by decide⟩) (by dsimp only[zah,List.set]) rfl ?_;refine zar ?_;refine zc (o:=or2) (s1.1,s1.2.1,(List.take (Int.toNat ((List.length s1.2.2.2:Int)-2)) s1.2.2.2++[x15])) h ?_;exact(wmp (bl 204 25710984188215190554449659743906167235408310000698730435567743) 0 [] [0,3] 1 (Nat.le_refl _) (zev (zd rfl rfl (zd rfl (zad _ _ _ (Enc.cloL _)) zab)) rfl));refine zan h (bz 0 111 2594880778686075050795230042259456) (fun j5=>[(100,.b j5)]) (fun j5=>(.B [(29,zN),(29,(Enc.cellsL (s1.2.2.2:List Tr))),(61,(Enc.cells (x1:Sm)))])) ?_ ?_;intro or5 h hr5;refine zb (k0:=0) (id:=16) ?_;refine zar ?_;refine w_o (a:= .b ((Int.tmod ((x1.1:Nat):Int) 12)==9)) ?_;refine zz h (fun hc14 h=> ?_) (fun hc14 h=> ?_);refine zai hc14 ?_;refine zao rfl rfl ?_;refine zar ?_;refine w_r [.v (.b (decide ((List.length s1.2.2.2:Int)>0))),.v (.b (decide ((List.length s1.2.2.2:Int)>0)))] ?_;refine zz h (fun hc15 h=> ?_) (fun hc15 h=> ?_);refine zai hc15 ?_;refine zao rfl rfl ?_;refine zar ?_;refine w_r [.v (.b (decide (s1.2.1<9))),.v (.b (decide (s1.2.1<9)))] ?_;refine zar ?_;refine zc (o:=or5) ((decide (s1.2.1<9))) h ?_;exact zbe (bl 204 25711008708143844408671393474864988512269401079130952025767935);refine zai hc15 ?_;refine w_r [.p,.p,.v (.b false)] ?_;refine zar ?_;refine zc (o:=or5) (false) h ?_;exact zbe (bl 204 25711008708143844408671393474864988512269401079130952025767935);refine zai hc14 ?_;refine w_r [.p,.p,.v (.b false)] ?_;refine zar ?_;refine w_r [.p,.p,.v (.b false)] ?_;refine zar ?_;refine zc (o:=or5) (false) h ?_;exact zbe (bl 204 25711008708143844408671393474864988512269401079130952025767935);intro j5 h;refine zdi ?_;refine zbn h (fun hc16 h=> ?_) (fun hc16 h=> ?_);refine zz h (fun hc17 h=> ?_) (fun hc17 h=> ?_);rw[zgh (b:=1) hc17];refine zj (zb ?_);iterate 2 refine zar ?_
 obtain⟨g47,h⟩:=ze h;refine qkw g47 ?_;iterate 2 refine zar ?_
 obtain⟨g48,h⟩:=ze h;refine qkw g48 ?_;cases h;rw[zgy (b:=1) hc17];refine zj (zb ?_);iterate 2 refine zar ?_
 obtain⟨g49,h⟩:=ze h;refine qkw g49 ?_;iterate 2 refine zar ?_
 obtain⟨g50,h⟩:=ze h;refine qkw g50 ?_;obtain⟨g51,h⟩:=ze h;refine w_o (a:= .ptr 1 (0+Int.toNat ((List.length s1.2.2.2:Int)-1)*8)) (h:=zaz (zhi (α:=Tr) g51 rfl rfl rfl rfl rfl)) ?_;obtain⟨g52,h⟩:=ze h;obtain⟨x16,hx16,h⟩:=zk h;refine w_o (a:= .A (x16:Tr)) (h:=zaz (by rw[<-hx16];exact(zgj (α:=Tr) (l:=s1.2.2.2) (i:=((List.length s1.2.2.2:Int)-1)) (k:=0) (te:=29) g52 rfl rfl rfl rfl))) ?_;obtain⟨x17,hx17,h⟩:=zr h;refine zch (qfg x16 x17 hx17) ?_;obtain⟨g53,h⟩:=ze h;refine w_o (a:= .ptr 1 (0+Int.toNat ((List.length s1.2.2.2:Int)-1)*8)) (h:=zaz (zhi (α:=Tr) g53 rfl rfl rfl rfl rfl)) ?_;obtain⟨g54,h⟩:=ze h;obtain⟨x18,hx18,h⟩:=zk h;refine zqo (U'':=(.B [(29,zN),(29,(Enc.cellsL ((List.set s1.2.2.2 (Int.toNat ((List.length s1.2.2.2:Int)-1)) x17):List Tr))),(61,(Enc.cells (x1:Sm)))])) (h:=zul (α:=Tr) (l:=s1.2.2.2) (i:=((List.length s1.2.2.2:Int)-1)) (k:=0) (te:=29) (n:=8) x17 g54 rfl rfl rfl rfl rfl rfl rfl (by decide) (by decide) (by rw[hx18];rfl)) ?_;refine zb (k0:=0) (id:=18) ?_;refine zar ?_;obtain⟨g55,h⟩:=ze h;refine zgu g55 ?_;refine zar ?_;refine zc (o:=or2) (s1.1,(s1.2.1+1),(List.set s1.2.2.2 (Int.toNat ((List.length s1.2.2.2:Int)-1)) x17)) h ?_;exact(wmp (bl 204 25710984188215190554449659743906167235408310000698730435567743) 0 [] [0,1] 1 (Nat.le_refl _) (zev (zd rfl rfl (zd rfl (zad _ _ _ (Enc.cloL _)) zab)) rfl));refine zz h (fun hc18 h=> ?_) (fun hc18 h=> ?_);rw[zgh (b:=1) hc18];refine zan h (bz 0 139 696887653631383344446236194965275757511168) (fun j6=>[(123,.b false)]) (fun j6=>(.B [(29,zN),(29,(Enc.cellsL (s1.2.2.2:List Tr))),(61,(Enc.cells (x1:Sm)))])) ?_ ?_;intro or6 h hr6;refine zb (k0:=0) (id:=19) ?_;refine zar ?_;refine w_o (a:= .b (decide ((Int.tmod ((x1.1:Nat):Int) 12)>9))) ?_;refine zz h (fun hc19 h=> ?_) (fun hc19 h=> ?_);refine zai hc19 ?_;refine zao rfl rfl ?_;refine zar ?_;refine w_r [.v (.b (decide ((List.length s1.2.2.2:Int)>0))),.v (.b (decide ((List.length s1.2.2.2:Int)>0)))] ?_;refine zz h (fun hc20 h=> ?_) (fun hc20 h=> ?_);refine zai hc20 ?_;refine zao rfl rfl ?_;refine zar ?_;refine zao rfl rfl ?_;refine zar ?_;refine zao rfl rfl ?_;obtain⟨g56,h⟩:=ze h;refine qkw g56 ?_;refine zao rfl rfl ?_;cases h;refine zai hc20 ?_;refine w_r [.p,.p,.p,.p,.p] ?_;refine w_r [.p,.p,.v (.b false)] ?_;refine zar ?_;refine zc (o:=or6) () h ?_;exact zbe (bl 204 25711008708143844407974516457651184575235994936015891850067455);refine zai hc19 ?_;refine w_r [.p,.p,.v (.b false)] ?_;refine zar ?_;refine w_r [.p,.p,.p,.p,.p] ?_;refine w_r [.p,.p,.v (.b false)] ?_;refine zar ?_;refine zc (o:=or6) () h ?_;exact zbe (bl 204 25711008708143844407974516457651184575235994936015891850067455);intro j6 h;refine zdi ?_;refine zcd rfl ?_;refine zc (o:=or2) (s1.1,s1.2.1,s1.2.2.2) h ?_;exact(zqx (bl 204 25710984188215190554449659743906167235408310000698730435567743) 0 [] [0,1] 1 (Nat.le_refl _) rfl (by dsimp only[zap,zbi,List.foldl,List.set,bz,bzc,Nat.reduceMod,Nat.reduceDiv,Nat.reduceBEq,Nat.reduceAdd];exact(by repeat(first|exact zif|refine zff rfl ?_|refine zff (zaj _ _ _ rfl) ?_|refine zff ((zgh hc18 _ _).symm) ?_|refine zff (zaj _ _ _ (zks (Enc.cloL _))) ?_|apply zvu))) (zev (zd rfl rfl (zd rfl (zad _ _ _ (Enc.cloL _)) zab)) rfl));rw[zgy (b:=1) hc18];refine zan h (bz 0 139 696887653631383344446236194965275757511168) (fun j7=>[(123,.b j7)]) (fun j7=>(.B [(29,zN),(29,(Enc.cellsL (s1.2.2.2:List Tr))),(61,(Enc.cells (x1:Sm)))])) ?_ ?_;intro or7 h hr7;refine zb (k0:=0) (id:=19) ?_;refine zar ?_;refine w_o (a:= .b (decide ((Int.tmod ((x1.1:Nat):Int) 12)>9))) ?_;refine zz h (fun hc21 h=> ?_) (fun hc21 h=> ?_);refine zai hc21 ?_;refine zao rfl rfl ?_;refine zar ?_;refine w_r [.v (.b (decide ((List.length s1.2.2.2:Int)>0))),.v (.b (decide ((List.length s1.2.2.2:Int)>0)))] ?_;refine zz h (fun hc22 h=> ?_) (fun hc22 h=> ?_);refine zai hc22 ?_;refine zao rfl rfl ?_;refine zar ?_;refine zao rfl rfl ?_;refine zar ?_;refine zao rfl rfl ?_;obtain⟨g57,h⟩:=ze h;refine qkw g57 ?_;refine zao rfl rfl ?_;obtain⟨g58,h⟩:=ze h;refine w_o (a:= .ptr 1 (0+Int.toNat ((List.length s1.2.2.2:Int)-1)*8)) (h:=zaz (zhi (α:=Tr) g58 rfl rfl rfl rfl rfl)) ?_;refine zao rfl rfl ?_;refine w_o (a:= .ptr 1 (0+Int.toNat ((List.length s1.2.2.2:Int)-1)*8+0)) ?_;refine zao rfl rfl ?_;obtain⟨g59,h⟩:=ze h;obtain⟨x19,hx19,h⟩:=zk h;refine w_o (a:= .u ((x19.k:Nat):Int)) (h:=zaz (by rw[<-hx19];exact(zgj (α:=Tr) (l:=s1.2.2.2) (i:=((List.length s1.2.2.2:Int)-1)) (k:=0) (te:=29) g59 rfl rfl rfl rfl))) ?_;refine w_r [.v (.b (((x19.k:Nat):Int) !=1)),.v (.b (((x19.k:Nat):Int) !=1))] ?_;refine zar ?_;refine zc (o:=or7) ((((x19.k:Nat):Int) !=1)) h ?_;exact zbe (bl 204 25711008708143844407974516457651184575235994936015891850067455);refine zai hc22 ?_;refine w_r [.p,.p,.p,.p,.p] ?_;refine w_r [.p,.p,.v (.b false)] ?_;refine zar ?_;refine zc (o:=or7) (false) h ?_;exact zbe (bl 204 25711008708143844407974516457651184575235994936015891850067455);refine zai hc21 ?_;refine w_r [.p,.p,.v (.b false)] ?_;refine zar ?_;refine w_r [.p,.p,.p,.p,.p] ?_;refine w_r [.p,.p,.v (.b false)] ?_;refine zar ?_;refine zc (o:=or7) (false) h ?_;exact zbe (bl 204 25711008708143844407974516457651184575235994936015891850067455);intro j7 h;refine zdi ?_;refine zbn h (fun hc23 h=> ?_) (fun hc23 h=> ?_);refine zj ?_;refine zhe (k0:=0) (id:=20) 9 (by kernel_rfl) (by kernel_rfl) ?_;refine h_o (a:= .ptr 2 1) ?_;refine h_o (a:= .u ((x1.2.1:Nat):Int)) ?_;refine h_o (a:= .u (Int.tmod ((x1.2.1:Nat):Int) 3)) ?_;obtain⟨g60,h⟩:=ze h;refine h_o (a:= .i (Int.tmod ((x1.2.1:Nat):Int) 3)) (h:=zgz g60 rfl rfl rfl) ?_;refine h_o (a:= .ptr 2 2) ?_;refine h_o (a:= .u ((x1.2.2:Nat):Int)) ?_;refine h_o (a:= .u (Int.tmod ((x1.2.2:Nat):Int) 4)) ?_;obtain⟨g61,h⟩:=ze h;refine h_o (a:= .i (Int.tmod ((x1.2.2:Nat):Int) 4)) (h:=zgz g61 rfl rfl rfl) ?_;refine zhv ?_;refine ziq ?_;refine zar ?_;refine zan h (bz 0 162 5846005852435958042699045484857166514844675868800) (fun j8=>[(11,.i j8)]) (fun j8=>(.B [(29,zN),(29,(Enc.cellsL (s1.2.2.2:List Tr))),(61,(Enc.cells (x1:Sm)))])) ?_ ?_;intro or8 h hr8;refine zan h (bz 0 162 5846005852435958042699045484857166514844675866752) (fun j9=>[(161,.b j9)]) (fun j9=>(.B [(29,zN),(29,(Enc.cellsL (s1.2.2.2:List Tr))),(61,(Enc.cells (x1:Sm)))])) ?_ ?_;intro or9 h hr9;refine zb (k0:=0) (id:=21) ?_;iterate 2 refine zar ?_
 refine w_o (a:= .b (decide ((Int.tmod ((x1.2.2:Nat):Int) 4)<(Int.tmod ((x1.2.1:Nat):Int) 3)))) ?_;refine zz h (fun hc24 h=> ?_) (fun hc24 h=> ?_);refine zai hc24 ?_;refine w_r [.p,.p,.v (.b true)] ?_;refine zar ?_;refine w_r [.p,.p,.p,.p,.p] ?_;refine w_r [.p,.v (.b true)] ?_;refine zc (o:=or9) (true) h ?_;exact zbe (bl 204 25711008708140921406093619325252309964535823300049152554041215);refine zai hc24 ?_;refine zao rfl rfl ?_;refine zar ?_;refine w_r [.v (.b ((Int.tmod ((x1.2.2:Nat):Int) 4)==0)),.v (.b ((Int.tmod ((x1.2.2:Nat):Int) 4)==0))] ?_;refine zz h (fun hc25 h=> ?_) (fun hc25 h=> ?_);refine zai hc25 ?_;refine w_r [.p,.p,.p,.p,.p] ?_;refine w_r [.p,.v (.b true)] ?_;refine zc (o:=or9) (true) h ?_;exact zbe (bl 204 25711008708140921406093619325252309964535823300049152554041215);refine zai hc25 ?_;refine zao rfl rfl ?_;refine zar ?_;refine zao rfl rfl ?_;refine w_o (a:= .b ((Int.tmod ((x1.2.1:Nat):Int) 3)==1)) ?_;refine zao rfl rfl ?_;refine zz h (fun hc26 h=> ?_) (fun hc26 h=> ?_);refine zai hc26 ?_;refine zao rfl rfl ?_;refine zar ?_;refine w_r [.v (.b ((Int.tmod ((x1.2.2:Nat):Int) 4)==1)),.v (.b ((Int.tmod ((x1.2.2:Nat):Int) 4)==1)),.v (.b ((Int.tmod ((x1.2.2:Nat):Int) 4)==1))] ?_;refine zc (o:=or9) (((Int.tmod ((x1.2.2:Nat):Int) 4)==1)) h ?_;exact zbe (bl 204 25711008708140921406093619325252309964535823300049152554041215);refine zai hc26 ?_;refine w_r [.p,.p,.v (.b false),.v (.b false)] ?_;refine zc (o:=or9) (false) h ?_;exact zbe (bl 204 25711008708140921406093619325252309964535823300049152554041215);intro j9 h;refine zdi ?_;refine zbn h (fun hc27 h=> ?_) (fun hc27 h=> ?_);refine zb (k0:=0) (id:=22) ?_;refine w_o (a:= .i (-1)) ?_;refine zc (o:=or8) ((-1)) h ?_;exact zbe (bl 204 25711008708137998402818957519415902594870390734009840688955263);refine zc (o:=or8) ((Int.tmod ((x1.2.2:Nat):Int) 4)) h ?_;exact zbe (bl 204 25711008708137998402818957519415902594870390734009840688955263);intro j8 h;refine zdi ?_;refine zj (zb ?_);iterate 2 refine zar ?_
 refine w_o (a:= .i (max (max (Int.tmod ((x1.2.1:Nat):Int) 3) j8) (1:Int))) (h:=zaz (q_max3 rfl rfl rfl rfl rfl rfl)) ?_;refine zar ?_;refine zj (zb ?_);iterate 2 refine zar ?_
 obtain⟨g62,h⟩:=ze h;refine w_o (a:= .i (s1.1*(max (max (Int.tmod ((x1.2.1:Nat):Int) 3) j8) (1:Int)))) (h:=zaz (qoi rfl rfl rfl rfl g62.1 g62.2)) ?_;refine w_o (a:= .b (decide ((s1.1*(max (max (Int.tmod ((x1.2.1:Nat):Int) 3) j8) (1:Int)))<=16))) ?_;refine zbn h (fun hc28 h=> ?_) (fun hc28 h=> ?_);refine zj (zb ?_);iterate 2 refine zar ?_
 obtain⟨g63,h⟩:=ze h;refine w_o (a:= .i (s1.1*(max (max (Int.tmod ((x1.2.1:Nat):Int) 3) j8) (1:Int)))) (h:=zaz (qoi rfl rfl rfl rfl g63.1 g63.2)) ?_;refine zar ?_;refine zb (k0:=0) (id:=26) ?_;iterate 2 refine zar ?_
 obtain⟨g64,h⟩:=ze h;refine qkw g64 ?_;iterate 2 refine zar ?_
 obtain⟨g65,h⟩:=ze h;refine qkw g65 ?_;obtain⟨g66,h⟩:=ze h;refine w_o (a:= .ptr 1 (0+Int.toNat ((List.length s1.2.2.2:Int)-1)*8)) (h:=zaz (zhi (α:=Tr) g66 rfl rfl rfl rfl rfl)) ?_;obtain⟨g67,h⟩:=ze h;obtain⟨x20,hx20,h⟩:=zk h;refine w_o (a:= .A (x20:Tr)) (h:=zaz (by rw[<-hx20];exact(zgj (α:=Tr) (l:=s1.2.2.2) (i:=((List.length s1.2.2.2:Int)-1)) (k:=0) (te:=29) g67 rfl rfl rfl rfl))) ?_;iterate 2 refine zar ?_
 obtain⟨x21,hx21,h⟩:=zr h;refine zch (rep8_sh x20 (Int.tmod ((x1.2.1:Nat):Int) 3) j8 x21 hx21) ?_;obtain⟨g68,h⟩:=ze h;refine w_o (a:= .ptr 1 (0+Int.toNat ((List.length s1.2.2.2:Int)-1)*8)) (h:=zaz (zhi (α:=Tr) g68 rfl rfl rfl rfl rfl)) ?_;obtain⟨g69,h⟩:=ze h;obtain⟨x22,hx22,h⟩:=zk h;refine zqo (U'':=(.B [(29,zN),(29,(Enc.cellsL ((List.set s1.2.2.2 (Int.toNat ((List.length s1.2.2.2:Int)-1)) x21):List Tr))),(61,(Enc.cells (x1:Sm)))])) (h:=zul (α:=Tr) (l:=s1.2.2.2) (i:=((List.length s1.2.2.2:Int)-1)) (k:=0) (te:=29) (n:=8) x21 g69 rfl rfl rfl rfl rfl rfl rfl (by decide) (by decide) (by rw[hx22];rfl)) ?_;refine zc (o:=or2) ((s1.1*(max (max (Int.tmod ((x1.2.1:Nat):Int) 3) j8) (1:Int))),s1.2.1,(List.set s1.2.2.2 (Int.toNat ((List.length s1.2.2.2:Int)-1)) x21)) h ?_;exact(zqx (bl 204 25710984188215190554449659743906167235408310000698730435567743) 0 [] [0,1] 1 (Nat.le_refl _) rfl (by dsimp only[zap,zbi,List.foldl,List.set,bz,bzc,Nat.reduceMod,Nat.reduceDiv,Nat.reduceBEq,Nat.reduceAdd];exact(by repeat(first|exact zif|refine zff rfl ?_|refine zff (zaj _ _ _ rfl) ?_|refine zff (zaj _ _ _ (zks (Enc.cloL _))) ?_|refine zff (zmx (by first|(simp;done)|(simp only[List.length_append,List.length_take];omega)) (by first|(simp;done)|exact zvm hc18) _ _) ?_|apply zvu))) (zev (zd rfl rfl (zd rfl (zad _ _ _ (Enc.cloL _)) zab)) rfl));refine zc (o:=or2) (s1.1,s1.2.1,s1.2.2.2) h ?_;exact(zqx (bl 204 25710984188215190554449659743906167235408310000698730435567743) 0 [] [0,1] 1 (Nat.le_refl _) rfl (by dsimp only[zap,zbi,List.foldl,List.set,bz,bzc,Nat.reduceMod,Nat.reduceDiv,Nat.reduceBEq,Nat.reduceAdd];exact(by repeat(first|exact zif|refine zff rfl ?_|refine zff (zaj _ _ _ rfl) ?_|refine zff (zaj _ _ _ (zks (Enc.cloL _))) ?_|refine zff (zmx (by first|(simp;done)|(simp only[List.length_append,List.length_take];omega)) (by first|(simp;done)|exact zvm hc18) _ _) ?_|apply zvu))) (zev (zd rfl rfl (zd rfl (zad _ _ _ (Enc.cloL _)) zab)) rfl));refine zc (o:=or2) (s1.1,s1.2.1,s1.2.2.2) h ?_;exact(zqx (bl 204 25710984188215190554449659743906167235408310000698730435567743) 0 [] [0,1] 1 (Nat.le_refl _) rfl (by dsimp only[zap,zbi,List.foldl,List.set,bz,bzc,Nat.reduceMod,Nat.reduceDiv,Nat.reduceBEq,Nat.reduceAdd];exact(by repeat(first|exact zif|refine zff rfl ?_|refine zff (zaj _ _ _ rfl) ?_|refine zff (zaj _ _ _ (zks (Enc.cloL _))) ?_|refine zff (zmx (by first|(simp;done)|(simp only[List.length_append,List.length_take];omega)) (by first|(simp;done)|exact zvm hc18) _ _) ?_|apply zvu))) (zev (zd rfl rfl (zd rfl (zad _ _ _ (Enc.cloL _)) zab)) rfl));intro j2 h;refine zdi ?_;refine zb (k0:=0) (id:=27) ?_;obtain⟨g70,h⟩:=ze h;refine zgu g70 ?_;refine zar ?_;refine zbf (p:=p1) (j2.1,j2.2.1,(s1.2.2.1+1),j2.2.2) h ?_;exact zbe (bl 204 7340092);refine zg h (fun h=> ?_);refine zc (o:=or1) (s1.2.2.2) h ?_;exact zbe (bl 204 12);intro j1 h;refine zdi ?_;refine zan h [185,186,187,188] (fun j10=>[]) (fun j10=>(.B [(29,zN),(29,(Enc.cellsL (j1:List Tr)))])) ?_ ?_;intro or10 h hr10;refine zz h (fun hc29 h=> ?_) (fun hc29 h=> ?_);rw[zgh (b:=1) hc29];refine zj (zb ?_);refine zar ?_;refine w_r [.v (.i 0),.v (.b ((0:Int)==0))] ?_;refine zbn h (fun hc30 h=> ?_) (fun hc30 h=> ?_);refine zj (zb ?_);obtain⟨g71,h⟩:=ze h;obtain⟨x23,hx23,h⟩:=zk h;refine zch (args':=[.s ([97]:List UInt8)]) (r:= .A (x23:Tr)) (by rw[<-hx23];exact(zup ([97]:List UInt8) g71)) ?_;refine zes 8 (Enc.cells (x23:Tr)) ?_;replace h:=zi h hr10;exact zbx (fun(r:Tr)=> .A (r:Tr)) h (.A (x23:Tr));refine zc (o:=or10) () h ?_;exact zbe (bl 204 25710273110284228782019381470885569491947110905746037235777535);rw[zgy (b:=1) hc29];refine zj (zb ?_);refine zar ?_;refine w_r [.v (.i (((List.length j1):Nat):Int)),.v (.b ((((List.length j1):Nat):Int)==0))] ?_;refine zbn h (fun hc31 h=> ?_) (fun hc31 h=> ?_);refine zj (zb ?_);obtain⟨g72,h⟩:=ze h;obtain⟨x24,hx24,h⟩:=zk h;refine zch (args':=[.s ([97]:List UInt8)]) (r:= .A (x24:Tr)) (by rw[<-hx24];exact(zup ([97]:List UInt8) g72)) ?_;refine zes 8 (Enc.cells (x24:Tr)) ?_;replace h:=zi h hr10;exact zbx (fun(r:Tr)=> .A (r:Tr)) h (.A (x24:Tr));refine zc (o:=or10) () h ?_;exact zbe (bl 204 25710273110284228782019381470885569491947110905746037235777535);intro j10 h;refine zdi ?_;refine zz h (fun hc32 h=> ?_) (fun hc32 h=> ?_);rw[zgh (b:=1) hc32];refine zj (zb ?_);refine zar ?_;cases h;rw[zgy (b:=1) hc32];refine zj (zb ?_);refine zar ?_;obtain⟨g73,h⟩:=ze h;refine w_o (a:= .ptr 1 (0+Int.toNat (0:Int)*8)) (h:=zaz (zhi (α:=Tr) g73 rfl rfl rfl rfl rfl)) ?_;obtain⟨g74,h⟩:=ze h;obtain⟨x25,hx25,h⟩:=zk h;refine w_o (a:= .A (x25:Tr)) (h:=zaz (by rw[<-hx25];exact(zgj (α:=Tr) (l:=j1) (i:=(0:Int)) (k:=0) (te:=29) g74 rfl rfl rfl rfl))) ?_;refine zdf zN ?_;refine zes 8 (Enc.cells (x25:Tr)) ?_;refine zan h (bz 0 203 12854719716354998869240217265051399861875611155831784678129672) (fun j11=>[]) (fun j11=>(.B [(29,zN),(29,(Enc.cellsL (j1:List Tr))),(29,(Enc.cells (j11:Tr)))])) ?_ ?_;intro or11 h hr11;refine zj (zb ?_);refine zar ?_;refine zz h (fun hc33 h=> ?_) (fun hc33 h=> ?_);obtain⟨g75,h⟩:=ze h;refine w_o (a:= .list 0 [] .none) (h:=zaz (q_bslLz (α:=Tr) ⟨g75,eq_of_beq hc33⟩ rfl rfl rfl rfl rfl)) ?_;refine w_r [.v (.i 0),.v (.i 0)] ?_;refine zx ?_;refine zcf h (bz 0 203 12817057105942678784657202528512153863378997023165000471052296) (fun s2=>[(195,.i s2)]) (fun s2=>(.B [(29,zN),(29,(Enc.cellsL (j1:List Tr))),(29,(Enc.cells (x25:Tr)))])) ?_ ?_;exact zbe (bl 204 12944168416084259070124877264332109108305069720915397169872887);intro s2 p2 h;refine zdi ?_;refine zbb [.v (.b (decide (s2<0)))] ?_;refine zj ?_;refine zbn h (fun hc34 h=> ?_) (fun hc34 h=> ?_);refine zj ?_;refine zx ?_;refine zj (zb ?_);cases h;refine zg h (fun h=> ?_);refine zc (o:=or11) (x25) h ?_;exact zbe (bl 204 12856288991788845539431176212407201778479636744692900686692343);obtain⟨g76,h⟩:=ze h;refine w_o (a:= .bsl 1 (Int.toNat 1*8) ((List.length j1)-Int.toNat 1) 8 false) (h:=zaz (q_bslL (α:=Tr) g76 rfl rfl rfl rfl rfl)) ?_;refine w_r [.v (.i ((((List.length j1)-Int.toNat 1):Nat):Int)),.v (.i 0)] ?_;refine zx ?_;refine zcf h (bz 0 203 12817057105942678784657202528512153863378997023165000471052296) (fun s3=>[(195,.i s3.1)]) (fun s3=>(.B [(29,zN),(29,(Enc.cellsL (j1:List Tr))),(29,(Enc.cells (s3.2:Tr)))])) ?_ ?_;exact zbe (bl 204 12944168416084259070124877264332109108305069720915397169872887);intro s3 p3 h;refine zdi ?_;refine zbb [.v (.b (decide (s3.1<((((List.length j1)-Int.toNat 1):Nat):Int))))] ?_;refine zj ?_;refine zbn h (fun hc35 h=> ?_) (fun hc35 h=> ?_);refine zj ?_;refine zx ?_;refine zj (zb ?_);obtain⟨g77,h⟩:=ze h;refine w_o (a:= .ptr 1 (0+Int.toNat (((Int.toNat 1:Nat):Int)+s3.1)*8)) (h:=zaz (q_idxBO (α:=Tr) g77 rfl rfl rfl rfl rfl)) ?_;obtain⟨g78,h⟩:=ze h;obtain⟨x26,hx26,h⟩:=zk h;refine w_o (a:= .A (x26:Tr)) (h:=zaz (by rw[<-hx26];exact(zgj (α:=Tr) (l:=j1) (i:=(((Int.toNat 1:Nat):Int)+s3.1)) (k:=0) (te:=29) g78 rfl rfl rfl rfl))) ?_;refine zdf zN ?_;refine zes 8 (Enc.cells (x26:Tr)) ?_;refine zb (k0:=0) (id:=34) ?_;refine w_r [.v (.A (s3.2:Tr)),.v (.A (x26:Tr))] ?_;obtain⟨x27,hx27,h⟩:=zr h;refine zch (zpx fuel 4 s3.2 x26 x27 hx27) ?_;refine zes 8 (Enc.cells (x27:Tr)) ?_;refine zb (k0:=0) (id:=35) ?_;obtain⟨g79,h⟩:=ze h;refine zgu g79 ?_;refine zar ?_;refine zbf (p:=p3) ((s3.1+1),x27) h ?_;exact zce (bl 204 12944168416084259070124877264332109108305069720915397169872887) 3 (by kernel_rfl) (Nat.le_of_ble_eq_true rfl) (zbg (zy rfl (zy (zn _ _ (Enc.cloL _)) (zy (zn _ _ (Enc.clo _)) rfl)))) (by dsimp only[zap,zbi,List.foldl,List.set,bz,bzc,Nat.reduceMod,Nat.reduceDiv,Nat.reduceBEq,Nat.reduceAdd];exact(za rfl (za rfl (za (by decide) (za rfl (za rfl (za rfl (za rfl (za rfl (za rfl (za rfl (za rfl (za rfl (za rfl (za (by decide) (by kernel_rfl)))))))))))))))) (by kernel_rfl);refine zg h (fun h=> ?_);refine zc (o:=or11) (s3.2) h ?_;exact zbe (bl 204 12856288991788845539431176212407201778479636744692900686692343);intro j11 h;refine zdi ?_;refine zbb [.v (.A (j11:Tr))] ?_;refine zoa 8 (.B [(29,(Enc.cells (j11:Tr))),(29,(Enc.cellsL (j1:List Tr))),(29,(Enc.cells (j11:Tr)))]) ?_;exact zbx (fun(r:Tr)=> .A (r:Tr)) h (.A (j11:Tr))
theorem zql {ρ:Type}: ∀(l acc:List Tr),acc.length+l.length<2^40->zem (β:=List Tr) (ρ:=ρ) (fun s2 w1=>(chk (length s2<2^40) (some (inl ((s2++[w1])))))) l acc=some (.inl (acc++l))
 |[],acc,_=>by rw[zem];simp
 | x::l,acc,h=>by
  simp only[length_cons] at h;have hb:(chk (acc.length<2^40) (some (inl (acc++[x]))):Option (List Tr ⊕ ρ))=some (.inl (acc++[x])):=zf (by omega) rfl;rw[zem,hb];have:=zql (ρ:=ρ) l (acc++[x]) (by simp only[length_append,length_cons,length_nil];omega);simp only;rw[this];simp
abbrev Alts:=List Pcs
def zo:Alts->List UInt8
 |[]=>[]
 |[L]=>zbr L
 |L::M::A=>zbr L++124::zo (M::A)
def zfr (A:Alts):List Tr:=A.map fun L=>zny (zqt L)
def qdp (n:Nat)(A:Alts):Prop:=A≠[]/\ (∀L∈A,L.length<1000/\ ∀p∈L,AtP n p.1 p.2)/\ A.length<1000
theorem qjp (A:Alts):(zbj (zfr A)).length<=10000*A.length:=by
 have:=zkd (zfr A) (by
  intro x hx;obtain⟨L,_,rfl⟩:=mem_map.1 hx;exact qih _)
 simpa[zfr] using this
theorem z8w {n:Nat} {L:Pcs} (h: ∀p∈L,AtP n p.1 p.2):(zbj (zqt L)).length<=10000*L.length:=by
 have:=zkd (zqt L) (by
  intro x hx;obtain⟨p,hp,rfl⟩:=mem_map.1 hx;exact(h p hp).len)
 simpa[zqt] using this
def EndP (b:List UInt8):Prop:=b=[] \/ ∃t,b=41::t
theorem EndP.stop {b:List UInt8} (h:EndP b):StopP b:=h.imp id fun⟨t,h⟩=>⟨t,.inl h⟩
theorem zoq (L M:Pcs)(A:Alts):zo (L::M::A)=zbr L++124::zo (M::A):=rfl
def zsb (n:Nat):Rd×List Tr->Option ((Rd×List Tr) ⊕ ((Rd×List Tr) ⊕ (Tr×Rd))):=
 (fun s1=>(zcu (τ:=Rd×(List Tr)) (zag (ztq s1.1) (fun x1=>(zag (zyh 1100 (zhd 1100 (zfm (z0v 1100 n))) x1) (fun x2=>(zcu (zem (β:=(List Tr)) (fun s2 w1=>(chk (length s2<2^40) (some (inl ((s2++[w1])))))) x2.1 (([]:List Tr))) (fun s2=>(some (inl (x2.2,s2))))))))) (fun j2=>(chk ((zbj j2.2).length<=2^40) (zba (zny j2.2) (fun x3=>(bif (isEmpty s1.2) then(chk (0<(length [x3])/\ (length [x3])*80<=140737488355328) (zag (zee j2.1) (fun x4=>(bif (x4.1 !=124) then(some (inr (inl (x4.2,[x3])))) else(chk (I64 (x4.2.a+1)) (some (inl ((Rd.mk x4.2.s (x4.2.a+1) x4.2.e x4.2.q),[x3])))))))) else(chk (length s1.2=(length s1.2)/\ 0<(length s1.2)/\ 0<length [x3]/\ ((length s1.2)+length [x3])*80<=140737488355328) (zag (zee j2.1) (fun x5=>(bif (x5.1 !=124) then(some (inr (inl (x5.2,(s1.2++[x3]))))) else(chk (I64 (x5.2.a+1)) (some (inl ((Rd.mk x5.2.s (x5.2.a+1) x5.2.e x5.2.q),(s1.2++[x3]))))))))))))))))
theorem z7p (n:Nat)(b:List UInt8)(hb:EndP b): ∀(A:Alts) (a:List UInt8) (q:Stk) (acc:List Tr) (fuel:Nat),A≠[]->(∀L∈A,L.length<1000/\ ∀p∈L,AtP n p.1 p.2)->acc.length+A.length<2000->(a++zo A++b).length<2^39->(zcv q).length+n<2^39->A.length<=fuel->
 ∃q',zax (zsb n) fuel (Rd.mk (a++zo A++b) ((a.length:Nat):Int) 0 q,acc)=some (.inl (Rd.mk (a++zo A++b) (((a++zo A).length:Nat):Int) 0 q',acc++zfr A))/\ zcv q'=zcv q
 |A,_,_,_,0,hA,_,_,_,_,hf=>absurd hf (by cases A with|nil=>exact absurd rfl hA|cons=>simp)
 |[],_,_,_,_,hA,_,_,_,_,_=>absurd rfl hA
 | [L],a,q,acc,fuel+1,_,hA,hacc,hlen,hq,hf=>by
  obtain⟨hL1,hL⟩:=hA L (by simp);obtain⟨q',h1,h2⟩:=qqb n L a b q hb.stop hL hlen hq (by omega);refine⟨q',?_,h2⟩;have hp:=z8w hL;have hpl:(zqt L).length=L.length:=by simp[zqt]
  simp only[length_cons,length_nil] at hacc;rw[zax];have:zsb n (Rd.mk (a++zbr L++b) ((a.length:Nat):Int) 0 q,acc)=some (.inr (.inl (Rd.mk (a++zbr L++b) (((a++zbr L).length:Nat):Int) 0 q',acc++[zny (zqt L)]))):=by
   unfold zsb;refine zak (Rd.mk (a++zbr L++b) (((a++zbr L).length:Nat):Int) 0 q',zqt L) ?_ ?_
   ·refine zaa _ rfl ?_;refine zaa _ h1 ?_;refine zak ([]++zqt L) ?_ rfl;exact zql (zqt L) [] (by rw[hpl];simp only[length_nil];omega)
   ·refine zf (by simp only;omega) (zm fun x3 hx3=> ?_);simp only at hx3;subst hx3;have hn:=zno (a++zbr L) b q';have hb3:((hd0 (b)) !=124)=true:=by
     rcases hb with rfl|⟨t,rfl⟩<;>rfl
    cases acc with
    | nil=>
     rw[show isEmpty (Rd.mk (a++zbr L++b) ((a.length:Nat):Int) 0 q,([]:List Tr)).2=true from rfl,cond_true];refine zf (by simp) ?_;refine zaa _ hn ?_;simp only;rw[hb3,cond_true];rfl
    | cons t0 acc=>
     rw[show isEmpty (Rd.mk (a++zbr L++b) ((a.length:Nat):Int) 0 q,t0::acc).2=false from rfl,cond_false];refine zf (by simp only[length_cons,length_nil] at hacc⊢;exact⟨trivial,by omega,by omega,by omega⟩) ?_;refine zaa _ hn ?_;simp only;rw[hb3,cond_true]
  simp only[zo];rw[this];rfl
 | L ::M::A,a,q,acc,fuel+1,_,hA,hacc,hlen,hq,hf=>by
  obtain⟨hL1,hL⟩:=hA L (by simp);simp only[length_cons] at hacc hf;have e1:a++zo (L::M::A)++b=a++zbr L++(124::(zo (M::A)++b)):=by rw[zoq];simp
  have e2:a++zbr L++(124::(zo (M::A)++b))=(a++zbr L++[124])++zo (M::A)++b:=by simp
  rw[e1] at hlen⊢;obtain⟨q1,h1,h2⟩:=qqb n L a (124::(zo (M::A)++b)) q (.inr ⟨_,.inr rfl⟩) hL hlen hq (by omega);obtain⟨q',g1,g2⟩:=z7p n b hb (M::A) (a++zbr L++[124]) q1 (acc++[zny (zqt L)]) fuel (by simp) (fun x hx=>hA x (by simp only[mem_cons] at hx⊢;exact .inr hx)) (by simp only[length_append,length_cons,length_nil] at hacc⊢;omega) (by rw[<-e2];exact hlen) (by rw[h2];exact hq) (by simp only[length_cons];omega);refine⟨q',?_,g2.trans h2⟩;have hp:=z8w hL;have hpl:(zqt L).length=L.length:=by simp[zqt]
  rw[zax];have:zsb n (Rd.mk (a++zbr L++(124::(zo (M::A)++b))) ((a.length:Nat):Int) 0 q,acc)=some (.inl (Rd.mk (a++zbr L++(124::(zo (M::A)++b))) (((a++zbr L++[124]).length:Nat):Int) 0 q1,acc++[zny (zqt L)])):=by
   have hl:((((a++zbr L).length:Nat):Int)+1)=(((a++zbr L++[124]).length:Nat):Int):=by simp only[length_append,length_cons,length_nil];omega
   have hl2:(a++zbr L).length<2^39:=by simp only[length_append,length_cons] at hlen⊢;omega
   unfold zsb;refine zak (Rd.mk (a++zbr L++(124::(zo (M::A)++b))) (((a++zbr L).length:Nat):Int) 0 q1,zqt L) ?_ ?_
   ·refine zaa _ rfl ?_;refine zaa _ h1 ?_;refine zak ([]++zqt L) ?_ rfl;exact zql (zqt L) [] (by rw[hpl];simp only[length_nil];omega)
   ·refine zf (by simp only;omega) (zm fun x3 hx3=> ?_);simp only at hx3;subst hx3;have hn:=zno (a++zbr L) (124::(zo (M::A)++b)) q1;cases acc with
    | nil=>
     rw[show isEmpty (Rd.mk (a++zbr L++(124::(zo (M::A)++b))) ((a.length:Nat):Int) 0 q,([]:List Tr)).2=true from rfl,cond_true];refine zf (by simp) ?_;refine zaa _ hn ?_;simp only;rw[show(hd0 (124::(zo (M::A)++b)) !=124)=false from rfl,cond_false];refine zf (by omega) ?_;rw[hl];rfl
    | cons t0 acc=>
     rw[show isEmpty (Rd.mk (a++zbr L++(124::(zo (M::A)++b))) ((a.length:Nat):Int) 0 q,t0::acc).2=false from rfl,cond_false];refine zf (by simp only[length_cons,length_nil] at hacc⊢;exact⟨trivial,by omega,by omega,by omega⟩) ?_;refine zaa _ hn ?_;simp only;rw[show(hd0 (124::(zo (M::A)++b)) !=124)=false from rfl,cond_false];refine zf (by omega) ?_;rw[hl]
  rw[this];simp only;rw[<-e2] at g1;rw[g1];rw[show acc++[zny (zqt L)]++zfr (M::A)=acc++zfr (L::M::A) by simp[zfr],show a++zbr L++[124]++zo (M::A)=a++zo (L::M::A) by rw[zoq];simp]
theorem qpz (n:Nat)(A:Alts)(a b:List UInt8)(q:Stk)(hb:EndP b)(hA:qdp n A)(hlen:(a++zo A++b).length<2^39)(hq:(zcv q).length+n<2^39):
 ∃q',z0v 1100 (n+1) (Rd.mk (a++zo A++b) ((a.length:Nat):Int) 0 q)=some (orT (zfr A),Rd.mk (a++zo A++b) (((a++zo A).length:Nat):Int) 0 q')/\ zcv q'=zcv q:=by
 obtain⟨h0,h1,h2⟩:=hA;obtain⟨q',g1,g2⟩:=z7p n b hb A a q [] 1100 h0 h1 (by simp only[length_nil];omega) hlen hq (by omega);refine⟨q',?_,g2⟩;have hp:=qjp A;show zvr 1100 _ _=_;unfold zvr;refine zak (Rd.mk (a++zo A++b) (((a++zo A).length:Nat):Int) 0 q',[]++zfr A) g1 ?_;have hne:isEmpty (zfr A)=false:=by
  cases A with
  |nil=>exact absurd rfl h0
  |cons=>rfl
 simp only[nil_append];rw[hne,cond_false];refine zf (by omega) (zm fun x hx=> ?_);rw[<-hx]
theorem zzi (n:Nat)(A:Alts)(a h b:List UInt8)(q:Stk)(hA:qdp n A)(hh:h.length<=3)(hlen:(a++h++zo A++41::b).length<2^39)(hq:(zcv q).length+(n+1)<2^39):
 ∃q',zfm (z0v 1100 (n+1)) (h.length:Int) (Rd.mk (a++h++zo A++41::b) ((a.length:Nat):Int) 0 q)=some (orT (zfr A),Rd.mk (a++h++zo A++41::b) (((a++h++zo A++[41]).length:Nat):Int) 0 q')/\ zcv q'=zcv q:=by
 have hp:zcv (ziy q ((a.length:Nat):Int))=zcv q++[((a.length:Nat):Int)]:=rfl;obtain⟨q1,g1,g2⟩:=qpz n A (a++h) (41::b) (ziy q ((a.length:Nat):Int)) (.inr ⟨_,rfl⟩) hA hlen (by rw[hp];simp only[length_append,length_cons,length_nil];omega);refine⟨zzt q1,?_,by rw[qmr,g2,hp];simp⟩;have hl1:((a.length:Nat):Int)+(h.length:Int)=(((a++h).length:Nat):Int):=by simp only[length_append];omega
 have hl2:((((a++h++zo A).length:Nat):Int)+1)=(((a++h++zo A++[41]).length:Nat):Int):=by simp only[length_append,length_cons,length_nil];omega
 have hl3:(a++h++zo A).length<2^39:=by simp only[length_append,length_cons] at hlen⊢;omega
 have hl4:a.length<2^39:=by simp only[length_append] at hl3;omega
 have hs:(zcv q1).length=(zcv q).length+1:=by rw[g2,hp];simp
 unfold zfm;refine zf (by simp only;omega) (zf (by simp only;omega) ?_);refine zaa _ (by simp only;rw[hl1];exact g1) ?_;refine zak (Rd.mk (a++h++zo A++41::b) (((a++h++zo A++[41]).length:Nat):Int) 0 (zzt q1)) ?_ rfl;refine zaa _ (z8h (a++h++zo A) 41 b q1) ?_;simp only;rw[show((((41:UInt8).toNat:Nat):Int)==41)=true from rfl,cond_true];refine zf (by omega) (zf (by omega) (zf (by intro e;rw[e] at hs;simp at hs) ?_));rw[hl2]
theorem qps (c:UInt8)(h:c≠42/\ c≠43/\ c≠63/\ c≠123): ¬Lib.indexByte ([42,43,63,123]:List UInt8) c>=0:=by
 obtain⟨h1,h2,h3,h4⟩:=h;simp[Lib.indexByte,List.findIdx?_cons,Ne.symm h1,Ne.symm h2,Ne.symm h3,Ne.symm h4]
theorem hd0_u8 (b:List UInt8):0<=hd0 b/\ hd0 b<256:=by
 cases b with
 |nil=>exact⟨by decide,by decide⟩
 | cons c t=>
  have:c.toNat<256:=c.toNat_lt;simp only[hd0];omega
theorem hd0_no {b:List UInt8} (h:z3c b): ¬Lib.indexByte ([42,43,63,123]:List UInt8) (zpa (hd0 b))>=0:=by
 cases b with
 |nil=>exact qps _ (by decide)
 | cons c t=>
  have e:zpa (hd0 (c::t))=c:=by simp[hd0,zpa]
  rw[e];exact qps c (h c t rfl)
theorem qpd {b:List UInt8} (h:z3c b):zeq 1100 b=some (1,1,0,0):=by
 cases b with
 |nil=>rfl
 | cons c t=>
  obtain⟨h1,h2,h3,h4⟩:=h c t rfl;have ne: ∀d:UInt8,c≠d->(((c.toNat:Nat):Int)==((d.toNat:Nat):Int))=false:=fun d hd=>by
   rw[beq_eq_false_iff_ne];intro e;exact hd (UInt8.toNat_inj.1 (by omega))
  unfold zeq;rw[show((c::t)==([]:List UInt8))=false from rfl,cond_false];refine zf (by simp only[length_cons];omega) (zm fun x hx=> ?_);have:x=c:=by rw[<-hx];rfl
  subst this;rw[show(((x.toNat:Nat):Int)==42)=false from ne 42 h1,cond_false,show(((x.toNat:Nat):Int)==43)=false from ne 43 h2,cond_false,show(((x.toNat:Nat):Int)==63)=false from ne 63 h3,cond_false,show(((x.toNat:Nat):Int)==123)=false from ne 123 h4,cond_false]
theorem zrs (y:Tr)(hy:(pre y).length<=10000)(a c b:List UInt8)(q:Stk)(lo hi:Int)(hc:zeq 1100 (c++b)=some (lo,hi,(c.length:Int),0))(hb:z3c b)(hlen:(a++c++b).length<2^39):
 zdg 1100 y (Rd.mk (a++c++b) ((a.length:Nat):Int) 0 q)=some (zde y lo hi,Rd.mk (a++c++b) (((a++c).length:Nat):Int) 0 q):=by
 have hl1:((a.length:Nat):Int)+(c.length:Int)=(((a++c).length:Nat):Int):=by simp only[length_append];omega
 have hl2:(a++c).length<2^39:=by simp only[length_append] at hlen⊢;omega
 have hl3:a.length<=(a++c++b).length:=by simp only[length_append];omega
 unfold zdg;rw[show((Rd.mk (a++c++b) ((a.length:Nat):Int) 0 q).e !=0)=false from rfl,cond_false];refine zf (by simp only;omega) (zm fun x1 hx1=> ?_);simp only at hx1;rw[List.append_assoc,zmi] at hx1;subst hx1;refine zaa _ hc ?_;rw[show((lo,hi,(c.length:Int),(0:Int)).2.2.2 !=0)=false from rfl,cond_false];refine zf (by simp only;omega) ?_;refine zak (Rd.mk (a++c++b) (((a++c).length:Nat):Int) 0 q) ?_ ?_
 ·simp only;rw[hl1];cases hc0:decide ((c.length:Int)>0) with
  |false=>rfl
  | true=>
   rw[cond_true];refine zaa _ (zno (a++c) b q) ?_;simp only;refine zf (hd0_u8 b) (zm fun x hx=> ?_);subst hx;rw[show decide (Lib.indexByte ([42,43,63,123]:List UInt8) (zpa (hd0 b))>=0)=false from decide_eq_false (hd0_no hb),cond_false]
 ·exact zf (by omega) (zm fun x hx=>by rw[<-hx])
def qph (c:List UInt8)(lo hi:Int):Prop:= ∀b,z3c b->b.length<2^39->zeq 1100 (c++b)=some (lo,hi,(c.length:Int),0)
theorem z5u:qph [] 1 1:=fun b hb _=>qpd hb
theorem at_nc (n:Nat)(A:Alts)(c:List UInt8)(lo hi:Int)(hA:qdp n A)(hc:qph c lo hi):AtP (n+1) ([40,63,58]++zo A++[41]++c) (zde (orT (zfr A)) lo hi) where
 hd:=⟨40,_,rfl,.inl rfl⟩
 len:=znj _ (z4d _) lo hi
 run a b q hlen hq hb:=by
  have e:a++([40,63,58]++zo A++[41]++c)++b=a++[40,63,58]++zo A++41::(c++b):=by simp
  have e2:a++[40,63,58]++zo A++41::(c++b)=a++[40,63,58]++zo A++[41]++c++b:=by simp
  rw[e] at hlen⊢;obtain⟨q',g1,g2⟩:=zzi n A a [40,63,58] (c++b) q hA (by decide) hlen hq;refine⟨orT (zfr A),Rd.mk (a++[40,63,58]++zo A++41::(c++b)) (((a++[40,63,58]++zo A++[41]).length:Nat):Int) 0 q',q',?_,?_,g2⟩
  rotate_left
  ·have h:=zrs (orT (zfr A)) (z4d _) (a++[40,63,58]++zo A++[41]) c b q' lo hi (hc b hb (by simp only[length_append,length_cons] at hlen;omega)) hb (by rw[<-e2];exact hlen);rw[<-e2] at h;rw[show a++([40,63,58]++zo A++[41]++c)=a++[40,63,58]++zo A++[41]++c by simp];exact h
  ·have hla:a.length<(a++[40,63,58]++zo A++41::(c++b)).length:=by simp only[length_append,length_cons,length_nil];omega
   have e3:a++[40,63,58]++zo A++41::(c++b)=a++([40,63,58]++zo A++41::(c++b)):=by simp
   unfold zhd;refine zf (by simp only;omega) (zm fun x1 hx1=> ?_);simp only at hx1;rw[e3,zmi] at hx1;subst hx1;refine zoc (_,Rd.mk _ _ _ _) ?_ rfl;refine zf (by simp only[length_append,length_cons];omega) (zm fun x2 hx2=> ?_);have:x2=40:=by rw[<-hx2];rfl
   subst this;rw[show((((40:UInt8).toNat:Nat):Int)==40)=true from rfl,cond_true];refine zm fun x3 hx3=> ?_;have:x3=true:=by rw[<-hx3];rfl
   subst this;rw[cond_true];exact zaa _ g1 rfl
theorem at_gr (n:Nat)(A:Alts)(c:List UInt8)(lo hi:Int)(hA:qdp n A)(hq63: ∀x t,zo A=x::t->x≠63)(hc:qph c lo hi):AtP (n+1) ([40]++zo A++[41]++c) (zde (zhw (orT (zfr A))) lo hi) where
 hd:=⟨40,_,rfl,.inl rfl⟩
 len:=znj _ (zix _) lo hi
 run a b q hlen hq hb:=by
  have e:a++([40]++zo A++[41]++c)++b=a++[40]++zo A++41::(c++b):=by simp
  have e2:a++[40]++zo A++41::(c++b)=a++[40]++zo A++[41]++c++b:=by simp
  rw[e] at hlen⊢;obtain⟨q',g1,g2⟩:=zzi n A a [40] (c++b) q hA (by decide) hlen hq;refine⟨zhw (orT (zfr A)),Rd.mk (a++[40]++zo A++41::(c++b)) (((a++[40]++zo A++[41]).length:Nat):Int) 0 q',q',?_,?_,g2⟩
  rotate_left
  ·have h:=zrs (zhw (orT (zfr A))) (zix _) (a++[40]++zo A++[41]) c b q' lo hi (hc b hb (by simp only[length_append,length_cons] at hlen;omega)) hb (by rw[<-e2];exact hlen);rw[<-e2] at h;rw[show a++([40]++zo A++[41]++c)=a++[40]++zo A++[41]++c by simp];exact h
  ·have hla:a.length<(a++[40]++zo A++41::(c++b)).length:=by simp only[length_append,length_cons,length_nil];omega
   have e3:a++[40]++zo A++41::(c++b)=a++([40]++zo A++41::(c++b)):=by simp
   unfold zhd;refine zf (by simp only;omega) (zm fun x1 hx1=> ?_);simp only at hx1;rw[e3,zmi] at hx1;subst hx1;refine zoc (_,Rd.mk _ _ _ _) ?_ rfl;refine zf (by simp only[length_append,length_cons];omega) (zm fun x2 hx2=> ?_);have:x2=40:=by rw[<-hx2];rfl
   subst this;rw[show((((40:UInt8).toNat:Nat):Int)==40)=true from rfl,cond_true];refine zm fun x3 hx3=> ?_;have:x3=false:=by
    rw[<-hx3];cases hA':zo A with
    |nil=>rfl
    | cons x t=>
     have:=hq63 x t hA';unfold Lib.hasPrefix;simp[List.isPrefixOf];intro h;exact absurd h.symm this
   subst this;rw[cond_false];refine zaa _ g1 ?_;refine zf (by have:=z4d (zfr A);simp only;omega) (zm fun x hx=> ?_);rw[<-hx]
theorem at_br (n:Nat)(its:List It)(c:List UInt8)(lo hi:Int)(hn:its≠[])(hg: ∀i∈its,gdI i)(hl:its.length<1000)(hc:qph c lo hi):AtP n ([91]++zky its++[93]++c) (zde (brT (z4t 0#256 its)) lo hi) where
 hd:=⟨91,_,rfl,.inr rfl⟩
 len:=znj _ (by rw[z6e];simp) lo hi
 run a b q hlen hq hb:=by
  have e:a++([91]++zky its++[93]++c)++b=a++([91]++zky its++[93])++c++b:=by simp
  rw[e] at hlen⊢;have hS:=qgy its hn hg;have hbr:=qbz its (c++b) hn hg hl (by simp only[length_append,length_cons] at hlen⊢;omega);refine⟨brT (z4t 0#256 its),Rd.mk (a++([91]++zky its++[93])++c++b) (((a++([91]++zky its++[93])).length:Nat):Int) 0 q,q,?_,?_,rfl⟩
  rotate_left
  ·have h:=zrs (brT (z4t 0#256 its)) (by rw[z6e];simp) (a++([91]++zky its++[93])) c b q lo hi (hc b hb (by simp only[length_append,length_cons] at hlen;omega)) hb hlen;rw[show a++([91]++zky its++[93]++c)=a++([91]++zky its++[93])++c by simp];exact h
  ·have hla:a.length<(a++([91]++zky its++[93])++c++b).length:=by simp only[length_append,length_cons,length_nil];omega
   have e3:a++([91]++zky its++[93])++c++b=a++(([91]:List UInt8)++zky its++[93]++(c++b)):=by simp
   have hll:((a.length:Nat):Int)+(((zky its).length:Int)+2)=(((a++([91]++zky its++[93])).length:Nat):Int):=by simp only[length_append,length_cons,length_nil];omega
   have hl2:(a++([91]++zky its++[93])).length<2^39:=by simp only[length_append] at hlen⊢;omega
   unfold zhd;refine zf (by simp only;omega) (zm fun x1 hx1=> ?_);simp only at hx1;rw[e3,zmi] at hx1;subst hx1;refine zoc (_,Rd.mk _ _ _ _) ?_ rfl;refine zf (by simp only[length_append,length_cons];omega) (zm fun x2 hx2=> ?_);have:x2=91:=by rw[<-hx2];rfl
   subst this;rw[show((((91:UInt8).toNat:Nat):Int)==40)=false from rfl,cond_false,show((((91:UInt8).toNat:Nat):Int)==91)=true from rfl,cond_true];refine zaa _ hbr ?_;simp only;rw[show((0:Int) !=0)=false from rfl,cond_false];refine zf (by omega) (zm fun x hx=> ?_);have:x=brT (z4t 0#256 its):=by rw[<-hx,ofT,if_neg hS];rfl
   subst this;rw[hll]
def zml (s:List UInt8):Int×Int->Option ((Int×Int) ⊕ ((Int×Int) ⊕ (Int×Int))):=
 (fun s1=>(bif (decide (s1.2<(length s:Int))) then(bif (decide (s1.2<2)) then(chk (0<=s1.2/\ s1.2<(length s:Int)) (zba (ix s s1.2) (fun x1=>(bif (decide ((((x1).toNat:Nat):Int)>=48)) then(chk (0<=s1.2/\ s1.2<(length s:Int)) (zba (ix s s1.2) (fun x2=>(bif (decide ((((x2).toNat:Nat):Int)<=57)) then(chk (I64 (10*s1.1)) (chk (0<=s1.2/\ s1.2<(length s:Int)) (zba (ix s s1.2) (fun x3=>(chk (I64 (IntKind.u8.wrap ((((x3).toNat:Nat):Int)-48))) (chk (I64 ((10*s1.1)+(IntKind.u8.wrap ((((x3).toNat:Nat):Int)-48)))) (chk (I64 (s1.2+1)) (some (inl (((10*s1.1)+(IntKind.u8.wrap ((((x3).toNat:Nat):Int)-48))),(s1.2+1))))))))))) else(some (inr (inl (s1.1,s1.2)))))))) else(some (inr (inl (s1.1,s1.2)))))))) else(some (inr (inl (s1.1,s1.2))))) else(some (inr (inl (s1.1,s1.2))))))
def isD (c:UInt8):Prop:=48<=c.toNat/\ c.toNat<=57
theorem u8_dig: ∀m:Nat,m<10->IntKind.u8.wrap ((m:Nat):Int)=((m:Nat):Int):=by decide
theorem zyw (s:List UInt8)(k:Nat)(n:Int)(c:UInt8)(hk:k<2)(hl:k<s.length)(hc:ix s ((k:Nat):Int)=c)(hd:isD c)(hn:0<=n/\ n<=9):zml s (n,((k:Nat):Int))=some (.inl (10*n+(((c.toNat:Nat):Int)-48),(((k+1:Nat)):Int))):=by
 obtain⟨d1,d2⟩:=hd;have hw:IntKind.u8.wrap (((c.toNat:Nat):Int)-48)=((c.toNat:Nat):Int)-48:=by
  have:=u8_dig (c.toNat-48) (by omega);rwa[show(((c.toNat-48:Nat):Nat):Int)=((c.toNat:Nat):Int)-48 by omega] at this
 unfold zml;dsimp only;rw[show decide (((k:Nat):Int)<(length s:Int))=true from decide_eq_true (by omega),cond_true,show decide (((k:Nat):Int)<2)=true from decide_eq_true (by omega),cond_true];refine zf (by omega) (zm fun x hx=> ?_);rw[hc] at hx;subst hx;rw[show decide (((c.toNat:Nat):Int)>=48)=true from decide_eq_true (by omega),cond_true];refine zf (by omega) (zm fun x hx=> ?_);rw[hc] at hx;subst hx;rw[show decide (((c.toNat:Nat):Int)<=57)=true from decide_eq_true (by omega),cond_true];refine zf (by omega) (zf (by omega) (zm fun x hx=> ?_));rw[hc] at hx;subst hx;rw[hw];refine zf (by omega) (zf (by omega) (zf (by omega) ?_));rfl
theorem nb_two (s:List UInt8)(n:Int):zml s (n,2)=some (.inr (.inl (n,2))):=by
 unfold zml;dsimp only;cases decide ((2:Int)<(length s:Int))<;>rfl
theorem qew (s a b:List UInt8)(n:Int)(hs:s=a++b)(hb: ∀c t,b=c::t-> ¬isD c):zml s (n,((a.length:Nat):Int))=some (.inr (.inl (n,((a.length:Nat):Int)))):=by
 unfold zml;dsimp only;cases b with
 | nil=>
  rw[show decide (((a.length:Nat):Int)<(length s:Int))=false from decide_eq_false (by rw[hs];simp),cond_false]
 | cons c t=>
  have hl:a.length<s.length:=by rw[hs];simp only[length_append,length_cons];omega
  have hc:ix s ((a.length:Nat):Int)=c:=by rw[hs,zvp]
  rw[show decide (((a.length:Nat):Int)<(length s:Int))=true from decide_eq_true (by omega),cond_true];cases h2:decide (((a.length:Nat):Int)<2) with
  |false=>rw[cond_false]
  | true=>
   rw[cond_true];refine zf (by omega) (zm fun x hx=> ?_);rw[hc] at hx;subst hx;have hn:=hb c t rfl;cases h3:decide (((c.toNat:Nat):Int)>=48) with
   |false=>rw[cond_false]
   | true=>
    rw[cond_true];refine zf (by omega) (zm fun x hx=> ?_);rw[hc] at hx;subst hx;rw[decide_eq_true_eq] at h3;rw[show decide (((c.toNat:Nat):Int)<=57)=false from decide_eq_false fun h=>hn ⟨by omega,by omega⟩,cond_false]
def qlf (b:List UInt8):Prop:= ∀c t,b=c::t-> ¬isD c
theorem qke (b:List UInt8)(hb:qlf b):zdu 1100 b=some (0,0):=by
 unfold zdu;refine zak (0,0) ?_ rfl;exact zns 1099 (qew b [] b 0 rfl hb)
theorem qed (c:UInt8)(b:List UInt8)(hc:isD c)(hb:qlf b):zdu 1100 (c::b)=some (((c.toNat:Nat):Int)-48,1):=by
 unfold zdu;refine zak (((c.toNat:Nat):Int)-48,1) ?_ rfl;have h1:=zyw (c::b) 0 0 c (by decide) (by simp) rfl hc ⟨by decide,by decide⟩;have h2:=qew (c::b) [c] b (((c.toNat:Nat):Int)-48) rfl hb;show zax (zml (c::b)) (1099+1) ((0:Int),((0:Nat):Int))=_;rw[zax,h1];rw[show(10*(0:Int)+(((c.toNat:Nat):Int)-48))=((c.toNat:Nat):Int)-48 by omega];exact zns 1098 h2
theorem qhd (c d:UInt8)(b:List UInt8)(hc:isD c)(hd:isD d):zdu 1100 (c::d::b)=some (10*(((c.toNat:Nat):Int)-48)+(((d.toNat:Nat):Int)-48),2):=by
 unfold zdu;refine zak (10*(((c.toNat:Nat):Int)-48)+(((d.toNat:Nat):Int)-48),2) ?_ rfl;have h1:=zyw (c::d::b) 0 0 c (by decide) (by simp) rfl hc ⟨by decide,by decide⟩;have h2:=zyw (c::d::b) 1 (((c.toNat:Nat):Int)-48) d (by decide) (by simp) rfl hd (by have:=hc.1;have:=hc.2;omega);show zax (zml (c::d::b)) (1099+1) ((0:Int),((0:Nat):Int))=_;rw[zax,h1];rw[show(10*(0:Int)+(((c.toNat:Nat):Int)-48))=((c.toNat:Nat):Int)-48 by omega];simp only;rw[show(1099:Nat)=1098+1 from rfl,zax,h2];exact zns 1097 (nb_two _ _)
theorem z8s (n:Nat)(hn:n<20)(b:List UInt8)(hb:qlf b):zdu 1100 (zhb n++b)=some (((n:Nat):Int),((zhb n).length:Int)):=by
 unfold zhb;by_cases h:n<10
 ·rw[if_pos h];have e:(UInt8.ofNat (48+n)).toNat=48+n:=by rw[UInt8.toNat_ofNat'];omega
  have:=qed (UInt8.ofNat (48+n)) b ⟨by omega,by omega⟩ hb;rw[e] at this;rw[show(((48+n:Nat):Nat):Int)-48=((n:Nat):Int) by omega] at this;exact this
 ·rw[if_neg h];have e:(UInt8.ofNat (38+n)).toNat=38+n:=by rw[UInt8.toNat_ofNat'];omega
  have:=qhd 49 (UInt8.ofNat (38+n)) b ⟨by decide,by decide⟩ ⟨by omega,by omega⟩;rw[e] at this;rw[show(10*((((49:UInt8).toNat:Nat):Int)-48)+((((38+n:Nat):Nat):Int)-48))=((n:Nat):Int) by rw[show(((49:UInt8).toNat:Nat):Int)=49 from rfl];omega] at this;exact this
theorem z2v (ds es b:List UInt8)(lo h0 hi:Int)(hds:ds≠[])(h1:zdu 1100 (ds++44::(es++125::b))=some (lo,(ds.length:Int)))(h2:zdu 1100 (es++125::b)=some (h0,(es.length:Int)))(hh:hi=if es=[] then-1 else h0)
 (g1:hi≠0) (g2:lo<=16) (g3:hi<=16) (g4:hi= -1 \/lo<=hi) (hlen:(ds++es++b).length<2^40):zgn 1100 (123::(ds++44::(es++125::b)))=some (lo,hi,((ds.length+es.length+3:Nat):Int),0):=by
 obtain⟨s,hs⟩: ∃s,s=(123:UInt8)::(ds++44::(es++125::b)):=⟨_,rfl⟩;rw[<-hs];have hsl:s.length=ds.length+es.length+b.length+3:=by rw[hs];simp only[length_append,length_cons];omega
 simp only[length_append] at hlen;have hdp:0<ds.length:=List.length_pos_iff.2 hds;unfold zgn;refine zf (by omega) (zm fun x1 hx1=> ?_);have e1:x1=ds++44::(es++125::b):=by rw[<-hx1,show(1:Int)=((1:Nat):Int) from rfl,zot,hs];rfl
 subst e1;refine zaa _ h1 ?_;dsimp only;refine zf (by omega) ?_;have a1:(1+(ds.length:Int))=(((123::ds:List UInt8).length:Nat):Int):=by simp only[length_cons];omega
 have a2:(1+(ds.length:Int))+1=(((123::ds++[44]:List UInt8).length:Nat):Int):=by simp only[length_cons,length_append,length_nil];omega
 have i1:ix s (1+(ds.length:Int))=44:=by rw[a1,show s=(123::ds)++44::(es++125::b) by rw[hs];rfl,zvp]
 refine zak (hi,(1+(ds.length:Int))+1+(es.length:Int)) ?_ ?_
 ·rw[show decide ((ds.length:Int)>0)=true from decide_eq_true (by omega),cond_true,show decide ((1+(ds.length:Int))<(length s:Int))=true from decide_eq_true (by omega),cond_true];refine zf (by omega) (zm fun x3 hx3=> ?_);rw[i1] at hx3;subst hx3;rw[show((((44:UInt8).toNat:Nat):Int)==44)=true from rfl,cond_true];refine zf (by omega) (zf (by omega) (zm fun x4 hx4=> ?_));have e4:x4=es++125::b:=by
   rw[<-hx4,a2,show s=(123::ds++[44])++(es++125::b) by rw[hs];simp,zmi]
  subst e4;refine zaa _ h2 ?_;dsimp only;refine zak hi ?_ (zf (by omega) rfl);cases es with
  |nil=>rw[hh];rfl
  | cons e0 es=>
   rw[hh,if_neg (by simp),show((length (e0::es):Int)==0)=false from beq_eq_false_iff_ne.2 (by simp only[length_cons];omega),cond_false]
 ·dsimp only;rw[show((ds.length:Int)==0)=false from beq_eq_false_iff_ne.2 (by omega),cond_false,show((1+(ds.length:Int))+1+(es.length:Int)==(length s:Int))=false from beq_eq_false_iff_ne.2 (by omega),cond_false];have a3:(1+(ds.length:Int))+1+(es.length:Int)=(((123::ds++[44]++es:List UInt8).length:Nat):Int):=by simp only[length_cons,length_append,length_nil];omega
  have i3:ix s ((1+(ds.length:Int))+1+(es.length:Int))=125:=by rw[a3,show s=(123::ds++[44]++es)++125::b by rw[hs];simp,zvp]
  refine zf (by omega) (zm fun x6 hx6=> ?_);rw[i3] at hx6;subst hx6;rw[show((((125:UInt8).toNat:Nat):Int) !=125)=false from rfl,cond_false];refine zak () ?_ ?_
  ·rw[show(hi==0)=false from beq_eq_false_iff_ne.2 g1,cond_false,show decide (lo>16)=false from decide_eq_false (by omega),cond_false,show decide (hi>16)=false from decide_eq_false (by omega),cond_false];rcases g4 with g4|g4
   ·rw[g4];rfl
   ·cases h9:(hi !=(-1)) with
    |false=>rfl
    |true=>rw[cond_true,show decide (hi<lo)=false from decide_eq_false (by omega),cond_false]
  ·refine zf (by omega) ?_;rw[show(1+(ds.length:Int))+1+(es.length:Int)+1=((ds.length+es.length+3:Nat):Int) by omega]
theorem zqc {c:UInt8} {t:List UInt8} (h: ¬isD c):qlf (c::t):=by
 intro d u e;cases e;exact h
theorem zyn (n:Nat):zhb n≠[]:=by unfold zhb;split<;>simp
theorem zkh (n:Nat):(zhb n).length<=2:=by unfold zhb;split<;>simp
def qky (mn mx:Int):List UInt8:=[123]++zhb mn.toNat++[44]++(if mx= -1 then[] else zhb mx.toNat)++[125]
theorem z4o {mn mx:Int} (hb:zei mn mx=true):(0<=mn/\ mn<=16)/\ (mx= -1 \/1<=mx/\ mx<=16/\ mn<=mx):=by
 unfold zei at hb;simp only[and_eq_true,Bool.not_eq_true',Bool.or_eq_false_iff,Bool.or_eq_true,decide_eq_true_eq,decide_eq_false_iff_not,Bool.and_eq_false_iff] at hb;omega
theorem qot (s:List UInt8)(lo hi n:Int)(h:zgn 1100 (123::s)=some (lo,hi,n,0)):zeq 1100 (123::s)=some (lo,hi,n,0):=by
 unfold zeq;rw[show(((123:UInt8)::s)==([]:List UInt8))=false from rfl,cond_false];refine zf (by simp only[length_cons];omega) (zm fun x hx=> ?_);have:x=123:=by rw[<-hx];rfl
 subst this;rw[show((((123:UInt8).toNat:Nat):Int)==42)=false from rfl,cond_false,show((((123:UInt8).toNat:Nat):Int)==43)=false from rfl,cond_false,show((((123:UInt8).toNat:Nat):Int)==63)=false from rfl,cond_false,show((((123:UInt8).toNat:Nat):Int)==123)=true from rfl,cond_true];exact zaa _ h rfl
theorem cnt_rep {mn mx:Int} (hb:zei mn mx=true):qph (qky mn mx) mn mx:=by
 obtain⟨⟨b1,b2⟩,b3⟩:=z4o hb;intro b _ hbl;obtain⟨es,hes⟩: ∃es,es=(if mx= -1 then[] else zhb mx.toNat):=⟨_,rfl⟩;have e:qky mn mx++b=123::(zhb mn.toNat++44::(es++125::b)):=by rw[qky, <-hes];simp
 have el:((qky mn mx).length:Int)=(((zhb mn.toNat).length+es.length+3:Nat):Int):=by rw[qky, <-hes];simp only[length_append,length_cons,length_nil];omega
 have d44: ¬isD 44:=by rintro⟨h,_⟩;exact absurd h (by decide)
 have d125: ¬isD 125:=by rintro⟨_,h⟩;exact absurd h (by decide)
 have h1:=z8s mn.toNat (by omega) (44::(es++125::b)) (zqc d44);rw[Int.toNat_of_nonneg b1] at h1;have hesl:es.length<=2:=by rw[hes];split;simp;exact zkh _
 have hml:=zkh mn.toNat
 have hl:(zhb mn.toNat++es++b).length<2^40:=by simp only[length_append];omega
 rw[e,el];refine qot _ _ _ _ ?_;by_cases hm:mx= -1
 ·have he:es=[]:=by rw[hes,if_pos hm]
  subst he;exact z2v _ [] b mn 0 mx (zyn _) h1 (qke (125::b) (zqc d125)) (by rw[if_pos rfl];exact hm) (by omega) (by omega) (by omega) (.inl hm) hl
 ·have he:es=zhb mx.toNat:=by rw[hes,if_neg hm]
  subst he;have h2:=z8s mx.toNat (by omega) (125::b) (zqc d125);rw[Int.toNat_of_nonneg (by omega)] at h2;exact z2v _ _ b mn mx mx (zyn _) h1 h2 (by rw[if_neg (zyn _)]) (by omega) (by omega) (by omega) (.inr (by omega)) hl
def z9i (x:Tr):List UInt8×Tr:=([40,63,58]++zdx x++[41],x)
theorem zva: ∀l:List Tr,zox l=zbr (l.map z9i)
 |[]=>by simp[zox,zbr]
 |x::l=>by rw[map_cons,zkq,zox,zva l];simp[z9i]
theorem qfo: ∀l:List Tr,zlc true l=zo (l.map fun x=>[z9i x])/\ zlc false l=if l=[] then[] else 124::zo (l.map fun x=>[z9i x])
 |[]=>by simp[zlc,zo]
 |[x]=>by simp[zlc,zo,zbr,z9i]
 | x::y::l=>by
  obtain⟨h1,h2⟩:=qfo (y::l);rw[if_neg (by simp)] at h2;have e:zo ((x::y::l).map fun x=>[z9i x])=([40,63,58]++zdx x++[41])++124::zo ((y::l).map fun x=>[z9i x]):=by
   simp only[map_cons];rw[zoq];simp[zbr,z9i]
  have st: ∀b,zlc b (x::y::l)=(if b=true then[] else[124])++[40,63,58]++zdx x++[41]++zlc false (y::l):=fun b=>by rw[zlc]
  rw[e,st,st,h2];simp
theorem zxn (s:BS):z4t 0#256 ((zfo s).map fun c=>((c,none):It))=s:=by
 refine BitVec.eq_of_getLsbD_eq fun i hi=> ?_;rw[zzm];simp only[BitVec.getLsbD_zero,Bool.false_or];cases h:s.getLsbD i with
 | true=>
  refine List.any_eq_true.2 ⟨(i,none),mem_map.2 ⟨i,List.mem_filter.2 ⟨List.mem_range.2 hi,h⟩,rfl⟩,?_⟩;exact z6x i hi
 | false=>
  rw[List.any_eq_false];intro x hx;obtain⟨c,hc,rfl⟩:=mem_map.1 hx;obtain⟨hc1,hc2⟩:=List.mem_filter.1 hc;have hne:i≠c:=fun e=>by subst e;rw[h] at hc2;cases hc2
  show ¬(bit c).getLsbD i=true;unfold bit;simp[BitVec.getLsbD_shiftLeft];omega
theorem qnx {s:BS} (h:s≠0#256):(zfo s).map (fun c=>((c,none):It))≠[]:=fun e=>by
 have:=zxn s;rw[e] at this;exact h this.symm
theorem qcs (s:BS):zky ((zfo s).map fun c=>((c,none):It))=(zfo s).flatMap hexS:=by
 unfold zky;rw[List.flatMap_map];rfl
theorem z5n {t:Tr} (h:zcn t=true)(hk:t.k=2):t=brT t.s/\ t.s≠0#256:=by
 obtain⟨k,s,mn,mx,l⟩:=t;simp only[Tr.k,Tr.s] at*;subst hk;rw[zco,zis] at h;simp at h;obtain⟨⟨⟨h1,h2⟩,h3⟩,h4⟩:=h;subst h1 h2 h3;exact⟨rfl,h4⟩
theorem zuo {t:Tr} (h:zcn t=true)(hk:t.k=5 \/t.k=6): ∃x,t.l=[x]:=by
 obtain⟨k,s,mn,mx,l⟩:=t;simp only[Tr.k,Tr.l] at*;have hl:l.length=1:=by
  rcases hk with rfl|rfl
  ·rw[zco] at h;simp at h;have:=h.2.1.1;omega
  ·rw[zco] at h;simp at h;have:=h.2;omega
 match l,hl with
 |[x],_=>exact⟨x,rfl⟩
theorem z4n {t:Tr} (h:t.k=3):zdx t=zox t.l:=by
 obtain⟨k,s,mn,mx,l⟩:=t;simp only[Tr.k] at h;subst h;simp[zdx,Tr.l]
theorem z3i {t:Tr} (h:t.k=4):zdx t=zlc true t.l:=by
 obtain⟨k,s,mn,mx,l⟩:=t;simp only[Tr.k] at h;subst h;simp[zdx,Tr.l]
theorem qel {t x:Tr} (h:t.k=5)(hx:t.l=[x]):zdx t=[40,63,58]++zdx x++[41]++qky t.mn t.mx:=by
 obtain⟨k,s,mn,mx,l⟩:=t;simp only[Tr.k,Tr.l] at h hx;subst h hx;by_cases hm:mx= -1<;>simp[zdx,qdd,qky,Tr.mn,Tr.mx,hm]
theorem say_hd (t:Tr)(y:UInt8)(u:List UInt8)(h:zdx t=y::u):y≠63:=by
 obtain⟨k,s,mn,mx,l⟩:=t;rw[zdx] at h;split at h
 ·cases h;decide
 split at h
 ·cases l with
  |nil=>simp[zox] at h
  |cons x l=>rw[zox] at h;cases h;decide
 split at h
 ·cases l with
  |nil=>simp[zlc] at h
  |cons x l=>rw[zlc] at h;cases h;decide
 split at h
 ·cases h;decide
 split at h
 ·cases h;decide
 ·cases h
theorem qcb {t x:Tr} (h:zcn t=true)(hk:t.k=5)(hx:t.l=[x]):t= .mk 5 0#256 t.mn t.mx [x]:=by
 obtain⟨k,s,mn,mx,l⟩:=t;simp only[Tr.k,Tr.l,Tr.mn,Tr.mx] at*;subst hk hx;rw[zco,zis] at h;simp at h;rw[h.1]
theorem zxy {t:Tr} (h:zcn t=true)(hk:t.k=5):zei t.mn t.mx=true:=by
 obtain⟨k,s,mn,mx,l⟩:=t;simp only[Tr.k,Tr.mn,Tr.mx] at*;subst hk;rw[zco] at h;simp at h;exact h.2.1.2
theorem pcTr_nc (l:List Tr):zqt (l.map z9i)=l:=by simp[zqt,z9i,Function.comp_def]
theorem z8o: ∀(m:Nat) (t:Tr),(pre t).length<=m->(pre t).length<1000->CT t-> ∃A,zo A=zdx t/\ zfr A=zjq t/\ qdp m A
 | 0,t,h,_,_=>by
  have:0<(pre t).length:=by rw[zef];simp
  omega
 | m +1,t,h,hm,hc=>by
  have hr:=hc.right;have hpl:(pre t).length=1+(zbj t.l).length:=by rw[zef];simp;omega
  have hll:=z6t t.l;have sub: ∀x∈t.l,AtP (m+1) (z9i x).1 (z9i x).2/\ (∀c lo hi,qph c lo hi->AtP (m+1) ([40,63,58]++zdx x++[41]++c) (zde x lo hi))/\ (∀c lo hi,qph c lo hi->AtP (m+1) ([40]++zdx x++[41]++c) (zde (zhw x) lo hi)):=by
   intro x hx;have hcx:=hc.sub hx;have hlx:=zcr hx;obtain⟨A,a1,a2,a3⟩:=z8o m x (by omega) (by omega) hcx;have ex:orT (zfr A)=x:=by rw[a2];exact z6c hcx
   have h1: ∀c lo hi,qph c lo hi->AtP (m+1) ([40,63,58]++zdx x++[41]++c) (zde x lo hi):=fun c lo hi hcn=>by
    have:=at_nc m A c lo hi a3 hcn;rwa[a1,ex] at this
   refine⟨?_,h1,fun c lo hi hcn=> ?_⟩
   ·have:=h1 [] 1 1 z5u;rw[z1q hcx,append_nil] at this;exact this
   ·have:=at_gr m A c lo hi a3 (fun y u hy=> ?_) hcn
    ·rwa[a1,ex] at this
    ·rw[a1] at hy;exact say_hd x y u hy
  have hk:=zvi hr;by_cases h4:t.k=4
  ·obtain⟨q1,q2⟩:=zhz hr h4;refine⟨t.l.map fun x=>[z9i x],?_,?_,?_⟩
   ·rw[<-(qfo t.l).1,z3i h4]
   ·rw[zjq,if_pos h4,zfr,List.map_map];refine(List.map_congr_left fun x hx=> ?_).trans (List.map_id t.l);show zny [x]=x;exact z7e (hc.sub hx)
   ·refine⟨by intro e;rw[List.map_eq_nil_iff] at e;rw[e] at q1;simp at q1,?_,by rw[length_map];omega⟩;intro L hL;obtain⟨x,hx,rfl⟩:=mem_map.1 hL;refine⟨by simp,fun p hp=> ?_⟩;rw[mem_singleton] at hp;subst hp;exact(sub x hx).1
  ·have one: ∀L:Pcs,zbr L=zdx t->zqt L=z3v t->L.length<1000->(∀p∈L,AtP (m+1) p.1 p.2)-> ∃A,zo A=zdx t/\ zfr A=zjq t/\ qdp (m+1) A:=fun L l1 l2 l3 l4=>by
    refine⟨[L],l1,?_,by simp,?_,by simp⟩
    ·rw[zjq,if_neg h4]
     show[zny (zqt L)]=[t]
     rw[l2,seq_pcs hc]
    ·intro M hM;rw[mem_singleton] at hM;subst hM;exact⟨l3,l4⟩
   rcases hk with hk|hk|hk|hk|hk|hk
   ·refine one [] ?_ ?_ (by simp) (by simp)
    ·rw[qeh hr hk];simp[emptyT,zdx,zbr]
    ·rw[z3v,if_pos hk];rfl
   ·obtain⟨e1,e2⟩:=z5n hr hk;have hb:=at_br (m+1) ((zfo t.s).map fun c=>((c,none):It)) [] 1 1 (qnx e2) (by
     intro i hi;obtain⟨c,hc,rfl⟩:=mem_map.1 hi;exact List.mem_range.1 (List.mem_filter.1 hc).1) (by
     rw[length_map];exact Nat.lt_of_le_of_lt (List.length_filter_le _ _) (by simp)) z5u
    rw[zxn,qcs,append_nil,qex e2, <-e1] at hb;refine one [([91]++(zfo t.s).flatMap hexS++[93],t)] ?_ ?_ (by simp) (fun p hp=>by rw[mem_singleton] at hp;subst hp;exact hb)
    ·rw[show zdx t=[91]++(zfo t.s).flatMap hexS++[93] by rw[e1];simp[brT,zdx,Tr.s]];simp[zbr]
    ·rw[z3v,if_neg (by omega),if_neg (by omega)];rfl
   ·refine one (t.l.map z9i) ?_ ?_ (by rw[length_map];omega) ?_
    ·rw[<-zva,z4n hk]
    ·rw[pcTr_nc,z3v,if_neg (by omega),if_pos hk]
    ·intro p hp;obtain⟨x,hx,rfl⟩:=mem_map.1 hp;exact(sub x hx).1
   ·exact absurd hk h4
   ·obtain⟨x,hx⟩:=zuo hr (.inl hk);have hx':x∈t.l:=by rw[hx];simp
    have et:t= .mk 5 0#256 t.mn t.mx [x]:=qcb hr hk hx;have hb:zei t.mn t.mx=true:=zxy hr hk;have h1:=(sub x hx').2.1 (qky t.mn t.mx) t.mn t.mx (cnt_rep hb);rw[qpl (by rw[<-et];exact hc), <-et] at h1;refine one [([40,63,58]++zdx x++[41]++qky t.mn t.mx,t)] ?_ ?_ (by simp) (fun p hp=>by rw[mem_singleton] at hp;subst hp;exact h1)
    ·rw[qel hk hx];simp[zbr]
    ·rw[z3v,if_neg (by omega),if_neg (by omega)];rfl
   ·obtain⟨x,hx⟩:=zuo hr (.inr hk);have hx':x∈t.l:=by rw[hx];simp
    have et:t= .mk 6 0#256 0 0 [x]:=by
     have:=zgx hr (by omega) (by omega);rwa[hk,hx] at this
    have h1:=(sub x hx').2.2 [] 1 1 z5u;rw[cap_one (by rw[<-et];exact hc), <-et,z1q hc,append_nil] at h1;refine one [([40]++zdx x++[41],t)] ?_ ?_ (by simp) (fun p hp=>by rw[mem_singleton] at hp;subst hp;exact h1)
    ·rw[et];simp[zbr,zdx,qdd]
    ·rw[z3v,if_neg (by omega),if_neg (by omega)];rfl
theorem qam (b e:Bool)(t:Tr)(h:(pre t).length<2^60):zjs (Rg.mk b e t)=some (zjz t):=by
 unfold zjs zjz;refine zf (by simp only;omega) (zm fun x hx=> ?_);simp only at hx;cases hc:zda t with
 | false=>
  rw[hc] at hx;subst hx;rfl
 | true=>
  rw[hc] at hx;subst hx;have hli:zfv t=true:=by rw[zda,and_eq_true] at hc;exact hc.1
  have hpl:=zfg hc;simp only[Bool.not_true,cond_false];refine zf (by omega) (zm fun x hx=> ?_);subst hx;cases h1:decide (zsq t>120) with
  |true=>rfl
  | false=>
   simp only[cond_false];refine zaa (znl t) ?_ ?_
   ·unfold zkx;refine zf (by omega) (zm fun x hx=> ?_);rw[hli] at hx;subst hx;simp only[Bool.not_true,cond_false];refine zf (by omega) (zm fun x hx=> ?_);rw[znl,if_pos hli,hx]
   ·cases h2:decide (znl t>400) with
    |true=>rfl
    | false=>
     simp only[cond_false];refine zf (by omega) (zm fun x hx=> ?_);subst hx;cases decide (zvq t>9)<;>rfl
def zsr (u:List UInt8):Prop:= ∀v z,u=v++[z]->z≠36/\ z≠92
theorem zxx (u:List UInt8)(z c:UInt8):Lib.hasSuffix (u++[z]) [c]=(c==z):=by
 unfold Lib.hasSuffix;simp[List.isSuffixOf,List.isPrefixOf]
theorem zne (u:List UInt8):u=[] \/ ∃v z,u=v++[z]:=by
 rcases List.eq_nil_or_concat u with h|⟨v,z,h⟩
 ·exact .inl h
 ·exact .inr ⟨v,z,by simpa using h⟩
theorem qgo (u:List UInt8)(h:zsr u)(hl:u.length<2^40):zpz u=some false:=by
 unfold zpz;have hs:Lib.hasSuffix u ([36]:List UInt8)=false:=by
  rcases zne u with rfl|⟨v,z,rfl⟩
  ·rfl
  ·rw[zxx];have:=(h v z rfl).1;rw[beq_eq_false_iff_ne];exact fun e=>this e.symm
 refine zf (by omega) (zm fun x hx=> ?_);have:x.2=false:=by rw[<-hx];exact hs
 rw[this,cond_false]
theorem qnz (u:List UInt8)(h:zsr u)(hl:u.length<2^40):zpz (u++[36])=some true:=by
 unfold zpz;have hs:Lib.hasSuffix (u++[36]) ([36]:List UInt8)=true:=by rw[zxx];rfl
 have ht:Lib.trimSuffix (u++[36]) ([36]:List UInt8)=u:=by unfold Lib.trimSuffix;rw[if_pos hs];simp
 have hr:Lib.trimRightB u 92=u:=by
  unfold Lib.trimRightB;rcases zne u with rfl|⟨v,z,rfl⟩
  ·rfl
  ·have:=(h v z rfl).2;rw[List.reverse_append];simp[List.dropWhile,this]
 refine zf (by simp only[length_append,length_cons,length_nil];omega) (zm fun x hx=> ?_);rw[ht,hs] at hx;subst hx;simp only[cond_true];refine zf (by omega) (zm fun x hx=> ?_);rw[hr] at hx;subst hx;refine zf (by omega) ?_;rw[show((u.length:Int)-(u.length:Int))=0 by omega];rfl
def qcx (b e:Bool)(t:Tr)(n:Int):Rg×Int×Int:=if zjz t=0 then(Rg.mk b e t,n,0) else(Rg.mk false false zaw,n,zjz t)
theorem read_eq (n:Nat)(A:Alts)(b e:Bool)(hA:qdp n A)(hn:n<2^38)(hhd: ∀y t,zo A=y::t->y≠94)(hla:zsr (zo A))(hlen:(zo A).length<990):
 zwf 1100 (n+1) ((if b=true then[94] else[])++zo A++(if e=true then[36] else[]))=some (qcx b e (orT (zfr A)) ((((if b=true then[94] else[])++zo A++(if e=true then[36] else[]):List UInt8).length:Nat):Int)):=by
 obtain⟨s,hs⟩: ∃s,s=((if b=true then[94] else[])++zo A++(if e=true then[36] else[]):List UInt8):=⟨_,rfl⟩;rw[<-hs];have hsl:s.length<=(zo A).length+2:=by
  rw[hs];cases b<;>cases e<;>simp
 have hsl2:(zo A).length<=s.length:=by
  rw[hs];cases b<;>cases e<;>simp<;>omega
 obtain⟨w,hw⟩: ∃w,w=(zo A++(if e=true then[36] else[]):List UInt8):=⟨_,rfl⟩;have hsw:s=(if b=true then[94] else[])++w:=by rw[hs,hw];simp
 have hwl:w.length<=s.length:=by rw[hsw];simp
 have hpre:Lib.hasPrefix s ([94]:List UInt8)=b:=by
  rw[hsw];cases b with
  |true=>rfl
  | false=>
   rw[hw];show Lib.hasPrefix (zo A++_) [94]=false;cases hA':zo A with
   |nil=>cases e<;>rfl
   | cons y t=>
    have:=hhd y t hA';unfold Lib.hasPrefix;simp[List.isPrefixOf];exact fun h=>this h.symm
 have htr:Lib.trimPrefix s ([94]:List UInt8)=w:=by
  unfold Lib.trimPrefix;rw[hpre,hsw];cases b<;>rfl
 have hend:zpz w=some e:=by
  rw[hw];cases e with
  |true=>exact qnz _ hla (by omega)
  | false=>
   show zpz (zo A++[])=_;rw[append_nil];exact qgo _ hla (by omega)
 obtain⟨q',g1,g2⟩:=qpz n A [] [] none (.inl rfl) hA (by simp only[nil_append,append_nil];omega) (by show 0+n<2^39;omega);rw[nil_append,append_nil] at g1;have hq0:zcv q'=[]:=g2;have hlt:=z4d (zfr A);unfold zwf z2o;rw[show decide ((length s:Int)>1000)=false from decide_eq_false (by omega),cond_false];refine zm fun x1 hx1=> ?_;rw[htr,hpre] at hx1;subst hx1;simp only;refine zf (by omega) ?_;refine zaa _ hend ?_;refine zak (zo A) ?_ ?_
 ·cases e with
  |false=>rw[cond_false,hw];simp
  | true=>
   rw[cond_true];have hwl2:w.length=(zo A).length+1:=by rw[hw];simp
   refine zf (by omega) (zf (by omega) (zm fun x3 hx3=> ?_));have:x3=zo A:=by
    rw[<-hx3,sub,hw];have e1:(((zo A++[36]:List UInt8).length:Nat):Int)-1=(((zo A).length:Nat):Int):=by simp only[length_append,length_cons,length_nil];omega
    simp only[if_true];rw[e1];simp
   rw[this]
 refine zaa _ g1 ?_;simp only;refine zak (Rd.mk (zo A) (((zo A).length:Nat):Int) 0 q') ?_ ?_
 ·rw[show((0:Int) !=0)=false from rfl,cond_false,show decide ((((zo A).length:Nat):Int)<(length (zo A):Int))=false by simp,cond_false,hq0];rfl
 ·simp only;rw[show((0:Int) !=0)=false from rfl,cond_false];refine zaa _ (qam b e _ (by omega)) ?_;unfold qcx;by_cases h0:zjz (orT (zfr A))=0
  ·rw[if_pos h0,h0];rfl
  ·rw[if_neg h0,show(zjz (orT (zfr A)) !=0)=true by simpa using h0,cond_true]
theorem bit_of (s:BS)(i:Nat)(hi:i<256):(zlx .u64 (zgc .u64 (wd s (i/64)) ((i%64:Nat):Int)) 1==1)=s.getLsbD i:=by
 rw[wd,z9q (W64 s (i/64)) (i%64) (Nat.mod_lt _ (by decide)),W64,BitVec.getLsbD_extractLsb'];rw[show 64*(i/64)+i%64=i by omega];simp[Nat.mod_lt]
theorem qob (i:Nat)(hi:i<256):IntKind.u8.wrap ((i:Nat):Int)=((i:Nat):Int):=(zyd i hi).2.2
theorem z9a (c:Nat):(hexS c).length=4:=rfl
theorem zjk: ∀l:List Nat,(l.flatMap hexS).length=4*l.length
 |[]=>rfl
 |c::l=>by rw[List.flatMap_cons,length_append,z9a,zjk l,length_cons];omega
theorem z6d (s:BS)(i:Nat):(elN s i).length<=i:=Nat.le_trans (List.length_filter_le _ _) (by simp)
def sb1 (t:Tr):List UInt8×Int->Option ((List UInt8×Int) ⊕ (List UInt8 ⊕ (List UInt8 ⊕ List UInt8))):=
 (fun s1=>(bif (decide (s1.2<256)) then(zcu (τ:=(List UInt8)) (chk (0<=(IntKind.i64.wrap (tdiv s1.2 64))/\ (IntKind.i64.wrap (tdiv s1.2 64))<4) (chk (0<=(tmod s1.2 64)) (bif ((zlx .u64 (zgc .u64 (wd t.s (toNat (IntKind.i64.wrap (tdiv s1.2 64)))) (tmod s1.2 64)) 1)==1) then(chk (0<=(IntKind.u8.wrap s1.2)/\ (IntKind.u8.wrap s1.2)<256) (zba (hexS (toNat (IntKind.u8.wrap s1.2))) (fun x1=>(chk (length s1.1+length x1<=9223372036854775807) (some (inl ((s1.1++x1)))))))) else(some (inl (s1.1)))))) (fun j3=>(chk (I64 (s1.2+1)) (some (inl (j3,(s1.2+1))))))) else(some (inr (inl (s1.1))))))
theorem qah (t:Tr): ∀(k i fuel:Nat),i+k=256->k<fuel->zax (sb1 t) fuel ((elN t.s i).flatMap hexS,((i:Nat):Int))=some (.inl ((zfo t.s).flatMap hexS))
 |_,_,0,_,h=>absurd h (not_lt_zero _)
 | 0,i,fuel+1,hi,hf=>by
  have:i=256:=by omega
  subst this;rw[zax];rfl
 | k +1,i,fuel+1,hi,hf=>by
  obtain⟨_,_,s3,s4,_,_⟩:=qhw i (by omega);have hl:=zjk (elN t.s i);have hl2:=z6d t.s i;have hb:sb1 t ((elN t.s i).flatMap hexS,((i:Nat):Int))=some (.inl ((elN t.s (i+1)).flatMap hexS,(((i+1:Nat)):Int))):=by
   unfold sb1;dsimp only;rw[show decide (((i:Nat):Int)<256)=true from decide_eq_true (by omega),cond_true];refine zak ((elN t.s (i+1)).flatMap hexS) ?_ (zf (by omega) rfl);rw[s3,s4];refine zf (by omega) (zf (by omega) ?_);rw[Int.toNat_natCast,bit_of t.s i (by omega),z0e];cases h:t.s.getLsbD i with
   |false=>rw[cond_false];simp
   | true=>
    rw[cond_true,qob i (by omega)];refine zf (by omega) (zm fun x hx=> ?_);rw[Int.toNat_natCast] at hx;subst hx;refine zf (by rw[hl,z9a];omega) ?_;simp
  rw[zax,hb];exact qah t k (i+1) fuel (by omega) (by omega)
theorem zys (a b:List Tr):zox (a++b)=zox a++zox b:=by rw[zva,zva,zva];simp[zbr]
theorem z2w (x:Tr): ∀(l:List Tr) (c:Bool),zlc c (l++[x])=zlc c l++(if l=[] then(if c=true then[] else[124]) else[124])++([40,63,58]++zdx x++[41])
 |[],c=>by simp[zlc]
 | y::l,c=>by
  have st: ∀(c:Bool) (y:Tr) (l:List Tr),zlc c (y::l)=(if c=true then[] else[124])++[40,63,58]++zdx y++[41]++zlc false l:=fun c y l=>by rw[zlc]
  rw[cons_append,st,st c y l,z2w x l false,if_neg (List.cons_ne_nil y l)];have e:(if l=[] then(if false=true then[] else[124]) else[124]:List UInt8)=[124]:=by cases l<;>rfl
  rw[e];simp
theorem qfc {t x:Tr} (h:x∈t.l)(hs:SY t)(hk:t.k=3 \/t.k=4 \/t.k=5 \/t.k=6)(h1:t.k=5 \/t.k=6->t.l=[x]):(zdx x).length<(zdx t).length:=by
 obtain⟨k,s,mn,mx,l⟩:=t;simp only[Tr.k,Tr.l] at*;rcases hk with rfl|rfl|rfl|rfl
 ·obtain⟨a,b,rfl⟩:=List.append_of_mem h;rw[show zdx (.mk 3 s mn mx (a++x::b))=zox (a++x::b) by simp[zdx],zys,zox];simp only[length_append,length_cons,length_nil];omega
 ·obtain⟨a,b,rfl⟩:=List.append_of_mem h;rw[show zdx (.mk 4 s mn mx (a++x::b))=zlc true (a++x::b) by simp[zdx]];have: ∀(a:List Tr) (c:Bool),(zdx x).length<(zlc c (a++x::b)).length:=by
   intro a;induction a with
   |nil=>intro c;rw[nil_append,zlc];simp only[length_append,length_cons,length_nil];omega
   |cons y a ih=>intro c;rw[cons_append,zlc];have:=ih false;simp only[length_append] at*;omega
  exact this a true
 ·rw[h1 (.inl rfl)];by_cases hm:mx= -1<;>simp[zdx,qdd,hm]<;>omega
 ·rw[h1 (.inr rfl)];simp[zdx,qdd];omega
theorem zuu {x y:Tr}: ∀ {l:List Tr},x∈l->y∈pre x->y∈zbj l
 | z::l,h,hy=>by
  rw[zbj,List.mem_append];rcases mem_cons.1 h with rfl|h
  ·exact .inl hy
  ·exact .inr (zuu h hy)
theorem qhb {t x:Tr} (h:x∈t.l)(hs:SY t)(hl:(zdx x).length<=(zdx t).length):SY x:=by
 refine⟨fun y hy=>hs.1 y ?_,Nat.le_trans hl hs.2⟩;rw[zef];exact List.mem_cons_of_mem _ (zuu h hy)
def sb2 (n:Nat)(t:Tr):List UInt8×Int->Option ((List UInt8×Int) ⊕ (List UInt8 ⊕ List UInt8)):=
 (fun s2=>(bif (decide (s2.2<(length t.l:Int))) then(chk (0<=s2.2/\ s2.2<(length t.l:Int)) (zba (ix t.l s2.2) (fun x2=>(chk ((pre x2).length<n/\ SY x2) (zba (zdx x2) (fun x3=>(chk (length ([40,63,58]:List UInt8)+length x3<=9223372036854775807) (chk (length (([40,63,58]:List UInt8)++x3)+length ([41]:List UInt8)<=9223372036854775807) (chk (length s2.1+length ((([40,63,58]:List UInt8)++x3)++([41]:List UInt8))<=9223372036854775807) (chk (I64 (s2.2+1)) (some (inl ((s2.1++((([40,63,58]:List UInt8)++x3)++([41]:List UInt8))),(s2.2+1)))))))))))))) else(some (inr (inl (s2.1))))))
def sb3 (n:Nat)(t:Tr):List UInt8×Int->Option ((List UInt8×Int) ⊕ (List UInt8 ⊕ List UInt8)):=
 (fun s3=>(bif (decide (s3.2<(length t.l:Int))) then(chk (0<=s3.2/\ s3.2<(length t.l:Int)) (zba (ix t.l s3.2) (fun x4=>(zcu (τ:=(List UInt8)) (bif (decide (s3.2>0)) then(chk (length s3.1+length ([124]:List UInt8)<=9223372036854775807) (some (inl ((s3.1++([124]:List UInt8)))))) else(some (inl (s3.1)))) (fun j4=>(chk ((pre x4).length<n/\ SY x4) (zba (zdx x4) (fun x5=>(chk (length ([40,63,58]:List UInt8)+length x5<=9223372036854775807) (chk (length (([40,63,58]:List UInt8)++x5)+length ([41]:List UInt8)<=9223372036854775807) (chk (length j4+length ((([40,63,58]:List UInt8)++x5)++([41]:List UInt8))<=9223372036854775807) (chk (I64 (s3.2+1)) (some (inl ((j4++((([40,63,58]:List UInt8)++x5)++([41]:List UInt8))),(s3.2+1)))))))))))))))) else(some (inr (inl (s3.1))))))
theorem z9j (n:Nat)(t:Tr)(hk: ∀x∈t.l,(pre x).length<n/\ SY x)(hll:t.l.length<=2^40)(hlen:(zox t.l).length<=2^40): ∀(k i fuel:Nat),i+k=t.l.length->k<fuel->zax (sb2 n t) fuel (zox (t.l.take i),((i:Nat):Int))=some (.inl (zox t.l))
 |_,_,0,_,h=>absurd h (not_lt_zero _)
 | 0,i,fuel+1,hi,hf=>by
  have:i=t.l.length:=by omega
  subst this;rw[zax];have:sb2 n t (zox (t.l.take t.l.length),((t.l.length:Nat):Int))=some (.inr (.inl (zox t.l))):=by
   unfold sb2;dsimp only;rw[show decide (((t.l.length:Nat):Int)<(length t.l:Int))=false by simp,cond_false,List.take_length]
  rw[this]
 | k+1,i,fuel+1,hi,hf=>by
  have hil:i<t.l.length:=by omega
  have hx:=hk t.l[i] (getElem_mem hil);have e1:t.l.take (i+1)=t.l.take i++[t.l[i]]:=by rw[List.take_add_one,List.getElem?_eq_getElem hil];rfl
  have e2:zox (t.l.take (i+1))=zox (t.l.take i)++([40,63,58]++zdx t.l[i]++[41]):=by rw[e1,zys];simp[zox]
  have e3:(zox (t.l.take (i+1))).length<=2^40:=by
   have:zox t.l=zox (t.l.take (i+1))++zox (t.l.drop (i+1)):=by rw[<-zys,List.take_append_drop]
   rw[this,length_append] at hlen;omega
  rw[e2] at e3;simp only[length_append,length_cons,length_nil] at e3;have hb:sb2 n t (zox (t.l.take i),((i:Nat):Int))=some (.inl (zox (t.l.take (i+1)),(((i+1:Nat)):Int))):=by
   unfold sb2;dsimp only;rw[show decide (((i:Nat):Int)<(length t.l:Int))=true from decide_eq_true (by omega),cond_true];refine zf (by omega) (zm fun x hx'=> ?_);rw[zur hil] at hx';subst hx';refine zf hx (zm fun x hx'=> ?_);subst hx';refine zf (by simp only[length_cons,length_nil];omega) (zf (by simp only[length_append,length_cons,length_nil];omega) (zf (by simp only[length_append,length_cons,length_nil];omega) (zf (by omega) ?_)));rw[e2];rfl
  rw[zax,hb];exact z9j n t hk hll hlen k (i+1) fuel (by omega) (by omega)
theorem qeq (c:Bool): ∀(a b:List Tr),(zlc c a).length<=(zlc c (a++b)).length
 |[],b=>by simp[zlc]
 | x::a,b=>by
  rw[cons_append,zlc,zlc];have:=qeq false a b;simp only[length_append];omega
theorem qae (n:Nat)(t:Tr)(hk: ∀x∈t.l,(pre x).length<n/\ SY x)(hll:t.l.length<=2^40)(hlen:(zlc true t.l).length<=2^40): ∀(k i fuel:Nat),i+k=t.l.length->k<fuel->zax (sb3 n t) fuel (zlc true (t.l.take i),((i:Nat):Int))=some (.inl (zlc true t.l))
 |_,_,0,_,h=>absurd h (not_lt_zero _)
 | 0,i,fuel+1,hi,hf=>by
  have:i=t.l.length:=by omega
  subst this;rw[zax];have:sb3 n t (zlc true (t.l.take t.l.length),((t.l.length:Nat):Int))=some (.inr (.inl (zlc true t.l))):=by
   unfold sb3;dsimp only;rw[show decide (((t.l.length:Nat):Int)<(length t.l:Int))=false by simp,cond_false,List.take_length]
  rw[this]
 | k +1,i,fuel+1,hi,hf=>by
  have hil:i<t.l.length:=by omega
  have hx:=hk t.l[i] (getElem_mem hil);have e1:t.l.take (i+1)=t.l.take i++[t.l[i]]:=by rw[List.take_add_one,List.getElem?_eq_getElem hil];rfl
  have e2:=z2w t.l[i] (t.l.take i) true;rw[<-e1] at e2;have e4:(if t.l.take i=[] then(if true=true then[] else[124]) else[124]:List UInt8)=(if i=0 then[] else[124]):=by
   by_cases h0:i=0
   ·subst h0;simp
   ·rw[if_neg h0,if_neg];intro e;rcases List.take_eq_nil_iff.1 e with e|e
    ·exact h0 e
    ·rw[e] at hil;exact absurd hil (not_lt_zero _)
  rw[e4] at e2;have e3:(zlc true (t.l.take (i+1))).length<=2^40:=by
   have:=qeq true (t.l.take (i+1)) (t.l.drop (i+1));rw[List.take_append_drop] at this;omega
  rw[e2] at e3;simp only[length_append,length_cons,length_nil] at e3;have hb:sb3 n t (zlc true (t.l.take i),((i:Nat):Int))=some (.inl (zlc true (t.l.take (i+1)),(((i+1:Nat)):Int))):=by
   unfold sb3;dsimp only;rw[show decide (((i:Nat):Int)<(length t.l:Int))=true from decide_eq_true (by omega),cond_true];refine zf (by omega) (zm fun x hx'=> ?_);rw[zur hil] at hx';subst hx';refine zak (zlc true (t.l.take i)++(if i=0 then[] else[124])) ?_ ?_
   ·by_cases h0:i=0
    ·rw[if_pos h0,show decide (((i:Nat):Int)>0)=false from decide_eq_false (by omega),cond_false];simp
    ·rw[if_neg h0,show decide (((i:Nat):Int)>0)=true from decide_eq_true (by omega),cond_true];exact zf (by simp only[length_cons,length_nil];omega) rfl
   refine zf hx (zm fun x hx'=> ?_);subst hx';refine zf (by simp only[length_cons,length_nil];omega) (zf (by simp only[length_append,length_cons,length_nil];omega) (zf (by simp only[length_append,length_cons,length_nil];omega) (zf (by omega) ?_)));rw[e2];rfl
  rw[zax,hb];exact qae n t hk hll hlen k (i+1) fuel (by omega) (by omega)
theorem sy_head {t x:Tr} {l:List Tr} (hl:t.l=x::l)(hk:t.k=5 \/t.k=6):(zdx x).length<=(zdx t).length:=by
 obtain⟨k,s,mn,mx,l'⟩:=t;simp only[Tr.k,Tr.l] at*;subst hl;rcases hk with rfl|rfl
 ·by_cases hm:mx= -1<;>simp[zdx,qdd,hm]<;>omega
 ·simp[zdx,qdd];omega
theorem say_eq (t:Tr)(hs:SY t)(hpl:(pre t).length<2^40):z7v (300+t.l.length) (pre t).length t=some (zdx t):=by
 have hself:t∈pre t:=by rw[zef];simp
 have hlt: ∀x∈t.l,(pre x).length<(pre t).length:=fun x hx=>by
  have h1:=zcr hx;have h2:=zii t;omega
 have hll:t.l.length<=2^40:=by have:=zmu t;omega
 have hl40:=hs.2;unfold z7v;by_cases h2:t.k=2
 ·rw[show(((t.k:Nat):Int)==2)=true by rw[h2];rfl,cond_true];have es:zdx t=[91]++(zfo t.s).flatMap hexS++[93]:=by
   obtain⟨k,s,mn,mx,l⟩:=t;simp only[Tr.k] at h2;subst h2;simp[zdx,Tr.s]
  have hl:=zjk (zfo t.s);have hl2:(zfo t.s).length<=256:=z6d t.s 256;refine zoc (zdx t) ?_ rfl;refine zak ((zfo t.s).flatMap hexS) (qah t 256 0 (300+t.l.length) (by omega) (by omega)) ?_;refine zf (by simp only[length_cons,length_nil];omega) (zf (by simp only[length_append,length_cons,length_nil];omega) ?_);rw[es]
 rw[show(((t.k:Nat):Int)==2)=false from kbf h2,cond_false];by_cases h3:t.k=3
 ·rw[show(((t.k:Nat):Int)==3)=true by rw[h3];rfl,cond_true];have es:=z4n h3;refine zak (zdx t) ?_ rfl;rw[es];refine z9j (pre t).length t (fun x hx=>⟨hlt x hx,qhb hx hs (Nat.le_of_lt (qfc hx hs (.inl h3) fun h=>by omega))⟩) hll (by rw[<-es];exact hl40) t.l.length 0 (300+t.l.length) (by omega) (by omega)
 rw[show(((t.k:Nat):Int)==3)=false from kbf h3,cond_false];by_cases h4:t.k=4
 ·rw[show(((t.k:Nat):Int)==4)=true by rw[h4];rfl,cond_true];have es:=z3i h4;refine zak (zdx t) ?_ rfl;rw[es];refine qae (pre t).length t (fun x hx=>⟨hlt x hx,qhb hx hs (Nat.le_of_lt (qfc hx hs (.inr (.inl h4)) fun h=>by omega))⟩) hll (by rw[<-es];exact hl40) t.l.length 0 (300+t.l.length) (by omega) (by omega)
 rw[show(((t.k:Nat):Int)==4)=false from kbf h4,cond_false];have kid:t.k=5 \/t.k=6-> ∃x l,t.l=x::l/\ ((pre x).length<(pre t).length/\ SY x)/\ (zdx x).length<=2^40:=fun hk=>by
  have hne:=(hs.1 t hself).2 hk;obtain⟨x,l,hx⟩:=List.exists_cons_of_ne_nil hne;have hm:x∈t.l:=by rw[hx];simp
  have hh:=sy_head hx hk;exact⟨x,l,hx,⟨hlt x hm,qhb hm hs hh⟩,by omega⟩
 by_cases h6:t.k=6
 ·rw[show(((t.k:Nat):Int)==6)=true by rw[h6];rfl,cond_true];obtain⟨x,l,hx,hk,hxl⟩:=kid (.inr h6);have es:zdx t=[40]++zdx x++[41]:=by
   obtain⟨k,s,mn,mx,l'⟩:=t;simp only[Tr.k,Tr.l] at h6 hx;subst h6 hx;simp[zdx,qdd]
  refine zoc (zdx t) ?_ rfl;refine zf (by rw[hx];simp only[length_cons];omega) (zm fun y hy=> ?_);have:y=x:=by rw[<-hy,hx];rfl
  subst this;refine zf hk (zm fun z hz=> ?_);subst hz;refine zf (by simp only[length_cons,length_nil];omega) (zf (by simp only[length_append,length_cons,length_nil];omega) ?_);rw[es]
 rw[show(((t.k:Nat):Int)==6)=false from kbf h6,cond_false];by_cases h5:t.k=5
 ·rw [show(((t.k:Nat):Int)==5)=true by rw[h5];rfl,cond_true];obtain⟨x,l,hx,hk,hxl⟩:=kid (.inl h5);obtain⟨b1,b2⟩:=(hs.1 t hself).1 h5;have hm1:=zkh t.mn.toNat
  have hm2:=zkh t.mx.toNat
  have es:zdx t=[40,63,58]++zdx x++[41,123]++zhb t.mn.toNat++[44]++(if t.mx= -1 then[] else zhb t.mx.toNat)++[125]:=by
   obtain⟨k,s,mn,mx,l'⟩:=t;simp only[Tr.k,Tr.l] at h5 hx;subst h5 hx;by_cases hm:mx= -1<;>simp[zdx,qdd,Tr.mn,Tr.mx,hm]
  refine zoc (zdx t) ?_ rfl;refine zf (by rw[hx];simp only[length_cons];omega) (zm fun y hy=> ?_);have:y=x:=by rw[<-hy,hx];rfl
  subst this;refine zf hk (zm fun z hz=> ?_);subst hz;refine zf (by simp only[length_cons,length_nil];omega) (zf (by simp only[length_append,length_cons,length_nil];omega) (zf b1 (zm fun z hz=> ?_)));subst hz;refine zf (by simp only[length_append,length_cons,length_nil];omega) (zf (by simp only[length_append,length_cons,length_nil];omega) ?_);refine zak ([40,63,58]++zdx y++[41,123]++zhb t.mn.toNat++[44]++(if t.mx= -1 then[] else zhb t.mx.toNat)) ?_ ?_
  ·by_cases hm:t.mx= -1
   ·rw[show(t.mx != -1)=false by rw[hm];rfl,cond_false,if_pos hm,append_nil]
   ·rw[show(t.mx != -1)=true by simpa using hm,cond_true,if_neg hm];refine zf (by omega) (zm fun z hz=> ?_);subst hz;exact zf (by simp only[length_append,length_cons,length_nil];omega) rfl
  ·have hq:(if t.mx= -1 then[] else zhb t.mx.toNat).length<=2:=by split;simp;exact hm2
   refine zf (by simp only[length_append,length_cons,length_nil];omega) ?_;rw[es]
 rw[show(((t.k:Nat):Int)==5)=false from kbf h5,cond_false];have es:zdx t=[]:=by
  obtain⟨k,s,mn,mx,l'⟩:=t;simp only[Tr.k] at*;simp[zdx,h2,h3,h4,h5,h6]
 exact zak [] rfl (by rw[es])
theorem z1k: ∀(n:Nat) (t:Tr),(pre t).length<=n->(pre t).length<2^40/\ SY t->Pure (ITP prog) prog 10 [.agg (Enc.cells t)] (.raw (.string (bs (zdx t))))
 | 0,t,h,_=>by
  have:0<(pre t).length:=by rw[zef];simp
  omega
 |n+1,t,h,hs=>say1_sh (300+t.l.length) (pre t).length t (zdx t) (fun x hx=>z1k n x (by have:=hx.1;omega) ⟨by have:=hx.1;omega,hx.2⟩) (say_eq t hs.2 hs.1)
theorem k_say (t:Tr)(h:(pre t).length<2^40/\ SY t):Pure (ITP prog) prog 10 [.agg (Enc.cells t)] (.raw (.string (bs (zdx t)))):=z1k _ t (le_refl _) h
end Go.Ab
namespace Go.Ab
open Go Go.RowKit Go.Fwd
abbrev cutQ {τ α:Type} (R:τ->Prop)(Q:α->Prop)(o:τ ⊕ α):Prop:=match o with| .inl t=>R t| .inr y=>Q y
def Ok {α:Type} (Q:α->Prop)(x:Option α):Prop:= ∃r,x=some r/\ Q r
section
variable {α β τ ρ:Type} {Q:α->Prop}
theorem Ok.mono {R:α->Prop} {x:Option α} (h:Ok Q x)(hR: ∀r,Q r->R r):Ok R x:=by
 obtain⟨r,h1,h2⟩:=h;exact⟨r,h1,hR r h2⟩
theorem Ok.eq {x:Option α} {v:α} (h:Ok (fun r=>r=v) x):x=some v:=by
 obtain⟨r,h1,rfl⟩:=h;exact h1
end
end Go.Ab
namespace Go.Ab
open Go Go.RowKit Go.Fwd Go.Proofs
theorem z7y {fuel:Nat} (k:Nat)(a b:Tr)(hk:k=3 \/k=4)(hf:2<fuel)(h:(pre a).length<=2^30/\ (pre b).length<=2^30):zit fuel (k:Int) a b=some (zfh k a b):=by
 have la:=zii a;have lb:=zii b
 have l1:=zay a.l;have l2:=zay b.l
 have hlen: ∀i,(zfi k ([a,b].take i)).length<=2^31:=fun i=>by
  have:=zwd k [a,b] i;simp only[zbj,length_append,length_nil] at this;omega
 unfold zit zfh;refine zak (zfi k [a,b]) ?_ ?_
 ·refine zhl 2 (fun i=>(zfi k ([a,b].take i),(i:Int))) (by simp[zfi]) (fun i hi=> ?_) ?_ hf
  ·have hi2:i<[a,b].length:=hi;refine zdw (by simp only[length_cons,length_nil];simp;omega) ?_;refine zak (zfi k ([a,b].take (i+1))) ?_ (zf (by simp only;omega) (by simp));have hs:=hlen i;rw[qct k [a,b] i hi2];refine zf (by simp only[length_cons,length_nil];omega) (zm fun x1 e1=> ?_);simp only at e1;rw[zgt hi2] at e1;subst e1;have hx:(pre [a,b][i]).length<=2^30:=by
    have:[a,b][i]∈[a,b]:=getElem_mem hi2;simp only[mem_cons,List.not_mem_nil,or_false] at this;rcases this with e|e<;>rw[e]<;>omega
   have hxl:=zii [a,b][i];have hxl2:=zay [a,b][i].l
   cases h1:([a,b][i].k:Int)==k with
   |true=>exact zdw rfl (zf (by simp only;omega) rfl)
   | false=>
    refine zdo rfl ?_;rcases hk with rfl|rfl
    ·refine zdw rfl ?_;cases h2:([a,b][i].k:Int)==1 with
     |true=>exact zdw rfl (by simp[h2])
     |false=>exact zdo rfl (zf (by simp only[length_cons,length_nil];omega) (by simp[h2]))
    ·refine zdo rfl (zf (by simp only[length_cons,length_nil];omega) (by simp))
  ·exact zdo rfl rfl
 ·have hs:=hlen 2;have hs:(zfi k [a,b]).length<=2^31:=hs;unfold qdq;refine z7g (fun h0=>by rw[h0];rfl) fun h0=> ?_;rw[h0,cond_false];refine z7g (fun h1=> ?_) fun h1=> ?_
  ·rw[h1,cond_true];refine zf (by have:=eq_of_beq h1;omega) (zm fun x2 e2=> ?_);subst e2;have h1':(zfi k [a,b]).length=1:=by have:=eq_of_beq h1;omega
   match hj:zfi k [a,b],h1' with
   |[z],_=>rfl
  ·rw[h1,cond_false];exact zf (by omega) (by rw[Int.toNat_natCast])
theorem tm3 (n:Nat):tmod ((n:Nat):Int) 3=((n%3:Nat):Int):=rfl
theorem tm4 (n:Nat):tmod ((n:Nat):Int) 4=((n%4:Nat):Int):=rfl
theorem zzf {p:List Tr} {k:Nat} (h0:0<k)(h:k<=p.length):ix p ((p.length:Int)-(k:Int))=zfe p k:=by
 rw[show(p.length:Int)-(k:Int)=((p.length-k:Nat):Int) by omega,zgt (by omega),zjh h0 h]
theorem z7m {p:List Tr} {k:Nat} (h0:0<k)(h:k<=p.length):zfe p k∈p:=by rw[zjh h0 h];exact getElem_mem _
set_option maxRecDepth 10000 in
theorem made_eq {fuel:Nat} (l:List Sm)(hl:l.length<2^63)(hu: ∀x∈l,x.2.1<256)(hf:60<fuel):z8i fuel l=some (zta l):=by
 obtain⟨m,hm⟩: ∃m,l.take 25=m:=⟨_,rfl⟩;have hlen:m.length<=25:=by rw[<-hm,List.length_take];omega
 have hmu: ∀x∈m,x.2.1<256:=fun x hx=>hu x (List.mem_of_mem_take (hm▸hx));have hsub:sub l 0 (min (l.length:Int) 25)=m:=by
  rw[<-hm,sub,Int.toNat_zero,List.drop_zero];by_cases h:l.length<=25
  ·rw[List.take_of_length_le (by omega),List.take_of_length_le h]
  ·rw[show(min (l.length:Int) 25).toNat-0=25 by omega]
 have e25:MM m 25=MM m m.length:=by rw[MM,MM,List.take_of_length_le hlen,List.take_length]
 unfold z8i;simp only[hsub];rw[zta,hm,e25];have hI:=invM m;refine zak (MM m m.length).1 ?_ ?_
 ·refine zf (by omega) ?_;refine zhl m.length (fun i=>((MM m i).2.1,(MM m i).2.2,(i:Int),(MM m i).1)) (by simp[MM]) (fun i hi=> ?_) ?_ (by omega)
  ·refine zdw (by simpa using hi) ?_;refine zak ((MM m (i+1)).2.1,(MM m (i+1)).2.2,(MM m (i+1)).1) ?_ (zf (by simp only;omega) (by simp));obtain⟨i1,i2,i3,i4,i5⟩:=hI i (by omega);rw[z7i m i hi];obtain⟨x,hx⟩: ∃x,x=m[i]:=⟨_,rfl⟩;rw[<-hx];have hxu:=hmu x (hx▸getElem_mem hi);generalize hst:MM m i=st at i1 i2 i3 i4 i5⊢
   obtain⟨p,u,g⟩:=st;dsimp only at i1 i2 i3 i4 i5⊢;obtain⟨T,hT⟩: ∃T,T=ztf (p,u,g) x:=⟨_,rfl⟩;rw[<-hT];have hp:=zay p;have hsz: ∀y∈p,(pre y).length<=2^30:=fun y hy=>by have:=zcr hy;omega
   refine zf (by omega) (zm fun x1 e1=> ?_);rw[zgt hi, <-hx] at e1;subst e1;have hu8:u<=16:=i5;unfold ztf at hT;dsimp only at hT;have happ: ∀ {ρ:Type} (z:Tr) {q:Prop} {iq:Decidable q},(0<p.length->q)->(bif p.isEmpty then(chk (0<[z].length/\ [z].length*80<=140737488355328) (some (inl (u,g,[z])))) else(@chk _ q iq (some (inl (u,g,p++[z])))))=(some (inl (u,g,p++[z])):Option ((Int×Int×List Tr) ⊕ ρ)):=fun {ρ} z {q} {iq} hq=>
    z7g (fun he=>zf (by simp) (by rw[List.isEmpty_iff.1 he];rfl)) fun he=>zf (hq (zvm he)) rfl
   have hq1: ∀z:Tr,0<p.length->(True/\ 0<p.length/\ 0<[z].length/\ (p.length+[z].length)*80<=140737488355328):=fun z hz=>by simp only[length_cons,length_nil];exact⟨trivial,hz,by omega,by omega⟩
   cases c1:decide (kI x<4) with
   | true=>
    rw[c1,cond_true] at hT;subst hT;refine zdw c1 (zf (by omega) (zm fun x2 e2=> ?_));rw[Int.toNat_natCast] at e2;subst e2;refine zf (qhs x.2.1 hxu).1 (zm fun x3 e3=> ?_);rw[clsU_lb x.2.1 hxu] at e3;subst e3;exact happ _ (hq1 _)
   | false =>
    refine zdo c1 ?_;rw[c1,cond_false] at hT;cases c2:kI x==4 with
    | true=>
     rw[c2,cond_true] at hT;subst hT;exact zdw c2 (happ _ (hq1 _))
    | false =>
     refine zdo c2 ?_;rw[c2,cond_false] at hT;have hjoin: ∀ {ρ:Type} (k:Nat),k=3 \/k=4->(p.length:Int)>1->(bif p.isEmpty then(chk (I64 ((p.length:Int)-2)) (chk (I64 ((p.length:Int)-2)) none)) else(chk (I64 ((p.length:Int)-2)) (chk (I64 ((p.length:Int)-2)) (bif (((p.length:Int)-2)==0) then(chk (I64 ((p.length:Int)-2)) (chk (0<=((p.length:Int)-2)/\ ((p.length:Int)-2)<((p.length:Nat):Int)) (chk (0<=((p.length:Int)-2)/\ ((p.length:Int)-2)<(p.length:Int)) (zba (ix p ((p.length:Int)-2)) (fun x4=>(chk (I64 ((p.length:Int)-1)) (chk (0<=((p.length:Int)-1)/\ ((p.length:Int)-1)<((p.length:Nat):Int)) (chk (0<=((p.length:Int)-1)/\ ((p.length:Int)-1)<(p.length:Int)) (zba (ix p ((p.length:Int)-1)) (fun x5=>(zag (zit fuel (k:Int) x4 x5) (fun x6=>(chk (0<[x6].length/\ [x6].length*80<=140737488355328) (some (inl (u,g,[x6])))))))))))))))) else(chk (0<((p.length:Int)-2)/\ ((p.length:Int)-2)<=((p.length:Nat):Int)) (chk (I64 ((p.length:Int)-2)) (chk (0<=((p.length:Int)-2)/\ ((p.length:Int)-2)<((p.length:Nat):Int)) (chk (0<=((p.length:Int)-2)/\ ((p.length:Int)-2)<(p.length:Int)) (zba (ix p ((p.length:Int)-2)) (fun x7=>(chk (I64 ((p.length:Int)-1)) (chk (0<=((p.length:Int)-1)/\ ((p.length:Int)-1)<((p.length:Nat):Int)) (chk (0<=((p.length:Int)-1)/\ ((p.length:Int)-1)<(p.length:Int)) (zba (ix p ((p.length:Int)-1)) (fun x8=>(zag (zit fuel (k:Int) x7 x8) (fun x9=>(chk ((toNat ((p.length:Int)-2))<=p.length/\ 0<[x9].length/\ ((toNat ((p.length:Int)-2))+[x9].length)*80<=140737488355328) (some (inl (u,g,(List.take (toNat ((p.length:Int)-2)) p++[x9]))))))))))))))))))))))=(some (inl (u,g,p.take (p.length-2)++[zfh k (zfe p 2) (zfe p 1)])):Option ((Int×Int×List Tr) ⊕ ρ)):=by
      intro ρ k hk hp2;have s2:=hsz _ (z7m (k:=2) (p:=p) (by omega) (by omega));have s1:=hsz _ (z7m (k:=1) (p:=p) (by omega) (by omega))
      have q2:=zzf (k:=2) (p:=p) (by omega) (by omega);have q1:=zzf (k:=1) (p:=p) (by omega) (by omega)
      have hj:=z7y (fuel:=fuel) k (zfe p 2) (zfe p 1) hk (by omega) ⟨s2,s1⟩;have hne:p.isEmpty=false:=by cases p with|nil=>simp at hp2|cons _ _=>rfl
      refine zdo hne (zf (by omega) (zf (by omega) (z7g (fun h0=> ?_) fun h0=> ?_)))
      ·refine zf (by omega) (zf (by omega) (zf (by omega) (zm fun x4 e4=>zf (by omega) (zf (by omega) (zf (by omega) (zm fun x5 e5=> ?_))))));rw[show((p.length:Int)-2)=(p.length:Int)-((2:Nat):Int) from rfl,q2] at e4;rw[show((p.length:Int)-1)=(p.length:Int)-((1:Nat):Int) from rfl,q1] at e5;subst e4 e5;refine zaa _ hj (zf (by simp) ?_);have:=eq_of_beq h0;rw[show p.length-2=0 by omega];rfl
      ·have h0: ¬((p.length:Int)-2=0):=by simpa using h0
       refine zf (by omega) (zf (by omega) (zf (by omega) (zf (by omega) (zm fun x4 e4=>zf (by omega) (zf (by omega) (zf (by omega) (zm fun x5 e5=> ?_)))))));rw[show((p.length:Int)-2)=(p.length:Int)-((2:Nat):Int) from rfl,q2] at e4;rw[show((p.length:Int)-1)=(p.length:Int)-((1:Nat):Int) from rfl,q1] at e5;subst e4 e5;refine zaa _ hj (zf (by simp only[length_cons,length_nil];omega) ?_);rw[show((p.length:Int)-2).toNat=p.length-2 by omega]
     have hA:cA p x=(bif decide (kI x<7) then decide ((p.length:Int)>1) else false):=by unfold cA;cases decide (kI x<7)<;>rfl
     refine zak (cA p x) (by rw[hA];show(bif decide (kI x<7) then _ else _)=_;cases decide (kI x<7)<;>rfl) ?_;cases c3:cA p x with
     | true=>
      rw[c3,cond_true] at hT;subst hT;have h2:(p.length:Int)>1:=by rw[cA,and_eq_true] at c3;exact of_decide_eq_true c3.2
      exact zdw rfl (hjoin 3 (.inl rfl) h2)
     | false =>
      refine zdo rfl ?_;rw[c3,cond_false] at hT;have hB:cB p x=(bif decide (kI x<9) then decide ((p.length:Int)>1) else false):=by unfold cB;cases decide (kI x<9)<;>rfl
      refine zak (cB p x) (by rw[hB];show(bif decide (kI x<9) then _ else _)=_;cases decide (kI x<9)<;>rfl) ?_;cases c4:cB p x with
      | true=>
       rw[c4,cond_true] at hT;subst hT;have h2:(p.length:Int)>1:=by rw[cB,and_eq_true] at c4;exact of_decide_eq_true c4.2
       exact zdw rfl (hjoin 4 (.inr rfl) h2)
      | false =>
       refine zdo rfl ?_;rw[c4,cond_false] at hT;have hC:cC p g x=(bif kI x==9 then(bif decide ((p.length:Int)>0) then decide (g<9) else false) else false):=by unfold cC;cases kI x==9<;>cases decide ((p.length:Int)>0)<;>rfl
       refine zak (cC p g x) (by rw[hC];show(bif kI x==9 then _ else _)=_;cases kI x==9<;>cases decide ((p.length:Int)>0)<;>rfl) ?_;cases c5:cC p g x with
       | true=>
        rw[c5,cond_true] at hT;subst hT;have h3:(p.length:Int)>0/\ g<9:=by
         simp only[cC,and_eq_true,decide_eq_true_eq] at c5;exact⟨c5.1.2,c5.2⟩
        have hne:p.isEmpty=false:=by cases p with|nil=>simp at h3|cons _ _=>rfl
        have q1:=zzf (k:=1) (p:=p) (by omega) (by omega);refine zdw rfl (zdo hne (zf (by omega) (zf (by omega) (zf (by omega) (zf (by omega) (zm fun x4 e4=> ?_))))));rw[show((p.length:Int)-1)=(p.length:Int)-((1:Nat):Int) from rfl,q1] at e4;subst e4;refine zaa _ rfl (zf (by omega) (zf (by omega) (zm fun x5 e5=>zf (by omega) ?_)));rw[show((p.length:Int)-1).toNat=p.length-1 by omega]
       | false=>
        refine zdo rfl ?_;rw[c5,cond_false] at hT;cases hpe:p.isEmpty with
        | true=>
         have hp0:p=[]:=List.isEmpty_iff.1 hpe;have hD:cD p x=false:=by rw[hp0];simp[cD]
         rw[hD,cond_false] at hT;subst hT;refine zdw rfl (zak () ?_ rfl);subst hp0
         show(bif decide (kI x>9) then _ else _)=_
         cases decide (kI x>9)<;>rfl
        | false=>
         have hpos:=zvm hpe;have q1:=zzf (k:=1) (p:=p) (by omega) (by omega);have hD:cD p x=(bif decide (kI x>9) then(bif decide ((p.length:Int)>0) then(((zfe p 1).k:Int) !=1) else false) else false):=by unfold cD;cases decide (kI x>9)<;>cases decide ((p.length:Int)>0)<;>rfl
         refine zdo rfl (zak (cD p x) ?_ ?_)
         ·rw [hD]
          show(bif decide (kI x>9) then _ else _)=_
          cases decide (kI x>9) with
          |false=>rfl
          | true=>
           cases decide ((p.length:Int)>0) with
           |false=>rfl
           | true=>
            refine zf (by omega) (zf (by omega) (zf (by omega) (zm fun x4 e4=> ?_)));rw[show((p.length:Int)-1)=(p.length:Int)-((1:Nat):Int) from rfl,q1] at e4;subst e4;rfl
         ·cases c6:cD p x with
          |false=>rw[c6,cond_false] at hT;subst hT;rfl
          | true=>
           rw[c6,cond_true] at hT;refine zdw rfl (zf (by rw[tm3];omega) (zf (by rw[tm4];omega) (zak (moM x) ?_ ?_)))
           ·refine zak (badM x) ?_ ?_
            ·unfold badM m4 loM
             show(bif decide (((x.2.2%4:Nat):Int)<((x.2.1%3:Nat):Int)) then _ else bif ((x.2.2%4:Nat):Int)==0 then _ else bif ((x.2.1%3:Nat):Int)==1 then some (inl (((x.2.2%4:Nat):Int)==1)) else _)=_
             cases decide (((x.2.2%4:Nat):Int)<((x.2.1%3:Nat):Int))<;>cases ((x.2.2%4:Nat):Int)==0<;>cases ((x.2.1%3:Nat):Int)==1<;>rfl
            ·unfold moM;cases badM x<;>rfl
           ·have ht:=qev x;have htm:max (max (tmod ((x.2.1:Nat):Int) 3) (moM x)) 1=tmM x:=rfl;have hmul:0<=u*tmM x/\ u*tmM x<=48:=by
             have h1:=Int.mul_le_mul (a:=u) (b:=tmM x) (c:=16) (d:=3) (by omega) (by omega) (by omega) (by omega);have h2:=Int.mul_nonneg (a:=u) (b:=tmM x) (by omega) (by omega);omega
            refine zf (by rw[htm];omega) ?_;cases c7:decide (u*tmM x<=16) with
            |false=>rw[c7,cond_false] at hT;subst hT;exact zdo c7 rfl
            | true=>
             rw[c7,cond_true] at hT;subst hT;refine zdw c7 (zf (by rw[htm];omega) (zf (by omega) (zf (by omega) (zf (by omega) (zf (by omega) (zm fun x4 e4=> ?_))))));rw[show((p.length:Int)-1)=(p.length:Int)-((1:Nat):Int) from rfl,q1] at e4;subst e4;refine zaa _ rfl (zf (by omega) (zf (by omega) (zm fun x5 e5=> ?_)));rw[show((p.length:Int)-1).toNat=p.length-1 by omega];rfl
  ·exact zdo (by simp) rfl
 ·obtain⟨i1,i2,i3,i4,i5⟩:=hI m.length (le_refl _);generalize (MM m m.length).1=p at i1⊢
  have hp:=zay p;have hsz: ∀y∈p,(pre y).length<=25:=fun y hy=>by have:=zcr hy;omega
  match p,hp,hsz,i1 with
  | [],_,_,_=>
   refine zoc (z8m [97]) ?_ rfl;refine zdw rfl (zdw rfl (zf (by decide) (zm fun x2 e2=> ?_)));subst e2;rfl
  | y ::q,hp,hsz,i1=>
   refine zak () ?_ ?_
   ·refine zdo rfl (zdo (by simp;omega) rfl)
   ·refine zdo rfl (zf (by simp) (zf (by simp) (zm fun x25 e25=> ?_)));have e25:y=x25:=e25;subst e25;refine zak (qqw (y::q)) ?_ rfl;by_cases hq:q=[]
    ·subst hq;refine zdw rfl (zf (by omega) ?_)
     match fuel,hf with
     |f+1,_=>rfl
    ·have hq1:0<q.length:=List.length_pos_iff.2 hq;refine zdo (by simp;omega) (zf (by simp;omega) ?_);have hend:=qmd (p:=y::q) (by simp);simp only[length_cons] at hp i1 hend⊢;refine zhl q.length (fun i=>((i:Int),qkx (y::q) i)) rfl (fun i hi=> ?_) ?_ (by omega)
     ·refine zdw (by simp;omega) (zf (by simp only;omega) (zf (by simp only;omega) (zm fun x26 e26=> ?_)));simp only at e26;have e26':(y::q)[i+1]'(by simp;omega)=x26:=by
       rw[<-e26,show(((toNat 1:Nat):Int)+(i:Int))=((i+1:Nat):Int) by simp;omega,zgt (by simp;omega)]
      have hacc:=qhz (p:=y::q) (by simp) i (by simp;omega);have htk:=zsf (y::q) (i+1);have hj:=z7y (fuel:=fuel) 4 (qkx (y::q) i) x26 (.inr rfl) (by omega) ⟨by omega,by rw[<-e26'];have:=hsz _ (getElem_mem (l:=y::q) (n:=i+1) (by simp;omega));omega⟩;refine zaa _ hj (zf (by simp only;omega) ?_);rw[z3j (p:=y::q) (i:=i) (by simp;omega),e26'];rfl
     ·refine zdo (by simp) ?_;simp only[Nat.add_sub_cancel] at hend;rw[hend]
theorem k_made (l:List Sm)(h:l.length<2^63/\ ∀x∈l,x.2.1<256):Pure (ITP prog) prog 8 [.list l.length (Enc.cellsL l) .none] (.agg (Enc.cells (zta l))):=made_sh 61 l _ (made_eq l h.1 h.2 (by decide))
section
variable {H:Bool} {P:Program} {Ω:CallP} {Ψ:CallS}
def preW (run:Run)(n:Nat)(ms:List Bool)(c:Code)(S:List AV)(U:St):Option (List AV×St):=match qgp run n c S U with
 |some (S1,U1)=>some (fgM ms S1,U1)
 |none=>none
theorem w_preW (hG:Good P Ω Ψ) {k k0:Nat} {Q:AQ} {S S':List AV} {U U':St} {ms:List Bool} (n:Nat)(c:Code)(h:preW (evQ H P Ω Ψ k) (n+1) ms c S U=some (S',U'))(hk:awp (ITP P) P none k0 (sufC (n+1) c) Q S' U'):awp (ITP P) P none k0 c Q S U:=by
 unfold preW at h;split at h
 ·rename_i S1 U1 h1;cases h;exact w_pre hG n c S U _ _ h1 (zpl ms rfl rfl) hk
 ·cases h
end
def awM0:List Bool:=[true,true,true,true,true,false,false,false,false,false,false,false,false,false,false,false,false,false,false,false,false,false,false,false,false,false,false,false,false,false,false,false,false,false,false,false,false,false,false,false,false,false,false,false,false,false,false,false,false,false,false,false,false,false,false,false,false,false,false,false,false,false,false,false,false,false,false,false,false,false,false,false,false,false,false,false,false,false,false,false,false,false,false,false,false,false,false,false,false,false,false,false,false,false,false,false,false,false,false,false,false,false,false,false,false,false,false,false,false,false,false,false,false,false,false,false,false,false,false,false,false,false,false,false,false,false,false,false,false,false,false,false,false,false,false,false,false,false,false,false,false,false,false,false,false,false,false]
def awM3:List Bool:=[true,true,true,true,true,true,true,true,true,true,true,true,true,true,true,true,true,true,true,true,true,true,true,true,true,true,true,true,true,true,true,true,true,true,true,true,true,true,true,true,true,true,true,true,true,true,true,true,true,true,true,true,true,true,true,true,true,true,true,true,true,true,true,true,true,true,true,true,false,true,true,true,true,true,true,true,true,true,true,true,true,true,true,true,true,true,true,true,true,true,true,true,true,true,true,true,true,true,true,true,true,true,true,true,true,true,true,true,true,true,true,true,true,true,true,true,true,true,true,true,true,true,true,true,true,true,true,true,true,true,true,true,true,true,true,true,true,true,true,true,true,true,true,true,true,true,true]
theorem ent7:Ent prog 7:=enters_of Tryz.func7 (by kernel_rfl) rfl
theorem qax:Pure (ITP prog) prog 7 [] (.raw (.bool true)):=by
 obtain⟨d,hd⟩: ∃d,Tryz.f7.body=some d:=⟨_,rfl⟩;refine zjw mix Tryz.func7 hd ent7 ?_;cases hd;refine w_preW (H:=true) (S':=awS) (U':=awσ) (ms:=awM0) (k:=300) qbw 5 _ (by kernel_rfl) ?_;show awp (ITP prog) prog none 0 (.seq _ _) _ _ _;refine qpc awS awσ (qkb mix awM (sg:=sgL awσ []) (SL:=awSL) (E:=awE) (it:=68) (d69:=69) (d70:=70) (d71:=71) (ri:=38) awMs (fun hF=>aw_map rfl hF) (by kernel_rfl) (by kernel_rfl) (by kernel_rfl) (by kernel_rfl) (by kernel_rfl) rfl (fun r=>by kernel_rfl) ⟨rfl,rfl,rfl⟩ ⟨rfl,rfl,rfl⟩ ⟨rfl,rfl,rfl⟩ rfl (fun r=>by kernel_rfl) (fun r=>by kernel_rfl) ⟨by decide,by decide,by decide,by decide,le_of_ble_eq_true rfl,le_of_ble_eq_true rfl,le_of_ble_eq_true rfl,le_of_ble_eq_true rfl⟩ (fun r=>by kernel_rfl) (fun r=>by kernel_rfl) (by kernel_rfl) ?_ (fun r=>(show fgM awM3 (awSL r)=awS by kernel_rfl)▸zqf awM3 (awSL r))) ?_
 ·intro r q hq;simp only[awM,mem_cons,List.not_mem_nil,or_false] at hq;rcases hq with rfl|rfl|rfl|rfl|rfl|rfl
  ·exact znf (H:=true) (k:=300) (ms:=awM2) (zjg zoj) (by kernel_rfl)
  ·exact znf (H:=true) (k:=300) (ms:=awM2) (zjg zoj) (by kernel_rfl)
  ·exact znf (H:=true) (k:=300) (ms:=awM2) (zjg zoj) (by kernel_rfl)
  ·exact znf (H:=true) (k:=300) (ms:=awM2) (zjg zoj) (by kernel_rfl)
  ·exact znf (H:=true) (k:=300) (ms:=awM2) (zjg zoj) (by kernel_rfl)
  ·exact znf (H:=true) (k:=300) (ms:=awM2) (zjg zoj) (by kernel_rfl)
 ·exact w_tail (H:=true) (k:=300) (zjg zoj) (by kernel_rfl)
end Go.Ab
namespace Go.Ab
open Go Go.RowKit Go.Fwd Go.Proofs
def qgl (fuel:Nat)(l:(List Tr)):Option Bool:=
 (zcu (τ:=Int) (zax (β:=Int×Int) (fun s1=>(bif (decide (s1.2<(length l:Int))) then(chk (0<=s1.2/\ s1.2<(length l:Int)) (zba (ix l s1.2) (fun x1=>(chk ((pre x1).length<2^40/\ SY x1) (zba (zdx x1) (fun x2=>(chk (I64 (s1.1+(length x2:Int))) (chk (I64 (s1.2+1)) (some (inl ((s1.1+(length x2:Int)),(s1.2+1)))))))))))) else(some (inr (inl (s1.1)))))) fuel (0,0)) (fun j1=>(some (decide (j1<900)))))
theorem ent9:Ent prog 9:=enters_of Tryz.func9 (by kernel_rfl) rfl
theorem few_sh (fuel:Nat)(l:(List Tr))(r:Bool)(h:qgl fuel l=some r):Pure (ITP prog) prog 9 [.L (l:List Tr)] (.raw (.bool r)):=by
 unfold qgl at h;refine zbl 19 mix Tryz.func9 ent9 ?_;refine zbb [.v (.b false)] ?_;refine zbb [.v (.i 0)] ?_;refine zan h (bz 0 20 1048575) (fun j1=>[(3,.i j1)]) (fun j1=>(.B [])) ?_ ?_;intro or1 h hr1;refine zbb [.m _,.v (.i (length l:Int)),.v (.i 0)] ?_;refine zx ?_;refine zcf h (bz 0 20 1048383) (fun s1=>[(3,.i s1.1),(8,.i s1.2)]) (fun s1=>(.B [])) ?_ ?_;exact zbe (bl 20 456);intro s1 p1 h;refine zdi ?_;refine zbb [.v (.b (decide (s1.2<(length l:Int))))] ?_;refine zj ?_;refine zbn h (fun hc1 h=> ?_) (fun hc1 h=> ?_);refine zj ?_;refine zx ?_;refine zj (zb ?_);obtain⟨g1,h⟩:=ze h;obtain⟨x1,hx1,h⟩:=zk h;refine z4u hx1 g1 ?_;refine w_o (a:= .A (x1:Tr)) ?_;refine zdf zN ?_;refine zes 8 (Enc.cells (x1:Tr)) ?_;refine zb (k0:=0) (id:=5) ?_;refine w_r [.m _,.v (.A (x1:Tr))] ?_;obtain⟨g2,h⟩:=ze h;obtain⟨x2,hx2,h⟩:=zk h;refine zch (args':=[.A (x1:Tr)]) (r:= .s x2) (by rw[<-hx2];exact(k_say x1 g2)) ?_;refine w_o (a:= .i (length x2:Int)) (h:=zaz (zdk rfl rfl rfl)) ?_;obtain⟨g3,h⟩:=ze h;refine zgu g3 ?_;refine zar ?_;refine zb (k0:=0) (id:=6) ?_;obtain⟨g4,h⟩:=ze h;refine zgu g4 ?_;refine zar ?_;refine zbf (p:=p1) ((s1.1+(length x2:Int)),(s1.2+1)) h ?_;exact zce (bl 20 456) 0 (by kernel_rfl) (le_of_ble_eq_true rfl) (zbg rfl) (by dsimp only[zap,zbi,foldl,List.set,bz,bzc,Nat.reduceMod,Nat.reduceDiv,Nat.reduceBEq,Nat.reduceAdd];exact(za rfl (za rfl (za rfl (za rfl (za rfl (za rfl (za (zbc (Enc.cloL _)) (by kernel_rfl))))))))) (by kernel_rfl);refine zg h (fun h=> ?_);refine zc (o:=or1) (s1.1) h ?_;exact zbe (bl 20 8);intro j1 h;refine zdi ?_;refine zbb [.m _,.v (.b (decide (j1<900))),.m _] ?_;exact zal h
theorem qcp (t:Tr)(hk:KO t)(h:(pre t).length<=500):zkz t t=some true:=by
 have hf:=qqx t 500 (by decide);unfold zkz;refine zf ⟨by omega,by decide,by decide⟩ (zm fun x hx=> ?_);subst hx;rw[show decide (zvo t 500<=500)=true from decide_eq_true (by omega),cond_true];refine zf ⟨by omega,by decide,by decide⟩ (zm fun x hx=> ?_);subst hx;rw[show decide (zvo t 500<=500)=true from decide_eq_true (by omega),cond_true];refine zf hk (zm fun x hx=>zf hk (zm fun y hy=> ?_));subst hx hy;refine zf (by simp only;omega) (zm fun x hx=> ?_);rw[<-hx];exact congrArg some ((z3a t t).2 rfl)
theorem KO_of {t:Tr} (h:CR t)(hl:(pre t).length<2^35):KO t:=by
 refine⟨fun x hx=> ?_,hl⟩;have hr:zcn x=true:=List.all_eq_true.1 h x hx;rcases zvi hr with h|h|h|h|h|h<;>omega
theorem z8f: ∀l:List Tr,(∀x∈l,(zdx x).length+20<=1100*(pre x).length)->(zox l).length<=1100*(zbj l).length
 |[],_=>by simp[zox]
 | x::l,h=>by
  have h1:=h x (by simp);have h2:=z8f l fun y hy=>h y (by simp[hy]);simp only[zox,zbj,length_append,length_cons,length_nil];omega
theorem z8r: ∀(l:List Tr) (c:Bool),(∀x∈l,(zdx x).length+20<=1100*(pre x).length)->(zlc c l).length<=1100*(zbj l).length
 |[],_,_=>by simp[zlc]
 | x::l,c,h=>by
  have h1:=h x (by simp);have h2:=z8r l false fun y hy=>h y (by simp[hy]);simp only[zlc,zbj,length_append,length_cons,length_nil];have:(if c=true then[] else[124]:List UInt8).length<=1:=by split<;>simp
  omega
theorem qgc: ∀(n:Nat) (t:Tr),(pre t).length<=n->(zdx t).length+20<=1100*(pre t).length
 | 0,t,h=>by
  have:0<(pre t).length:=by rw[zef];simp
  omega
 | n +1,.mk k s mn mx l,h=>by
  have hp:=z6w k s mn mx l;have ih: ∀x∈l,(zdx x).length+20<=1100*(pre x).length:=fun x hx=>qgc n x (by have:=zcr hx;omega);have hC:=z8f l ih;have hA:=z8r l true ih;have h1:(qdd l).length<=1100*(zbj l).length:=by
   cases l with
   |nil=>simp[qdd]
   | cons x l=>
    have:=ih x (by simp);simp only[qdd,zbj,length_append];omega
  have hb:=zjk (zfo s);have hb2:(zfo s).length<=256:=z6d s 256;have t1:=zkh mn.toNat
  have t2:=zkh mx.toNat
  have hm:(if mx= -1 then[] else zhb mx.toNat:List UInt8).length<=2:=by split;simp;exact t2
  rw[zdx];split
  ·simp only[length_append,length_cons,length_nil];omega
  split
  ·omega
  split
  ·omega
  split
  ·simp only[length_append,length_cons,length_nil];omega
  split
  ·simp only[length_append,length_cons,length_nil];omega
  ·simp;omega
theorem sy_of {t:Tr} (h:CR t)(hl:(pre t).length<1000):SY t:=by
 refine⟨fun x hx=> ?_,by have:=qgc _ t (le_refl _);omega⟩;have hr:zcn x=true:=List.all_eq_true.1 h x hx;refine⟨fun h5=> ?_,fun hk=> ?_⟩
 ·have:=z4o (zxy hr h5);omega
 ·obtain⟨y,hy⟩:=zuo hr hk;rw[hy];simp
theorem made_CT (l:List Sm):CT (zta l)/\ (pre (zta l)).length<=50/\ SY (zta l):=by
 obtain⟨h1,_,_,h4⟩:=made_ok l;exact⟨⟨h1,by omega⟩,h4,sy_of h1 (by omega)⟩
theorem zow {u v:List UInt8} {z:UInt8} (h:u=v++[z])(hz:z≠36/\ z≠92):zsr u:=by
 intro v' z' e;rw[h] at e;have:=List.append_inj' e rfl;have e2:=this.2;cases e2;exact hz
theorem zxo {t:Tr} (h:CT t):zer 4 0 (zjq t)=zjq t/\ zer 4 0 [t]=zjq t:=by
 have hk:=h.k0;unfold zjq;by_cases h4:t.k=4
 ·rw[if_pos h4];obtain⟨_,q2⟩:=zhz h.right h4;refine⟨?_,by unfold zer;rw[List.flatMap_cons,kb h4,cond_true];simp⟩;unfold zer;rw[show t.l.flatMap (fun x=>bif (x.k:Int)==(4:Nat) then x.l else bif (x.k:Int)==(0:Nat) then[] else[x])=t.l.flatMap (fun x=>[x]) from zjn fun x hx=>by
   rw[kbf (q2 x hx),cond_false,kbf (h.sub hx).k0,cond_false]]
  simp
 ·rw[if_neg h4];have e:zer 4 0 [t]=[t]:=by unfold zer;rw[List.flatMap_cons,kbf h4,cond_false,kbf hk,cond_false];simp
  exact⟨e,e⟩
theorem qgm {t:Tr} (h:CT t): ∀x∈zjq t,CT x:=by
 unfold zjq;split
 ·exact fun x hx=>h.sub hx
 ·intro x hx;rw[mem_singleton] at hx;subst hx;exact h
theorem zpn (t:Tr):zdb t=zaw \/CT (zdb t):=by
 unfold zdb;split
 ·rename_i h;have h':=h;rw[zda,and_eq_true] at h';exact .inr ⟨h'.2,zfg h⟩
 ·exact .inl rfl
theorem qne:CT emptyT:=⟨by simp[CR,emptyT,pre,zbj,ziu];exact ziu,by simp[emptyT,pre,zbj]⟩
theorem qkh (l:List Tr):zny l=zaw \/CT (zny l):=by
 unfold zny;split
 ·exact .inl rfl
 ·unfold zjt;cases ((zer 3 1 l).length:Int)==0 with
  |true=>exact .inr qne
  | false=>
   rw[cond_false];cases ((zer 3 1 l).length:Int)==1 with
   |true=>exact zpn _
   |false=>exact zpn _
theorem or_seq (l:List Tr):orT [zny l]=zny l:=by
 rcases qkh l with h|h
 ·rw[h];rfl
 ·have e:zjq (zny l)=[zny l] \/(zny l).k=4:=by
   by_cases h4:(zny l).k=4
   ·exact .inr h4
   ·exact .inl (by rw[zjq,if_neg h4])
  have h1:=z6c h;unfold orT at h1⊢;rw[if_neg (by
   simp only[List.any_eq_true,not_exists,not_and];intro z hz;rw[(qgm h z hz).good];simp),(zxo h).1] at h1
  rw[if_neg (by simp[h.good]),(zxo h).2];exact h1
end Go.Ab
namespace Go.Ab
open Go Go.RowKit Go.Fwd Go.Proofs Go.ChangeShapes Go.WideShapes Go.Deep
def qcz (W:World):Cx:=⟨fun b o=> ∃v,W.cell? ⟨b,o,none⟩=some v,[],[],[],W,fun _=>False,fun _ _=>False⟩
theorem inv_top (P:Program)(W:World)(hg:gvBase P W):Inv (ITP P) St.empty (qcz W) where
 lens:=rfl
 elems:=rfl
 κlen:=rfl
 κnd:=fun s s' b h=>by simp[qcz] at h
 box:=fun s b t cs h=>by simp[qcz] at h
 κF:=fun s b t cs h=>by simp[qcz] at h
 βlen:=rfl
 βnd:=by simp[qcz]
 βκ:=fun r h=>by simp[qcz] at h
 row:=fun s r L h=>by simp[qcz] at h
 Ok:=fun b h=>h.elim
 Fcell:=fun b o h=>h
 gv:=⟨W,hg,Szs.refl _,fun b o v _ hv=>⟨⟨v,hv⟩,hv⟩⟩
theorem qlr {P:Program} {f:FuncId} {args:List AV} {u:Value} (h:Pure (ITP P) P f args (.raw u))(W:World)(hg:gvBase P W) {vs:List Value} (hr:zbo (ITP P) (qcz W) args vs):
 Calls P f vs.toArray W fun e W'=>e= .returned u/\ Below W.heap.size W W':=by
 refine(h.2 (qcz W) vs (inv_top P W hg) hr).mono ?_;rintro e w' ⟨v,Y,rfl,rfl,hE,hIY,hv⟩;rw[Rep] at hv;subst hv;exact⟨rfl,hE.os,hE.tape,hE.output,hE.size,fun b hb=>hE.frame b hb (by simp[qcz]) (by simp[qcz])⟩
section
variable {H:Type} {enc:TypeId×Value->H} {P:Program} {α:Type} [Enc α]
end
end Go.Ab
