/-
  DeriveWrong: its walk.
-/
import Derived.Test.YtfkkellnlmjenaaGreatZeLd
set_option linter.unusedSimpArgs false
set_option linter.unusedVariables false
set_option maxRecDepth 100000
set_option maxHeartbeats 4000000
namespace Go.Ab
open Go Go.RowKit Go.Fwd Go.Proofs
theorem qfx:Pure (ITP Tryz.prog) Tryz.prog 35 [.raw (.int .u8 97)] (.agg (Enc.cells dA)):=zao true zyt 300 (by kernel_rfl)
def zsr (l:(List Tr)):Option Tr:=
 (some (Tr.mk 3 (0#256) 0 0 l))
theorem ent36:Ent Tryz.prog 36:=enters_of Tryz.func36 (by kernel_rfl) rfl
theorem z0d (l:(List Tr))(r:Tr)(h:zsr l=some r):Pure (ITP Tryz.prog) Tryz.prog 36 [.list (List.length (l:List Tr)) (Enc.cellsL (l:List Tr)) .none] (.agg (Enc.cells (r:Tr))):=by
 obtain⟨d,hd⟩: ∃d,Tryz.f36.body=some d:=⟨_,rfl⟩
 refine zgk mix Tryz.func36 hd ent36 ?_
 cases hd
 unfold zsr at h
 refine zah (by dsimp only[zbf,Tryz.f36,List.length_cons,List.length_nil,Nat.zero_add,Nat.reduceAdd,Nat.reduceSub,List.replicate,List.cons_append,List.nil_append]) (by dsimp only[St.empty]) ?_
 refine zf (zb ?_)
 refine zfp (a:= .ptr 0 0) (σ'':=⟨[(29,[.raw (.int .u8 0),.raw (.int .u64 0),.raw (.int .u64 0),.raw (.int .u64 0),.raw (.int .u64 0),.raw (.int .i64 0),.raw (.int .i64 0),.list 0 [] .full])],[],[],0,false⟩) rfl rfl rfl rfl (by dsimp only[zh,List.set]) rfl ?_
 refine zf (zb ?_)
 refine zab ?_
 refine zeh (.agg (Enc.cells ((Tr.mk 3 (0#256) 0 0 l):Tr))) (a0:=(zca (Tr.mk 3 (0#256) 0 0 l) .none)) rfl rfl rfl (by kernel_rfl) (zj _ _) (by dsimp only[zh,List.set]) ?_
 refine zfp (σ'':=⟨[(29,(Enc.cells ((Tr.mk 3 (0#256) 0 0 l):Tr)))],[],[],0,false⟩) rfl rfl rfl (zaz (n:=8) rfl rfl rfl rfl rfl rfl rfl rfl (by decide)) (by dsimp only[zh,List.set]) rfl ?_
 exact zdi (fun(r:Tr)=>(.agg (Enc.cells (r:Tr)):AV)) h (a:= .agg (Enc.cells ((Tr.mk 3 (0#256) 0 0 l):Tr))) rfl (zn _ _ (zl (Enc.clo _))) (zaj (zl (Enc.clo _)))
def zsp (t:Tr)(mn:Int)(mx:Int):Option Tr:=
 (some (Tr.mk 5 (0#256) mn mx [t]))
theorem ent37:Ent Tryz.prog 37:=enters_of Tryz.func37 (by kernel_rfl) rfl
theorem zxr (t:Tr)(mn:Int)(mx:Int)(r:Tr)(h:zsp t mn mx=some r):Pure (ITP Tryz.prog) Tryz.prog 37 [.agg (Enc.cells (t:Tr)),.raw (.int .i64 mn),.raw (.int .i64 mx)] (.agg (Enc.cells (r:Tr))):=by
 obtain⟨d,hd⟩: ∃d,Tryz.f37.body=some d:=⟨_,rfl⟩
 refine zgk mix Tryz.func37 hd ent37 ?_
 cases hd
 unfold zsp at h
 refine zah (by dsimp only[zbf,Tryz.f37,List.length_cons,List.length_nil,Nat.zero_add,Nat.reduceAdd,Nat.reduceSub,List.replicate,List.cons_append,List.nil_append]) (by dsimp only[St.empty]) ?_
 refine zf (zb ?_)
 refine zfp (a:= .ptr 0 0) (σ'':=⟨[(29,(Enc.cells (t:Tr)))],[],[],0,false⟩) rfl rfl rfl rfl (by dsimp only[zh,List.set]) rfl ?_
 refine zfp (a:= .ptr 1 0) (σ'':=⟨[(29,(Enc.cells (t:Tr))),(29,[.raw (.int .u8 0),.raw (.int .u64 0),.raw (.int .u64 0),.raw (.int .u64 0),.raw (.int .u64 0),.raw (.int .i64 0),.raw (.int .i64 0),.list 0 [] .full])],[],[],0,false⟩) rfl rfl rfl rfl (by dsimp only[zh,List.set]) rfl ?_
 refine zf (zb ?_)
 refine zab ?_
 refine zab ?_
 refine zbm (a:= .agg (Enc.cells (t:Tr))) rfl rfl rfl rfl (by dsimp only[zh,List.set]) ?_
 refine zbm (a:= .list (List.length ([t]:List Tr)) (Enc.cellsL ([t]:List Tr)) .full) rfl rfl rfl (zbh (zev (α:=Tr) (l:=[t]) (cs:=Enc.cells (t:Tr)++[]) rfl (by rw[Enc.cons,Enc.nil]))) (by dsimp only[zh,List.set]) ?_
 refine zeh (.agg (Enc.cells ((Tr.mk 5 (0#256) mn mx [t]):Tr))) (a0:=(zca (Tr.mk 5 (0#256) mn mx [t]) .full)) rfl rfl rfl (by kernel_rfl) (zj _ _) (by dsimp only[zh,List.set]) ?_
 refine zfp (σ'':=⟨[(29,(Enc.cells (t:Tr))),(29,(Enc.cells ((Tr.mk 5 (0#256) mn mx [t]):Tr)))],[],[],0,false⟩) rfl rfl rfl (zaz (n:=8) rfl rfl rfl rfl rfl rfl rfl rfl (by decide)) (by dsimp only[zh,List.set]) rfl ?_
 exact zdi (fun(r:Tr)=>(.agg (Enc.cells (r:Tr)):AV)) h (a:= .agg (Enc.cells ((Tr.mk 5 (0#256) mn mx [t]):Tr))) rfl (zn _ _ (zl (Enc.clo _))) (zaj (zl (Enc.clo _)))
def zjd (t:Tr)(most:Int):Option ((List Tr)×Int):=
 (zav (zgf t) (fun x1=>(bif (!x1) then(some (([]:(List Tr)),120)) else(bif (decide (most<0)) then(some (([]:(List Tr)),2)) else(chk False none)))))
theorem ent26:Ent Tryz.prog 26:=enters_of Tryz.func26 (by kernel_rfl) rfl
theorem z2y (t:Tr)(most:Int)(r:((List Tr)×Int))(h:zjd t most=some r):Pure (ITP Tryz.prog) Tryz.prog 26 [.agg (Enc.cells (t:Tr)),.raw (.int .i64 most)] (.tup [.list (List.length (r.1:List Tr)) (Enc.cellsL (r.1:List Tr)) .none,.raw (.int .i64 r.2)]):=by
 obtain⟨d,hd⟩: ∃d,Tryz.f26.body=some d:=⟨_,rfl⟩
 refine zgk mix Tryz.func26 hd ent26 ?_
 cases hd
 unfold zjd at h
 refine zah (by dsimp only[zbf,Tryz.f26,List.length_cons,List.length_nil,Nat.zero_add,Nat.reduceAdd,Nat.reduceSub,List.replicate,List.cons_append,List.nil_append]) (by dsimp only[St.empty]) ?_
 refine zf (zb ?_)
 refine zfp (a:= .ptr 0 0) (σ'':=⟨[(29,(Enc.cells (t:Tr)))],[],[],0,false⟩) rfl rfl rfl rfl (by dsimp only[zh,List.set]) rfl ?_
 refine zbm (a:= .list 0 [] .full) rfl rfl rfl rfl (by dsimp only[zh,List.set]) ?_
 refine zbm (a:= .raw (.int .i64 0)) rfl rfl rfl rfl (by dsimp only[zh,List.set]) ?_
 refine qgv ?_
 refine zf ?_
 refine zp ?_
 refine zf (zb ?_)
 refine zbm (a:= .agg (Enc.cells (t:Tr))) rfl rfl rfl rfl (by dsimp only[zh,List.set]) ?_
 obtain⟨x1,hx1,h⟩:=zu h
 refine zbr (args':=[.agg (Enc.cells (t:Tr))]) (r:= .raw (.bool x1)) (zns t x1 hx1) rfl rfl (zd (zaj (zl (Enc.clo _))) rfl) (za (zn _ _ (zl (Enc.clo _))) rfl) (by dsimp only[zh,List.set]) ?_
 refine zbm (a:= .raw (.bool (!x1))) rfl rfl rfl rfl (by dsimp only[zh,List.set]) ?_
 refine zab ?_
 refine zae h (fun hc1 h=> ?_) (fun hc1 h=> ?_)
 ·
  refine zbw hc1 rfl ?_
  refine zf (zb ?_)
  refine zbm (a:= .list 0 [] .full) rfl rfl rfl rfl (by dsimp only[zh,List.set]) ?_
  refine zbm (a:= .raw (.int .i64 120)) rfl rfl rfl rfl (by dsimp only[zh,List.set]) ?_
  exact zdi (fun(r:((List Tr)×Int))=>(.tup [.list (List.length (r.1:List Tr)) (Enc.cellsL (r.1:List Tr)) .none,.raw (.int .i64 r.2)]:AV)) h (a:= .tup [.list 0 [] .full,.raw (.int .i64 120)]) rfl (show zaa _ _=true from(za rfl (za rfl rfl))) (show AV.tup (stripL _)=_ from congrArg AV.tup (zd rfl (zd rfl rfl)))
 ·
  refine zbt hc1 rfl ?_
  refine zf (zb ?_)
  refine zab ?_
  refine zbm (a:= .raw (.bool (decide (most<0)))) rfl rfl rfl rfl (by dsimp only[zh,List.set]) ?_
  refine zab ?_
  refine zae h (fun hc2 h=> ?_) (fun hc2 h=> ?_)
  ·
   refine zbw hc2 rfl ?_
   refine zf (zb ?_)
   refine zbm (a:= .list 0 [] .full) rfl rfl rfl rfl (by dsimp only[zh,List.set]) ?_
   refine zbm (a:= .raw (.int .i64 2)) rfl rfl rfl rfl (by dsimp only[zh,List.set]) ?_
   exact zdi (fun(r:((List Tr)×Int))=>(.tup [.list (List.length (r.1:List Tr)) (Enc.cellsL (r.1:List Tr)) .none,.raw (.int .i64 r.2)]:AV)) h (a:= .tup [.list 0 [] .full,.raw (.int .i64 2)]) rfl (show zaa _ _=true from(za rfl (za rfl rfl))) (show AV.tup (stripL _)=_ from congrArg AV.tup (zd rfl (zd rfl rfl)))
  ·
   refine zbt hc2 rfl ?_
   obtain⟨g1,h⟩:=zi h
   exact g1.elim
def zrw (fuel:Nat)(x:(List Sm))(way:Int)(c:Int)(n:Int):Option Bool:=
 (chk (List.length x<2^63∧ ∀y∈x,y.2.1<256) (zbc (zuw x) (fun x1=>(zdn (τ:=Tr) (zbv (β:=Int×Tr) (fun s1=>(bif (decide (s1.1<121)) then(chk ((List.length s1.2.l+List.length [dA])*80≤140737488355328) (chk (-9223372036854775808≤(s1.1+1)∧(s1.1+1)<9223372036854775808) (some (Sum.inl ((s1.1+1),(Tr.mk s1.2.k s1.2.s s1.2.mn s1.2.mx (s1.2.l++[dA]))))))) else(some (Sum.inr (Sum.inl ((Tr.mk s1.2.k s1.2.s s1.2.mn s1.2.mx s1.2.l))))))) fuel (0,(Tr.mk 3 (0#256) 0 0 ([]:List Tr)))) (fun j1=>(zav (zsr [x1]) (fun x2=>(zav (zsr [noneT,x1]) (fun x3=>(zav (zsp dA 16 16) (fun x4=>(zav (zsp x4 16 16) (fun x5=>(zav (zsp x5 2 2) (fun x6=>(chk (0≤(Int.tmod way 6)∧(Int.tmod way 6)<(List.length [(Tr.mk 7 (0#256) 0 0 []),(Tr.mk 2 (0#256) 0 0 []),x2,x3,(Tr.mk j1.k j1.s j1.mn j1.mx j1.l),x6]:Int)) (zbc (ix [(Tr.mk 7 (0#256) 0 0 []),(Tr.mk 2 (0#256) 0 0 []),x2,x3,(Tr.mk j1.k j1.s j1.mn j1.mx j1.l),x6] (Int.tmod way 6)) (fun x7=>(zav (zlz x7) (fun x8=>(zav (zil x7) (fun x9=>(zav (zvv x7 c) (fun x10=>(zav (zpo fuel x7) (fun x11=>(chk (0≤(4097:Int)∧((1:Nat):Int)*(4097:Int)≤281474976710656) (zav (zkq fuel x7 (List.replicate (Int.toNat (4097:Int)) (0:UInt8))) (fun x12=>(zav (zer fuel x7 ([]:List UInt8)) (fun x13=>(zav (zjd x7 (-1)) (fun x14=>(zdn (τ:=Unit) (zbv (β:=Int) (fun s2=>(bif (decide (s2<(List.length ([x8.2,x9.2,x10.2,x11.2,x12.2,x13.2,x14.2]:List Int):Int))) then(chk (0≤s2∧s2<(List.length ([x8.2,x9.2,x10.2,x11.2,x12.2,x13.2,x14.2]:List Int):Int)) (zbc (ix ([x8.2,x9.2,x10.2,x11.2,x12.2,x13.2,x14.2]:List Int) s2) (fun x15=>(bif (x15 !=120) then(some (Sum.inr (Sum.inr false))) else(chk (-9223372036854775808≤(s2+1)∧(s2+1)<9223372036854775808) (some (Sum.inl ((s2+1))))))))) else(some (Sum.inr (Sum.inl ()))))) fuel (0)) (fun j2=>(zav (zgf x7) (fun x16=>(bif x16 then(some false) else(zav (zgf x1) (fun x17=>(bif (!x17) then(some false) else(chk ((pre x8.1).length<2^61∧(pre noneT).length<2^61) (zbc (zrq x8.1 noneT) (fun x18=>(bif (!x18) then(some false) else(bif x9.1 then(some false) else(bif x13.1 then(some false) else(chk (-9223372036854775808≤((List.length x10.1:Int)+(List.length x11.1:Int))∧((List.length x10.1:Int)+(List.length x11.1:Int))<9223372036854775808) (chk (-9223372036854775808≤(((List.length x10.1:Int)+(List.length x11.1:Int))+(List.length x12.1:Int))∧(((List.length x10.1:Int)+(List.length x11.1:Int))+(List.length x12.1:Int))<9223372036854775808) (chk (-9223372036854775808≤((((List.length x10.1:Int)+(List.length x11.1:Int))+(List.length x12.1:Int))+(List.length x14.1:Int))∧((((List.length x10.1:Int)+(List.length x11.1:Int))+(List.length x12.1:Int))+(List.length x14.1:Int))<9223372036854775808) (bif (((((List.length x10.1:Int)+(List.length x11.1:Int))+(List.length x12.1:Int))+(List.length x14.1:Int)) !=0) then(some false) else(zdn (τ:=Unit) (zav (zsr [x1]) (fun x19=>(zbv (β:=Int) (fun s3=>(bif (decide (s3<(List.length [(Tr.mk 6 (0#256) 0 0 [x1]),x19,(Tr.mk 7 (0#256) 0 0 [])]:Int))) then(chk (0≤s3∧s3<(List.length [(Tr.mk 6 (0#256) 0 0 [x1]),x19,(Tr.mk 7 (0#256) 0 0 [])]:Int)) (zbc (ix [(Tr.mk 6 (0#256) 0 0 [x1]),x19,(Tr.mk 7 (0#256) 0 0 [])] s3) (fun x20=>(zav (zml fuel [dA,x20] c) (fun x21=>(bif ((List.length x21.1:Int) !=0) then(some (Sum.inr (Sum.inr false))) else(bif (x21.2 !=120) then(some (Sum.inr (Sum.inr false))) else(chk (-9223372036854775808≤(s3+1)∧(s3+1)<9223372036854775808) (some (Sum.inl ((s3+1)))))))))))) else(some (Sum.inr (Sum.inl ()))))) fuel (0)))) (fun j3=>(chk (0≤(4097:Int)∧((1:Nat):Int)*(4097:Int)≤281474976710656) (zav (zkq fuel x1 (List.replicate (Int.toNat (4097:Int)) (0:UInt8))) (fun x22=>(chk (0≤(4097:Int)∧((1:Nat):Int)*(4097:Int)≤281474976710656) (zav (zer fuel x1 (List.replicate (Int.toNat (4097:Int)) (0:UInt8))) (fun x23=>(zav (zjd x1 (min n (-1))) (fun x24=>(bif (x22.2==3) then(bif (x23.2==3) then(bif (x24.2==2) then(bif (!x23.1) then(chk (-9223372036854775808≤((List.length x22.1:Int)+(List.length x24.1:Int))∧((List.length x22.1:Int)+(List.length x24.1:Int))<9223372036854775808) (some (((List.length x22.1:Int)+(List.length x24.1:Int))==0))) else(some false)) else(some false)) else(some false)) else(some false)))))))))))))))))))))))))))))))))))))))))))))))))))))))))))))))
theorem ent6:Ent Tryz.prog 6:=enters_of Tryz.func6 (by kernel_rfl) rfl
set_option maxHeartbeats 16000000 in
theorem qgq (fuel :Nat)(x:(List Sm))(way:Int)(c:Int)(n:Int)(r:Bool)(h:zrw fuel x way c n=some r):Pure (ITP Tryz.prog) Tryz.prog 6 [.list (List.length (x:List Sm)) (Enc.cellsL (x:List Sm)) .none,.raw (.int .u8 way),.raw (.int .u8 c),.raw (.int .i64 n)] (.raw (.bool r)):=by
 obtain⟨d,hd⟩: ∃d,Tryz.f6.body=some d:=⟨_,rfl⟩
 refine zgk mix Tryz.func6 hd ent6 ?_
 cases hd
 unfold zrw at h
 refine zah (by dsimp only[zbf,Tryz.f6,List.length_cons,List.length_nil,Nat.zero_add,Nat.reduceAdd,Nat.reduceSub,List.replicate,List.cons_append,List.nil_append]) (by dsimp only[St.empty]) ?_
 refine zf (zb ?_)
 refine zbm (a:= .raw (.bool false)) rfl rfl rfl rfl (by dsimp only[zh,List.set]) ?_
 refine zf ?_
 refine zf (zb ?_)
 refine zbr (args':=[]) (r:= .raw (.bool true)) qbp rfl rfl rfl rfl (by dsimp only[zh,List.set]) ?_
 refine zbm (a:= .raw (.bool false)) rfl rfl rfl rfl (by dsimp only[zh,List.set]) ?_
 refine zcl rfl ?_
 refine zf (zb ?_)
 refine zab ?_
 obtain⟨g1,h⟩:=zi h
 obtain⟨x1,hx1,h⟩:=zo h
 refine zbr (args':=[.list (List.length (x:List Sm)) (Enc.cellsL (x:List Sm)) .none]) (r:= .agg (Enc.cells (x1:Tr))) (by rw[←hx1];exact(k_made x g1)) rfl rfl (zd (zet (Enc.cloL _)) rfl) (za (zan (Enc.cloL _)) rfl) (by dsimp only[zh,List.set]) ?_
 refine zfp (a:= .ptr 0 0) (σ'':=⟨[(29,[.raw (.int .u8 0),.raw (.int .u64 0),.raw (.int .u64 0),.raw (.int .u64 0),.raw (.int .u64 0),.raw (.int .i64 0),.raw (.int .i64 0),.list 0 [] .full])],[],[],0,false⟩) rfl rfl rfl rfl (by dsimp only[zh,List.set]) rfl ?_
 refine zfp (σ'':=⟨[(29,(Enc.cells (x1:Tr)))],[],[],0,false⟩) rfl rfl rfl (zaz (n:=8) rfl rfl rfl rfl rfl rfl rfl rfl (by decide)) (by dsimp only[zh,List.set]) rfl ?_
 refine zf (zb ?_)
 refine zbm (a:= .agg [.raw (.int .u8 3),.raw (.int .u64 (wd (0#256) 0)),.raw (.int .u64 (wd (0#256) 1)),.raw (.int .u64 (wd (0#256) 2)),.raw (.int .u64 (wd (0#256) 3)),.raw (.int .i64 0),.raw (.int .i64 0),.list (List.length (([]:List Tr):List Tr)) (Enc.cellsL (([]:List Tr):List Tr)) .full]) rfl rfl rfl rfl (by dsimp only[zh,List.set]) ?_
 refine zfp (a:= .ptr 1 0) (σ'':=⟨[(29,(Enc.cells (x1:Tr))),(29,[.raw (.int .u8 0),.raw (.int .u64 (wd (0#256) 0)),.raw (.int .u64 (wd (0#256) 1)),.raw (.int .u64 (wd (0#256) 2)),.raw (.int .u64 (wd (0#256) 3)),.raw (.int .i64 0),.raw (.int .i64 0),.list (List.length (([]:List Tr):List Tr)) (Enc.cellsL (([]:List Tr):List Tr)) .full])],[],[],0,false⟩) rfl rfl rfl rfl (by dsimp only[zh,List.set]) rfl ?_
 refine zfp (σ'':=⟨[(29,(Enc.cells (x1:Tr))),(29,[.raw (.int .u8 3),.raw (.int .u64 (wd (0#256) 0)),.raw (.int .u64 (wd (0#256) 1)),.raw (.int .u64 (wd (0#256) 2)),.raw (.int .u64 (wd (0#256) 3)),.raw (.int .i64 0),.raw (.int .i64 0),.list (List.length (([]:List Tr):List Tr)) (Enc.cellsL (([]:List Tr):List Tr)) .full])],[],[],0,false⟩) rfl rfl rfl (zaz (n:=8) rfl rfl rfl rfl rfl rfl rfl rfl (by decide)) (by dsimp only[zh,List.set]) rfl ?_
 refine zau h [0,4,5,6,7,8,11,12,13,14,15,16,17,18,19,20,21,22,23,24,25,26,27,28,29,30,31,32,33,34,35,36,37,38,39,40,41,42,43,44,45,46,47,48,49,50,51,52,53,54,55,56,57,58,59,60,61,62,63,64,65,66,67,68,69,70,71,72,73,74,75,76,77,78,79,80,81,82,83,84,85,86,87,88,89,90,91,92,93,94,95,96,97,98,99,100,101,102,103,104,105,106,107,108,109,110,111,112,113,114,115,116,117,118,119,120,121,122,123,124,125,126,127,128,129,130,131,132,133,134,135,136,137,138,139,140,141,142,143,144,145,146,147,148,149,150,151,152,153,154,155,156,157,158,159,160,161,162,163,164,165,166,167,168,169,170,171,172,173,174,175,176,177,178,179,180,181,182,183,184,185,186,187,188,189,190,191,192,193,194,195,196,197,198,199,200,201,202,203,204,205,206,207,208,209,210,211,212,213,214,215,216,217,218,219,220,221,222,223,224,225] (fun j1=>[]) (fun j1=>(zbs [(29,(Enc.cells (x1:Tr))),(29,[.raw (.int .u8 ((j1.k:Nat):Int)),.raw (.int .u64 (wd j1.s 0)),.raw (.int .u64 (wd j1.s 1)),.raw (.int .u64 (wd j1.s 2)),.raw (.int .u64 (wd j1.s 3)),.raw (.int .i64 j1.mn),.raw (.int .i64 j1.mx),(zcm (List.length (j1.l:List Tr)) (Enc.cellsL (j1.l:List Tr)))])] 29 (List.length (j1.l:List Tr)) 8)) ?_ ?_
 ·
  intro or1 h hr1
  refine zf (zb ?_)
  refine zbm (a:= .raw (.int .i64 0)) rfl rfl rfl rfl (by dsimp only[zh,List.set]) ?_
  refine zp ?_
  refine zbx h [0,4,5,6,7,8,11,12,13,14,15,16,17,18,19,20,21,22,23,24,25,26,27,28,29,30,31,32,33,34,35,36,37,38,39,40,41,42,43,44,45,46,47,48,49,50,51,52,53,54,55,56,57,58,59,60,61,62,63,64,65,66,67,68,69,70,71,72,73,74,75,76,77,78,79,80,81,82,83,84,85,86,87,88,89,90,91,92,93,94,95,96,97,98,99,100,101,102,103,104,105,106,107,108,109,110,111,112,113,114,115,116,117,118,119,120,121,122,123,124,125,126,127,128,129,130,131,132,133,134,135,136,137,138,139,140,141,142,143,144,145,146,147,148,149,150,151,152,153,154,155,156,157,158,159,160,161,162,163,164,165,166,167,168,169,170,171,172,173,174,175,176,177,178,179,180,181,182,183,184,185,186,187,188,189,190,191,192,193,194,195,196,197,198,199,200,201,202,203,204,205,206,207,208,209,210,211,212,213,214,215,216,217,218,219,220,221,222,223,224,225] (fun s1=>[(38,.raw (.int .i64 s1.1))]) (fun s1=>(zbs [(29,(Enc.cells (x1:Tr))),(29,[.raw (.int .u8 ((s1.2.k:Nat):Int)),.raw (.int .u64 (wd s1.2.s 0)),.raw (.int .u64 (wd s1.2.s 1)),.raw (.int .u64 (wd s1.2.s 2)),.raw (.int .u64 (wd s1.2.s 3)),.raw (.int .i64 s1.2.mn),.raw (.int .i64 s1.2.mx),(zcm (List.length (s1.2.l:List Tr)) (Enc.cellsL (s1.2.l:List Tr)))])] 29 (List.length (s1.2.l:List Tr)) 8)) ?_ ?_
  ·
   exact zct [false,true,true,true,false,false,false,false,false,true,true,false,false,false,false,false,false,false,false,false,false,false,false,false,false,false,false,false,false,false,false,false,false,false,false,false,false,false,true,false,false,false,false,false,false,false,false,false,false,false,false,false,false,false,false,false,false,false,false,false,false,false,false,false,false,false,false,false,false,false,false,false,false,false,false,false,false,false,false,false,false,false,false,false,false,false,false,false,false,false,false,false,false,false,false,false,false,false,false,false,false,false,false,false,false,false,false,false,false,false,false,false,false,false,false,false,false,false,false,false,false,false,false,false,false,false,false,false,false,false,false,false,false,false,false,false,false,false,false,false,false,false,false,false,false,false,false,false,false,false,false,false,false,false,false,false,false,false,false,false,false,false,false,false,false,false,false,false,false,false,false,false,false,false,false,false,false,false,false,false,false,false,false,false,false,false,false,false,false,false,false,false,false,false,false,false,false,false,false,false,false,false,false,false,false,false,false,false,false,false,false,false,false,false,false,false,false,false,false,false,false,false,false,false,false,false] (by kernel_rfl) (by kernel_rfl)
  ·
   intro s1 p1 h
   refine zah (by dsimp only[zac,zag,List.foldl,List.set]) rfl ?_
   refine zf (zb ?_)
   refine zbm (a:= .raw (.bool (decide (s1.1<121)))) rfl rfl rfl rfl (by dsimp only[zh,List.set]) ?_
   refine zf ?_
   refine zae h (fun hc1 h=> ?_) (fun hc1 h=> ?_)
   ·
    refine zbw hc1 rfl ?_
    refine zf ?_
    refine zp ?_
    refine zgc (k0:=0) (id:=7) 4 (by kernel_rfl) (by kernel_rfl) ?_
    refine z6r (a:= .ptr 1 7) rfl rfl rfl rfl (by dsimp only[zh,List.set]) ?_
    refine z6r (a:=(zcm (List.length (s1.2.l:List Tr)) (Enc.cellsL (s1.2.l:List Tr)))) rfl rfl rfl rfl (by dsimp only[zh,List.set]) ?_
    refine zjn (args':=[.raw (.int .u8 97)]) (r:= .agg (Enc.cells (dA:Tr))) qfx rfl rfl rfl (zd rfl rfl) (za rfl rfl) (by dsimp only[zh,List.set]) ?_
    refine z6r (a:= .list (List.length ([dA]:List Tr)) (Enc.cellsL ([dA]:List Tr)) .full) rfl rfl rfl (zev (α:=Tr) (l:=[dA]) (cs:=Enc.cells (dA:Tr)++[]) rfl (by rw[Enc.cons,Enc.nil])) (by dsimp only[zh,List.set]) ?_
    refine zjo ?_
    obtain⟨g2,h⟩:=zi h
    refine zfp (a:=(zcm (List.length ((s1.2.l++[dA]):List Tr)) (Enc.cellsL ((s1.2.l++[dA]):List Tr)))) (σ'':=(zbs [(29,(Enc.cells (x1:Tr))),(29,[.raw (.int .u8 ((s1.2.k:Nat):Int)),.raw (.int .u64 (wd s1.2.s 0)),.raw (.int .u64 (wd s1.2.s 1)),.raw (.int .u64 (wd s1.2.s 2)),.raw (.int .u64 (wd s1.2.s 3)),.raw (.int .i64 s1.2.mn),.raw (.int .i64 s1.2.mx),(zcm (List.length (s1.2.l:List Tr)) (Enc.cellsL (s1.2.l:List Tr)))])] 29 (List.length ((s1.2.l++[dA]):List Tr)) 8)) rfl rfl rfl (zft rfl rfl rfl rfl (zdy (α:=Tr) (bs:=[(29,(Enc.cells (x1:Tr))),(29,[.raw (.int .u8 ((s1.2.k:Nat):Int)),.raw (.int .u64 (wd s1.2.s 0)),.raw (.int .u64 (wd s1.2.s 1)),.raw (.int .u64 (wd s1.2.s 2)),.raw (.int .u64 (wd s1.2.s 3)),.raw (.int .i64 s1.2.mn),.raw (.int .i64 s1.2.mx),(zcm (List.length (s1.2.l:List Tr)) (Enc.cellsL (s1.2.l:List Tr)))])]) (a:=s1.2.l) (b:=[dA]) g2 rfl rfl rfl rfl rfl ⟨rfl,by decide⟩)) (by dsimp only[zh,List.set]) rfl ?_
    refine zbm (a:= .ptr 1 7) rfl rfl rfl rfl (by dsimp only[zh,List.set]) ?_
    refine zfp (σ'':=(zbs [(29,(Enc.cells (x1:Tr))),(29,[.raw (.int .u8 ((s1.2.k:Nat):Int)),.raw (.int .u64 (wd s1.2.s 0)),.raw (.int .u64 (wd s1.2.s 1)),.raw (.int .u64 (wd s1.2.s 2)),.raw (.int .u64 (wd s1.2.s 3)),.raw (.int .i64 s1.2.mn),.raw (.int .i64 s1.2.mx),(zcm (List.length ((s1.2.l++[dA]):List Tr)) (Enc.cellsL ((s1.2.l++[dA]):List Tr)))])] 29 (List.length ((s1.2.l++[dA]):List Tr)) 8)) rfl rfl rfl (z0v rfl rfl rfl rfl rfl (Nat.le_of_ble_eq_true rfl)) (by dsimp only[zh,List.set]) rfl ?_
    refine zb (k0:=0) (id:=8) ?_
    obtain⟨g3,h⟩:=zi h
    refine zbm (a:= .raw (.int .i64 (s1.1+1))) rfl rfl rfl (zbh (zld rfl rfl rfl rfl g3.1 g3.2)) (by dsimp only[zh,List.set]) ?_
    refine zab ?_
    refine zas (p:=p1) ((s1.1+1),(Tr.mk s1.2.k s1.2.s s1.2.mn s1.2.mx (s1.2.l++[dA]))) h ?_
    exact zct [false,true,true,true,false,false,false,false,false,true,true,false,false,false,false,false,false,false,false,false,false,false,false,false,false,false,false,false,false,false,false,false,false,false,false,false,false,false,true,false,false,false,false,false,false,false,false,false,false,false,false,false,false,false,false,false,false,false,false,false,false,false,false,false,false,false,false,false,false,false,false,false,false,false,false,false,false,false,false,false,false,false,false,false,false,false,false,false,false,false,false,false,false,false,false,false,false,false,false,false,false,false,false,false,false,false,false,false,false,false,false,false,false,false,false,false,false,false,false,false,false,false,false,false,false,false,false,false,false,false,false,false,false,false,false,false,false,false,false,false,false,false,false,false,false,false,false,false,false,false,false,false,false,false,false,false,false,false,false,false,false,false,false,false,false,false,false,false,false,false,false,false,false,false,false,false,false,false,false,false,false,false,false,false,false,false,false,false,false,false,false,false,false,false,false,false,false,false,false,false,false,false,false,false,false,false,false,false,false,false,false,false,false,false,false,false,false,false,false,false,false,false,false,false,false,false] (by kernel_rfl) (by kernel_rfl)
   ·
    refine zbt hc1 rfl ?_
    refine zw h (fun h=> ?_)
    refine zg (o:=or1) ((Tr.mk s1.2.k s1.2.s s1.2.mn s1.2.mx s1.2.l)) h ?_
    exact zct [false,true,true,true,false,false,false,false,false,true,true,false,false,false,false,false,false,false,false,false,false,false,false,false,false,false,false,false,false,false,false,false,false,false,false,false,false,false,false,false,false,false,false,false,false,false,false,false,false,false,false,false,false,false,false,false,false,false,false,false,false,false,false,false,false,false,false,false,false,false,false,false,false,false,false,false,false,false,false,false,false,false,false,false,false,false,false,false,false,false,false,false,false,false,false,false,false,false,false,false,false,false,false,false,false,false,false,false,false,false,false,false,false,false,false,false,false,false,false,false,false,false,false,false,false,false,false,false,false,false,false,false,false,false,false,false,false,false,false,false,false,false,false,false,false,false,false,false,false,false,false,false,false,false,false,false,false,false,false,false,false,false,false,false,false,false,false,false,false,false,false,false,false,false,false,false,false,false,false,false,false,false,false,false,false,false,false,false,false,false,false,false,false,false,false,false,false,false,false,false,false,false,false,false,false,false,false,false,false,false,false,false,false,false,false,false,false,false,false,false,false,false,false,false,false,false] (by kernel_rfl) (by kernel_rfl)
 ·
  intro j1 h
  refine zah (by dsimp only[zac,zag,List.foldl,List.set]) rfl ?_
  refine zf ?_
  refine w_drawB (k0:=0) (id:=9) 20 (by kernel_rfl) (by kernel_rfl) ?_
  refine z9o (a:= .agg (Enc.cells ((Tr.mk 7 (0#256) 0 0 []):Tr))) (a0:=(zca (Tr.mk 7 (0#256) 0 0 []) .full)) rfl rfl rfl rfl (by kernel_rfl) (zj _ _) (by dsimp only[zh,List.set]) ?_
  refine z9o (a:= .agg (Enc.cells ((Tr.mk 2 (0#256) 0 0 []):Tr))) (a0:=(zca (Tr.mk 2 (0#256) 0 0 []) .full)) rfl rfl rfl rfl (by kernel_rfl) (zj _ _) (by dsimp only[zh,List.set]) ?_
  refine zyp (a:= .agg (Enc.cells (x1:Tr))) rfl rfl rfl rfl rfl (by dsimp only[zh,List.set]) ?_
  refine zyp (a:= .list (List.length ([x1]:List Tr)) (Enc.cellsL ([x1]:List Tr)) .full) rfl rfl rfl rfl (zev (α:=Tr) (l:=[x1]) (cs:=Enc.cells (x1:Tr)++[]) rfl (by rw[Enc.cons,Enc.nil])) (by dsimp only[zh,List.set]) ?_
  obtain⟨x2,hx2,h⟩:=zu h
  refine zqe (args':=[.list (List.length ([x1]:List Tr)) (Enc.cellsL ([x1]:List Tr)) .none]) (r:= .agg (Enc.cells (x2:Tr))) (z0d [x1] x2 hx2) rfl rfl rfl rfl (zd (zet (Enc.cloL _)) rfl) (za (zan (Enc.cloL _)) rfl) (by dsimp only[zh,List.set]) ?_
  refine z9o (a:= .agg (Enc.cells (noneT:Tr))) (a0:=(zca noneT .full)) rfl rfl rfl rfl (by kernel_rfl) (zj _ _) (by dsimp only[zh,List.set]) ?_
  refine zyp (a:= .agg (Enc.cells (x1:Tr))) rfl rfl rfl rfl rfl (by dsimp only[zh,List.set]) ?_
  refine zyp (a:= .list (List.length ([noneT,x1]:List Tr)) (Enc.cellsL ([noneT,x1]:List Tr)) .full) rfl rfl rfl rfl (zev (α:=Tr) (l:=[noneT,x1]) (cs:=Enc.cells (noneT:Tr)++(Enc.cells (x1:Tr)++[])) rfl (by rw[Enc.cons,Enc.cons,Enc.nil])) (by dsimp only[zh,List.set]) ?_
  obtain⟨x3,hx3,h⟩:=zu h
  refine zqe (args':=[.list (List.length ([noneT,x1]:List Tr)) (Enc.cellsL ([noneT,x1]:List Tr)) .none]) (r:= .agg (Enc.cells (x3:Tr))) (z0d [noneT,x1] x3 hx3) rfl rfl rfl rfl (zd (zet (Enc.cloL _)) rfl) (za (zan (Enc.cloL _)) rfl) (by dsimp only[zh,List.set]) ?_
  refine z9o (a:= .agg (Enc.cells ((Tr.mk j1.k j1.s j1.mn j1.mx j1.l):Tr))) (a0:= .agg [.raw (.int .u8 ((j1.k:Nat):Int)),.raw (.int .u64 (wd j1.s 0)),.raw (.int .u64 (wd j1.s 1)),.raw (.int .u64 (wd j1.s 2)),.raw (.int .u64 (wd j1.s 3)),.raw (.int .i64 j1.mn),.raw (.int .i64 j1.mx),(zcm (List.length (j1.l:List Tr)) (Enc.cellsL (j1.l:List Tr)))]) rfl rfl rfl rfl (by kernel_rfl) (show AV.agg (stripL _)=_ from congrArg AV.agg (zd rfl (zd rfl (zd rfl (zd rfl (zd rfl (zd rfl (zd rfl (zd (zvm (Enc.cloL _) Enc.z) rfl))))))))) (by dsimp only[zh,List.set]) ?_
  refine zqe (args':=[.raw (.int .u8 97)]) (r:= .agg (Enc.cells (dA:Tr))) qfx rfl rfl rfl rfl (zd rfl rfl) (za rfl rfl) (by dsimp only[zh,List.set]) ?_
  obtain⟨x4,hx4,h⟩:=zu h
  refine zqe (args':=[.agg (Enc.cells (dA:Tr)),.raw (.int .i64 16),.raw (.int .i64 16)]) (r:= .agg (Enc.cells (x4:Tr))) (zxr dA 16 16 x4 hx4) rfl rfl rfl rfl (zd (zaj (zl (Enc.clo _))) (zd rfl (zd rfl rfl))) (za (zn _ _ (zl (Enc.clo _))) (za rfl (za rfl rfl))) (by dsimp only[zh,List.set]) ?_
  obtain⟨x5,hx5,h⟩:=zu h
  refine zqe (args':=[.agg (Enc.cells (x4:Tr)),.raw (.int .i64 16),.raw (.int .i64 16)]) (r:= .agg (Enc.cells (x5:Tr))) (zxr x4 16 16 x5 hx5) rfl rfl rfl rfl (zd (zaj (zl (Enc.clo _))) (zd rfl (zd rfl rfl))) (za (zn _ _ (zl (Enc.clo _))) (za rfl (za rfl rfl))) (by dsimp only[zh,List.set]) ?_
  obtain⟨x6,hx6,h⟩:=zu h
  refine zqe (args':=[.agg (Enc.cells (x5:Tr)),.raw (.int .i64 2),.raw (.int .i64 2)]) (r:= .agg (Enc.cells (x6:Tr))) (zxr x5 2 2 x6 hx6) rfl rfl rfl rfl (zd (zaj (zl (Enc.clo _))) (zd rfl (zd rfl rfl))) (za (zn _ _ (zl (Enc.clo _))) (za rfl (za rfl rfl))) (by dsimp only[zh,List.set]) ?_
  refine zyp (a:= .list (List.length ([(Tr.mk 7 (0#256) 0 0 []),(Tr.mk 2 (0#256) 0 0 []),x2,x3,(Tr.mk j1.k j1.s j1.mn j1.mx j1.l),x6]:List Tr)) (Enc.cellsL ([(Tr.mk 7 (0#256) 0 0 []),(Tr.mk 2 (0#256) 0 0 []),x2,x3,(Tr.mk j1.k j1.s j1.mn j1.mx j1.l),x6]:List Tr)) .full) rfl rfl rfl rfl (zev (α:=Tr) (l:=[(Tr.mk 7 (0#256) 0 0 []),(Tr.mk 2 (0#256) 0 0 []),x2,x3,(Tr.mk j1.k j1.s j1.mn j1.mx j1.l),x6]) (cs:=Enc.cells ((Tr.mk 7 (0#256) 0 0 []):Tr)++(Enc.cells ((Tr.mk 2 (0#256) 0 0 []):Tr)++(Enc.cells (x2:Tr)++(Enc.cells (x3:Tr)++(Enc.cells ((Tr.mk j1.k j1.s j1.mn j1.mx j1.l):Tr)++(Enc.cells (x6:Tr)++[])))))) (by kernel_rfl) (by rw[Enc.cons,Enc.cons,Enc.cons,Enc.cons,Enc.cons,Enc.cons,Enc.nil])) (by dsimp only[zh,List.set]) ?_
  refine zyp (a:= .raw (.int .u8 way)) rfl rfl rfl rfl rfl (by dsimp only[zh,List.set]) ?_
  refine zyp (a:= .raw (.int .u8 (Int.tmod way 6))) rfl rfl rfl rfl rfl (by dsimp only[zh,List.set]) ?_
  obtain⟨g4,h⟩:=zi h
  obtain⟨x7,hx7,h⟩:=zo h
  refine zyp (a:= .iptr (Enc.cells x7++Enc.cellsL (List.drop (Int.toNat (Int.tmod way 6)+1) [(Tr.mk 7 (0#256) 0 0 []),(Tr.mk 2 (0#256) 0 0 []),x2,x3,(Tr.mk j1.k j1.s j1.mn j1.mx j1.l),x6]))) rfl rfl rfl rfl (by rw[←hx7];exact(ztq (α:=Tr) (l:=[(Tr.mk 7 (0#256) 0 0 []),(Tr.mk 2 (0#256) 0 0 []),x2,x3,(Tr.mk j1.k j1.s j1.mn j1.mx j1.l),x6]) g4 rfl rfl rfl rfl rfl)) (by dsimp only[zh,List.set]) ?_
  refine zyp (a:= .agg (Enc.cells (x7:Tr))) rfl rfl rfl rfl rfl (by dsimp only[zh,List.set]) ?_
  refine hB_new _ rfl rfl rfl rfl rfl rfl (by dsimp only[List.set]) ?_
  refine qnd (n:=2) rfl (show _=((zbs [(29,(Enc.cells (x1:Tr))),(29,[.raw (.int .u8 ((j1.k:Nat):Int)),.raw (.int .u64 (wd j1.s 0)),.raw (.int .u64 (wd j1.s 1)),.raw (.int .u64 (wd j1.s 2)),.raw (.int .u64 (wd j1.s 3)),.raw (.int .i64 j1.mn),.raw (.int .i64 j1.mx),(zcm (List.length (j1.l:List Tr)) (Enc.cellsL (j1.l:List Tr)))]),(29,[.raw (.int .u8 0),.raw (.int .u64 0),.raw (.int .u64 0),.raw (.int .u64 0),.raw (.int .u64 0),.raw (.int .i64 0),.raw (.int .i64 0),.list 0 [] .full])] 29 (List.length (j1.l:List Tr)) 8):St) from rfl) (by dsimp only[List.nil_append,List.cons_append,zoo,List.set,Nat.reduceAdd]) ?_
  refine zfp (σ'':=(zbs [(29,(Enc.cells (x1:Tr))),(29,[.raw (.int .u8 ((j1.k:Nat):Int)),.raw (.int .u64 (wd j1.s 0)),.raw (.int .u64 (wd j1.s 1)),.raw (.int .u64 (wd j1.s 2)),.raw (.int .u64 (wd j1.s 3)),.raw (.int .i64 j1.mn),.raw (.int .i64 j1.mx),(zcm (List.length (j1.l:List Tr)) (Enc.cellsL (j1.l:List Tr)))]),(29,(Enc.cells (x7:Tr)))] 29 (List.length (j1.l:List Tr)) 8)) rfl rfl rfl (zaz (n:=8) rfl rfl rfl rfl rfl rfl rfl rfl (by decide)) (by dsimp only[zh,List.set]) rfl ?_
  refine zf (zb ?_)
  refine zbm (a:= .agg (Enc.cells (x7:Tr))) rfl rfl rfl rfl (by dsimp only[zh,List.set]) ?_
  obtain⟨x8,hx8,h⟩:=zu h
  refine zbr (args':=[.agg (Enc.cells (x7:Tr))]) (r:= .tup [.agg (Enc.cells (x8.1:Tr)),.raw (.int .i64 x8.2)]) (z4v x7 x8 hx8) rfl rfl (zd (zaj (zl (Enc.clo _))) rfl) (za (zn _ _ (zl (Enc.clo _))) rfl) (by dsimp only[zh,List.set]) ?_
  refine zab ?_
  refine zol ?_
  refine zol ?_
  refine zfp (a:= .ptr 3 0) (σ'':=(zbs [(29,(Enc.cells (x1:Tr))),(29,[.raw (.int .u8 ((j1.k:Nat):Int)),.raw (.int .u64 (wd j1.s 0)),.raw (.int .u64 (wd j1.s 1)),.raw (.int .u64 (wd j1.s 2)),.raw (.int .u64 (wd j1.s 3)),.raw (.int .i64 j1.mn),.raw (.int .i64 j1.mx),(zcm (List.length (j1.l:List Tr)) (Enc.cellsL (j1.l:List Tr)))]),(29,(Enc.cells (x7:Tr))),(29,[.raw (.int .u8 0),.raw (.int .u64 0),.raw (.int .u64 0),.raw (.int .u64 0),.raw (.int .u64 0),.raw (.int .i64 0),.raw (.int .i64 0),.list 0 [] .full])] 29 (List.length (j1.l:List Tr)) 8)) rfl rfl rfl rfl (by dsimp only[zh,List.set]) rfl ?_
  refine zfp (σ'':=(zbs [(29,(Enc.cells (x1:Tr))),(29,[.raw (.int .u8 ((j1.k:Nat):Int)),.raw (.int .u64 (wd j1.s 0)),.raw (.int .u64 (wd j1.s 1)),.raw (.int .u64 (wd j1.s 2)),.raw (.int .u64 (wd j1.s 3)),.raw (.int .i64 j1.mn),.raw (.int .i64 j1.mx),(zcm (List.length (j1.l:List Tr)) (Enc.cellsL (j1.l:List Tr)))]),(29,(Enc.cells (x7:Tr))),(29,(Enc.cells (x8.1:Tr)))] 29 (List.length (j1.l:List Tr)) 8)) rfl rfl rfl (zaz (n:=8) rfl rfl rfl rfl rfl rfl rfl rfl (by decide)) (by dsimp only[zh,List.set]) rfl ?_
  refine zab ?_
  refine zf (zb ?_)
  refine zbm (a:= .agg (Enc.cells (x7:Tr))) rfl rfl rfl rfl (by dsimp only[zh,List.set]) ?_
  obtain⟨x9,hx9,h⟩:=zu h
  refine zbr (args':=[.agg (Enc.cells (x7:Tr))]) (r:= .tup [.raw (.bool x9.1),.raw (.int .i64 x9.2)]) (z2h x7 x9 hx9) rfl rfl (zd (zaj (zl (Enc.clo _))) rfl) (za (zn _ _ (zl (Enc.clo _))) rfl) (by dsimp only[zh,List.set]) ?_
  refine zab ?_
  refine zol ?_
  refine zol ?_
  refine zab ?_
  refine zab ?_
  refine zf (zb ?_)
  refine zbm (a:= .agg (Enc.cells (x7:Tr))) rfl rfl rfl rfl (by dsimp only[zh,List.set]) ?_
  refine zab ?_
  obtain⟨x10,hx10,h⟩:=zu h
  refine zbr (args':=[.agg (Enc.cells (x7:Tr)),.raw (.int .u8 c)]) (r:= .tup [.list (List.length (x10.1:List Tr)) (Enc.cellsL (x10.1:List Tr)) .none,.raw (.int .i64 x10.2)]) (zxl x7 c x10 hx10) rfl rfl (zd (zaj (zl (Enc.clo _))) (zd rfl rfl)) (za (zn _ _ (zl (Enc.clo _))) (za rfl rfl)) (by dsimp only[zh,List.set]) ?_
  refine zab ?_
  refine zol ?_
  refine zol ?_
  refine zab ?_
  refine zab ?_
  refine zf (zb ?_)
  refine zbm (a:= .agg (Enc.cells (x7:Tr))) rfl rfl rfl rfl (by dsimp only[zh,List.set]) ?_
  obtain⟨x11,hx11,h⟩:=zu h
  refine zbr (args':=[.agg (Enc.cells (x7:Tr))]) (r:= .tup [.list (List.length (x11.1:List Arc)) (Enc.cellsL (x11.1:List Arc)) .none,.raw (.int .i64 x11.2)]) (qaf fuel x7 x11 hx11) rfl rfl (zd (zaj (zl (Enc.clo _))) rfl) (za (zn _ _ (zl (Enc.clo _))) rfl) (by dsimp only[zh,List.set]) ?_
  refine zab ?_
  refine zol ?_
  refine zol ?_
  refine zab ?_
  refine zab ?_
  obtain⟨g5,h⟩:=zi h
  obtain⟨x12,hx12,h⟩:=zu h
  refine zxt (id:=14) [.top,.raw (.int .u8 way),.raw (.int .u8 c),.raw (.int .i64 n),.top,.top,.top,.top,.top,.ptr 0 0,.ptr 1 0,.ptr 2 0,.ptr 3 0,.raw (.int .i64 x8.2),.raw (.bool x9.1),.raw (.int .i64 x9.2),.list (List.length (x10.1:List Tr)) (Enc.cellsL (x10.1:List Tr)) .none,.raw (.int .i64 x10.2),.list (List.length (x11.1:List Arc)) (Enc.cellsL (x11.1:List Arc)) .none,.raw (.int .i64 x11.2),.list (List.length (x12.1:List Tr)) (Enc.cellsL (x12.1:List Tr)) .none,.raw (.int .i64 x12.2),.top,.top,.top,.top,.top,.top,.top,.top,.top,.top,.top,.top,.top,.top,.top,.top,.top,.top,.top,.top,.top,.top,.top,.top,.top,.agg (Enc.cells ((Tr.mk 7 (0#256) 0 0 []):Tr)),.agg (Enc.cells ((Tr.mk 2 (0#256) 0 0 []):Tr)),.agg (Enc.cells (x1:Tr)),.list (List.length ([x1]:List Tr)) (Enc.cellsL ([x1]:List Tr)) .full,.agg (Enc.cells (x2:Tr)),.agg (Enc.cells (noneT:Tr)),.agg (Enc.cells (x1:Tr)),.list (List.length ([noneT,x1]:List Tr)) (Enc.cellsL ([noneT,x1]:List Tr)) .full,.agg (Enc.cells (x3:Tr)),.agg (Enc.cells ((Tr.mk j1.k j1.s j1.mn j1.mx j1.l):Tr)),.agg (Enc.cells (dA:Tr)),.agg (Enc.cells (x4:Tr)),.agg (Enc.cells (x5:Tr)),.agg (Enc.cells (x6:Tr)),.list (List.length ([(Tr.mk 7 (0#256) 0 0 []),(Tr.mk 2 (0#256) 0 0 []),x2,x3,(Tr.mk j1.k j1.s j1.mn j1.mx j1.l),x6]:List Tr)) (Enc.cellsL ([(Tr.mk 7 (0#256) 0 0 []),(Tr.mk 2 (0#256) 0 0 []),x2,x3,(Tr.mk j1.k j1.s j1.mn j1.mx j1.l),x6]:List Tr)) .full,.raw (.int .u8 way),.raw (.int .u8 (Int.tmod way 6)),.iptr (Enc.cells x7++Enc.cellsL (List.drop (Int.toNat (Int.tmod way 6)+1) [(Tr.mk 7 (0#256) 0 0 []),(Tr.mk 2 (0#256) 0 0 []),x2,x3,(Tr.mk j1.k j1.s j1.mn j1.mx j1.l),x6])),.agg (Enc.cells (x7:Tr)),.tup [.agg (Enc.cells (x8.1:Tr)),.raw (.int .i64 x8.2)],.agg (Enc.cells (x7:Tr)),.tup [.agg (Enc.cells (x8.1:Tr)),.raw (.int .i64 x8.2)],.agg (Enc.cells (x8.1:Tr)),.raw (.int .i64 x8.2),.tup [.raw (.bool x9.1),.raw (.int .i64 x9.2)],.agg (Enc.cells (x7:Tr)),.tup [.raw (.bool x9.1),.raw (.int .i64 x9.2)],.raw (.bool x9.1),.raw (.int .i64 x9.2),.tup [.list (List.length (x10.1:List Tr)) (Enc.cellsL (x10.1:List Tr)) .none,.raw (.int .i64 x10.2)],.agg (Enc.cells (x7:Tr)),.raw (.int .u8 c),.tup [.list (List.length (x10.1:List Tr)) (Enc.cellsL (x10.1:List Tr)) .none,.raw (.int .i64 x10.2)],.list (List.length (x10.1:List Tr)) (Enc.cellsL (x10.1:List Tr)) .none,.raw (.int .i64 x10.2),.tup [.list (List.length (x11.1:List Arc)) (Enc.cellsL (x11.1:List Arc)) .none,.raw (.int .i64 x11.2)],.agg (Enc.cells (x7:Tr)),.tup [.list (List.length (x11.1:List Arc)) (Enc.cellsL (x11.1:List Arc)) .none,.raw (.int .i64 x11.2)],.list (List.length (x11.1:List Arc)) (Enc.cellsL (x11.1:List Arc)) .none,.raw (.int .i64 x11.2),.tup [.list (List.length (x12.1:List Tr)) (Enc.cellsL (x12.1:List Tr)) .none,.raw (.int .i64 x12.2)],.agg (Enc.cells (x7:Tr)),.bsl 4 0 (Int.toNat (4097:Int)) 1 true,.raw (.string (bs (List.replicate (Int.toNat (4097:Int)) (0:UInt8)))),.tup [.list (List.length (x12.1:List Tr)) (Enc.cellsL (x12.1:List Tr)) .none,.raw (.int .i64 x12.2)],.list (List.length (x12.1:List Tr)) (Enc.cellsL (x12.1:List Tr)) .none,.raw (.int .i64 x12.2),.top,.top,.top,.top,.top,.top,.top,.top,.top,.top,.top,.top,.top,.top,.top,.top,.top,.top,.top,.top,.top,.top,.top,.top,.top,.top,.top,.top,.top,.top,.top,.top,.top,.top,.top,.top,.top,.top,.top,.top,.top,.top,.top,.top,.top,.top,.top,.top,.top,.top,.top,.top,.top,.top,.top,.top,.top,.top,.top,.top,.top,.top,.top,.top,.top,.top,.top,.top,.top,.top,.top,.top,.top,.top,.top,.top,.top,.top,.top,.top,.top,.top,.top,.top,.top,.top,.top,.top,.top,.top,.top,.top,.top,.top,.top,.top,.top,.top,.top,.top,.top,.top,.top,.top,.top,.top,.top,.top,.top,.top,.top,.top,.top,.top,.top,.top,.top,.top,.top,.top,.top,.top,.top,.top,.top,.top,.top,.top,.top,.top,.top,.top] (zbs [(29,(Enc.cells (x1:Tr))),(29,[.raw (.int .u8 ((j1.k:Nat):Int)),.raw (.int .u64 (wd j1.s 0)),.raw (.int .u64 (wd j1.s 1)),.raw (.int .u64 (wd j1.s 2)),.raw (.int .u64 (wd j1.s 3)),.raw (.int .i64 j1.mn),.raw (.int .i64 j1.mx),(zcm (List.length (j1.l:List Tr)) (Enc.cellsL (j1.l:List Tr)))]),(29,(Enc.cells (x7:Tr))),(29,(Enc.cells (x8.1:Tr))),(5,(Enc.cellsL ((List.replicate (Int.toNat (4097:Int)) (0:UInt8)):List UInt8)))] 29 (List.length (j1.l:List Tr)) 8) ?_ ?_
  ·
   refine zju (fun ops hops FIN hFIN S0 hS0=> ?_)
   let v88:AV:= .agg (Enc.cells (x7:Tr))
   let v89:AV:= .bsl 4 0 (Int.toNat (4097:Int)) 1 true
   let v90:AV:= .raw (.string (bs (List.replicate (Int.toNat (4097:Int)) (0:UInt8))))
   let v91:AV:= .tup [.list (List.length (x12.1:List Tr)) (Enc.cellsL (x12.1:List Tr)) .none,.raw (.int .i64 x12.2)]
   let G0:St:=(zbs [(29,(Enc.cells (x1:Tr))),(29,[.raw (.int .u8 ((j1.k:Nat):Int)),.raw (.int .u64 (wd j1.s 0)),.raw (.int .u64 (wd j1.s 1)),.raw (.int .u64 (wd j1.s 2)),.raw (.int .u64 (wd j1.s 3)),.raw (.int .i64 j1.mn),.raw (.int .i64 j1.mx),(zcm (List.length (j1.l:List Tr)) (Enc.cellsL (j1.l:List Tr)))]),(29,(Enc.cells (x7:Tr))),(29,(Enc.cells (x8.1:Tr)))] 29 (List.length (j1.l:List Tr)) 8)
   let G1:St:=(zbs [(29,(Enc.cells (x1:Tr))),(29,[.raw (.int .u8 ((j1.k:Nat):Int)),.raw (.int .u64 (wd j1.s 0)),.raw (.int .u64 (wd j1.s 1)),.raw (.int .u64 (wd j1.s 2)),.raw (.int .u64 (wd j1.s 3)),.raw (.int .i64 j1.mn),.raw (.int .i64 j1.mx),(zcm (List.length (j1.l:List Tr)) (Enc.cellsL (j1.l:List Tr)))]),(29,(Enc.cells (x7:Tr))),(29,(Enc.cells (x8.1:Tr))),(5,(Enc.cellsL ((List.replicate (Int.toNat (4097:Int)) (0:UInt8)):List UInt8)))] 29 (List.length (j1.l:List Tr)) 8)
   obtain⟨ps,hps⟩: ∃ps:List (Option (Nat×AV)),ps=[some (88,v88),some (89,v89),some (90,v90),some (91,v91),some (87,.tup [.list (List.length (x12.1:List Tr)) (Enc.cellsL (x12.1:List Tr)) .none,.raw (.int .i64 x12.2)]),some (92,.list (List.length (x12.1:List Tr)) (Enc.cellsL (x12.1:List Tr)) .none),some (93,.raw (.int .i64 x12.2)),some (20,.list (List.length (x12.1:List Tr)) (Enc.cellsL (x12.1:List Tr)) .none),some (21,.raw (.int .i64 x12.2))]:=⟨_,rfl⟩
   let N:Nat→Nat→St→Prop:=fun k m σ=>aN (ITP Tryz.prog) Tryz.prog none ops FIN S0 ps 9 k m σ
   have n13:N 0 511 G1:=by
    exact aN_0 hops hS0 hps (hFIN _ _ (Wk.refl _ _ _))
   have n12:N 1 255 G1:=by
    refine zjh hops hS0 hps 8 ?_
    ·
     refine zab ?_
     exact zar n13 hS0 hps
   have n11:N 2 191 G1:=by
    refine zjh hops hS0 hps 6 ?_
    ·
     refine zol ?_
     exact zar n12 hS0 hps
   have n10:N 2 127 G1:=by
    refine zjh hops hS0 hps 7 ?_
    ·
     refine zab ?_
     exact zar n12 hS0 hps
   have n9:N 3 95 G1:=by
    refine zjh hops hS0 hps 5 ?_
    ·
     refine zol ?_
     exact zar n10 hS0 hps
   have n8:N 3 63 G1:=by
    refine zqq hops hS0 hps 6 7 ?_ ?_
    ·
     refine zol ?_
     exact zar n10 hS0 hps
    ·
     refine zab ?_
     exact zar n11 hS0 hps
   have n7:N 4 31 G1:=by
    refine zqq hops hS0 hps 5 6 ?_ ?_
    ·
     refine zol ?_
     exact zar n8 hS0 hps
    ·
     refine zol ?_
     exact zar n9 hS0 hps
   have n6:N 5 15 G1:=by
    refine zjh hops hS0 hps 4 ?_
    ·
     refine zab ?_
     exact zar n7 hS0 hps
   have n5:N 6 7 G1:=by
    refine zjh hops hS0 hps 3 ?_
    ·
     refine zbr (args':=[.agg (Enc.cells (x7:Tr)),.raw (.string (bs (List.replicate (Int.toNat (4097:Int)) (0:UInt8))))]) (r:=v91) (z0e fuel x7 (List.replicate (Int.toNat (4097:Int)) (0:UInt8)) x12 hx12) rfl rfl (zd (zaj (zl (Enc.clo _))) (zd rfl rfl)) (za (zn _ _ (zl (Enc.clo _))) (za rfl rfl)) (by dsimp only[zh,List.set]) ?_
     exact zar n6 hS0 hps
   have n4:N 7 6 G1:=by
    refine zjh hops hS0 hps 0 ?_
    ·
     refine zbm (a:=v88) rfl rfl rfl rfl (by dsimp only[zh,List.set]) ?_
     exact zar n5 hS0 hps
   have n3:N 7 3 G1:=by
    refine zjh hops hS0 hps 2 ?_
    ·
     refine zgs (a:=v90) (σ'':=G1) rfl rfl rfl (zmk (l:=(List.replicate (Int.toNat (4097:Int)) (0:UInt8))) (List.length_replicate ..) rfl rfl rfl rfl rfl rfl) (by dsimp only[zh,List.set]) rfl ?_
     exact zar n5 hS0 hps
   have n2:N 8 2 G1:=by
    refine zqq hops hS0 hps 0 2 ?_ ?_
    ·
     refine zbm (a:=v88) rfl rfl rfl rfl (by dsimp only[zh,List.set]) ?_
     exact zar n3 hS0 hps
    ·
     refine zgs (a:=v90) (σ'':=G1) rfl rfl rfl (zmk (l:=(List.replicate (Int.toNat (4097:Int)) (0:UInt8))) (List.length_replicate ..) rfl rfl rfl rfl rfl rfl) (by dsimp only[zh,List.set]) rfl ?_
     exact zar n4 hS0 hps
   have n1:N 8 1 G0:=by
    refine zjh hops hS0 hps 1 ?_
    ·
     refine zgs (a:=v89) (σ'':=G1) rfl rfl rfl (zjt (α:=UInt8) (by':=1) (0:UInt8) g5 rfl rfl rfl rfl rfl rfl rfl rfl rfl ⟨rfl,by decide⟩) (by dsimp only[zh,List.set]) rfl ?_
     exact zar n3 hS0 hps
   have n0:N 9 0 G0:=by
    refine zqq hops hS0 hps 0 1 ?_ ?_
    ·
     refine zbm (a:=v88) rfl rfl rfl rfl (by dsimp only[zh,List.set]) ?_
     exact zar n1 hS0 hps
    ·
     refine zgs (a:=v89) (σ'':=G1) rfl rfl rfl (zjt (α:=UInt8) (by':=1) (0:UInt8) g5 rfl rfl rfl rfl rfl rfl rfl rfl rfl ⟨rfl,by decide⟩) (by dsimp only[zh,List.set]) rfl ?_
     exact zar n2 hS0 hps
   exact znj n0 hps
  ·
   refine zf (zb ?_)
   refine zbm (a:= .agg (Enc.cells (x7:Tr))) rfl rfl rfl rfl (by dsimp only[zh,List.set]) ?_
   obtain⟨x13,hx13,h⟩:=zu h
   refine zbr (args':=[.agg (Enc.cells (x7:Tr)),.raw (.string (bs ([]:List UInt8)))]) (r:= .tup [.raw (.bool x13.1),.raw (.int .i64 x13.2)]) (zkr fuel x7 ([]:List UInt8) x13 hx13) rfl rfl (zd (zaj (zl (Enc.clo _))) (zd rfl rfl)) (za (zn _ _ (zl (Enc.clo _))) (za rfl rfl)) (by dsimp only[zh,List.set]) ?_
   refine zab ?_
   refine zol ?_
   refine zol ?_
   refine zab ?_
   refine zab ?_
   refine zf (zb ?_)
   refine zbm (a:= .agg (Enc.cells (x7:Tr))) rfl rfl rfl rfl (by dsimp only[zh,List.set]) ?_
   obtain⟨x14,hx14,h⟩:=zu h
   refine zbr (args':=[.agg (Enc.cells (x7:Tr)),.raw (.int .i64 (-1))]) (r:= .tup [.list (List.length (x14.1:List Tr)) (Enc.cellsL (x14.1:List Tr)) .none,.raw (.int .i64 x14.2)]) (z2y x7 (-1) x14 hx14) rfl rfl (zd (zaj (zl (Enc.clo _))) (zd rfl rfl)) (za (zn _ _ (zl (Enc.clo _))) (za rfl rfl)) (by dsimp only[zh,List.set]) ?_
   refine zab ?_
   refine zol ?_
   refine zol ?_
   refine zab ?_
   refine zab ?_
   refine zau h [1,8,10,13,15,17,19,21,23,25,27,47,48,49,50,51,52,53,54,55,56,57,58,59,60,61,62,63,64,65,66,67,68,69,70,71,72,73,74,75,76,77,78,79,80,81,82,83,84,85,86,87,88,89,90,91,92,93,94,95,96,97,98,99,100,101,102,103,104,105,106,107,108,109,110,111,112,113,114,115,116,117,118,119] (fun j2=>[]) (fun j2=>(zbs [(29,(Enc.cells (x1:Tr))),(29,[.raw (.int .u8 ((j1.k:Nat):Int)),.raw (.int .u64 (wd j1.s 0)),.raw (.int .u64 (wd j1.s 1)),.raw (.int .u64 (wd j1.s 2)),.raw (.int .u64 (wd j1.s 3)),.raw (.int .i64 j1.mn),.raw (.int .i64 j1.mx),(zcm (List.length (j1.l:List Tr)) (Enc.cellsL (j1.l:List Tr)))]),(29,(Enc.cells (x7:Tr))),(29,(Enc.cells (x8.1:Tr))),(5,(Enc.cellsL ((List.replicate (Int.toNat (4097:Int)) (0:UInt8)):List UInt8)))] 29 (List.length (j1.l:List Tr)) 8)) ?_ ?_
   ·
    intro or2 h hr2
    refine zf (zb ?_)
    refine zab ?_
    refine zab ?_
    refine zab ?_
    refine zab ?_
    refine zab ?_
    refine zab ?_
    refine zab ?_
    refine zbm (a:= .list (List.length (([x8.2,x9.2,x10.2,x11.2,x12.2,x13.2,x14.2]:List Int):List Int)) (Enc.cellsL (([x8.2,x9.2,x10.2,x11.2,x12.2,x13.2,x14.2]:List Int):List Int)) .full) rfl rfl rfl (zbh (zev (α:=Int) (l:=[x8.2,x9.2,x10.2,x11.2,x12.2,x13.2,x14.2]) (cs:=Enc.cells (x8.2:Int)++(Enc.cells (x9.2:Int)++(Enc.cells (x10.2:Int)++(Enc.cells (x11.2:Int)++(Enc.cells (x12.2:Int)++(Enc.cells (x13.2:Int)++(Enc.cells (x14.2:Int)++[]))))))) (by kernel_rfl) (by rw[Enc.cons,Enc.cons,Enc.cons,Enc.cons,Enc.cons,Enc.cons,Enc.cons,Enc.nil]))) (by dsimp only[zh,List.set]) ?_
    refine zbm (a:= .raw (.int .i64 (List.length ([x8.2,x9.2,x10.2,x11.2,x12.2,x13.2,x14.2]:List Int):Int))) rfl rfl rfl rfl (by dsimp only[zh,List.set]) ?_
    refine zbm (a:= .raw (.int .i64 0)) rfl rfl rfl rfl (by dsimp only[zh,List.set]) ?_
    refine zp ?_
    refine zbx h [1,8,10,13,15,17,19,21,23,25,27,47,48,49,50,51,52,53,54,55,56,57,58,59,60,61,62,63,64,65,66,67,68,69,70,71,72,73,74,75,76,77,78,79,80,81,82,83,84,85,86,87,88,89,90,91,92,93,94,95,96,97,98,99,100,101,102,103,104,105,106,107,108,109,110,113,114,115,116,117,118,119] (fun s2=>[(113,.raw (.int .i64 s2))]) (fun s2=>(zbs [(29,(Enc.cells (x1:Tr))),(29,[.raw (.int .u8 ((j1.k:Nat):Int)),.raw (.int .u64 (wd j1.s 0)),.raw (.int .u64 (wd j1.s 1)),.raw (.int .u64 (wd j1.s 2)),.raw (.int .u64 (wd j1.s 3)),.raw (.int .i64 j1.mn),.raw (.int .i64 j1.mx),(zcm (List.length (j1.l:List Tr)) (Enc.cellsL (j1.l:List Tr)))]),(29,(Enc.cells (x7:Tr))),(29,(Enc.cells (x8.1:Tr))),(5,(Enc.cellsL ((List.replicate (Int.toNat (4097:Int)) (0:UInt8)):List UInt8)))] 29 (List.length (j1.l:List Tr)) 8)) ?_ ?_
    ·
     exact zct [true,false,true,true,true,true,true,true,false,true,false,true,true,false,true,false,true,false,true,false,true,false,true,false,true,false,true,false,true,true,true,true,true,true,true,true,true,true,true,true,true,true,true,true,true,true,true,false,false,false,false,false,false,false,false,false,false,false,false,false,false,false,false,false,false,false,false,false,false,false,false,false,false,false,false,false,false,false,false,false,false,false,false,false,false,false,false,false,false,false,false,false,false,false,false,false,false,false,false,false,false,false,false,false,false,false,false,false,false,false,false,true,true,true,false,false,false,false,false,false,true,true,true,true,true,true,true,true,true,true,true,true,true,true,true,true,true,true,true,true,true,true,true,true,true,true,true,true,true,true,true,true,true,true,true,true,true,true,true,true,true,true,true,true,true,true,true,true,true,true,true,true,true,true,true,true,true,true,true,true,true,true,true,true,true,true,true,true,true,true,true,true,true,true,true,true,true,true,true,true,true,true,true,true,true,true,true,true,true,true,true,true,true,true,true,true,true,true,true,true,true,true,true,true,true,true] (by kernel_rfl) (by kernel_rfl)
    ·
     intro s2 p2 h
     refine zah (by dsimp only[zac,zag,List.foldl,List.set]) rfl ?_
     refine zf (zb ?_)
     refine zbm (a:= .raw (.bool (decide (s2<(List.length ([x8.2,x9.2,x10.2,x11.2,x12.2,x13.2,x14.2]:List Int):Int))))) rfl rfl rfl rfl (by dsimp only[zh,List.set]) ?_
     refine zf ?_
     refine zae h (fun hc2 h=> ?_) (fun hc2 h=> ?_)
     ·
      refine zbw hc2 rfl ?_
      refine zf ?_
      refine zp ?_
      refine zf (zb ?_)
      obtain⟨g6,h⟩:=zi h
      obtain⟨x15,hx15,h⟩:=zo h
      refine zbm (a:= .iptr (Enc.cells x15++Enc.cellsL (List.drop (Int.toNat s2+1) ([x8.2,x9.2,x10.2,x11.2,x12.2,x13.2,x14.2]:List Int)))) rfl rfl rfl (zbh (by rw[←hx15];exact(ztq (α:=Int) (l:=([x8.2,x9.2,x10.2,x11.2,x12.2,x13.2,x14.2]:List Int)) g6 rfl rfl rfl rfl rfl))) (by dsimp only[zh,List.set]) ?_
      refine zbm (a:= .raw (.int .i64 x15)) rfl rfl rfl rfl (by dsimp only[zh,List.set]) ?_
      refine zab ?_
      refine zf (zb ?_)
      refine zab ?_
      refine zbm (a:= .raw (.bool (x15 !=120))) rfl rfl rfl rfl (by dsimp only[zh,List.set]) ?_
      refine zae h (fun hc3 h=> ?_) (fun hc3 h=> ?_)
      ·
       refine zbw hc3 rfl ?_
       refine zf (zb ?_)
       refine zbm (a:= .raw (.bool false)) rfl rfl rfl rfl (by dsimp only[zh,List.set]) ?_
       refine zw h (fun h=> ?_)
       replace h:=zz h hr2
       exact zbg h
      ·
       refine zbt hc3 rfl ?_
       refine zb (k0:=0) (id:=22) ?_
       obtain⟨g7,h⟩:=zi h
       refine zbm (a:= .raw (.int .i64 (s2+1))) rfl rfl rfl (zbh (zld rfl rfl rfl rfl g7.1 g7.2)) (by dsimp only[zh,List.set]) ?_
       refine zab ?_
       refine zas (p:=p2) ((s2+1)) h ?_
       exact zct [true,false,true,true,true,true,true,true,false,true,false,true,true,false,true,false,true,false,true,false,true,false,true,false,true,false,true,false,true,true,true,true,true,true,true,true,true,true,true,true,true,true,true,true,true,true,true,false,false,false,false,false,false,false,false,false,false,false,false,false,false,false,false,false,false,false,false,false,false,false,false,false,false,false,false,false,false,false,false,false,false,false,false,false,false,false,false,false,false,false,false,false,false,false,false,false,false,false,false,false,false,false,false,false,false,false,false,false,false,false,false,true,true,true,false,false,false,false,false,false,true,true,true,true,true,true,true,true,true,true,true,true,true,true,true,true,true,true,true,true,true,true,true,true,true,true,true,true,true,true,true,true,true,true,true,true,true,true,true,true,true,true,true,true,true,true,true,true,true,true,true,true,true,true,true,true,true,true,true,true,true,true,true,true,true,true,true,true,true,true,true,true,true,true,true,true,true,true,true,true,true,true,true,true,true,true,true,true,true,true,true,true,true,true,true,true,true,true,true,true,true,true,true,true,true,true] (by kernel_rfl) (by kernel_rfl)
     ·
      refine zbt hc2 rfl ?_
      refine zw h (fun h=> ?_)
      refine zg (o:=or2) () h ?_
      exact zct [true,false,true,true,true,true,true,true,false,true,false,true,true,false,true,false,true,false,true,false,true,false,true,false,true,false,true,false,true,true,true,true,true,true,true,true,true,true,true,true,true,true,true,true,true,true,true,false,false,false,false,false,false,false,false,false,false,false,false,false,false,false,false,false,false,false,false,false,false,false,false,false,false,false,false,false,false,false,false,false,false,false,false,false,false,false,false,false,false,false,false,false,false,false,false,false,false,false,false,false,false,false,false,false,false,false,false,false,false,false,false,false,false,false,false,false,false,false,false,false,true,true,true,true,true,true,true,true,true,true,true,true,true,true,true,true,true,true,true,true,true,true,true,true,true,true,true,true,true,true,true,true,true,true,true,true,true,true,true,true,true,true,true,true,true,true,true,true,true,true,true,true,true,true,true,true,true,true,true,true,true,true,true,true,true,true,true,true,true,true,true,true,true,true,true,true,true,true,true,true,true,true,true,true,true,true,true,true,true,true,true,true,true,true,true,true,true,true,true,true,true,true,true,true,true,true] (by kernel_rfl) (by kernel_rfl)
   ·
    intro j2 h
    refine zah (by dsimp only[zac,zag,List.foldl,List.set]) rfl ?_
    refine zf ?_
    refine zf (zb ?_)
    refine zbm (a:= .agg (Enc.cells (x7:Tr))) rfl rfl rfl rfl (by dsimp only[zh,List.set]) ?_
    obtain⟨x16,hx16,h⟩:=zu h
    refine zbr (args':=[.agg (Enc.cells (x7:Tr))]) (r:= .raw (.bool x16)) (zns x7 x16 hx16) rfl rfl (zd (zaj (zl (Enc.clo _))) rfl) (za (zn _ _ (zl (Enc.clo _))) rfl) (by dsimp only[zh,List.set]) ?_
    refine zae h (fun hc4 h=> ?_) (fun hc4 h=> ?_)
    ·
     refine zbm (a:= .raw (.bool true)) rfl rfl rfl (zbh (zcg rfl hc4)) (by dsimp only[zh,List.set]) ?_
     refine zv rfl rfl (by decide) (by dsimp only[zh,List.set]) ?_
     refine zv rfl rfl (by decide) (by dsimp only[zh,List.set]) ?_
     refine zv rfl rfl (by decide) (by dsimp only[zh,List.set]) ?_
     refine zbm (a:= .raw (.bool true)) rfl rfl rfl rfl (by dsimp only[zh,List.set]) ?_
     refine zab ?_
     refine zv rfl rfl (by decide) (by dsimp only[zh,List.set]) ?_
     refine zv rfl rfl (by decide) (by dsimp only[zh,List.set]) ?_
     refine zv rfl rfl (by decide) (by dsimp only[zh,List.set]) ?_
     refine zv rfl rfl (by decide) (by dsimp only[zh,List.set]) ?_
     refine zbm (a:= .raw (.bool true)) rfl rfl rfl rfl (by dsimp only[zh,List.set]) ?_
     refine zab ?_
     refine zv rfl rfl (by decide) (by dsimp only[zh,List.set]) ?_
     refine zbm (a:= .raw (.bool true)) rfl rfl rfl rfl (by dsimp only[zh,List.set]) ?_
     refine zab ?_
     refine zv rfl rfl (by decide) (by dsimp only[zh,List.set]) ?_
     refine zbm (a:= .raw (.bool true)) rfl rfl rfl rfl (by dsimp only[zh,List.set]) ?_
     refine zab ?_
     refine zv rfl rfl (by decide) (by dsimp only[zh,List.set]) ?_
     refine zv rfl rfl (by decide) (by dsimp only[zh,List.set]) ?_
     refine zv rfl rfl (by decide) (by dsimp only[zh,List.set]) ?_
     refine zv rfl rfl (by decide) (by dsimp only[zh,List.set]) ?_
     refine zv rfl rfl (by decide) (by dsimp only[zh,List.set]) ?_
     refine zv rfl rfl (by decide) (by dsimp only[zh,List.set]) ?_
     refine zv rfl rfl (by decide) (by dsimp only[zh,List.set]) ?_
     refine zv rfl rfl (by decide) (by dsimp only[zh,List.set]) ?_
     refine zv rfl rfl (by decide) (by dsimp only[zh,List.set]) ?_
     refine zv rfl rfl (by decide) (by dsimp only[zh,List.set]) ?_
     refine zv rfl rfl (by decide) (by dsimp only[zh,List.set]) ?_
     refine zv rfl rfl (by decide) (by dsimp only[zh,List.set]) ?_
     refine zbm (a:= .raw (.bool true)) rfl rfl rfl rfl (by dsimp only[zh,List.set]) ?_
     refine zce rfl ?_
     refine zf (zb ?_)
     refine zbm (a:= .raw (.bool false)) rfl rfl rfl rfl (by dsimp only[zh,List.set]) ?_
     exact zbg h
    ·
     refine zbm (a:= .raw (.bool false)) rfl rfl rfl (zbh (zcg rfl hc4)) (by dsimp only[zh,List.set]) ?_
     refine zaf rfl rfl ?_
     refine zbm (a:= .agg (Enc.cells (x1:Tr))) rfl rfl rfl rfl (by dsimp only[zh,List.set]) ?_
     refine zaf rfl rfl ?_
     obtain⟨x17,hx17,h⟩:=zu h
     refine zbr (args':=[.agg (Enc.cells (x1:Tr))]) (r:= .raw (.bool x17)) (zns x1 x17 hx17) rfl rfl (zd (zaj (zl (Enc.clo _))) rfl) (za (zn _ _ (zl (Enc.clo _))) rfl) (by dsimp only[zh,List.set]) ?_
     refine zaf rfl rfl ?_
     refine zbm (a:= .raw (.bool (!x17))) rfl rfl rfl rfl (by dsimp only[zh,List.set]) ?_
     refine zbm (a:= .raw (.bool (!x17))) rfl rfl rfl rfl (by dsimp only[zh,List.set]) ?_
     refine zae h (fun hc5 h=> ?_) (fun hc5 h=> ?_)
     ·
      refine zbm (a:= .raw (.bool true)) rfl rfl rfl (zbh (zcg rfl hc5)) (by dsimp only[zh,List.set]) ?_
      refine zv rfl rfl (by decide) (by dsimp only[zh,List.set]) ?_
      refine zv rfl rfl (by decide) (by dsimp only[zh,List.set]) ?_
      refine zv rfl rfl (by decide) (by dsimp only[zh,List.set]) ?_
      refine zv rfl rfl (by decide) (by dsimp only[zh,List.set]) ?_
      refine zbm (a:= .raw (.bool true)) rfl rfl rfl rfl (by dsimp only[zh,List.set]) ?_
      refine zab ?_
      refine zv rfl rfl (by decide) (by dsimp only[zh,List.set]) ?_
      refine zbm (a:= .raw (.bool true)) rfl rfl rfl rfl (by dsimp only[zh,List.set]) ?_
      refine zab ?_
      refine zv rfl rfl (by decide) (by dsimp only[zh,List.set]) ?_
      refine zbm (a:= .raw (.bool true)) rfl rfl rfl rfl (by dsimp only[zh,List.set]) ?_
      refine zab ?_
      refine zv rfl rfl (by decide) (by dsimp only[zh,List.set]) ?_
      refine zv rfl rfl (by decide) (by dsimp only[zh,List.set]) ?_
      refine zv rfl rfl (by decide) (by dsimp only[zh,List.set]) ?_
      refine zv rfl rfl (by decide) (by dsimp only[zh,List.set]) ?_
      refine zv rfl rfl (by decide) (by dsimp only[zh,List.set]) ?_
      refine zv rfl rfl (by decide) (by dsimp only[zh,List.set]) ?_
      refine zv rfl rfl (by decide) (by dsimp only[zh,List.set]) ?_
      refine zv rfl rfl (by decide) (by dsimp only[zh,List.set]) ?_
      refine zv rfl rfl (by decide) (by dsimp only[zh,List.set]) ?_
      refine zv rfl rfl (by decide) (by dsimp only[zh,List.set]) ?_
      refine zv rfl rfl (by decide) (by dsimp only[zh,List.set]) ?_
      refine zv rfl rfl (by decide) (by dsimp only[zh,List.set]) ?_
      refine zbm (a:= .raw (.bool true)) rfl rfl rfl rfl (by dsimp only[zh,List.set]) ?_
      refine zce rfl ?_
      refine zf (zb ?_)
      refine zbm (a:= .raw (.bool false)) rfl rfl rfl rfl (by dsimp only[zh,List.set]) ?_
      exact zbg h
     ·
      refine zbm (a:= .raw (.bool false)) rfl rfl rfl (zbh (zcg rfl hc5)) (by dsimp only[zh,List.set]) ?_
      refine zaf rfl rfl ?_
      refine zbm (a:= .agg (Enc.cells (x8.1:Tr))) rfl rfl rfl rfl (by dsimp only[zh,List.set]) ?_
      refine zaf rfl rfl ?_
      refine zeh (.agg (Enc.cells (noneT:Tr))) (a0:=(zca noneT .full)) rfl rfl rfl (by kernel_rfl) (zj _ _) (by dsimp only[zh,List.set]) ?_
      refine zaf rfl rfl ?_
      obtain⟨g8,h⟩:=zi h
      obtain⟨x18,hx18,h⟩:=zo h
      refine zbr (args':=[.agg (Enc.cells (x8.1:Tr)),.agg (Enc.cells (noneT:Tr))]) (r:= .raw (.bool x18)) (by rw[←hx18];exact(z4f x8.1 noneT g8)) rfl rfl (zd (zaj (zl (Enc.clo _))) (zd (zaj (zl (Enc.clo _))) rfl)) (za (zn _ _ (zl (Enc.clo _))) (za (zn _ _ (zl (Enc.clo _))) rfl)) (by dsimp only[zh,List.set]) ?_
      refine zaf rfl rfl ?_
      refine zbm (a:= .raw (.bool (!x18))) rfl rfl rfl rfl (by dsimp only[zh,List.set]) ?_
      refine zbm (a:= .raw (.bool (!x18))) rfl rfl rfl rfl (by dsimp only[zh,List.set]) ?_
      refine zae h (fun hc6 h=> ?_) (fun hc6 h=> ?_)
      ·
       refine zbm (a:= .raw (.bool true)) rfl rfl rfl (zbh (zcg rfl hc6)) (by dsimp only[zh,List.set]) ?_
       refine zv rfl rfl (by decide) (by dsimp only[zh,List.set]) ?_
       refine zbm (a:= .raw (.bool true)) rfl rfl rfl rfl (by dsimp only[zh,List.set]) ?_
       refine zab ?_
       refine zv rfl rfl (by decide) (by dsimp only[zh,List.set]) ?_
       refine zbm (a:= .raw (.bool true)) rfl rfl rfl rfl (by dsimp only[zh,List.set]) ?_
       refine zab ?_
       refine zv rfl rfl (by decide) (by dsimp only[zh,List.set]) ?_
       refine zv rfl rfl (by decide) (by dsimp only[zh,List.set]) ?_
       refine zv rfl rfl (by decide) (by dsimp only[zh,List.set]) ?_
       refine zv rfl rfl (by decide) (by dsimp only[zh,List.set]) ?_
       refine zv rfl rfl (by decide) (by dsimp only[zh,List.set]) ?_
       refine zv rfl rfl (by decide) (by dsimp only[zh,List.set]) ?_
       refine zv rfl rfl (by decide) (by dsimp only[zh,List.set]) ?_
       refine zv rfl rfl (by decide) (by dsimp only[zh,List.set]) ?_
       refine zv rfl rfl (by decide) (by dsimp only[zh,List.set]) ?_
       refine zv rfl rfl (by decide) (by dsimp only[zh,List.set]) ?_
       refine zv rfl rfl (by decide) (by dsimp only[zh,List.set]) ?_
       refine zv rfl rfl (by decide) (by dsimp only[zh,List.set]) ?_
       refine zbm (a:= .raw (.bool true)) rfl rfl rfl rfl (by dsimp only[zh,List.set]) ?_
       refine zce rfl ?_
       refine zf (zb ?_)
       refine zbm (a:= .raw (.bool false)) rfl rfl rfl rfl (by dsimp only[zh,List.set]) ?_
       exact zbg h
      ·
       refine zbm (a:= .raw (.bool false)) rfl rfl rfl (zbh (zcg rfl hc6)) (by dsimp only[zh,List.set]) ?_
       refine zaf rfl rfl ?_
       refine zab ?_
       refine zbm (a:= .raw (.bool x9.1)) rfl rfl rfl rfl (by dsimp only[zh,List.set]) ?_
       refine zae h (fun hc7 h=> ?_) (fun hc7 h=> ?_)
       ·
        refine zbm (a:= .raw (.bool true)) rfl rfl rfl (zbh (zcg rfl hc7)) (by dsimp only[zh,List.set]) ?_
        refine zv rfl rfl (by decide) (by dsimp only[zh,List.set]) ?_
        refine zbm (a:= .raw (.bool true)) rfl rfl rfl rfl (by dsimp only[zh,List.set]) ?_
        refine zab ?_
        refine zv rfl rfl (by decide) (by dsimp only[zh,List.set]) ?_
        refine zv rfl rfl (by decide) (by dsimp only[zh,List.set]) ?_
        refine zv rfl rfl (by decide) (by dsimp only[zh,List.set]) ?_
        refine zv rfl rfl (by decide) (by dsimp only[zh,List.set]) ?_
        refine zv rfl rfl (by decide) (by dsimp only[zh,List.set]) ?_
        refine zv rfl rfl (by decide) (by dsimp only[zh,List.set]) ?_
        refine zv rfl rfl (by decide) (by dsimp only[zh,List.set]) ?_
        refine zv rfl rfl (by decide) (by dsimp only[zh,List.set]) ?_
        refine zv rfl rfl (by decide) (by dsimp only[zh,List.set]) ?_
        refine zv rfl rfl (by decide) (by dsimp only[zh,List.set]) ?_
        refine zv rfl rfl (by decide) (by dsimp only[zh,List.set]) ?_
        refine zv rfl rfl (by decide) (by dsimp only[zh,List.set]) ?_
        refine zbm (a:= .raw (.bool true)) rfl rfl rfl rfl (by dsimp only[zh,List.set]) ?_
        refine zce rfl ?_
        refine zf (zb ?_)
        refine zbm (a:= .raw (.bool false)) rfl rfl rfl rfl (by dsimp only[zh,List.set]) ?_
        exact zbg h
       ·
        refine zbm (a:= .raw (.bool false)) rfl rfl rfl (zbh (zcg rfl hc7)) (by dsimp only[zh,List.set]) ?_
        refine zaf rfl rfl ?_
        refine zab ?_
        refine zbm (a:= .raw (.bool x13.1)) rfl rfl rfl rfl (by dsimp only[zh,List.set]) ?_
        refine zae h (fun hc8 h=> ?_) (fun hc8 h=> ?_)
        ·
         refine zbm (a:= .raw (.bool true)) rfl rfl rfl (zbh (zcg rfl hc8)) (by dsimp only[zh,List.set]) ?_
         refine zv rfl rfl (by decide) (by dsimp only[zh,List.set]) ?_
         refine zv rfl rfl (by decide) (by dsimp only[zh,List.set]) ?_
         refine zv rfl rfl (by decide) (by dsimp only[zh,List.set]) ?_
         refine zv rfl rfl (by decide) (by dsimp only[zh,List.set]) ?_
         refine zv rfl rfl (by decide) (by dsimp only[zh,List.set]) ?_
         refine zv rfl rfl (by decide) (by dsimp only[zh,List.set]) ?_
         refine zv rfl rfl (by decide) (by dsimp only[zh,List.set]) ?_
         refine zv rfl rfl (by decide) (by dsimp only[zh,List.set]) ?_
         refine zv rfl rfl (by decide) (by dsimp only[zh,List.set]) ?_
         refine zv rfl rfl (by decide) (by dsimp only[zh,List.set]) ?_
         refine zv rfl rfl (by decide) (by dsimp only[zh,List.set]) ?_
         refine zv rfl rfl (by decide) (by dsimp only[zh,List.set]) ?_
         refine zbm (a:= .raw (.bool true)) rfl rfl rfl rfl (by dsimp only[zh,List.set]) ?_
         refine zce rfl ?_
         refine zf (zb ?_)
         refine zbm (a:= .raw (.bool false)) rfl rfl rfl rfl (by dsimp only[zh,List.set]) ?_
         exact zbg h
        ·
         refine zbm (a:= .raw (.bool false)) rfl rfl rfl (zbh (zcg rfl hc8)) (by dsimp only[zh,List.set]) ?_
         refine zaf rfl rfl ?_
         refine zab ?_
         refine zaf rfl rfl ?_
         refine zbm (a:= .raw (.int .i64 (List.length x10.1:Int))) rfl rfl rfl rfl (by dsimp only[zh,List.set]) ?_
         refine zaf rfl rfl ?_
         refine zab ?_
         refine zaf rfl rfl ?_
         refine zbm (a:= .raw (.int .i64 (List.length x11.1:Int))) rfl rfl rfl rfl (by dsimp only[zh,List.set]) ?_
         refine zaf rfl rfl ?_
         obtain⟨g9,h⟩:=zi h
         refine zbm (a:= .raw (.int .i64 ((List.length x10.1:Int)+(List.length x11.1:Int)))) rfl rfl rfl (zbh (zld rfl rfl rfl rfl g9.1 g9.2)) (by dsimp only[zh,List.set]) ?_
         refine zaf rfl rfl ?_
         refine zab ?_
         refine zaf rfl rfl ?_
         refine zbm (a:= .raw (.int .i64 (List.length x12.1:Int))) rfl rfl rfl rfl (by dsimp only[zh,List.set]) ?_
         refine zaf rfl rfl ?_
         obtain⟨g10,h⟩:=zi h
         refine zbm (a:= .raw (.int .i64 (((List.length x10.1:Int)+(List.length x11.1:Int))+(List.length x12.1:Int)))) rfl rfl rfl (zbh (zld rfl rfl rfl rfl g10.1 g10.2)) (by dsimp only[zh,List.set]) ?_
         refine zaf rfl rfl ?_
         refine zab ?_
         refine zaf rfl rfl ?_
         refine zbm (a:= .raw (.int .i64 (List.length x14.1:Int))) rfl rfl rfl rfl (by dsimp only[zh,List.set]) ?_
         refine zaf rfl rfl ?_
         obtain⟨g11,h⟩:=zi h
         refine zbm (a:= .raw (.int .i64 ((((List.length x10.1:Int)+(List.length x11.1:Int))+(List.length x12.1:Int))+(List.length x14.1:Int)))) rfl rfl rfl (zbh (zld rfl rfl rfl rfl g11.1 g11.2)) (by dsimp only[zh,List.set]) ?_
         refine zaf rfl rfl ?_
         refine zbm (a:= .raw (.bool (((((List.length x10.1:Int)+(List.length x11.1:Int))+(List.length x12.1:Int))+(List.length x14.1:Int)) !=0))) rfl rfl rfl rfl (by dsimp only[zh,List.set]) ?_
         refine zbm (a:= .raw (.bool (((((List.length x10.1:Int)+(List.length x11.1:Int))+(List.length x12.1:Int))+(List.length x14.1:Int)) !=0))) rfl rfl rfl rfl (by dsimp only[zh,List.set]) ?_
         refine zae h (fun hc9 h=> ?_) (fun hc9 h=> ?_)
         ·
          refine zbw hc9 rfl ?_
          refine zf (zb ?_)
          refine zbm (a:= .raw (.bool false)) rfl rfl rfl rfl (by dsimp only[zh,List.set]) ?_
          exact zbg h
         ·
          refine zbt hc9 rfl ?_
          refine zf (zb ?_)
          refine zbm (a:= .agg (Enc.cells (x1:Tr))) rfl rfl rfl rfl (by dsimp only[zh,List.set]) ?_
          refine zbm (a:= .list (List.length ([x1]:List Tr)) (Enc.cellsL ([x1]:List Tr)) .full) rfl rfl rfl (zbh (zev (α:=Tr) (l:=[x1]) (cs:=Enc.cells (x1:Tr)++[]) rfl (by rw[Enc.cons,Enc.nil]))) (by dsimp only[zh,List.set]) ?_
          refine zeh (.agg (Enc.cells ((Tr.mk 6 (0#256) 0 0 [x1]):Tr))) (a0:=(zca (Tr.mk 6 (0#256) 0 0 [x1]) .full)) rfl rfl rfl (by kernel_rfl) (zj _ _) (by dsimp only[zh,List.set]) ?_
          refine zfp (a:= .ptr 5 0) (σ'':=(zbs [(29,(Enc.cells (x1:Tr))),(29,[.raw (.int .u8 ((j1.k:Nat):Int)),.raw (.int .u64 (wd j1.s 0)),.raw (.int .u64 (wd j1.s 1)),.raw (.int .u64 (wd j1.s 2)),.raw (.int .u64 (wd j1.s 3)),.raw (.int .i64 j1.mn),.raw (.int .i64 j1.mx),(zcm (List.length (j1.l:List Tr)) (Enc.cellsL (j1.l:List Tr)))]),(29,(Enc.cells (x7:Tr))),(29,(Enc.cells (x8.1:Tr))),(5,(Enc.cellsL ((List.replicate (Int.toNat (4097:Int)) (0:UInt8)):List UInt8))),(29,[.raw (.int .u8 0),.raw (.int .u64 0),.raw (.int .u64 0),.raw (.int .u64 0),.raw (.int .u64 0),.raw (.int .i64 0),.raw (.int .i64 0),.list 0 [] .full])] 29 (List.length (j1.l:List Tr)) 8)) rfl rfl rfl rfl (by dsimp only[zh,List.set]) rfl ?_
          refine zfp (σ'':=(zbs [(29,(Enc.cells (x1:Tr))),(29,[.raw (.int .u8 ((j1.k:Nat):Int)),.raw (.int .u64 (wd j1.s 0)),.raw (.int .u64 (wd j1.s 1)),.raw (.int .u64 (wd j1.s 2)),.raw (.int .u64 (wd j1.s 3)),.raw (.int .i64 j1.mn),.raw (.int .i64 j1.mx),(zcm (List.length (j1.l:List Tr)) (Enc.cellsL (j1.l:List Tr)))]),(29,(Enc.cells (x7:Tr))),(29,(Enc.cells (x8.1:Tr))),(5,(Enc.cellsL ((List.replicate (Int.toNat (4097:Int)) (0:UInt8)):List UInt8))),(29,(Enc.cells ((Tr.mk 6 (0#256) 0 0 [x1]):Tr)))] 29 (List.length (j1.l:List Tr)) 8)) rfl rfl rfl (zaz (n:=8) rfl rfl rfl rfl rfl rfl rfl rfl (by decide)) (by dsimp only[zh,List.set]) rfl ?_
          refine zau h [2,8,11,12,14,16,18,20,22,24,28,30,31,32,120,121,122,123,124,125,126,127,128,129,130,131,132,133,134,135,136,137,138,139,140,141,142,143,144,145,146,147,148,149,150,151,152,153,154,155,156,157,158,159,160,161,162,163,164,165,166,167,168,169,170,171,172,173,174,175,176,177,178,179,180,181,182] (fun j3=>[]) (fun j3=>(zbs [(29,(Enc.cells (x1:Tr))),(29,[.raw (.int .u8 ((j1.k:Nat):Int)),.raw (.int .u64 (wd j1.s 0)),.raw (.int .u64 (wd j1.s 1)),.raw (.int .u64 (wd j1.s 2)),.raw (.int .u64 (wd j1.s 3)),.raw (.int .i64 j1.mn),.raw (.int .i64 j1.mx),(zcm (List.length (j1.l:List Tr)) (Enc.cellsL (j1.l:List Tr)))]),(29,(Enc.cells (x7:Tr))),(29,(Enc.cells (x8.1:Tr))),(5,(Enc.cellsL ((List.replicate (Int.toNat (4097:Int)) (0:UInt8)):List UInt8))),(29,(Enc.cells ((Tr.mk 6 (0#256) 0 0 [x1]):Tr)))] 29 (List.length (j1.l:List Tr)) 8)) ?_ ?_
          ·
           intro or3 h hr3
           refine zf ?_
           refine zgc (k0:=0) (id:=26) 8 (by kernel_rfl) (by kernel_rfl) ?_
           refine z6r (a:= .agg (Enc.cells ((Tr.mk 6 (0#256) 0 0 [x1]):Tr))) rfl rfl rfl rfl (by dsimp only[zh,List.set]) ?_
           refine z6r (a:= .agg (Enc.cells (x1:Tr))) rfl rfl rfl rfl (by dsimp only[zh,List.set]) ?_
           refine z6r (a:= .list (List.length ([x1]:List Tr)) (Enc.cellsL ([x1]:List Tr)) .full) rfl rfl rfl (zev (α:=Tr) (l:=[x1]) (cs:=Enc.cells (x1:Tr)++[]) rfl (by rw[Enc.cons,Enc.nil])) (by dsimp only[zh,List.set]) ?_
           obtain⟨x19,hx19,h⟩:=zu h
           refine zjn (args':=[.list (List.length ([x1]:List Tr)) (Enc.cellsL ([x1]:List Tr)) .none]) (r:= .agg (Enc.cells (x19:Tr))) (z0d [x1] x19 hx19) rfl rfl rfl (zd (zet (Enc.cloL _)) rfl) (za (zan (Enc.cloL _)) rfl) (by dsimp only[zh,List.set]) ?_
           refine h_opS (a:= .agg (Enc.cells ((Tr.mk 7 (0#256) 0 0 []):Tr))) (a0:=(zca (Tr.mk 7 (0#256) 0 0 []) .full)) rfl rfl rfl (by kernel_rfl) (zj _ _) (by dsimp only[zh,List.set]) ?_
           refine z6r (a:= .list (List.length ([(Tr.mk 6 (0#256) 0 0 [x1]),x19,(Tr.mk 7 (0#256) 0 0 [])]:List Tr)) (Enc.cellsL ([(Tr.mk 6 (0#256) 0 0 [x1]),x19,(Tr.mk 7 (0#256) 0 0 [])]:List Tr)) .full) rfl rfl rfl (zev (α:=Tr) (l:=[(Tr.mk 6 (0#256) 0 0 [x1]),x19,(Tr.mk 7 (0#256) 0 0 [])]) (cs:=Enc.cells ((Tr.mk 6 (0#256) 0 0 [x1]):Tr)++(Enc.cells (x19:Tr)++(Enc.cells ((Tr.mk 7 (0#256) 0 0 []):Tr)++[]))) (by kernel_rfl) (by rw[Enc.cons,Enc.cons,Enc.cons,Enc.nil])) (by dsimp only[zh,List.set]) ?_
           refine z6r (a:= .raw (.int .i64 (List.length [(Tr.mk 6 (0#256) 0 0 [x1]),x19,(Tr.mk 7 (0#256) 0 0 [])]:Int))) rfl rfl rfl rfl (by dsimp only[zh,List.set]) ?_
           refine z6r (a:= .raw (.int .i64 0)) rfl rfl rfl rfl (by dsimp only[zh,List.set]) ?_
           refine zjo ?_
           refine zp ?_
           refine zbx h [8,11,12,14,16,18,20,22,24,28,30,31,32,120,121,122,123,124,125,126,127,128,129,130,131,132,133,134,135,136,137,138,139,140,141,142,143,144,145,146,147,148,149,150,151,152,153,154,155,156,157,158,159,160,163,164,165,166,167,168,169,170,171,172,173,174,175,176,177,178,179,180,181,182] (fun s3=>[(163,.raw (.int .i64 s3))]) (fun s3=>(zbs [(29,(Enc.cells (x1:Tr))),(29,[.raw (.int .u8 ((j1.k:Nat):Int)),.raw (.int .u64 (wd j1.s 0)),.raw (.int .u64 (wd j1.s 1)),.raw (.int .u64 (wd j1.s 2)),.raw (.int .u64 (wd j1.s 3)),.raw (.int .i64 j1.mn),.raw (.int .i64 j1.mx),(zcm (List.length (j1.l:List Tr)) (Enc.cellsL (j1.l:List Tr)))]),(29,(Enc.cells (x7:Tr))),(29,(Enc.cells (x8.1:Tr))),(5,(Enc.cellsL ((List.replicate (Int.toNat (4097:Int)) (0:UInt8)):List UInt8))),(29,(Enc.cells ((Tr.mk 6 (0#256) 0 0 [x1]):Tr)))] 29 (List.length (j1.l:List Tr)) 8)) ?_ ?_
           ·
            exact zct [true,true,true,true,true,true,true,true,false,true,true,false,false,true,false,true,false,true,false,true,false,true,false,true,false,true,true,true,false,true,false,false,false,true,true,true,true,true,true,true,true,true,true,true,true,true,true,true,true,true,true,true,true,true,true,true,true,true,true,true,true,true,true,true,true,true,true,true,true,true,true,true,true,true,true,true,true,true,true,true,true,true,true,true,true,true,true,true,true,true,true,true,true,true,true,true,true,true,true,true,true,true,true,true,true,true,true,true,true,true,true,true,true,true,true,true,true,true,true,true,false,false,false,false,false,false,false,false,false,false,false,false,false,false,false,false,false,false,false,false,false,false,false,false,false,false,false,false,false,false,false,false,false,false,false,false,false,false,false,false,false,true,true,true,false,false,false,false,false,false,false,false,false,false,false,false,false,false,false,false,false,false,false,true,true,true,true,true,true,true,true,true,true,true,true,true,true,true,true,true,true,true,true,true,true,true,true,true,true,true,true,true,true,true,true,true,true,true,true,true,true,true,true,true,true,true] (by kernel_rfl) (by kernel_rfl)
           ·
            intro s3 p3 h
            refine zah (by dsimp only[zac,zag,List.foldl,List.set]) rfl ?_
            refine zf (zb ?_)
            refine zbm (a:= .raw (.bool (decide (s3<(List.length [(Tr.mk 6 (0#256) 0 0 [x1]),x19,(Tr.mk 7 (0#256) 0 0 [])]:Int))))) rfl rfl rfl rfl (by dsimp only[zh,List.set]) ?_
            refine zf ?_
            refine zae h (fun hc10 h=> ?_) (fun hc10 h=> ?_)
            ·
             refine zbw hc10 rfl ?_
             refine zf ?_
             refine zp ?_
             refine zf (zb ?_)
             obtain⟨g12,h⟩:=zi h
             obtain⟨x20,hx20,h⟩:=zo h
             refine zbm (a:= .iptr (Enc.cells x20++Enc.cellsL (List.drop (Int.toNat s3+1) [(Tr.mk 6 (0#256) 0 0 [x1]),x19,(Tr.mk 7 (0#256) 0 0 [])]))) rfl rfl rfl (zbh (by rw[←hx20];exact(ztq (α:=Tr) (l:=[(Tr.mk 6 (0#256) 0 0 [x1]),x19,(Tr.mk 7 (0#256) 0 0 [])]) g12 rfl rfl rfl rfl rfl))) (by dsimp only[zh,List.set]) ?_
             refine zbm (a:= .agg (Enc.cells (x20:Tr))) rfl rfl rfl rfl (by dsimp only[zh,List.set]) ?_
             refine zfp (a:= .ptr 6 0) (σ'':=(zbs [(29,(Enc.cells (x1:Tr))),(29,[.raw (.int .u8 ((j1.k:Nat):Int)),.raw (.int .u64 (wd j1.s 0)),.raw (.int .u64 (wd j1.s 1)),.raw (.int .u64 (wd j1.s 2)),.raw (.int .u64 (wd j1.s 3)),.raw (.int .i64 j1.mn),.raw (.int .i64 j1.mx),(zcm (List.length (j1.l:List Tr)) (Enc.cellsL (j1.l:List Tr)))]),(29,(Enc.cells (x7:Tr))),(29,(Enc.cells (x8.1:Tr))),(5,(Enc.cellsL ((List.replicate (Int.toNat (4097:Int)) (0:UInt8)):List UInt8))),(29,(Enc.cells ((Tr.mk 6 (0#256) 0 0 [x1]):Tr))),(29,[.raw (.int .u8 0),.raw (.int .u64 0),.raw (.int .u64 0),.raw (.int .u64 0),.raw (.int .u64 0),.raw (.int .i64 0),.raw (.int .i64 0),.list 0 [] .full])] 29 (List.length (j1.l:List Tr)) 8)) rfl rfl rfl rfl (by dsimp only[zh,List.set]) rfl ?_
             refine zfp (σ'':=(zbs [(29,(Enc.cells (x1:Tr))),(29,[.raw (.int .u8 ((j1.k:Nat):Int)),.raw (.int .u64 (wd j1.s 0)),.raw (.int .u64 (wd j1.s 1)),.raw (.int .u64 (wd j1.s 2)),.raw (.int .u64 (wd j1.s 3)),.raw (.int .i64 j1.mn),.raw (.int .i64 j1.mx),(zcm (List.length (j1.l:List Tr)) (Enc.cellsL (j1.l:List Tr)))]),(29,(Enc.cells (x7:Tr))),(29,(Enc.cells (x8.1:Tr))),(5,(Enc.cellsL ((List.replicate (Int.toNat (4097:Int)) (0:UInt8)):List UInt8))),(29,(Enc.cells ((Tr.mk 6 (0#256) 0 0 [x1]):Tr))),(29,(Enc.cells (x20:Tr)))] 29 (List.length (j1.l:List Tr)) 8)) rfl rfl rfl (zaz (n:=8) rfl rfl rfl rfl rfl rfl rfl rfl (by decide)) (by dsimp only[zh,List.set]) rfl ?_
             refine zf ?_
             refine zgc (k0:=0) (id:=29) 9 (by kernel_rfl) (by kernel_rfl) ?_
             refine zjn (args':=[.raw (.int .u8 97)]) (r:= .agg (Enc.cells (dA:Tr))) qfx rfl rfl rfl (zd rfl rfl) (za rfl rfl) (by dsimp only[zh,List.set]) ?_
             refine z6r (a:= .agg (Enc.cells (x20:Tr))) rfl rfl rfl rfl (by dsimp only[zh,List.set]) ?_
             refine z6r (a:= .list (List.length ([dA,x20]:List Tr)) (Enc.cellsL ([dA,x20]:List Tr)) .full) rfl rfl rfl (zev (α:=Tr) (l:=[dA,x20]) (cs:=Enc.cells (dA:Tr)++(Enc.cells (x20:Tr)++[])) rfl (by rw[Enc.cons,Enc.cons,Enc.nil])) (by dsimp only[zh,List.set]) ?_
             refine zhd ?_
             obtain⟨x21,hx21,h⟩:=zu h
             refine zjn (args':=[.list (List.length ([dA,x20]:List Tr)) (Enc.cellsL ([dA,x20]:List Tr)) .none,.raw (.int .u8 c)]) (r:= .tup [.list (List.length (x21.1:List Tr)) (Enc.cellsL (x21.1:List Tr)) .none,.raw (.int .i64 x21.2)]) (qdl fuel [dA,x20] c x21 hx21) rfl rfl rfl (zd (zet (Enc.cloL _)) (zd rfl rfl)) (za (zan (Enc.cloL _)) (za rfl rfl)) (by dsimp only[zh,List.set]) ?_
             refine zhd ?_
             refine h_ex ?_
             refine h_ex ?_
             refine zhd ?_
             refine zjo ?_
             refine zab ?_
             refine zf (zb ?_)
             refine zab ?_
             refine zbm (a:= .raw (.int .i64 (List.length x21.1:Int))) rfl rfl rfl rfl (by dsimp only[zh,List.set]) ?_
             refine zbm (a:= .raw (.bool ((List.length x21.1:Int) !=0))) rfl rfl rfl rfl (by dsimp only[zh,List.set]) ?_
             refine zae h (fun hc11 h=> ?_) (fun hc11 h=> ?_)
             ·
              refine zbm (a:= .raw (.bool true)) rfl rfl rfl (zbh (zcg rfl hc11)) (by dsimp only[zh,List.set]) ?_
              refine zv rfl rfl (by decide) (by dsimp only[zh,List.set]) ?_
              refine zv rfl rfl (by decide) (by dsimp only[zh,List.set]) ?_
              refine zbm (a:= .raw (.bool true)) rfl rfl rfl rfl (by dsimp only[zh,List.set]) ?_
              refine zce rfl ?_
              refine zf (zb ?_)
              refine zbm (a:= .raw (.bool false)) rfl rfl rfl rfl (by dsimp only[zh,List.set]) ?_
              refine zw h (fun h=> ?_)
              replace h:=zz h hr3
              exact zbg h
             ·
              refine zbm (a:= .raw (.bool false)) rfl rfl rfl (zbh (zcg rfl hc11)) (by dsimp only[zh,List.set]) ?_
              refine zaf rfl rfl ?_
              refine zab ?_
              refine zaf rfl rfl ?_
              refine zbm (a:= .raw (.bool (x21.2 !=120))) rfl rfl rfl rfl (by dsimp only[zh,List.set]) ?_
              refine zbm (a:= .raw (.bool (x21.2 !=120))) rfl rfl rfl rfl (by dsimp only[zh,List.set]) ?_
              refine zae h (fun hc12 h=> ?_) (fun hc12 h=> ?_)
              ·
               refine zbw hc12 rfl ?_
               refine zf (zb ?_)
               refine zbm (a:= .raw (.bool false)) rfl rfl rfl rfl (by dsimp only[zh,List.set]) ?_
               refine zw h (fun h=> ?_)
               replace h:=zz h hr3
               exact zbg h
              ·
               refine zbt hc12 rfl ?_
               refine zb (k0:=0) (id:=32) ?_
               obtain⟨g13,h⟩:=zi h
               refine zbm (a:= .raw (.int .i64 (s3+1))) rfl rfl rfl (zbh (zld rfl rfl rfl rfl g13.1 g13.2)) (by dsimp only[zh,List.set]) ?_
               refine zab ?_
               refine zas (p:=p3) ((s3+1)) h ?_
               exact zdd [true,true,true,true,true,true,true,true,false,true,true,false,false,true,false,true,false,true,false,true,false,true,false,true,false,true,true,true,false,true,false,false,false,true,true,true,true,true,true,true,true,true,true,true,true,true,true,true,true,true,true,true,true,true,true,true,true,true,true,true,true,true,true,true,true,true,true,true,true,true,true,true,true,true,true,true,true,true,true,true,true,true,true,true,true,true,true,true,true,true,true,true,true,true,true,true,true,true,true,true,true,true,true,true,true,true,true,true,true,true,true,true,true,true,true,true,true,true,true,true,false,false,false,false,false,false,false,false,false,false,false,false,false,false,false,false,false,false,false,false,false,false,false,false,false,false,false,false,false,false,false,false,false,false,false,false,false,false,false,false,false,true,true,true,false,false,false,false,false,false,false,false,false,false,false,false,false,false,false,false,false,false,false,true,true,true,true,true,true,true,true,true,true,true,true,true,true,true,true,true,true,true,true,true,true,true,true,true,true,true,true,true,true,true,true,true,true,true,true,true,true,true,true,true,true,true] 6 (by kernel_rfl) (Nat.le_of_ble_eq_true rfl) (zbi (zt (zm _ _ (Enc.clo _)) (zt (za rfl (za rfl (za rfl (za rfl (za rfl (za rfl (za rfl (za (zcf (Enc.cloL _)) rfl)))))))) (zt (zm _ _ (Enc.clo _)) (zt (zm _ _ (Enc.clo _)) (zt (zm _ _ (Enc.cloL _)) (zt (zm _ _ (Enc.clo _)) rfl))))))) (by dsimp only[zac,zag,List.foldl,List.set];exact(za rfl (za rfl (za rfl (za rfl (za rfl (za rfl (za rfl (za rfl (za rfl (za (by decide) (za rfl (za rfl (za rfl (za rfl (za rfl (za rfl (za rfl (za rfl (za rfl (za rfl (za rfl (za rfl (za rfl (za rfl (za rfl (za rfl (za rfl (za rfl (za rfl (za rfl (za rfl (za rfl (za rfl (za rfl (za rfl (za rfl (za rfl (za rfl (za rfl (za rfl (za rfl (za rfl (za rfl (za rfl (za rfl (za rfl (za rfl (za rfl (za rfl (za rfl (za rfl (za rfl (za rfl (za rfl (za rfl (za rfl (za rfl (za rfl (za rfl (za rfl (za rfl (za rfl (za rfl (za rfl (za rfl (za rfl (za rfl (za rfl (za rfl (za rfl (za rfl (za rfl (za rfl (za rfl (za rfl (za rfl (za rfl (za rfl (za rfl (za rfl (za rfl (za rfl (za rfl (za rfl (za rfl (za rfl (za rfl (za rfl (za rfl (za rfl (za rfl (za rfl (za rfl (za rfl (za rfl (za rfl (za rfl (za rfl (za rfl (za rfl (za rfl (za rfl (za rfl (za rfl (za rfl (za rfl (za rfl (za rfl (za rfl (za rfl (za rfl (za rfl (za rfl (za rfl (za rfl (za rfl (za rfl (za rfl (za rfl (za rfl (za rfl (za rfl (za rfl (za rfl (za rfl (za rfl (za rfl (za rfl (za rfl (za rfl (za rfl (za rfl (za rfl (za rfl (za rfl (za rfl (za rfl (za rfl (za rfl (za rfl (za rfl (za rfl (za rfl (za rfl (za rfl (za rfl (za rfl (za rfl (za rfl (za rfl (za rfl (za rfl (za rfl (za rfl (za rfl (za rfl (za rfl (za rfl (za rfl (za rfl (za rfl (za (zan (Enc.cloL _)) (za rfl (za rfl (za rfl (za rfl (za rfl (za rfl (za rfl (za rfl (za rfl (za rfl (za rfl (za rfl (za rfl (za rfl (za rfl (za rfl (za rfl (za rfl (za rfl (za rfl (za rfl (za rfl (za rfl (za rfl (za rfl (za rfl (za rfl (za rfl (za rfl (za rfl (za rfl (za rfl (za rfl (za rfl (za rfl (za rfl (za rfl (za rfl (za rfl (za rfl (za rfl (za rfl (za rfl (za rfl (za rfl (za rfl (za rfl (za rfl (za rfl (za rfl (za rfl (za rfl (za rfl (za rfl (za rfl (za rfl (za rfl (za rfl (za rfl (za rfl (za rfl (za rfl (za rfl (za rfl rfl))))))))))))))))))))))))))))))))))))))))))))))))))))))))))))))))))))))))))))))))))))))))))))))))))))))))))))))))))))))))))))))))))))))))))))))))))))))))))))))))))))))))))))))))))))))))))))))))))))))))))))))))))))))))))))))))))) (by kernel_rfl)
            ·
             refine zbt hc10 rfl ?_
             refine zw h (fun h=> ?_)
             refine zg (o:=or3) () h ?_
             exact zct [true,true,false,true,true,true,true,true,false,true,true,false,false,true,false,true,false,true,false,true,false,true,false,true,false,true,true,true,false,true,false,false,false,true,true,true,true,true,true,true,true,true,true,true,true,true,true,true,true,true,true,true,true,true,true,true,true,true,true,true,true,true,true,true,true,true,true,true,true,true,true,true,true,true,true,true,true,true,true,true,true,true,true,true,true,true,true,true,true,true,true,true,true,true,true,true,true,true,true,true,true,true,true,true,true,true,true,true,true,true,true,true,true,true,true,true,true,true,true,true,false,false,false,false,false,false,false,false,false,false,false,false,false,false,false,false,false,false,false,false,false,false,false,false,false,false,false,false,false,false,false,false,false,false,false,false,false,false,false,false,false,false,false,false,false,false,false,false,false,false,false,false,false,false,false,false,false,false,false,false,false,false,false,true,true,true,true,true,true,true,true,true,true,true,true,true,true,true,true,true,true,true,true,true,true,true,true,true,true,true,true,true,true,true,true,true,true,true,true,true,true,true,true,true,true,true] (by kernel_rfl) (by kernel_rfl)
          ·
           intro j3 h
           refine zah (by dsimp only[zac,zag,List.foldl,List.set]) rfl ?_
           obtain⟨g14,h⟩:=zi h
           obtain⟨x22,hx22,h⟩:=zu h
           refine zxt (id:=33) [.top,.top,.top,.raw (.int .i64 n),.top,.top,.top,.top,.top,.ptr 0 0,.top,.top,.top,.raw (.int .i64 x22.2),.top,.top,.top,.top,.top,.top,.list (List.length (x22.1:List Tr)) (Enc.cellsL (x22.1:List Tr)) .none,.top,.top,.top,.top,.top,.top,.top,.top,.top,.top,.top,.top,.top,.top,.top,.top,.top,.top,.top,.top,.top,.top,.top,.top,.top,.top,.top,.top,.top,.top,.top,.top,.top,.top,.top,.top,.top,.top,.top,.top,.top,.top,.top,.top,.top,.top,.top,.top,.top,.top,.top,.top,.top,.top,.top,.top,.top,.top,.top,.top,.top,.top,.top,.top,.top,.top,.top,.top,.top,.top,.top,.top,.top,.top,.top,.top,.top,.top,.top,.top,.top,.top,.top,.top,.top,.top,.top,.top,.top,.top,.top,.top,.top,.top,.top,.top,.top,.top,.top,.top,.top,.top,.top,.top,.top,.top,.top,.top,.top,.top,.top,.top,.top,.top,.top,.top,.top,.top,.top,.top,.top,.top,.top,.top,.top,.top,.top,.top,.top,.top,.top,.top,.top,.top,.top,.top,.top,.top,.top,.top,.top,.top,.top,.top,.top,.top,.top,.top,.top,.top,.top,.top,.top,.top,.top,.top,.top,.top,.top,.top,.top,.top,.tup [.list (List.length (x22.1:List Tr)) (Enc.cellsL (x22.1:List Tr)) .none,.raw (.int .i64 x22.2)],.agg (Enc.cells (x1:Tr)),.bsl 6 0 (Int.toNat (4097:Int)) 1 true,.raw (.string (bs (List.replicate (Int.toNat (4097:Int)) (0:UInt8)))),.tup [.list (List.length (x22.1:List Tr)) (Enc.cellsL (x22.1:List Tr)) .none,.raw (.int .i64 x22.2)],.list (List.length (x22.1:List Tr)) (Enc.cellsL (x22.1:List Tr)) .none,.raw (.int .i64 x22.2),.top,.top,.top,.top,.top,.top,.top,.top,.top,.top,.top,.top,.top,.top,.top,.top,.top,.top,.top,.top,.top,.top,.top,.top,.top,.top,.top,.top,.top,.top,.top,.top,.top,.top,.top,.top] (zbs [(29,(Enc.cells (x1:Tr))),(29,[.raw (.int .u8 ((j1.k:Nat):Int)),.raw (.int .u64 (wd j1.s 0)),.raw (.int .u64 (wd j1.s 1)),.raw (.int .u64 (wd j1.s 2)),.raw (.int .u64 (wd j1.s 3)),.raw (.int .i64 j1.mn),.raw (.int .i64 j1.mx),(zcm (List.length (j1.l:List Tr)) (Enc.cellsL (j1.l:List Tr)))]),(29,(Enc.cells (x7:Tr))),(29,(Enc.cells (x8.1:Tr))),(5,(Enc.cellsL ((List.replicate (Int.toNat (4097:Int)) (0:UInt8)):List UInt8))),(29,(Enc.cells ((Tr.mk 6 (0#256) 0 0 [x1]):Tr))),(5,(Enc.cellsL ((List.replicate (Int.toNat (4097:Int)) (0:UInt8)):List UInt8)))] 29 (List.length (j1.l:List Tr)) 8) ?_ ?_
           ·
            refine zju (fun ops hops FIN hFIN S0 hS0=> ?_)
            let v184:AV:= .agg (Enc.cells (x1:Tr))
            let v185:AV:= .bsl 6 0 (Int.toNat (4097:Int)) 1 true
            let v186:AV:= .raw (.string (bs (List.replicate (Int.toNat (4097:Int)) (0:UInt8))))
            let v187:AV:= .tup [.list (List.length (x22.1:List Tr)) (Enc.cellsL (x22.1:List Tr)) .none,.raw (.int .i64 x22.2)]
            let G0:St:=(zbs [(29,(Enc.cells (x1:Tr))),(29,[.raw (.int .u8 ((j1.k:Nat):Int)),.raw (.int .u64 (wd j1.s 0)),.raw (.int .u64 (wd j1.s 1)),.raw (.int .u64 (wd j1.s 2)),.raw (.int .u64 (wd j1.s 3)),.raw (.int .i64 j1.mn),.raw (.int .i64 j1.mx),(zcm (List.length (j1.l:List Tr)) (Enc.cellsL (j1.l:List Tr)))]),(29,(Enc.cells (x7:Tr))),(29,(Enc.cells (x8.1:Tr))),(5,(Enc.cellsL ((List.replicate (Int.toNat (4097:Int)) (0:UInt8)):List UInt8))),(29,(Enc.cells ((Tr.mk 6 (0#256) 0 0 [x1]):Tr)))] 29 (List.length (j1.l:List Tr)) 8)
            let G1:St:=(zbs [(29,(Enc.cells (x1:Tr))),(29,[.raw (.int .u8 ((j1.k:Nat):Int)),.raw (.int .u64 (wd j1.s 0)),.raw (.int .u64 (wd j1.s 1)),.raw (.int .u64 (wd j1.s 2)),.raw (.int .u64 (wd j1.s 3)),.raw (.int .i64 j1.mn),.raw (.int .i64 j1.mx),(zcm (List.length (j1.l:List Tr)) (Enc.cellsL (j1.l:List Tr)))]),(29,(Enc.cells (x7:Tr))),(29,(Enc.cells (x8.1:Tr))),(5,(Enc.cellsL ((List.replicate (Int.toNat (4097:Int)) (0:UInt8)):List UInt8))),(29,(Enc.cells ((Tr.mk 6 (0#256) 0 0 [x1]):Tr))),(5,(Enc.cellsL ((List.replicate (Int.toNat (4097:Int)) (0:UInt8)):List UInt8)))] 29 (List.length (j1.l:List Tr)) 8)
            obtain⟨ps,hps⟩: ∃ps:List (Option (Nat×AV)),ps=[some (184,v184),some (185,v185),some (186,v186),some (187,v187),some (183,.tup [.list (List.length (x22.1:List Tr)) (Enc.cellsL (x22.1:List Tr)) .none,.raw (.int .i64 x22.2)]),some (188,.list (List.length (x22.1:List Tr)) (Enc.cellsL (x22.1:List Tr)) .none),some (189,.raw (.int .i64 x22.2)),some (20,.list (List.length (x22.1:List Tr)) (Enc.cellsL (x22.1:List Tr)) .none),some (13,.raw (.int .i64 x22.2))]:=⟨_,rfl⟩
            let N:Nat→Nat→St→Prop:=fun k m σ=>aN (ITP Tryz.prog) Tryz.prog none ops FIN S0 ps 9 k m σ
            have n13:N 0 511 G1:=by
             exact aN_0 hops hS0 hps (hFIN _ _ (Wk.refl _ _ _))
            have n12:N 1 255 G1:=by
             refine zjh hops hS0 hps 8 ?_
             ·
              refine zab ?_
              exact zar n13 hS0 hps
            have n11:N 2 191 G1:=by
             refine zjh hops hS0 hps 6 ?_
             ·
              refine zol ?_
              exact zar n12 hS0 hps
            have n10:N 2 127 G1:=by
             refine zjh hops hS0 hps 7 ?_
             ·
              refine zab ?_
              exact zar n12 hS0 hps
            have n9:N 3 95 G1:=by
             refine zjh hops hS0 hps 5 ?_
             ·
              refine zol ?_
              exact zar n10 hS0 hps
            have n8:N 3 63 G1:=by
             refine zqq hops hS0 hps 6 7 ?_ ?_
             ·
              refine zol ?_
              exact zar n10 hS0 hps
             ·
              refine zab ?_
              exact zar n11 hS0 hps
            have n7:N 4 31 G1:=by
             refine zqq hops hS0 hps 5 6 ?_ ?_
             ·
              refine zol ?_
              exact zar n8 hS0 hps
             ·
              refine zol ?_
              exact zar n9 hS0 hps
            have n6:N 5 15 G1:=by
             refine zjh hops hS0 hps 4 ?_
             ·
              refine zab ?_
              exact zar n7 hS0 hps
            have n5:N 6 7 G1:=by
             refine zjh hops hS0 hps 3 ?_
             ·
              refine zbr (args':=[.agg (Enc.cells (x1:Tr)),.raw (.string (bs (List.replicate (Int.toNat (4097:Int)) (0:UInt8))))]) (r:=v187) (z0e fuel x1 (List.replicate (Int.toNat (4097:Int)) (0:UInt8)) x22 hx22) rfl rfl (zd (zaj (zl (Enc.clo _))) (zd rfl rfl)) (za (zn _ _ (zl (Enc.clo _))) (za rfl rfl)) (by dsimp only[zh,List.set]) ?_
              exact zar n6 hS0 hps
            have n4:N 7 6 G1:=by
             refine zjh hops hS0 hps 0 ?_
             ·
              refine zbm (a:=v184) rfl rfl rfl rfl (by dsimp only[zh,List.set]) ?_
              exact zar n5 hS0 hps
            have n3:N 7 3 G1:=by
             refine zjh hops hS0 hps 2 ?_
             ·
              refine zgs (a:=v186) (σ'':=G1) rfl rfl rfl (zmk (l:=(List.replicate (Int.toNat (4097:Int)) (0:UInt8))) (List.length_replicate ..) rfl rfl rfl rfl rfl rfl) (by dsimp only[zh,List.set]) rfl ?_
              exact zar n5 hS0 hps
            have n2:N 8 2 G1:=by
             refine zqq hops hS0 hps 0 2 ?_ ?_
             ·
              refine zbm (a:=v184) rfl rfl rfl rfl (by dsimp only[zh,List.set]) ?_
              exact zar n3 hS0 hps
             ·
              refine zgs (a:=v186) (σ'':=G1) rfl rfl rfl (zmk (l:=(List.replicate (Int.toNat (4097:Int)) (0:UInt8))) (List.length_replicate ..) rfl rfl rfl rfl rfl rfl) (by dsimp only[zh,List.set]) rfl ?_
              exact zar n4 hS0 hps
            have n1:N 8 1 G0:=by
             refine zjh hops hS0 hps 1 ?_
             ·
              refine zgs (a:=v185) (σ'':=G1) rfl rfl rfl (zjt (α:=UInt8) (by':=1) (0:UInt8) g14 rfl rfl rfl rfl rfl rfl rfl rfl rfl ⟨rfl,by decide⟩) (by dsimp only[zh,List.set]) rfl ?_
              exact zar n3 hS0 hps
            have n0:N 9 0 G0:=by
             refine zqq hops hS0 hps 0 1 ?_ ?_
             ·
              refine zbm (a:=v184) rfl rfl rfl rfl (by dsimp only[zh,List.set]) ?_
              exact zar n1 hS0 hps
             ·
              refine zgs (a:=v185) (σ'':=G1) rfl rfl rfl (zjt (α:=UInt8) (by':=1) (0:UInt8) g14 rfl rfl rfl rfl rfl rfl rfl rfl rfl ⟨rfl,by decide⟩) (by dsimp only[zh,List.set]) rfl ?_
              exact zar n2 hS0 hps
            exact znj n0 hps
           ·
            obtain⟨g15,h⟩:=zi h
            obtain⟨x23,hx23,h⟩:=zu h
            refine zxt (id:=34) [.top,.top,.top,.raw (.int .i64 n),.top,.top,.top,.top,.top,.ptr 0 0,.top,.top,.top,.raw (.int .i64 x22.2),.top,.raw (.int .i64 x23.2),.top,.top,.top,.top,.list (List.length (x22.1:List Tr)) (Enc.cellsL (x22.1:List Tr)) .none,.top,.raw (.bool x23.1),.top,.top,.top,.top,.top,.top,.top,.top,.top,.top,.top,.top,.top,.top,.top,.top,.top,.top,.top,.top,.top,.top,.top,.top,.top,.top,.top,.top,.top,.top,.top,.top,.top,.top,.top,.top,.top,.top,.top,.top,.top,.top,.top,.top,.top,.top,.top,.top,.top,.top,.top,.top,.top,.top,.top,.top,.top,.top,.top,.top,.top,.top,.top,.top,.top,.top,.top,.top,.top,.top,.top,.top,.top,.top,.top,.top,.top,.top,.top,.top,.top,.top,.top,.top,.top,.top,.top,.top,.top,.top,.top,.top,.top,.top,.top,.top,.top,.top,.top,.top,.top,.top,.top,.top,.top,.top,.top,.top,.top,.top,.top,.top,.top,.top,.top,.top,.top,.top,.top,.top,.top,.top,.top,.top,.top,.top,.top,.top,.top,.top,.top,.top,.top,.top,.top,.top,.top,.top,.top,.top,.top,.top,.top,.top,.top,.top,.top,.top,.top,.top,.top,.top,.top,.top,.top,.top,.top,.top,.top,.top,.tup [.list (List.length (x22.1:List Tr)) (Enc.cellsL (x22.1:List Tr)) .none,.raw (.int .i64 x22.2)],.agg (Enc.cells (x1:Tr)),.bsl 6 0 (Int.toNat (4097:Int)) 1 true,.raw (.string (bs (List.replicate (Int.toNat (4097:Int)) (0:UInt8)))),.tup [.list (List.length (x22.1:List Tr)) (Enc.cellsL (x22.1:List Tr)) .none,.raw (.int .i64 x22.2)],.list (List.length (x22.1:List Tr)) (Enc.cellsL (x22.1:List Tr)) .none,.raw (.int .i64 x22.2),.tup [.raw (.bool x23.1),.raw (.int .i64 x23.2)],.agg (Enc.cells (x1:Tr)),.bsl 7 0 (Int.toNat (4097:Int)) 1 true,.raw (.string (bs (List.replicate (Int.toNat (4097:Int)) (0:UInt8)))),.tup [.raw (.bool x23.1),.raw (.int .i64 x23.2)],.raw (.bool x23.1),.raw (.int .i64 x23.2),.top,.top,.top,.top,.top,.top,.top,.top,.top,.top,.top,.top,.top,.top,.top,.top,.top,.top,.top,.top,.top,.top,.top,.top,.top,.top,.top,.top,.top] (zbs [(29,(Enc.cells (x1:Tr))),(29,[.raw (.int .u8 ((j1.k:Nat):Int)),.raw (.int .u64 (wd j1.s 0)),.raw (.int .u64 (wd j1.s 1)),.raw (.int .u64 (wd j1.s 2)),.raw (.int .u64 (wd j1.s 3)),.raw (.int .i64 j1.mn),.raw (.int .i64 j1.mx),(zcm (List.length (j1.l:List Tr)) (Enc.cellsL (j1.l:List Tr)))]),(29,(Enc.cells (x7:Tr))),(29,(Enc.cells (x8.1:Tr))),(5,(Enc.cellsL ((List.replicate (Int.toNat (4097:Int)) (0:UInt8)):List UInt8))),(29,(Enc.cells ((Tr.mk 6 (0#256) 0 0 [x1]):Tr))),(5,(Enc.cellsL ((List.replicate (Int.toNat (4097:Int)) (0:UInt8)):List UInt8))),(5,(Enc.cellsL ((List.replicate (Int.toNat (4097:Int)) (0:UInt8)):List UInt8)))] 29 (List.length (j1.l:List Tr)) 8) ?_ ?_
            ·
             refine zju (fun ops hops FIN hFIN S0 hS0=> ?_)
             let v191:AV:= .agg (Enc.cells (x1:Tr))
             let v192:AV:= .bsl 7 0 (Int.toNat (4097:Int)) 1 true
             let v193:AV:= .raw (.string (bs (List.replicate (Int.toNat (4097:Int)) (0:UInt8))))
             let v194:AV:= .tup [.raw (.bool x23.1),.raw (.int .i64 x23.2)]
             let G0:St:=(zbs [(29,(Enc.cells (x1:Tr))),(29,[.raw (.int .u8 ((j1.k:Nat):Int)),.raw (.int .u64 (wd j1.s 0)),.raw (.int .u64 (wd j1.s 1)),.raw (.int .u64 (wd j1.s 2)),.raw (.int .u64 (wd j1.s 3)),.raw (.int .i64 j1.mn),.raw (.int .i64 j1.mx),(zcm (List.length (j1.l:List Tr)) (Enc.cellsL (j1.l:List Tr)))]),(29,(Enc.cells (x7:Tr))),(29,(Enc.cells (x8.1:Tr))),(5,(Enc.cellsL ((List.replicate (Int.toNat (4097:Int)) (0:UInt8)):List UInt8))),(29,(Enc.cells ((Tr.mk 6 (0#256) 0 0 [x1]):Tr))),(5,(Enc.cellsL ((List.replicate (Int.toNat (4097:Int)) (0:UInt8)):List UInt8)))] 29 (List.length (j1.l:List Tr)) 8)
             let G1:St:=(zbs [(29,(Enc.cells (x1:Tr))),(29,[.raw (.int .u8 ((j1.k:Nat):Int)),.raw (.int .u64 (wd j1.s 0)),.raw (.int .u64 (wd j1.s 1)),.raw (.int .u64 (wd j1.s 2)),.raw (.int .u64 (wd j1.s 3)),.raw (.int .i64 j1.mn),.raw (.int .i64 j1.mx),(zcm (List.length (j1.l:List Tr)) (Enc.cellsL (j1.l:List Tr)))]),(29,(Enc.cells (x7:Tr))),(29,(Enc.cells (x8.1:Tr))),(5,(Enc.cellsL ((List.replicate (Int.toNat (4097:Int)) (0:UInt8)):List UInt8))),(29,(Enc.cells ((Tr.mk 6 (0#256) 0 0 [x1]):Tr))),(5,(Enc.cellsL ((List.replicate (Int.toNat (4097:Int)) (0:UInt8)):List UInt8))),(5,(Enc.cellsL ((List.replicate (Int.toNat (4097:Int)) (0:UInt8)):List UInt8)))] 29 (List.length (j1.l:List Tr)) 8)
             obtain⟨ps,hps⟩: ∃ps:List (Option (Nat×AV)),ps=[some (191,v191),some (192,v192),some (193,v193),some (194,v194),some (190,.tup [.raw (.bool x23.1),.raw (.int .i64 x23.2)]),some (195,.raw (.bool x23.1)),some (196,.raw (.int .i64 x23.2)),some (22,.raw (.bool x23.1)),some (15,.raw (.int .i64 x23.2))]:=⟨_,rfl⟩
             let N:Nat→Nat→St→Prop:=fun k m σ=>aN (ITP Tryz.prog) Tryz.prog none ops FIN S0 ps 9 k m σ
             have n13:N 0 511 G1:=by
              exact aN_0 hops hS0 hps (hFIN _ _ (Wk.refl _ _ _))
             have n12:N 1 255 G1:=by
              refine zjh hops hS0 hps 8 ?_
              ·
               refine zab ?_
               exact zar n13 hS0 hps
             have n11:N 2 191 G1:=by
              refine zjh hops hS0 hps 6 ?_
              ·
               refine zol ?_
               exact zar n12 hS0 hps
             have n10:N 2 127 G1:=by
              refine zjh hops hS0 hps 7 ?_
              ·
               refine zab ?_
               exact zar n12 hS0 hps
             have n9:N 3 95 G1:=by
              refine zjh hops hS0 hps 5 ?_
              ·
               refine zol ?_
               exact zar n10 hS0 hps
             have n8:N 3 63 G1:=by
              refine zqq hops hS0 hps 6 7 ?_ ?_
              ·
               refine zol ?_
               exact zar n10 hS0 hps
              ·
               refine zab ?_
               exact zar n11 hS0 hps
             have n7:N 4 31 G1:=by
              refine zqq hops hS0 hps 5 6 ?_ ?_
              ·
               refine zol ?_
               exact zar n8 hS0 hps
              ·
               refine zol ?_
               exact zar n9 hS0 hps
             have n6:N 5 15 G1:=by
              refine zjh hops hS0 hps 4 ?_
              ·
               refine zab ?_
               exact zar n7 hS0 hps
             have n5:N 6 7 G1:=by
              refine zjh hops hS0 hps 3 ?_
              ·
               refine zbr (args':=[.agg (Enc.cells (x1:Tr)),.raw (.string (bs (List.replicate (Int.toNat (4097:Int)) (0:UInt8))))]) (r:=v194) (zkr fuel x1 (List.replicate (Int.toNat (4097:Int)) (0:UInt8)) x23 hx23) rfl rfl (zd (zaj (zl (Enc.clo _))) (zd rfl rfl)) (za (zn _ _ (zl (Enc.clo _))) (za rfl rfl)) (by dsimp only[zh,List.set]) ?_
               exact zar n6 hS0 hps
             have n4:N 7 6 G1:=by
              refine zjh hops hS0 hps 0 ?_
              ·
               refine zbm (a:=v191) rfl rfl rfl rfl (by dsimp only[zh,List.set]) ?_
               exact zar n5 hS0 hps
             have n3:N 7 3 G1:=by
              refine zjh hops hS0 hps 2 ?_
              ·
               refine zgs (a:=v193) (σ'':=G1) rfl rfl rfl (zmk (l:=(List.replicate (Int.toNat (4097:Int)) (0:UInt8))) (List.length_replicate ..) rfl rfl rfl rfl rfl rfl) (by dsimp only[zh,List.set]) rfl ?_
               exact zar n5 hS0 hps
             have n2:N 8 2 G1:=by
              refine zqq hops hS0 hps 0 2 ?_ ?_
              ·
               refine zbm (a:=v191) rfl rfl rfl rfl (by dsimp only[zh,List.set]) ?_
               exact zar n3 hS0 hps
              ·
               refine zgs (a:=v193) (σ'':=G1) rfl rfl rfl (zmk (l:=(List.replicate (Int.toNat (4097:Int)) (0:UInt8))) (List.length_replicate ..) rfl rfl rfl rfl rfl rfl) (by dsimp only[zh,List.set]) rfl ?_
               exact zar n4 hS0 hps
             have n1:N 8 1 G0:=by
              refine zjh hops hS0 hps 1 ?_
              ·
               refine zgs (a:=v192) (σ'':=G1) rfl rfl rfl (zjt (α:=UInt8) (by':=1) (0:UInt8) g15 rfl rfl rfl rfl rfl rfl rfl rfl rfl ⟨rfl,by decide⟩) (by dsimp only[zh,List.set]) rfl ?_
               exact zar n3 hS0 hps
             have n0:N 9 0 G0:=by
              refine zqq hops hS0 hps 0 1 ?_ ?_
              ·
               refine zbm (a:=v191) rfl rfl rfl rfl (by dsimp only[zh,List.set]) ?_
               exact zar n1 hS0 hps
              ·
               refine zgs (a:=v192) (σ'':=G1) rfl rfl rfl (zjt (α:=UInt8) (by':=1) (0:UInt8) g15 rfl rfl rfl rfl rfl rfl rfl rfl rfl ⟨rfl,by decide⟩) (by dsimp only[zh,List.set]) rfl ?_
               exact zar n2 hS0 hps
             exact znj n0 hps
            ·
             refine zf (zb ?_)
             refine zbm (a:= .agg (Enc.cells (x1:Tr))) rfl rfl rfl rfl (by dsimp only[zh,List.set]) ?_
             refine zab ?_
             refine zbm (a:= .raw (.int .i64 (min n (-1)))) rfl rfl rfl (zbh (qju rfl rfl rfl rfl rfl)) (by dsimp only[zh,List.set]) ?_
             obtain⟨x24,hx24,h⟩:=zu h
             refine zbr (args':=[.agg (Enc.cells (x1:Tr)),.raw (.int .i64 (min n (-1)))]) (r:= .tup [.list (List.length (x24.1:List Tr)) (Enc.cellsL (x24.1:List Tr)) .none,.raw (.int .i64 x24.2)]) (z2y x1 (min n (-1)) x24 hx24) rfl rfl (zd (zaj (zl (Enc.clo _))) (zd rfl rfl)) (za (zn _ _ (zl (Enc.clo _))) (za rfl rfl)) (by dsimp only[zh,List.set]) ?_
             refine zab ?_
             refine zol ?_
             refine zol ?_
             refine zab ?_
             refine zab ?_
             refine zf (zb ?_)
             refine zab ?_
             refine zbm (a:= .raw (.bool (x22.2==3))) rfl rfl rfl rfl (by dsimp only[zh,List.set]) ?_
             refine zae h (fun hc13 h=> ?_) (fun hc13 h=> ?_)
             ·
              refine zbm (a:= .raw (.bool true)) rfl rfl rfl (zbh (zcg rfl hc13)) (by dsimp only[zh,List.set]) ?_
              refine zaf rfl rfl ?_
              refine zab ?_
              refine zaf rfl rfl ?_
              refine zbm (a:= .raw (.bool (x23.2==3))) rfl rfl rfl rfl (by dsimp only[zh,List.set]) ?_
              refine zbm (a:= .raw (.bool (x23.2==3))) rfl rfl rfl rfl (by dsimp only[zh,List.set]) ?_
              refine zae h (fun hc14 h=> ?_) (fun hc14 h=> ?_)
              ·
               refine zbm (a:= .raw (.bool true)) rfl rfl rfl (zbh (zcg rfl hc14)) (by dsimp only[zh,List.set]) ?_
               refine zaf rfl rfl ?_
               refine zab ?_
               refine zaf rfl rfl ?_
               refine zbm (a:= .raw (.bool (x24.2==2))) rfl rfl rfl rfl (by dsimp only[zh,List.set]) ?_
               refine zbm (a:= .raw (.bool (x24.2==2))) rfl rfl rfl rfl (by dsimp only[zh,List.set]) ?_
               refine zae h (fun hc15 h=> ?_) (fun hc15 h=> ?_)
               ·
                refine zbm (a:= .raw (.bool true)) rfl rfl rfl (zbh (zcg rfl hc15)) (by dsimp only[zh,List.set]) ?_
                refine zaf rfl rfl ?_
                refine zab ?_
                refine zaf rfl rfl ?_
                refine zbm (a:= .raw (.bool (!x23.1))) rfl rfl rfl rfl (by dsimp only[zh,List.set]) ?_
                refine zbm (a:= .raw (.bool (!x23.1))) rfl rfl rfl rfl (by dsimp only[zh,List.set]) ?_
                refine zae h (fun hc16 h=> ?_) (fun hc16 h=> ?_)
                ·
                 refine zbm (a:= .raw (.bool true)) rfl rfl rfl (zbh (zcg rfl hc16)) (by dsimp only[zh,List.set]) ?_
                 refine zaf rfl rfl ?_
                 refine zab ?_
                 refine zaf rfl rfl ?_
                 refine zbm (a:= .raw (.int .i64 (List.length x22.1:Int))) rfl rfl rfl rfl (by dsimp only[zh,List.set]) ?_
                 refine zaf rfl rfl ?_
                 refine zab ?_
                 refine zaf rfl rfl ?_
                 refine zbm (a:= .raw (.int .i64 (List.length x24.1:Int))) rfl rfl rfl rfl (by dsimp only[zh,List.set]) ?_
                 refine zaf rfl rfl ?_
                 obtain⟨g16,h⟩:=zi h
                 refine zbm (a:= .raw (.int .i64 ((List.length x22.1:Int)+(List.length x24.1:Int)))) rfl rfl rfl (zbh (zld rfl rfl rfl rfl g16.1 g16.2)) (by dsimp only[zh,List.set]) ?_
                 refine zaf rfl rfl ?_
                 refine zbm (a:= .raw (.bool (((List.length x22.1:Int)+(List.length x24.1:Int))==0))) rfl rfl rfl rfl (by dsimp only[zh,List.set]) ?_
                 refine zbm (a:= .raw (.bool (((List.length x22.1:Int)+(List.length x24.1:Int))==0))) rfl rfl rfl rfl (by dsimp only[zh,List.set]) ?_
                 refine zab ?_
                 exact zbg h
                ·
                 refine zbm (a:= .raw (.bool false)) rfl rfl rfl (zbh (zcg rfl hc16)) (by dsimp only[zh,List.set]) ?_
                 refine zv rfl rfl (by decide) (by dsimp only[zh,List.set]) ?_
                 refine zv rfl rfl (by decide) (by dsimp only[zh,List.set]) ?_
                 refine zv rfl rfl (by decide) (by dsimp only[zh,List.set]) ?_
                 refine zv rfl rfl (by decide) (by dsimp only[zh,List.set]) ?_
                 refine zv rfl rfl (by decide) (by dsimp only[zh,List.set]) ?_
                 refine zv rfl rfl (by decide) (by dsimp only[zh,List.set]) ?_
                 refine zbm (a:= .raw (.bool false)) rfl rfl rfl rfl (by dsimp only[zh,List.set]) ?_
                 refine zab ?_
                 exact zbg h
               ·
                refine zbm (a:= .raw (.bool false)) rfl rfl rfl (zbh (zcg rfl hc15)) (by dsimp only[zh,List.set]) ?_
                refine zv rfl rfl (by decide) (by dsimp only[zh,List.set]) ?_
                refine zv rfl rfl (by decide) (by dsimp only[zh,List.set]) ?_
                refine zbm (a:= .raw (.bool false)) rfl rfl rfl rfl (by dsimp only[zh,List.set]) ?_
                refine zab ?_
                refine zv rfl rfl (by decide) (by dsimp only[zh,List.set]) ?_
                refine zv rfl rfl (by decide) (by dsimp only[zh,List.set]) ?_
                refine zv rfl rfl (by decide) (by dsimp only[zh,List.set]) ?_
                refine zv rfl rfl (by decide) (by dsimp only[zh,List.set]) ?_
                refine zv rfl rfl (by decide) (by dsimp only[zh,List.set]) ?_
                refine zv rfl rfl (by decide) (by dsimp only[zh,List.set]) ?_
                refine zbm (a:= .raw (.bool false)) rfl rfl rfl rfl (by dsimp only[zh,List.set]) ?_
                refine zab ?_
                exact zbg h
              ·
               refine zbm (a:= .raw (.bool false)) rfl rfl rfl (zbh (zcg rfl hc14)) (by dsimp only[zh,List.set]) ?_
               refine zv rfl rfl (by decide) (by dsimp only[zh,List.set]) ?_
               refine zv rfl rfl (by decide) (by dsimp only[zh,List.set]) ?_
               refine zbm (a:= .raw (.bool false)) rfl rfl rfl rfl (by dsimp only[zh,List.set]) ?_
               refine zab ?_
               refine zv rfl rfl (by decide) (by dsimp only[zh,List.set]) ?_
               refine zv rfl rfl (by decide) (by dsimp only[zh,List.set]) ?_
               refine zbm (a:= .raw (.bool false)) rfl rfl rfl rfl (by dsimp only[zh,List.set]) ?_
               refine zab ?_
               refine zv rfl rfl (by decide) (by dsimp only[zh,List.set]) ?_
               refine zv rfl rfl (by decide) (by dsimp only[zh,List.set]) ?_
               refine zv rfl rfl (by decide) (by dsimp only[zh,List.set]) ?_
               refine zv rfl rfl (by decide) (by dsimp only[zh,List.set]) ?_
               refine zv rfl rfl (by decide) (by dsimp only[zh,List.set]) ?_
               refine zv rfl rfl (by decide) (by dsimp only[zh,List.set]) ?_
               refine zbm (a:= .raw (.bool false)) rfl rfl rfl rfl (by dsimp only[zh,List.set]) ?_
               refine zab ?_
               exact zbg h
             ·
              refine zbm (a:= .raw (.bool false)) rfl rfl rfl (zbh (zcg rfl hc13)) (by dsimp only[zh,List.set]) ?_
              refine zv rfl rfl (by decide) (by dsimp only[zh,List.set]) ?_
              refine zv rfl rfl (by decide) (by dsimp only[zh,List.set]) ?_
              refine zbm (a:= .raw (.bool false)) rfl rfl rfl rfl (by dsimp only[zh,List.set]) ?_
              refine zab ?_
              refine zv rfl rfl (by decide) (by dsimp only[zh,List.set]) ?_
              refine zv rfl rfl (by decide) (by dsimp only[zh,List.set]) ?_
              refine zbm (a:= .raw (.bool false)) rfl rfl rfl rfl (by dsimp only[zh,List.set]) ?_
              refine zab ?_
              refine zv rfl rfl (by decide) (by dsimp only[zh,List.set]) ?_
              refine zv rfl rfl (by decide) (by dsimp only[zh,List.set]) ?_
              refine zbm (a:= .raw (.bool false)) rfl rfl rfl rfl (by dsimp only[zh,List.set]) ?_
              refine zab ?_
              refine zv rfl rfl (by decide) (by dsimp only[zh,List.set]) ?_
              refine zv rfl rfl (by decide) (by dsimp only[zh,List.set]) ?_
              refine zv rfl rfl (by decide) (by dsimp only[zh,List.set]) ?_
              refine zv rfl rfl (by decide) (by dsimp only[zh,List.set]) ?_
              refine zv rfl rfl (by decide) (by dsimp only[zh,List.set]) ?_
              refine zv rfl rfl (by decide) (by dsimp only[zh,List.set]) ?_
              refine zbm (a:= .raw (.bool false)) rfl rfl rfl rfl (by dsimp only[zh,List.set]) ?_
              refine zab ?_
              exact zbg h
end Go.Ab
