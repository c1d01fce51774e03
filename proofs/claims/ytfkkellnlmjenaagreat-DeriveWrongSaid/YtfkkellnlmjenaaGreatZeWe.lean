/-
  Made.
-/
import Derived.Test.YtfkkellnlmjenaaGreatZeWd
set_option linter.unusedSimpArgs false
set_option linter.unusedVariables false
namespace Go.Ab
open Go Go.RowKit Go.Fwd Go.Proofs
def z8o (fuel:Nat)(l:(List Sm)):Option Tr:=
 (zdn (τ:=(List Tr)) (chk (0≤0∧0≤(min (List.length l:Int) 25)∧(min (List.length l:Int) 25)≤(List.length l:Int)) (zbv (β:=Int×Int×Int×(List Tr)) (fun s1=>(bif (decide (s1.2.2.1<(List.length (sub l 0 (min (List.length l:Int) 25)):Int))) then(zdn (τ:=Int×Int×(List Tr)) (chk (0≤s1.2.2.1∧s1.2.2.1<(List.length (sub l 0 (min (List.length l:Int) 25)):Int)) (zbc (ix (sub l 0 (min (List.length l:Int) 25)) s1.2.2.1) (fun x1=>(bif (decide ((Int.tmod ((x1.1:Nat):Int) 12)<4)) then(chk (0≤((x1.2.1:Nat):Int)∧((x1.2.1:Nat):Int)<256) (zbc (lbU (Int.toNat ((x1.2.1:Nat):Int))) (fun x2=>(chk (x2∈clsA) (zbc (clsU x2) (fun x3=>(bif (List.isEmpty s1.2.2.2) then(chk (0<(List.length [x3])∧(List.length [x3])*80≤140737488355328) (some (Sum.inl (s1.1,s1.2.1,[x3])))) else(chk (List.length s1.2.2.2=(List.length s1.2.2.2)∧0<(List.length s1.2.2.2)∧0<List.length [x3]∧((List.length s1.2.2.2)+List.length [x3])*80≤140737488355328) (some (Sum.inl (s1.1,s1.2.1,(s1.2.2.2++[x3])))))))))))) else(bif ((Int.tmod ((x1.1:Nat):Int) 12)==4) then(bif (List.isEmpty s1.2.2.2) then(chk (0<(List.length [(Tr.mk 1 (0#256) 0 0 [])])∧(List.length [(Tr.mk 1 (0#256) 0 0 [])])*80≤140737488355328) (some (Sum.inl (s1.1,s1.2.1,[(Tr.mk 1 (0#256) 0 0 [])])))) else(chk (List.length s1.2.2.2=(List.length s1.2.2.2)∧0<(List.length s1.2.2.2)∧0<List.length [(Tr.mk 1 (0#256) 0 0 [])]∧((List.length s1.2.2.2)+List.length [(Tr.mk 1 (0#256) 0 0 [])])*80≤140737488355328) (some (Sum.inl (s1.1,s1.2.1,(s1.2.2.2++[(Tr.mk 1 (0#256) 0 0 [])])))))) else(zdn (τ:=Bool) (bif (decide ((Int.tmod ((x1.1:Nat):Int) 12)<7)) then(some (Sum.inl ((decide ((List.length s1.2.2.2:Int)>1))))) else(some (Sum.inl (false)))) (fun j3=>(bif j3 then(bif (List.isEmpty s1.2.2.2) then(chk (-9223372036854775808≤((List.length s1.2.2.2:Int)-2)∧((List.length s1.2.2.2:Int)-2)<9223372036854775808) (chk (-9223372036854775808≤((List.length s1.2.2.2:Int)-2)∧((List.length s1.2.2.2:Int)-2)<9223372036854775808) none)) else(chk (-9223372036854775808≤((List.length s1.2.2.2:Int)-2)∧((List.length s1.2.2.2:Int)-2)<9223372036854775808) (chk (-9223372036854775808≤((List.length s1.2.2.2:Int)-2)∧((List.length s1.2.2.2:Int)-2)<9223372036854775808) (bif (((List.length s1.2.2.2:Int)-2)==0) then(chk (-9223372036854775808≤((List.length s1.2.2.2:Int)-2)∧((List.length s1.2.2.2:Int)-2)<9223372036854775808) (chk (0≤((List.length s1.2.2.2:Int)-2)∧((List.length s1.2.2.2:Int)-2)<(((List.length s1.2.2.2):Nat):Int)) (chk (0≤((List.length s1.2.2.2:Int)-2)∧((List.length s1.2.2.2:Int)-2)<(List.length s1.2.2.2:Int)) (zbc (ix s1.2.2.2 ((List.length s1.2.2.2:Int)-2)) (fun x4=>(chk (-9223372036854775808≤((List.length s1.2.2.2:Int)-1)∧((List.length s1.2.2.2:Int)-1)<9223372036854775808) (chk (0≤((List.length s1.2.2.2:Int)-1)∧((List.length s1.2.2.2:Int)-1)<(((List.length s1.2.2.2):Nat):Int)) (chk (0≤((List.length s1.2.2.2:Int)-1)∧((List.length s1.2.2.2:Int)-1)<(List.length s1.2.2.2:Int)) (zbc (ix s1.2.2.2 ((List.length s1.2.2.2:Int)-1)) (fun x5=>(zav (zij fuel 3 x4 x5) (fun x6=>(chk (0<(List.length [x6])∧(List.length [x6])*80≤140737488355328) (some (Sum.inl (s1.1,s1.2.1,[x6])))))))))))))))) else(chk (0<((List.length s1.2.2.2:Int)-2)∧((List.length s1.2.2.2:Int)-2)≤(((List.length s1.2.2.2):Nat):Int)) (chk (-9223372036854775808≤((List.length s1.2.2.2:Int)-2)∧((List.length s1.2.2.2:Int)-2)<9223372036854775808) (chk (0≤((List.length s1.2.2.2:Int)-2)∧((List.length s1.2.2.2:Int)-2)<(((List.length s1.2.2.2):Nat):Int)) (chk (0≤((List.length s1.2.2.2:Int)-2)∧((List.length s1.2.2.2:Int)-2)<(List.length s1.2.2.2:Int)) (zbc (ix s1.2.2.2 ((List.length s1.2.2.2:Int)-2)) (fun x7=>(chk (-9223372036854775808≤((List.length s1.2.2.2:Int)-1)∧((List.length s1.2.2.2:Int)-1)<9223372036854775808) (chk (0≤((List.length s1.2.2.2:Int)-1)∧((List.length s1.2.2.2:Int)-1)<(((List.length s1.2.2.2):Nat):Int)) (chk (0≤((List.length s1.2.2.2:Int)-1)∧((List.length s1.2.2.2:Int)-1)<(List.length s1.2.2.2:Int)) (zbc (ix s1.2.2.2 ((List.length s1.2.2.2:Int)-1)) (fun x8=>(zav (zij fuel 3 x7 x8) (fun x9=>(chk ((Int.toNat ((List.length s1.2.2.2:Int)-2))≤List.length s1.2.2.2∧0<List.length [x9]∧((Int.toNat ((List.length s1.2.2.2:Int)-2))+List.length [x9])*80≤140737488355328) (some (Sum.inl (s1.1,s1.2.1,(List.take (Int.toNat ((List.length s1.2.2.2:Int)-2)) s1.2.2.2++[x9])))))))))))))))))))))) else(zdn (τ:=Bool) (bif (decide ((Int.tmod ((x1.1:Nat):Int) 12)<9)) then(some (Sum.inl ((decide ((List.length s1.2.2.2:Int)>1))))) else(some (Sum.inl (false)))) (fun j4=>(bif j4 then(bif (List.isEmpty s1.2.2.2) then(chk (-9223372036854775808≤((List.length s1.2.2.2:Int)-2)∧((List.length s1.2.2.2:Int)-2)<9223372036854775808) (chk (-9223372036854775808≤((List.length s1.2.2.2:Int)-2)∧((List.length s1.2.2.2:Int)-2)<9223372036854775808) none)) else(chk (-9223372036854775808≤((List.length s1.2.2.2:Int)-2)∧((List.length s1.2.2.2:Int)-2)<9223372036854775808) (chk (-9223372036854775808≤((List.length s1.2.2.2:Int)-2)∧((List.length s1.2.2.2:Int)-2)<9223372036854775808) (bif (((List.length s1.2.2.2:Int)-2)==0) then(chk (-9223372036854775808≤((List.length s1.2.2.2:Int)-2)∧((List.length s1.2.2.2:Int)-2)<9223372036854775808) (chk (0≤((List.length s1.2.2.2:Int)-2)∧((List.length s1.2.2.2:Int)-2)<(((List.length s1.2.2.2):Nat):Int)) (chk (0≤((List.length s1.2.2.2:Int)-2)∧((List.length s1.2.2.2:Int)-2)<(List.length s1.2.2.2:Int)) (zbc (ix s1.2.2.2 ((List.length s1.2.2.2:Int)-2)) (fun x10=>(chk (-9223372036854775808≤((List.length s1.2.2.2:Int)-1)∧((List.length s1.2.2.2:Int)-1)<9223372036854775808) (chk (0≤((List.length s1.2.2.2:Int)-1)∧((List.length s1.2.2.2:Int)-1)<(((List.length s1.2.2.2):Nat):Int)) (chk (0≤((List.length s1.2.2.2:Int)-1)∧((List.length s1.2.2.2:Int)-1)<(List.length s1.2.2.2:Int)) (zbc (ix s1.2.2.2 ((List.length s1.2.2.2:Int)-1)) (fun x11=>(zav (zij fuel 4 x10 x11) (fun x12=>(chk (0<(List.length [x12])∧(List.length [x12])*80≤140737488355328) (some (Sum.inl (s1.1,s1.2.1,[x12])))))))))))))))) else(chk (0<((List.length s1.2.2.2:Int)-2)∧((List.length s1.2.2.2:Int)-2)≤(((List.length s1.2.2.2):Nat):Int)) (chk (-9223372036854775808≤((List.length s1.2.2.2:Int)-2)∧((List.length s1.2.2.2:Int)-2)<9223372036854775808) (chk (0≤((List.length s1.2.2.2:Int)-2)∧((List.length s1.2.2.2:Int)-2)<(((List.length s1.2.2.2):Nat):Int)) (chk (0≤((List.length s1.2.2.2:Int)-2)∧((List.length s1.2.2.2:Int)-2)<(List.length s1.2.2.2:Int)) (zbc (ix s1.2.2.2 ((List.length s1.2.2.2:Int)-2)) (fun x13=>(chk (-9223372036854775808≤((List.length s1.2.2.2:Int)-1)∧((List.length s1.2.2.2:Int)-1)<9223372036854775808) (chk (0≤((List.length s1.2.2.2:Int)-1)∧((List.length s1.2.2.2:Int)-1)<(((List.length s1.2.2.2):Nat):Int)) (chk (0≤((List.length s1.2.2.2:Int)-1)∧((List.length s1.2.2.2:Int)-1)<(List.length s1.2.2.2:Int)) (zbc (ix s1.2.2.2 ((List.length s1.2.2.2:Int)-1)) (fun x14=>(zav (zij fuel 4 x13 x14) (fun x15=>(chk ((Int.toNat ((List.length s1.2.2.2:Int)-2))≤List.length s1.2.2.2∧0<List.length [x15]∧((Int.toNat ((List.length s1.2.2.2:Int)-2))+List.length [x15])*80≤140737488355328) (some (Sum.inl (s1.1,s1.2.1,(List.take (Int.toNat ((List.length s1.2.2.2:Int)-2)) s1.2.2.2++[x15])))))))))))))))))))))) else(zdn (τ:=Bool) (bif ((Int.tmod ((x1.1:Nat):Int) 12)==9) then(bif (decide ((List.length s1.2.2.2:Int)>0)) then(some (Sum.inl ((decide (s1.2.1<9))))) else(some (Sum.inl (false)))) else(some (Sum.inl (false)))) (fun j5=>(bif j5 then(bif (List.isEmpty s1.2.2.2) then(chk (-9223372036854775808≤((List.length s1.2.2.2:Int)-1)∧((List.length s1.2.2.2:Int)-1)<9223372036854775808) (chk (-9223372036854775808≤((List.length s1.2.2.2:Int)-1)∧((List.length s1.2.2.2:Int)-1)<9223372036854775808) none)) else(chk (-9223372036854775808≤((List.length s1.2.2.2:Int)-1)∧((List.length s1.2.2.2:Int)-1)<9223372036854775808) (chk (-9223372036854775808≤((List.length s1.2.2.2:Int)-1)∧((List.length s1.2.2.2:Int)-1)<9223372036854775808) (chk (0≤((List.length s1.2.2.2:Int)-1)∧((List.length s1.2.2.2:Int)-1)<(((List.length s1.2.2.2):Nat):Int)) (chk (0≤((List.length s1.2.2.2:Int)-1)∧((List.length s1.2.2.2:Int)-1)<(List.length s1.2.2.2:Int)) (zbc (ix s1.2.2.2 ((List.length s1.2.2.2:Int)-1)) (fun x16=>(zav (zzc x16) (fun x17=>(chk (0≤((List.length s1.2.2.2:Int)-1)∧((List.length s1.2.2.2:Int)-1)<(((List.length s1.2.2.2):Nat):Int)) (chk (0≤((List.length s1.2.2.2:Int)-1)∧((List.length s1.2.2.2:Int)-1)<(List.length s1.2.2.2:Int)) (zbc (ix s1.2.2.2 ((List.length s1.2.2.2:Int)-1)) (fun x18=>(chk (-9223372036854775808≤(s1.2.1+1)∧(s1.2.1+1)<9223372036854775808) (some (Sum.inl (s1.1,(s1.2.1+1),(List.set s1.2.2.2 (Int.toNat ((List.length s1.2.2.2:Int)-1)) x17)))))))))))))))))) else(bif (List.isEmpty s1.2.2.2) then(zdn (τ:=Unit) (bif (decide ((Int.tmod ((x1.1:Nat):Int) 12)>9)) then(bif (decide ((List.length s1.2.2.2:Int)>0)) then(chk (-9223372036854775808≤((List.length s1.2.2.2:Int)-1)∧((List.length s1.2.2.2:Int)-1)<9223372036854775808) none) else(some (Sum.inl ()))) else(some (Sum.inl ()))) (fun j6=>(some (Sum.inl (s1.1,s1.2.1,s1.2.2.2))))) else(zdn (τ:=Bool) (bif (decide ((Int.tmod ((x1.1:Nat):Int) 12)>9)) then(bif (decide ((List.length s1.2.2.2:Int)>0)) then(chk (-9223372036854775808≤((List.length s1.2.2.2:Int)-1)∧((List.length s1.2.2.2:Int)-1)<9223372036854775808) (chk (0≤((List.length s1.2.2.2:Int)-1)∧((List.length s1.2.2.2:Int)-1)<(((List.length s1.2.2.2):Nat):Int)) (chk (0≤((List.length s1.2.2.2:Int)-1)∧((List.length s1.2.2.2:Int)-1)<(List.length s1.2.2.2:Int)) (zbc (ix s1.2.2.2 ((List.length s1.2.2.2:Int)-1)) (fun x19=>(some (Sum.inl ((((x19.k:Nat):Int) !=1))))))))) else(some (Sum.inl (false)))) else(some (Sum.inl (false)))) (fun j7=>(bif j7 then(chk (-9223372036854775808≤(Int.tmod ((x1.2.1:Nat):Int) 3)∧(Int.tmod ((x1.2.1:Nat):Int) 3)<9223372036854775808) (chk (-9223372036854775808≤(Int.tmod ((x1.2.2:Nat):Int) 4)∧(Int.tmod ((x1.2.2:Nat):Int) 4)<9223372036854775808) (zdn (τ:=Int) (zdn (τ:=Bool) (bif (decide ((Int.tmod ((x1.2.2:Nat):Int) 4)<(Int.tmod ((x1.2.1:Nat):Int) 3))) then(some (Sum.inl (true))) else(bif ((Int.tmod ((x1.2.2:Nat):Int) 4)==0) then(some (Sum.inl (true))) else(bif ((Int.tmod ((x1.2.1:Nat):Int) 3)==1) then(some (Sum.inl (((Int.tmod ((x1.2.2:Nat):Int) 4)==1)))) else(some (Sum.inl (false)))))) (fun j9=>(bif j9 then(some (Sum.inl ((-1)))) else(some (Sum.inl ((Int.tmod ((x1.2.2:Nat):Int) 4))))))) (fun j8=>(chk (-9223372036854775808≤(s1.1*(max (max (Int.tmod ((x1.2.1:Nat):Int) 3) j8) (1:Int)))∧(s1.1*(max (max (Int.tmod ((x1.2.1:Nat):Int) 3) j8) (1:Int)))<9223372036854775808) (bif (decide ((s1.1*(max (max (Int.tmod ((x1.2.1:Nat):Int) 3) j8) (1:Int)))≤16)) then(chk (-9223372036854775808≤(s1.1*(max (max (Int.tmod ((x1.2.1:Nat):Int) 3) j8) (1:Int)))∧(s1.1*(max (max (Int.tmod ((x1.2.1:Nat):Int) 3) j8) (1:Int)))<9223372036854775808) (chk (-9223372036854775808≤((List.length s1.2.2.2:Int)-1)∧((List.length s1.2.2.2:Int)-1)<9223372036854775808) (chk (-9223372036854775808≤((List.length s1.2.2.2:Int)-1)∧((List.length s1.2.2.2:Int)-1)<9223372036854775808) (chk (0≤((List.length s1.2.2.2:Int)-1)∧((List.length s1.2.2.2:Int)-1)<(((List.length s1.2.2.2):Nat):Int)) (chk (0≤((List.length s1.2.2.2:Int)-1)∧((List.length s1.2.2.2:Int)-1)<(List.length s1.2.2.2:Int)) (zbc (ix s1.2.2.2 ((List.length s1.2.2.2:Int)-1)) (fun x20=>(zav (qez x20 (Int.tmod ((x1.2.1:Nat):Int) 3) j8) (fun x21=>(chk (0≤((List.length s1.2.2.2:Int)-1)∧((List.length s1.2.2.2:Int)-1)<(((List.length s1.2.2.2):Nat):Int)) (chk (0≤((List.length s1.2.2.2:Int)-1)∧((List.length s1.2.2.2:Int)-1)<(List.length s1.2.2.2:Int)) (zbc (ix s1.2.2.2 ((List.length s1.2.2.2:Int)-1)) (fun x22=>(some (Sum.inl ((s1.1*(max (max (Int.tmod ((x1.2.1:Nat):Int) 3) j8) (1:Int))),s1.2.1,(List.set s1.2.2.2 (Int.toNat ((List.length s1.2.2.2:Int)-1)) x21))))))))))))))))) else(some (Sum.inl (s1.1,s1.2.1,s1.2.2.2))))))))) else(some (Sum.inl (s1.1,s1.2.1,s1.2.2.2))))))))))))))))))))) (fun j2=>(chk (-9223372036854775808≤(s1.2.2.1+1)∧(s1.2.2.1+1)<9223372036854775808) (some (Sum.inl (j2.1,j2.2.1,(s1.2.2.1+1),j2.2.2)))))) else(some (Sum.inr (Sum.inl (s1.2.2.2)))))) fuel (1,0,0,([]:List Tr)))) (fun j1=>(zdn (τ:=Unit) (bif (List.isEmpty j1) then(bif ((0:Int)==0) then(chk (([97]:List UInt8)∈clsA) (zbc (clsU ([97]:List UInt8)) (fun x23=>(some (Sum.inr x23))))) else(some (Sum.inl ()))) else(bif ((((List.length j1):Nat):Int)==0) then(chk (([97]:List UInt8)∈clsA) (zbc (clsU ([97]:List UInt8)) (fun x24=>(some (Sum.inr x24))))) else(some (Sum.inl ())))) (fun j10=>(bif (List.isEmpty j1) then none else(chk (0≤(0:Int)∧(0:Int)<(((List.length j1):Nat):Int)) (chk (0≤(0:Int)∧(0:Int)<(List.length j1:Int)) (zbc (ix j1 (0:Int)) (fun x25=>(zdn (τ:=Tr) (bif ((1:Int)==(((List.length j1):Nat):Int)) then(chk (0≤(1:Int)) (zbv (β:=Int) (fun s2=>(bif (decide (s2<0)) then none else(some (Sum.inr (Sum.inl (x25)))))) fuel (0))) else(chk (0≤(1:Int)∧(1:Int)<(((List.length j1):Nat):Int)) (zbv (β:=Int×Tr) (fun s3=>(bif (decide (s3.1<((((List.length j1)-Int.toNat 1):Nat):Int))) then(chk (0≤s3.1∧s3.1<((((List.length j1)-Int.toNat 1):Nat):Int)) (chk (0≤(((Int.toNat 1:Nat):Int)+s3.1)∧(((Int.toNat 1:Nat):Int)+s3.1)<(List.length j1:Int)) (zbc (ix j1 (((Int.toNat 1:Nat):Int)+s3.1)) (fun x26=>(zav (zij fuel 4 s3.2 x26) (fun x27=>(chk (-9223372036854775808≤(s3.1+1)∧(s3.1+1)<9223372036854775808) (some (Sum.inl ((s3.1+1),x27)))))))))) else(some (Sum.inr (Sum.inl (s3.2)))))) fuel (0,x25)))) (fun j11=>(some j11))))))))))))
theorem ent9:Ent Tryz.prog 9:=enters_of Tryz.func9 (by kernel_rfl) rfl
set_option maxRecDepth 100000 in
set_option maxHeartbeats 4000000 in
theorem made_sh (fuel:Nat)(l:(List Sm))(r:Tr)(h:z8o fuel l=some r):Pure (ITP Tryz.prog) Tryz.prog 9 [.list (List.length (l:List Sm)) (Enc.cellsL (l:List Sm)) .none] (.agg (Enc.cells (r:Tr))):=by
 obtain⟨d,hd⟩: ∃d,Tryz.f9.body=some d:=⟨_,rfl⟩
 refine zgk mix Tryz.func9 hd ent9 ?_
 cases hd
 unfold z8o at h
 refine zah (by dsimp only[zbf,Tryz.f9,List.length_cons,List.length_nil,Nat.zero_add,Nat.reduceAdd,Nat.reduceSub,List.replicate,List.cons_append,List.nil_append]) (by dsimp only[St.empty]) ?_
 refine zf (zb ?_)
 refine zbz (a:= .ptr 0 0) (σ'':=⟨[(29,[.u 0,.raw (.int .u64 0),.raw (.int .u64 0),.raw (.int .u64 0),.raw (.int .u64 0),.i 0,.i 0,.list 0 [] .full])],[],[],0,false⟩) ?_
 refine z4q (zb ?_)
 refine w_o (a:= .list 0 [] .full) ?_
 refine qei (S':=(.list (List.length (l:List Sm)) (Enc.cellsL (l:List Sm)) .none:: .raw undef:: .ptr 0 0::(zvn 1 (List.length ([]:List Tr)) 8):: .raw undef:: .raw undef:: .raw undef:: .raw undef:: .raw undef:: .raw undef:: .raw undef:: .raw undef:: .raw undef:: .raw undef:: .raw undef:: .raw undef:: .raw undef:: .raw undef:: .raw undef:: .raw undef:: .raw undef:: .raw undef:: .raw undef:: .raw undef:: .raw undef:: .raw undef:: .raw undef:: .raw undef:: .raw undef:: .raw undef:: .raw undef:: .raw undef:: .raw undef:: .raw undef:: .raw undef:: .raw undef:: .raw undef:: .raw undef:: .raw undef:: .raw undef:: .raw undef:: .raw undef:: .raw undef:: .raw undef:: .raw undef:: .raw undef:: .raw undef:: .raw undef:: .raw undef:: .raw undef:: .raw undef:: .raw undef:: .raw undef:: .raw undef:: .raw undef:: .raw undef:: .raw undef:: .raw undef:: .raw undef:: .raw undef:: .raw undef:: .raw undef:: .raw undef:: .raw undef:: .raw undef:: .raw undef:: .raw undef:: .raw undef:: .raw undef:: .raw undef:: .raw undef:: .raw undef:: .raw undef:: .raw undef:: .raw undef:: .raw undef:: .raw undef:: .raw undef:: .raw undef:: .raw undef:: .raw undef:: .raw undef:: .raw undef:: .raw undef:: .raw undef:: .raw undef:: .raw undef:: .raw undef:: .raw undef:: .raw undef:: .raw undef:: .raw undef:: .raw undef:: .raw undef:: .raw undef:: .raw undef:: .raw undef:: .raw undef:: .raw undef:: .raw undef:: .raw undef:: .raw undef:: .raw undef:: .raw undef:: .raw undef:: .raw undef:: .raw undef:: .raw undef:: .raw undef:: .raw undef:: .raw undef:: .raw undef:: .raw undef:: .raw undef:: .raw undef:: .raw undef:: .raw undef:: .raw undef:: .raw undef:: .raw undef:: .raw undef:: .raw undef:: .raw undef:: .raw undef:: .raw undef:: .raw undef:: .raw undef:: .raw undef:: .raw undef:: .raw undef:: .raw undef:: .raw undef:: .raw undef:: .raw undef:: .raw undef:: .raw undef:: .raw undef:: .raw undef:: .raw undef:: .raw undef:: .raw undef:: .raw undef:: .raw undef:: .raw undef:: .raw undef:: .raw undef:: .raw undef:: .raw undef:: .raw undef:: .raw undef:: .raw undef:: .raw undef:: .raw undef:: .raw undef:: .raw undef:: .raw undef:: .raw undef:: .raw undef:: .raw undef:: .raw undef:: .raw undef:: .raw undef:: .raw undef:: .raw undef:: .raw undef:: .raw undef:: .raw undef:: .raw undef:: .raw undef:: .raw undef:: .raw undef:: .raw undef:: .raw undef:: .raw undef:: .raw undef:: .raw undef:: .raw undef:: .raw undef:: .raw undef:: .raw undef:: .raw undef:: .raw undef:: .raw undef:: .raw undef:: .raw undef:: .raw undef:: .raw undef:: .raw undef:: .raw undef:: .raw undef:: .raw undef:: .raw undef:: .raw undef:: .raw undef:: .raw undef:: .raw undef:: .raw undef:: .raw undef:: .raw undef:: .raw undef:: .raw undef:: .raw undef:: .raw undef:: .raw undef::[])) (σ':=⟨[(29,[.u 0,.raw (.int .u64 0),.raw (.int .u64 0),.raw (.int .u64 0),.raw (.int .u64 0),.i 0,.i 0,.list 0 [] .full]),(29,(Enc.cellsL (([]:List Tr):List Tr)))],[],[],0,false⟩) (z9f (true::true::true::true::true::true::true::true::true::true::true::true::true::true::true::true::true::true::true::true::true::true::true::true::true::true::true::true::true::true::true::true::true::true::true::true::true::true::true::true::true::true::true::true::true::true::true::true::true::true::true::true::true::true::true::true::true::true::true::true::true::true::true::true::true::true::true::true::true::true::true::true::true::true::true::true::true::true::true::true::true::true::true::true::true::true::true::true::true::true::true::true::true::true::true::true::true::true::true::true::true::true::true::true::true::true::true::true::true::true::true::true::true::true::true::true::true::true::true::true::true::true::true::true::true::true::true::true::true::true::true::true::true::true::true::true::true::true::true::true::true::true::true::true::true::true::true::true::true::true::true::true::true::true::true::true::true::true::true::true::true::true::true::true::true::true::true::true::true::true::true::true::true::true::true::true::true::true::true::true::true::true::true::true::true::true::true::true::true::true::true::true::true::true::true::true::true::true::true::true::true::true::true::true::[]) 0 rfl rfl rfl) ?_
 refine zf (zb ?_)
 refine w_o (a:= .i 1) ?_
 refine w_o (a:= .i 0) ?_
 refine zau h [0,1,3,4,5,6,7,8,9,10,11,12,13,14,15,16,17,18,19,20,21,22,23,24,25,26,27,28,29,30,31,32,33,34,35,36,37,38,39,40,41,42,43,44,45,46,47,48,49,50,51,52,53,54,55,56,57,58,59,60,61,62,63,64,65,66,67,68,69,70,71,72,73,74,75,76,77,78,79,80,81,82,83,84,85,86,87,88,89,90,91,92,93,94,95,96,97,98,99,100,101,102,103,104,105,106,107,108,109,110,111,112,113,114,115,116,117,118,119,120,121,122,123,124,125,126,127,128,129,130,131,132,133,134,135,136,137,138,139,140,141,142,143,144,145,146,147,148,149,150,151,152,153,154,155,156,157,158,159,160,161,162,163,164,165,166,167,168,169,170,171,172,173,174,175,176,177,178,179,180,181,182,183,184,185,186,187,188,189,190,191,192,193,194,195,196,197,198,199,200,201,202,203] (fun j1=>[(3,(zvn 1 (List.length j1) 8))]) (fun j1=>⟨[(29,[.u 0,.raw (.int .u64 0),.raw (.int .u64 0),.raw (.int .u64 0),.raw (.int .u64 0),.i 0,.i 0,.list 0 [] .full]),(29,(Enc.cellsL (j1:List Tr)))],[],[],0,false⟩) ?_ ?_
 intro or1 h hr1
 refine zf (zb ?_)
 refine zab ?_
 refine zab ?_
 refine w_o (a:= .i (List.length l:Int)) ?_
 refine w_o (a:= .i (min (List.length l:Int) 25)) (h:=zbh (qju rfl rfl rfl rfl rfl)) ?_
 obtain⟨g1,h⟩:=zi h
 refine zeh (.list (List.length ((sub l 0 (min (List.length l:Int) 25)):List Sm)) (Enc.cellsL ((sub l 0 (min (List.length l:Int) 25)):List Sm)) .none) rfl rfl rfl (q_sub_H (α:=Sm) (l:=l) g1 rfl rfl rfl rfl rfl) (z1n _ _ _) (by dsimp only[zh,List.set]) ?_
 refine w_o (a:= .i (List.length (sub l 0 (min (List.length l:Int) 25)):Int)) ?_
 refine w_o (a:= .i 0) ?_
 refine zp ?_
 refine zbx h [0,1,3,4,5,6,7,8,9,10,11,12,13,14,15,16,17,18,19,22,23,24,25,26,27,28,29,30,31,32,33,34,35,36,37,38,39,40,41,42,43,44,45,46,47,48,49,50,51,52,53,54,55,56,57,58,59,60,61,62,63,64,65,66,67,68,69,70,71,72,73,74,75,76,77,78,79,80,81,82,83,84,85,86,87,88,89,90,91,92,93,94,95,96,97,98,99,100,101,102,103,104,105,106,107,108,109,110,111,112,113,114,115,116,117,118,119,120,121,122,123,124,125,126,127,128,129,130,131,132,133,134,135,136,137,138,139,140,141,142,143,144,145,146,147,148,149,150,151,152,153,154,155,156,157,158,159,160,161,162,163,164,165,166,167,168,169,170,171,172,173,174,175,176,177,178,179,180,181,182,183,184,185,186,187,188,189,190,191,192,193,194,195,196,197,198,199,200,201,202,203] (fun s1=>[(4,.i s1.1),(5,.i s1.2.1),(22,.i s1.2.2.1),(3,(zvn 1 (List.length s1.2.2.2) 8))]) (fun s1=>⟨[(29,[.u 0,.raw (.int .u64 0),.raw (.int .u64 0),.raw (.int .u64 0),.raw (.int .u64 0),.i 0,.i 0,.list 0 [] .full]),(29,(Enc.cellsL (s1.2.2.2:List Tr)))],[],[],0,false⟩) ?_ ?_
 exact zct (bl 204 7340092) (by kernel_rfl) (by kernel_rfl)
 intro s1 p1 h
 refine zah (by dsimp only[zac,zag,List.foldl,List.set]) rfl ?_
 refine zf (zb ?_)
 refine w_o (a:= .b (decide (s1.2.2.1<(List.length (sub l 0 (min (List.length l:Int) 25)):Int)))) ?_
 refine zf ?_
 refine zae h (fun hc1 h=> ?_) (fun hc1 h=> ?_)
 refine zbw hc1 rfl ?_
 refine zau h [3,4,5,7,8,9,10,11,12,23,24,25,26,27,28,29,30,31,32,33,34,35,36,37,38,39,40,41,42,43,44,45,46,47,48,49,50,51,52,53,54,55,56,57,58,59,60,61,62,63,64,65,66,67,68,69,70,71,72,73,74,75,76,77,78,79,80,81,82,83,84,85,86,87,88,89,90,91,92,93,94,95,96,97,98,99,100,101,102,103,104,105,106,107,108,109,110,111,112,113,114,115,116,117,118,119,120,121,122,123,124,125,126,127,128,129,130,131,132,133,134,135,136,137,138,139,140,141,142,143,144,145,146,147,148,149,150,151,152,153,154,155,156,157,158,159,160,161,162,163,164,165,166,167,168,169,170,171,172,173,174,175,176,177,178,179,180,181,182,183] (fun j2=>[(4,.i j2.1),(5,.i j2.2.1),(3,(zvn 1 (List.length j2.2.2) 8))]) (fun j2=>⟨[(29,[.u 0,.raw (.int .u64 0),.raw (.int .u64 0),.raw (.int .u64 0),.raw (.int .u64 0),.i 0,.i 0,.list 0 [] .full]),(29,(Enc.cellsL (j2.2.2:List Tr)))],[],[],0,false⟩) ?_ ?_
 intro or2 h hr2
 refine zp ?_
 refine zf (zb ?_)
 obtain⟨g2,h⟩:=zi h
 obtain⟨x1,hx1,h⟩:=zo h
 refine w_o (a:= .iptr (Enc.cells x1++Enc.cellsL (List.drop (Int.toNat s1.2.2.1+1) (sub l 0 (min (List.length l:Int) 25))))) (h:=zbh (by rw[←hx1];exact(ztq (α:=Sm) (l:=(sub l 0 (min (List.length l:Int) 25))) g2 rfl rfl rfl rfl rfl))) ?_
 refine w_o (a:= .agg (Enc.cells (x1:Sm))) ?_
 refine zbz (a:= .ptr 2 0) (σ'':=⟨[(29,[.u 0,.raw (.int .u64 0),.raw (.int .u64 0),.raw (.int .u64 0),.raw (.int .u64 0),.i 0,.i 0,.list 0 [] .full]),(29,(Enc.cellsL (s1.2.2.2:List Tr))),(81,(Enc.cells ((0,0,0):Sm)))],[],[],0,false⟩) ?_
 refine zbz (σ'':=⟨[(29,[.u 0,.raw (.int .u64 0),.raw (.int .u64 0),.raw (.int .u64 0),.raw (.int .u64 0),.i 0,.i 0,.list 0 [] .full]),(29,(Enc.cellsL (s1.2.2.2:List Tr))),(81,(Enc.cells (x1:Sm)))],[],[],0,false⟩) (h:=zaz (n:=3) rfl rfl rfl rfl rfl rfl rfl rfl (by decide)) ?_
 refine zf (zb ?_)
 refine zab ?_
 refine w_o (a:= .i (List.length s1.2.2.2:Int)) (h:=zbh (qox (α:=Tr) (l:=s1.2.2.2) rfl rfl rfl rfl rfl rfl)) ?_
 refine zab ?_
 refine zf (zb ?_)
 refine w_o (a:= .ptr 2 0) ?_
 refine w_o (a:= .u ((x1.1:Nat):Int)) ?_
 refine w_o (a:= .u (Int.tmod ((x1.1:Nat):Int) 12)) ?_
 refine zab ?_
 refine zp ?_
 refine zf (zb ?_)
 refine zab ?_
 refine w_o (a:= .b (decide ((Int.tmod ((x1.1:Nat):Int) 12)<4))) ?_
 refine zab ?_
 refine zae h (fun hc2 h=> ?_) (fun hc2 h=> ?_)
 refine zbw hc2 rfl ?_
 refine zb (k0:=0) (id:=9) ?_
 refine zab ?_
 refine w_o (a:= .ptr 2 1) ?_
 refine w_o (a:= .u ((x1.2.1:Nat):Int)) ?_
 obtain⟨g3,h⟩:=zi h
 obtain⟨x2,hx2,h⟩:=zo h
 refine zbr (args':=[.u ((x1.2.1:Nat):Int)]) (r:= .s x2) (by rw[←hx2];exact(qhm ((x1.2.1:Nat):Int) g3)) rfl rfl (zd rfl rfl) (by kernel_rfl) (by dsimp only[zh,List.set]) ?_
 obtain⟨g4,h⟩:=zi h
 obtain⟨x3,hx3,h⟩:=zo h
 refine zbr (args':=[.s x2]) (r:= .agg (Enc.cells (x3:Tr))) (by rw[←hx3];exact(zvl x2 g4)) rfl rfl (zd rfl rfl) (by kernel_rfl) (by dsimp only[zh,List.set]) ?_
 refine w_o (a:= .list (List.length ([x3]:List Tr)) (Enc.cellsL ([x3]:List Tr)) .full) (h:=zbh (zev (α:=Tr) (l:=[x3]) (cs:=Enc.cells (x3:Tr)++[]) rfl (by rw[Enc.cons,Enc.nil]))) ?_
 refine zae h (fun hc3 h=> ?_) (fun hc3 h=> ?_)
 rw[zfv (b:=1) hc3]
 obtain⟨g5,h⟩:=zi h
 refine zgs (a:= .bsl 3 0 (List.length [x3]) 8 false) (σ'':=⟨[(29,[.u 0,.raw (.int .u64 0),.raw (.int .u64 0),.raw (.int .u64 0),.raw (.int .u64 0),.i 0,.i 0,.list 0 [] .full]),(29,(Enc.cellsL (s1.2.2.2:List Tr))),(81,(Enc.cells (x1:Sm))),(29,(Enc.cellsL ([x3]:List Tr)))],[],[],0,false⟩) rfl rfl rfl (zmg (α:=Tr) (r:=[x3]) (by':=80) g5 rfl rfl rfl rfl rfl rfl rfl rfl rfl rfl rfl ⟨rfl,by decide⟩) (by dsimp only[zh,List.set]) rfl ?_
 refine zab ?_
 refine zg (o:=or2) (s1.1,s1.2.1,[x3]) h ?_
 exact zdx (bl 204 25710984188215190554449659743906167235408310000698730435567743) 0 [] [0,3] 1 (Nat.le_refl _) rfl (by dsimp only[zac,zag,List.foldl,List.set];exact(zc rfl (zc rfl (zc rfl (zc (zgj (by first|(simp;done)|(simp only[List.length_append,List.length_take];omega)) (by first|(simp;done)) _ _) (zc (zk _ _ _ rfl) (zc (zk _ _ _ rfl) (zc rfl (zak (zak (zak (zak (zak (zak (zc rfl (zc rfl (zc rfl (zc rfl (zc rfl (zc rfl (zc rfl (zc (zk _ _ _ (zcs (Enc.cloL _))) (zc (zk _ _ _ rfl) (zc (zk _ _ _ rfl) (ze (ze (ze (ze (ze (ze (ze (ze (ze (ze (ze (ze (ze (ze (ze (ze (ze (ze (ze (ze (zak (zc rfl (zc rfl (zc rfl (zc rfl (zc rfl (zc rfl (zc rfl (zc rfl (zc rfl (zc rfl (zc rfl (zc rfl (zc rfl (zc rfl (zc rfl (zc rfl (zc rfl (zc rfl (zc rfl (zc rfl zdw))))))))))))))))))))))))))))))))))))))))))))))))))))))))))))))))) (zdp (zal rfl rfl (zal rfl (zam _ _ _ (Enc.cloL _)) zcr)) rfl)
 rw[zgq (b:=1) hc3]
 obtain⟨g6,h⟩:=zi h
 refine zgs (a:= .bsl 3 0 ((List.length s1.2.2.2)+List.length [x3]) 8 false) (σ'':=⟨[(29,[.u 0,.raw (.int .u64 0),.raw (.int .u64 0),.raw (.int .u64 0),.raw (.int .u64 0),.i 0,.i 0,.list 0 [] .full]),(29,(Enc.cellsL (([]:List Tr):List Tr))),(81,(Enc.cells (x1:Sm))),(29,(Enc.cellsL ((s1.2.2.2++[x3]):List Tr)))],[],[],0,false⟩) rfl rfl rfl (zxp (α:=Tr) (l:=s1.2.2.2) (r:=[x3]) (by':=80) g6 rfl rfl rfl rfl rfl rfl rfl rfl rfl rfl rfl rfl ⟨rfl,by decide⟩) (by dsimp only[zh,List.set]) rfl ?_
 refine zab ?_
 refine zg (o:=or2) (s1.1,s1.2.1,(s1.2.2.2++[x3])) h ?_
 exact zdx (bl 204 25710984188215190554449659743906167235408310000698730435567743) 0 [] [0,3] 1 (Nat.le_refl _) rfl (by dsimp only[zac,zag,List.foldl,List.set];exact(zc rfl (zc rfl (zc rfl (zc (zgj (by first|(simp;done)|(simp only[List.length_append,List.length_take];omega)) (by first|(simp;done)|exact zfz hc3) _ _) (zc (zk _ _ _ rfl) (zc (zk _ _ _ rfl) (zc rfl (zak (zak (zak (zak (zak (zak (zc rfl (zc rfl (zc rfl (zc rfl (zc rfl (zc rfl (zc rfl (zc (zk _ _ _ (zcs (Enc.cloL _))) (zc (zk _ _ _ rfl) (zc (zk _ _ _ rfl) (ze (ze (ze (ze (ze (ze (ze (ze (ze (ze (ze (ze (ze (ze (ze (ze (ze (ze (ze (ze (zak (zc rfl (zc rfl (zc rfl (zc rfl (zc rfl (zc rfl (zc rfl (zc rfl (zc rfl (zc rfl (zc rfl (zc rfl (zc rfl (zc rfl (zc rfl (zc rfl (zc rfl (zc rfl (zc rfl (zc rfl zdw))))))))))))))))))))))))))))))))))))))))))))))))))))))))))))))))) (zdp (zal rfl rfl (zal rfl (zam _ _ _ (Enc.cloL _)) zcr)) rfl)
 refine zbt hc2 rfl ?_
 refine zf (zb ?_)
 refine zab ?_
 refine w_o (a:= .b ((Int.tmod ((x1.1:Nat):Int) 12)==4)) ?_
 refine zab ?_
 refine zae h (fun hc4 h=> ?_) (fun hc4 h=> ?_)
 refine zbw hc4 rfl ?_
 refine zb (k0:=0) (id:=11) ?_
 refine zab ?_
 refine zeh (.agg (Enc.cells ((Tr.mk 1 (0#256) 0 0 []):Tr))) (a0:=(zca (Tr.mk 1 (0#256) 0 0 []) .full)) rfl rfl rfl (by kernel_rfl) (zj _ _) (by dsimp only[zh,List.set]) ?_
 refine w_o (a:= .list (List.length ([(Tr.mk 1 (0#256) 0 0 [])]:List Tr)) (Enc.cellsL ([(Tr.mk 1 (0#256) 0 0 [])]:List Tr)) .full) (h:=zbh (zev (α:=Tr) (l:=[(Tr.mk 1 (0#256) 0 0 [])]) (cs:=Enc.cells ((Tr.mk 1 (0#256) 0 0 []):Tr)++[]) rfl (by rw[Enc.cons,Enc.nil]))) ?_
 refine zae h (fun hc5 h=> ?_) (fun hc5 h=> ?_)
 rw[zfv (b:=1) hc5]
 obtain⟨g7,h⟩:=zi h
 refine zgs (a:= .bsl 3 0 (List.length [(Tr.mk 1 (0#256) 0 0 [])]) 8 false) (σ'':=⟨[(29,[.u 0,.raw (.int .u64 0),.raw (.int .u64 0),.raw (.int .u64 0),.raw (.int .u64 0),.i 0,.i 0,.list 0 [] .full]),(29,(Enc.cellsL (s1.2.2.2:List Tr))),(81,(Enc.cells (x1:Sm))),(29,(Enc.cellsL ([(Tr.mk 1 (0#256) 0 0 [])]:List Tr)))],[],[],0,false⟩) rfl rfl rfl (zmg (α:=Tr) (r:=[(Tr.mk 1 (0#256) 0 0 [])]) (by':=80) g7 rfl rfl rfl rfl rfl rfl rfl rfl rfl rfl rfl ⟨rfl,by decide⟩) (by dsimp only[zh,List.set]) rfl ?_
 refine zab ?_
 refine zg (o:=or2) (s1.1,s1.2.1,[(Tr.mk 1 (0#256) 0 0 [])]) h ?_
 exact zdx (bl 204 25710984188215190554449659743906167235408310000698730435567743) 0 [] [0,3] 1 (Nat.le_refl _) rfl (by dsimp only[zac,zag,List.foldl,List.set];exact(zc rfl (zc rfl (zc rfl (zc (zgj (by first|(simp;done)|(simp only[List.length_append,List.length_take];omega)) (by first|(simp;done)) _ _) (zc (zk _ _ _ rfl) (zc (zk _ _ _ rfl) (zc rfl (zak (zak (zak (zak (zak (zak (zc rfl (zc rfl (zc rfl (zc rfl (zc rfl (zc rfl (zc rfl (zc (zk _ _ _ (zcs (Enc.cloL _))) (zc (zk _ _ _ rfl) (zc (zk _ _ _ rfl) (ze (ze (ze (ze (ze (ze (ze (ze (ze (ze (ze (ze (ze (ze (ze (ze (ze (ze (ze (ze (zak (zc rfl (zc rfl (zc rfl (zc rfl (zc rfl (zc rfl (zc rfl (zc rfl (zc rfl (zc rfl (zc rfl (zc rfl (zc rfl (zc rfl (zc rfl (zc rfl (zc rfl (zc rfl (zc rfl (zc rfl zdw))))))))))))))))))))))))))))))))))))))))))))))))))))))))))))))))) (zdp (zal rfl rfl (zal rfl (zam _ _ _ (Enc.cloL _)) zcr)) rfl)
 rw[zgq (b:=1) hc5]
 obtain⟨g8,h⟩:=zi h
 refine zgs (a:= .bsl 3 0 ((List.length s1.2.2.2)+List.length [(Tr.mk 1 (0#256) 0 0 [])]) 8 false) (σ'':=⟨[(29,[.u 0,.raw (.int .u64 0),.raw (.int .u64 0),.raw (.int .u64 0),.raw (.int .u64 0),.i 0,.i 0,.list 0 [] .full]),(29,(Enc.cellsL (([]:List Tr):List Tr))),(81,(Enc.cells (x1:Sm))),(29,(Enc.cellsL ((s1.2.2.2++[(Tr.mk 1 (0#256) 0 0 [])]):List Tr)))],[],[],0,false⟩) rfl rfl rfl (zxp (α:=Tr) (l:=s1.2.2.2) (r:=[(Tr.mk 1 (0#256) 0 0 [])]) (by':=80) g8 rfl rfl rfl rfl rfl rfl rfl rfl rfl rfl rfl rfl ⟨rfl,by decide⟩) (by dsimp only[zh,List.set]) rfl ?_
 refine zab ?_
 refine zg (o:=or2) (s1.1,s1.2.1,(s1.2.2.2++[(Tr.mk 1 (0#256) 0 0 [])])) h ?_
 exact zdx (bl 204 25710984188215190554449659743906167235408310000698730435567743) 0 [] [0,3] 1 (Nat.le_refl _) rfl (by dsimp only[zac,zag,List.foldl,List.set];exact(zc rfl (zc rfl (zc rfl (zc (zgj (by first|(simp;done)|(simp only[List.length_append,List.length_take];omega)) (by first|(simp;done)|exact zfz hc5) _ _) (zc (zk _ _ _ rfl) (zc (zk _ _ _ rfl) (zc rfl (zak (zak (zak (zak (zak (zak (zc rfl (zc rfl (zc rfl (zc rfl (zc rfl (zc rfl (zc rfl (zc (zk _ _ _ (zcs (Enc.cloL _))) (zc (zk _ _ _ rfl) (zc (zk _ _ _ rfl) (ze (ze (ze (ze (ze (ze (ze (ze (ze (ze (ze (ze (ze (ze (ze (ze (ze (ze (ze (ze (zak (zc rfl (zc rfl (zc rfl (zc rfl (zc rfl (zc rfl (zc rfl (zc rfl (zc rfl (zc rfl (zc rfl (zc rfl (zc rfl (zc rfl (zc rfl (zc rfl (zc rfl (zc rfl (zc rfl (zc rfl zdw))))))))))))))))))))))))))))))))))))))))))))))))))))))))))))))))) (zdp (zal rfl rfl (zal rfl (zam _ _ _ (Enc.cloL _)) zcr)) rfl)
 refine zbt hc4 rfl ?_
 refine zau h [23,24,25,26,27,28,29,30,31,32,33,41,42,43,48,49,50,51,52,53,54] (fun j3=>[(48,.b j3)]) (fun j3=>⟨[(29,[.u 0,.raw (.int .u64 0),.raw (.int .u64 0),.raw (.int .u64 0),.raw (.int .u64 0),.i 0,.i 0,.list 0 [] .full]),(29,(Enc.cellsL (s1.2.2.2:List Tr))),(81,(Enc.cells (x1:Sm)))],[],[],0,false⟩) ?_ ?_
 intro or3 h hr3
 refine zb (k0:=0) (id:=12) ?_
 refine zab ?_
 refine w_o (a:= .b (decide ((Int.tmod ((x1.1:Nat):Int) 12)<7))) ?_
 refine zae h (fun hc6 h=> ?_) (fun hc6 h=> ?_)
 refine w_o (a:= .b true) (h:=zbh (zcg rfl hc6)) ?_
 refine zaf rfl rfl ?_
 refine zab ?_
 refine zaf rfl rfl ?_
 refine w_o (a:= .b (decide ((List.length s1.2.2.2:Int)>1))) ?_
 refine w_o (a:= .b (decide ((List.length s1.2.2.2:Int)>1))) ?_
 refine zab ?_
 refine zg (o:=or3) ((decide ((List.length s1.2.2.2:Int)>1))) h ?_
 exact zct (bl 204 25711008708143844408671393477458601640355247865043427965009919) (by kernel_rfl) (by kernel_rfl)
 refine w_o (a:= .b false) (h:=zbh (zcg rfl hc6)) ?_
 refine zge ?_
 refine zge ?_
 refine w_o (a:= .b false) ?_
 refine zab ?_
 refine zg (o:=or3) (false) h ?_
 exact zct (bl 204 25711008708143844408671393477458601640355247865043427965009919) (by kernel_rfl) (by kernel_rfl)
 intro j3 h
 refine zah (by dsimp only[zac,zag,List.foldl,List.set]) rfl ?_
 refine zae h (fun hc7 h=> ?_) (fun hc7 h=> ?_)
 refine zbw hc7 rfl ?_
 refine zae h (fun hc8 h=> ?_) (fun hc8 h=> ?_)
 rw[zfv (b:=1) hc8]
 refine zgc (k0:=0) (id:=13) 18 (by kernel_rfl) (by kernel_rfl) ?_
 refine zhd ?_
 refine zhd ?_
 obtain⟨g9,h⟩:=zi h
 refine h_o (a:= .i ((List.length s1.2.2.2:Int)-2)) (h:=zgr rfl rfl rfl rfl g9.1 g9.2) ?_
 refine zhd ?_
 obtain⟨g10,h⟩:=zi h
 refine h_o (a:= .i ((List.length s1.2.2.2:Int)-2)) (h:=zgr rfl rfl rfl rfl g10.1 g10.2) ?_
 cases h
 rw[zgq (b:=1) hc8]
 refine zgc (k0:=0) (id:=13) 18 (by kernel_rfl) (by kernel_rfl) ?_
 refine zhd ?_
 refine zhd ?_
 obtain⟨g11,h⟩:=zi h
 refine h_o (a:= .i ((List.length s1.2.2.2:Int)-2)) (h:=zgr rfl rfl rfl rfl g11.1 g11.2) ?_
 refine zhd ?_
 obtain⟨g12,h⟩:=zi h
 refine h_o (a:= .i ((List.length s1.2.2.2:Int)-2)) (h:=zgr rfl rfl rfl rfl g12.1 g12.2) ?_
 refine zae h (fun hc9 h=> ?_) (fun hc9 h=> ?_)
 refine h_o (a:= .list 0 [] .full) (h:=qev (α:=Tr) (eq_of_beq hc9) rfl rfl rfl rfl rfl rfl) ?_
 refine zhd ?_
 refine zhd ?_
 obtain⟨g13,h⟩:=zi h
 refine h_o (a:= .i ((List.length s1.2.2.2:Int)-2)) (h:=zgr rfl rfl rfl rfl g13.1 g13.2) ?_
 obtain⟨g14,h⟩:=zi h
 refine h_o (a:= .ptr 1 (0+Int.toNat ((List.length s1.2.2.2:Int)-2)*8)) (h:=zex (α:=Tr) g14 rfl rfl rfl rfl rfl) ?_
 obtain⟨g15,h⟩:=zi h
 obtain⟨x4,hx4,h⟩:=zo h
 refine h_o (a:= .agg (Enc.cells (x4:Tr))) (h:=by rw[←hx4];exact(zef (α:=Tr) (l:=s1.2.2.2) (i:=((List.length s1.2.2.2:Int)-2)) (k:=0) (te:=29) g15 rfl rfl rfl rfl)) ?_
 refine zhd ?_
 refine zhd ?_
 obtain⟨g16,h⟩:=zi h
 refine h_o (a:= .i ((List.length s1.2.2.2:Int)-1)) (h:=zgr rfl rfl rfl rfl g16.1 g16.2) ?_
 obtain⟨g17,h⟩:=zi h
 refine h_o (a:= .ptr 1 (0+Int.toNat ((List.length s1.2.2.2:Int)-1)*8)) (h:=zex (α:=Tr) g17 rfl rfl rfl rfl rfl) ?_
 obtain⟨g18,h⟩:=zi h
 obtain⟨x5,hx5,h⟩:=zo h
 refine h_o (a:= .agg (Enc.cells (x5:Tr))) (h:=by rw[←hx5];exact(zef (α:=Tr) (l:=s1.2.2.2) (i:=((List.length s1.2.2.2:Int)-1)) (k:=0) (te:=29) g18 rfl rfl rfl rfl)) ?_
 obtain⟨x6,hx6,h⟩:=zu h
 refine zjn (args':=[.u 3,.agg (Enc.cells (x4:Tr)),.agg (Enc.cells (x5:Tr))]) (r:= .agg (Enc.cells (x6:Tr))) (znq fuel 3 x4 x5 x6 hx6) rfl rfl rfl (zd rfl (zd (zaj (zl (Enc.clo _))) (zd (zaj (zl (Enc.clo _))) rfl))) (za rfl (za (zn _ _ (zl (Enc.clo _))) (za (zn _ _ (zl (Enc.clo _))) rfl))) (by dsimp only[zh,List.set]) ?_
 refine h_o (a:= .list (List.length ([x6]:List Tr)) (Enc.cellsL ([x6]:List Tr)) .full) (h:=zev (α:=Tr) (l:=[x6]) (cs:=Enc.cells (x6:Tr)++[]) rfl (by rw[Enc.cons,Enc.nil])) ?_
 refine zjo ?_
 obtain⟨g19,h⟩:=zi h
 refine zgs (a:= .bsl 3 0 (List.length [x6]) 8 false) (σ'':=⟨[(29,[.u 0,.raw (.int .u64 0),.raw (.int .u64 0),.raw (.int .u64 0),.raw (.int .u64 0),.i 0,.i 0,.list 0 [] .full]),(29,(Enc.cellsL (s1.2.2.2:List Tr))),(81,(Enc.cells (x1:Sm))),(29,(Enc.cellsL ([x6]:List Tr)))],[],[],0,false⟩) rfl rfl rfl (zmg (α:=Tr) (r:=[x6]) (by':=80) g19 rfl rfl rfl rfl rfl rfl rfl rfl rfl rfl rfl ⟨rfl,by decide⟩) (by dsimp only[zh,List.set]) rfl ?_
 refine zab ?_
 refine zg (o:=or2) (s1.1,s1.2.1,[x6]) h ?_
 exact zdx (bl 204 25710984188215190554449659743906167235408310000698730435567743) 0 [] [0,3] 1 (Nat.le_refl _) rfl (by dsimp only[zac,zag,List.foldl,List.set];exact(zc rfl (zc rfl (zc rfl (zc (zgj (by first|(simp;done)|(simp only[List.length_append,List.length_take];omega)) (by first|(simp;done)|exact zfz hc8) _ _) (zc (zk _ _ _ rfl) (zc (zk _ _ _ rfl) (zc rfl (zak (zak (zak (zak (zak (zak (zc rfl (zc rfl (zc rfl (zc rfl (zc rfl (zc rfl (zc rfl (zc (zk _ _ _ (zcs (Enc.cloL _))) (zc (zk _ _ _ rfl) (zc (zk _ _ _ rfl) (ze (ze (ze (ze (ze (ze (ze (ze (ze (ze (ze (ze (ze (ze (ze (ze (ze (ze (ze (ze (zak (zc rfl (zc rfl (zc rfl (zc rfl (zc rfl (zc rfl (zc rfl (zc rfl (zc rfl (zc rfl (zc rfl (zc rfl (zc rfl (zc rfl (zc rfl (zc rfl (zc rfl (zc rfl (zc rfl (zc rfl zdw))))))))))))))))))))))))))))))))))))))))))))))))))))))))))))))))) (zdp (zal rfl rfl (zal rfl (zam _ _ _ (Enc.cloL _)) zcr)) rfl)
 obtain⟨g20,h⟩:=zi h
 refine h_o (a:= .bsl 1 0 (Int.toNat ((List.length s1.2.2.2:Int)-2)) 8 true) (h:=qoo (α:=Tr) g20 rfl rfl rfl rfl rfl rfl) ?_
 refine zhd ?_
 refine zhd ?_
 obtain⟨g21,h⟩:=zi h
 refine h_o (a:= .i ((List.length s1.2.2.2:Int)-2)) (h:=zgr rfl rfl rfl rfl g21.1 g21.2) ?_
 obtain⟨g22,h⟩:=zi h
 refine h_o (a:= .ptr 1 (0+Int.toNat ((List.length s1.2.2.2:Int)-2)*8)) (h:=zex (α:=Tr) g22 rfl rfl rfl rfl rfl) ?_
 obtain⟨g23,h⟩:=zi h
 obtain⟨x7,hx7,h⟩:=zo h
 refine h_o (a:= .agg (Enc.cells (x7:Tr))) (h:=by rw[←hx7];exact(zef (α:=Tr) (l:=s1.2.2.2) (i:=((List.length s1.2.2.2:Int)-2)) (k:=0) (te:=29) g23 rfl rfl rfl rfl)) ?_
 refine zhd ?_
 refine zhd ?_
 obtain⟨g24,h⟩:=zi h
 refine h_o (a:= .i ((List.length s1.2.2.2:Int)-1)) (h:=zgr rfl rfl rfl rfl g24.1 g24.2) ?_
 obtain⟨g25,h⟩:=zi h
 refine h_o (a:= .ptr 1 (0+Int.toNat ((List.length s1.2.2.2:Int)-1)*8)) (h:=zex (α:=Tr) g25 rfl rfl rfl rfl rfl) ?_
 obtain⟨g26,h⟩:=zi h
 obtain⟨x8,hx8,h⟩:=zo h
 refine h_o (a:= .agg (Enc.cells (x8:Tr))) (h:=by rw[←hx8];exact(zef (α:=Tr) (l:=s1.2.2.2) (i:=((List.length s1.2.2.2:Int)-1)) (k:=0) (te:=29) g26 rfl rfl rfl rfl)) ?_
 obtain⟨x9,hx9,h⟩:=zu h
 refine zjn (args':=[.u 3,.agg (Enc.cells (x7:Tr)),.agg (Enc.cells (x8:Tr))]) (r:= .agg (Enc.cells (x9:Tr))) (znq fuel 3 x7 x8 x9 hx9) rfl rfl rfl (zd rfl (zd (zaj (zl (Enc.clo _))) (zd (zaj (zl (Enc.clo _))) rfl))) (za rfl (za (zn _ _ (zl (Enc.clo _))) (za (zn _ _ (zl (Enc.clo _))) rfl))) (by dsimp only[zh,List.set]) ?_
 refine h_o (a:= .list (List.length ([x9]:List Tr)) (Enc.cellsL ([x9]:List Tr)) .full) (h:=zev (α:=Tr) (l:=[x9]) (cs:=Enc.cells (x9:Tr)++[]) rfl (by rw[Enc.cons,Enc.nil])) ?_
 refine zjo ?_
 obtain⟨g27,h⟩:=zi h
 refine zgs (a:= .bsl 3 0 ((Int.toNat ((List.length s1.2.2.2:Int)-2))+List.length [x9]) 8 false) (σ'':=⟨[(29,[.u 0,.raw (.int .u64 0),.raw (.int .u64 0),.raw (.int .u64 0),.raw (.int .u64 0),.i 0,.i 0,.list 0 [] .full]),(29,(Enc.cellsL (s1.2.2.2:List Tr))),(81,(Enc.cells (x1:Sm))),(29,(Enc.cellsL ((List.take (Int.toNat ((List.length s1.2.2.2:Int)-2)) s1.2.2.2++[x9]):List Tr)))],[],[],0,false⟩) rfl rfl rfl (z8s (α:=Tr) (l:=s1.2.2.2) (r:=[x9]) (by':=80) g27 rfl rfl rfl rfl rfl rfl rfl rfl rfl rfl rfl rfl ⟨rfl,by decide⟩) (by dsimp only[zh,List.set]) rfl ?_
 refine zab ?_
 refine zg (o:=or2) (s1.1,s1.2.1,(List.take (Int.toNat ((List.length s1.2.2.2:Int)-2)) s1.2.2.2++[x9])) h ?_
 exact zdx (bl 204 25710984188215190554449659743906167235408310000698730435567743) 0 [] [0,3] 1 (Nat.le_refl _) rfl (by dsimp only[zac,zag,List.foldl,List.set];exact(zc rfl (zc rfl (zc rfl (zc (zgj (by first|(simp;done)|(simp only[List.length_append,List.length_take];omega)) (by first|(simp;done)|exact zfz hc8) _ _) (zc (zk _ _ _ rfl) (zc (zk _ _ _ rfl) (zc rfl (zak (zak (zak (zak (zak (zak (zc rfl (zc rfl (zc rfl (zc rfl (zc rfl (zc rfl (zc rfl (zc (zk _ _ _ (zcs (Enc.cloL _))) (zc (zk _ _ _ rfl) (zc (zk _ _ _ rfl) (ze (ze (ze (ze (ze (ze (ze (ze (ze (ze (ze (ze (ze (ze (ze (ze (ze (ze (ze (ze (zak (zc rfl (zc rfl (zc rfl (zc rfl (zc rfl (zc rfl (zc rfl (zc rfl (zc rfl (zc rfl (zc rfl (zc rfl (zc rfl (zc rfl (zc rfl (zc rfl (zc rfl (zc rfl (zc rfl (zc rfl zdw))))))))))))))))))))))))))))))))))))))))))))))))))))))))))))))))) (zdp (zal rfl rfl (zal rfl (zam _ _ _ (Enc.cloL _)) zcr)) rfl)
 refine zbt hc7 rfl ?_
 refine zau h [48,74,75,76,77,78,79,80] (fun j4=>[(74,.b j4)]) (fun j4=>⟨[(29,[.u 0,.raw (.int .u64 0),.raw (.int .u64 0),.raw (.int .u64 0),.raw (.int .u64 0),.i 0,.i 0,.list 0 [] .full]),(29,(Enc.cellsL (s1.2.2.2:List Tr))),(81,(Enc.cells (x1:Sm)))],[],[],0,false⟩) ?_ ?_
 intro or4 h hr4
 refine zb (k0:=0) (id:=14) ?_
 refine zab ?_
 refine w_o (a:= .b (decide ((Int.tmod ((x1.1:Nat):Int) 12)<9))) ?_
 refine zae h (fun hc10 h=> ?_) (fun hc10 h=> ?_)
 refine w_o (a:= .b true) (h:=zbh (zcg rfl hc10)) ?_
 refine zaf rfl rfl ?_
 refine zab ?_
 refine zaf rfl rfl ?_
 refine w_o (a:= .b (decide ((List.length s1.2.2.2:Int)>1))) ?_
 refine w_o (a:= .b (decide ((List.length s1.2.2.2:Int)>1))) ?_
 refine zab ?_
 refine zg (o:=or4) ((decide ((List.length s1.2.2.2:Int)>1))) h ?_
 exact zct (bl 204 25711008708143844408671393477458601637975175192876909200408575) (by kernel_rfl) (by kernel_rfl)
 refine w_o (a:= .b false) (h:=zbh (zcg rfl hc10)) ?_
 refine zge ?_
 refine zge ?_
 refine w_o (a:= .b false) ?_
 refine zab ?_
 refine zg (o:=or4) (false) h ?_
 exact zct (bl 204 25711008708143844408671393477458601637975175192876909200408575) (by kernel_rfl) (by kernel_rfl)
 intro j4 h
 refine zah (by dsimp only[zac,zag,List.foldl,List.set]) rfl ?_
 refine zae h (fun hc11 h=> ?_) (fun hc11 h=> ?_)
 refine zbw hc11 rfl ?_
 refine zae h (fun hc12 h=> ?_) (fun hc12 h=> ?_)
 rw[zfv (b:=1) hc12]
 refine zgc (k0:=0) (id:=15) 18 (by kernel_rfl) (by kernel_rfl) ?_
 refine zhd ?_
 refine zhd ?_
 obtain⟨g28,h⟩:=zi h
 refine h_o (a:= .i ((List.length s1.2.2.2:Int)-2)) (h:=zgr rfl rfl rfl rfl g28.1 g28.2) ?_
 refine zhd ?_
 obtain⟨g29,h⟩:=zi h
 refine h_o (a:= .i ((List.length s1.2.2.2:Int)-2)) (h:=zgr rfl rfl rfl rfl g29.1 g29.2) ?_
 cases h
 rw[zgq (b:=1) hc12]
 refine zgc (k0:=0) (id:=15) 18 (by kernel_rfl) (by kernel_rfl) ?_
 refine zhd ?_
 refine zhd ?_
 obtain⟨g30,h⟩:=zi h
 refine h_o (a:= .i ((List.length s1.2.2.2:Int)-2)) (h:=zgr rfl rfl rfl rfl g30.1 g30.2) ?_
 refine zhd ?_
 obtain⟨g31,h⟩:=zi h
 refine h_o (a:= .i ((List.length s1.2.2.2:Int)-2)) (h:=zgr rfl rfl rfl rfl g31.1 g31.2) ?_
 refine zae h (fun hc13 h=> ?_) (fun hc13 h=> ?_)
 refine h_o (a:= .list 0 [] .full) (h:=qev (α:=Tr) (eq_of_beq hc13) rfl rfl rfl rfl rfl rfl) ?_
 refine zhd ?_
 refine zhd ?_
 obtain⟨g32,h⟩:=zi h
 refine h_o (a:= .i ((List.length s1.2.2.2:Int)-2)) (h:=zgr rfl rfl rfl rfl g32.1 g32.2) ?_
 obtain⟨g33,h⟩:=zi h
 refine h_o (a:= .ptr 1 (0+Int.toNat ((List.length s1.2.2.2:Int)-2)*8)) (h:=zex (α:=Tr) g33 rfl rfl rfl rfl rfl) ?_
 obtain⟨g34,h⟩:=zi h
 obtain⟨x10,hx10,h⟩:=zo h
 refine h_o (a:= .agg (Enc.cells (x10:Tr))) (h:=by rw[←hx10];exact(zef (α:=Tr) (l:=s1.2.2.2) (i:=((List.length s1.2.2.2:Int)-2)) (k:=0) (te:=29) g34 rfl rfl rfl rfl)) ?_
 refine zhd ?_
 refine zhd ?_
 obtain⟨g35,h⟩:=zi h
 refine h_o (a:= .i ((List.length s1.2.2.2:Int)-1)) (h:=zgr rfl rfl rfl rfl g35.1 g35.2) ?_
 obtain⟨g36,h⟩:=zi h
 refine h_o (a:= .ptr 1 (0+Int.toNat ((List.length s1.2.2.2:Int)-1)*8)) (h:=zex (α:=Tr) g36 rfl rfl rfl rfl rfl) ?_
 obtain⟨g37,h⟩:=zi h
 obtain⟨x11,hx11,h⟩:=zo h
 refine h_o (a:= .agg (Enc.cells (x11:Tr))) (h:=by rw[←hx11];exact(zef (α:=Tr) (l:=s1.2.2.2) (i:=((List.length s1.2.2.2:Int)-1)) (k:=0) (te:=29) g37 rfl rfl rfl rfl)) ?_
 obtain⟨x12,hx12,h⟩:=zu h
 refine zjn (args':=[.u 4,.agg (Enc.cells (x10:Tr)),.agg (Enc.cells (x11:Tr))]) (r:= .agg (Enc.cells (x12:Tr))) (znq fuel 4 x10 x11 x12 hx12) rfl rfl rfl (zd rfl (zd (zaj (zl (Enc.clo _))) (zd (zaj (zl (Enc.clo _))) rfl))) (za rfl (za (zn _ _ (zl (Enc.clo _))) (za (zn _ _ (zl (Enc.clo _))) rfl))) (by dsimp only[zh,List.set]) ?_
 refine h_o (a:= .list (List.length ([x12]:List Tr)) (Enc.cellsL ([x12]:List Tr)) .full) (h:=zev (α:=Tr) (l:=[x12]) (cs:=Enc.cells (x12:Tr)++[]) rfl (by rw[Enc.cons,Enc.nil])) ?_
 refine zjo ?_
 obtain⟨g38,h⟩:=zi h
 refine zgs (a:= .bsl 3 0 (List.length [x12]) 8 false) (σ'':=⟨[(29,[.u 0,.raw (.int .u64 0),.raw (.int .u64 0),.raw (.int .u64 0),.raw (.int .u64 0),.i 0,.i 0,.list 0 [] .full]),(29,(Enc.cellsL (s1.2.2.2:List Tr))),(81,(Enc.cells (x1:Sm))),(29,(Enc.cellsL ([x12]:List Tr)))],[],[],0,false⟩) rfl rfl rfl (zmg (α:=Tr) (r:=[x12]) (by':=80) g38 rfl rfl rfl rfl rfl rfl rfl rfl rfl rfl rfl ⟨rfl,by decide⟩) (by dsimp only[zh,List.set]) rfl ?_
 refine zab ?_
 refine zg (o:=or2) (s1.1,s1.2.1,[x12]) h ?_
 exact zdx (bl 204 25710984188215190554449659743906167235408310000698730435567743) 0 [] [0,3] 1 (Nat.le_refl _) rfl (by dsimp only[zac,zag,List.foldl,List.set];exact(zc rfl (zc rfl (zc rfl (zc (zgj (by first|(simp;done)|(simp only[List.length_append,List.length_take];omega)) (by first|(simp;done)|exact zfz hc12) _ _) (zc (zk _ _ _ rfl) (zc (zk _ _ _ rfl) (zc rfl (zak (zak (zak (zak (zak (zak (zc rfl (zc rfl (zc rfl (zc rfl (zc rfl (zc rfl (zc rfl (zc (zk _ _ _ (zcs (Enc.cloL _))) (zc (zk _ _ _ rfl) (zc (zk _ _ _ rfl) (ze (ze (ze (ze (ze (ze (ze (ze (ze (ze (ze (ze (ze (ze (ze (ze (ze (ze (ze (ze (zak (zc rfl (zc rfl (zc rfl (zc rfl (zc rfl (zc rfl (zc rfl (zc rfl (zc rfl (zc rfl (zc rfl (zc rfl (zc rfl (zc rfl (zc rfl (zc rfl (zc rfl (zc rfl (zc rfl (zc rfl zdw))))))))))))))))))))))))))))))))))))))))))))))))))))))))))))))))) (zdp (zal rfl rfl (zal rfl (zam _ _ _ (Enc.cloL _)) zcr)) rfl)
 obtain⟨g39,h⟩:=zi h
 refine h_o (a:= .bsl 1 0 (Int.toNat ((List.length s1.2.2.2:Int)-2)) 8 true) (h:=qoo (α:=Tr) g39 rfl rfl rfl rfl rfl rfl) ?_
 refine zhd ?_
 refine zhd ?_
 obtain⟨g40,h⟩:=zi h
 refine h_o (a:= .i ((List.length s1.2.2.2:Int)-2)) (h:=zgr rfl rfl rfl rfl g40.1 g40.2) ?_
 obtain⟨g41,h⟩:=zi h
 refine h_o (a:= .ptr 1 (0+Int.toNat ((List.length s1.2.2.2:Int)-2)*8)) (h:=zex (α:=Tr) g41 rfl rfl rfl rfl rfl) ?_
 obtain⟨g42,h⟩:=zi h
 obtain⟨x13,hx13,h⟩:=zo h
 refine h_o (a:= .agg (Enc.cells (x13:Tr))) (h:=by rw[←hx13];exact(zef (α:=Tr) (l:=s1.2.2.2) (i:=((List.length s1.2.2.2:Int)-2)) (k:=0) (te:=29) g42 rfl rfl rfl rfl)) ?_
 refine zhd ?_
 refine zhd ?_
 obtain⟨g43,h⟩:=zi h
 refine h_o (a:= .i ((List.length s1.2.2.2:Int)-1)) (h:=zgr rfl rfl rfl rfl g43.1 g43.2) ?_
 obtain⟨g44,h⟩:=zi h
 refine h_o (a:= .ptr 1 (0+Int.toNat ((List.length s1.2.2.2:Int)-1)*8)) (h:=zex (α:=Tr) g44 rfl rfl rfl rfl rfl) ?_
 obtain⟨g45,h⟩:=zi h
 obtain⟨x14,hx14,h⟩:=zo h
 refine h_o (a:= .agg (Enc.cells (x14:Tr))) (h:=by rw[←hx14];exact(zef (α:=Tr) (l:=s1.2.2.2) (i:=((List.length s1.2.2.2:Int)-1)) (k:=0) (te:=29) g45 rfl rfl rfl rfl)) ?_
 obtain⟨x15,hx15,h⟩:=zu h
 refine zjn (args':=[.u 4,.agg (Enc.cells (x13:Tr)),.agg (Enc.cells (x14:Tr))]) (r:= .agg (Enc.cells (x15:Tr))) (znq fuel 4 x13 x14 x15 hx15) rfl rfl rfl (zd rfl (zd (zaj (zl (Enc.clo _))) (zd (zaj (zl (Enc.clo _))) rfl))) (za rfl (za (zn _ _ (zl (Enc.clo _))) (za (zn _ _ (zl (Enc.clo _))) rfl))) (by dsimp only[zh,List.set]) ?_
 refine h_o (a:= .list (List.length ([x15]:List Tr)) (Enc.cellsL ([x15]:List Tr)) .full) (h:=zev (α:=Tr) (l:=[x15]) (cs:=Enc.cells (x15:Tr)++[]) rfl (by rw[Enc.cons,Enc.nil])) ?_
 refine zjo ?_
 obtain⟨g46,h⟩:=zi h
 refine zgs (a:= .bsl 3 0 ((Int.toNat ((List.length s1.2.2.2:Int)-2))+List.length [x15]) 8 false) (σ'':=⟨[(29,[.u 0,.raw (.int .u64 0),.raw (.int .u64 0),.raw (.int .u64 0),.raw (.int .u64 0),.i 0,.i 0,.list 0 [] .full]),(29,(Enc.cellsL (s1.2.2.2:List Tr))),(81,(Enc.cells (x1:Sm))),(29,(Enc.cellsL ((List.take (Int.toNat ((List.length s1.2.2.2:Int)-2)) s1.2.2.2++[x15]):List Tr)))],[],[],0,false⟩) rfl rfl rfl (z8s (α:=Tr) (l:=s1.2.2.2) (r:=[x15]) (by':=80) g46 rfl rfl rfl rfl rfl rfl rfl rfl rfl rfl rfl rfl ⟨rfl,by decide⟩) (by dsimp only[zh,List.set]) rfl ?_
 refine zab ?_
 refine zg (o:=or2) (s1.1,s1.2.1,(List.take (Int.toNat ((List.length s1.2.2.2:Int)-2)) s1.2.2.2++[x15])) h ?_
 exact zdx (bl 204 25710984188215190554449659743906167235408310000698730435567743) 0 [] [0,3] 1 (Nat.le_refl _) rfl (by dsimp only[zac,zag,List.foldl,List.set];exact(zc rfl (zc rfl (zc rfl (zc (zgj (by first|(simp;done)|(simp only[List.length_append,List.length_take];omega)) (by first|(simp;done)|exact zfz hc12) _ _) (zc (zk _ _ _ rfl) (zc (zk _ _ _ rfl) (zc rfl (zak (zak (zak (zak (zak (zak (zc rfl (zc rfl (zc rfl (zc rfl (zc rfl (zc rfl (zc rfl (zc (zk _ _ _ (zcs (Enc.cloL _))) (zc (zk _ _ _ rfl) (zc (zk _ _ _ rfl) (ze (ze (ze (ze (ze (ze (ze (ze (ze (ze (ze (ze (ze (ze (ze (ze (ze (ze (ze (ze (zak (zc rfl (zc rfl (zc rfl (zc rfl (zc rfl (zc rfl (zc rfl (zc rfl (zc rfl (zc rfl (zc rfl (zc rfl (zc rfl (zc rfl (zc rfl (zc rfl (zc rfl (zc rfl (zc rfl (zc rfl zdw))))))))))))))))))))))))))))))))))))))))))))))))))))))))))))))))) (zdp (zal rfl rfl (zal rfl (zam _ _ _ (Enc.cloL _)) zcr)) rfl)
 refine zbt hc11 rfl ?_
 refine zau h [74,100,101,102,103,104,105,106,107,108,109,110] (fun j5=>[(100,.b j5)]) (fun j5=>⟨[(29,[.u 0,.raw (.int .u64 0),.raw (.int .u64 0),.raw (.int .u64 0),.raw (.int .u64 0),.i 0,.i 0,.list 0 [] .full]),(29,(Enc.cellsL (s1.2.2.2:List Tr))),(81,(Enc.cells (x1:Sm)))],[],[],0,false⟩) ?_ ?_
 intro or5 h hr5
 refine zb (k0:=0) (id:=16) ?_
 refine zab ?_
 refine w_o (a:= .b ((Int.tmod ((x1.1:Nat):Int) 12)==9)) ?_
 refine zae h (fun hc14 h=> ?_) (fun hc14 h=> ?_)
 refine w_o (a:= .b true) (h:=zbh (zcg rfl hc14)) ?_
 refine zaf rfl rfl ?_
 refine zab ?_
 refine zaf rfl rfl ?_
 refine w_o (a:= .b (decide ((List.length s1.2.2.2:Int)>0))) ?_
 refine w_o (a:= .b (decide ((List.length s1.2.2.2:Int)>0))) ?_
 refine zae h (fun hc15 h=> ?_) (fun hc15 h=> ?_)
 refine w_o (a:= .b true) (h:=zbh (zcg rfl hc15)) ?_
 refine zaf rfl rfl ?_
 refine zab ?_
 refine zaf rfl rfl ?_
 refine w_o (a:= .b (decide (s1.2.1<9))) ?_
 refine w_o (a:= .b (decide (s1.2.1<9))) ?_
 refine zab ?_
 refine zg (o:=or5) ((decide (s1.2.1<9))) h ?_
 exact zct (bl 204 25711008708143844408671393474864988512269401079130952025767935) (by kernel_rfl) (by kernel_rfl)
 refine w_o (a:= .b false) (h:=zbh (zcg rfl hc15)) ?_
 refine zge ?_
 refine zge ?_
 refine w_o (a:= .b false) ?_
 refine zab ?_
 refine zg (o:=or5) (false) h ?_
 exact zct (bl 204 25711008708143844408671393474864988512269401079130952025767935) (by kernel_rfl) (by kernel_rfl)
 refine w_o (a:= .b false) (h:=zbh (zcg rfl hc14)) ?_
 refine zge ?_
 refine zge ?_
 refine w_o (a:= .b false) ?_
 refine zab ?_
 refine zge ?_
 refine zge ?_
 refine w_o (a:= .b false) ?_
 refine zab ?_
 refine zg (o:=or5) (false) h ?_
 exact zct (bl 204 25711008708143844408671393474864988512269401079130952025767935) (by kernel_rfl) (by kernel_rfl)
 intro j5 h
 refine zah (by dsimp only[zac,zag,List.foldl,List.set]) rfl ?_
 refine zae h (fun hc16 h=> ?_) (fun hc16 h=> ?_)
 refine zbw hc16 rfl ?_
 refine zae h (fun hc17 h=> ?_) (fun hc17 h=> ?_)
 rw[zfv (b:=1) hc17]
 refine zf (zb ?_)
 refine zab ?_
 refine zab ?_
 obtain⟨g47,h⟩:=zi h
 refine w_o (a:= .i ((List.length s1.2.2.2:Int)-1)) (h:=zbh (zgr rfl rfl rfl rfl g47.1 g47.2)) ?_
 refine zab ?_
 refine zab ?_
 obtain⟨g48,h⟩:=zi h
 refine w_o (a:= .i ((List.length s1.2.2.2:Int)-1)) (h:=zbh (zgr rfl rfl rfl rfl g48.1 g48.2)) ?_
 cases h
 rw[zgq (b:=1) hc17]
 refine zf (zb ?_)
 refine zab ?_
 refine zab ?_
 obtain⟨g49,h⟩:=zi h
 refine w_o (a:= .i ((List.length s1.2.2.2:Int)-1)) (h:=zbh (zgr rfl rfl rfl rfl g49.1 g49.2)) ?_
 refine zab ?_
 refine zab ?_
 obtain⟨g50,h⟩:=zi h
 refine w_o (a:= .i ((List.length s1.2.2.2:Int)-1)) (h:=zbh (zgr rfl rfl rfl rfl g50.1 g50.2)) ?_
 obtain⟨g51,h⟩:=zi h
 refine w_o (a:= .ptr 1 (0+Int.toNat ((List.length s1.2.2.2:Int)-1)*8)) (h:=zbh (zex (α:=Tr) g51 rfl rfl rfl rfl rfl)) ?_
 obtain⟨g52,h⟩:=zi h
 obtain⟨x16,hx16,h⟩:=zo h
 refine w_o (a:= .agg (Enc.cells (x16:Tr))) (h:=zbh (by rw[←hx16];exact(zef (α:=Tr) (l:=s1.2.2.2) (i:=((List.length s1.2.2.2:Int)-1)) (k:=0) (te:=29) g52 rfl rfl rfl rfl))) ?_
 obtain⟨x17,hx17,h⟩:=zu h
 refine zbr (args':=[.agg (Enc.cells (x16:Tr))]) (r:= .agg (Enc.cells (x17:Tr))) (qgf x16 x17 hx17) rfl rfl (zd (zaj (zl (Enc.clo _))) rfl) (za (zn _ _ (zl (Enc.clo _))) rfl) (by dsimp only[zh,List.set]) ?_
 obtain⟨g53,h⟩:=zi h
 refine w_o (a:= .ptr 1 (0+Int.toNat ((List.length s1.2.2.2:Int)-1)*8)) (h:=zbh (zex (α:=Tr) g53 rfl rfl rfl rfl rfl)) ?_
 obtain⟨g54,h⟩:=zi h
 obtain⟨x18,hx18,h⟩:=zo h
 refine zbz (σ'':=⟨[(29,[.u 0,.raw (.int .u64 0),.raw (.int .u64 0),.raw (.int .u64 0),.raw (.int .u64 0),.i 0,.i 0,.list 0 [] .full]),(29,(Enc.cellsL ((List.set s1.2.2.2 (Int.toNat ((List.length s1.2.2.2:Int)-1)) x17):List Tr))),(81,(Enc.cells (x1:Sm)))],[],[],0,false⟩) (h:=zhl (α:=Tr) (l:=s1.2.2.2) (i:=((List.length s1.2.2.2:Int)-1)) (k:=0) (te:=29) (n:=8) x17 g54 rfl rfl rfl rfl rfl rfl rfl (by decide) (by decide) (by rw[hx18];rfl)) ?_
 refine zb (k0:=0) (id:=18) ?_
 refine zab ?_
 obtain⟨g55,h⟩:=zi h
 refine w_o (a:= .i (s1.2.1+1)) (h:=zbh (zld rfl rfl rfl rfl g55.1 g55.2)) ?_
 refine zab ?_
 refine zg (o:=or2) (s1.1,(s1.2.1+1),(List.set s1.2.2.2 (Int.toNat ((List.length s1.2.2.2:Int)-1)) x17)) h ?_
 exact zdx (bl 204 25710984188215190554449659743906167235408310000698730435567743) 0 [] [0,1] 1 (Nat.le_refl _) rfl (by dsimp only[zac,zag,List.foldl,List.set];exact(zc rfl (zc rfl (zc rfl (zc (zgj (by first|(simp;done)|(simp only[List.length_append,List.length_take];omega)) (by first|(simp;done)|exact zfz hc17) _ _) (zc (zk _ _ _ rfl) (zc (zk _ _ _ rfl) (zc rfl (zak (zak (zak (zak (zak (zak (zc rfl (zc rfl (zc rfl (zc rfl (zc rfl (zc rfl (zc rfl (zc (zk _ _ _ (zcs (Enc.cloL _))) (zc (zk _ _ _ rfl) (zc (zk _ _ _ rfl) (ze (ze (ze (ze (ze (ze (ze (ze (ze (ze (ze (ze (ze (ze (ze (ze (ze (ze (ze (ze (zak (zc rfl (zc rfl (zc rfl (zc rfl (zc rfl (zc rfl (zc rfl (zc rfl (zc rfl (zc rfl (zc rfl (zc rfl (zc rfl (zc rfl (zc rfl (zc rfl (zc rfl (zc rfl (zc rfl (zc rfl zdw))))))))))))))))))))))))))))))))))))))))))))))))))))))))))))))))) (zdp (zal rfl rfl (zal rfl (zam _ _ _ (Enc.cloL _)) zcr)) rfl)
 refine zbt hc16 rfl ?_
 refine zae h (fun hc18 h=> ?_) (fun hc18 h=> ?_)
 rw[zfv (b:=1) hc18]
 refine zau h [9,100,123,124,125,126,127,128,129,130,131,132,133,134,135,136,137,138] (fun j6=>[(123,.b false)]) (fun j6=>⟨[(29,[.u 0,.raw (.int .u64 0),.raw (.int .u64 0),.raw (.int .u64 0),.raw (.int .u64 0),.i 0,.i 0,.list 0 [] .full]),(29,(Enc.cellsL (s1.2.2.2:List Tr))),(81,(Enc.cells (x1:Sm)))],[],[],0,false⟩) ?_ ?_
 intro or6 h hr6
 refine zb (k0:=0) (id:=19) ?_
 refine zab ?_
 refine w_o (a:= .b (decide ((Int.tmod ((x1.1:Nat):Int) 12)>9))) ?_
 refine zae h (fun hc19 h=> ?_) (fun hc19 h=> ?_)
 refine w_o (a:= .b true) (h:=zbh (zcg rfl hc19)) ?_
 refine zaf rfl rfl ?_
 refine zab ?_
 refine zaf rfl rfl ?_
 refine w_o (a:= .b (decide ((List.length s1.2.2.2:Int)>0))) ?_
 refine w_o (a:= .b (decide ((List.length s1.2.2.2:Int)>0))) ?_
 refine zae h (fun hc20 h=> ?_) (fun hc20 h=> ?_)
 refine w_o (a:= .b true) (h:=zbh (zcg rfl hc20)) ?_
 refine zaf rfl rfl ?_
 refine zab ?_
 refine zaf rfl rfl ?_
 refine zab ?_
 refine zaf rfl rfl ?_
 obtain⟨g56,h⟩:=zi h
 refine w_o (a:= .i ((List.length s1.2.2.2:Int)-1)) (h:=zbh (zgr rfl rfl rfl rfl g56.1 g56.2)) ?_
 refine zaf rfl rfl ?_
 cases h
 refine w_o (a:= .b false) (h:=zbh (zcg rfl hc20)) ?_
 refine zge ?_
 refine zge ?_
 refine zge ?_
 refine zge ?_
 refine zge ?_
 refine zge ?_
 refine zge ?_
 refine w_o (a:= .b false) ?_
 refine zab ?_
 refine zg (o:=or6) () h ?_
 exact zct (bl 204 25711008708143844407974516457651184575235994936015891850067455) (by kernel_rfl) (by kernel_rfl)
 refine w_o (a:= .b false) (h:=zbh (zcg rfl hc19)) ?_
 refine zge ?_
 refine zge ?_
 refine w_o (a:= .b false) ?_
 refine zab ?_
 refine zge ?_
 refine zge ?_
 refine zge ?_
 refine zge ?_
 refine zge ?_
 refine zge ?_
 refine zge ?_
 refine w_o (a:= .b false) ?_
 refine zab ?_
 refine zg (o:=or6) () h ?_
 exact zct (bl 204 25711008708143844407974516457651184575235994936015891850067455) (by kernel_rfl) (by kernel_rfl)
 intro j6 h
 refine zah (by dsimp only[zac,zag,List.foldl,List.set]) rfl ?_
 refine zcl rfl ?_
 refine zg (o:=or2) (s1.1,s1.2.1,s1.2.2.2) h ?_
 exact zdx (bl 204 25710984188215190554449659743906167235408310000698730435567743) 0 [] [0,1] 1 (Nat.le_refl _) rfl (by dsimp only[zac,zag,List.foldl,List.set];exact(zc rfl (zc rfl (zc rfl (zc ((zfv hc18 _ _).symm) (zc (zk _ _ _ rfl) (zc (zk _ _ _ rfl) (zc rfl (zak (zak (zak (zak (zak (zak (zc rfl (zc rfl (zc rfl (zc rfl (zc rfl (zc rfl (zc rfl (zc (zk _ _ _ (zcs (Enc.cloL _))) (zc (zk _ _ _ rfl) (zc (zk _ _ _ rfl) (ze (ze (ze (ze (ze (ze (ze (ze (ze (ze (ze (ze (ze (ze (ze (ze (ze (ze (ze (ze (zak (zc rfl (zc rfl (zc rfl (zc rfl (zc rfl (zc rfl (zc rfl (zc rfl (zc rfl (zc rfl (zc rfl (zc rfl (zc rfl (zc rfl (zc rfl (zc rfl (zc rfl (zc rfl (zc rfl (zc rfl zdw))))))))))))))))))))))))))))))))))))))))))))))))))))))))))))))))) (zdp (zal rfl rfl (zal rfl (zam _ _ _ (Enc.cloL _)) zcr)) rfl)
 rw[zgq (b:=1) hc18]
 refine zau h [9,100,123,124,125,126,127,128,129,130,131,132,133,134,135,136,137,138] (fun j7=>[(123,.b j7)]) (fun j7=>⟨[(29,[.u 0,.raw (.int .u64 0),.raw (.int .u64 0),.raw (.int .u64 0),.raw (.int .u64 0),.i 0,.i 0,.list 0 [] .full]),(29,(Enc.cellsL (s1.2.2.2:List Tr))),(81,(Enc.cells (x1:Sm)))],[],[],0,false⟩) ?_ ?_
 intro or7 h hr7
 refine zb (k0:=0) (id:=19) ?_
 refine zab ?_
 refine w_o (a:= .b (decide ((Int.tmod ((x1.1:Nat):Int) 12)>9))) ?_
 refine zae h (fun hc21 h=> ?_) (fun hc21 h=> ?_)
 refine w_o (a:= .b true) (h:=zbh (zcg rfl hc21)) ?_
 refine zaf rfl rfl ?_
 refine zab ?_
 refine zaf rfl rfl ?_
 refine w_o (a:= .b (decide ((List.length s1.2.2.2:Int)>0))) ?_
 refine w_o (a:= .b (decide ((List.length s1.2.2.2:Int)>0))) ?_
 refine zae h (fun hc22 h=> ?_) (fun hc22 h=> ?_)
 refine w_o (a:= .b true) (h:=zbh (zcg rfl hc22)) ?_
 refine zaf rfl rfl ?_
 refine zab ?_
 refine zaf rfl rfl ?_
 refine zab ?_
 refine zaf rfl rfl ?_
 obtain⟨g57,h⟩:=zi h
 refine w_o (a:= .i ((List.length s1.2.2.2:Int)-1)) (h:=zbh (zgr rfl rfl rfl rfl g57.1 g57.2)) ?_
 refine zaf rfl rfl ?_
 obtain⟨g58,h⟩:=zi h
 refine w_o (a:= .ptr 1 (0+Int.toNat ((List.length s1.2.2.2:Int)-1)*8)) (h:=zbh (zex (α:=Tr) g58 rfl rfl rfl rfl rfl)) ?_
 refine zaf rfl rfl ?_
 refine w_o (a:= .ptr 1 (0+Int.toNat ((List.length s1.2.2.2:Int)-1)*8+0)) ?_
 refine zaf rfl rfl ?_
 obtain⟨g59,h⟩:=zi h
 obtain⟨x19,hx19,h⟩:=zo h
 refine w_o (a:= .u ((x19.k:Nat):Int)) (h:=zbh (by rw[←hx19];exact(zef (α:=Tr) (l:=s1.2.2.2) (i:=((List.length s1.2.2.2:Int)-1)) (k:=0) (te:=29) g59 rfl rfl rfl rfl))) ?_
 refine zaf rfl rfl ?_
 refine w_o (a:= .b (((x19.k:Nat):Int) !=1)) ?_
 refine w_o (a:= .b (((x19.k:Nat):Int) !=1)) ?_
 refine zab ?_
 refine zg (o:=or7) ((((x19.k:Nat):Int) !=1)) h ?_
 exact zct (bl 204 25711008708143844407974516457651184575235994936015891850067455) (by kernel_rfl) (by kernel_rfl)
 refine w_o (a:= .b false) (h:=zbh (zcg rfl hc22)) ?_
 refine zge ?_
 refine zge ?_
 refine zge ?_
 refine zge ?_
 refine zge ?_
 refine zge ?_
 refine zge ?_
 refine w_o (a:= .b false) ?_
 refine zab ?_
 refine zg (o:=or7) (false) h ?_
 exact zct (bl 204 25711008708143844407974516457651184575235994936015891850067455) (by kernel_rfl) (by kernel_rfl)
 refine w_o (a:= .b false) (h:=zbh (zcg rfl hc21)) ?_
 refine zge ?_
 refine zge ?_
 refine w_o (a:= .b false) ?_
 refine zab ?_
 refine zge ?_
 refine zge ?_
 refine zge ?_
 refine zge ?_
 refine zge ?_
 refine zge ?_
 refine zge ?_
 refine w_o (a:= .b false) ?_
 refine zab ?_
 refine zg (o:=or7) (false) h ?_
 exact zct (bl 204 25711008708143844407974516457651184575235994936015891850067455) (by kernel_rfl) (by kernel_rfl)
 intro j7 h
 refine zah (by dsimp only[zac,zag,List.foldl,List.set]) rfl ?_
 refine zae h (fun hc23 h=> ?_) (fun hc23 h=> ?_)
 refine zbw hc23 rfl ?_
 refine zf ?_
 refine zgc (k0:=0) (id:=20) 9 (by kernel_rfl) (by kernel_rfl) ?_
 refine h_o (a:= .ptr 2 1) ?_
 refine h_o (a:= .u ((x1.2.1:Nat):Int)) ?_
 refine h_o (a:= .u (Int.tmod ((x1.2.1:Nat):Int) 3)) ?_
 obtain⟨g60,h⟩:=zi h
 refine h_o (a:= .i (Int.tmod ((x1.2.1:Nat):Int) 3)) (h:=zyq g60 rfl rfl rfl) ?_
 refine h_o (a:= .ptr 2 2) ?_
 refine h_o (a:= .u ((x1.2.2:Nat):Int)) ?_
 refine h_o (a:= .u (Int.tmod ((x1.2.2:Nat):Int) 4)) ?_
 obtain⟨g61,h⟩:=zi h
 refine h_o (a:= .i (Int.tmod ((x1.2.2:Nat):Int) 4)) (h:=zyq g61 rfl rfl rfl) ?_
 refine zhd ?_
 refine zjo ?_
 refine zab ?_
 refine zau h [7,11,123,139,140,141,142,143,144,145,146,147,148,149,150,151,152,153,154,155,156,157,158,159,160,161] (fun j8=>[(11,.i j8)]) (fun j8=>⟨[(29,[.u 0,.raw (.int .u64 0),.raw (.int .u64 0),.raw (.int .u64 0),.raw (.int .u64 0),.i 0,.i 0,.list 0 [] .full]),(29,(Enc.cellsL (s1.2.2.2:List Tr))),(81,(Enc.cells (x1:Sm)))],[],[],0,false⟩) ?_ ?_
 intro or8 h hr8
 refine zau h [7,123,139,140,141,142,143,144,145,146,147,148,149,150,151,152,153,154,155,156,157,158,159,160,161] (fun j9=>[(161,.b j9)]) (fun j9=>⟨[(29,[.u 0,.raw (.int .u64 0),.raw (.int .u64 0),.raw (.int .u64 0),.raw (.int .u64 0),.i 0,.i 0,.list 0 [] .full]),(29,(Enc.cellsL (s1.2.2.2:List Tr))),(81,(Enc.cells (x1:Sm)))],[],[],0,false⟩) ?_ ?_
 intro or9 h hr9
 refine zb (k0:=0) (id:=21) ?_
 refine zab ?_
 refine zab ?_
 refine w_o (a:= .b (decide ((Int.tmod ((x1.2.2:Nat):Int) 4)<(Int.tmod ((x1.2.1:Nat):Int) 3)))) ?_
 refine zae h (fun hc24 h=> ?_) (fun hc24 h=> ?_)
 refine w_o (a:= .b true) (h:=zbh (zcg rfl hc24)) ?_
 refine zge ?_
 refine zge ?_
 refine w_o (a:= .b true) ?_
 refine zab ?_
 refine zge ?_
 refine zge ?_
 refine zge ?_
 refine zge ?_
 refine zge ?_
 refine zge ?_
 refine w_o (a:= .b true) ?_
 refine zg (o:=or9) (true) h ?_
 exact zct (bl 204 25711008708140921406093619325252309964535823300049152554041215) (by kernel_rfl) (by kernel_rfl)
 refine w_o (a:= .b false) (h:=zbh (zcg rfl hc24)) ?_
 refine zaf rfl rfl ?_
 refine zab ?_
 refine zaf rfl rfl ?_
 refine w_o (a:= .b ((Int.tmod ((x1.2.2:Nat):Int) 4)==0)) ?_
 refine w_o (a:= .b ((Int.tmod ((x1.2.2:Nat):Int) 4)==0)) ?_
 refine zae h (fun hc25 h=> ?_) (fun hc25 h=> ?_)
 refine w_o (a:= .b true) (h:=zbh (zcg rfl hc25)) ?_
 refine zge ?_
 refine zge ?_
 refine zge ?_
 refine zge ?_
 refine zge ?_
 refine zge ?_
 refine w_o (a:= .b true) ?_
 refine zg (o:=or9) (true) h ?_
 exact zct (bl 204 25711008708140921406093619325252309964535823300049152554041215) (by kernel_rfl) (by kernel_rfl)
 refine w_o (a:= .b false) (h:=zbh (zcg rfl hc25)) ?_
 refine zaf rfl rfl ?_
 refine zab ?_
 refine zaf rfl rfl ?_
 refine w_o (a:= .b ((Int.tmod ((x1.2.1:Nat):Int) 3)==1)) ?_
 refine zaf rfl rfl ?_
 refine zae h (fun hc26 h=> ?_) (fun hc26 h=> ?_)
 refine w_o (a:= .b true) (h:=zbh (zcg rfl hc26)) ?_
 refine zaf rfl rfl ?_
 refine zab ?_
 refine zaf rfl rfl ?_
 refine w_o (a:= .b ((Int.tmod ((x1.2.2:Nat):Int) 4)==1)) ?_
 refine zaf rfl rfl ?_
 refine w_o (a:= .b ((Int.tmod ((x1.2.2:Nat):Int) 4)==1)) ?_
 refine w_o (a:= .b ((Int.tmod ((x1.2.2:Nat):Int) 4)==1)) ?_
 refine zg (o:=or9) (((Int.tmod ((x1.2.2:Nat):Int) 4)==1)) h ?_
 exact zct (bl 204 25711008708140921406093619325252309964535823300049152554041215) (by kernel_rfl) (by kernel_rfl)
 refine w_o (a:= .b false) (h:=zbh (zcg rfl hc26)) ?_
 refine zge ?_
 refine zge ?_
 refine zaf rfl rfl ?_
 refine w_o (a:= .b false) ?_
 refine w_o (a:= .b false) ?_
 refine zg (o:=or9) (false) h ?_
 exact zct (bl 204 25711008708140921406093619325252309964535823300049152554041215) (by kernel_rfl) (by kernel_rfl)
 intro j9 h
 refine zah (by dsimp only[zac,zag,List.foldl,List.set]) rfl ?_
 refine zae h (fun hc27 h=> ?_) (fun hc27 h=> ?_)
 refine zbw hc27 rfl ?_
 refine zb (k0:=0) (id:=22) ?_
 refine w_o (a:= .i (-1)) ?_
 refine zg (o:=or8) ((-1)) h ?_
 exact zct (bl 204 25711008708137998402818957519415902594870390734009840688955263) (by kernel_rfl) (by kernel_rfl)
 refine zbt hc27 rfl ?_
 refine zg (o:=or8) ((Int.tmod ((x1.2.2:Nat):Int) 4)) h ?_
 exact zct (bl 204 25711008708137998402818957519415902594870390734009840688955263) (by kernel_rfl) (by kernel_rfl)
 intro j8 h
 refine zah (by dsimp only[zac,zag,List.foldl,List.set]) rfl ?_
 refine zf (zb ?_)
 refine zab ?_
 refine zab ?_
 refine w_o (a:= .i (max (max (Int.tmod ((x1.2.1:Nat):Int) 3) j8) (1:Int))) (h:=zbh (q_max3 rfl rfl rfl rfl rfl rfl)) ?_
 refine zab ?_
 refine zf (zb ?_)
 refine zab ?_
 refine zab ?_
 obtain⟨g62,h⟩:=zi h
 refine w_o (a:= .i (s1.1*(max (max (Int.tmod ((x1.2.1:Nat):Int) 3) j8) (1:Int)))) (h:=zbh (q_mul rfl rfl rfl rfl g62.1 g62.2)) ?_
 refine w_o (a:= .b (decide ((s1.1*(max (max (Int.tmod ((x1.2.1:Nat):Int) 3) j8) (1:Int)))≤16))) ?_
 refine zae h (fun hc28 h=> ?_) (fun hc28 h=> ?_)
 refine zbw hc28 rfl ?_
 refine zf (zb ?_)
 refine zab ?_
 refine zab ?_
 obtain⟨g63,h⟩:=zi h
 refine w_o (a:= .i (s1.1*(max (max (Int.tmod ((x1.2.1:Nat):Int) 3) j8) (1:Int)))) (h:=zbh (q_mul rfl rfl rfl rfl g63.1 g63.2)) ?_
 refine zab ?_
 refine zb (k0:=0) (id:=26) ?_
 refine zab ?_
 refine zab ?_
 obtain⟨g64,h⟩:=zi h
 refine w_o (a:= .i ((List.length s1.2.2.2:Int)-1)) (h:=zbh (zgr rfl rfl rfl rfl g64.1 g64.2)) ?_
 refine zab ?_
 refine zab ?_
 obtain⟨g65,h⟩:=zi h
 refine w_o (a:= .i ((List.length s1.2.2.2:Int)-1)) (h:=zbh (zgr rfl rfl rfl rfl g65.1 g65.2)) ?_
 obtain⟨g66,h⟩:=zi h
 refine w_o (a:= .ptr 1 (0+Int.toNat ((List.length s1.2.2.2:Int)-1)*8)) (h:=zbh (zex (α:=Tr) g66 rfl rfl rfl rfl rfl)) ?_
 obtain⟨g67,h⟩:=zi h
 obtain⟨x20,hx20,h⟩:=zo h
 refine w_o (a:= .agg (Enc.cells (x20:Tr))) (h:=zbh (by rw[←hx20];exact(zef (α:=Tr) (l:=s1.2.2.2) (i:=((List.length s1.2.2.2:Int)-1)) (k:=0) (te:=29) g67 rfl rfl rfl rfl))) ?_
 refine zab ?_
 refine zab ?_
 obtain⟨x21,hx21,h⟩:=zu h
 refine zbr (args':=[.agg (Enc.cells (x20:Tr)),.i (Int.tmod ((x1.2.1:Nat):Int) 3),.i j8]) (r:= .agg (Enc.cells (x21:Tr))) (rep8_sh x20 (Int.tmod ((x1.2.1:Nat):Int) 3) j8 x21 hx21) rfl rfl (zd (zaj (zl (Enc.clo _))) (zd rfl (zd rfl rfl))) (za (zn _ _ (zl (Enc.clo _))) (by kernel_rfl)) (by dsimp only[zh,List.set]) ?_
 obtain⟨g68,h⟩:=zi h
 refine w_o (a:= .ptr 1 (0+Int.toNat ((List.length s1.2.2.2:Int)-1)*8)) (h:=zbh (zex (α:=Tr) g68 rfl rfl rfl rfl rfl)) ?_
 obtain⟨g69,h⟩:=zi h
 obtain⟨x22,hx22,h⟩:=zo h
 refine zbz (σ'':=⟨[(29,[.u 0,.raw (.int .u64 0),.raw (.int .u64 0),.raw (.int .u64 0),.raw (.int .u64 0),.i 0,.i 0,.list 0 [] .full]),(29,(Enc.cellsL ((List.set s1.2.2.2 (Int.toNat ((List.length s1.2.2.2:Int)-1)) x21):List Tr))),(81,(Enc.cells (x1:Sm)))],[],[],0,false⟩) (h:=zhl (α:=Tr) (l:=s1.2.2.2) (i:=((List.length s1.2.2.2:Int)-1)) (k:=0) (te:=29) (n:=8) x21 g69 rfl rfl rfl rfl rfl rfl rfl (by decide) (by decide) (by rw[hx22];rfl)) ?_
 refine zg (o:=or2) ((s1.1*(max (max (Int.tmod ((x1.2.1:Nat):Int) 3) j8) (1:Int))),s1.2.1,(List.set s1.2.2.2 (Int.toNat ((List.length s1.2.2.2:Int)-1)) x21)) h ?_
 exact zdx (bl 204 25710984188215190554449659743906167235408310000698730435567743) 0 [] [0,1] 1 (Nat.le_refl _) rfl (by dsimp only[zac,zag,List.foldl,List.set];exact(zc rfl (zc rfl (zc rfl (zc (zgj (by first|(simp;done)|(simp only[List.length_append,List.length_take];omega)) (by first|(simp;done)|exact zfz hc18) _ _) (zc (zk _ _ _ rfl) (zc (zk _ _ _ rfl) (zc rfl (zak (zak (zak (zak (zak (zak (zc rfl (zc rfl (zc rfl (zc rfl (zc rfl (zc rfl (zc rfl (zc (zk _ _ _ (zcs (Enc.cloL _))) (zc (zk _ _ _ rfl) (zc (zk _ _ _ rfl) (ze (ze (ze (ze (ze (ze (ze (ze (ze (ze (ze (ze (ze (ze (ze (ze (ze (ze (ze (ze (zak (zc rfl (zc rfl (zc rfl (zc rfl (zc rfl (zc rfl (zc rfl (zc rfl (zc rfl (zc rfl (zc rfl (zc rfl (zc rfl (zc rfl (zc rfl (zc rfl (zc rfl (zc rfl (zc rfl (zc rfl zdw))))))))))))))))))))))))))))))))))))))))))))))))))))))))))))))))) (zdp (zal rfl rfl (zal rfl (zam _ _ _ (Enc.cloL _)) zcr)) rfl)
 refine zbt hc28 rfl ?_
 refine zg (o:=or2) (s1.1,s1.2.1,s1.2.2.2) h ?_
 exact zdx (bl 204 25710984188215190554449659743906167235408310000698730435567743) 0 [] [0,1] 1 (Nat.le_refl _) rfl (by dsimp only[zac,zag,List.foldl,List.set];exact(zc rfl (zc rfl (zc rfl (zc (zgj (by first|(simp;done)|(simp only[List.length_append,List.length_take];omega)) (by first|(simp;done)|exact zfz hc18) _ _) (zc (zk _ _ _ rfl) (zc (zk _ _ _ rfl) (zc rfl (zak (zak (zak (zak (zak (zak (zc rfl (zc rfl (zc rfl (zc rfl (zc rfl (zc rfl (zc rfl (zc (zk _ _ _ (zcs (Enc.cloL _))) (zc (zk _ _ _ rfl) (zc (zk _ _ _ rfl) (ze (ze (ze (ze (ze (ze (ze (ze (ze (ze (ze (ze (ze (ze (ze (ze (ze (ze (ze (ze (zak (zc rfl (zc rfl (zc rfl (zc rfl (zc rfl (zc rfl (zc rfl (zc rfl (zc rfl (zc rfl (zc rfl (zc rfl (zc rfl (zc rfl (zc rfl (zc rfl (zc rfl (zc rfl (zc rfl (zc rfl zdw))))))))))))))))))))))))))))))))))))))))))))))))))))))))))))))))) (zdp (zal rfl rfl (zal rfl (zam _ _ _ (Enc.cloL _)) zcr)) rfl)
 refine zbt hc23 rfl ?_
 refine zg (o:=or2) (s1.1,s1.2.1,s1.2.2.2) h ?_
 exact zdx (bl 204 25710984188215190554449659743906167235408310000698730435567743) 0 [] [0,1] 1 (Nat.le_refl _) rfl (by dsimp only[zac,zag,List.foldl,List.set];exact(zc rfl (zc rfl (zc rfl (zc (zgj (by first|(simp;done)|(simp only[List.length_append,List.length_take];omega)) (by first|(simp;done)|exact zfz hc18) _ _) (zc (zk _ _ _ rfl) (zc (zk _ _ _ rfl) (zc rfl (zak (zak (zak (zak (zak (zak (zc rfl (zc rfl (zc rfl (zc rfl (zc rfl (zc rfl (zc rfl (zc (zk _ _ _ (zcs (Enc.cloL _))) (zc (zk _ _ _ rfl) (zc (zk _ _ _ rfl) (ze (ze (ze (ze (ze (ze (ze (ze (ze (ze (ze (ze (ze (ze (ze (ze (ze (ze (ze (ze (zak (zc rfl (zc rfl (zc rfl (zc rfl (zc rfl (zc rfl (zc rfl (zc rfl (zc rfl (zc rfl (zc rfl (zc rfl (zc rfl (zc rfl (zc rfl (zc rfl (zc rfl (zc rfl (zc rfl (zc rfl zdw))))))))))))))))))))))))))))))))))))))))))))))))))))))))))))))))) (zdp (zal rfl rfl (zal rfl (zam _ _ _ (Enc.cloL _)) zcr)) rfl)
 intro j2 h
 refine zah (by dsimp only[zac,zag,List.foldl,List.set]) rfl ?_
 refine zb (k0:=0) (id:=27) ?_
 obtain⟨g70,h⟩:=zi h
 refine w_o (a:= .i (s1.2.2.1+1)) (h:=zbh (zld rfl rfl rfl rfl g70.1 g70.2)) ?_
 refine zab ?_
 refine zas (p:=p1) (j2.1,j2.2.1,(s1.2.2.1+1),j2.2.2) h ?_
 exact zct (bl 204 7340092) (by kernel_rfl) (by kernel_rfl)
 refine zbt hc1 rfl ?_
 refine zw h (fun h=> ?_)
 refine zg (o:=or1) (s1.2.2.2) h ?_
 exact zct (bl 204 12) (by kernel_rfl) (by kernel_rfl)
 intro j1 h
 refine zah (by dsimp only[zac,zag,List.foldl,List.set]) rfl ?_
 refine zau h [185,186,187,188] (fun j10=>[]) (fun j10=>⟨[(29,[.u 0,.raw (.int .u64 0),.raw (.int .u64 0),.raw (.int .u64 0),.raw (.int .u64 0),.i 0,.i 0,.list 0 [] .full]),(29,(Enc.cellsL (j1:List Tr)))],[],[],0,false⟩) ?_ ?_
 intro or10 h hr10
 refine zae h (fun hc29 h=> ?_) (fun hc29 h=> ?_)
 rw[zfv (b:=1) hc29]
 refine zf (zb ?_)
 refine zab ?_
 refine w_o (a:= .i 0) ?_
 refine w_o (a:= .b ((0:Int)==0)) ?_
 refine zae h (fun hc30 h=> ?_) (fun hc30 h=> ?_)
 refine zbw hc30 rfl ?_
 refine zf (zb ?_)
 obtain⟨g71,h⟩:=zi h
 obtain⟨x23,hx23,h⟩:=zo h
 refine zbr (args':=[.s ([97]:List UInt8)]) (r:= .agg (Enc.cells (x23:Tr))) (by rw[←hx23];exact(zvl ([97]:List UInt8) g71)) rfl rfl (zd rfl rfl) (by kernel_rfl) (by dsimp only[zh,List.set]) ?_
 refine zbz (σ'':=⟨[(29,(Enc.cells (x23:Tr))),(29,(Enc.cellsL (j1:List Tr)))],[],[],0,false⟩) (h:=zaz (n:=8) rfl rfl rfl rfl rfl rfl rfl rfl (by decide)) ?_
 replace h:=zz h hr10
 exact zdi (fun(r:Tr)=>(.agg (Enc.cells (r:Tr)):AV)) h (a:= .agg (Enc.cells (x23:Tr))) rfl (zn _ _ (zl (Enc.clo _))) (zaj (zl (Enc.clo _)))
 refine zbt hc30 rfl ?_
 refine zg (o:=or10) () h ?_
 exact zct (bl 204 25710273110284228782019381470885569491947110905746037235777535) (by kernel_rfl) (by kernel_rfl)
 rw[zgq (b:=1) hc29]
 refine zf (zb ?_)
 refine zab ?_
 refine w_o (a:= .i (((List.length j1):Nat):Int)) ?_
 refine w_o (a:= .b ((((List.length j1):Nat):Int)==0)) ?_
 refine zae h (fun hc31 h=> ?_) (fun hc31 h=> ?_)
 refine zbw hc31 rfl ?_
 refine zf (zb ?_)
 obtain⟨g72,h⟩:=zi h
 obtain⟨x24,hx24,h⟩:=zo h
 refine zbr (args':=[.s ([97]:List UInt8)]) (r:= .agg (Enc.cells (x24:Tr))) (by rw[←hx24];exact(zvl ([97]:List UInt8) g72)) rfl rfl (zd rfl rfl) (by kernel_rfl) (by dsimp only[zh,List.set]) ?_
 refine zbz (σ'':=⟨[(29,(Enc.cells (x24:Tr))),(29,(Enc.cellsL (j1:List Tr)))],[],[],0,false⟩) (h:=zaz (n:=8) rfl rfl rfl rfl rfl rfl rfl rfl (by decide)) ?_
 replace h:=zz h hr10
 exact zdi (fun(r:Tr)=>(.agg (Enc.cells (r:Tr)):AV)) h (a:= .agg (Enc.cells (x24:Tr))) rfl (zn _ _ (zl (Enc.clo _))) (zaj (zl (Enc.clo _)))
 refine zbt hc31 rfl ?_
 refine zg (o:=or10) () h ?_
 exact zct (bl 204 25710273110284228782019381470885569491947110905746037235777535) (by kernel_rfl) (by kernel_rfl)
 intro j10 h
 refine zah (by dsimp only[zac,zag,List.foldl,List.set]) rfl ?_
 refine zae h (fun hc32 h=> ?_) (fun hc32 h=> ?_)
 rw[zfv (b:=1) hc32]
 refine zf (zb ?_)
 refine zab ?_
 cases h
 rw[zgq (b:=1) hc32]
 refine zf (zb ?_)
 refine zab ?_
 obtain⟨g73,h⟩:=zi h
 refine w_o (a:= .ptr 1 (0+Int.toNat (0:Int)*8)) (h:=zbh (zex (α:=Tr) g73 rfl rfl rfl rfl rfl)) ?_
 obtain⟨g74,h⟩:=zi h
 obtain⟨x25,hx25,h⟩:=zo h
 refine w_o (a:= .agg (Enc.cells (x25:Tr))) (h:=zbh (by rw[←hx25];exact(zef (α:=Tr) (l:=j1) (i:=(0:Int)) (k:=0) (te:=29) g74 rfl rfl rfl rfl))) ?_
 refine zbz (a:= .ptr 2 0) (σ'':=⟨[(29,[.u 0,.raw (.int .u64 0),.raw (.int .u64 0),.raw (.int .u64 0),.raw (.int .u64 0),.i 0,.i 0,.list 0 [] .full]),(29,(Enc.cellsL (j1:List Tr))),(29,[.u 0,.raw (.int .u64 0),.raw (.int .u64 0),.raw (.int .u64 0),.raw (.int .u64 0),.i 0,.i 0,.list 0 [] .full])],[],[],0,false⟩) ?_
 refine zbz (σ'':=⟨[(29,[.u 0,.raw (.int .u64 0),.raw (.int .u64 0),.raw (.int .u64 0),.raw (.int .u64 0),.i 0,.i 0,.list 0 [] .full]),(29,(Enc.cellsL (j1:List Tr))),(29,(Enc.cells (x25:Tr)))],[],[],0,false⟩) (h:=zaz (n:=8) rfl rfl rfl rfl rfl rfl rfl rfl (by decide)) ?_
 refine zau h [3,15,189,190,191,192,193,194,195,196,197,198,199,200,201,202] (fun j11=>[]) (fun j11=>⟨[(29,[.u 0,.raw (.int .u64 0),.raw (.int .u64 0),.raw (.int .u64 0),.raw (.int .u64 0),.i 0,.i 0,.list 0 [] .full]),(29,(Enc.cellsL (j1:List Tr))),(29,(Enc.cells (j11:Tr)))],[],[],0,false⟩) ?_ ?_
 intro or11 h hr11
 refine zf (zb ?_)
 refine zab ?_
 refine zae h (fun hc33 h=> ?_) (fun hc33 h=> ?_)
 obtain⟨g75,h⟩:=zi h
 refine w_o (a:= .list 0 [] .none) (h:=zbh (q_bslLz (α:=Tr) ⟨g75,eq_of_beq hc33⟩ rfl rfl rfl rfl rfl)) ?_
 refine w_o (a:= .i 0) ?_
 refine w_o (a:= .i 0) ?_
 refine zp ?_
 refine zbx h [3,15,189,190,191,192,195,196,197,198,199,200,201,202] (fun s2=>[(195,.i s2)]) (fun s2=>⟨[(29,[.u 0,.raw (.int .u64 0),.raw (.int .u64 0),.raw (.int .u64 0),.raw (.int .u64 0),.i 0,.i 0,.list 0 [] .full]),(29,(Enc.cellsL (j1:List Tr))),(29,(Enc.cells (x25:Tr)))],[],[],0,false⟩) ?_ ?_
 exact zct (bl 204 12944168416084259070124877264332109108305069720915397169872887) (by kernel_rfl) (by kernel_rfl)
 intro s2 p2 h
 refine zah (by dsimp only[zac,zag,List.foldl,List.set]) rfl ?_
 refine zf (zb ?_)
 refine w_o (a:= .b (decide (s2<0))) ?_
 refine zf ?_
 refine zae h (fun hc34 h=> ?_) (fun hc34 h=> ?_)
 refine zbw hc34 rfl ?_
 refine zf ?_
 refine zp ?_
 refine zf (zb ?_)
 cases h
 refine zbt hc34 rfl ?_
 refine zw h (fun h=> ?_)
 refine zg (o:=or11) (x25) h ?_
 exact zct (bl 204 12856288991788845539431176212407201778479636744692900686692343) (by kernel_rfl) (by kernel_rfl)
 obtain⟨g76,h⟩:=zi h
 refine w_o (a:= .bsl 1 (Int.toNat 1*8) ((List.length j1)-Int.toNat 1) 8 false) (h:=zbh (qep (α:=Tr) g76 rfl rfl rfl rfl rfl)) ?_
 refine w_o (a:= .i ((((List.length j1)-Int.toNat 1):Nat):Int)) ?_
 refine w_o (a:= .i 0) ?_
 refine zp ?_
 refine zbx h [3,15,189,190,191,192,195,196,197,198,199,200,201,202] (fun s3=>[(195,.i s3.1)]) (fun s3=>⟨[(29,[.u 0,.raw (.int .u64 0),.raw (.int .u64 0),.raw (.int .u64 0),.raw (.int .u64 0),.i 0,.i 0,.list 0 [] .full]),(29,(Enc.cellsL (j1:List Tr))),(29,(Enc.cells (s3.2:Tr)))],[],[],0,false⟩) ?_ ?_
 exact zct (bl 204 12944168416084259070124877264332109108305069720915397169872887) (by kernel_rfl) (by kernel_rfl)
 intro s3 p3 h
 refine zah (by dsimp only[zac,zag,List.foldl,List.set]) rfl ?_
 refine zf (zb ?_)
 refine w_o (a:= .b (decide (s3.1<((((List.length j1)-Int.toNat 1):Nat):Int)))) ?_
 refine zf ?_
 refine zae h (fun hc35 h=> ?_) (fun hc35 h=> ?_)
 refine zbw hc35 rfl ?_
 refine zf ?_
 refine zp ?_
 refine zf (zb ?_)
 obtain⟨g77,h⟩:=zi h
 refine w_o (a:= .ptr 1 (0+Int.toNat (((Int.toNat 1:Nat):Int)+s3.1)*8)) (h:=zbh (zyd (α:=Tr) g77 rfl rfl rfl rfl rfl)) ?_
 obtain⟨g78,h⟩:=zi h
 obtain⟨x26,hx26,h⟩:=zo h
 refine w_o (a:= .agg (Enc.cells (x26:Tr))) (h:=zbh (by rw[←hx26];exact(zef (α:=Tr) (l:=j1) (i:=(((Int.toNat 1:Nat):Int)+s3.1)) (k:=0) (te:=29) g78 rfl rfl rfl rfl))) ?_
 refine zbz (a:= .ptr 3 0) (σ'':=⟨[(29,[.u 0,.raw (.int .u64 0),.raw (.int .u64 0),.raw (.int .u64 0),.raw (.int .u64 0),.i 0,.i 0,.list 0 [] .full]),(29,(Enc.cellsL (j1:List Tr))),(29,(Enc.cells (s3.2:Tr))),(29,[.u 0,.raw (.int .u64 0),.raw (.int .u64 0),.raw (.int .u64 0),.raw (.int .u64 0),.i 0,.i 0,.list 0 [] .full])],[],[],0,false⟩) ?_
 refine zbz (σ'':=⟨[(29,[.u 0,.raw (.int .u64 0),.raw (.int .u64 0),.raw (.int .u64 0),.raw (.int .u64 0),.i 0,.i 0,.list 0 [] .full]),(29,(Enc.cellsL (j1:List Tr))),(29,(Enc.cells (s3.2:Tr))),(29,(Enc.cells (x26:Tr)))],[],[],0,false⟩) (h:=zaz (n:=8) rfl rfl rfl rfl rfl rfl rfl rfl (by decide)) ?_
 refine zb (k0:=0) (id:=34) ?_
 refine w_o (a:= .agg (Enc.cells (s3.2:Tr))) ?_
 refine w_o (a:= .agg (Enc.cells (x26:Tr))) ?_
 obtain⟨x27,hx27,h⟩:=zu h
 refine zbr (args':=[.u 4,.agg (Enc.cells (s3.2:Tr)),.agg (Enc.cells (x26:Tr))]) (r:= .agg (Enc.cells (x27:Tr))) (znq fuel 4 s3.2 x26 x27 hx27) rfl rfl (zd rfl (zd (zaj (zl (Enc.clo _))) (zd (zaj (zl (Enc.clo _))) rfl))) (za rfl (za (zn _ _ (zl (Enc.clo _))) (za (zn _ _ (zl (Enc.clo _))) rfl))) (by dsimp only[zh,List.set]) ?_
 refine zbz (σ'':=⟨[(29,[.u 0,.raw (.int .u64 0),.raw (.int .u64 0),.raw (.int .u64 0),.raw (.int .u64 0),.i 0,.i 0,.list 0 [] .full]),(29,(Enc.cellsL (j1:List Tr))),(29,(Enc.cells (x27:Tr))),(29,(Enc.cells (x26:Tr)))],[],[],0,false⟩) (h:=zaz (n:=8) rfl rfl rfl rfl rfl rfl rfl rfl (by decide)) ?_
 refine zb (k0:=0) (id:=35) ?_
 obtain⟨g79,h⟩:=zi h
 refine w_o (a:= .i (s3.1+1)) (h:=zbh (zld rfl rfl rfl rfl g79.1 g79.2)) ?_
 refine zab ?_
 refine zas (p:=p3) ((s3.1+1),x27) h ?_
 exact zdd (bl 204 12944168416084259070124877264332109108305069720915397169872887) 3 (by kernel_rfl) (Nat.le_of_ble_eq_true rfl) (zbi (zt rfl (zt (zm _ _ (Enc.cloL _)) (zt (zm _ _ (Enc.clo _)) rfl)))) (by dsimp only[zac,zag,List.foldl,List.set];exact(za rfl (za rfl (za (by decide) (za rfl (za rfl (za rfl (za rfl (za rfl (za rfl (za rfl (za rfl (za rfl (za rfl (za (by decide) (by kernel_rfl)))))))))))))))) (by kernel_rfl)
 refine zbt hc35 rfl ?_
 refine zw h (fun h=> ?_)
 refine zg (o:=or11) (s3.2) h ?_
 exact zct (bl 204 12856288991788845539431176212407201778479636744692900686692343) (by kernel_rfl) (by kernel_rfl)
 intro j11 h
 refine zah (by dsimp only[zac,zag,List.foldl,List.set]) rfl ?_
 refine zf (zb ?_)
 refine w_o (a:= .agg (Enc.cells (j11:Tr))) ?_
 refine zbz (σ'':=⟨[(29,(Enc.cells (j11:Tr))),(29,(Enc.cellsL (j1:List Tr))),(29,(Enc.cells (j11:Tr)))],[],[],0,false⟩) (h:=zaz (n:=8) rfl rfl rfl rfl rfl rfl rfl rfl (by decide)) ?_
 exact zdi (fun(r:Tr)=>(.agg (Enc.cells (r:Tr)):AV)) h (a:= .agg (Enc.cells (j11:Tr))) rfl (zn _ _ (zl (Enc.clo _))) (zaj (zl (Enc.clo _)))
end Go.Ab
