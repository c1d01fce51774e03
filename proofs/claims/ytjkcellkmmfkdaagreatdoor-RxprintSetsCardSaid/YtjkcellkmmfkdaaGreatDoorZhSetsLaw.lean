import Derived.Test.YtjkcellkmmfkdaaGreatDoorZhAx
import Derived.Deep.Slices
import Derived.Deep.Fields
import Derived.ChangeSame
import Derived.Test.YtjkcellkmmfkdaaGreatDoorRows
import Derived.Deep.DeepHandedRow
import Derived.Deep.DeepWitnessRowRef
import Derived.ProofKit
import Derived.SizedLaws
import Derived.Laws.IdiomArrays
import Derived.HandedShaped
import Derived.Shelf.Vars
import Derived.Stop.LaidErr
import Derived.ChangeMaps
import Derived.Test.YtjkcellkmmfkdaaGreatDoorCards
import Derived.Test.YtjkcellkmmfkdaaGreatDoorTie
import Derived.SevenTiedAt
set_option linter.all false
set_option maxRecDepth 100000
set_option maxHeartbeats 4000000
open Sum (inl)
open Nat (le_of_ble_eq_true)
open List (length foldl mem_cons)
open Go.Proofs.Tryz (prog)
namespace Go.Ab
open Go Go.RowKit Go.Fwd Go.Proofs
section
variable {H:Bool} {P:Program} {Ω:CallP} {Ψ:CallS}
def preW (run:Run)(n:Nat)(ms:List Bool)(c:Code)(S:List AV)(U:St):Option (List AV×St):=match qat run n c S U with
 |some (S1,U1)=>some (fgM ms S1,U1)
 |none=>none
theorem w_preW (hG:Good P Ω Ψ) {k k0:Nat} {Q:AQ} {S S':List AV} {U U':St} {ms:List Bool} (n:Nat)(c:Code)(h:preW (evQ H P Ω Ψ k) (n+1) ms c S U=some (S',U'))(hk:awp (ITP P) P none k0 (sufC (n+1) c) Q S' U'):awp (ITP P) P none k0 c Q S U:=by
 unfold preW at h;split at h
 ·rename_i S1 U1 h1;cases h;exact w_pre hG n c S U _ _ h1 (zhm ms rfl rfl) hk
 ·cases h
end
def awM0:List Bool:=[true,true,true,true,true,false,false,false,false,false,false,false,false,false,false,false,false,false,false,false,false,false,false,false,false,false,false,false,false,false,false,false,false,false,false,false,false,false,false,false,false,false,false,false,false,false,false,false,false,false,false,false,false,false,false,false,false,false,false,false,false,false,false,false,false,false,false,false,false,false,false,false,false,false,false,false,false,false,false,false,false,false,false,false,false,false,false,false,false,false,false,false,false,false,false,false,false,false,false,false,false,false,false,false,false,false,false,false,false,false,false,false,false,false,false,false,false,false,false,false,false,false,false]
theorem ent19:Ent prog 19:=enters_of Tryz.func19 (by kernel_rfl) rfl
theorem z6r:Pure (ITP prog) prog 19 [] (.raw (.bool true)):=by
 obtain⟨d,hd⟩: ∃d,Tryz.f19.body=some d:=⟨_,rfl⟩;refine zfh mix Tryz.func19 hd ent19 ?_;cases hd;refine w_preW (H:=true) (S':=awS) (U':=awσ) (ms:=awM0) (k:=300) good0 1 _ (by kernel_rfl) ?_;show awp (ITP prog) prog none 0 (.seq _ _) _ _ _;refine qdy awS awσ (z0u mix aM (sg:=sgL awσ []) (SL:=aSL) (E:=aE) (it:=46) (d69:=47) (d70:=48) (d71:=49) (ri:=28) aMs (fun hF=>a_map rfl hF) (by kernel_rfl) (by kernel_rfl) (by kernel_rfl) (by kernel_rfl) (by kernel_rfl) rfl (fun r=>by kernel_rfl) ⟨rfl,rfl,rfl⟩ ⟨rfl,rfl,rfl⟩ ⟨rfl,rfl,rfl⟩ rfl (fun r=>by kernel_rfl) (fun r=>by kernel_rfl) ⟨by decide,by decide,by decide,by decide,le_of_ble_eq_true rfl,le_of_ble_eq_true rfl,le_of_ble_eq_true rfl,le_of_ble_eq_true rfl⟩ (fun r=>by kernel_rfl) (fun r=>by kernel_rfl) (by kernel_rfl) (by
  intro r q hq;simp only[aM,mem_cons,List.not_mem_nil,or_false] at hq;rcases hq with rfl|rfl|rfl|rfl<;>exact z4g (H:=true) (k:=300) (ms:=aM2) (zqk z8t) (by kernel_rfl)) (fun r=>(show fgM aM3 (aSL r)=awS by kernel_rfl)▸zlz aM3 (aSL r))) ?_
 show awp (ITP prog) prog none 0 (.seq _ _) _ _ _;refine qdy awS awσ (z0u mix bM (sg:=sgL awσ []) (SL:=bSL) (E:=bE) (it:=77) (d69:=78) (d70:=79) (d71:=80) (ri:=21) bMs (fun hF=>b_map rfl hF) (by kernel_rfl) (by kernel_rfl) (by kernel_rfl) (by kernel_rfl) (by kernel_rfl) rfl (fun r=>by kernel_rfl) ⟨rfl,rfl,rfl⟩ ⟨rfl,rfl,rfl⟩ ⟨rfl,rfl,rfl⟩ rfl (fun r=>by kernel_rfl) (fun r=>by kernel_rfl) ⟨by decide,by decide,by decide,by decide,le_of_ble_eq_true rfl,le_of_ble_eq_true rfl,le_of_ble_eq_true rfl,le_of_ble_eq_true rfl⟩ (fun r=>by kernel_rfl) (fun r=>by kernel_rfl) (by kernel_rfl) (by
  intro r q hq;simp only[bM,mem_cons,List.not_mem_nil,or_false] at hq;rcases hq with rfl|rfl|rfl|rfl|rfl|rfl|rfl|rfl<;>exact z4g (H:=true) (k:=300) (ms:=bM2) (zqk tblB_ok) (by kernel_rfl)) (fun r=>(show fgM bM3 (bSL r)=awS by kernel_rfl)▸zlz bM3 (bSL r))) ?_
 exact w_tail (H:=true) (k:=300) (zqk tblC_ok) (by kernel_rfl)
def z6d (fuel:Nat)(a:BS)(b:BS):Option Bool:=
 (zdg (τ:=Bool) (bif (decide (a=(0#256))) then(some (inl (true))) else(some (inl ((decide (b=(0#256))))))) (fun j1=>(bif j1 then(zaa (zss fuel (0#256)) (fun x1=>(some (x1.2==100)))) else(zaa (zss fuel a) (fun x2=>(zaa (zss fuel b) (fun x3=>(zaa (zxe 1100 60 x2.1) (fun x4=>(zdg (τ:=Bool) (chk (-9223372036854775808<=(x2.2+x3.2)/\ (x2.2+x3.2)<9223372036854775808) (chk (-9223372036854775808<=((x2.2+x3.2)+x4.2.2)/\ ((x2.2+x3.2)+x4.2.2)<9223372036854775808) (bif (((x2.2+x3.2)+x4.2.2) !=0) then(some (inl (true))) else(bif (!((x2.1==x3.1)==(decide (a=b)))) then(some (inl (true))) else(bif (x4.2.1 !=(length x2.1:Int)) then(some (inl (true))) else(bif (((x4.1.t.k:Nat):Int) !=2) then(some (inl (true))) else(bif (decide (x4.1.t.s≠a)) then(some (inl (true))) else(some (inl ((decide ((length x2.1:Int)>515)))))))))))) (fun j2=>(bif j2 then(some false) else(zbl (Lib.hasPrefix x2.1 ([91]:List UInt8)) (fun x5=>(bif x5 then(chk (length x2.1+length ([97]:List UInt8)<=9223372036854775807) (zaa (zci fuel (x2.1++([97]:List UInt8))) (fun x6=>(bif (x6.2.2==0) then(bif (decide (x6.1=a)) then(some (x6.2.1==(length x2.1:Int))) else(some false)) else(some false))))) else(some true))))))))))))))))
theorem ent8:Ent prog 8:=enters_of Tryz.func8 (by kernel_rfl) rfl
theorem rxps_sh (fuel:Nat)(a:BS)(b:BS)(r:Bool)(h:z6d fuel a b=some r):Pure (ITP prog) prog 8 [.agg (Enc.cells (a:BS)),.agg (Enc.cells (b:BS))] (.raw (.bool r)):=by
 obtain⟨d,hd⟩: ∃d,Tryz.f8.body=some d:=⟨_,rfl⟩;refine zfh mix Tryz.func8 hd ent8 ?_;cases hd;unfold z6d at h;refine zav (by dsimp only[zad,Tryz.f8,List.length_cons,List.length_nil,Nat.zero_add,Nat.reduceAdd,Nat.reduceSub,List.replicate,List.cons_append,List.nil_append]) (by dsimp only[St.empty]) ?_;refine zm (zb ?_);refine zdu (a:= .ptr 0 0) (U'':=⟨[(24,(Enc.cells (a:BS)))],[],[],0,false⟩) rfl rfl rfl rfl (by dsimp only[zi,List.set]) rfl ?_;refine zdu (a:= .ptr 1 0) (U'':=⟨[(24,(Enc.cells (a:BS))),(24,(Enc.cells (b:BS)))],[],[],0,false⟩) rfl rfl rfl rfl (by dsimp only[zi,List.set]) rfl ?_;refine zay (a:= .raw (.bool false)) rfl rfl rfl rfl (by dsimp only[zi,List.set]) ?_;refine zm ?_;refine zm (zb ?_);refine zbt (args':=[]) (r:= .raw (.bool true)) z6r rfl rfl rfl rfl (by dsimp only[zi,List.set]) ?_;refine zay (a:= .raw (.bool false)) rfl rfl rfl rfl (by dsimp only[zi,List.set]) ?_;refine zbz rfl ?_;refine zm ?_;refine zaz h [0,1,4,5,6,7,8,9,10,11,12,13,14,15,16,17,18,19,20,21,22,23,24,25,26,27,28,29,30,31,32,33,34,35,36,37,38,39,40,41,42,43,44,45,46,47,48,49,50,51,52,53,54,55,56,57,58,59,60,61,62,63,64,65,66,67,68,69,70,71,72,73,74,75,76,77,78,79,80,81,82,83,84,85,86,87,88,89,90,91,92,93,94,95,96,97,98,99,100,101,102,103,104,105,106,107,108,109,110] (fun j1=>[(26,.raw (.bool j1))]) (fun j1=>⟨[(24,(Enc.cells (a:BS))),(24,(Enc.cells (b:BS)))],[],[],0,false⟩) ?_ ?_
 .
  intro or1 h hr1
  refine zb (k0:=0) (id:=3) ?_
  refine zay (a:= .agg (Enc.cells (a:BS))) rfl rfl rfl rfl (by dsimp only[zi,List.set]) ?_
  refine zay (a:= .agg (Enc.cells (0#256:BS))) rfl rfl rfl rfl (by dsimp only[zi,List.set]) ?_
  refine znl (.raw (.bool (decide (a=(0#256))))) rfl rfl rfl (zfy a (0#256) rfl rfl rfl) (by dsimp only[zi,List.set]) ?_
  refine zah h (fun hc1 h=> ?_) (fun hc1 h=> ?_)
  .
   refine zay (a:= .raw (.bool true)) rfl rfl rfl (zbf (zdf rfl hc1)) (by dsimp only[zi,List.set]) ?_
   iterate 3 refine zag rfl rfl (by decide) (by dsimp only[zi,List.set]) ?_
   refine zay (a:= .raw (.bool true)) rfl rfl rfl rfl (by dsimp only[zi,List.set]) ?_
   refine zc (o:=or1) (true) h ?_
   exact zhm [false,false,true,true,false,false,false,false,false,false,false,false,false,false,false,false,false,false,false,false,false,false,false,false,false,false,true,false,false,false,false,false,false,false,false,false,false,false,false,false,false,false,false,false,false,false,false,false,false,false,false,false,false,false,false,false,false,false,false,false,false,false,false,false,false,false,false,false,false,false,false,false,false,false,false,false,false,false,false,false,false,false,false,false,false,false,false,false,false,false,false,false,false,false,false,false,false,false,false,false,false,false,false,false,false,false,false,false,false,false,false] (by kernel_rfl) (by kernel_rfl)
  .
   refine zay (a:= .raw (.bool false)) rfl rfl rfl (zbf (zdf rfl hc1)) (by dsimp only[zi,List.set]) ?_
   refine zaq rfl rfl ?_
   refine zay (a:= .agg (Enc.cells (b:BS))) rfl rfl rfl rfl (by dsimp only[zi,List.set]) ?_
   refine zaq rfl rfl ?_
   refine zay (a:= .agg (Enc.cells (0#256:BS))) rfl rfl rfl rfl (by dsimp only[zi,List.set]) ?_
   refine zaq rfl rfl ?_
   refine znl (.raw (.bool (decide (b=(0#256))))) rfl rfl rfl (zfy b (0#256) rfl rfl rfl) (by dsimp only[zi,List.set]) ?_
   refine zay (a:= .raw (.bool (decide (b=(0#256))))) rfl rfl rfl rfl (by dsimp only[zi,List.set]) ?_
   refine zc (o:=or1) ((decide (b=(0#256)))) h ?_
   exact zhm [false,false,true,true,false,false,false,false,false,false,false,false,false,false,false,false,false,false,false,false,false,false,false,false,false,false,true,false,false,false,false,false,false,false,false,false,false,false,false,false,false,false,false,false,false,false,false,false,false,false,false,false,false,false,false,false,false,false,false,false,false,false,false,false,false,false,false,false,false,false,false,false,false,false,false,false,false,false,false,false,false,false,false,false,false,false,false,false,false,false,false,false,false,false,false,false,false,false,false,false,false,false,false,false,false,false,false,false,false,false,false] (by kernel_rfl) (by kernel_rfl)
 .
  intro j1 h
  refine zav (by dsimp only[zbg,zcl,foldl,List.set]) rfl ?_
  refine zah h (fun hc2 h=> ?_) (fun hc2 h=> ?_)
  .
   refine zet hc2 rfl ?_
   refine zm (zb ?_)
   refine zay (a:= .agg (Enc.cells (0#256:BS))) rfl rfl rfl rfl (by dsimp only[zi,List.set]) ?_
   obtain⟨x1,hx1,h⟩:=zr h
   refine zbt (args':=[.agg (Enc.cells (0#256:BS))]) (r:= .tup [.raw (.string (bs x1.1)),.raw (.int .i64 x1.2)]) (zwb fuel (0#256) x1 hx1) rfl rfl (zg (zbd (zp (Enc.clo _))) rfl) (za (zy _ _ (zp (Enc.clo _))) rfl) (by dsimp only[zi,List.set]) ?_
   refine zz ?_
   iterate 2 refine z5x ?_
   iterate 2 refine zz ?_
   refine zm (zb ?_)
   refine zz ?_
   refine zay (a:= .raw (.bool (x1.2==100))) rfl rfl rfl rfl (by dsimp only[zi,List.set]) ?_
   refine zz ?_
   exact zbh h
  .
   refine zev hc2 rfl ?_
   refine zm (zb ?_)
   refine zay (a:= .agg (Enc.cells (a:BS))) rfl rfl rfl rfl (by dsimp only[zi,List.set]) ?_
   obtain⟨x2,hx2,h⟩:=zr h
   refine zbt (args':=[.agg (Enc.cells (a:BS))]) (r:= .tup [.raw (.string (bs x2.1)),.raw (.int .i64 x2.2)]) (zwb fuel a x2 hx2) rfl rfl (zg (zbd (zp (Enc.clo _))) rfl) (za (zy _ _ (zp (Enc.clo _))) rfl) (by dsimp only[zi,List.set]) ?_
   refine zz ?_
   iterate 2 refine z5x ?_
   iterate 2 refine zz ?_
   refine zm (zb ?_)
   refine zay (a:= .agg (Enc.cells (b:BS))) rfl rfl rfl rfl (by dsimp only[zi,List.set]) ?_
   obtain⟨x3,hx3,h⟩:=zr h
   refine zbt (args':=[.agg (Enc.cells (b:BS))]) (r:= .tup [.raw (.string (bs x3.1)),.raw (.int .i64 x3.2)]) (zwb fuel b x3 hx3) rfl rfl (zg (zbd (zp (Enc.clo _))) rfl) (za (zy _ _ (zp (Enc.clo _))) rfl) (by dsimp only[zi,List.set]) ?_
   refine zz ?_
   iterate 2 refine z5x ?_
   iterate 2 refine zz ?_
   refine zm (zb ?_)
   refine zz ?_
   obtain⟨x4,hx4,h⟩:=zr h
   refine zbt (args':=[.raw (.string (bs x2.1))]) (r:= .tup [.agg (Enc.cells (x4.1:Rg)),.raw (.int .i64 x4.2.1),.raw (.int .i64 x4.2.2)]) (qin 1100 60 x2.1 x4 hx4) rfl rfl (zg rfl rfl) (za rfl rfl) (by dsimp only[zi,List.set]) ?_
   refine zz ?_
   iterate 3 refine z5x ?_
   refine zdu (a:= .ptr 2 0) (U'':=⟨[(24,(Enc.cells (a:BS))),(24,(Enc.cells (b:BS))),(47,[.raw (.bool false),.raw (.bool false),.raw (.int .u8 0),.raw (.int .u64 0),.raw (.int .u64 0),.raw (.int .u64 0),.raw (.int .u64 0),.raw (.int .i64 0),.raw (.int .i64 0),.list 0 [] .full])],[],[],0,false⟩) rfl rfl rfl rfl (by dsimp only[zi,List.set]) rfl ?_
   refine zdu (U'':=⟨[(24,(Enc.cells (a:BS))),(24,(Enc.cells (b:BS))),(47,(Enc.cells (x4.1:Rg)))],[],[],0,false⟩) rfl rfl rfl (zcd (n:=10) rfl rfl rfl rfl rfl rfl rfl rfl (by decide)) (by dsimp only[zi,List.set]) rfl ?_
   iterate 2 refine zz ?_
   refine zm ?_
   refine zaz h [3,8,9,10,11,12,13,26,34,35,36,37,38,39,40,41,42,43,44,45,46,47,48,49,50,51,52,53,54,55,56,57,58,59,60,61,62,63,64,65,66,67,68,69,70,71,72,73,74,75,76,77,78,79,80,81,82,83,84,85,86,87,88] (fun j2=>[(88,.raw (.bool j2))]) (fun j2=>⟨[(24,(Enc.cells (a:BS))),(24,(Enc.cells (b:BS))),(47,(Enc.cells (x4.1:Rg)))],[],[],0,false⟩) ?_ ?_
   .
    intro or2 h hr2
    refine zb (k0:=0) (id:=9) ?_
    iterate 2 refine zz ?_
    obtain⟨g1,h⟩:=zt h
    refine zay (a:= .raw (.int .i64 (x2.2+x3.2))) rfl rfl rfl (zbf (z2r rfl rfl rfl rfl g1.1 g1.2)) (by dsimp only[zi,List.set]) ?_
    refine zz ?_
    obtain⟨g2,h⟩:=zt h
    refine zay (a:= .raw (.int .i64 ((x2.2+x3.2)+x4.2.2))) rfl rfl rfl (zbf (z2r rfl rfl rfl rfl g2.1 g2.2)) (by dsimp only[zi,List.set]) ?_
    refine zay (a:= .raw (.bool (((x2.2+x3.2)+x4.2.2) !=0))) rfl rfl rfl rfl (by dsimp only[zi,List.set]) ?_
    refine zah h (fun hc3 h=> ?_) (fun hc3 h=> ?_)
    .
     refine zay (a:= .raw (.bool true)) rfl rfl rfl (zbf (zdf rfl hc3)) (by dsimp only[zi,List.set]) ?_
     iterate 7 refine zag rfl rfl (by decide) (by dsimp only[zi,List.set]) ?_
     refine zay (a:= .raw (.bool true)) rfl rfl rfl rfl (by dsimp only[zi,List.set]) ?_
     refine zz ?_
     iterate 4 refine zag rfl rfl (by decide) (by dsimp only[zi,List.set]) ?_
     refine zay (a:= .raw (.bool true)) rfl rfl rfl rfl (by dsimp only[zi,List.set]) ?_
     refine zz ?_
     iterate 4 refine zag rfl rfl (by decide) (by dsimp only[zi,List.set]) ?_
     refine zay (a:= .raw (.bool true)) rfl rfl rfl rfl (by dsimp only[zi,List.set]) ?_
     refine zz ?_
     iterate 5 refine zag rfl rfl (by decide) (by dsimp only[zi,List.set]) ?_
     refine zay (a:= .raw (.bool true)) rfl rfl rfl rfl (by dsimp only[zi,List.set]) ?_
     refine zz ?_
     iterate 3 refine zag rfl rfl (by decide) (by dsimp only[zi,List.set]) ?_
     refine zay (a:= .raw (.bool true)) rfl rfl rfl rfl (by dsimp only[zi,List.set]) ?_
     refine zc (o:=or2) (true) h ?_
     exact zhm [true,true,true,false,true,true,true,true,false,false,false,false,false,false,true,true,true,true,true,true,true,true,true,true,true,true,false,true,true,true,true,true,true,true,false,false,false,false,false,false,false,false,false,false,false,false,false,false,false,false,false,false,false,false,false,false,false,false,false,false,false,false,false,false,false,false,false,false,false,false,false,false,false,false,false,false,false,false,false,false,false,false,false,false,false,false,false,false,true,true,true,true,true,true,true,true,true,true,true,true,true,true,true,true,true,true,true,true,true,true,true] (by kernel_rfl) (by kernel_rfl)
    .
     refine zay (a:= .raw (.bool false)) rfl rfl rfl (zbf (zdf rfl hc3)) (by dsimp only[zi,List.set]) ?_
     refine zaq rfl rfl ?_
     refine zz ?_
     refine zaq rfl rfl ?_
     refine zz ?_
     refine zaq rfl rfl ?_
     refine zay (a:= .raw (.bool (x2.1==x3.1))) rfl rfl rfl (zbf (z3e rfl rfl rfl)) (by dsimp only[zi,List.set]) ?_
     refine zaq rfl rfl ?_
     refine zay (a:= .agg (Enc.cells (a:BS))) rfl rfl rfl rfl (by dsimp only[zi,List.set]) ?_
     refine zaq rfl rfl ?_
     refine zay (a:= .agg (Enc.cells (b:BS))) rfl rfl rfl rfl (by dsimp only[zi,List.set]) ?_
     refine zaq rfl rfl ?_
     refine znl (.raw (.bool (decide (a=b)))) rfl rfl rfl (zfy a b rfl rfl rfl) (by dsimp only[zi,List.set]) ?_
     refine zaq rfl rfl ?_
     refine zay (a:= .raw (.bool (!((x2.1==x3.1)==(decide (a=b)))))) rfl rfl rfl (zbf (by kernel_rfl)) (by dsimp only[zi,List.set]) ?_
     refine zay (a:= .raw (.bool (!((x2.1==x3.1)==(decide (a=b)))))) rfl rfl rfl rfl (by dsimp only[zi,List.set]) ?_
     refine zah h (fun hc4 h=> ?_) (fun hc4 h=> ?_)
     .
      refine zay (a:= .raw (.bool true)) rfl rfl rfl (zbf (zdf rfl hc4)) (by dsimp only[zi,List.set]) ?_
      iterate 4 refine zag rfl rfl (by decide) (by dsimp only[zi,List.set]) ?_
      refine zay (a:= .raw (.bool true)) rfl rfl rfl rfl (by dsimp only[zi,List.set]) ?_
      refine zz ?_
      iterate 4 refine zag rfl rfl (by decide) (by dsimp only[zi,List.set]) ?_
      refine zay (a:= .raw (.bool true)) rfl rfl rfl rfl (by dsimp only[zi,List.set]) ?_
      refine zz ?_
      iterate 5 refine zag rfl rfl (by decide) (by dsimp only[zi,List.set]) ?_
      refine zay (a:= .raw (.bool true)) rfl rfl rfl rfl (by dsimp only[zi,List.set]) ?_
      refine zz ?_
      iterate 3 refine zag rfl rfl (by decide) (by dsimp only[zi,List.set]) ?_
      refine zay (a:= .raw (.bool true)) rfl rfl rfl rfl (by dsimp only[zi,List.set]) ?_
      refine zc (o:=or2) (true) h ?_
      exact zhm [true,true,true,false,true,true,true,true,false,false,false,false,false,false,true,true,true,true,true,true,true,true,true,true,true,true,false,true,true,true,true,true,true,true,false,false,false,false,false,false,false,false,false,false,false,false,false,false,false,false,false,false,false,false,false,false,false,false,false,false,false,false,false,false,false,false,false,false,false,false,false,false,false,false,false,false,false,false,false,false,false,false,false,false,false,false,false,false,true,true,true,true,true,true,true,true,true,true,true,true,true,true,true,true,true,true,true,true,true,true,true] (by kernel_rfl) (by kernel_rfl)
     .
      refine zay (a:= .raw (.bool false)) rfl rfl rfl (zbf (zdf rfl hc4)) (by dsimp only[zi,List.set]) ?_
      refine zaq rfl rfl ?_
      refine zz ?_
      refine zaq rfl rfl ?_
      refine zz ?_
      refine zaq rfl rfl ?_
      refine zay (a:= .raw (.int .i64 (length x2.1:Int))) rfl rfl rfl (zbf (zdw rfl rfl rfl)) (by dsimp only[zi,List.set]) ?_
      refine zaq rfl rfl ?_
      iterate 2 refine zay (a:= .raw (.bool (x4.2.1 !=(length x2.1:Int)))) rfl rfl rfl rfl (by dsimp only[zi,List.set]) ?_
      refine zah h (fun hc5 h=> ?_) (fun hc5 h=> ?_)
      .
       refine zay (a:= .raw (.bool true)) rfl rfl rfl (zbf (zdf rfl hc5)) (by dsimp only[zi,List.set]) ?_
       iterate 4 refine zag rfl rfl (by decide) (by dsimp only[zi,List.set]) ?_
       refine zay (a:= .raw (.bool true)) rfl rfl rfl rfl (by dsimp only[zi,List.set]) ?_
       refine zz ?_
       iterate 5 refine zag rfl rfl (by decide) (by dsimp only[zi,List.set]) ?_
       refine zay (a:= .raw (.bool true)) rfl rfl rfl rfl (by dsimp only[zi,List.set]) ?_
       refine zz ?_
       iterate 3 refine zag rfl rfl (by decide) (by dsimp only[zi,List.set]) ?_
       refine zay (a:= .raw (.bool true)) rfl rfl rfl rfl (by dsimp only[zi,List.set]) ?_
       refine zc (o:=or2) (true) h ?_
       exact zhm [true,true,true,false,true,true,true,true,false,false,false,false,false,false,true,true,true,true,true,true,true,true,true,true,true,true,false,true,true,true,true,true,true,true,false,false,false,false,false,false,false,false,false,false,false,false,false,false,false,false,false,false,false,false,false,false,false,false,false,false,false,false,false,false,false,false,false,false,false,false,false,false,false,false,false,false,false,false,false,false,false,false,false,false,false,false,false,false,true,true,true,true,true,true,true,true,true,true,true,true,true,true,true,true,true,true,true,true,true,true,true] (by kernel_rfl) (by kernel_rfl)
      .
       refine zay (a:= .raw (.bool false)) rfl rfl rfl (zbf (zdf rfl hc5)) (by dsimp only[zi,List.set]) ?_
       refine zaq rfl rfl ?_
       refine zay (a:= .ptr 2 2) rfl rfl rfl rfl (by dsimp only[zi,List.set]) ?_
       refine zaq rfl rfl ?_
       refine zay (a:= .ptr 2 2) rfl rfl rfl rfl (by dsimp only[zi,List.set]) ?_
       refine zaq rfl rfl ?_
       refine zay (a:= .raw (.int .u8 ((x4.1.t.k:Nat):Int))) rfl rfl rfl rfl (by dsimp only[zi,List.set]) ?_
       refine zaq rfl rfl ?_
       iterate 2 refine zay (a:= .raw (.bool (((x4.1.t.k:Nat):Int) !=2))) rfl rfl rfl rfl (by dsimp only[zi,List.set]) ?_
       refine zah h (fun hc6 h=> ?_) (fun hc6 h=> ?_)
       .
        refine zay (a:= .raw (.bool true)) rfl rfl rfl (zbf (zdf rfl hc6)) (by dsimp only[zi,List.set]) ?_
        iterate 5 refine zag rfl rfl (by decide) (by dsimp only[zi,List.set]) ?_
        refine zay (a:= .raw (.bool true)) rfl rfl rfl rfl (by dsimp only[zi,List.set]) ?_
        refine zz ?_
        iterate 3 refine zag rfl rfl (by decide) (by dsimp only[zi,List.set]) ?_
        refine zay (a:= .raw (.bool true)) rfl rfl rfl rfl (by dsimp only[zi,List.set]) ?_
        refine zc (o:=or2) (true) h ?_
        exact zhm [true,true,true,false,true,true,true,true,false,false,false,false,false,false,true,true,true,true,true,true,true,true,true,true,true,true,false,true,true,true,true,true,true,true,false,false,false,false,false,false,false,false,false,false,false,false,false,false,false,false,false,false,false,false,false,false,false,false,false,false,false,false,false,false,false,false,false,false,false,false,false,false,false,false,false,false,false,false,false,false,false,false,false,false,false,false,false,false,true,true,true,true,true,true,true,true,true,true,true,true,true,true,true,true,true,true,true,true,true,true,true] (by kernel_rfl) (by kernel_rfl)
       .
        refine zay (a:= .raw (.bool false)) rfl rfl rfl (zbf (zdf rfl hc6)) (by dsimp only[zi,List.set]) ?_
        refine zaq rfl rfl ?_
        refine zay (a:= .ptr 2 2) rfl rfl rfl rfl (by dsimp only[zi,List.set]) ?_
        refine zaq rfl rfl ?_
        refine zay (a:= .ptr 2 3) rfl rfl rfl rfl (by dsimp only[zi,List.set]) ?_
        refine zaq rfl rfl ?_
        refine zay (a:= .agg (Enc.cells (x4.1.t.s:BS))) rfl rfl rfl rfl (by dsimp only[zi,List.set]) ?_
        refine zaq rfl rfl ?_
        refine zay (a:= .agg (Enc.cells (a:BS))) rfl rfl rfl rfl (by dsimp only[zi,List.set]) ?_
        refine zaq rfl rfl ?_
        refine znl (.raw (.bool (decide (x4.1.t.s≠a)))) rfl rfl rfl (znd x4.1.t.s a rfl rfl rfl) (by dsimp only[zi,List.set]) ?_
        refine zay (a:= .raw (.bool (decide (x4.1.t.s≠a)))) rfl rfl rfl rfl (by dsimp only[zi,List.set]) ?_
        refine zah h (fun hc7 h=> ?_) (fun hc7 h=> ?_)
        .
         refine zay (a:= .raw (.bool true)) rfl rfl rfl (zbf (zdf rfl hc7)) (by dsimp only[zi,List.set]) ?_
         iterate 3 refine zag rfl rfl (by decide) (by dsimp only[zi,List.set]) ?_
         refine zay (a:= .raw (.bool true)) rfl rfl rfl rfl (by dsimp only[zi,List.set]) ?_
         refine zc (o:=or2) (true) h ?_
         exact zhm [true,true,true,false,true,true,true,true,false,false,false,false,false,false,true,true,true,true,true,true,true,true,true,true,true,true,false,true,true,true,true,true,true,true,false,false,false,false,false,false,false,false,false,false,false,false,false,false,false,false,false,false,false,false,false,false,false,false,false,false,false,false,false,false,false,false,false,false,false,false,false,false,false,false,false,false,false,false,false,false,false,false,false,false,false,false,false,false,true,true,true,true,true,true,true,true,true,true,true,true,true,true,true,true,true,true,true,true,true,true,true] (by kernel_rfl) (by kernel_rfl)
        .
         refine zay (a:= .raw (.bool false)) rfl rfl rfl (zbf (zdf rfl hc7)) (by dsimp only[zi,List.set]) ?_
         refine zaq rfl rfl ?_
         refine zz ?_
         refine zaq rfl rfl ?_
         refine zay (a:= .raw (.int .i64 (length x2.1:Int))) rfl rfl rfl (zbf (zdw rfl rfl rfl)) (by dsimp only[zi,List.set]) ?_
         refine zaq rfl rfl ?_
         iterate 2 refine zay (a:= .raw (.bool (decide ((length x2.1:Int)>515)))) rfl rfl rfl rfl (by dsimp only[zi,List.set]) ?_
         refine zc (o:=or2) ((decide ((length x2.1:Int)>515))) h ?_
         exact zhm [true,true,true,false,true,true,true,true,false,false,false,false,false,false,true,true,true,true,true,true,true,true,true,true,true,true,false,true,true,true,true,true,true,true,false,false,false,false,false,false,false,false,false,false,false,false,false,false,false,false,false,false,false,false,false,false,false,false,false,false,false,false,false,false,false,false,false,false,false,false,false,false,false,false,false,false,false,false,false,false,false,false,false,false,false,false,false,false,true,true,true,true,true,true,true,true,true,true,true,true,true,true,true,true,true,true,true,true,true,true,true] (by kernel_rfl) (by kernel_rfl)
   .
    intro j2 h
    refine zav (by dsimp only[zbg,zcl,foldl,List.set]) rfl ?_
    refine zah h (fun hc8 h=> ?_) (fun hc8 h=> ?_)
    .
     refine zet hc8 rfl ?_
     refine zm (zb ?_)
     refine zay (a:= .raw (.bool false)) rfl rfl rfl rfl (by dsimp only[zi,List.set]) ?_
     exact zbh h
    .
     refine zev hc8 rfl ?_
     refine zm ?_
     refine zm (zb ?_)
     refine zz ?_
     obtain⟨x5,hx5,h⟩:=zu h
     refine zbt (args':=[.raw (.string (bs x2.1)),.raw (.string (bs ([91]:List UInt8)))]) (r:= .raw (.bool x5)) (by rw[<-hx5];exact(zmy x2.1 ([91]:List UInt8))) rfl rfl (zg rfl (zg rfl rfl)) (za rfl (za rfl rfl)) (by dsimp only[zi,List.set]) ?_
     refine zah h (fun hc9 h=> ?_) (fun hc9 h=> ?_)
     .
      refine zet hc9 rfl ?_
      refine zm (zb ?_)
      refine zz ?_
      obtain⟨g3,h⟩:=zt h
      refine zay (a:= .raw (.string (bs (x2.1++([97]:List UInt8))))) rfl rfl rfl (zbf (zlk g3 rfl rfl rfl)) (by dsimp only[zi,List.set]) ?_
      obtain⟨x6,hx6,h⟩:=zr h
      refine zbt (args':=[.raw (.string (bs (x2.1++([97]:List UInt8))))]) (r:= .tup [.agg (Enc.cells (x6.1:BS)),.raw (.int .i64 x6.2.1),.raw (.int .i64 x6.2.2)]) (ztu fuel (x2.1++([97]:List UInt8)) x6 hx6) rfl rfl (zg rfl rfl) (za rfl rfl) (by dsimp only[zi,List.set]) ?_
      refine zz ?_
      iterate 3 refine z5x ?_
      refine zdu (a:= .ptr 3 0) (U'':=⟨[(24,(Enc.cells (a:BS))),(24,(Enc.cells (b:BS))),(47,(Enc.cells (x4.1:Rg))),(24,(Enc.cells (0#256:BS)))],[],[],0,false⟩) rfl rfl rfl rfl (by dsimp only[zi,List.set]) rfl ?_
      refine zdu (U'':=⟨[(24,(Enc.cells (a:BS))),(24,(Enc.cells (b:BS))),(47,(Enc.cells (x4.1:Rg))),(24,(Enc.cells (x6.1:BS)))],[],[],0,false⟩) rfl rfl rfl (zcd (n:=4) rfl rfl rfl rfl rfl rfl rfl rfl (by decide)) (by dsimp only[zi,List.set]) rfl ?_
      iterate 2 refine zz ?_
      refine zm (zb ?_)
      refine zz ?_
      refine zay (a:= .raw (.bool (x6.2.2==0))) rfl rfl rfl rfl (by dsimp only[zi,List.set]) ?_
      refine zah h (fun hc10 h=> ?_) (fun hc10 h=> ?_)
      .
       refine zay (a:= .raw (.bool true)) rfl rfl rfl (zbf (zdf rfl hc10)) (by dsimp only[zi,List.set]) ?_
       refine zaq rfl rfl ?_
       refine zay (a:= .agg (Enc.cells (x6.1:BS))) rfl rfl rfl rfl (by dsimp only[zi,List.set]) ?_
       refine zaq rfl rfl ?_
       refine zay (a:= .agg (Enc.cells (a:BS))) rfl rfl rfl rfl (by dsimp only[zi,List.set]) ?_
       refine zaq rfl rfl ?_
       refine znl (.raw (.bool (decide (x6.1=a)))) rfl rfl rfl (zfy x6.1 a rfl rfl rfl) (by dsimp only[zi,List.set]) ?_
       refine zay (a:= .raw (.bool (decide (x6.1=a)))) rfl rfl rfl rfl (by dsimp only[zi,List.set]) ?_
       refine zah h (fun hc11 h=> ?_) (fun hc11 h=> ?_)
       .
        refine zay (a:= .raw (.bool true)) rfl rfl rfl (zbf (zdf rfl hc11)) (by dsimp only[zi,List.set]) ?_
        refine zaq rfl rfl ?_
        refine zz ?_
        refine zaq rfl rfl ?_
        refine zz ?_
        refine zaq rfl rfl ?_
        refine zay (a:= .raw (.int .i64 (length x2.1:Int))) rfl rfl rfl (zbf (zdw rfl rfl rfl)) (by dsimp only[zi,List.set]) ?_
        refine zaq rfl rfl ?_
        iterate 2 refine zay (a:= .raw (.bool (x6.2.1==(length x2.1:Int)))) rfl rfl rfl rfl (by dsimp only[zi,List.set]) ?_
        refine zz ?_
        exact zbh h
       .
        refine zay (a:= .raw (.bool false)) rfl rfl rfl (zbf (zdf rfl hc11)) (by dsimp only[zi,List.set]) ?_
        iterate 4 refine zag rfl rfl (by decide) (by dsimp only[zi,List.set]) ?_
        refine zay (a:= .raw (.bool false)) rfl rfl rfl rfl (by dsimp only[zi,List.set]) ?_
        refine zz ?_
        exact zbh h
      .
       refine zay (a:= .raw (.bool false)) rfl rfl rfl (zbf (zdf rfl hc10)) (by dsimp only[zi,List.set]) ?_
       iterate 3 refine zag rfl rfl (by decide) (by dsimp only[zi,List.set]) ?_
       refine zay (a:= .raw (.bool false)) rfl rfl rfl rfl (by dsimp only[zi,List.set]) ?_
       refine zz ?_
       iterate 4 refine zag rfl rfl (by decide) (by dsimp only[zi,List.set]) ?_
       refine zay (a:= .raw (.bool false)) rfl rfl rfl rfl (by dsimp only[zi,List.set]) ?_
       refine zz ?_
       exact zbh h
     .
      refine zev hc9 rfl ?_
      refine zm (zb ?_)
      refine zay (a:= .raw (.bool true)) rfl rfl rfl rfl (by dsimp only[zi,List.set]) ?_
      exact zbh h
section
variable {IT:IterP} {P:Program} {W:Owed} {k0:Nat}
end
section
variable {α:Type} [Enc α] {P:Program} {ρ:Operand->AV} {U:St} {o:Oper}
end
end Go.Ab
namespace Go.Ab
open Go Go.RowKit Go.Fwd Go.Proofs Go.ChangeShapes Go.WideShapes Go.Deep
def z8r (W:World):Cx:=⟨fun b o=> ∃v,W.cell? ⟨b,o,none⟩=some v,[],[],[],W,fun _=>False,fun _ _=>False⟩
theorem inv_top (P:Program)(W:World)(hg:gvBase P W):Inv (ITP P) St.empty (z8r W) where
 lens:=rfl
 elems:=rfl
 κlen:=rfl
 κnd:=fun s s' b h=>by simp[z8r] at h
 box:=fun s b t cs h=>by simp[z8r] at h
 κF:=fun s b t cs h=>by simp[z8r] at h
 βlen:=rfl
 βnd:=by simp[z8r]
 βκ:=fun r h=>by simp[z8r] at h
 row:=fun s r L h=>by simp[z8r] at h
 Ok:=fun b h=>h.elim
 Fcell:=fun b o h=>h
 gv:=⟨W,hg,Szs.refl _,fun b o v _ hv=>⟨⟨v,hv⟩,hv⟩⟩
theorem qet {P:Program} {f:FuncId} {args:List AV} {u:Value} (h:Pure (ITP P) P f args (.raw u))(W:World)(hg:gvBase P W) {vs:List Value} (hr:zbe (ITP P) (z8r W) args vs):
 Calls P f vs.toArray W fun e W'=>e= .returned u/\ Below W.heap.size W W':=by
 refine(h.2 (z8r W) vs (inv_top P W hg) hr).mono ?_;rintro e w' ⟨v,Y,rfl,rfl,hE,hIY,hv⟩;rw[Rep] at hv;subst hv;exact⟨rfl,hE.os,hE.tape,hE.output,hE.size,fun b hb=>hE.frame b hb (by simp[z8r]) (by simp[z8r])⟩
section
variable {H:Type} {enc:TypeId×Value->H} {P:Program} {α:Type} [Enc α]
end
section
variable {H:Type} {enc:TypeId×Value->H}
end
end Go.Ab
namespace Go.Ab
open Go Go.RowKit Go.Fwd Go.Proofs Go.Proofs.YtjkcellkmmfkdaaGreatDoor Go.ChangeShapes Go.WideShapes Go.ChangeAt
theorem gv_of {W:World} (hL:laidMet prog Rows.rxprintSetsRow.laid W)(hS:W.ShapedOpen prog):gvBase prog W where
 err:=fun n g h e=>by
  have h1:prog.globalNamed "strconv.ErrSyntax" =none:=by kernel_rfl
  have h2:prog.globalNamed "strconv.ErrRange" =none:=by kernel_rfl
  rcases h with rfl|rfl
  ·rw[h1] at e;cases e
  ·rw[h2] at e;cases e
 pow:=fun g e=>by
  have h:=laidMet.tail (laidMet.tail hL);exact Lib.tabIs_of_head (rest:=_) (g:=1) (by kernel_rfl) (by kernel_rfl:(prog.globals[1]?).map (·.type)=some 244) (by kernel_rfl:prog.underlying 244=some (.array 20 22)) (by kernel_rfl) (by kernel_rfl) (by kernel_rfl) h
 max:=fun g e=>by
  have h1:prog.globalNamed "internal/bytealg.MaxLen" =some 0:=by kernel_rfl
  rw[h1] at e;cases e;exact Go.Proofs.cell_of_shapedOpen_int (zero:= #[.int .i64 0]) (t:=3) hS (of_decide_eq_true (by kernel_rfl)) (by kernel_rfl) rfl (by kernel_rfl) (by kernel_rfl) (by kernel_rfl)
noncomputable def zzr:DataW Unit->List Value
 | .agg l=>l.flatMap fun d=>match d with
  | .lit (.int k n)=>[Value.int k n]
  | .agg l=>l.map fun d=>match d with| .lit (.int k n)=>Value.int k n|_=>undef
  |_=>[undef]
 |_=>[]
noncomputable def gN (n:String):Nat:=(prog.globalNamed n).getD 0
noncomputable def zqv (os:Os):World:=
 let w0:=World.holding prog os ⟨#[], #[],[]⟩
 let put (h:Array Obj) (g:Nat) (cs:Array Value):Array Obj:=h.modify g fun
  | .cells _ t frozen=> .cells cs t frozen
  |o=>o
 let h1:=put w0.heap (gN "math/bits.deBruijn32tab") (zzr Rows.laid_math_bits_deBruijn32tab).toArray
 let h2:=put h1 (gN "math/bits.deBruijn64tab") (zzr Rows.laid_math_bits_deBruijn64tab).toArray
 let h3:=put h2 (gN "internal/strconv.uint64pow10") (zzr Rows.laid_internal_strconv_uint64pow10).toArray
 let h4:=put h3 (gN "unicode/utf8.acceptRanges") (zzr Rows.laid_unicode_utf8_acceptRanges).toArray
 let h5:=put h4 (gN "unicode/utf8.first") (zzr Rows.laid_unicode_utf8_first).toArray
 {w0 with heap:=h5}
theorem qhd (os:Os)(args:Array Value):laidMet prog Rows.rxprintSetsRow.laid ((zqv os).forCall (fun _ _=>0) ⟨#[],args,[]⟩).memory:=
 laidMet_of_run (ps:=MemPlace.row ⟨gN "math/bits.deBruijn32tab",0,none⟩ 32++MemPlace.row ⟨gN "math/bits.deBruijn64tab",0,none⟩ 64++MemPlace.row ⟨gN "internal/strconv.uint64pow10",0,none⟩ 20++MemPlace.row ⟨gN "unicode/utf8.acceptRanges",0,none⟩ 32++MemPlace.row ⟨gN "unicode/utf8.first",0,none⟩ 256) 8 (by kernel_rfl) (by kernel_rfl) (by kernel_rfl)
end Go.Ab
namespace Go.Proofs.YtjkcellkmmfkdaaGreatDoor
open Go Go.Ab Go.ChangeShapes Go.WideShapes Go.ChangeAt Go.RowKit Go.Fwd
theorem zny {H:Type} {enc:TypeId×Value->H} {P:Program} (hl:laidOutB P=true) {W W':World} (hb:Below W.heap.size W W'): ∀ {ts:List TypeId} {vs:List Value} {ds:List (DataW H)} {ps:List MemPlace},
 (ts.all fun t=>P.readableRec t&&decide (t<P.types.size))=true->DataW.TrodAll enc P W 0 (fun _=>true) true ts vs ds ps->(∀x∈ps,x.block<W.heap.size)->DataW.TrodAll enc P W' 0 (fun b=>decide (b<W.heap.size)) true ts vs ds ps
 | [],vs,ds,ps,_,h,_=>by
  cases vs with
  | nil=>
   cases ds with
   |nil=>exact h
   |cons=>exact h.elim
  |cons=>exact h.elim
 | t::ts,vs,ds,ps,ht,h,hlt=>by
  obtain⟨v,vs',d,ds',p,q,rfl,rfl,rfl,hd,hr⟩:=trodAll_cons h;simp only[List.all_cons,Bool.and_eq_true,decide_eq_true_eq] at ht;exact⟨p,q,Below.trod hl ht.1.1 ht.1.2 hd hb fun x hx=>hlt x (by simp[hx]),zny hl hb ht.2 hr fun x hx=>hlt x (by simp[hx]),rfl⟩
theorem own':ownKnob prog.godebug=none:=by kernel_rfl
theorem qhh:laidOutB prog=true:=by kernel_rfl
end Go.Proofs.YtjkcellkmmfkdaaGreatDoor
namespace Go.Ab
open Go Go.RowKit Go.Fwd Go.Proofs Go.ChangeShapes Go.WideShapes Go.Deep Go.ChangeAt
theorem qjm:prog.underlying 24=some (.array 4 22):=by kernel_rfl
theorem z4s:prog.underlying 22=some (.int .u64):=by kernel_rfl
theorem qgh:prog.cellsOf 24=4:=by kernel_rfl
theorem qhl:prog.cellsOf 22=1:=by kernel_rfl
theorem zuw {n:Int} (h:(Lit.int .u64 n).wf=true):0<=n/\ n<=18446744073709551615:=by
 have h1:IntKind.u64.min=0:=rfl;have h2:IntKind.u64.max=18446744073709551615:=rfl;simp only[Lit.wf,Bool.and_eq_true,decide_eq_true_eq] at h;omega
theorem list4 {α:Type} (l:List α)(h:(⟨l⟩:Array α).size=4): ∃a b c d,l=[a,b,c,d]:=by
 match l,h with
 |[a,b,c,d],_=>exact⟨a,b,c,d,rfl⟩
theorem z9h (n0 n1 n2 n3:Nat)(h0:n0<18446744073709551616)(h1:n1<18446744073709551616)(h2:n2<18446744073709551616)(h3:n3<18446744073709551616):
 ∃S:BS,wd S 0=n0/\ wd S 1=n1/\ wd S 2=n2/\ wd S 3=n3:=by
 refine⟨BitVec.ofNat 256 (n0+18446744073709551616*(n1+18446744073709551616*(n2+18446744073709551616*n3))),?_⟩;have e:(BitVec.ofNat 256 (n0+18446744073709551616*(n1+18446744073709551616*(n2+18446744073709551616*n3)))).toNat=n0+18446744073709551616*(n1+18446744073709551616*(n2+18446744073709551616*n3)):=by
  rw[BitVec.toNat_ofNat];exact Nat.mod_eq_of_lt (by omega)
 refine⟨?_,?_,?_,?_⟩
 all_goals
  unfold wd W64
  rw[BitVec.extractLsb'_toNat,e,Nat.shiftRight_eq_div_pow]
  congr 1
  simp only[Nat.reduceMul,Nat.reducePow]
  omega
theorem z4x {H:Type} {enc:TypeId×Value->H} {W:World} {base:Nat} {v:Value} {d:DataW H} {p:List MemPlace} (hv:Value.okWide prog W .any base 24 v)
 (h:DataW.Trod enc prog W 0 (fun _=>true) true 24 v d p): ∃S:BS,True/\ Rep (ITP prog) (z8r W) (.agg (Enc.cells S)) v:=by
 obtain⟨cs,rfl,hsz,_⟩: ∃cs,v= .agg cs/\ cs.size=prog.cellsOf 24/\ Row.okWide prog W .any base 24 cs:=by
  simpa[Value.okWide,qjm] using hv
 rw[qgh] at hsz;obtain⟨l⟩:=cs;obtain⟨c0,c1,c2,c3,rfl⟩:=list4 l hsz;obtain⟨fuel,hf⟩:=h;obtain⟨y0,y1,y2,y3,m,hx,hy0,hy1,hy2,hy3⟩:=trod_array4 qjm qhl hf;obtain⟨x0,e0,rfl,w0⟩:=DataW.trod_int z4s hy0;obtain⟨x1,e1,rfl,w1⟩:=DataW.trod_int z4s hy1;obtain⟨x2,e2,rfl,w2⟩:=DataW.trod_int z4s hy2;obtain⟨x3,e3,rfl,w3⟩:=DataW.trod_int z4s hy3;simp at e0 e1 e2 e3;subst e0 e1 e2 e3;have b0:=zuw w0;have b1:=zuw w1;have b2:=zuw w2;have b3:=zuw w3;obtain⟨S,s0,s1,s2,s3⟩:=z9h x0.toNat x1.toNat x2.toNat x3.toNat (by omega) (by omega) (by omega) (by omega);refine⟨S,trivial,?_⟩;rw[Int.toNat_of_nonneg b0.1] at s0;rw[Int.toNat_of_nonneg b1.1] at s1;rw[Int.toNat_of_nonneg b2.1] at s2;rw[Int.toNat_of_nonneg b3.1] at s3;have e:(Enc.cells S:List AV)=[.raw (.int .u64 x0),.raw (.int .u64 x1),.raw (.int .u64 x2),.raw (.int .u64 x3)]:=by
  rw[<-s0, <-s1, <-s2, <-s3];rfl
 rw[e,Rep];exact⟨_,rfl,⟨_,_,rfl,by rw[Rep],_,_,rfl,by rw[Rep],_,_,rfl,by rw[Rep],_,_,rfl,by rw[Rep],rfl⟩,by simp[Value.oneCell']⟩
end Go.Ab
namespace Go.Ab
open Go Go.RowKit Go.Fwd Go.Proofs
theorem rxps_eq (a b:BS):z6d 1100 a b=some true:=by
 unfold z6d;by_cases ha:a=0#256
 ·refine zbj true (by rw[decide_eq_true ha,cond_true]) ?_;rw[cond_true];exact zai _ (zsp _) (by rw[if_pos rfl];rfl)
 ·by_cases hb:b=0#256
  ·refine zbj true (by rw[decide_eq_false ha,cond_false,decide_eq_true hb]) ?_;rw[cond_true];exact zai _ (zsp _) (by rw[if_pos rfl];rfl)
  ·refine zbj false (by rw[decide_eq_false ha,cond_false,decide_eq_false hb]) ?_;rw[cond_false];have pa:=zsp a;have pb:=zsp b;rw[if_neg ha] at pa;rw[if_neg hb] at pb;have hl:=qbk a;refine zai _ pa (zai _ pb ?_);simp only;refine zai _ (zve a ha) ?_;refine zbj false ?_ ?_
   ·refine zal (by decide) (zal (by simp only;decide) ?_);simp only;rw[show((0:Int)+0+0 !=0)=false from rfl,cond_false];have hst:((zgm a==zgm b)==decide (a=b))=true:=by
     by_cases h:a=b
     ·rw[h];simp
     ·rw[decide_eq_false h,show(zgm a==zgm b)=false from beq_eq_false_iff_ne.2 fun e=>h (qff ha hb e)];rfl
    rw[hst,show(!true)=false from rfl,cond_false,show((((zgm a).length:Nat):Int) !=((zgm a).length:Int))=false by simp,cond_false]
    show(bif (((2:Nat):Int) !=2) then _ else _)=_
    rw[show((((2:Nat):Int)) !=2)=false from rfl,cond_false]
    show(bif decide (a≠a) then _ else _)=_
    rw[decide_eq_false (show ¬a≠a from fun h=>h rfl),cond_false,decide_eq_false (show ¬((zgm a).length:Int)>515 by omega)]
   ·rw[cond_false];refine zaj fun x hx=> ?_;cases x with
    |false=>rfl
    | true=>
     rw[cond_true];refine zal (by simp;omega) ?_;refine zai _ (z2h a ha [97] (by simp) hx) ?_;simp only;rw[show((0:Int)==0)=true from rfl,cond_true,show decide True=true from rfl,cond_true];simp
end Go.Ab
namespace Go.Proofs.YtjkcellkmmfkdaaGreatDoor
open Go Go.Ab Go.ChangeShapes Go.WideShapes Go.ChangeAt Go.RowKit Go.Fwd
theorem trods_rxprintSets {H:Type} {enc:TypeId×Value->H} {P:Program} {w:World} {base:Nat} {spare:Nat->Bool} {held:Bool} {t0 t1:TypeId} {args:Array Value} {ds:List (DataW H)} {ps:List MemPlace} (h:DataW.TrodAll enc P w base spare held [t0,t1] args.toList ds ps):
 ∃v0 v1 d0 d1 p0 p1,args= #[v0,v1]/\ ds=[d0,d1]/\ ps=p0++p1/\ DataW.Trod enc P w base spare held t0 v0 d0 p0/\ DataW.Trod enc P w base spare held t1 v1 d1 p1:=by
 obtain⟨v0,a0,d0,s0,p0,q0,hargs,rfl,rfl,g0,h⟩:=trodAll_cons h;obtain⟨v1,a1,d1,s1,p1,q1,rfl,rfl,rfl,g1,h⟩:=trodAll_cons h;obtain⟨rfl,rfl,rfl⟩:=trodAll_nil h;exact⟨v0,v1,d0,d1,p0,p1,by cases args;simp_all,rfl,by simp,g0,g1⟩
theorem witness_rxprintSets (os:Os) {H:Type} (enc:TypeId×Value->H):
 (OpenSpec.ofChange Rows.rxprintSetsSpec).preRow enc prog Tryz.f8 Rows.rxprintSetsRow.domain false Rows.rxprintSetsRow.laid ((zqv os).forCall (fun _ _=>0) ⟨#[], #[.agg #[.int .u64 0,.int .u64 0,.int .u64 0,.int .u64 0],.agg #[.int .u64 0,.int .u64 0,.int .u64 0,.int .u64 0]],[]⟩).memory #[.agg #[.int .u64 0,.int .u64 0,.int .u64 0,.int .u64 0],.agg #[.int .u64 0,.int .u64 0,.int .u64 0,.int .u64 0]]:=
 OpenSpec.preRow_of_B rfl 8 (by kernel_rfl) (by kernel_rfl) (qhd os _)
theorem rxprintSets_lifted (os:Os)(started:os.Started)(H:Type)(enc:TypeId×Value->H)(F:Stop.Interp):
 ReturnsInHanded {} Tryz.checked os 8 .any ((OpenSpec.ofChange Rows.rxprintSetsSpec).preRow enc prog Tryz.f8 Rows.rxprintSetsRow.domain false Rows.rxprintSetsRow.laid) (((OpenSpec.ofChange Rows.rxprintSetsSpec).at F).post enc prog Tryz.f8 false true false false):=by
 refine returnsInHanded_of_row (C:=Tryz.checked) (s:=OpenSpec.ofChange Rows.rxprintSetsSpec) own' started (by kernel_rfl) Tryz.func8
  (witness_row_atRef (enc:=enc) (C:=Tryz.checked) false (zqv os) #[.agg #[.int .u64 0,.int .u64 0,.int .u64 0,.int .u64 0],.agg #[.int .u64 0,.int .u64 0,.int .u64 0,.int .u64 0]] rfl (by kernel_rfl) (by kernel_rfl) (by kernel_rfl) (witness_rxprintSets os enc)) ?_
 intro W base args ds gs before hval0 hW hcnd0 _ hsz0 hL hS _;have hval: ∀(j:Nat) t v,Tryz.f8.params[j]? =some t->args[j]? =some v->Value.okWide prog W .any base t v:=hval0;have hW':=hW;obtain⟨p,q,hA0,hV,rfl,_,_⟩:=hW;have hA:DataW.TrodAll enc prog W 0 (fun _=>true) true Tryz.f8.params.toList args.toList ds p:=hA0;rw[show Tryz.f8.params.toList=[24,24] from by kernel_rfl] at hA;have hA1:=hA;obtain⟨v0,v1,d0,d1,p0,p1,rfl,rfl,rfl,h0,h1⟩:=trods_rxprintSets hA;obtain⟨rfl,rfl⟩:=trodVars_none hV;obtain⟨x0,r0,hr0⟩:=z4x (hval 0 24 v0 (by kernel_rfl) rfl) h0;obtain⟨x1,r1,hr1⟩:=z4x (hval 1 24 v1 (by kernel_rfl) rfl) h1;clear hA0 hval0;simp only[List.append_nil,List.nil_append] at hW' hA1;have hlt:=hW'.lt;refine(qet (rxps_sh 1100 x0 x1 true (rxps_eq x0 x1)) W (gv_of hL hS) (vs:=[v0,v1]) ⟨_,_,rfl,hr0,_,_,rfl,hr1,rfl⟩).mono fun e W' ⟨he,hw⟩=> ?_;subst he;refine⟨_,rfl,?_⟩;refine⟨_,_,_,[]++[],p0++p1,[],hW',?_,?_,rfl,hw.frame _,fun h=>by cases h⟩
 ·exact trodAll_mk1 (shut_bool (show prog.underlying 4=some .bool from by kernel_rfl) true)
 ·exact zny qhh hw (by kernel_rfl) hA1 hlt
theorem rxprintSets_holds:Rows.RxprintSetsSaid:=
 OpenClaim.holds_of_cond 8 Tryz.f8 rfl rfl rfl rfl rfl rfl rfl ⟨rfl,rfl,rfl,rfl,rfl⟩ rfl rfl rfl rfl rfl (by kernel_rfl) Tryz.func8 (by kernel_rfl)
  (of_decide_eq_true (by kernel_rfl)) (by unfold Func.isWrapper;rw[if_neg (of_decide_eq_false (by kernel_rfl))];exact⟨rfl,rfl⟩)
  (fun os started H enc _ F0=>by rw[OpenClaim.pre_eq_preRow];exact rxprintSets_lifted os started H enc F0)
theorem rxprintSets_card:Rows.RxprintSetsCardSaid:=
 Claim7.holds_tied_plain_at .later [] [.data,.data,.data,.data,.pinned] true (true, "0004189f6fb819856d946ff194c78be89592a7085de29f12f1e1e6be06ed5ea5") false
  rxprintSets_holds (fun _ h=>by cases h) (by kernel_rfl) (fun _ h=>by cases h) rxprintSets_row_tie rfl ⟨rfl,rfl⟩ (by kernel_rfl) rfl
  (fun f fn hf hfn=>by
   obtain rfl:f=8:=Option.some.inj ((show prog.funcNamed "repartee/reparteelaw10.RxprintSets" =some 8 by kernel_rfl).symm.trans hf)|>.symm;obtain rfl:fn=Tryz.f8:=(Option.some.inj (Tryz.func8.symm.trans hfn)).symm;exact⟨by kernel_rfl,fun j t ht=>by
    have hm:t∈[24,24]:=by
     have h:=Array.mem_of_getElem? ht;rw[<-Array.mem_toList_iff,show Tryz.f8.params.toList=[24,24] from by kernel_rfl] at h;exact h
    have hall:([24,24].all fun u=> !prog.wantsStandIn u)=true:=by kernel_rfl
    exact(show prog.wantsStandIn t=false by simpa using List.all_eq_true.1 hall t hm)⟩)
  (by kernel_rfl)
#print axioms rxprintSets_card
end Go.Proofs.YtjkcellkmmfkdaaGreatDoor
