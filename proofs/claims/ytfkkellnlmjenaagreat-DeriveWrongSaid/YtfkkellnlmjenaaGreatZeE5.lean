/-
  derive: behind$1: a term is put into the captured list.
-/
import Derived.Test.YtfkkellnlmjenaaGreatZeE4
import Derived.Test.YtfkkellnlmjenaaGreatZdFr
set_option linter.unusedSimpArgs false
set_option linter.unusedVariables false
set_option maxRecDepth 100000
set_option maxHeartbeats 4000000
set_option maxRecDepth 100000
set_option maxHeartbeats 4000000
namespace Go.Ab
open Go Go.RowKit Go.Fwd Go.Proofs
theorem z2i (l:List Tr)(x t:Tr):List.set (l++[x]) (Int.toNat ((List.length l:Nat):Int)) t=l++[t]:=by rw[Int.toNat_natCast,List.set_append_right _ _ (Nat.le_refl _),Nat.sub_self];rfl
theorem z1p {P:Program} {fn:Func} {S:List AV} {σ σ':St} {n m:Nat} {a r:AV} (fs js:List Nat)(d:Nat)(h:zbo P fn σ S=some a)(hok:zfb σ n js=true)(hr:zmo m (kz σ.boxes m n fs js d) a=r)(hσ:zmv σ m n fs js d=σ'):qnb P fn n m r σ' .normal S σ:=⟨a,h,z0y fs js d hok hr hσ⟩
def qgr (t:Tr):Option Unit:=
 (chk (0<(List.length [noneT])∧(List.length [noneT])*80≤140737488355328) (chk (0≤(0:Int)∧(0:Int)<(((List.length [noneT]):Nat):Int)) (chk (0≤(0:Int)∧(0:Int)<(List.length [noneT]:Int)) (zbc (ix [noneT] (0:Int)) (fun x1=>(some ()))))))
theorem ent98:Ent Tryz.prog 98:=enters_of Tryz.func98 (by kernel_rfl) rfl
theorem beh0_s0 (t:Tr)(h:qgr t=some ()):Snd (ITP Tryz.prog) Tryz.prog 98 [.agg (Enc.cells (t:Tr)),.ptr 0 0] ⟨[(27,[.list 0 [] .full])],[],[],0,false⟩ (.tup []) ⟨[(27,[.bsl 1 0 1 8 false]),(29,Enc.cellsL [t])],[],[],0,false⟩:=by
 obtain⟨d,hd⟩: ∃d,Tryz.f98.body=some d:=⟨_,rfl⟩
 refine zrd mix Tryz.func98 hd ent98 ?_
 cases hd
 unfold qgr at h
 refine zah (by dsimp only[zbf,Tryz.f98,List.length_cons,List.length_nil,Nat.zero_add,Nat.reduceAdd,Nat.reduceSub,List.replicate,List.cons_append,List.nil_append]) rfl ?_
 refine zf (zb ?_)
 refine zbz (a:= .ptr 1 0) (σ'':=⟨[(27,[.list 0 [] .full]),(29,(Enc.cells (t:Tr)))],[],[],0,false⟩) ?_
 obtain⟨g1,h⟩:=zi h
 obtain⟨g2,h⟩:=zi h
 obtain⟨g3,h⟩:=zi h
 obtain⟨x1,hx1,h⟩:=zo h
 refine z8c (k0:=1) (id:=1) [.agg (Enc.cells (t:Tr)),.ptr 0 0,.ptr 1 0,.list 0 [] .full,.agg (Enc.cells (t:Tr)),.raw (.int .i64 0),.list (List.length ([noneT]:List Tr)) (Enc.cellsL ([noneT]:List Tr)) .none,.bsl 2 0 (List.length [noneT]) 8 false,.ptr 2 (0+Int.toNat (0:Int)*8)] ⟨[(27,[.bsl 2 0 (List.length [noneT]) 8 false]),(29,(Enc.cells (t:Tr))),(29,(Enc.cellsL ((List.set [noneT] (Int.toNat (0:Int)) t):List Tr)))],[],[],0,false⟩ ?_ ?_
 ·
  refine zju (fun ops hops FIN hFIN S0 hS0=> ?_)
  let v3:AV:= .list 0 [] .full
  let v4:AV:= .agg (Enc.cells (t:Tr))
  let v5:AV:= .raw (.int .i64 0)
  let v7:AV:= .bsl 2 0 (List.length [noneT]) 8 false
  let v8:AV:= .ptr 2 (0+Int.toNat (0:Int)*8)
  let G0:St:=⟨[(27,[.list 0 [] .full]),(29,(Enc.cells (t:Tr)))],[],[],0,false⟩
  let G1:St:=⟨[(27,[.list 0 [] .full]),(29,(Enc.cells (t:Tr))),(29,(Enc.cellsL ([noneT]:List Tr)))],[],[],0,false⟩
  let G2:St:=⟨[(27,[.bsl 2 0 (List.length [noneT]) 8 false]),(29,(Enc.cells (t:Tr))),(29,(Enc.cellsL ([noneT]:List Tr)))],[],[],0,false⟩
  let G3:St:=⟨[(27,[.list 0 [] .full]),(29,(Enc.cells (t:Tr))),(29,(Enc.cellsL ((List.set [noneT] (Int.toNat (0:Int)) t):List Tr)))],[],[],0,false⟩
  let G4:St:=⟨[(27,[.bsl 2 0 (List.length [noneT]) 8 false]),(29,(Enc.cells (t:Tr))),(29,(Enc.cellsL ((List.set [noneT] (Int.toNat (0:Int)) t):List Tr)))],[],[],0,false⟩
  obtain⟨ps,hps⟩: ∃ps:List (Option (Nat×AV)),ps=[some (3,v3),some (4,v4),some (5,v5),some (6,.list (List.length ([noneT]:List Tr)) (Enc.cellsL ([noneT]:List Tr)) .none),some (7,v7),some (8,v8),none,none]:=⟨_,rfl⟩
  let N:Nat→Nat→St→Prop:=fun k m σ=>aN (ITP Tryz.prog) Tryz.prog none ops FIN S0 ps 8 k m σ
  have n17:N 0 255 G4:=by
   exact aN_0 hops hS0 hps (hFIN _ _ ⟨rfl,rfl⟩)
  have n16:N 1 191 G2:=by
   refine zjh hops hS0 hps 6 ?_
   ·
    refine zbz (σ'':=G4) (h:=zhl (α:=Tr) (l:=[noneT]) (i:=(0:Int)) (k:=0) (te:=29) (n:=8) t g3 rfl rfl rfl rfl rfl rfl rfl (by decide) (by decide) (by rw[hx1];rfl)) ?_
    exact zar n17 hS0 hps
  have n15:N 1 127 G3:=by
   refine zjh hops hS0 hps 7 ?_
   ·
    refine zbz (σ'':=G4) (h:=zaz (n:=1) rfl rfl rfl rfl rfl rfl rfl rfl (by decide)) ?_
    exact zar n17 hS0 hps
  have n14:N 2 159 G2:=by
   refine zjh hops hS0 hps 5 ?_
   ·
    refine w_o (a:=v8) (h:=zbh (zex (α:=Tr) g2 rfl rfl rfl rfl rfl)) ?_
    exact zar n16 hS0 hps
  have n13:N 2 63 G1:=by
   refine zqq hops hS0 hps 6 7 ?_ ?_
   ·
    refine zbz (σ'':=G3) (h:=zhl (α:=Tr) (l:=[noneT]) (i:=(0:Int)) (k:=0) (te:=29) (n:=8) t g3 rfl rfl rfl rfl rfl rfl rfl (by decide) (by decide) (by rw[hx1];rfl)) ?_
    exact zar n15 hS0 hps
   ·
    refine zbz (σ'':=G2) (h:=zaz (n:=1) rfl rfl rfl rfl rfl rfl rfl rfl (by decide)) ?_
    exact zar n16 hS0 hps
  have n12:N 3 31 G1:=by
   refine zqq hops hS0 hps 5 7 ?_ ?_
   ·
    refine w_o (a:=v8) (h:=zbh (zex (α:=Tr) g2 rfl rfl rfl rfl rfl)) ?_
    exact zar n13 hS0 hps
   ·
    refine zbz (σ'':=G2) (h:=zaz (n:=1) rfl rfl rfl rfl rfl rfl rfl rfl (by decide)) ?_
    exact zar n14 hS0 hps
  have n11:N 4 15 G0:=by
   refine zjh hops hS0 hps 4 ?_
   ·
    refine zgs (a:=v7) (σ'':=G1) rfl rfl rfl (zmg (α:=Tr) (r:=[noneT]) (by':=80) g1 rfl rfl rfl rfl rfl rfl rfl rfl rfl rfl rfl ⟨rfl,by decide⟩) (by dsimp only[zh,List.set]) rfl ?_
    exact zar n12 hS0 hps
  have n10:N 5 13 G0:=by
   refine zjh hops hS0 hps 1 ?_
   ·
    refine w_o (a:=v4) ?_
    exact zar n11 hS0 hps
  have n9:N 5 11 G0:=by
   refine zjh hops hS0 hps 2 ?_
   ·
    refine w_o (a:=v5) ?_
    exact zar n11 hS0 hps
  have n8:N 5 7 G0:=by
   refine zjh hops hS0 hps 3 ?_
   ·
    refine zeh (.list (List.length ([noneT]:List Tr)) (Enc.cellsL ([noneT]:List Tr)) .none) (a0:= .list 1 ([.raw (.int .u8 0),.raw (.int .u64 0),.raw (.int .u64 0),.raw (.int .u64 0),.raw (.int .u64 0),.raw (.int .i64 0),.raw (.int .i64 0),.list 0 [] .full]) .full) rfl rfl rfl (by kernel_rfl) (by kernel_rfl) (by dsimp only[zh,List.set]) ?_
    exact zar n11 hS0 hps
  have n7:N 6 10 G0:=by
   refine zjh hops hS0 hps 0 ?_
   ·
    refine w_o (a:=v3) ?_
    exact zar n9 hS0 hps
  have n6:N 6 9 G0:=by
   refine zqq hops hS0 hps 1 2 ?_ ?_
   ·
    refine w_o (a:=v4) ?_
    exact zar n9 hS0 hps
   ·
    refine w_o (a:=v5) ?_
    exact zar n10 hS0 hps
  have n5:N 6 5 G0:=by
   refine zqq hops hS0 hps 1 3 ?_ ?_
   ·
    refine w_o (a:=v4) ?_
    exact zar n8 hS0 hps
   ·
    refine zeh (.list (List.length ([noneT]:List Tr)) (Enc.cellsL ([noneT]:List Tr)) .none) (a0:= .list 1 ([.raw (.int .u8 0),.raw (.int .u64 0),.raw (.int .u64 0),.raw (.int .u64 0),.raw (.int .u64 0),.raw (.int .i64 0),.raw (.int .i64 0),.list 0 [] .full]) .full) rfl rfl rfl (by kernel_rfl) (by kernel_rfl) (by dsimp only[zh,List.set]) ?_
    exact zar n10 hS0 hps
  have n4:N 6 3 G0:=by
   refine zqq hops hS0 hps 2 3 ?_ ?_
   ·
    refine w_o (a:=v5) ?_
    exact zar n8 hS0 hps
   ·
    refine zeh (.list (List.length ([noneT]:List Tr)) (Enc.cellsL ([noneT]:List Tr)) .none) (a0:= .list 1 ([.raw (.int .u8 0),.raw (.int .u64 0),.raw (.int .u64 0),.raw (.int .u64 0),.raw (.int .u64 0),.raw (.int .i64 0),.raw (.int .i64 0),.list 0 [] .full]) .full) rfl rfl rfl (by kernel_rfl) (by kernel_rfl) (by dsimp only[zh,List.set]) ?_
    exact zar n9 hS0 hps
  have n3:N 7 8 G0:=by
   refine zqq hops hS0 hps 0 1 ?_ ?_
   ·
    refine w_o (a:=v3) ?_
    exact zar n6 hS0 hps
   ·
    refine w_o (a:=v4) ?_
    exact zar n7 hS0 hps
  have n2:N 7 2 G0:=by
   refine zqq hops hS0 hps 0 3 ?_ ?_
   ·
    refine w_o (a:=v3) ?_
    exact zar n4 hS0 hps
   ·
    refine zeh (.list (List.length ([noneT]:List Tr)) (Enc.cellsL ([noneT]:List Tr)) .none) (a0:= .list 1 ([.raw (.int .u8 0),.raw (.int .u64 0),.raw (.int .u64 0),.raw (.int .u64 0),.raw (.int .u64 0),.raw (.int .i64 0),.raw (.int .i64 0),.list 0 [] .full]) .full) rfl rfl rfl (by kernel_rfl) (by kernel_rfl) (by dsimp only[zh,List.set]) ?_
    exact zar n7 hS0 hps
  have n1:N 7 1 G0:=by
   refine aN_3 hops hS0 hps 1 2 3 ?_ ?_ ?_
   ·
    refine w_o (a:=v4) ?_
    exact zar n4 hS0 hps
   ·
    refine w_o (a:=v5) ?_
    exact zar n5 hS0 hps
   ·
    refine zeh (.list (List.length ([noneT]:List Tr)) (Enc.cellsL ([noneT]:List Tr)) .none) (a0:= .list 1 ([.raw (.int .u8 0),.raw (.int .u64 0),.raw (.int .u64 0),.raw (.int .u64 0),.raw (.int .u64 0),.raw (.int .i64 0),.raw (.int .i64 0),.list 0 [] .full]) .full) rfl rfl rfl (by kernel_rfl) (by kernel_rfl) (by dsimp only[zh,List.set]) ?_
    exact zar n6 hS0 hps
  have n0:N 8 0 G0:=by
   refine aN_3 hops hS0 hps 0 1 3 ?_ ?_ ?_
   ·
    refine w_o (a:=v3) ?_
    exact zar n1 hS0 hps
   ·
    refine w_o (a:=v4) ?_
    exact zar n2 hS0 hps
   ·
    refine zeh (.list (List.length ([noneT]:List Tr)) (Enc.cellsL ([noneT]:List Tr)) .none) (a0:= .list 1 ([.raw (.int .u8 0),.raw (.int .u64 0),.raw (.int .u64 0),.raw (.int .u64 0),.raw (.int .u64 0),.raw (.int .i64 0),.raw (.int .i64 0),.list 0 [] .full]) .full) rfl rfl rfl (by kernel_rfl) (by kernel_rfl) (by dsimp only[zh,List.set]) ?_
    exact zar n3 hS0 hps
  exact znj n0 hps
 ·
  exact z1p (n:=1) (m:=0) [] [2] 1 rfl rfl rfl (by show St.mk [(27,zby _ _ [_]),(29,zby _ _ (Enc.cellsL _))] _ _ _ _=_;rw[zam _ _ _ (Enc.cloL _)];rfl)
def qdu (l:List Tr)(t:Tr):Option Unit:=
 (chk (List.length l=(List.length l)∧0<(List.length l)∧0<List.length [noneT]∧((List.length l)+List.length [noneT])*80≤140737488355328) (chk (0≤(((List.length l):Nat):Int)∧(((List.length l):Nat):Int)<((((List.length l)+List.length [noneT]):Nat):Int)) (chk (0≤(((List.length l):Nat):Int)∧(((List.length l):Nat):Int)<(List.length (l++[noneT]):Int)) (zbc (ix (l++[noneT]) (((List.length l):Nat):Int)) (fun x1=>(some ()))))))
theorem beh1_s0 (l:List Tr)(t:Tr)(h:qdu l t=some ()):Snd (ITP Tryz.prog) Tryz.prog 98 [.agg (Enc.cells (t:Tr)),.ptr 0 0] ⟨[(27,[.bsl 1 0 (List.length l) 8 false]),(29,(Enc.cellsL (l:List Tr)))],[],[],0,false⟩ (.tup []) ⟨[(27,[.bsl 2 0 (List.length l+1) 8 false]),(29,[]),(29,Enc.cellsL (l++[t]))],[],[],0,false⟩:=by
 obtain⟨d,hd⟩: ∃d,Tryz.f98.body=some d:=⟨_,rfl⟩
 refine zrd mix Tryz.func98 hd ent98 ?_
 cases hd
 unfold qdu at h
 refine zah (by dsimp only[zbf,Tryz.f98,List.length_cons,List.length_nil,Nat.zero_add,Nat.reduceAdd,Nat.reduceSub,List.replicate,List.cons_append,List.nil_append]) rfl ?_
 refine zf (zb ?_)
 refine zbz (a:= .ptr 2 0) (σ'':=⟨[(27,[.bsl 1 0 (List.length l) 8 false]),(29,(Enc.cellsL (l:List Tr))),(29,(Enc.cells (t:Tr)))],[],[],0,false⟩) ?_
 obtain⟨g1,h⟩:=zi h
 obtain⟨g2,h⟩:=zi h
 obtain⟨g3,h⟩:=zi h
 obtain⟨x1,hx1,h⟩:=zo h
 refine z8c (k0:=2) (id:=1) [.agg (Enc.cells (t:Tr)),.ptr 0 0,.ptr 2 0,.bsl 1 0 (List.length l) 8 false,.agg (Enc.cells (t:Tr)),.raw (.int .i64 (((List.length l):Nat):Int)),.list (List.length ([noneT]:List Tr)) (Enc.cellsL ([noneT]:List Tr)) .none,.bsl 3 0 ((List.length l)+List.length [noneT]) 8 false,.ptr 3 (0+Int.toNat (((List.length l):Nat):Int)*8)] ⟨[(27,[.bsl 3 0 ((List.length l)+List.length [noneT]) 8 false]),(29,(Enc.cellsL (([]:List Tr):List Tr))),(29,(Enc.cells (t:Tr))),(29,(Enc.cellsL ((List.set (l++[noneT]) (Int.toNat (((List.length l):Nat):Int)) t):List Tr)))],[],[],0,false⟩ ?_ ?_
 ·
  refine zju (fun ops hops FIN hFIN S0 hS0=> ?_)
  let v3:AV:= .bsl 1 0 (List.length l) 8 false
  let v4:AV:= .agg (Enc.cells (t:Tr))
  let v5:AV:= .raw (.int .i64 (((List.length l):Nat):Int))
  let v7:AV:= .bsl 3 0 ((List.length l)+List.length [noneT]) 8 false
  let v8:AV:= .ptr 3 (0+Int.toNat (((List.length l):Nat):Int)*8)
  let G0:St:=⟨[(27,[.bsl 1 0 (List.length l) 8 false]),(29,(Enc.cellsL (l:List Tr))),(29,(Enc.cells (t:Tr)))],[],[],0,false⟩
  let G1:St:=⟨[(27,[.bsl 1 0 (List.length l) 8 false]),(29,(Enc.cellsL (([]:List Tr):List Tr))),(29,(Enc.cells (t:Tr))),(29,(Enc.cellsL ((l++[noneT]):List Tr)))],[],[],0,false⟩
  let G2:St:=⟨[(27,[.bsl 3 0 ((List.length l)+List.length [noneT]) 8 false]),(29,(Enc.cellsL (([]:List Tr):List Tr))),(29,(Enc.cells (t:Tr))),(29,(Enc.cellsL ((l++[noneT]):List Tr)))],[],[],0,false⟩
  let G3:St:=⟨[(27,[.bsl 1 0 (List.length l) 8 false]),(29,(Enc.cellsL (([]:List Tr):List Tr))),(29,(Enc.cells (t:Tr))),(29,(Enc.cellsL ((List.set (l++[noneT]) (Int.toNat (((List.length l):Nat):Int)) t):List Tr)))],[],[],0,false⟩
  let G4:St:=⟨[(27,[.bsl 3 0 ((List.length l)+List.length [noneT]) 8 false]),(29,(Enc.cellsL (([]:List Tr):List Tr))),(29,(Enc.cells (t:Tr))),(29,(Enc.cellsL ((List.set (l++[noneT]) (Int.toNat (((List.length l):Nat):Int)) t):List Tr)))],[],[],0,false⟩
  obtain⟨ps,hps⟩: ∃ps:List (Option (Nat×AV)),ps=[some (3,v3),some (4,v4),some (5,v5),some (6,.list (List.length ([noneT]:List Tr)) (Enc.cellsL ([noneT]:List Tr)) .none),some (7,v7),some (8,v8),none,none]:=⟨_,rfl⟩
  let N:Nat→Nat→St→Prop:=fun k m σ=>aN (ITP Tryz.prog) Tryz.prog none ops FIN S0 ps 8 k m σ
  have n17:N 0 255 G4:=by
   exact aN_0 hops hS0 hps (hFIN _ _ ⟨rfl,rfl⟩)
  have n16:N 1 191 G2:=by
   refine zjh hops hS0 hps 6 ?_
   ·
    refine zbz (σ'':=G4) (h:=zhl (α:=Tr) (l:=(l++[noneT])) (i:=(((List.length l):Nat):Int)) (k:=0) (te:=29) (n:=8) t g3 rfl rfl rfl rfl rfl rfl rfl (by decide) (by decide) (by rw[hx1];rfl)) ?_
    exact zar n17 hS0 hps
  have n15:N 1 127 G3:=by
   refine zjh hops hS0 hps 7 ?_
   ·
    refine zbz (σ'':=G4) (h:=zaz (n:=1) rfl rfl rfl rfl rfl rfl rfl rfl (by decide)) ?_
    exact zar n17 hS0 hps
  have n14:N 2 159 G2:=by
   refine zjh hops hS0 hps 5 ?_
   ·
    refine w_o (a:=v8) (h:=zbh (zex (α:=Tr) g2 rfl rfl rfl rfl rfl)) ?_
    exact zar n16 hS0 hps
  have n13:N 2 63 G1:=by
   refine zqq hops hS0 hps 6 7 ?_ ?_
   ·
    refine zbz (σ'':=G3) (h:=zhl (α:=Tr) (l:=(l++[noneT])) (i:=(((List.length l):Nat):Int)) (k:=0) (te:=29) (n:=8) t g3 rfl rfl rfl rfl rfl rfl rfl (by decide) (by decide) (by rw[hx1];rfl)) ?_
    exact zar n15 hS0 hps
   ·
    refine zbz (σ'':=G2) (h:=zaz (n:=1) rfl rfl rfl rfl rfl rfl rfl rfl (by decide)) ?_
    exact zar n16 hS0 hps
  have n12:N 3 31 G1:=by
   refine zqq hops hS0 hps 5 7 ?_ ?_
   ·
    refine w_o (a:=v8) (h:=zbh (zex (α:=Tr) g2 rfl rfl rfl rfl rfl)) ?_
    exact zar n13 hS0 hps
   ·
    refine zbz (σ'':=G2) (h:=zaz (n:=1) rfl rfl rfl rfl rfl rfl rfl rfl (by decide)) ?_
    exact zar n14 hS0 hps
  have n11:N 4 15 G0:=by
   refine zjh hops hS0 hps 4 ?_
   ·
    refine zgs (a:=v7) (σ'':=G1) rfl rfl rfl (zxp (α:=Tr) (l:=l) (r:=[noneT]) (by':=80) g1 rfl rfl rfl rfl rfl rfl rfl rfl rfl rfl rfl rfl ⟨rfl,by decide⟩) (by dsimp only[zh,List.set]) rfl ?_
    exact zar n12 hS0 hps
  have n10:N 5 13 G0:=by
   refine zjh hops hS0 hps 1 ?_
   ·
    refine w_o (a:=v4) ?_
    exact zar n11 hS0 hps
  have n9:N 5 11 G0:=by
   refine zjh hops hS0 hps 2 ?_
   ·
    refine w_o (a:=v5) ?_
    exact zar n11 hS0 hps
  have n8:N 5 7 G0:=by
   refine zjh hops hS0 hps 3 ?_
   ·
    refine zeh (.list (List.length ([noneT]:List Tr)) (Enc.cellsL ([noneT]:List Tr)) .none) (a0:= .list 1 ([.raw (.int .u8 0),.raw (.int .u64 0),.raw (.int .u64 0),.raw (.int .u64 0),.raw (.int .u64 0),.raw (.int .i64 0),.raw (.int .i64 0),.list 0 [] .full]) .full) rfl rfl rfl (by kernel_rfl) (by kernel_rfl) (by dsimp only[zh,List.set]) ?_
    exact zar n11 hS0 hps
  have n7:N 6 10 G0:=by
   refine zjh hops hS0 hps 0 ?_
   ·
    refine w_o (a:=v3) ?_
    exact zar n9 hS0 hps
  have n6:N 6 9 G0:=by
   refine zqq hops hS0 hps 1 2 ?_ ?_
   ·
    refine w_o (a:=v4) ?_
    exact zar n9 hS0 hps
   ·
    refine w_o (a:=v5) ?_
    exact zar n10 hS0 hps
  have n5:N 6 5 G0:=by
   refine zqq hops hS0 hps 1 3 ?_ ?_
   ·
    refine w_o (a:=v4) ?_
    exact zar n8 hS0 hps
   ·
    refine zeh (.list (List.length ([noneT]:List Tr)) (Enc.cellsL ([noneT]:List Tr)) .none) (a0:= .list 1 ([.raw (.int .u8 0),.raw (.int .u64 0),.raw (.int .u64 0),.raw (.int .u64 0),.raw (.int .u64 0),.raw (.int .i64 0),.raw (.int .i64 0),.list 0 [] .full]) .full) rfl rfl rfl (by kernel_rfl) (by kernel_rfl) (by dsimp only[zh,List.set]) ?_
    exact zar n10 hS0 hps
  have n4:N 6 3 G0:=by
   refine zqq hops hS0 hps 2 3 ?_ ?_
   ·
    refine w_o (a:=v5) ?_
    exact zar n8 hS0 hps
   ·
    refine zeh (.list (List.length ([noneT]:List Tr)) (Enc.cellsL ([noneT]:List Tr)) .none) (a0:= .list 1 ([.raw (.int .u8 0),.raw (.int .u64 0),.raw (.int .u64 0),.raw (.int .u64 0),.raw (.int .u64 0),.raw (.int .i64 0),.raw (.int .i64 0),.list 0 [] .full]) .full) rfl rfl rfl (by kernel_rfl) (by kernel_rfl) (by dsimp only[zh,List.set]) ?_
    exact zar n9 hS0 hps
  have n3:N 7 8 G0:=by
   refine zqq hops hS0 hps 0 1 ?_ ?_
   ·
    refine w_o (a:=v3) ?_
    exact zar n6 hS0 hps
   ·
    refine w_o (a:=v4) ?_
    exact zar n7 hS0 hps
  have n2:N 7 2 G0:=by
   refine zqq hops hS0 hps 0 3 ?_ ?_
   ·
    refine w_o (a:=v3) ?_
    exact zar n4 hS0 hps
   ·
    refine zeh (.list (List.length ([noneT]:List Tr)) (Enc.cellsL ([noneT]:List Tr)) .none) (a0:= .list 1 ([.raw (.int .u8 0),.raw (.int .u64 0),.raw (.int .u64 0),.raw (.int .u64 0),.raw (.int .u64 0),.raw (.int .i64 0),.raw (.int .i64 0),.list 0 [] .full]) .full) rfl rfl rfl (by kernel_rfl) (by kernel_rfl) (by dsimp only[zh,List.set]) ?_
    exact zar n7 hS0 hps
  have n1:N 7 1 G0:=by
   refine aN_3 hops hS0 hps 1 2 3 ?_ ?_ ?_
   ·
    refine w_o (a:=v4) ?_
    exact zar n4 hS0 hps
   ·
    refine w_o (a:=v5) ?_
    exact zar n5 hS0 hps
   ·
    refine zeh (.list (List.length ([noneT]:List Tr)) (Enc.cellsL ([noneT]:List Tr)) .none) (a0:= .list 1 ([.raw (.int .u8 0),.raw (.int .u64 0),.raw (.int .u64 0),.raw (.int .u64 0),.raw (.int .u64 0),.raw (.int .i64 0),.raw (.int .i64 0),.list 0 [] .full]) .full) rfl rfl rfl (by kernel_rfl) (by kernel_rfl) (by dsimp only[zh,List.set]) ?_
    exact zar n6 hS0 hps
  have n0:N 8 0 G0:=by
   refine aN_3 hops hS0 hps 0 1 3 ?_ ?_ ?_
   ·
    refine w_o (a:=v3) ?_
    exact zar n1 hS0 hps
   ·
    refine w_o (a:=v4) ?_
    exact zar n2 hS0 hps
   ·
    refine zeh (.list (List.length ([noneT]:List Tr)) (Enc.cellsL ([noneT]:List Tr)) .none) (a0:= .list 1 ([.raw (.int .u8 0),.raw (.int .u64 0),.raw (.int .u64 0),.raw (.int .u64 0),.raw (.int .u64 0),.raw (.int .i64 0),.raw (.int .i64 0),.list 0 [] .full]) .full) rfl rfl rfl (by kernel_rfl) (by kernel_rfl) (by dsimp only[zh,List.set]) ?_
    exact zar n3 hS0 hps
  exact znj n0 hps
 ·
  exact z1p (n:=2) (m:=0) [] [3] 1 rfl rfl rfl (by show St.mk [(27,zby _ _ [_]),(29,[]),(29,zby _ _ (Enc.cellsL _))] _ _ _ _=_;rw[zam _ _ (Enc.cellsL _) (Enc.cloL _),z2i];rfl)
end Go.Ab
