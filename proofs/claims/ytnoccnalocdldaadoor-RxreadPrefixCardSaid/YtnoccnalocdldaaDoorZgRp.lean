import Derived.Test.YtnoccnalocdldaaDoorZgR9
set_option linter.all false
set_option maxRecDepth 100000
set_option maxHeartbeats 4000000
open Go.Ab.Enc (nil)
open Sum (inl inr)
open Nat (le_refl zero_add)
open List (length length_cons length_append length_nil foldl cons_append nil_append isEmpty length_take)
open Go.Proofs.Tryd (prog)
namespace Go.Ab
open Go Go.RowKit Go.Fwd Go.Proofs
def zdy (p:Rd->Option (Tr×Rd))(k:Int)(r:Rd):Option (Tr×Rd):=
 (chk (length (zcr r.q)<2^40) (chk (-9223372036854775808<=(r.a+k)/\ (r.a+k)<9223372036854775808) (zai (p (Rd.mk r.s (r.a+k) r.e (zgh r.q r.a))) (fun x1=>(zdl (τ:=Rd) (zai (zgg x1.2) (fun x2=>(bif (x2.1==41) then(chk (-9223372036854775808<=(x2.2.a+1)/\ (x2.2.a+1)<9223372036854775808) (chk (-9223372036854775808<=((length (zcr x2.2.q):Int)-1)/\ ((length (zcr x2.2.q):Int)-1)<9223372036854775808) (chk (zcr x2.2.q≠[]) (some (inl ((Rd.mk x2.2.s (x2.2.a+1) x2.2.e (ztt x2.2.q)))))))) else(some (inl (x2.2)))))) (fun j1=>(some (x1.1,j1))))))))
theorem ent74:Ent prog 74:=enters_of Tryd.func74 (by kernel_rfl) rfl
theorem qil (p:Rd->Option (Tr×Rd))(k:Int)(r:Rd)(hp: ∀(r:Rd)(y:Tr×Rd),p r=some y->RdC prog 20 [] r (.agg (Enc.cells y.1)) y.2)(y:Tr×Rd)(h:zdy p k r=some y):RdC prog 74 [.raw (.int .i64 k)] r (.agg (Enc.cells (y.1:Tr))) y.2:=by
 obtain⟨d,hd⟩: ∃d,Tryd.f74.body=some d:=⟨_,rfl⟩;refine z7q mix Tryd.func74 hd ent74 (by first|rfl|exact(znr rfl rfl)) (by first|rfl|exact(zab (Enc.clo _))) (fun k0 hk0=> ?_);cases hd;unfold zdy at h;refine zbn (by dsimp only[zat,Tryd.f74,length_cons,length_nil,zero_add,Nat.reduceAdd,Nat.reduceSub,List.replicate,cons_append,nil_append]) (show rdS r.q r=⟨[(59,[.raw (.string (bs r.s)),.raw (.int .i64 r.a),.raw (.int .i64 r.e),(zbd 2 r.q)]),((zk r.q).1,[]),((zk r.q).1,(zk r.q).2)],[],[],0,false⟩ from rfl) ?_;refine zm (zc ?_);refine zcc (a:= .ptr 3 0) (U'':=(.B [(59,[.s r.s,.i r.a,.i r.e,(zbd 2 r.q)]),((zk r.q).1,[]),((zk r.q).1,(zk r.q).2),(33,[.u 0,.raw (.int .u64 0),.raw (.int .u64 0),.raw (.int .u64 0),.raw (.int .u64 0),.i 0,.i 0,.list 0 [] .full])])) ?_;obtain⟨g1,h⟩:=zr h;refine qfu (id:=1) [.ptr 0 0,.i k,.raw undef,.raw undef,.ptr 3 0,.raw undef,.ptr 0 0,.ptr 0 0,.ptr 0 0,.ptr 0 3,(zbd 2 r.q),.ptr 0 0,.ptr 0 0,.ptr 0 1,.i r.a,.F (([r.a]:List Int):List Int),(zbd 4 (zgh r.q r.a)),.ptr 0 0,.ptr 0 3,.raw undef,.raw undef,.raw undef,.raw undef,.raw undef,.raw undef,.raw undef,.raw undef,.raw undef,.raw undef,.raw undef,.raw undef,.raw undef,.raw undef,.raw undef,.raw undef,.raw undef,.raw undef,.raw undef,.raw undef,.raw undef,.raw undef,.raw undef,.raw undef,.raw undef,.raw undef,.raw undef,.raw undef,.raw undef,.raw undef,.raw undef,.raw undef,.raw undef,.raw undef,.raw undef] (.B [(59,[.s r.s,.i r.a,.i r.e,(zbd 4 (zgh r.q r.a))]),((zk r.q).1,[]),((zk r.q).1,[]),(33,[.u 0,.raw (.int .u64 0),.raw (.int .u64 0),.raw (.int .u64 0),.raw (.int .u64 0),.i 0,.i 0,.list 0 [] .full]),((zk (zgh r.q r.a)).1,(zk (zgh r.q r.a)).2)]) ?_ ?_
 .
  refine zpk (fun ops hops FIN hFIN S0 hS0=> ?_)
  let v8:AV:= .ptr 0 0
  let v12:AV:= .ptr 0 0
  let v9:AV:= .ptr 0 3
  let v13:AV:= .ptr 0 1
  let v10:AV:=(zbd 2 r.q)
  let v14:AV:= .i r.a
  let v15:AV:= .F (([r.a]:List Int):List Int)
  let v16:AV:=(zbd 4 (zgh r.q r.a))
  let v17:AV:= .ptr 0 0
  let v18:AV:= .ptr 0 3
  let G0:St:=(.B [(59,[.s r.s,.i r.a,.i r.e,(zbd 2 r.q)]),((zk r.q).1,[]),((zk r.q).1,(zk r.q).2),(33,[.u 0,.raw (.int .u64 0),.raw (.int .u64 0),.raw (.int .u64 0),.raw (.int .u64 0),.i 0,.i 0,.list 0 [] .full])])
  let G1:St:=(.B [(59,[.s r.s,.i r.a,.i r.e,(zbd 2 r.q)]),((zk r.q).1,[]),((zk r.q).1,[]),(33,[.u 0,.raw (.int .u64 0),.raw (.int .u64 0),.raw (.int .u64 0),.raw (.int .u64 0),.i 0,.i 0,.list 0 [] .full]),((zk (zgh r.q r.a)).1,(zk (zgh r.q r.a)).2)])
  let G2:St:=(.B [(59,[.s r.s,.i r.a,.i r.e,(zbd 4 (zgh r.q r.a))]),((zk r.q).1,[]),((zk r.q).1,[]),(33,[.u 0,.raw (.int .u64 0),.raw (.int .u64 0),.raw (.int .u64 0),.raw (.int .u64 0),.i 0,.i 0,.list 0 [] .full]),((zk (zgh r.q r.a)).1,(zk (zgh r.q r.a)).2)])
  obtain⟨ps,hps⟩: ∃ps:List (Option (Nat×AV)),ps=[some (6,.ptr 0 0),some (7,.ptr 0 0),some (8,v8),some (9,v9),some (10,v10),some (11,.ptr 0 0),some (12,v12),some (13,v13),some (14,v14),some (15,v15),some (16,v16),some (17,v17),some (18,v18),none]:=⟨_,rfl⟩
  let N:Nat->Nat->St->Prop:=fun k m U=>aN (ITP prog) prog none ops FIN S0 ps 14 k m U
  have n64:N 0 16383 G2:=by
   exact aN_0 hops hS0 hps (hFIN _ _ (Wk.refl _ _ _))
  have n63:N 1 8191 G1:=by
   refine zkl hops hS0 hps 13 ?_
   .
    refine zcc (U'':=G2) (h:=zux (k:=4) (q:=(zgh r.q r.a)) rfl rfl rfl rfl) ?_
    exact zg n64 hS0 hps
  have n62:N 2 4095 G1:=by
   refine zkl hops hS0 hps 12 ?_
   .
    refine w_o (a:=v18) ?_
    exact zg n63 hS0 hps
  have n61:N 3 2047 G1:=by
   refine zkl hops hS0 hps 11 ?_
   .
    refine w_o (a:=v17) ?_
    exact zg n62 hS0 hps
  have n60:N 4 2046 G1:=by
   refine zkl hops hS0 hps 0 ?_
   .
    refine zac ?_
    exact zg n61 hS0 hps
  have n59:N 4 1023 G0:=by
   refine zkl hops hS0 hps 10 ?_
   .
    refine z6u (a:=v16) (U'':=G1) rfl rfl rfl (qbz (b:=2) (q:=r.q) (a:=r.a) g1 rfl rfl rfl rfl rfl rfl rfl) (by dsimp only[zy,List.set]) rfl ?_
    exact zg n61 hS0 hps
  have n58:N 5 1022 G0:=by
   refine zel hops hS0 hps 0 10 ?_ ?_
   .
    refine zac ?_
    exact zg n59 hS0 hps
   .
    refine z6u (a:=v16) (U'':=G1) rfl rfl rfl (qbz (b:=2) (q:=r.q) (a:=r.a) g1 rfl rfl rfl rfl rfl rfl rfl) (by dsimp only[zy,List.set]) rfl ?_
    exact zg n60 hS0 hps
  have n57:N 5 1007 G0:=by
   refine zkl hops hS0 hps 4 ?_
   .
    refine w_o (a:=v10) ?_
    exact zg n59 hS0 hps
  have n56:N 5 511 G0:=by
   refine zkl hops hS0 hps 9 ?_
   .
    refine w_o (a:=v15) (h:=zbf (zhz (α:=Int) (l:=[r.a]) (cs:=Enc.cells (r.a:Int)++[]) rfl (by rw[Enc.cons,nil]))) ?_
    exact zg n59 hS0 hps
  have n55:N 6 1006 G0:=by
   refine zel hops hS0 hps 0 4 ?_ ?_
   .
    refine zac ?_
    exact zg n57 hS0 hps
   .
    refine w_o (a:=v10) ?_
    exact zg n58 hS0 hps
  have n54:N 6 510 G0:=by
   refine zel hops hS0 hps 0 9 ?_ ?_
   .
    refine zac ?_
    exact zg n56 hS0 hps
   .
    refine w_o (a:=v15) (h:=zbf (zhz (α:=Int) (l:=[r.a]) (cs:=Enc.cells (r.a:Int)++[]) rfl (by rw[Enc.cons,nil]))) ?_
    exact zg n58 hS0 hps
  have n53:N 6 999 G0:=by
   refine zkl hops hS0 hps 3 ?_
   .
    refine w_o (a:=v9) ?_
    exact zg n57 hS0 hps
  have n52:N 6 495 G0:=by
   refine zel hops hS0 hps 4 9 ?_ ?_
   .
    refine w_o (a:=v10) ?_
    exact zg n56 hS0 hps
   .
    refine w_o (a:=v15) (h:=zbf (zhz (α:=Int) (l:=[r.a]) (cs:=Enc.cells (r.a:Int)++[]) rfl (by rw[Enc.cons,nil]))) ?_
    exact zg n57 hS0 hps
  have n51:N 6 255 G0:=by
   refine zkl hops hS0 hps 8 ?_
   .
    refine w_o (a:=v14) ?_
    exact zg n56 hS0 hps
  have n50:N 7 998 G0:=by
   refine zel hops hS0 hps 0 3 ?_ ?_
   .
    refine zac ?_
    exact zg n53 hS0 hps
   .
    refine w_o (a:=v9) ?_
    exact zg n55 hS0 hps
  have n49:N 7 494 G0:=by
   refine zie hops hS0 hps 0 4 9 ?_ ?_ ?_
   .
    refine zac ?_
    exact zg n52 hS0 hps
   .
    refine w_o (a:=v10) ?_
    exact zg n54 hS0 hps
   .
    refine w_o (a:=v15) (h:=zbf (zhz (α:=Int) (l:=[r.a]) (cs:=Enc.cells (r.a:Int)++[]) rfl (by rw[Enc.cons,nil]))) ?_
    exact zg n55 hS0 hps
  have n48:N 7 254 G0:=by
   refine zel hops hS0 hps 0 8 ?_ ?_
   .
    refine zac ?_
    exact zg n51 hS0 hps
   .
    refine w_o (a:=v14) ?_
    exact zg n54 hS0 hps
  have n47:N 7 995 G0:=by
   refine zkl hops hS0 hps 2 ?_
   .
    refine w_o (a:=v8) ?_
    exact zg n53 hS0 hps
  have n46:N 7 487 G0:=by
   refine zel hops hS0 hps 3 9 ?_ ?_
   .
    refine w_o (a:=v9) ?_
    exact zg n52 hS0 hps
   .
    refine w_o (a:=v15) (h:=zbf (zhz (α:=Int) (l:=[r.a]) (cs:=Enc.cells (r.a:Int)++[]) rfl (by rw[Enc.cons,nil]))) ?_
    exact zg n53 hS0 hps
  have n45:N 7 239 G0:=by
   refine zel hops hS0 hps 4 8 ?_ ?_
   .
    refine w_o (a:=v10) ?_
    exact zg n51 hS0 hps
   .
    refine w_o (a:=v14) ?_
    exact zg n52 hS0 hps
  have n44:N 7 127 G0:=by
   refine zkl hops hS0 hps 7 ?_
   .
    refine w_o (a:=v13) ?_
    exact zg n51 hS0 hps
  have n43:N 8 994 G0:=by
   refine zel hops hS0 hps 0 2 ?_ ?_
   .
    refine zac ?_
    exact zg n47 hS0 hps
   .
    refine w_o (a:=v8) ?_
    exact zg n50 hS0 hps
  have n42:N 8 486 G0:=by
   refine zie hops hS0 hps 0 3 9 ?_ ?_ ?_
   .
    refine zac ?_
    exact zg n46 hS0 hps
   .
    refine w_o (a:=v9) ?_
    exact zg n49 hS0 hps
   .
    refine w_o (a:=v15) (h:=zbf (zhz (α:=Int) (l:=[r.a]) (cs:=Enc.cells (r.a:Int)++[]) rfl (by rw[Enc.cons,nil]))) ?_
    exact zg n50 hS0 hps
  have n41:N 8 238 G0:=by
   refine zie hops hS0 hps 0 4 8 ?_ ?_ ?_
   .
    refine zac ?_
    exact zg n45 hS0 hps
   .
    refine w_o (a:=v10) ?_
    exact zg n48 hS0 hps
   .
    refine w_o (a:=v14) ?_
    exact zg n49 hS0 hps
  have n40:N 8 126 G0:=by
   refine zel hops hS0 hps 0 7 ?_ ?_
   .
    refine zac ?_
    exact zg n44 hS0 hps
   .
    refine w_o (a:=v13) ?_
    exact zg n48 hS0 hps
  have n39:N 8 993 G0:=by
   refine zkl hops hS0 hps 1 ?_
   .
    refine zac ?_
    exact zg n47 hS0 hps
  have n38:N 8 483 G0:=by
   refine zel hops hS0 hps 2 9 ?_ ?_
   .
    refine w_o (a:=v8) ?_
    exact zg n46 hS0 hps
   .
    refine w_o (a:=v15) (h:=zbf (zhz (α:=Int) (l:=[r.a]) (cs:=Enc.cells (r.a:Int)++[]) rfl (by rw[Enc.cons,nil]))) ?_
    exact zg n47 hS0 hps
  have n37:N 8 231 G0:=by
   refine zel hops hS0 hps 3 8 ?_ ?_
   .
    refine w_o (a:=v9) ?_
    exact zg n45 hS0 hps
   .
    refine w_o (a:=v14) ?_
    exact zg n46 hS0 hps
  have n36:N 8 111 G0:=by
   refine zel hops hS0 hps 4 7 ?_ ?_
   .
    refine w_o (a:=v10) ?_
    exact zg n44 hS0 hps
   .
    refine w_o (a:=v13) ?_
    exact zg n45 hS0 hps
  have n35:N 8 63 G0:=by
   refine zkl hops hS0 hps 6 ?_
   .
    refine w_o (a:=v12) ?_
    exact zg n44 hS0 hps
  have n34:N 9 992 G0:=by
   refine zel hops hS0 hps 0 1 ?_ ?_
   .
    refine zac ?_
    exact zg n39 hS0 hps
   .
    refine zac ?_
    exact zg n43 hS0 hps
  have n33:N 9 482 G0:=by
   refine zie hops hS0 hps 0 2 9 ?_ ?_ ?_
   .
    refine zac ?_
    exact zg n38 hS0 hps
   .
    refine w_o (a:=v8) ?_
    exact zg n42 hS0 hps
   .
    refine w_o (a:=v15) (h:=zbf (zhz (α:=Int) (l:=[r.a]) (cs:=Enc.cells (r.a:Int)++[]) rfl (by rw[Enc.cons,nil]))) ?_
    exact zg n43 hS0 hps
  have n32:N 9 230 G0:=by
   refine zie hops hS0 hps 0 3 8 ?_ ?_ ?_
   .
    refine zac ?_
    exact zg n37 hS0 hps
   .
    refine w_o (a:=v9) ?_
    exact zg n41 hS0 hps
   .
    refine w_o (a:=v14) ?_
    exact zg n42 hS0 hps
  have n31:N 9 110 G0:=by
   refine zie hops hS0 hps 0 4 7 ?_ ?_ ?_
   .
    refine zac ?_
    exact zg n36 hS0 hps
   .
    refine w_o (a:=v10) ?_
    exact zg n40 hS0 hps
   .
    refine w_o (a:=v13) ?_
    exact zg n41 hS0 hps
  have n30:N 9 62 G0:=by
   refine zel hops hS0 hps 0 6 ?_ ?_
   .
    refine zac ?_
    exact zg n35 hS0 hps
   .
    refine w_o (a:=v12) ?_
    exact zg n40 hS0 hps
  have n29:N 9 481 G0:=by
   refine zel hops hS0 hps 1 9 ?_ ?_
   .
    refine zac ?_
    exact zg n38 hS0 hps
   .
    refine w_o (a:=v15) (h:=zbf (zhz (α:=Int) (l:=[r.a]) (cs:=Enc.cells (r.a:Int)++[]) rfl (by rw[Enc.cons,nil]))) ?_
    exact zg n39 hS0 hps
  have n28:N 9 227 G0:=by
   refine zel hops hS0 hps 2 8 ?_ ?_
   .
    refine w_o (a:=v8) ?_
    exact zg n37 hS0 hps
   .
    refine w_o (a:=v14) ?_
    exact zg n38 hS0 hps
  have n27:N 9 103 G0:=by
   refine zel hops hS0 hps 3 7 ?_ ?_
   .
    refine w_o (a:=v9) ?_
    exact zg n36 hS0 hps
   .
    refine w_o (a:=v13) ?_
    exact zg n37 hS0 hps
  have n26:N 9 47 G0:=by
   refine zel hops hS0 hps 4 6 ?_ ?_
   .
    refine w_o (a:=v10) ?_
    exact zg n35 hS0 hps
   .
    refine w_o (a:=v12) ?_
    exact zg n36 hS0 hps
  have n25:N 9 31 G0:=by
   refine zkl hops hS0 hps 5 ?_
   .
    refine zac ?_
    exact zg n35 hS0 hps
  have n24:N 10 480 G0:=by
   refine zie hops hS0 hps 0 1 9 ?_ ?_ ?_
   .
    refine zac ?_
    exact zg n29 hS0 hps
   .
    refine zac ?_
    exact zg n33 hS0 hps
   .
    refine w_o (a:=v15) (h:=zbf (zhz (α:=Int) (l:=[r.a]) (cs:=Enc.cells (r.a:Int)++[]) rfl (by rw[Enc.cons,nil]))) ?_
    exact zg n34 hS0 hps
  have n23:N 10 226 G0:=by
   refine zie hops hS0 hps 0 2 8 ?_ ?_ ?_
   .
    refine zac ?_
    exact zg n28 hS0 hps
   .
    refine w_o (a:=v8) ?_
    exact zg n32 hS0 hps
   .
    refine w_o (a:=v14) ?_
    exact zg n33 hS0 hps
  have n22:N 10 102 G0:=by
   refine zie hops hS0 hps 0 3 7 ?_ ?_ ?_
   .
    refine zac ?_
    exact zg n27 hS0 hps
   .
    refine w_o (a:=v9) ?_
    exact zg n31 hS0 hps
   .
    refine w_o (a:=v13) ?_
    exact zg n32 hS0 hps
  have n21:N 10 46 G0:=by
   refine zie hops hS0 hps 0 4 6 ?_ ?_ ?_
   .
    refine zac ?_
    exact zg n26 hS0 hps
   .
    refine w_o (a:=v10) ?_
    exact zg n30 hS0 hps
   .
    refine w_o (a:=v12) ?_
    exact zg n31 hS0 hps
  have n20:N 10 30 G0:=by
   refine zel hops hS0 hps 0 5 ?_ ?_
   .
    refine zac ?_
    exact zg n25 hS0 hps
   .
    refine zac ?_
    exact zg n30 hS0 hps
  have n19:N 10 225 G0:=by
   refine zel hops hS0 hps 1 8 ?_ ?_
   .
    refine zac ?_
    exact zg n28 hS0 hps
   .
    refine w_o (a:=v14) ?_
    exact zg n29 hS0 hps
  have n18:N 10 99 G0:=by
   refine zel hops hS0 hps 2 7 ?_ ?_
   .
    refine w_o (a:=v8) ?_
    exact zg n27 hS0 hps
   .
    refine w_o (a:=v13) ?_
    exact zg n28 hS0 hps
  have n17:N 10 39 G0:=by
   refine zel hops hS0 hps 3 6 ?_ ?_
   .
    refine w_o (a:=v9) ?_
    exact zg n26 hS0 hps
   .
    refine w_o (a:=v12) ?_
    exact zg n27 hS0 hps
  have n16:N 10 15 G0:=by
   refine zel hops hS0 hps 4 5 ?_ ?_
   .
    refine w_o (a:=v10) ?_
    exact zg n25 hS0 hps
   .
    refine zac ?_
    exact zg n26 hS0 hps
  have n15:N 11 224 G0:=by
   refine zie hops hS0 hps 0 1 8 ?_ ?_ ?_
   .
    refine zac ?_
    exact zg n19 hS0 hps
   .
    refine zac ?_
    exact zg n23 hS0 hps
   .
    refine w_o (a:=v14) ?_
    exact zg n24 hS0 hps
  have n14:N 11 98 G0:=by
   refine zie hops hS0 hps 0 2 7 ?_ ?_ ?_
   .
    refine zac ?_
    exact zg n18 hS0 hps
   .
    refine w_o (a:=v8) ?_
    exact zg n22 hS0 hps
   .
    refine w_o (a:=v13) ?_
    exact zg n23 hS0 hps
  have n13:N 11 38 G0:=by
   refine zie hops hS0 hps 0 3 6 ?_ ?_ ?_
   .
    refine zac ?_
    exact zg n17 hS0 hps
   .
    refine w_o (a:=v9) ?_
    exact zg n21 hS0 hps
   .
    refine w_o (a:=v12) ?_
    exact zg n22 hS0 hps
  have n12:N 11 14 G0:=by
   refine zie hops hS0 hps 0 4 5 ?_ ?_ ?_
   .
    refine zac ?_
    exact zg n16 hS0 hps
   .
    refine w_o (a:=v10) ?_
    exact zg n20 hS0 hps
   .
    refine zac ?_
    exact zg n21 hS0 hps
  have n11:N 11 97 G0:=by
   refine zel hops hS0 hps 1 7 ?_ ?_
   .
    refine zac ?_
    exact zg n18 hS0 hps
   .
    refine w_o (a:=v13) ?_
    exact zg n19 hS0 hps
  have n10:N 11 35 G0:=by
   refine zel hops hS0 hps 2 6 ?_ ?_
   .
    refine w_o (a:=v8) ?_
    exact zg n17 hS0 hps
   .
    refine w_o (a:=v12) ?_
    exact zg n18 hS0 hps
  have n9:N 11 7 G0:=by
   refine zel hops hS0 hps 3 5 ?_ ?_
   .
    refine w_o (a:=v9) ?_
    exact zg n16 hS0 hps
   .
    refine zac ?_
    exact zg n17 hS0 hps
  have n8:N 12 96 G0:=by
   refine zie hops hS0 hps 0 1 7 ?_ ?_ ?_
   .
    refine zac ?_
    exact zg n11 hS0 hps
   .
    refine zac ?_
    exact zg n14 hS0 hps
   .
    refine w_o (a:=v13) ?_
    exact zg n15 hS0 hps
  have n7:N 12 34 G0:=by
   refine zie hops hS0 hps 0 2 6 ?_ ?_ ?_
   .
    refine zac ?_
    exact zg n10 hS0 hps
   .
    refine w_o (a:=v8) ?_
    exact zg n13 hS0 hps
   .
    refine w_o (a:=v12) ?_
    exact zg n14 hS0 hps
  have n6:N 12 6 G0:=by
   refine zie hops hS0 hps 0 3 5 ?_ ?_ ?_
   .
    refine zac ?_
    exact zg n9 hS0 hps
   .
    refine w_o (a:=v9) ?_
    exact zg n12 hS0 hps
   .
    refine zac ?_
    exact zg n13 hS0 hps
  have n5:N 12 33 G0:=by
   refine zel hops hS0 hps 1 6 ?_ ?_
   .
    refine zac ?_
    exact zg n10 hS0 hps
   .
    refine w_o (a:=v12) ?_
    exact zg n11 hS0 hps
  have n4:N 12 3 G0:=by
   refine zel hops hS0 hps 2 5 ?_ ?_
   .
    refine w_o (a:=v8) ?_
    exact zg n9 hS0 hps
   .
    refine zac ?_
    exact zg n10 hS0 hps
  have n3:N 13 32 G0:=by
   refine zie hops hS0 hps 0 1 6 ?_ ?_ ?_
   .
    refine zac ?_
    exact zg n5 hS0 hps
   .
    refine zac ?_
    exact zg n7 hS0 hps
   .
    refine w_o (a:=v12) ?_
    exact zg n8 hS0 hps
  have n2:N 13 2 G0:=by
   refine zie hops hS0 hps 0 2 5 ?_ ?_ ?_
   .
    refine zac ?_
    exact zg n4 hS0 hps
   .
    refine w_o (a:=v8) ?_
    exact zg n6 hS0 hps
   .
    refine zac ?_
    exact zg n7 hS0 hps
  have n1:N 13 1 G0:=by
   refine zel hops hS0 hps 1 5 ?_ ?_
   .
    refine zac ?_
    exact zg n4 hS0 hps
   .
    refine zac ?_
    exact zg n5 hS0 hps
  have n0:N 14 0 G0:=by
   refine zie hops hS0 hps 0 1 5 ?_ ?_ ?_
   .
    refine zac ?_
    exact zg n1 hS0 hps
   .
    refine zac ?_
    exact zg n2 hS0 hps
   .
    refine zac ?_
    exact zg n3 hS0 hps
  exact zvj n0 hps
 .
  refine zm (zc ?_)
  refine zac ?_
  refine w_o (a:= .ptr 0 0) ?_
  refine w_o (a:= .ptr 0 1) ?_
  refine w_o (a:= .i r.a) ?_
  refine zac ?_
  obtain⟨g2,h⟩:=zr h
  refine w_o (a:= .i (r.a+k)) (h:=zbf (znz rfl rfl rfl rfl g2.1 g2.2)) ?_
  refine w_o (a:= .ptr 0 0) ?_
  refine w_o (a:= .ptr 0 1) ?_
  refine zcc (U'':=(.B [(59,[.s r.s,.i (r.a+k),.i r.e,(zbd 4 (zgh r.q r.a))]),((zk r.q).1,[]),((zk r.q).1,[]),(33,[.u 0,.raw (.int .u64 0),.raw (.int .u64 0),.raw (.int .u64 0),.raw (.int .u64 0),.i 0,.i 0,.list 0 [] .full]),((zk (zgh r.q r.a)).1,(zk (zgh r.q r.a)).2)])) (h:=zcv (n:=1) rfl rfl rfl rfl rfl ⟨rfl,rfl,Nat.le_of_ble_eq_true rfl,by decide⟩) ?_
  refine zgs (zc ?_)
  refine zac ?_
  obtain⟨x1,hx1,h⟩:=zv h
  refine zgw (r:= .A (x1.1:Tr)) (U':=(.B [(59,[.s x1.2.s,.i x1.2.a,.i x1.2.e,(zbd 5 x1.2.q)]),((zk r.q).1,[]),((zk r.q).1,[]),(33,[.u 0,.raw (.int .u64 0),.raw (.int .u64 0),.raw (.int .u64 0),.raw (.int .u64 0),.i 0,.i 0,.list 0 [] .full]),((zk (zgh r.q r.a)).1,[]),((zk x1.2.q).1,(zk x1.2.q).2)])) ((hp (Rd.mk r.s (r.a+k) r.e (zgh r.q r.a)) x1 hx1) _ 4 (by decide) rfl rfl) rfl rfl ⟨rfl,rfl⟩ (by dsimp only[zy,List.set]) ?_
  refine zcc (a:= .ptr 6 0) (U'':=(.B [(59,[.s x1.2.s,.i x1.2.a,.i x1.2.e,(zbd 5 x1.2.q)]),((zk r.q).1,[]),((zk r.q).1,[]),(33,[.u 0,.raw (.int .u64 0),.raw (.int .u64 0),.raw (.int .u64 0),.raw (.int .u64 0),.i 0,.i 0,.list 0 [] .full]),((zk (zgh r.q r.a)).1,[]),((zk x1.2.q).1,(zk x1.2.q).2),(33,[.u 0,.raw (.int .u64 0),.raw (.int .u64 0),.raw (.int .u64 0),.raw (.int .u64 0),.i 0,.i 0,.list 0 [] .full])])) ?_
  refine zcc (U'':=(.B [(59,[.s x1.2.s,.i x1.2.a,.i x1.2.e,(zbd 5 x1.2.q)]),((zk r.q).1,[]),((zk r.q).1,[]),(33,[.u 0,.raw (.int .u64 0),.raw (.int .u64 0),.raw (.int .u64 0),.raw (.int .u64 0),.i 0,.i 0,.list 0 [] .full]),((zk (zgh r.q r.a)).1,[]),((zk x1.2.q).1,(zk x1.2.q).2),(33,(Enc.cells (x1.1:Tr)))])) (h:=zay (n:=8) rfl rfl rfl rfl rfl rfl rfl rfl (by decide)) ?_
  refine zkm (S':=[.ptr 0 0,.top,.top,.top,.ptr 3 0,.ptr 4 0,.top,.top,.top,.top,.top,.top,.top,.top,.top,.top,.top,.top,.top,.top,.top,.top,.top,.top,.top,.top,.top,.top,.top,.top,.top,.top,.top,.top,.top,.top,.top,.top,.top,.top,.top,.top,.top,.top,.top,.top,.top,.top,.top,.top,.top,.top,.top,.top]) (U':=(.B [(59,[.s x1.2.s,.i x1.2.a,.i x1.2.e,(zbd 2 x1.2.q)]),((zk r.q).1,[]),((zk x1.2.q).1,(zk x1.2.q).2),(33,[.u 0,.raw (.int .u64 0),.raw (.int .u64 0),.raw (.int .u64 0),.raw (.int .u64 0),.i 0,.i 0,.list 0 [] .full]),(33,(Enc.cells (x1.1:Tr)))])) (zdr [zzT,zzF,zzF,zzF,zzT,zzT,zzF,zzF,zzF,zzF,zzF,zzF,zzF,zzF,zzF,zzF,zzF,zzF,zzF,zzF,zzF,zzF,zzF,zzF,zzF,zzF,zzF,zzF,zzF,zzF,zzF,zzF,zzF,zzF,zzF,zzF,zzF,zzF,zzF,zzF,zzF,zzF,zzF,zzF,zzF,zzF,zzF,zzF,zzF,zzF,zzF,zzF,zzF,zzF] 2 [] [5,3,6] 1 hk0 rfl (zah rfl (zag (zag (zag (zah rfl (zah rfl (zj (zj (zj (zj (zj (zj zcw)))))))))))) (zax rfl (zb (zd _ _ _ rfl) (zb (zd _ _ _ rfl) (zb (zd _ _ _ rfl) (zb (zas (fun _=>rfl)) zf)))) zf (zi rfl (zu _ _ _) (zi rfl rfl (zi rfl (zau _ _ _ (Enc.clo _)) zaq))) rfl)) ?_
  refine zbk h [0,29,30,31,32,33,34,35,36,37,38,39,40,41,42,43,44,45,46,47,48,49,50,51,52] (fun j1=>[]) (fun j1=>(.B [(59,[.s j1.s,.i j1.a,.i j1.e,(zbd 2 j1.q)]),((zk r.q).1,[]),((zk j1.q).1,(zk j1.q).2),(33,[.u 0,.raw (.int .u64 0),.raw (.int .u64 0),.raw (.int .u64 0),.raw (.int .u64 0),.i 0,.i 0,.list 0 [] .full]),(33,(Enc.cells (x1.1:Tr)))])) ?_ ?_
  .
   intro or1 h hr1
   refine zgs (zc ?_)
   refine zac ?_
   obtain⟨x2,hx2,h⟩:=zv h
   refine zgw (r:= .u x2.1) (U':=(.B [(59,[.s x2.2.s,.i x2.2.a,.i x2.2.e,(zbd 5 x2.2.q)]),((zk r.q).1,[]),((zk x1.2.q).1,[]),(33,[.u 0,.raw (.int .u64 0),.raw (.int .u64 0),.raw (.int .u64 0),.raw (.int .u64 0),.i 0,.i 0,.list 0 [] .full]),(33,(Enc.cells (x1.1:Tr))),((zk x2.2.q).1,(zk x2.2.q).2)])) ((zpi x1.2 x2 hx2) _ 2 (by decide) rfl rfl) rfl rfl ⟨rfl,rfl⟩ (by dsimp only[zy,List.set]) ?_
   refine w_o (a:= .b (x2.1==41)) ?_
   refine zkm (S':=[.ptr 0 0,.top,.top,.top,.ptr 3 0,.ptr 4 0,.top,.top,.top,.top,.top,.top,.top,.top,.top,.top,.top,.top,.top,.top,.top,.top,.top,.top,.top,.top,.top,.top,.top,.top,.top,.b (x2.1==41),.top,.top,.top,.top,.top,.top,.top,.top,.top,.top,.top,.top,.top,.top,.top,.top,.top,.top,.top,.top,.top,.top]) (U':=(.B [(59,[.s x2.2.s,.i x2.2.a,.i x2.2.e,(zbd 2 x2.2.q)]),((zk r.q).1,[]),((zk x2.2.q).1,(zk x2.2.q).2),(33,[.u 0,.raw (.int .u64 0),.raw (.int .u64 0),.raw (.int .u64 0),.raw (.int .u64 0),.i 0,.i 0,.list 0 [] .full]),(33,(Enc.cells (x1.1:Tr)))])) (zdr [zzT,zzF,zzF,zzF,zzT,zzT,zzF,zzF,zzF,zzF,zzF,zzF,zzF,zzF,zzF,zzF,zzF,zzF,zzF,zzF,zzF,zzF,zzF,zzF,zzF,zzF,zzF,zzF,zzF,zzF,zzF,zzT,zzF,zzF,zzF,zzF,zzF,zzF,zzF,zzF,zzF,zzF,zzF,zzF,zzF,zzF,zzF,zzF,zzF,zzF,zzF,zzF,zzF,zzF] 2 [] [5,3,4] 1 hk0 rfl (zah rfl (zag (zag (zag (zah rfl (zah rfl (zj (zj (zj (zag (zah (zd _ _ _ rfl) (zj (zj (zag (zag (zag (zag (zag (zag zcw))))))))))))))))))) (zax rfl (zb (zd _ _ _ rfl) (zb (zd _ _ _ rfl) (zb (zd _ _ _ rfl) (zb (zas (fun _=>rfl)) zf)))) zf (zi rfl (zu _ _ _) (zi rfl rfl (zi rfl (zau _ _ _ (Enc.clo _)) zaq))) rfl)) ?_
   refine zt h (fun hc1 h=> ?_) (fun hc1 h=> ?_)
   .
    refine zbv hc1 rfl ?_
    refine zm (zc ?_)
    refine zac ?_
    refine w_o (a:= .ptr 0 0) ?_
    refine w_o (a:= .ptr 0 1) ?_
    refine w_o (a:= .i x2.2.a) ?_
    obtain⟨g3,h⟩:=zr h
    refine w_o (a:= .i (x2.2.a+1)) (h:=zbf (znz rfl rfl rfl rfl g3.1 g3.2)) ?_
    refine w_o (a:= .ptr 0 0) ?_
    refine w_o (a:= .ptr 0 1) ?_
    refine zcc (U'':=(.B [(59,[.s x2.2.s,.i (x2.2.a+1),.i x2.2.e,(zbd 2 x2.2.q)]),((zk r.q).1,[]),((zk x2.2.q).1,(zk x2.2.q).2),(33,[.u 0,.raw (.int .u64 0),.raw (.int .u64 0),.raw (.int .u64 0),.raw (.int .u64 0),.i 0,.i 0,.list 0 [] .full]),(33,(Enc.cells (x1.1:Tr)))])) (h:=zcv (n:=1) rfl rfl rfl rfl rfl ⟨rfl,rfl,Nat.le_of_ble_eq_true rfl,by decide⟩) ?_
    obtain⟨g4,h⟩:=zr h
    obtain⟨g5,h⟩:=zr h
    refine qgp (k0:=k0) (id:=6) [.ptr 0 0,.top,.top,.top,.ptr 3 0,.ptr 4 0,.top,.top,.top,.top,.top,.top,.top,.top,.top,.top,.top,.top,.top,.top,.top,.top,.top,.top,.top,.top,.top,.top,.top,.top,.top,.b (x2.1==41),.ptr 0 0,.ptr 0 0,.ptr 0 1,.i x2.2.a,.i (x2.2.a+1),.ptr 0 0,.ptr 0 1,.ptr 0 0,.ptr 0 0,.ptr 0 0,.ptr 0 3,(zbd 2 x2.2.q),.ptr 0 0,.ptr 0 0,.ptr 0 3,(zbd 2 x2.2.q),.i (length (zcr x2.2.q):Int),.i ((length (zcr x2.2.q):Int)-1),(zbd 2 (ztt x2.2.q)),.ptr 0 0,.ptr 0 3,.top] (.B [(59,[.s x2.2.s,.i (x2.2.a+1),.i x2.2.e,(zbd 2 (ztt x2.2.q))]),((zk r.q).1,[]),((zk x2.2.q).1,(zk x2.2.q).2),(33,[.u 0,.raw (.int .u64 0),.raw (.int .u64 0),.raw (.int .u64 0),.raw (.int .u64 0),.i 0,.i 0,.list 0 [] .full]),(33,(Enc.cells (x1.1:Tr)))]) ?_ ?_
    .
     refine zpk (fun ops hops FIN hFIN S0 hS0=> ?_)
     let v41:AV:= .ptr 0 0
     let v45:AV:= .ptr 0 0
     let v42:AV:= .ptr 0 3
     let v46:AV:= .ptr 0 3
     let v43:AV:=(zbd 2 x2.2.q)
     let v47:AV:=(zbd 2 x2.2.q)
     let v48:AV:= .i (length (zcr x2.2.q):Int)
     let v49:AV:= .i ((length (zcr x2.2.q):Int)-1)
     let v51:AV:= .ptr 0 0
     let v52:AV:= .ptr 0 3
     let G0:St:=(.B [(59,[.s x2.2.s,.i (x2.2.a+1),.i x2.2.e,(zbd 2 x2.2.q)]),((zk r.q).1,[]),((zk x2.2.q).1,(zk x2.2.q).2),(33,[.u 0,.raw (.int .u64 0),.raw (.int .u64 0),.raw (.int .u64 0),.raw (.int .u64 0),.i 0,.i 0,.list 0 [] .full]),(33,(Enc.cells (x1.1:Tr)))])
     let G1:St:=(.B [(59,[.s x2.2.s,.i (x2.2.a+1),.i x2.2.e,(zbd 2 (ztt x2.2.q))]),((zk r.q).1,[]),((zk x2.2.q).1,(zk x2.2.q).2),(33,[.u 0,.raw (.int .u64 0),.raw (.int .u64 0),.raw (.int .u64 0),.raw (.int .u64 0),.i 0,.i 0,.list 0 [] .full]),(33,(Enc.cells (x1.1:Tr)))])
     obtain⟨ps,hps⟩: ∃ps:List (Option (Nat×AV)),ps=[some (39,.ptr 0 0),some (40,.ptr 0 0),some (41,v41),some (42,v42),some (43,v43),some (44,.ptr 0 0),some (45,v45),some (46,v46),some (47,v47),some (48,v48),some (49,v49),some (50,(zbd 2 (ztt x2.2.q))),some (51,v51),some (52,v52),none]:=⟨_,rfl⟩
     let N:Nat->Nat->St->Prop:=fun k m U=>aN (ITP prog) prog none ops FIN S0 ps 15 k m U
     have n74:N 0 32767 G1:=by
      exact aN_0 hops hS0 hps (hFIN _ _ ⟨rfl,rfl⟩)
     have n73:N 1 16383 G0:=by
      refine zkl hops hS0 hps 14 ?_
      .
       refine zcc (U'':=G1) (h:=zux (k:=2) (q:=(ztt x2.2.q)) rfl rfl rfl rfl) ?_
       exact zg n74 hS0 hps
     have n72:N 2 8191 G0:=by
      refine zkl hops hS0 hps 13 ?_
      .
       refine w_o (a:=v52) ?_
       exact zg n73 hS0 hps
     have n71:N 3 4095 G0:=by
      refine zkl hops hS0 hps 12 ?_
      .
       refine w_o (a:=v51) ?_
       exact zg n72 hS0 hps
     have n70:N 4 4094 G0:=by
      refine zkl hops hS0 hps 0 ?_
      .
       refine zac ?_
       exact zg n71 hS0 hps
     have n69:N 4 2047 G0:=by
      refine zkl hops hS0 hps 11 ?_
      .
       refine w_pop (b:=2) (q:=x2.2.q) g5 rfl rfl rfl rfl rfl rfl (by dsimp only[zy,List.set]) ?_
       exact zg n71 hS0 hps
     have n68:N 5 2046 G0:=by
      refine zel hops hS0 hps 0 11 ?_ ?_
      .
       refine zac ?_
       exact zg n69 hS0 hps
      .
       refine w_pop (b:=2) (q:=x2.2.q) g5 rfl rfl rfl rfl rfl rfl (by dsimp only[zy,List.set]) ?_
       exact zg n70 hS0 hps
     have n67:N 5 2031 G0:=by
      refine zkl hops hS0 hps 4 ?_
      .
       refine w_o (a:=v43) ?_
       exact zg n69 hS0 hps
     have n66:N 5 1023 G0:=by
      refine zkl hops hS0 hps 10 ?_
      .
       refine w_o (a:=v49) (h:=zbf (zno rfl rfl rfl rfl g4.1 g4.2)) ?_
       exact zg n69 hS0 hps
     have n65:N 6 2030 G0:=by
      refine zel hops hS0 hps 0 4 ?_ ?_
      .
       refine zac ?_
       exact zg n67 hS0 hps
      .
       refine w_o (a:=v43) ?_
       exact zg n68 hS0 hps
     have n64:N 6 1022 G0:=by
      refine zel hops hS0 hps 0 10 ?_ ?_
      .
       refine zac ?_
       exact zg n66 hS0 hps
      .
       refine w_o (a:=v49) (h:=zbf (zno rfl rfl rfl rfl g4.1 g4.2)) ?_
       exact zg n68 hS0 hps
     have n63:N 6 2023 G0:=by
      refine zkl hops hS0 hps 3 ?_
      .
       refine w_o (a:=v42) ?_
       exact zg n67 hS0 hps
     have n62:N 6 1007 G0:=by
      refine zel hops hS0 hps 4 10 ?_ ?_
      .
       refine w_o (a:=v43) ?_
       exact zg n66 hS0 hps
      .
       refine w_o (a:=v49) (h:=zbf (zno rfl rfl rfl rfl g4.1 g4.2)) ?_
       exact zg n67 hS0 hps
     have n61:N 6 511 G0:=by
      refine zkl hops hS0 hps 9 ?_
      .
       refine w_o (a:=v48) (h:=zbf (zha (b:=2) (q:=x2.2.q) rfl rfl)) ?_
       exact zg n66 hS0 hps
     have n60:N 7 2022 G0:=by
      refine zel hops hS0 hps 0 3 ?_ ?_
      .
       refine zac ?_
       exact zg n63 hS0 hps
      .
       refine w_o (a:=v42) ?_
       exact zg n65 hS0 hps
     have n59:N 7 1006 G0:=by
      refine zie hops hS0 hps 0 4 10 ?_ ?_ ?_
      .
       refine zac ?_
       exact zg n62 hS0 hps
      .
       refine w_o (a:=v43) ?_
       exact zg n64 hS0 hps
      .
       refine w_o (a:=v49) (h:=zbf (zno rfl rfl rfl rfl g4.1 g4.2)) ?_
       exact zg n65 hS0 hps
     have n58:N 7 510 G0:=by
      refine zel hops hS0 hps 0 9 ?_ ?_
      .
       refine zac ?_
       exact zg n61 hS0 hps
      .
       refine w_o (a:=v48) (h:=zbf (zha (b:=2) (q:=x2.2.q) rfl rfl)) ?_
       exact zg n64 hS0 hps
     have n57:N 7 2019 G0:=by
      refine zkl hops hS0 hps 2 ?_
      .
       refine w_o (a:=v41) ?_
       exact zg n63 hS0 hps
     have n56:N 7 999 G0:=by
      refine zel hops hS0 hps 3 10 ?_ ?_
      .
       refine w_o (a:=v42) ?_
       exact zg n62 hS0 hps
      .
       refine w_o (a:=v49) (h:=zbf (zno rfl rfl rfl rfl g4.1 g4.2)) ?_
       exact zg n63 hS0 hps
     have n55:N 7 495 G0:=by
      refine zel hops hS0 hps 4 9 ?_ ?_
      .
       refine w_o (a:=v43) ?_
       exact zg n61 hS0 hps
      .
       refine w_o (a:=v48) (h:=zbf (zha (b:=2) (q:=x2.2.q) rfl rfl)) ?_
       exact zg n62 hS0 hps
     have n54:N 7 255 G0:=by
      refine zkl hops hS0 hps 8 ?_
      .
       refine w_o (a:=v47) ?_
       exact zg n61 hS0 hps
     have n53:N 8 2018 G0:=by
      refine zel hops hS0 hps 0 2 ?_ ?_
      .
       refine zac ?_
       exact zg n57 hS0 hps
      .
       refine w_o (a:=v41) ?_
       exact zg n60 hS0 hps
     have n52:N 8 998 G0:=by
      refine zie hops hS0 hps 0 3 10 ?_ ?_ ?_
      .
       refine zac ?_
       exact zg n56 hS0 hps
      .
       refine w_o (a:=v42) ?_
       exact zg n59 hS0 hps
      .
       refine w_o (a:=v49) (h:=zbf (zno rfl rfl rfl rfl g4.1 g4.2)) ?_
       exact zg n60 hS0 hps
     have n51:N 8 494 G0:=by
      refine zie hops hS0 hps 0 4 9 ?_ ?_ ?_
      .
       refine zac ?_
       exact zg n55 hS0 hps
      .
       refine w_o (a:=v43) ?_
       exact zg n58 hS0 hps
      .
       refine w_o (a:=v48) (h:=zbf (zha (b:=2) (q:=x2.2.q) rfl rfl)) ?_
       exact zg n59 hS0 hps
     have n50:N 8 254 G0:=by
      refine zel hops hS0 hps 0 8 ?_ ?_
      .
       refine zac ?_
       exact zg n54 hS0 hps
      .
       refine w_o (a:=v47) ?_
       exact zg n58 hS0 hps
     have n49:N 8 2017 G0:=by
      refine zkl hops hS0 hps 1 ?_
      .
       refine zac ?_
       exact zg n57 hS0 hps
     have n48:N 8 995 G0:=by
      refine zel hops hS0 hps 2 10 ?_ ?_
      .
       refine w_o (a:=v41) ?_
       exact zg n56 hS0 hps
      .
       refine w_o (a:=v49) (h:=zbf (zno rfl rfl rfl rfl g4.1 g4.2)) ?_
       exact zg n57 hS0 hps
     have n47:N 8 487 G0:=by
      refine zel hops hS0 hps 3 9 ?_ ?_
      .
       refine w_o (a:=v42) ?_
       exact zg n55 hS0 hps
      .
       refine w_o (a:=v48) (h:=zbf (zha (b:=2) (q:=x2.2.q) rfl rfl)) ?_
       exact zg n56 hS0 hps
     have n46:N 8 239 G0:=by
      refine zel hops hS0 hps 4 8 ?_ ?_
      .
       refine w_o (a:=v43) ?_
       exact zg n54 hS0 hps
      .
       refine w_o (a:=v47) ?_
       exact zg n55 hS0 hps
     have n45:N 8 127 G0:=by
      refine zkl hops hS0 hps 7 ?_
      .
       refine w_o (a:=v46) ?_
       exact zg n54 hS0 hps
     have n44:N 9 2016 G0:=by
      refine zel hops hS0 hps 0 1 ?_ ?_
      .
       refine zac ?_
       exact zg n49 hS0 hps
      .
       refine zac ?_
       exact zg n53 hS0 hps
     have n43:N 9 994 G0:=by
      refine zie hops hS0 hps 0 2 10 ?_ ?_ ?_
      .
       refine zac ?_
       exact zg n48 hS0 hps
      .
       refine w_o (a:=v41) ?_
       exact zg n52 hS0 hps
      .
       refine w_o (a:=v49) (h:=zbf (zno rfl rfl rfl rfl g4.1 g4.2)) ?_
       exact zg n53 hS0 hps
     have n42:N 9 486 G0:=by
      refine zie hops hS0 hps 0 3 9 ?_ ?_ ?_
      .
       refine zac ?_
       exact zg n47 hS0 hps
      .
       refine w_o (a:=v42) ?_
       exact zg n51 hS0 hps
      .
       refine w_o (a:=v48) (h:=zbf (zha (b:=2) (q:=x2.2.q) rfl rfl)) ?_
       exact zg n52 hS0 hps
     have n41:N 9 238 G0:=by
      refine zie hops hS0 hps 0 4 8 ?_ ?_ ?_
      .
       refine zac ?_
       exact zg n46 hS0 hps
      .
       refine w_o (a:=v43) ?_
       exact zg n50 hS0 hps
      .
       refine w_o (a:=v47) ?_
       exact zg n51 hS0 hps
     have n40:N 9 126 G0:=by
      refine zel hops hS0 hps 0 7 ?_ ?_
      .
       refine zac ?_
       exact zg n45 hS0 hps
      .
       refine w_o (a:=v46) ?_
       exact zg n50 hS0 hps
     have n39:N 9 993 G0:=by
      refine zel hops hS0 hps 1 10 ?_ ?_
      .
       refine zac ?_
       exact zg n48 hS0 hps
      .
       refine w_o (a:=v49) (h:=zbf (zno rfl rfl rfl rfl g4.1 g4.2)) ?_
       exact zg n49 hS0 hps
     have n38:N 9 483 G0:=by
      refine zel hops hS0 hps 2 9 ?_ ?_
      .
       refine w_o (a:=v41) ?_
       exact zg n47 hS0 hps
      .
       refine w_o (a:=v48) (h:=zbf (zha (b:=2) (q:=x2.2.q) rfl rfl)) ?_
       exact zg n48 hS0 hps
     have n37:N 9 231 G0:=by
      refine zel hops hS0 hps 3 8 ?_ ?_
      .
       refine w_o (a:=v42) ?_
       exact zg n46 hS0 hps
      .
       refine w_o (a:=v47) ?_
       exact zg n47 hS0 hps
     have n36:N 9 111 G0:=by
      refine zel hops hS0 hps 4 7 ?_ ?_
      .
       refine w_o (a:=v43) ?_
       exact zg n45 hS0 hps
      .
       refine w_o (a:=v46) ?_
       exact zg n46 hS0 hps
     have n35:N 9 63 G0:=by
      refine zkl hops hS0 hps 6 ?_
      .
       refine w_o (a:=v45) ?_
       exact zg n45 hS0 hps
     have n34:N 10 992 G0:=by
      refine zie hops hS0 hps 0 1 10 ?_ ?_ ?_
      .
       refine zac ?_
       exact zg n39 hS0 hps
      .
       refine zac ?_
       exact zg n43 hS0 hps
      .
       refine w_o (a:=v49) (h:=zbf (zno rfl rfl rfl rfl g4.1 g4.2)) ?_
       exact zg n44 hS0 hps
     have n33:N 10 482 G0:=by
      refine zie hops hS0 hps 0 2 9 ?_ ?_ ?_
      .
       refine zac ?_
       exact zg n38 hS0 hps
      .
       refine w_o (a:=v41) ?_
       exact zg n42 hS0 hps
      .
       refine w_o (a:=v48) (h:=zbf (zha (b:=2) (q:=x2.2.q) rfl rfl)) ?_
       exact zg n43 hS0 hps
     have n32:N 10 230 G0:=by
      refine zie hops hS0 hps 0 3 8 ?_ ?_ ?_
      .
       refine zac ?_
       exact zg n37 hS0 hps
      .
       refine w_o (a:=v42) ?_
       exact zg n41 hS0 hps
      .
       refine w_o (a:=v47) ?_
       exact zg n42 hS0 hps
     have n31:N 10 110 G0:=by
      refine zie hops hS0 hps 0 4 7 ?_ ?_ ?_
      .
       refine zac ?_
       exact zg n36 hS0 hps
      .
       refine w_o (a:=v43) ?_
       exact zg n40 hS0 hps
      .
       refine w_o (a:=v46) ?_
       exact zg n41 hS0 hps
     have n30:N 10 62 G0:=by
      refine zel hops hS0 hps 0 6 ?_ ?_
      .
       refine zac ?_
       exact zg n35 hS0 hps
      .
       refine w_o (a:=v45) ?_
       exact zg n40 hS0 hps
     have n29:N 10 481 G0:=by
      refine zel hops hS0 hps 1 9 ?_ ?_
      .
       refine zac ?_
       exact zg n38 hS0 hps
      .
       refine w_o (a:=v48) (h:=zbf (zha (b:=2) (q:=x2.2.q) rfl rfl)) ?_
       exact zg n39 hS0 hps
     have n28:N 10 227 G0:=by
      refine zel hops hS0 hps 2 8 ?_ ?_
      .
       refine w_o (a:=v41) ?_
       exact zg n37 hS0 hps
      .
       refine w_o (a:=v47) ?_
       exact zg n38 hS0 hps
     have n27:N 10 103 G0:=by
      refine zel hops hS0 hps 3 7 ?_ ?_
      .
       refine w_o (a:=v42) ?_
       exact zg n36 hS0 hps
      .
       refine w_o (a:=v46) ?_
       exact zg n37 hS0 hps
     have n26:N 10 47 G0:=by
      refine zel hops hS0 hps 4 6 ?_ ?_
      .
       refine w_o (a:=v43) ?_
       exact zg n35 hS0 hps
      .
       refine w_o (a:=v45) ?_
       exact zg n36 hS0 hps
     have n25:N 10 31 G0:=by
      refine zkl hops hS0 hps 5 ?_
      .
       refine zac ?_
       exact zg n35 hS0 hps
     have n24:N 11 480 G0:=by
      refine zie hops hS0 hps 0 1 9 ?_ ?_ ?_
      .
       refine zac ?_
       exact zg n29 hS0 hps
      .
       refine zac ?_
       exact zg n33 hS0 hps
      .
       refine w_o (a:=v48) (h:=zbf (zha (b:=2) (q:=x2.2.q) rfl rfl)) ?_
       exact zg n34 hS0 hps
     have n23:N 11 226 G0:=by
      refine zie hops hS0 hps 0 2 8 ?_ ?_ ?_
      .
       refine zac ?_
       exact zg n28 hS0 hps
      .
       refine w_o (a:=v41) ?_
       exact zg n32 hS0 hps
      .
       refine w_o (a:=v47) ?_
       exact zg n33 hS0 hps
     have n22:N 11 102 G0:=by
      refine zie hops hS0 hps 0 3 7 ?_ ?_ ?_
      .
       refine zac ?_
       exact zg n27 hS0 hps
      .
       refine w_o (a:=v42) ?_
       exact zg n31 hS0 hps
      .
       refine w_o (a:=v46) ?_
       exact zg n32 hS0 hps
     have n21:N 11 46 G0:=by
      refine zie hops hS0 hps 0 4 6 ?_ ?_ ?_
      .
       refine zac ?_
       exact zg n26 hS0 hps
      .
       refine w_o (a:=v43) ?_
       exact zg n30 hS0 hps
      .
       refine w_o (a:=v45) ?_
       exact zg n31 hS0 hps
     have n20:N 11 30 G0:=by
      refine zel hops hS0 hps 0 5 ?_ ?_
      .
       refine zac ?_
       exact zg n25 hS0 hps
      .
       refine zac ?_
       exact zg n30 hS0 hps
     have n19:N 11 225 G0:=by
      refine zel hops hS0 hps 1 8 ?_ ?_
      .
       refine zac ?_
       exact zg n28 hS0 hps
      .
       refine w_o (a:=v47) ?_
       exact zg n29 hS0 hps
     have n18:N 11 99 G0:=by
      refine zel hops hS0 hps 2 7 ?_ ?_
      .
       refine w_o (a:=v41) ?_
       exact zg n27 hS0 hps
      .
       refine w_o (a:=v46) ?_
       exact zg n28 hS0 hps
     have n17:N 11 39 G0:=by
      refine zel hops hS0 hps 3 6 ?_ ?_
      .
       refine w_o (a:=v42) ?_
       exact zg n26 hS0 hps
      .
       refine w_o (a:=v45) ?_
       exact zg n27 hS0 hps
     have n16:N 11 15 G0:=by
      refine zel hops hS0 hps 4 5 ?_ ?_
      .
       refine w_o (a:=v43) ?_
       exact zg n25 hS0 hps
      .
       refine zac ?_
       exact zg n26 hS0 hps
     have n15:N 12 224 G0:=by
      refine zie hops hS0 hps 0 1 8 ?_ ?_ ?_
      .
       refine zac ?_
       exact zg n19 hS0 hps
      .
       refine zac ?_
       exact zg n23 hS0 hps
      .
       refine w_o (a:=v47) ?_
       exact zg n24 hS0 hps
     have n14:N 12 98 G0:=by
      refine zie hops hS0 hps 0 2 7 ?_ ?_ ?_
      .
       refine zac ?_
       exact zg n18 hS0 hps
      .
       refine w_o (a:=v41) ?_
       exact zg n22 hS0 hps
      .
       refine w_o (a:=v46) ?_
       exact zg n23 hS0 hps
     have n13:N 12 38 G0:=by
      refine zie hops hS0 hps 0 3 6 ?_ ?_ ?_
      .
       refine zac ?_
       exact zg n17 hS0 hps
      .
       refine w_o (a:=v42) ?_
       exact zg n21 hS0 hps
      .
       refine w_o (a:=v45) ?_
       exact zg n22 hS0 hps
     have n12:N 12 14 G0:=by
      refine zie hops hS0 hps 0 4 5 ?_ ?_ ?_
      .
       refine zac ?_
       exact zg n16 hS0 hps
      .
       refine w_o (a:=v43) ?_
       exact zg n20 hS0 hps
      .
       refine zac ?_
       exact zg n21 hS0 hps
     have n11:N 12 97 G0:=by
      refine zel hops hS0 hps 1 7 ?_ ?_
      .
       refine zac ?_
       exact zg n18 hS0 hps
      .
       refine w_o (a:=v46) ?_
       exact zg n19 hS0 hps
     have n10:N 12 35 G0:=by
      refine zel hops hS0 hps 2 6 ?_ ?_
      .
       refine w_o (a:=v41) ?_
       exact zg n17 hS0 hps
      .
       refine w_o (a:=v45) ?_
       exact zg n18 hS0 hps
     have n9:N 12 7 G0:=by
      refine zel hops hS0 hps 3 5 ?_ ?_
      .
       refine w_o (a:=v42) ?_
       exact zg n16 hS0 hps
      .
       refine zac ?_
       exact zg n17 hS0 hps
     have n8:N 13 96 G0:=by
      refine zie hops hS0 hps 0 1 7 ?_ ?_ ?_
      .
       refine zac ?_
       exact zg n11 hS0 hps
      .
       refine zac ?_
       exact zg n14 hS0 hps
      .
       refine w_o (a:=v46) ?_
       exact zg n15 hS0 hps
     have n7:N 13 34 G0:=by
      refine zie hops hS0 hps 0 2 6 ?_ ?_ ?_
      .
       refine zac ?_
       exact zg n10 hS0 hps
      .
       refine w_o (a:=v41) ?_
       exact zg n13 hS0 hps
      .
       refine w_o (a:=v45) ?_
       exact zg n14 hS0 hps
     have n6:N 13 6 G0:=by
      refine zie hops hS0 hps 0 3 5 ?_ ?_ ?_
      .
       refine zac ?_
       exact zg n9 hS0 hps
      .
       refine w_o (a:=v42) ?_
       exact zg n12 hS0 hps
      .
       refine zac ?_
       exact zg n13 hS0 hps
     have n5:N 13 33 G0:=by
      refine zel hops hS0 hps 1 6 ?_ ?_
      .
       refine zac ?_
       exact zg n10 hS0 hps
      .
       refine w_o (a:=v45) ?_
       exact zg n11 hS0 hps
     have n4:N 13 3 G0:=by
      refine zel hops hS0 hps 2 5 ?_ ?_
      .
       refine w_o (a:=v41) ?_
       exact zg n9 hS0 hps
      .
       refine zac ?_
       exact zg n10 hS0 hps
     have n3:N 14 32 G0:=by
      refine zie hops hS0 hps 0 1 6 ?_ ?_ ?_
      .
       refine zac ?_
       exact zg n5 hS0 hps
      .
       refine zac ?_
       exact zg n7 hS0 hps
      .
       refine w_o (a:=v45) ?_
       exact zg n8 hS0 hps
     have n2:N 14 2 G0:=by
      refine zie hops hS0 hps 0 2 5 ?_ ?_ ?_
      .
       refine zac ?_
       exact zg n4 hS0 hps
      .
       refine w_o (a:=v41) ?_
       exact zg n6 hS0 hps
      .
       refine zac ?_
       exact zg n7 hS0 hps
     have n1:N 14 1 G0:=by
      refine zel hops hS0 hps 1 5 ?_ ?_
      .
       refine zac ?_
       exact zg n4 hS0 hps
      .
       refine zac ?_
       exact zg n5 hS0 hps
     have n0:N 15 0 G0:=by
      refine zie hops hS0 hps 0 1 5 ?_ ?_ ?_
      .
       refine zac ?_
       exact zg n1 hS0 hps
      .
       refine zac ?_
       exact zg n2 hS0 hps
      .
       refine zac ?_
       exact zg n3 hS0 hps
     exact zvj n0 hps
    .
     refine ze (o:=or1) ((Rd.mk x2.2.s (x2.2.a+1) x2.2.e (ztt x2.2.q))) h ?_
     exact wk_pop (q:=x2.2.q) (U1:=(.B [(59,[.s x2.2.s,.i (x2.2.a+1),.i x2.2.e,(zbd 2 (ztt x2.2.q))]),((zk r.q).1,[]),((zk (ztt x2.2.q)).1,(zk (ztt x2.2.q)).2),(33,[.u 0,.raw (.int .u64 0),.raw (.int .u64 0),.raw (.int .u64 0),.raw (.int .u64 0),.i 0,.i 0,.list 0 [] .full]),(33,(Enc.cells (x1.1:Tr)))])) g5 rfl rfl (zgb [zzF,zzT,zzT,zzT,zzT,zzT,zzT,zzT,zzT,zzT,zzT,zzT,zzT,zzT,zzT,zzT,zzT,zzT,zzT,zzT,zzT,zzT,zzT,zzT,zzT,zzT,zzT,zzT,zzT,zzF,zzF,zzF,zzF,zzF,zzF,zzF,zzF,zzF,zzF,zzF,zzF,zzF,zzF,zzF,zzF,zzF,zzF,zzF,zzF,zzF,zzF,zzF,zzF,zzT] (by kernel_rfl) (by kernel_rfl))
   .
    refine zbw hc1 rfl ?_
    refine ze (o:=or1) (x2.2) h ?_
    exact zgb [zzF,zzT,zzT,zzT,zzT,zzT,zzT,zzT,zzT,zzT,zzT,zzT,zzT,zzT,zzT,zzT,zzT,zzT,zzT,zzT,zzT,zzT,zzT,zzT,zzT,zzT,zzT,zzT,zzT,zzF,zzF,zzF,zzF,zzF,zzF,zzF,zzF,zzF,zzF,zzF,zzF,zzF,zzF,zzF,zzF,zzF,zzF,zzF,zzF,zzF,zzF,zzF,zzF,zzT] (by kernel_rfl) (by kernel_rfl)
  .
   intro j1 h
   refine zbn (by dsimp only[zbh,zca,foldl,List.set]) rfl ?_
   refine zm (zc ?_)
   refine w_o (a:= .A (x1.1:Tr)) ?_
   refine zcc (U'':=(.B [(59,[.s j1.s,.i j1.a,.i j1.e,(zbd 2 j1.q)]),((zk r.q).1,[]),((zk j1.q).1,(zk j1.q).2),(33,(Enc.cells (x1.1:Tr))),(33,(Enc.cells (x1.1:Tr)))])) (h:=zay (n:=8) rfl rfl rfl rfl rfl rfl rfl rfl (by decide)) ?_
   have he1:=Option.some.inj h
   subst he1
   exact zgf (a:= .A (x1.1:Tr)) [2] 1 rfl rfl (zd _ _ _ (zab (Enc.clo _))) (zax rfl (zb (zd _ _ _ rfl) (zb (zd _ _ _ rfl) (zb (zd _ _ _ rfl) (zb (zas (fun _=>rfl)) zf)))) zf (zi rfl (zu _ _ _) zaq) rfl)
end Go.Ab
namespace Go.Ab
open Go Go.RowKit Go.Fwd Go.Proofs
def zrl (r:Rd):Option Rd:=
 (some r)
theorem ent37:Ent prog 37:=enters_of Tryd.func37 (by kernel_rfl) rfl
theorem qdm (r:Rd)  (y:Rd)(h:zrl r=some y):RdC prog 37 [] r (.clos 56 [.iptr [.ptr 0 0]]) y:=by
 obtain⟨d,hd⟩: ∃d,Tryd.f37.body=some d:=⟨_,rfl⟩;refine qiv mix Tryd.func37 hd ent37 rfl (fun m g hg=>by simp only[zhl,zad,hg]) (fun k0 hk0=> ?_);cases hd;unfold zrl at h;refine zbn (by dsimp only[zat,Tryd.f37,length_cons,length_nil,zero_add,Nat.reduceAdd,Nat.reduceSub,List.replicate,cons_append,nil_append]) (show rdS r.q r=⟨[(59,[.raw (.string (bs r.s)),.raw (.int .i64 r.a),.raw (.int .i64 r.e),(zbd 2 r.q)]),((zk r.q).1,[]),((zk r.q).1,(zk r.q).2)],[],[],0,false⟩ from rfl) ?_;refine zm (zc ?_);refine zcc (a:= .ptr 3 0) (U'':=(.B [(59,[.s r.s,.i r.a,.i r.e,(zbd 2 r.q)]),((zk r.q).1,[]),((zk r.q).1,(zk r.q).2),(56,[.ptr 0 0])])) ?_;refine w_o (a:= .raw Value.nilFunc) ?_;refine zm (zc ?_);refine w_o (a:= .clos 56 [.ptr 3 0]) ?_;refine zac ?_;have he1:=Option.some.inj h;subst he1;exact zgf (a:= .clos 56 [.ptr 3 0]) [2] 1 rfl rfl rfl (zax rfl (zb (zd _ _ _ rfl) (zb (zd _ _ _ rfl) (zb (zd _ _ _ rfl) (zb (zas (fun _=>rfl)) zf)))) zf (zi rfl (zu _ _ _) zaq) rfl)
theorem ent56:Ent prog 56:=enters_of Tryd.func56 (by kernel_rfl) rfl
def z0z (fuel:Nat)(pcs:Rd->Option (List Tr×Rd))(r:Rd):Option (Tr×Rd):=
 (zdl (τ:=Rd×(List Tr)) (zbg (β:=Rd×(List Tr)) (fun s1=>(zdl (τ:=Rd×(List Tr)) (zai (zrl s1.1) (fun x1=>(zai (pcs x1) (fun x2=>(zdl (zdx (β:=(List Tr)) (fun s2 w1=>(chk (length s2<2^40) (some (inl ((s2++[w1])))))) x2.1 (([]:List Tr))) (fun s2=>(some (inl (x2.2,s2))))))))) (fun j2=>(chk ((zdb j2.2).length<=2^40) (zbe (z8m j2.2) (fun x3=>(bif (isEmpty s1.2) then(chk (0<(length [x3])/\ (length [x3])*80<=140737488355328) (zai (zgg j2.1) (fun x4=>(bif (x4.1 !=124) then(some (inr (inl (x4.2,[x3])))) else(chk (-9223372036854775808<=(x4.2.a+1)/\ (x4.2.a+1)<9223372036854775808) (some (inl ((Rd.mk x4.2.s (x4.2.a+1) x4.2.e x4.2.q),[x3])))))))) else(chk (length s1.2=(length s1.2)/\ 0<(length s1.2)/\ 0<length [x3]/\ ((length s1.2)+length [x3])*80<=140737488355328) (zai (zgg j2.1) (fun x5=>(bif (x5.1 !=124) then(some (inr (inl (x5.2,(s1.2++[x3]))))) else(chk (-9223372036854775808<=(x5.2.a+1)/\ (x5.2.a+1)<9223372036854775808) (some (inl ((Rd.mk x5.2.s (x5.2.a+1) x5.2.e x5.2.q),(s1.2++[x3])))))))))))))))) fuel (r,([]:List Tr))) (fun j1=>(bif (isEmpty j1.2) then(chk ((zdb ([]:List Tr)).length<=2^40) (zbe (orT ([]:List Tr)) (fun x6=>(some (x6,j1.1))))) else(chk ((zdb j1.2).length<=2^40) (zbe (orT j1.2) (fun x7=>(some (x7,j1.1))))))))
theorem ent20:Ent prog 20:=enters_of Tryd.func20 (by kernel_rfl) rfl
set_option maxHeartbeats 16000000 in
theorem alts_rd (fuel:Nat)(pcs:Rd->Option (List Tr×Rd))(r:Rd)(hpc: ∀(r:Rd)(y:List Tr×Rd),pcs r=some y->RdIt prog 56 r (y.1.map zmr) y.2)(y:Tr×Rd)(h:z0z fuel pcs r=some y):RdC prog 20 [] r (.agg (Enc.cells (y.1:Tr))) y.2:=by
 obtain⟨d,hd⟩: ∃d,Tryd.f20.body=some d:=⟨_,rfl⟩;refine z7q mix Tryd.func20 hd ent20 rfl (by first|rfl|exact(zab (Enc.clo _))) (fun k0 hk0=> ?_);cases hd;unfold z0z at h;refine zbn (by dsimp only[zat,Tryd.f20,length_cons,length_nil,zero_add,Nat.reduceAdd,Nat.reduceSub,List.replicate,cons_append,nil_append]) (show rdS r.q r=⟨[(59,[.raw (.string (bs r.s)),.raw (.int .i64 r.a),.raw (.int .i64 r.e),(zbd 2 r.q)]),((zk r.q).1,[]),((zk r.q).1,(zk r.q).2)],[],[],0,false⟩ from rfl) ?_;refine zm (zc ?_);refine zcc (a:= .ptr 3 0) (U'':=(.B [(59,[.s r.s,.i r.a,.i r.e,(zbd 2 r.q)]),((zk r.q).1,[]),((zk r.q).1,(zk r.q).2),(33,[.u 0,.raw (.int .u64 0),.raw (.int .u64 0),.raw (.int .u64 0),.raw (.int .u64 0),.i 0,.i 0,.list 0 [] .full])])) ?_;refine z9c ?_;refine zgs (zc ?_);refine w_o (a:= .list 0 [] .full) ?_;refine zkm (S':=(.ptr 0 0:: .raw undef:: .ptr 3 0::(z6c 4 (length ([]:List Tr)) 8):: .raw undef:: .raw undef:: .raw undef:: .raw undef:: .raw undef:: .raw undef:: .raw undef:: .raw undef:: .raw undef:: .raw undef:: .raw undef:: .raw undef:: .raw undef:: .raw undef:: .raw undef:: .raw undef:: .raw undef:: .raw undef:: .raw undef:: .raw undef:: .raw undef:: .raw undef:: .raw undef:: .raw undef:: .raw undef:: .raw undef:: .raw undef:: .raw undef::[])) (U':=(.B [(59,[.s r.s,.i r.a,.i r.e,(zbd 2 r.q)]),((zk r.q).1,[]),((zk r.q).1,(zk r.q).2),(33,[.u 0,.raw (.int .u64 0),.raw (.int .u64 0),.raw (.int .u64 0),.raw (.int .u64 0),.i 0,.i 0,.list 0 [] .full]),(33,(Enc.cellsL (([]:List Tr):List Tr)))])) (qha (true::true::true::true::true::true::true::true::true::true::true::true::true::true::true::true::true::true::true::true::true::true::true::true::true::true::true::true::true::true::true::true::[]) 3 rfl rfl rfl) ?_;refine zm ?_;refine qdq ?_;refine zbk h [0,1,3,4,5,6,7,8,9,10,11,12,13,14,15,16,17,18,19,20,21,22,23,24,25,26,27,28,29,30,31] (fun j1=>[(3,(z6c 4 (length j1.2) 8))]) (fun j1=>(.B [(59,[.s j1.1.s,.i j1.1.a,.i j1.1.e,(zbd 2 j1.1.q)]),((zk r.q).1,[]),((zk j1.1.q).1,(zk j1.1.q).2),(33,[.u 0,.raw (.int .u64 0),.raw (.int .u64 0),.raw (.int .u64 0),.raw (.int .u64 0),.i 0,.i 0,.list 0 [] .full]),(33,(Enc.cellsL (j1.2:List Tr)))])) ?_ ?_
 .
  intro or1 h hr1
  refine z3o ?_
  refine zds h [1,3,4,5,6,7,8,9,10,11,12,13,14,15,16,17,18,19,20,21,22,23,24,25,26,27,28,29,30,31] (fun s1=>[(3,(z6c 4 (length s1.2) 8))]) (fun s1=>(.B [(59,[.s s1.1.s,.i s1.1.a,.i s1.1.e,(zbd 2 s1.1.q)]),((zk r.q).1,[]),((zk s1.1.q).1,(zk s1.1.q).2),(33,[.u 0,.raw (.int .u64 0),.raw (.int .u64 0),.raw (.int .u64 0),.raw (.int .u64 0),.i 0,.i 0,.list 0 [] .full]),(33,(Enc.cellsL (s1.2:List Tr)))])) ?_ ?_
  .
   exact zgb (bl 32 13) (by kernel_rfl) (by kernel_rfl)
  .
   intro s1 p1 h
   refine zbn (by dsimp only[zbh,zca,foldl,List.set]) rfl ?_
   refine z3o ?_
   refine zm (zc ?_)
   refine zcc (a:= .ptr 5 0) (U'':=(.B [(59,[.s s1.1.s,.i s1.1.a,.i s1.1.e,(zbd 2 s1.1.q)]),((zk r.q).1,[]),((zk s1.1.q).1,(zk s1.1.q).2),(33,[.u 0,.raw (.int .u64 0),.raw (.int .u64 0),.raw (.int .u64 0),.raw (.int .u64 0),.i 0,.i 0,.list 0 [] .full]),(33,(Enc.cellsL (s1.2:List Tr))),(31,[.F (([]:List Tr):List Tr)])])) ?_
   refine zbk h [5,6,7,8,9,10,11,12,13,14] (fun j2=>[]) (fun j2=>(zco [(59,[.s j2.1.s,.i j2.1.a,.i j2.1.e,(zbd 2 j2.1.q)]),((zk r.q).1,[]),((zk j2.1.q).1,(zk j2.1.q).2),(33,[.u 0,.raw (.int .u64 0),.raw (.int .u64 0),.raw (.int .u64 0),.raw (.int .u64 0),.i 0,.i 0,.list 0 [] .full]),(33,(Enc.cellsL (s1.2:List Tr))),(31,[(.O (j2.2:List Tr))])] 33 (length (j2.2:List Tr)) 8)) ?_ ?_
   .
    intro or2 h hr2
    refine zgs (zc ?_)
    refine zac ?_
    obtain⟨x1,hx1,h⟩:=zv h
    refine zgw (r:= .clos 56 [.iptr [.ptr 0 0]]) (U':=(.B [(59,[.s x1.s,.i x1.a,.i x1.e,(zbd 6 x1.q)]),((zk r.q).1,[]),((zk s1.1.q).1,[]),(33,[.u 0,.raw (.int .u64 0),.raw (.int .u64 0),.raw (.int .u64 0),.raw (.int .u64 0),.i 0,.i 0,.list 0 [] .full]),(33,(Enc.cellsL (s1.2:List Tr))),(31,[.F (([]:List Tr):List Tr)]),((zk x1.q).1,(zk x1.q).2)])) ((qdm s1.1 x1 hx1) _ 2 (by decide) rfl rfl) rfl rfl ⟨rfl,rfl⟩ (by dsimp only[zy,List.set]) ?_
    refine zkm (S':=[.ptr 0 0,.top,.ptr 3 0,(z6c 4 (length s1.2) 8),.ptr 5 0,.top,.top,.clos 56 [.iptr [.ptr 0 0]],.top,.top,.top,.top,.top,.top,.top,.top,.top,.top,.top,.top,.top,.top,.top,.top,.top,.top,.top,.top,.top,.top,.top,.top]) (U':=(.B [(59,[.s x1.s,.i x1.a,.i x1.e,(zbd 2 x1.q)]),((zk r.q).1,[]),((zk x1.q).1,(zk x1.q).2),(33,[.u 0,.raw (.int .u64 0),.raw (.int .u64 0),.raw (.int .u64 0),.raw (.int .u64 0),.i 0,.i 0,.list 0 [] .full]),(33,(Enc.cellsL (s1.2:List Tr))),(31,[.F (([]:List Tr):List Tr)])])) (zdr (bl 32 157) 2 [] [6,3,4,5] 1 hk0 rfl (zah rfl (zag (zah rfl (zah (z4n (fun _=>rfl)) (zah rfl (zag (zag (zah rfl (zj (zj (zj zcw))))))))))) (zax rfl (zb (zd _ _ _ rfl) (zb (zd _ _ _ rfl) (zb (zd _ _ _ rfl) (zb (zas (fun _=>rfl)) zf)))) zf (zi rfl (zu _ _ _) (zi rfl rfl (zi rfl (zau _ _ _ (Enc.cloL _)) (zi rfl (zb (qcg (Enc.cloL _)) zf) zaq)))) rfl)) ?_
    refine zaj ?_
    obtain⟨x2,hx2,h⟩:=zv h
    refine z9l h zmr (fun s2=>(zco [(33,[]),(33,[]),(33,[]),(33,[.u 0,.raw (.int .u64 0),.raw (.int .u64 0),.raw (.int .u64 0),.raw (.int .u64 0),.i 0,.i 0,.list 0 [] .full]),(33,[]),(31,[(.O (s2:List Tr))])] 33 (length (s2:List Tr)) 8)) 2 3 [0,1,2,4] (tm:=33) (S':=[.top,.top,.ptr 3 0,.top,.ptr 5 0,.top,.top,.top,.top,.top,.top,.top,.top,.top,.top,.top,.top,.top,.top,.top,.top,.top,.top,.top,.top,.top,.top,.top,.top,.top,.top,.top]) ((hpc _ _ hx2)) ent56 rfl (by decide) rfl rfl rfl rfl (hd_of (by kernel_rfl)) rfl rfl (fgR_of [zzF,zzF,zzT,zzF,zzT,zzF,zzF,zzF,zzF,zzF,zzF,zzF,zzF,zzF,zzF,zzF,zzF,zzF,zzF,zzF,zzF,zzF,zzF,zzF,zzF,zzF,zzF,zzF,zzF,zzF,zzF,zzF] (zag (zag (zah rfl (zag (zah rfl (zj (zj (zj (zag (zag (zag zcw)))))))))))) (fun _=>rfl) rfl rfl ?_ ?_
    .
     intro s2 w1 p2 h
     refine zbn (by dsimp only[zkr,List.zip,List.zipWith,foldl,List.set,Array.toList,zmr]) rfl ?_
     refine zc (k0:=k0) (id:=4) ?_
     refine zcc (a:= .ptr 6 0) (U'':=(zco [(33,[]),(33,[]),(33,[]),(33,[.u 0,.raw (.int .u64 0),.raw (.int .u64 0),.raw (.int .u64 0),.raw (.int .u64 0),.i 0,.i 0,.list 0 [] .full]),(33,[]),(31,[(.O (s2:List Tr))]),(33,[.u 0,.raw (.int .u64 0),.raw (.int .u64 0),.raw (.int .u64 0),.raw (.int .u64 0),.i 0,.i 0,.list 0 [] .full])] 33 (length (s2:List Tr)) 8)) ?_
     refine zcc (U'':=(zco [(33,[]),(33,[]),(33,[]),(33,[.u 0,.raw (.int .u64 0),.raw (.int .u64 0),.raw (.int .u64 0),.raw (.int .u64 0),.i 0,.i 0,.list 0 [] .full]),(33,[]),(31,[(.O (s2:List Tr))]),(33,(Enc.cells (w1:Tr)))] 33 (length (s2:List Tr)) 8)) (h:=zay (n:=8) rfl rfl rfl rfl rfl rfl rfl rfl (by decide)) ?_
     obtain⟨g1,h⟩:=zr h
     refine w_semB [.top,.top,.ptr 3 0,.top,.ptr 5 0,.ptr 6 0,.top,.top,.A (w1:Tr),.top,.top,.top,.top,.top,.top,.top,.top,.top,.top,.top,.top,.top,.top,.top,.top,.top,.top,.top,.top,.top,.top,.top] (zco [(33,[]),(33,[]),(33,[]),(33,[.u 0,.raw (.int .u64 0),.raw (.int .u64 0),.raw (.int .u64 0),.raw (.int .u64 0),.i 0,.i 0,.list 0 [] .full]),(33,[]),(31,[(.O ((s2++[w1]):List Tr))]),(33,[])] 33 (length ((s2++[w1]):List Tr)) 8) (app_reg _ _ _ _ _ s2 w1 g1 rfl) ?_
     exact zfi (p:=p2) ((s2++[w1])) h (zda (zav rfl (zav rfl (zav rfl (zav rfl (zav rfl (zav (za (zei (Enc.cloL _)) rfl) rfl))))))) (by kernel_rfl)
    .
     intro s2 h
     refine rd_back (zco [(59,[.s x2.2.s,.i x2.2.a,.i x2.2.e,(zbd 6 x2.2.q)]),((zk r.q).1,[]),((zk x1.q).1,[]),(33,[.u 0,.raw (.int .u64 0),.raw (.int .u64 0),.raw (.int .u64 0),.raw (.int .u64 0),.i 0,.i 0,.list 0 [] .full]),(33,(Enc.cellsL (s1.2:List Tr))),(31,[(.O (s2:List Tr))]),((zk x2.2.q).1,(zk x2.2.q).2)] 33 (length (s2:List Tr)) 8) ?_ (z7e (congrArg (fun(z:List AV)=>([(59,[.s x2.2.s,.i x2.2.a,.i x2.2.e,(zbd 6 x2.2.q)]),((zk r.q).1,[]),((zk x1.q).1,[]),(33,[.u 0,.raw (.int .u64 0),.raw (.int .u64 0),.raw (.int .u64 0),.raw (.int .u64 0),.i 0,.i 0,.list 0 [] .full]),(33,(Enc.cellsL (s1.2:List Tr))),(31,z),((zk x2.2.q).1,(zk x2.2.q).2)]:List (TypeId×List AV))) (zb (znk (fun hn=>z3p hn)) zf)))
     refine ze (o:=or2) (x2.2,s2) h ?_
     exact(zdr (bl 32 4294934559) 2 [] [6,3,4,5] 1 hk0 rfl (by dsimp only[zbh,zca,foldl,List.set];exact(zah rfl (zah rfl (zah rfl (zah (z4n (fun _=>rfl)) (zah rfl (zj (zag (zag (zah rfl (zah rfl (zah rfl (zah rfl (zah rfl (zah rfl (zah rfl (zah rfl (zah rfl (zah rfl (zah rfl (zah rfl (zah rfl (zah rfl (zah rfl (zah rfl (zah rfl zcw)))))))))))))))))))))))))) (zto (zb (zd _ _ _ rfl) (zb (zd _ _ _ rfl) (zb (zd _ _ _ rfl) (zb (zas (fun _=>rfl)) zf)))) zf (zi rfl (zu _ _ _) (zi rfl rfl (zi rfl (zau _ _ _ (Enc.cloL _)) (zi rfl (zb (znk (fun hn=>z3p hn)) zf) zaq))))))
   .
    intro j2 h
    refine zbn (by dsimp only[zbh,zca,foldl,List.set]) rfl ?_
    refine zm (zc ?_)
    refine zac ?_
    refine w_o (a:=(.O (j2.2:List Tr))) ?_
    obtain⟨g2,h⟩:=zr h
    obtain⟨x3,hx3,h⟩:=zx h
    refine zcx (args':=[.L (j2.2:List Tr)]) (r:= .A (x3:Tr)) (by rw[<-hx3];exact(k_seq j2.2 g2)) rfl rfl (zh (zqb (Enc.cloL _) Enc.z) rfl) (za (zei (Enc.cloL _)) rfl) (by dsimp only[zy,List.set]) ?_
    refine w_o (a:= .F ([x3]:List Tr)) (h:=zbf (zhz (α:=Tr) (l:=[x3]) (cs:=Enc.cells (x3:Tr)++[]) rfl (by rw[Enc.cons,nil]))) ?_
    refine zt h (fun hc1 h=> ?_) (fun hc1 h=> ?_)
    .
     rw[z4p (b:=4) hc1]
     obtain⟨g3,h⟩:=zr h
     refine z6u (a:= .bsl 6 0 (length [x3]) 8 false) (U'':=(zco [(59,[.s j2.1.s,.i j2.1.a,.i j2.1.e,(zbd 2 j2.1.q)]),((zk r.q).1,[]),((zk j2.1.q).1,(zk j2.1.q).2),(33,[.u 0,.raw (.int .u64 0),.raw (.int .u64 0),.raw (.int .u64 0),.raw (.int .u64 0),.i 0,.i 0,.list 0 [] .full]),(33,(Enc.cellsL (s1.2:List Tr))),(31,[(.O (j2.2:List Tr))]),(33,(Enc.cellsL ([x3]:List Tr)))] 33 (length (j2.2:List Tr)) 8)) rfl rfl rfl (qhi (α:=Tr) (r:=[x3]) (by':=80) g3 rfl rfl rfl rfl rfl rfl rfl rfl rfl rfl rfl ⟨rfl,by decide⟩) (by dsimp only[zy,List.set]) rfl ?_
     refine zac ?_
     refine zm ?_
     refine zgs (zc ?_)
     refine zac ?_
     obtain⟨x4,hx4,h⟩:=zv h
     refine zgw (r:= .u x4.1) (U':=(zco [(59,[.s x4.2.s,.i x4.2.a,.i x4.2.e,(zbd 7 x4.2.q)]),((zk r.q).1,[]),((zk j2.1.q).1,[]),(33,[.u 0,.raw (.int .u64 0),.raw (.int .u64 0),.raw (.int .u64 0),.raw (.int .u64 0),.i 0,.i 0,.list 0 [] .full]),(33,(Enc.cellsL (s1.2:List Tr))),(31,[(.O (j2.2:List Tr))]),(33,(Enc.cellsL ([x3]:List Tr))),((zk x4.2.q).1,(zk x4.2.q).2)] 33 (length (j2.2:List Tr)) 8)) ((zpi j2.1 x4 hx4) _ 2 (by decide) rfl rfl) rfl rfl ⟨rfl,rfl⟩ (by dsimp only[zy,List.set]) ?_
     refine w_o (a:= .b (x4.1 !=124)) ?_
     refine zkm (S':=[.ptr 0 0,.top,.ptr 3 0,.bsl 6 0 (length [x3]) 8 false,.top,.top,.top,.top,.top,.top,.top,.top,.top,.top,.top,.top,.top,.top,.top,.top,.top,.top,.b (x4.1 !=124),.top,.top,.top,.top,.top,.top,.top,.top,.top]) (U':=(zco [(59,[.s x4.2.s,.i x4.2.a,.i x4.2.e,(zbd 2 x4.2.q)]),((zk r.q).1,[]),((zk x4.2.q).1,(zk x4.2.q).2),(33,[.u 0,.raw (.int .u64 0),.raw (.int .u64 0),.raw (.int .u64 0),.raw (.int .u64 0),.i 0,.i 0,.list 0 [] .full]),(33,(Enc.cellsL (s1.2:List Tr))),(31,[(.O (j2.2:List Tr))]),(33,(Enc.cellsL ([x3]:List Tr)))] 33 (length (j2.2:List Tr)) 8)) (zdr (bl 32 4194317) 2 [] [7,3,4,5,6] 1 hk0 rfl (zah rfl (zag (zah rfl (zah rfl (zj (zj (zag (zag (zah (zd _ _ _ rfl) (zj (zag zcw))))))))))) (zto (zb (zd _ _ _ rfl) (zb (zd _ _ _ rfl) (zb (zd _ _ _ rfl) (zb (zas (fun _=>rfl)) zf)))) zf (zi rfl (zu _ _ _) (zi rfl rfl (zi rfl (zau _ _ _ (Enc.cloL _)) (zi rfl (zb (znk (fun hn=>z3p hn)) zf) (zi rfl (zau _ _ _ (Enc.cloL _)) zaq))))))) ?_
     refine zt h (fun hc2 h=> ?_) (fun hc2 h=> ?_)
     .
      refine zbv hc2 rfl ?_
      refine zap h (fun h=> ?_)
      refine zxc (S':=[.top,.top,.ptr 3 0,(z6c 4 (length [x3]) 8),.top,.top,.top,.top,.top,.top,.top,.top,.top,.top,.top,.top,.top,.top,.top,.top,.top,.top,.top,.top,.top,.top,.top,.top,.top,.top,.top,.top]) (U':=(.B [(59,[.s x4.2.s,.i x4.2.a,.i x4.2.e,(zbd 2 x4.2.q)]),((zk r.q).1,[]),((zk x4.2.q).1,(zk x4.2.q).2),(33,[.u 0,.raw (.int .u64 0),.raw (.int .u64 0),.raw (.int .u64 0),.raw (.int .u64 0),.i 0,.i 0,.list 0 [] .full]),(33,(Enc.cellsL ([x3]:List Tr)))])) [zzF,zzF,zzT,zzT,zzF,zzF,zzF,zzF,zzF,zzF,zzF,zzF,zzF,zzF,zzF,zzF,zzF,zzF,zzF,zzF,zzF,zzF,zzF,zzF,zzF,zzF,zzF,zzF,zzF,zzF,zzF,zzF] 2 [2,3,6] 1 (le_refl _) hk0 rfl (zag (zag (zah rfl (zah (zxi (by first|(simp;done)|(simp only[length_append,length_take];omega)) (by first|(simp;done)) _ _) (zj (zj (zj (zag (zag (zag (zag zcw))))))))))) (zax rfl (zb (zd _ _ _ rfl) (zb (zd _ _ _ rfl) (zb (zd _ _ _ rfl) (zb (zas (fun _=>rfl)) zf)))) zf (zi rfl (zu _ _ _) (zi rfl rfl (zi rfl (zau _ _ _ (Enc.cloL _)) zaq))) rfl) ?_
      refine ze (o:=or1) (x4.2,[x3]) h ?_
      exact zgb (bl 32 12) (by kernel_rfl) (by kernel_rfl)
     .
      refine zbw hc2 rfl ?_
      refine zc (k0:=k0) (id:=8) ?_
      refine zac ?_
      refine w_o (a:= .ptr 0 0) ?_
      refine w_o (a:= .ptr 0 1) ?_
      refine w_o (a:= .i x4.2.a) ?_
      obtain⟨g4,h⟩:=zr h
      refine w_o (a:= .i (x4.2.a+1)) (h:=zbf (znz rfl rfl rfl rfl g4.1 g4.2)) ?_
      refine w_o (a:= .ptr 0 0) ?_
      refine w_o (a:= .ptr 0 1) ?_
      refine zcc (U'':=(zco [(59,[.s x4.2.s,.i (x4.2.a+1),.i x4.2.e,(zbd 2 x4.2.q)]),((zk r.q).1,[]),((zk x4.2.q).1,(zk x4.2.q).2),(33,[.u 0,.raw (.int .u64 0),.raw (.int .u64 0),.raw (.int .u64 0),.raw (.int .u64 0),.i 0,.i 0,.list 0 [] .full]),(33,(Enc.cellsL (s1.2:List Tr))),(31,[(.O (j2.2:List Tr))]),(33,(Enc.cellsL ([x3]:List Tr)))] 33 (length (j2.2:List Tr)) 8)) (h:=zcv (n:=1) rfl rfl rfl rfl rfl ⟨rfl,rfl,Nat.le_of_ble_eq_true rfl,by decide⟩) ?_
      refine zxc (S':=[.ptr 0 0,.top,.ptr 3 0,(z6c 4 (length [x3]) 8),.top,.top,.top,.top,.top,.top,.top,.top,.top,.top,.top,.top,.top,.top,.top,.top,.top,.top,.top,.top,.top,.top,.top,.top,.top,.top,.top,.top]) (U':=(.B [(59,[.s x4.2.s,.i (x4.2.a+1),.i x4.2.e,(zbd 2 x4.2.q)]),((zk r.q).1,[]),((zk x4.2.q).1,(zk x4.2.q).2),(33,[.u 0,.raw (.int .u64 0),.raw (.int .u64 0),.raw (.int .u64 0),.raw (.int .u64 0),.i 0,.i 0,.list 0 [] .full]),(33,(Enc.cellsL ([x3]:List Tr)))])) [zzT,zzF,zzT,zzT,zzF,zzF,zzF,zzF,zzF,zzF,zzF,zzF,zzF,zzF,zzF,zzF,zzF,zzF,zzF,zzF,zzF,zzF,zzF,zzF,zzF,zzF,zzF,zzF,zzF,zzF,zzF,zzF] 2 [2,3,6] 1 (le_refl _) hk0 rfl (zah rfl (zag (zah rfl (zah (zxi (by first|(simp;done)|(simp only[length_append,length_take];omega)) (by first|(simp;done)) _ _) (zj (zj (zj (zag (zag (zag (zag zcw))))))))))) (zax rfl (zb (zd _ _ _ rfl) (zb (zd _ _ _ rfl) (zb (zd _ _ _ rfl) (zb (zas (fun _=>rfl)) zf)))) zf (zi rfl (zu _ _ _) (zi rfl rfl (zi rfl (zau _ _ _ (Enc.cloL _)) zaq))) rfl) ?_
      refine zbz (p:=p1) ((Rd.mk x4.2.s (x4.2.a+1) x4.2.e x4.2.q),[x3]) h ?_
      exact zgb (bl 32 13) (by kernel_rfl) (by kernel_rfl)
    .
     rw[z4b (b:=4) hc1]
     obtain⟨g5,h⟩:=zr h
     refine z6u (a:= .bsl 6 0 ((length s1.2)+length [x3]) 8 false) (U'':=(zco [(59,[.s j2.1.s,.i j2.1.a,.i j2.1.e,(zbd 2 j2.1.q)]),((zk r.q).1,[]),((zk j2.1.q).1,(zk j2.1.q).2),(33,[.u 0,.raw (.int .u64 0),.raw (.int .u64 0),.raw (.int .u64 0),.raw (.int .u64 0),.i 0,.i 0,.list 0 [] .full]),(33,(Enc.cellsL (([]:List Tr):List Tr))),(31,[(.O (j2.2:List Tr))]),(33,(Enc.cellsL ((s1.2++[x3]):List Tr)))] 33 (length (j2.2:List Tr)) 8)) rfl rfl rfl (opB_bsl (α:=Tr) (l:=s1.2) (r:=[x3]) (by':=80) g5 rfl rfl rfl rfl rfl rfl rfl rfl rfl rfl rfl rfl ⟨rfl,by decide⟩) (by dsimp only[zy,List.set]) rfl ?_
     refine zac ?_
     refine zm ?_
     refine zgs (zc ?_)
     refine zac ?_
     obtain⟨x5,hx5,h⟩:=zv h
     refine zgw (r:= .u x5.1) (U':=(zco [(59,[.s x5.2.s,.i x5.2.a,.i x5.2.e,(zbd 7 x5.2.q)]),((zk r.q).1,[]),((zk j2.1.q).1,[]),(33,[.u 0,.raw (.int .u64 0),.raw (.int .u64 0),.raw (.int .u64 0),.raw (.int .u64 0),.i 0,.i 0,.list 0 [] .full]),(33,(Enc.cellsL (([]:List Tr):List Tr))),(31,[(.O (j2.2:List Tr))]),(33,(Enc.cellsL ((s1.2++[x3]):List Tr))),((zk x5.2.q).1,(zk x5.2.q).2)] 33 (length (j2.2:List Tr)) 8)) ((zpi j2.1 x5 hx5) _ 2 (by decide) rfl rfl) rfl rfl ⟨rfl,rfl⟩ (by dsimp only[zy,List.set]) ?_
     refine w_o (a:= .b (x5.1 !=124)) ?_
     refine zkm (S':=[.ptr 0 0,.top,.ptr 3 0,.bsl 6 0 ((length s1.2)+length [x3]) 8 false,.top,.top,.top,.top,.top,.top,.top,.top,.top,.top,.top,.top,.top,.top,.top,.top,.top,.top,.b (x5.1 !=124),.top,.top,.top,.top,.top,.top,.top,.top,.top]) (U':=(zco [(59,[.s x5.2.s,.i x5.2.a,.i x5.2.e,(zbd 2 x5.2.q)]),((zk r.q).1,[]),((zk x5.2.q).1,(zk x5.2.q).2),(33,[.u 0,.raw (.int .u64 0),.raw (.int .u64 0),.raw (.int .u64 0),.raw (.int .u64 0),.i 0,.i 0,.list 0 [] .full]),(33,(Enc.cellsL (([]:List Tr):List Tr))),(31,[(.O (j2.2:List Tr))]),(33,(Enc.cellsL ((s1.2++[x3]):List Tr)))] 33 (length (j2.2:List Tr)) 8)) (zdr (bl 32 4194317) 2 [] [7,3,4,5,6] 1 hk0 rfl (zah rfl (zag (zah rfl (zah rfl (zj (zj (zag (zag (zah (zd _ _ _ rfl) (zj (zag zcw))))))))))) (zto (zb (zd _ _ _ rfl) (zb (zd _ _ _ rfl) (zb (zd _ _ _ rfl) (zb (zas (fun _=>rfl)) zf)))) zf (zi rfl (zu _ _ _) (zi rfl rfl (zi rfl (zau _ _ _ (Enc.cloL _)) (zi rfl (zb (znk (fun hn=>z3p hn)) zf) (zi rfl (zau _ _ _ (Enc.cloL _)) zaq))))))) ?_
     refine zt h (fun hc3 h=> ?_) (fun hc3 h=> ?_)
     .
      refine zbv hc3 rfl ?_
      refine zap h (fun h=> ?_)
      refine zxc (S':=[.top,.top,.ptr 3 0,(z6c 4 (length (s1.2++[x3])) 8),.top,.top,.top,.top,.top,.top,.top,.top,.top,.top,.top,.top,.top,.top,.top,.top,.top,.top,.top,.top,.top,.top,.top,.top,.top,.top,.top,.top]) (U':=(.B [(59,[.s x5.2.s,.i x5.2.a,.i x5.2.e,(zbd 2 x5.2.q)]),((zk r.q).1,[]),((zk x5.2.q).1,(zk x5.2.q).2),(33,[.u 0,.raw (.int .u64 0),.raw (.int .u64 0),.raw (.int .u64 0),.raw (.int .u64 0),.i 0,.i 0,.list 0 [] .full]),(33,(Enc.cellsL ((s1.2++[x3]):List Tr)))])) [zzF,zzF,zzT,zzT,zzF,zzF,zzF,zzF,zzF,zzF,zzF,zzF,zzF,zzF,zzF,zzF,zzF,zzF,zzF,zzF,zzF,zzF,zzF,zzF,zzF,zzF,zzF,zzF,zzF,zzF,zzF,zzF] 2 [2,3,6] 1 (le_refl _) hk0 rfl (zag (zag (zah rfl (zah (zxi (by first|(simp;done)|(simp only[length_append,length_take];omega)) (by first|(simp;done)) _ _) (zj (zj (zj (zag (zag (zag (zag zcw))))))))))) (zax rfl (zb (zd _ _ _ rfl) (zb (zd _ _ _ rfl) (zb (zd _ _ _ rfl) (zb (zas (fun _=>rfl)) zf)))) zf (zi rfl (zu _ _ _) (zi rfl rfl (zi rfl (zau _ _ _ (Enc.cloL _)) zaq))) rfl) ?_
      refine ze (o:=or1) (x5.2,(s1.2++[x3])) h ?_
      exact zgb (bl 32 12) (by kernel_rfl) (by kernel_rfl)
     .
      refine zbw hc3 rfl ?_
      refine zc (k0:=k0) (id:=8) ?_
      refine zac ?_
      refine w_o (a:= .ptr 0 0) ?_
      refine w_o (a:= .ptr 0 1) ?_
      refine w_o (a:= .i x5.2.a) ?_
      obtain⟨g6,h⟩:=zr h
      refine w_o (a:= .i (x5.2.a+1)) (h:=zbf (znz rfl rfl rfl rfl g6.1 g6.2)) ?_
      refine w_o (a:= .ptr 0 0) ?_
      refine w_o (a:= .ptr 0 1) ?_
      refine zcc (U'':=(zco [(59,[.s x5.2.s,.i (x5.2.a+1),.i x5.2.e,(zbd 2 x5.2.q)]),((zk r.q).1,[]),((zk x5.2.q).1,(zk x5.2.q).2),(33,[.u 0,.raw (.int .u64 0),.raw (.int .u64 0),.raw (.int .u64 0),.raw (.int .u64 0),.i 0,.i 0,.list 0 [] .full]),(33,(Enc.cellsL (([]:List Tr):List Tr))),(31,[(.O (j2.2:List Tr))]),(33,(Enc.cellsL ((s1.2++[x3]):List Tr)))] 33 (length (j2.2:List Tr)) 8)) (h:=zcv (n:=1) rfl rfl rfl rfl rfl ⟨rfl,rfl,Nat.le_of_ble_eq_true rfl,by decide⟩) ?_
      refine zxc (S':=[.ptr 0 0,.top,.ptr 3 0,(z6c 4 (length (s1.2++[x3])) 8),.top,.top,.top,.top,.top,.top,.top,.top,.top,.top,.top,.top,.top,.top,.top,.top,.top,.top,.top,.top,.top,.top,.top,.top,.top,.top,.top,.top]) (U':=(.B [(59,[.s x5.2.s,.i (x5.2.a+1),.i x5.2.e,(zbd 2 x5.2.q)]),((zk r.q).1,[]),((zk x5.2.q).1,(zk x5.2.q).2),(33,[.u 0,.raw (.int .u64 0),.raw (.int .u64 0),.raw (.int .u64 0),.raw (.int .u64 0),.i 0,.i 0,.list 0 [] .full]),(33,(Enc.cellsL ((s1.2++[x3]):List Tr)))])) [zzT,zzF,zzT,zzT,zzF,zzF,zzF,zzF,zzF,zzF,zzF,zzF,zzF,zzF,zzF,zzF,zzF,zzF,zzF,zzF,zzF,zzF,zzF,zzF,zzF,zzF,zzF,zzF,zzF,zzF,zzF,zzF] 2 [2,3,6] 1 (le_refl _) hk0 rfl (zah rfl (zag (zah rfl (zah (zxi (by first|(simp;done)|(simp only[length_append,length_take];omega)) (by first|(simp;done)) _ _) (zj (zj (zj (zag (zag (zag (zag zcw))))))))))) (zax rfl (zb (zd _ _ _ rfl) (zb (zd _ _ _ rfl) (zb (zd _ _ _ rfl) (zb (zas (fun _=>rfl)) zf)))) zf (zi rfl (zu _ _ _) (zi rfl rfl (zi rfl (zau _ _ _ (Enc.cloL _)) zaq))) rfl) ?_
      refine zbz (p:=p1) ((Rd.mk x5.2.s (x5.2.a+1) x5.2.e x5.2.q),(s1.2++[x3])) h ?_
      exact zgb (bl 32 13) (by kernel_rfl) (by kernel_rfl)
 .
  intro j1 h
  refine zbn (by dsimp only[zbh,zca,foldl,List.set]) rfl ?_
  refine zt h (fun hc4 h=> ?_) (fun hc4 h=> ?_)
  .
   rw[z4p (b:=4) hc4]
   refine zm (zc ?_)
   refine zac ?_
   obtain⟨g7,h⟩:=zr h
   obtain⟨x6,hx6,h⟩:=zx h
   refine zcx (args':=[.list 0 [] .none]) (r:= .A (x6:Tr)) (by rw[<-hx6];exact(k_or ([]:List Tr) g7)) rfl rfl (zh rfl rfl) (by kernel_rfl) (by dsimp only[zy,List.set]) ?_
   refine zcc (U'':=(.B [(59,[.s j1.1.s,.i j1.1.a,.i j1.1.e,(zbd 2 j1.1.q)]),((zk r.q).1,[]),((zk j1.1.q).1,(zk j1.1.q).2),(33,(Enc.cells (x6:Tr))),(33,(Enc.cellsL (j1.2:List Tr)))])) (h:=zay (n:=8) rfl rfl rfl rfl rfl rfl rfl rfl (by decide)) ?_
   have he1:=Option.some.inj h
   subst he1
   exact zgf (a:= .A (x6:Tr)) [2] 1 rfl rfl (zd _ _ _ (zab (Enc.clo _))) (zax rfl (zb (zd _ _ _ rfl) (zb (zd _ _ _ rfl) (zb (zd _ _ _ rfl) (zb (zas (fun _=>rfl)) zf)))) zf (zi rfl (zu _ _ _) zaq) rfl)
  .
   rw[z4b (b:=4) hc4]
   refine zm (zc ?_)
   refine zac ?_
   obtain⟨g8,h⟩:=zr h
   obtain⟨x7,hx7,h⟩:=zx h
   refine zgw (r:= .A (x7:Tr)) (U':=(.B [(59,[.s j1.1.s,.i j1.1.a,.i j1.1.e,(zbd 2 j1.1.q)]),((zk r.q).1,[]),((zk j1.1.q).1,(zk j1.1.q).2),(33,[.u 0,.raw (.int .u64 0),.raw (.int .u64 0),.raw (.int .u64 0),.raw (.int .u64 0),.i 0,.i 0,.list 0 [] .full]),(33,(Enc.cellsL (([]:List Tr):List Tr)))])) (snd_frz (α:=Tr) (t:=33) (l:=j1.2) (ar:=[]) (ar':=[]) (r:= .A (x7:Tr)) (zn _) (by rw[<-hx7];exact(k_or j1.2 g8)) rfl rfl rfl) rfl rfl ⟨rfl,rfl⟩ (by dsimp only[zy,List.set]) ?_
   refine zcc (U'':=(.B [(59,[.s j1.1.s,.i j1.1.a,.i j1.1.e,(zbd 2 j1.1.q)]),((zk r.q).1,[]),((zk j1.1.q).1,(zk j1.1.q).2),(33,(Enc.cells (x7:Tr))),(33,(Enc.cellsL (([]:List Tr):List Tr)))])) (h:=zay (n:=8) rfl rfl rfl rfl rfl rfl rfl rfl (by decide)) ?_
   have he2:=Option.some.inj h
   subst he2
   exact zgf (a:= .A (x7:Tr)) [2] 1 rfl rfl (zd _ _ _ (zab (Enc.clo _))) (zax rfl (zb (zd _ _ _ rfl) (zb (zd _ _ _ rfl) (zb (zd _ _ _ rfl) (zb (zas (fun _=>rfl)) zf)))) zf (zi rfl (zu _ _ _) zaq) rfl)
end Go.Ab
namespace Go.Ab
open Go Go.RowKit Go.Fwd Go.Proofs
noncomputable def qgz (fuel:Nat)(a:Rd->Option (Tr×Rd))(rows:List Tr)(r:Rd):Option (Nat×Rd):=
 (zai (zgg r) (fun x1=>(zbg (β:=Int×Rd×Nat) (fun s1=>(bif (s1.1 !=0) then(bif (s1.1 !=124) then(bif (s1.1 !=41) then(zai (a s1.2.1) (fun x2=>(zai (zdq fuel x2.1 x2.2) (fun x3=>(z8k (rows[s1.2.2]? =some x3.1) (zai (zgg x3.2) (fun x4=>(some (inl (x4.1,x4.2,(s1.2.2+1))))))))))) else(some (inr (s1.2.2,s1.2.1)))) else(some (inr (s1.2.2,s1.2.1)))) else(some (inr (s1.2.2,s1.2.1))))) fuel (x1.1,x1.2,0))))
theorem pc1_it (fuel:Nat)(a:Rd->Option (Tr×Rd))(rows:List Tr)(r:Rd)(ha: ∀(r:Rd)(y:Tr×Rd),a r=some y->RdC prog 58 [] r (.agg (Enc.cells y.1)) y.2)(r2:Rd)(h:qgz fuel a rows r=some (rows.length,r2)):RdIt prog 56 r (rows.map zmr) r2:=by
 obtain⟨c,hc⟩: ∃c,Tryd.f56.body=some c:=⟨_,rfl⟩;refine qhd mix Tryd.func56 hc (fun G hGr k0 hk0=> ?_);obtain⟨l,hGl⟩: ∃l,G.l=l:=⟨_,rfl⟩;rw[List.length_map,hGl];cases hc;unfold qgz at h;refine zbn (by dsimp only[zat,Tryd.f56,length_cons,length_nil,zero_add,Nat.reduceAdd,Nat.reduceSub,List.replicate,cons_append,nil_append]) (show rdS r.q r=⟨[(59,[.raw (.string (bs r.s)),.raw (.int .i64 r.a),.raw (.int .i64 r.e),(zbd 2 r.q)]),((zk r.q).1,[]),((zk r.q).1,(zk r.q).2)],[],[],0,false⟩ from rfl) ?_;refine zgs (zc ?_);refine w_o (a:= .ptr 0 0) ?_;obtain⟨x1,hx1,h⟩:=zv h;refine zgw (r:= .u x1.1) (U':=(.B [(59,[.s x1.2.s,.i x1.2.a,.i x1.2.e,(zbd 3 x1.2.q)]),((zk r.q).1,[]),((zk r.q).1,[]),((zk x1.2.q).1,(zk x1.2.q).2)])) ((zpi r x1 hx1) _ 2 (by decide) rfl rfl) rfl rfl ⟨rfl,rfl⟩ (by dsimp only[zy,List.set]) ?_;refine zac ?_;refine zkm (S':=[.yld l,.iptr [.ptr 0 0],.top,.u x1.1,.top,.top,.top,.top,.top,.top,.top,.top,.top,.top,.top,.top,.top,.top,.top,.top,.top,.top,.top,.top,.top]) (U':=(.B [(59,[.s x1.2.s,.i x1.2.a,.i x1.2.e,(zbd 2 x1.2.q)]),((zk r.q).1,[]),((zk x1.2.q).1,(zk x1.2.q).2)])) (zdr (bl 25 11) 2 [] [3] 1 hk0 rfl (zah (zd _ _ _ rfl) (zah rfl (zag (zah (zd _ _ _ rfl) (zj (zj (zag (zag (zag (zag (zag zcw))))))))))) (zax rfl (zb (zd _ _ _ rfl) (zb (zd _ _ _ rfl) (zb (zd _ _ _ rfl) (zb (zas (fun _=>rfl)) zf)))) zf (zi rfl (zu _ _ _) zaq) rfl)) ?_;refine zaj ?_;refine zds h [3,6,7,8,9,10,11,12,13,14,15,16,17,18,19,20,21,22,23,24] (fun s1=>[(3,.u s1.1)]) (fun s1=>⟨[(59,[.s s1.2.1.s,.i s1.2.1.a,.i s1.2.1.e,(zbd 2 s1.2.1.q)]),((zk r.q).1,[]),((zk s1.2.1.q).1,(zk s1.2.1.q).2)],[],[],s1.2.2,false⟩) ?_ ?_
 .
  exact zgb (bl 25 63) (by kernel_rfl) (by kernel_rfl)
 .
  intro s1 p1 h
  refine zbn (by dsimp only[zbh,zca,foldl,List.set]) rfl ?_
  refine zm ?_
  refine zm (zc ?_)
  refine zac ?_
  refine w_o (a:= .b (s1.1 !=0)) ?_
  refine zt h (fun hc1 h=> ?_) (fun hc1 h=> ?_)
  .
   refine w_o (a:= .b true) (h:=zbf (zeq rfl hc1)) ?_
   refine zal rfl rfl ?_
   refine zac ?_
   refine zal rfl rfl ?_
   iterate 2 refine w_o (a:= .b (s1.1 !=124)) ?_
   refine zt h (fun hc2 h=> ?_) (fun hc2 h=> ?_)
   .
    refine w_o (a:= .b true) (h:=zbf (zeq rfl hc2)) ?_
    refine zal rfl rfl ?_
    refine zac ?_
    refine zal rfl rfl ?_
    iterate 2 refine w_o (a:= .b (s1.1 !=41)) ?_
    refine zt h (fun hc3 h=> ?_) (fun hc3 h=> ?_)
    .
     refine zbv hc3 rfl ?_
     refine zm ?_
     refine zaj ?_
     obtain⟨x2,hx2,h⟩:=zv h
     obtain⟨x3,hx3,h⟩:=zv h
     obtain⟨g1,h⟩:=z4l h
     refine w_seqC (id:=3) ?_
     refine zpk (fun ops hops FIN hFIN S0 hS0=> ?_)
     obtain⟨psY,hpsY⟩: ∃ps:List (Option (Nat×AV)),ps=[some (18,.yld l),some (19,.ptr 0 0),some (20,.ptr 0 0),some (21,.A (x2.1:Tr)),some (22,.A (x3.1:Tr)),some (23,.b true),some (24,.b false)]:=⟨_,rfl⟩
     have zY7:aN (ITP prog) prog (some G) ops FIN S0 psY 7 0 127 ⟨[(59,[.s x3.2.s,.i x3.2.a,.i x3.2.e,(zbd 4 x3.2.q)]),((zk r.q).1,[]),((zk s1.2.1.q).1,[]),((zk x2.2.q).1,[]),((zk x3.2.q).1,(zk x3.2.q).2)],[],[],(s1.2.2+1),false⟩:=by
      refine aN_0 hops hS0 hpsY (hFIN _ _ ?_);refine zba rfl ?_;refine zc (k0:=k0) (id:=2) ?_;refine w_o (a:= .ptr 0 0) ?_;obtain⟨x4,hx4,h⟩:=zv h;refine zgw (r:= .u x4.1) (U':=⟨[(59,[.s x4.2.s,.i x4.2.a,.i x4.2.e,(zbd 5 x4.2.q)]),((zk r.q).1,[]),((zk s1.2.1.q).1,[]),((zk x2.2.q).1,[]),((zk x3.2.q).1,[]),((zk x4.2.q).1,(zk x4.2.q).2)],[],[],(s1.2.2+1),false⟩) ((zpi x3.2 x4 hx4) _ 4 (by decide) rfl rfl) rfl rfl ⟨rfl,rfl⟩ (by dsimp only[zy,List.set]) ?_;refine zac ?_;refine zbz (p:=p1) (x4.1,x4.2,(s1.2.2+1)) h ?_;exact(zdr (bl 25 63) 2 [] [5] 1 hk0 rfl (by dsimp only[zbh,zca,foldl,List.set];exact(zah (zd _ _ _ rfl) (zah rfl (zah rfl (zah (zd _ _ _ rfl) (zah rfl (zah rfl (zj (zj (zag (zag (zag zcw)))))))))))) (zax rfl (zb (zd _ _ _ rfl) (zb (zd _ _ _ rfl) (zb (zd _ _ _ rfl) (zb (zas (fun _=>rfl)) zf)))) zf (zi rfl (zu _ _ _) zaq) rfl))
     have zY6:aN (ITP prog) prog (some G) ops FIN S0 psY 7 1 63 ⟨[(59,[.s x3.2.s,.i x3.2.a,.i x3.2.e,(zbd 4 x3.2.q)]),((zk r.q).1,[]),((zk s1.2.1.q).1,[]),((zk x2.2.q).1,[]),((zk x3.2.q).1,(zk x3.2.q).2)],[],[],(s1.2.2+1),false⟩:=by
      refine zkl hops hS0 hpsY 6 ?_;refine w_o (a:= .b false) ?_;exact zg zY7 hS0 hpsY
     obtain⟨psN,hpsN⟩: ∃ps:List (Option (Nat×AV)),ps=[some (18,.yld l),some (19,.ptr 0 0),some (20,.ptr 0 0),some (21,.A (x2.1:Tr)),some (22,.A (x3.1:Tr)),some (23,.b false),some (24,.b true)]:=⟨_,rfl⟩;have zN7:aN (ITP prog) prog (some G) ops FIN S0 psN 7 0 127 ⟨[(59,[.s x3.2.s,.i x3.2.a,.i x3.2.e,(zbd 4 x3.2.q)]),((zk r.q).1,[]),((zk s1.2.1.q).1,[]),((zk x2.2.q).1,[]),((zk x3.2.q).1,(zk x3.2.q).2)],[],[],s1.2.2,true⟩:=by
      refine aN_0 hops hS0 hpsN (hFIN _ _ ?_);refine zbi rfl ?_;refine .inr ?_;exact⟨⟨.tup [],rfl⟩,.inl rfl⟩
     have zN6:aN (ITP prog) prog (some G) ops FIN S0 psN 7 1 63 ⟨[(59,[.s x3.2.s,.i x3.2.a,.i x3.2.e,(zbd 4 x3.2.q)]),((zk r.q).1,[]),((zk s1.2.1.q).1,[]),((zk x2.2.q).1,[]),((zk x3.2.q).1,(zk x3.2.q).2)],[],[],s1.2.2,true⟩:=by
      refine zkl hops hS0 hpsN 6 ?_;refine w_o (a:= .b true) ?_;exact zg zN7 hS0 hpsN
     obtain⟨ps,hps⟩: ∃ps:List (Option (Nat×AV)),ps=[some (18,.yld l),some (19,.ptr 0 0),some (20,.ptr 0 0),some (21,.A (x2.1:Tr)),some (22,.A (x3.1:Tr)),none,none]:=⟨_,rfl⟩;have n13:aN (ITP prog) prog (some G) ops FIN S0 ps 7 2 31 ⟨[(59,[.s x3.2.s,.i x3.2.a,.i x3.2.e,(zbd 4 x3.2.q)]),((zk r.q).1,[]),((zk s1.2.1.q).1,[]),((zk x2.2.q).1,[]),((zk x3.2.q).1,(zk x3.2.q).2)],[],[],s1.2.2,false⟩:=by
      refine zkl hops hS0 hps 5 ?_;refine zro (row:=zmr) (x:=x3.1) (U1:=⟨[(59,[.s x3.2.s,.i x3.2.a,.i x3.2.e,(zbd 4 x3.2.q)]),((zk r.q).1,[]),((zk s1.2.1.q).1,[]),((zk x2.2.q).1,[]),((zk x3.2.q).1,(zk x3.2.q).2)],[],[],(s1.2.2+1),false⟩) (U2:=⟨[(59,[.s x3.2.s,.i x3.2.a,.i x3.2.e,(zbd 4 x3.2.q)]),((zk r.q).1,[]),((zk s1.2.1.q).1,[]),((zk x2.2.q).1,[]),((zk x3.2.q).1,(zk x3.2.q).2)],[],[],s1.2.2,true⟩) g1 (zh (zbu (zab (Enc.clo _))) rfl) (za (zao _ _ (zab (Enc.clo _))) rfl) (zvk rfl) rfl hGl hGr rfl rfl rfl rfl (by dsimp only[zy,List.set]) (by dsimp only[zy,List.set]) rfl rfl ?_ ?_
      .
       exact zg zY6 hS0 hpsY
      .
       exact zg zN6 hS0 hpsN
     have n12:aN (ITP prog) prog (some G) ops FIN S0 ps 7 3 30 ⟨[(59,[.s x3.2.s,.i x3.2.a,.i x3.2.e,(zbd 4 x3.2.q)]),((zk r.q).1,[]),((zk s1.2.1.q).1,[]),((zk x2.2.q).1,[]),((zk x3.2.q).1,(zk x3.2.q).2)],[],[],s1.2.2,false⟩:=by
      refine zkl hops hS0 hps 0 ?_
      .
       refine zac ?_
       exact zg n13 hS0 hps
     have n11:aN (ITP prog) prog (some G) ops FIN S0 ps 7 3 15 ⟨[(59,[.s x2.2.s,.i x2.2.a,.i x2.2.e,(zbd 3 x2.2.q)]),((zk r.q).1,[]),((zk s1.2.1.q).1,[]),((zk x2.2.q).1,(zk x2.2.q).2)],[],[],s1.2.2,false⟩:=by
      refine zkl hops hS0 hps 4 ?_
      .
       refine zgw (r:= .A (x3.1:Tr)) (U':=⟨[(59,[.s x3.2.s,.i x3.2.a,.i x3.2.e,(zbd 4 x3.2.q)]),((zk r.q).1,[]),((zk s1.2.1.q).1,[]),((zk x2.2.q).1,[]),((zk x3.2.q).1,(zk x3.2.q).2)],[],[],s1.2.2,false⟩) ((zvh fuel x2.1 x2.2 x3 hx3) _ 3 (by decide) rfl rfl) rfl rfl ⟨rfl,rfl⟩ (by dsimp only[zy,List.set]) ?_
       exact zg n13 hS0 hps
     have n10:aN (ITP prog) prog (some G) ops FIN S0 ps 7 4 14 ⟨[(59,[.s x2.2.s,.i x2.2.a,.i x2.2.e,(zbd 3 x2.2.q)]),((zk r.q).1,[]),((zk s1.2.1.q).1,[]),((zk x2.2.q).1,(zk x2.2.q).2)],[],[],s1.2.2,false⟩:=by
      refine zel hops hS0 hps 0 4 ?_ ?_
      .
       refine zac ?_
       exact zg n11 hS0 hps
      .
       refine zgw (r:= .A (x3.1:Tr)) (U':=⟨[(59,[.s x3.2.s,.i x3.2.a,.i x3.2.e,(zbd 4 x3.2.q)]),((zk r.q).1,[]),((zk s1.2.1.q).1,[]),((zk x2.2.q).1,[]),((zk x3.2.q).1,(zk x3.2.q).2)],[],[],s1.2.2,false⟩) ((zvh fuel x2.1 x2.2 x3 hx3) _ 3 (by decide) rfl rfl) rfl rfl ⟨rfl,rfl⟩ (by dsimp only[zy,List.set]) ?_
       exact zg n12 hS0 hps
     have n9:aN (ITP prog) prog (some G) ops FIN S0 ps 7 4 13 ⟨[(59,[.s x2.2.s,.i x2.2.a,.i x2.2.e,(zbd 3 x2.2.q)]),((zk r.q).1,[]),((zk s1.2.1.q).1,[]),((zk x2.2.q).1,(zk x2.2.q).2)],[],[],s1.2.2,false⟩:=by
      refine zkl hops hS0 hps 1 ?_
      .
       refine w_o (a:= .ptr 0 0) ?_
       exact zg n11 hS0 hps
     have n8:aN (ITP prog) prog (some G) ops FIN S0 ps 7 4 7 ⟨[(59,[.s s1.2.1.s,.i s1.2.1.a,.i s1.2.1.e,(zbd 2 s1.2.1.q)]),((zk r.q).1,[]),((zk s1.2.1.q).1,(zk s1.2.1.q).2)],[],[],s1.2.2,false⟩:=by
      refine zkl hops hS0 hps 3 ?_
      .
       refine zgw (r:= .A (x2.1:Tr)) (U':=⟨[(59,[.s x2.2.s,.i x2.2.a,.i x2.2.e,(zbd 3 x2.2.q)]),((zk r.q).1,[]),((zk s1.2.1.q).1,[]),((zk x2.2.q).1,(zk x2.2.q).2)],[],[],s1.2.2,false⟩) ((ha s1.2.1 x2 hx2) _ 2 (by decide) rfl rfl) rfl rfl ⟨rfl,rfl⟩ (by dsimp only[zy,List.set]) ?_
       exact zg n11 hS0 hps
     have n7:aN (ITP prog) prog (some G) ops FIN S0 ps 7 5 12 ⟨[(59,[.s x2.2.s,.i x2.2.a,.i x2.2.e,(zbd 3 x2.2.q)]),((zk r.q).1,[]),((zk s1.2.1.q).1,[]),((zk x2.2.q).1,(zk x2.2.q).2)],[],[],s1.2.2,false⟩:=by
      refine zel hops hS0 hps 0 1 ?_ ?_
      .
       refine zac ?_
       exact zg n9 hS0 hps
      .
       refine w_o (a:= .ptr 0 0) ?_
       exact zg n10 hS0 hps
     have n6:aN (ITP prog) prog (some G) ops FIN S0 ps 7 5 6 ⟨[(59,[.s s1.2.1.s,.i s1.2.1.a,.i s1.2.1.e,(zbd 2 s1.2.1.q)]),((zk r.q).1,[]),((zk s1.2.1.q).1,(zk s1.2.1.q).2)],[],[],s1.2.2,false⟩:=by
      refine zel hops hS0 hps 0 3 ?_ ?_
      .
       refine zac ?_
       exact zg n8 hS0 hps
      .
       refine zgw (r:= .A (x2.1:Tr)) (U':=⟨[(59,[.s x2.2.s,.i x2.2.a,.i x2.2.e,(zbd 3 x2.2.q)]),((zk r.q).1,[]),((zk s1.2.1.q).1,[]),((zk x2.2.q).1,(zk x2.2.q).2)],[],[],s1.2.2,false⟩) ((ha s1.2.1 x2 hx2) _ 2 (by decide) rfl rfl) rfl rfl ⟨rfl,rfl⟩ (by dsimp only[zy,List.set]) ?_
       exact zg n10 hS0 hps
     have n5:aN (ITP prog) prog (some G) ops FIN S0 ps 7 5 5 ⟨[(59,[.s s1.2.1.s,.i s1.2.1.a,.i s1.2.1.e,(zbd 2 s1.2.1.q)]),((zk r.q).1,[]),((zk s1.2.1.q).1,(zk s1.2.1.q).2)],[],[],s1.2.2,false⟩:=by
      refine zel hops hS0 hps 1 3 ?_ ?_
      .
       refine w_o (a:= .ptr 0 0) ?_
       exact zg n8 hS0 hps
      .
       refine zgw (r:= .A (x2.1:Tr)) (U':=⟨[(59,[.s x2.2.s,.i x2.2.a,.i x2.2.e,(zbd 3 x2.2.q)]),((zk r.q).1,[]),((zk s1.2.1.q).1,[]),((zk x2.2.q).1,(zk x2.2.q).2)],[],[],s1.2.2,false⟩) ((ha s1.2.1 x2 hx2) _ 2 (by decide) rfl rfl) rfl rfl ⟨rfl,rfl⟩ (by dsimp only[zy,List.set]) ?_
       exact zg n9 hS0 hps
     have n4:aN (ITP prog) prog (some G) ops FIN S0 ps 7 5 3 ⟨[(59,[.s s1.2.1.s,.i s1.2.1.a,.i s1.2.1.e,(zbd 2 s1.2.1.q)]),((zk r.q).1,[]),((zk s1.2.1.q).1,(zk s1.2.1.q).2)],[],[],s1.2.2,false⟩:=by
      refine zkl hops hS0 hps 2 ?_
      .
       refine w_o (a:= .ptr 0 0) ?_
       exact zg n8 hS0 hps
     have n3:aN (ITP prog) prog (some G) ops FIN S0 ps 7 6 4 ⟨[(59,[.s s1.2.1.s,.i s1.2.1.a,.i s1.2.1.e,(zbd 2 s1.2.1.q)]),((zk r.q).1,[]),((zk s1.2.1.q).1,(zk s1.2.1.q).2)],[],[],s1.2.2,false⟩:=by
      refine zie hops hS0 hps 0 1 3 ?_ ?_ ?_
      .
       refine zac ?_
       exact zg n5 hS0 hps
      .
       refine w_o (a:= .ptr 0 0) ?_
       exact zg n6 hS0 hps
      .
       refine zgw (r:= .A (x2.1:Tr)) (U':=⟨[(59,[.s x2.2.s,.i x2.2.a,.i x2.2.e,(zbd 3 x2.2.q)]),((zk r.q).1,[]),((zk s1.2.1.q).1,[]),((zk x2.2.q).1,(zk x2.2.q).2)],[],[],s1.2.2,false⟩) ((ha s1.2.1 x2 hx2) _ 2 (by decide) rfl rfl) rfl rfl ⟨rfl,rfl⟩ (by dsimp only[zy,List.set]) ?_
       exact zg n7 hS0 hps
     have n2:aN (ITP prog) prog (some G) ops FIN S0 ps 7 6 2 ⟨[(59,[.s s1.2.1.s,.i s1.2.1.a,.i s1.2.1.e,(zbd 2 s1.2.1.q)]),((zk r.q).1,[]),((zk s1.2.1.q).1,(zk s1.2.1.q).2)],[],[],s1.2.2,false⟩:=by
      refine zel hops hS0 hps 0 2 ?_ ?_
      .
       refine zac ?_
       exact zg n4 hS0 hps
      .
       refine w_o (a:= .ptr 0 0) ?_
       exact zg n6 hS0 hps
     have n1:aN (ITP prog) prog (some G) ops FIN S0 ps 7 6 1 ⟨[(59,[.s s1.2.1.s,.i s1.2.1.a,.i s1.2.1.e,(zbd 2 s1.2.1.q)]),((zk r.q).1,[]),((zk s1.2.1.q).1,(zk s1.2.1.q).2)],[],[],s1.2.2,false⟩:=by
      refine zel hops hS0 hps 1 2 ?_ ?_
      .
       refine w_o (a:= .ptr 0 0) ?_
       exact zg n4 hS0 hps
      .
       refine w_o (a:= .ptr 0 0) ?_
       exact zg n5 hS0 hps
     have n0:aN (ITP prog) prog (some G) ops FIN S0 ps 7 7 0 ⟨[(59,[.s s1.2.1.s,.i s1.2.1.a,.i s1.2.1.e,(zbd 2 s1.2.1.q)]),((zk r.q).1,[]),((zk s1.2.1.q).1,(zk s1.2.1.q).2)],[],[],s1.2.2,false⟩:=by
      refine zie hops hS0 hps 0 1 2 ?_ ?_ ?_
      .
       refine zac ?_
       exact zg n1 hS0 hps
      .
       refine w_o (a:= .ptr 0 0) ?_
       exact zg n2 hS0 hps
      .
       refine w_o (a:= .ptr 0 0) ?_
       exact zg n3 hS0 hps
     exact zvj n0 hps
    .
     refine zbw hc3 rfl ?_
     refine zap h (fun h=> ?_)
     have he1:=Option.some.inj h
     exact⟨⟨.tup [],rfl⟩,.inr ⟨congrArg Prod.fst he1,[2],1,rfl,by have e2:=congrArg Prod.snd he1;dsimp only at e2;subst e2;exact(zvv rfl (zb (zd _ _ _ rfl) (zb (zd _ _ _ rfl) (zb (zd _ _ _ rfl) (zb (zas (fun _=>rfl)) zf)))) zf (zi rfl (zu _ _ _) zaq))⟩⟩
   .
    refine w_o (a:= .b false) (h:=zbf (zeq rfl hc2)) ?_
    iterate 2 refine zxq ?_
    refine w_o (a:= .b false) ?_
    refine zba rfl ?_
    refine zap h (fun h=> ?_)
    have he2:=Option.some.inj h
    exact⟨⟨.tup [],rfl⟩,.inr ⟨congrArg Prod.fst he2,[2],1,rfl,by have e2:=congrArg Prod.snd he2;dsimp only at e2;subst e2;exact(zvv rfl (zb (zd _ _ _ rfl) (zb (zd _ _ _ rfl) (zb (zd _ _ _ rfl) (zb (zas (fun _=>rfl)) zf)))) zf (zi rfl (zu _ _ _) zaq))⟩⟩
  .
   refine w_o (a:= .b false) (h:=zbf (zeq rfl hc1)) ?_
   iterate 2 refine zxq ?_
   refine w_o (a:= .b false) ?_
   refine zac ?_
   iterate 2 refine zxq ?_
   refine w_o (a:= .b false) ?_
   refine zba rfl ?_
   refine zap h (fun h=> ?_)
   have he3:=Option.some.inj h
   exact⟨⟨.tup [],rfl⟩,.inr ⟨congrArg Prod.fst he3,[2],1,rfl,by have e2:=congrArg Prod.snd he3;dsimp only at e2;subst e2;exact(zvv rfl (zb (zd _ _ _ rfl) (zb (zd _ _ _ rfl) (zb (zd _ _ _ rfl) (zb (zas (fun _=>rfl)) zf)))) zf (zi rfl (zu _ _ _) zaq))⟩⟩
def zye (fuel:Nat)(a:Rd->Option (Tr×Rd))(r:Rd):Option (List Tr×Rd):=
 zai (zgg r) (fun x1=>zbg (β:=Int×Rd×List Tr) (fun s1=>bif (s1.1 !=0) then(bif (s1.1 !=124) then(bif (s1.1 !=41) then zai (a s1.2.1) (fun x2=>zai (zdq fuel x2.1 x2.2) (fun x3=>zai (zgg x3.2) (fun x4=>some (inl (x4.1,x4.2,s1.2.2++[x3.1]))))) else some (inr (s1.2.2,s1.2.1))) else some (inr (s1.2.2,s1.2.1))) else some (inr (s1.2.2,s1.2.1))) fuel (x1.1,x1.2,[]))
theorem z5d (F:Nat)(a:Rd->Option (Tr×Rd))(rows:List Tr)(r2:Rd): ∀(fuel:Nat) (c:Int) (r:Rd) (acc:List Tr),
 zbg (β:=Int×Rd×List Tr) (fun s1=>bif (s1.1 !=0) then(bif (s1.1 !=124) then(bif (s1.1 !=41) then zai (a s1.2.1) (fun x2=>zai (zdq F x2.1 x2.2) (fun x3=>zai (zgg x3.2) (fun x4=>some (inl (x4.1,x4.2,s1.2.2++[x3.1]))))) else some (inr (s1.2.2,s1.2.1))) else some (inr (s1.2.2,s1.2.1))) else some (inr (s1.2.2,s1.2.1))) fuel (c,r,acc)=some (rows,r2)->
 (∃tl,rows=acc++tl)/\ zbg (β:=Int×Rd×Nat) (fun s1=>(bif (s1.1 !=0) then(bif (s1.1 !=124) then(bif (s1.1 !=41) then(zai (a s1.2.1) (fun x2=>(zai (zdq F x2.1 x2.2) (fun x3=>(z8k (rows[s1.2.2]? =some x3.1) (zai (zgg x3.2) (fun x4=>(some (inl (x4.1,x4.2,(s1.2.2+1))))))))))) else(some (inr (s1.2.2,s1.2.1)))) else(some (inr (s1.2.2,s1.2.1)))) else(some (inr (s1.2.2,s1.2.1))))) fuel (c,r,acc.length)=some (rows.length,r2)
 |0,_,_,_,h=>by cases h
 | fuel +1,c,r,acc,h=>by
  have stop:some (inr (acc,r):(Int×Rd×List Tr) ⊕ (List Tr×Rd))=some (inr (acc,r))->some (acc,r)=some (rows,r2)->(∃tl,rows=acc++tl)/\ some (acc.length,r)=some (rows.length,r2):=fun _ h=>by
   cases h;exact⟨⟨[],by simp⟩,rfl⟩
  rw[zbg] at h⊢;simp only at h⊢;cases h1:(c !=0) with
  |false=>rw[h1] at h;simp only[cond_false] at h⊢;exact stop rfl h
  | true =>
   rw[h1] at h;simp only[cond_true] at h⊢;cases h2:(c !=124) with
   |false=>rw[h2] at h;simp only[cond_false] at h⊢;exact stop rfl h
   | true=>
    rw[h2] at h;simp only[cond_true] at h⊢;cases h3:(c !=41) with
    |false=>rw[h3] at h;simp only[cond_false] at h⊢;exact stop rfl h
    | true=>
     rw[h3] at h;simp only[cond_true] at h⊢;cases ha:a r with
     |none=>rw[ha] at h;cases h
     | some x2=>
      rw[ha] at h;simp only[zai] at h⊢;cases hc:zdq F x2.1 x2.2 with
      |none=>rw[hc] at h;cases h
      | some x3=>
       rw[hc] at h;simp only at h⊢;cases hn:zgg x3.2 with
       |none=>rw[hn] at h;cases h
       | some x4=>
        rw[hn] at h;simp only at h⊢;obtain⟨⟨tl,e1⟩,e2⟩:=z5d F a rows r2 fuel x4.1 x4.2 (acc++[x3.1]) h;have hr:rows[acc.length]? =some x3.1:=by rw[e1];simp
        refine⟨⟨x3.1::tl,by rw[e1];simp⟩,?_⟩;unfold z8k;rw[if_pos hr];simp only;rw[length_append] at e2;exact e2
theorem pcs_ok (fuel:Nat)(a:Rd->Option (Tr×Rd))(r:Rd)(y:List Tr×Rd)(h:zye fuel a r=some y):qgz fuel a y.1 r=some (y.1.length,y.2):=by
 unfold zye at h;obtain⟨x1,h1,h⟩:=zv h;unfold qgz;rw[h1];exact(z5d fuel a y.1 y.2 fuel x1.1 x1.2 [] h).2
def zqz (fuel:Nat):Nat->Rd->Option (Tr×Rd)
 |0,_=>none
 |n+1,r=>z0z fuel (zye fuel (zgr fuel (zdy (zqz fuel n)))) r
theorem qjd (fuel:Nat): ∀(n:Nat) (r:Rd) (y:Tr×Rd),zqz fuel n r=some y->RdC prog 20 [] r (.agg (Enc.cells y.1)) y.2
 |0,_,_,h=>by cases h
 |n+1,r,y,h=>alts_rd fuel _ r (fun r y h=>pc1_it fuel _ y.1 r (fun r y h=>atom_rd fuel _ r (fun k r y h=>qil _ k r (qjd fuel n) y h) y h) y.2 (pcs_ok fuel _ r y h)) y h
def z0t (fuel n:Nat)(s:List UInt8):Option (Rg×Int×Int):=z4w (zqz fuel n) s
theorem z4c (fuel n:Nat)(s:List UInt8)(r:Rg×Int×Int)(h:z0t fuel n s=some r):Pure (ITP prog) prog 8 [.raw (.string (bs s))] (.tup [.agg (Enc.cells (r.1:Rg)),.raw (.int .i64 r.2.1),.raw (.int .i64 r.2.2)]):=read_sh _ s r (qjd fuel n) h
end Go.Ab
