import Derived.Test.YtnoccnalocdldaaDoorZgR2
set_option linter.all false
set_option maxRecDepth 100000
set_option maxHeartbeats 4000000
namespace Go.Ab
open Go Go.RowKit Go.Fwd Go.Proofs
def zse (p:Rd→Option (Tr×Rd))(k:Int)(r:Rd):Option (Tr×Rd):=
 (chk (List.length (zfk r.q)<2^40) (chk (-9223372036854775808≤(r.a+k)∧(r.a+k)<9223372036854775808) (zar (p (Rd.mk r.s (r.a+k) r.e (zhp r.q r.a))) (fun x1=>(zdr (τ:=Rd) (zar (zfz x1.2) (fun x2=>(bif (x2.1==41) then(chk (-9223372036854775808≤(x2.2.a+1)∧(x2.2.a+1)<9223372036854775808) (chk (-9223372036854775808≤((List.length (zfk x2.2.q):Int)-1)∧((List.length (zfk x2.2.q):Int)-1)<9223372036854775808) (chk (zfk x2.2.q≠[]) (some (Sum.inl ((Rd.mk x2.2.s (x2.2.a+1) x2.2.e (zzi x2.2.q)))))))) else(some (Sum.inl (x2.2)))))) (fun j1=>(some (x1.1,j1))))))))
theorem ent74:Ent Tryd.prog 74:=enters_of Tryd.func74 (by kernel_rfl) rfl
set_option maxRecDepth 100000 in
set_option maxHeartbeats 4000000 in
theorem qhc (p:Rd→Option (Tr×Rd))(k:Int)(r:Rd)(hp: ∀(r:Rd)(y:Tr×Rd),p r=some y→RdC Tryd.prog 20 [] r (.agg (Enc.cells y.1)) y.2)(y:Tr×Rd)(h:zse p k r=some y):RdC Tryd.prog 74 [.raw (.int .i64 k)] r (.agg (Enc.cells (y.1:Tr))) y.2:=by
 obtain⟨d,hd⟩: ∃d,Tryd.f74.body=some d:=⟨_,rfl⟩
 refine z7n mix Tryd.func74 hd ent74 (by first|rfl|exact(zoa rfl rfl)) (by first|rfl|exact(zab (Enc.clo _))) (fun k0 hk0=> ?_)
 cases hd
 unfold zse at h
 refine zbj (by dsimp only[zat,Tryd.f74,List.length_cons,List.length_nil,Nat.zero_add,Nat.reduceAdd,Nat.reduceSub,List.replicate,List.cons_append,List.nil_append]) (show rdS r.q r=⟨[(59,[.raw (.string (bs r.s)),.raw (.int .i64 r.a),.raw (.int .i64 r.e),(zbd 2 r.q)]),((zm r.q).1,[]),((zm r.q).1,(zm r.q).2)],[],[],0,false⟩ from rfl) ?_
 refine zi (zc ?_)
 refine zcb (a:= .ptr 3 0) (σ'':=(.B [(59,[.s r.s,.i r.a,.i r.e,(zbd 2 r.q)]),((zm r.q).1,[]),((zm r.q).1,(zm r.q).2),(33,[.u 0,.raw (.int .u64 0),.raw (.int .u64 0),.raw (.int .u64 0),.raw (.int .u64 0),.i 0,.i 0,.list 0 [] .full])])) ?_
 obtain⟨g1,h⟩:=zp h
 refine qgf (id:=1) [.ptr 0 0,.i k,.raw undef,.raw undef,.ptr 3 0,.raw undef,.ptr 0 0,.ptr 0 0,.ptr 0 0,.ptr 0 3,(zbd 2 r.q),.ptr 0 0,.ptr 0 0,.ptr 0 1,.i r.a,.F (([r.a]:List Int):List Int),(zbd 4 (zhp r.q r.a)),.ptr 0 0,.ptr 0 3,.raw undef,.raw undef,.raw undef,.raw undef,.raw undef,.raw undef,.raw undef,.raw undef,.raw undef,.raw undef,.raw undef,.raw undef,.raw undef,.raw undef,.raw undef,.raw undef,.raw undef,.raw undef,.raw undef,.raw undef,.raw undef,.raw undef,.raw undef,.raw undef,.raw undef,.raw undef,.raw undef,.raw undef,.raw undef,.raw undef,.raw undef,.raw undef,.raw undef,.raw undef,.raw undef] (.B [(59,[.s r.s,.i r.a,.i r.e,(zbd 4 (zhp r.q r.a))]),((zm r.q).1,[]),((zm r.q).1,[]),(33,[.u 0,.raw (.int .u64 0),.raw (.int .u64 0),.raw (.int .u64 0),.raw (.int .u64 0),.i 0,.i 0,.list 0 [] .full]),((zm (zhp r.q r.a)).1,(zm (zhp r.q r.a)).2)]) ?_ ?_
 ·
  refine zpw (fun ops hops FIN hFIN S0 hS0=> ?_)
  let v8:AV:= .ptr 0 0
  let v12:AV:= .ptr 0 0
  let v9:AV:= .ptr 0 3
  let v13:AV:= .ptr 0 1
  let v10:AV:=(zbd 2 r.q)
  let v14:AV:= .i r.a
  let v15:AV:= .F (([r.a]:List Int):List Int)
  let v16:AV:=(zbd 4 (zhp r.q r.a))
  let v17:AV:= .ptr 0 0
  let v18:AV:= .ptr 0 3
  let G0:St:=(.B [(59,[.s r.s,.i r.a,.i r.e,(zbd 2 r.q)]),((zm r.q).1,[]),((zm r.q).1,(zm r.q).2),(33,[.u 0,.raw (.int .u64 0),.raw (.int .u64 0),.raw (.int .u64 0),.raw (.int .u64 0),.i 0,.i 0,.list 0 [] .full])])
  let G1:St:=(.B [(59,[.s r.s,.i r.a,.i r.e,(zbd 2 r.q)]),((zm r.q).1,[]),((zm r.q).1,[]),(33,[.u 0,.raw (.int .u64 0),.raw (.int .u64 0),.raw (.int .u64 0),.raw (.int .u64 0),.i 0,.i 0,.list 0 [] .full]),((zm (zhp r.q r.a)).1,(zm (zhp r.q r.a)).2)])
  let G2:St:=(.B [(59,[.s r.s,.i r.a,.i r.e,(zbd 4 (zhp r.q r.a))]),((zm r.q).1,[]),((zm r.q).1,[]),(33,[.u 0,.raw (.int .u64 0),.raw (.int .u64 0),.raw (.int .u64 0),.raw (.int .u64 0),.i 0,.i 0,.list 0 [] .full]),((zm (zhp r.q r.a)).1,(zm (zhp r.q r.a)).2)])
  obtain⟨ps,hps⟩: ∃ps:List (Option (Nat×AV)),ps=[some (6,.ptr 0 0),some (7,.ptr 0 0),some (8,v8),some (9,v9),some (10,v10),some (11,.ptr 0 0),some (12,v12),some (13,v13),some (14,v14),some (15,v15),some (16,v16),some (17,v17),some (18,v18),none]:=⟨_,rfl⟩
  let N:Nat→Nat→St→Prop:=fun k m σ=>aN (ITP Tryd.prog) Tryd.prog none ops FIN S0 ps 14 k m σ
  have n64:N 0 16383 G2:=by
   exact aN_0 hops hS0 hps (hFIN _ _ (Wk.refl _ _ _))
  have n63:N 1 8191 G1:=by
   refine zkk hops hS0 hps 13 ?_
   ·
    refine zcb (σ'':=G2) (h:=zvb (k:=4) (q:=(zhp r.q r.a)) rfl rfl rfl rfl) ?_
    exact zf n64 hS0 hps
  have n62:N 2 4095 G1:=by
   refine zkk hops hS0 hps 12 ?_
   ·
    refine w_o (a:=v18) ?_
    exact zf n63 hS0 hps
  have n61:N 3 2047 G1:=by
   refine zkk hops hS0 hps 11 ?_
   ·
    refine w_o (a:=v17) ?_
    exact zf n62 hS0 hps
  have n60:N 4 2046 G1:=by
   refine zkk hops hS0 hps 0 ?_
   ·
    refine zac ?_
    exact zf n61 hS0 hps
  have n59:N 4 1023 G0:=by
   refine zkk hops hS0 hps 10 ?_
   ·
    refine z8k (a:=v16) (σ'':=G1) rfl rfl rfl (qcj (b:=2) (q:=r.q) (a:=r.a) g1 rfl rfl rfl rfl rfl rfl rfl) (by dsimp only[zy,List.set]) rfl ?_
    exact zf n61 hS0 hps
  have n58:N 5 1022 G0:=by
   refine zei hops hS0 hps 0 10 ?_ ?_
   ·
    refine zac ?_
    exact zf n59 hS0 hps
   ·
    refine z8k (a:=v16) (σ'':=G1) rfl rfl rfl (qcj (b:=2) (q:=r.q) (a:=r.a) g1 rfl rfl rfl rfl rfl rfl rfl) (by dsimp only[zy,List.set]) rfl ?_
    exact zf n60 hS0 hps
  have n57:N 5 1007 G0:=by
   refine zkk hops hS0 hps 4 ?_
   ·
    refine w_o (a:=v10) ?_
    exact zf n59 hS0 hps
  have n56:N 5 511 G0:=by
   refine zkk hops hS0 hps 9 ?_
   ·
    refine w_o (a:=v15) (h:=zbb (zhr (α:=Int) (l:=[r.a]) (cs:=Enc.cells (r.a:Int)++[]) rfl (by rw[Enc.cons,Enc.nil]))) ?_
    exact zf n59 hS0 hps
  have n55:N 6 1006 G0:=by
   refine zei hops hS0 hps 0 4 ?_ ?_
   ·
    refine zac ?_
    exact zf n57 hS0 hps
   ·
    refine w_o (a:=v10) ?_
    exact zf n58 hS0 hps
  have n54:N 6 510 G0:=by
   refine zei hops hS0 hps 0 9 ?_ ?_
   ·
    refine zac ?_
    exact zf n56 hS0 hps
   ·
    refine w_o (a:=v15) (h:=zbb (zhr (α:=Int) (l:=[r.a]) (cs:=Enc.cells (r.a:Int)++[]) rfl (by rw[Enc.cons,Enc.nil]))) ?_
    exact zf n58 hS0 hps
  have n53:N 6 999 G0:=by
   refine zkk hops hS0 hps 3 ?_
   ·
    refine w_o (a:=v9) ?_
    exact zf n57 hS0 hps
  have n52:N 6 495 G0:=by
   refine zei hops hS0 hps 4 9 ?_ ?_
   ·
    refine w_o (a:=v10) ?_
    exact zf n56 hS0 hps
   ·
    refine w_o (a:=v15) (h:=zbb (zhr (α:=Int) (l:=[r.a]) (cs:=Enc.cells (r.a:Int)++[]) rfl (by rw[Enc.cons,Enc.nil]))) ?_
    exact zf n57 hS0 hps
  have n51:N 6 255 G0:=by
   refine zkk hops hS0 hps 8 ?_
   ·
    refine w_o (a:=v14) ?_
    exact zf n56 hS0 hps
  have n50:N 7 998 G0:=by
   refine zei hops hS0 hps 0 3 ?_ ?_
   ·
    refine zac ?_
    exact zf n53 hS0 hps
   ·
    refine w_o (a:=v9) ?_
    exact zf n55 hS0 hps
  have n49:N 7 494 G0:=by
   refine zhu hops hS0 hps 0 4 9 ?_ ?_ ?_
   ·
    refine zac ?_
    exact zf n52 hS0 hps
   ·
    refine w_o (a:=v10) ?_
    exact zf n54 hS0 hps
   ·
    refine w_o (a:=v15) (h:=zbb (zhr (α:=Int) (l:=[r.a]) (cs:=Enc.cells (r.a:Int)++[]) rfl (by rw[Enc.cons,Enc.nil]))) ?_
    exact zf n55 hS0 hps
  have n48:N 7 254 G0:=by
   refine zei hops hS0 hps 0 8 ?_ ?_
   ·
    refine zac ?_
    exact zf n51 hS0 hps
   ·
    refine w_o (a:=v14) ?_
    exact zf n54 hS0 hps
  have n47:N 7 995 G0:=by
   refine zkk hops hS0 hps 2 ?_
   ·
    refine w_o (a:=v8) ?_
    exact zf n53 hS0 hps
  have n46:N 7 487 G0:=by
   refine zei hops hS0 hps 3 9 ?_ ?_
   ·
    refine w_o (a:=v9) ?_
    exact zf n52 hS0 hps
   ·
    refine w_o (a:=v15) (h:=zbb (zhr (α:=Int) (l:=[r.a]) (cs:=Enc.cells (r.a:Int)++[]) rfl (by rw[Enc.cons,Enc.nil]))) ?_
    exact zf n53 hS0 hps
  have n45:N 7 239 G0:=by
   refine zei hops hS0 hps 4 8 ?_ ?_
   ·
    refine w_o (a:=v10) ?_
    exact zf n51 hS0 hps
   ·
    refine w_o (a:=v14) ?_
    exact zf n52 hS0 hps
  have n44:N 7 127 G0:=by
   refine zkk hops hS0 hps 7 ?_
   ·
    refine w_o (a:=v13) ?_
    exact zf n51 hS0 hps
  have n43:N 8 994 G0:=by
   refine zei hops hS0 hps 0 2 ?_ ?_
   ·
    refine zac ?_
    exact zf n47 hS0 hps
   ·
    refine w_o (a:=v8) ?_
    exact zf n50 hS0 hps
  have n42:N 8 486 G0:=by
   refine zhu hops hS0 hps 0 3 9 ?_ ?_ ?_
   ·
    refine zac ?_
    exact zf n46 hS0 hps
   ·
    refine w_o (a:=v9) ?_
    exact zf n49 hS0 hps
   ·
    refine w_o (a:=v15) (h:=zbb (zhr (α:=Int) (l:=[r.a]) (cs:=Enc.cells (r.a:Int)++[]) rfl (by rw[Enc.cons,Enc.nil]))) ?_
    exact zf n50 hS0 hps
  have n41:N 8 238 G0:=by
   refine zhu hops hS0 hps 0 4 8 ?_ ?_ ?_
   ·
    refine zac ?_
    exact zf n45 hS0 hps
   ·
    refine w_o (a:=v10) ?_
    exact zf n48 hS0 hps
   ·
    refine w_o (a:=v14) ?_
    exact zf n49 hS0 hps
  have n40:N 8 126 G0:=by
   refine zei hops hS0 hps 0 7 ?_ ?_
   ·
    refine zac ?_
    exact zf n44 hS0 hps
   ·
    refine w_o (a:=v13) ?_
    exact zf n48 hS0 hps
  have n39:N 8 993 G0:=by
   refine zkk hops hS0 hps 1 ?_
   ·
    refine zac ?_
    exact zf n47 hS0 hps
  have n38:N 8 483 G0:=by
   refine zei hops hS0 hps 2 9 ?_ ?_
   ·
    refine w_o (a:=v8) ?_
    exact zf n46 hS0 hps
   ·
    refine w_o (a:=v15) (h:=zbb (zhr (α:=Int) (l:=[r.a]) (cs:=Enc.cells (r.a:Int)++[]) rfl (by rw[Enc.cons,Enc.nil]))) ?_
    exact zf n47 hS0 hps
  have n37:N 8 231 G0:=by
   refine zei hops hS0 hps 3 8 ?_ ?_
   ·
    refine w_o (a:=v9) ?_
    exact zf n45 hS0 hps
   ·
    refine w_o (a:=v14) ?_
    exact zf n46 hS0 hps
  have n36:N 8 111 G0:=by
   refine zei hops hS0 hps 4 7 ?_ ?_
   ·
    refine w_o (a:=v10) ?_
    exact zf n44 hS0 hps
   ·
    refine w_o (a:=v13) ?_
    exact zf n45 hS0 hps
  have n35:N 8 63 G0:=by
   refine zkk hops hS0 hps 6 ?_
   ·
    refine w_o (a:=v12) ?_
    exact zf n44 hS0 hps
  have n34:N 9 992 G0:=by
   refine zei hops hS0 hps 0 1 ?_ ?_
   ·
    refine zac ?_
    exact zf n39 hS0 hps
   ·
    refine zac ?_
    exact zf n43 hS0 hps
  have n33:N 9 482 G0:=by
   refine zhu hops hS0 hps 0 2 9 ?_ ?_ ?_
   ·
    refine zac ?_
    exact zf n38 hS0 hps
   ·
    refine w_o (a:=v8) ?_
    exact zf n42 hS0 hps
   ·
    refine w_o (a:=v15) (h:=zbb (zhr (α:=Int) (l:=[r.a]) (cs:=Enc.cells (r.a:Int)++[]) rfl (by rw[Enc.cons,Enc.nil]))) ?_
    exact zf n43 hS0 hps
  have n32:N 9 230 G0:=by
   refine zhu hops hS0 hps 0 3 8 ?_ ?_ ?_
   ·
    refine zac ?_
    exact zf n37 hS0 hps
   ·
    refine w_o (a:=v9) ?_
    exact zf n41 hS0 hps
   ·
    refine w_o (a:=v14) ?_
    exact zf n42 hS0 hps
  have n31:N 9 110 G0:=by
   refine zhu hops hS0 hps 0 4 7 ?_ ?_ ?_
   ·
    refine zac ?_
    exact zf n36 hS0 hps
   ·
    refine w_o (a:=v10) ?_
    exact zf n40 hS0 hps
   ·
    refine w_o (a:=v13) ?_
    exact zf n41 hS0 hps
  have n30:N 9 62 G0:=by
   refine zei hops hS0 hps 0 6 ?_ ?_
   ·
    refine zac ?_
    exact zf n35 hS0 hps
   ·
    refine w_o (a:=v12) ?_
    exact zf n40 hS0 hps
  have n29:N 9 481 G0:=by
   refine zei hops hS0 hps 1 9 ?_ ?_
   ·
    refine zac ?_
    exact zf n38 hS0 hps
   ·
    refine w_o (a:=v15) (h:=zbb (zhr (α:=Int) (l:=[r.a]) (cs:=Enc.cells (r.a:Int)++[]) rfl (by rw[Enc.cons,Enc.nil]))) ?_
    exact zf n39 hS0 hps
  have n28:N 9 227 G0:=by
   refine zei hops hS0 hps 2 8 ?_ ?_
   ·
    refine w_o (a:=v8) ?_
    exact zf n37 hS0 hps
   ·
    refine w_o (a:=v14) ?_
    exact zf n38 hS0 hps
  have n27:N 9 103 G0:=by
   refine zei hops hS0 hps 3 7 ?_ ?_
   ·
    refine w_o (a:=v9) ?_
    exact zf n36 hS0 hps
   ·
    refine w_o (a:=v13) ?_
    exact zf n37 hS0 hps
  have n26:N 9 47 G0:=by
   refine zei hops hS0 hps 4 6 ?_ ?_
   ·
    refine w_o (a:=v10) ?_
    exact zf n35 hS0 hps
   ·
    refine w_o (a:=v12) ?_
    exact zf n36 hS0 hps
  have n25:N 9 31 G0:=by
   refine zkk hops hS0 hps 5 ?_
   ·
    refine zac ?_
    exact zf n35 hS0 hps
  have n24:N 10 480 G0:=by
   refine zhu hops hS0 hps 0 1 9 ?_ ?_ ?_
   ·
    refine zac ?_
    exact zf n29 hS0 hps
   ·
    refine zac ?_
    exact zf n33 hS0 hps
   ·
    refine w_o (a:=v15) (h:=zbb (zhr (α:=Int) (l:=[r.a]) (cs:=Enc.cells (r.a:Int)++[]) rfl (by rw[Enc.cons,Enc.nil]))) ?_
    exact zf n34 hS0 hps
  have n23:N 10 226 G0:=by
   refine zhu hops hS0 hps 0 2 8 ?_ ?_ ?_
   ·
    refine zac ?_
    exact zf n28 hS0 hps
   ·
    refine w_o (a:=v8) ?_
    exact zf n32 hS0 hps
   ·
    refine w_o (a:=v14) ?_
    exact zf n33 hS0 hps
  have n22:N 10 102 G0:=by
   refine zhu hops hS0 hps 0 3 7 ?_ ?_ ?_
   ·
    refine zac ?_
    exact zf n27 hS0 hps
   ·
    refine w_o (a:=v9) ?_
    exact zf n31 hS0 hps
   ·
    refine w_o (a:=v13) ?_
    exact zf n32 hS0 hps
  have n21:N 10 46 G0:=by
   refine zhu hops hS0 hps 0 4 6 ?_ ?_ ?_
   ·
    refine zac ?_
    exact zf n26 hS0 hps
   ·
    refine w_o (a:=v10) ?_
    exact zf n30 hS0 hps
   ·
    refine w_o (a:=v12) ?_
    exact zf n31 hS0 hps
  have n20:N 10 30 G0:=by
   refine zei hops hS0 hps 0 5 ?_ ?_
   ·
    refine zac ?_
    exact zf n25 hS0 hps
   ·
    refine zac ?_
    exact zf n30 hS0 hps
  have n19:N 10 225 G0:=by
   refine zei hops hS0 hps 1 8 ?_ ?_
   ·
    refine zac ?_
    exact zf n28 hS0 hps
   ·
    refine w_o (a:=v14) ?_
    exact zf n29 hS0 hps
  have n18:N 10 99 G0:=by
   refine zei hops hS0 hps 2 7 ?_ ?_
   ·
    refine w_o (a:=v8) ?_
    exact zf n27 hS0 hps
   ·
    refine w_o (a:=v13) ?_
    exact zf n28 hS0 hps
  have n17:N 10 39 G0:=by
   refine zei hops hS0 hps 3 6 ?_ ?_
   ·
    refine w_o (a:=v9) ?_
    exact zf n26 hS0 hps
   ·
    refine w_o (a:=v12) ?_
    exact zf n27 hS0 hps
  have n16:N 10 15 G0:=by
   refine zei hops hS0 hps 4 5 ?_ ?_
   ·
    refine w_o (a:=v10) ?_
    exact zf n25 hS0 hps
   ·
    refine zac ?_
    exact zf n26 hS0 hps
  have n15:N 11 224 G0:=by
   refine zhu hops hS0 hps 0 1 8 ?_ ?_ ?_
   ·
    refine zac ?_
    exact zf n19 hS0 hps
   ·
    refine zac ?_
    exact zf n23 hS0 hps
   ·
    refine w_o (a:=v14) ?_
    exact zf n24 hS0 hps
  have n14:N 11 98 G0:=by
   refine zhu hops hS0 hps 0 2 7 ?_ ?_ ?_
   ·
    refine zac ?_
    exact zf n18 hS0 hps
   ·
    refine w_o (a:=v8) ?_
    exact zf n22 hS0 hps
   ·
    refine w_o (a:=v13) ?_
    exact zf n23 hS0 hps
  have n13:N 11 38 G0:=by
   refine zhu hops hS0 hps 0 3 6 ?_ ?_ ?_
   ·
    refine zac ?_
    exact zf n17 hS0 hps
   ·
    refine w_o (a:=v9) ?_
    exact zf n21 hS0 hps
   ·
    refine w_o (a:=v12) ?_
    exact zf n22 hS0 hps
  have n12:N 11 14 G0:=by
   refine zhu hops hS0 hps 0 4 5 ?_ ?_ ?_
   ·
    refine zac ?_
    exact zf n16 hS0 hps
   ·
    refine w_o (a:=v10) ?_
    exact zf n20 hS0 hps
   ·
    refine zac ?_
    exact zf n21 hS0 hps
  have n11:N 11 97 G0:=by
   refine zei hops hS0 hps 1 7 ?_ ?_
   ·
    refine zac ?_
    exact zf n18 hS0 hps
   ·
    refine w_o (a:=v13) ?_
    exact zf n19 hS0 hps
  have n10:N 11 35 G0:=by
   refine zei hops hS0 hps 2 6 ?_ ?_
   ·
    refine w_o (a:=v8) ?_
    exact zf n17 hS0 hps
   ·
    refine w_o (a:=v12) ?_
    exact zf n18 hS0 hps
  have n9:N 11 7 G0:=by
   refine zei hops hS0 hps 3 5 ?_ ?_
   ·
    refine w_o (a:=v9) ?_
    exact zf n16 hS0 hps
   ·
    refine zac ?_
    exact zf n17 hS0 hps
  have n8:N 12 96 G0:=by
   refine zhu hops hS0 hps 0 1 7 ?_ ?_ ?_
   ·
    refine zac ?_
    exact zf n11 hS0 hps
   ·
    refine zac ?_
    exact zf n14 hS0 hps
   ·
    refine w_o (a:=v13) ?_
    exact zf n15 hS0 hps
  have n7:N 12 34 G0:=by
   refine zhu hops hS0 hps 0 2 6 ?_ ?_ ?_
   ·
    refine zac ?_
    exact zf n10 hS0 hps
   ·
    refine w_o (a:=v8) ?_
    exact zf n13 hS0 hps
   ·
    refine w_o (a:=v12) ?_
    exact zf n14 hS0 hps
  have n6:N 12 6 G0:=by
   refine zhu hops hS0 hps 0 3 5 ?_ ?_ ?_
   ·
    refine zac ?_
    exact zf n9 hS0 hps
   ·
    refine w_o (a:=v9) ?_
    exact zf n12 hS0 hps
   ·
    refine zac ?_
    exact zf n13 hS0 hps
  have n5:N 12 33 G0:=by
   refine zei hops hS0 hps 1 6 ?_ ?_
   ·
    refine zac ?_
    exact zf n10 hS0 hps
   ·
    refine w_o (a:=v12) ?_
    exact zf n11 hS0 hps
  have n4:N 12 3 G0:=by
   refine zei hops hS0 hps 2 5 ?_ ?_
   ·
    refine w_o (a:=v8) ?_
    exact zf n9 hS0 hps
   ·
    refine zac ?_
    exact zf n10 hS0 hps
  have n3:N 13 32 G0:=by
   refine zhu hops hS0 hps 0 1 6 ?_ ?_ ?_
   ·
    refine zac ?_
    exact zf n5 hS0 hps
   ·
    refine zac ?_
    exact zf n7 hS0 hps
   ·
    refine w_o (a:=v12) ?_
    exact zf n8 hS0 hps
  have n2:N 13 2 G0:=by
   refine zhu hops hS0 hps 0 2 5 ?_ ?_ ?_
   ·
    refine zac ?_
    exact zf n4 hS0 hps
   ·
    refine w_o (a:=v8) ?_
    exact zf n6 hS0 hps
   ·
    refine zac ?_
    exact zf n7 hS0 hps
  have n1:N 13 1 G0:=by
   refine zei hops hS0 hps 1 5 ?_ ?_
   ·
    refine zac ?_
    exact zf n4 hS0 hps
   ·
    refine zac ?_
    exact zf n5 hS0 hps
  have n0:N 14 0 G0:=by
   refine zhu hops hS0 hps 0 1 5 ?_ ?_ ?_
   ·
    refine zac ?_
    exact zf n1 hS0 hps
   ·
    refine zac ?_
    exact zf n2 hS0 hps
   ·
    refine zac ?_
    exact zf n3 hS0 hps
  exact zxq n0 hps
 ·
  refine zi (zc ?_)
  refine zac ?_
  refine w_o (a:= .ptr 0 0) ?_
  refine w_o (a:= .ptr 0 1) ?_
  refine w_o (a:= .i r.a) ?_
  refine zac ?_
  obtain⟨g2,h⟩:=zp h
  refine w_o (a:= .i (r.a+k)) (h:=zbb (znj rfl rfl rfl rfl g2.1 g2.2)) ?_
  refine w_o (a:= .ptr 0 0) ?_
  refine w_o (a:= .ptr 0 1) ?_
  refine zcb (σ'':=(.B [(59,[.s r.s,.i (r.a+k),.i r.e,(zbd 4 (zhp r.q r.a))]),((zm r.q).1,[]),((zm r.q).1,[]),(33,[.u 0,.raw (.int .u64 0),.raw (.int .u64 0),.raw (.int .u64 0),.raw (.int .u64 0),.i 0,.i 0,.list 0 [] .full]),((zm (zhp r.q r.a)).1,(zm (zhp r.q r.a)).2)])) (h:=zcr (n:=1) rfl rfl rfl rfl rfl ⟨rfl,rfl,Nat.le_of_ble_eq_true rfl,by decide⟩) ?_
  refine zgn (zc ?_)
  refine zac ?_
  obtain⟨x1,hx1,h⟩:=zv h
  refine zgm (r:= .A (x1.1:Tr)) (σ':=(.B [(59,[.s x1.2.s,.i x1.2.a,.i x1.2.e,(zbd 5 x1.2.q)]),((zm r.q).1,[]),((zm r.q).1,[]),(33,[.u 0,.raw (.int .u64 0),.raw (.int .u64 0),.raw (.int .u64 0),.raw (.int .u64 0),.i 0,.i 0,.list 0 [] .full]),((zm (zhp r.q r.a)).1,[]),((zm x1.2.q).1,(zm x1.2.q).2)])) ((hp (Rd.mk r.s (r.a+k) r.e (zhp r.q r.a)) x1 hx1) _ 4 (by decide) rfl rfl) rfl rfl ⟨rfl,rfl⟩ (by dsimp only[zy,List.set]) ?_
  refine zcb (a:= .ptr 6 0) (σ'':=(.B [(59,[.s x1.2.s,.i x1.2.a,.i x1.2.e,(zbd 5 x1.2.q)]),((zm r.q).1,[]),((zm r.q).1,[]),(33,[.u 0,.raw (.int .u64 0),.raw (.int .u64 0),.raw (.int .u64 0),.raw (.int .u64 0),.i 0,.i 0,.list 0 [] .full]),((zm (zhp r.q r.a)).1,[]),((zm x1.2.q).1,(zm x1.2.q).2),(33,[.u 0,.raw (.int .u64 0),.raw (.int .u64 0),.raw (.int .u64 0),.raw (.int .u64 0),.i 0,.i 0,.list 0 [] .full])])) ?_
  refine zcb (σ'':=(.B [(59,[.s x1.2.s,.i x1.2.a,.i x1.2.e,(zbd 5 x1.2.q)]),((zm r.q).1,[]),((zm r.q).1,[]),(33,[.u 0,.raw (.int .u64 0),.raw (.int .u64 0),.raw (.int .u64 0),.raw (.int .u64 0),.i 0,.i 0,.list 0 [] .full]),((zm (zhp r.q r.a)).1,[]),((zm x1.2.q).1,(zm x1.2.q).2),(33,(Enc.cells (x1.1:Tr)))])) (h:=zaz (n:=8) rfl rfl rfl rfl rfl rfl rfl rfl (by decide)) ?_
  refine zki (S':=[.ptr 0 0,.top,.top,.top,.ptr 3 0,.ptr 4 0,.top,.top,.top,.top,.top,.top,.top,.top,.top,.top,.top,.top,.top,.top,.top,.top,.top,.top,.top,.top,.top,.top,.top,.top,.top,.top,.top,.top,.top,.top,.top,.top,.top,.top,.top,.top,.top,.top,.top,.top,.top,.top,.top,.top,.top,.top,.top,.top]) (σ':=(.B [(59,[.s x1.2.s,.i x1.2.a,.i x1.2.e,(zbd 2 x1.2.q)]),((zm r.q).1,[]),((zm x1.2.q).1,(zm x1.2.q).2),(33,[.u 0,.raw (.int .u64 0),.raw (.int .u64 0),.raw (.int .u64 0),.raw (.int .u64 0),.i 0,.i 0,.list 0 [] .full]),(33,(Enc.cells (x1.1:Tr)))])) (zdo [zzT,zzF,zzF,zzF,zzT,zzT,zzF,zzF,zzF,zzF,zzF,zzF,zzF,zzF,zzF,zzF,zzF,zzF,zzF,zzF,zzF,zzF,zzF,zzF,zzF,zzF,zzF,zzF,zzF,zzF,zzF,zzF,zzF,zzF,zzF,zzF,zzF,zzF,zzF,zzF,zzF,zzF,zzF,zzF,zzF,zzF,zzF,zzF,zzF,zzF,zzF,zzF,zzF,zzF] 2 [] [5,3,6] 1 hk0 rfl (zai rfl (zah (zah (zah (zai rfl (zai rfl (zk (zk (zk (zk (zk (zk zcu)))))))))))) (zay rfl (zb (zd _ _ _ rfl) (zb (zd _ _ _ rfl) (zb (zd _ _ _ rfl) (zb (zas (fun _=>rfl)) ze)))) ze (zj rfl (zu _ _ _) (zj rfl rfl (zj rfl (zau _ _ _ (Enc.clo _)) zao))) rfl)) ?_
  refine zbh h [0,29,30,31,32,33,34,35,36,37,38,39,40,41,42,43,44,45,46,47,48,49,50,51,52] (fun j1=>[]) (fun j1=>(.B [(59,[.s j1.s,.i j1.a,.i j1.e,(zbd 2 j1.q)]),((zm r.q).1,[]),((zm j1.q).1,(zm j1.q).2),(33,[.u 0,.raw (.int .u64 0),.raw (.int .u64 0),.raw (.int .u64 0),.raw (.int .u64 0),.i 0,.i 0,.list 0 [] .full]),(33,(Enc.cells (x1.1:Tr)))])) ?_ ?_
  ·
   intro or1 h hr1
   refine zgn (zc ?_)
   refine zac ?_
   obtain⟨x2,hx2,h⟩:=zv h
   refine zgm (r:= .u x2.1) (σ':=(.B [(59,[.s x2.2.s,.i x2.2.a,.i x2.2.e,(zbd 5 x2.2.q)]),((zm r.q).1,[]),((zm x1.2.q).1,[]),(33,[.u 0,.raw (.int .u64 0),.raw (.int .u64 0),.raw (.int .u64 0),.raw (.int .u64 0),.i 0,.i 0,.list 0 [] .full]),(33,(Enc.cells (x1.1:Tr))),((zm x2.2.q).1,(zm x2.2.q).2)])) ((zpe x1.2 x2 hx2) _ 2 (by decide) rfl rfl) rfl rfl ⟨rfl,rfl⟩ (by dsimp only[zy,List.set]) ?_
   refine w_o (a:= .b (x2.1==41)) ?_
   refine zki (S':=[.ptr 0 0,.top,.top,.top,.ptr 3 0,.ptr 4 0,.top,.top,.top,.top,.top,.top,.top,.top,.top,.top,.top,.top,.top,.top,.top,.top,.top,.top,.top,.top,.top,.top,.top,.top,.top,.b (x2.1==41),.top,.top,.top,.top,.top,.top,.top,.top,.top,.top,.top,.top,.top,.top,.top,.top,.top,.top,.top,.top,.top,.top]) (σ':=(.B [(59,[.s x2.2.s,.i x2.2.a,.i x2.2.e,(zbd 2 x2.2.q)]),((zm r.q).1,[]),((zm x2.2.q).1,(zm x2.2.q).2),(33,[.u 0,.raw (.int .u64 0),.raw (.int .u64 0),.raw (.int .u64 0),.raw (.int .u64 0),.i 0,.i 0,.list 0 [] .full]),(33,(Enc.cells (x1.1:Tr)))])) (zdo [zzT,zzF,zzF,zzF,zzT,zzT,zzF,zzF,zzF,zzF,zzF,zzF,zzF,zzF,zzF,zzF,zzF,zzF,zzF,zzF,zzF,zzF,zzF,zzF,zzF,zzF,zzF,zzF,zzF,zzF,zzF,zzT,zzF,zzF,zzF,zzF,zzF,zzF,zzF,zzF,zzF,zzF,zzF,zzF,zzF,zzF,zzF,zzF,zzF,zzF,zzF,zzF,zzF,zzF] 2 [] [5,3,4] 1 hk0 rfl (zai rfl (zah (zah (zah (zai rfl (zai rfl (zk (zk (zk (zah (zai (zd _ _ _ rfl) (zk (zk (zah (zah (zah (zah (zah (zah zcu))))))))))))))))))) (zay rfl (zb (zd _ _ _ rfl) (zb (zd _ _ _ rfl) (zb (zd _ _ _ rfl) (zb (zas (fun _=>rfl)) ze)))) ze (zj rfl (zu _ _ _) (zj rfl rfl (zj rfl (zau _ _ _ (Enc.clo _)) zao))) rfl)) ?_
   refine zaa h (fun hc1 h=> ?_) (fun hc1 h=> ?_)
   ·
    refine zbw hc1 rfl ?_
    refine zi (zc ?_)
    refine zac ?_
    refine w_o (a:= .ptr 0 0) ?_
    refine w_o (a:= .ptr 0 1) ?_
    refine w_o (a:= .i x2.2.a) ?_
    obtain⟨g3,h⟩:=zp h
    refine w_o (a:= .i (x2.2.a+1)) (h:=zbb (znj rfl rfl rfl rfl g3.1 g3.2)) ?_
    refine w_o (a:= .ptr 0 0) ?_
    refine w_o (a:= .ptr 0 1) ?_
    refine zcb (σ'':=(.B [(59,[.s x2.2.s,.i (x2.2.a+1),.i x2.2.e,(zbd 2 x2.2.q)]),((zm r.q).1,[]),((zm x2.2.q).1,(zm x2.2.q).2),(33,[.u 0,.raw (.int .u64 0),.raw (.int .u64 0),.raw (.int .u64 0),.raw (.int .u64 0),.i 0,.i 0,.list 0 [] .full]),(33,(Enc.cells (x1.1:Tr)))])) (h:=zcr (n:=1) rfl rfl rfl rfl rfl ⟨rfl,rfl,Nat.le_of_ble_eq_true rfl,by decide⟩) ?_
    obtain⟨g4,h⟩:=zp h
    obtain⟨g5,h⟩:=zp h
    refine qhy (k0:=k0) (id:=6) [.ptr 0 0,.top,.top,.top,.ptr 3 0,.ptr 4 0,.top,.top,.top,.top,.top,.top,.top,.top,.top,.top,.top,.top,.top,.top,.top,.top,.top,.top,.top,.top,.top,.top,.top,.top,.top,.b (x2.1==41),.ptr 0 0,.ptr 0 0,.ptr 0 1,.i x2.2.a,.i (x2.2.a+1),.ptr 0 0,.ptr 0 1,.ptr 0 0,.ptr 0 0,.ptr 0 0,.ptr 0 3,(zbd 2 x2.2.q),.ptr 0 0,.ptr 0 0,.ptr 0 3,(zbd 2 x2.2.q),.i (List.length (zfk x2.2.q):Int),.i ((List.length (zfk x2.2.q):Int)-1),(zbd 2 (zzi x2.2.q)),.ptr 0 0,.ptr 0 3,.top] (.B [(59,[.s x2.2.s,.i (x2.2.a+1),.i x2.2.e,(zbd 2 (zzi x2.2.q))]),((zm r.q).1,[]),((zm x2.2.q).1,(zm x2.2.q).2),(33,[.u 0,.raw (.int .u64 0),.raw (.int .u64 0),.raw (.int .u64 0),.raw (.int .u64 0),.i 0,.i 0,.list 0 [] .full]),(33,(Enc.cells (x1.1:Tr)))]) ?_ ?_
    ·
     refine zpw (fun ops hops FIN hFIN S0 hS0=> ?_)
     let v41:AV:= .ptr 0 0
     let v45:AV:= .ptr 0 0
     let v42:AV:= .ptr 0 3
     let v46:AV:= .ptr 0 3
     let v43:AV:=(zbd 2 x2.2.q)
     let v47:AV:=(zbd 2 x2.2.q)
     let v48:AV:= .i (List.length (zfk x2.2.q):Int)
     let v49:AV:= .i ((List.length (zfk x2.2.q):Int)-1)
     let v51:AV:= .ptr 0 0
     let v52:AV:= .ptr 0 3
     let G0:St:=(.B [(59,[.s x2.2.s,.i (x2.2.a+1),.i x2.2.e,(zbd 2 x2.2.q)]),((zm r.q).1,[]),((zm x2.2.q).1,(zm x2.2.q).2),(33,[.u 0,.raw (.int .u64 0),.raw (.int .u64 0),.raw (.int .u64 0),.raw (.int .u64 0),.i 0,.i 0,.list 0 [] .full]),(33,(Enc.cells (x1.1:Tr)))])
     let G1:St:=(.B [(59,[.s x2.2.s,.i (x2.2.a+1),.i x2.2.e,(zbd 2 (zzi x2.2.q))]),((zm r.q).1,[]),((zm x2.2.q).1,(zm x2.2.q).2),(33,[.u 0,.raw (.int .u64 0),.raw (.int .u64 0),.raw (.int .u64 0),.raw (.int .u64 0),.i 0,.i 0,.list 0 [] .full]),(33,(Enc.cells (x1.1:Tr)))])
     obtain⟨ps,hps⟩: ∃ps:List (Option (Nat×AV)),ps=[some (39,.ptr 0 0),some (40,.ptr 0 0),some (41,v41),some (42,v42),some (43,v43),some (44,.ptr 0 0),some (45,v45),some (46,v46),some (47,v47),some (48,v48),some (49,v49),some (50,(zbd 2 (zzi x2.2.q))),some (51,v51),some (52,v52),none]:=⟨_,rfl⟩
     let N:Nat→Nat→St→Prop:=fun k m σ=>aN (ITP Tryd.prog) Tryd.prog none ops FIN S0 ps 15 k m σ
     have n74:N 0 32767 G1:=by
      exact aN_0 hops hS0 hps (hFIN _ _ ⟨rfl,rfl⟩)
     have n73:N 1 16383 G0:=by
      refine zkk hops hS0 hps 14 ?_
      ·
       refine zcb (σ'':=G1) (h:=zvb (k:=2) (q:=(zzi x2.2.q)) rfl rfl rfl rfl) ?_
       exact zf n74 hS0 hps
     have n72:N 2 8191 G0:=by
      refine zkk hops hS0 hps 13 ?_
      ·
       refine w_o (a:=v52) ?_
       exact zf n73 hS0 hps
     have n71:N 3 4095 G0:=by
      refine zkk hops hS0 hps 12 ?_
      ·
       refine w_o (a:=v51) ?_
       exact zf n72 hS0 hps
     have n70:N 4 4094 G0:=by
      refine zkk hops hS0 hps 0 ?_
      ·
       refine zac ?_
       exact zf n71 hS0 hps
     have n69:N 4 2047 G0:=by
      refine zkk hops hS0 hps 11 ?_
      ·
       refine w_pop (b:=2) (q:=x2.2.q) g5 rfl rfl rfl rfl rfl rfl (by dsimp only[zy,List.set]) ?_
       exact zf n71 hS0 hps
     have n68:N 5 2046 G0:=by
      refine zei hops hS0 hps 0 11 ?_ ?_
      ·
       refine zac ?_
       exact zf n69 hS0 hps
      ·
       refine w_pop (b:=2) (q:=x2.2.q) g5 rfl rfl rfl rfl rfl rfl (by dsimp only[zy,List.set]) ?_
       exact zf n70 hS0 hps
     have n67:N 5 2031 G0:=by
      refine zkk hops hS0 hps 4 ?_
      ·
       refine w_o (a:=v43) ?_
       exact zf n69 hS0 hps
     have n66:N 5 1023 G0:=by
      refine zkk hops hS0 hps 10 ?_
      ·
       refine w_o (a:=v49) (h:=zbb (znp rfl rfl rfl rfl g4.1 g4.2)) ?_
       exact zf n69 hS0 hps
     have n65:N 6 2030 G0:=by
      refine zei hops hS0 hps 0 4 ?_ ?_
      ·
       refine zac ?_
       exact zf n67 hS0 hps
      ·
       refine w_o (a:=v43) ?_
       exact zf n68 hS0 hps
     have n64:N 6 1022 G0:=by
      refine zei hops hS0 hps 0 10 ?_ ?_
      ·
       refine zac ?_
       exact zf n66 hS0 hps
      ·
       refine w_o (a:=v49) (h:=zbb (znp rfl rfl rfl rfl g4.1 g4.2)) ?_
       exact zf n68 hS0 hps
     have n63:N 6 2023 G0:=by
      refine zkk hops hS0 hps 3 ?_
      ·
       refine w_o (a:=v42) ?_
       exact zf n67 hS0 hps
     have n62:N 6 1007 G0:=by
      refine zei hops hS0 hps 4 10 ?_ ?_
      ·
       refine w_o (a:=v43) ?_
       exact zf n66 hS0 hps
      ·
       refine w_o (a:=v49) (h:=zbb (znp rfl rfl rfl rfl g4.1 g4.2)) ?_
       exact zf n67 hS0 hps
     have n61:N 6 511 G0:=by
      refine zkk hops hS0 hps 9 ?_
      ·
       refine w_o (a:=v48) (h:=zbb (zgr (b:=2) (q:=x2.2.q) rfl rfl)) ?_
       exact zf n66 hS0 hps
     have n60:N 7 2022 G0:=by
      refine zei hops hS0 hps 0 3 ?_ ?_
      ·
       refine zac ?_
       exact zf n63 hS0 hps
      ·
       refine w_o (a:=v42) ?_
       exact zf n65 hS0 hps
     have n59:N 7 1006 G0:=by
      refine zhu hops hS0 hps 0 4 10 ?_ ?_ ?_
      ·
       refine zac ?_
       exact zf n62 hS0 hps
      ·
       refine w_o (a:=v43) ?_
       exact zf n64 hS0 hps
      ·
       refine w_o (a:=v49) (h:=zbb (znp rfl rfl rfl rfl g4.1 g4.2)) ?_
       exact zf n65 hS0 hps
     have n58:N 7 510 G0:=by
      refine zei hops hS0 hps 0 9 ?_ ?_
      ·
       refine zac ?_
       exact zf n61 hS0 hps
      ·
       refine w_o (a:=v48) (h:=zbb (zgr (b:=2) (q:=x2.2.q) rfl rfl)) ?_
       exact zf n64 hS0 hps
     have n57:N 7 2019 G0:=by
      refine zkk hops hS0 hps 2 ?_
      ·
       refine w_o (a:=v41) ?_
       exact zf n63 hS0 hps
     have n56:N 7 999 G0:=by
      refine zei hops hS0 hps 3 10 ?_ ?_
      ·
       refine w_o (a:=v42) ?_
       exact zf n62 hS0 hps
      ·
       refine w_o (a:=v49) (h:=zbb (znp rfl rfl rfl rfl g4.1 g4.2)) ?_
       exact zf n63 hS0 hps
     have n55:N 7 495 G0:=by
      refine zei hops hS0 hps 4 9 ?_ ?_
      ·
       refine w_o (a:=v43) ?_
       exact zf n61 hS0 hps
      ·
       refine w_o (a:=v48) (h:=zbb (zgr (b:=2) (q:=x2.2.q) rfl rfl)) ?_
       exact zf n62 hS0 hps
     have n54:N 7 255 G0:=by
      refine zkk hops hS0 hps 8 ?_
      ·
       refine w_o (a:=v47) ?_
       exact zf n61 hS0 hps
     have n53:N 8 2018 G0:=by
      refine zei hops hS0 hps 0 2 ?_ ?_
      ·
       refine zac ?_
       exact zf n57 hS0 hps
      ·
       refine w_o (a:=v41) ?_
       exact zf n60 hS0 hps
     have n52:N 8 998 G0:=by
      refine zhu hops hS0 hps 0 3 10 ?_ ?_ ?_
      ·
       refine zac ?_
       exact zf n56 hS0 hps
      ·
       refine w_o (a:=v42) ?_
       exact zf n59 hS0 hps
      ·
       refine w_o (a:=v49) (h:=zbb (znp rfl rfl rfl rfl g4.1 g4.2)) ?_
       exact zf n60 hS0 hps
     have n51:N 8 494 G0:=by
      refine zhu hops hS0 hps 0 4 9 ?_ ?_ ?_
      ·
       refine zac ?_
       exact zf n55 hS0 hps
      ·
       refine w_o (a:=v43) ?_
       exact zf n58 hS0 hps
      ·
       refine w_o (a:=v48) (h:=zbb (zgr (b:=2) (q:=x2.2.q) rfl rfl)) ?_
       exact zf n59 hS0 hps
     have n50:N 8 254 G0:=by
      refine zei hops hS0 hps 0 8 ?_ ?_
      ·
       refine zac ?_
       exact zf n54 hS0 hps
      ·
       refine w_o (a:=v47) ?_
       exact zf n58 hS0 hps
     have n49:N 8 2017 G0:=by
      refine zkk hops hS0 hps 1 ?_
      ·
       refine zac ?_
       exact zf n57 hS0 hps
     have n48:N 8 995 G0:=by
      refine zei hops hS0 hps 2 10 ?_ ?_
      ·
       refine w_o (a:=v41) ?_
       exact zf n56 hS0 hps
      ·
       refine w_o (a:=v49) (h:=zbb (znp rfl rfl rfl rfl g4.1 g4.2)) ?_
       exact zf n57 hS0 hps
     have n47:N 8 487 G0:=by
      refine zei hops hS0 hps 3 9 ?_ ?_
      ·
       refine w_o (a:=v42) ?_
       exact zf n55 hS0 hps
      ·
       refine w_o (a:=v48) (h:=zbb (zgr (b:=2) (q:=x2.2.q) rfl rfl)) ?_
       exact zf n56 hS0 hps
     have n46:N 8 239 G0:=by
      refine zei hops hS0 hps 4 8 ?_ ?_
      ·
       refine w_o (a:=v43) ?_
       exact zf n54 hS0 hps
      ·
       refine w_o (a:=v47) ?_
       exact zf n55 hS0 hps
     have n45:N 8 127 G0:=by
      refine zkk hops hS0 hps 7 ?_
      ·
       refine w_o (a:=v46) ?_
       exact zf n54 hS0 hps
     have n44:N 9 2016 G0:=by
      refine zei hops hS0 hps 0 1 ?_ ?_
      ·
       refine zac ?_
       exact zf n49 hS0 hps
      ·
       refine zac ?_
       exact zf n53 hS0 hps
     have n43:N 9 994 G0:=by
      refine zhu hops hS0 hps 0 2 10 ?_ ?_ ?_
      ·
       refine zac ?_
       exact zf n48 hS0 hps
      ·
       refine w_o (a:=v41) ?_
       exact zf n52 hS0 hps
      ·
       refine w_o (a:=v49) (h:=zbb (znp rfl rfl rfl rfl g4.1 g4.2)) ?_
       exact zf n53 hS0 hps
     have n42:N 9 486 G0:=by
      refine zhu hops hS0 hps 0 3 9 ?_ ?_ ?_
      ·
       refine zac ?_
       exact zf n47 hS0 hps
      ·
       refine w_o (a:=v42) ?_
       exact zf n51 hS0 hps
      ·
       refine w_o (a:=v48) (h:=zbb (zgr (b:=2) (q:=x2.2.q) rfl rfl)) ?_
       exact zf n52 hS0 hps
     have n41:N 9 238 G0:=by
      refine zhu hops hS0 hps 0 4 8 ?_ ?_ ?_
      ·
       refine zac ?_
       exact zf n46 hS0 hps
      ·
       refine w_o (a:=v43) ?_
       exact zf n50 hS0 hps
      ·
       refine w_o (a:=v47) ?_
       exact zf n51 hS0 hps
     have n40:N 9 126 G0:=by
      refine zei hops hS0 hps 0 7 ?_ ?_
      ·
       refine zac ?_
       exact zf n45 hS0 hps
      ·
       refine w_o (a:=v46) ?_
       exact zf n50 hS0 hps
     have n39:N 9 993 G0:=by
      refine zei hops hS0 hps 1 10 ?_ ?_
      ·
       refine zac ?_
       exact zf n48 hS0 hps
      ·
       refine w_o (a:=v49) (h:=zbb (znp rfl rfl rfl rfl g4.1 g4.2)) ?_
       exact zf n49 hS0 hps
     have n38:N 9 483 G0:=by
      refine zei hops hS0 hps 2 9 ?_ ?_
      ·
       refine w_o (a:=v41) ?_
       exact zf n47 hS0 hps
      ·
       refine w_o (a:=v48) (h:=zbb (zgr (b:=2) (q:=x2.2.q) rfl rfl)) ?_
       exact zf n48 hS0 hps
     have n37:N 9 231 G0:=by
      refine zei hops hS0 hps 3 8 ?_ ?_
      ·
       refine w_o (a:=v42) ?_
       exact zf n46 hS0 hps
      ·
       refine w_o (a:=v47) ?_
       exact zf n47 hS0 hps
     have n36:N 9 111 G0:=by
      refine zei hops hS0 hps 4 7 ?_ ?_
      ·
       refine w_o (a:=v43) ?_
       exact zf n45 hS0 hps
      ·
       refine w_o (a:=v46) ?_
       exact zf n46 hS0 hps
     have n35:N 9 63 G0:=by
      refine zkk hops hS0 hps 6 ?_
      ·
       refine w_o (a:=v45) ?_
       exact zf n45 hS0 hps
     have n34:N 10 992 G0:=by
      refine zhu hops hS0 hps 0 1 10 ?_ ?_ ?_
      ·
       refine zac ?_
       exact zf n39 hS0 hps
      ·
       refine zac ?_
       exact zf n43 hS0 hps
      ·
       refine w_o (a:=v49) (h:=zbb (znp rfl rfl rfl rfl g4.1 g4.2)) ?_
       exact zf n44 hS0 hps
     have n33:N 10 482 G0:=by
      refine zhu hops hS0 hps 0 2 9 ?_ ?_ ?_
      ·
       refine zac ?_
       exact zf n38 hS0 hps
      ·
       refine w_o (a:=v41) ?_
       exact zf n42 hS0 hps
      ·
       refine w_o (a:=v48) (h:=zbb (zgr (b:=2) (q:=x2.2.q) rfl rfl)) ?_
       exact zf n43 hS0 hps
     have n32:N 10 230 G0:=by
      refine zhu hops hS0 hps 0 3 8 ?_ ?_ ?_
      ·
       refine zac ?_
       exact zf n37 hS0 hps
      ·
       refine w_o (a:=v42) ?_
       exact zf n41 hS0 hps
      ·
       refine w_o (a:=v47) ?_
       exact zf n42 hS0 hps
     have n31:N 10 110 G0:=by
      refine zhu hops hS0 hps 0 4 7 ?_ ?_ ?_
      ·
       refine zac ?_
       exact zf n36 hS0 hps
      ·
       refine w_o (a:=v43) ?_
       exact zf n40 hS0 hps
      ·
       refine w_o (a:=v46) ?_
       exact zf n41 hS0 hps
     have n30:N 10 62 G0:=by
      refine zei hops hS0 hps 0 6 ?_ ?_
      ·
       refine zac ?_
       exact zf n35 hS0 hps
      ·
       refine w_o (a:=v45) ?_
       exact zf n40 hS0 hps
     have n29:N 10 481 G0:=by
      refine zei hops hS0 hps 1 9 ?_ ?_
      ·
       refine zac ?_
       exact zf n38 hS0 hps
      ·
       refine w_o (a:=v48) (h:=zbb (zgr (b:=2) (q:=x2.2.q) rfl rfl)) ?_
       exact zf n39 hS0 hps
     have n28:N 10 227 G0:=by
      refine zei hops hS0 hps 2 8 ?_ ?_
      ·
       refine w_o (a:=v41) ?_
       exact zf n37 hS0 hps
      ·
       refine w_o (a:=v47) ?_
       exact zf n38 hS0 hps
     have n27:N 10 103 G0:=by
      refine zei hops hS0 hps 3 7 ?_ ?_
      ·
       refine w_o (a:=v42) ?_
       exact zf n36 hS0 hps
      ·
       refine w_o (a:=v46) ?_
       exact zf n37 hS0 hps
     have n26:N 10 47 G0:=by
      refine zei hops hS0 hps 4 6 ?_ ?_
      ·
       refine w_o (a:=v43) ?_
       exact zf n35 hS0 hps
      ·
       refine w_o (a:=v45) ?_
       exact zf n36 hS0 hps
     have n25:N 10 31 G0:=by
      refine zkk hops hS0 hps 5 ?_
      ·
       refine zac ?_
       exact zf n35 hS0 hps
     have n24:N 11 480 G0:=by
      refine zhu hops hS0 hps 0 1 9 ?_ ?_ ?_
      ·
       refine zac ?_
       exact zf n29 hS0 hps
      ·
       refine zac ?_
       exact zf n33 hS0 hps
      ·
       refine w_o (a:=v48) (h:=zbb (zgr (b:=2) (q:=x2.2.q) rfl rfl)) ?_
       exact zf n34 hS0 hps
     have n23:N 11 226 G0:=by
      refine zhu hops hS0 hps 0 2 8 ?_ ?_ ?_
      ·
       refine zac ?_
       exact zf n28 hS0 hps
      ·
       refine w_o (a:=v41) ?_
       exact zf n32 hS0 hps
      ·
       refine w_o (a:=v47) ?_
       exact zf n33 hS0 hps
     have n22:N 11 102 G0:=by
      refine zhu hops hS0 hps 0 3 7 ?_ ?_ ?_
      ·
       refine zac ?_
       exact zf n27 hS0 hps
      ·
       refine w_o (a:=v42) ?_
       exact zf n31 hS0 hps
      ·
       refine w_o (a:=v46) ?_
       exact zf n32 hS0 hps
     have n21:N 11 46 G0:=by
      refine zhu hops hS0 hps 0 4 6 ?_ ?_ ?_
      ·
       refine zac ?_
       exact zf n26 hS0 hps
      ·
       refine w_o (a:=v43) ?_
       exact zf n30 hS0 hps
      ·
       refine w_o (a:=v45) ?_
       exact zf n31 hS0 hps
     have n20:N 11 30 G0:=by
      refine zei hops hS0 hps 0 5 ?_ ?_
      ·
       refine zac ?_
       exact zf n25 hS0 hps
      ·
       refine zac ?_
       exact zf n30 hS0 hps
     have n19:N 11 225 G0:=by
      refine zei hops hS0 hps 1 8 ?_ ?_
      ·
       refine zac ?_
       exact zf n28 hS0 hps
      ·
       refine w_o (a:=v47) ?_
       exact zf n29 hS0 hps
     have n18:N 11 99 G0:=by
      refine zei hops hS0 hps 2 7 ?_ ?_
      ·
       refine w_o (a:=v41) ?_
       exact zf n27 hS0 hps
      ·
       refine w_o (a:=v46) ?_
       exact zf n28 hS0 hps
     have n17:N 11 39 G0:=by
      refine zei hops hS0 hps 3 6 ?_ ?_
      ·
       refine w_o (a:=v42) ?_
       exact zf n26 hS0 hps
      ·
       refine w_o (a:=v45) ?_
       exact zf n27 hS0 hps
     have n16:N 11 15 G0:=by
      refine zei hops hS0 hps 4 5 ?_ ?_
      ·
       refine w_o (a:=v43) ?_
       exact zf n25 hS0 hps
      ·
       refine zac ?_
       exact zf n26 hS0 hps
     have n15:N 12 224 G0:=by
      refine zhu hops hS0 hps 0 1 8 ?_ ?_ ?_
      ·
       refine zac ?_
       exact zf n19 hS0 hps
      ·
       refine zac ?_
       exact zf n23 hS0 hps
      ·
       refine w_o (a:=v47) ?_
       exact zf n24 hS0 hps
     have n14:N 12 98 G0:=by
      refine zhu hops hS0 hps 0 2 7 ?_ ?_ ?_
      ·
       refine zac ?_
       exact zf n18 hS0 hps
      ·
       refine w_o (a:=v41) ?_
       exact zf n22 hS0 hps
      ·
       refine w_o (a:=v46) ?_
       exact zf n23 hS0 hps
     have n13:N 12 38 G0:=by
      refine zhu hops hS0 hps 0 3 6 ?_ ?_ ?_
      ·
       refine zac ?_
       exact zf n17 hS0 hps
      ·
       refine w_o (a:=v42) ?_
       exact zf n21 hS0 hps
      ·
       refine w_o (a:=v45) ?_
       exact zf n22 hS0 hps
     have n12:N 12 14 G0:=by
      refine zhu hops hS0 hps 0 4 5 ?_ ?_ ?_
      ·
       refine zac ?_
       exact zf n16 hS0 hps
      ·
       refine w_o (a:=v43) ?_
       exact zf n20 hS0 hps
      ·
       refine zac ?_
       exact zf n21 hS0 hps
     have n11:N 12 97 G0:=by
      refine zei hops hS0 hps 1 7 ?_ ?_
      ·
       refine zac ?_
       exact zf n18 hS0 hps
      ·
       refine w_o (a:=v46) ?_
       exact zf n19 hS0 hps
     have n10:N 12 35 G0:=by
      refine zei hops hS0 hps 2 6 ?_ ?_
      ·
       refine w_o (a:=v41) ?_
       exact zf n17 hS0 hps
      ·
       refine w_o (a:=v45) ?_
       exact zf n18 hS0 hps
     have n9:N 12 7 G0:=by
      refine zei hops hS0 hps 3 5 ?_ ?_
      ·
       refine w_o (a:=v42) ?_
       exact zf n16 hS0 hps
      ·
       refine zac ?_
       exact zf n17 hS0 hps
     have n8:N 13 96 G0:=by
      refine zhu hops hS0 hps 0 1 7 ?_ ?_ ?_
      ·
       refine zac ?_
       exact zf n11 hS0 hps
      ·
       refine zac ?_
       exact zf n14 hS0 hps
      ·
       refine w_o (a:=v46) ?_
       exact zf n15 hS0 hps
     have n7:N 13 34 G0:=by
      refine zhu hops hS0 hps 0 2 6 ?_ ?_ ?_
      ·
       refine zac ?_
       exact zf n10 hS0 hps
      ·
       refine w_o (a:=v41) ?_
       exact zf n13 hS0 hps
      ·
       refine w_o (a:=v45) ?_
       exact zf n14 hS0 hps
     have n6:N 13 6 G0:=by
      refine zhu hops hS0 hps 0 3 5 ?_ ?_ ?_
      ·
       refine zac ?_
       exact zf n9 hS0 hps
      ·
       refine w_o (a:=v42) ?_
       exact zf n12 hS0 hps
      ·
       refine zac ?_
       exact zf n13 hS0 hps
     have n5:N 13 33 G0:=by
      refine zei hops hS0 hps 1 6 ?_ ?_
      ·
       refine zac ?_
       exact zf n10 hS0 hps
      ·
       refine w_o (a:=v45) ?_
       exact zf n11 hS0 hps
     have n4:N 13 3 G0:=by
      refine zei hops hS0 hps 2 5 ?_ ?_
      ·
       refine w_o (a:=v41) ?_
       exact zf n9 hS0 hps
      ·
       refine zac ?_
       exact zf n10 hS0 hps
     have n3:N 14 32 G0:=by
      refine zhu hops hS0 hps 0 1 6 ?_ ?_ ?_
      ·
       refine zac ?_
       exact zf n5 hS0 hps
      ·
       refine zac ?_
       exact zf n7 hS0 hps
      ·
       refine w_o (a:=v45) ?_
       exact zf n8 hS0 hps
     have n2:N 14 2 G0:=by
      refine zhu hops hS0 hps 0 2 5 ?_ ?_ ?_
      ·
       refine zac ?_
       exact zf n4 hS0 hps
      ·
       refine w_o (a:=v41) ?_
       exact zf n6 hS0 hps
      ·
       refine zac ?_
       exact zf n7 hS0 hps
     have n1:N 14 1 G0:=by
      refine zei hops hS0 hps 1 5 ?_ ?_
      ·
       refine zac ?_
       exact zf n4 hS0 hps
      ·
       refine zac ?_
       exact zf n5 hS0 hps
     have n0:N 15 0 G0:=by
      refine zhu hops hS0 hps 0 1 5 ?_ ?_ ?_
      ·
       refine zac ?_
       exact zf n1 hS0 hps
      ·
       refine zac ?_
       exact zf n2 hS0 hps
      ·
       refine zac ?_
       exact zf n3 hS0 hps
     exact zxq n0 hps
    ·
     refine zg (o:=or1) ((Rd.mk x2.2.s (x2.2.a+1) x2.2.e (zzi x2.2.q))) h ?_
     exact wk_pop (q:=x2.2.q) (σ1:=(.B [(59,[.s x2.2.s,.i (x2.2.a+1),.i x2.2.e,(zbd 2 (zzi x2.2.q))]),((zm r.q).1,[]),((zm (zzi x2.2.q)).1,(zm (zzi x2.2.q)).2),(33,[.u 0,.raw (.int .u64 0),.raw (.int .u64 0),.raw (.int .u64 0),.raw (.int .u64 0),.i 0,.i 0,.list 0 [] .full]),(33,(Enc.cells (x1.1:Tr)))])) g5 rfl rfl (zdq [zzF,zzT,zzT,zzT,zzT,zzT,zzT,zzT,zzT,zzT,zzT,zzT,zzT,zzT,zzT,zzT,zzT,zzT,zzT,zzT,zzT,zzT,zzT,zzT,zzT,zzT,zzT,zzT,zzT,zzF,zzF,zzF,zzF,zzF,zzF,zzF,zzF,zzF,zzF,zzF,zzF,zzF,zzF,zzF,zzF,zzF,zzF,zzF,zzF,zzF,zzF,zzF,zzF,zzT] (by kernel_rfl) (by kernel_rfl))
   ·
    refine zbv hc1 rfl ?_
    refine zg (o:=or1) (x2.2) h ?_
    exact zdq [zzF,zzT,zzT,zzT,zzT,zzT,zzT,zzT,zzT,zzT,zzT,zzT,zzT,zzT,zzT,zzT,zzT,zzT,zzT,zzT,zzT,zzT,zzT,zzT,zzT,zzT,zzT,zzT,zzT,zzF,zzF,zzF,zzF,zzF,zzF,zzF,zzF,zzF,zzF,zzF,zzF,zzF,zzF,zzF,zzF,zzF,zzF,zzF,zzF,zzF,zzF,zzF,zzF,zzT] (by kernel_rfl) (by kernel_rfl)
  ·
   intro j1 h
   refine zbj (by dsimp only[zbg,zbz,List.foldl,List.set]) rfl ?_
   refine zi (zc ?_)
   refine w_o (a:= .A (x1.1:Tr)) ?_
   refine zcb (σ'':=(.B [(59,[.s j1.s,.i j1.a,.i j1.e,(zbd 2 j1.q)]),((zm r.q).1,[]),((zm j1.q).1,(zm j1.q).2),(33,(Enc.cells (x1.1:Tr))),(33,(Enc.cells (x1.1:Tr)))])) (h:=zaz (n:=8) rfl rfl rfl rfl rfl rfl rfl rfl (by decide)) ?_
   have he1:=Option.some.inj h
   subst he1
   exact zgc (a:= .A (x1.1:Tr)) [2] 1 rfl rfl (zd _ _ _ (zab (Enc.clo _))) (zay rfl (zb (zd _ _ _ rfl) (zb (zd _ _ _ rfl) (zb (zd _ _ _ rfl) (zb (zas (fun _=>rfl)) ze)))) ze (zj rfl (zu _ _ _) zao) rfl)
end Go.Ab
