import Derived.Test.YtjkcellkmmfkdaaGreatDoorZhR9
set_option linter.all false
set_option maxRecDepth 100000
set_option maxHeartbeats 4000000
open Sum (inl inr)
open Bool (and_eq_true)
open List (length length_cons length_append length_nil cons_append nil_append mem_map isEmpty)
open Go.Proofs.Tryz (prog)
namespace Go.Ab
open Go Go.RowKit Go.Fwd Go.Proofs
def zjh (p:Rd->Option (Tr×Rd))(k:Int)(r:Rd):Option (Tr×Rd):=
 (chk (length (zdh r.q)<2^40) (chk (-9223372036854775808<=(r.a+k)/\ (r.a+k)<9223372036854775808) (zaa (p (Rd.mk r.s (r.a+k) r.e (zhx r.q r.a))) (fun x1=>(zda (τ:=Rd) (zaa (zeu x1.2) (fun x2=>(bif (x2.1==41) then(chk (-9223372036854775808<=(x2.2.a+1)/\ (x2.2.a+1)<9223372036854775808) (chk (-9223372036854775808<=((length (zdh x2.2.q):Int)-1)/\ ((length (zdh x2.2.q):Int)-1)<9223372036854775808) (chk (zdh x2.2.q≠[]) (some (inl ((Rd.mk x2.2.s (x2.2.a+1) x2.2.e (zxk x2.2.q)))))))) else(some (inl (x2.2)))))) (fun j1=>(some (x1.1,j1))))))))
theorem ent184:Ent prog 184:=enters_of Tryz.func184 (by kernel_rfl) rfl
theorem qnx (p:Rd->Option (Tr×Rd))(k:Int)(r:Rd)(hp: ∀(r:Rd)(y:Tr×Rd),p r=some y->RdC prog 59 [] r (.A y.1) y.2)(y:Tr×Rd)(h:zjh p k r=some y):RdC prog 184 [.raw (.int .i64 k)] r (.A (y.1:Tr)) y.2:=by
 obtain⟨d,hd⟩: ∃d,Tryz.f184.body=some d:=⟨_,rfl⟩;refine qci mix Tryz.func184 hd ent184 (by first|rfl|exact(zos rfl rfl)) (by first|rfl|exact(zak (Enc.clo _))) (fun k0 hk0=> ?_);cases hd;unfold zjh at h;refine zbt (by dsimp only[zai,Tryz.f184,length_cons,length_nil,Nat.zero_add,Nat.reduceAdd,Nat.reduceSub,List.replicate,cons_append,nil_append]) (show rdS r.q r=(.B [(110,[.s r.s,.i r.a,.i r.e,(zbb 2 r.q)]),((zh r.q).1,[]),((zh r.q).1,(zh r.q).2)]) from rfl) ?_;refine zj (zb ?_);refine zdl zN ?_;obtain⟨g1,h⟩:=zk h;refine qkt (id:=1) [.ptr 0 0,.i k,.raw undef,.raw undef,.ptr 3 0,.raw undef,.ptr 0 0,.ptr 0 0,.ptr 0 0,.ptr 0 3,(zbb 2 r.q),.ptr 0 0,.ptr 0 0,.ptr 0 1,.i r.a,.F (([r.a]:List Int):List Int),(zbb 4 (zhx r.q r.a)),.ptr 0 0,.ptr 0 3,.raw undef,.raw undef,.raw undef,.raw undef,.raw undef,.raw undef,.raw undef,.raw undef,.raw undef,.raw undef,.raw undef,.raw undef,.raw undef,.raw undef,.raw undef,.raw undef,.raw undef,.raw undef,.raw undef,.raw undef,.raw undef,.raw undef,.raw undef,.raw undef,.raw undef,.raw undef,.raw undef,.raw undef,.raw undef,.raw undef,.raw undef,.raw undef,.raw undef,.raw undef,.raw undef] (.B [(110,[.s r.s,.i r.a,.i r.e,(zbb 4 (zhx r.q r.a))]),((zh r.q).1,[]),((zh r.q).1,[]),(27,zN),((zh (zhx r.q r.a)).1,(zh (zhx r.q r.a)).2)]) ?_ ?_;refine zqp (fun ops hops FIN hFIN S0 hS0=> ?_);let v8:AV:= .ptr 0 0
 let v12:AV:= .ptr 0 0
 let v9:AV:= .ptr 0 3
 let v13:AV:= .ptr 0 1
 let v10:AV:=(zbb 2 r.q)
 let v14:AV:= .i r.a
 let v15:AV:= .F (([r.a]:List Int):List Int)
 let v16:AV:=(zbb 4 (zhx r.q r.a))
 let v17:AV:= .ptr 0 0
 let v18:AV:= .ptr 0 3
 let G0:St:=(.B [(110,[.s r.s,.i r.a,.i r.e,(zbb 2 r.q)]),((zh r.q).1,[]),((zh r.q).1,(zh r.q).2),(27,zN)])
 let G1:St:=(.B [(110,[.s r.s,.i r.a,.i r.e,(zbb 2 r.q)]),((zh r.q).1,[]),((zh r.q).1,[]),(27,zN),((zh (zhx r.q r.a)).1,(zh (zhx r.q r.a)).2)])
 let G2:St:=(.B [(110,[.s r.s,.i r.a,.i r.e,(zbb 4 (zhx r.q r.a))]),((zh r.q).1,[]),((zh r.q).1,[]),(27,zN),((zh (zhx r.q r.a)).1,(zh (zhx r.q r.a)).2)])
 obtain⟨ps,hps⟩: ∃ps:List (Option (Nat×AV)),ps=[some (6,.ptr 0 0),some (7,.ptr 0 0),some (8,v8),some (9,v9),some (10,v10),some (11,.ptr 0 0),some (12,v12),some (13,v13),some (14,v14),some (15,v15),some (16,v16),some (17,v17),some (18,v18),none]:=⟨_,rfl⟩;let N:Nat->Nat->St->Prop:=fun k m U=>aN (ITP prog) prog none ops FIN S0 ps 14 k m U
 have n64:N 0 16383 G2:=by
  exact aN_0 hops hS0 hps (hFIN _ _ (Wk.refl _ _ _))
 have n63:N 1 8191 G1:=by
  refine zla hops hS0 hps 13 ?_;refine zoc (U'':=G2) (h:=zxe (k:=4) (q:=(zhx r.q r.a)) rfl rfl rfl rfl) ?_;exact zd n64 hS0 hps
 have n62:N 2 4095 G1:=by
  refine zla hops hS0 hps 12 ?_;refine w_o (a:=v18) ?_;exact zd n63 hS0 hps
 have n61:N 3 2047 G1:=by
  refine zla hops hS0 hps 11 ?_;refine w_o (a:=v17) ?_;exact zd n62 hS0 hps
 have n60:N 4 2046 G1:=by
  refine zla hops hS0 hps 0 ?_;refine zah ?_;exact zd n61 hS0 hps
 have n59:N 4 1023 G0:=by
  refine zla hops hS0 hps 10 ?_;refine z1v (a:=v16) (U'':=G1) rfl rfl rfl (qgu (b:=2) (q:=r.q) (a:=r.a) g1 rfl rfl rfl rfl rfl rfl rfl) (by dsimp only[zad,List.set]) rfl ?_;exact zd n61 hS0 hps
 have n58:N 5 1022 G0:=by
  refine zem hops hS0 hps 0 10 ?_ ?_;refine zah ?_;exact zd n59 hS0 hps;refine z1v (a:=v16) (U'':=G1) rfl rfl rfl (qgu (b:=2) (q:=r.q) (a:=r.a) g1 rfl rfl rfl rfl rfl rfl rfl) (by dsimp only[zad,List.set]) rfl ?_;exact zd n60 hS0 hps
 have n57:N 5 1007 G0:=by
  refine zla hops hS0 hps 4 ?_;refine w_o (a:=v10) ?_;exact zd n59 hS0 hps
 have n56:N 5 511 G0:=by
  refine zla hops hS0 hps 9 ?_;refine w_o (a:=v15) (h:=zbl (zhc (α:=Int) (l:=[r.a]) (cs:=Enc.cells (r.a:Int)++[]) rfl (by rw[Enc.cons,Enc.nil]))) ?_;exact zd n59 hS0 hps
 have n55:N 6 1006 G0:=by
  refine zem hops hS0 hps 0 4 ?_ ?_;refine zah ?_;exact zd n57 hS0 hps;refine w_o (a:=v10) ?_;exact zd n58 hS0 hps
 have n54:N 6 510 G0:=by
  refine zem hops hS0 hps 0 9 ?_ ?_;refine zah ?_;exact zd n56 hS0 hps;refine w_o (a:=v15) (h:=zbl (zhc (α:=Int) (l:=[r.a]) (cs:=Enc.cells (r.a:Int)++[]) rfl (by rw[Enc.cons,Enc.nil]))) ?_;exact zd n58 hS0 hps
 have n53:N 6 999 G0:=by
  refine zla hops hS0 hps 3 ?_;refine w_o (a:=v9) ?_;exact zd n57 hS0 hps
 have n52:N 6 495 G0:=by
  refine zem hops hS0 hps 4 9 ?_ ?_;refine w_o (a:=v10) ?_;exact zd n56 hS0 hps;refine w_o (a:=v15) (h:=zbl (zhc (α:=Int) (l:=[r.a]) (cs:=Enc.cells (r.a:Int)++[]) rfl (by rw[Enc.cons,Enc.nil]))) ?_;exact zd n57 hS0 hps
 have n51:N 6 255 G0:=by
  refine zla hops hS0 hps 8 ?_;refine w_o (a:=v14) ?_;exact zd n56 hS0 hps
 have n50:N 7 998 G0:=by
  refine zem hops hS0 hps 0 3 ?_ ?_;refine zah ?_;exact zd n53 hS0 hps;refine w_o (a:=v9) ?_;exact zd n55 hS0 hps
 have n49:N 7 494 G0:=by
  refine zir hops hS0 hps 0 4 9 ?_ ?_ ?_;refine zah ?_;exact zd n52 hS0 hps;refine w_o (a:=v10) ?_;exact zd n54 hS0 hps;refine w_o (a:=v15) (h:=zbl (zhc (α:=Int) (l:=[r.a]) (cs:=Enc.cells (r.a:Int)++[]) rfl (by rw[Enc.cons,Enc.nil]))) ?_;exact zd n55 hS0 hps
 have n48:N 7 254 G0:=by
  refine zem hops hS0 hps 0 8 ?_ ?_;refine zah ?_;exact zd n51 hS0 hps;refine w_o (a:=v14) ?_;exact zd n54 hS0 hps
 have n47:N 7 995 G0:=by
  refine zla hops hS0 hps 2 ?_;refine w_o (a:=v8) ?_;exact zd n53 hS0 hps
 have n46:N 7 487 G0:=by
  refine zem hops hS0 hps 3 9 ?_ ?_;refine w_o (a:=v9) ?_;exact zd n52 hS0 hps;refine w_o (a:=v15) (h:=zbl (zhc (α:=Int) (l:=[r.a]) (cs:=Enc.cells (r.a:Int)++[]) rfl (by rw[Enc.cons,Enc.nil]))) ?_;exact zd n53 hS0 hps
 have n45:N 7 239 G0:=by
  refine zem hops hS0 hps 4 8 ?_ ?_;refine w_o (a:=v10) ?_;exact zd n51 hS0 hps;refine w_o (a:=v14) ?_;exact zd n52 hS0 hps
 have n44:N 7 127 G0:=by
  refine zla hops hS0 hps 7 ?_;refine w_o (a:=v13) ?_;exact zd n51 hS0 hps
 have n43:N 8 994 G0:=by
  refine zem hops hS0 hps 0 2 ?_ ?_;refine zah ?_;exact zd n47 hS0 hps;refine w_o (a:=v8) ?_;exact zd n50 hS0 hps
 have n42:N 8 486 G0:=by
  refine zir hops hS0 hps 0 3 9 ?_ ?_ ?_;refine zah ?_;exact zd n46 hS0 hps;refine w_o (a:=v9) ?_;exact zd n49 hS0 hps;refine w_o (a:=v15) (h:=zbl (zhc (α:=Int) (l:=[r.a]) (cs:=Enc.cells (r.a:Int)++[]) rfl (by rw[Enc.cons,Enc.nil]))) ?_;exact zd n50 hS0 hps
 have n41:N 8 238 G0:=by
  refine zir hops hS0 hps 0 4 8 ?_ ?_ ?_;refine zah ?_;exact zd n45 hS0 hps;refine w_o (a:=v10) ?_;exact zd n48 hS0 hps;refine w_o (a:=v14) ?_;exact zd n49 hS0 hps
 have n40:N 8 126 G0:=by
  refine zem hops hS0 hps 0 7 ?_ ?_;refine zah ?_;exact zd n44 hS0 hps;refine w_o (a:=v13) ?_;exact zd n48 hS0 hps
 have n39:N 8 993 G0:=by
  refine zla hops hS0 hps 1 ?_;refine zah ?_;exact zd n47 hS0 hps
 have n38:N 8 483 G0:=by
  refine zem hops hS0 hps 2 9 ?_ ?_;refine w_o (a:=v8) ?_;exact zd n46 hS0 hps;refine w_o (a:=v15) (h:=zbl (zhc (α:=Int) (l:=[r.a]) (cs:=Enc.cells (r.a:Int)++[]) rfl (by rw[Enc.cons,Enc.nil]))) ?_;exact zd n47 hS0 hps
 have n37:N 8 231 G0:=by
  refine zem hops hS0 hps 3 8 ?_ ?_;refine w_o (a:=v9) ?_;exact zd n45 hS0 hps;refine w_o (a:=v14) ?_;exact zd n46 hS0 hps
 have n36:N 8 111 G0:=by
  refine zem hops hS0 hps 4 7 ?_ ?_;refine w_o (a:=v10) ?_;exact zd n44 hS0 hps;refine w_o (a:=v13) ?_;exact zd n45 hS0 hps
 have n35:N 8 63 G0:=by
  refine zla hops hS0 hps 6 ?_;refine w_o (a:=v12) ?_;exact zd n44 hS0 hps
 have n34:N 9 992 G0:=by
  refine zem hops hS0 hps 0 1 ?_ ?_;refine zah ?_;exact zd n39 hS0 hps;refine zah ?_;exact zd n43 hS0 hps
 have n33:N 9 482 G0:=by
  refine zir hops hS0 hps 0 2 9 ?_ ?_ ?_;refine zah ?_;exact zd n38 hS0 hps;refine w_o (a:=v8) ?_;exact zd n42 hS0 hps;refine w_o (a:=v15) (h:=zbl (zhc (α:=Int) (l:=[r.a]) (cs:=Enc.cells (r.a:Int)++[]) rfl (by rw[Enc.cons,Enc.nil]))) ?_;exact zd n43 hS0 hps
 have n32:N 9 230 G0:=by
  refine zir hops hS0 hps 0 3 8 ?_ ?_ ?_;refine zah ?_;exact zd n37 hS0 hps;refine w_o (a:=v9) ?_;exact zd n41 hS0 hps;refine w_o (a:=v14) ?_;exact zd n42 hS0 hps
 have n31:N 9 110 G0:=by
  refine zir hops hS0 hps 0 4 7 ?_ ?_ ?_;refine zah ?_;exact zd n36 hS0 hps;refine w_o (a:=v10) ?_;exact zd n40 hS0 hps;refine w_o (a:=v13) ?_;exact zd n41 hS0 hps
 have n30:N 9 62 G0:=by
  refine zem hops hS0 hps 0 6 ?_ ?_;refine zah ?_;exact zd n35 hS0 hps;refine w_o (a:=v12) ?_;exact zd n40 hS0 hps
 have n29:N 9 481 G0:=by
  refine zem hops hS0 hps 1 9 ?_ ?_;refine zah ?_;exact zd n38 hS0 hps;refine w_o (a:=v15) (h:=zbl (zhc (α:=Int) (l:=[r.a]) (cs:=Enc.cells (r.a:Int)++[]) rfl (by rw[Enc.cons,Enc.nil]))) ?_;exact zd n39 hS0 hps
 have n28:N 9 227 G0:=by
  refine zem hops hS0 hps 2 8 ?_ ?_;refine w_o (a:=v8) ?_;exact zd n37 hS0 hps;refine w_o (a:=v14) ?_;exact zd n38 hS0 hps
 have n27:N 9 103 G0:=by
  refine zem hops hS0 hps 3 7 ?_ ?_;refine w_o (a:=v9) ?_;exact zd n36 hS0 hps;refine w_o (a:=v13) ?_;exact zd n37 hS0 hps
 have n26:N 9 47 G0:=by
  refine zem hops hS0 hps 4 6 ?_ ?_;refine w_o (a:=v10) ?_;exact zd n35 hS0 hps;refine w_o (a:=v12) ?_;exact zd n36 hS0 hps
 have n25:N 9 31 G0:=by
  refine zla hops hS0 hps 5 ?_;refine zah ?_;exact zd n35 hS0 hps
 have n24:N 10 480 G0:=by
  refine zir hops hS0 hps 0 1 9 ?_ ?_ ?_;refine zah ?_;exact zd n29 hS0 hps;refine zah ?_;exact zd n33 hS0 hps;refine w_o (a:=v15) (h:=zbl (zhc (α:=Int) (l:=[r.a]) (cs:=Enc.cells (r.a:Int)++[]) rfl (by rw[Enc.cons,Enc.nil]))) ?_;exact zd n34 hS0 hps
 have n23:N 10 226 G0:=by
  refine zir hops hS0 hps 0 2 8 ?_ ?_ ?_;refine zah ?_;exact zd n28 hS0 hps;refine w_o (a:=v8) ?_;exact zd n32 hS0 hps;refine w_o (a:=v14) ?_;exact zd n33 hS0 hps
 have n22:N 10 102 G0:=by
  refine zir hops hS0 hps 0 3 7 ?_ ?_ ?_;refine zah ?_;exact zd n27 hS0 hps;refine w_o (a:=v9) ?_;exact zd n31 hS0 hps;refine w_o (a:=v13) ?_;exact zd n32 hS0 hps
 have n21:N 10 46 G0:=by
  refine zir hops hS0 hps 0 4 6 ?_ ?_ ?_;refine zah ?_;exact zd n26 hS0 hps;refine w_o (a:=v10) ?_;exact zd n30 hS0 hps;refine w_o (a:=v12) ?_;exact zd n31 hS0 hps
 have n20:N 10 30 G0:=by
  refine zem hops hS0 hps 0 5 ?_ ?_;refine zah ?_;exact zd n25 hS0 hps;refine zah ?_;exact zd n30 hS0 hps
 have n19:N 10 225 G0:=by
  refine zem hops hS0 hps 1 8 ?_ ?_;refine zah ?_;exact zd n28 hS0 hps;refine w_o (a:=v14) ?_;exact zd n29 hS0 hps
 have n18:N 10 99 G0:=by
  refine zem hops hS0 hps 2 7 ?_ ?_;refine w_o (a:=v8) ?_;exact zd n27 hS0 hps;refine w_o (a:=v13) ?_;exact zd n28 hS0 hps
 have n17:N 10 39 G0:=by
  refine zem hops hS0 hps 3 6 ?_ ?_;refine w_o (a:=v9) ?_;exact zd n26 hS0 hps;refine w_o (a:=v12) ?_;exact zd n27 hS0 hps
 have n16:N 10 15 G0:=by
  refine zem hops hS0 hps 4 5 ?_ ?_;refine w_o (a:=v10) ?_;exact zd n25 hS0 hps;refine zah ?_;exact zd n26 hS0 hps
 have n15:N 11 224 G0:=by
  refine zir hops hS0 hps 0 1 8 ?_ ?_ ?_;refine zah ?_;exact zd n19 hS0 hps;refine zah ?_;exact zd n23 hS0 hps;refine w_o (a:=v14) ?_;exact zd n24 hS0 hps
 have n14:N 11 98 G0:=by
  refine zir hops hS0 hps 0 2 7 ?_ ?_ ?_;refine zah ?_;exact zd n18 hS0 hps;refine w_o (a:=v8) ?_;exact zd n22 hS0 hps;refine w_o (a:=v13) ?_;exact zd n23 hS0 hps
 have n13:N 11 38 G0:=by
  refine zir hops hS0 hps 0 3 6 ?_ ?_ ?_;refine zah ?_;exact zd n17 hS0 hps;refine w_o (a:=v9) ?_;exact zd n21 hS0 hps;refine w_o (a:=v12) ?_;exact zd n22 hS0 hps
 have n12:N 11 14 G0:=by
  refine zir hops hS0 hps 0 4 5 ?_ ?_ ?_;refine zah ?_;exact zd n16 hS0 hps;refine w_o (a:=v10) ?_;exact zd n20 hS0 hps;refine zah ?_;exact zd n21 hS0 hps
 have n11:N 11 97 G0:=by
  refine zem hops hS0 hps 1 7 ?_ ?_;refine zah ?_;exact zd n18 hS0 hps;refine w_o (a:=v13) ?_;exact zd n19 hS0 hps
 have n10:N 11 35 G0:=by
  refine zem hops hS0 hps 2 6 ?_ ?_;refine w_o (a:=v8) ?_;exact zd n17 hS0 hps;refine w_o (a:=v12) ?_;exact zd n18 hS0 hps
 have n9:N 11 7 G0:=by
  refine zem hops hS0 hps 3 5 ?_ ?_;refine w_o (a:=v9) ?_;exact zd n16 hS0 hps;refine zah ?_;exact zd n17 hS0 hps
 have n8:N 12 96 G0:=by
  refine zir hops hS0 hps 0 1 7 ?_ ?_ ?_;refine zah ?_;exact zd n11 hS0 hps;refine zah ?_;exact zd n14 hS0 hps;refine w_o (a:=v13) ?_;exact zd n15 hS0 hps
 have n7:N 12 34 G0:=by
  refine zir hops hS0 hps 0 2 6 ?_ ?_ ?_;refine zah ?_;exact zd n10 hS0 hps;refine w_o (a:=v8) ?_;exact zd n13 hS0 hps;refine w_o (a:=v12) ?_;exact zd n14 hS0 hps
 have n6:N 12 6 G0:=by
  refine zir hops hS0 hps 0 3 5 ?_ ?_ ?_;refine zah ?_;exact zd n9 hS0 hps;refine w_o (a:=v9) ?_;exact zd n12 hS0 hps;refine zah ?_;exact zd n13 hS0 hps
 have n5:N 12 33 G0:=by
  refine zem hops hS0 hps 1 6 ?_ ?_;refine zah ?_;exact zd n10 hS0 hps;refine w_o (a:=v12) ?_;exact zd n11 hS0 hps
 have n4:N 12 3 G0:=by
  refine zem hops hS0 hps 2 5 ?_ ?_;refine w_o (a:=v8) ?_;exact zd n9 hS0 hps;refine zah ?_;exact zd n10 hS0 hps
 have n3:N 13 32 G0:=by
  refine zir hops hS0 hps 0 1 6 ?_ ?_ ?_;refine zah ?_;exact zd n5 hS0 hps;refine zah ?_;exact zd n7 hS0 hps;refine w_o (a:=v12) ?_;exact zd n8 hS0 hps
 have n2:N 13 2 G0:=by
  refine zir hops hS0 hps 0 2 5 ?_ ?_ ?_;refine zah ?_;exact zd n4 hS0 hps;refine w_o (a:=v8) ?_;exact zd n6 hS0 hps;refine zah ?_;exact zd n7 hS0 hps
 have n1:N 13 1 G0:=by
  refine zem hops hS0 hps 1 5 ?_ ?_;refine zah ?_;exact zd n4 hS0 hps;refine zah ?_;exact zd n5 hS0 hps
 have n0:N 14 0 G0:=by
  refine zir hops hS0 hps 0 1 5 ?_ ?_ ?_;refine zah ?_;exact zd n1 hS0 hps;refine zah ?_;exact zd n2 hS0 hps;refine zah ?_;exact zd n3 hS0 hps
 exact zxx n0 hps;refine zr [.m _,.v (.ptr 0 0),.v (.ptr 0 1),.v (.i r.a),.m _] ?_;obtain⟨g2,h⟩:=zk h;refine zjg g2 ?_;refine w_r [.v (.ptr 0 0),.v (.ptr 0 1)] ?_;refine zoc (U'':=(.B [(110,[.s r.s,.i (r.a+k),.i r.e,(zbb 4 (zhx r.q r.a))]),((zh r.q).1,[]),((zh r.q).1,[]),(27,zN),((zh (zhx r.q r.a)).1,(zh (zhx r.q r.a)).2)])) (h:=zco (n:=1) rfl rfl rfl rfl rfl ⟨rfl,rfl,Nat.le_of_ble_eq_true rfl,by decide⟩) ?_;refine zgt (zb ?_);refine zah ?_;obtain⟨x1,hx1,h⟩:=zm h;refine zfj (r:= .A (x1.1:Tr)) (U':=(.B [(110,[.s x1.2.s,.i x1.2.a,.i x1.2.e,(zbb 5 x1.2.q)]),((zh r.q).1,[]),((zh r.q).1,[]),(27,zN),((zh (zhx r.q r.a)).1,[]),((zh x1.2.q).1,(zh x1.2.q).2)])) ((hp (Rd.mk r.s (r.a+k) r.e (zhx r.q r.a)) x1 hx1) _ 4 (by decide) rfl rfl) rfl rfl ⟨rfl,rfl⟩ (by dsimp only[zad,List.set]) ?_;refine zdl zN ?_;refine zfs 8 (Enc.cells (x1.1:Tr)) ?_;refine zjo 54 [(0,.ptr 0 0),(4,.ptr 3 0),(5,.ptr 4 0)] (U':=(.B [(110,[.s x1.2.s,.i x1.2.a,.i x1.2.e,(zbb 2 x1.2.q)]),((zh r.q).1,[]),((zh x1.2.q).1,(zh x1.2.q).2),(27,zN),(27,(Enc.cells (x1.1:Tr)))])) (wmk (bl 54 49) 2 [] [5,3,6] 1 hk0 (zao rfl (zmo fun _=>rfl) zi (zg rfl (zp _ _ _) (zg rfl rfl (zg rfl (zal _ _ _ (Enc.clo _)) zag))) rfl)) ?_;refine zau h (bz 0 53 9007198717870081) (fun j1=>[]) (fun j1=>(.B [(110,[.s j1.s,.i j1.a,.i j1.e,(zbb 2 j1.q)]),((zh r.q).1,[]),((zh j1.q).1,(zh j1.q).2),(27,zN),(27,(Enc.cells (x1.1:Tr)))])) ?_ ?_;intro or1 h hr1;refine zgt (zb ?_);refine zah ?_;obtain⟨x2,hx2,h⟩:=zm h;refine zfj (r:= .u x2.1) (U':=(.B [(110,[.s x2.2.s,.i x2.2.a,.i x2.2.e,(zbb 5 x2.2.q)]),((zh r.q).1,[]),((zh x1.2.q).1,[]),(27,zN),(27,(Enc.cells (x1.1:Tr))),((zh x2.2.q).1,(zh x2.2.q).2)])) ((zqm x1.2 x2 hx2) _ 2 (by decide) rfl rfl) rfl rfl ⟨rfl,rfl⟩ (by dsimp only[zad,List.set]) ?_;refine w_o (a:= .b (x2.1==41)) ?_;refine zjo 54 [(0,.ptr 0 0),(4,.ptr 3 0),(5,.ptr 4 0),(31,.b (x2.1==41))] (U':=(.B [(110,[.s x2.2.s,.i x2.2.a,.i x2.2.e,(zbb 2 x2.2.q)]),((zh r.q).1,[]),((zh x2.2.q).1,(zh x2.2.q).2),(27,zN),(27,(Enc.cells (x1.1:Tr)))])) (wmk (bl 54 2147483697) 2 [] [5,3,4] 1 hk0 (zao rfl (zmo fun _=>rfl) zi (zg rfl (zp _ _ _) (zg rfl rfl (zg rfl (zal _ _ _ (Enc.clo _)) zag))) rfl)) ?_;refine zbv h (fun hc1 h=> ?_) (fun hc1 h=> ?_);refine zr [.m _,.v (.ptr 0 0),.v (.ptr 0 1),.v (.i x2.2.a)] ?_;obtain⟨g3,h⟩:=zk h;refine zjg g3 ?_;refine w_r [.v (.ptr 0 0),.v (.ptr 0 1)] ?_;refine zoc (U'':=(.B [(110,[.s x2.2.s,.i (x2.2.a+1),.i x2.2.e,(zbb 2 x2.2.q)]),((zh r.q).1,[]),((zh x2.2.q).1,(zh x2.2.q).2),(27,zN),(27,(Enc.cells (x1.1:Tr)))])) (h:=zco (n:=1) rfl rfl rfl rfl rfl ⟨rfl,rfl,Nat.le_of_ble_eq_true rfl,by decide⟩) ?_;obtain⟨g4,h⟩:=zk h;obtain⟨g5,h⟩:=zk h;refine qlp (k0:=k0) (id:=6) [.ptr 0 0,.top,.top,.top,.ptr 3 0,.ptr 4 0,.top,.top,.top,.top,.top,.top,.top,.top,.top,.top,.top,.top,.top,.top,.top,.top,.top,.top,.top,.top,.top,.top,.top,.top,.top,.b (x2.1==41),.ptr 0 0,.ptr 0 0,.ptr 0 1,.i x2.2.a,.i (x2.2.a+1),.ptr 0 0,.ptr 0 1,.ptr 0 0,.ptr 0 0,.ptr 0 0,.ptr 0 3,(zbb 2 x2.2.q),.ptr 0 0,.ptr 0 0,.ptr 0 3,(zbb 2 x2.2.q),.i (length (zdh x2.2.q):Int),.i ((length (zdh x2.2.q):Int)-1),(zbb 2 (zxk x2.2.q)),.ptr 0 0,.ptr 0 3,.top] (.B [(110,[.s x2.2.s,.i (x2.2.a+1),.i x2.2.e,(zbb 2 (zxk x2.2.q))]),((zh r.q).1,[]),((zh x2.2.q).1,(zh x2.2.q).2),(27,zN),(27,(Enc.cells (x1.1:Tr)))]) ?_ ?_;refine zqp (fun ops hops FIN hFIN S0 hS0=> ?_);let v41:AV:= .ptr 0 0
 let v45:AV:= .ptr 0 0
 let v42:AV:= .ptr 0 3
 let v46:AV:= .ptr 0 3
 let v43:AV:=(zbb 2 x2.2.q)
 let v47:AV:=(zbb 2 x2.2.q)
 let v48:AV:= .i (length (zdh x2.2.q):Int)
 let v49:AV:= .i ((length (zdh x2.2.q):Int)-1)
 let v51:AV:= .ptr 0 0
 let v52:AV:= .ptr 0 3
 let G0:St:=(.B [(110,[.s x2.2.s,.i (x2.2.a+1),.i x2.2.e,(zbb 2 x2.2.q)]),((zh r.q).1,[]),((zh x2.2.q).1,(zh x2.2.q).2),(27,zN),(27,(Enc.cells (x1.1:Tr)))])
 let G1:St:=(.B [(110,[.s x2.2.s,.i (x2.2.a+1),.i x2.2.e,(zbb 2 (zxk x2.2.q))]),((zh r.q).1,[]),((zh x2.2.q).1,(zh x2.2.q).2),(27,zN),(27,(Enc.cells (x1.1:Tr)))])
 obtain⟨ps,hps⟩: ∃ps:List (Option (Nat×AV)),ps=[some (39,.ptr 0 0),some (40,.ptr 0 0),some (41,v41),some (42,v42),some (43,v43),some (44,.ptr 0 0),some (45,v45),some (46,v46),some (47,v47),some (48,v48),some (49,v49),some (50,(zbb 2 (zxk x2.2.q))),some (51,v51),some (52,v52),none]:=⟨_,rfl⟩;let N:Nat->Nat->St->Prop:=fun k m U=>aN (ITP prog) prog none ops FIN S0 ps 15 k m U
 have n74:N 0 32767 G1:=by
  exact aN_0 hops hS0 hps (hFIN _ _ ⟨rfl,rfl⟩)
 have n73:N 1 16383 G0:=by
  refine zla hops hS0 hps 14 ?_;refine zoc (U'':=G1) (h:=zxe (k:=2) (q:=(zxk x2.2.q)) rfl rfl rfl rfl) ?_;exact zd n74 hS0 hps
 have n72:N 2 8191 G0:=by
  refine zla hops hS0 hps 13 ?_;refine w_o (a:=v52) ?_;exact zd n73 hS0 hps
 have n71:N 3 4095 G0:=by
  refine zla hops hS0 hps 12 ?_;refine w_o (a:=v51) ?_;exact zd n72 hS0 hps
 have n70:N 4 4094 G0:=by
  refine zla hops hS0 hps 0 ?_;refine zah ?_;exact zd n71 hS0 hps
 have n69:N 4 2047 G0:=by
  refine zla hops hS0 hps 11 ?_;refine w_pop (b:=2) (q:=x2.2.q) g5 rfl rfl rfl rfl rfl rfl (by dsimp only[zad,List.set]) ?_;exact zd n71 hS0 hps
 have n68:N 5 2046 G0:=by
  refine zem hops hS0 hps 0 11 ?_ ?_;refine zah ?_;exact zd n69 hS0 hps;refine w_pop (b:=2) (q:=x2.2.q) g5 rfl rfl rfl rfl rfl rfl (by dsimp only[zad,List.set]) ?_;exact zd n70 hS0 hps
 have n67:N 5 2031 G0:=by
  refine zla hops hS0 hps 4 ?_;refine w_o (a:=v43) ?_;exact zd n69 hS0 hps
 have n66:N 5 1023 G0:=by
  refine zla hops hS0 hps 10 ?_;refine w_o (a:=v49) (h:=zbl (zsa rfl rfl rfl rfl g4.1 g4.2)) ?_;exact zd n69 hS0 hps
 have n65:N 6 2030 G0:=by
  refine zem hops hS0 hps 0 4 ?_ ?_;refine zah ?_;exact zd n67 hS0 hps;refine w_o (a:=v43) ?_;exact zd n68 hS0 hps
 have n64:N 6 1022 G0:=by
  refine zem hops hS0 hps 0 10 ?_ ?_;refine zah ?_;exact zd n66 hS0 hps;refine w_o (a:=v49) (h:=zbl (zsa rfl rfl rfl rfl g4.1 g4.2)) ?_;exact zd n68 hS0 hps
 have n63:N 6 2023 G0:=by
  refine zla hops hS0 hps 3 ?_;refine w_o (a:=v42) ?_;exact zd n67 hS0 hps
 have n62:N 6 1007 G0:=by
  refine zem hops hS0 hps 4 10 ?_ ?_;refine w_o (a:=v43) ?_;exact zd n66 hS0 hps;refine w_o (a:=v49) (h:=zbl (zsa rfl rfl rfl rfl g4.1 g4.2)) ?_;exact zd n67 hS0 hps
 have n61:N 6 511 G0:=by
  refine zla hops hS0 hps 9 ?_;refine w_o (a:=v48) (h:=zbl (zgz (b:=2) (q:=x2.2.q) rfl rfl)) ?_;exact zd n66 hS0 hps
 have n60:N 7 2022 G0:=by
  refine zem hops hS0 hps 0 3 ?_ ?_;refine zah ?_;exact zd n63 hS0 hps;refine w_o (a:=v42) ?_;exact zd n65 hS0 hps
 have n59:N 7 1006 G0:=by
  refine zir hops hS0 hps 0 4 10 ?_ ?_ ?_;refine zah ?_;exact zd n62 hS0 hps;refine w_o (a:=v43) ?_;exact zd n64 hS0 hps;refine w_o (a:=v49) (h:=zbl (zsa rfl rfl rfl rfl g4.1 g4.2)) ?_;exact zd n65 hS0 hps
 have n58:N 7 510 G0:=by
  refine zem hops hS0 hps 0 9 ?_ ?_;refine zah ?_;exact zd n61 hS0 hps;refine w_o (a:=v48) (h:=zbl (zgz (b:=2) (q:=x2.2.q) rfl rfl)) ?_;exact zd n64 hS0 hps
 have n57:N 7 2019 G0:=by
  refine zla hops hS0 hps 2 ?_;refine w_o (a:=v41) ?_;exact zd n63 hS0 hps
 have n56:N 7 999 G0:=by
  refine zem hops hS0 hps 3 10 ?_ ?_;refine w_o (a:=v42) ?_;exact zd n62 hS0 hps;refine w_o (a:=v49) (h:=zbl (zsa rfl rfl rfl rfl g4.1 g4.2)) ?_;exact zd n63 hS0 hps
 have n55:N 7 495 G0:=by
  refine zem hops hS0 hps 4 9 ?_ ?_;refine w_o (a:=v43) ?_;exact zd n61 hS0 hps;refine w_o (a:=v48) (h:=zbl (zgz (b:=2) (q:=x2.2.q) rfl rfl)) ?_;exact zd n62 hS0 hps
 have n54:N 7 255 G0:=by
  refine zla hops hS0 hps 8 ?_;refine w_o (a:=v47) ?_;exact zd n61 hS0 hps
 have n53:N 8 2018 G0:=by
  refine zem hops hS0 hps 0 2 ?_ ?_;refine zah ?_;exact zd n57 hS0 hps;refine w_o (a:=v41) ?_;exact zd n60 hS0 hps
 have n52:N 8 998 G0:=by
  refine zir hops hS0 hps 0 3 10 ?_ ?_ ?_;refine zah ?_;exact zd n56 hS0 hps;refine w_o (a:=v42) ?_;exact zd n59 hS0 hps;refine w_o (a:=v49) (h:=zbl (zsa rfl rfl rfl rfl g4.1 g4.2)) ?_;exact zd n60 hS0 hps
 have n51:N 8 494 G0:=by
  refine zir hops hS0 hps 0 4 9 ?_ ?_ ?_;refine zah ?_;exact zd n55 hS0 hps;refine w_o (a:=v43) ?_;exact zd n58 hS0 hps;refine w_o (a:=v48) (h:=zbl (zgz (b:=2) (q:=x2.2.q) rfl rfl)) ?_;exact zd n59 hS0 hps
 have n50:N 8 254 G0:=by
  refine zem hops hS0 hps 0 8 ?_ ?_;refine zah ?_;exact zd n54 hS0 hps;refine w_o (a:=v47) ?_;exact zd n58 hS0 hps
 have n49:N 8 2017 G0:=by
  refine zla hops hS0 hps 1 ?_;refine zah ?_;exact zd n57 hS0 hps
 have n48:N 8 995 G0:=by
  refine zem hops hS0 hps 2 10 ?_ ?_;refine w_o (a:=v41) ?_;exact zd n56 hS0 hps;refine w_o (a:=v49) (h:=zbl (zsa rfl rfl rfl rfl g4.1 g4.2)) ?_;exact zd n57 hS0 hps
 have n47:N 8 487 G0:=by
  refine zem hops hS0 hps 3 9 ?_ ?_;refine w_o (a:=v42) ?_;exact zd n55 hS0 hps;refine w_o (a:=v48) (h:=zbl (zgz (b:=2) (q:=x2.2.q) rfl rfl)) ?_;exact zd n56 hS0 hps
 have n46:N 8 239 G0:=by
  refine zem hops hS0 hps 4 8 ?_ ?_;refine w_o (a:=v43) ?_;exact zd n54 hS0 hps;refine w_o (a:=v47) ?_;exact zd n55 hS0 hps
 have n45:N 8 127 G0:=by
  refine zla hops hS0 hps 7 ?_;refine w_o (a:=v46) ?_;exact zd n54 hS0 hps
 have n44:N 9 2016 G0:=by
  refine zem hops hS0 hps 0 1 ?_ ?_;refine zah ?_;exact zd n49 hS0 hps;refine zah ?_;exact zd n53 hS0 hps
 have n43:N 9 994 G0:=by
  refine zir hops hS0 hps 0 2 10 ?_ ?_ ?_;refine zah ?_;exact zd n48 hS0 hps;refine w_o (a:=v41) ?_;exact zd n52 hS0 hps;refine w_o (a:=v49) (h:=zbl (zsa rfl rfl rfl rfl g4.1 g4.2)) ?_;exact zd n53 hS0 hps
 have n42:N 9 486 G0:=by
  refine zir hops hS0 hps 0 3 9 ?_ ?_ ?_;refine zah ?_;exact zd n47 hS0 hps;refine w_o (a:=v42) ?_;exact zd n51 hS0 hps;refine w_o (a:=v48) (h:=zbl (zgz (b:=2) (q:=x2.2.q) rfl rfl)) ?_;exact zd n52 hS0 hps
 have n41:N 9 238 G0:=by
  refine zir hops hS0 hps 0 4 8 ?_ ?_ ?_;refine zah ?_;exact zd n46 hS0 hps;refine w_o (a:=v43) ?_;exact zd n50 hS0 hps;refine w_o (a:=v47) ?_;exact zd n51 hS0 hps
 have n40:N 9 126 G0:=by
  refine zem hops hS0 hps 0 7 ?_ ?_;refine zah ?_;exact zd n45 hS0 hps;refine w_o (a:=v46) ?_;exact zd n50 hS0 hps
 have n39:N 9 993 G0:=by
  refine zem hops hS0 hps 1 10 ?_ ?_;refine zah ?_;exact zd n48 hS0 hps;refine w_o (a:=v49) (h:=zbl (zsa rfl rfl rfl rfl g4.1 g4.2)) ?_;exact zd n49 hS0 hps
 have n38:N 9 483 G0:=by
  refine zem hops hS0 hps 2 9 ?_ ?_;refine w_o (a:=v41) ?_;exact zd n47 hS0 hps;refine w_o (a:=v48) (h:=zbl (zgz (b:=2) (q:=x2.2.q) rfl rfl)) ?_;exact zd n48 hS0 hps
 have n37:N 9 231 G0:=by
  refine zem hops hS0 hps 3 8 ?_ ?_;refine w_o (a:=v42) ?_;exact zd n46 hS0 hps;refine w_o (a:=v47) ?_;exact zd n47 hS0 hps
 have n36:N 9 111 G0:=by
  refine zem hops hS0 hps 4 7 ?_ ?_;refine w_o (a:=v43) ?_;exact zd n45 hS0 hps;refine w_o (a:=v46) ?_;exact zd n46 hS0 hps
 have n35:N 9 63 G0:=by
  refine zla hops hS0 hps 6 ?_;refine w_o (a:=v45) ?_;exact zd n45 hS0 hps
 have n34:N 10 992 G0:=by
  refine zir hops hS0 hps 0 1 10 ?_ ?_ ?_;refine zah ?_;exact zd n39 hS0 hps;refine zah ?_;exact zd n43 hS0 hps;refine w_o (a:=v49) (h:=zbl (zsa rfl rfl rfl rfl g4.1 g4.2)) ?_;exact zd n44 hS0 hps
 have n33:N 10 482 G0:=by
  refine zir hops hS0 hps 0 2 9 ?_ ?_ ?_;refine zah ?_;exact zd n38 hS0 hps;refine w_o (a:=v41) ?_;exact zd n42 hS0 hps;refine w_o (a:=v48) (h:=zbl (zgz (b:=2) (q:=x2.2.q) rfl rfl)) ?_;exact zd n43 hS0 hps
 have n32:N 10 230 G0:=by
  refine zir hops hS0 hps 0 3 8 ?_ ?_ ?_;refine zah ?_;exact zd n37 hS0 hps;refine w_o (a:=v42) ?_;exact zd n41 hS0 hps;refine w_o (a:=v47) ?_;exact zd n42 hS0 hps
 have n31:N 10 110 G0:=by
  refine zir hops hS0 hps 0 4 7 ?_ ?_ ?_;refine zah ?_;exact zd n36 hS0 hps;refine w_o (a:=v43) ?_;exact zd n40 hS0 hps;refine w_o (a:=v46) ?_;exact zd n41 hS0 hps
 have n30:N 10 62 G0:=by
  refine zem hops hS0 hps 0 6 ?_ ?_;refine zah ?_;exact zd n35 hS0 hps;refine w_o (a:=v45) ?_;exact zd n40 hS0 hps
 have n29:N 10 481 G0:=by
  refine zem hops hS0 hps 1 9 ?_ ?_;refine zah ?_;exact zd n38 hS0 hps;refine w_o (a:=v48) (h:=zbl (zgz (b:=2) (q:=x2.2.q) rfl rfl)) ?_;exact zd n39 hS0 hps
 have n28:N 10 227 G0:=by
  refine zem hops hS0 hps 2 8 ?_ ?_;refine w_o (a:=v41) ?_;exact zd n37 hS0 hps;refine w_o (a:=v47) ?_;exact zd n38 hS0 hps
 have n27:N 10 103 G0:=by
  refine zem hops hS0 hps 3 7 ?_ ?_;refine w_o (a:=v42) ?_;exact zd n36 hS0 hps;refine w_o (a:=v46) ?_;exact zd n37 hS0 hps
 have n26:N 10 47 G0:=by
  refine zem hops hS0 hps 4 6 ?_ ?_;refine w_o (a:=v43) ?_;exact zd n35 hS0 hps;refine w_o (a:=v45) ?_;exact zd n36 hS0 hps
 have n25:N 10 31 G0:=by
  refine zla hops hS0 hps 5 ?_;refine zah ?_;exact zd n35 hS0 hps
 have n24:N 11 480 G0:=by
  refine zir hops hS0 hps 0 1 9 ?_ ?_ ?_;refine zah ?_;exact zd n29 hS0 hps;refine zah ?_;exact zd n33 hS0 hps;refine w_o (a:=v48) (h:=zbl (zgz (b:=2) (q:=x2.2.q) rfl rfl)) ?_;exact zd n34 hS0 hps
 have n23:N 11 226 G0:=by
  refine zir hops hS0 hps 0 2 8 ?_ ?_ ?_;refine zah ?_;exact zd n28 hS0 hps;refine w_o (a:=v41) ?_;exact zd n32 hS0 hps;refine w_o (a:=v47) ?_;exact zd n33 hS0 hps
 have n22:N 11 102 G0:=by
  refine zir hops hS0 hps 0 3 7 ?_ ?_ ?_;refine zah ?_;exact zd n27 hS0 hps;refine w_o (a:=v42) ?_;exact zd n31 hS0 hps;refine w_o (a:=v46) ?_;exact zd n32 hS0 hps
 have n21:N 11 46 G0:=by
  refine zir hops hS0 hps 0 4 6 ?_ ?_ ?_;refine zah ?_;exact zd n26 hS0 hps;refine w_o (a:=v43) ?_;exact zd n30 hS0 hps;refine w_o (a:=v45) ?_;exact zd n31 hS0 hps
 have n20:N 11 30 G0:=by
  refine zem hops hS0 hps 0 5 ?_ ?_;refine zah ?_;exact zd n25 hS0 hps;refine zah ?_;exact zd n30 hS0 hps
 have n19:N 11 225 G0:=by
  refine zem hops hS0 hps 1 8 ?_ ?_;refine zah ?_;exact zd n28 hS0 hps;refine w_o (a:=v47) ?_;exact zd n29 hS0 hps
 have n18:N 11 99 G0:=by
  refine zem hops hS0 hps 2 7 ?_ ?_;refine w_o (a:=v41) ?_;exact zd n27 hS0 hps;refine w_o (a:=v46) ?_;exact zd n28 hS0 hps
 have n17:N 11 39 G0:=by
  refine zem hops hS0 hps 3 6 ?_ ?_;refine w_o (a:=v42) ?_;exact zd n26 hS0 hps;refine w_o (a:=v45) ?_;exact zd n27 hS0 hps
 have n16:N 11 15 G0:=by
  refine zem hops hS0 hps 4 5 ?_ ?_;refine w_o (a:=v43) ?_;exact zd n25 hS0 hps;refine zah ?_;exact zd n26 hS0 hps
 have n15:N 12 224 G0:=by
  refine zir hops hS0 hps 0 1 8 ?_ ?_ ?_;refine zah ?_;exact zd n19 hS0 hps;refine zah ?_;exact zd n23 hS0 hps;refine w_o (a:=v47) ?_;exact zd n24 hS0 hps
 have n14:N 12 98 G0:=by
  refine zir hops hS0 hps 0 2 7 ?_ ?_ ?_;refine zah ?_;exact zd n18 hS0 hps;refine w_o (a:=v41) ?_;exact zd n22 hS0 hps;refine w_o (a:=v46) ?_;exact zd n23 hS0 hps
 have n13:N 12 38 G0:=by
  refine zir hops hS0 hps 0 3 6 ?_ ?_ ?_;refine zah ?_;exact zd n17 hS0 hps;refine w_o (a:=v42) ?_;exact zd n21 hS0 hps;refine w_o (a:=v45) ?_;exact zd n22 hS0 hps
 have n12:N 12 14 G0:=by
  refine zir hops hS0 hps 0 4 5 ?_ ?_ ?_;refine zah ?_;exact zd n16 hS0 hps;refine w_o (a:=v43) ?_;exact zd n20 hS0 hps;refine zah ?_;exact zd n21 hS0 hps
 have n11:N 12 97 G0:=by
  refine zem hops hS0 hps 1 7 ?_ ?_;refine zah ?_;exact zd n18 hS0 hps;refine w_o (a:=v46) ?_;exact zd n19 hS0 hps
 have n10:N 12 35 G0:=by
  refine zem hops hS0 hps 2 6 ?_ ?_;refine w_o (a:=v41) ?_;exact zd n17 hS0 hps;refine w_o (a:=v45) ?_;exact zd n18 hS0 hps
 have n9:N 12 7 G0:=by
  refine zem hops hS0 hps 3 5 ?_ ?_;refine w_o (a:=v42) ?_;exact zd n16 hS0 hps;refine zah ?_;exact zd n17 hS0 hps
 have n8:N 13 96 G0:=by
  refine zir hops hS0 hps 0 1 7 ?_ ?_ ?_;refine zah ?_;exact zd n11 hS0 hps;refine zah ?_;exact zd n14 hS0 hps;refine w_o (a:=v46) ?_;exact zd n15 hS0 hps
 have n7:N 13 34 G0:=by
  refine zir hops hS0 hps 0 2 6 ?_ ?_ ?_;refine zah ?_;exact zd n10 hS0 hps;refine w_o (a:=v41) ?_;exact zd n13 hS0 hps;refine w_o (a:=v45) ?_;exact zd n14 hS0 hps
 have n6:N 13 6 G0:=by
  refine zir hops hS0 hps 0 3 5 ?_ ?_ ?_;refine zah ?_;exact zd n9 hS0 hps;refine w_o (a:=v42) ?_;exact zd n12 hS0 hps;refine zah ?_;exact zd n13 hS0 hps
 have n5:N 13 33 G0:=by
  refine zem hops hS0 hps 1 6 ?_ ?_;refine zah ?_;exact zd n10 hS0 hps;refine w_o (a:=v45) ?_;exact zd n11 hS0 hps
 have n4:N 13 3 G0:=by
  refine zem hops hS0 hps 2 5 ?_ ?_;refine w_o (a:=v41) ?_;exact zd n9 hS0 hps;refine zah ?_;exact zd n10 hS0 hps
 have n3:N 14 32 G0:=by
  refine zir hops hS0 hps 0 1 6 ?_ ?_ ?_;refine zah ?_;exact zd n5 hS0 hps;refine zah ?_;exact zd n7 hS0 hps;refine w_o (a:=v45) ?_;exact zd n8 hS0 hps
 have n2:N 14 2 G0:=by
  refine zir hops hS0 hps 0 2 5 ?_ ?_ ?_;refine zah ?_;exact zd n4 hS0 hps;refine w_o (a:=v41) ?_;exact zd n6 hS0 hps;refine zah ?_;exact zd n7 hS0 hps
 have n1:N 14 1 G0:=by
  refine zem hops hS0 hps 1 5 ?_ ?_;refine zah ?_;exact zd n4 hS0 hps;refine zah ?_;exact zd n5 hS0 hps
 have n0:N 15 0 G0:=by
  refine zir hops hS0 hps 0 1 5 ?_ ?_ ?_;refine zah ?_;exact zd n1 hS0 hps;refine zah ?_;exact zd n2 hS0 hps;refine zah ?_;exact zd n3 hS0 hps
 exact zxx n0 hps;refine zc (o:=or1) ((Rd.mk x2.2.s (x2.2.a+1) x2.2.e (zxk x2.2.q))) h ?_;exact wk_pop (q:=x2.2.q) (U1:=(.B [(110,[.s x2.2.s,.i (x2.2.a+1),.i x2.2.e,(zbb 2 (zxk x2.2.q))]),((zh r.q).1,[]),((zh (zxk x2.2.q)).1,(zh (zxk x2.2.q)).2),(27,zN),(27,(Enc.cells (x1.1:Tr)))])) g5 rfl rfl (zbh (bl 54 9007199791611902));refine zc (o:=or1) (x2.2) h ?_;exact zbh (bl 54 9007199791611902);intro j1 h;refine zdw ?_;refine zr [.v (.A (x1.1:Tr))] ?_;refine znb 8 (.B [(110,[.s j1.s,.i j1.a,.i j1.e,(zbb 2 j1.q)]),((zh r.q).1,[]),((zh j1.q).1,(zh j1.q).2),(27,(Enc.cells (x1.1:Tr))),(27,(Enc.cells (x1.1:Tr)))]) ?_;have he1:=Option.some.inj h;subst he1;exact zgf (a:= .A (x1.1:Tr)) [2] 1 rfl rfl (zo _ _ _ (zak (Enc.clo _))) (zao rfl (zmo fun _=>rfl) zi (zg rfl (zp _ _ _) zag) rfl)
end Go.Ab
namespace Go.Ab
open Go Go.RowKit Go.Fwd Go.Proofs
noncomputable def qmb (fuel:Nat)(a:Rd->Option (Tr×Rd))(rows:List Tr)(r:Rd):Option (Nat×Rd):=
 (zaa (zeu r) (fun x1=>(zbk (β:=Int×Rd×Nat) (fun s1=>(bif (s1.1 !=0) then(bif (s1.1 !=124) then(bif (s1.1 !=41) then(zaa (a s1.2.1) (fun x2=>(zaa (zen fuel x2.1 x2.2) (fun x3=>(qar (rows[s1.2.2]? =some x3.1) (zaa (zeu x3.2) (fun x4=>(some (inl (x4.1,x4.2,(s1.2.2+1))))))))))) else(some (inr (s1.2.2,s1.2.1)))) else(some (inr (s1.2.2,s1.2.1)))) else(some (inr (s1.2.2,s1.2.1))))) fuel (x1.1,x1.2,0))))
theorem ent153:Ent prog 153:=enters_of Tryz.func153 (by kernel_rfl) rfl
theorem pc1_it (fuel:Nat)(a:Rd->Option (Tr×Rd))(rows:List Tr)(r:Rd)(ha: ∀(r:Rd)(y:Tr×Rd),a r=some y->RdC prog 155 [] r (.A y.1) y.2)(r2:Rd)(h:qmb fuel a rows r=some (rows.length,r2)):RdIt prog 153 r (rows.map znp) r2:=by
 obtain⟨c,hc⟩: ∃c,Tryz.f153.body=some c:=⟨_,rfl⟩;refine qme mix Tryz.func153 hc (fun G hGr k0 hk0=> ?_);obtain⟨l,hGl⟩: ∃l,G.l=l:=⟨_,rfl⟩;rw[List.length_map,hGl];cases hc;unfold qmb at h;refine zbt (by dsimp only[zai,Tryz.f153,length_cons,length_nil,Nat.zero_add,Nat.reduceAdd,Nat.reduceSub,List.replicate,cons_append,nil_append]) (show rdS r.q r=(.B [(110,[.s r.s,.i r.a,.i r.e,(zbb 2 r.q)]),((zh r.q).1,[]),((zh r.q).1,(zh r.q).2)]) from rfl) ?_;refine zgt (zb ?_);refine w_o (a:= .ptr 0 0) ?_;obtain⟨x1,hx1,h⟩:=zm h;refine zfj (r:= .u x1.1) (U':=(.B [(110,[.s x1.2.s,.i x1.2.a,.i x1.2.e,(zbb 3 x1.2.q)]),((zh r.q).1,[]),((zh r.q).1,[]),((zh x1.2.q).1,(zh x1.2.q).2)])) ((zqm r x1 hx1) _ 2 (by decide) rfl rfl) rfl rfl ⟨rfl,rfl⟩ (by dsimp only[zad,List.set]) ?_;refine zah ?_;refine zjo 25 [(0,.yld l),(1,.iptr [.ptr 0 0]),(3,.u x1.1)] (U':=(.B [(110,[.s x1.2.s,.i x1.2.a,.i x1.2.e,(zbb 2 x1.2.q)]),((zh r.q).1,[]),((zh x1.2.q).1,(zh x1.2.q).2)])) (wmk (bl 25 11) 2 [] [3] 1 hk0 (zao rfl (zmo fun _=>rfl) zi (zg rfl (zp _ _ _) zag) rfl)) ?_;refine zy ?_;refine zdg h (bz 0 25 33554376) (fun s1=>[(3,.u s1.1)]) (fun s1=>⟨[(110,[.s s1.2.1.s,.i s1.2.1.a,.i s1.2.1.e,(zbb 2 s1.2.1.q)]),((zh r.q).1,[]),((zh s1.2.1.q).1,(zh s1.2.1.q).2)],[],[],s1.2.2,false⟩) ?_ ?_;exact zbh (bl 25 63);intro s1 p1 h;refine zdw ?_;refine zj ?_;refine zr [.m _,.v (.b (s1.1 !=0))] ?_;refine zan h (fun hc1 h=> ?_) (fun hc1 h=> ?_);refine zav hc1 ?_;refine w_r [.m _,.v (.b (s1.1 !=124)),.v (.b (s1.1 !=124))] ?_;refine zan h (fun hc2 h=> ?_) (fun hc2 h=> ?_);refine zav hc2 ?_;refine w_r [.m _,.v (.b (s1.1 !=41)),.v (.b (s1.1 !=41))] ?_;refine zbv h (fun hc3 h=> ?_) (fun hc3 h=> ?_);refine zj ?_;refine zy ?_;obtain⟨x2,hx2,h⟩:=zm h;obtain⟨x3,hx3,h⟩:=zm h;obtain⟨g1,h⟩:=z1r h;refine w_seqC (id:=3) ?_;refine zqp (fun ops hops FIN hFIN S0 hS0=> ?_);obtain⟨psY,hpsY⟩: ∃ps:List (Option (Nat×AV)),ps=[some (18,.yld l),some (19,.ptr 0 0),some (20,.ptr 0 0),some (21,.A (x2.1:Tr)),some (22,.A (x3.1:Tr)),some (23,.b true),some (24,.b false)]:=⟨_,rfl⟩;have zY7:aN (ITP prog) prog (some G) ops FIN S0 psY 7 0 127 ⟨[(110,[.s x3.2.s,.i x3.2.a,.i x3.2.e,(zbb 4 x3.2.q)]),((zh r.q).1,[]),((zh s1.2.1.q).1,[]),((zh x2.2.q).1,[]),((zh x3.2.q).1,(zh x3.2.q).2)],[],[],(s1.2.2+1),false⟩:=by
  refine aN_0 hops hS0 hpsY (hFIN _ _ ?_);refine zce rfl ?_;refine zb (k0:=k0) (id:=2) ?_;refine w_o (a:= .ptr 0 0) ?_;obtain⟨x4,hx4,h⟩:=zm h;refine zfj (r:= .u x4.1) (U':=⟨[(110,[.s x4.2.s,.i x4.2.a,.i x4.2.e,(zbb 5 x4.2.q)]),((zh r.q).1,[]),((zh s1.2.1.q).1,[]),((zh x2.2.q).1,[]),((zh x3.2.q).1,[]),((zh x4.2.q).1,(zh x4.2.q).2)],[],[],(s1.2.2+1),false⟩) ((zqm x3.2 x4 hx4) _ 4 (by decide) rfl rfl) rfl rfl ⟨rfl,rfl⟩ (by dsimp only[zad,List.set]) ?_;refine zah ?_;refine zbr (p:=p1) (x4.1,x4.2,(s1.2.2+1)) h ?_;exact(wmk (bl 25 63) 2 [] [5] 1 hk0 (zao rfl (zmo fun _=>rfl) zi (zg rfl (zp _ _ _) zag) rfl))
 have zY6:aN (ITP prog) prog (some G) ops FIN S0 psY 7 1 63 ⟨[(110,[.s x3.2.s,.i x3.2.a,.i x3.2.e,(zbb 4 x3.2.q)]),((zh r.q).1,[]),((zh s1.2.1.q).1,[]),((zh x2.2.q).1,[]),((zh x3.2.q).1,(zh x3.2.q).2)],[],[],(s1.2.2+1),false⟩:=by
  refine zla hops hS0 hpsY 6 ?_;refine w_o (a:= .b false) ?_;exact zd zY7 hS0 hpsY
 obtain⟨psN,hpsN⟩: ∃ps:List (Option (Nat×AV)),ps=[some (18,.yld l),some (19,.ptr 0 0),some (20,.ptr 0 0),some (21,.A (x2.1:Tr)),some (22,.A (x3.1:Tr)),some (23,.b false),some (24,.b true)]:=⟨_,rfl⟩;have zN7:aN (ITP prog) prog (some G) ops FIN S0 psN 7 0 127 ⟨[(110,[.s x3.2.s,.i x3.2.a,.i x3.2.e,(zbb 4 x3.2.q)]),((zh r.q).1,[]),((zh s1.2.1.q).1,[]),((zh x2.2.q).1,[]),((zh x3.2.q).1,(zh x3.2.q).2)],[],[],s1.2.2,true⟩:=by
  refine aN_0 hops hS0 hpsN (hFIN _ _ ?_);refine zel rfl ?_;refine .inr ?_;exact⟨⟨.tup [],rfl⟩,.inl rfl⟩
 have zN6:aN (ITP prog) prog (some G) ops FIN S0 psN 7 1 63 ⟨[(110,[.s x3.2.s,.i x3.2.a,.i x3.2.e,(zbb 4 x3.2.q)]),((zh r.q).1,[]),((zh s1.2.1.q).1,[]),((zh x2.2.q).1,[]),((zh x3.2.q).1,(zh x3.2.q).2)],[],[],s1.2.2,true⟩:=by
  refine zla hops hS0 hpsN 6 ?_;refine w_o (a:= .b true) ?_;exact zd zN7 hS0 hpsN
 obtain⟨ps,hps⟩: ∃ps:List (Option (Nat×AV)),ps=[some (18,.yld l),some (19,.ptr 0 0),some (20,.ptr 0 0),some (21,.A (x2.1:Tr)),some (22,.A (x3.1:Tr)),none,none]:=⟨_,rfl⟩;have n13:aN (ITP prog) prog (some G) ops FIN S0 ps 7 2 31 ⟨[(110,[.s x3.2.s,.i x3.2.a,.i x3.2.e,(zbb 4 x3.2.q)]),((zh r.q).1,[]),((zh s1.2.1.q).1,[]),((zh x2.2.q).1,[]),((zh x3.2.q).1,(zh x3.2.q).2)],[],[],s1.2.2,false⟩:=by
  refine zla hops hS0 hps 5 ?_;refine zpj (row:=znp) (x:=x3.1) (U1:=⟨[(110,[.s x3.2.s,.i x3.2.a,.i x3.2.e,(zbb 4 x3.2.q)]),((zh r.q).1,[]),((zh s1.2.1.q).1,[]),((zh x2.2.q).1,[]),((zh x3.2.q).1,(zh x3.2.q).2)],[],[],(s1.2.2+1),false⟩) (U2:=⟨[(110,[.s x3.2.s,.i x3.2.a,.i x3.2.e,(zbb 4 x3.2.q)]),((zh r.q).1,[]),((zh s1.2.1.q).1,[]),((zh x2.2.q).1,[]),((zh x3.2.q).1,(zh x3.2.q).2)],[],[],s1.2.2,true⟩) g1 (zu (zdn (zak (Enc.clo _))) rfl) (za (zbd _ _ (zak (Enc.clo _))) rfl) (zxy rfl) rfl hGl hGr rfl rfl rfl rfl (by dsimp only[zad,List.set]) (by dsimp only[zad,List.set]) rfl rfl ?_ ?_;exact zd zY6 hS0 hpsY;exact zd zN6 hS0 hpsN
 have n12:aN (ITP prog) prog (some G) ops FIN S0 ps 7 3 30 ⟨[(110,[.s x3.2.s,.i x3.2.a,.i x3.2.e,(zbb 4 x3.2.q)]),((zh r.q).1,[]),((zh s1.2.1.q).1,[]),((zh x2.2.q).1,[]),((zh x3.2.q).1,(zh x3.2.q).2)],[],[],s1.2.2,false⟩:=by
  refine zla hops hS0 hps 0 ?_;refine zah ?_;exact zd n13 hS0 hps
 have n11:aN (ITP prog) prog (some G) ops FIN S0 ps 7 3 15 ⟨[(110,[.s x2.2.s,.i x2.2.a,.i x2.2.e,(zbb 3 x2.2.q)]),((zh r.q).1,[]),((zh s1.2.1.q).1,[]),((zh x2.2.q).1,(zh x2.2.q).2)],[],[],s1.2.2,false⟩:=by
  refine zla hops hS0 hps 4 ?_;refine zfj (r:= .A (x3.1:Tr)) (U':=⟨[(110,[.s x3.2.s,.i x3.2.a,.i x3.2.e,(zbb 4 x3.2.q)]),((zh r.q).1,[]),((zh s1.2.1.q).1,[]),((zh x2.2.q).1,[]),((zh x3.2.q).1,(zh x3.2.q).2)],[],[],s1.2.2,false⟩) ((zxt fuel x2.1 x2.2 x3 hx3) _ 3 (by decide) rfl rfl) rfl rfl ⟨rfl,rfl⟩ (by dsimp only[zad,List.set]) ?_;exact zd n13 hS0 hps
 have n10:aN (ITP prog) prog (some G) ops FIN S0 ps 7 4 14 ⟨[(110,[.s x2.2.s,.i x2.2.a,.i x2.2.e,(zbb 3 x2.2.q)]),((zh r.q).1,[]),((zh s1.2.1.q).1,[]),((zh x2.2.q).1,(zh x2.2.q).2)],[],[],s1.2.2,false⟩:=by
  refine zem hops hS0 hps 0 4 ?_ ?_;refine zah ?_;exact zd n11 hS0 hps;refine zfj (r:= .A (x3.1:Tr)) (U':=⟨[(110,[.s x3.2.s,.i x3.2.a,.i x3.2.e,(zbb 4 x3.2.q)]),((zh r.q).1,[]),((zh s1.2.1.q).1,[]),((zh x2.2.q).1,[]),((zh x3.2.q).1,(zh x3.2.q).2)],[],[],s1.2.2,false⟩) ((zxt fuel x2.1 x2.2 x3 hx3) _ 3 (by decide) rfl rfl) rfl rfl ⟨rfl,rfl⟩ (by dsimp only[zad,List.set]) ?_;exact zd n12 hS0 hps
 have n9:aN (ITP prog) prog (some G) ops FIN S0 ps 7 4 13 ⟨[(110,[.s x2.2.s,.i x2.2.a,.i x2.2.e,(zbb 3 x2.2.q)]),((zh r.q).1,[]),((zh s1.2.1.q).1,[]),((zh x2.2.q).1,(zh x2.2.q).2)],[],[],s1.2.2,false⟩:=by
  refine zla hops hS0 hps 1 ?_;refine w_o (a:= .ptr 0 0) ?_;exact zd n11 hS0 hps
 have n8:aN (ITP prog) prog (some G) ops FIN S0 ps 7 4 7 ⟨[(110,[.s s1.2.1.s,.i s1.2.1.a,.i s1.2.1.e,(zbb 2 s1.2.1.q)]),((zh r.q).1,[]),((zh s1.2.1.q).1,(zh s1.2.1.q).2)],[],[],s1.2.2,false⟩:=by
  refine zla hops hS0 hps 3 ?_;refine zfj (r:= .A (x2.1:Tr)) (U':=⟨[(110,[.s x2.2.s,.i x2.2.a,.i x2.2.e,(zbb 3 x2.2.q)]),((zh r.q).1,[]),((zh s1.2.1.q).1,[]),((zh x2.2.q).1,(zh x2.2.q).2)],[],[],s1.2.2,false⟩) ((ha s1.2.1 x2 hx2) _ 2 (by decide) rfl rfl) rfl rfl ⟨rfl,rfl⟩ (by dsimp only[zad,List.set]) ?_;exact zd n11 hS0 hps
 have n7:aN (ITP prog) prog (some G) ops FIN S0 ps 7 5 12 ⟨[(110,[.s x2.2.s,.i x2.2.a,.i x2.2.e,(zbb 3 x2.2.q)]),((zh r.q).1,[]),((zh s1.2.1.q).1,[]),((zh x2.2.q).1,(zh x2.2.q).2)],[],[],s1.2.2,false⟩:=by
  refine zem hops hS0 hps 0 1 ?_ ?_;refine zah ?_;exact zd n9 hS0 hps;refine w_o (a:= .ptr 0 0) ?_;exact zd n10 hS0 hps
 have n6:aN (ITP prog) prog (some G) ops FIN S0 ps 7 5 6 ⟨[(110,[.s s1.2.1.s,.i s1.2.1.a,.i s1.2.1.e,(zbb 2 s1.2.1.q)]),((zh r.q).1,[]),((zh s1.2.1.q).1,(zh s1.2.1.q).2)],[],[],s1.2.2,false⟩:=by
  refine zem hops hS0 hps 0 3 ?_ ?_;refine zah ?_;exact zd n8 hS0 hps;refine zfj (r:= .A (x2.1:Tr)) (U':=⟨[(110,[.s x2.2.s,.i x2.2.a,.i x2.2.e,(zbb 3 x2.2.q)]),((zh r.q).1,[]),((zh s1.2.1.q).1,[]),((zh x2.2.q).1,(zh x2.2.q).2)],[],[],s1.2.2,false⟩) ((ha s1.2.1 x2 hx2) _ 2 (by decide) rfl rfl) rfl rfl ⟨rfl,rfl⟩ (by dsimp only[zad,List.set]) ?_;exact zd n10 hS0 hps
 have n5:aN (ITP prog) prog (some G) ops FIN S0 ps 7 5 5 ⟨[(110,[.s s1.2.1.s,.i s1.2.1.a,.i s1.2.1.e,(zbb 2 s1.2.1.q)]),((zh r.q).1,[]),((zh s1.2.1.q).1,(zh s1.2.1.q).2)],[],[],s1.2.2,false⟩:=by
  refine zem hops hS0 hps 1 3 ?_ ?_;refine w_o (a:= .ptr 0 0) ?_;exact zd n8 hS0 hps;refine zfj (r:= .A (x2.1:Tr)) (U':=⟨[(110,[.s x2.2.s,.i x2.2.a,.i x2.2.e,(zbb 3 x2.2.q)]),((zh r.q).1,[]),((zh s1.2.1.q).1,[]),((zh x2.2.q).1,(zh x2.2.q).2)],[],[],s1.2.2,false⟩) ((ha s1.2.1 x2 hx2) _ 2 (by decide) rfl rfl) rfl rfl ⟨rfl,rfl⟩ (by dsimp only[zad,List.set]) ?_;exact zd n9 hS0 hps
 have n4:aN (ITP prog) prog (some G) ops FIN S0 ps 7 5 3 ⟨[(110,[.s s1.2.1.s,.i s1.2.1.a,.i s1.2.1.e,(zbb 2 s1.2.1.q)]),((zh r.q).1,[]),((zh s1.2.1.q).1,(zh s1.2.1.q).2)],[],[],s1.2.2,false⟩:=by
  refine zla hops hS0 hps 2 ?_;refine w_o (a:= .ptr 0 0) ?_;exact zd n8 hS0 hps
 have n3:aN (ITP prog) prog (some G) ops FIN S0 ps 7 6 4 ⟨[(110,[.s s1.2.1.s,.i s1.2.1.a,.i s1.2.1.e,(zbb 2 s1.2.1.q)]),((zh r.q).1,[]),((zh s1.2.1.q).1,(zh s1.2.1.q).2)],[],[],s1.2.2,false⟩:=by
  refine zir hops hS0 hps 0 1 3 ?_ ?_ ?_;refine zah ?_;exact zd n5 hS0 hps;refine w_o (a:= .ptr 0 0) ?_;exact zd n6 hS0 hps;refine zfj (r:= .A (x2.1:Tr)) (U':=⟨[(110,[.s x2.2.s,.i x2.2.a,.i x2.2.e,(zbb 3 x2.2.q)]),((zh r.q).1,[]),((zh s1.2.1.q).1,[]),((zh x2.2.q).1,(zh x2.2.q).2)],[],[],s1.2.2,false⟩) ((ha s1.2.1 x2 hx2) _ 2 (by decide) rfl rfl) rfl rfl ⟨rfl,rfl⟩ (by dsimp only[zad,List.set]) ?_;exact zd n7 hS0 hps
 have n2:aN (ITP prog) prog (some G) ops FIN S0 ps 7 6 2 ⟨[(110,[.s s1.2.1.s,.i s1.2.1.a,.i s1.2.1.e,(zbb 2 s1.2.1.q)]),((zh r.q).1,[]),((zh s1.2.1.q).1,(zh s1.2.1.q).2)],[],[],s1.2.2,false⟩:=by
  refine zem hops hS0 hps 0 2 ?_ ?_;refine zah ?_;exact zd n4 hS0 hps;refine w_o (a:= .ptr 0 0) ?_;exact zd n6 hS0 hps
 have n1:aN (ITP prog) prog (some G) ops FIN S0 ps 7 6 1 ⟨[(110,[.s s1.2.1.s,.i s1.2.1.a,.i s1.2.1.e,(zbb 2 s1.2.1.q)]),((zh r.q).1,[]),((zh s1.2.1.q).1,(zh s1.2.1.q).2)],[],[],s1.2.2,false⟩:=by
  refine zem hops hS0 hps 1 2 ?_ ?_;refine w_o (a:= .ptr 0 0) ?_;exact zd n4 hS0 hps;refine w_o (a:= .ptr 0 0) ?_;exact zd n5 hS0 hps
 have n0:aN (ITP prog) prog (some G) ops FIN S0 ps 7 7 0 ⟨[(110,[.s s1.2.1.s,.i s1.2.1.a,.i s1.2.1.e,(zbb 2 s1.2.1.q)]),((zh r.q).1,[]),((zh s1.2.1.q).1,(zh s1.2.1.q).2)],[],[],s1.2.2,false⟩:=by
  refine zir hops hS0 hps 0 1 2 ?_ ?_ ?_;refine zah ?_;exact zd n1 hS0 hps;refine w_o (a:= .ptr 0 0) ?_;exact zd n2 hS0 hps;refine w_o (a:= .ptr 0 0) ?_;exact zd n3 hS0 hps
 exact zxx n0 hps;refine zae h (fun h=> ?_);have he1:=Option.some.inj h;exact⟨⟨.tup [],rfl⟩,.inr ⟨congrArg Prod.fst he1,[2],1,rfl,by have e2:=congrArg Prod.snd he1;dsimp only at e2;subst e2;exact(zyi rfl (zmo fun _=>rfl) zi (zg rfl (zp _ _ _) zag))⟩⟩;refine zav hc2 ?_;refine w_r [.p,.p,.v (.b false)] ?_;refine zce rfl ?_;refine zae h (fun h=> ?_);have he2:=Option.some.inj h;exact⟨⟨.tup [],rfl⟩,.inr ⟨congrArg Prod.fst he2,[2],1,rfl,by have e2:=congrArg Prod.snd he2;dsimp only at e2;subst e2;exact(zyi rfl (zmo fun _=>rfl) zi (zg rfl (zp _ _ _) zag))⟩⟩;refine zav hc1 ?_;refine w_r [.p,.p,.v (.b false),.m _,.p] ?_;refine w_r [.p,.v (.b false)] ?_;refine zce rfl ?_;refine zae h (fun h=> ?_);have he3:=Option.some.inj h;exact⟨⟨.tup [],rfl⟩,.inr ⟨congrArg Prod.fst he3,[2],1,rfl,by have e2:=congrArg Prod.snd he3;dsimp only at e2;subst e2;exact(zyi rfl (zmo fun _=>rfl) zi (zg rfl (zp _ _ _) zag))⟩⟩
def qat (fuel:Nat)(a:Rd->Option (Tr×Rd))(r:Rd):Option (List Tr×Rd):=
 zaa (zeu r) (fun x1=>zbk (β:=Int×Rd×List Tr) (fun s1=>bif (s1.1 !=0) then(bif (s1.1 !=124) then(bif (s1.1 !=41) then zaa (a s1.2.1) (fun x2=>zaa (zen fuel x2.1 x2.2) (fun x3=>zaa (zeu x3.2) (fun x4=>some (inl (x4.1,x4.2,s1.2.2++[x3.1]))))) else some (inr (s1.2.2,s1.2.1))) else some (inr (s1.2.2,s1.2.1))) else some (inr (s1.2.2,s1.2.1))) fuel (x1.1,x1.2,[]))
theorem z9a (F:Nat)(a:Rd->Option (Tr×Rd))(rows:List Tr)(r2:Rd): ∀(fuel:Nat) (c:Int) (r:Rd) (acc:List Tr),
 zbk (β:=Int×Rd×List Tr) (fun s1=>bif (s1.1 !=0) then(bif (s1.1 !=124) then(bif (s1.1 !=41) then zaa (a s1.2.1) (fun x2=>zaa (zen F x2.1 x2.2) (fun x3=>zaa (zeu x3.2) (fun x4=>some (inl (x4.1,x4.2,s1.2.2++[x3.1]))))) else some (inr (s1.2.2,s1.2.1))) else some (inr (s1.2.2,s1.2.1))) else some (inr (s1.2.2,s1.2.1))) fuel (c,r,acc)=some (rows,r2)->
 (∃tl,rows=acc++tl)/\ zbk (β:=Int×Rd×Nat) (fun s1=>(bif (s1.1 !=0) then(bif (s1.1 !=124) then(bif (s1.1 !=41) then(zaa (a s1.2.1) (fun x2=>(zaa (zen F x2.1 x2.2) (fun x3=>(qar (rows[s1.2.2]? =some x3.1) (zaa (zeu x3.2) (fun x4=>(some (inl (x4.1,x4.2,(s1.2.2+1))))))))))) else(some (inr (s1.2.2,s1.2.1)))) else(some (inr (s1.2.2,s1.2.1)))) else(some (inr (s1.2.2,s1.2.1))))) fuel (c,r,acc.length)=some (rows.length,r2)
 |0,_,_,_,h=>by cases h
 | fuel +1,c,r,acc,h=>by
  have stop:some (inr (acc,r):(Int×Rd×List Tr) ⊕ (List Tr×Rd))=some (inr (acc,r))->some (acc,r)=some (rows,r2)->(∃tl,rows=acc++tl)/\ some (acc.length,r)=some (rows.length,r2):=fun _ h=>by
   cases h;exact⟨⟨[],by simp⟩,rfl⟩
  rw[zbk] at h⊢;simp only at h⊢;cases h1:(c !=0) with
  |false=>rw[h1] at h;simp only[cond_false] at h⊢;exact stop rfl h
  | true =>
   rw[h1] at h;simp only[cond_true] at h⊢;cases h2:(c !=124) with
   |false=>rw[h2] at h;simp only[cond_false] at h⊢;exact stop rfl h
   | true=>
    rw[h2] at h;simp only[cond_true] at h⊢;cases h3:(c !=41) with
    |false=>rw[h3] at h;simp only[cond_false] at h⊢;exact stop rfl h
    | true=>
     rw[h3] at h;simp only[cond_true] at h⊢;cases ha:a r with
     |none=>rw[ha] at h;cases h
     | some x2=>
      rw[ha] at h;simp only[zaa] at h⊢;cases hc:zen F x2.1 x2.2 with
      |none=>rw[hc] at h;cases h
      | some x3=>
       rw[hc] at h;simp only at h⊢;cases hn:zeu x3.2 with
       |none=>rw[hn] at h;cases h
       | some x4=>
        rw[hn] at h;simp only at h⊢;obtain⟨⟨tl,e1⟩,e2⟩:=z9a F a rows r2 fuel x4.1 x4.2 (acc++[x3.1]) h;have hr:rows[acc.length]? =some x3.1:=by rw[e1];simp
        refine⟨⟨x3.1::tl,by rw[e1];simp⟩,?_⟩;unfold qar;rw[if_pos hr];simp only;rw[length_append] at e2;exact e2
theorem pcs_ok (fuel:Nat)(a:Rd->Option (Tr×Rd))(r:Rd)(y:List Tr×Rd)(h:qat fuel a r=some y):qmb fuel a y.1 r=some (y.1.length,y.2):=by
 unfold qat at h;obtain⟨x1,h1,h⟩:=zm h;unfold qmb;rw[h1];exact(z9a fuel a y.1 y.2 fuel x1.1 x1.2 [] h).2
def qjf (fuel:Nat):Nat->Rd->Option (Tr×Rd)
 |0,_=>none
 |n+1,r=>z4l fuel (qat fuel (zhf fuel (zjh (qjf fuel n)))) r
theorem qos (fuel:Nat): ∀(n:Nat) (r:Rd) (y:Tr×Rd),qjf fuel n r=some y->RdC prog 59 [] r (.agg (Enc.cells y.1)) y.2
 |0,_,_,h=>by cases h
 |n+1,r,y,h=>alts_rd fuel _ r (fun r y h=>pc1_it fuel _ y.1 r (fun r y h=>atom_rd fuel _ r (fun k r y h=>qnx _ k r (qos fuel n) y h) y h) y.2 (pcs_ok fuel _ r y h)) y h
def qiv (fuel n:Nat)(s:List UInt8):Option (Rg×Int×Int):=z8w (qjf fuel n) s
theorem qok (fuel n:Nat)(s:List UInt8)(r:Rg×Int×Int)(h:qiv fuel n s=some r):Pure (ITP prog) prog 23 [.raw (.string (bs s))] (.tup [.agg (Enc.cells (r.1:Rg)),.raw (.int .i64 r.2.1),.raw (.int .i64 r.2.2)]):=read_sh _ s r (qos fuel n) h
theorem zzh (k:Nat): ∀(l:List It) (s:BS),(zxz s l).getLsbD k=(s.getLsbD k||l.any fun i=>(qnp i).getLsbD k)
 |[],s=>by simp[zxz]
 | i::l,s=>by
  show(zxz (s|||qnp i) l).getLsbD k=_
  rw[zzh k l];simp[Bool.or_assoc]
theorem z0b (c:Nat)(hc:c<256):(bit c).getLsbD c=true:=by
 unfold bit;simp[BitVec.getLsbD_shiftLeft,hc]
theorem val_ne (i:It)(h:gdI i):(qnp i).getLsbD i.1=true:=by
 obtain⟨c,d⟩:=i;cases d with
 |none=>exact z0b c h
 | some d=>
  have h:c<=d/\ d<256:=h
  show(bits c (d+1-c)).getLsbD c=true
  obtain⟨k,hk⟩: ∃k,d+1-c=k+1:=⟨d-c,by omega⟩;rw[hk,bits];simp[z0b c (by omega)]
theorem vals_ne (l:List It)(hl:l≠[])(h: ∀i∈l,gdI i):zxz 0#256 l≠0#256:=by
 cases l with
 |nil=>exact absurd rfl hl
 | cons i l=>
  intro e;have h1:=zzh i.1 (i::l) 0#256;rw[e,List.any_cons,val_ne i (h i (by simp))] at h1;simp at h1
def brT (s:BS):Tr:= .mk 2 s 0 0 []
theorem zjj (s:BS):pre (brT s)=[brT s]:=by simp[brT,pre,zck]
theorem zvn {s:BS} (h:s≠0#256):zcn (brT s)=true:=by
 rw[brT,zdc,zny];simp[h]
theorem qgv {s:BS} (h:s≠0#256):zdj (brT s)=true:=by
 rw[zdj,zcw,zjj];simp[zvn h]
theorem qim {s:BS} (h:s≠0#256)(b e:Bool):znn (Rg.mk b e (brT s))=some 0:=by
 have hl:(pre (brT s)).length=1:=by rw[zjj];rfl
 have hli:zcw (brT s)=true:=by rw[zcw,hl];rfl
 unfold znn;simp only[hl];refine zt (by omega) (zv fun x hx=> ?_);rw[qgv h] at hx;subst hx;rw[show(!true)=false from rfl,cond_false];refine zt (by omega) (zv fun x hx=> ?_);rw[zrw,if_pos hli,hl] at hx;subst hx;rw[show decide (((1:Nat):Int)>120)=false from rfl,cond_false];refine zaf 1 ?_ ?_
 ·unfold zhy;simp only[hl];refine zt (by omega) (zv fun x hx=> ?_);rw[hli] at hx;subst hx;rw[show(!true)=false from rfl,cond_false];exact zt (by omega) (zv fun x hx=>by rw[<-hx];rfl)
 ·rw[show decide ((1:Int)>400)=false from rfl,cond_false];refine zt (by omega) (zv fun x hx=> ?_);rw[zmg,if_pos hli,zjj] at hx;have:x=0:=by rw[<-hx];simp[brT,Tr.k]
  subst this;rfl
theorem qlw (s:List UInt8)(k:Int)(h:(s.length:Int)<=k)(q:Stk):zeu (Rd.mk s k 0 q)=some (0,Rd.mk s k 0 q):=by
 unfold zeu;rw[show((Rd.mk s k 0 q).e !=0)=false from rfl,cond_false,show decide ((Rd.mk s k 0 q).a>=(length (Rd.mk s k 0 q).s:Int))=true by simpa using h,cond_true]
theorem z0h {β ρ:Type} {body:β->Option (β ⊕ ρ)} {s:β} {y:ρ} (n:Nat)(h:body s=some (.inr y)):zbk body (n+1) s=some y:=by rw[zbk,h]
def zhh (n:Nat):List UInt8:=if n<10 then[UInt8.ofNat (48+n)] else[49,UInt8.ofNat (38+n)]
def bytesOf (s:BS):List Nat:=(List.range 256).filter fun i=>s.getLsbD i
mutual
def sayT:Tr->List UInt8
 | .mk k s mn mx l=>
  if k=2 then[91]++(bytesOf s).flatMap hexS++[93]
  else if k=3 then sayC l
  else if k=4 then sayA true l
  else if k=6 then[40]++say1 l++[41]
  else if k=5 then[40,63,58]++say1 l++[41,123]++zhh mn.toNat++[44]++(if mx= -1 then[] else zhh mx.toNat)++[125]
  else[]
def sayC:List Tr->List UInt8
 |[]=>[]
 |x::l=>[40,63,58]++sayT x++[41]++sayC l
def sayA:Bool->List Tr->List UInt8
 |_,[]=>[]
 |b,x::l=>(if b=true then[] else[124])++[40,63,58]++sayT x++[41]++sayA false l
def say1:List Tr->List UInt8
 |[]=>[]
 |x::_=>sayT x
end
def SY (t:Tr):Prop:=(∀x∈pre t,(x.k=5->(0<=x.mn/\ x.mn<20)/\ (x.mx= -1 \/0<=x.mx/\ x.mx<20))/\ (x.k=5 \/x.k=6->x.l≠[]))/\ (sayT t).length<=2^40
instance (t:Tr):Decidable (SY t):=by unfold SY;infer_instance
variable {n:Nat}
def CT (t:Tr):Prop:=CR t/\ (pre t).length<=10000
theorem CT.clean {t:Tr} (h:CT t):zdj t=true:=by
 rw[zdj,zcw,and_eq_true];exact⟨by simpa using h.2,h.1⟩
theorem CT.checked {t:Tr} (h:CT t):zdy t=t:=by rw[zdy,if_pos h.clean]
theorem CT.good {t:Tr} (h:CT t):zpq t=true:=by rw[zpq,h.clean,Bool.or_true]
theorem CT.sub {t x:Tr} (h:CT t)(hx:x∈t.l):CT x:=by
 refine⟨(qio _).1 ((ztf t).1 h.1).2 x hx,?_⟩;have h1:=zgj hx;have h2:=z1l t;have:=h.2;omega
theorem CT.right {t:Tr} (h:CT t):zcn t=true:=((ztf t).1 h.1).1
theorem CT.k0 {t:Tr} (h:CT t):t.k≠0:=by rcases znz h.right with h|h|h|h|h|h<;>omega
theorem zgo {t:Tr} (h:zcn t=true)(h2:t.k≠2)(h5:t.k≠5):t= .mk t.k 0#256 0 0 t.l:=by
 obtain⟨k,s,mn,mx,l⟩:=t;simp only[Tr.k,Tr.l] at*;rw[zdc,zny] at h;simp only[and_eq_true,Bool.not_eq_true',Bool.or_eq_false_iff,Bool.and_eq_false_iff] at h;have e2:((k:Int) !=2)=true:=by simp;omega
 have e5:((k:Int) !=5)=true:=by simp;omega
 obtain⟨⟨⟨a,b⟩,_⟩,_⟩:=h;rw[e2] at a;rw[e5] at b;have a':s=0#256:=by simpa using a
 have b':mn=0/\ mx=0:=by simpa using b
 obtain⟨rfl,rfl⟩:=b';subst a';rfl
theorem zma {α β:Type} {f g:α->List β}: ∀ {l:List α},(∀x∈l,f x=g x)->l.flatMap f=l.flatMap g
 |[],_=>rfl
 |x::l,h=>by rw[List.flatMap_cons,List.flatMap_cons,h x (by simp),zma fun y hy=>h y (by simp[hy])]
theorem kb {t:Tr} (h:t.k=n):((t.k:Int)==(n:Int))=true:=by rw[h];simp
theorem kbf {t:Tr} (h:t.k≠n):((t.k:Int)==(n:Int))=false:=beq_eq_false_iff_ne.2 (by omega)
theorem seq_one {t:Tr} (h:CT t):z0u [t]=t:=by
 unfold z0u;have hk:=h.k0;rw[if_neg (by simp[h.clean];omega)];have hr:=h.right;by_cases h3:t.k=3
 ·obtain⟨q1,_⟩:=zot hr h3;have e:zgb 3 1 [t]=t.l:=by unfold zgb;rw[List.flatMap_cons,kb h3,cond_true];simp
  rw[e,zha,show((t.l.length:Int)==0)=false from beq_eq_false_iff_ne.2 (by omega),cond_false,show((t.l.length:Int)==1)=false from beq_eq_false_iff_ne.2 (by omega),cond_false];have e2:=zgo hr (by omega) (by omega);rw[h3] at e2;rw[<-e2,h.checked]
 ·by_cases h1:t.k=1
  ·have e:zgb 3 1 [t]=[]:=by unfold zgb;rw[List.flatMap_cons,kbf h3,cond_false,kb h1,cond_true];simp
   rw[e];have e2:=zgo hr (by omega) (by omega);have hl:t.l=[]:=by
    obtain⟨k,s,mn,mx,l⟩:=t;simp only[Tr.k,Tr.l] at*;subst h1;rw[zdc,zny] at hr;simp only[and_eq_true,Bool.not_eq_true',Bool.or_eq_false_iff] at hr;have:=hr.1.2;simp at this;exact this
   rw[e2,h1,hl];rfl
  ·have e:zgb 3 1 [t]=[t]:=by unfold zgb;rw[List.flatMap_cons,kbf h3,cond_false,kbf h1,cond_false];simp
   rw[e];show zdy t=t;exact h.checked
def zva (t:Tr):List Tr:=if t.k=1 then[] else if t.k=3 then t.l else[t]
def zxo (t:Tr):List Tr:=if t.k=4 then t.l else[t]
theorem qoh {t:Tr} (h:zcn t=true)(h1:t.k=1):t=emptyT:=by
 have e2:=zgo h (by omega) (by omega);have hl:t.l=[]:=by
  obtain⟨k,s,mn,mx,l⟩:=t;simp only[Tr.k,Tr.l] at*;subst h1;rw[zdc,zny] at h;simp only[and_eq_true,Bool.not_eq_true',Bool.or_eq_false_iff] at h;have:=h.1.2;simp at this;exact this
 rw[e2,h1,hl];rfl
theorem qeg {t:Tr} (h:CT t):z0u (zva t)=t:=by
 unfold zva;have hr:=h.right;by_cases h1:t.k=1
 ·rw[if_pos h1,qoh hr h1];rfl
 ·rw [if_neg h1];by_cases h3:t.k=3
  ·rw [if_pos h3];obtain⟨q1,q2⟩:=zot hr h3;unfold z0u;rw[if_neg (by
    simp only[List.any_eq_true,Bool.or_eq_true,not_exists,not_and,not_or];intro x hx;have hc:=h.sub hx;refine⟨by have:=hc.k0;simp;omega,by rw[hc.clean];simp⟩)]
   have e:zgb 3 1 t.l=t.l:=by
    unfold zgb;rw[show t.l.flatMap (fun x=>bif (x.k:Int)==(3:Nat) then x.l else bif (x.k:Int)==(1:Nat) then[] else[x])=t.l.flatMap (fun x=>[x]) from zma fun x hx=>by
     have:=q2 x hx;rw[kbf this.2,cond_false,kbf this.1,cond_false]]
    simp
   rw[e,zha,show((t.l.length:Int)==0)=false from beq_eq_false_iff_ne.2 (by omega),cond_false,show((t.l.length:Int)==1)=false from beq_eq_false_iff_ne.2 (by omega),cond_false];have e2:=zgo hr (by omega) (by omega);rw[h3] at e2;rw[<-e2,h.checked]
  ·rw[if_neg h3];exact seq_one h
theorem qgq {t:Tr} (h:CT t):orT (zxo t)=t:=by
 unfold zxo;have hr:=h.right;by_cases h4:t.k=4
 ·rw [if_pos h4];obtain⟨q1,q2⟩:=zpk hr h4;unfold orT;rw[if_neg (by
   simp only[List.any_eq_true,not_exists,not_and];intro x hx;rw[(h.sub hx).good];simp)]
  have e:zgb 4 0 t.l=t.l:=by
   unfold zgb;rw[show t.l.flatMap (fun x=>bif (x.k:Int)==(4:Nat) then x.l else bif (x.k:Int)==(0:Nat) then[] else[x])=t.l.flatMap (fun x=>[x]) from zma fun x hx=>by
    rw[kbf (q2 x hx),cond_false,kbf (h.sub hx).k0,cond_false]]
   simp
  rw[e,zha,show((t.l.length:Int)==0)=false from beq_eq_false_iff_ne.2 (by omega),cond_false,show((t.l.length:Int)==1)=false from beq_eq_false_iff_ne.2 (by omega),cond_false];have e2:=zgo hr (by omega) (by omega);rw[h4] at e2;rw[<-e2,h.checked]
 ·rw[if_neg h4];unfold orT;rw[if_neg (by simp[h.good])];have hk:=h.k0;have e:zgb 4 0 [t]=[t]:=by unfold zgb;rw[List.flatMap_cons,kbf h4,cond_false,kbf hk,cond_false];simp
  rw[e];show zdy t=t;exact h.checked
theorem ztw {t:Tr} (h:CT t):zet t 1 1=t:=by
 unfold zet;have hk:=h.k0
 rw[h.good,show(!true||(!(((1:Int)==0)&&((1:Int)==0))&& !(((1:Int)==1)&&((1:Int)==1))&& !zew 1 1))=false from rfl,cond_false,
  show((t.k:Int)==0&&decide ((1:Int)>0))=false by rw[show((t.k:Int)==0)=false from kbf hk];rfl,cond_false]
 by_cases h1:t.k=1
 ·rw[show(((1:Int)==0&&(1:Int)==0)||(t.k:Int)==0||(t.k:Int)==1)=true by simp[h1],cond_true,qoh h.right h1]
 ·rw[show(((1:Int)==0&&(1:Int)==0)||(t.k:Int)==0||(t.k:Int)==1)=false by rw[show((t.k:Int)==0)=false from kbf hk,show((t.k:Int)==1)=false from kbf h1];rfl,cond_false];rfl
theorem cap_one {t:Tr} (h:CT (.mk 6 0#256 0 0 [t])):zfx t= .mk 6 0#256 0 0 [t]:=h.checked
theorem qny {x:Tr} {mn mx:Int} (h:CT (.mk 5 0#256 mn mx [x])):zet x mn mx= .mk 5 0#256 mn mx [x]:=by
 have hx:CT x:=h.sub (by simp[Tr.l]);have hk:=hx.k0;have hr:=h.right;rw[zdc] at hr;simp only[and_eq_true,Bool.not_eq_true'] at hr;have h2:=hr.2;simp only[show((((5:Nat):Int))==1)=false from rfl,show((((5:Nat):Int))==2)=false from rfl,show((((5:Nat):Int))==3)=false from rfl,show((((5:Nat):Int))==4)=false from rfl,show((((5:Nat):Int))==5)=true from rfl,cond_false,cond_true,and_eq_true,Bool.not_eq_true',decide_eq_true_eq] at h2;have hb:=h2.1.2;have h1:x.k≠1:=zhs.1 h2.2 x (by simp[Tr.l]);have hb':=hb;unfold zew at hb';simp only[and_eq_true,Bool.not_eq_true',Bool.or_eq_false_iff,Bool.or_eq_true,decide_eq_true_eq,decide_eq_false_iff_not,Bool.and_eq_false_iff] at hb';unfold zet
 rw[hx.good,hb,show(!true||(!(mn==0&&mx==0)&& !(mn==1&&mx==1)&& !true))=false by simp,cond_false,show((x.k:Int)==0&&decide (mn>0))=false by simp;omega,cond_false,
  show((mn==0&&mx==0)||(x.k:Int)==0||(x.k:Int)==1)=false by simp;omega,cond_false,
  show(mn==1&&mx==1)=false by simp;omega,cond_false]
 exact h.checked
def z6h (b:List UInt8):Prop:= ∀c t,b=c::t->c≠42/\ c≠43/\ c≠63/\ c≠123
def StopP (b:List UInt8):Prop:=b=[] \/ ∃t,b=41::t \/b=124::t
theorem StopP.noCnt {b:List UInt8} (h:StopP b):z6h b:=by
 rintro c t rfl;rcases h with h|⟨t',h|h⟩
 ·cases h
 ·cases h;decide
 ·cases h;decide
theorem z4i (a:List UInt8)(c:UInt8)(b:List UInt8):ix (a++c::b) ((a.length:Nat):Int)=c:=qde a b c
theorem zyh (a b:List UInt8):sub (a++b) ((a.length:Nat):Int) (length (a++b):Int)=b:=by rw[zmb];simp
theorem z8a (a:List UInt8)(c:UInt8)(b:List UInt8)(q:Stk):zeu (Rd.mk (a++c::b) ((a.length:Nat):Int) 0 q)=some ((c.toNat:Int),Rd.mk (a++c::b) ((a.length:Nat):Int) 0 q):=by
 unfold zeu;have hl:(a++c::b).length=a.length+b.length+1:=by simp only[length_append,length_cons];omega
 rw[show((Rd.mk (a++c::b) ((a.length:Nat):Int) 0 q).e !=0)=false from rfl,cond_false,show decide ((Rd.mk (a++c::b) ((a.length:Nat):Int) 0 q).a>=(length (Rd.mk (a++c::b) ((a.length:Nat):Int) 0 q).s:Int))=false from decide_eq_false (by simp only;omega),cond_false];refine zt (by simp only;omega) (zv fun x hx=> ?_);simp only at hx;rw[z4i] at hx;subst hx;rfl
theorem qmy (a:List UInt8)(q:Stk):zeu (Rd.mk a ((a.length:Nat):Int) 0 q)=some (0,Rd.mk a ((a.length:Nat):Int) 0 q):=qlw a _ (Int.le_refl _) q
theorem ziq (t:Tr):(pre (zdy t)).length<=10000:=by
 unfold zdy;split
 ·rename_i h;exact zje h
 ·simp[zax,pre,zck]
theorem zqq (t:Tr)(h:(pre t).length<=10000)(lo hi:Int):(pre (zet t lo hi)).length<=10000:=by
 unfold zet;cases (!zpq t||(!(lo==0&&hi==0)&& !(lo==1&&hi==1)&& !zew lo hi)) with
 |true=>simp[zax,pre,zck]
 | false=>
  rw[cond_false];cases ((t.k:Int)==0&&decide (lo>0)) with
  |true=>simp[zax,pre,zck]
  | false=>
   rw[cond_false];cases ((lo==0&&hi==0)||(t.k:Int)==0||(t.k:Int)==1) with
   |true=>simp[emptyT,pre,zck]
   | false=>
    rw[cond_false];cases (lo==1&&hi==1) with
    |true=>exact h
    |false=>exact ziq _
theorem zxa (k:Nat)(l:List Tr)(d:Tr)(h:(pre d).length<=10000):(pre (zha k l d)).length<=10000:=by
 unfold zha;cases ((l.length:Int)==0) with
 |true=>exact h
 | false=>
  rw[cond_false];cases ((l.length:Int)==1) with
  |true=>exact ziq _
  |false=>exact ziq _
theorem seq_len (l:List Tr):(pre (z0u l)).length<=10000:=by
 unfold z0u;split
 ·simp[zax,pre,zck]
 ·exact zxa _ _ _ (by simp[emptyT,pre,zck])
theorem z9u (l:List Tr):(pre (orT l)).length<=10000:=by
 unfold orT;split
 ·simp[zax,pre,zck]
 ·exact zxa _ _ _ (by simp[zax,pre,zck])
theorem zqs: ∀l:List Tr,(∀x∈l,(pre x).length<=10000)->(zck l).length<=10000*l.length
 |[],_=>by simp[zck]
 | x::l,h=>by
  have h1:=h x (by simp);have h2:=zqs l fun y hy=>h y (by simp[hy]);simp only[zck,length_append,length_cons];omega
def HdOk (c:UInt8):Prop:=c≠0/\ c≠124/\ c≠41/\ c≠42/\ c≠43/\ c≠63/\ c≠123/\ c≠94
instance (c:UInt8):Decidable (HdOk c):=inferInstanceAs (Decidable (_/\ _))
structure AtP (n:Nat)(u:List UInt8)(x:Tr):Prop where
 hd: ∃c t,u=c::t/\ HdOk c
 len:(pre x).length<=10000
 run: ∀(a b:List UInt8) (q:Stk),(a++u++b).length<2^39->(zdh q).length+n<2^39->z6h b-> ∃y r1 q',zhf 1100 (zjh (qjf 1100 n)) (Rd.mk (a++u++b) ((a.length:Nat):Int) 0 q)=some (y,r1)/\ zen 1100 y r1=some (x,Rd.mk (a++u++b) (((a++u).length:Nat):Int) 0 q')/\ zdh q'=zdh q
abbrev Pcs:=List (List UInt8×Tr)
def zbi (L:Pcs):List UInt8:=L.flatMap (·.1)
def zmj (L:Pcs):List Tr:=L.map (·.2)
theorem zgn (p:List UInt8×Tr)(L:Pcs):zbi (p::L)=p.1++zbi L:=by simp[zbi]
theorem qnr {n:Nat} {L:Pcs} {b:List UInt8} (hL: ∀p∈L,AtP n p.1 p.2)(hb:StopP b):z6h (zbi L++b):=by
 cases L with
 |nil=>exact hb.noCnt
 | cons p L=>
  obtain⟨c,t,hc,hc'⟩:=(hL p (by simp)).hd;intro c' t' e;rw[zgn,hc] at e;simp only[cons_append,List.append_assoc,List.cons.injEq] at e;obtain⟨rfl,_⟩:=e;exact⟨hc'.2.2.2.1,hc'.2.2.2.2.1,hc'.2.2.2.2.2.1,hc'.2.2.2.2.2.2.1⟩
def hd0:List UInt8->Int
 |[]=>0
 |c::_=>((c.toNat:Nat):Int)
def z1i (n:Nat):Int×Rd×List Tr->Option ((Int×Rd×List Tr) ⊕ (List Tr×Rd)):=
 fun s1=>bif (s1.1 !=0) then(bif (s1.1 !=124) then(bif (s1.1 !=41) then zaa ((zhf 1100 (zjh (qjf 1100 n))) s1.2.1) (fun x2=>zaa (zen 1100 x2.1 x2.2) (fun x3=>zaa (zeu x3.2) (fun x4=>some (inl (x4.1,x4.2,s1.2.2++[x3.1]))))) else some (inr (s1.2.2,s1.2.1))) else some (inr (s1.2.2,s1.2.1))) else some (inr (s1.2.2,s1.2.1))
theorem zpg (a b:List UInt8)(q:Stk):zeu (Rd.mk (a++b) ((a.length:Nat):Int) 0 q)=some ((hd0 (b)),Rd.mk (a++b) ((a.length:Nat):Int) 0 q):=by
 cases b with
 |nil=>rw[List.append_nil];exact qmy a q
 |cons c b=>exact z8a a c b q
theorem qdp (n:Nat)(b:List UInt8)(hb:StopP b): ∀(L:Pcs) (a:List UInt8) (q:Stk) (acc:List Tr) (fuel:Nat),(∀p∈L,AtP n p.1 p.2)->(a++zbi L++b).length<2^39->(zdh q).length+n<2^39->L.length<fuel->
 ∃q',zbk (z1i n) fuel ((hd0 (zbi L++b)),Rd.mk (a++zbi L++b) ((a.length:Nat):Int) 0 q,acc)=some (acc++zmj L,Rd.mk (a++zbi L++b) (((a++zbi L).length:Nat):Int) 0 q')/\ zdh q'=zdh q
 |_,_,_,_,0,_,_,_,hf=>absurd hf (Nat.not_lt_zero _)
 | [],a,q,acc,fuel+1,hL,hlen,hq,hf=>by
  refine⟨q,?_,rfl⟩;rw[zbk];have:z1i n ((hd0 (zbi []++b)),Rd.mk (a++zbi []++b) ((a.length:Nat):Int) 0 q,acc)=some (.inr (acc,Rd.mk (a++zbi []++b) ((a.length:Nat):Int) 0 q)):=by
   unfold z1i;rcases hb with rfl|⟨t,rfl|rfl⟩<;>rfl
  rw[this];simp[zmj,zbi]
 | p ::L,a,q,acc,fuel+1,hL,hlen,hq,hf=>by
  have hp:=hL p (by simp);obtain⟨c,t,hc,hc'⟩:=hp.hd;have e1:a++zbi (p::L)++b=a++p.1++(zbi L++b):=by rw[zgn];simp
  rw[e1] at hlen⊢;obtain⟨y,r1,q1,h1,h2,h3⟩:=hp.run a (zbi L++b) q hlen hq (qnr (fun p hp=>hL p (by simp[hp])) hb);have e3:a++p.1++zbi L++b=a++p.1++(zbi L++b):=by simp
  obtain⟨q',g1,g2⟩:=qdp n b hb L (a++p.1) q1 (acc++[p.2]) fuel (fun p hp=>hL p (by simp[hp])) (by rw[e3];exact hlen) (by rw[h3];exact hq) (by simp only[length_cons] at hf;omega);refine⟨q',?_,g2.trans h3⟩;rw[zbk];have:z1i n ((hd0 (zbi (p::L)++b)),Rd.mk (a++p.1++(zbi L++b)) ((a.length:Nat):Int) 0 q,acc)=some (.inl ((hd0 (zbi L++b)),Rd.mk (a++p.1++(zbi L++b)) (((a++p.1).length:Nat):Int) 0 q1,acc++[p.2])):=by
   have e2:(hd0 (zbi (p::L)++b))=((c.toNat:Nat):Int):=by rw[zgn,hc];rfl
   rw[e2];have key: ∀c:UInt8,HdOk c->(((c.toNat:Nat):Int) !=0)=true/\ (((c.toNat:Nat):Int) !=124)=true/\ (((c.toNat:Nat):Int) !=41)=true:=by
    rintro c ⟨h0,h1,h2,_⟩;have ne: ∀d:UInt8,c≠d->(((c.toNat:Nat):Int) !=((d.toNat:Nat):Int))=true:=fun d hd=>by
     rw[bne_iff_ne];exact fun e=>hd (UInt8.toNat_inj.1 (by omega))
    exact⟨ne 0 h0,ne 124 h1,ne 41 h2⟩
   obtain⟨k1,k2,k3⟩:=key c hc';unfold z1i;simp only;rw[k1,cond_true,k2,cond_true,k3,cond_true];refine zaf _ h1 ?_;simp only;refine zaf _ h2 ?_;simp only;refine zaf _ (zpg (a++p.1) (zbi L++b) q1) ?_;rfl
  rw[this];simp only;rw[e3] at g1;rw[g1];rw[show acc++[p.2]++zmj L=acc++zmj (p::L) by simp[zmj],show a++p.1++zbi L=a++zbi (p::L) by rw[zgn];simp]
theorem qol (n:Nat)(L:Pcs)(a b:List UInt8)(q:Stk)(hb:StopP b)(hL: ∀p∈L,AtP n p.1 p.2)(hlen:(a++zbi L++b).length<2^39)(hq:(zdh q).length+n<2^39)(hf:L.length<1100):
 ∃q',qat 1100 (zhf 1100 (zjh (qjf 1100 n))) (Rd.mk (a++zbi L++b) ((a.length:Nat):Int) 0 q)=some (zmj L,Rd.mk (a++zbi L++b) (((a++zbi L).length:Nat):Int) 0 q')/\ zdh q'=zdh q:=by
 obtain⟨q',h1,h2⟩:=qdp n b hb L a q [] 1100 hL hlen hq hf;refine⟨q',?_,h2⟩;have e:a++zbi L++b=a++(zbi L++b):=by simp
 unfold qat
 refine zaf _ (by rw[e];exact zpg a (zbi L++b) q) ?_;rw[nil_append,e] at h1;rw[e];exact h1
theorem zvi {ρ:Type}: ∀(l acc:List Tr),acc.length+l.length<2^40->zcp (β:=List Tr) (ρ:=ρ) (fun s2 w1=>(chk (length s2<2^40) (some (inl ((s2++[w1])))))) l acc=some (.inl (acc++l))
 |[],acc,_=>by rw[zcp];simp
 | x::l,acc,h=>by
  simp only[length_cons] at h;have hb:(chk (acc.length<2^40) (some (inl (acc++[x]))):Option (List Tr ⊕ ρ))=some (.inl (acc++[x])):=zt (by omega) rfl;rw[zcp,hb];have:=zvi (ρ:=ρ) l (acc++[x]) (by simp only[length_append,length_cons,length_nil];omega);simp only;rw[this];simp
abbrev Alts:=List Pcs
def zz:Alts->List UInt8
 |[]=>[]
 |[L]=>zbi L
 |L::M::A=>zbi L++124::zz (M::A)
def zgv (A:Alts):List Tr:=A.map fun L=>z0u (zmj L)
def qpi (n:Nat)(A:Alts):Prop:=A≠[]/\ (∀L∈A,L.length<1000/\ ∀p∈L,AtP n p.1 p.2)/\ A.length<1000
theorem qip (A:Alts):(zck (zgv A)).length<=10000*A.length:=by
 have:=zqs (zgv A) (by
  intro x hx;obtain⟨L,_,rfl⟩:=mem_map.1 hx;exact seq_len _)
 simpa[zgv] using this
theorem z8y {n:Nat} {L:Pcs} (h: ∀p∈L,AtP n p.1 p.2):(zck (zmj L)).length<=10000*L.length:=by
 have:=zqs (zmj L) (by
  intro x hx;obtain⟨p,hp,rfl⟩:=mem_map.1 hx;exact(h p hp).len)
 simpa[zmj] using this
def EndP (b:List UInt8):Prop:=b=[] \/ ∃t,b=41::t
theorem EndP.stop {b:List UInt8} (h:EndP b):StopP b:=h.imp id fun⟨t,h⟩=>⟨t,.inl h⟩
theorem zii (L M:Pcs)(A:Alts):zz (L::M::A)=zbi L++124::zz (M::A):=rfl
def z1o (n:Nat):Rd×List Tr->Option ((Rd×List Tr) ⊕ ((Rd×List Tr) ⊕ (Tr×Rd))):=
 (fun s1=>(zda (τ:=Rd×(List Tr)) (zaa (zsw s1.1) (fun x1=>(zaa (qat 1100 (zhf 1100 (zjh (qjf 1100 n))) x1) (fun x2=>(zda (zcp (β:=(List Tr)) (fun s2 w1=>(chk (length s2<2^40) (some (inl ((s2++[w1])))))) x2.1 (([]:List Tr))) (fun s2=>(some (inl (x2.2,s2))))))))) (fun j2=>(chk ((zck j2.2).length<=2^40) (zaz (z0u j2.2) (fun x3=>(bif (isEmpty s1.2) then(chk (0<(length [x3])/\ (length [x3])*80<=140737488355328) (zaa (zeu j2.1) (fun x4=>(bif (x4.1 !=124) then(some (inr (inl (x4.2,[x3])))) else(chk (-9223372036854775808<=(x4.2.a+1)/\ (x4.2.a+1)<9223372036854775808) (some (inl ((Rd.mk x4.2.s (x4.2.a+1) x4.2.e x4.2.q),[x3])))))))) else(chk (length s1.2=(length s1.2)/\ 0<(length s1.2)/\ 0<length [x3]/\ ((length s1.2)+length [x3])*80<=140737488355328) (zaa (zeu j2.1) (fun x5=>(bif (x5.1 !=124) then(some (inr (inl (x5.2,(s1.2++[x3]))))) else(chk (-9223372036854775808<=(x5.2.a+1)/\ (x5.2.a+1)<9223372036854775808) (some (inl ((Rd.mk x5.2.s (x5.2.a+1) x5.2.e x5.2.q),(s1.2++[x3]))))))))))))))))
theorem z7m (n:Nat)(b:List UInt8)(hb:EndP b): ∀(A:Alts) (a:List UInt8) (q:Stk) (acc:List Tr) (fuel:Nat),A≠[]->(∀L∈A,L.length<1000/\ ∀p∈L,AtP n p.1 p.2)->acc.length+A.length<2000->(a++zz A++b).length<2^39->(zdh q).length+n<2^39->A.length<=fuel->
 ∃q',zbk (z1o n) fuel (Rd.mk (a++zz A++b) ((a.length:Nat):Int) 0 q,acc)=some (.inl (Rd.mk (a++zz A++b) (((a++zz A).length:Nat):Int) 0 q',acc++zgv A))/\ zdh q'=zdh q
 |A,_,_,_,0,hA,_,_,_,_,hf=>absurd hf (by cases A with|nil=>exact absurd rfl hA|cons=>simp)
 |[],_,_,_,_,hA,_,_,_,_,_=>absurd rfl hA
 | [L],a,q,acc,fuel+1,_,hA,hacc,hlen,hq,hf=>by
  obtain⟨hL1,hL⟩:=hA L (by simp);obtain⟨q',h1,h2⟩:=qol n L a b q hb.stop hL hlen hq (by omega);refine⟨q',?_,h2⟩;have hp:=z8y hL;have hpl:(zmj L).length=L.length:=by simp[zmj]
  simp only[length_cons,length_nil] at hacc;rw[zbk];have:z1o n (Rd.mk (a++zbi L++b) ((a.length:Nat):Int) 0 q,acc)=some (.inr (.inl (Rd.mk (a++zbi L++b) (((a++zbi L).length:Nat):Int) 0 q',acc++[z0u (zmj L)]))):=by
   unfold z1o;refine zbg (Rd.mk (a++zbi L++b) (((a++zbi L).length:Nat):Int) 0 q',zmj L) ?_ ?_
   ·refine zaf _ rfl ?_;refine zaf _ h1 ?_;refine zbg ([]++zmj L) ?_ rfl;exact zvi (zmj L) [] (by rw[hpl];simp only[length_nil];omega)
   ·refine zt (by simp only;omega) (zv fun x3 hx3=> ?_);simp only at hx3;subst hx3;have hn:=zpg (a++zbi L) b q';have hb3:((hd0 (b)) !=124)=true:=by
     rcases hb with rfl|⟨t,rfl⟩<;>rfl
    cases acc with
    | nil=>
     rw[show isEmpty (Rd.mk (a++zbi L++b) ((a.length:Nat):Int) 0 q,([]:List Tr)).2=true from rfl,cond_true];refine zt (by simp) ?_;refine zaf _ hn ?_;simp only;rw[hb3,cond_true];rfl
    | cons t0 acc=>
     rw[show isEmpty (Rd.mk (a++zbi L++b) ((a.length:Nat):Int) 0 q,t0::acc).2=false from rfl,cond_false];refine zt (by simp only[length_cons,length_nil] at hacc⊢;exact⟨trivial,by omega,by omega,by omega⟩) ?_;refine zaf _ hn ?_;simp only;rw[hb3,cond_true]
  simp only[zz];rw[this];rfl
 | L ::M::A,a,q,acc,fuel+1,_,hA,hacc,hlen,hq,hf=>by
  obtain⟨hL1,hL⟩:=hA L (by simp);simp only[length_cons] at hacc hf;have e1:a++zz (L::M::A)++b=a++zbi L++(124::(zz (M::A)++b)):=by rw[zii];simp
  have e2:a++zbi L++(124::(zz (M::A)++b))=(a++zbi L++[124])++zz (M::A)++b:=by simp
  rw[e1] at hlen⊢;obtain⟨q1,h1,h2⟩:=qol n L a (124::(zz (M::A)++b)) q (.inr ⟨_,.inr rfl⟩) hL hlen hq (by omega);obtain⟨q',g1,g2⟩:=z7m n b hb (M::A) (a++zbi L++[124]) q1 (acc++[z0u (zmj L)]) fuel (by simp) (fun x hx=>hA x (by simp only[List.mem_cons] at hx⊢;exact .inr hx)) (by simp only[length_append,length_cons,length_nil] at hacc⊢;omega) (by rw[<-e2];exact hlen) (by rw[h2];exact hq) (by simp only[length_cons];omega);refine⟨q',?_,g2.trans h2⟩;have hp:=z8y hL;have hpl:(zmj L).length=L.length:=by simp[zmj]
  rw[zbk];have:z1o n (Rd.mk (a++zbi L++(124::(zz (M::A)++b))) ((a.length:Nat):Int) 0 q,acc)=some (.inl (Rd.mk (a++zbi L++(124::(zz (M::A)++b))) (((a++zbi L++[124]).length:Nat):Int) 0 q1,acc++[z0u (zmj L)])):=by
   have hl:((((a++zbi L).length:Nat):Int)+1)=(((a++zbi L++[124]).length:Nat):Int):=by simp only[length_append,length_cons,length_nil];omega
   have hl2:(a++zbi L).length<2^39:=by simp only[length_append,length_cons] at hlen⊢;omega
   unfold z1o;refine zbg (Rd.mk (a++zbi L++(124::(zz (M::A)++b))) (((a++zbi L).length:Nat):Int) 0 q1,zmj L) ?_ ?_
   ·refine zaf _ rfl ?_;refine zaf _ h1 ?_;refine zbg ([]++zmj L) ?_ rfl;exact zvi (zmj L) [] (by rw[hpl];simp only[length_nil];omega)
   ·refine zt (by simp only;omega) (zv fun x3 hx3=> ?_);simp only at hx3;subst hx3;have hn:=zpg (a++zbi L) (124::(zz (M::A)++b)) q1;cases acc with
    | nil=>
     rw[show isEmpty (Rd.mk (a++zbi L++(124::(zz (M::A)++b))) ((a.length:Nat):Int) 0 q,([]:List Tr)).2=true from rfl,cond_true];refine zt (by simp) ?_;refine zaf _ hn ?_;simp only;rw[show(hd0 (124::(zz (M::A)++b)) !=124)=false from rfl,cond_false];refine zt (by omega) ?_;rw[hl];rfl
    | cons t0 acc=>
     rw[show isEmpty (Rd.mk (a++zbi L++(124::(zz (M::A)++b))) ((a.length:Nat):Int) 0 q,t0::acc).2=false from rfl,cond_false];refine zt (by simp only[length_cons,length_nil] at hacc⊢;exact⟨trivial,by omega,by omega,by omega⟩) ?_;refine zaf _ hn ?_;simp only;rw[show(hd0 (124::(zz (M::A)++b)) !=124)=false from rfl,cond_false];refine zt (by omega) ?_;rw[hl]
  rw[this];simp only;rw[<-e2] at g1;rw[g1];rw[show acc++[z0u (zmj L)]++zgv (M::A)=acc++zgv (L::M::A) by simp[zgv],show a++zbi L++[124]++zz (M::A)=a++zz (L::M::A) by rw[zii];simp]
theorem qoj (n:Nat)(A:Alts)(a b:List UInt8)(q:Stk)(hb:EndP b)(hA:qpi n A)(hlen:(a++zz A++b).length<2^39)(hq:(zdh q).length+n<2^39):
 ∃q',qjf 1100 (n+1) (Rd.mk (a++zz A++b) ((a.length:Nat):Int) 0 q)=some (orT (zgv A),Rd.mk (a++zz A++b) (((a++zz A).length:Nat):Int) 0 q')/\ zdh q'=zdh q:=by
 obtain⟨h0,h1,h2⟩:=hA;obtain⟨q',g1,g2⟩:=z7m n b hb A a q [] 1100 h0 h1 (by simp only[length_nil];omega) hlen hq (by omega);refine⟨q',?_,g2⟩;have hp:=qip A;show z4l 1100 _ _=_;unfold z4l;refine zbg (Rd.mk (a++zz A++b) (((a++zz A).length:Nat):Int) 0 q',[]++zgv A) g1 ?_;have hne:isEmpty (zgv A)=false:=by
  cases A with
  |nil=>exact absurd rfl h0
  |cons=>rfl
 simp only[nil_append];rw[hne,cond_false];refine zt (by omega) (zv fun x hx=> ?_);rw[<-hx]
end Go.Ab
