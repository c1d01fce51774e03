import Derived.Test.YtnoccnalocdldaaGreatDoorZfR7
set_option linter.all false
set_option maxRecDepth 100000
set_option maxHeartbeats 4000000
open Sum (inl inr)
open Int (toNat tmod tdiv)
open Bool (and_eq_true)
open Nat (le_refl zero_add lt_or_ge not_lt_zero)
open Option (map_some getD_some)
open List (length length_cons length_append length_nil getElem?_eq_getElem mem_append all_eq_true foldl cons_append nil_append mem_cons mem_range append_nil map_cons getElem_mem take_of_length_le length_map append_assoc map_map)
open Go.Proofs.Tryz (prog)
namespace Go.Ab
open Go Go.RowKit Go.Fwd
def sg1 (p:Nat)(U0 U1:St):(Nat->Bool)->St:=fun d=>bif d p then U1 else U0
def sg2 (p q:Nat)(U0 U1 U2 U3:St):(Nat->Bool)->St:=fun d=>bif d p then(bif d q then U3 else U1) else(bif d q then U2 else U0)
def pvO:Option (Nat×AV)->AV
 |some q=>q.2
 |none=> .raw undef
def psO:List (Option (Nat×AV))->List (Nat×AV)
 |some q::l=>q::psO l
 |none::l=>psO l
 |[]=>[]
def gOk (ops:Array Oper)(E:List AV)(o:Oper):Bool:=
 match o.guard with
 |none=>true
 |some (k,b)=>match zea ops E k with|some (some c)=>c==b|_=>false
section
variable {IT:IterP} {P:Program} {W:Owed} {k0:Nat}
theorem qeg {id:Nat} {ops:Array Oper} {Q:AQ} {S E:List AV} {U:St} (sg:(Nat->Bool)->St)(U1:St)(ps:List (Option (Nat×AV)))(h:zla IT P ops E sg 0 ops.toList (ps.map pvO))(hk:Q .normal E U1)
 (hE:zap S (psO ps)=E:=by dsimp only[psO,zap,List.foldl,List.set]) (hp:zhr ops.toList (ps.map pvO) S=E:=by kernel_rfl) (hb:(floB ops S.length&&z1o ops)=true:=by kernel_rfl)
 (h0:sg (fun j=>Nat.ble ops.size j)=U:=by kernel_rfl) (h1:sg (fun _=>true)=U1:=by kernel_rfl):awp IT P W k0 (.region id ops true) Q S U:=
 .inr (.inr (.inr (.inl ⟨sg,_,E,hp,hb,h0,h,by rw[h1];exact hk⟩)))
variable {ops:Array Oper} {E:List AV} {sg:(Nat->Bool)->St} {i p q:Nat} {o:Oper} {l:List Oper} {a:AV} {vs:List AV} {U0 U1 U2 U3:St}
theorem fl_gOk (h:gOk ops E o=true):(match o.guard with|none=>True|some (k,b)=>zea ops E k=some (some b)):=by
 unfold gOk at h;cases hg:o.guard with
 |none=>trivial
 | some p=>
  obtain⟨k,b⟩:=p;rw[hg] at h;simp only at h⊢;split at h
  ·rename_i c hc;simp at h;subst h;exact hc
  ·cases h
theorem f_w (hk:zla IT P ops E sg (i+1) l vs)(h: ∀d,d i=false->z2e IT P o E (sg d) a (sg (zko d i)))(hg:gOk ops E o=true:=by exact rfl):zla IT P ops E sg i (o::l) (a::vs):=
 ⟨.inl ⟨fl_gOk hg,h⟩,hk⟩
theorem f_o (hk:zla IT P ops E sg (i+1) l vs)(h: ∀U,qop P (zbz E) U o=some a:=by exact fun _=>rfl)(hg:gOk ops E o=true:=by exact rfl)(hs: ∀d,sg (zko d i)=sg d:=by exact fun _=>rfl):zla IT P ops E sg i (o::l) (a::vs):=
 f_w hk (fun d _=>by rw[hs];exact .inr (.inl (by unfold aop;rw[h]))) hg
theorem f_l (hk:zla IT P ops E (sg1 p U0 U1) (i+1) l vs)(h0:qop P (zbz E) U0 o=some a:=by exact rfl)(h1:qop P (zbz E) U1 o=some a:=by exact rfl)(hg:gOk ops E o=true:=by exact rfl)(hs: ∀d,sg1 p U0 U1 (zko d i)=sg1 p U0 U1 d:=by exact fun _=>rfl):
 zla IT P ops E (sg1 p U0 U1) i (o::l) (a::vs):=
 f_w hk (fun d _=>by
  rw[hs];unfold sg1;cases d p
  ·exact .inr (.inl (by unfold aop;rw[show(bif false then U1 else U0)=U0 from rfl,h0]))
  ·exact .inr (.inl (by unfold aop;rw[show(bif true then U1 else U0)=U1 from rfl,h1]))) hg
theorem f_s (hk:zla IT P ops E (sg1 p U0 U1) (i+1) l vs)(h:aop P (zbz E) U0 o=some (.raw undef,U1):=by exact rfl)(hi:i=p:=by exact rfl)(hg:gOk ops E o=true:=by exact rfl):zla IT P ops E (sg1 p U0 U1) i (o::l) (.raw undef::vs):=by
 subst hi;refine f_w hk (fun d hd=> ?_) hg;unfold sg1;rw[hd,zec];exact .inr (.inl h)
theorem f_l2 (hk:zla IT P ops E (sg2 p q U0 U1 U2 U3) (i+1) l vs)(h0:qop P (zbz E) U0 o=some a:=by exact rfl)(h1:qop P (zbz E) U1 o=some a:=by exact rfl)(h2:qop P (zbz E) U2 o=some a:=by exact rfl)(h3:qop P (zbz E) U3 o=some a:=by exact rfl)(hg:gOk ops E o=true:=by exact rfl)(hs: ∀d,sg2 p q U0 U1 U2 U3 (zko d i)=sg2 p q U0 U1 U2 U3 d:=by exact fun _=>rfl):
 zla IT P ops E (sg2 p q U0 U1 U2 U3) i (o::l) (a::vs):=
 f_w hk (fun d _=>by
  rw[hs];unfold sg2;cases d p<;>cases d q
  ·exact .inr (.inl (by unfold aop;rw[show(bif false then(bif false then U3 else U1) else(bif false then U2 else U0))=U0 from rfl,h0]))
  ·exact .inr (.inl (by unfold aop;rw[show(bif false then(bif true then U3 else U1) else(bif true then U2 else U0))=U2 from rfl,h2]))
  ·exact .inr (.inl (by unfold aop;rw[show(bif true then(bif false then U3 else U1) else(bif false then U2 else U0))=U1 from rfl,h1]))
  ·exact .inr (.inl (by unfold aop;rw[show(bif true then(bif true then U3 else U1) else(bif true then U2 else U0))=U3 from rfl,h3]))) hg
theorem f_sp (hk:zla IT P ops E (sg2 p q U0 U1 U2 U3) (i+1) l vs)(h:aop P (zbz E) U0 o=some (.raw undef,U1):=by exact rfl)(h':aop P (zbz E) U2 o=some (.raw undef,U3):=by exact rfl)(hi:i=p:=by exact rfl)(hne:q≠p:=by decide)(hg:gOk ops E o=true:=by exact rfl):zla IT P ops E (sg2 p q U0 U1 U2 U3) i (o::l) (.raw undef::vs):=by
 subst hi;refine f_w hk (fun d hd=> ?_) hg;unfold sg2;rw[hd,zec,zbk hne];cases d q
 ·exact .inr (.inl h)
 ·exact .inr (.inl h')
theorem f_sq (hk:zla IT P ops E (sg2 p q U0 U1 U2 U3) (i+1) l vs)(h:aop P (zbz E) U0 o=some (.raw undef,U2):=by exact rfl)(h':aop P (zbz E) U1 o=some (.raw undef,U3):=by exact rfl)(hi:i=q:=by exact rfl)(hne:p≠q:=by decide)(hg:gOk ops E o=true:=by exact rfl):zla IT P ops E (sg2 p q U0 U1 U2 U3) i (o::l) (.raw undef::vs):=by
 subst hi;refine f_w hk (fun d hd=> ?_) hg;unfold sg2;rw[hd,zec,zbk hne];cases d p
 ·exact .inr (.inl h)
 ·exact .inr (.inl h')
theorem f_e:zla IT P ops E sg i [] []:=trivial
end
end Go.Ab
namespace Go.Ab
open Go Go.RowKit Go.Fwd Go.Proofs
structure Rg where
 b:Bool
 e:Bool
 t:Tr
def qhm (r:Rg):List AV:= .raw (.bool r.b):: .raw (.bool r.e)::Enc.cells r.t
instance:Enc Rg where
 inh:=⟨false,false,zaw⟩
 cells:=qhm
 cellsL l:=l.flatMap qhm
 sz:=10
 pos:=by decide
 nil:=rfl
 cons _ _:=rfl
 len r:=by show(Enc.cells r.t).length+2=10;rw[Enc.len];rfl
 clo r:=by show cloL (.raw _:: .raw _::Enc.cells r.t)=true;rw[cloL,cloL,Enc.clo];rfl
end Go.Ab
namespace Go.Ab
open Go Go.RowKit Go.Fwd Go.Proofs
def zkx (t:Tr):Option Int:=
 (chk ((pre t).length<2^61) (zba (zfv t) (fun x1=>(bif (!x1) then(some 10001) else(chk ((pre t).length<=10000) (zba (zlr t) (fun x2=>(some x2))))))))
theorem ent37:Ent prog 37:=enters_of Tryz.func37 (by kernel_rfl) rfl
theorem z3d (t:Tr)(r:Int)(h:zkx t=some r):Pure (ITP prog) prog 37 [.A (t:Tr)] (.raw (.int .i64 r)):=by
 unfold zkx at h;refine zbl 7 mix Tryz.func37 ent37 ?_;refine zj (zb ?_);refine zdf (Enc.cells (t:Tr)) ?_;refine w_o (a:= .i 0) ?_;refine zj ?_;refine zbb [.v (.A (t:Tr))] ?_;obtain⟨g1,h⟩:=ze h;obtain⟨x1,hx1,h⟩:=zk h;refine zch (args':=[.A (t:Tr)]) (r:= .b x1) (by rw[<-hx1];exact(zye t g1)) ?_;refine w_o (a:= .b (!x1)) ?_;refine zbn h (fun hc1 h=> ?_) (fun hc1 h=> ?_);refine zbb [.v (.i 10001)] ?_;exact zkj h;refine zbb [.v (.A (t:Tr))] ?_;obtain⟨g2,h⟩:=ze h;obtain⟨x2,hx2,h⟩:=zk h;refine zch (args':=[.A (t:Tr)]) (r:= .i x2) (by rw[<-hx2];exact(k_posn t g2)) ?_;refine zar ?_;exact zkj h
def zjs (x:Rg):Option Int:=
 (chk ((pre x.t).length<2^61) (zba (zda x.t) (fun x1=>(bif (!x1) then(some 80) else(chk ((pre x.t).length<2^61) (zba (zsq x.t) (fun x2=>(bif (decide (x2>120)) then(some 81) else(zag (zkx x.t) (fun x3=>(bif (decide (x3>400)) then(some 82) else(chk ((pre x.t).length<2^61) (zba (zvq x.t) (fun x4=>(bif (decide (x4>9)) then(some 83) else(some 0))))))))))))))))
theorem ent13:Ent prog 13:=enters_of Tryz.func13 (by kernel_rfl) rfl
theorem zyk (x:Rg)(r:Int)(h:zjs x=some r):Pure (ITP prog) prog 13 [.A (x:Rg)] (.raw (.int .i64 r)):=by
 unfold zjs at h;refine zbl 22 mix Tryz.func13 ent13 ?_;refine zj (zb ?_);refine zdf (Enc.cells (x:Rg)) ?_;refine w_o (a:= .i 0) ?_;refine zj ?_;refine zx ?_;refine zbb [.v (.ptr 0 2),.v (.A (x.t:Tr))] ?_;obtain⟨g1,h⟩:=ze h;obtain⟨x1,hx1,h⟩:=zk h;refine zch (args':=[.A (x.t:Tr)]) (r:= .b x1) (by rw[<-hx1];exact(zyg x.t g1)) ?_;refine w_r [.v (.b (!x1)),.m _] ?_;refine zbn h (fun hc1 h=> ?_) (fun hc1 h=> ?_);refine zbb [.v (.i 80)] ?_;exact zkj h;refine zbb [.v (.ptr 0 2),.v (.A (x.t:Tr))] ?_;obtain⟨g2,h⟩:=ze h;obtain⟨x2,hx2,h⟩:=zk h;refine zch (args':=[.A (x.t:Tr)]) (r:= .i x2) (by rw[<-hx2];exact(k_size x.t g2)) ?_;refine w_r [.v (.b (decide (x2>120))),.m _] ?_;refine zbn h (fun hc2 h=> ?_) (fun hc2 h=> ?_);refine zbb [.v (.i 81)] ?_;exact zkj h;refine zbb [.v (.ptr 0 2),.v (.A (x.t:Tr))] ?_;obtain⟨x3,hx3,h⟩:=zr h;refine zch (z3d x.t x3 hx3) ?_;refine w_r [.v (.b (decide (x3>400))),.m _] ?_;refine zbn h (fun hc3 h=> ?_) (fun hc3 h=> ?_);refine zbb [.v (.i 82)] ?_;exact zkj h;refine zbb [.v (.ptr 0 2),.v (.A (x.t:Tr))] ?_;obtain⟨g3,h⟩:=ze h;obtain⟨x4,hx4,h⟩:=zk h;refine zch (args':=[.A (x.t:Tr)]) (r:= .i x4) (by rw[<-hx4];exact(qpb x.t g3)) ?_;refine w_r [.v (.b (decide (x4>9))),.m _] ?_;refine zbn h (fun hc4 h=> ?_) (fun hc4 h=> ?_);refine zbb [.v (.i 83)] ?_;exact zkj h;refine zbb [.v (.i 0)] ?_;exact zkj h
theorem wk_two {n0:Nat} {S S':List AV} {U U':St} (s:Nat) {t:TypeId} {cs:List AV} (hb:U.boxes[s]? =some (t,cs))(k:Wk n0 S {U with boxes:=U.boxes++[(t,[])]++[(t,[])]} S' U'):Wk n0 S U S' U':=by
 refine .step (S1:=S) (U1:={U with boxes:=U.boxes++[(t,[])]}) (.inr (.inr (.inl ⟨s,t,cs,hb,Fg.refl _,rfl⟩))) (.step (S1:=S) (.inr (.inr (.inl ⟨s,t,cs,?_,Fg.refl _,rfl⟩))) k)
 show(U.boxes++[(t,[])])[s]? =_
 rw[List.getElem?_append_left (List.getElem?_eq_some_iff.1 hb).1];exact hb
section
variable {ρ:Operand->AV} {U:St} {o:Oper}
theorem q_lastQ {x i:Operand} {b:Nat} {q:Stk} {k:Int} (g:0<=k/\ k<((zcv q).length:Int))(ho:o.op= .indexAddr 67 x i)(hx:ρ x=zbs b q)(hi:ρ i= .raw (.int .i64 k)):qop prog ρ U o=some (.ptr b (0+k.toNat*1)):=by
 cases q with
 |none=>simp[zcv] at g;omega
 |some q=>exact qnn (j:=q.1) (l:=q.2) g ho hx hi
theorem rd_int {P:Program} {t:TypeId} {k:IntKind} {cs:List AV} {n:Nat} (hu:P.underlying t=some (.int k))(hs:zcp P t=some n):rd P t cs=cs.head? :=by
 unfold zcp at hs;cases hi:P.info? t with
 |none=>simp[hi] at hs
 |some i=>simp[rd,hu,hi]
theorem ztv {x:Operand} {b:Nat} {q:Stk} {k:Int} (g:0<=k/\ k<((zcv q).length:Int))(ho:o.op= .load 3 x)(hx:ρ x= .ptr b (0+k.toNat*1))(hb:U.boxes[b]? =some (zq q)):qop prog ρ U o=some (.raw (.int .i64 (ix (zcv q) k))):=by
 cases q with
 |none=>simp[zcv] at g;omega
 | some q=>
  obtain⟨j,l⟩:=q;cases l with
  |nil=>simp[zcv] at g;omega
  | cons c l=>
   have h1:=Enc.at (l:=c::l) g;have e:(zq (some (j,c::l))).2=Enc.cellsL (c::l):=rfl;have hs:zcp prog 3=some 1:=by kernel_rfl
   have hu:prog.underlying 3=some (.int .i64):=by kernel_rfl
   simp only[qop,ho,zlv,hx,hb,e];rw[zero_add,show k.toNat*1=k.toNat*Enc.sz Int from rfl,h1];show rd prog 3 (.raw (.int .i64 (ix (c::l) k))::_)=_;exact rd_int hu hs
end
def z2o (p:Rd->Option (Tr×Rd))(s:(List UInt8)):Option (Rg×Int×Int):=
 (bif (decide ((length s:Int)>1000)) then(some ((Rg.mk false false zaw),0,3)) else(zba (Lib.trimPrefix s ([94]:List UInt8),Lib.hasPrefix s ([94]:List UInt8)) (fun x1=>(chk (I64 ((length s:Int)-(length x1.1:Int))) (zag (zpz x1.1) (fun x2=>(zcu (τ:=(List UInt8)) (bif x2 then(chk (I64 ((length x1.1:Int)-1)) (chk (0<=0/\ 0<=((length x1.1:Int)-1)/\ ((length x1.1:Int)-1)<=(length x1.1:Int)) (zba (sub x1.1 0 ((length x1.1:Int)-1)) (fun x3=>(some (inl (x3))))))) else(some (inl (x1.1)))) (fun j1=>(zag (p (Rd.mk j1 0 0 none)) (fun x4=>(zcu (τ:=Rd) (bif (x4.2.e !=0) then(some (inl (x4.2))) else(bif (decide (x4.2.a<(length j1:Int))) then(chk (0<=x4.2.a/\ x4.2.a<(length j1:Int)) (zba (ix j1 x4.2.a) (fun x5=>(bif ((((x5).toNat:Nat):Int)==41) then(some (inl ((Rd.mk x4.2.s x4.2.a 91 x4.2.q)))) else(some (inl ((Rd.mk x4.2.s x4.2.a 90 x4.2.q)))))))) else(bif (decide ((length (zcv x4.2.q):Int)>0)) then(chk (I64 ((length (zcv x4.2.q):Int)-1)) (chk (0<=((length (zcv x4.2.q):Int)-1)/\ ((length (zcv x4.2.q):Int)-1)<(length (zcv x4.2.q):Int)) (some (inl ((Rd.mk x4.2.s (ix (zcv x4.2.q) ((length (zcv x4.2.q):Int)-1)) 91 x4.2.q)))))) else(some (inl (x4.2)))))) (fun j2=>(bif (j2.e !=0) then(chk (I64 (((length s:Int)-(length x1.1:Int))+j2.a)) (some ((Rg.mk false false zaw),(((length s:Int)-(length x1.1:Int))+j2.a),j2.e))) else(zag (zjs (Rg.mk x1.2 x2 x4.1)) (fun x6=>(bif (x6 !=0) then(some ((Rg.mk false false zaw),(length s:Int),x6)) else(some ((Rg.mk x1.2 x2 x4.1),(length s:Int),0))))))))))))))))))
theorem ent12:Ent prog 12:=enters_of Tryz.func12 (by kernel_rfl) rfl
theorem read_sh (p:Rd->Option (Tr×Rd))(s:(List UInt8))(r:(Rg×Int×Int))(hp: ∀(r:Rd)(y:Tr×Rd),p r=some y->RdC Tryz.prog 34 [] r (.agg (Enc.cells y.1)) y.2)(h:z2o p s=some r):Pure (ITP Tryz.prog) Tryz.prog 12 [.raw (.string (bs s))] (.tup [.agg (Enc.cells (r.1:Rg)),.raw (.int .i64 r.2.1),.raw (.int .i64 r.2.2)]):=by
 obtain⟨d,hd⟩: ∃d,Tryz.f12.body=some d:=⟨_,rfl⟩;refine zjw mix Tryz.func12 hd ent12 ?_;cases hd;unfold z2o at h;refine zbv (by dsimp only[zaq,Tryz.f12,List.length_cons,List.length_nil,Nat.zero_add,Nat.reduceAdd,Nat.reduceSub,List.replicate,List.cons_append,List.nil_append]) (by dsimp only[St.empty]) ?_;refine wq 1 ?_;refine zdf [.b false,.b false,.u 0,.raw (.int .u64 0),.raw (.int .u64 0),.raw (.int .u64 0),.raw (.int .u64 0),.i 0,.i 0,.list 0 [] .full] ?_;refine wq 2 ?_;refine zj ?_;refine wq 2 ?_;refine w_o (a:= .i (List.length s:Int)) (h:=zaz (zdk rfl rfl rfl)) ?_;refine wq 1 ?_;refine zz h (fun hc1 h=> ?_) (fun hc1 h=> ?_);refine zfn hc1 rfl ?_;refine wq 1 ?_;refine qol (.agg (Enc.cells ((Rg.mk false false zaw):Rg))) rfl rfl rfl rfl (by simp only[zcw,stripL,Enc.stripL]<;>rfl) (by dsimp only[zah,List.set]) ?_;refine zes 10 (Enc.cells ((Rg.mk false false zaw):Rg)) ?_;refine wq 2 ?_;exact zdz (fun(r:(Rg×Int×Int))=>(.tup [.agg (Enc.cells (r.1:Rg)),.i r.2.1,.i r.2.2]:AV)) h (a:= .tup [.agg (Enc.cells ((Rg.mk false false zaw):Rg)),.i 0,.i 3]) rfl (show zaf _ _=true from(za (zas _ _ (zae (Enc.clo _))) (by kernel_rfl))) (show AV.tup (stripL _)=_ from congrArg AV.tup (zv (zcq (zae (Enc.clo _))) (zv rfl (zv rfl rfl))));refine zfs hc1 rfl ?_;refine wq 2 ?_;obtain⟨x1,hx1,h⟩:=zk h;refine zlg (args':=[.s s,.s ([94]:List UInt8)]) (r:= .tup [.s x1.1,.b x1.2]) (by rw[<-hx1];exact(qgh s ([94]:List UInt8))) rfl rfl (zv rfl (zv rfl rfl)) (by kernel_rfl) (by dsimp only[zah,List.set]) ?_;refine wq 7 ?_;refine w_o (a:= .i (List.length s:Int)) (h:=zaz (zdk rfl rfl rfl)) ?_;refine zar ?_;refine w_o (a:= .i (List.length x1.1:Int)) (h:=zaz (zdk rfl rfl rfl)) ?_;obtain⟨g1,h⟩:=ze h;refine w_o (a:= .i ((List.length s:Int)-(List.length x1.1:Int))) (h:=zaz (zju rfl rfl rfl rfl g1.1 g1.2)) ?_;refine wq 3 ?_;obtain⟨x2,hx2,h⟩:=zr h;refine zlg (args':=[.s x1.1]) (r:= .b x2) (ends_sh x1.1 x2 hx2) rfl rfl (zv rfl rfl) (by kernel_rfl) (by dsimp only[zah,List.set]) ?_;refine zar ?_;refine zan h [1,3,4,5,9,10,11,12,13,14,15,16,17,18,19,20,21,22,23,24,25,26,27,28,29,30,31,32,33,34,35,36,37,38,39,40,41,42,43,44,45,46,47,48,49,50,51,52,53,54,55,56,57,58,59,60,61,62,63,64,65,66,67,68,69,70,71,72,73,74,75,76,77,78,79,80,81,82,83,84,85,86,87,88,89,90,91,92,93,94,95,96,97,98,99,100,101,102,103,104,105,106,107,108,109,110,111,112,113,114,115,116,117,118,119,120,121,122,123,124,125,126,127,128,129,130] (fun j1=>[(5,.s j1)]) (fun j1=>⟨[(34,[.b false,.b false,.u 0,.raw (.int .u64 0),.raw (.int .u64 0),.raw (.int .u64 0),.raw (.int .u64 0),.i 0,.i 0,.list 0 [] .full])],[],[],0,false⟩) ?_ ?_;intro or1 h hr1;refine wq 2 ?_;refine zz h (fun hc2 h=> ?_) (fun hc2 h=> ?_);refine zfn hc2 rfl ?_;refine zb (k0:=0) (id:=7) ?_;refine wq 2 ?_;refine w_o (a:= .i (List.length x1.1:Int)) (h:=zaz (zdk rfl rfl rfl)) ?_;obtain⟨g2,h⟩:=ze h;refine w_o (a:= .i ((List.length x1.1:Int)-1)) (h:=zaz (zju rfl rfl rfl rfl g2.1 g2.2)) ?_;obtain⟨g3,h⟩:=ze h;obtain⟨x3,hx3,h⟩:=zk h;refine w_o (a:= .s x3) (h:=zaz (by rw[<-hx3];exact(q_ssl_H (l:=x1.1) g3 rfl rfl rfl rfl))) ?_;refine zar ?_;refine zc (o:=or1) (x3) h ?_;exact zpl (bl 131 485) (by kernel_rfl) (by kernel_rfl);refine zfs hc2 rfl ?_;refine zc (o:=or1) (x1.1) h ?_;exact zpl (bl 131 485) (by kernel_rfl) (by kernel_rfl);intro j1 h;refine zbv (by dsimp only[zap,zbi,List.foldl,List.set]) rfl ?_;refine zgq (zb ?_);refine zar ?_;refine w_o (a:= .agg [.s j1,.i 0,.i 0,(zbs 0 none)]) ?_;refine zdf [.s j1,.i 0,.i 0,(zbs 0 none)] ?_;refine zar ?_;refine zht 131 [(0,.s s),(2,.ptr 3 0),(5,.s j1),(6,.b x1.2),(7,.i ((List.length s:Int)-(List.length x1.1:Int))),(8,.b x2),(9,.ptr 0 0)] (U':=⟨[(69,[.s j1,.i 0,.i 0,(zbs 2 none)]),(69,[]),((zq none).1,(zq none).2),(34,[.b false,.b false,.u 0,.raw (.int .u64 0),.raw (.int .u64 0),.raw (.int .u64 0),.raw (.int .u64 0),.i 0,.i 0,.list 0 [] .full])],[],[],0,false⟩) (wk_two 1 rfl (wmk (bl 131 997) 0 [] [1,2,3,0] 1 (Nat.le_refl _) (zev (zd rfl (zam (zaj _ _ _ rfl) (zam (zaj _ _ _ rfl) (zam (zaj _ _ _ rfl) (zam rfl zp)))) (zd rfl zp (zd rfl zp (zd rfl rfl zab)))) rfl))) ?_;have hk0:0<=2:=by decide
 refine zgq (zb ?_);refine wq 3 ?_;obtain⟨x4,hx4,h⟩:=zr h;refine zhh (r:= .agg (Enc.cells (x4.1:Tr))) (U':=⟨[(69,[.s x4.2.s,.i x4.2.a,.i x4.2.e,(zbs 4 x4.2.q)]),(69,[]),((zq none).1,[]),(34,[.b false,.b false,.u 0,.raw (.int .u64 0),.raw (.int .u64 0),.raw (.int .u64 0),.raw (.int .u64 0),.i 0,.i 0,.list 0 [] .full]),((zq x4.2.q).1,(zq x4.2.q).2)],[],[],0,false⟩) ((hp (Rd.mk j1 0 0 none) x4 hx4) _ 2 (by decide) rfl rfl) rfl rfl ⟨rfl,rfl⟩ (by dsimp only[zah,List.set]) ?_;refine qol (.agg (Enc.cells ((Rg.mk x1.2 x2 x4.1):Rg))) rfl rfl rfl rfl (show zcw (.agg (Enc.cells ((Rg.mk x1.2 x2 x4.1):Rg)))=_ from congrArg AV.agg (zcy _ (Enc.clo ((Rg.mk x1.2 x2 x4.1):Rg)))) (by dsimp only[zah,List.set]) ?_;refine zdf [.b false,.b false,.u 0,.raw (.int .u64 0),.raw (.int .u64 0),.raw (.int .u64 0),.raw (.int .u64 0),.i 0,.i 0,.list 0 [] .full] ?_;refine zes 10 (Enc.cells ((Rg.mk x1.2 x2 x4.1):Rg)) ?_;refine zht 131 [(0,.s s),(2,.ptr 3 0),(5,.s j1),(7,.i ((List.length s:Int)-(List.length x1.1:Int))),(9,.ptr 0 0),(10,.ptr 4 0)] (U':=⟨[(69,[.s x4.2.s,.i x4.2.a,.i x4.2.e,(zbs 2 x4.2.q)]),(69,[]),((zq x4.2.q).1,(zq x4.2.q).2),(34,[.b false,.b false,.u 0,.raw (.int .u64 0),.raw (.int .u64 0),.raw (.int .u64 0),.raw (.int .u64 0),.i 0,.i 0,.list 0 [] .full]),(34,(Enc.cells ((Rg.mk x1.2 x2 x4.1):Rg)))],[],[],0,false⟩) (wmk (bl 131 1701) 2 [] [4,3,5] 1 hk0 (zat rfl (ziz fun _=>rfl) zp (zd rfl (zt _ _ _) (zd rfl rfl (zd rfl (zad _ _ _ (Enc.clo _)) zab))) rfl)) ?_;refine zan h [5,42,43,44,45,46,47,48,49,50,51,52,53,54,55,56,57,58,59,60,61,62,63,64,65,66,67,68,69,70,71,72,73,74,75,76,77,78,79,80,81,82,83,84,85,86,87,88,89,90,91,92,93,94,95,96,97,98,99,100,101,102,103] (fun j2=>[]) (fun j2=>⟨[(69,[.s j2.s,.i j2.a,.i j2.e,(zbs 2 j2.q)]),(69,[]),((zq j2.q).1,(zq j2.q).2),(34,[.b false,.b false,.u 0,.raw (.int .u64 0),.raw (.int .u64 0),.raw (.int .u64 0),.raw (.int .u64 0),.i 0,.i 0,.list 0 [] .full]),(34,(Enc.cells ((Rg.mk x1.2 x2 x4.1):Rg)))],[],[],0,false⟩) ?_ ?_;intro or2 h hr2;refine zx ?_;refine wq 7 ?_;refine zz h (fun hc3 h=> ?_) (fun hc3 h=> ?_);refine zfn hc3 rfl ?_;refine zc (o:=or2) (x4.2) h ?_;exact zpl (bl 131 2722258915085098104055326439904940916703) (by kernel_rfl) (by kernel_rfl);refine zfs hc3 rfl ?_;refine wq 6 ?_;refine w_o (a:= .i (List.length j1:Int)) (h:=zaz (zdk rfl rfl rfl)) ?_;refine wq 1 ?_;refine zz h (fun hc4 h=> ?_) (fun hc4 h=> ?_);refine w_o (a:= .b true) (h:=zaz (zhj rfl hc4)) ?_;refine wq 5 ?_;refine zao rfl rfl ?_;obtain⟨g4,h⟩:=ze h;obtain⟨x5,hx5,h⟩:=zk h;refine w_o (a:= .u (((x5).toNat:Nat):Int)) (h:=zaz (by rw[<-hx5];exact(zeo (l:=j1) (n:=x4.2.a) g4 rfl rfl rfl rfl))) ?_;refine zao rfl rfl ?_;iterate 2 refine w_o (a:= .b ((((x5).toNat:Nat):Int)==41)) ?_
 refine zar ?_;refine zz h (fun hc5 h=> ?_) (fun hc5 h=> ?_);refine zfn hc5 rfl ?_;refine zb (k0:=0) (id:=12) ?_;refine wq 3 ?_;refine zqo (U'':=⟨[(69,[.s x4.2.s,.i x4.2.a,.i 91,(zbs 2 x4.2.q)]),(69,[]),((zq x4.2.q).1,(zq x4.2.q).2),(34,[.b false,.b false,.u 0,.raw (.int .u64 0),.raw (.int .u64 0),.raw (.int .u64 0),.raw (.int .u64 0),.i 0,.i 0,.list 0 [] .full]),(34,(Enc.cells ((Rg.mk x1.2 x2 x4.1):Rg)))],[],[],0,false⟩) (h:=zct (n:=1) rfl rfl rfl rfl rfl ⟨rfl,rfl,Nat.le_of_ble_eq_true rfl,by decide⟩) ?_;refine zc (o:=or2) ((Rd.mk x4.2.s x4.2.a 91 x4.2.q)) h ?_;exact zpl (bl 131 2722258915085098104055326439904940916703) (by kernel_rfl) (by kernel_rfl);refine zfs hc5 rfl ?_;refine wq 6 ?_;refine w_o (a:= .i (List.length j1:Int)) (h:=zaz (zdk rfl rfl rfl)) ?_;refine wq 2 ?_;refine zfn hc4 rfl ?_;refine zb (k0:=0) (id:=14) ?_;refine wq 3 ?_;refine zqo (U'':=⟨[(69,[.s x4.2.s,.i x4.2.a,.i 90,(zbs 2 x4.2.q)]),(69,[]),((zq x4.2.q).1,(zq x4.2.q).2),(34,[.b false,.b false,.u 0,.raw (.int .u64 0),.raw (.int .u64 0),.raw (.int .u64 0),.raw (.int .u64 0),.i 0,.i 0,.list 0 [] .full]),(34,(Enc.cells ((Rg.mk x1.2 x2 x4.1):Rg)))],[],[],0,false⟩) (h:=zct (n:=1) rfl rfl rfl rfl rfl ⟨rfl,rfl,Nat.le_of_ble_eq_true rfl,by decide⟩) ?_;refine zc (o:=or2) ((Rd.mk x4.2.s x4.2.a 90 x4.2.q)) h ?_;exact zpl (bl 131 2722258915085098104055326439904940916703) (by kernel_rfl) (by kernel_rfl);refine w_o (a:= .b false) (h:=zaz (zhj rfl hc4)) ?_;iterate 7 refine qkr ?_
 refine w_o (a:= .b false) ?_;refine zar ?_;refine zcd rfl ?_;refine wq 6 ?_;refine w_o (a:= .i (List.length j1:Int)) (h:=zaz (zdk rfl rfl rfl)) ?_;refine wq 2 ?_;refine zfs hc4 rfl ?_;refine wq 4 ?_;refine w_o (a:=(zbs 2 x4.2.q)) ?_;refine w_o (a:= .i (List.length (zcv x4.2.q):Int)) (h:=zaz (z5i (b:=2) (q:=x4.2.q) rfl rfl)) ?_;refine wq 2 ?_;refine zz h (fun hc6 h=> ?_) (fun hc6 h=> ?_);refine zfn hc6 rfl ?_;obtain⟨g5,h⟩:=ze h;obtain⟨g6,h⟩:=ze h;refine qeg (id:=16) (sg2 16 19 ⟨[(69,[.s x4.2.s,.i x4.2.a,.i x4.2.e,(zbs 2 x4.2.q)]),(69,[]),((zq x4.2.q).1,(zq x4.2.q).2),(34,[.b false,.b false,.u 0,.raw (.int .u64 0),.raw (.int .u64 0),.raw (.int .u64 0),.raw (.int .u64 0),.i 0,.i 0,.list 0 [] .full]),(34,(Enc.cells ((Rg.mk x1.2 x2 x4.1):Rg)))],[],[],0,false⟩ ⟨[(69,[.s x4.2.s,.i (ix (zcv x4.2.q) ((List.length (zcv x4.2.q):Int)-1)),.i x4.2.e,(zbs 2 x4.2.q)]),(69,[]),((zq x4.2.q).1,(zq x4.2.q).2),(34,[.b false,.b false,.u 0,.raw (.int .u64 0),.raw (.int .u64 0),.raw (.int .u64 0),.raw (.int .u64 0),.i 0,.i 0,.list 0 [] .full]),(34,(Enc.cells ((Rg.mk x1.2 x2 x4.1):Rg)))],[],[],0,false⟩ ⟨[(69,[.s x4.2.s,.i x4.2.a,.i 91,(zbs 2 x4.2.q)]),(69,[]),((zq x4.2.q).1,(zq x4.2.q).2),(34,[.b false,.b false,.u 0,.raw (.int .u64 0),.raw (.int .u64 0),.raw (.int .u64 0),.raw (.int .u64 0),.i 0,.i 0,.list 0 [] .full]),(34,(Enc.cells ((Rg.mk x1.2 x2 x4.1):Rg)))],[],[],0,false⟩ ⟨[(69,[.s x4.2.s,.i (ix (zcv x4.2.q) ((List.length (zcv x4.2.q):Int)-1)),.i 91,(zbs 2 x4.2.q)]),(69,[]),((zq x4.2.q).1,(zq x4.2.q).2),(34,[.b false,.b false,.u 0,.raw (.int .u64 0),.raw (.int .u64 0),.raw (.int .u64 0),.raw (.int .u64 0),.i 0,.i 0,.list 0 [] .full]),(34,(Enc.cells ((Rg.mk x1.2 x2 x4.1):Rg)))],[],[],0,false⟩) ⟨[(69,[.s x4.2.s,.i (ix (zcv x4.2.q) ((List.length (zcv x4.2.q):Int)-1)),.i 91,(zbs 2 x4.2.q)]),(69,[]),((zq x4.2.q).1,(zq x4.2.q).2),(34,[.b false,.b false,.u 0,.raw (.int .u64 0),.raw (.int .u64 0),.raw (.int .u64 0),.raw (.int .u64 0),.i 0,.i 0,.list 0 [] .full]),(34,(Enc.cells ((Rg.mk x1.2 x2 x4.1):Rg)))],[],[],0,false⟩ [some (86,.ptr 0 0),some (87,.ptr 0 0),some (88,.ptr 0 0),some (89,.ptr 0 0),some (90,.ptr 0 3),some (91,(zbs 2 x4.2.q)),some (92,.ptr 0 0),some (93,.ptr 0 0),some (94,.ptr 0 3),some (95,(zbs 2 x4.2.q)),some (96,.i (List.length (zcv x4.2.q):Int)),some (97,.i ((List.length (zcv x4.2.q):Int)-1)),some (98,.ptr 2 (0+Int.toNat ((List.length (zcv x4.2.q):Int)-1)*1)),some (99,.i (ix (zcv x4.2.q) ((List.length (zcv x4.2.q):Int)-1))),some (100,.ptr 0 0),some (101,.ptr 0 1),none,some (102,.ptr 0 0),some (103,.ptr 0 2),none] ?_ ?_;iterate 5 refine f_o ?_
 refine f_l2 ?_;iterate 3 refine f_o ?_
 refine f_l2 ?_;refine f_o ?_ (h:=fun _=>(z5i (b:=2) (q:=x4.2.q) rfl rfl));refine f_o ?_ (h:=fun _=>(zju rfl rfl rfl rfl g5.1 g5.2));refine f_o ?_ (h:=fun _=>(q_lastQ (b:=2) (q:=x4.2.q) g6 rfl rfl rfl));refine f_l2 ?_ (h0:=(ztv (b:=2) (q:=x4.2.q) g6 rfl rfl rfl)) (h1:=(ztv (b:=2) (q:=x4.2.q) g6 rfl rfl rfl)) (h2:=(ztv (b:=2) (q:=x4.2.q) g6 rfl rfl rfl)) (h3:=(ztv (b:=2) (q:=x4.2.q) g6 rfl rfl rfl));iterate 2 refine f_o ?_
 refine f_sp ?_ (h:=by kernel_rfl) (h':=by kernel_rfl);iterate 2 refine f_o ?_
 refine f_sq ?_ (h:=by kernel_rfl) (h':=by kernel_rfl);exact f_e;refine zc (o:=or2) ((Rd.mk x4.2.s (ix (zcv x4.2.q) ((List.length (zcv x4.2.q):Int)-1)) 91 x4.2.q)) h ?_;exact zpl (bl 131 2722258915085098104055326439904940916703) (by kernel_rfl) (by kernel_rfl);refine zfs hc6 rfl ?_;refine zc (o:=or2) (x4.2) h ?_;exact zpl (bl 131 2722258915085098104055326439904940916703) (by kernel_rfl) (by kernel_rfl);intro j2 h;refine zbv (by dsimp only[zap,zbi,List.foldl,List.set]) rfl ?_;refine zj ?_;refine wq 6 ?_;refine zz h (fun hc7 h=> ?_) (fun hc7 h=> ?_);refine zfn hc7 rfl ?_;obtain⟨g7,h⟩:=ze h;refine zj ?_;refine qeg (id:=18) (sg1 11 ⟨[(69,[.s j2.s,.i j2.a,.i j2.e,(zbs 2 j2.q)]),(69,[]),((zq j2.q).1,(zq j2.q).2),(34,[.b false,.b false,.u 0,.raw (.int .u64 0),.raw (.int .u64 0),.raw (.int .u64 0),.raw (.int .u64 0),.i 0,.i 0,.list 0 [] .full]),(34,(Enc.cells ((Rg.mk x1.2 x2 x4.1):Rg)))],[],[],0,false⟩ ⟨[(69,[.s j2.s,.i j2.a,.i j2.e,(zbs 2 j2.q)]),(69,[]),((zq j2.q).1,(zq j2.q).2),(34,[.b false,.b false,.u 0,.raw (.int .u64 0),.raw (.int .u64 0),.raw (.int .u64 0),.raw (.int .u64 0),.i 0,.i 0,.list 0 [] .full]),(34,(Enc.cells ((Rg.mk x1.2 x2 x4.1):Rg)))],[],[],0,false⟩) ⟨[(69,[.s j2.s,.i j2.a,.i j2.e,(zbs 2 j2.q)]),(69,[]),((zq j2.q).1,(zq j2.q).2),(34,[.b false,.b false,.u 0,.raw (.int .u64 0),.raw (.int .u64 0),.raw (.int .u64 0),.raw (.int .u64 0),.i 0,.i 0,.list 0 [] .full]),(34,(Enc.cells ((Rg.mk x1.2 x2 x4.1):Rg)))],[],[],0,false⟩ [some (109,.agg [.b false,.b false,.u 0,.raw (.int .u64 0),.raw (.int .u64 0),.raw (.int .u64 0),.raw (.int .u64 0),.i 0,.i 0,.list 0 [] .full]),some (110,.i ((List.length s:Int)-(List.length x1.1:Int))),some (111,.ptr 0 0),some (112,.ptr 0 0),some (113,.ptr 0 1),some (114,.i j2.a),some (115,.i (((List.length s:Int)-(List.length x1.1:Int))+j2.a)),some (116,.ptr 0 0),some (117,.ptr 0 0),some (118,.ptr 0 2),some (119,.i j2.e),none,some (3,.i (((List.length s:Int)-(List.length x1.1:Int))+j2.a)),some (4,.i j2.e)] ?_ ?_;iterate 5 refine f_o ?_
 refine f_l ?_;refine f_o ?_ (h:=fun _=>(qnt rfl rfl rfl rfl g7.1 g7.2));iterate 3 refine f_o ?_
 refine f_l ?_;refine f_s ?_ (h:=by kernel_rfl);iterate 2 refine f_o ?_
 exact f_e;exact zdz (fun(r:(Rg×Int×Int))=>(.tup [.agg (Enc.cells (r.1:Rg)),.i r.2.1,.i r.2.2]:AV)) h (a:= .tup [.agg [.b false,.b false,.u 0,.raw (.int .u64 0),.raw (.int .u64 0),.raw (.int .u64 0),.raw (.int .u64 0),.i 0,.i 0,.list 0 [] .full],.i (((List.length s:Int)-(List.length x1.1:Int))+j2.a),.i j2.e]) rfl (show zaf _ _=true from(za (by kernel_rfl) (by kernel_rfl))) (show AV.tup (stripL _)=_ from congrArg AV.tup (zv (by kernel_rfl) (zv rfl (zv rfl rfl))));refine zfs hc7 rfl ?_;refine zj ?_;refine wq 2 ?_;obtain⟨x6,hx6,h⟩:=zr h;refine zlg (args':=[.agg (Enc.cells ((Rg.mk x1.2 x2 x4.1):Rg))]) (r:= .i x6) (zyk (Rg.mk x1.2 x2 x4.1) x6 hx6) rfl rfl (zv (zcq (zae (Enc.clo _))) rfl) (za (zas _ _ (zae (Enc.clo _))) rfl) (by dsimp only[zah,List.set]) ?_;refine wq 4 ?_;refine zz h (fun hc8 h=> ?_) (fun hc8 h=> ?_);refine zfn hc8 rfl ?_;refine wq 1 ?_;refine qol (.agg (Enc.cells ((Rg.mk false false zaw):Rg))) rfl rfl rfl rfl (by simp only[zcw,stripL,Enc.stripL]<;>rfl) (by dsimp only[zah,List.set]) ?_;refine zar ?_;refine w_o (a:= .i (List.length s:Int)) (h:=zaz (zdk rfl rfl rfl)) ?_;refine zar ?_;refine zes 10 (Enc.cells ((Rg.mk false false zaw):Rg)) ?_;refine wq 2 ?_;exact zdz (fun(r:(Rg×Int×Int))=>(.tup [.agg (Enc.cells (r.1:Rg)),.i r.2.1,.i r.2.2]:AV)) h (a:= .tup [.agg (Enc.cells ((Rg.mk false false zaw):Rg)),.i (List.length s:Int),.i x6]) rfl (show zaf _ _=true from(za (zas _ _ (zae (Enc.clo _))) (by kernel_rfl))) (show AV.tup (stripL _)=_ from congrArg AV.tup (zv (zcq (zae (Enc.clo _))) (zv rfl (zv rfl rfl))));refine zfs hc8 rfl ?_;refine wq 3 ?_;refine w_o (a:= .i (List.length s:Int)) (h:=zaz (zdk rfl rfl rfl)) ?_;refine zes 10 (Enc.cells ((Rg.mk x1.2 x2 x4.1):Rg)) ?_;refine wq 2 ?_;exact zdz (fun(r:(Rg×Int×Int))=>(.tup [.agg (Enc.cells (r.1:Rg)),.i r.2.1,.i r.2.2]:AV)) h (a:= .tup [.agg (Enc.cells ((Rg.mk x1.2 x2 x4.1):Rg)),.i (List.length s:Int),.i 0]) rfl (show zaf _ _=true from(za (zas _ _ (zae (Enc.clo _))) (by kernel_rfl))) (show AV.tup (stripL _)=_ from congrArg AV.tup (zv (zcq (zae (Enc.clo _))) (zv rfl (zv rfl rfl))))
end Go.Ab
namespace Go.Ab
open Go Go.RowKit Go.Fwd Go.Proofs
noncomputable def qns (fuel:Nat)(a:Rd->Option (Tr×Rd))(rows:List Tr)(r:Rd):Option (Nat×Rd):=
 (zag (zee r) (fun x1=>(zax (β:=Int×Rd×Nat) (fun s1=>(bif (s1.1 !=0) then(bif (s1.1 !=124) then(bif (s1.1 !=41) then(zag (a s1.2.1) (fun x2=>(zag (zdg fuel x2.1 x2.2) (fun x3=>(qdm (rows[s1.2.2]? =some x3.1) (zag (zee x3.2) (fun x4=>(some (inl (x4.1,x4.2,(s1.2.2+1))))))))))) else(some (inr (s1.2.2,s1.2.1)))) else(some (inr (s1.2.2,s1.2.1)))) else(some (inr (s1.2.2,s1.2.1))))) fuel (x1.1,x1.2,0))))
theorem ent97:Ent prog 97:=enters_of Tryz.func97 (by kernel_rfl) rfl
theorem pc1_it (fuel:Nat)(a:Rd->Option (Tr×Rd))(rows:List Tr)(r:Rd)(ha: ∀(r:Rd)(y:Tr×Rd),a r=some y->RdC prog 99 [] r (.A y.1) y.2)(r2:Rd)(h:qns fuel a rows r=some (rows.length,r2)):RdIt prog 97 r (rows.map zoi) r2:=by
 obtain⟨c,hc⟩: ∃c,Tryz.f97.body=some c:=⟨_,rfl⟩;refine qnv mix Tryz.func97 hc (fun G hGr k0 hk0=> ?_);obtain⟨l,hGl⟩: ∃l,G.l=l:=⟨_,rfl⟩;rw[length_map,hGl];cases hc;unfold qns at h;refine zbv (by dsimp only[zaq,Tryz.f97,length_cons,length_nil,zero_add,Nat.reduceAdd,Nat.reduceSub,List.replicate,cons_append,nil_append]) (show rdS r.q r=(.B [(69,[.s r.s,.i r.a,.i r.e,(zbs 2 r.q)]),((zq r.q).1,[]),((zq r.q).1,(zq r.q).2)]) from rfl) ?_;refine zgq (zb ?_);refine w_o (a:= .ptr 0 0) ?_;obtain⟨x1,hx1,h⟩:=zr h;refine zhh (r:= .u x1.1) (U':=(.B [(69,[.s x1.2.s,.i x1.2.a,.i x1.2.e,(zbs 3 x1.2.q)]),((zq r.q).1,[]),((zq r.q).1,[]),((zq x1.2.q).1,(zq x1.2.q).2)])) ((zrf r x1 hx1) _ 2 (by decide) rfl rfl) rfl rfl ⟨rfl,rfl⟩ (by dsimp only[zah,List.set]) ?_;refine zar ?_;refine zht 25 [(0,.yld l),(1,.iptr [.ptr 0 0]),(3,.u x1.1)] (U':=(.B [(69,[.s x1.2.s,.i x1.2.a,.i x1.2.e,(zbs 2 x1.2.q)]),((zq r.q).1,[]),((zq x1.2.q).1,(zq x1.2.q).2)])) (wmk (bl 25 11) 2 [] [3] 1 hk0 (zat rfl (ziz fun _=>rfl) zp (zd rfl (zt _ _ _) zab) rfl)) ?_;refine zx ?_;refine zcf h (bz 0 25 33554376) (fun s1=>[(3,.u s1.1)]) (fun s1=>⟨[(69,[.s s1.2.1.s,.i s1.2.1.a,.i s1.2.1.e,(zbs 2 s1.2.1.q)]),((zq r.q).1,[]),((zq s1.2.1.q).1,(zq s1.2.1.q).2)],[],[],s1.2.2,false⟩) ?_ ?_;exact zbe (bl 25 63);intro s1 p1 h;refine zdi ?_;refine zj ?_;refine zbb [.m _,.v (.b (s1.1 !=0))] ?_;refine zz h (fun hc1 h=> ?_) (fun hc1 h=> ?_);refine zai hc1 ?_;refine w_r [.m _,.v (.b (s1.1 !=124)),.v (.b (s1.1 !=124))] ?_;refine zz h (fun hc2 h=> ?_) (fun hc2 h=> ?_);refine zai hc2 ?_;refine w_r [.m _,.v (.b (s1.1 !=41)),.v (.b (s1.1 !=41))] ?_;refine zbn h (fun hc3 h=> ?_) (fun hc3 h=> ?_);refine zj ?_;refine zx ?_;obtain⟨x2,hx2,h⟩:=zr h;obtain⟨x3,hx3,h⟩:=zr h;obtain⟨g1,h⟩:=z8l h;refine w_seqC (id:=3) ?_;refine zrh (fun ops hops FIN hFIN S0 hS0=> ?_);let H0:St:=⟨[(69,[.s x3.2.s,.i x3.2.a,.i x3.2.e,(zbs 4 x3.2.q)]),((zq r.q).1,[]),((zq s1.2.1.q).1,[]),((zq x2.2.q).1,[]),((zq x3.2.q).1,(zq x3.2.q).2)],[],[],(s1.2.2+1),false⟩
 let H1:St:=⟨[(69,[.s x3.2.s,.i x3.2.a,.i x3.2.e,(zbs 4 x3.2.q)]),((zq r.q).1,[]),((zq s1.2.1.q).1,[]),((zq x2.2.q).1,[]),((zq x3.2.q).1,(zq x3.2.q).2)],[],[],s1.2.2,true⟩
 let H2:St:=⟨[(69,[.s x3.2.s,.i x3.2.a,.i x3.2.e,(zbs 4 x3.2.q)]),((zq r.q).1,[]),((zq s1.2.1.q).1,[]),((zq x2.2.q).1,[]),((zq x3.2.q).1,(zq x3.2.q).2)],[],[],s1.2.2,false⟩
 let H3:St:=⟨[(69,[.s x2.2.s,.i x2.2.a,.i x2.2.e,(zbs 3 x2.2.q)]),((zq r.q).1,[]),((zq s1.2.1.q).1,[]),((zq x2.2.q).1,(zq x2.2.q).2)],[],[],s1.2.2,false⟩
 let H4:St:=⟨[(69,[.s s1.2.1.s,.i s1.2.1.a,.i s1.2.1.e,(zbs 2 s1.2.1.q)]),((zq r.q).1,[]),((zq s1.2.1.q).1,(zq s1.2.1.q).2)],[],[],s1.2.2,false⟩
 let N:List (Option (Nat×AV))->Nat->Nat->St->Prop:=fun ps k m U=>aN (ITP prog) prog (some G) ops FIN S0 ps 7 k m U
 obtain⟨psY,hpsY⟩: ∃ps:List (Option (Nat×AV)),ps=[some (18,.yld l),some (19,.ptr 0 0),some (20,.ptr 0 0),some (21,.A (x2.1:Tr)),some (22,.A (x3.1:Tr)),some (23,.b true),some (24,.b false)]:=⟨_,rfl⟩;have zY7:N psY 0 127 H0:=by
  refine aN_0 hops hS0 hpsY (hFIN _ _ ?_);refine zcd rfl ?_;refine zb (k0:=k0) (id:=2) ?_;refine w_o (a:= .ptr 0 0) ?_;obtain⟨x4,hx4,h⟩:=zr h;refine zhh (r:= .u x4.1) (U':=⟨[(69,[.s x4.2.s,.i x4.2.a,.i x4.2.e,(zbs 5 x4.2.q)]),((zq r.q).1,[]),((zq s1.2.1.q).1,[]),((zq x2.2.q).1,[]),((zq x3.2.q).1,[]),((zq x4.2.q).1,(zq x4.2.q).2)],[],[],(s1.2.2+1),false⟩) ((zrf x3.2 x4 hx4) _ 4 (by decide) rfl rfl) rfl rfl ⟨rfl,rfl⟩ (by dsimp only[zah,List.set]) ?_;refine zar ?_;refine zbf (p:=p1) (x4.1,x4.2,(s1.2.2+1)) h ?_;exact(wmk (bl 25 63) 2 [] [5] 1 hk0 (zat rfl (ziz fun _=>rfl) zp (zd rfl (zt _ _ _) zab) rfl))
 have zY6:N psY 1 63 H0:=by
  refine qkz hops hS0 hpsY 6 ?_;refine w_o (a:= .b false) ?_;exact zfq zY7 hS0 hpsY
 obtain⟨psN,hpsN⟩: ∃ps:List (Option (Nat×AV)),ps=[some (18,.yld l),some (19,.ptr 0 0),some (20,.ptr 0 0),some (21,.A (x2.1:Tr)),some (22,.A (x3.1:Tr)),some (23,.b false),some (24,.b true)]:=⟨_,rfl⟩;have zN7:N psN 0 127 H1:=by
  refine aN_0 hops hS0 hpsN (hFIN _ _ ?_);refine zbd rfl ?_;refine .inr ?_;exact⟨⟨.tup [],rfl⟩,.inl rfl⟩
 have zN6:N psN 1 63 H1:=by
  refine qkz hops hS0 hpsN 6 ?_;refine w_o (a:= .b true) ?_;exact zfq zN7 hS0 hpsN
 obtain⟨ps,hps⟩: ∃ps:List (Option (Nat×AV)),ps=[some (18,.yld l),some (19,.ptr 0 0),some (20,.ptr 0 0),some (21,.A (x2.1:Tr)),some (22,.A (x3.1:Tr)),none,none]:=⟨_,rfl⟩;have n13:N ps 2 31 H2:=by
  refine qkz hops hS0 hps 5 ?_;refine ztu (row:=zoi) (x:=x3.1) (U1:=H0) (U2:=H1) g1 (zv (zcq (zae (Enc.clo _))) rfl) (za (zas _ _ (zae (Enc.clo _))) rfl) (zyb rfl) rfl hGl hGr rfl rfl rfl rfl (by dsimp only[zah,List.set]) (by dsimp only[zah,List.set]) rfl rfl ?_ ?_;exact zfq zY6 hS0 hpsY;exact zfq zN6 hS0 hpsN
 have n12:N ps 3 30 H2:=by
  refine qkz hops hS0 hps 0 ?_;refine zar ?_;exact zfq n13 hS0 hps
 have n11:N ps 3 15 H3:=by
  refine qkz hops hS0 hps 4 ?_;refine zhh (r:= .A (x3.1:Tr)) (U':=H2) ((zxw fuel x2.1 x2.2 x3 hx3) _ 3 (by decide) rfl rfl) rfl rfl ⟨rfl,rfl⟩ (by dsimp only[zah,List.set]) ?_;exact zfq n13 hS0 hps
 have n10:N ps 4 14 H3:=by
  refine aN_2 hops hS0 hps 0 4 ?_ ?_;refine zar ?_;exact zfq n11 hS0 hps;refine zhh (r:= .A (x3.1:Tr)) (U':=H2) ((zxw fuel x2.1 x2.2 x3 hx3) _ 3 (by decide) rfl rfl) rfl rfl ⟨rfl,rfl⟩ (by dsimp only[zah,List.set]) ?_;exact zfq n12 hS0 hps
 have n9:N ps 4 13 H3:=by
  refine qkz hops hS0 hps 1 ?_;refine w_o (a:= .ptr 0 0) ?_;exact zfq n11 hS0 hps
 have n8:N ps 4 7 H4:=by
  refine qkz hops hS0 hps 3 ?_;refine zhh (r:= .A (x2.1:Tr)) (U':=H3) ((ha s1.2.1 x2 hx2) _ 2 (by decide) rfl rfl) rfl rfl ⟨rfl,rfl⟩ (by dsimp only[zah,List.set]) ?_;exact zfq n11 hS0 hps
 have n7:N ps 5 12 H3:=by
  refine aN_2 hops hS0 hps 0 1 ?_ ?_;refine zar ?_;exact zfq n9 hS0 hps;refine w_o (a:= .ptr 0 0) ?_;exact zfq n10 hS0 hps
 have n6:N ps 5 6 H4:=by
  refine aN_2 hops hS0 hps 0 3 ?_ ?_;refine zar ?_;exact zfq n8 hS0 hps;refine zhh (r:= .A (x2.1:Tr)) (U':=H3) ((ha s1.2.1 x2 hx2) _ 2 (by decide) rfl rfl) rfl rfl ⟨rfl,rfl⟩ (by dsimp only[zah,List.set]) ?_;exact zfq n10 hS0 hps
 have n5:N ps 5 5 H4:=by
  refine aN_2 hops hS0 hps 1 3 ?_ ?_;refine w_o (a:= .ptr 0 0) ?_;exact zfq n8 hS0 hps;refine zhh (r:= .A (x2.1:Tr)) (U':=H3) ((ha s1.2.1 x2 hx2) _ 2 (by decide) rfl rfl) rfl rfl ⟨rfl,rfl⟩ (by dsimp only[zah,List.set]) ?_;exact zfq n9 hS0 hps
 have n4:N ps 5 3 H4:=by
  refine qkz hops hS0 hps 2 ?_;refine w_o (a:= .ptr 0 0) ?_;exact zfq n8 hS0 hps
 have n3:N ps 6 4 H4:=by
  refine aN_3 hops hS0 hps 0 1 3 ?_ ?_ ?_;refine zar ?_;exact zfq n5 hS0 hps;refine w_o (a:= .ptr 0 0) ?_;exact zfq n6 hS0 hps;refine zhh (r:= .A (x2.1:Tr)) (U':=H3) ((ha s1.2.1 x2 hx2) _ 2 (by decide) rfl rfl) rfl rfl ⟨rfl,rfl⟩ (by dsimp only[zah,List.set]) ?_;exact zfq n7 hS0 hps
 have n2:N ps 6 2 H4:=by
  refine aN_2 hops hS0 hps 0 2 ?_ ?_;refine zar ?_;exact zfq n4 hS0 hps;refine w_o (a:= .ptr 0 0) ?_;exact zfq n6 hS0 hps
 have n1:N ps 6 1 H4:=by
  refine aN_2 hops hS0 hps 1 2 ?_ ?_;refine w_o (a:= .ptr 0 0) ?_;exact zfq n4 hS0 hps;refine w_o (a:= .ptr 0 0) ?_;exact zfq n5 hS0 hps
 have n0:N ps 7 0 H4:=by
  refine aN_3 hops hS0 hps 0 1 2 ?_ ?_ ?_;refine zar ?_;exact zfq n1 hS0 hps;refine w_o (a:= .ptr 0 0) ?_;exact zfq n2 hS0 hps;refine w_o (a:= .ptr 0 0) ?_;exact zfq n3 hS0 hps
 exact zya n0 hps;refine zg h (fun h=> ?_);have he1:=Option.some.inj h;exact⟨⟨.tup [],rfl⟩,.inr ⟨congrArg Prod.fst he1,[2],1,rfl,by have e2:=congrArg Prod.snd he1;dsimp only at e2;subst e2;exact(zym rfl (ziz fun _=>rfl) zp (zd rfl (zt _ _ _) zab))⟩⟩;refine zai hc2 ?_;refine w_r [.p,.p,.v (.b false)] ?_;refine zcd rfl ?_;refine zg h (fun h=> ?_);have he2:=Option.some.inj h;exact⟨⟨.tup [],rfl⟩,.inr ⟨congrArg Prod.fst he2,[2],1,rfl,by have e2:=congrArg Prod.snd he2;dsimp only at e2;subst e2;exact(zym rfl (ziz fun _=>rfl) zp (zd rfl (zt _ _ _) zab))⟩⟩;refine zai hc1 ?_;refine w_r [.p,.p,.v (.b false),.m _,.p] ?_;refine w_r [.p,.v (.b false)] ?_;refine zcd rfl ?_;refine zg h (fun h=> ?_);have he3:=Option.some.inj h;exact⟨⟨.tup [],rfl⟩,.inr ⟨congrArg Prod.fst he3,[2],1,rfl,by have e2:=congrArg Prod.snd he3;dsimp only at e2;subst e2;exact(zym rfl (ziz fun _=>rfl) zp (zd rfl (zt _ _ _) zab))⟩⟩
theorem zmb (i:It)(l:List It):zky (i::l)=zxr i++zky l:=by simp[zky]
theorem qit (s rest:List UInt8)(hlen:s.length<2^40): ∀(its:List It) (a:List UInt8) (first:Bool) (out:BS) (fuel:Nat),s=a++zky its++93::rest->(∀i∈its,gdI i)->its.length<fuel->(first=true->its≠[])->
 zax (zxk s) fuel ((a.length:Int),first,out)=some (.inl (((a++zky its).length:Int),z4t out its))
 | [],a,first,out,fuel,hs,_,hf,hn=>by
  obtain⟨f,rfl⟩: ∃f,fuel=f+1:=⟨fuel-1,by omega⟩;have h1:first=false:=by
   cases first with
   |false=>rfl
   |true=>exact absurd rfl (hn rfl)
  subst h1;have e:s=a++93::rest:=by rw[hs];simp[zky]
  have hl:(s.length:Int)=(a.length:Int)+1+(rest.length:Int):=by rw[e];simp only[length_append,length_cons];omega
  have hat:ix s (a.length:Int)=93:=by rw[e];exact qds a rest 93
  have hb:zxk s ((a.length:Int),false,out)=some (.inr (.inl ((a.length:Int),out))):=by
   unfold zxk;refine zoc (.inr (.inl ((a.length:Int),out))) ?_ rfl;simp only[cond_false];rw[show decide ((a.length:Int)<(s.length:Int))=true by simp;omega,cond_true];refine zf (by omega) (zm fun x hx=> ?_);rw[hat] at hx;subst hx;rfl
  rw[zax,hb];simp[zky,z4t]
 | i ::its,a,first,out,fuel,hs,hg,hf,hn=>by
  obtain⟨f,rfl⟩: ∃f,fuel=f+1:=⟨fuel-1,by omega⟩;have e:s=a++zxr i++(zky its++93::rest):=by rw[hs,zmb];simp
  have hb: ∃c t,zky its++93::rest=c::t/\ c≠45:=by
   cases its with
   |nil=>exact⟨93,rest,rfl,by decide⟩
   | cons j its=>
    obtain⟨l,hl⟩:=zzo j;exact⟨92,l++(zky its++93::rest),by rw[zmb,hl];simp,by decide⟩
  have h1:=br_step a i (hg i (by simp)) _ hb first out (by rw[<-e];exact hlen)
  rw[<-e] at h1;rw[zax,h1];show zax (zxk s) f _=_;have:=qit s rest hlen its (a++zxr i) false (out|||qrk i) f (by rw[hs,zmb];simp) (fun j hj=>hg j (by simp[hj])) (by simp only[length_cons] at hf;omega) (fun h=>by cases h);rw[this,zmb];simp[z4t]
theorem zzm (k:Nat): ∀(l:List It) (s:BS),(z4t s l).getLsbD k=(s.getLsbD k||l.any fun i=>(qrk i).getLsbD k)
 |[],s=>by simp[z4t]
 | i::l,s=>by
  show(z4t (s|||qrk i) l).getLsbD k=_
  rw[zzm k l];simp[Bool.or_assoc]
theorem z6x (c:Nat)(hc:c<256):(bit c).getLsbD c=true:=by
 unfold bit;simp[BitVec.getLsbD_shiftLeft,hc]
theorem val_ne (i:It)(h:gdI i):(qrk i).getLsbD i.1=true:=by
 obtain⟨c,d⟩:=i;cases d with
 |none=>exact z6x c h
 | some d=>
  have h:c<=d/\ d<256:=h
  show(bits c (d+1-c)).getLsbD c=true
  obtain⟨k,hk⟩: ∃k,d+1-c=k+1:=⟨d-c,by omega⟩;rw[hk,bits];simp[z6x c (by omega)]
theorem qgy (l:List It)(hl:l≠[])(h: ∀i∈l,gdI i):z4t 0#256 l≠0#256:=by
 cases l with
 |nil=>exact absurd rfl hl
 | cons i l=>
  intro e;have h1:=zzm i.1 (i::l) 0#256;rw[e,List.any_cons,val_ne i (h i (by simp))] at h1;simp at h1
theorem qbz (its:List It)(rest:List UInt8)(hn:its≠[])(hg: ∀i∈its,gdI i)(hl:its.length<1000)(hlen:(zky its).length+rest.length<2^39):
 zmc 1100 (([91]:List UInt8)++zky its++[93]++rest)=some (z4t 0#256 its,((zky its).length:Int)+2,0):=by
 obtain⟨s,hs⟩: ∃s,s=([91]:List UInt8)++zky its++[93]++rest:=⟨_,rfl⟩;rw[<-hs];have e:s=[91]++zky its++93::rest:=by rw[hs];simp
 have hsl:s.length=(zky its).length+rest.length+2:=by rw[e];simp only[length_append,length_cons,length_nil];omega
 obtain⟨i0,its',hi⟩: ∃i l,its=i::l:=by
  cases its with
  |nil=>exact absurd rfl hn
  |cons i l=>exact⟨i,l,rfl⟩
 obtain⟨l0,hl0⟩:=zzo i0;have hd1:s.drop 1=92::(l0++zky its'++93::rest):=by rw[e,hi,zmb,hl0];simp
 have hloop:=qit s rest (by omega) its [91] true 0#256 1100 e hg (by omega) (fun _=>hn);unfold zmc;refine zm fun x1 hx1=> ?_;have:x1=true:=by rw[<-hx1,e];rfl
 subst this;rw[show(!true)=false from rfl,cond_false];refine zf (by omega) (zm fun x2 hx2=> ?_);rw[show(1:Int)=((1:Nat):Int) from rfl,zot,hd1] at hx2;refine zm fun x3 hx3=> ?_;have:x3=false:=by rw[<-hx3, <-hx2];rfl
 subst this;rw[cond_false];refine zak 1 rfl ?_;refine zak (((([91]:List UInt8)++zky its).length:Int),z4t 0#256 its) hloop ?_;have hla:((([91]:List UInt8)++zky its).length:Int)=((zky its).length:Int)+1:=by simp only[length_append,length_cons,length_nil];omega
 rw[hla];rw[show(((zky its).length:Int)+1==(s.length:Int))=false by simp;omega,cond_false];refine zak (z4t 0#256 its) rfl ?_;rw[show decide (z4t 0#256 its=0#256)=false by simpa using qgy its hn hg,cond_false];refine zf (by simp only;omega) ?_;simp only;rw[show((zky its).length:Int)+1+1=((zky its).length:Int)+2 by omega]
def zyh (fuel:Nat)(a:Rd->Option (Tr×Rd))(r:Rd):Option (List Tr×Rd):=
 zag (zee r) (fun x1=>zax (β:=Int×Rd×List Tr) (fun s1=>bif (s1.1 !=0) then(bif (s1.1 !=124) then(bif (s1.1 !=41) then zag (a s1.2.1) (fun x2=>zag (zdg fuel x2.1 x2.2) (fun x3=>zag (zee x3.2) (fun x4=>some (inl (x4.1,x4.2,s1.2.2++[x3.1]))))) else some (inr (s1.2.2,s1.2.1))) else some (inr (s1.2.2,s1.2.1))) else some (inr (s1.2.2,s1.2.1))) fuel (x1.1,x1.2,[]))
theorem z9g (F:Nat)(a:Rd->Option (Tr×Rd))(rows:List Tr)(r2:Rd): ∀(fuel:Nat) (c:Int) (r:Rd) (acc:List Tr),
 zax (β:=Int×Rd×List Tr) (fun s1=>bif (s1.1 !=0) then(bif (s1.1 !=124) then(bif (s1.1 !=41) then zag (a s1.2.1) (fun x2=>zag (zdg F x2.1 x2.2) (fun x3=>zag (zee x3.2) (fun x4=>some (inl (x4.1,x4.2,s1.2.2++[x3.1]))))) else some (inr (s1.2.2,s1.2.1))) else some (inr (s1.2.2,s1.2.1))) else some (inr (s1.2.2,s1.2.1))) fuel (c,r,acc)=some (rows,r2)->
 (∃tl,rows=acc++tl)/\ zax (β:=Int×Rd×Nat) (fun s1=>(bif (s1.1 !=0) then(bif (s1.1 !=124) then(bif (s1.1 !=41) then(zag (a s1.2.1) (fun x2=>(zag (zdg F x2.1 x2.2) (fun x3=>(qdm (rows[s1.2.2]? =some x3.1) (zag (zee x3.2) (fun x4=>(some (inl (x4.1,x4.2,(s1.2.2+1))))))))))) else(some (inr (s1.2.2,s1.2.1)))) else(some (inr (s1.2.2,s1.2.1)))) else(some (inr (s1.2.2,s1.2.1))))) fuel (c,r,acc.length)=some (rows.length,r2)
 |0,_,_,_,h=>by cases h
 | fuel +1,c,r,acc,h=>by
  have stop:some (inr (acc,r):(Int×Rd×List Tr) ⊕ (List Tr×Rd))=some (inr (acc,r))->some (acc,r)=some (rows,r2)->(∃tl,rows=acc++tl)/\ some (acc.length,r)=some (rows.length,r2):=fun _ h=>by
   cases h;exact⟨⟨[],by simp⟩,rfl⟩
  rw[zax] at h⊢;simp only at h⊢;cases h1:(c !=0) with
  |false=>rw[h1] at h;simp only[cond_false] at h⊢;exact stop rfl h
  | true =>
   rw[h1] at h;simp only[cond_true] at h⊢;cases h2:(c !=124) with
   |false=>rw[h2] at h;simp only[cond_false] at h⊢;exact stop rfl h
   | true=>
    rw[h2] at h;simp only[cond_true] at h⊢;cases h3:(c !=41) with
    |false=>rw[h3] at h;simp only[cond_false] at h⊢;exact stop rfl h
    | true=>
     rw[h3] at h;simp only[cond_true] at h⊢;cases ha:a r with
     |none=>rw[ha] at h;cases h
     | some x2=>
      rw[ha] at h;simp only[zag] at h⊢;cases hc:zdg F x2.1 x2.2 with
      |none=>rw[hc] at h;cases h
      | some x3=>
       rw[hc] at h;simp only at h⊢;cases hn:zee x3.2 with
       |none=>rw[hn] at h;cases h
       | some x4=>
        rw[hn] at h;simp only at h⊢;obtain⟨⟨tl,e1⟩,e2⟩:=z9g F a rows r2 fuel x4.1 x4.2 (acc++[x3.1]) h;have hr:rows[acc.length]? =some x3.1:=by rw[e1];simp
        refine⟨⟨x3.1::tl,by rw[e1];simp⟩,?_⟩;unfold qdm;rw[if_pos hr];simp only;rw[length_append] at e2;exact e2
theorem pcs_ok (fuel:Nat)(a:Rd->Option (Tr×Rd))(r:Rd)(y:List Tr×Rd)(h:zyh fuel a r=some y):qns fuel a y.1 r=some (y.1.length,y.2):=by
 unfold zyh at h;obtain⟨x1,h1,h⟩:=zr h;unfold qns;rw[h1];exact(z9g fuel a y.1 y.2 fuel x1.1 x1.2 [] h).2
def z0v (fuel:Nat):Nat->Rd->Option (Tr×Rd)
 |0,_=>none
 |n+1,r=>zvr fuel (zyh fuel (zhd fuel (zfm (z0v fuel n)))) r
theorem qqi (fuel:Nat): ∀(n:Nat) (r:Rd) (y:Tr×Rd),z0v fuel n r=some y->RdC prog 34 [] r (.agg (Enc.cells y.1)) y.2
 |0,_,_,h=>by cases h
 |n+1,r,y,h=>alts_rd fuel _ r (fun r y h=>pc1_it fuel _ y.1 r (fun r y h=>atom_rd fuel _ r (fun k r y h=>qpk _ k r (qqi fuel n) y h) y h) y.2 (pcs_ok fuel _ r y h)) y h
def zwf (fuel n:Nat)(s:List UInt8):Option (Rg×Int×Int):=z2o (z0v fuel n) s
theorem qer (fuel n:Nat)(s:List UInt8)(r:Rg×Int×Int)(h:zwf fuel n s=some r):Pure (ITP prog) prog 12 [.raw (.string (bs s))] (.tup [.agg (Enc.cells (r.1:Rg)),.raw (.int .i64 r.2.1),.raw (.int .i64 r.2.2)]):=read_sh _ s r (qqi fuel n) h
def brT (s:BS):Tr:= .mk 2 s 0 0 []
theorem z6e (s:BS):pre (brT s)=[brT s]:=by simp[brT,pre,zbj]
theorem qkl {s:BS} (h:s≠0#256):zcn (brT s)=true:=by
 rw[brT,zco,zis];simp[h]
theorem qie {s:BS} (h:s≠0#256):zda (brT s)=true:=by
 rw[zda,zfv,z6e];simp[qkl h]
theorem qla {s:BS} (h:s≠0#256):zmy (brT s)=true:=by rw[zmy,qie h,Bool.or_true]
theorem qex {s:BS} (h:s≠0#256):zde (brT s) 1 1=brT s:=by
 unfold zde;rw[qla h];rfl
theorem z9l (s:List UInt8)(k:Int)(h:(s.length:Int)<=k)(q:Stk):zee (Rd.mk s k 0 q)=some (0,Rd.mk s k 0 q):=by
 unfold zee;rw[show((Rd.mk s k 0 q).e !=0)=false from rfl,cond_false,show decide ((Rd.mk s k 0 q).a>=(length (Rd.mk s k 0 q).s:Int))=true by simpa using h,cond_true]
theorem zns {β ρ:Type} {body:β->Option (β ⊕ ρ)} {s:β} {y:ρ} (n:Nat)(h:body s=some (.inr y)):zax body (n+1) s=some y:=by rw[zax,h]
variable {n:Nat}
def CT (t:Tr):Prop:=CR t/\ (pre t).length<=10000
theorem CT.clean {t:Tr} (h:CT t):zda t=true:=by
 rw[zda,zfv,and_eq_true];exact⟨by simpa using h.2,h.1⟩
theorem CT.checked {t:Tr} (h:CT t):zdb t=t:=by rw[zdb,if_pos h.clean]
theorem CT.good {t:Tr} (h:CT t):zmy t=true:=by rw[zmy,h.clean,Bool.or_true]
theorem CT.sub {t x:Tr} (h:CT t)(hx:x∈t.l):CT x:=by
 refine⟨(zmv _).1 ((zjc t).1 h.1).2 x hx,?_⟩;have h1:=zcr hx;have h2:=zii t;have:=h.2;omega
theorem CT.right {t:Tr} (h:CT t):zcn t=true:=((zjc t).1 h.1).1
theorem CT.k0 {t:Tr} (h:CT t):t.k≠0:=by rcases zvi h.right with h|h|h|h|h|h<;>omega
theorem zgx {t:Tr} (h:zcn t=true)(h2:t.k≠2)(h5:t.k≠5):t= .mk t.k 0#256 0 0 t.l:=by
 obtain⟨k,s,mn,mx,l⟩:=t;simp only[Tr.k,Tr.l] at*;rw[zco,zis] at h;simp only[and_eq_true,Bool.not_eq_true',Bool.or_eq_false_iff,Bool.and_eq_false_iff] at h;have e2:((k:Int) !=2)=true:=by simp;omega
 have e5:((k:Int) !=5)=true:=by simp;omega
 obtain⟨⟨⟨a,b⟩,_⟩,_⟩:=h;rw[e2] at a;rw[e5] at b;have a':s=0#256:=by simpa using a
 have b':mn=0/\ mx=0:=by simpa using b
 obtain⟨rfl,rfl⟩:=b';subst a';rfl
theorem zjn {α β:Type} {f g:α->List β}: ∀ {l:List α},(∀x∈l,f x=g x)->l.flatMap f=l.flatMap g
 |[],_=>rfl
 |x::l,h=>by rw[List.flatMap_cons,List.flatMap_cons,h x (by simp),zjn fun y hy=>h y (by simp[hy])]
theorem kb {t:Tr} (h:t.k=n):((t.k:Int)==(n:Int))=true:=by rw[h];simp
theorem kbf {t:Tr} (h:t.k≠n):((t.k:Int)==(n:Int))=false:=beq_eq_false_iff_ne.2 (by omega)
theorem z7e {t:Tr} (h:CT t):zny [t]=t:=by
 unfold zny;have hk:=h.k0;rw[if_neg (by simp[h.clean];omega)];have hr:=h.right;by_cases h3:t.k=3
 ·obtain⟨q1,_⟩:=zlb hr h3;have e:zer 3 1 [t]=t.l:=by unfold zer;rw[List.flatMap_cons,kb h3,cond_true];simp
  rw[e,zjt,show((t.l.length:Int)==0)=false from beq_eq_false_iff_ne.2 (by omega),cond_false,show((t.l.length:Int)==1)=false from beq_eq_false_iff_ne.2 (by omega),cond_false];have e2:=zgx hr (by omega) (by omega);rw[h3] at e2;rw[<-e2,h.checked]
 ·by_cases h1:t.k=1
  ·have e:zer 3 1 [t]=[]:=by unfold zer;rw[List.flatMap_cons,kbf h3,cond_false,kb h1,cond_true];simp
   rw[e];have e2:=zgx hr (by omega) (by omega);have hl:t.l=[]:=by
    obtain⟨k,s,mn,mx,l⟩:=t;simp only[Tr.k,Tr.l] at*;subst h1;rw[zco,zis] at hr;simp only[and_eq_true,Bool.not_eq_true',Bool.or_eq_false_iff] at hr;have:=hr.1.2;simp at this;exact this
   rw[e2,h1,hl];rfl
  ·have e:zer 3 1 [t]=[t]:=by unfold zer;rw[List.flatMap_cons,kbf h3,cond_false,kbf h1,cond_false];simp
   rw[e];show zdb t=t;exact h.checked
def z3v (t:Tr):List Tr:=if t.k=1 then[] else if t.k=3 then t.l else[t]
def zjq (t:Tr):List Tr:=if t.k=4 then t.l else[t]
theorem qeh {t:Tr} (h:zcn t=true)(h1:t.k=1):t=emptyT:=by
 have e2:=zgx h (by omega) (by omega);have hl:t.l=[]:=by
  obtain⟨k,s,mn,mx,l⟩:=t;simp only[Tr.k,Tr.l] at*;subst h1;rw[zco,zis] at h;simp only[and_eq_true,Bool.not_eq_true',Bool.or_eq_false_iff] at h;have:=h.1.2;simp at this;exact this
 rw[e2,h1,hl];rfl
theorem seq_pcs {t:Tr} (h:CT t):zny (z3v t)=t:=by
 unfold z3v;have hr:=h.right;by_cases h1:t.k=1
 ·rw[if_pos h1,qeh hr h1];rfl
 ·rw [if_neg h1];by_cases h3:t.k=3
  ·rw [if_pos h3];obtain⟨q1,q2⟩:=zlb hr h3;unfold zny;rw[if_neg (by
    simp only[List.any_eq_true,Bool.or_eq_true,not_exists,not_and,not_or];intro x hx;have hc:=h.sub hx;refine⟨by have:=hc.k0;simp;omega,by rw[hc.clean];simp⟩)]
   have e:zer 3 1 t.l=t.l:=by
    unfold zer;rw[show t.l.flatMap (fun x=>bif (x.k:Int)==(3:Nat) then x.l else bif (x.k:Int)==(1:Nat) then[] else[x])=t.l.flatMap (fun x=>[x]) from zjn fun x hx=>by
     have:=q2 x hx;rw[kbf this.2,cond_false,kbf this.1,cond_false]]
    simp
   rw[e,zjt,show((t.l.length:Int)==0)=false from beq_eq_false_iff_ne.2 (by omega),cond_false,show((t.l.length:Int)==1)=false from beq_eq_false_iff_ne.2 (by omega),cond_false];have e2:=zgx hr (by omega) (by omega);rw[h3] at e2;rw[<-e2,h.checked]
  ·rw[if_neg h3];exact z7e h
theorem z6c {t:Tr} (h:CT t):orT (zjq t)=t:=by
 unfold zjq;have hr:=h.right;by_cases h4:t.k=4
 ·rw [if_pos h4];obtain⟨q1,q2⟩:=zhz hr h4;unfold orT;rw[if_neg (by
   simp only[List.any_eq_true,not_exists,not_and];intro x hx;rw[(h.sub hx).good];simp)]
  have e:zer 4 0 t.l=t.l:=by
   unfold zer;rw[show t.l.flatMap (fun x=>bif (x.k:Int)==(4:Nat) then x.l else bif (x.k:Int)==(0:Nat) then[] else[x])=t.l.flatMap (fun x=>[x]) from zjn fun x hx=>by
    rw[kbf (q2 x hx),cond_false,kbf (h.sub hx).k0,cond_false]]
   simp
  rw[e,zjt,show((t.l.length:Int)==0)=false from beq_eq_false_iff_ne.2 (by omega),cond_false,show((t.l.length:Int)==1)=false from beq_eq_false_iff_ne.2 (by omega),cond_false];have e2:=zgx hr (by omega) (by omega);rw[h4] at e2;rw[<-e2,h.checked]
 ·rw[if_neg h4];unfold orT;rw[if_neg (by simp[h.good])];have hk:=h.k0;have e:zer 4 0 [t]=[t]:=by unfold zer;rw[List.flatMap_cons,kbf h4,cond_false,kbf hk,cond_false];simp
  rw[e];show zdb t=t;exact h.checked
theorem z1q {t:Tr} (h:CT t):zde t 1 1=t:=by
 unfold zde;have hk:=h.k0
 rw[h.good,show(!true||(!(((1:Int)==0)&&((1:Int)==0))&& !(((1:Int)==1)&&((1:Int)==1))&& !zei 1 1))=false from rfl,cond_false,
  show((t.k:Int)==0&&decide ((1:Int)>0))=false by rw[show((t.k:Int)==0)=false from kbf hk];rfl,cond_false]
 by_cases h1:t.k=1
 ·rw[show(((1:Int)==0&&(1:Int)==0)||(t.k:Int)==0||(t.k:Int)==1)=true by simp[h1],cond_true,qeh h.right h1]
 ·rw[show(((1:Int)==0&&(1:Int)==0)||(t.k:Int)==0||(t.k:Int)==1)=false by rw[show((t.k:Int)==0)=false from kbf hk,show((t.k:Int)==1)=false from kbf h1];rfl,cond_false];rfl
theorem cap_one {t:Tr} (h:CT (.mk 6 0#256 0 0 [t])):zhw t= .mk 6 0#256 0 0 [t]:=h.checked
theorem qpl {x:Tr} {mn mx:Int} (h:CT (.mk 5 0#256 mn mx [x])):zde x mn mx= .mk 5 0#256 mn mx [x]:=by
 have hx:CT x:=h.sub (by simp[Tr.l]);have hk:=hx.k0;have hr:=h.right;rw[zco] at hr;simp only[and_eq_true,Bool.not_eq_true'] at hr;have h2:=hr.2;simp only[show((((5:Nat):Int))==1)=false from rfl,show((((5:Nat):Int))==2)=false from rfl,show((((5:Nat):Int))==3)=false from rfl,show((((5:Nat):Int))==4)=false from rfl,show((((5:Nat):Int))==5)=true from rfl,cond_false,cond_true,and_eq_true,Bool.not_eq_true',decide_eq_true_eq] at h2;have hb:=h2.1.2;have h1:x.k≠1:=zfx.1 h2.2 x (by simp[Tr.l]);have hb':=hb;unfold zei at hb';simp only[and_eq_true,Bool.not_eq_true',Bool.or_eq_false_iff,Bool.or_eq_true,decide_eq_true_eq,decide_eq_false_iff_not,Bool.and_eq_false_iff] at hb';unfold zde
 rw[hx.good,hb,show(!true||(!(mn==0&&mx==0)&& !(mn==1&&mx==1)&& !true))=false by simp,cond_false,show((x.k:Int)==0&&decide (mn>0))=false by simp;omega,cond_false,
  show((mn==0&&mx==0)||(x.k:Int)==0||(x.k:Int)==1)=false by simp;omega,cond_false,
  show(mn==1&&mx==1)=false by simp;omega,cond_false]
 exact h.checked
def z3c (b:List UInt8):Prop:= ∀c t,b=c::t->c≠42/\ c≠43/\ c≠63/\ c≠123
def StopP (b:List UInt8):Prop:=b=[] \/ ∃t,b=41::t \/b=124::t
theorem StopP.noCnt {b:List UInt8} (h:StopP b):z3c b:=by
 rintro c t rfl;rcases h with h|⟨t',h|h⟩
 ·cases h
 ·cases h;decide
 ·cases h;decide
theorem zvp (a:List UInt8)(c:UInt8)(b:List UInt8):ix (a++c::b) ((a.length:Nat):Int)=c:=qds a b c
theorem zmi (a b:List UInt8):sub (a++b) ((a.length:Nat):Int) (length (a++b):Int)=b:=by rw[zot];simp
theorem z8h (a:List UInt8)(c:UInt8)(b:List UInt8)(q:Stk):zee (Rd.mk (a++c::b) ((a.length:Nat):Int) 0 q)=some ((c.toNat:Int),Rd.mk (a++c::b) ((a.length:Nat):Int) 0 q):=by
 unfold zee;have hl:(a++c::b).length=a.length+b.length+1:=by simp only[length_append,length_cons];omega
 rw[show((Rd.mk (a++c::b) ((a.length:Nat):Int) 0 q).e !=0)=false from rfl,cond_false,show decide ((Rd.mk (a++c::b) ((a.length:Nat):Int) 0 q).a>=(length (Rd.mk (a++c::b) ((a.length:Nat):Int) 0 q).s:Int))=false from decide_eq_false (by simp only;omega),cond_false];refine zf (by simp only;omega) (zm fun x hx=> ?_);simp only at hx;rw[zvp] at hx;subst hx;rfl
theorem qoo (a:List UInt8)(q:Stk):zee (Rd.mk a ((a.length:Nat):Int) 0 q)=some (0,Rd.mk a ((a.length:Nat):Int) 0 q):=z9l a _ (Int.le_refl _) q
theorem zix (t:Tr):(pre (zdb t)).length<=10000:=by
 unfold zdb;split
 ·rename_i h;exact zfg h
 ·simp[zaw,pre,zbj]
theorem znj (t:Tr)(h:(pre t).length<=10000)(lo hi:Int):(pre (zde t lo hi)).length<=10000:=by
 unfold zde;cases (!zmy t||(!(lo==0&&hi==0)&& !(lo==1&&hi==1)&& !zei lo hi)) with
 |true=>simp[zaw,pre,zbj]
 | false=>
  rw[cond_false];cases ((t.k:Int)==0&&decide (lo>0)) with
  |true=>simp[zaw,pre,zbj]
  | false=>
   rw[cond_false];cases ((lo==0&&hi==0)||(t.k:Int)==0||(t.k:Int)==1) with
   |true=>simp[emptyT,pre,zbj]
   | false=>
    rw[cond_false];cases (lo==1&&hi==1) with
    |true=>exact h
    |false=>exact zix _
theorem zxf (k:Nat)(l:List Tr)(d:Tr)(h:(pre d).length<=10000):(pre (zjt k l d)).length<=10000:=by
 unfold zjt;cases ((l.length:Int)==0) with
 |true=>exact h
 | false=>
  rw[cond_false];cases ((l.length:Int)==1) with
  |true=>exact zix _
  |false=>exact zix _
theorem qih (l:List Tr):(pre (zny l)).length<=10000:=by
 unfold zny;split
 ·simp[zaw,pre,zbj]
 ·exact zxf _ _ _ (by simp[emptyT,pre,zbj])
theorem z4d (l:List Tr):(pre (orT l)).length<=10000:=by
 unfold orT;split
 ·simp[zaw,pre,zbj]
 ·exact zxf _ _ _ (by simp[zaw,pre,zbj])
theorem zkd: ∀l:List Tr,(∀x∈l,(pre x).length<=10000)->(zbj l).length<=10000*l.length
 |[],_=>by simp[zbj]
 | x::l,h=>by
  have h1:=h x (by simp);have h2:=zkd l fun y hy=>h y (by simp[hy]);simp only[zbj,length_append,length_cons];omega
structure AtP (n:Nat)(u:List UInt8)(x:Tr):Prop where
 hd: ∃c t,u=c::t/\ (c=40 \/c=91)
 len:(pre x).length<=10000
 run: ∀(a b:List UInt8) (q:Stk),(a++u++b).length<2^39->(zcv q).length+n<2^39->z3c b-> ∃y r1 q',zhd 1100 (zfm (z0v 1100 n)) (Rd.mk (a++u++b) ((a.length:Nat):Int) 0 q)=some (y,r1)/\ zdg 1100 y r1=some (x,Rd.mk (a++u++b) (((a++u).length:Nat):Int) 0 q')/\ zcv q'=zcv q
abbrev Pcs:=List (List UInt8×Tr)
def zbr (L:Pcs):List UInt8:=L.flatMap (·.1)
def zqt (L:Pcs):List Tr:=L.map (·.2)
theorem zkq (p:List UInt8×Tr)(L:Pcs):zbr (p::L)=p.1++zbr L:=by simp[zbr]
theorem qpe {n:Nat} {L:Pcs} {b:List UInt8} (hL: ∀p∈L,AtP n p.1 p.2)(hb:StopP b):z3c (zbr L++b):=by
 cases L with
 |nil=>exact hb.noCnt
 | cons p L=>
  obtain⟨c,t,hc,hc'⟩:=(hL p (by simp)).hd;intro c' t' e;rw[zkq,hc] at e;simp only[cons_append,append_assoc,List.cons.injEq] at e;obtain⟨rfl,_⟩:=e;rcases hc' with rfl|rfl<;>decide
def hd0:List UInt8->Int
 |[]=>0
 |c::_=>((c.toNat:Nat):Int)
def zsa (n:Nat):Int×Rd×List Tr->Option ((Int×Rd×List Tr) ⊕ (List Tr×Rd)):=
 fun s1=>bif (s1.1 !=0) then(bif (s1.1 !=124) then(bif (s1.1 !=41) then zag ((zhd 1100 (zfm (z0v 1100 n))) s1.2.1) (fun x2=>zag (zdg 1100 x2.1 x2.2) (fun x3=>zag (zee x3.2) (fun x4=>some (inl (x4.1,x4.2,s1.2.2++[x3.1]))))) else some (inr (s1.2.2,s1.2.1))) else some (inr (s1.2.2,s1.2.1))) else some (inr (s1.2.2,s1.2.1))
theorem zno (a b:List UInt8)(q:Stk):zee (Rd.mk (a++b) ((a.length:Nat):Int) 0 q)=some ((hd0 (b)),Rd.mk (a++b) ((a.length:Nat):Int) 0 q):=by
 cases b with
 |nil=>rw[append_nil];exact qoo a q
 |cons c b=>exact z8h a c b q
theorem qec (n:Nat)(b:List UInt8)(hb:StopP b): ∀(L:Pcs) (a:List UInt8) (q:Stk) (acc:List Tr) (fuel:Nat),(∀p∈L,AtP n p.1 p.2)->(a++zbr L++b).length<2^39->(zcv q).length+n<2^39->L.length<fuel->
 ∃q',zax (zsa n) fuel ((hd0 (zbr L++b)),Rd.mk (a++zbr L++b) ((a.length:Nat):Int) 0 q,acc)=some (acc++zqt L,Rd.mk (a++zbr L++b) (((a++zbr L).length:Nat):Int) 0 q')/\ zcv q'=zcv q
 |_,_,_,_,0,_,_,_,hf=>absurd hf (not_lt_zero _)
 | [],a,q,acc,fuel+1,hL,hlen,hq,hf=>by
  refine⟨q,?_,rfl⟩;rw[zax];have:zsa n ((hd0 (zbr []++b)),Rd.mk (a++zbr []++b) ((a.length:Nat):Int) 0 q,acc)=some (.inr (acc,Rd.mk (a++zbr []++b) ((a.length:Nat):Int) 0 q)):=by
   unfold zsa;rcases hb with rfl|⟨t,rfl|rfl⟩<;>rfl
  rw[this];simp[zqt,zbr]
 | p ::L,a,q,acc,fuel+1,hL,hlen,hq,hf=>by
  have hp:=hL p (by simp);obtain⟨c,t,hc,hc'⟩:=hp.hd;have e1:a++zbr (p::L)++b=a++p.1++(zbr L++b):=by rw[zkq];simp
  rw[e1] at hlen⊢;obtain⟨y,r1,q1,h1,h2,h3⟩:=hp.run a (zbr L++b) q hlen hq (qpe (fun p hp=>hL p (by simp[hp])) hb);have e3:a++p.1++zbr L++b=a++p.1++(zbr L++b):=by simp
  obtain⟨q',g1,g2⟩:=qec n b hb L (a++p.1) q1 (acc++[p.2]) fuel (fun p hp=>hL p (by simp[hp])) (by rw[e3];exact hlen) (by rw[h3];exact hq) (by simp only[length_cons] at hf;omega);refine⟨q',?_,g2.trans h3⟩;rw[zax];have:zsa n ((hd0 (zbr (p::L)++b)),Rd.mk (a++p.1++(zbr L++b)) ((a.length:Nat):Int) 0 q,acc)=some (.inl ((hd0 (zbr L++b)),Rd.mk (a++p.1++(zbr L++b)) (((a++p.1).length:Nat):Int) 0 q1,acc++[p.2])):=by
   have e2:(hd0 (zbr (p::L)++b))=((c.toNat:Nat):Int):=by rw[zkq,hc];rfl
   rw[e2];have key: ∀c:UInt8,(c=40 \/c=91)->(((c.toNat:Nat):Int) !=0)=true/\ (((c.toNat:Nat):Int) !=124)=true/\ (((c.toNat:Nat):Int) !=41)=true:=by
    rintro c (rfl|rfl)<;>exact⟨rfl,rfl,rfl⟩
   obtain⟨k1,k2,k3⟩:=key c hc';unfold zsa;simp only;rw[k1,cond_true,k2,cond_true,k3,cond_true];refine zaa _ h1 ?_;simp only;refine zaa _ h2 ?_;simp only;refine zaa _ (zno (a++p.1) (zbr L++b) q1) ?_;rfl
  rw[this];simp only;rw[e3] at g1;rw[g1];rw[show acc++[p.2]++zqt L=acc++zqt (p::L) by simp[zqt],show a++p.1++zbr L=a++zbr (p::L) by rw[zkq];simp]
theorem qqb (n:Nat)(L:Pcs)(a b:List UInt8)(q:Stk)(hb:StopP b)(hL: ∀p∈L,AtP n p.1 p.2)(hlen:(a++zbr L++b).length<2^39)(hq:(zcv q).length+n<2^39)(hf:L.length<1100):
 ∃q',zyh 1100 (zhd 1100 (zfm (z0v 1100 n))) (Rd.mk (a++zbr L++b) ((a.length:Nat):Int) 0 q)=some (zqt L,Rd.mk (a++zbr L++b) (((a++zbr L).length:Nat):Int) 0 q')/\ zcv q'=zcv q:=by
 obtain⟨q',h1,h2⟩:=qec n b hb L a q [] 1100 hL hlen hq hf;refine⟨q',?_,h2⟩;have e:a++zbr L++b=a++(zbr L++b):=by simp
 unfold zyh;refine zaa _ (by rw[e];exact zno a (zbr L++b) q) ?_;rw[nil_append,e] at h1;rw[e];exact h1
variable {P:Program} {n:Nat}
structure Ar where
 f:Nat->Int
def qri (x:Int):AV:= .raw (.int .i64 x)
def arL (a:Ar):List Int:=(List.range 256).map a.f
def zfw (a:Ar):List AV:=(arL a).map qri
theorem qgq (a:Ar):(arL a).length=256:=by simp[arL]
theorem arL_get (a:Ar)(i:Nat)(h:i<256):(arL a)[i]? =some (a.f i):=by simp[arL,h]
theorem z9v (l:List Int):cloL (l.map qri)=true:=by
 induction l with
 |nil=>rfl
 |cons x l ih=>rw[map_cons,cloL,ih];rfl
instance:Enc Ar where
 inh:=⟨fun _=>0⟩
 cells:=zfw
 cellsL l:=l.flatMap zfw
 sz:=256
 pos:=by decide
 nil:=rfl
 cons _ _:=rfl
 len a:=by simp[zfw,arL]
 clo a:=z9v _
def zeroA:Ar:=⟨fun _=>0⟩
def wrA (a:Ar)(i v:Int):Ar:=⟨fun k=>if k=i.toNat then v else a.f k⟩
def eqA (a b:Ar):Bool:=decide (arL a=arL b)
theorem zwq (a:Ar)(i:Nat)(h:i<256):(zfw a)[i]? =some (qri (a.f i)):=by simp[zfw,arL,h]
theorem qjz (a:Ar)(i v:Int)(h:0<=i/\ i<256):zfw (wrA a i v)=(zfw a).set i.toNat (qri v):=by
 apply List.ext_getElem?;intro k;rcases lt_or_ge k 256 with hk|hk
 ·rw[zwq _ _ hk];by_cases e:i.toNat=k
  ·subst e;rw[List.getElem?_set_self (by simp[zfw,arL];omega)];simp[wrA]
  ·rw[List.getElem?_set_ne e,zwq _ _ hk];simp[wrA,Ne.symm e]
 ·rw[List.getElem?_eq_none (by simp[zfw,arL];omega),List.getElem?_eq_none (by simp[zfw,arL];omega)]
section
variable {ρ:Operand->AV} {U:St} {o:Oper}
theorem qhg:zcp prog 76=some 256:=by kernel_rfl
theorem size102:zcp prog 75=some 256:=by kernel_rfl
theorem qmh:zcp prog 3=some 1:=by kernel_rfl
theorem und3:prog.underlying 3=some (.int .i64):=by kernel_rfl
theorem qjb:prog.underlying 76=some (.array 256 3):=by kernel_rfl
theorem und102:prog.underlying 75=some (.array 256 3):=by kernel_rfl
theorem qqy {t:TypeId} {cs:List AV} {k:Nat} {e:TypeId} (hu:P.underlying t=some (.array k e))(hs:zcp P t=some n)(hl:cs.length=n):rd P t cs=some (.agg cs):=by
 unfold zcp at hs;cases hi:P.info? t with
 |none=>simp[hi] at hs
 | some i=>
  simp only[hi,map_some,Option.some.injEq] at hs;subst hs;simp only[rd,hu,hi,hl,le_refl,if_true,take_of_length_le]
theorem z5p {t:TypeId} {k:IntKind} {cs:List AV} (hu:P.underlying t=some (.int k))(hs:zcp P t=some n):rd P t cs=cs.head? :=by
 unfold zcp at hs;cases hi:P.info? t with
 |none=>simp[hi] at hs
 |some i=>simp[rd,hu,hi]
theorem qgw {t:TypeId} {x:Operand} {b:Nat} {tt:TypeId} (a:Ar)(ht:t=76 \/t=75)(ho:o.op= .load t x)(hx:ρ x= .ptr b 0)(hb:U.boxes[b]? =some (tt,Enc.cells a)):qop prog ρ U o=some (.agg (Enc.cells a)):=by
 have key:rd prog t ((Enc.cells a).drop 0)=some (.agg (Enc.cells a)):=by
  rw[List.drop_zero];rcases ht with rfl|rfl
  ·exact qqy qjb qhg (Enc.len a)
  ·exact qqy und102 size102 (Enc.len a)
 simp only[qop,ho,zlv,hx,hb,key]
theorem qhu {x y:Operand} {b:Nat} {tt:TypeId} {i v:Int} (a:Ar)(h:0<=i/\ i<256)(ho:o.op= .store 3 x y)(hx:ρ x= .ptr b (0+i.toNat*1))(hy:ρ y= .raw (.int .i64 v))(hb:U.boxes[b]? =some (tt,Enc.cells a)):
 aop prog ρ U o=some (.raw undef,{U with boxes:=U.boxes.set b (tt,Enc.cells (wrA a i v))}):=by
 have hl:(Enc.cells a).length=256:=Enc.len a;rw[zct (n:=1) ho hx hy hb qmh ⟨rfl,rfl,by simp only[hl];omega,by decide⟩];have e:(Enc.cells a).take (0+i.toNat*1)++cellsOf (.raw (.int .i64 v))++(Enc.cells a).drop (0+i.toNat*1+1)=Enc.cells (wrA a i v):=by
  show _=zfw (wrA a i v);rw[qjz _ _ _ h,List.set_eq_take_append_cons_drop,if_pos (by rw[show(zfw a).length=256 from Enc.len a];omega)];simp only[zero_add,Nat.mul_one,append_assoc,cellsOf,List.singleton_append];rfl
 simp only[e]
def zv57:Value:= .agg ((List.range 256).map fun _=>Value.int .i64 0).toArray
theorem zero103:zio prog 76=some zv57:=by kernel_rfl
theorem zero102:zio prog 75=some zv57:=by kernel_rfl
theorem zxc:cellsOf (zja zv57)=Enc.cells zeroA:=by kernel_rfl
theorem zvh {t:TypeId} {z:Value} (hz:zio P t=some z):zsl P U t=some (.ptr U.boxes.length 0,{U with boxes:=U.boxes++[(t,cellsOf (zja z))]}):=by
 unfold zio at hz;unfold zsl;cases hi:P.info? t with
 |none=>simp[hi] at hz
 | some i=>
  simp only[hi] at hz⊢;cases hzz:i.zero with
  |none=>simp[hzz] at hz
  | some z'=>
   simp only[hzz] at hz⊢;split at hz
   ·rename_i hk;cases hz;rw[if_pos hk.1,aBox,if_pos hk.2]
   ·cases hz
theorem z1d {t:TypeId} (ht:t=76 \/t=75)(ho:o.op= .alloc t):aop prog ρ U o=some (.ptr U.boxes.length 0,{U with boxes:=U.boxes++[(t,Enc.cells zeroA)]}):=by
 have h:zsl prog U t=some (.ptr U.boxes.length 0,{U with boxes:=U.boxes++[(t,Enc.cells zeroA)]}):=by
  rcases ht with rfl|rfl
  ·rw[zvh zero103,zxc]
  ·rw[zvh zero102,zxc]
 simp only[aop,qop,ho,h]
end
theorem zyr (w:World)(d:Nat)(a b:Int):(Op.equalIn (d+1) 3 (.int .i64 a) (.int .i64 b)).run prog w= .ok (a==b) w:=run_equalIn_int w d 3 .i64 .i64 a b und3
theorem zrj (l:List Int):zdv (.agg (l.map qri))=some (.agg (l.map (Value.int .i64)).toArray):=by
 have:zeg (l.map qri)=some (l.map (Value.int .i64)):=by
  induction l with
  |nil=>rfl
  |cons x l ih=>rw[map_cons,zeg,ih];rfl
 simp[zdv,this]
theorem qas (w:World):(isAgg 3).run prog w= .ok false w:=by kernel_rfl
theorem qkn (w:World):(sizeOf 3).run prog w= .ok 1 w:=by kernel_rfl
theorem eqIn103 (d:Nat)(xs ys:List Int)(hx:xs.length=256)(hy:ys.length=256)(w:World):
 (Op.equalIn (d+1+1) 76 (.agg (xs.map (Value.int .i64)).toArray) (.agg (ys.map (Value.int .i64)).toArray)).run prog w= .ok (decide (xs=ys)) w:=by
 rw[Op.equalIn];simp only[Sem.run_bind,run_underlying qjb,Result.andThen_ok,qkn];simp only[Std.Legacy.Range.forIn_eq_forIn_range',Std.Legacy.Range.size,Nat.sub_zero,Nat.add_sub_cancel,Nat.div_one]
 have key: ∀n s,s+n=256->(Sem.run prog
  (forIn (List.range' s n) (none,()) fun i (__s:Option Bool×Unit)=>do
   let __do_lift<-part 3 (List.map (Value.int IntKind.i64) xs).toArray (i*1)
   let __do_lift_1<-part 3 (List.map (Value.int IntKind.i64) ys).toArray (i*1)
   let __do_lift<-Op.equalIn (d+1) 3 __do_lift __do_lift_1
   if(!__do_lift)=true then pure (ForInStep.done (some false,())) else pure (ForInStep.yield (none,()))) w)= .ok (if xs.drop s=ys.drop s then(none,()) else(some false,())) w:=by
  intro n;induction n with
  | zero=>
   intro s hs;rw[if_pos (by rw[List.drop_of_length_le (by omega),List.drop_of_length_le (by omega)])];simp[Sem.run_pure]
  | succ n ih=>
   intro s hs;have h1:s<xs.length:=by omega
   have h2:s<ys.length:=by omega
   have ih:=ih (s+1) (by omega);rw[List.range'_succ,List.forIn_cons];rw[List.drop_eq_getElem_cons h1,List.drop_eq_getElem_cons h2];have hp: ∀(zs:List Int) (hz:s<zs.length) (w:World),(part 3 (List.map (Value.int IntKind.i64) zs).toArray (s*1)).run prog w= .ok (.int .i64 zs[s]) w:=fun zs hz w=>by
    simp only[part,Sem.run_bind,qas,Result.andThen_ok,Nat.mul_one,List.getElem?_toArray,List.getElem?_map,getElem?_eq_getElem hz,map_some,if_false,Bool.false_eq_true,Sem.run_pure]
   simp only[Sem.run_bind,hp xs h1,hp ys h2,Result.andThen_ok,Bool.false_eq_true,Sem.run_pure,zyr];by_cases e:xs[s]=ys[s]
   ·simp only[e,beq_self_eq_true,Bool.not_true,Bool.false_eq_true,if_false,Sem.run_pure,Result.andThen_ok,List.cons.injEq,true_and];exact ih
   ·have:(xs[s]==ys[s])=false:=by simp[e]
    simp only[this,Bool.not_false,if_true,Sem.run_pure,Result.andThen_ok,List.cons.injEq,e,false_and,if_false]
 have h:=key 256 0 rfl;simp only[List.drop_zero] at h;rw[h];by_cases e:xs=ys
 ·simp[e,Result.andThen,Sem.run_pure]
 ·simp[e,Result.andThen,Sem.run_pure]
theorem qpn:prog.eqGuardType prog.depth 76=false:=by kernel_rfl
variable {P:Program} {n:Nat}
structure RT where
 t:Tr
def zgg (s:BS):Ar:=⟨fun i=>if s.getLsbD i=true then 1 else 0⟩
def hcells (t:Tr):List AV:= .raw (.int .i64 t.k)::(zfw (zgg t.s)++[.raw (.int .i64 t.mn),.raw (.int .i64 t.mx)])
mutual
def rtc:Tr->List AV
 | .mk k s mn mx l=>hcells (.mk k s mn mx [])++[.list l.length (qki l) .none]
def qki:List Tr->List AV
 |[]=>[]
 |x::l=>rtc x++qki l
end
theorem znm (t:Tr):(hcells t).length=259:=by simp[hcells,zfw,arL]
theorem qpp (t:Tr):rtc t=hcells t++[.list t.l.length (qki t.l) .none]:=by obtain⟨k,s,mn,mx,l⟩:=t;rw[rtc];rfl
theorem rtc_len (t:Tr):(rtc t).length=260:=by rw[qpp,length_append,znm];rfl
theorem zrk (t:Tr):cloL (hcells t)=true:=by
 unfold hcells;rw[cloL,zek];rw[show cloL (zfw (zgg t.s))=true from z9v _];rfl
mutual
theorem qjj: ∀t:Tr,cloL (rtc t)=true
 | .mk k s mn mx l=>by
  rw[rtc,zek,zrk,cloL,clo,z8p l];rfl
theorem z8p: ∀l:List Tr,cloL (qki l)=true
 |[]=>by rw[qki];rfl
 |x::l=>by rw[qki,zek,qjj x,z8p l];rfl
end
instance:Enc RT:=⟨⟨zaw⟩,fun r=>rtc r.t,fun l=>qki (l.map RT.t),260,by decide,rfl,fun _ _=>by rw[map_cons,qki],fun r=>rtc_len r.t,fun r=>qjj r.t⟩
def rtX (t:Tr)(a:AV):List AV:=hcells t++[a]
theorem zrn (t:Tr)(a:AV):(rtX t a).length=260:=by rw[rtX,length_append,znm];rfl
theorem znr (r:RT):Enc.cells r=rtX r.t (.list r.t.l.length (qki r.t.l) .none):=qpp r.t
theorem isStr {d:Option TypeDesc} (h:(match d with|some (.struct _)=>true|_=>false)=true): ∃fs,d=some (.struct fs):=by
 match d,h with
 |some (.struct fs),_=>exact⟨fs,rfl⟩
theorem und106: ∃fs,prog.underlying 79=some (.struct fs):=isStr (by kernel_rfl)
theorem z4y:zcp prog 79=some 260:=by kernel_rfl
theorem und104:prog.underlying 77=some (.slice 79):=by kernel_rfl
section
variable {ρ:Operand->AV} {U:St} {o:Oper}
theorem qiz {t:TypeId} {cs:List AV} {fs} (hu:P.underlying t=some (.struct fs))(hs:zcp P t=some n)(hl:n<=cs.length):rd P t cs=some (.agg (cs.take n)):=by
 unfold zcp at hs;cases hi:P.info? t with
 |none=>simp[hi] at hs
 | some i=>
  simp only[hi,map_some,Option.some.injEq] at hs;subst hs;simp only[rd,hu,hi,hl,if_true]
theorem rd_rt (cs rest:List AV)(hl:cs.length=260):rd prog 79 (cs++rest)=some (.agg cs):=by
 obtain⟨fs,hu⟩:=und106;rw[qiz hu z4y (by rw[length_append];omega),List.take_append_of_le_length (by omega),take_of_length_le (by omega)]
theorem qow {t:TypeId} {cs:List AV} (hs:zcp P t=some n)(h1: ∃d,P.underlying t=some d/\ (∀fs,d≠ .struct fs)/\ ∀k e,d≠ .array k e):rd P t cs=cs.head? :=by
 obtain⟨d,hd,h2,h3⟩:=h1;unfold zcp at hs;cases hi:P.info? t with
 |none=>simp[hi] at hs
 | some i=>
  cases d with
  |struct fs=>exact absurd rfl (h2 fs)
  |array k e=>exact absurd rfl (h3 k e)
  |_=>simp only[rd,hd,hi]
theorem qnl {x:Operand} {b:Nat} {tt:TypeId} {cs:List AV} (hl:cs.length=260)(ho:o.op= .load 79 x)(hx:ρ x= .ptr b 0)(hb:U.boxes[b]? =some (tt,cs)):qop prog ρ U o=some (.agg cs):=by
 have:=rd_rt cs [] hl;rw[append_nil] at this;simp only[qop,ho,zlv,hx,hb,List.drop_zero,this]
theorem z3t {x:Operand} {rest:List AV} (r:RT)(ho:o.op= .load 79 x)(hx:ρ x= .iptr (Enc.cells r++rest)):qop prog ρ U o=some (.agg (Enc.cells r)):=by
 simp only[qop,ho,zlv,hx,rd_rt _ rest (Enc.len r)]
theorem qio {x:Operand} {b:Nat} {tt:TypeId} (t:Tr) {a:AV} (ho:o.op= .load 3 x)(hx:ρ x= .ptr b 0)(hb:U.boxes[b]? =some (tt,rtX t a)):qop prog ρ U o=some (.raw (.int .i64 t.k)):=by
 simp only[qop,ho,zlv,hx,hb,List.drop_zero,z5p und3 qmh];rfl
theorem qoq (t:Tr)(a:AV):(rtX t a).drop 257=[.raw (.int .i64 t.mn),.raw (.int .i64 t.mx),a]:=by
 have h:(zfw (zgg t.s)).length=256:=by simp[zfw,arL]
 rw[rtX,hcells,cons_append,append_assoc,List.drop_succ_cons,List.drop_append,List.drop_of_length_le (by omega),h];rfl
theorem zuc (t:Tr)(a:AV)(j:Nat):(rtX t a).drop (257+j)=[AV.raw (.int .i64 t.mn),.raw (.int .i64 t.mx),a].drop j:=by rw[<-qoq t a,List.drop_drop]
theorem qip {x:Operand} {b:Nat} {tt:TypeId} (t:Tr) {a:AV} (ho:o.op= .load 3 x)(hx:ρ x= .ptr b 257)(hb:U.boxes[b]? =some (tt,rtX t a)):qop prog ρ U o=some (.raw (.int .i64 t.mn)):=by
 simp only[qop,ho,zlv,hx,hb,z5p und3 qmh,zuc t a 0];rfl
theorem qge {x:Operand} {b:Nat} {tt:TypeId} (t:Tr) {a:AV} (ho:o.op= .load 3 x)(hx:ρ x= .ptr b 258)(hb:U.boxes[b]? =some (tt,rtX t a)):qop prog ρ U o=some (.raw (.int .i64 t.mx)):=by
 simp only[qop,ho,zlv,hx,hb,z5p und3 qmh,zuc t a 1];rfl
theorem z2x {x:Operand} {b:Nat} {tt:TypeId} (t:Tr) {a:AV} (ho:o.op= .load 77 x)(hx:ρ x= .ptr b 259)(hb:U.boxes[b]? =some (tt,rtX t a)):qop prog ρ U o=some a:=by
 have h1:zcp prog 77=some 1:=by kernel_rfl
 simp only[qop,ho,zlv,hx,hb,qow h1 ⟨_,und104,by simp,by simp⟩,zuc t a 2];rfl
theorem qka {x:Operand} {b:Nat} {tt:TypeId} (t:Tr) {a:AV} (ho:o.op= .load 76 x)(hx:ρ x= .ptr b 1)(hb:U.boxes[b]? =some (tt,rtX t a)):qop prog ρ U o=some (.agg (Enc.cells (zgg t.s))):=by
 have h:(zfw (zgg t.s)).length=256:=by simp[zfw,arL]
 have e:(rtX t a).drop 1=zfw (zgg t.s)++[.raw (.int .i64 t.mn),.raw (.int .i64 t.mx),a]:=by rw[rtX,hcells];simp
 have key:rd prog 76 ((rtX t a).drop 1)=some (.agg (Enc.cells (zgg t.s))):=by
  rw[e];have hs:=qhg;unfold zcp at hs;cases hi:prog.info? 76 with
  |none=>simp[hi] at hs
  | some i=>
   simp only[hi,map_some,Option.some.injEq] at hs;simp only[rd,qjb,hi];rw[if_pos (by rw[length_append];omega),hs,List.take_append_of_le_length (by omega),take_of_length_le (by omega)];rfl
 simp only[qop,ho,zlv,hx,hb,key]
theorem z6l {x y:Operand} {b:Nat} {tt:TypeId} {a v:AV} (t:Tr)(ho:o.op= .store 77 x y)(hx:ρ x= .ptr b 259)(hy:ρ y=v)(hb:U.boxes[b]? =some (tt,rtX t a))(hc:zhs v=true/\ (cellsOf v).length=1):
 aop prog ρ U o=some (.raw undef,{U with boxes:=U.boxes.set b (tt,hcells t++cellsOf v)}):=by
 have h1:zcp prog 77=some 1:=by kernel_rfl
 rw[zct (n:=1) ho hx hy hb h1 ⟨hc.1,hc.2,by simp only[zrn];omega,by decide⟩];have e1:(rtX t a).take 259=hcells t:=by rw[rtX,List.take_append_of_le_length (by rw[znm];omega),take_of_length_le (by rw[znm];omega)]
 have e2:(rtX t a).drop (259+1)=[]:=List.drop_of_length_le (by rw[zrn];omega);simp only[e1,e2,append_nil]
end
theorem zwt: ∀a b:List AV,stripL (a++b)=stripL a++stripL b
 |[],b=>by rw[stripL];rfl
 |x::a,b=>by rw[cons_append,stripL,stripL,zwt a b];rfl
theorem qes (t:Tr)(l:List RT):zcw (.agg (rtX t (zbt l.length (Enc.cellsL l))))= .agg (Enc.cells (RT.mk (.mk t.k t.s t.mn t.mx (l.map RT.t)))):=by
 rw[znr];show AV.agg (stripL _)=_;rw[rtX,rtX,zwt,zcy _ (zrk t),stripL,stripL,zvw (Enc.cloL l) Enc.z];rw[show(RT.mk (Tr.mk t.k t.s t.mn t.mx (l.map RT.t))).t=Tr.mk t.k t.s t.mn t.mx (l.map RT.t) from rfl,show(Tr.mk t.k t.s t.mn t.mx (l.map RT.t)).l=l.map RT.t from rfl,length_map];rfl
end Go.Ab
namespace Go.Ab
open Go Go.RowKit Go.Fwd Go.Proofs
def zxz (fuel:Nat)(s:BS):Option Ar:=
 (zcu (τ:=Ar) (zax (β:=Int×Ar) (fun s1=>(bif (decide (s1.1<256)) then(zcu (τ:=Ar) (chk (0<=(IntKind.i64.wrap (tdiv s1.1 64))/\ (IntKind.i64.wrap (tdiv s1.1 64))<4) (zcu (τ:=Int) (zax (β:=Int×Int) (fun s2=>(bif (decide (s2.2<(tmod s1.1 64))) then(chk (I64 (s2.2+1)) (some (inl ((IntKind.u64.wrap (tdiv s2.1 2)),(s2.2+1))))) else(some (inr (inl (s2.1)))))) fuel ((wd s (toNat (IntKind.i64.wrap (tdiv s1.1 64)))),0)) (fun j3=>(chk (I64 (tmod j3 2)) (chk (0<=s1.1/\ s1.1<256) (some (inl ((wrA s1.2 s1.1 (tmod j3 2)))))))))) (fun j2=>(chk (I64 (s1.1+1)) (some (inl ((s1.1+1),j2)))))) else(some (inr (inl (s1.2)))))) fuel (0,zeroA)) (fun j1=>(some j1)))
theorem ent52:Ent prog 52:=enters_of Tryz.func52 (by kernel_rfl) rfl
theorem qlm (fuel:Nat)(s:BS)(r:Ar)(h:zxz fuel s=some r):Pure (ITP prog) prog 52 [.A (s:BS)] (.A (r:Ar)):=by
 unfold zxz at h;refine zbl 28 mix Tryz.func52 ent52 ?_;refine zj (zb ?_);refine zdf (Enc.cells (s:BS)) ?_;refine zhn (a:= .ptr 1 0) (U'':=(.B [(25,(Enc.cells (s:BS))),(76,(Enc.cells (zeroA:Ar)))])) rfl rfl rfl (z1d (by decide) rfl) (by dsimp only[zah,List.set]) rfl ?_;refine zj (zb ?_);refine zhn (a:= .ptr 2 0) (U'':=(.B [(25,(Enc.cells (s:BS))),(76,(Enc.cells (zeroA:Ar))),(76,(Enc.cells (zeroA:Ar)))])) rfl rfl rfl (z1d (by decide) rfl) (by dsimp only[zah,List.set]) rfl ?_;refine zan h (bz 0 29 536870899) (fun j1=>[]) (fun j1=>(.B [(25,(Enc.cells (s:BS))),(76,(Enc.cells (zeroA:Ar))),(76,(Enc.cells (j1:Ar)))])) ?_ ?_;intro or1 h hr1;refine zbb [.v (.i 0)] ?_;refine zx ?_;refine zcf h (bz 0 29 536870897) (fun s1=>[(4,.i s1.1)]) (fun s1=>(.B [(25,(Enc.cells (s:BS))),(76,(Enc.cells (zeroA:Ar))),(76,(Enc.cells (s1.2:Ar)))])) ?_ ?_;exact zbe (bl 29 30);intro s1 p1 h;refine zdi ?_;refine zj ?_;refine zbb [.m _,.v (.b (decide (s1.1<256)))] ?_;refine zbn h (fun hc1 h=> ?_) (fun hc1 h=> ?_);refine zan h (bz 0 28 268433888) (fun j2=>[]) (fun j2=>(.B [(25,(Enc.cells (s:BS))),(76,(Enc.cells (zeroA:Ar))),(76,(Enc.cells (j2:Ar)))])) ?_ ?_;intro or2 h hr2;refine zx ?_;refine zbb [.m _,.v (.i (IntKind.i64.wrap (tdiv s1.1 64)))] ?_;obtain⟨g1,h⟩:=ze h;refine w_o (a:= .ptr 0 (0+toNat (IntKind.i64.wrap (tdiv s1.1 64))*1)) (h:=zaz (zsj g1 rfl rfl rfl rfl rfl)) ?_;refine w_o (a:= .raw (.int .u64 (wd s (toNat (IntKind.i64.wrap (tdiv s1.1 64)))))) (h:=zaz (zzx s (by omega) rfl rfl rfl)) ?_;refine zar ?_;refine zan h (bz 0 23 8387040) (fun j3=>[(5,.raw (.int .u64 j3))]) (fun j3=>(.B [(25,(Enc.cells (s:BS))),(76,(Enc.cells (zeroA:Ar))),(76,(Enc.cells (s1.2:Ar)))])) ?_ ?_;intro or3 h hr3;refine zbb [.v (.i 0)] ?_;refine zx ?_;refine zcf h (bz 0 23 8387040) (fun s2=>[(5,.raw (.int .u64 s2.1)),(6,.i s2.2)]) (fun s2=>(.B [(25,(Enc.cells (s:BS))),(76,(Enc.cells (zeroA:Ar))),(76,(Enc.cells (s1.2:Ar)))])) ?_ ?_;exact zbe (bl 29 528483967);intro s2 p2 h;refine zdi ?_;refine zj ?_;refine zbb [.m _,.m _,.v (.i (tmod s1.1 64)),.v (.b (decide (s2.2<(tmod s1.1 64))))] ?_;refine zbn h (fun hc2 h=> ?_) (fun hc2 h=> ?_);refine zj ?_;refine zx ?_;refine zb (k0:=0) (id:=9) ?_;refine w_r [.m _,.v (.raw (.int .u64 (IntKind.u64.wrap (tdiv s2.1 2)))),.m _] ?_;refine zb (k0:=0) (id:=8) ?_;refine zar ?_;obtain⟨g2,h⟩:=ze h;refine zgu g2 ?_;refine zar ?_;refine zbf (p:=p2) ((IntKind.u64.wrap (tdiv s2.1 2)),(s2.2+1)) h ?_;exact zbe (bl 29 528483967);refine zg h (fun h=> ?_);refine zc (o:=or3) (s2.1) h ?_;exact zbe (bl 29 528483903);intro j3 h;refine zdi ?_;refine zb (k0:=0) (id:=10) ?_;refine w_r [.m _,.m _,.v (.raw (.int .u64 (tmod j3 2)))] ?_;obtain⟨g3,h⟩:=ze h;refine w_o (a:= .i (tmod j3 2)) (h:=zaz (zgz g3 rfl rfl rfl)) ?_;obtain⟨g4,h⟩:=ze h;refine w_o (a:= .ptr 2 (0+toNat s1.1*1)) (h:=zaz (zsj g4 rfl rfl rfl rfl rfl)) ?_;refine zqo (U'':=(.B [(25,(Enc.cells (s:BS))),(76,(Enc.cells (zeroA:Ar))),(76,(Enc.cells ((wrA s1.2 s1.1 (tmod j3 2)):Ar)))])) (h:=qhu s1.2 g4 rfl rfl rfl rfl) ?_;refine zc (o:=or2) ((wrA s1.2 s1.1 (tmod j3 2))) h ?_;exact zbe (bl 29 268437023);intro j2 h;refine zdi ?_;refine zb (k0:=0) (id:=4) ?_;refine zar ?_;obtain⟨g5,h⟩:=ze h;refine zgu g5 ?_;refine zar ?_;refine zbf (p:=p1) ((s1.1+1),j2) h ?_;exact zbe (bl 29 30);refine zg h (fun h=> ?_);refine zc (o:=or1) (s1.2) h ?_;exact zbe (bl 29 12);intro j1 h;refine zdi ?_;refine zj (zb ?_);refine w_o (a:= .A (j1:Ar)) (h:=zaz (qgw j1 (by decide) rfl rfl rfl)) ?_;refine zqo (U'':=(.B [(25,(Enc.cells (s:BS))),(76,(Enc.cells (j1:Ar))),(76,(Enc.cells (j1:Ar)))])) (h:=zen (n:=256) rfl rfl rfl rfl rfl (Enc.len _) rfl (Enc.len _) (by decide)) ?_;exact zbx (fun(r:Ar)=> .A (r:Ar)) h (.A (j1:Ar))
mutual
def zvo:Tr->Int->Int
 | .mk _ _ _ _ l,m=>qdk l m 1
def qdk:List Tr->Int->Int->Int
 |[],_,s=>s
 |x::l,m,s=>if s>m then s else qdk l m (s+zvo x (m-s))
end
def z8n (fuel:Nat)(n:Nat)(t:Tr)(m:Int):Option Int:=
 (zcu (τ:=Int) (zax (β:=Int×Int) (fun s1=>(bif (decide (s1.2<(length t.l:Int))) then(chk (0<=s1.2/\ s1.2<(length t.l:Int)) (zba (ix t.l s1.2) (fun x1=>(bif (decide (s1.1>m)) then(some (inr (inl (s1.1)))) else(chk (I64 (m-s1.1)) (chk (((pre x1).length<n/\ (pre x1).length<2^40/\ 0<=(m-s1.1)/\ (m-s1.1)<2^40)) (zba (zvo x1 (m-s1.1)) (fun x2=>(chk (I64 (s1.1+x2)) (chk (I64 (s1.2+1)) (some (inl ((s1.1+x2),(s1.2+1)))))))))))))) else(some (inr (inl (s1.1)))))) fuel (1,0)) (fun j1=>(some j1)))
theorem ent39:Ent prog 39:=enters_of Tryz.func39 (by kernel_rfl) rfl
theorem few8_sh (fuel:Nat)(n:Nat)(t:Tr)(m:Int)(r:Int)(ih: ∀(x:Tr)(m:Int),((pre x).length<n/\ (pre x).length<2^40/\ 0<=m/\ m<2^40)->Pure (ITP prog) prog 39 [.A x,.raw (.int .i64 m)] (.raw (.int .i64 (zvo x m))))(h:z8n fuel n t m=some r):Pure (ITP prog) prog 39 [.A (t:Tr),.raw (.int .i64 m)] (.raw (.int .i64 r)):=by
 unfold z8n at h;refine zbl 25 mix Tryz.func39 ent39 ?_;refine zj (zb ?_);refine zdf (Enc.cells (t:Tr)) ?_;refine w_o (a:= .i 0) ?_;refine zbb [.v (.i 1)] ?_;refine zan h (bz 0 27 134217727) (fun j1=>[(5,.i j1)]) (fun j1=>(.B [(29,(Enc.cells (t:Tr)))])) ?_ ?_;intro or1 h hr1;refine zbb [.v (.ptr 0 7),.v (.L (t.l:List Tr)),.v (.i (length t.l:Int)),.v (.i 0)] ?_;refine zx ?_;refine zcf h (bz 0 27 134216189) (fun s1=>[(5,.i s1.1),(11,.i s1.2)]) (fun s1=>(.B [(29,(Enc.cells (t:Tr)))])) ?_ ?_;exact zbe (bl 27 3618);intro s1 p1 h;refine zdi ?_;refine zbb [.v (.b (decide (s1.2<(length t.l:Int))))] ?_;refine zj ?_;refine zbn h (fun hc1 h=> ?_) (fun hc1 h=> ?_);refine zj ?_;refine zx ?_;refine zj (zb ?_);obtain⟨g1,h⟩:=ze h;obtain⟨x1,hx1,h⟩:=zk h;refine z4u hx1 g1 ?_;refine w_o (a:= .A (x1:Tr)) ?_;refine zdf zN ?_;refine zes 8 (Enc.cells (x1:Tr)) ?_;refine zj ?_;refine zbb [.m _,.m _,.v (.b (decide (s1.1>m)))] ?_;refine zbn h (fun hc2 h=> ?_) (fun hc2 h=> ?_);refine zg h (fun h=> ?_);refine zc (o:=or1) (s1.1) h ?_;exact zce (bl 27 32) 1 (by kernel_rfl) (Nat.le_of_ble_eq_true rfl) (zbg (zy (zn _ _ (Enc.clo _)) rfl)) (by dsimp only[zap,zbi,foldl,List.set,bz,bzc,Nat.reduceMod,Nat.reduceDiv,Nat.reduceBEq,Nat.reduceAdd];exact(by kernel_rfl)) (by kernel_rfl);refine zb (k0:=0) (id:=6) ?_;refine w_r [.m _,.v (.A (x1:Tr)),.m _,.m _] ?_;obtain⟨g2,h⟩:=ze h;refine qkw g2 ?_;obtain⟨g3,h⟩:=ze h;obtain⟨x2,hx2,h⟩:=zk h;refine zch (args':=[.A (x1:Tr),.i (m-s1.1)]) (r:= .i x2) (by rw[<-hx2];exact(ih x1 (m-s1.1) g3)) ?_;obtain⟨g4,h⟩:=ze h;refine zgu g4 ?_;refine zar ?_;refine zb (k0:=0) (id:=7) ?_;obtain⟨g5,h⟩:=ze h;refine zgu g5 ?_;refine zar ?_;refine zbf (p:=p1) ((s1.1+x2),(s1.2+1)) h ?_;exact zce (bl 27 3618) 1 (by kernel_rfl) (Nat.le_of_ble_eq_true rfl) (zbg (zy (zn _ _ (Enc.clo _)) rfl)) (by dsimp only[zap,zbi,foldl,List.set,bz,bzc,Nat.reduceMod,Nat.reduceDiv,Nat.reduceBEq,Nat.reduceAdd];exact(za rfl (za rfl (za rfl (za rfl (za rfl (za rfl (za rfl (za rfl (za rfl (za (zbc (Enc.cloL _)) (by kernel_rfl)))))))))))) (by kernel_rfl);refine zg h (fun h=> ?_);refine zc (o:=or1) (s1.1) h ?_;exact zbe (bl 27 32);intro j1 h;refine zdi ?_;refine zbb [.m _,.m _] ?_;exact zkj h
variable {n:Nat}
theorem W64_get (s:BS)(q r:Nat)(hr:r<64):(W64 s q).getLsbD r=s.getLsbD (64*q+r):=by simp[W64,hr]
def arP (s:BS)(i:Nat):Ar:=⟨fun k=>if k<i/\ s.getLsbD k=true then 1 else 0⟩
theorem arP_0 (s:BS):arP s 0=zeroA:=by simp[arP,zeroA]
theorem qek {s:BS} {k:Nat} (h:s.getLsbD k=true):k<256:=by
 rcases lt_or_ge k 256 with h1|h1
 ·exact h1
 ·rw[BitVec.getLsbD_of_ge s k h1] at h;cases h
theorem arP_256 (s:BS):arP s 256=zgg s:=by
 unfold arP zgg;refine congrArg Ar.mk (funext fun k=> ?_);by_cases h:s.getLsbD k=true
 ·simp[h,qek h]
 ·simp[h]
theorem arP_hit (s:BS)(i:Nat)(h:s.getLsbD i=true):wrA (arP s i) (i:Int) 1=arP s (i+1):=by
 unfold arP wrA;refine congrArg Ar.mk (funext fun k=> ?_);rw[Int.toNat_natCast];by_cases e:k=i
 ·subst e;simp[h]
 ·simp only[e,if_false];by_cases e2:k<i
  ·simp[e2,show k<i+1 by omega]
  ·simp[e2,show ¬k<i+1 by omega]
theorem qlj (s:BS)(i:Nat)(h:s.getLsbD i=false):arP s i=arP s (i+1):=by
 unfold arP;refine congrArg Ar.mk (funext fun k=> ?_);by_cases e:k=i
 ·subst e;simp[h]
 ·by_cases e2:k<i
  ·simp[e2,show k<i+1 by omega]
  ·simp[e2,show ¬k<i+1 by omega]
theorem qfb (s:BS)(i:Nat)(h:s.getLsbD i=false):wrA (arP s i) (i:Int) 0=arP s (i+1):=by
 rw[<-qlj s i h];unfold arP wrA;refine congrArg Ar.mk (funext fun k=> ?_);rw[Int.toNat_natCast];by_cases e:k=i
 ·subst e;simp
 ·simp[e]
theorem qjw (s t:BS):eqA (zgg s) (zgg t)=decide (s=t):=by
 unfold eqA;by_cases h:s=t
 ·subst h;simp
 ·have: ¬arL (zgg s)=arL (zgg t):=fun e=>h (BitVec.eq_of_getLsbD_eq fun i hi=>by
   have h1:=congrArg (fun l:List Int=>l[i]?) e;simp only[arL_get _ _ hi,Option.some.injEq] at h1;simp only[zgg] at h1;cases hs:s.getLsbD i<;>cases ht:t.getLsbD i<;>simp[hs,ht] at h1⊢)
  simp[h,this]
theorem qmo {x:Int} (h: -9223372036854775808<=x/\ x<9223372036854775808):IntKind.i64.wrap x=x:=zqh h.1 h.2
theorem qnd (h:n<2^64):IntKind.u64.wrap (n:Int)=(n:Int):=by
 simp only[IntKind.wrap,IntKind.bits,IntKind.signed];simp;omega
theorem u8_wrap (h:n<256):IntKind.u8.wrap (n:Int)=(n:Int):=by
 simp only[IntKind.wrap,IntKind.bits,IntKind.signed];simp;omega
theorem qmj (fuel:Nat)(hf:256<fuel)(s:BS):zxz fuel s=some (zgg s):=by
 unfold zxz;refine zak (zgg s) (zhl 256 (fun i=>((i:Int),arP s i)) (by simp[arP_0]) (fun i hi=> ?_) ?_ hf) rfl
 ·refine zdw (by simp;omega) ?_;have e1:IntKind.i64.wrap (tdiv (i:Int) 64)=((i/64:Nat):Int):=by
   rw[show tdiv (i:Int) 64=((i/64:Nat):Int) from rfl];exact qmo (by omega)
  have e2:tmod (i:Int) 64=((i%64:Nat):Int):=rfl;simp only[e1,e2,Int.toNat_natCast];obtain⟨w,hw⟩: ∃w,w=W64 s (i/64):=⟨_,rfl⟩;have hw1:wd s (i/64)=((w.toNat:Nat):Int):=by rw[hw];rfl
  have hwl:=w.isLt;refine zak (arP s (i+1)) (zf (by omega) ?_) (zf (by omega) rfl);refine zak (((w.toNat/2^(i%64):Nat):Nat):Int) (zhl (i%64) (fun j=>(((w.toNat/2^j:Nat):Int),(j:Int))) (by simp[hw1]) (fun j hj=> ?_) ?_ (by omega)) ?_
  ·refine zdw (by simp;omega) (zf (by simp only;omega) ?_);have e3:IntKind.u64.wrap (tdiv ((w.toNat/2^j:Nat):Int) 2)=((w.toNat/2^(j+1):Nat):Int):=by
    rw[show tdiv ((w.toNat/2^j:Nat):Int) 2=((w.toNat/2^j/2:Nat):Int) from rfl,Nat.div_div_eq_div_mul, <-Nat.pow_succ];exact qnd (Nat.lt_of_le_of_lt (Nat.div_le_self _ _) hwl)
   simp only[e3,Int.natCast_add,Int.cast_ofNat_Int]
  ·refine zdo (by simp) rfl
  ·have e4:tmod ((w.toNat/2^(i%64):Nat):Int) 2=((w.toNat/2^(i%64)%2:Nat):Int):=rfl;have hb:s.getLsbD i=decide (w.toNat/2^(i%64)%2=1):=by
    have h:=W64_get s (i/64) (i%64) (Nat.mod_lt _ (by decide));rw[show 64*(i/64)+i%64=i by omega, <-hw] at h;rw[<-h,BitVec.getLsbD,Nat.testBit_eq_decide_div_mod_eq]
   simp only[e4];generalize hm:w.toNat/2^(i%64)%2=m at*
   have hm2:m<2:=by rw[<-hm];exact Nat.mod_lt _ (by decide)
   refine zf (by omega) (zf (by omega) ?_);rcases(by omega:m=0 \/m=1) with rfl|rfl
   ·rw[Int.natCast_zero,qfb s i (by simpa using hb)]
   ·rw[show((1:Nat):Int)=1 from rfl,arP_hit s i (by simpa using hb)]
 ·refine zdo (by simp) ?_;simp only[arP_256]
theorem k_words (s:BS):Pure (ITP prog) prog 52 [.agg (Enc.cells s)] (.agg (Enc.cells (zgg s))):=qlm 257 s _ (qmj 257 (by decide) s)
theorem z2u: ∀(n:Nat) (t:Tr) (m:Int),(pre t).length<=n->0<=m->(((pre t).length:Int)<=m->zvo t m=(pre t).length)/\ (((pre t).length:Int)>m->zvo t m>m/\ zvo t m<=(pre t).length)
 |0,t,m,hn,_=>by have:=zmu t;omega
 | n + 1,t,m,hn,hm=>by
  have hp:(pre t).length=1+(zbj t.l).length:=by rw[zef,length_cons];omega
  have key: ∀(l:List Tr) (s:Int),(zbj l).length<=n->0<=s->(s+(zbj l).length<=m->qdk l m s=s+(zbj l).length)/\ (s+(zbj l).length>m->qdk l m s>m/\ qdk l m s<=s+(zbj l).length):=by
   intro l;induction l with
   |nil=>intro s _ _;simp only[qdk,zbj,length_nil];omega
   | cons x l ih=>
    intro s hl hs;simp only[zbj,length_append] at hl⊢;rw[qdk];by_cases h:s>m
    ·rw[if_pos h];omega
    ·rw[if_neg h];have h1:=z2u n x (m-s) (by omega) (by omega);by_cases hx:((pre x).length:Int)<=m-s
     ·have h2:=h1.1 hx;have h3:=ih (s+zvo x (m-s)) (by omega) (by omega);rw[h2] at h3⊢;omega
     ·have h2:=h1.2 (by omega);have h3:=ih (s+zvo x (m-s)) (by omega) (by omega);omega
  have hk:=key t.l 1 (by omega) (by omega);have e:zvo t m=qdk t.l m 1:=by obtain⟨k,s,mn,mx,l⟩:=t;rw[zvo];rfl
  rw[e];omega
theorem qqx (t:Tr)(m:Int)(hm:0<=m):0<=zvo t m/\ zvo t m<=(pre t).length:=by
 have:=z2u _ t m (le_refl _) hm;by_cases h:((pre t).length:Int)<=m<;>omega
theorem few8_eq {fuel:Nat} (n:Nat)(t:Tr)(m:Int)(hn:(pre t).length<n+1)(hs:(pre t).length<2^40)(hm:0<=m/\ m<2^40)(hf:(pre t).length<fuel):z8n fuel n t m=some (zvo t m):=by
 have hp:(pre t).length=1+(zbj t.l).length:=by rw[zef,length_cons];omega
 have hlen:=zay t.l;unfold z8n;have e:zvo t m=qdk t.l m 1:=by obtain⟨k,s,mn,mx,l⟩:=t;rw[zvo];rfl
 rw[e];refine zak (qdk t.l m 1) ?_ rfl;have key: ∀(k i:Nat) (s:Int),i+k=t.l.length->0<=s->s+(zbj (t.l.drop i)).length<=2^41-> ∀f,k<f->zax (β:=Int×Int) (fun s1=>(bif (decide (s1.2<(length t.l:Int))) then(chk (0<=s1.2/\ s1.2<(length t.l:Int)) (zba (ix t.l s1.2) (fun x1=>(bif (decide (s1.1>m)) then(some (inr (inl (β:=Int) (s1.1)))) else(chk (I64 (m-s1.1)) (chk (((pre x1).length<n/\ (pre x1).length<2^40/\ 0<=(m-s1.1)/\ (m-s1.1)<2^40)) (zba (zvo x1 (m-s1.1)) (fun x2=>(chk (I64 (s1.1+x2)) (chk (I64 (s1.2+1)) (some (inl ((s1.1+x2),(s1.2+1)))))))))))))) else(some (inr (inl (s1.1)))))) f (s,(i:Int))=some (inl (qdk (t.l.drop i) m s)):=by
  intro k;induction k with
  | zero=>
   intro i s hi _ _ f hf
   match f,hf with
   | f+1,_=>
    rw[zax,List.drop_of_length_le (by omega),qdk];simp only;rw[show decide ((i:Int)<(t.l.length:Int))=false by simp;omega];rfl
  | succ k ih=>
   intro i s hi hs0 hss f hf
   match f,hf with
   | f+1,hf=>
    have hil:i<t.l.length:=by omega
    rw[zax,List.drop_eq_getElem_cons hil,qdk];simp only;rw[show decide ((i:Int)<(t.l.length:Int))=true by simp;omega,cond_true,zew (by omega),zba,zgt hil];rw[List.drop_eq_getElem_cons hil,zbj,length_append] at hss;have hx:=zcr (getElem_mem hil);by_cases h:s>m
    ·rw[if_pos h,show decide (s>m)=true by simpa using h];rfl
    ·rw[if_neg h,show decide (s>m)=false by simpa using h,cond_false,zew (by omega),zew (by omega),zba];have hfl:=qqx t.l[i] (m-s) (by omega);rw[zew (by omega),zew (by omega)];have:=ih (i+1) (s+zvo t.l[i] (m-s)) (by omega) (by omega) (by omega) f (by omega);simp only[Int.natCast_add,Int.natCast_one] at this;exact this
 have:=key t.l.length 0 1 (by omega) (by omega) (by rw[List.drop_zero];omega) fuel (by omega);rw[List.drop_zero] at this;exact this
theorem qfd: ∀(n:Nat) (t:Tr) (m:Int),((pre t).length<n/\ (pre t).length<2^40/\ 0<=m/\ m<2^40)->Pure (ITP prog) prog 39 [.agg (Enc.cells t),.raw (.int .i64 m)] (.raw (.int .i64 (zvo t m)))
 |0,t,m,h=>absurd h.1 (not_lt_zero _)
 |n+1,t,m,h=>few8_sh ((pre t).length+1) n t m _ (fun x m hx=>qfd n x m hx) (few8_eq n t m h.1 h.2.1 h.2.2 (by omega))
theorem qrc (t:Tr)(m:Int)(h:(pre t).length<2^40/\ 0<=m/\ m<2^40):Pure (ITP prog) prog 39 [.agg (Enc.cells t),.raw (.int .i64 m)] (.raw (.int .i64 (zvo t m))):=qfd ((pre t).length+1) t m ⟨by omega,h⟩
def KO (t:Tr):Prop:=(∀x∈pre t,x.k<256)/\ (pre t).length<2^35
instance (t:Tr):Decidable (KO t):=inferInstanceAs (Decidable (_/\ _))
section
variable {P:Program} {ρ:Operand->AV} {U:St} {o:Oper}
theorem q_lit1 {α:Type} [Enc α] {x:α} {p:Operand} {t e:TypeId} {i:TypeInfo} {z:Value} (ho:o.op= .buildSlice t 1 #[(0,p)])(hp:ρ p= .agg (Enc.cells x))(hu:P.underlying t=some (.slice e))(hi:P.info? e=some i)(hz:i.zero=some z)(hsz:i.size=Enc.sz α)(hzs:z.cells.size=Enc.sz α)(h1:z.cells.toList.all (·.oneCell')=true)(hm:Enc.sz α<=2^24):
 qop P ρ U o=some (.list 1 (Enc.cells x++[]) .full):=by
 have hp0:=Enc.pos (α:=α);have hl:zle P t 1 [(0,ρ p)]=some (Enc.cells x++[],e,i.size):=by
  unfold zle;simp only[hu,hi,hz,hsz,Nat.one_mul];rw[if_neg (by decide),if_pos ⟨h1,by omega,hm,by omega⟩];simp only[zyx,hp,Nat.zero_mul,zero_add,zhs,cellsOf,Enc.len,length_map,List.length_range];rw[if_pos ⟨trivial,trivial,le_refl _⟩];simp[List.drop_of_length_le]
 simp only[qop,ho,zqa,map_cons,List.map_nil,hl,map_some]
theorem zvs {cs:List AV}:cellsOf (zbt n cs)=[zbt n cs]:=by unfold zbt;split<;>rfl
theorem qbl {cs:List AV}:zhs (zbt n cs)=true:=by unfold zbt;split<;>rfl
end
theorem qcq {ρ:Operand->AV} {U:St} {o:Oper} {x y:Operand} {b:Nat} {tt:TypeId} {a:AV} {cs:List AV} (t:Tr)(ho:o.op= .store 77 x y)(hx:ρ x= .ptr b 259)(hy:ρ y=zbt n cs)(hb:U.boxes[b]? =some (tt,rtX t a)):
 aop prog ρ U o=some (.raw undef,{U with boxes:=U.boxes.set b (tt,rtX t (zbt n cs))}):=by
 rw[z6l t ho hx hy hb ⟨qbl,by rw[zvs];rfl⟩,zvs];rfl
def zv106:Value:= .agg (#[Value.int .i64 0]++((List.range 256).map fun _=>Value.int .i64 0).toArray++ #[Value.int .i64 0,Value.int .i64 0,Value.slice none 0 0])
theorem qef:zio prog 79=some zv106:=by kernel_rfl
def zc106:List AV:=cellsOf (zja zv106)
theorem z4c:zc106.length=260:=by kernel_rfl
theorem qmc:zaf 3 zc106=true:=by kernel_rfl
theorem z6q {ρ:Operand->AV} {U:St} {o:Oper} (ho:o.op= .alloc 79):aop prog ρ U o=some (.ptr U.boxes.length 0,{U with boxes:=U.boxes++[(79,zc106)]}):=by
 have h:zsl prog U 79=some (.ptr U.boxes.length 0,{U with boxes:=U.boxes++[(79,zc106)]}):=by rw[zvh qef];rfl
 simp only[aop,qop,ho,h]
theorem qhq {P:Program} {U:St} {S:List AV} {fn:Func} {k t:Nat} {a:AV} (hr:fn.results.toList=[.cell k t])(h:zlv P U t ((S[k]?).getD (.raw undef))=some a):zav P fn U S=some a:=by
 unfold zav;rw[hr];simp only[z5a,qgb,h]
theorem qfs {n:Nat} (t:Tr)(l:List RT):zaf n (rtX t (zbt l.length (Enc.cellsL l)))=true:=by
 rw[rtX];have: ∀a b:List AV,zaf n a=true->zaf n b=true->zaf n (a++b)=true:=fun a b h1 h2=>by
  induction a with
  |nil=>exact h2
  |cons x a ih=>rw[zaf,and_eq_true] at h1;rw[cons_append,zaf,h1.1,ih h1.2];rfl
 exact this _ _ (zn _ _ (zrk t)) (za (zdn (Enc.cloL _)) rfl)
def ztm (fuel:Nat)(n:Nat)(t:Tr):Option Tr:=
 chk (t.k<256) (zcu (τ:=List RT) (zax (β:=List RT×Int) (fun s=>(bif (decide (s.2<(length t.l:Int))) then(chk (0<=s.2/\ s.2<(length t.l:Int)) (zba (ix t.l s.2) (fun x=>(chk ((pre x).length<n/\ KO x) (chk ((length s.1+length [RT.mk x])*2096<=140737488355328) (chk (I64 (s.2+1)) (some (inl (s.1++[RT.mk x],s.2+1))))))))) else(some (inr (inl s.1))))) fuel ([],0)) (fun j=>some (Tr.mk t.k t.s t.mn t.mx (j.map RT.t))))
theorem ent41:Ent prog 41:=enters_of Tryz.func41 (by kernel_rfl) rfl
theorem qea (fuel:Nat)(n:Nat)(t:Tr)(r:Tr)(ih: ∀x:Tr,(pre x).length<n/\ KO x->Pure (ITP prog) prog 41 [.agg (Enc.cells x)] (.agg (Enc.cells (RT.mk x))))(h:ztm fuel n t=some r):Pure (ITP prog) prog 41 [.agg (Enc.cells (t:Tr))] (.agg (Enc.cells (RT.mk r))):=by
 obtain⟨d,hd⟩: ∃d,Tryz.f41.body=some d:=⟨_,rfl⟩;refine zjw mix Tryz.func41 hd ent41 ?_;cases hd;unfold ztm at h;obtain⟨g0,h⟩:=ze h;refine zbv (by dsimp only[zaq,Tryz.f41,length_cons,length_nil,zero_add,Nat.reduceAdd,Nat.reduceSub,List.replicate,cons_append,nil_append]) (by dsimp only[St.empty]) ?_;refine zj (zb ?_);refine zhn (a:= .ptr 0 0) (U'':=⟨[(29,(Enc.cells (t:Tr)))],[],[],0,false⟩) rfl rfl rfl rfl (by dsimp only[zah,List.set]) rfl ?_;refine zhn (a:= .ptr 1 0) (U'':=⟨[(29,(Enc.cells (t:Tr))),(79,zc106)],[],[],0,false⟩) rfl rfl rfl (z6q rfl) (by dsimp only[zah,List.set]) rfl ?_;refine zj ?_;refine qgi (k0:=0) (id:=1) 12 (by kernel_rfl) (by kernel_rfl) ?_;refine zsz (a:= .ptr 0 0) rfl rfl rfl rfl rfl (by dsimp only[zah,List.set]) ?_;refine zsz (a:= .raw (.int .u8 ((t.k:Nat):Int))) rfl rfl rfl rfl rfl (by dsimp only[zah,List.set]) ?_;refine zsz (a:= .raw (.int .i64 ((t.k:Nat):Int))) rfl rfl rfl rfl (zgz (by omega) rfl rfl rfl) (by dsimp only[zah,List.set]) ?_;refine zsz (a:= .ptr 0 1) rfl rfl rfl rfl rfl (by dsimp only[zah,List.set]) ?_;refine zsz (a:= .agg (Enc.cells (t.s:BS))) rfl rfl rfl rfl rfl (by dsimp only[zah,List.set]) ?_;refine zos (args':=[.agg (Enc.cells (t.s:BS))]) (r:= .agg (Enc.cells (zgg t.s))) (k_words t.s) rfl rfl rfl rfl (zv (zcq (zae (Enc.clo _))) rfl) (za (zas _ _ (zae (Enc.clo _))) rfl) (by dsimp only[zah,List.set]) ?_;refine zsz (a:= .ptr 0 5) rfl rfl rfl rfl rfl (by dsimp only[zah,List.set]) ?_;refine zsz (a:= .raw (.int .i64 t.mn)) rfl rfl rfl rfl rfl (by dsimp only[zah,List.set]) ?_;refine zsz (a:= .ptr 0 6) rfl rfl rfl rfl rfl (by dsimp only[zah,List.set]) ?_;refine zsz (a:= .raw (.int .i64 t.mx)) rfl rfl rfl rfl rfl (by dsimp only[zah,List.set]) ?_;refine zsz (a:= .agg (rtX (.mk t.k t.s t.mn t.mx []) (.list 0 [] .full))) rfl rfl rfl rfl (by kernel_rfl) (by dsimp only[zah,List.set]) ?_;refine qqf zv106 rfl rfl rfl rfl rfl qef (by dsimp only[List.set]) ?_;refine qac (n:=2) rfl (show _=(⟨[(29,(Enc.cells (t:Tr))),(79,zc106),(79,zc106)],[],[],0,false⟩:St) from rfl) (by dsimp only[nil_append,cons_append,zor,List.set,Nat.reduceAdd]) ?_;refine zhn (U'':=⟨[(29,(Enc.cells (t:Tr))),(79,zc106),(79,rtX (.mk t.k t.s t.mn t.mx []) (.list 0 [] .full))],[],[],0,false⟩) rfl rfl rfl (zen (n:=260) rfl rfl rfl rfl z4y z4c rfl (zrn _ _) (by decide)) (by dsimp only[zah,List.set]) rfl ?_;refine zan h [5,6,7,8,9,10,11,12,13,14,15,16,17,18,19,20,21,22,23,24,25,26,27,28,29,30,31] (fun _=>[]) (fun j=>(zbu [(29,(Enc.cells (t:Tr))),(79,zc106),(79,rtX (.mk t.k t.s t.mn t.mx []) (zbt (length (j:List RT)) (Enc.cellsL (j:List RT))))] 79 (length (j:List RT)) 260)) ?_ ?_
 .
  intro or1 h hr1
  refine zj (zb ?_)
  refine zoy (a:= .ptr 0 7) rfl rfl rfl rfl (by dsimp only[zah,List.set]) ?_
  refine zoy (a:= .list (length (t.l:List Tr)) (Enc.cellsL (t.l:List Tr)) .none) rfl rfl rfl rfl (by dsimp only[zah,List.set]) ?_
  refine zoy (a:= .raw (.int .i64 (length t.l:Int))) rfl rfl rfl rfl (by dsimp only[zah,List.set]) ?_
  refine zoy (a:= .raw (.int .i64 0)) rfl rfl rfl rfl (by dsimp only[zah,List.set]) ?_
  refine zx ?_
  refine zcf h [5,20,21,22,23,24,25,26,27,28,29,30,31,6,7,8,9,10,11,12,13,14,15,16,17] (fun s=>[(20,.raw (.int .i64 s.2))]) (fun s=>(zbu [(29,(Enc.cells (t:Tr))),(79,zc106),(79,rtX (.mk t.k t.s t.mn t.mx []) (zbt (length (s.1:List RT)) (Enc.cellsL (s.1:List RT))))] 79 (length (s.1:List RT)) 260)) ?_ ?_
  .
   exact zpl [true,true,true,true,true,false,false,false,false,false,false,false,false,false,false,false,false,false,true,true,true,false,false,false,false,false,false,false,false,false,false,false,true] (by kernel_rfl) (by kernel_rfl)
  .
   intro s1 p1 h
   refine zbv (by dsimp only[zap,zbi,foldl,List.set]) rfl ?_
   refine zj (zb ?_)
   refine zoy (a:= .raw (.bool (decide (s1.2<(length t.l:Int))))) rfl rfl rfl rfl (by dsimp only[zah,List.set]) ?_
   refine zj ?_
   refine zz h (fun hc1 h=> ?_) (fun hc1 h=> ?_)
   .
    refine zfn hc1 rfl ?_
    refine zj ?_
    refine zx ?_
    refine zj (zb ?_)
    obtain⟨g1,h⟩:=ze h
    obtain⟨x1,hx1,h⟩:=zk h
    refine zoy (a:= .iptr (Enc.cells x1++Enc.cellsL (List.drop (toNat s1.2+1) t.l))) rfl rfl rfl (zaz (by rw[<-hx1];exact(qco (α:=Tr) (l:=t.l) g1 rfl rfl rfl rfl rfl))) (by dsimp only[zah,List.set]) ?_
    refine zoy (a:= .agg (Enc.cells (x1:Tr))) rfl rfl rfl rfl (by dsimp only[zah,List.set]) ?_
    refine zhn (a:= .ptr 3 0) (U'':=(zbu [(29,(Enc.cells (t:Tr))),(79,zc106),(79,rtX (.mk t.k t.s t.mn t.mx []) (zbt (length (s1.1:List RT)) (Enc.cellsL (s1.1:List RT)))),(29,[.raw (.int .u8 0),.raw (.int .u64 0),.raw (.int .u64 0),.raw (.int .u64 0),.raw (.int .u64 0),.raw (.int .i64 0),.raw (.int .i64 0),.list 0 [] .full])] 79 (length (s1.1:List RT)) 260)) rfl rfl rfl rfl (by dsimp only[zah,List.set]) rfl ?_
    refine zhn (U'':=(zbu [(29,(Enc.cells (t:Tr))),(79,zc106),(79,rtX (.mk t.k t.s t.mn t.mx []) (zbt (length (s1.1:List RT)) (Enc.cellsL (s1.1:List RT)))),(29,(Enc.cells (x1:Tr)))] 79 (length (s1.1:List RT)) 260)) rfl rfl rfl (zen (n:=8) rfl rfl rfl rfl rfl rfl rfl rfl (by decide)) (by dsimp only[zah,List.set]) rfl ?_
    obtain⟨g2,h⟩:=ze h
    obtain⟨g3,h⟩:=ze h
    obtain⟨g4,h⟩:=ze h
    refine zhe (k0:=0) (id:=5) 5 (by kernel_rfl) (by kernel_rfl) ?_
    refine qko (a:= .ptr 2 259) rfl rfl rfl rfl (by dsimp only[zah,List.set]) ?_
    refine qko (a:=(zbt (length (s1.1:List RT)) (Enc.cellsL (s1.1:List RT)))) rfl rfl rfl (z2x (.mk t.k t.s t.mn t.mx []) rfl rfl rfl) (by dsimp only[zah,List.set]) ?_
    refine qko (a:= .agg (Enc.cells (x1:Tr))) rfl rfl rfl rfl (by dsimp only[zah,List.set]) ?_
    refine qqt (args':=[.agg (Enc.cells (x1:Tr))]) (r:= .agg (Enc.cells (RT.mk x1))) (ih x1 g2) rfl rfl rfl (zv (zcq (zae (Enc.clo _))) rfl) (za (zas _ _ (zae (Enc.clo _))) rfl) (by dsimp only[zah,List.set]) ?_
    refine qko (a:= .list (length ([RT.mk x1]:List RT)) (Enc.cellsL ([RT.mk x1]:List RT)) .full) rfl rfl rfl (zho (α:=RT) (l:=[RT.mk x1]) (cs:=Enc.cells (RT.mk x1)++[]) (q_lit1 (α:=RT) (x:=RT.mk x1) rfl rfl rfl rfl rfl rfl rfl rfl (by decide)) (by rw[Enc.cons,Enc.nil])) (by dsimp only[zah,List.set]) ?_
    refine ziq ?_
    refine zhn (a:=(zbt (length ((s1.1++[RT.mk x1]):List RT)) (Enc.cellsL ((s1.1++[RT.mk x1]):List RT)))) (U'':=(zbu [(29,(Enc.cells (t:Tr))),(79,zc106),(79,rtX (.mk t.k t.s t.mn t.mx []) (zbt (length (s1.1:List RT)) (Enc.cellsL (s1.1:List RT)))),(29,(Enc.cells (x1:Tr)))] 79 (length ((s1.1++[RT.mk x1]):List RT)) 260)) rfl rfl rfl (zkk rfl rfl rfl rfl (zfp (α:=RT) (bs:=[(29,(Enc.cells (t:Tr))),(79,zc106),(79,rtX (.mk t.k t.s t.mn t.mx []) (zbt (length (s1.1:List RT)) (Enc.cellsL (s1.1:List RT)))),(29,(Enc.cells (x1:Tr)))]) (a:=s1.1) (b:=[RT.mk x1]) g3 rfl rfl rfl rfl rfl ⟨rfl,by decide⟩)) (by dsimp only[zah,List.set]) rfl ?_
    refine zoy (a:= .ptr 2 259) rfl rfl rfl rfl (by dsimp only[zah,List.set]) ?_
    refine zhn (U'':=(zbu [(29,(Enc.cells (t:Tr))),(79,zc106),(79,rtX (.mk t.k t.s t.mn t.mx []) (zbt (length ((s1.1++[RT.mk x1]):List RT)) (Enc.cellsL ((s1.1++[RT.mk x1]):List RT)))),(29,(Enc.cells (x1:Tr)))] 79 (length ((s1.1++[RT.mk x1]):List RT)) 260)) rfl rfl rfl (qcq (.mk t.k t.s t.mn t.mx []) rfl rfl rfl rfl) (by dsimp only[zah,List.set]) rfl ?_
    refine zb (k0:=0) (id:=6) ?_
    refine zoy (a:= .raw (.int .i64 (s1.2+1))) rfl rfl rfl (zaz (qnt rfl rfl rfl rfl g4.1 g4.2)) (by dsimp only[zah,List.set]) ?_
    refine zar ?_
    refine zbf (p:=p1) ((s1.1++[RT.mk x1]),(s1.2+1)) h ?_
    exact zce [true,true,true,true,true,false,false,false,false,false,false,false,false,false,false,false,false,false,true,true,true,false,false,false,false,false,false,false,false,false,false,false,true] 3 (by kernel_rfl) (Nat.le_of_ble_eq_true rfl) (zbg (zy (zn _ _ (Enc.clo _)) (zy qmc (zy (qfs _ _) rfl)))) (by dsimp only[zap,zbi,foldl,List.set];exact(za (zas _ _ (zae (Enc.clo _))) (za rfl (za rfl (za rfl (za rfl (za rfl (za rfl (za rfl (za rfl (za rfl (za rfl (za rfl (za rfl (za rfl (za rfl (za rfl (za rfl (za rfl (za (zbc (Enc.cloL _)) (za rfl (za rfl (za rfl (za rfl (za rfl (za rfl (za rfl (za rfl (za rfl (za rfl (za rfl (za rfl (za rfl (za rfl rfl)))))))))))))))))))))))))))))))))) (by kernel_rfl)
   .
    refine zfs hc1 rfl ?_
    refine zg h (fun h=> ?_)
    refine zc (o:=or1) (s1.1) h ?_
    exact zpl [true,true,true,true,true,false,false,false,false,false,false,false,false,false,false,false,false,false,false,false,false,false,false,false,false,false,false,false,false,false,false,false,true] (by kernel_rfl) (by kernel_rfl)
 .
  intro j1 h
  refine zbv (by dsimp only[zap,zbi,foldl,List.set]) rfl ?_
  refine zj (zb ?_)
  refine zoy (a:= .agg (rtX (.mk t.k t.s t.mn t.mx []) (zbt (length (j1:List RT)) (Enc.cellsL (j1:List RT))))) rfl rfl rfl (zaz (qnl (zrn _ _) rfl rfl rfl)) (by dsimp only[zah,List.set]) ?_
  refine zhn (U'':=(zbu [(29,(Enc.cells (t:Tr))),(79,rtX (.mk t.k t.s t.mn t.mx []) (zbt (length (j1:List RT)) (Enc.cellsL (j1:List RT)))),(79,rtX (.mk t.k t.s t.mn t.mx []) (zbt (length (j1:List RT)) (Enc.cellsL (j1:List RT))))] 79 (length (j1:List RT)) 260)) rfl rfl rfl (zen (n:=260) rfl rfl rfl rfl z4y z4c rfl (zrn _ _) (by decide)) (by dsimp only[zah,List.set]) rfl ?_
  have hxr:=Option.some.inj h
  subst hxr
  refine z9y (a:= .agg (rtX (.mk t.k t.s t.mn t.mx []) (zbt (length (j1:List RT)) (Enc.cellsL (j1:List RT))))) (qhq rfl ?_) (by rw[zbp];exact qfs _ _) (qes (.mk t.k t.s t.mn t.mx []) j1)
  have:=rd_rt (rtX (.mk t.k t.s t.mn t.mx []) (zbt (length (j1:List RT)) (Enc.cellsL (j1:List RT)))) [] (zrn _ _)
  rw[append_nil] at this
  exact this
theorem KO.sub {t x:Tr} (h:KO t)(hx:x∈t.l):KO x:=by
 have h1:=zcr hx;have hp:(pre t).length=1+(zbj t.l).length:=by rw[zef,length_cons];omega
 refine⟨fun y hy=>h.1 y ?_,by have:=h.2;omega⟩;rw[zef];refine List.mem_cons_of_mem _ ?_;have: ∀l:List Tr,x∈l->y∈zbj l:=fun l=>by
  induction l with
  |nil=>intro h;cases h
  | cons z l ih=>
   intro h;rw[zbj,mem_append];rcases mem_cons.1 h with rfl|h
   ·exact .inl hy
   ·exact .inr (ih h)
 exact this _ hx
theorem qkc {fuel:Nat} (n:Nat)(t:Tr)(h:KO t)(hn:(pre t).length<n+1)(hf:(pre t).length<fuel):ztm fuel n t=some t:=by
 have hp:(pre t).length=1+(zbj t.l).length:=by rw[zef,length_cons];omega
 have hlen:=zay t.l;have h2:=h.2;unfold ztm;refine zf (h.1 t (qlq t)) (zak (t.l.map RT.mk) ?_ ?_)
 ·refine zhl t.l.length (fun i=>((t.l.take i).map RT.mk,(i:Int))) (by simp) (fun i hi=> ?_) ?_ (by omega)
  ·refine zdw (by simpa using hi) (zf (by simp only;omega) (zm fun x1 e1=> ?_));simp only at e1;rw[zgt hi] at e1;have hm:x1∈t.l:=e1▸getElem_mem hi;have hx:=zcr hm;have q:(t.l.take i).length<=t.l.length:=List.length_take_le' _ _;refine zf ⟨by omega,h.sub hm⟩ (zf (by simp only[length_map,length_cons,length_nil];omega) (zf (by simp only;omega) ?_));rw[List.take_succ_eq_append_getElem hi,List.map_append,e1];rfl
  ·refine zdo (by simp) ?_;simp
 ·have:(t.l.map RT.mk).map RT.t=t.l:=by rw[map_map];exact List.map_id _
  rw[this, <-Tr.eta]
theorem zxu: ∀(n:Nat) (t:Tr),(pre t).length<n/\ KO t->Pure (ITP prog) prog 41 [.agg (Enc.cells t)] (.agg (Enc.cells (RT.mk t)))
 |0,t,h=>absurd h.1 (not_lt_zero _)
 |n+1,t,h=>qea ((pre t).length+1) n t _ (fun x hx=>zxu n x hx) (qkc n t h.2 h.1 (by omega))
theorem z9o (t:Tr)(h:KO t):Pure (ITP prog) prog 41 [.agg (Enc.cells t)] (.agg (Enc.cells (RT.mk t))):=zxu ((pre t).length+1) t ⟨by omega,h⟩
def rtL (r:RT):List RT:=r.t.l.map RT.mk
theorem z4w (r:RT):(rtL r).length=r.t.l.length:=by simp[rtL]
theorem qic (r:RT):Enc.cellsL (rtL r)=qki r.t.l:=by
 show qki ((r.t.l.map RT.mk).map RT.t)=_;rw[map_map];congr 1;exact List.map_id _
section
variable {ρ:Operand->AV} {U:St} {o:Oper} {x:Operand} {b:Nat} {tt:TypeId}
theorem z9c (r:RT)(ho:o.op= .load 3 x)(hx:ρ x= .ptr b 0)(hb:U.boxes[b]? =some (tt,Enc.cells r)):qop prog ρ U o=some (.raw (.int .i64 ((r.t.k:Nat):Int))):=qio r.t ho hx (znr r▸hb)
theorem z8x (r:RT)(ho:o.op= .load 76 x)(hx:ρ x= .ptr b 1)(hb:U.boxes[b]? =some (tt,Enc.cells r)):qop prog ρ U o=some (.agg (Enc.cells (zgg r.t.s))):=qka r.t ho hx (znr r▸hb)
theorem z9b (r:RT)(ho:o.op= .load 3 x)(hx:ρ x= .ptr b 257)(hb:U.boxes[b]? =some (tt,Enc.cells r)):qop prog ρ U o=some (.raw (.int .i64 r.t.mn)):=qip r.t ho hx (znr r▸hb)
theorem z9t (r:RT)(ho:o.op= .load 3 x)(hx:ρ x= .ptr b 258)(hb:U.boxes[b]? =some (tt,Enc.cells r)):qop prog ρ U o=some (.raw (.int .i64 r.t.mx)):=qge r.t ho hx (znr r▸hb)
theorem zpc (r:RT)(ho:o.op= .load 77 x)(hx:ρ x= .ptr b 259)(hb:U.boxes[b]? =some (tt,Enc.cells r)):qop prog ρ U o=some (.list (length (rtL r)) (Enc.cellsL (rtL r)) .none):=by
 rw[z4w,qic];exact z2x r.t ho hx (znr r▸hb)
end
theorem rs_neA {ρ:Operand->AV} {o:Oper} {x y:Operand} {c} (s t:Ar)(ho:o.op= .binOp .neq 76 x y c)(hx:ρ x= .agg (Enc.cells s))(hy:ρ y= .agg (Enc.cells t)):zpt prog ρ o (.raw (.bool (!(eqA s t)))):=by
 replace hx:ρ x= .agg ((arL s).map qri):=hx;replace hy:ρ y= .agg ((arL t).map qri):=hy;refine⟨?_,by rw[ho];intros;simp,by rw[ho];intros;simp,.bool (!(eqA s t)),fun w=> ?_,rfl,rfl⟩
 ·rw[ho];simp[Op.operands,hx,hy,zrj]
 ·have h1:zca ρ x= .agg ((arL s).map (Value.int .i64)).toArray:=by simp only[zca,hx,zrj,getD_some]
  have h2:zca ρ y= .agg ((arL t).map (Value.int .i64)).toArray:=by simp only[zca,hy,zrj,getD_some]
  have h3:=eqIn103 9998 (arL s) (arL t) (qgq s) (qgq t) w;simp[execOp,ho,h1,h2,eqGuard,binOp,Op.equal,Op.maxDepth,program,Sem.run,qpn,h3,eqA]
end Go.Ab
namespace Go.Ab
open Go Go.RowKit Go.Fwd Go.Proofs
def z5s (a b:RT):Bool:=zgf a.t b.t
def ztk (fuel:Nat)(n:Nat)(a:RT)(b:RT):Option Bool:=
 (bif (((a.t.k:Nat):Int) !=((b.t.k:Nat):Int)) then(some false) else(bif (!(eqA (zgg a.t.s) (zgg b.t.s))) then(some false) else(bif (a.t.mn !=b.t.mn) then(some false) else(bif (a.t.mx !=b.t.mx) then(some false) else(bif ((length (rtL a):Int) !=(length (rtL b):Int)) then(some false) else(zcu (τ:=Unit) (zax (β:=Int) (fun s1=>(bif (decide (s1<(length (rtL a):Int))) then(chk (0<=s1/\ s1<(length (rtL a):Int)) (zba (ix (rtL a) s1) (fun x1=>(chk (0<=s1/\ s1<(length (rtL b):Int)) (zba (ix (rtL b) s1) (fun x2=>(chk (((pre x1.t).length<n)) (zba (z5s x1 x2) (fun x3=>(bif (!x3) then(some (inr (inr false))) else(chk (I64 (s1+1)) (some (inl ((s1+1))))))))))))))) else(some (inr (inl ()))))) fuel (0)) (fun j1=>(some true))))))))
theorem ent40:Ent prog 40:=enters_of Tryz.func40 (by kernel_rfl) rfl
theorem qjv (fuel:Nat)(n:Nat)(a:RT)(b:RT)(r:Bool)(ih: ∀(x y:RT),((pre x.t).length<n)->Pure (ITP prog) prog 40 [.A x,.A y] (.raw (.bool (z5s x y))))(h:ztk fuel n a b=some r):Pure (ITP prog) prog 40 [.A (a:RT),.A (b:RT)] (.raw (.bool r)):=by
 unfold ztk at h;refine zbl 58 mix Tryz.func40 ent40 ?_;refine zj (zb ?_);refine zdf (Enc.cells (a:RT)) ?_;refine zdf (Enc.cells (b:RT)) ?_;refine w_o (a:= .b false) ?_;refine zj ?_;refine zbb [.v (.ptr 0 0)] ?_;refine w_o (a:= .i ((a.t.k:Nat):Int)) (h:=zaz (z9c a rfl rfl rfl)) ?_;refine w_o (a:= .ptr 1 0) ?_;refine w_o (a:= .i ((b.t.k:Nat):Int)) (h:=zaz (z9c b rfl rfl rfl)) ?_;refine w_o (a:= .b (((a.t.k:Nat):Int) !=((b.t.k:Nat):Int))) ?_;refine zz h (fun hc1 h=> ?_) (fun hc1 h=> ?_);refine zai hc1 ?_;refine w_r [.p,.p,.p,.p,.p] ?_;refine w_r [.v (.b true),.m _,.p,.p,.p] ?_;refine w_r [.p,.p,.v (.b true),.m _,.p] ?_;refine w_r [.p,.p,.p,.p,.v (.b true)] ?_;refine w_r [.m _,.p,.p,.p,.p] ?_;refine w_r [.p,.p,.p,.v (.b true)] ?_;refine zbd rfl ?_;refine zbb [.v (.b false)] ?_;exact zal h;refine zai hc1 ?_;refine zao rfl rfl ?_;refine w_o (a:= .ptr 0 1) ?_;refine zao rfl rfl ?_;refine w_o (a:= .A ((zgg a.t.s):Ar)) (h:=zaz (z8x a rfl rfl rfl)) ?_;refine zao rfl rfl ?_;refine w_o (a:= .ptr 1 1) ?_;refine zao rfl rfl ?_;refine w_o (a:= .A ((zgg b.t.s):Ar)) (h:=zaz (z8x b rfl rfl rfl)) ?_;refine zao rfl rfl ?_;refine qcd (.b (!(eqA (zgg a.t.s) (zgg b.t.s)))) rfl rfl rfl (rs_neA (zgg a.t.s) (zgg b.t.s) rfl rfl rfl) (by dsimp only[zah,List.set]) ?_;refine w_o (a:= .b (!(eqA (zgg a.t.s) (zgg b.t.s)))) ?_;refine zz h (fun hc2 h=> ?_) (fun hc2 h=> ?_);refine zai hc2 ?_;refine w_r [.p,.p,.p,.p,.p] ?_;refine w_r [.v (.b true),.m _,.p,.p,.p] ?_;refine w_r [.p,.p,.v (.b true),.m _,.p] ?_;refine w_r [.p,.p,.p,.p,.p] ?_;refine w_r [.p,.v (.b true)] ?_;refine zbd rfl ?_;refine zbb [.v (.b false)] ?_;exact zal h;refine zai hc2 ?_;refine zao rfl rfl ?_;refine w_o (a:= .ptr 0 257) ?_;refine zao rfl rfl ?_;refine w_o (a:= .i a.t.mn) (h:=zaz (z9b a rfl rfl rfl)) ?_;refine zao rfl rfl ?_;refine w_o (a:= .ptr 1 257) ?_;refine zao rfl rfl ?_;refine w_o (a:= .i b.t.mn) (h:=zaz (z9b b rfl rfl rfl)) ?_;refine w_r [.v (.b (a.t.mn !=b.t.mn)),.v (.b (a.t.mn !=b.t.mn))] ?_;refine zz h (fun hc3 h=> ?_) (fun hc3 h=> ?_);refine zai hc3 ?_;refine w_r [.p,.p,.p,.p,.p] ?_;refine w_r [.v (.b true),.m _,.p,.p,.p] ?_;refine w_r [.p,.p,.p,.p,.v (.b true)] ?_;refine zbd rfl ?_;refine zbb [.v (.b false)] ?_;exact zal h;refine zai hc3 ?_;refine zao rfl rfl ?_;refine w_o (a:= .ptr 0 258) ?_;refine zao rfl rfl ?_;refine w_o (a:= .i a.t.mx) (h:=zaz (z9t a rfl rfl rfl)) ?_;refine zao rfl rfl ?_;refine w_o (a:= .ptr 1 258) ?_;refine zao rfl rfl ?_;refine w_o (a:= .i b.t.mx) (h:=zaz (z9t b rfl rfl rfl)) ?_;refine w_r [.v (.b (a.t.mx !=b.t.mx)),.v (.b (a.t.mx !=b.t.mx))] ?_;refine zz h (fun hc4 h=> ?_) (fun hc4 h=> ?_);refine zai hc4 ?_;refine w_r [.p,.p,.p,.p,.p] ?_;refine w_r [.p,.p,.v (.b true)] ?_;refine zbd rfl ?_;refine zbb [.v (.b false)] ?_;exact zal h;refine zai hc4 ?_;refine zao rfl rfl ?_;refine w_o (a:= .ptr 0 259) ?_;refine zao rfl rfl ?_;refine w_o (a:= .L ((rtL a):List RT)) (h:=zaz (zpc a rfl rfl rfl)) ?_;refine w_r [.v (.i (length (rtL a):Int)),.v (.ptr 1 259)] ?_;refine zao rfl rfl ?_;refine w_o (a:= .L ((rtL b):List RT)) (h:=zaz (zpc b rfl rfl rfl)) ?_;refine w_r [.v (.i (length (rtL b):Int)),.v (.b ((length (rtL a):Int) !=(length (rtL b):Int))),.v (.b ((length (rtL a):Int) !=(length (rtL b):Int)))] ?_;refine zbn h (fun hc5 h=> ?_) (fun hc5 h=> ?_);refine zbb [.v (.b false)] ?_;exact zal h;refine zan h (bz 0 60 1152921504606846975) (fun j1=>[]) (fun j1=>(.B [(79,(Enc.cells (a:RT))),(79,(Enc.cells (b:RT)))])) ?_ ?_;intro or1 h hr1;refine zbb [.v (.i 0)] ?_;refine zx ?_;refine zcf h (bz 0 60 1152921504606846963) (fun s1=>[(5,.i s1)]) (fun s1=>(.B [(79,(Enc.cells (a:RT))),(79,(Enc.cells (b:RT)))])) ?_ ?_;exact zbe (bl 60 44);intro s1 p1 h;refine zdi ?_;refine zj ?_;refine zbb [.m _,.v (.ptr 0 259)] ?_;refine w_o (a:= .L ((rtL a):List RT)) (h:=zaz (zpc a rfl rfl rfl)) ?_;refine w_r [.v (.i (length (rtL a):Int)),.v (.b (decide (s1<(length (rtL a):Int))))] ?_;refine zbn h (fun hc6 h=> ?_) (fun hc6 h=> ?_);refine zj ?_;refine zx ?_;refine zj ?_;refine zhe (k0:=0) (id:=6) 10 (by kernel_rfl) (by kernel_rfl) ?_;refine h_o (a:= .ptr 0 259) ?_;refine h_o (a:= .L ((rtL a):List RT)) (h:=zpc a rfl rfl rfl) ?_;refine zhv ?_;obtain⟨g1,h⟩:=ze h;obtain⟨x1,hx1,h⟩:=zk h;refine h_ix hx1 g1 ?_;refine h_o (a:= .A (x1:RT)) (h:=z3t x1 rfl rfl) ?_;refine h_o (a:= .ptr 1 259) ?_;refine h_o (a:= .L ((rtL b):List RT)) (h:=zpc b rfl rfl rfl) ?_;refine zhv ?_;obtain⟨g2,h⟩:=ze h;obtain⟨x2,hx2,h⟩:=zk h;refine h_ix hx2 g2 ?_;refine h_o (a:= .A (x2:RT)) (h:=z3t x2 rfl rfl) ?_;refine ziq ?_;obtain⟨g3,h⟩:=ze h;obtain⟨x3,hx3,h⟩:=zk h;refine zch (args':=[.A (x1:RT),.A (x2:RT)]) (r:= .b x3) (by rw[<-hx3];exact(ih x1 x2 g3)) ?_;refine w_o (a:= .b (!x3)) ?_;refine zbn h (fun hc7 h=> ?_) (fun hc7 h=> ?_);refine zbb [.v (.b false)] ?_;refine zg h (fun h=> ?_);replace h:=zi h hr1;exact zal h;refine zb (k0:=0) (id:=5) ?_;refine zar ?_;obtain⟨g4,h⟩:=ze h;refine zgu g4 ?_;refine zar ?_;refine zbf (p:=p1) ((s1+1)) h ?_;exact zbe (bl 60 44);refine zg h (fun h=> ?_);refine zc (o:=or1) () h ?_;exact zbe (bl 60 0);intro j1 h;refine zdi ?_;refine zbb [.v (.b true)] ?_;exact zal h
theorem qpv (r:RT)(i:Nat)(h:i<r.t.l.length):ix (rtL r) (i:Int)=RT.mk r.t.l[i]:=by
 have h2:i<(rtL r).length:=by rw[z4w];exact h
 rw[zur h2];simp[rtL]
theorem qnh {body:Int->Option (Int ⊕ (Unit ⊕ Bool))} {n:Nat} (p:Nat->Bool)(h1: ∀i:Nat,i<n->p i=true->body (i:Int)=some (.inl ((i:Int)+1)))(h2: ∀i:Nat,i<n->p i=false->body (i:Int)=some (.inr (.inr false)))(h3:body (n:Int)=some (.inr (.inl ()))) {fuel:Nat} (hf:n<fuel):
 zax body fuel 0=some (if(List.range n).all p=true then .inl () else .inr false):=by
 have key: ∀(c i:Nat),i+c=n->(∀j,j<i->p j=true)-> ∀f,c<f->zax body f (i:Int)=some (if(List.range n).all p=true then .inl () else .inr false):=by
  intro c;induction c with
  | zero=>
   intro i hi hall f hf
   match f,hf with
   | f+1,_=>
    have:(List.range n).all p=true:=all_eq_true.2 fun j hj=>hall j (by have:=mem_range.1 hj;omega);rw[zax,this,show i=n by omega,h3];rfl
  | succ c ih=>
   intro i hi hall f hf
   match f,hf with
   | f +1,hf=>
    rw[zax];cases hp:p i with
    | false=>
     have:(List.range n).all p=false:=by
      rw[<-Bool.not_eq_true,all_eq_true];intro h;have:=h i (mem_range.2 (by omega));rw[hp] at this;cases this
     rw[h2 i (by omega) hp,this];rfl
    | true=>
     rw[h1 i (by omega) hp];have:=ih (i+1) (by omega) (fun j hj=>by
      rcases lt_or_ge j i with hlt|hge
      ·exact hall j hlt
      ·have e:j=i:=by omega
       subst e;exact hp) f (by omega)
     simp only[Int.natCast_add,Int.natCast_one] at this;exact this
 exact key n 0 (by omega) (fun j hj=>absurd hj (not_lt_zero _)) fuel hf
theorem qbu (n k:Nat)(s:BS)(mn mx:Int)(l l2:List Tr)(hn:(pre (Tr.mk k s mn mx l)).length<n+1)(hlen:l.length<2^40)(h5:l.length=l2.length): ∀(i:Nat) (hi:i<l.length) (b:Bool),zgf (l.getD i zaw) (l2.getD i zaw)=b-> ∀(r:Option (Int ⊕ (Unit ⊕ Bool))),(b=true->some (inl ((i:Int)+1))=r)->(b=false->some (inr (inr false))=r)->(chk (0<=(i:Int)/\ (i:Int)<(l.length:Int)) (zba (ix (rtL (RT.mk (.mk k s mn mx l))) (i:Int)) (fun x1=>(chk (0<=(i:Int)/\ (i:Int)<(l2.length:Int)) (zba (ix (rtL (RT.mk (.mk k s mn mx l2))) (i:Int)) (fun x2=>(chk (((pre x1.t).length<n)) (zba (zgf x1.t x2.t) (fun x3=>(bif (!x3) then(some (inr (inr false))) else(chk (I64 ((i:Int)+1)) (some (inl ((i:Int)+1))))))))))))))=r:=fun i hi b hb r hr1 hr2=>by
 have hp:(pre (Tr.mk k s mn mx l)).length=1+(zbj l).length:=z6w ..;have hi2:i<l2.length:=by omega
 have hx:=zcr (getElem_mem hi);refine zf (by omega) (zm fun x1 e1=>zf (by omega) (zm fun x2 e2=> ?_));rw[show ix (rtL (RT.mk (.mk k s mn mx l))) (i:Int)=RT.mk l[i] from qpv (RT.mk (.mk k s mn mx l)) i hi] at e1;rw[show ix (rtL (RT.mk (.mk k s mn mx l2))) (i:Int)=RT.mk l2[i] from qpv (RT.mk (.mk k s mn mx l2)) i hi2] at e2;subst e1 e2;refine zf (by show(pre l[i]).length<n;omega) (zm fun x3 e3=> ?_);have e3:zgf l[i] l2[i]=x3:=e3;rw[List.getD_eq_getElem?_getD,List.getD_eq_getElem?_getD,getElem?_eq_getElem hi,getElem?_eq_getElem hi2] at hb;have hb:zgf l[i] l2[i]=b:=hb;rw[e3] at hb;subst hb;cases x3 with
 |false=>exact zdw rfl (hr2 rfl)
 |true=>exact zdo rfl (zf ⟨by omega,by omega⟩ (hr1 rfl))
theorem qht {fuel:Nat} (n:Nat)(a b:RT)(hn:(pre a.t).length<n+1)(hs:(pre a.t).length<2^40)(hf:(pre a.t).length<fuel):ztk fuel n a b=some (z5s a b):=by
 obtain⟨⟨k,s,mn,mx,l⟩⟩:=a;obtain⟨⟨k2,s2,mn2,mx2,l2⟩⟩:=b;have hp:(pre (Tr.mk k s mn mx l)).length=1+(zbj l).length:=z6w ..;have hlen:=zay l;simp only at hn hs hf;unfold ztk z5s;simp only[z4w,Tr.k,Tr.s,Tr.mn,Tr.mx,Tr.l];rw[qnj,qjw];by_cases hk:k=k2
 ·subst hk;simp only[bne_self_eq_false,cond_false,beq_self_eq_true,Bool.true_and];by_cases hs1:s=s2
  ·subst hs1;simp only[decide_true,Bool.not_true,cond_false,Bool.true_and];by_cases h3:mn=mn2
   ·subst h3;simp only[bne_self_eq_false,cond_false,beq_self_eq_true,Bool.true_and];by_cases h4:mx=mx2
    ·subst h4;simp only[bne_self_eq_false,cond_false,beq_self_eq_true,Bool.true_and];by_cases h5:l.length=l2.length
     ·rw [show((l.length:Int) !=(l2.length:Int))=false by simp[h5],cond_false];have hall:(List.range l.length).all (fun i=>zgf (l.getD i zaw) (l2.getD i zaw))=z3h zgf l l2:=by
       cases hc:z3h zgf l l2 with
       | true=>
        have:=(ztp _ _ _).1 hc;refine all_eq_true.2 fun i hi=> ?_;have hi:=mem_range.1 hi;rw[List.getD_eq_getElem?_getD,List.getD_eq_getElem?_getD,getElem?_eq_getElem hi,getElem?_eq_getElem (show i<l2.length by omega)];exact this.2 i hi (by omega)
       | false=>
        rw[<-Bool.not_eq_true,all_eq_true];intro h;have:z3h zgf l l2=true:=(ztp _ _ _).2 ⟨h5,fun i h1 h2=>by
         have:=h i (mem_range.2 h1);rwa[List.getD_eq_getElem?_getD,List.getD_eq_getElem?_getD,getElem?_eq_getElem h1,getElem?_eq_getElem h2] at this⟩
        rw[this] at hc;cases hc
      have step:=qbu n k s mn mx l l2 hn (by omega) h5
      have h0:=qnh (n:=l.length) (fun i=>zgf (l.getD i zaw) (l2.getD i zaw)) (body:=fun s1=>(bif (decide (s1<(l.length:Int))) then(chk (0<=s1/\ s1<(l.length:Int)) (zba (ix (rtL (RT.mk (.mk k s mn mx l))) s1) (fun x1=>(chk (0<=s1/\ s1<(l2.length:Int)) (zba (ix (rtL (RT.mk (.mk k s mn mx l2))) s1) (fun x2=>(chk (((pre x1.t).length<n)) (zba (zgf x1.t x2.t) (fun x3=>(bif (!x3) then(some (inr (inr false))) else(chk (I64 (s1+1)) (some (inl (s1+1)))))))))))))) else(some (inr (inl ())))))
       (fun i hi hp=>zdw (by simp;omega) (step i hi true hp _ (fun _=>rfl) (fun h=>by cases h))) (fun i hi hp=>zdw (by simp;omega) (step i hi false hp _ (fun h=>by cases h) (fun _=>rfl))) (zdo (by simp) rfl) (fuel:=fuel) (by omega)
      rw[hall] at h0;cases hc:z3h zgf l l2 with
      | true=>
       rw[hc] at h0;rw[if_pos rfl] at h0;exact zak () h0 rfl
      | false=>
       rw[hc] at h0;rw[if_neg Bool.false_ne_true] at h0;exact zoc false h0 rfl
     ·rw[show((l.length:Int) !=(l2.length:Int))=true by simp;omega,cond_true,qor h5]
    ·rw[show(mx !=mx2)=true by simpa using h4,cond_true,show(mx==mx2)=false by simpa using h4];rfl
   ·rw[show(mn !=mn2)=true by simpa using h3,cond_true,show(mn==mn2)=false by simpa using h3];rfl
  ·rw[show decide (s=s2)=false by simpa using hs1];rfl
 ·rw[show((k:Int) !=(k2:Int))=true by simp;omega,cond_true,show((k:Int)==(k2:Int))=false by simp;omega];rfl
theorem z3s: ∀(n:Nat) (a b:RT),(pre a.t).length<n->(pre a.t).length<2^40->Pure (ITP prog) prog 40 [.agg (Enc.cells a),.agg (Enc.cells b)] (.raw (.bool (z5s a b)))
 |0,a,b,h,_=>absurd h (not_lt_zero _)
 |n+1,a,b,h,hs=>qjv ((pre a.t).length+1) (min n (pre a.t).length) a b _ (fun x y hx=>z3s n x y (by omega) (by omega)) (qht _ a b (by omega) hs (by omega))
theorem k_rsame (a b:RT)(h:(pre a.t).length<2^40):Pure (ITP prog) prog 40 [.agg (Enc.cells a),.agg (Enc.cells b)] (.raw (.bool (z5s a b))):=z3s ((pre a.t).length+1) a b (by omega) h
end Go.Ab
namespace Go.Ab
open Go Go.RowKit Go.Fwd Go.Proofs
def zkz (a:Tr)(b:Tr):Option Bool:=
 (chk ((pre a).length<2^40/\ 0<=(500:Int)/\ (500:Int)<2^40) (zba (zvo a (500:Int)) (fun x1=>(bif (decide (x1<=500)) then(chk ((pre b).length<2^40/\ 0<=(500:Int)/\ (500:Int)<2^40) (zba (zvo b (500:Int)) (fun x2=>(bif (decide (x2<=500)) then(chk (KO a) (zba (RT.mk a) (fun x3=>(chk (KO b) (zba (RT.mk b) (fun x4=>(chk ((pre (x3:RT).t).length<2^40) (zba (z5s x3 x4) (fun x5=>(some x5)))))))))) else(some false))))) else(some false)))))
theorem ent14:Ent prog 14:=enters_of Tryz.func14 (by kernel_rfl) rfl
theorem zyc (a:Tr)(b:Tr)(r:Bool)(h:zkz a b=some r):Pure (ITP prog) prog 14 [.A (a:Tr),.A (b:Tr)] (.raw (.bool r)):=by
 unfold zkz at h;refine zbl 18 mix Tryz.func14 ent14 ?_;refine zj (zb ?_);refine zdf (Enc.cells (a:Tr)) ?_;refine zdf (Enc.cells (b:Tr)) ?_;refine w_o (a:= .b false) ?_;refine zj ?_;refine zhe (k0:=0) (id:=1) 12 (by kernel_rfl) (by kernel_rfl) ?_;refine h_o (a:= .A (a:Tr)) ?_;obtain⟨g1,h⟩:=ze h;obtain⟨x1,hx1,h⟩:=zk h;refine qcf (args':=[.A (a:Tr),.i 500]) (r:= .i x1) (by rw[<-hx1];exact(qrc a (500:Int) g1)) ?_;refine h_o (a:= .b (decide (x1<=500))) ?_;refine zz h (fun hc1 h=> ?_) (fun hc1 h=> ?_);refine h_o (a:= .b true) (h:=zhj rfl hc1) ?_;refine zlk rfl rfl ?_;refine h_o (a:= .A (b:Tr)) ?_;refine zlk rfl rfl ?_;obtain⟨g2,h⟩:=ze h;obtain⟨x2,hx2,h⟩:=zk h;refine qcf (args':=[.A (b:Tr),.i 500]) (r:= .i x2) (by rw[<-hx2];exact(qrc b (500:Int) g2)) ?_;refine zlk rfl rfl ?_;iterate 2 refine h_o (a:= .b (decide (x2<=500))) ?_
 refine zz h (fun hc2 h=> ?_) (fun hc2 h=> ?_);refine h_o (a:= .b true) (h:=zhj rfl hc2) ?_;refine zlk rfl rfl ?_;refine h_o (a:= .A (a:Tr)) ?_;refine zlk rfl rfl ?_;obtain⟨g3,h⟩:=ze h;obtain⟨x3,hx3,h⟩:=zk h;refine qcf (args':=[.A (a:Tr)]) (r:= .A (x3:RT)) (by rw[<-hx3];exact(z9o a g3)) ?_;refine zlk rfl rfl ?_;refine h_o (a:= .A (b:Tr)) ?_;refine ziq ?_;refine zao rfl rfl ?_;obtain⟨g4,h⟩:=ze h;obtain⟨x4,hx4,h⟩:=zk h;refine zch (args':=[.A (b:Tr)]) (r:= .A (x4:RT)) (by rw[<-hx4];exact(z9o b g4)) ?_;refine zao rfl rfl ?_;obtain⟨g5,h⟩:=ze h;obtain⟨x5,hx5,h⟩:=zk h;refine zch (args':=[.A (x3:RT),.A (x4:RT)]) (r:= .b x5) (by rw[<-hx5];exact(k_rsame x3 x4 g5)) ?_;refine w_r [.v (.b x5),.m _] ?_;exact zal h;refine h_o (a:= .b false) (h:=zhj rfl hc2) ?_;iterate 3 refine z0t ?_
 refine ziq ?_;refine w_r [.p,.p,.v (.b false),.m _] ?_;exact zal h;refine h_o (a:= .b false) (h:=zhj rfl hc1) ?_;iterate 3 refine z0t ?_
 refine h_o (a:= .b false) ?_;refine zhv ?_;iterate 3 refine z0t ?_
 refine ziq ?_;refine w_r [.p,.p,.v (.b false),.m _] ?_;exact zal h
end Go.Ab
namespace Go.Ab
open Go Go.RowKit Go.Fwd
open Go.ChangeMaps (setBlock)
section
variable {IT:IterP} {P:Program} {F:Fence} {nn B:Nat} {K:Exit->Act->World->Prop} {X0:Cx} {ops:Array Oper} {E:List AV} {sg:(Nat->Bool)->St} {Mi:MI} {i:Nat} {o:Oper} {x:AV}
theorem qld (hIT:ITMono IT)(hF:FenceOk F P) {t kt et d t' j':Nat} (hg:o.guard=none)(hop:o.op= .range t (.tmp t'))(hd:o.dst=some d)(ho:ops[i]? =some o)(hu:P.underlying t=some (.map kt et))(hi:Mi.om≠i)(hm:Mi.it=[(i,d)])(hm':(j',t',true)∈Mi.mvs)(hj:zby ops j'=some t')(hmv: ∀p∈Mi.mvs,p.1≠i/\ p.2.1≠d)(hin: ∀q∈Mi.ins,q.1≠i/\ q.2.2≠d)(htm:d<E.length)(hsg: ∀d,sg (zko d i)=sg d):
 qdl IT P F nn B K X0 ops E sg (MpOk ops Mi X0.w.heap.size) i o .top:=by
 refine⟨hg,fun d' S' X a next hs hd' hkk hbe hwt hwr hr hsz hn hΦ hK=> ?_⟩;have up: ∀j,j≠i->zko d' i j=d' j:=fun j hj=>zbk hj;have up': ∀j,d' j=true->zko d' i j=true:=fun j hj=>by
  by_cases e:j=i
  ·subst e;rw[hd'] at hj;cases hj
  ·rw[up j e];exact hj
 have hj':d' j'=true:=hwr j' t' hj (by simp only[zhy,ho,hop];exact mem_append.2 (.inl (zgr (by simp[Op.operands]))));obtain⟨hom,hall⟩:=hΦ.mvs _ hm' hj';obtain⟨m,es,c,k1,k2,k3,k4,k5⟩:=hΦ.map hom;have e1:a.eval (.tmp t')= .map (some m):=k3 _ hm' hj';unfold Oper.wpIn;refine⟨fun f _=>hF.fn f,?_⟩;rw[Oper.semAt_plain F _ _ (by intro c hc;rw[hop] at hc;cases hc)];have r1:(execOp a.eval o).run P X.w= .ok (.value (.pointer (some ⟨X.w.heap.size,0,none⟩))) (X.w.alloc (.mapIter (some m) c #[] c)):=by
  simp only[execOp,hop,e1,Sem.run_bind,run_range_map X.w t kt et m es c hu k2];rfl
 rw[r1];have n1:=ztj hIT hs hn (zxd X.w (.mapIter (some m) c #[] c) rfl);have n2:=zcg (P:=P) (M:=none) trivial hIT n1 (Ext.refl _) n1.inv ⟨rfl,rfl⟩ o.dst (x:= .top) (v:= .pointer (some ⟨X.w.heap.size,0,none⟩)) (by rw[Rep];trivial);refine hK _ _ (by rw[hsg];exact n2) ?_;have ne: ∀t1,t1≠d->(a.put o.dst (.pointer (some ⟨X.w.heap.size,0,none⟩))).eval (.tmp t1)=a.eval (.tmp t1):=fun t1 h=>zez _ _ _ _ (by rw[hd];intro e;exact h (Option.some.inj e).symm);have old: ∀(k:Nat) (ob:Obj),X.w.heap[k]? =some ob->(X.w.alloc (.mapIter (some m) c #[] c)).heap[k]? =some ob:=fun k ob h=>(Below.heap_alloc _ _ _ (Array.getElem?_eq_some_iff.1 h).1).trans h;refine⟨fun q hq hqd=> ?_,fun p hp hpd=> ?_,fun p hp hpd=>⟨up' _ hom,fun q hq=>up' _ (hall rfl q hq)⟩,fun _=>⟨m,es,c,k1,old _ _ k2,fun p hp hpd=> ?_,⟨k4.born,k4.nd,fun e he=> ?_,fun q hq hqd=> ?_⟩,fun p hp hpd=> ?_⟩⟩
 ·rw[up _ (hin q hq).1] at hqd;exact⟨up' _ hom,fun j hj=>up' _ ((hΦ.ins q hq hqd).2 j hj)⟩
 ·rw[up _ (hmv p hp).1] at hpd;exact⟨up' _ hom,fun hf q hq=>up' _ ((hΦ.mvs p hp hpd).2 hf q hq)⟩
 ·rw[up _ (hmv p hp).1] at hpd;rw[ne _ (hmv p hp).2];exact k3 p hp hpd
 ·obtain⟨q,hq,q1,q2,q3⟩:=k4.of e he;exact⟨q,hq,up' _ q1,q2,by rw[ne _ (hin q hq).2];exact q3⟩
 ·rw[up _ (hin q hq).1] at hqd;exact k4.all q hq hqd
 ·rw[hm,List.mem_singleton] at hp;subst hp;refine⟨X.w.heap.size,hs,zfl _ _ _ rfl,?_⟩;rw[hd];have hl:d<a.tmps.size:=by omega
  simp[Act.put,Act.eval,hl]
end
theorem qlg {a:Act} {t:Nat} {v:Value} (h:a.eval (.tmp t)=v)(hl:t<a.tmps.size):a.put (some t) v=a:=by
 have h1:a.tmps[t]=v:=by
  have:=h;simpa[Act.eval,hl] using this
 show({a with tmps:=a.tmps.setIfInBounds t v}:Act)=a
 have:a.tmps.setIfInBounds t v=a.tmps:=by
  rw[<-h1];apply Array.ext_getElem?;intro j;by_cases e:t=j
  ·subst e;simp[hl]
  ·rw[Array.getElem?_setIfInBounds_ne e]
 rw[this]
theorem z3x {P:Program} {F:Fence} (hF:FenceOk F P) {nn:Nat} {ops:Array Oper} {Q:Exit->Act->World->Prop} {o:Oper} {l:List Oper} {a:Act} {w w':World} {v:Value} (hg:o.guard=none)(hdf: ∀c,o.op≠ .defer c)(hrun:(execOp a.eval o).run P w= .ok (.value v) w')(h:wpListIn F nn P ops Q l (a.put o.dst v) w'):wpListIn F nn P ops Q (o::l) a w:=by
 simp only[wpListIn];rw[if_pos (by simp[Region.wanted,hg])];unfold Oper.wpIn;refine⟨fun f _=>hF.fn f,?_⟩;rw[Oper.semAt_plain F _ _ hdf,hrun];exact h
set_option maxHeartbeats 1000000 in
theorem qkb {P:Program} (hmix:P.follows .mixedOrders=true) {id1 id2 id3 id4 id5:Nat} {ops ops5:Array Oper} {nx ex en:Oper} {rest:Code} {l5:List Oper} {S E vs:List AV} {SL:Nat->List AV} {U σL:St} {sg:(Nat->Bool)->St} (Mi:MI) {it d69 d70 d71 ri:Nat} (ms:List Bool)
 (hall: ∀ {F:Fence} {nn B:Nat} {K:Exit->Act->World->Prop} {X0:Cx},FenceOk F P->qkk (ITP P) P F nn B K X0 ops E sg (MpOk ops Mi X0.w.heap.size) 0 ops.toList vs)
 (hE:zhr ops.toList vs S=E) (hfl:(floB ops S.length&&z1o ops)=true) (hσ:sg (fun j=>Nat.ble ops.size j)=U) (hσ':sg (fun _=>true)=σL) (hb:bndB Mi ops.size=true)
 (hit:Mi.it=[(ri,it)]) (hSL: ∀r,fgM ms (E.set it (.raw (.pointer (some ⟨r,0,none⟩))))=SL r)
 (hnx:nx.op= .next (.tmp it) false/\ nx.dst=some d69/\ nx.guard=none) (hex:ex.op= .extract (.tmp d69) 0/\ ex.dst=some d70/\ ex.guard=none) (hen:en.op= .entry (.tmp it)/\ en.dst=some d71/\ en.guard=none) (h5:ops5.toList=en::l5)
 (h69: ∀r,(SL r).set d69 .top=SL r) (h70: ∀r,(SL r).set d70 .top=SL r) (hne:it≠d69/\ it≠d70/\ it≠d71/\ d69≠d70/\ it<E.length/\ d69<E.length/\ d70<E.length/\ d71<E.length) (hgt: ∀r,(SL r)[it]? =some (.raw (.pointer (some ⟨r,0,none⟩)))) (hl: ∀r,(SL r).length=E.length) (hnr:zcs rest=true)
 (hbody: ∀(r:Nat) (q:Nat×Value×Nat),q∈Mi.ins->zcb (ITP P) P none ops5 (fun S2 U2=>awp (ITP P) P none σL.boxes.length rest (fun e S3 U3=>e= .normal/\ Wk σL.boxes.length S3 U3 (SL r) σL) S2 U2) l5 ((SL r).set d71 (.tup [.raw q.2.1,E[q.2.2]?.getD (.raw undef)])) σL)
 {S':List AV} (hS': ∀r,Fg (SL r) S'):
 qkv (ITP P) P (.seq (.region id1 ops true) (.block id2 (.loop (.seq (.region id3 #[nx,ex] false) (.seq (.cond (.tmp d70) .skip (.exit id2)) (.block id4 (.seq (.region id5 ops5 false) rest))))))) S U S' σL:=by
 have hIT:=zh P;intro F nn B X0 X a hF hI0 hn hfe;rw[and_eq_true] at hfl;have hG:zun P B none:=trivial;refine wpIn_seq ?_
 have KK: ∀(X:Cx) (a:Act),Now (ITP P) none F B X0 E σL X a->MpOk ops Mi X0.w.heap.size (fun _=>true) a X.w->
  (Code.block id2 (.loop (.seq (.region id3 #[nx,ex] false) (.seq (.cond (.tmp d70) .skip (.exit id2)) (.block id4 (.seq (.region id5 ops5 false) rest)))))).wpIn F nn P (fun e a' w'=>e= .normal/\ ∃X',X'.w=w'/\ Now (ITP P) none F B X0 S' σL X' a') a X.w:=by
  intro X a hn hΦ;obtain⟨m,es,c,k1,k2,k3,k4,k5⟩:=hΦ.map rfl;obtain⟨r,r1,r2,r3⟩:=k5 (ri,it) (by rw[hit];exact List.mem_singleton.2 rfl) rfl;refine wpIn_block ?_;refine wpIn_loop_rounds ((leftOf es #[]).size+1) ?_;have hsz: ∀ {X0 X:Cx} {S:List AV} {U:St} {a:Act},Now (ITP P) none F B X0 S U X a->a.tmps.size=S.length:=fun hn=>by
   have:=zu hn.reps;simpa using this.symm
  have key: ∀(n:Nat) (seen:Array Nat) (c0:Nat) (X:Cx) (a:Act),(leftOf es seen).size<=n->c<=c0->Now (ITP P) none F B X0 (SL r) σL X a->X.w.heap[m]? =some (.map es c)->X.w.heap[r]? =some (.mapIter (some m) c seen c0)->(∀e∈es.toList,∃q∈Mi.ins,e.key=q.2.1/\ Rep (ITP P) X (E[q.2.2]?.getD (.raw undef)) e.val)->
   Code.roundsIn F nn P (.seq (.region id3 #[nx,ex] false) (.seq (.cond (.tmp d70) .skip (.exit id2)) (.block id4 (.seq (.region id5 ops5 false) rest)))) (Exit.inBlock id2 fun e a' w'=>e= .normal/\ ∃X',X'.w=w'/\ Now (ITP P) none F B X0 S' σL X' a') (n+1) a X.w:=by
   intro n;induction n using Nat.strongRecOn with
   |_ n ih=>
   intro seen c0 X a hle hc hn hm hr hes;rw[roundsIn_succ];refine wpIn_seq (wpIn_region_list ?_);show wpListIn F nn P #[nx,ex] _ [nx,ex] a X.w;have hszl:=hsz hn;rw[hl] at hszl;have eit:a.eval (.tmp it)= .pointer (some ⟨r,0,none⟩):=by
    have:=zdt hn.reps (.tmp it);rw[show zbz (SL r) (.tmp it)= .raw (.pointer (some ⟨r,0,none⟩)) by simp[zbz,hgt r],Rep] at this;exact this
   have ex_run: ∀(a1:Act) (w1:World) (t:Array Value) (b:Bool),a1.eval (.tmp d69)= .tuple t->t[0]? =some (.bool b)->(execOp a1.eval ex).run P w1= .ok (.value (.bool b)) w1:=fun a1 w1 t b h1 h2=>by
    simp[execOp,hex.1,h1,Instr.extract,h2]
   have put2: ∀ {X:Cx} {a:Act} (u v:Value),Now (ITP P) none F B X0 (SL r) σL X a->Now (ITP P) none F B X0 (SL r) σL X ((a.put nx.dst u).put ex.dst v):=fun {X a} u v hn=>by
    have n1:=zcg (P:=P) hG hIT hn (Ext.refl X) hn.inv ⟨rfl,rfl⟩ nx.dst (x:= .top) (v:=u) (by rw[Rep];trivial);rw[hnx.2.1] at n1;rw[show zah (SL r) (some d69) .top=SL r from h69 r] at n1;have n2:=zcg (P:=P) hG hIT n1 (Ext.refl X) n1.inv ⟨rfl,rfl⟩ ex.dst (x:= .top) (v:=v) (by rw[Rep];trivial);rw[hex.2.1] at n2;rw[show zah (SL r) (some d70) .top=SL r from h70 r] at n2;rw[hnx.2.1,hex.2.1];exact n2
   have ev69: ∀u:Value,(a.put nx.dst u).eval (.tmp d69)=u:=fun u=>by
    rw[hnx.2.1];have hl:d69<a.tmps.size:=by omega
    simp[Act.put,Act.eval,hl]
   have ev70: ∀u v:Value,((a.put nx.dst u).put ex.dst v).eval (.tmp d70)=v:=fun u v=>by
    rw[hex.2.1,hnx.2.1];have hl:d70<a.tmps.size:=by omega
    simp[Act.put,Act.eval,hl]
   rcases run_next_at (P:=P) X.w nx.type r m c c0 seen es c hr hm k4.born hc with⟨h0,hrun⟩|⟨e,he,w1,hw1,hrun⟩
   ·refine z3x hF hnx.2.2 (by intro c hc;rw[hnx.1] at hc;cases hc) (v:= .tuple #[.bool false]) (w':=X.w) (by simp[execOp,hnx.1,eit,hrun]) ?_;refine z3x hF hex.2.2 (by intro c hc;rw[hex.1] at hc;cases hc) (ex_run _ X.w _ false (ev69 _) rfl) ?_
    show(Code.seq _ _).wpIn F nn P _ _ _
    refine wpIn_seq (wpIn_cond_false (ev70 _ _) (wpIn_exit ?_));have n2:=put2 (.tuple #[.bool false]) (.bool false) hn;have:(if id2=id2 then Exit.normal else Exit.exit id2)=Exit.normal:=if_pos rfl;simp only[Exit.then,Exit.inBlock,this]
    first
     |exact⟨rfl,X,rfl,{n2 with reps:=zih (hS' r) n2.reps}⟩
     |(simp;exact⟨X,rfl,{n2 with reps:=zih (hS' r) n2.reps}⟩)
   ·have hne0: ∃n',n=n'+1:=by
     cases n with
     | zero=>
      have h1:=List.length_pos_of_mem he;simp at h1;omega
     |succ n'=>exact⟨n',rfl⟩
    obtain⟨n',rfl⟩:=hne0;have n0:Now (ITP P) none F B X0 (SL r) σL {X with w:=w1} a/\ w1.heap=X.w.heap/\ Ext X {X with w:=w1}:=by
     rcases hw1 with rfl|rfl
     ·exact⟨hn,rfl,Ext.refl X⟩
     ·obtain⟨hEx,hI⟩:=znu hIT hn.inv;exact⟨⟨Ext.trans hn.ext hEx,hI,zau hIT hEx _ _ hn.reps,hn.marks.ext hEx hn.inv,trivial⟩,rfl,hEx⟩
    obtain⟨n0,hw,hE1⟩:=n0;have hr1:w1.heap[r]? =some (.mapIter (some m) c seen c0):=by rw[hw];exact hr
    have hsd:=z8c (.mapIter (some m) c (seen.push e.born) c) hr1 rfl (fun _ h=>by cases h);have n1:=ztj hIT r1 n0 hsd;have hmr:m≠r:=fun e=>by rw[e,hr] at hm;cases hm
    have hm2:(setBlock w1 r (.mapIter (some m) c (seen.push e.born) c)).heap[m]? =some (.map es c):=(hsd.same m (by rw[hw];exact(Array.getElem?_eq_some_iff.1 hm).1) hmr).trans (by rw[hw];exact hm);have hrl:r<w1.heap.size:=(Array.getElem?_eq_some_iff.1 hr1).1;have hr2:(setBlock w1 r (.mapIter (some m) c (seen.push e.born) c)).heap[r]? =some (.mapIter (some m) c (seen.push e.born) c):=by simp[setBlock,hrl]
    obtain⟨he1,he2⟩:=mem_left he;obtain⟨q,hq,hkey,hval⟩:=hes e he1;refine z3x hF hnx.2.2 (by intro c hc;rw[hnx.1] at hc;cases hc) (v:= .tuple #[.bool true,e.key,e.val]) (w':=setBlock w1 r (.mapIter (some m) c (seen.push e.born) c)) (by simp[execOp,hnx.1,eit,hrun]) ?_;refine z3x hF hex.2.2 (by intro c hc;rw[hex.1] at hc;cases hc) (ex_run _ _ _ true (ev69 _) rfl) ?_
    show(Code.seq _ _).wpIn F nn P _ _ _
    refine wpIn_seq (wpIn_cond_true (ev70 _ _) (wpIn_skip ?_));have n2:=put2 (.tuple #[.bool true,e.key,e.val]) (.bool true) n1;obtain⟨a2,ha2⟩: ∃a2,a2=(a.put nx.dst (.tuple #[.bool true,e.key,e.val])).put ex.dst (.bool true):=⟨_,rfl⟩;rw[<-ha2] at n2;rw[<-ha2];obtain⟨X2,hX2⟩: ∃X2:Cx,X2={X with w:=setBlock w1 r (.mapIter (some m) c (seen.push e.born) c)}:=⟨_,rfl⟩;have hsub:Sub X X2:=by rw[hX2];exact Sub.trans hE1.toSub (z0g n0.inv hsd)
    have n2':Now (ITP P) none F B X0 (SL r) σL X2 a2:=by rw[hX2];exact n2
    show(Code.block id4 _).wpIn F nn P _ a2 (setBlock w1 r (.mapIter (some m) c (seen.push e.born) c))
    rw[show setBlock w1 r (.mapIter (some m) c (seen.push e.born) c)=X2.w by rw[hX2]];rw[show setBlock w1 r (.mapIter (some m) c (seen.push e.born) c)=X2.w by rw[hX2]] at hm2 hr2;refine wpIn_block (wpIn_seq (wpIn_region_list ?_));rw[h5];have eit2:a2.eval (.tmp it)= .pointer (some ⟨r,0,none⟩):=by
     have:=zdt n2'.reps (.tmp it);rw[show zbz (SL r) (.tmp it)= .raw (.pointer (some ⟨r,0,none⟩)) by simp[zbz,hgt r],Rep] at this;exact this
    refine z3x hF hen.2.2 (by intro c hc;rw[hen.1] at hc;cases hc) (v:= .tuple #[e.key,e.val]) (w':=X2.w) (by simp[execOp,hen.1,eit2,run_entry_at X2.w r m c seen es c e hr2 hm2 he1 k4.nd]) ?_;have rq:Rep (ITP P) X2 (.tup [.raw q.2.1,E[q.2.2]?.getD (.raw undef)]) (.tuple #[e.key,e.val]):=by
     rw[Rep];refine⟨[e.key,e.val],rfl,e.key,[e.val],rfl,?_,e.val,[],rfl,zmh hIT hsub _ _ hval,rfl⟩;rw[Rep];exact hkey
    have n3:=zcg (P:=P) hG hIT n2' (Ext.refl X2) n2'.inv ⟨rfl,rfl⟩ en.dst rq;rw[hen.2.1] at n3;have n4:=n3.from
    have hκ:X2.κ.length<=σL.boxes.length:=by rw[n2'.inv.κlen];exact le_refl _
    have hB2:B<=X2.w.heap.size:=Nat.le_trans hI0.1 (Ext.size n2'.ext);rw[hen.2.1];refine zgv (M:=none) hIT hF hG (X0:=X2) (Q:=fun S2 U2=>awp (ITP P) P none σL.boxes.length rest (fun e S3 U3=>e= .normal/\ Wk σL.boxes.length S3 U3 (SL r) σL) S2 U2) ?_ l5 _ _ _ _ (hbody r q hq) n4;intro S2 U2 X3 a3 hawp n5;refine zwb hmix rest (M:=none) hG hF σL.boxes.length _ S2 U2 X2 X3 a3 _ hκ ⟨hB2,_,n2'.inv⟩ hawp n5 (.inr hnr) ?_;rintro e3 S3 U3 X4 a4 ⟨rfl,hwk⟩ n6;obtain⟨X5,hw5,n7⟩:=z2s hIT hκ hwk n6;show Code.roundsIn F nn P _ _ (n'+1) a4 X4.w;rw[<-hw5];have hE5:Ext X2 X5:=n7.ext;refine ih n' (by omega) (seen.push e.born) c X5 a4 (by have:=left_shrinks es seen e he;omega) (le_refl _) (n2'.back n7) (hE5.noncells n2'.inv hm2 rfl) (hE5.noncells n2'.inv hr2 rfl) fun e' he'=> ?_;obtain⟨q',hq',y1,y2⟩:=hes e' he';exact⟨q',hq',y1,zfk hIT hE5 _ _ (zmh hIT hsub _ _ y2)⟩
  have hszE:=hsz hn;have hn':Now (ITP P) none F B X0 (SL r) σL X a:=by
   have rp:znx (ITP P) X (E.set it (.raw (.pointer (some ⟨r,0,none⟩)))) a.tmps:=by
    have:=zqe (IT:=ITP P) (X:=X) hn.reps (some it) (x:= .raw (.pointer (some ⟨r,0,none⟩))) (v:= .pointer (some ⟨r,0,none⟩)) (by rw[Rep]);rw[qlg r3 (by rw[hszE];exact hne.2.2.2.2.1)] at this;exact this
   exact {hn with reps:=zih (by rw[<-hSL r];exact zqf ms _) rp}
  refine key _ #[] c X a (le_refl _) (le_refl _) hn' k2 r2 fun e he=> ?_;obtain⟨q,hq,q1,q2,q3⟩:=k4.of e he;exact⟨q,hq,q2,by rw[q3];exact zdt hn.reps (.tmp q.2.2)⟩
 obtain⟨hll,hat⟩:=zyv _ _ _ (hall (nn:=nn) (B:=B) (K:=Exit.then (fun a w=>(Code.block id2 (.loop (.seq (.region id3 #[nx,ex] false) (.seq (.cond (.tmp d70) .skip (.exit id2)) (.block id4 (.seq (.region id5 ops5 false) rest)))))).wpIn F nn P (fun e a' w'=>e= .normal/\ ∃X',X'.w=w'/\ Now (ITP P) none F B X0 S' σL X' a') a w) (fun e a' w'=>e= .normal/\ ∃X',X'.w=w'/\ Now (ITP P) none F B X0 S' σL X' a')) (X0:=X0) hF);refine qgs hIT hF hmix (MpOk ops Mi X0.w.heap.size) hE hll hfl.1 hfl.2 hσ (z8d hb) hn (fun i o x ho hx=> ?_) fun X a hn hΦ=>KK X a (hσ'▸hn) hΦ;have:=hat i o x (by rw[<-ho,Array.getElem?_toList]) hx (by rw[zero_add];exact ho);rw[zero_add] at this;exact this
end Go.Ab
namespace Go.Ab
open Go Go.RowKit Go.Fwd Go.Proofs
structure Ct where
 f:Nat
 args:List AV
 r:AV
def CtOk (c:Ct):Prop:=Pure (ITP prog) prog c.f c.args c.r
def tbl (T:List Ct):CallP:=fun f args=>match T.find? (fun c=>c.f==f&&zon c.args args) with
 |some c=>some c.r
 |none=>none
theorem zjg {T:List Ct} (h: ∀c∈T,CtOk c):Good prog (tbl T) noS:=⟨mix,ents,(fun f args r e=>by
 unfold tbl at e;split at e
 ·rename_i c hc;cases e;have h1:=List.find?_some hc;simp only[and_eq_true,beq_iff_eq] at h1;have h2:=h c (List.mem_of_find?_eq_some hc);rw[CtOk,h1.1,zgo _ _ h1.2] at h2;exact h2
 ·cases e),(fun _ _ _ _ _ h=>nomatch h)⟩
def avT (t:Tr):AV:= .agg (Enc.cells t)
def avG (t:Rg):AV:= .agg (Enc.cells t)
def avZ (l:List UInt8):AV:= .raw (.string (bs l))
def avI (n:Int):AV:= .raw (.int .i64 n)
section
variable {H:Bool} {P:Program} {Ω:CallP} {Ψ:CallS}
def sufC:Nat->Code->Code
 |0,c=>c
 |n+1,.seq _ y=>sufC n y
 |_+1,c=>c
def qgp (run:Run):Nat->Code->List AV->St->Option (List AV×St)
 |0,_,S,U=>some (S,U)
 | n+1,.seq x y,S,U=>match run x S.length S U with
  |some (.normal,S1,U1)=>qgp run n y S1 U1
  |_=>none
 |_+1,_,_,_=>none
theorem w_pre (hG:Good P Ω Ψ) {k k0:Nat} {Q:AQ} {S':List AV} {U':St}: ∀(n:Nat) (c:Code) (S:List AV) (U:St) (S1:List AV) (U1:St),qgp (evQ H P Ω Ψ k) (n+1) c S U=some (S1,U1)->Wk k0 S1 U1 S' U'->awp (ITP P) P none k0 (sufC (n+1) c) Q S' U'->awp (ITP P) P none k0 c Q S U
 | n,.seq x y,S,U,S1,U1,h,hw,hk=>by
  rw[qgp] at h;split at h
  ·rename_i S2 U2 h2;obtain⟨hl,h3⟩:=zub (H:=H) hG k _ _ _ _ _ _ _ h2 rfl;refine .inl (zdq (h3 _ ?_));cases n with
   | zero=>
    rw[qgp] at h;cases h;exact⟨S',U',hw,hk⟩
   |succ n=>exact⟨S2,U2,Wk.refl _ _ _,w_pre hG n y S2 U2 S1 U1 h hw hk⟩
  ·cases h
 |_,.skip,_,_,_,_,h,_,_=>by cases h
 |_,.cond _ _ _,_,_,_,_,h,_,_=>by cases h
 |_,.block _ _,_,_,_,_,h,_,_=>by cases h
 |_,.loop _,_,_,_,_,h,_,_=>by cases h
 |_,.exit _,_,_,_,_,h,_,_=>by cases h
 |_,.ret,_,_,_,_,h,_,_=>by cases h
 |_,.label _,_,_,_,_,h,_,_=>by cases h
 |_,.scope _,_,_,_,_,h,_,_=>by cases h
 |_,.region _ _ _,_,_,_,_,h,_,_=>by cases h
 |_,.rangeFunc _ _ _ _,_,_,_,_,h,_,_=>by cases h
 |_,.goto _,_,_,_,_,h,_,_=>by cases h
 |_,.refuse _,_,_,_,_,h,_,_=>by cases h
def qra:Option AV->Bool
 |some (.raw (.bool true))=>true
 |_=>false
def tailB (run:Run)(P:Program)(fn:Func)(c:Code)(S:List AV)(U:St):Bool:=match run c S.length S U with
 |some (.ret,S1,U1)=>qra (zav P fn U1 S1)
 |_=>false
theorem w_tail (hG:Good P Ω Ψ) {k k0:Nat} {fn:Func} {c:Code} {S:List AV} {U:St} (h:tailB (evQ H P Ω Ψ k) P fn c S U=true):awp (ITP P) P none k0 c (zwg P fn (.raw (.bool true))) S U:=by
 unfold tailB at h;split at h
 ·rename_i S1 U1 h1;obtain⟨_,h2⟩:=zub (H:=H) hG k _ _ _ _ _ _ _ h1 rfl;refine zdq (h2 _ ?_);unfold qra at h;split at h
  ·rename_i h3;exact zal (y:=true) rfl h3
  ·cases h
 ·cases h
def qqs (run:Run)(cp:CallP)(cs:CallS)(P:Program)(Ψ:CallS)(ops:Array Oper)(l:List Oper)(rest:Code)(n:Nat)(ms:List Bool)(S:List AV)(U:St):Option (List AV×St):=match zpe P Ψ cp cs ops l S U with
 | some (S1,U1)=>match run rest S1.length S1 U1 with
  |some (.normal,S2,U2)=>if z0u n U2=true/\ zaf n (fgM ms S2)=true then some (fgM ms S2,zfj n U2) else none
  |_=>none
 |none=>none
theorem znf (hG:Good P Ω Ψ) {k n:Nat} {ops:Array Oper} {l:List Oper} {rest:Code} {ms:List Bool} {S S':List AV} {U U':St} (h:qqs (evQ H P Ω Ψ k) (zlo P Ω (evQ H P Ω Ψ k)) (zsh P Ψ (evQ H P Ω Ψ k)) P Ψ ops l rest n ms S U=some (S',U')):
 zcb (ITP P) P none ops (fun S2 U2=>awp (ITP P) P none n rest (fun e S3 U3=>e= .normal/\ Wk n S3 U3 S' U') S2 U2) l S U:=by
 unfold qqs at h;split at h
 ·rename_i S1 U1 h1;split at h
  ·rename_i S2 U2 h2;split at h
   ·rename_i hc;cases h;obtain⟨_,h3⟩:=zga hG.oracleS (zuh hG (zub (H:=H) hG k)) (z1s hG (zub (H:=H) hG k)) l _ _ _ _ h1;obtain⟨_,h4⟩:=zub (H:=H) hG k _ _ _ _ _ _ _ h2 rfl;exact h3 _ (zdq (h4 _ ⟨rfl,zce ms n rfl (le_refl _) hc.1 hc.2 rfl⟩))
   ·cases h
  ·cases h
 ·cases h
end
def clT (s:BS):Tr:= .mk 2 s 0 0 []
def bS (n:Nat):BS:=1#256<<<n
def z5b:Tr:= .mk 5 0#256 0 (-1) [clT (bS 98)]
def twoT:Tr:= .mk 5 0#256 2 3 [clT (bS 99)]
def emT:Tr:= .mk 1 0#256 0 0 []
def abcU:BS:=bS 97|||bS 98|||bS 99
def qmu:Tr:=clT (~~~ abcU)
def digU:BS:=digS|||bS 95
def eS0:List UInt8:=[97,124,98,42,99]
def eG0:Rg:=Rg.mk false false (.mk 4 0#256 0 0 [clT (bS 97),.mk 3 0#256 0 0 [z5b,clT (bS 99)]])
def eS1:List UInt8:=[94,97,98,36]
def eG1:Rg:=Rg.mk true true (.mk 3 0#256 0 0 [clT (bS 97),clT (bS 98)])
def eS2:List UInt8:=[40,97,41,40,63,58,98,124,41,99,123,50,44,51,125]
def eG2:Rg:=Rg.mk false false (.mk 3 0#256 0 0 [.mk 6 0#256 0 0 [clT (bS 97)],.mk 4 0#256 0 0 [clT (bS 98),emT],twoT])
def eS3:List UInt8:=[91,94,97,45,99,93]
def eG3:Rg:=Rg.mk false false qmu
def eS4:List UInt8:=[91,92,100,95,93]
def eG4:Rg:=Rg.mk false false (clT digU)
def eS5:List UInt8:=[97,123,49,125]
def eG5:Rg:=Rg.mk false false (clT (bS 97))
def exL:List (List UInt8×Rg):=[(eS0,eG0),(eS1,eG1),(eS2,eG2),(eS3,eG3),(eS4,eG4),(eS5,eG5)]
def erL:List (List UInt8×Int×Int):=[([97,42,42],2,92),([42,97],0,92),([40,97],0,91),([97,41],1,91),([97,94],1,95),([97,36,98],1,95),([91,93],1,94),([91,98,45,97,93],2,94),([97,123,48,125],1,93),([97,123,51,44,50,125],1,93),([97,123,120],2,93),([97,93],1,90),([92,113],0,90)]
def tblR:List Ct:=(exL.map fun p=>⟨12,[avZ p.1],.tup [avG p.2,avI (p.1.length:Int),avI 0]⟩)++(exL.map fun p=>⟨14,[avT p.2.t,avT p.2.t],.raw (.bool true)⟩)++erL.map fun p=>⟨12,[avZ p.1],.tup [avG (Rg.mk false false zaw),avI p.2.1,avI p.2.2]⟩
theorem zoj: ∀c∈tblR,CtOk c:=by
 intro c hc;simp only[tblR,mem_append,List.mem_map] at hc;rcases hc with(⟨p,hp,rfl⟩|⟨p,hp,rfl⟩)|⟨p,hp,rfl⟩
 ·refine qer 1100 10 p.1 (p.2,(p.1.length:Int),0) ?_;simp only[exL,mem_cons,List.not_mem_nil,or_false] at hp;rcases hp with rfl|rfl|rfl|rfl|rfl|rfl<;>kernel_rfl
 ·refine zyc p.2.t p.2.t true ?_;simp only[exL,mem_cons,List.not_mem_nil,or_false] at hp;rcases hp with rfl|rfl|rfl|rfl|rfl|rfl<;>decide+kernel
 ·refine qer 1100 10 p.1 (Rg.mk false false zaw,p.2.1,p.2.2) ?_;simp only[erL,mem_cons,List.not_mem_nil,or_false] at hp;rcases hp with rfl|rfl|rfl|rfl|rfl|rfl|rfl|rfl|rfl|rfl|rfl|rfl|rfl<;>kernel_rfl
theorem qbw:Good prog (tbl []) noS:=zjg fun c hc=>by cases hc
theorem cls0:CtOk ⟨24,[avZ [98]],avT (clT (bS 98))⟩:=zdm true qbw 300 (by kernel_rfl)
theorem cls1:CtOk ⟨24,[avZ [99]],avT (clT (bS 99))⟩:=zdm true qbw 300 (by kernel_rfl)
theorem cls3:CtOk ⟨24,[avZ [97]],avT (clT (bS 97))⟩:=zdm true qbw 300 (by kernel_rfl)
theorem cls4:CtOk ⟨24,[avZ [48,49,50,51,52,53,54,55,56,57,95]],avT (clT (digU))⟩:=zdm true qbw 300 (by kernel_rfl)
def qiy:List AV:=[.raw (.int .u8 5),.raw (.int .u64 0),.raw (.int .u64 0),.raw (.int .u64 0),.raw (.int .u64 0),.raw (.int .i64 0),.raw (.int .i64 (-1)),.list 1 (Enc.cells (clT (bS 98))) .full]
def twoC:List AV:=[.raw (.int .u8 5),.raw (.int .u64 0),.raw (.int .u64 0),.raw (.int .u64 0),.raw (.int .u64 0),.raw (.int .i64 2),.raw (.int .i64 3),.list 1 (Enc.cells (clT (bS 99))) .full]
def emC:List AV:=[.raw (.int .u8 1),.raw (.int .u64 0),.raw (.int .u64 0),.raw (.int .u64 0),.raw (.int .u64 0),.raw (.int .i64 0),.raw (.int .i64 0),.list 0 [] .full]
def awS:List AV:=(.raw (.bool false):: .ptr 0 0:: .ptr 1 0:: .ptr 2 0:: .ptr 3 0:: .top:: .top:: .top:: .top:: .top:: .top:: .top:: .top:: .top:: .top:: .top:: .top:: .top:: .top:: .top:: .top:: .top:: .top:: .top:: .top:: .top:: .top:: .top:: .top:: .top:: .top:: .top:: .top:: .top:: .top:: .top:: .top:: .top:: .top:: .top:: .top:: .top:: .top:: .top:: .top:: .top:: .top:: .top:: .top:: .top:: .top:: .top:: .top:: .top:: .top:: .top:: .top:: .top:: .top:: .top:: .top:: .top:: .top:: .top:: .top:: .top:: .top:: .top:: .top:: .top:: .top:: .top:: .top:: .top:: .top:: .top:: .top:: .top:: .top:: .top:: .top:: .top:: .top:: .top:: .top:: .top:: .top:: .top:: .top:: .top:: .top:: .top:: .top:: .top:: .top:: .top:: .top:: .top:: .top:: .top:: .top:: .top:: .top:: .top:: .top:: .top:: .top:: .top:: .top:: .top:: .top:: .top:: .top:: .top:: .top:: .top:: .top:: .top:: .top:: .top:: .top:: .top:: .top:: .top:: .top:: .top:: .top:: .top:: .top:: .top:: .top:: .top:: .top:: .top:: .top:: .top:: .top:: .top:: .top:: .top:: .top:: .top:: .top:: .top:: .top:: .top:: .top::[])
def awE:List AV:=(.raw (.bool false):: .ptr 0 0:: .ptr 1 0:: .ptr 2 0:: .ptr 3 0:: .top:: .top:: .top:: .top:: .top:: .top:: .top:: .top:: .top:: .top:: .top:: .top:: .top:: .top:: .top:: .top:: .top:: .top:: .top:: .top:: .top:: .top:: .top:: .top:: .top:: .top:: .top:: .top:: .top:: .top:: .top:: .top::avT (clT (bS 97)):: .agg qiy::avT (clT (bS 99)):: .list 2 (qiy++Enc.cells ((clT (bS 99)):Tr)) .full::avT (.mk 3 0#256 0 0 [z5b,(clT (bS 99))]):: .list 2 (Enc.cells ((clT (bS 97)):Tr)++Enc.cells ((.mk 3 0#256 0 0 [z5b,(clT (bS 99))]):Tr)) .full::avT eG0.t::avG eG0::avT (clT (bS 97))::avT (clT (bS 98)):: .list 2 (Enc.cells ((clT (bS 97)):Tr)++Enc.cells ((clT (bS 98)):Tr)) .full::avT eG1.t::avG eG1::avT (clT (bS 97)):: .list 1 (Enc.cells ((clT (bS 97)):Tr)) .full::avT (.mk 6 0#256 0 0 [(clT (bS 97))])::avT (clT (bS 98)):: .agg emC:: .list 2 (Enc.cells ((clT (bS 98)):Tr)++emC) .full::avT (.mk 4 0#256 0 0 [(clT (bS 98)),emT]):: .agg twoC:: .list 3 (Enc.cells ((.mk 6 0#256 0 0 [(clT (bS 97))]):Tr)++Enc.cells ((.mk 4 0#256 0 0 [(clT (bS 98)),emT]):Tr)++twoC) .full::avT eG2.t::avG eG2::avT qmu::avG eG3::avT (clT digU)::avG eG4::avT (clT (bS 97))::avG eG5:: .top:: .top:: .top:: .top:: .top:: .top:: .top:: .top:: .top:: .top:: .top:: .top:: .top:: .top:: .top:: .top:: .top:: .top:: .top:: .top:: .top:: .top:: .top:: .top:: .top:: .top:: .top:: .top:: .top:: .top:: .top:: .top:: .top:: .top:: .top:: .top:: .top:: .top:: .top:: .top:: .top:: .top:: .top:: .top:: .top:: .top:: .top:: .top:: .top:: .top:: .top:: .top:: .top:: .top:: .top:: .top:: .top:: .top:: .top:: .top:: .top:: .top:: .top:: .top:: .top:: .top:: .top:: .top:: .top:: .top:: .top:: .top:: .top:: .top:: .top:: .top:: .top:: .top:: .top:: .top::[])
def awσ:St:=⟨[(29,qiy),(29,twoC),(29,emC),(29,Enc.cells qmu)],[],[],0,false⟩
def awM:MI:=⟨0,[(0,36,false),(37,67,true)],[(9,.string (bs eS0),44),(15,.string (bs eS1),49),(27,.string (bs eS2),60),(30,.string (bs eS3),62),(33,.string (bs eS4),64),(36,.string (bs eS5),66)],[(38,68)]⟩
theorem zxq (k:Nat)(l:List AV)(t:Tr)(h:zlo prog (tbl []) (evQ true prog (tbl []) noS 300) 25 [.raw (.int .u8 k),.list t.l.length l .none]=some (avT t)):Pure (ITP prog) prog 25 [.raw (.int .u8 k),.list t.l.length l .none] (avT t):=zdm true qbw 300 h
theorem keyNe_s {a b:List UInt8} (h:((bs a)==(bs b))=false):z3b .string (.string (bs a)) (.string (bs b)):=by
 show some ((bs a)==(bs b))=some false;rw[h]
def qql:List (Nat×Nat):=[(9,0),(15,1),(27,2),(30,3),(33,4),(36,5)]
def insS (n:Nat):List UInt8:=match n with|0=>eS0|1=>eS1|2=>eS2|3=>eS3|4=>eS4|_=>eS5
def insV (n:Nat):Nat:=match n with|0=>44|1=>49|2=>60|3=>62|4=>64|_=>66
theorem insK (i n:Nat)(q:Nat×Value×Nat)(hq:q∈awM.ins)(h:(i,n)∈qql):q=(i,.string (bs (insS n)),insV n) \/(q.1≠i/\ z3b .string (.string (bs (insS n))) q.2.1):=by
 simp only[awM,qql,mem_cons,List.not_mem_nil,or_false,Prod.mk.injEq] at hq h;rcases h with⟨rfl,rfl⟩|⟨rfl,rfl⟩|⟨rfl,rfl⟩|⟨rfl,rfl⟩|⟨rfl,rfl⟩|⟨rfl,rfl⟩<;>rcases hq with rfl|rfl|rfl|rfl|rfl|rfl<;>first|exact .inl rfl|exact .inr ⟨by decide,keyNe_s (by decide+kernel)⟩
def awMs:List Bool:=[true,true,true,true,true,true,true,true,true,true,true,true,true,true,true,true,true,true,true,true,true,true,true,true,true,true,true,true,true,true,true,true,true,true,true,true,false,false,false,false,false,false,false,false,false,false,false,false,false,false,false,false,false,false,false,false,false,false,false,false,false,false,false,false,false,false,false,false,true,true,true,true,true,true,true,true,true,true,true,true,true,true,true,true,true,true,true,true,true,true,true,true,true,true,true,true,true,true,true,true,true,true,true,true,true,true,true,true,true,true,true,true,true,true,true,true,true,true,true,true,true,true,true,true,true,true,true,true,true,true,true,true,true,true,true,true,true,true,true,true,true,true,true,true,true,true,true]
def awM2:List Bool:=[true,true,true,true,true,true,false,false,false,false,false,true,true,true,true,true,true,true,true,true,true,true,true,true,true,true,true,true,true,true,true,true,true,true,true,true,true,true,true,true,true,true,true,true,true,true,true,true,true,true,true,true,true,true,true,true,true,true,true,true,true,true,true,true,true,true,true,true,true,false,false,false,false,false,false,false,false,false,false,false,false,false,false,false,false,false,false,false,false,false,false,false,false,false,false,false,false,false,false,false,false,false,false,false,false,false,false,false,false,false,true,true,true,true,true,true,true,true,true,true,true,true,true,true,true,true,true,true,true,true,true,true,true,true,true,true,true,true,true,true,true,true,true,true,true,true,true]
def awSL (r:Nat):List AV:=awS.set 68 (.raw (.pointer (some ⟨r,0,none⟩)))
theorem aw_map {F:Fence} {nn B:Nat} {K:Exit->Act->World->Prop} {X0:Cx} {ops:Array Oper} (hops:(do let c<-Tryz.f7.body;zls 10 c)=some ops)(hF:FenceOk F Tryz.prog):qkk (ITP Tryz.prog) Tryz.prog F nn B K X0 ops awE (sgL awσ []) (MpOk ops awM X0.w.heap.size) 0 ops.toList ((.top::avT (clT (bS 97)):: .agg qiy::avT (clT (bS 99)):: .list 2 (qiy++Enc.cells ((clT (bS 99)):Tr)) .full::avT (.mk 3 0#256 0 0 [z5b,(clT (bS 99))]):: .list 2 (Enc.cells ((clT (bS 97)):Tr)++Enc.cells ((.mk 3 0#256 0 0 [z5b,(clT (bS 99))]):Tr)) .full::avT eG0.t::avG eG0:: .raw undef::avT (clT (bS 97))::avT (clT (bS 98)):: .list 2 (Enc.cells ((clT (bS 97)):Tr)++Enc.cells ((clT (bS 98)):Tr)) .full::avT eG1.t::avG eG1:: .raw undef::avT (clT (bS 97)):: .list 1 (Enc.cells ((clT (bS 97)):Tr)) .full::avT (.mk 6 0#256 0 0 [(clT (bS 97))])::avT (clT (bS 98)):: .agg emC:: .list 2 (Enc.cells ((clT (bS 98)):Tr)++emC) .full::avT (.mk 4 0#256 0 0 [(clT (bS 98)),emT]):: .agg twoC:: .list 3 (Enc.cells ((.mk 6 0#256 0 0 [(clT (bS 97))]):Tr)++Enc.cells ((.mk 4 0#256 0 0 [(clT (bS 98)),emT]):Tr)++twoC) .full::avT eG2.t::avG eG2:: .raw undef::avT qmu::avG eG3:: .raw undef::avT (clT digU)::avG eG4:: .raw undef::avT (clT (bS 97))::avG eG5:: .raw undef:: .top:: .top::[])):=by
 cases hops;refine⟨fun _=>qhv (zh _) hF rfl rfl rfl rfl (by simp[awM]) (by decide) (by decide) (by decide) (Nat.le_of_ble_eq_true rfl) (fun _=>rfl),?_⟩;refine⟨d_c (zh _) hF cls3 (hb:=by kernel_rfl),?_⟩;refine⟨d_l (zh _) hF (by kernel_rfl) qaz (hb:=by kernel_rfl),?_⟩;refine⟨d_c (zh _) hF cls1 (hb:=by kernel_rfl),?_⟩;refine⟨d_q (zh _) hF (fun _=>by kernel_rfl) (hb:=by kernel_rfl),?_⟩;refine⟨d_c (zh _) hF (zxq 3 (Enc.cellsL ((.mk 3 0#256 0 0 [z5b,(clT (bS 99))]):Tr).l) (.mk 3 0#256 0 0 [z5b,(clT (bS 99))]) (by kernel_rfl)) (hb:=by kernel_rfl),?_⟩;refine⟨d_q (zh _) hF (fun _=>by kernel_rfl) (hb:=by kernel_rfl),?_⟩;refine⟨d_c (zh _) hF (zxq 4 (Enc.cellsL (eG0.t:Tr).l) eG0.t (by kernel_rfl)) (hb:=by kernel_rfl),?_⟩;refine⟨d_q (zh _) hF (fun _=>by kernel_rfl) (hb:=by kernel_rfl),?_⟩;refine⟨fun ho=>zqk (kd:= .string) (k:= .string (bs eS0)) (kt:=9) (et:=34) (j':=0) (tm:=36) (tv:=44) (f':=false) (zh _) hF rfl rfl rfl ho rfl rfl trivial (by decide) (by simp[awM]) (by simp[awM]) rfl (fun q hq=>insK 9 0 q hq (by simp[qql])) (by decide) (by decide) (fun _=>rfl),?_⟩;refine⟨d_c (zh _) hF cls3 (hb:=by kernel_rfl),?_⟩;refine⟨d_c (zh _) hF cls0 (hb:=by kernel_rfl),?_⟩;refine⟨d_q (zh _) hF (fun _=>by kernel_rfl) (hb:=by kernel_rfl),?_⟩;refine⟨d_c (zh _) hF (zxq 3 (Enc.cellsL (eG1.t:Tr).l) eG1.t (by kernel_rfl)) (hb:=by kernel_rfl),?_⟩;refine⟨d_q (zh _) hF (fun _=>by kernel_rfl) (hb:=by kernel_rfl),?_⟩;refine⟨fun ho=>zqk (kd:= .string) (k:= .string (bs eS1)) (kt:=9) (et:=34) (j':=0) (tm:=36) (tv:=49) (f':=false) (zh _) hF rfl rfl rfl ho rfl rfl trivial (by decide) (by simp[awM]) (by simp[awM]) rfl (fun q hq=>insK 15 1 q hq (by simp[qql])) (by decide) (by decide) (fun _=>rfl),?_⟩;refine⟨d_c (zh _) hF cls3 (hb:=by kernel_rfl),?_⟩;refine⟨d_q (zh _) hF (fun _=>by kernel_rfl) (hb:=by kernel_rfl),?_⟩;refine⟨d_c (zh _) hF (zxq 6 (Enc.cellsL ((.mk 6 0#256 0 0 [(clT (bS 97))]):Tr).l) (.mk 6 0#256 0 0 [(clT (bS 97))]) (by kernel_rfl)) (hb:=by kernel_rfl),?_⟩;refine⟨d_c (zh _) hF cls0 (hb:=by kernel_rfl),?_⟩;refine⟨d_l (zh _) hF (by kernel_rfl) qaz (hb:=by kernel_rfl),?_⟩;refine⟨d_q (zh _) hF (fun _=>by kernel_rfl) (hb:=by kernel_rfl),?_⟩;refine⟨d_c (zh _) hF (zxq 4 (Enc.cellsL ((.mk 4 0#256 0 0 [(clT (bS 98)),emT]):Tr).l) (.mk 4 0#256 0 0 [(clT (bS 98)),emT]) (by kernel_rfl)) (hb:=by kernel_rfl),?_⟩;refine⟨d_l (zh _) hF (by kernel_rfl) qaz (hb:=by kernel_rfl),?_⟩;refine⟨d_q (zh _) hF (fun _=>by kernel_rfl) (hb:=by kernel_rfl),?_⟩;refine⟨d_c (zh _) hF (zxq 3 (Enc.cellsL (eG2.t:Tr).l) eG2.t (by kernel_rfl)) (hb:=by kernel_rfl),?_⟩;refine⟨d_q (zh _) hF (fun _=>by kernel_rfl) (hb:=by kernel_rfl),?_⟩;refine⟨fun ho=>zqk (kd:= .string) (k:= .string (bs eS2)) (kt:=9) (et:=34) (j':=0) (tm:=36) (tv:=60) (f':=false) (zh _) hF rfl rfl rfl ho rfl rfl trivial (by decide) (by simp[awM]) (by simp[awM]) rfl (fun q hq=>insK 27 2 q hq (by simp[qql])) (by decide) (by decide) (fun _=>rfl),?_⟩;refine⟨d_l (zh _) hF (by kernel_rfl) qaz (hb:=by kernel_rfl),?_⟩;refine⟨d_q (zh _) hF (fun _=>by kernel_rfl) (hb:=by kernel_rfl),?_⟩;refine⟨fun ho=>zqk (kd:= .string) (k:= .string (bs eS3)) (kt:=9) (et:=34) (j':=0) (tm:=36) (tv:=62) (f':=false) (zh _) hF rfl rfl rfl ho rfl rfl trivial (by decide) (by simp[awM]) (by simp[awM]) rfl (fun q hq=>insK 30 3 q hq (by simp[qql])) (by decide) (by decide) (fun _=>rfl),?_⟩;refine⟨d_c (zh _) hF cls4 (hb:=by kernel_rfl),?_⟩;refine⟨d_q (zh _) hF (fun _=>by kernel_rfl) (hb:=by kernel_rfl),?_⟩;refine⟨fun ho=>zqk (kd:= .string) (k:= .string (bs eS4)) (kt:=9) (et:=34) (j':=0) (tm:=36) (tv:=64) (f':=false) (zh _) hF rfl rfl rfl ho rfl rfl trivial (by decide) (by simp[awM]) (by simp[awM]) rfl (fun q hq=>insK 33 4 q hq (by simp[qql])) (by decide) (by decide) (fun _=>rfl),?_⟩;refine⟨d_c (zh _) hF cls3 (hb:=by kernel_rfl),?_⟩;refine⟨d_q (zh _) hF (fun _=>by kernel_rfl) (hb:=by kernel_rfl),?_⟩;refine⟨fun ho=>zqk (kd:= .string) (k:= .string (bs eS5)) (kt:=9) (et:=34) (j':=0) (tm:=36) (tv:=66) (f':=false) (zh _) hF rfl rfl rfl ho rfl rfl trivial (by decide) (by simp[awM]) (by simp[awM]) rfl (fun q hq=>insK 36 5 q hq (by simp[qql])) (by decide) (by decide) (fun _=>rfl),?_⟩;refine⟨fun ho=>du_mv (zh _) hF (t:=67) (t':=36) (j':=0) (f:=true) (f':=false) rfl rfl rfl ho (by decide) (by simp[awM]) (by simp[awM]) rfl (by decide) (by decide) (by decide) (Nat.le_of_ble_eq_true rfl) (fun _=>rfl) (fun _=>by kernel_rfl),?_⟩;refine⟨fun ho=>qld (zh _) hF (j':=37) (t':=67) rfl rfl rfl ho rfl (by decide) rfl (by simp[awM]) rfl (by decide) (by decide) (Nat.le_of_ble_eq_true rfl) (fun _=>rfl),trivial⟩
end Go.Ab
