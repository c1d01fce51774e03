import Derived.Test.YtnoccnalocdldaaGreatDoorZfR7
set_option linter.all false
set_option maxRecDepth 100000
set_option maxHeartbeats 4000000
open Sum (inl inr)
open Bool (and_eq_true)
open List (length length_cons length_append length_nil)
open Go.Proofs.Tryz (prog)
namespace Go.Ab
open Go Go.RowKit Go.Fwd
def sg1 (p:Nat)(U0 U1:St):(Nat->Bool)->St:=fun d=>bif d p then U1 else U0
def sg2 (p q:Nat)(U0 U1 U2 U3:St):(Nat->Bool)->St:=fun d=>bif d p then(bif d q then U3 else U1) else(bif d q then U2 else U0)
def pvO:Option (Nat×AV)->AV
 |some q=>q.2
 |none=> .raw undef
def psO:List (Option (Nat×AV))->List (Nat×AV)
 |some q::l=>q::psO l
 |none::l=>psO l
 |[]=>[]
def gOk (ops:Array Oper)(E:List AV)(o:Oper):Bool:=
 match o.guard with
 |none=>true
 |some (k,b)=>match zdv ops E k with|some (some c)=>c==b|_=>false
section
variable {IT:IterP} {P:Program} {W:Owed} {k0:Nat}
theorem qdw {id:Nat} {ops:Array Oper} {Q:AQ} {S E:List AV} {U:St} (sg:(Nat->Bool)->St)(U1:St)(ps:List (Option (Nat×AV)))(h:zky IT P ops E sg 0 ops.toList (ps.map pvO))(hk:Q .normal E U1)
 (hE:zau S (psO ps)=E:=by dsimp only[psO,zau,List.foldl,List.set]) (hp:zhs ops.toList (ps.map pvO) S=E:=by kernel_rfl) (hb:(floB ops S.length&&z1s ops)=true:=by kernel_rfl)
 (h0:sg (fun j=>Nat.ble ops.size j)=U:=by kernel_rfl) (h1:sg (fun _=>true)=U1:=by kernel_rfl):awp IT P W k0 (.region id ops true) Q S U:=
 .inr (.inr (.inr (.inl ⟨sg,_,E,hp,hb,h0,h,by rw[h1];exact hk⟩)))
variable {ops:Array Oper} {E:List AV} {sg:(Nat->Bool)->St} {i p q:Nat} {o:Oper} {l:List Oper} {a:AV} {vs:List AV} {U0 U1 U2 U3:St}
theorem fl_gOk (h:gOk ops E o=true):(match o.guard with|none=>True|some (k,b)=>zdv ops E k=some (some b)):=by
 unfold gOk at h;cases hg:o.guard with
 |none=>trivial
 | some p=>
  obtain⟨k,b⟩:=p;rw[hg] at h;simp only at h⊢;split at h
  ·rename_i c hc;simp at h;subst h;exact hc
  ·cases h
theorem f_w (hk:zky IT P ops E sg (i+1) l vs)(h: ∀d,d i=false->z2f IT P o E (sg d) a (sg (zko d i)))(hg:gOk ops E o=true:=by exact rfl):zky IT P ops E sg i (o::l) (a::vs):=
 ⟨.inl ⟨fl_gOk hg,h⟩,hk⟩
theorem f_o (hk:zky IT P ops E sg (i+1) l vs)(h: ∀U,qop P (zby E) U o=some a:=by exact fun _=>rfl)(hg:gOk ops E o=true:=by exact rfl)(hs: ∀d,sg (zko d i)=sg d:=by exact fun _=>rfl):zky IT P ops E sg i (o::l) (a::vs):=
 f_w hk (fun d _=>by rw[hs];exact .inr (.inl (by unfold aop;rw[h]))) hg
theorem f_l (hk:zky IT P ops E (sg1 p U0 U1) (i+1) l vs)(h0:qop P (zby E) U0 o=some a:=by exact rfl)(h1:qop P (zby E) U1 o=some a:=by exact rfl)(hg:gOk ops E o=true:=by exact rfl)(hs: ∀d,sg1 p U0 U1 (zko d i)=sg1 p U0 U1 d:=by exact fun _=>rfl):
 zky IT P ops E (sg1 p U0 U1) i (o::l) (a::vs):=
 f_w hk (fun d _=>by
  rw[hs];unfold sg1;cases d p
  ·exact .inr (.inl (by unfold aop;rw[show(bif false then U1 else U0)=U0 from rfl,h0]))
  ·exact .inr (.inl (by unfold aop;rw[show(bif true then U1 else U0)=U1 from rfl,h1]))) hg
theorem f_s (hk:zky IT P ops E (sg1 p U0 U1) (i+1) l vs)(h:aop P (zby E) U0 o=some (.raw undef,U1):=by exact rfl)(hi:i=p:=by exact rfl)(hg:gOk ops E o=true:=by exact rfl):zky IT P ops E (sg1 p U0 U1) i (o::l) (.raw undef::vs):=by
 subst hi;refine f_w hk (fun d hd=> ?_) hg;unfold sg1;rw[hd,zdy];exact .inr (.inl h)
theorem f_l2 (hk:zky IT P ops E (sg2 p q U0 U1 U2 U3) (i+1) l vs)(h0:qop P (zby E) U0 o=some a:=by exact rfl)(h1:qop P (zby E) U1 o=some a:=by exact rfl)(h2:qop P (zby E) U2 o=some a:=by exact rfl)(h3:qop P (zby E) U3 o=some a:=by exact rfl)(hg:gOk ops E o=true:=by exact rfl)(hs: ∀d,sg2 p q U0 U1 U2 U3 (zko d i)=sg2 p q U0 U1 U2 U3 d:=by exact fun _=>rfl):
 zky IT P ops E (sg2 p q U0 U1 U2 U3) i (o::l) (a::vs):=
 f_w hk (fun d _=>by
  rw[hs];unfold sg2;cases d p<;>cases d q
  ·exact .inr (.inl (by unfold aop;rw[show(bif false then(bif false then U3 else U1) else(bif false then U2 else U0))=U0 from rfl,h0]))
  ·exact .inr (.inl (by unfold aop;rw[show(bif false then(bif true then U3 else U1) else(bif true then U2 else U0))=U2 from rfl,h2]))
  ·exact .inr (.inl (by unfold aop;rw[show(bif true then(bif false then U3 else U1) else(bif false then U2 else U0))=U1 from rfl,h1]))
  ·exact .inr (.inl (by unfold aop;rw[show(bif true then(bif true then U3 else U1) else(bif true then U2 else U0))=U3 from rfl,h3]))) hg
theorem f_sp (hk:zky IT P ops E (sg2 p q U0 U1 U2 U3) (i+1) l vs)(h:aop P (zby E) U0 o=some (.raw undef,U1):=by exact rfl)(h':aop P (zby E) U2 o=some (.raw undef,U3):=by exact rfl)(hi:i=p:=by exact rfl)(hne:q≠p:=by decide)(hg:gOk ops E o=true:=by exact rfl):zky IT P ops E (sg2 p q U0 U1 U2 U3) i (o::l) (.raw undef::vs):=by
 subst hi;refine f_w hk (fun d hd=> ?_) hg;unfold sg2;rw[hd,zdy,zbf hne];cases d q
 ·exact .inr (.inl h)
 ·exact .inr (.inl h')
theorem f_sq (hk:zky IT P ops E (sg2 p q U0 U1 U2 U3) (i+1) l vs)(h:aop P (zby E) U0 o=some (.raw undef,U2):=by exact rfl)(h':aop P (zby E) U1 o=some (.raw undef,U3):=by exact rfl)(hi:i=q:=by exact rfl)(hne:p≠q:=by decide)(hg:gOk ops E o=true:=by exact rfl):zky IT P ops E (sg2 p q U0 U1 U2 U3) i (o::l) (.raw undef::vs):=by
 subst hi;refine f_w hk (fun d hd=> ?_) hg;unfold sg2;rw[hd,zdy,zbf hne];cases d p
 ·exact .inr (.inl h)
 ·exact .inr (.inl h')
theorem f_e:zky IT P ops E sg i [] []:=trivial
end
end Go.Ab
namespace Go.Ab
open Go Go.RowKit Go.Fwd Go.Proofs
structure Rg where
 b:Bool
 e:Bool
 t:Tr
def qgz (r:Rg):List AV:= .raw (.bool r.b):: .raw (.bool r.e)::Enc.cells r.t
instance:Enc Rg where
 inh:=⟨false,false,noneT⟩
 cells:=qgz
 cellsL l:=l.flatMap qgz
 sz:=10
 pos:=by decide
 nil:=rfl
 cons _ _:=rfl
 len r:=by show(Enc.cells r.t).length+2=10;rw[Enc.len];rfl
 clo r:=by show cloL (.raw _:: .raw _::Enc.cells r.t)=true;rw[cloL,cloL,Enc.clo];rfl
end Go.Ab
namespace Go.Ab
open Go Go.RowKit Go.Fwd Go.Proofs
def zoj (t:Tr):Option Int:=
 (chk ((pre t).length<2^61) (zay (zhf t) (fun x1=>(bif (!x1) then(some 10001) else(chk ((pre t).length<=10000) (zay (zlv t) (fun x2=>(some x2))))))))
theorem ent37:Ent prog 37:=enters_of Tryz.func37 (by kernel_rfl) rfl
theorem z3b (t:Tr)(r:Int)(h:zoj t=some r):Pure (ITP prog) prog 37 [.A (t:Tr)] (.raw (.int .i64 r)):=by
 unfold zoj at h;refine zbg 7 mix Tryz.func37 ent37 ?_;refine zi (zb ?_);refine zda (Enc.cells (t:Tr)) ?_;refine w_o (a:= .i 0) ?_;refine zi ?_;refine zae [.v (.A (t:Tr))] ?_;obtain⟨g1,h⟩:=ze h;obtain⟨x1,hx1,h⟩:=zh h;refine zcp (args':=[.A (t:Tr)]) (r:= .b x1) (by rw[<-hx1];exact(zyh t g1)) ?_;refine w_o (a:= .b (!x1)) ?_;refine zbr h (fun hc1 h=> ?_) (fun hc1 h=> ?_);refine zae [.v (.i 10001)] ?_;exact zki h;refine zae [.v (.A (t:Tr))] ?_;obtain⟨g2,h⟩:=ze h;obtain⟨x2,hx2,h⟩:=zh h;refine zcp (args':=[.A (t:Tr)]) (r:= .i x2) (by rw[<-hx2];exact(k_posn t g2)) ?_;refine zao ?_;exact zki h
def z5d (x:Rg):Option Int:=
 (chk ((pre x.t).length<2^61) (zay (zev x.t) (fun x1=>(bif (!x1) then(some 80) else(chk ((pre x.t).length<2^61) (zay (qiz x.t) (fun x2=>(bif (decide (x2>120)) then(some 81) else(zai (zoj x.t) (fun x3=>(bif (decide (x3>400)) then(some 82) else(chk ((pre x.t).length<2^61) (zay (z7a x.t) (fun x4=>(bif (decide (x4>9)) then(some 83) else(some 0))))))))))))))))
theorem ent13:Ent prog 13:=enters_of Tryz.func13 (by kernel_rfl) rfl
theorem qlg (x:Rg)(r:Int)(h:z5d x=some r):Pure (ITP prog) prog 13 [.A (x:Rg)] (.raw (.int .i64 r)):=by
 unfold z5d at h;refine zbg 22 mix Tryz.func13 ent13 ?_;refine zi (zb ?_);refine zda (Enc.cells (x:Rg)) ?_;refine w_o (a:= .i 0) ?_;refine zi ?_;refine zt ?_;refine zae [.v (.ptr 0 2),.v (.A (x.t:Tr))] ?_;obtain⟨g1,h⟩:=ze h;obtain⟨x1,hx1,h⟩:=zh h;refine zcp (args':=[.A (x.t:Tr)]) (r:= .b x1) (by rw[<-hx1];exact(zyj x.t g1)) ?_;refine w_r [.v (.b (!x1)),.m _] ?_;refine zbr h (fun hc1 h=> ?_) (fun hc1 h=> ?_);refine zae [.v (.i 80)] ?_;exact zki h;refine zae [.v (.ptr 0 2),.v (.A (x.t:Tr))] ?_;obtain⟨g2,h⟩:=ze h;obtain⟨x2,hx2,h⟩:=zh h;refine zcp (args':=[.A (x.t:Tr)]) (r:= .i x2) (by rw[<-hx2];exact(k_size x.t g2)) ?_;refine w_r [.v (.b (decide (x2>120))),.m _] ?_;refine zbr h (fun hc2 h=> ?_) (fun hc2 h=> ?_);refine zae [.v (.i 81)] ?_;exact zki h;refine zae [.v (.ptr 0 2),.v (.A (x.t:Tr))] ?_;obtain⟨x3,hx3,h⟩:=zr h;refine zcp (z3b x.t x3 hx3) ?_;refine w_r [.v (.b (decide (x3>400))),.m _] ?_;refine zbr h (fun hc3 h=> ?_) (fun hc3 h=> ?_);refine zae [.v (.i 82)] ?_;exact zki h;refine zae [.v (.ptr 0 2),.v (.A (x.t:Tr))] ?_;obtain⟨g3,h⟩:=ze h;obtain⟨x4,hx4,h⟩:=zh h;refine zcp (args':=[.A (x.t:Tr)]) (r:= .i x4) (by rw[<-hx4];exact(qoj x.t g3)) ?_;refine w_r [.v (.b (decide (x4>9))),.m _] ?_;refine zbr h (fun hc4 h=> ?_) (fun hc4 h=> ?_);refine zae [.v (.i 83)] ?_;exact zki h;refine zae [.v (.i 0)] ?_;exact zki h
theorem wk_two {n0:Nat} {S S':List AV} {U U':St} (s:Nat) {t:TypeId} {cs:List AV} (hb:U.boxes[s]? =some (t,cs))(k:Wk n0 S {U with boxes:=U.boxes++[(t,[])]++[(t,[])]} S' U'):Wk n0 S U S' U':=by
 refine .step (S1:=S) (U1:={U with boxes:=U.boxes++[(t,[])]}) (.inr (.inr (.inl ⟨s,t,cs,hb,Fg.refl _,rfl⟩))) (.step (S1:=S) (.inr (.inr (.inl ⟨s,t,cs,?_,Fg.refl _,rfl⟩))) k)
 show(U.boxes++[(t,[])])[s]? =_
 rw[List.getElem?_append_left (List.getElem?_eq_some_iff.1 hb).1];exact hb
section
variable {ρ:Operand->AV} {U:St} {o:Oper}
theorem q_lastQ {x i:Operand} {b:Nat} {q:Stk} {k:Int} (g:0<=k/\ k<((zcg q).length:Int))(ho:o.op= .indexAddr 67 x i)(hx:ρ x=zbm b q)(hi:ρ i= .raw (.int .i64 k)):qop prog ρ U o=some (.ptr b (0+k.toNat*1)):=by
 cases q with
 |none=>simp[zcg] at g;omega
 |some q=>exact qmw (j:=q.1) (l:=q.2) g ho hx hi
theorem rd_int {P:Program} {t:TypeId} {k:IntKind} {cs:List AV} {n:Nat} (hu:P.underlying t=some (.int k))(hs:zcl P t=some n):rd P t cs=cs.head? :=by
 unfold zcl at hs;cases hi:P.info? t with
 |none=>simp[hi] at hs
 |some i=>simp[rd,hu,hi]
theorem ztv {x:Operand} {b:Nat} {q:Stk} {k:Int} (g:0<=k/\ k<((zcg q).length:Int))(ho:o.op= .load 3 x)(hx:ρ x= .ptr b (0+k.toNat*1))(hb:U.boxes[b]? =some (zm q)):qop prog ρ U o=some (.raw (.int .i64 (ix (zcg q) k))):=by
 cases q with
 |none=>simp[zcg] at g;omega
 | some q=>
  obtain⟨j,l⟩:=q;cases l with
  |nil=>simp[zcg] at g;omega
  | cons c l=>
   have h1:=Enc.at (l:=c::l) g;have e:(zm (some (j,c::l))).2=Enc.cellsL (c::l):=rfl;have hs:zcl prog 3=some 1:=by kernel_rfl
   have hu:prog.underlying 3=some (.int .i64):=by kernel_rfl
   simp only[qop,ho,zlu,hx,hb,e];rw[Nat.zero_add,show k.toNat*1=k.toNat*Enc.sz Int from rfl,h1];show rd prog 3 (.raw (.int .i64 (ix (c::l) k))::_)=_;exact rd_int hu hs
end
def z8p (p:Rd->Option (Tr×Rd))(s:(List UInt8)):Option (Rg×Int×Int):=
 (bif (decide ((length s:Int)>1000)) then(some ((Rg.mk false false noneT),0,3)) else(zay (Lib.trimPrefix s ([94]:List UInt8),Lib.hasPrefix s ([94]:List UInt8)) (fun x1=>(chk (-9223372036854775808<=((length s:Int)-(length x1.1:Int))/\ ((length s:Int)-(length x1.1:Int))<9223372036854775808) (zai (z3h x1.1) (fun x2=>(zct (τ:=(List UInt8)) (bif x2 then(chk (-9223372036854775808<=((length x1.1:Int)-1)/\ ((length x1.1:Int)-1)<9223372036854775808) (chk (0<=0/\ 0<=((length x1.1:Int)-1)/\ ((length x1.1:Int)-1)<=(length x1.1:Int)) (zay (sub x1.1 0 ((length x1.1:Int)-1)) (fun x3=>(some (inl (x3))))))) else(some (inl (x1.1)))) (fun j1=>(zai (p (Rd.mk j1 0 0 none)) (fun x4=>(zct (τ:=Rd) (bif (x4.2.e !=0) then(some (inl (x4.2))) else(bif (decide (x4.2.a<(length j1:Int))) then(chk (0<=x4.2.a/\ x4.2.a<(length j1:Int)) (zay (ix j1 x4.2.a) (fun x5=>(bif ((((x5).toNat:Nat):Int)==41) then(some (inl ((Rd.mk x4.2.s x4.2.a 91 x4.2.q)))) else(some (inl ((Rd.mk x4.2.s x4.2.a 90 x4.2.q)))))))) else(bif (decide ((length (zcg x4.2.q):Int)>0)) then(chk (-9223372036854775808<=((length (zcg x4.2.q):Int)-1)/\ ((length (zcg x4.2.q):Int)-1)<9223372036854775808) (chk (0<=((length (zcg x4.2.q):Int)-1)/\ ((length (zcg x4.2.q):Int)-1)<(length (zcg x4.2.q):Int)) (some (inl ((Rd.mk x4.2.s (ix (zcg x4.2.q) ((length (zcg x4.2.q):Int)-1)) 91 x4.2.q)))))) else(some (inl (x4.2)))))) (fun j2=>(bif (j2.e !=0) then(chk (-9223372036854775808<=(((length s:Int)-(length x1.1:Int))+j2.a)/\ (((length s:Int)-(length x1.1:Int))+j2.a)<9223372036854775808) (some ((Rg.mk false false noneT),(((length s:Int)-(length x1.1:Int))+j2.a),j2.e))) else(zai (z5d (Rg.mk x1.2 x2 x4.1)) (fun x6=>(bif (x6 !=0) then(some ((Rg.mk false false noneT),(length s:Int),x6)) else(some ((Rg.mk x1.2 x2 x4.1),(length s:Int),0))))))))))))))))))
theorem ent12:Ent prog 12:=enters_of Tryz.func12 (by kernel_rfl) rfl
theorem read_sh (p:Rd->Option (Tr×Rd))(s:(List UInt8))(r:(Rg×Int×Int))(hp: ∀(r:Rd)(y:Tr×Rd),p r=some y->RdC Tryz.prog 34 [] r (.agg (Enc.cells y.1)) y.2)(h:z8p p s=some r):Pure (ITP Tryz.prog) Tryz.prog 12 [.raw (.string (bs s))] (.tup [.agg (Enc.cells (r.1:Rg)),.raw (.int .i64 r.2.1),.raw (.int .i64 r.2.2)]):=by
 obtain⟨d,hd⟩: ∃d,Tryz.f12.body=some d:=⟨_,rfl⟩;refine zjx mix Tryz.func12 hd ent12 ?_;cases hd;unfold z8p at h;refine zbq (by dsimp only[zam,Tryz.f12,List.length_cons,List.length_nil,Nat.zero_add,Nat.reduceAdd,Nat.reduceSub,List.replicate,List.cons_append,List.nil_append]) (by dsimp only[St.empty]) ?_;refine wq 1 ?_;refine zda [.b false,.b false,.u 0,.raw (.int .u64 0),.raw (.int .u64 0),.raw (.int .u64 0),.raw (.int .u64 0),.i 0,.i 0,.list 0 [] .full] ?_;refine wq 2 ?_;refine zi ?_;refine wq 2 ?_;refine w_o (a:= .i (List.length s:Int)) (h:=zba (zeu rfl rfl rfl)) ?_;refine wq 1 ?_;refine zab h (fun hc1 h=> ?_) (fun hc1 h=> ?_);refine zfl hc1 rfl ?_;refine wq 1 ?_;refine w_qs (.agg (Enc.cells ((Rg.mk false false noneT):Rg))) rfl rfl rfl rfl (by simp only[zcy,stripL,Enc.stripL]<;>rfl) (by dsimp only[zaf,List.set]) ?_;refine zeq 10 (Enc.cells ((Rg.mk false false noneT):Rg)) ?_;refine wq 2 ?_;exact zdu (fun(r:(Rg×Int×Int))=>(.tup [.agg (Enc.cells (r.1:Rg)),.i r.2.1,.i r.2.2]:AV)) h (a:= .tup [.agg (Enc.cells ((Rg.mk false false noneT):Rg)),.i 0,.i 3]) rfl (show zad _ _=true from(za (zaq _ _ (zac (Enc.clo _))) (by kernel_rfl))) (show AV.tup (stripL _)=_ from congrArg AV.tup (zq (zcm (zac (Enc.clo _))) (zq rfl (zq rfl rfl))));refine zfp hc1 rfl ?_;refine wq 2 ?_;obtain⟨x1,hx1,h⟩:=zh h;refine zlf (args':=[.s s,.s ([94]:List UInt8)]) (r:= .tup [.s x1.1,.b x1.2]) (by rw[<-hx1];exact(qft s ([94]:List UInt8))) rfl rfl (zq rfl (zq rfl rfl)) (by kernel_rfl) (by dsimp only[zaf,List.set]) ?_;refine wq 7 ?_;refine w_o (a:= .i (List.length s:Int)) (h:=zba (zeu rfl rfl rfl)) ?_;refine zao ?_;refine w_o (a:= .i (List.length x1.1:Int)) (h:=zba (zeu rfl rfl rfl)) ?_;obtain⟨g1,h⟩:=ze h;refine w_o (a:= .i ((List.length s:Int)-(List.length x1.1:Int))) (h:=zba (zjw rfl rfl rfl rfl g1.1 g1.2)) ?_;refine wq 3 ?_;obtain⟨x2,hx2,h⟩:=zr h;refine zlf (args':=[.s x1.1]) (r:= .b x2) (ends_sh x1.1 x2 hx2) rfl rfl (zq rfl rfl) (by kernel_rfl) (by dsimp only[zaf,List.set]) ?_;refine zao ?_;refine zal h [1,3,4,5,9,10,11,12,13,14,15,16,17,18,19,20,21,22,23,24,25,26,27,28,29,30,31,32,33,34,35,36,37,38,39,40,41,42,43,44,45,46,47,48,49,50,51,52,53,54,55,56,57,58,59,60,61,62,63,64,65,66,67,68,69,70,71,72,73,74,75,76,77,78,79,80,81,82,83,84,85,86,87,88,89,90,91,92,93,94,95,96,97,98,99,100,101,102,103,104,105,106,107,108,109,110,111,112,113,114,115,116,117,118,119,120,121,122,123,124,125,126,127,128,129,130] (fun j1=>[(5,.s j1)]) (fun j1=>⟨[(34,[.b false,.b false,.u 0,.raw (.int .u64 0),.raw (.int .u64 0),.raw (.int .u64 0),.raw (.int .u64 0),.i 0,.i 0,.list 0 [] .full])],[],[],0,false⟩) ?_ ?_;intro or1 h hr1;refine wq 2 ?_;refine zab h (fun hc2 h=> ?_) (fun hc2 h=> ?_);refine zfl hc2 rfl ?_;refine zb (k0:=0) (id:=7) ?_;refine wq 2 ?_;refine w_o (a:= .i (List.length x1.1:Int)) (h:=zba (zeu rfl rfl rfl)) ?_;obtain⟨g2,h⟩:=ze h;refine w_o (a:= .i ((List.length x1.1:Int)-1)) (h:=zba (zjw rfl rfl rfl rfl g2.1 g2.2)) ?_;obtain⟨g3,h⟩:=ze h;obtain⟨x3,hx3,h⟩:=zh h;refine w_o (a:= .s x3) (h:=zba (by rw[<-hx3];exact(q_ssl_H (l:=x1.1) g3 rfl rfl rfl rfl))) ?_;refine zao ?_;refine zc (o:=or1) (x3) h ?_;exact zpj (bl 131 485) (by kernel_rfl) (by kernel_rfl);refine zfp hc2 rfl ?_;refine zc (o:=or1) (x1.1) h ?_;exact zpj (bl 131 485) (by kernel_rfl) (by kernel_rfl);intro j1 h;refine zbq (by dsimp only[zau,zbo,List.foldl,List.set]) rfl ?_;refine zgq (zb ?_);refine zao ?_;refine w_o (a:= .agg [.s j1,.i 0,.i 0,(zbm 0 none)]) ?_;refine zda [.s j1,.i 0,.i 0,(zbm 0 none)] ?_;refine zao ?_;refine zhv 131 [(0,.s s),(2,.ptr 3 0),(5,.s j1),(6,.b x1.2),(7,.i ((List.length s:Int)-(List.length x1.1:Int))),(8,.b x2),(9,.ptr 0 0)] (U':=⟨[(69,[.s j1,.i 0,.i 0,(zbm 2 none)]),(69,[]),((zm none).1,(zm none).2),(34,[.b false,.b false,.u 0,.raw (.int .u64 0),.raw (.int .u64 0),.raw (.int .u64 0),.raw (.int .u64 0),.i 0,.i 0,.list 0 [] .full])],[],[],0,false⟩) (wk_two 1 rfl (wmk (bl 131 997) 0 [] [1,2,3,0] 1 (Nat.le_refl _) (zer (zd rfl (zak (zah _ _ _ rfl) (zak (zah _ _ _ rfl) (zak (zah _ _ _ rfl) (zak rfl zk)))) (zd rfl zk (zd rfl zk (zd rfl rfl zv)))) rfl))) ?_;have hk0:0<=2:=by decide
 refine zgq (zb ?_);refine wq 3 ?_;obtain⟨x4,hx4,h⟩:=zr h;refine zhj (r:= .agg (Enc.cells (x4.1:Tr))) (U':=⟨[(69,[.s x4.2.s,.i x4.2.a,.i x4.2.e,(zbm 4 x4.2.q)]),(69,[]),((zm none).1,[]),(34,[.b false,.b false,.u 0,.raw (.int .u64 0),.raw (.int .u64 0),.raw (.int .u64 0),.raw (.int .u64 0),.i 0,.i 0,.list 0 [] .full]),((zm x4.2.q).1,(zm x4.2.q).2)],[],[],0,false⟩) ((hp (Rd.mk j1 0 0 none) x4 hx4) _ 2 (by decide) rfl rfl) rfl rfl ⟨rfl,rfl⟩ (by dsimp only[zaf,List.set]) ?_;refine w_qs (.agg (Enc.cells ((Rg.mk x1.2 x2 x4.1):Rg))) rfl rfl rfl rfl (show zcy (.agg (Enc.cells ((Rg.mk x1.2 x2 x4.1):Rg)))=_ from congrArg AV.agg (zdl _ (Enc.clo ((Rg.mk x1.2 x2 x4.1):Rg)))) (by dsimp only[zaf,List.set]) ?_;refine zda [.b false,.b false,.u 0,.raw (.int .u64 0),.raw (.int .u64 0),.raw (.int .u64 0),.raw (.int .u64 0),.i 0,.i 0,.list 0 [] .full] ?_;refine zeq 10 (Enc.cells ((Rg.mk x1.2 x2 x4.1):Rg)) ?_;refine zhv 131 [(0,.s s),(2,.ptr 3 0),(5,.s j1),(7,.i ((List.length s:Int)-(List.length x1.1:Int))),(9,.ptr 0 0),(10,.ptr 4 0)] (U':=⟨[(69,[.s x4.2.s,.i x4.2.a,.i x4.2.e,(zbm 2 x4.2.q)]),(69,[]),((zm x4.2.q).1,(zm x4.2.q).2),(34,[.b false,.b false,.u 0,.raw (.int .u64 0),.raw (.int .u64 0),.raw (.int .u64 0),.raw (.int .u64 0),.i 0,.i 0,.list 0 [] .full]),(34,(Enc.cells ((Rg.mk x1.2 x2 x4.1):Rg)))],[],[],0,false⟩) (wmk (bl 131 1701) 2 [] [4,3,5] 1 hk0 (zar rfl (zjd fun _=>rfl) zk (zd rfl (zn _ _ _) (zd rfl rfl (zd rfl (zaa _ _ _ (Enc.clo _)) zv))) rfl)) ?_;refine zal h [5,42,43,44,45,46,47,48,49,50,51,52,53,54,55,56,57,58,59,60,61,62,63,64,65,66,67,68,69,70,71,72,73,74,75,76,77,78,79,80,81,82,83,84,85,86,87,88,89,90,91,92,93,94,95,96,97,98,99,100,101,102,103] (fun j2=>[]) (fun j2=>⟨[(69,[.s j2.s,.i j2.a,.i j2.e,(zbm 2 j2.q)]),(69,[]),((zm j2.q).1,(zm j2.q).2),(34,[.b false,.b false,.u 0,.raw (.int .u64 0),.raw (.int .u64 0),.raw (.int .u64 0),.raw (.int .u64 0),.i 0,.i 0,.list 0 [] .full]),(34,(Enc.cells ((Rg.mk x1.2 x2 x4.1):Rg)))],[],[],0,false⟩) ?_ ?_;intro or2 h hr2;refine zt ?_;refine wq 7 ?_;refine zab h (fun hc3 h=> ?_) (fun hc3 h=> ?_);refine zfl hc3 rfl ?_;refine zc (o:=or2) (x4.2) h ?_;exact zpj (bl 131 2722258915085098104055326439904940916703) (by kernel_rfl) (by kernel_rfl);refine zfp hc3 rfl ?_;refine wq 6 ?_;refine w_o (a:= .i (List.length j1:Int)) (h:=zba (zeu rfl rfl rfl)) ?_;refine wq 1 ?_;refine zab h (fun hc4 h=> ?_) (fun hc4 h=> ?_);refine w_o (a:= .b true) (h:=zba (zhl rfl hc4)) ?_;refine wq 5 ?_;refine zan rfl rfl ?_;obtain⟨g4,h⟩:=ze h;obtain⟨x5,hx5,h⟩:=zh h;refine w_o (a:= .u (((x5).toNat:Nat):Int)) (h:=zba (by rw[<-hx5];exact(zej (l:=j1) (n:=x4.2.a) g4 rfl rfl rfl rfl))) ?_;refine zan rfl rfl ?_;iterate 2 refine w_o (a:= .b ((((x5).toNat:Nat):Int)==41)) ?_
 refine zao ?_;refine zab h (fun hc5 h=> ?_) (fun hc5 h=> ?_);refine zfl hc5 rfl ?_;refine zb (k0:=0) (id:=12) ?_;refine wq 3 ?_;refine zqm (U'':=⟨[(69,[.s x4.2.s,.i x4.2.a,.i 91,(zbm 2 x4.2.q)]),(69,[]),((zm x4.2.q).1,(zm x4.2.q).2),(34,[.b false,.b false,.u 0,.raw (.int .u64 0),.raw (.int .u64 0),.raw (.int .u64 0),.raw (.int .u64 0),.i 0,.i 0,.list 0 [] .full]),(34,(Enc.cells ((Rg.mk x1.2 x2 x4.1):Rg)))],[],[],0,false⟩) (h:=zcr (n:=1) rfl rfl rfl rfl rfl ⟨rfl,rfl,Nat.le_of_ble_eq_true rfl,by decide⟩) ?_;refine zc (o:=or2) ((Rd.mk x4.2.s x4.2.a 91 x4.2.q)) h ?_;exact zpj (bl 131 2722258915085098104055326439904940916703) (by kernel_rfl) (by kernel_rfl);refine zfp hc5 rfl ?_;refine wq 6 ?_;refine w_o (a:= .i (List.length j1:Int)) (h:=zba (zeu rfl rfl rfl)) ?_;refine wq 2 ?_;refine zfl hc4 rfl ?_;refine zb (k0:=0) (id:=14) ?_;refine wq 3 ?_;refine zqm (U'':=⟨[(69,[.s x4.2.s,.i x4.2.a,.i 90,(zbm 2 x4.2.q)]),(69,[]),((zm x4.2.q).1,(zm x4.2.q).2),(34,[.b false,.b false,.u 0,.raw (.int .u64 0),.raw (.int .u64 0),.raw (.int .u64 0),.raw (.int .u64 0),.i 0,.i 0,.list 0 [] .full]),(34,(Enc.cells ((Rg.mk x1.2 x2 x4.1):Rg)))],[],[],0,false⟩) (h:=zcr (n:=1) rfl rfl rfl rfl rfl ⟨rfl,rfl,Nat.le_of_ble_eq_true rfl,by decide⟩) ?_;refine zc (o:=or2) ((Rd.mk x4.2.s x4.2.a 90 x4.2.q)) h ?_;exact zpj (bl 131 2722258915085098104055326439904940916703) (by kernel_rfl) (by kernel_rfl);refine w_o (a:= .b false) (h:=zba (zhl rfl hc4)) ?_;iterate 7 refine qka ?_
 refine w_o (a:= .b false) ?_;refine zao ?_;refine zcc rfl ?_;refine wq 6 ?_;refine w_o (a:= .i (List.length j1:Int)) (h:=zba (zeu rfl rfl rfl)) ?_;refine wq 2 ?_;refine zfp hc4 rfl ?_;refine wq 4 ?_;refine w_o (a:=(zbm 2 x4.2.q)) ?_;refine w_o (a:= .i (List.length (zcg x4.2.q):Int)) (h:=zba (z5i (b:=2) (q:=x4.2.q) rfl rfl)) ?_;refine wq 2 ?_;refine zab h (fun hc6 h=> ?_) (fun hc6 h=> ?_);refine zfl hc6 rfl ?_;obtain⟨g5,h⟩:=ze h;obtain⟨g6,h⟩:=ze h;refine qdw (id:=16) (sg2 16 19 ⟨[(69,[.s x4.2.s,.i x4.2.a,.i x4.2.e,(zbm 2 x4.2.q)]),(69,[]),((zm x4.2.q).1,(zm x4.2.q).2),(34,[.b false,.b false,.u 0,.raw (.int .u64 0),.raw (.int .u64 0),.raw (.int .u64 0),.raw (.int .u64 0),.i 0,.i 0,.list 0 [] .full]),(34,(Enc.cells ((Rg.mk x1.2 x2 x4.1):Rg)))],[],[],0,false⟩ ⟨[(69,[.s x4.2.s,.i (ix (zcg x4.2.q) ((List.length (zcg x4.2.q):Int)-1)),.i x4.2.e,(zbm 2 x4.2.q)]),(69,[]),((zm x4.2.q).1,(zm x4.2.q).2),(34,[.b false,.b false,.u 0,.raw (.int .u64 0),.raw (.int .u64 0),.raw (.int .u64 0),.raw (.int .u64 0),.i 0,.i 0,.list 0 [] .full]),(34,(Enc.cells ((Rg.mk x1.2 x2 x4.1):Rg)))],[],[],0,false⟩ ⟨[(69,[.s x4.2.s,.i x4.2.a,.i 91,(zbm 2 x4.2.q)]),(69,[]),((zm x4.2.q).1,(zm x4.2.q).2),(34,[.b false,.b false,.u 0,.raw (.int .u64 0),.raw (.int .u64 0),.raw (.int .u64 0),.raw (.int .u64 0),.i 0,.i 0,.list 0 [] .full]),(34,(Enc.cells ((Rg.mk x1.2 x2 x4.1):Rg)))],[],[],0,false⟩ ⟨[(69,[.s x4.2.s,.i (ix (zcg x4.2.q) ((List.length (zcg x4.2.q):Int)-1)),.i 91,(zbm 2 x4.2.q)]),(69,[]),((zm x4.2.q).1,(zm x4.2.q).2),(34,[.b false,.b false,.u 0,.raw (.int .u64 0),.raw (.int .u64 0),.raw (.int .u64 0),.raw (.int .u64 0),.i 0,.i 0,.list 0 [] .full]),(34,(Enc.cells ((Rg.mk x1.2 x2 x4.1):Rg)))],[],[],0,false⟩) ⟨[(69,[.s x4.2.s,.i (ix (zcg x4.2.q) ((List.length (zcg x4.2.q):Int)-1)),.i 91,(zbm 2 x4.2.q)]),(69,[]),((zm x4.2.q).1,(zm x4.2.q).2),(34,[.b false,.b false,.u 0,.raw (.int .u64 0),.raw (.int .u64 0),.raw (.int .u64 0),.raw (.int .u64 0),.i 0,.i 0,.list 0 [] .full]),(34,(Enc.cells ((Rg.mk x1.2 x2 x4.1):Rg)))],[],[],0,false⟩ [some (86,.ptr 0 0),some (87,.ptr 0 0),some (88,.ptr 0 0),some (89,.ptr 0 0),some (90,.ptr 0 3),some (91,(zbm 2 x4.2.q)),some (92,.ptr 0 0),some (93,.ptr 0 0),some (94,.ptr 0 3),some (95,(zbm 2 x4.2.q)),some (96,.i (List.length (zcg x4.2.q):Int)),some (97,.i ((List.length (zcg x4.2.q):Int)-1)),some (98,.ptr 2 (0+Int.toNat ((List.length (zcg x4.2.q):Int)-1)*1)),some (99,.i (ix (zcg x4.2.q) ((List.length (zcg x4.2.q):Int)-1))),some (100,.ptr 0 0),some (101,.ptr 0 1),none,some (102,.ptr 0 0),some (103,.ptr 0 2),none] ?_ ?_;iterate 5 refine f_o ?_
 refine f_l2 ?_;iterate 3 refine f_o ?_
 refine f_l2 ?_;refine f_o ?_ (h:=fun _=>(z5i (b:=2) (q:=x4.2.q) rfl rfl));refine f_o ?_ (h:=fun _=>(zjw rfl rfl rfl rfl g5.1 g5.2));refine f_o ?_ (h:=fun _=>(q_lastQ (b:=2) (q:=x4.2.q) g6 rfl rfl rfl));refine f_l2 ?_ (h0:=(ztv (b:=2) (q:=x4.2.q) g6 rfl rfl rfl)) (h1:=(ztv (b:=2) (q:=x4.2.q) g6 rfl rfl rfl)) (h2:=(ztv (b:=2) (q:=x4.2.q) g6 rfl rfl rfl)) (h3:=(ztv (b:=2) (q:=x4.2.q) g6 rfl rfl rfl));iterate 2 refine f_o ?_
 refine f_sp ?_ (h:=by kernel_rfl) (h':=by kernel_rfl);iterate 2 refine f_o ?_
 refine f_sq ?_ (h:=by kernel_rfl) (h':=by kernel_rfl);exact f_e;refine zc (o:=or2) ((Rd.mk x4.2.s (ix (zcg x4.2.q) ((List.length (zcg x4.2.q):Int)-1)) 91 x4.2.q)) h ?_;exact zpj (bl 131 2722258915085098104055326439904940916703) (by kernel_rfl) (by kernel_rfl);refine zfp hc6 rfl ?_;refine zc (o:=or2) (x4.2) h ?_;exact zpj (bl 131 2722258915085098104055326439904940916703) (by kernel_rfl) (by kernel_rfl);intro j2 h;refine zbq (by dsimp only[zau,zbo,List.foldl,List.set]) rfl ?_;refine zi ?_;refine wq 6 ?_;refine zab h (fun hc7 h=> ?_) (fun hc7 h=> ?_);refine zfl hc7 rfl ?_;obtain⟨g7,h⟩:=ze h;refine zi ?_;refine qdw (id:=18) (sg1 11 ⟨[(69,[.s j2.s,.i j2.a,.i j2.e,(zbm 2 j2.q)]),(69,[]),((zm j2.q).1,(zm j2.q).2),(34,[.b false,.b false,.u 0,.raw (.int .u64 0),.raw (.int .u64 0),.raw (.int .u64 0),.raw (.int .u64 0),.i 0,.i 0,.list 0 [] .full]),(34,(Enc.cells ((Rg.mk x1.2 x2 x4.1):Rg)))],[],[],0,false⟩ ⟨[(69,[.s j2.s,.i j2.a,.i j2.e,(zbm 2 j2.q)]),(69,[]),((zm j2.q).1,(zm j2.q).2),(34,[.b false,.b false,.u 0,.raw (.int .u64 0),.raw (.int .u64 0),.raw (.int .u64 0),.raw (.int .u64 0),.i 0,.i 0,.list 0 [] .full]),(34,(Enc.cells ((Rg.mk x1.2 x2 x4.1):Rg)))],[],[],0,false⟩) ⟨[(69,[.s j2.s,.i j2.a,.i j2.e,(zbm 2 j2.q)]),(69,[]),((zm j2.q).1,(zm j2.q).2),(34,[.b false,.b false,.u 0,.raw (.int .u64 0),.raw (.int .u64 0),.raw (.int .u64 0),.raw (.int .u64 0),.i 0,.i 0,.list 0 [] .full]),(34,(Enc.cells ((Rg.mk x1.2 x2 x4.1):Rg)))],[],[],0,false⟩ [some (109,.agg [.b false,.b false,.u 0,.raw (.int .u64 0),.raw (.int .u64 0),.raw (.int .u64 0),.raw (.int .u64 0),.i 0,.i 0,.list 0 [] .full]),some (110,.i ((List.length s:Int)-(List.length x1.1:Int))),some (111,.ptr 0 0),some (112,.ptr 0 0),some (113,.ptr 0 1),some (114,.i j2.a),some (115,.i (((List.length s:Int)-(List.length x1.1:Int))+j2.a)),some (116,.ptr 0 0),some (117,.ptr 0 0),some (118,.ptr 0 2),some (119,.i j2.e),none,some (3,.i (((List.length s:Int)-(List.length x1.1:Int))+j2.a)),some (4,.i j2.e)] ?_ ?_;iterate 5 refine f_o ?_
 refine f_l ?_;refine f_o ?_ (h:=fun _=>(qnc rfl rfl rfl rfl g7.1 g7.2));iterate 3 refine f_o ?_
 refine f_l ?_;refine f_s ?_ (h:=by kernel_rfl);iterate 2 refine f_o ?_
 exact f_e;exact zdu (fun(r:(Rg×Int×Int))=>(.tup [.agg (Enc.cells (r.1:Rg)),.i r.2.1,.i r.2.2]:AV)) h (a:= .tup [.agg [.b false,.b false,.u 0,.raw (.int .u64 0),.raw (.int .u64 0),.raw (.int .u64 0),.raw (.int .u64 0),.i 0,.i 0,.list 0 [] .full],.i (((List.length s:Int)-(List.length x1.1:Int))+j2.a),.i j2.e]) rfl (show zad _ _=true from(za (by kernel_rfl) (by kernel_rfl))) (show AV.tup (stripL _)=_ from congrArg AV.tup (zq (by kernel_rfl) (zq rfl (zq rfl rfl))));refine zfp hc7 rfl ?_;refine zi ?_;refine wq 2 ?_;obtain⟨x6,hx6,h⟩:=zr h;refine zlf (args':=[.agg (Enc.cells ((Rg.mk x1.2 x2 x4.1):Rg))]) (r:= .i x6) (qlg (Rg.mk x1.2 x2 x4.1) x6 hx6) rfl rfl (zq (zcm (zac (Enc.clo _))) rfl) (za (zaq _ _ (zac (Enc.clo _))) rfl) (by dsimp only[zaf,List.set]) ?_;refine wq 4 ?_;refine zab h (fun hc8 h=> ?_) (fun hc8 h=> ?_);refine zfl hc8 rfl ?_;refine wq 1 ?_;refine w_qs (.agg (Enc.cells ((Rg.mk false false noneT):Rg))) rfl rfl rfl rfl (by simp only[zcy,stripL,Enc.stripL]<;>rfl) (by dsimp only[zaf,List.set]) ?_;refine zao ?_;refine w_o (a:= .i (List.length s:Int)) (h:=zba (zeu rfl rfl rfl)) ?_;refine zao ?_;refine zeq 10 (Enc.cells ((Rg.mk false false noneT):Rg)) ?_;refine wq 2 ?_;exact zdu (fun(r:(Rg×Int×Int))=>(.tup [.agg (Enc.cells (r.1:Rg)),.i r.2.1,.i r.2.2]:AV)) h (a:= .tup [.agg (Enc.cells ((Rg.mk false false noneT):Rg)),.i (List.length s:Int),.i x6]) rfl (show zad _ _=true from(za (zaq _ _ (zac (Enc.clo _))) (by kernel_rfl))) (show AV.tup (stripL _)=_ from congrArg AV.tup (zq (zcm (zac (Enc.clo _))) (zq rfl (zq rfl rfl))));refine zfp hc8 rfl ?_;refine wq 3 ?_;refine w_o (a:= .i (List.length s:Int)) (h:=zba (zeu rfl rfl rfl)) ?_;refine zeq 10 (Enc.cells ((Rg.mk x1.2 x2 x4.1):Rg)) ?_;refine wq 2 ?_;exact zdu (fun(r:(Rg×Int×Int))=>(.tup [.agg (Enc.cells (r.1:Rg)),.i r.2.1,.i r.2.2]:AV)) h (a:= .tup [.agg (Enc.cells ((Rg.mk x1.2 x2 x4.1):Rg)),.i (List.length s:Int),.i 0]) rfl (show zad _ _=true from(za (zaq _ _ (zac (Enc.clo _))) (by kernel_rfl))) (show AV.tup (stripL _)=_ from congrArg AV.tup (zq (zcm (zac (Enc.clo _))) (zq rfl (zq rfl rfl))))
end Go.Ab
namespace Go.Ab
open Go Go.RowKit Go.Fwd Go.Proofs
noncomputable def qnb (fuel:Nat)(a:Rd->Option (Tr×Rd))(rows:List Tr)(r:Rd):Option (Nat×Rd):=
 (zai (zdz r) (fun x1=>(zav (β:=Int×Rd×Nat) (fun s1=>(bif (s1.1 !=0) then(bif (s1.1 !=124) then(bif (s1.1 !=41) then(zai (a s1.2.1) (fun x2=>(zai (zbz fuel x2.1 x2.2) (fun x3=>(qdg (rows[s1.2.2]? =some x3.1) (zai (zdz x3.2) (fun x4=>(some (inl (x4.1,x4.2,(s1.2.2+1))))))))))) else(some (inr (s1.2.2,s1.2.1)))) else(some (inr (s1.2.2,s1.2.1)))) else(some (inr (s1.2.2,s1.2.1))))) fuel (x1.1,x1.2,0))))
theorem ent97:Ent prog 97:=enters_of Tryz.func97 (by kernel_rfl) rfl
theorem pc1_it (fuel:Nat)(a:Rd->Option (Tr×Rd))(rows:List Tr)(r:Rd)(ha: ∀(r:Rd)(y:Tr×Rd),a r=some y->RdC prog 99 [] r (.A y.1) y.2)(r2:Rd)(h:qnb fuel a rows r=some (rows.length,r2)):RdIt prog 97 r (rows.map zoh) r2:=by
 obtain⟨c,hc⟩: ∃c,Tryz.f97.body=some c:=⟨_,rfl⟩;refine qnf mix Tryz.func97 hc (fun G hGr k0 hk0=> ?_);obtain⟨l,hGl⟩: ∃l,G.l=l:=⟨_,rfl⟩;rw[List.length_map,hGl];cases hc;unfold qnb at h;refine zbq (by dsimp only[zam,Tryz.f97,length_cons,length_nil,Nat.zero_add,Nat.reduceAdd,Nat.reduceSub,List.replicate,List.cons_append,List.nil_append]) (show rdS r.q r=(.B [(69,[.s r.s,.i r.a,.i r.e,(zbm 2 r.q)]),((zm r.q).1,[]),((zm r.q).1,(zm r.q).2)]) from rfl) ?_;refine zgq (zb ?_);refine w_o (a:= .ptr 0 0) ?_;obtain⟨x1,hx1,h⟩:=zr h;refine zhj (r:= .u x1.1) (U':=(.B [(69,[.s x1.2.s,.i x1.2.a,.i x1.2.e,(zbm 3 x1.2.q)]),((zm r.q).1,[]),((zm r.q).1,[]),((zm x1.2.q).1,(zm x1.2.q).2)])) ((zrh r x1 hx1) _ 2 (by decide) rfl rfl) rfl rfl ⟨rfl,rfl⟩ (by dsimp only[zaf,List.set]) ?_;refine zao ?_;refine zhv 25 [(0,.yld l),(1,.iptr [.ptr 0 0]),(3,.u x1.1)] (U':=(.B [(69,[.s x1.2.s,.i x1.2.a,.i x1.2.e,(zbm 2 x1.2.q)]),((zm r.q).1,[]),((zm x1.2.q).1,(zm x1.2.q).2)])) (wmk (bl 25 11) 2 [] [3] 1 hk0 (zar rfl (zjd fun _=>rfl) zk (zd rfl (zn _ _ _) zv) rfl)) ?_;refine zt ?_;refine zcf h (bz 0 25 33554376) (fun s1=>[(3,.u s1.1)]) (fun s1=>⟨[(69,[.s s1.2.1.s,.i s1.2.1.a,.i s1.2.1.e,(zbm 2 s1.2.1.q)]),((zm r.q).1,[]),((zm s1.2.1.q).1,(zm s1.2.1.q).2)],[],[],s1.2.2,false⟩) ?_ ?_;exact zaz (bl 25 63);intro s1 p1 h;refine zdf ?_;refine zi ?_;refine zae [.m _,.v (.b (s1.1 !=0))] ?_;refine zab h (fun hc1 h=> ?_) (fun hc1 h=> ?_);refine zap hc1 ?_;refine w_r [.m _,.v (.b (s1.1 !=124)),.v (.b (s1.1 !=124))] ?_;refine zab h (fun hc2 h=> ?_) (fun hc2 h=> ?_);refine zap hc2 ?_;refine w_r [.m _,.v (.b (s1.1 !=41)),.v (.b (s1.1 !=41))] ?_;refine zbr h (fun hc3 h=> ?_) (fun hc3 h=> ?_);refine zi ?_;refine zt ?_;obtain⟨x2,hx2,h⟩:=zr h;obtain⟨x3,hx3,h⟩:=zr h;obtain⟨g1,h⟩:=z8f h;refine w_seqC (id:=3) ?_;refine zrj (fun ops hops FIN hFIN S0 hS0=> ?_);let H0:St:=⟨[(69,[.s x3.2.s,.i x3.2.a,.i x3.2.e,(zbm 4 x3.2.q)]),((zm r.q).1,[]),((zm s1.2.1.q).1,[]),((zm x2.2.q).1,[]),((zm x3.2.q).1,(zm x3.2.q).2)],[],[],(s1.2.2+1),false⟩
 let H1:St:=⟨[(69,[.s x3.2.s,.i x3.2.a,.i x3.2.e,(zbm 4 x3.2.q)]),((zm r.q).1,[]),((zm s1.2.1.q).1,[]),((zm x2.2.q).1,[]),((zm x3.2.q).1,(zm x3.2.q).2)],[],[],s1.2.2,true⟩
 let H2:St:=⟨[(69,[.s x3.2.s,.i x3.2.a,.i x3.2.e,(zbm 4 x3.2.q)]),((zm r.q).1,[]),((zm s1.2.1.q).1,[]),((zm x2.2.q).1,[]),((zm x3.2.q).1,(zm x3.2.q).2)],[],[],s1.2.2,false⟩
 let H3:St:=⟨[(69,[.s x2.2.s,.i x2.2.a,.i x2.2.e,(zbm 3 x2.2.q)]),((zm r.q).1,[]),((zm s1.2.1.q).1,[]),((zm x2.2.q).1,(zm x2.2.q).2)],[],[],s1.2.2,false⟩
 let H4:St:=⟨[(69,[.s s1.2.1.s,.i s1.2.1.a,.i s1.2.1.e,(zbm 2 s1.2.1.q)]),((zm r.q).1,[]),((zm s1.2.1.q).1,(zm s1.2.1.q).2)],[],[],s1.2.2,false⟩
 let N:List (Option (Nat×AV))->Nat->Nat->St->Prop:=fun ps k m U=>aN (ITP prog) prog (some G) ops FIN S0 ps 7 k m U
 obtain⟨psY,hpsY⟩: ∃ps:List (Option (Nat×AV)),ps=[some (18,.yld l),some (19,.ptr 0 0),some (20,.ptr 0 0),some (21,.A (x2.1:Tr)),some (22,.A (x3.1:Tr)),some (23,.b true),some (24,.b false)]:=⟨_,rfl⟩;have zY7:N psY 0 127 H0:=by
  refine aN_0 hops hS0 hpsY (hFIN _ _ ?_);refine zcc rfl ?_;refine zb (k0:=k0) (id:=2) ?_;refine w_o (a:= .ptr 0 0) ?_;obtain⟨x4,hx4,h⟩:=zr h;refine zhj (r:= .u x4.1) (U':=⟨[(69,[.s x4.2.s,.i x4.2.a,.i x4.2.e,(zbm 5 x4.2.q)]),((zm r.q).1,[]),((zm s1.2.1.q).1,[]),((zm x2.2.q).1,[]),((zm x3.2.q).1,[]),((zm x4.2.q).1,(zm x4.2.q).2)],[],[],(s1.2.2+1),false⟩) ((zrh x3.2 x4 hx4) _ 4 (by decide) rfl rfl) rfl rfl ⟨rfl,rfl⟩ (by dsimp only[zaf,List.set]) ?_;refine zao ?_;refine zbb (p:=p1) (x4.1,x4.2,(s1.2.2+1)) h ?_;exact(wmk (bl 25 63) 2 [] [5] 1 hk0 (zar rfl (zjd fun _=>rfl) zk (zd rfl (zn _ _ _) zv) rfl))
 have zY6:N psY 1 63 H0:=by
  refine qki hops hS0 hpsY 6 ?_;refine w_o (a:= .b false) ?_;exact zfo zY7 hS0 hpsY
 obtain⟨psN,hpsN⟩: ∃ps:List (Option (Nat×AV)),ps=[some (18,.yld l),some (19,.ptr 0 0),some (20,.ptr 0 0),some (21,.A (x2.1:Tr)),some (22,.A (x3.1:Tr)),some (23,.b false),some (24,.b true)]:=⟨_,rfl⟩;have zN7:N psN 0 127 H1:=by
  refine aN_0 hops hS0 hpsN (hFIN _ _ ?_);refine zdx rfl ?_;refine .inr ?_;exact⟨⟨.tup [],rfl⟩,.inl rfl⟩
 have zN6:N psN 1 63 H1:=by
  refine qki hops hS0 hpsN 6 ?_;refine w_o (a:= .b true) ?_;exact zfo zN7 hS0 hpsN
 obtain⟨ps,hps⟩: ∃ps:List (Option (Nat×AV)),ps=[some (18,.yld l),some (19,.ptr 0 0),some (20,.ptr 0 0),some (21,.A (x2.1:Tr)),some (22,.A (x3.1:Tr)),none,none]:=⟨_,rfl⟩;have n13:N ps 2 31 H2:=by
  refine qki hops hS0 hps 5 ?_;refine ztu (row:=zoh) (x:=x3.1) (U1:=H0) (U2:=H1) g1 (zq (zcm (zac (Enc.clo _))) rfl) (za (zaq _ _ (zac (Enc.clo _))) rfl) (zyf rfl) rfl hGl hGr rfl rfl rfl rfl (by dsimp only[zaf,List.set]) (by dsimp only[zaf,List.set]) rfl rfl ?_ ?_;exact zfo zY6 hS0 hpsY;exact zfo zN6 hS0 hpsN
 have n12:N ps 3 30 H2:=by
  refine qki hops hS0 hps 0 ?_;refine zao ?_;exact zfo n13 hS0 hps
 have n11:N ps 3 15 H3:=by
  refine qki hops hS0 hps 4 ?_;refine zhj (r:= .A (x3.1:Tr)) (U':=H2) ((zxy fuel x2.1 x2.2 x3 hx3) _ 3 (by decide) rfl rfl) rfl rfl ⟨rfl,rfl⟩ (by dsimp only[zaf,List.set]) ?_;exact zfo n13 hS0 hps
 have n10:N ps 4 14 H3:=by
  refine aN_2 hops hS0 hps 0 4 ?_ ?_;refine zao ?_;exact zfo n11 hS0 hps;refine zhj (r:= .A (x3.1:Tr)) (U':=H2) ((zxy fuel x2.1 x2.2 x3 hx3) _ 3 (by decide) rfl rfl) rfl rfl ⟨rfl,rfl⟩ (by dsimp only[zaf,List.set]) ?_;exact zfo n12 hS0 hps
 have n9:N ps 4 13 H3:=by
  refine qki hops hS0 hps 1 ?_;refine w_o (a:= .ptr 0 0) ?_;exact zfo n11 hS0 hps
 have n8:N ps 4 7 H4:=by
  refine qki hops hS0 hps 3 ?_;refine zhj (r:= .A (x2.1:Tr)) (U':=H3) ((ha s1.2.1 x2 hx2) _ 2 (by decide) rfl rfl) rfl rfl ⟨rfl,rfl⟩ (by dsimp only[zaf,List.set]) ?_;exact zfo n11 hS0 hps
 have n7:N ps 5 12 H3:=by
  refine aN_2 hops hS0 hps 0 1 ?_ ?_;refine zao ?_;exact zfo n9 hS0 hps;refine w_o (a:= .ptr 0 0) ?_;exact zfo n10 hS0 hps
 have n6:N ps 5 6 H4:=by
  refine aN_2 hops hS0 hps 0 3 ?_ ?_;refine zao ?_;exact zfo n8 hS0 hps;refine zhj (r:= .A (x2.1:Tr)) (U':=H3) ((ha s1.2.1 x2 hx2) _ 2 (by decide) rfl rfl) rfl rfl ⟨rfl,rfl⟩ (by dsimp only[zaf,List.set]) ?_;exact zfo n10 hS0 hps
 have n5:N ps 5 5 H4:=by
  refine aN_2 hops hS0 hps 1 3 ?_ ?_;refine w_o (a:= .ptr 0 0) ?_;exact zfo n8 hS0 hps;refine zhj (r:= .A (x2.1:Tr)) (U':=H3) ((ha s1.2.1 x2 hx2) _ 2 (by decide) rfl rfl) rfl rfl ⟨rfl,rfl⟩ (by dsimp only[zaf,List.set]) ?_;exact zfo n9 hS0 hps
 have n4:N ps 5 3 H4:=by
  refine qki hops hS0 hps 2 ?_;refine w_o (a:= .ptr 0 0) ?_;exact zfo n8 hS0 hps
 have n3:N ps 6 4 H4:=by
  refine aN_3 hops hS0 hps 0 1 3 ?_ ?_ ?_;refine zao ?_;exact zfo n5 hS0 hps;refine w_o (a:= .ptr 0 0) ?_;exact zfo n6 hS0 hps;refine zhj (r:= .A (x2.1:Tr)) (U':=H3) ((ha s1.2.1 x2 hx2) _ 2 (by decide) rfl rfl) rfl rfl ⟨rfl,rfl⟩ (by dsimp only[zaf,List.set]) ?_;exact zfo n7 hS0 hps
 have n2:N ps 6 2 H4:=by
  refine aN_2 hops hS0 hps 0 2 ?_ ?_;refine zao ?_;exact zfo n4 hS0 hps;refine w_o (a:= .ptr 0 0) ?_;exact zfo n6 hS0 hps
 have n1:N ps 6 1 H4:=by
  refine aN_2 hops hS0 hps 1 2 ?_ ?_;refine w_o (a:= .ptr 0 0) ?_;exact zfo n4 hS0 hps;refine w_o (a:= .ptr 0 0) ?_;exact zfo n5 hS0 hps
 have n0:N ps 7 0 H4:=by
  refine aN_3 hops hS0 hps 0 1 2 ?_ ?_ ?_;refine zao ?_;exact zfo n1 hS0 hps;refine w_o (a:= .ptr 0 0) ?_;exact zfo n2 hS0 hps;refine w_o (a:= .ptr 0 0) ?_;exact zfo n3 hS0 hps
 exact zye n0 hps;refine zy h (fun h=> ?_);have he1:=Option.some.inj h;exact⟨⟨.tup [],rfl⟩,.inr ⟨congrArg Prod.fst he1,[2],1,rfl,by have e2:=congrArg Prod.snd he1;dsimp only at e2;subst e2;exact(zyo rfl (zjd fun _=>rfl) zk (zd rfl (zn _ _ _) zv))⟩⟩;refine zap hc2 ?_;refine w_r [.p,.p,.v (.b false)] ?_;refine zcc rfl ?_;refine zy h (fun h=> ?_);have he2:=Option.some.inj h;exact⟨⟨.tup [],rfl⟩,.inr ⟨congrArg Prod.fst he2,[2],1,rfl,by have e2:=congrArg Prod.snd he2;dsimp only at e2;subst e2;exact(zyo rfl (zjd fun _=>rfl) zk (zd rfl (zn _ _ _) zv))⟩⟩;refine zap hc1 ?_;refine w_r [.p,.p,.v (.b false),.m _,.p] ?_;refine w_r [.p,.v (.b false)] ?_;refine zcc rfl ?_;refine zy h (fun h=> ?_);have he3:=Option.some.inj h;exact⟨⟨.tup [],rfl⟩,.inr ⟨congrArg Prod.fst he3,[2],1,rfl,by have e2:=congrArg Prod.snd he3;dsimp only at e2;subst e2;exact(zyo rfl (zjd fun _=>rfl) zk (zd rfl (zn _ _ _) zv))⟩⟩
theorem zmd (i:It)(l:List It):zkw (i::l)=zxt i++zkw l:=by simp[zkw]
theorem qif (s rest:List UInt8)(hlen:s.length<2^40): ∀(its:List It) (a:List UInt8) (first:Bool) (out:BS) (fuel:Nat),s=a++zkw its++93::rest->(∀i∈its,gdI i)->its.length<fuel->(first=true->its≠[])->
 zav (zxm s) fuel ((a.length:Int),first,out)=some (.inl (((a++zkw its).length:Int),z4s out its))
 | [],a,first,out,fuel,hs,_,hf,hn=>by
  obtain⟨f,rfl⟩: ∃f,fuel=f+1:=⟨fuel-1,by omega⟩;have h1:first=false:=by
   cases first with
   |false=>rfl
   |true=>exact absurd rfl (hn rfl)
  subst h1;have e:s=a++93::rest:=by rw[hs];simp[zkw]
  have hl:(s.length:Int)=(a.length:Int)+1+(rest.length:Int):=by rw[e];simp only[length_append,length_cons];omega
  have hat:ix s (a.length:Int)=93:=by rw[e];exact qdk a rest 93
  have hb:zxm s ((a.length:Int),false,out)=some (.inr (.inl ((a.length:Int),out))):=by
   unfold zxm;refine zlq (.inr (.inl ((a.length:Int),out))) ?_ rfl;simp only[cond_false];rw[show decide ((a.length:Int)<(s.length:Int))=true by simp;omega,cond_true];refine zf (by omega) (zj fun x hx=> ?_);rw[hat] at hx;subst hx;rfl
  rw[zav,hb];simp[zkw,z4s]
 | i ::its,a,first,out,fuel,hs,hg,hf,hn=>by
  obtain⟨f,rfl⟩: ∃f,fuel=f+1:=⟨fuel-1,by omega⟩;have e:s=a++zxt i++(zkw its++93::rest):=by rw[hs,zmd];simp
  have hb: ∃c t,zkw its++93::rest=c::t/\ c≠45:=by
   cases its with
   |nil=>exact⟨93,rest,rfl,by decide⟩
   | cons j its=>
    obtain⟨l,hl⟩:=zzq j;exact⟨92,l++(zkw its++93::rest),by rw[zmd,hl];simp,by decide⟩
  have h1:=br_step a i (hg i (by simp)) _ hb first out (by rw[<-e];exact hlen)
  rw[<-e] at h1;rw[zav,h1];show zav (zxm s) f _=_;have:=qif s rest hlen its (a++zxt i) false (out|||qqq i) f (by rw[hs,zmd];simp) (fun j hj=>hg j (by simp[hj])) (by simp only[length_cons] at hf;omega) (fun h=>by cases h);rw[this,zmd];simp[z4s]
theorem zzo (k:Nat): ∀(l:List It) (s:BS),(z4s s l).getLsbD k=(s.getLsbD k||l.any fun i=>(qqq i).getLsbD k)
 |[],s=>by simp[z4s]
 | i::l,s=>by
  show(z4s (s|||qqq i) l).getLsbD k=_
  rw[zzo k l];simp[Bool.or_assoc]
theorem z6v (c:Nat)(hc:c<256):(bit c).getLsbD c=true:=by
 unfold bit;simp[BitVec.getLsbD_shiftLeft,hc]
theorem val_ne (i:It)(h:gdI i):(qqq i).getLsbD i.1=true:=by
 obtain⟨c,d⟩:=i;cases d with
 |none=>exact z6v c h
 | some d=>
  have h:c<=d/\ d<256:=h
  show(bits c (d+1-c)).getLsbD c=true
  obtain⟨k,hk⟩: ∃k,d+1-c=k+1:=⟨d-c,by omega⟩;rw[hk,bits];simp[z6v c (by omega)]
theorem qgm (l:List It)(hl:l≠[])(h: ∀i∈l,gdI i):z4s 0#256 l≠0#256:=by
 cases l with
 |nil=>exact absurd rfl hl
 | cons i l=>
  intro e;have h1:=zzo i.1 (i::l) 0#256;rw[e,List.any_cons,val_ne i (h i (by simp))] at h1;simp at h1
theorem qbw (its:List It)(rest:List UInt8)(hn:its≠[])(hg: ∀i∈its,gdI i)(hl:its.length<1000)(hlen:(zkw its).length+rest.length<2^39):
 zij 1100 (([91]:List UInt8)++zkw its++[93]++rest)=some (z4s 0#256 its,((zkw its).length:Int)+2,0):=by
 obtain⟨s,hs⟩: ∃s,s=([91]:List UInt8)++zkw its++[93]++rest:=⟨_,rfl⟩;rw[<-hs];have e:s=[91]++zkw its++93::rest:=by rw[hs];simp
 have hsl:s.length=(zkw its).length+rest.length+2:=by rw[e];simp only[length_append,length_cons,length_nil];omega
 obtain⟨i0,its',hi⟩: ∃i l,its=i::l:=by
  cases its with
  |nil=>exact absurd rfl hn
  |cons i l=>exact⟨i,l,rfl⟩
 obtain⟨l0,hl0⟩:=zzq i0;have hd1:s.drop 1=92::(l0++zkw its'++93::rest):=by rw[e,hi,zmd,hl0];simp
 have hloop:=qif s rest (by omega) its [91] true 0#256 1100 e hg (by omega) (fun _=>hn);unfold zij;refine zj fun x1 hx1=> ?_;have:x1=true:=by rw[<-hx1,e];rfl
 subst this;rw[show(!true)=false from rfl,cond_false];refine zf (by omega) (zj fun x2 hx2=> ?_);rw[show(1:Int)=((1:Nat):Int) from rfl,zvj,hd1] at hx2;refine zj fun x3 hx3=> ?_;have:x3=false:=by rw[<-hx3, <-hx2];rfl
 subst this;rw[cond_false];refine zaj 1 rfl ?_;refine zaj (((([91]:List UInt8)++zkw its).length:Int),z4s 0#256 its) hloop ?_;have hla:((([91]:List UInt8)++zkw its).length:Int)=((zkw its).length:Int)+1:=by simp only[length_append,length_cons,length_nil];omega
 rw[hla];rw[show(((zkw its).length:Int)+1==(s.length:Int))=false by simp;omega,cond_false];refine zaj (z4s 0#256 its) rfl ?_;rw[show decide (z4s 0#256 its=0#256)=false by simpa using qgm its hn hg,cond_false];refine zf (by simp only;omega) ?_;simp only;rw[show((zkw its).length:Int)+1+1=((zkw its).length:Int)+2 by omega]
def zyk (fuel:Nat)(a:Rd->Option (Tr×Rd))(r:Rd):Option (List Tr×Rd):=
 zai (zdz r) (fun x1=>zav (β:=Int×Rd×List Tr) (fun s1=>bif (s1.1 !=0) then(bif (s1.1 !=124) then(bif (s1.1 !=41) then zai (a s1.2.1) (fun x2=>zai (zbz fuel x2.1 x2.2) (fun x3=>zai (zdz x3.2) (fun x4=>some (inl (x4.1,x4.2,s1.2.2++[x3.1]))))) else some (inr (s1.2.2,s1.2.1))) else some (inr (s1.2.2,s1.2.1))) else some (inr (s1.2.2,s1.2.1))) fuel (x1.1,x1.2,[]))
theorem z8z (F:Nat)(a:Rd->Option (Tr×Rd))(rows:List Tr)(r2:Rd): ∀(fuel:Nat) (c:Int) (r:Rd) (acc:List Tr),
 zav (β:=Int×Rd×List Tr) (fun s1=>bif (s1.1 !=0) then(bif (s1.1 !=124) then(bif (s1.1 !=41) then zai (a s1.2.1) (fun x2=>zai (zbz F x2.1 x2.2) (fun x3=>zai (zdz x3.2) (fun x4=>some (inl (x4.1,x4.2,s1.2.2++[x3.1]))))) else some (inr (s1.2.2,s1.2.1))) else some (inr (s1.2.2,s1.2.1))) else some (inr (s1.2.2,s1.2.1))) fuel (c,r,acc)=some (rows,r2)->
 (∃tl,rows=acc++tl)/\ zav (β:=Int×Rd×Nat) (fun s1=>(bif (s1.1 !=0) then(bif (s1.1 !=124) then(bif (s1.1 !=41) then(zai (a s1.2.1) (fun x2=>(zai (zbz F x2.1 x2.2) (fun x3=>(qdg (rows[s1.2.2]? =some x3.1) (zai (zdz x3.2) (fun x4=>(some (inl (x4.1,x4.2,(s1.2.2+1))))))))))) else(some (inr (s1.2.2,s1.2.1)))) else(some (inr (s1.2.2,s1.2.1)))) else(some (inr (s1.2.2,s1.2.1))))) fuel (c,r,acc.length)=some (rows.length,r2)
 |0,_,_,_,h=>by cases h
 | fuel +1,c,r,acc,h=>by
  have stop:some (inr (acc,r):(Int×Rd×List Tr) ⊕ (List Tr×Rd))=some (inr (acc,r))->some (acc,r)=some (rows,r2)->(∃tl,rows=acc++tl)/\ some (acc.length,r)=some (rows.length,r2):=fun _ h=>by
   cases h;exact⟨⟨[],by simp⟩,rfl⟩
  rw[zav] at h⊢;simp only at h⊢;cases h1:(c !=0) with
  |false=>rw[h1] at h;simp only[cond_false] at h⊢;exact stop rfl h
  | true =>
   rw[h1] at h;simp only[cond_true] at h⊢;cases h2:(c !=124) with
   |false=>rw[h2] at h;simp only[cond_false] at h⊢;exact stop rfl h
   | true=>
    rw[h2] at h;simp only[cond_true] at h⊢;cases h3:(c !=41) with
    |false=>rw[h3] at h;simp only[cond_false] at h⊢;exact stop rfl h
    | true=>
     rw[h3] at h;simp only[cond_true] at h⊢;cases ha:a r with
     |none=>rw[ha] at h;cases h
     | some x2=>
      rw[ha] at h;simp only[zai] at h⊢;cases hc:zbz F x2.1 x2.2 with
      |none=>rw[hc] at h;cases h
      | some x3=>
       rw[hc] at h;simp only at h⊢;cases hn:zdz x3.2 with
       |none=>rw[hn] at h;cases h
       | some x4=>
        rw[hn] at h;simp only at h⊢;obtain⟨⟨tl,e1⟩,e2⟩:=z8z F a rows r2 fuel x4.1 x4.2 (acc++[x3.1]) h;have hr:rows[acc.length]? =some x3.1:=by rw[e1];simp
        refine⟨⟨x3.1::tl,by rw[e1];simp⟩,?_⟩;unfold qdg;rw[if_pos hr];simp only;rw[length_append] at e2;exact e2
theorem pcs_ok (fuel:Nat)(a:Rd->Option (Tr×Rd))(r:Rd)(y:List Tr×Rd)(h:zyk fuel a r=some y):qnb fuel a y.1 r=some (y.1.length,y.2):=by
 unfold zyk at h;obtain⟨x1,h1,h⟩:=zr h;unfold qnb;rw[h1];exact(z8z fuel a y.1 y.2 fuel x1.1 x1.2 [] h).2
def zvf (fuel:Nat):Nat->Rd->Option (Tr×Rd)
 |0,_=>none
 |n+1,r=>zvs fuel (zyk fuel (zei fuel (zdp (zvf fuel n)))) r
theorem qpn (fuel:Nat): ∀(n:Nat) (r:Rd) (y:Tr×Rd),zvf fuel n r=some y->RdC prog 34 [] r (.agg (Enc.cells y.1)) y.2
 |0,_,_,h=>by cases h
 |n+1,r,y,h=>alts_rd fuel _ r (fun r y h=>pc1_it fuel _ y.1 r (fun r y h=>atom_rd fuel _ r (fun k r y h=>qor _ k r (qpn fuel n) y h) y h) y.2 (pcs_ok fuel _ r y h)) y h
def z4f (fuel n:Nat)(s:List UInt8):Option (Rg×Int×Int):=z8p (zvf fuel n) s
theorem qeg (fuel n:Nat)(s:List UInt8)(r:Rg×Int×Int)(h:z4f fuel n s=some r):Pure (ITP prog) prog 12 [.raw (.string (bs s))] (.tup [.agg (Enc.cells (r.1:Rg)),.raw (.int .i64 r.2.1),.raw (.int .i64 r.2.2)]):=read_sh _ s r (qpn fuel n) h
def brT (s:BS):Tr:= .mk 2 s 0 0 []
theorem z6b (s:BS):pre (brT s)=[brT s]:=by simp[brT,pre,zbe]
theorem qju {s:BS} (h:s≠0#256):zcq (brT s)=true:=by
 rw[brT,zck,ziy];simp[h]
theorem qhr {s:BS} (h:s≠0#256):zev (brT s)=true:=by
 rw[zev,zhf,z6b];simp[qju h]
theorem qkj {s:BS} (h:s≠0#256):znx (brT s)=true:=by rw[znx,qhr h,Bool.or_true]
theorem qem {s:BS} (h:s≠0#256):zfr (brT s) 1 1=brT s:=by
 unfold zfr;rw[qkj h];rfl
theorem z9f (s:List UInt8)(k:Int)(h:(s.length:Int)<=k)(q:Stk):zdz (Rd.mk s k 0 q)=some (0,Rd.mk s k 0 q):=by
 unfold zdz;rw[show((Rd.mk s k 0 q).e !=0)=false from rfl,cond_false,show decide ((Rd.mk s k 0 q).a>=(length (Rd.mk s k 0 q).s:Int))=true by simpa using h,cond_true]
theorem zic {β ρ:Type} {body:β->Option (β ⊕ ρ)} {s:β} {y:ρ} (n:Nat)(h:body s=some (.inr y)):zav body (n+1) s=some y:=by rw[zav,h]
variable {n:Nat}
def CT (t:Tr):Prop:=CR t/\ (pre t).length<=10000
theorem CT.clean {t:Tr} (h:CT t):zev t=true:=by
 rw[zev,zhf,and_eq_true];exact⟨by simpa using h.2,h.1⟩
theorem CT.checked {t:Tr} (h:CT t):zen t=t:=by rw[zen,if_pos h.clean]
theorem CT.good {t:Tr} (h:CT t):znx t=true:=by rw[znx,h.clean,Bool.or_true]
theorem CT.sub {t x:Tr} (h:CT t)(hx:x∈t.l):CT x:=by
 refine⟨(zmx _).1 ((zjg t).1 h.1).2 x hx,?_⟩;have h1:=zcn hx;have h2:=zio t;have:=h.2;omega
theorem CT.right {t:Tr} (h:CT t):zcq t=true:=((zjg t).1 h.1).1
theorem CT.k0 {t:Tr} (h:CT t):t.k≠0:=by rcases z0g h.right with h|h|h|h|h|h<;>omega
theorem zgz {t:Tr} (h:zcq t=true)(h2:t.k≠2)(h5:t.k≠5):t= .mk t.k 0#256 0 0 t.l:=by
 obtain⟨k,s,mn,mx,l⟩:=t;simp only[Tr.k,Tr.l] at*;rw[zck,ziy] at h;simp only[and_eq_true,Bool.not_eq_true',Bool.or_eq_false_iff,Bool.and_eq_false_iff] at h;have e2:((k:Int) !=2)=true:=by simp;omega
 have e5:((k:Int) !=5)=true:=by simp;omega
 obtain⟨⟨⟨a,b⟩,_⟩,_⟩:=h;rw[e2] at a;rw[e5] at b;have a':s=0#256:=by simpa using a
 have b':mn=0/\ mx=0:=by simpa using b
 obtain⟨rfl,rfl⟩:=b';subst a';rfl
theorem zmt {α β:Type} {f g:α->List β}: ∀ {l:List α},(∀x∈l,f x=g x)->l.flatMap f=l.flatMap g
 |[],_=>rfl
 |x::l,h=>by rw[List.flatMap_cons,List.flatMap_cons,h x (by simp),zmt fun y hy=>h y (by simp[hy])]
theorem kb {t:Tr} (h:t.k=n):((t.k:Int)==(n:Int))=true:=by rw[h];simp
theorem kbf {t:Tr} (h:t.k≠n):((t.k:Int)==(n:Int))=false:=beq_eq_false_iff_ne.2 (by omega)
theorem qjs {t:Tr} (h:CT t):zsq [t]=t:=by
 unfold zsq;have hk:=h.k0;rw[if_neg (by simp[h.clean];omega)];have hr:=h.right;by_cases h3:t.k=3
 ·obtain⟨q1,_⟩:=zkz hr h3;have e:zgn 3 1 [t]=t.l:=by unfold zgn;rw[List.flatMap_cons,kb h3,cond_true];simp
  rw[e,zkx,show((t.l.length:Int)==0)=false from beq_eq_false_iff_ne.2 (by omega),cond_false,show((t.l.length:Int)==1)=false from beq_eq_false_iff_ne.2 (by omega),cond_false];have e2:=zgz hr (by omega) (by omega);rw[h3] at e2;rw[<-e2,h.checked]
 ·by_cases h1:t.k=1
  ·have e:zgn 3 1 [t]=[]:=by unfold zgn;rw[List.flatMap_cons,kbf h3,cond_false,kb h1,cond_true];simp
   rw[e];have e2:=zgz hr (by omega) (by omega);have hl:t.l=[]:=by
    obtain⟨k,s,mn,mx,l⟩:=t;simp only[Tr.k,Tr.l] at*;subst h1;rw[zck,ziy] at hr;simp only[and_eq_true,Bool.not_eq_true',Bool.or_eq_false_iff] at hr;have:=hr.1.2;simp at this;exact this
   rw[e2,h1,hl];rfl
  ·have e:zgn 3 1 [t]=[t]:=by unfold zgn;rw[List.flatMap_cons,kbf h3,cond_false,kbf h1,cond_false];simp
   rw[e];show zen t=t;exact h.checked
def z3t (t:Tr):List Tr:=if t.k=1 then[] else if t.k=3 then t.l else[t]
def zxs (t:Tr):List Tr:=if t.k=4 then t.l else[t]
theorem qdx {t:Tr} (h:zcq t=true)(h1:t.k=1):t=emptyT:=by
 have e2:=zgz h (by omega) (by omega);have hl:t.l=[]:=by
  obtain⟨k,s,mn,mx,l⟩:=t;simp only[Tr.k,Tr.l] at*;subst h1;rw[zck,ziy] at h;simp only[and_eq_true,Bool.not_eq_true',Bool.or_eq_false_iff] at h;have:=h.1.2;simp at this;exact this
 rw[e2,h1,hl];rfl
theorem seq_pcs {t:Tr} (h:CT t):zsq (z3t t)=t:=by
 unfold z3t;have hr:=h.right;by_cases h1:t.k=1
 ·rw[if_pos h1,qdx hr h1];rfl
 ·rw [if_neg h1];by_cases h3:t.k=3
  ·rw [if_pos h3];obtain⟨q1,q2⟩:=zkz hr h3;unfold zsq;rw[if_neg (by
    simp only[List.any_eq_true,Bool.or_eq_true,not_exists,not_and,not_or];intro x hx;have hc:=h.sub hx;refine⟨by have:=hc.k0;simp;omega,by rw[hc.clean];simp⟩)]
   have e:zgn 3 1 t.l=t.l:=by
    unfold zgn;rw[show t.l.flatMap (fun x=>bif (x.k:Int)==(3:Nat) then x.l else bif (x.k:Int)==(1:Nat) then[] else[x])=t.l.flatMap (fun x=>[x]) from zmt fun x hx=>by
     have:=q2 x hx;rw[kbf this.2,cond_false,kbf this.1,cond_false]]
    simp
   rw[e,zkx,show((t.l.length:Int)==0)=false from beq_eq_false_iff_ne.2 (by omega),cond_false,show((t.l.length:Int)==1)=false from beq_eq_false_iff_ne.2 (by omega),cond_false];have e2:=zgz hr (by omega) (by omega);rw[h3] at e2;rw[<-e2,h.checked]
  ·rw[if_neg h3];exact qjs h
theorem qhl {t:Tr} (h:CT t):orT (zxs t)=t:=by
 unfold zxs;have hr:=h.right;by_cases h4:t.k=4
 ·rw [if_pos h4];obtain⟨q1,q2⟩:=zlk hr h4;unfold orT;rw[if_neg (by
   simp only[List.any_eq_true,not_exists,not_and];intro x hx;rw[(h.sub hx).good];simp)]
  have e:zgn 4 0 t.l=t.l:=by
   unfold zgn;rw[show t.l.flatMap (fun x=>bif (x.k:Int)==(4:Nat) then x.l else bif (x.k:Int)==(0:Nat) then[] else[x])=t.l.flatMap (fun x=>[x]) from zmt fun x hx=>by
    rw[kbf (q2 x hx),cond_false,kbf (h.sub hx).k0,cond_false]]
   simp
  rw[e,zkx,show((t.l.length:Int)==0)=false from beq_eq_false_iff_ne.2 (by omega),cond_false,show((t.l.length:Int)==1)=false from beq_eq_false_iff_ne.2 (by omega),cond_false];have e2:=zgz hr (by omega) (by omega);rw[h4] at e2;rw[<-e2,h.checked]
 ·rw[if_neg h4];unfold orT;rw[if_neg (by simp[h.good])];have hk:=h.k0;have e:zgn 4 0 [t]=[t]:=by unfold zgn;rw[List.flatMap_cons,kbf h4,cond_false,kbf hk,cond_false];simp
  rw[e];show zen t=t;exact h.checked
theorem zuj {t:Tr} (h:CT t):zfr t 1 1=t:=by
 unfold zfr;have hk:=h.k0
 rw[h.good,show(!true||(!(((1:Int)==0)&&((1:Int)==0))&& !(((1:Int)==1)&&((1:Int)==1))&& !zel 1 1))=false from rfl,cond_false,
  show((t.k:Int)==0&&decide ((1:Int)>0))=false by rw[show((t.k:Int)==0)=false from kbf hk];rfl,cond_false]
 by_cases h1:t.k=1
 ·rw[show(((1:Int)==0&&(1:Int)==0)||(t.k:Int)==0||(t.k:Int)==1)=true by simp[h1],cond_true,qdx h.right h1]
 ·rw[show(((1:Int)==0&&(1:Int)==0)||(t.k:Int)==0||(t.k:Int)==1)=false by rw[show((t.k:Int)==0)=false from kbf hk,show((t.k:Int)==1)=false from kbf h1];rfl,cond_false];rfl
theorem cap_one {t:Tr} (h:CT (.mk 6 0#256 0 0 [t])):zgj t= .mk 6 0#256 0 0 [t]:=h.checked
theorem qos {x:Tr} {mn mx:Int} (h:CT (.mk 5 0#256 mn mx [x])):zfr x mn mx= .mk 5 0#256 mn mx [x]:=by
 have hx:CT x:=h.sub (by simp[Tr.l]);have hk:=hx.k0;have hr:=h.right;rw[zck] at hr;simp only[and_eq_true,Bool.not_eq_true'] at hr;have h2:=hr.2;simp only[show((((5:Nat):Int))==1)=false from rfl,show((((5:Nat):Int))==2)=false from rfl,show((((5:Nat):Int))==3)=false from rfl,show((((5:Nat):Int))==4)=false from rfl,show((((5:Nat):Int))==5)=true from rfl,cond_false,cond_true,and_eq_true,Bool.not_eq_true',decide_eq_true_eq] at h2;have hb:=h2.1.2;have h1:x.k≠1:=zfu.1 h2.2 x (by simp[Tr.l]);have hb':=hb;unfold zel at hb';simp only[and_eq_true,Bool.not_eq_true',Bool.or_eq_false_iff,Bool.or_eq_true,decide_eq_true_eq,decide_eq_false_iff_not,Bool.and_eq_false_iff] at hb';unfold zfr
 rw[hx.good,hb,show(!true||(!(mn==0&&mx==0)&& !(mn==1&&mx==1)&& !true))=false by simp,cond_false,show((x.k:Int)==0&&decide (mn>0))=false by simp;omega,cond_false,
  show((mn==0&&mx==0)||(x.k:Int)==0||(x.k:Int)==1)=false by simp;omega,cond_false,
  show(mn==1&&mx==1)=false by simp;omega,cond_false]
 exact h.checked
def zrm (b:List UInt8):Prop:= ∀c t,b=c::t->c≠42/\ c≠43/\ c≠63/\ c≠123
def StopP (b:List UInt8):Prop:=b=[] \/ ∃t,b=41::t \/b=124::t
theorem StopP.noCnt {b:List UInt8} (h:StopP b):zrm b:=by
 rintro c t rfl;rcases h with h|⟨t',h|h⟩
 ·cases h
 ·cases h;decide
 ·cases h;decide
theorem z4k (a:List UInt8)(c:UInt8)(b:List UInt8):ix (a++c::b) ((a.length:Nat):Int)=c:=qdk a b c
theorem zjv (a b:List UInt8):sub (a++b) ((a.length:Nat):Int) (length (a++b):Int)=b:=by rw[zvj];simp
theorem ztk (a:List UInt8)(c:UInt8)(b:List UInt8)(q:Stk):zdz (Rd.mk (a++c::b) ((a.length:Nat):Int) 0 q)=some ((c.toNat:Int),Rd.mk (a++c::b) ((a.length:Nat):Int) 0 q):=by
 unfold zdz;have hl:(a++c::b).length=a.length+b.length+1:=by simp only[length_append,length_cons];omega
 rw[show((Rd.mk (a++c::b) ((a.length:Nat):Int) 0 q).e !=0)=false from rfl,cond_false,show decide ((Rd.mk (a++c::b) ((a.length:Nat):Int) 0 q).a>=(length (Rd.mk (a++c::b) ((a.length:Nat):Int) 0 q).s:Int))=false from decide_eq_false (by simp only;omega),cond_false];refine zf (by simp only;omega) (zj fun x hx=> ?_);simp only at hx;rw[z4k] at hx;subst hx;rfl
theorem qnx (a:List UInt8)(q:Stk):zdz (Rd.mk a ((a.length:Nat):Int) 0 q)=some (0,Rd.mk a ((a.length:Nat):Int) 0 q):=z9f a _ (Int.le_refl _) q
theorem zgy (t:Tr):(pre (zen t)).length<=10000:=by
 unfold zen;split
 ·rename_i h;exact zny h
 ·simp[noneT,pre,zbe]
theorem zif (t:Tr)(h:(pre t).length<=10000)(lo hi:Int):(pre (zfr t lo hi)).length<=10000:=by
 unfold zfr;cases (!znx t||(!(lo==0&&hi==0)&& !(lo==1&&hi==1)&& !zel lo hi)) with
 |true=>simp[noneT,pre,zbe]
 | false=>
  rw[cond_false];cases ((t.k:Int)==0&&decide (lo>0)) with
  |true=>simp[noneT,pre,zbe]
  | false=>
   rw[cond_false];cases ((lo==0&&hi==0)||(t.k:Int)==0||(t.k:Int)==1) with
   |true=>simp[emptyT,pre,zbe]
   | false=>
    rw[cond_false];cases (lo==1&&hi==1) with
    |true=>exact h
    |false=>exact zgy _
theorem zxh (k:Nat)(l:List Tr)(d:Tr)(h:(pre d).length<=10000):(pre (zkx k l d)).length<=10000:=by
 unfold zkx;cases ((l.length:Int)==0) with
 |true=>exact h
 | false=>
  rw[cond_false];cases ((l.length:Int)==1) with
  |true=>exact zgy _
  |false=>exact zgy _
theorem z6d (l:List Tr):(pre (zsq l)).length<=10000:=by
 unfold zsq;split
 ·simp[noneT,pre,zbe]
 ·exact zxh _ _ _ (by simp[emptyT,pre,zbe])
theorem z9z (l:List Tr):(pre (orT l)).length<=10000:=by
 unfold orT;split
 ·simp[noneT,pre,zbe]
 ·exact zxh _ _ _ (by simp[noneT,pre,zbe])
theorem zig: ∀l:List Tr,(∀x∈l,(pre x).length<=10000)->(zbe l).length<=10000*l.length
 |[],_=>by simp[zbe]
 | x::l,h=>by
  have h1:=h x (by simp);have h2:=zig l fun y hy=>h y (by simp[hy]);simp only[zbe,length_append,length_cons];omega
structure AtP (n:Nat)(u:List UInt8)(x:Tr):Prop where
 hd: ∃c t,u=c::t/\ (c=40 \/c=91)
 len:(pre x).length<=10000
 run: ∀(a b:List UInt8) (q:Stk),(a++u++b).length<2^39->(zcg q).length+n<2^39->zrm b-> ∃y r1 q',zei 1100 (zdp (zvf 1100 n)) (Rd.mk (a++u++b) ((a.length:Nat):Int) 0 q)=some (y,r1)/\ zbz 1100 y r1=some (x,Rd.mk (a++u++b) (((a++u).length:Nat):Int) 0 q')/\ zcg q'=zcg q
abbrev Pcs:=List (List UInt8×Tr)
def zbl (L:Pcs):List UInt8:=L.flatMap (·.1)
def zqs (L:Pcs):List Tr:=L.map (·.2)
theorem zkq (p:List UInt8×Tr)(L:Pcs):zbl (p::L)=p.1++zbl L:=by simp[zbl]
theorem qol {n:Nat} {L:Pcs} {b:List UInt8} (hL: ∀p∈L,AtP n p.1 p.2)(hb:StopP b):zrm (zbl L++b):=by
 cases L with
 |nil=>exact hb.noCnt
 | cons p L=>
  obtain⟨c,t,hc,hc'⟩:=(hL p (by simp)).hd;intro c' t' e;rw[zkq,hc] at e;simp only[List.cons_append,List.append_assoc,List.cons.injEq] at e;obtain⟨rfl,_⟩:=e;rcases hc' with rfl|rfl<;>decide
def hd0:List UInt8->Int
 |[]=>0
 |c::_=>((c.toNat:Nat):Int)
def zsd (n:Nat):Int×Rd×List Tr->Option ((Int×Rd×List Tr) ⊕ (List Tr×Rd)):=
 fun s1=>bif (s1.1 !=0) then(bif (s1.1 !=124) then(bif (s1.1 !=41) then zai ((zei 1100 (zdp (zvf 1100 n))) s1.2.1) (fun x2=>zai (zbz 1100 x2.1 x2.2) (fun x3=>zai (zdz x3.2) (fun x4=>some (inl (x4.1,x4.2,s1.2.2++[x3.1]))))) else some (inr (s1.2.2,s1.2.1))) else some (inr (s1.2.2,s1.2.1))) else some (inr (s1.2.2,s1.2.1))
theorem zlj (a b:List UInt8)(q:Stk):zdz (Rd.mk (a++b) ((a.length:Nat):Int) 0 q)=some ((hd0 (b)),Rd.mk (a++b) ((a.length:Nat):Int) 0 q):=by
 cases b with
 |nil=>rw[List.append_nil];exact qnx a q
 |cons c b=>exact ztk a c b q
theorem qdt (n:Nat)(b:List UInt8)(hb:StopP b): ∀(L:Pcs) (a:List UInt8) (q:Stk) (acc:List Tr) (fuel:Nat),(∀p∈L,AtP n p.1 p.2)->(a++zbl L++b).length<2^39->(zcg q).length+n<2^39->L.length<fuel->
 ∃q',zav (zsd n) fuel ((hd0 (zbl L++b)),Rd.mk (a++zbl L++b) ((a.length:Nat):Int) 0 q,acc)=some (acc++zqs L,Rd.mk (a++zbl L++b) (((a++zbl L).length:Nat):Int) 0 q')/\ zcg q'=zcg q
 |_,_,_,_,0,_,_,_,hf=>absurd hf (Nat.not_lt_zero _)
 | [],a,q,acc,fuel+1,hL,hlen,hq,hf=>by
  refine⟨q,?_,rfl⟩;rw[zav];have:zsd n ((hd0 (zbl []++b)),Rd.mk (a++zbl []++b) ((a.length:Nat):Int) 0 q,acc)=some (.inr (acc,Rd.mk (a++zbl []++b) ((a.length:Nat):Int) 0 q)):=by
   unfold zsd;rcases hb with rfl|⟨t,rfl|rfl⟩<;>rfl
  rw[this];simp[zqs,zbl]
 | p ::L,a,q,acc,fuel+1,hL,hlen,hq,hf=>by
  have hp:=hL p (by simp);obtain⟨c,t,hc,hc'⟩:=hp.hd;have e1:a++zbl (p::L)++b=a++p.1++(zbl L++b):=by rw[zkq];simp
  rw[e1] at hlen⊢;obtain⟨y,r1,q1,h1,h2,h3⟩:=hp.run a (zbl L++b) q hlen hq (qol (fun p hp=>hL p (by simp[hp])) hb);have e3:a++p.1++zbl L++b=a++p.1++(zbl L++b):=by simp
  obtain⟨q',g1,g2⟩:=qdt n b hb L (a++p.1) q1 (acc++[p.2]) fuel (fun p hp=>hL p (by simp[hp])) (by rw[e3];exact hlen) (by rw[h3];exact hq) (by simp only[length_cons] at hf;omega);refine⟨q',?_,g2.trans h3⟩;rw[zav];have:zsd n ((hd0 (zbl (p::L)++b)),Rd.mk (a++p.1++(zbl L++b)) ((a.length:Nat):Int) 0 q,acc)=some (.inl ((hd0 (zbl L++b)),Rd.mk (a++p.1++(zbl L++b)) (((a++p.1).length:Nat):Int) 0 q1,acc++[p.2])):=by
   have e2:(hd0 (zbl (p::L)++b))=((c.toNat:Nat):Int):=by rw[zkq,hc];rfl
   rw[e2];have key: ∀c:UInt8,(c=40 \/c=91)->(((c.toNat:Nat):Int) !=0)=true/\ (((c.toNat:Nat):Int) !=124)=true/\ (((c.toNat:Nat):Int) !=41)=true:=by
    rintro c (rfl|rfl)<;>exact⟨rfl,rfl,rfl⟩
   obtain⟨k1,k2,k3⟩:=key c hc';unfold zsd;simp only;rw[k1,cond_true,k2,cond_true,k3,cond_true];refine zu _ h1 ?_;simp only;refine zu _ h2 ?_;simp only;refine zu _ (zlj (a++p.1) (zbl L++b) q1) ?_;rfl
  rw[this];simp only;rw[e3] at g1;rw[g1];rw[show acc++[p.2]++zqs L=acc++zqs (p::L) by simp[zqs],show a++p.1++zbl L=a++zbl (p::L) by rw[zkq];simp]
theorem qph (n:Nat)(L:Pcs)(a b:List UInt8)(q:Stk)(hb:StopP b)(hL: ∀p∈L,AtP n p.1 p.2)(hlen:(a++zbl L++b).length<2^39)(hq:(zcg q).length+n<2^39)(hf:L.length<1100):
 ∃q',zyk 1100 (zei 1100 (zdp (zvf 1100 n))) (Rd.mk (a++zbl L++b) ((a.length:Nat):Int) 0 q)=some (zqs L,Rd.mk (a++zbl L++b) (((a++zbl L).length:Nat):Int) 0 q')/\ zcg q'=zcg q:=by
 obtain⟨q',h1,h2⟩:=qdt n b hb L a q [] 1100 hL hlen hq hf;refine⟨q',?_,h2⟩;have e:a++zbl L++b=a++(zbl L++b):=by simp
 unfold zyk;refine zu _ (by rw[e];exact zlj a (zbl L++b) q) ?_;rw[List.nil_append,e] at h1;rw[e];exact h1
end Go.Ab
