import Derived.Test.YtnoccnalocdldaaGreatDoorZfR7
set_option linter.all false
set_option maxRecDepth 100000
set_option maxHeartbeats 4000000
open Sum (inl inr)
open Bool (and_eq_true)
open List (length length_cons length_append length_nil nil_append append_nil mem_map isEmpty map_cons mem_singleton length_map)
open Go.Proofs.Tryz (prog)
namespace Go.Ab
open Go Go.RowKit Go.Fwd
def sg1 (p:Nat)(U0 U1:St):(Nat->Bool)->St:=fun d=>bif d p then U1 else U0
def sg2 (p q:Nat)(U0 U1 U2 U3:St):(Nat->Bool)->St:=fun d=>bif d p then(bif d q then U3 else U1) else(bif d q then U2 else U0)
def pvO:Option (Nat×AV)->AV
 |some q=>q.2
 |none=> .raw undef
def psO:List (Option (Nat×AV))->List (Nat×AV)
 |some q::l=>q::psO l
 |none::l=>psO l
 |[]=>[]
def gOk (ops:Array Oper)(E:List AV)(o:Oper):Bool:=
 match o.guard with
 |none=>true
 |some (k,b)=>match zdz ops E k with|some (some c)=>c==b|_=>false
section
variable {IT:IterP} {P:Program} {W:Owed} {k0:Nat}
theorem qft {id:Nat} {ops:Array Oper} {Q:AQ} {S E:List AV} {U:St} (sg:(Nat->Bool)->St)(U1:St)(ps:List (Option (Nat×AV)))(h:zlj IT P ops E sg 0 ops.toList (ps.map pvO))(hk:Q .normal E U1)
 (hE:zau S (psO ps)=E:=by dsimp only[psO,zau,List.foldl,List.set]) (hp:zht ops.toList (ps.map pvO) S=E:=by kernel_rfl) (hb:(floB ops S.length&&z3l ops)=true:=by kernel_rfl)
 (h0:sg (fun j=>Nat.ble ops.size j)=U:=by kernel_rfl) (h1:sg (fun _=>true)=U1:=by kernel_rfl):awp IT P W k0 (.region id ops true) Q S U:=
 .inr (.inr (.inr (.inl ⟨sg,_,E,hp,hb,h0,h,by rw[h1];exact hk⟩)))
variable {ops:Array Oper} {E:List AV} {sg:(Nat->Bool)->St} {i p q:Nat} {o:Oper} {l:List Oper} {a:AV} {vs:List AV} {U0 U1 U2 U3:St}
theorem fl_gOk (h:gOk ops E o=true):(match o.guard with|none=>True|some (k,b)=>zdz ops E k=some (some b)):=by
 unfold gOk at h;cases hg:o.guard with
 |none=>trivial
 | some p=>
  obtain⟨k,b⟩:=p;rw[hg] at h;simp only at h⊢;split at h
  ·rename_i c hc;simp at h;subst h;exact hc
  ·cases h
theorem f_w (hk:zlj IT P ops E sg (i+1) l vs)(h: ∀d,d i=false->z3f IT P o E (sg d) a (sg (zko d i)))(hg:gOk ops E o=true:=by exact rfl):zlj IT P ops E sg i (o::l) (a::vs):=
 ⟨.inl ⟨fl_gOk hg,h⟩,hk⟩
theorem f_o (hk:zlj IT P ops E sg (i+1) l vs)(h: ∀U,qop P (zca E) U o=some a:=by exact fun _=>rfl)(hg:gOk ops E o=true:=by exact rfl)(hs: ∀d,sg (zko d i)=sg d:=by exact fun _=>rfl):zlj IT P ops E sg i (o::l) (a::vs):=
 f_w hk (fun d _=>by rw[hs];exact .inr (.inl (by unfold aop;rw[h]))) hg
theorem f_l (hk:zlj IT P ops E (sg1 p U0 U1) (i+1) l vs)(h0:qop P (zca E) U0 o=some a:=by exact rfl)(h1:qop P (zca E) U1 o=some a:=by exact rfl)(hg:gOk ops E o=true:=by exact rfl)(hs: ∀d,sg1 p U0 U1 (zko d i)=sg1 p U0 U1 d:=by exact fun _=>rfl):
 zlj IT P ops E (sg1 p U0 U1) i (o::l) (a::vs):=
 f_w hk (fun d _=>by
  rw[hs];unfold sg1;cases d p
  ·exact .inr (.inl (by unfold aop;rw[show(bif false then U1 else U0)=U0 from rfl,h0]))
  ·exact .inr (.inl (by unfold aop;rw[show(bif true then U1 else U0)=U1 from rfl,h1]))) hg
theorem f_s (hk:zlj IT P ops E (sg1 p U0 U1) (i+1) l vs)(h:aop P (zca E) U0 o=some (.raw undef,U1):=by exact rfl)(hi:i=p:=by exact rfl)(hg:gOk ops E o=true:=by exact rfl):zlj IT P ops E (sg1 p U0 U1) i (o::l) (.raw undef::vs):=by
 subst hi;refine f_w hk (fun d hd=> ?_) hg;unfold sg1;rw[hd,zea];exact .inr (.inl h)
theorem f_l2 (hk:zlj IT P ops E (sg2 p q U0 U1 U2 U3) (i+1) l vs)(h0:qop P (zca E) U0 o=some a:=by exact rfl)(h1:qop P (zca E) U1 o=some a:=by exact rfl)(h2:qop P (zca E) U2 o=some a:=by exact rfl)(h3:qop P (zca E) U3 o=some a:=by exact rfl)(hg:gOk ops E o=true:=by exact rfl)(hs: ∀d,sg2 p q U0 U1 U2 U3 (zko d i)=sg2 p q U0 U1 U2 U3 d:=by exact fun _=>rfl):
 zlj IT P ops E (sg2 p q U0 U1 U2 U3) i (o::l) (a::vs):=
 f_w hk (fun d _=>by
  rw[hs];unfold sg2;cases d p<;>cases d q
  ·exact .inr (.inl (by unfold aop;rw[show(bif false then(bif false then U3 else U1) else(bif false then U2 else U0))=U0 from rfl,h0]))
  ·exact .inr (.inl (by unfold aop;rw[show(bif false then(bif true then U3 else U1) else(bif true then U2 else U0))=U2 from rfl,h2]))
  ·exact .inr (.inl (by unfold aop;rw[show(bif true then(bif false then U3 else U1) else(bif false then U2 else U0))=U1 from rfl,h1]))
  ·exact .inr (.inl (by unfold aop;rw[show(bif true then(bif true then U3 else U1) else(bif true then U2 else U0))=U3 from rfl,h3]))) hg
theorem f_sp (hk:zlj IT P ops E (sg2 p q U0 U1 U2 U3) (i+1) l vs)(h:aop P (zca E) U0 o=some (.raw undef,U1):=by exact rfl)(h':aop P (zca E) U2 o=some (.raw undef,U3):=by exact rfl)(hi:i=p:=by exact rfl)(hne:q≠p:=by decide)(hg:gOk ops E o=true:=by exact rfl):zlj IT P ops E (sg2 p q U0 U1 U2 U3) i (o::l) (.raw undef::vs):=by
 subst hi;refine f_w hk (fun d hd=> ?_) hg;unfold sg2;rw[hd,zea,zbj hne];cases d q
 ·exact .inr (.inl h)
 ·exact .inr (.inl h')
theorem f_sq (hk:zlj IT P ops E (sg2 p q U0 U1 U2 U3) (i+1) l vs)(h:aop P (zca E) U0 o=some (.raw undef,U2):=by exact rfl)(h':aop P (zca E) U1 o=some (.raw undef,U3):=by exact rfl)(hi:i=q:=by exact rfl)(hne:p≠q:=by decide)(hg:gOk ops E o=true:=by exact rfl):zlj IT P ops E (sg2 p q U0 U1 U2 U3) i (o::l) (.raw undef::vs):=by
 subst hi;refine f_w hk (fun d hd=> ?_) hg;unfold sg2;rw[hd,zea,zbj hne];cases d p
 ·exact .inr (.inl h)
 ·exact .inr (.inl h')
theorem f_e:zlj IT P ops E sg i [] []:=trivial
end
end Go.Ab
namespace Go.Ab
open Go Go.RowKit Go.Fwd Go.Proofs
structure Rg where
 b:Bool
 e:Bool
 t:Tr
def qjn (r:Rg):List AV:= .raw (.bool r.b):: .raw (.bool r.e)::Enc.cells r.t
instance:Enc Rg where
 inh:=⟨false,false,zax⟩
 cells:=qjn
 cellsL l:=l.flatMap qjn
 sz:=10
 pos:=by decide
 nil:=rfl
 cons _ _:=rfl
 len r:=by show(Enc.cells r.t).length+2=10;rw[Enc.len];rfl
 clo r:=by show cloL (.raw _:: .raw _::Enc.cells r.t)=true;rw[cloL,cloL,Enc.clo];rfl
end Go.Ab
namespace Go.Ab
open Go Go.RowKit Go.Fwd Go.Proofs
def zlg (t:Tr):Option Int:=
 (chk ((pre t).length<2^61) (zay (zfv t) (fun x1=>(bif (!x1) then(some 10001) else(chk ((pre t).length<=10000) (zay (zlu t) (fun x2=>(some x2))))))))
theorem ent37:Ent prog 37:=enters_of Tryz.func37 (by kernel_rfl) rfl
theorem z3b (t:Tr)(r:Int)(h:zlg t=some r):Pure (ITP prog) prog 37 [.A (t:Tr)] (.raw (.int .i64 r)):=by
 unfold zlg at h;refine zbl 7 mix Tryz.func37 ent37 ?_;refine zj (zb ?_);refine zda (Enc.cells (t:Tr)) ?_;refine w_o (a:= .i 0) ?_;refine zj ?_;refine zah [.v (.A (t:Tr))] ?_;obtain⟨g1,h⟩:=zf h;obtain⟨x1,hx1,h⟩:=zi h;refine zct (args':=[.A (t:Tr)]) (r:= .b x1) (by rw[<-hx1];exact(zyh t g1)) ?_;refine w_o (a:= .b (!x1)) ?_;refine zbu h (fun hc1 h=> ?_) (fun hc1 h=> ?_);refine zah [.v (.i 10001)] ?_;exact zka h;refine zah [.v (.A (t:Tr))] ?_;obtain⟨g2,h⟩:=zf h;obtain⟨x2,hx2,h⟩:=zi h;refine zct (args':=[.A (t:Tr)]) (r:= .i x2) (by rw[<-hx2];exact(k_posn t g2)) ?_;refine zao ?_;exact zka h
def zrr (x:Rg):Option Int:=
 (chk ((pre x.t).length<2^61) (zay (zdd x.t) (fun x1=>(bif (!x1) then(some 80) else(chk ((pre x.t).length<2^61) (zay (zsj x.t) (fun x2=>(bif (decide (x2>120)) then(some 81) else(zai (zlg x.t) (fun x3=>(bif (decide (x3>400)) then(some 82) else(chk ((pre x.t).length<2^61) (zay (zul x.t) (fun x4=>(bif (decide (x4>9)) then(some 83) else(some 0))))))))))))))))
theorem ent13:Ent prog 13:=enters_of Tryz.func13 (by kernel_rfl) rfl
theorem z9e (x:Rg)(r:Int)(h:zrr x=some r):Pure (ITP prog) prog 13 [.A (x:Rg)] (.raw (.int .i64 r)):=by
 unfold zrr at h;refine zbl 22 mix Tryz.func13 ent13 ?_;refine zj (zb ?_);refine zda (Enc.cells (x:Rg)) ?_;refine w_o (a:= .i 0) ?_;refine zj ?_;refine zu ?_;refine zah [.v (.ptr 0 2),.v (.A (x.t:Tr))] ?_;obtain⟨g1,h⟩:=zf h;obtain⟨x1,hx1,h⟩:=zi h;refine zct (args':=[.A (x.t:Tr)]) (r:= .b x1) (by rw[<-hx1];exact(zyj x.t g1)) ?_;refine w_r [.v (.b (!x1)),.m _] ?_;refine zbu h (fun hc1 h=> ?_) (fun hc1 h=> ?_);refine zah [.v (.i 80)] ?_;exact zka h;refine zah [.v (.ptr 0 2),.v (.A (x.t:Tr))] ?_;obtain⟨g2,h⟩:=zf h;obtain⟨x2,hx2,h⟩:=zi h;refine zct (args':=[.A (x.t:Tr)]) (r:= .i x2) (by rw[<-hx2];exact(k_size x.t g2)) ?_;refine w_r [.v (.b (decide (x2>120))),.m _] ?_;refine zbu h (fun hc2 h=> ?_) (fun hc2 h=> ?_);refine zah [.v (.i 81)] ?_;exact zka h;refine zah [.v (.ptr 0 2),.v (.A (x.t:Tr))] ?_;obtain⟨x3,hx3,h⟩:=zp h;refine zct (z3b x.t x3 hx3) ?_;refine w_r [.v (.b (decide (x3>400))),.m _] ?_;refine zbu h (fun hc3 h=> ?_) (fun hc3 h=> ?_);refine zah [.v (.i 82)] ?_;exact zka h;refine zah [.v (.ptr 0 2),.v (.A (x.t:Tr))] ?_;obtain⟨g3,h⟩:=zf h;obtain⟨x4,hx4,h⟩:=zi h;refine zct (args':=[.A (x.t:Tr)]) (r:= .i x4) (by rw[<-hx4];exact(qoe x.t g3)) ?_;refine w_r [.v (.b (decide (x4>9))),.m _] ?_;refine zbu h (fun hc4 h=> ?_) (fun hc4 h=> ?_);refine zah [.v (.i 83)] ?_;exact zka h;refine zah [.v (.i 0)] ?_;exact zka h
theorem wk_two {n0:Nat} {S S':List AV} {U U':St} (s:Nat) {t:TypeId} {cs:List AV} (hb:U.boxes[s]? =some (t,cs))(k:Wk n0 S {U with boxes:=U.boxes++[(t,[])]++[(t,[])]} S' U'):Wk n0 S U S' U':=by
 refine .step (S1:=S) (U1:={U with boxes:=U.boxes++[(t,[])]}) (.inr (.inr (.inl ⟨s,t,cs,hb,Fg.refl _,rfl⟩))) (.step (S1:=S) (.inr (.inr (.inl ⟨s,t,cs,?_,Fg.refl _,rfl⟩))) k)
 show(U.boxes++[(t,[])])[s]? =_
 rw[List.getElem?_append_left (List.getElem?_eq_some_iff.1 hb).1];exact hb
section
variable {ρ:Operand->AV} {U:St} {o:Oper}
theorem q_lastQ {x i:Operand} {b:Nat} {q:Stk} {k:Int} (g:0<=k/\ k<((zdu q).length:Int))(ho:o.op= .indexAddr 67 x i)(hx:ρ x=zbq b q)(hi:ρ i= .raw (.int .i64 k)):qop prog ρ U o=some (.ptr b (0+k.toNat*1)):=by
 cases q with
 |none=>simp[zdu] at g;omega
 |some q=>exact qma (j:=q.1) (l:=q.2) g ho hx hi
theorem rd_int {P:Program} {t:TypeId} {k:IntKind} {cs:List AV} {n:Nat} (hu:P.underlying t=some (.int k))(hs:zcr P t=some n):rd P t cs=cs.head? :=by
 unfold zcr at hs;cases hi:P.info? t with
 |none=>simp[hi] at hs
 |some i=>simp[rd,hu,hi]
theorem ztp {x:Operand} {b:Nat} {q:Stk} {k:Int} (g:0<=k/\ k<((zdu q).length:Int))(ho:o.op= .load 3 x)(hx:ρ x= .ptr b (0+k.toNat*1))(hb:U.boxes[b]? =some (zo q)):qop prog ρ U o=some (.raw (.int .i64 (ix (zdu q) k))):=by
 cases q with
 |none=>simp[zdu] at g;omega
 | some q=>
  obtain⟨j,l⟩:=q;cases l with
  |nil=>simp[zdu] at g;omega
  | cons c l=>
   have h1:=Enc.at (l:=c::l) g;have e:(zo (some (j,c::l))).2=Enc.cellsL (c::l):=rfl;have hs:zcr prog 3=some 1:=by kernel_rfl
   have hu:prog.underlying 3=some (.int .i64):=by kernel_rfl
   simp only[qop,ho,zlw,hx,hb,e];rw[Nat.zero_add,show k.toNat*1=k.toNat*Enc.sz Int from rfl,h1];show rd prog 3 (.raw (.int .i64 (ix (c::l) k))::_)=_;exact rd_int hu hs
end
def z8a (p:Rd->Option (Tr×Rd))(s:(List UInt8)):Option (Rg×Int×Int):=
 (bif (decide ((length s:Int)>1000)) then(some ((Rg.mk false false zax),0,3)) else(zay (Lib.trimPrefix s ([94]:List UInt8),Lib.hasPrefix s ([94]:List UInt8)) (fun x1=>(chk (-9223372036854775808<=((length s:Int)-(length x1.1:Int))/\ ((length s:Int)-(length x1.1:Int))<9223372036854775808) (zai (zpl x1.1) (fun x2=>(zcv (τ:=(List UInt8)) (bif x2 then(chk (-9223372036854775808<=((length x1.1:Int)-1)/\ ((length x1.1:Int)-1)<9223372036854775808) (chk (0<=0/\ 0<=((length x1.1:Int)-1)/\ ((length x1.1:Int)-1)<=(length x1.1:Int)) (zay (sub x1.1 0 ((length x1.1:Int)-1)) (fun x3=>(some (inl (x3))))))) else(some (inl (x1.1)))) (fun j1=>(zai (p (Rd.mk j1 0 0 none)) (fun x4=>(zcv (τ:=Rd) (bif (x4.2.e !=0) then(some (inl (x4.2))) else(bif (decide (x4.2.a<(length j1:Int))) then(chk (0<=x4.2.a/\ x4.2.a<(length j1:Int)) (zay (ix j1 x4.2.a) (fun x5=>(bif ((((x5).toNat:Nat):Int)==41) then(some (inl ((Rd.mk x4.2.s x4.2.a 91 x4.2.q)))) else(some (inl ((Rd.mk x4.2.s x4.2.a 90 x4.2.q)))))))) else(bif (decide ((length (zdu x4.2.q):Int)>0)) then(chk (-9223372036854775808<=((length (zdu x4.2.q):Int)-1)/\ ((length (zdu x4.2.q):Int)-1)<9223372036854775808) (chk (0<=((length (zdu x4.2.q):Int)-1)/\ ((length (zdu x4.2.q):Int)-1)<(length (zdu x4.2.q):Int)) (some (inl ((Rd.mk x4.2.s (ix (zdu x4.2.q) ((length (zdu x4.2.q):Int)-1)) 91 x4.2.q)))))) else(some (inl (x4.2)))))) (fun j2=>(bif (j2.e !=0) then(chk (-9223372036854775808<=(((length s:Int)-(length x1.1:Int))+j2.a)/\ (((length s:Int)-(length x1.1:Int))+j2.a)<9223372036854775808) (some ((Rg.mk false false zax),(((length s:Int)-(length x1.1:Int))+j2.a),j2.e))) else(zai (zrr (Rg.mk x1.2 x2 x4.1)) (fun x6=>(bif (x6 !=0) then(some ((Rg.mk false false zax),(length s:Int),x6)) else(some ((Rg.mk x1.2 x2 x4.1),(length s:Int),0))))))))))))))))))
theorem ent12:Ent prog 12:=enters_of Tryz.func12 (by kernel_rfl) rfl
theorem read_sh (p:Rd->Option (Tr×Rd))(s:(List UInt8))(r:(Rg×Int×Int))(hp: ∀(r:Rd)(y:Tr×Rd),p r=some y->RdC Tryz.prog 34 [] r (.agg (Enc.cells y.1)) y.2)(h:z8a p s=some r):Pure (ITP Tryz.prog) Tryz.prog 12 [.raw (.string (bs s))] (.tup [.agg (Enc.cells (r.1:Rg)),.raw (.int .i64 r.2.1),.raw (.int .i64 r.2.2)]):=by
 obtain⟨d,hd⟩: ∃d,Tryz.f12.body=some d:=⟨_,rfl⟩;refine zhn mix Tryz.func12 hd ent12 ?_;cases hd;unfold z8a at h;refine zbo (by dsimp only[zam,Tryz.f12,List.length_cons,List.length_nil,Nat.zero_add,Nat.reduceAdd,Nat.reduceSub,List.replicate,List.cons_append,List.nil_append]) (by dsimp only[St.empty]) ?_;refine wq 1 ?_;refine zda [.b false,.b false,.u 0,.raw (.int .u64 0),.raw (.int .u64 0),.raw (.int .u64 0),.raw (.int .u64 0),.i 0,.i 0,.list 0 [] .full] ?_;refine wq 2 ?_;refine zj ?_;refine wq 2 ?_;refine w_o (a:= .i (List.length s:Int)) (h:=zap (zep rfl rfl rfl)) ?_;refine wq 1 ?_;refine zac h (fun hc1 h=> ?_) (fun hc1 h=> ?_);refine zex hc1 rfl ?_;refine wq 1 ?_;refine qon (.agg (Enc.cells ((Rg.mk false false zax):Rg))) rfl rfl rfl rfl (by simp only[zcx,stripL,Enc.stripL]<;>rfl) (by dsimp only[zae,List.set]) ?_;refine zer 10 (Enc.cells ((Rg.mk false false zax):Rg)) ?_;refine wq 2 ?_;exact zdw (fun(r:(Rg×Int×Int))=>(.tup [.agg (Enc.cells (r.1:Rg)),.i r.2.1,.i r.2.2]:AV)) h (a:= .tup [.agg (Enc.cells ((Rg.mk false false zax):Rg)),.i 0,.i 3]) rfl (show zag _ _=true from(za (zz _ _ (zn (Enc.clo _))) (by kernel_rfl))) (show AV.tup (stripL _)=_ from congrArg AV.tup (ze (zbg (zn (Enc.clo _))) (ze rfl (ze rfl rfl))));refine zez hc1 rfl ?_;refine wq 2 ?_;obtain⟨x1,hx1,h⟩:=zi h;refine zcj (args':=[.s s,.s ([94]:List UInt8)]) (r:= .tup [.s x1.1,.b x1.2]) (by rw[<-hx1];exact(qhf s ([94]:List UInt8))) rfl rfl (ze rfl (ze rfl rfl)) (by kernel_rfl) (by dsimp only[zae,List.set]) ?_;refine wq 7 ?_;refine w_o (a:= .i (List.length s:Int)) (h:=zap (zep rfl rfl rfl)) ?_;refine zao ?_;refine w_o (a:= .i (List.length x1.1:Int)) (h:=zap (zep rfl rfl rfl)) ?_;obtain⟨g1,h⟩:=zf h;refine w_o (a:= .i ((List.length s:Int)-(List.length x1.1:Int))) (h:=zap (zjz rfl rfl rfl rfl g1.1 g1.2)) ?_;refine wq 3 ?_;obtain⟨x2,hx2,h⟩:=zp h;refine zcj (args':=[.s x1.1]) (r:= .b x2) (ends_sh x1.1 x2 hx2) rfl rfl (ze rfl rfl) (by kernel_rfl) (by dsimp only[zae,List.set]) ?_;refine zao ?_;refine zan h [1,3,4,5,9,10,11,12,13,14,15,16,17,18,19,20,21,22,23,24,25,26,27,28,29,30,31,32,33,34,35,36,37,38,39,40,41,42,43,44,45,46,47,48,49,50,51,52,53,54,55,56,57,58,59,60,61,62,63,64,65,66,67,68,69,70,71,72,73,74,75,76,77,78,79,80,81,82,83,84,85,86,87,88,89,90,91,92,93,94,95,96,97,98,99,100,101,102,103,104,105,106,107,108,109,110,111,112,113,114,115,116,117,118,119,120,121,122,123,124,125,126,127,128,129,130] (fun j1=>[(5,.s j1)]) (fun j1=>⟨[(34,[.b false,.b false,.u 0,.raw (.int .u64 0),.raw (.int .u64 0),.raw (.int .u64 0),.raw (.int .u64 0),.i 0,.i 0,.list 0 [] .full])],[],[],0,false⟩) ?_ ?_;intro or1 h hr1;refine wq 2 ?_;refine zac h (fun hc2 h=> ?_) (fun hc2 h=> ?_);refine zex hc2 rfl ?_;refine zb (k0:=0) (id:=7) ?_;refine wq 2 ?_;refine w_o (a:= .i (List.length x1.1:Int)) (h:=zap (zep rfl rfl rfl)) ?_;obtain⟨g2,h⟩:=zf h;refine w_o (a:= .i ((List.length x1.1:Int)-1)) (h:=zap (zjz rfl rfl rfl rfl g2.1 g2.2)) ?_;obtain⟨g3,h⟩:=zf h;obtain⟨x3,hx3,h⟩:=zi h;refine w_o (a:= .s x3) (h:=zap (by rw[<-hx3];exact(q_ssl_H (l:=x1.1) g3 rfl rfl rfl rfl))) ?_;refine zao ?_;refine zc (o:=or1) (x3) h ?_;exact zqk (bl 131 485) (by kernel_rfl) (by kernel_rfl);refine zez hc2 rfl ?_;refine zc (o:=or1) (x1.1) h ?_;exact zqk (bl 131 485) (by kernel_rfl) (by kernel_rfl);intro j1 h;refine zbo (by dsimp only[zau,zbs,List.foldl,List.set]) rfl ?_;refine zgp (zb ?_);refine zao ?_;refine w_o (a:= .agg [.s j1,.i 0,.i 0,(zbq 0 none)]) ?_;refine zda [.s j1,.i 0,.i 0,(zbq 0 none)] ?_;refine zao ?_;refine zhu 131 [(0,.s s),(2,.ptr 3 0),(5,.s j1),(6,.b x1.2),(7,.i ((List.length s:Int)-(List.length x1.1:Int))),(8,.b x2),(9,.ptr 0 0)] (U':=⟨[(69,[.s j1,.i 0,.i 0,(zbq 2 none)]),(69,[]),((zo none).1,(zo none).2),(34,[.b false,.b false,.u 0,.raw (.int .u64 0),.raw (.int .u64 0),.raw (.int .u64 0),.raw (.int .u64 0),.i 0,.i 0,.list 0 [] .full])],[],[],0,false⟩) (wk_two 1 rfl (wmk (bl 131 997) 0 [] [1,2,3,0] 1 (Nat.le_refl _) (zew (zd rfl (zal (zak _ _ _ rfl) (zal (zak _ _ _ rfl) (zal (zak _ _ _ rfl) (zal rfl zm)))) (zd rfl zm (zd rfl zm (zd rfl rfl zx)))) rfl))) ?_;have hk0:0<=2:=by decide
 refine zgp (zb ?_);refine wq 3 ?_;obtain⟨x4,hx4,h⟩:=zp h;refine zhd (r:= .agg (Enc.cells (x4.1:Tr))) (U':=⟨[(69,[.s x4.2.s,.i x4.2.a,.i x4.2.e,(zbq 4 x4.2.q)]),(69,[]),((zo none).1,[]),(34,[.b false,.b false,.u 0,.raw (.int .u64 0),.raw (.int .u64 0),.raw (.int .u64 0),.raw (.int .u64 0),.i 0,.i 0,.list 0 [] .full]),((zo x4.2.q).1,(zo x4.2.q).2)],[],[],0,false⟩) ((hp (Rd.mk j1 0 0 none) x4 hx4) _ 2 (by decide) rfl rfl) rfl rfl ⟨rfl,rfl⟩ (by dsimp only[zae,List.set]) ?_;refine qon (.agg (Enc.cells ((Rg.mk x1.2 x2 x4.1):Rg))) rfl rfl rfl rfl (show zcx (.agg (Enc.cells ((Rg.mk x1.2 x2 x4.1):Rg)))=_ from congrArg AV.agg (zdh _ (Enc.clo ((Rg.mk x1.2 x2 x4.1):Rg)))) (by dsimp only[zae,List.set]) ?_;refine zda [.b false,.b false,.u 0,.raw (.int .u64 0),.raw (.int .u64 0),.raw (.int .u64 0),.raw (.int .u64 0),.i 0,.i 0,.list 0 [] .full] ?_;refine zer 10 (Enc.cells ((Rg.mk x1.2 x2 x4.1):Rg)) ?_;refine zhu 131 [(0,.s s),(2,.ptr 3 0),(5,.s j1),(7,.i ((List.length s:Int)-(List.length x1.1:Int))),(9,.ptr 0 0),(10,.ptr 4 0)] (U':=⟨[(69,[.s x4.2.s,.i x4.2.a,.i x4.2.e,(zbq 2 x4.2.q)]),(69,[]),((zo x4.2.q).1,(zo x4.2.q).2),(34,[.b false,.b false,.u 0,.raw (.int .u64 0),.raw (.int .u64 0),.raw (.int .u64 0),.raw (.int .u64 0),.i 0,.i 0,.list 0 [] .full]),(34,(Enc.cells ((Rg.mk x1.2 x2 x4.1):Rg)))],[],[],0,false⟩) (wmk (bl 131 1701) 2 [] [4,3,5] 1 hk0 (zaq rfl (zje fun _=>rfl) zm (zd rfl (zq _ _ _) (zd rfl rfl (zd rfl (zad _ _ _ (Enc.clo _)) zx))) rfl)) ?_;refine zan h [5,42,43,44,45,46,47,48,49,50,51,52,53,54,55,56,57,58,59,60,61,62,63,64,65,66,67,68,69,70,71,72,73,74,75,76,77,78,79,80,81,82,83,84,85,86,87,88,89,90,91,92,93,94,95,96,97,98,99,100,101,102,103] (fun j2=>[]) (fun j2=>⟨[(69,[.s j2.s,.i j2.a,.i j2.e,(zbq 2 j2.q)]),(69,[]),((zo j2.q).1,(zo j2.q).2),(34,[.b false,.b false,.u 0,.raw (.int .u64 0),.raw (.int .u64 0),.raw (.int .u64 0),.raw (.int .u64 0),.i 0,.i 0,.list 0 [] .full]),(34,(Enc.cells ((Rg.mk x1.2 x2 x4.1):Rg)))],[],[],0,false⟩) ?_ ?_;intro or2 h hr2;refine zu ?_;refine wq 7 ?_;refine zac h (fun hc3 h=> ?_) (fun hc3 h=> ?_);refine zex hc3 rfl ?_;refine zc (o:=or2) (x4.2) h ?_;exact zqk (bl 131 2722258915085098104055326439904940916703) (by kernel_rfl) (by kernel_rfl);refine zez hc3 rfl ?_;refine wq 6 ?_;refine w_o (a:= .i (List.length j1:Int)) (h:=zap (zep rfl rfl rfl)) ?_;refine wq 1 ?_;refine zac h (fun hc4 h=> ?_) (fun hc4 h=> ?_);refine w_o (a:= .b true) (h:=zap (zcc rfl hc4)) ?_;refine wq 5 ?_;refine zaf rfl rfl ?_;obtain⟨g4,h⟩:=zf h;obtain⟨x5,hx5,h⟩:=zi h;refine w_o (a:= .u (((x5).toNat:Nat):Int)) (h:=zap (by rw[<-hx5];exact(zek (l:=j1) (n:=x4.2.a) g4 rfl rfl rfl rfl))) ?_;refine zaf rfl rfl ?_;iterate 2 refine w_o (a:= .b ((((x5).toNat:Nat):Int)==41)) ?_
 refine zao ?_;refine zac h (fun hc5 h=> ?_) (fun hc5 h=> ?_);refine zex hc5 rfl ?_;refine zb (k0:=0) (id:=12) ?_;refine wq 3 ?_;refine zpg (U'':=⟨[(69,[.s x4.2.s,.i x4.2.a,.i 91,(zbq 2 x4.2.q)]),(69,[]),((zo x4.2.q).1,(zo x4.2.q).2),(34,[.b false,.b false,.u 0,.raw (.int .u64 0),.raw (.int .u64 0),.raw (.int .u64 0),.raw (.int .u64 0),.i 0,.i 0,.list 0 [] .full]),(34,(Enc.cells ((Rg.mk x1.2 x2 x4.1):Rg)))],[],[],0,false⟩) (h:=zcs (n:=1) rfl rfl rfl rfl rfl ⟨rfl,rfl,Nat.le_of_ble_eq_true rfl,by decide⟩) ?_;refine zc (o:=or2) ((Rd.mk x4.2.s x4.2.a 91 x4.2.q)) h ?_;exact zqk (bl 131 2722258915085098104055326439904940916703) (by kernel_rfl) (by kernel_rfl);refine zez hc5 rfl ?_;refine wq 6 ?_;refine w_o (a:= .i (List.length j1:Int)) (h:=zap (zep rfl rfl rfl)) ?_;refine wq 2 ?_;refine zex hc4 rfl ?_;refine zb (k0:=0) (id:=14) ?_;refine wq 3 ?_;refine zpg (U'':=⟨[(69,[.s x4.2.s,.i x4.2.a,.i 90,(zbq 2 x4.2.q)]),(69,[]),((zo x4.2.q).1,(zo x4.2.q).2),(34,[.b false,.b false,.u 0,.raw (.int .u64 0),.raw (.int .u64 0),.raw (.int .u64 0),.raw (.int .u64 0),.i 0,.i 0,.list 0 [] .full]),(34,(Enc.cells ((Rg.mk x1.2 x2 x4.1):Rg)))],[],[],0,false⟩) (h:=zcs (n:=1) rfl rfl rfl rfl rfl ⟨rfl,rfl,Nat.le_of_ble_eq_true rfl,by decide⟩) ?_;refine zc (o:=or2) ((Rd.mk x4.2.s x4.2.a 90 x4.2.q)) h ?_;exact zqk (bl 131 2722258915085098104055326439904940916703) (by kernel_rfl) (by kernel_rfl);refine w_o (a:= .b false) (h:=zap (zcc rfl hc4)) ?_;iterate 7 refine qjw ?_
 refine w_o (a:= .b false) ?_;refine zao ?_;refine zce rfl ?_;refine wq 6 ?_;refine w_o (a:= .i (List.length j1:Int)) (h:=zap (zep rfl rfl rfl)) ?_;refine wq 2 ?_;refine zez hc4 rfl ?_;refine wq 4 ?_;refine w_o (a:=(zbq 2 x4.2.q)) ?_;refine w_o (a:= .i (List.length (zdu x4.2.q):Int)) (h:=zap (z4v (b:=2) (q:=x4.2.q) rfl rfl)) ?_;refine wq 2 ?_;refine zac h (fun hc6 h=> ?_) (fun hc6 h=> ?_);refine zex hc6 rfl ?_;obtain⟨g5,h⟩:=zf h;obtain⟨g6,h⟩:=zf h;refine qft (id:=16) (sg2 16 19 ⟨[(69,[.s x4.2.s,.i x4.2.a,.i x4.2.e,(zbq 2 x4.2.q)]),(69,[]),((zo x4.2.q).1,(zo x4.2.q).2),(34,[.b false,.b false,.u 0,.raw (.int .u64 0),.raw (.int .u64 0),.raw (.int .u64 0),.raw (.int .u64 0),.i 0,.i 0,.list 0 [] .full]),(34,(Enc.cells ((Rg.mk x1.2 x2 x4.1):Rg)))],[],[],0,false⟩ ⟨[(69,[.s x4.2.s,.i (ix (zdu x4.2.q) ((List.length (zdu x4.2.q):Int)-1)),.i x4.2.e,(zbq 2 x4.2.q)]),(69,[]),((zo x4.2.q).1,(zo x4.2.q).2),(34,[.b false,.b false,.u 0,.raw (.int .u64 0),.raw (.int .u64 0),.raw (.int .u64 0),.raw (.int .u64 0),.i 0,.i 0,.list 0 [] .full]),(34,(Enc.cells ((Rg.mk x1.2 x2 x4.1):Rg)))],[],[],0,false⟩ ⟨[(69,[.s x4.2.s,.i x4.2.a,.i 91,(zbq 2 x4.2.q)]),(69,[]),((zo x4.2.q).1,(zo x4.2.q).2),(34,[.b false,.b false,.u 0,.raw (.int .u64 0),.raw (.int .u64 0),.raw (.int .u64 0),.raw (.int .u64 0),.i 0,.i 0,.list 0 [] .full]),(34,(Enc.cells ((Rg.mk x1.2 x2 x4.1):Rg)))],[],[],0,false⟩ ⟨[(69,[.s x4.2.s,.i (ix (zdu x4.2.q) ((List.length (zdu x4.2.q):Int)-1)),.i 91,(zbq 2 x4.2.q)]),(69,[]),((zo x4.2.q).1,(zo x4.2.q).2),(34,[.b false,.b false,.u 0,.raw (.int .u64 0),.raw (.int .u64 0),.raw (.int .u64 0),.raw (.int .u64 0),.i 0,.i 0,.list 0 [] .full]),(34,(Enc.cells ((Rg.mk x1.2 x2 x4.1):Rg)))],[],[],0,false⟩) ⟨[(69,[.s x4.2.s,.i (ix (zdu x4.2.q) ((List.length (zdu x4.2.q):Int)-1)),.i 91,(zbq 2 x4.2.q)]),(69,[]),((zo x4.2.q).1,(zo x4.2.q).2),(34,[.b false,.b false,.u 0,.raw (.int .u64 0),.raw (.int .u64 0),.raw (.int .u64 0),.raw (.int .u64 0),.i 0,.i 0,.list 0 [] .full]),(34,(Enc.cells ((Rg.mk x1.2 x2 x4.1):Rg)))],[],[],0,false⟩ [some (86,.ptr 0 0),some (87,.ptr 0 0),some (88,.ptr 0 0),some (89,.ptr 0 0),some (90,.ptr 0 3),some (91,(zbq 2 x4.2.q)),some (92,.ptr 0 0),some (93,.ptr 0 0),some (94,.ptr 0 3),some (95,(zbq 2 x4.2.q)),some (96,.i (List.length (zdu x4.2.q):Int)),some (97,.i ((List.length (zdu x4.2.q):Int)-1)),some (98,.ptr 2 (0+Int.toNat ((List.length (zdu x4.2.q):Int)-1)*1)),some (99,.i (ix (zdu x4.2.q) ((List.length (zdu x4.2.q):Int)-1))),some (100,.ptr 0 0),some (101,.ptr 0 1),none,some (102,.ptr 0 0),some (103,.ptr 0 2),none] ?_ ?_;iterate 5 refine f_o ?_
 refine f_l2 ?_;iterate 3 refine f_o ?_
 refine f_l2 ?_;refine f_o ?_ (h:=fun _=>(z4v (b:=2) (q:=x4.2.q) rfl rfl));refine f_o ?_ (h:=fun _=>(zjz rfl rfl rfl rfl g5.1 g5.2));refine f_o ?_ (h:=fun _=>(q_lastQ (b:=2) (q:=x4.2.q) g6 rfl rfl rfl));refine f_l2 ?_ (h0:=(ztp (b:=2) (q:=x4.2.q) g6 rfl rfl rfl)) (h1:=(ztp (b:=2) (q:=x4.2.q) g6 rfl rfl rfl)) (h2:=(ztp (b:=2) (q:=x4.2.q) g6 rfl rfl rfl)) (h3:=(ztp (b:=2) (q:=x4.2.q) g6 rfl rfl rfl));iterate 2 refine f_o ?_
 refine f_sp ?_ (h:=by kernel_rfl) (h':=by kernel_rfl);iterate 2 refine f_o ?_
 refine f_sq ?_ (h:=by kernel_rfl) (h':=by kernel_rfl);exact f_e;refine zc (o:=or2) ((Rd.mk x4.2.s (ix (zdu x4.2.q) ((List.length (zdu x4.2.q):Int)-1)) 91 x4.2.q)) h ?_;exact zqk (bl 131 2722258915085098104055326439904940916703) (by kernel_rfl) (by kernel_rfl);refine zez hc6 rfl ?_;refine zc (o:=or2) (x4.2) h ?_;exact zqk (bl 131 2722258915085098104055326439904940916703) (by kernel_rfl) (by kernel_rfl);intro j2 h;refine zbo (by dsimp only[zau,zbs,List.foldl,List.set]) rfl ?_;refine zj ?_;refine wq 6 ?_;refine zac h (fun hc7 h=> ?_) (fun hc7 h=> ?_);refine zex hc7 rfl ?_;obtain⟨g7,h⟩:=zf h;refine zj ?_;refine qft (id:=18) (sg1 11 ⟨[(69,[.s j2.s,.i j2.a,.i j2.e,(zbq 2 j2.q)]),(69,[]),((zo j2.q).1,(zo j2.q).2),(34,[.b false,.b false,.u 0,.raw (.int .u64 0),.raw (.int .u64 0),.raw (.int .u64 0),.raw (.int .u64 0),.i 0,.i 0,.list 0 [] .full]),(34,(Enc.cells ((Rg.mk x1.2 x2 x4.1):Rg)))],[],[],0,false⟩ ⟨[(69,[.s j2.s,.i j2.a,.i j2.e,(zbq 2 j2.q)]),(69,[]),((zo j2.q).1,(zo j2.q).2),(34,[.b false,.b false,.u 0,.raw (.int .u64 0),.raw (.int .u64 0),.raw (.int .u64 0),.raw (.int .u64 0),.i 0,.i 0,.list 0 [] .full]),(34,(Enc.cells ((Rg.mk x1.2 x2 x4.1):Rg)))],[],[],0,false⟩) ⟨[(69,[.s j2.s,.i j2.a,.i j2.e,(zbq 2 j2.q)]),(69,[]),((zo j2.q).1,(zo j2.q).2),(34,[.b false,.b false,.u 0,.raw (.int .u64 0),.raw (.int .u64 0),.raw (.int .u64 0),.raw (.int .u64 0),.i 0,.i 0,.list 0 [] .full]),(34,(Enc.cells ((Rg.mk x1.2 x2 x4.1):Rg)))],[],[],0,false⟩ [some (109,.agg [.b false,.b false,.u 0,.raw (.int .u64 0),.raw (.int .u64 0),.raw (.int .u64 0),.raw (.int .u64 0),.i 0,.i 0,.list 0 [] .full]),some (110,.i ((List.length s:Int)-(List.length x1.1:Int))),some (111,.ptr 0 0),some (112,.ptr 0 0),some (113,.ptr 0 1),some (114,.i j2.a),some (115,.i (((List.length s:Int)-(List.length x1.1:Int))+j2.a)),some (116,.ptr 0 0),some (117,.ptr 0 0),some (118,.ptr 0 2),some (119,.i j2.e),none,some (3,.i (((List.length s:Int)-(List.length x1.1:Int))+j2.a)),some (4,.i j2.e)] ?_ ?_;iterate 5 refine f_o ?_
 refine f_l ?_;refine f_o ?_ (h:=fun _=>(qms rfl rfl rfl rfl g7.1 g7.2));iterate 3 refine f_o ?_
 refine f_l ?_;refine f_s ?_ (h:=by kernel_rfl);iterate 2 refine f_o ?_
 exact f_e;exact zdw (fun(r:(Rg×Int×Int))=>(.tup [.agg (Enc.cells (r.1:Rg)),.i r.2.1,.i r.2.2]:AV)) h (a:= .tup [.agg [.b false,.b false,.u 0,.raw (.int .u64 0),.raw (.int .u64 0),.raw (.int .u64 0),.raw (.int .u64 0),.i 0,.i 0,.list 0 [] .full],.i (((List.length s:Int)-(List.length x1.1:Int))+j2.a),.i j2.e]) rfl (show zag _ _=true from(za (by kernel_rfl) (by kernel_rfl))) (show AV.tup (stripL _)=_ from congrArg AV.tup (ze (by kernel_rfl) (ze rfl (ze rfl rfl))));refine zez hc7 rfl ?_;refine zj ?_;refine wq 2 ?_;obtain⟨x6,hx6,h⟩:=zp h;refine zcj (args':=[.agg (Enc.cells ((Rg.mk x1.2 x2 x4.1):Rg))]) (r:= .i x6) (z9e (Rg.mk x1.2 x2 x4.1) x6 hx6) rfl rfl (ze (zbg (zn (Enc.clo _))) rfl) (za (zz _ _ (zn (Enc.clo _))) rfl) (by dsimp only[zae,List.set]) ?_;refine wq 4 ?_;refine zac h (fun hc8 h=> ?_) (fun hc8 h=> ?_);refine zex hc8 rfl ?_;refine wq 1 ?_;refine qon (.agg (Enc.cells ((Rg.mk false false zax):Rg))) rfl rfl rfl rfl (by simp only[zcx,stripL,Enc.stripL]<;>rfl) (by dsimp only[zae,List.set]) ?_;refine zao ?_;refine w_o (a:= .i (List.length s:Int)) (h:=zap (zep rfl rfl rfl)) ?_;refine zao ?_;refine zer 10 (Enc.cells ((Rg.mk false false zax):Rg)) ?_;refine wq 2 ?_;exact zdw (fun(r:(Rg×Int×Int))=>(.tup [.agg (Enc.cells (r.1:Rg)),.i r.2.1,.i r.2.2]:AV)) h (a:= .tup [.agg (Enc.cells ((Rg.mk false false zax):Rg)),.i (List.length s:Int),.i x6]) rfl (show zag _ _=true from(za (zz _ _ (zn (Enc.clo _))) (by kernel_rfl))) (show AV.tup (stripL _)=_ from congrArg AV.tup (ze (zbg (zn (Enc.clo _))) (ze rfl (ze rfl rfl))));refine zez hc8 rfl ?_;refine wq 3 ?_;refine w_o (a:= .i (List.length s:Int)) (h:=zap (zep rfl rfl rfl)) ?_;refine zer 10 (Enc.cells ((Rg.mk x1.2 x2 x4.1):Rg)) ?_;refine wq 2 ?_;exact zdw (fun(r:(Rg×Int×Int))=>(.tup [.agg (Enc.cells (r.1:Rg)),.i r.2.1,.i r.2.2]:AV)) h (a:= .tup [.agg (Enc.cells ((Rg.mk x1.2 x2 x4.1):Rg)),.i (List.length s:Int),.i 0]) rfl (show zag _ _=true from(za (zz _ _ (zn (Enc.clo _))) (by kernel_rfl))) (show AV.tup (stripL _)=_ from congrArg AV.tup (ze (zbg (zn (Enc.clo _))) (ze rfl (ze rfl rfl))))
end Go.Ab
namespace Go.Ab
open Go Go.RowKit Go.Fwd Go.Proofs
noncomputable def qlq (fuel:Nat)(a:Rd->Option (Tr×Rd))(rows:List Tr)(r:Rd):Option (Nat×Rd):=
 (zai (zfd r) (fun x1=>(zaz (β:=Int×Rd×Nat) (fun s1=>(bif (s1.1 !=0) then(bif (s1.1 !=124) then(bif (s1.1 !=41) then(zai (a s1.2.1) (fun x2=>(zai (zeu fuel x2.1 x2.2) (fun x3=>(qda (rows[s1.2.2]? =some x3.1) (zai (zfd x3.2) (fun x4=>(some (inl (x4.1,x4.2,(s1.2.2+1))))))))))) else(some (inr (s1.2.2,s1.2.1)))) else(some (inr (s1.2.2,s1.2.1)))) else(some (inr (s1.2.2,s1.2.1))))) fuel (x1.1,x1.2,0))))
theorem ent97:Ent prog 97:=enters_of Tryz.func97 (by kernel_rfl) rfl
theorem pc1_it (fuel:Nat)(a:Rd->Option (Tr×Rd))(rows:List Tr)(r:Rd)(ha: ∀(r:Rd)(y:Tr×Rd),a r=some y->RdC prog 99 [] r (.A y.1) y.2)(r2:Rd)(h:qlq fuel a rows r=some (rows.length,r2)):RdIt prog 97 r (rows.map zon) r2:=by
 obtain⟨c,hc⟩: ∃c,Tryz.f97.body=some c:=⟨_,rfl⟩;refine qkv mix Tryz.func97 hc (fun G hGr k0 hk0=> ?_);obtain⟨l,hGl⟩: ∃l,G.l=l:=⟨_,rfl⟩;rw[length_map,hGl];cases hc;unfold qlq at h;refine zbo (by dsimp only[zam,Tryz.f97,length_cons,length_nil,Nat.zero_add,Nat.reduceAdd,Nat.reduceSub,List.replicate,List.cons_append,nil_append]) (show rdS r.q r=(.B [(69,[.s r.s,.i r.a,.i r.e,(zbq 2 r.q)]),((zo r.q).1,[]),((zo r.q).1,(zo r.q).2)]) from rfl) ?_;refine zgp (zb ?_);refine w_o (a:= .ptr 0 0) ?_;obtain⟨x1,hx1,h⟩:=zp h;refine zhd (r:= .u x1.1) (U':=(.B [(69,[.s x1.2.s,.i x1.2.a,.i x1.2.e,(zbq 3 x1.2.q)]),((zo r.q).1,[]),((zo r.q).1,[]),((zo x1.2.q).1,(zo x1.2.q).2)])) ((zqp r x1 hx1) _ 2 (by decide) rfl rfl) rfl rfl ⟨rfl,rfl⟩ (by dsimp only[zae,List.set]) ?_;refine zao ?_;refine zhu 25 [(0,.yld l),(1,.iptr [.ptr 0 0]),(3,.u x1.1)] (U':=(.B [(69,[.s x1.2.s,.i x1.2.a,.i x1.2.e,(zbq 2 x1.2.q)]),((zo r.q).1,[]),((zo x1.2.q).1,(zo x1.2.q).2)])) (wmk (bl 25 11) 2 [] [3] 1 hk0 (zaq rfl (zje fun _=>rfl) zm (zd rfl (zq _ _ _) zx) rfl)) ?_;refine zu ?_;refine zch h (bz 0 25 33554376) (fun s1=>[(3,.u s1.1)]) (fun s1=>⟨[(69,[.s s1.2.1.s,.i s1.2.1.a,.i s1.2.1.e,(zbq 2 s1.2.1.q)]),((zo r.q).1,[]),((zo s1.2.1.q).1,(zo s1.2.1.q).2)],[],[],s1.2.2,false⟩) ?_ ?_;exact zbc (bl 25 63);intro s1 p1 h;refine zdj ?_;refine zj ?_;refine zah [.m _,.v (.b (s1.1 !=0))] ?_;refine zac h (fun hc1 h=> ?_) (fun hc1 h=> ?_);refine zav hc1 ?_;refine w_r [.m _,.v (.b (s1.1 !=124)),.v (.b (s1.1 !=124))] ?_;refine zac h (fun hc2 h=> ?_) (fun hc2 h=> ?_);refine zav hc2 ?_;refine w_r [.m _,.v (.b (s1.1 !=41)),.v (.b (s1.1 !=41))] ?_;refine zbu h (fun hc3 h=> ?_) (fun hc3 h=> ?_);refine zj ?_;refine zu ?_;obtain⟨x2,hx2,h⟩:=zp h;obtain⟨x3,hx3,h⟩:=zp h;obtain⟨g1,h⟩:=z8i h;refine w_seqC (id:=3) ?_;refine zrn (fun ops hops FIN hFIN S0 hS0=> ?_);let H0:St:=⟨[(69,[.s x3.2.s,.i x3.2.a,.i x3.2.e,(zbq 4 x3.2.q)]),((zo r.q).1,[]),((zo s1.2.1.q).1,[]),((zo x2.2.q).1,[]),((zo x3.2.q).1,(zo x3.2.q).2)],[],[],(s1.2.2+1),false⟩
 let H1:St:=⟨[(69,[.s x3.2.s,.i x3.2.a,.i x3.2.e,(zbq 4 x3.2.q)]),((zo r.q).1,[]),((zo s1.2.1.q).1,[]),((zo x2.2.q).1,[]),((zo x3.2.q).1,(zo x3.2.q).2)],[],[],s1.2.2,true⟩
 let H2:St:=⟨[(69,[.s x3.2.s,.i x3.2.a,.i x3.2.e,(zbq 4 x3.2.q)]),((zo r.q).1,[]),((zo s1.2.1.q).1,[]),((zo x2.2.q).1,[]),((zo x3.2.q).1,(zo x3.2.q).2)],[],[],s1.2.2,false⟩
 let H3:St:=⟨[(69,[.s x2.2.s,.i x2.2.a,.i x2.2.e,(zbq 3 x2.2.q)]),((zo r.q).1,[]),((zo s1.2.1.q).1,[]),((zo x2.2.q).1,(zo x2.2.q).2)],[],[],s1.2.2,false⟩
 let H4:St:=⟨[(69,[.s s1.2.1.s,.i s1.2.1.a,.i s1.2.1.e,(zbq 2 s1.2.1.q)]),((zo r.q).1,[]),((zo s1.2.1.q).1,(zo s1.2.1.q).2)],[],[],s1.2.2,false⟩
 let N:List (Option (Nat×AV))->Nat->Nat->St->Prop:=fun ps k m U=>aN (ITP prog) prog (some G) ops FIN S0 ps 7 k m U
 obtain⟨psY,hpsY⟩: ∃ps:List (Option (Nat×AV)),ps=[some (18,.yld l),some (19,.ptr 0 0),some (20,.ptr 0 0),some (21,.A (x2.1:Tr)),some (22,.A (x3.1:Tr)),some (23,.b true),some (24,.b false)]:=⟨_,rfl⟩;have zY7:N psY 0 127 H0:=by
  refine aN_0 hops hS0 hpsY (hFIN _ _ ?_);refine zce rfl ?_;refine zb (k0:=k0) (id:=2) ?_;refine w_o (a:= .ptr 0 0) ?_;obtain⟨x4,hx4,h⟩:=zp h;refine zhd (r:= .u x4.1) (U':=⟨[(69,[.s x4.2.s,.i x4.2.a,.i x4.2.e,(zbq 5 x4.2.q)]),((zo r.q).1,[]),((zo s1.2.1.q).1,[]),((zo x2.2.q).1,[]),((zo x3.2.q).1,[]),((zo x4.2.q).1,(zo x4.2.q).2)],[],[],(s1.2.2+1),false⟩) ((zqp x3.2 x4 hx4) _ 4 (by decide) rfl rfl) rfl rfl ⟨rfl,rfl⟩ (by dsimp only[zae,List.set]) ?_;refine zao ?_;refine zbe (p:=p1) (x4.1,x4.2,(s1.2.2+1)) h ?_;exact(wmk (bl 25 63) 2 [] [5] 1 hk0 (zaq rfl (zje fun _=>rfl) zm (zd rfl (zq _ _ _) zx) rfl))
 have zY6:N psY 1 63 H0:=by
  refine qld hops hS0 hpsY 6 ?_;refine w_o (a:= .b false) ?_;exact zfo zY7 hS0 hpsY
 obtain⟨psN,hpsN⟩: ∃ps:List (Option (Nat×AV)),ps=[some (18,.yld l),some (19,.ptr 0 0),some (20,.ptr 0 0),some (21,.A (x2.1:Tr)),some (22,.A (x3.1:Tr)),some (23,.b false),some (24,.b true)]:=⟨_,rfl⟩;have zN7:N psN 0 127 H1:=by
  refine aN_0 hops hS0 hpsN (hFIN _ _ ?_);refine zeb rfl ?_;refine .inr ?_;exact⟨⟨.tup [],rfl⟩,.inl rfl⟩
 have zN6:N psN 1 63 H1:=by
  refine qld hops hS0 hpsN 6 ?_;refine w_o (a:= .b true) ?_;exact zfo zN7 hS0 hpsN
 obtain⟨ps,hps⟩: ∃ps:List (Option (Nat×AV)),ps=[some (18,.yld l),some (19,.ptr 0 0),some (20,.ptr 0 0),some (21,.A (x2.1:Tr)),some (22,.A (x3.1:Tr)),none,none]:=⟨_,rfl⟩;have n13:N ps 2 31 H2:=by
  refine qld hops hS0 hps 5 ?_;refine ztr (row:=zon) (x:=x3.1) (U1:=H0) (U2:=H1) g1 (ze (zbg (zn (Enc.clo _))) rfl) (za (zz _ _ (zn (Enc.clo _))) rfl) (zyn rfl) rfl hGl hGr rfl rfl rfl rfl (by dsimp only[zae,List.set]) (by dsimp only[zae,List.set]) rfl rfl ?_ ?_;exact zfo zY6 hS0 hpsY;exact zfo zN6 hS0 hpsN
 have n12:N ps 3 30 H2:=by
  refine qld hops hS0 hps 0 ?_;refine zao ?_;exact zfo n13 hS0 hps
 have n11:N ps 3 15 H3:=by
  refine qld hops hS0 hps 4 ?_;refine zhd (r:= .A (x3.1:Tr)) (U':=H2) ((zww fuel x2.1 x2.2 x3 hx3) _ 3 (by decide) rfl rfl) rfl rfl ⟨rfl,rfl⟩ (by dsimp only[zae,List.set]) ?_;exact zfo n13 hS0 hps
 have n10:N ps 4 14 H3:=by
  refine aN_2 hops hS0 hps 0 4 ?_ ?_;refine zao ?_;exact zfo n11 hS0 hps;refine zhd (r:= .A (x3.1:Tr)) (U':=H2) ((zww fuel x2.1 x2.2 x3 hx3) _ 3 (by decide) rfl rfl) rfl rfl ⟨rfl,rfl⟩ (by dsimp only[zae,List.set]) ?_;exact zfo n12 hS0 hps
 have n9:N ps 4 13 H3:=by
  refine qld hops hS0 hps 1 ?_;refine w_o (a:= .ptr 0 0) ?_;exact zfo n11 hS0 hps
 have n8:N ps 4 7 H4:=by
  refine qld hops hS0 hps 3 ?_;refine zhd (r:= .A (x2.1:Tr)) (U':=H3) ((ha s1.2.1 x2 hx2) _ 2 (by decide) rfl rfl) rfl rfl ⟨rfl,rfl⟩ (by dsimp only[zae,List.set]) ?_;exact zfo n11 hS0 hps
 have n7:N ps 5 12 H3:=by
  refine aN_2 hops hS0 hps 0 1 ?_ ?_;refine zao ?_;exact zfo n9 hS0 hps;refine w_o (a:= .ptr 0 0) ?_;exact zfo n10 hS0 hps
 have n6:N ps 5 6 H4:=by
  refine aN_2 hops hS0 hps 0 3 ?_ ?_;refine zao ?_;exact zfo n8 hS0 hps;refine zhd (r:= .A (x2.1:Tr)) (U':=H3) ((ha s1.2.1 x2 hx2) _ 2 (by decide) rfl rfl) rfl rfl ⟨rfl,rfl⟩ (by dsimp only[zae,List.set]) ?_;exact zfo n10 hS0 hps
 have n5:N ps 5 5 H4:=by
  refine aN_2 hops hS0 hps 1 3 ?_ ?_;refine w_o (a:= .ptr 0 0) ?_;exact zfo n8 hS0 hps;refine zhd (r:= .A (x2.1:Tr)) (U':=H3) ((ha s1.2.1 x2 hx2) _ 2 (by decide) rfl rfl) rfl rfl ⟨rfl,rfl⟩ (by dsimp only[zae,List.set]) ?_;exact zfo n9 hS0 hps
 have n4:N ps 5 3 H4:=by
  refine qld hops hS0 hps 2 ?_;refine w_o (a:= .ptr 0 0) ?_;exact zfo n8 hS0 hps
 have n3:N ps 6 4 H4:=by
  refine aN_3 hops hS0 hps 0 1 3 ?_ ?_ ?_;refine zao ?_;exact zfo n5 hS0 hps;refine w_o (a:= .ptr 0 0) ?_;exact zfo n6 hS0 hps;refine zhd (r:= .A (x2.1:Tr)) (U':=H3) ((ha s1.2.1 x2 hx2) _ 2 (by decide) rfl rfl) rfl rfl ⟨rfl,rfl⟩ (by dsimp only[zae,List.set]) ?_;exact zfo n7 hS0 hps
 have n2:N ps 6 2 H4:=by
  refine aN_2 hops hS0 hps 0 2 ?_ ?_;refine zao ?_;exact zfo n4 hS0 hps;refine w_o (a:= .ptr 0 0) ?_;exact zfo n6 hS0 hps
 have n1:N ps 6 1 H4:=by
  refine aN_2 hops hS0 hps 1 2 ?_ ?_;refine w_o (a:= .ptr 0 0) ?_;exact zfo n4 hS0 hps;refine w_o (a:= .ptr 0 0) ?_;exact zfo n5 hS0 hps
 have n0:N ps 7 0 H4:=by
  refine aN_3 hops hS0 hps 0 1 2 ?_ ?_ ?_;refine zao ?_;exact zfo n1 hS0 hps;refine w_o (a:= .ptr 0 0) ?_;exact zfo n2 hS0 hps;refine w_o (a:= .ptr 0 0) ?_;exact zfo n3 hS0 hps
 exact zzj n0 hps;refine zaa h (fun h=> ?_);have he1:=Option.some.inj h;exact⟨⟨.tup [],rfl⟩,.inr ⟨congrArg Prod.fst he1,[2],1,rfl,by have e2:=congrArg Prod.snd he1;dsimp only at e2;subst e2;exact(zzf rfl (zje fun _=>rfl) zm (zd rfl (zq _ _ _) zx))⟩⟩;refine zav hc2 ?_;refine w_r [.p,.p,.v (.b false)] ?_;refine zce rfl ?_;refine zaa h (fun h=> ?_);have he2:=Option.some.inj h;exact⟨⟨.tup [],rfl⟩,.inr ⟨congrArg Prod.fst he2,[2],1,rfl,by have e2:=congrArg Prod.snd he2;dsimp only at e2;subst e2;exact(zzf rfl (zje fun _=>rfl) zm (zd rfl (zq _ _ _) zx))⟩⟩;refine zav hc1 ?_;refine w_r [.p,.p,.v (.b false),.m _,.p] ?_;refine w_r [.p,.v (.b false)] ?_;refine zce rfl ?_;refine zaa h (fun h=> ?_);have he3:=Option.some.inj h;exact⟨⟨.tup [],rfl⟩,.inr ⟨congrArg Prod.fst he3,[2],1,rfl,by have e2:=congrArg Prod.snd he3;dsimp only at e2;subst e2;exact(zzf rfl (zje fun _=>rfl) zm (zd rfl (zq _ _ _) zx))⟩⟩
theorem zmp (i:It)(l:List It):zkz (i::l)=zwm i++zkz l:=by simp[zkz]
theorem qjd (s rest:List UInt8)(hlen:s.length<2^40): ∀(its:List It) (a:List UInt8) (first:Bool) (out:BS) (fuel:Nat),s=a++zkz its++93::rest->(∀i∈its,gdI i)->its.length<fuel->(first=true->its≠[])->
 zaz (zwr s) fuel ((a.length:Int),first,out)=some (.inl (((a++zkz its).length:Int),z4r out its))
 | [],a,first,out,fuel,hs,_,hf,hn=>by
  obtain⟨f,rfl⟩: ∃f,fuel=f+1:=⟨fuel-1,by omega⟩;have h1:first=false:=by
   cases first with
   |false=>rfl
   |true=>exact absurd rfl (hn rfl)
  subst h1;have e:s=a++93::rest:=by rw[hs];simp[zkz]
  have hl:(s.length:Int)=(a.length:Int)+1+(rest.length:Int):=by rw[e];simp only[length_append,length_cons];omega
  have hat:ix s (a.length:Int)=93:=by rw[e];exact qee a rest 93
  have hb:zwr s ((a.length:Int),false,out)=some (.inr (.inl ((a.length:Int),out))):=by
   unfold zwr;refine zql (.inr (.inl ((a.length:Int),out))) ?_ rfl;simp only[cond_false];rw[show decide ((a.length:Int)<(s.length:Int))=true by simp;omega,cond_true];refine zg (by omega) (zk fun x hx=> ?_);rw[hat] at hx;subst hx;rfl
  rw[zaz,hb];simp[zkz,z4r]
 | i ::its,a,first,out,fuel,hs,hg,hf,hn=>by
  obtain⟨f,rfl⟩: ∃f,fuel=f+1:=⟨fuel-1,by omega⟩;have e:s=a++zwm i++(zkz its++93::rest):=by rw[hs,zmp];simp
  have hb: ∃c t,zkz its++93::rest=c::t/\ c≠45:=by
   cases its with
   |nil=>exact⟨93,rest,rfl,by decide⟩
   | cons j its=>
    obtain⟨l,hl⟩:=zzb j;exact⟨92,l++(zkz its++93::rest),by rw[zmp,hl];simp,by decide⟩
  have h1:=br_step a i (hg i (by simp)) _ hb first out (by rw[<-e];exact hlen)
  rw[<-e] at h1;rw[zaz,h1];show zaz (zwr s) f _=_;have:=qjd s rest hlen its (a++zwm i) false (out|||qps i) f (by rw[hs,zmp];simp) (fun j hj=>hg j (by simp[hj])) (by simp only[length_cons] at hf;omega) (fun h=>by cases h);rw[this,zmp];simp[z4r]
theorem z0d (k:Nat): ∀(l:List It) (s:BS),(z4r s l).getLsbD k=(s.getLsbD k||l.any fun i=>(qps i).getLsbD k)
 |[],s=>by simp[z4r]
 | i::l,s=>by
  show(z4r (s|||qps i) l).getLsbD k=_
  rw[z0d k l];simp[Bool.or_assoc]
theorem z5d (c:Nat)(hc:c<256):(bit c).getLsbD c=true:=by
 unfold bit;simp[BitVec.getLsbD_shiftLeft,hc]
theorem val_ne (i:It)(h:gdI i):(qps i).getLsbD i.1=true:=by
 obtain⟨c,d⟩:=i;cases d with
 |none=>exact z5d c h
 | some d=>
  have h:c<=d/\ d<256:=h
  show(bits c (d+1-c)).getLsbD c=true
  obtain⟨k,hk⟩: ∃k,d+1-c=k+1:=⟨d-c,by omega⟩;rw[hk,bits];simp[z5d c (by omega)]
theorem qir (l:List It)(hl:l≠[])(h: ∀i∈l,gdI i):z4r 0#256 l≠0#256:=by
 cases l with
 |nil=>exact absurd rfl hl
 | cons i l=>
  intro e;have h1:=z0d i.1 (i::l) 0#256;rw[e,List.any_cons,val_ne i (h i (by simp))] at h1;simp at h1
theorem qam (its:List It)(rest:List UInt8)(hn:its≠[])(hg: ∀i∈its,gdI i)(hl:its.length<1000)(hlen:(zkz its).length+rest.length<2^39):
 zms 1100 (([91]:List UInt8)++zkz its++[93]++rest)=some (z4r 0#256 its,((zkz its).length:Int)+2,0):=by
 obtain⟨s,hs⟩: ∃s,s=([91]:List UInt8)++zkz its++[93]++rest:=⟨_,rfl⟩;rw[<-hs];have e:s=[91]++zkz its++93::rest:=by rw[hs];simp
 have hsl:s.length=(zkz its).length+rest.length+2:=by rw[e];simp only[length_append,length_cons,length_nil];omega
 obtain⟨i0,its',hi⟩: ∃i l,its=i::l:=by
  cases its with
  |nil=>exact absurd rfl hn
  |cons i l=>exact⟨i,l,rfl⟩
 obtain⟨l0,hl0⟩:=zzb i0;have hd1:s.drop 1=92::(l0++zkz its'++93::rest):=by rw[e,hi,zmp,hl0];simp
 have hloop:=qjd s rest (by omega) its [91] true 0#256 1100 e hg (by omega) (fun _=>hn);unfold zms;refine zk fun x1 hx1=> ?_;have:x1=true:=by rw[<-hx1,e];rfl
 subst this;rw[show(!true)=false from rfl,cond_false];refine zg (by omega) (zk fun x2 hx2=> ?_);rw[show(1:Int)=((1:Nat):Int) from rfl,zvr,hd1] at hx2;refine zk fun x3 hx3=> ?_;have:x3=false:=by rw[<-hx3, <-hx2];rfl
 subst this;rw[cond_false];refine zat 1 rfl ?_;refine zat (((([91]:List UInt8)++zkz its).length:Int),z4r 0#256 its) hloop ?_;have hla:((([91]:List UInt8)++zkz its).length:Int)=((zkz its).length:Int)+1:=by simp only[length_append,length_cons,length_nil];omega
 rw[hla];rw[show(((zkz its).length:Int)+1==(s.length:Int))=false by simp;omega,cond_false];refine zat (z4r 0#256 its) rfl ?_;rw[show decide (z4r 0#256 its=0#256)=false by simpa using qir its hn hg,cond_false];refine zg (by simp only;omega) ?_;simp only;rw[show((zkz its).length:Int)+1+1=((zkz its).length:Int)+2 by omega]
def qcq (fuel:Nat)(a:Rd->Option (Tr×Rd))(r:Rd):Option (List Tr×Rd):=
 zai (zfd r) (fun x1=>zaz (β:=Int×Rd×List Tr) (fun s1=>bif (s1.1 !=0) then(bif (s1.1 !=124) then(bif (s1.1 !=41) then zai (a s1.2.1) (fun x2=>zai (zeu fuel x2.1 x2.2) (fun x3=>zai (zfd x3.2) (fun x4=>some (inl (x4.1,x4.2,s1.2.2++[x3.1]))))) else some (inr (s1.2.2,s1.2.1))) else some (inr (s1.2.2,s1.2.1))) else some (inr (s1.2.2,s1.2.1))) fuel (x1.1,x1.2,[]))
theorem z8c (F:Nat)(a:Rd->Option (Tr×Rd))(rows:List Tr)(r2:Rd): ∀(fuel:Nat) (c:Int) (r:Rd) (acc:List Tr),
 zaz (β:=Int×Rd×List Tr) (fun s1=>bif (s1.1 !=0) then(bif (s1.1 !=124) then(bif (s1.1 !=41) then zai (a s1.2.1) (fun x2=>zai (zeu F x2.1 x2.2) (fun x3=>zai (zfd x3.2) (fun x4=>some (inl (x4.1,x4.2,s1.2.2++[x3.1]))))) else some (inr (s1.2.2,s1.2.1))) else some (inr (s1.2.2,s1.2.1))) else some (inr (s1.2.2,s1.2.1))) fuel (c,r,acc)=some (rows,r2)->
 (∃tl,rows=acc++tl)/\ zaz (β:=Int×Rd×Nat) (fun s1=>(bif (s1.1 !=0) then(bif (s1.1 !=124) then(bif (s1.1 !=41) then(zai (a s1.2.1) (fun x2=>(zai (zeu F x2.1 x2.2) (fun x3=>(qda (rows[s1.2.2]? =some x3.1) (zai (zfd x3.2) (fun x4=>(some (inl (x4.1,x4.2,(s1.2.2+1))))))))))) else(some (inr (s1.2.2,s1.2.1)))) else(some (inr (s1.2.2,s1.2.1)))) else(some (inr (s1.2.2,s1.2.1))))) fuel (c,r,acc.length)=some (rows.length,r2)
 |0,_,_,_,h=>by cases h
 | fuel +1,c,r,acc,h=>by
  have stop:some (inr (acc,r):(Int×Rd×List Tr) ⊕ (List Tr×Rd))=some (inr (acc,r))->some (acc,r)=some (rows,r2)->(∃tl,rows=acc++tl)/\ some (acc.length,r)=some (rows.length,r2):=fun _ h=>by
   cases h;exact⟨⟨[],by simp⟩,rfl⟩
  rw[zaz] at h⊢;simp only at h⊢;cases h1:(c !=0) with
  |false=>rw[h1] at h;simp only[cond_false] at h⊢;exact stop rfl h
  | true =>
   rw[h1] at h;simp only[cond_true] at h⊢;cases h2:(c !=124) with
   |false=>rw[h2] at h;simp only[cond_false] at h⊢;exact stop rfl h
   | true=>
    rw[h2] at h;simp only[cond_true] at h⊢;cases h3:(c !=41) with
    |false=>rw[h3] at h;simp only[cond_false] at h⊢;exact stop rfl h
    | true=>
     rw[h3] at h;simp only[cond_true] at h⊢;cases ha:a r with
     |none=>rw[ha] at h;cases h
     | some x2=>
      rw[ha] at h;simp only[zai] at h⊢;cases hc:zeu F x2.1 x2.2 with
      |none=>rw[hc] at h;cases h
      | some x3=>
       rw[hc] at h;simp only at h⊢;cases hn:zfd x3.2 with
       |none=>rw[hn] at h;cases h
       | some x4=>
        rw[hn] at h;simp only at h⊢;obtain⟨⟨tl,e1⟩,e2⟩:=z8c F a rows r2 fuel x4.1 x4.2 (acc++[x3.1]) h;have hr:rows[acc.length]? =some x3.1:=by rw[e1];simp
        refine⟨⟨x3.1::tl,by rw[e1];simp⟩,?_⟩;unfold qda;rw[if_pos hr];simp only;rw[length_append] at e2;exact e2
theorem pcs_ok (fuel:Nat)(a:Rd->Option (Tr×Rd))(r:Rd)(y:List Tr×Rd)(h:qcq fuel a r=some y):qlq fuel a y.1 r=some (y.1.length,y.2):=by
 unfold qcq at h;obtain⟨x1,h1,h⟩:=zp h;unfold qlq;rw[h1];exact(z8c fuel a y.1 y.2 fuel x1.1 x1.2 [] h).2
def qmn (fuel:Nat):Nat->Rd->Option (Tr×Rd)
 |0,_=>none
 |n+1,r=>z1i fuel (qcq fuel (zny fuel (zll (qmn fuel n)))) r
theorem qpm (fuel:Nat): ∀(n:Nat) (r:Rd) (y:Tr×Rd),qmn fuel n r=some y->RdC prog 34 [] r (.agg (Enc.cells y.1)) y.2
 |0,_,_,h=>by cases h
 |n+1,r,y,h=>alts_rd fuel _ r (fun r y h=>pc1_it fuel _ y.1 r (fun r y h=>atom_rd fuel _ r (fun k r y h=>qof _ k r (qpm fuel n) y h) y h) y.2 (pcs_ok fuel _ r y h)) y h
def qlr (fuel n:Nat)(s:List UInt8):Option (Rg×Int×Int):=z8a (qmn fuel n) s
theorem qgr (fuel n:Nat)(s:List UInt8)(r:Rg×Int×Int)(h:qlr fuel n s=some r):Pure (ITP prog) prog 12 [.raw (.string (bs s))] (.tup [.agg (Enc.cells (r.1:Rg)),.raw (.int .i64 r.2.1),.raw (.int .i64 r.2.2)]):=read_sh _ s r (qpm fuel n) h
def brT (s:BS):Tr:= .mk 2 s 0 0 []
theorem z6x (s:BS):pre (brT s)=[brT s]:=by simp[brT,pre,zbi]
theorem qjp {s:BS} (h:s≠0#256):zcn (brT s)=true:=by
 rw[brT,zcm,ziy];simp[h]
theorem qfc {s:BS} (h:s≠0#256):zdd (brT s)=true:=by
 rw[zdd,zfv,z6x];simp[qjp h]
theorem qoc {s:BS} (h:s≠0#256):znt (brT s)=true:=by rw[znt,qfc h,Bool.or_true]
theorem qix {s:BS} (h:s≠0#256):zgj (brT s) 1 1=brT s:=by
 unfold zgj;rw[qoc h];rfl
theorem qmj (s:List UInt8)(k:Int)(h:(s.length:Int)<=k)(q:Stk):zfd (Rd.mk s k 0 q)=some (0,Rd.mk s k 0 q):=by
 unfold zfd;rw[show((Rd.mk s k 0 q).e !=0)=false from rfl,cond_false,show decide ((Rd.mk s k 0 q).a>=(length (Rd.mk s k 0 q).s:Int))=true by simpa using h,cond_true]
theorem ztq {β ρ:Type} {body:β->Option (β ⊕ ρ)} {s:β} {y:ρ} (n:Nat)(h:body s=some (.inr y)):zaz body (n+1) s=some y:=by rw[zaz,h]
variable {n:Nat}
def CT (t:Tr):Prop:=CR t/\ (pre t).length<=10000
theorem CT.clean {t:Tr} (h:CT t):zdd t=true:=by
 rw[zdd,zfv,and_eq_true];exact⟨by simpa using h.2,h.1⟩
theorem CT.checked {t:Tr} (h:CT t):zdq t=t:=by rw[zdq,if_pos h.clean]
theorem CT.good {t:Tr} (h:CT t):znt t=true:=by rw[znt,h.clean,Bool.or_true]
theorem CT.sub {t x:Tr} (h:CT t)(hx:x∈t.l):CT x:=by
 refine⟨(zku _).1 ((zir t).1 h.1).2 x hx,?_⟩;have h1:=zcp hx;have h2:=zil t;have:=h.2;omega
theorem CT.right {t:Tr} (h:CT t):zcn t=true:=((zir t).1 h.1).1
theorem CT.k0 {t:Tr} (h:CT t):t.k≠0:=by rcases zvv h.right with h|h|h|h|h|h<;>omega
theorem zgs {t:Tr} (h:zcn t=true)(h2:t.k≠2)(h5:t.k≠5):t= .mk t.k 0#256 0 0 t.l:=by
 obtain⟨k,s,mn,mx,l⟩:=t;simp only[Tr.k,Tr.l] at*;rw[zcm,ziy] at h;simp only[and_eq_true,Bool.not_eq_true',Bool.or_eq_false_iff,Bool.and_eq_false_iff] at h;have e2:((k:Int) !=2)=true:=by simp;omega
 have e5:((k:Int) !=5)=true:=by simp;omega
 obtain⟨⟨⟨a,b⟩,_⟩,_⟩:=h;rw[e2] at a;rw[e5] at b;have a':s=0#256:=by simpa using a
 have b':mn=0/\ mx=0:=by simpa using b
 obtain⟨rfl,rfl⟩:=b';subst a';rfl
theorem zjr {α β:Type} {f g:α->List β}: ∀ {l:List α},(∀x∈l,f x=g x)->l.flatMap f=l.flatMap g
 |[],_=>rfl
 |x::l,h=>by rw[List.flatMap_cons,List.flatMap_cons,h x (by simp),zjr fun y hy=>h y (by simp[hy])]
theorem kb {t:Tr} (h:t.k=n):((t.k:Int)==(n:Int))=true:=by rw[h];simp
theorem kbf {t:Tr} (h:t.k≠n):((t.k:Int)==(n:Int))=false:=beq_eq_false_iff_ne.2 (by omega)
theorem z0a {t:Tr} (h:CT t):zoj [t]=t:=by
 unfold zoj;have hk:=h.k0;rw[if_neg (by simp[h.clean];omega)];have hr:=h.right;by_cases h3:t.k=3
 ·obtain⟨q1,_⟩:=zlh hr h3;have e:zdv 3 1 [t]=t.l:=by unfold zdv;rw[List.flatMap_cons,kb h3,cond_true];simp
  rw[e,zjy,show((t.l.length:Int)==0)=false from beq_eq_false_iff_ne.2 (by omega),cond_false,show((t.l.length:Int)==1)=false from beq_eq_false_iff_ne.2 (by omega),cond_false];have e2:=zgs hr (by omega) (by omega);rw[h3] at e2;rw[<-e2,h.checked]
 ·by_cases h1:t.k=1
  ·have e:zdv 3 1 [t]=[]:=by unfold zdv;rw[List.flatMap_cons,kbf h3,cond_false,kb h1,cond_true];simp
   rw[e];have e2:=zgs hr (by omega) (by omega);have hl:t.l=[]:=by
    obtain⟨k,s,mn,mx,l⟩:=t;simp only[Tr.k,Tr.l] at*;subst h1;rw[zcm,ziy] at hr;simp only[and_eq_true,Bool.not_eq_true',Bool.or_eq_false_iff] at hr;have:=hr.1.2;simp at this;exact this
   rw[e2,h1,hl];rfl
  ·have e:zdv 3 1 [t]=[t]:=by unfold zdv;rw[List.flatMap_cons,kbf h3,cond_false,kbf h1,cond_false];simp
   rw[e];show zdq t=t;exact h.checked
def z1k (t:Tr):List Tr:=if t.k=1 then[] else if t.k=3 then t.l else[t]
def zgn (t:Tr):List Tr:=if t.k=4 then t.l else[t]
theorem qdo {t:Tr} (h:zcn t=true)(h1:t.k=1):t=emptyT:=by
 have e2:=zgs h (by omega) (by omega);have hl:t.l=[]:=by
  obtain⟨k,s,mn,mx,l⟩:=t;simp only[Tr.k,Tr.l] at*;subst h1;rw[zcm,ziy] at h;simp only[and_eq_true,Bool.not_eq_true',Bool.or_eq_false_iff] at h;have:=h.1.2;simp at this;exact this
 rw[e2,h1,hl];rfl
theorem seq_pcs {t:Tr} (h:CT t):zoj (z1k t)=t:=by
 unfold z1k;have hr:=h.right;by_cases h1:t.k=1
 ·rw[if_pos h1,qdo hr h1];rfl
 ·rw [if_neg h1];by_cases h3:t.k=3
  ·rw [if_pos h3];obtain⟨q1,q2⟩:=zlh hr h3;unfold zoj;rw[if_neg (by
    simp only[List.any_eq_true,Bool.or_eq_true,not_exists,not_and,not_or];intro x hx;have hc:=h.sub hx;refine⟨by have:=hc.k0;simp;omega,by rw[hc.clean];simp⟩)]
   have e:zdv 3 1 t.l=t.l:=by
    unfold zdv;rw[show t.l.flatMap (fun x=>bif (x.k:Int)==(3:Nat) then x.l else bif (x.k:Int)==(1:Nat) then[] else[x])=t.l.flatMap (fun x=>[x]) from zjr fun x hx=>by
     have:=q2 x hx;rw[kbf this.2,cond_false,kbf this.1,cond_false]]
    simp
   rw[e,zjy,show((t.l.length:Int)==0)=false from beq_eq_false_iff_ne.2 (by omega),cond_false,show((t.l.length:Int)==1)=false from beq_eq_false_iff_ne.2 (by omega),cond_false];have e2:=zgs hr (by omega) (by omega);rw[h3] at e2;rw[<-e2,h.checked]
  ·rw[if_neg h3];exact z0a h
theorem zuq {t:Tr} (h:CT t):orT (zgn t)=t:=by
 unfold zgn;have hr:=h.right;by_cases h4:t.k=4
 ·rw [if_pos h4];obtain⟨q1,q2⟩:=zib hr h4;unfold orT;rw[if_neg (by
   simp only[List.any_eq_true,not_exists,not_and];intro x hx;rw[(h.sub hx).good];simp)]
  have e:zdv 4 0 t.l=t.l:=by
   unfold zdv;rw[show t.l.flatMap (fun x=>bif (x.k:Int)==(4:Nat) then x.l else bif (x.k:Int)==(0:Nat) then[] else[x])=t.l.flatMap (fun x=>[x]) from zjr fun x hx=>by
    rw[kbf (q2 x hx),cond_false,kbf (h.sub hx).k0,cond_false]]
   simp
  rw[e,zjy,show((t.l.length:Int)==0)=false from beq_eq_false_iff_ne.2 (by omega),cond_false,show((t.l.length:Int)==1)=false from beq_eq_false_iff_ne.2 (by omega),cond_false];have e2:=zgs hr (by omega) (by omega);rw[h4] at e2;rw[<-e2,h.checked]
 ·rw[if_neg h4];unfold orT;rw[if_neg (by simp[h.good])];have hk:=h.k0;have e:zdv 4 0 [t]=[t]:=by unfold zdv;rw[List.flatMap_cons,kbf h4,cond_false,kbf hk,cond_false];simp
  rw[e];show zdq t=t;exact h.checked
theorem zmn {t:Tr} (h:CT t):zgj t 1 1=t:=by
 unfold zgj;have hk:=h.k0
 rw[h.good,show(!true||(!(((1:Int)==0)&&((1:Int)==0))&& !(((1:Int)==1)&&((1:Int)==1))&& !zen 1 1))=false from rfl,cond_false,
  show((t.k:Int)==0&&decide ((1:Int)>0))=false by rw[show((t.k:Int)==0)=false from kbf hk];rfl,cond_false]
 by_cases h1:t.k=1
 ·rw[show(((1:Int)==0&&(1:Int)==0)||(t.k:Int)==0||(t.k:Int)==1)=true by simp[h1],cond_true,qdo h.right h1]
 ·rw[show(((1:Int)==0&&(1:Int)==0)||(t.k:Int)==0||(t.k:Int)==1)=false by rw[show((t.k:Int)==0)=false from kbf hk,show((t.k:Int)==1)=false from kbf h1];rfl,cond_false];rfl
theorem z6r {t:Tr} (h:CT (.mk 6 0#256 0 0 [t])):zgz t= .mk 6 0#256 0 0 [t]:=h.checked
theorem qmw {x:Tr} {mn mx:Int} (h:CT (.mk 5 0#256 mn mx [x])):zgj x mn mx= .mk 5 0#256 mn mx [x]:=by
 have hx:CT x:=h.sub (by simp[Tr.l]);have hk:=hx.k0;have hr:=h.right;rw[zcm] at hr;simp only[and_eq_true,Bool.not_eq_true'] at hr;have h2:=hr.2;simp only[show((((5:Nat):Int))==1)=false from rfl,show((((5:Nat):Int))==2)=false from rfl,show((((5:Nat):Int))==3)=false from rfl,show((((5:Nat):Int))==4)=false from rfl,show((((5:Nat):Int))==5)=true from rfl,cond_false,cond_true,and_eq_true,Bool.not_eq_true',decide_eq_true_eq] at h2;have hb:=h2.1.2;have h1:x.k≠1:=zft.1 h2.2 x (by simp[Tr.l]);have hb':=hb;unfold zen at hb';simp only[and_eq_true,Bool.not_eq_true',Bool.or_eq_false_iff,Bool.or_eq_true,decide_eq_true_eq,decide_eq_false_iff_not,Bool.and_eq_false_iff] at hb';unfold zgj
 rw[hx.good,hb,show(!true||(!(mn==0&&mx==0)&& !(mn==1&&mx==1)&& !true))=false by simp,cond_false,show((x.k:Int)==0&&decide (mn>0))=false by simp;omega,cond_false,
  show((mn==0&&mx==0)||(x.k:Int)==0||(x.k:Int)==1)=false by simp;omega,cond_false,
  show(mn==1&&mx==1)=false by simp;omega,cond_false]
 exact h.checked
def z6b (b:List UInt8):Prop:= ∀c t,b=c::t->c≠42/\ c≠43/\ c≠63/\ c≠123
def StopP (b:List UInt8):Prop:=b=[] \/ ∃t,b=41::t \/b=124::t
theorem StopP.noCnt {b:List UInt8} (h:StopP b):z6b b:=by
 rintro c t rfl;rcases h with h|⟨t',h|h⟩
 ·cases h
 ·cases h;decide
 ·cases h;decide
theorem z8y (a:List UInt8)(c:UInt8)(b:List UInt8):ix (a++c::b) ((a.length:Nat):Int)=c:=qee a b c
theorem zuk (a b:List UInt8):sub (a++b) ((a.length:Nat):Int) (length (a++b):Int)=b:=by rw[zvr];simp
theorem z8j (a:List UInt8)(c:UInt8)(b:List UInt8)(q:Stk):zfd (Rd.mk (a++c::b) ((a.length:Nat):Int) 0 q)=some ((c.toNat:Int),Rd.mk (a++c::b) ((a.length:Nat):Int) 0 q):=by
 unfold zfd;have hl:(a++c::b).length=a.length+b.length+1:=by simp only[length_append,length_cons];omega
 rw[show((Rd.mk (a++c::b) ((a.length:Nat):Int) 0 q).e !=0)=false from rfl,cond_false,show decide ((Rd.mk (a++c::b) ((a.length:Nat):Int) 0 q).a>=(length (Rd.mk (a++c::b) ((a.length:Nat):Int) 0 q).s:Int))=false from decide_eq_false (by simp only;omega),cond_false];refine zg (by simp only;omega) (zk fun x hx=> ?_);simp only at hx;rw[z8y] at hx;subst hx;rfl
theorem qnf (a:List UInt8)(q:Stk):zfd (Rd.mk a ((a.length:Nat):Int) 0 q)=some (0,Rd.mk a ((a.length:Nat):Int) 0 q):=qmj a _ (Int.le_refl _) q
theorem zij (t:Tr):(pre (zdq t)).length<=10000:=by
 unfold zdq;split
 ·rename_i h;exact zha h
 ·simp[zax,pre,zbi]
theorem zrb (t:Tr)(h:(pre t).length<=10000)(lo hi:Int):(pre (zgj t lo hi)).length<=10000:=by
 unfold zgj;cases (!znt t||(!(lo==0&&hi==0)&& !(lo==1&&hi==1)&& !zen lo hi)) with
 |true=>simp[zax,pre,zbi]
 | false=>
  rw[cond_false];cases ((t.k:Int)==0&&decide (lo>0)) with
  |true=>simp[zax,pre,zbi]
  | false=>
   rw[cond_false];cases ((lo==0&&hi==0)||(t.k:Int)==0||(t.k:Int)==1) with
   |true=>simp[emptyT,pre,zbi]
   | false=>
    rw[cond_false];cases (lo==1&&hi==1) with
    |true=>exact h
    |false=>exact zij _
theorem zwo (k:Nat)(l:List Tr)(d:Tr)(h:(pre d).length<=10000):(pre (zjy k l d)).length<=10000:=by
 unfold zjy;cases ((l.length:Int)==0) with
 |true=>exact h
 | false=>
  rw[cond_false];cases ((l.length:Int)==1) with
  |true=>exact zij _
  |false=>exact zij _
theorem seq_len (l:List Tr):(pre (zoj l)).length<=10000:=by
 unfold zoj;split
 ·simp[zax,pre,zbi]
 ·exact zwo _ _ _ (by simp[emptyT,pre,zbi])
theorem z3h (l:List Tr):(pre (orT l)).length<=10000:=by
 unfold orT;split
 ·simp[zax,pre,zbi]
 ·exact zwo _ _ _ (by simp[zax,pre,zbi])
theorem zrh: ∀l:List Tr,(∀x∈l,(pre x).length<=10000)->(zbi l).length<=10000*l.length
 |[],_=>by simp[zbi]
 | x::l,h=>by
  have h1:=h x (by simp);have h2:=zrh l fun y hy=>h y (by simp[hy]);simp only[zbi,length_append,length_cons];omega
structure AtP (n:Nat)(u:List UInt8)(x:Tr):Prop where
 hd: ∃c t,u=c::t/\ (c=40 \/c=91)
 len:(pre x).length<=10000
 run: ∀(a b:List UInt8) (q:Stk),(a++u++b).length<2^39->(zdu q).length+n<2^39->z6b b-> ∃y r1 q',zny 1100 (zll (qmn 1100 n)) (Rd.mk (a++u++b) ((a.length:Nat):Int) 0 q)=some (y,r1)/\ zeu 1100 y r1=some (x,Rd.mk (a++u++b) (((a++u).length:Nat):Int) 0 q')/\ zdu q'=zdu q
abbrev Pcs:=List (List UInt8×Tr)
def zbn (L:Pcs):List UInt8:=L.flatMap (·.1)
def zqm (L:Pcs):List Tr:=L.map (·.2)
theorem zkf (p:List UInt8×Tr)(L:Pcs):zbn (p::L)=p.1++zbn L:=by simp[zbn]
theorem qkx {n:Nat} {L:Pcs} {b:List UInt8} (hL: ∀p∈L,AtP n p.1 p.2)(hb:StopP b):z6b (zbn L++b):=by
 cases L with
 |nil=>exact hb.noCnt
 | cons p L=>
  obtain⟨c,t,hc,hc'⟩:=(hL p (by simp)).hd;intro c' t' e;rw[zkf,hc] at e;simp only[List.cons_append,List.append_assoc,List.cons.injEq] at e;obtain⟨rfl,_⟩:=e;rcases hc' with rfl|rfl<;>decide
def hd0:List UInt8->Int
 |[]=>0
 |c::_=>((c.toNat:Nat):Int)
def z3c (n:Nat):Int×Rd×List Tr->Option ((Int×Rd×List Tr) ⊕ (List Tr×Rd)):=
 fun s1=>bif (s1.1 !=0) then(bif (s1.1 !=124) then(bif (s1.1 !=41) then zai ((zny 1100 (zll (qmn 1100 n))) s1.2.1) (fun x2=>zai (zeu 1100 x2.1 x2.2) (fun x3=>zai (zfd x3.2) (fun x4=>some (inl (x4.1,x4.2,s1.2.2++[x3.1]))))) else some (inr (s1.2.2,s1.2.1))) else some (inr (s1.2.2,s1.2.1))) else some (inr (s1.2.2,s1.2.1))
theorem zpe (a b:List UInt8)(q:Stk):zfd (Rd.mk (a++b) ((a.length:Nat):Int) 0 q)=some ((hd0 (b)),Rd.mk (a++b) ((a.length:Nat):Int) 0 q):=by
 cases b with
 |nil=>rw[append_nil];exact qnf a q
 |cons c b=>exact z8j a c b q
theorem qdq (n:Nat)(b:List UInt8)(hb:StopP b): ∀(L:Pcs) (a:List UInt8) (q:Stk) (acc:List Tr) (fuel:Nat),(∀p∈L,AtP n p.1 p.2)->(a++zbn L++b).length<2^39->(zdu q).length+n<2^39->L.length<fuel->
 ∃q',zaz (z3c n) fuel ((hd0 (zbn L++b)),Rd.mk (a++zbn L++b) ((a.length:Nat):Int) 0 q,acc)=some (acc++zqm L,Rd.mk (a++zbn L++b) (((a++zbn L).length:Nat):Int) 0 q')/\ zdu q'=zdu q
 |_,_,_,_,0,_,_,_,hf=>absurd hf (Nat.not_lt_zero _)
 | [],a,q,acc,fuel+1,hL,hlen,hq,hf=>by
  refine⟨q,?_,rfl⟩;rw[zaz];have:z3c n ((hd0 (zbn []++b)),Rd.mk (a++zbn []++b) ((a.length:Nat):Int) 0 q,acc)=some (.inr (acc,Rd.mk (a++zbn []++b) ((a.length:Nat):Int) 0 q)):=by
   unfold z3c;rcases hb with rfl|⟨t,rfl|rfl⟩<;>rfl
  rw[this];simp[zqm,zbn]
 | p ::L,a,q,acc,fuel+1,hL,hlen,hq,hf=>by
  have hp:=hL p (by simp);obtain⟨c,t,hc,hc'⟩:=hp.hd;have e1:a++zbn (p::L)++b=a++p.1++(zbn L++b):=by rw[zkf];simp
  rw[e1] at hlen⊢;obtain⟨y,r1,q1,h1,h2,h3⟩:=hp.run a (zbn L++b) q hlen hq (qkx (fun p hp=>hL p (by simp[hp])) hb);have e3:a++p.1++zbn L++b=a++p.1++(zbn L++b):=by simp
  obtain⟨q',g1,g2⟩:=qdq n b hb L (a++p.1) q1 (acc++[p.2]) fuel (fun p hp=>hL p (by simp[hp])) (by rw[e3];exact hlen) (by rw[h3];exact hq) (by simp only[length_cons] at hf;omega);refine⟨q',?_,g2.trans h3⟩;rw[zaz];have:z3c n ((hd0 (zbn (p::L)++b)),Rd.mk (a++p.1++(zbn L++b)) ((a.length:Nat):Int) 0 q,acc)=some (.inl ((hd0 (zbn L++b)),Rd.mk (a++p.1++(zbn L++b)) (((a++p.1).length:Nat):Int) 0 q1,acc++[p.2])):=by
   have e2:(hd0 (zbn (p::L)++b))=((c.toNat:Nat):Int):=by rw[zkf,hc];rfl
   rw[e2];have key: ∀c:UInt8,(c=40 \/c=91)->(((c.toNat:Nat):Int) !=0)=true/\ (((c.toNat:Nat):Int) !=124)=true/\ (((c.toNat:Nat):Int) !=41)=true:=by
    rintro c (rfl|rfl)<;>exact⟨rfl,rfl,rfl⟩
   obtain⟨k1,k2,k3⟩:=key c hc';unfold z3c;simp only;rw[k1,cond_true,k2,cond_true,k3,cond_true];refine zaj _ h1 ?_;simp only;refine zaj _ h2 ?_;simp only;refine zaj _ (zpe (a++p.1) (zbn L++b) q1) ?_;rfl
  rw[this];simp only;rw[e3] at g1;rw[g1];rw[show acc++[p.2]++zqm L=acc++zqm (p::L) by simp[zqm],show a++p.1++zbn L=a++zbn (p::L) by rw[zkf];simp]
theorem qpo (n:Nat)(L:Pcs)(a b:List UInt8)(q:Stk)(hb:StopP b)(hL: ∀p∈L,AtP n p.1 p.2)(hlen:(a++zbn L++b).length<2^39)(hq:(zdu q).length+n<2^39)(hf:L.length<1100):
 ∃q',qcq 1100 (zny 1100 (zll (qmn 1100 n))) (Rd.mk (a++zbn L++b) ((a.length:Nat):Int) 0 q)=some (zqm L,Rd.mk (a++zbn L++b) (((a++zbn L).length:Nat):Int) 0 q')/\ zdu q'=zdu q:=by
 obtain⟨q',h1,h2⟩:=qdq n b hb L a q [] 1100 hL hlen hq hf;refine⟨q',?_,h2⟩;have e:a++zbn L++b=a++(zbn L++b):=by simp
 unfold qcq;refine zaj _ (by rw[e];exact zpe a (zbn L++b) q) ?_;rw[nil_append,e] at h1;rw[e];exact h1
theorem zvj {ρ:Type}: ∀(l acc:List Tr),acc.length+l.length<2^40->zeh (β:=List Tr) (ρ:=ρ) (fun s2 w1=>(chk (length s2<2^40) (some (inl ((s2++[w1])))))) l acc=some (.inl (acc++l))
 |[],acc,_=>by rw[zeh];simp
 | x::l,acc,h=>by
  simp only[length_cons] at h;have hb:(chk (acc.length<2^40) (some (inl (acc++[x]))):Option (List Tr ⊕ ρ))=some (.inl (acc++[x])):=zg (by omega) rfl;rw[zeh,hb];have:=zvj (ρ:=ρ) l (acc++[x]) (by simp only[length_append,length_cons,length_nil];omega);simp only;rw[this];simp
abbrev Alts:=List Pcs
def zv:Alts->List UInt8
 |[]=>[]
 |[L]=>zbn L
 |L::M::A=>zbn L++124::zv (M::A)
def zem (A:Alts):List Tr:=A.map fun L=>zoj (zqm L)
def qfh (n:Nat)(A:Alts):Prop:=A≠[]/\ (∀L∈A,L.length<1000/\ ∀p∈L,AtP n p.1 p.2)/\ A.length<1000
theorem qhb (A:Alts):(zbi (zem A)).length<=10000*A.length:=by
 have:=zrh (zem A) (by
  intro x hx;obtain⟨L,_,rfl⟩:=mem_map.1 hx;exact seq_len _)
 simpa[zem] using this
theorem z8v {n:Nat} {L:Pcs} (h: ∀p∈L,AtP n p.1 p.2):(zbi (zqm L)).length<=10000*L.length:=by
 have:=zrh (zqm L) (by
  intro x hx;obtain⟨p,hp,rfl⟩:=mem_map.1 hx;exact(h p hp).len)
 simpa[zqm] using this
def EndP (b:List UInt8):Prop:=b=[] \/ ∃t,b=41::t
theorem EndP.stop {b:List UInt8} (h:EndP b):StopP b:=h.imp id fun⟨t,h⟩=>⟨t,.inl h⟩
theorem zii (L M:Pcs)(A:Alts):zv (L::M::A)=zbn L++124::zv (M::A):=rfl
def z0z (n:Nat):Rd×List Tr->Option ((Rd×List Tr) ⊕ ((Rd×List Tr) ⊕ (Tr×Rd))):=
 (fun s1=>(zcv (τ:=Rd×(List Tr)) (zai (ztc s1.1) (fun x1=>(zai (qcq 1100 (zny 1100 (zll (qmn 1100 n))) x1) (fun x2=>(zcv (zeh (β:=(List Tr)) (fun s2 w1=>(chk (length s2<2^40) (some (inl ((s2++[w1])))))) x2.1 (([]:List Tr))) (fun s2=>(some (inl (x2.2,s2))))))))) (fun j2=>(chk ((zbi j2.2).length<=2^40) (zay (zoj j2.2) (fun x3=>(bif (isEmpty s1.2) then(chk (0<(length [x3])/\ (length [x3])*80<=140737488355328) (zai (zfd j2.1) (fun x4=>(bif (x4.1 !=124) then(some (inr (inl (x4.2,[x3])))) else(chk (-9223372036854775808<=(x4.2.a+1)/\ (x4.2.a+1)<9223372036854775808) (some (inl ((Rd.mk x4.2.s (x4.2.a+1) x4.2.e x4.2.q),[x3])))))))) else(chk (length s1.2=(length s1.2)/\ 0<(length s1.2)/\ 0<length [x3]/\ ((length s1.2)+length [x3])*80<=140737488355328) (zai (zfd j2.1) (fun x5=>(bif (x5.1 !=124) then(some (inr (inl (x5.2,(s1.2++[x3]))))) else(chk (-9223372036854775808<=(x5.2.a+1)/\ (x5.2.a+1)<9223372036854775808) (some (inl ((Rd.mk x5.2.s (x5.2.a+1) x5.2.e x5.2.q),(s1.2++[x3]))))))))))))))))
theorem z9j (n:Nat)(b:List UInt8)(hb:EndP b): ∀(A:Alts) (a:List UInt8) (q:Stk) (acc:List Tr) (fuel:Nat),A≠[]->(∀L∈A,L.length<1000/\ ∀p∈L,AtP n p.1 p.2)->acc.length+A.length<2000->(a++zv A++b).length<2^39->(zdu q).length+n<2^39->A.length<=fuel->
 ∃q',zaz (z0z n) fuel (Rd.mk (a++zv A++b) ((a.length:Nat):Int) 0 q,acc)=some (.inl (Rd.mk (a++zv A++b) (((a++zv A).length:Nat):Int) 0 q',acc++zem A))/\ zdu q'=zdu q
 |A,_,_,_,0,hA,_,_,_,_,hf=>absurd hf (by cases A with|nil=>exact absurd rfl hA|cons=>simp)
 |[],_,_,_,_,hA,_,_,_,_,_=>absurd rfl hA
 | [L],a,q,acc,fuel+1,_,hA,hacc,hlen,hq,hf=>by
  obtain⟨hL1,hL⟩:=hA L (by simp);obtain⟨q',h1,h2⟩:=qpo n L a b q hb.stop hL hlen hq (by omega);refine⟨q',?_,h2⟩;have hp:=z8v hL;have hpl:(zqm L).length=L.length:=by simp[zqm]
  simp only[length_cons,length_nil] at hacc;rw[zaz];have:z0z n (Rd.mk (a++zbn L++b) ((a.length:Nat):Int) 0 q,acc)=some (.inr (.inl (Rd.mk (a++zbn L++b) (((a++zbn L).length:Nat):Int) 0 q',acc++[zoj (zqm L)]))):=by
   unfold z0z;refine zat (Rd.mk (a++zbn L++b) (((a++zbn L).length:Nat):Int) 0 q',zqm L) ?_ ?_
   ·refine zaj _ rfl ?_;refine zaj _ h1 ?_;refine zat ([]++zqm L) ?_ rfl;exact zvj (zqm L) [] (by rw[hpl];simp only[length_nil];omega)
   ·refine zg (by simp only;omega) (zk fun x3 hx3=> ?_);simp only at hx3;subst hx3;have hn:=zpe (a++zbn L) b q';have hb3:((hd0 (b)) !=124)=true:=by
     rcases hb with rfl|⟨t,rfl⟩<;>rfl
    cases acc with
    | nil=>
     rw[show isEmpty (Rd.mk (a++zbn L++b) ((a.length:Nat):Int) 0 q,([]:List Tr)).2=true from rfl,cond_true];refine zg (by simp) ?_;refine zaj _ hn ?_;simp only;rw[hb3,cond_true];rfl
    | cons t0 acc=>
     rw[show isEmpty (Rd.mk (a++zbn L++b) ((a.length:Nat):Int) 0 q,t0::acc).2=false from rfl,cond_false];refine zg (by simp only[length_cons,length_nil] at hacc⊢;exact⟨trivial,by omega,by omega,by omega⟩) ?_;refine zaj _ hn ?_;simp only;rw[hb3,cond_true]
  simp only[zv];rw[this];rfl
 | L ::M::A,a,q,acc,fuel+1,_,hA,hacc,hlen,hq,hf=>by
  obtain⟨hL1,hL⟩:=hA L (by simp);simp only[length_cons] at hacc hf;have e1:a++zv (L::M::A)++b=a++zbn L++(124::(zv (M::A)++b)):=by rw[zii];simp
  have e2:a++zbn L++(124::(zv (M::A)++b))=(a++zbn L++[124])++zv (M::A)++b:=by simp
  rw[e1] at hlen⊢;obtain⟨q1,h1,h2⟩:=qpo n L a (124::(zv (M::A)++b)) q (.inr ⟨_,.inr rfl⟩) hL hlen hq (by omega);obtain⟨q',g1,g2⟩:=z9j n b hb (M::A) (a++zbn L++[124]) q1 (acc++[zoj (zqm L)]) fuel (by simp) (fun x hx=>hA x (by simp only[List.mem_cons] at hx⊢;exact .inr hx)) (by simp only[length_append,length_cons,length_nil] at hacc⊢;omega) (by rw[<-e2];exact hlen) (by rw[h2];exact hq) (by simp only[length_cons];omega);refine⟨q',?_,g2.trans h2⟩;have hp:=z8v hL;have hpl:(zqm L).length=L.length:=by simp[zqm]
  rw[zaz];have:z0z n (Rd.mk (a++zbn L++(124::(zv (M::A)++b))) ((a.length:Nat):Int) 0 q,acc)=some (.inl (Rd.mk (a++zbn L++(124::(zv (M::A)++b))) (((a++zbn L++[124]).length:Nat):Int) 0 q1,acc++[zoj (zqm L)])):=by
   have hl:((((a++zbn L).length:Nat):Int)+1)=(((a++zbn L++[124]).length:Nat):Int):=by simp only[length_append,length_cons,length_nil];omega
   have hl2:(a++zbn L).length<2^39:=by simp only[length_append,length_cons] at hlen⊢;omega
   unfold z0z;refine zat (Rd.mk (a++zbn L++(124::(zv (M::A)++b))) (((a++zbn L).length:Nat):Int) 0 q1,zqm L) ?_ ?_
   ·refine zaj _ rfl ?_;refine zaj _ h1 ?_;refine zat ([]++zqm L) ?_ rfl;exact zvj (zqm L) [] (by rw[hpl];simp only[length_nil];omega)
   ·refine zg (by simp only;omega) (zk fun x3 hx3=> ?_);simp only at hx3;subst hx3;have hn:=zpe (a++zbn L) (124::(zv (M::A)++b)) q1;cases acc with
    | nil=>
     rw[show isEmpty (Rd.mk (a++zbn L++(124::(zv (M::A)++b))) ((a.length:Nat):Int) 0 q,([]:List Tr)).2=true from rfl,cond_true];refine zg (by simp) ?_;refine zaj _ hn ?_;simp only;rw[show(hd0 (124::(zv (M::A)++b)) !=124)=false from rfl,cond_false];refine zg (by omega) ?_;rw[hl];rfl
    | cons t0 acc=>
     rw[show isEmpty (Rd.mk (a++zbn L++(124::(zv (M::A)++b))) ((a.length:Nat):Int) 0 q,t0::acc).2=false from rfl,cond_false];refine zg (by simp only[length_cons,length_nil] at hacc⊢;exact⟨trivial,by omega,by omega,by omega⟩) ?_;refine zaj _ hn ?_;simp only;rw[show(hd0 (124::(zv (M::A)++b)) !=124)=false from rfl,cond_false];refine zg (by omega) ?_;rw[hl]
  rw[this];simp only;rw[<-e2] at g1;rw[g1];rw[show acc++[zoj (zqm L)]++zem (M::A)=acc++zem (L::M::A) by simp[zem],show a++zbn L++[124]++zv (M::A)=a++zv (L::M::A) by rw[zii];simp]
theorem qpn (n:Nat)(A:Alts)(a b:List UInt8)(q:Stk)(hb:EndP b)(hA:qfh n A)(hlen:(a++zv A++b).length<2^39)(hq:(zdu q).length+n<2^39):
 ∃q',qmn 1100 (n+1) (Rd.mk (a++zv A++b) ((a.length:Nat):Int) 0 q)=some (orT (zem A),Rd.mk (a++zv A++b) (((a++zv A).length:Nat):Int) 0 q')/\ zdu q'=zdu q:=by
 obtain⟨h0,h1,h2⟩:=hA;obtain⟨q',g1,g2⟩:=z9j n b hb A a q [] 1100 h0 h1 (by simp only[length_nil];omega) hlen hq (by omega);refine⟨q',?_,g2⟩;have hp:=qhb A;show z1i 1100 _ _=_;unfold z1i;refine zat (Rd.mk (a++zv A++b) (((a++zv A).length:Nat):Int) 0 q',[]++zem A) g1 ?_;have hne:isEmpty (zem A)=false:=by
  cases A with
  |nil=>exact absurd rfl h0
  |cons=>rfl
 simp only[nil_append];rw[hne,cond_false];refine zg (by omega) (zk fun x hx=> ?_);rw[<-hx]
theorem z7q (n:Nat)(A:Alts)(a h b:List UInt8)(q:Stk)(hA:qfh n A)(hh:h.length<=3)(hlen:(a++h++zv A++41::b).length<2^39)(hq:(zdu q).length+(n+1)<2^39):
 ∃q',zll (qmn 1100 (n+1)) (h.length:Int) (Rd.mk (a++h++zv A++41::b) ((a.length:Nat):Int) 0 q)=some (orT (zem A),Rd.mk (a++h++zv A++41::b) (((a++h++zv A++[41]).length:Nat):Int) 0 q')/\ zdu q'=zdu q:=by
 have hp:zdu (zjd q ((a.length:Nat):Int))=zdu q++[((a.length:Nat):Int)]:=rfl;obtain⟨q1,g1,g2⟩:=qpn n A (a++h) (41::b) (zjd q ((a.length:Nat):Int)) (.inr ⟨_,rfl⟩) hA hlen (by rw[hp];simp only[length_append,length_cons,length_nil];omega);refine⟨zyt q1,?_,by rw[qol,g2,hp];simp⟩;have hl1:((a.length:Nat):Int)+(h.length:Int)=(((a++h).length:Nat):Int):=by simp only[length_append];omega
 have hl2:((((a++h++zv A).length:Nat):Int)+1)=(((a++h++zv A++[41]).length:Nat):Int):=by simp only[length_append,length_cons,length_nil];omega
 have hl3:(a++h++zv A).length<2^39:=by simp only[length_append,length_cons] at hlen⊢;omega
 have hl4:a.length<2^39:=by simp only[length_append] at hl3;omega
 have hs:(zdu q1).length=(zdu q).length+1:=by rw[g2,hp];simp
 unfold zll;refine zg (by simp only;omega) (zg (by simp only;omega) ?_);refine zaj _ (by simp only;rw[hl1];exact g1) ?_;refine zat (Rd.mk (a++h++zv A++41::b) (((a++h++zv A++[41]).length:Nat):Int) 0 (zyt q1)) ?_ rfl;refine zaj _ (z8j (a++h++zv A) 41 b q1) ?_;simp only;rw[show((((41:UInt8).toNat:Nat):Int)==41)=true from rfl,cond_true];refine zg (by omega) (zg (by omega) (zg (by intro e;rw[e] at hs;simp at hs) ?_));rw[hl2]
theorem qqc (c:UInt8)(h:c≠42/\ c≠43/\ c≠63/\ c≠123): ¬Lib.indexByte ([42,43,63,123]:List UInt8) c>=0:=by
 obtain⟨h1,h2,h3,h4⟩:=h;simp[Lib.indexByte,List.findIdx?_cons,Ne.symm h1,Ne.symm h2,Ne.symm h3,Ne.symm h4]
theorem hd0_u8 (b:List UInt8):0<=hd0 b/\ hd0 b<256:=by
 cases b with
 |nil=>exact⟨by decide,by decide⟩
 | cons c t=>
  have:c.toNat<256:=c.toNat_lt;simp only[hd0];omega
theorem hd0_no {b:List UInt8} (h:z6b b): ¬Lib.indexByte ([42,43,63,123]:List UInt8) (zzz (hd0 b))>=0:=by
 cases b with
 |nil=>exact qqc _ (by decide)
 | cons c t=>
  have e:zzz (hd0 (c::t))=c:=by simp[hd0,zzz]
  rw[e];exact qqc c (h c t rfl)
theorem qnh {b:List UInt8} (h:z6b b):zkv 1100 b=some (1,1,0,0):=by
 cases b with
 |nil=>rfl
 | cons c t=>
  obtain⟨h1,h2,h3,h4⟩:=h c t rfl;have ne: ∀d:UInt8,c≠d->(((c.toNat:Nat):Int)==((d.toNat:Nat):Int))=false:=fun d hd=>by
   rw[beq_eq_false_iff_ne];intro e;exact hd (UInt8.toNat_inj.1 (by omega))
  unfold zkv;rw[show((c::t)==([]:List UInt8))=false from rfl,cond_false];refine zg (by simp only[length_cons];omega) (zk fun x hx=> ?_);have:x=c:=by rw[<-hx];rfl
  subst this;rw[show(((x.toNat:Nat):Int)==42)=false from ne 42 h1,cond_false,show(((x.toNat:Nat):Int)==43)=false from ne 43 h2,cond_false,show(((x.toNat:Nat):Int)==63)=false from ne 63 h3,cond_false,show(((x.toNat:Nat):Int)==123)=false from ne 123 h4,cond_false]
theorem zqy (y:Tr)(hy:(pre y).length<=10000)(a c b:List UInt8)(q:Stk)(lo hi:Int)(hc:zkv 1100 (c++b)=some (lo,hi,(c.length:Int),0))(hb:z6b b)(hlen:(a++c++b).length<2^39):
 zeu 1100 y (Rd.mk (a++c++b) ((a.length:Nat):Int) 0 q)=some (zgj y lo hi,Rd.mk (a++c++b) (((a++c).length:Nat):Int) 0 q):=by
 have hl1:((a.length:Nat):Int)+(c.length:Int)=(((a++c).length:Nat):Int):=by simp only[length_append];omega
 have hl2:(a++c).length<2^39:=by simp only[length_append] at hlen⊢;omega
 have hl3:a.length<=(a++c++b).length:=by simp only[length_append];omega
 unfold zeu;rw[show((Rd.mk (a++c++b) ((a.length:Nat):Int) 0 q).e !=0)=false from rfl,cond_false];refine zg (by simp only;omega) (zk fun x1 hx1=> ?_);simp only at hx1;rw[List.append_assoc,zuk] at hx1;subst hx1;refine zaj _ hc ?_;rw[show((lo,hi,(c.length:Int),(0:Int)).2.2.2 !=0)=false from rfl,cond_false];refine zg (by simp only;omega) ?_;refine zat (Rd.mk (a++c++b) (((a++c).length:Nat):Int) 0 q) ?_ ?_
 ·simp only;rw[hl1];cases hc0:decide ((c.length:Int)>0) with
  |false=>rfl
  | true=>
   rw[cond_true];refine zaj _ (zpe (a++c) b q) ?_;simp only;refine zg (hd0_u8 b) (zk fun x hx=> ?_);subst hx;rw[show decide (Lib.indexByte ([42,43,63,123]:List UInt8) (zzz (hd0 b))>=0)=false from decide_eq_false (hd0_no hb),cond_false]
 ·exact zg (by omega) (zk fun x hx=>by rw[<-hx])
def qpu (c:List UInt8)(lo hi:Int):Prop:= ∀b,z6b b->b.length<2^39->zkv 1100 (c++b)=some (lo,hi,(c.length:Int),0)
theorem zrm:qpu [] 1 1:=fun b hb _=>qnh hb
theorem at_nc (n:Nat)(A:Alts)(c:List UInt8)(lo hi:Int)(hA:qfh n A)(hc:qpu c lo hi):AtP (n+1) ([40,63,58]++zv A++[41]++c) (zgj (orT (zem A)) lo hi) where
 hd:=⟨40,_,rfl,.inl rfl⟩
 len:=zrb _ (z3h _) lo hi
 run a b q hlen hq hb:=by
  have e:a++([40,63,58]++zv A++[41]++c)++b=a++[40,63,58]++zv A++41::(c++b):=by simp
  have e2:a++[40,63,58]++zv A++41::(c++b)=a++[40,63,58]++zv A++[41]++c++b:=by simp
  rw[e] at hlen⊢;obtain⟨q',g1,g2⟩:=z7q n A a [40,63,58] (c++b) q hA (by decide) hlen hq;refine⟨orT (zem A),Rd.mk (a++[40,63,58]++zv A++41::(c++b)) (((a++[40,63,58]++zv A++[41]).length:Nat):Int) 0 q',q',?_,?_,g2⟩
  rotate_left
  ·have h:=zqy (orT (zem A)) (z3h _) (a++[40,63,58]++zv A++[41]) c b q' lo hi (hc b hb (by simp only[length_append,length_cons] at hlen;omega)) hb (by rw[<-e2];exact hlen);rw[<-e2] at h;rw[show a++([40,63,58]++zv A++[41]++c)=a++[40,63,58]++zv A++[41]++c by simp];exact h
  ·have hla:a.length<(a++[40,63,58]++zv A++41::(c++b)).length:=by simp only[length_append,length_cons,length_nil];omega
   have e3:a++[40,63,58]++zv A++41::(c++b)=a++([40,63,58]++zv A++41::(c++b)):=by simp
   unfold zny;refine zg (by simp only;omega) (zk fun x1 hx1=> ?_);simp only at hx1;rw[e3,zuk] at hx1;subst hx1;refine zql (_,Rd.mk _ _ _ _) ?_ rfl;refine zg (by simp only[length_append,length_cons];omega) (zk fun x2 hx2=> ?_);have:x2=40:=by rw[<-hx2];rfl
   subst this;rw[show((((40:UInt8).toNat:Nat):Int)==40)=true from rfl,cond_true];refine zk fun x3 hx3=> ?_;have:x3=true:=by rw[<-hx3];rfl
   subst this;rw[cond_true];exact zaj _ g1 rfl
theorem at_gr (n:Nat)(A:Alts)(c:List UInt8)(lo hi:Int)(hA:qfh n A)(hq63: ∀x t,zv A=x::t->x≠63)(hc:qpu c lo hi):AtP (n+1) ([40]++zv A++[41]++c) (zgj (zgz (orT (zem A))) lo hi) where
 hd:=⟨40,_,rfl,.inl rfl⟩
 len:=zrb _ (zij _) lo hi
 run a b q hlen hq hb:=by
  have e:a++([40]++zv A++[41]++c)++b=a++[40]++zv A++41::(c++b):=by simp
  have e2:a++[40]++zv A++41::(c++b)=a++[40]++zv A++[41]++c++b:=by simp
  rw[e] at hlen⊢;obtain⟨q',g1,g2⟩:=z7q n A a [40] (c++b) q hA (by decide) hlen hq;refine⟨zgz (orT (zem A)),Rd.mk (a++[40]++zv A++41::(c++b)) (((a++[40]++zv A++[41]).length:Nat):Int) 0 q',q',?_,?_,g2⟩
  rotate_left
  ·have h:=zqy (zgz (orT (zem A))) (zij _) (a++[40]++zv A++[41]) c b q' lo hi (hc b hb (by simp only[length_append,length_cons] at hlen;omega)) hb (by rw[<-e2];exact hlen);rw[<-e2] at h;rw[show a++([40]++zv A++[41]++c)=a++[40]++zv A++[41]++c by simp];exact h
  ·have hla:a.length<(a++[40]++zv A++41::(c++b)).length:=by simp only[length_append,length_cons,length_nil];omega
   have e3:a++[40]++zv A++41::(c++b)=a++([40]++zv A++41::(c++b)):=by simp
   unfold zny;refine zg (by simp only;omega) (zk fun x1 hx1=> ?_);simp only at hx1;rw[e3,zuk] at hx1;subst hx1;refine zql (_,Rd.mk _ _ _ _) ?_ rfl;refine zg (by simp only[length_append,length_cons];omega) (zk fun x2 hx2=> ?_);have:x2=40:=by rw[<-hx2];rfl
   subst this;rw[show((((40:UInt8).toNat:Nat):Int)==40)=true from rfl,cond_true];refine zk fun x3 hx3=> ?_;have:x3=false:=by
    rw[<-hx3];cases hA':zv A with
    |nil=>rfl
    | cons x t=>
     have:=hq63 x t hA';unfold Lib.hasPrefix;simp[List.isPrefixOf];intro h;exact absurd h.symm this
   subst this;rw[cond_false];refine zaj _ g1 ?_;refine zg (by have:=z3h (zem A);simp only;omega) (zk fun x hx=> ?_);rw[<-hx]
theorem at_br (n:Nat)(its:List It)(c:List UInt8)(lo hi:Int)(hn:its≠[])(hg: ∀i∈its,gdI i)(hl:its.length<1000)(hc:qpu c lo hi):AtP n ([91]++zkz its++[93]++c) (zgj (brT (z4r 0#256 its)) lo hi) where
 hd:=⟨91,_,rfl,.inr rfl⟩
 len:=zrb _ (by rw[z6x];simp) lo hi
 run a b q hlen hq hb:=by
  have e:a++([91]++zkz its++[93]++c)++b=a++([91]++zkz its++[93])++c++b:=by simp
  rw[e] at hlen⊢;have hS:=qir its hn hg;have hbr:=qam its (c++b) hn hg hl (by simp only[length_append,length_cons] at hlen⊢;omega);refine⟨brT (z4r 0#256 its),Rd.mk (a++([91]++zkz its++[93])++c++b) (((a++([91]++zkz its++[93])).length:Nat):Int) 0 q,q,?_,?_,rfl⟩
  rotate_left
  ·have h:=zqy (brT (z4r 0#256 its)) (by rw[z6x];simp) (a++([91]++zkz its++[93])) c b q lo hi (hc b hb (by simp only[length_append,length_cons] at hlen;omega)) hb hlen;rw[show a++([91]++zkz its++[93]++c)=a++([91]++zkz its++[93])++c by simp];exact h
  ·have hla:a.length<(a++([91]++zkz its++[93])++c++b).length:=by simp only[length_append,length_cons,length_nil];omega
   have e3:a++([91]++zkz its++[93])++c++b=a++(([91]:List UInt8)++zkz its++[93]++(c++b)):=by simp
   have hll:((a.length:Nat):Int)+(((zkz its).length:Int)+2)=(((a++([91]++zkz its++[93])).length:Nat):Int):=by simp only[length_append,length_cons,length_nil];omega
   have hl2:(a++([91]++zkz its++[93])).length<2^39:=by simp only[length_append] at hlen⊢;omega
   unfold zny;refine zg (by simp only;omega) (zk fun x1 hx1=> ?_);simp only at hx1;rw[e3,zuk] at hx1;subst hx1;refine zql (_,Rd.mk _ _ _ _) ?_ rfl;refine zg (by simp only[length_append,length_cons];omega) (zk fun x2 hx2=> ?_);have:x2=91:=by rw[<-hx2];rfl
   subst this;rw[show((((91:UInt8).toNat:Nat):Int)==40)=false from rfl,cond_false,show((((91:UInt8).toNat:Nat):Int)==91)=true from rfl,cond_true];refine zaj _ hbr ?_;simp only;rw[show((0:Int) !=0)=false from rfl,cond_false];refine zg (by omega) (zk fun x hx=> ?_);have:x=brT (z4r 0#256 its):=by rw[<-hx,ofT,if_neg hS];rfl
   subst this;rw[hll]
def zmr (s:List UInt8):Int×Int->Option ((Int×Int) ⊕ ((Int×Int) ⊕ (Int×Int))):=
 (fun s1=>(bif (decide (s1.2<(length s:Int))) then(bif (decide (s1.2<2)) then(chk (0<=s1.2/\ s1.2<(length s:Int)) (zay (ix s s1.2) (fun x1=>(bif (decide ((((x1).toNat:Nat):Int)>=48)) then(chk (0<=s1.2/\ s1.2<(length s:Int)) (zay (ix s s1.2) (fun x2=>(bif (decide ((((x2).toNat:Nat):Int)<=57)) then(chk (-9223372036854775808<=(10*s1.1)/\ (10*s1.1)<9223372036854775808) (chk (0<=s1.2/\ s1.2<(length s:Int)) (zay (ix s s1.2) (fun x3=>(chk (-9223372036854775808<=(IntKind.u8.wrap ((((x3).toNat:Nat):Int)-48))/\ (IntKind.u8.wrap ((((x3).toNat:Nat):Int)-48))<9223372036854775808) (chk (-9223372036854775808<=((10*s1.1)+(IntKind.u8.wrap ((((x3).toNat:Nat):Int)-48)))/\ ((10*s1.1)+(IntKind.u8.wrap ((((x3).toNat:Nat):Int)-48)))<9223372036854775808) (chk (-9223372036854775808<=(s1.2+1)/\ (s1.2+1)<9223372036854775808) (some (inl (((10*s1.1)+(IntKind.u8.wrap ((((x3).toNat:Nat):Int)-48))),(s1.2+1))))))))))) else(some (inr (inl (s1.1,s1.2)))))))) else(some (inr (inl (s1.1,s1.2)))))))) else(some (inr (inl (s1.1,s1.2))))) else(some (inr (inl (s1.1,s1.2))))))
def isD (c:UInt8):Prop:=48<=c.toNat/\ c.toNat<=57
theorem u8_dig: ∀m:Nat,m<10->IntKind.u8.wrap ((m:Nat):Int)=((m:Nat):Int):=by decide
theorem zzl (s:List UInt8)(k:Nat)(n:Int)(c:UInt8)(hk:k<2)(hl:k<s.length)(hc:ix s ((k:Nat):Int)=c)(hd:isD c)(hn:0<=n/\ n<=9):zmr s (n,((k:Nat):Int))=some (.inl (10*n+(((c.toNat:Nat):Int)-48),(((k+1:Nat)):Int))):=by
 obtain⟨d1,d2⟩:=hd;have hw:IntKind.u8.wrap (((c.toNat:Nat):Int)-48)=((c.toNat:Nat):Int)-48:=by
  have:=u8_dig (c.toNat-48) (by omega);rwa[show(((c.toNat-48:Nat):Nat):Int)=((c.toNat:Nat):Int)-48 by omega] at this
 unfold zmr;dsimp only;rw[show decide (((k:Nat):Int)<(length s:Int))=true from decide_eq_true (by omega),cond_true,show decide (((k:Nat):Int)<2)=true from decide_eq_true (by omega),cond_true];refine zg (by omega) (zk fun x hx=> ?_);rw[hc] at hx;subst hx;rw[show decide (((c.toNat:Nat):Int)>=48)=true from decide_eq_true (by omega),cond_true];refine zg (by omega) (zk fun x hx=> ?_);rw[hc] at hx;subst hx;rw[show decide (((c.toNat:Nat):Int)<=57)=true from decide_eq_true (by omega),cond_true];refine zg (by omega) (zg (by omega) (zk fun x hx=> ?_));rw[hc] at hx;subst hx;rw[hw];refine zg (by omega) (zg (by omega) (zg (by omega) ?_));rfl
theorem nb_two (s:List UInt8)(n:Int):zmr s (n,2)=some (.inr (.inl (n,2))):=by
 unfold zmr;dsimp only;cases decide ((2:Int)<(length s:Int))<;>rfl
theorem qeq (s a b:List UInt8)(n:Int)(hs:s=a++b)(hb: ∀c t,b=c::t-> ¬isD c):zmr s (n,((a.length:Nat):Int))=some (.inr (.inl (n,((a.length:Nat):Int)))):=by
 unfold zmr;dsimp only;cases b with
 | nil=>
  rw[show decide (((a.length:Nat):Int)<(length s:Int))=false from decide_eq_false (by rw[hs];simp),cond_false]
 | cons c t=>
  have hl:a.length<s.length:=by rw[hs];simp only[length_append,length_cons];omega
  have hc:ix s ((a.length:Nat):Int)=c:=by rw[hs,z8y]
  rw[show decide (((a.length:Nat):Int)<(length s:Int))=true from decide_eq_true (by omega),cond_true];cases h2:decide (((a.length:Nat):Int)<2) with
  |false=>rw[cond_false]
  | true=>
   rw[cond_true];refine zg (by omega) (zk fun x hx=> ?_);rw[hc] at hx;subst hx;have hn:=hb c t rfl;cases h3:decide (((c.toNat:Nat):Int)>=48) with
   |false=>rw[cond_false]
   | true=>
    rw[cond_true];refine zg (by omega) (zk fun x hx=> ?_);rw[hc] at hx;subst hx;rw[decide_eq_true_eq] at h3;rw[show decide (((c.toNat:Nat):Int)<=57)=false from decide_eq_false fun h=>hn ⟨by omega,by omega⟩,cond_false]
def qnl (b:List UInt8):Prop:= ∀c t,b=c::t-> ¬isD c
theorem number0 (b:List UInt8)(hb:qnl b):zfc 1100 b=some (0,0):=by
 unfold zfc;refine zat (0,0) ?_ rfl;exact ztq 1099 (qeq b [] b 0 rfl hb)
theorem number1 (c:UInt8)(b:List UInt8)(hc:isD c)(hb:qnl b):zfc 1100 (c::b)=some (((c.toNat:Nat):Int)-48,1):=by
 unfold zfc;refine zat (((c.toNat:Nat):Int)-48,1) ?_ rfl;have h1:=zzl (c::b) 0 0 c (by decide) (by simp) rfl hc ⟨by decide,by decide⟩;have h2:=qeq (c::b) [c] b (((c.toNat:Nat):Int)-48) rfl hb;show zaz (zmr (c::b)) (1099+1) ((0:Int),((0:Nat):Int))=_;rw[zaz,h1];rw[show(10*(0:Int)+(((c.toNat:Nat):Int)-48))=((c.toNat:Nat):Int)-48 by omega];exact ztq 1098 h2
theorem number2 (c d:UInt8)(b:List UInt8)(hc:isD c)(hd:isD d):zfc 1100 (c::d::b)=some (10*(((c.toNat:Nat):Int)-48)+(((d.toNat:Nat):Int)-48),2):=by
 unfold zfc;refine zat (10*(((c.toNat:Nat):Int)-48)+(((d.toNat:Nat):Int)-48),2) ?_ rfl;have h1:=zzl (c::d::b) 0 0 c (by decide) (by simp) rfl hc ⟨by decide,by decide⟩;have h2:=zzl (c::d::b) 1 (((c.toNat:Nat):Int)-48) d (by decide) (by simp) rfl hd (by have:=hc.1;have:=hc.2;omega);show zaz (zmr (c::d::b)) (1099+1) ((0:Int),((0:Nat):Int))=_;rw[zaz,h1];rw[show(10*(0:Int)+(((c.toNat:Nat):Int)-48))=((c.toNat:Nat):Int)-48 by omega];simp only;rw[show(1099:Nat)=1098+1 from rfl,zaz,h2];exact ztq 1097 (nb_two _ _)
theorem z7i (n:Nat)(hn:n<20)(b:List UInt8)(hb:qnl b):zfc 1100 (zhi n++b)=some (((n:Nat):Int),((zhi n).length:Int)):=by
 unfold zhi;by_cases h:n<10
 ·rw[if_pos h];have e:(UInt8.ofNat (48+n)).toNat=48+n:=by rw[UInt8.toNat_ofNat'];omega
  have:=number1 (UInt8.ofNat (48+n)) b ⟨by omega,by omega⟩ hb;rw[e] at this;rw[show(((48+n:Nat):Nat):Int)-48=((n:Nat):Int) by omega] at this;exact this
 ·rw[if_neg h];have e:(UInt8.ofNat (38+n)).toNat=38+n:=by rw[UInt8.toNat_ofNat'];omega
  have:=number2 49 (UInt8.ofNat (38+n)) b ⟨by decide,by decide⟩ ⟨by omega,by omega⟩;rw[e] at this;rw[show(10*((((49:UInt8).toNat:Nat):Int)-48)+((((38+n:Nat):Nat):Int)-48))=((n:Nat):Int) by rw[show(((49:UInt8).toNat:Nat):Int)=49 from rfl];omega] at this;exact this
theorem z2j (ds es b:List UInt8)(lo h0 hi:Int)(hds:ds≠[])(h1:zfc 1100 (ds++44::(es++125::b))=some (lo,(ds.length:Int)))(h2:zfc 1100 (es++125::b)=some (h0,(es.length:Int)))(hh:hi=if es=[] then-1 else h0)
 (g1:hi≠0) (g2:lo<=16) (g3:hi<=16) (g4:hi= -1 \/lo<=hi) (hlen:(ds++es++b).length<2^40):zna 1100 (123::(ds++44::(es++125::b)))=some (lo,hi,((ds.length+es.length+3:Nat):Int),0):=by
 obtain⟨s,hs⟩: ∃s,s=(123:UInt8)::(ds++44::(es++125::b)):=⟨_,rfl⟩;rw[<-hs];have hsl:s.length=ds.length+es.length+b.length+3:=by rw[hs];simp only[length_append,length_cons];omega
 simp only[length_append] at hlen;have hdp:0<ds.length:=List.length_pos_iff.2 hds;unfold zna;refine zg (by omega) (zk fun x1 hx1=> ?_);have e1:x1=ds++44::(es++125::b):=by rw[<-hx1,show(1:Int)=((1:Nat):Int) from rfl,zvr,hs];rfl
 subst e1;refine zaj _ h1 ?_;dsimp only;refine zg (by omega) ?_;have a1:(1+(ds.length:Int))=(((123::ds:List UInt8).length:Nat):Int):=by simp only[length_cons];omega
 have a2:(1+(ds.length:Int))+1=(((123::ds++[44]:List UInt8).length:Nat):Int):=by simp only[length_cons,length_append,length_nil];omega
 have i1:ix s (1+(ds.length:Int))=44:=by rw[a1,show s=(123::ds)++44::(es++125::b) by rw[hs];rfl,z8y]
 refine zat (hi,(1+(ds.length:Int))+1+(es.length:Int)) ?_ ?_
 ·rw[show decide ((ds.length:Int)>0)=true from decide_eq_true (by omega),cond_true,show decide ((1+(ds.length:Int))<(length s:Int))=true from decide_eq_true (by omega),cond_true];refine zg (by omega) (zk fun x3 hx3=> ?_);rw[i1] at hx3;subst hx3;rw[show((((44:UInt8).toNat:Nat):Int)==44)=true from rfl,cond_true];refine zg (by omega) (zg (by omega) (zk fun x4 hx4=> ?_));have e4:x4=es++125::b:=by
   rw[<-hx4,a2,show s=(123::ds++[44])++(es++125::b) by rw[hs];simp,zuk]
  subst e4;refine zaj _ h2 ?_;dsimp only;refine zat hi ?_ (zg (by omega) rfl);cases es with
  |nil=>rw[hh];rfl
  | cons e0 es=>
   rw[hh,if_neg (by simp),show((length (e0::es):Int)==0)=false from beq_eq_false_iff_ne.2 (by simp only[length_cons];omega),cond_false]
 ·dsimp only;rw[show((ds.length:Int)==0)=false from beq_eq_false_iff_ne.2 (by omega),cond_false,show((1+(ds.length:Int))+1+(es.length:Int)==(length s:Int))=false from beq_eq_false_iff_ne.2 (by omega),cond_false];have a3:(1+(ds.length:Int))+1+(es.length:Int)=(((123::ds++[44]++es:List UInt8).length:Nat):Int):=by simp only[length_cons,length_append,length_nil];omega
  have i3:ix s ((1+(ds.length:Int))+1+(es.length:Int))=125:=by rw[a3,show s=(123::ds++[44]++es)++125::b by rw[hs];simp,z8y]
  refine zg (by omega) (zk fun x6 hx6=> ?_);rw[i3] at hx6;subst hx6;rw[show((((125:UInt8).toNat:Nat):Int) !=125)=false from rfl,cond_false];refine zat () ?_ ?_
  ·rw[show(hi==0)=false from beq_eq_false_iff_ne.2 g1,cond_false,show decide (lo>16)=false from decide_eq_false (by omega),cond_false,show decide (hi>16)=false from decide_eq_false (by omega),cond_false];rcases g4 with g4|g4
   ·rw[g4];rfl
   ·cases h9:(hi !=(-1)) with
    |false=>rfl
    |true=>rw[cond_true,show decide (hi<lo)=false from decide_eq_false (by omega),cond_false]
  ·refine zg (by omega) ?_;rw[show(1+(ds.length:Int))+1+(es.length:Int)+1=((ds.length+es.length+3:Nat):Int) by omega]
theorem zzx {c:UInt8} {t:List UInt8} (h: ¬isD c):qnl (c::t):=by
 intro d u e;cases e;exact h
theorem zzi (n:Nat):zhi n≠[]:=by unfold zhi;split<;>simp
theorem zke (n:Nat):(zhi n).length<=2:=by unfold zhi;split<;>simp
def qkl (mn mx:Int):List UInt8:=[123]++zhi mn.toNat++[44]++(if mx= -1 then[] else zhi mx.toNat)++[125]
theorem z1s {mn mx:Int} (hb:zen mn mx=true):(0<=mn/\ mn<=16)/\ (mx= -1 \/1<=mx/\ mx<=16/\ mn<=mx):=by
 unfold zen at hb;simp only[and_eq_true,Bool.not_eq_true',Bool.or_eq_false_iff,Bool.or_eq_true,decide_eq_true_eq,decide_eq_false_iff_not,Bool.and_eq_false_iff] at hb;omega
theorem qlu (s:List UInt8)(lo hi n:Int)(h:zna 1100 (123::s)=some (lo,hi,n,0)):zkv 1100 (123::s)=some (lo,hi,n,0):=by
 unfold zkv;rw[show(((123:UInt8)::s)==([]:List UInt8))=false from rfl,cond_false];refine zg (by simp only[length_cons];omega) (zk fun x hx=> ?_);have:x=123:=by rw[<-hx];rfl
 subst this;rw[show((((123:UInt8).toNat:Nat):Int)==42)=false from rfl,cond_false,show((((123:UInt8).toNat:Nat):Int)==43)=false from rfl,cond_false,show((((123:UInt8).toNat:Nat):Int)==63)=false from rfl,cond_false,show((((123:UInt8).toNat:Nat):Int)==123)=true from rfl,cond_true];exact zaj _ h rfl
theorem cnt_rep {mn mx:Int} (hb:zen mn mx=true):qpu (qkl mn mx) mn mx:=by
 obtain⟨⟨b1,b2⟩,b3⟩:=z1s hb;intro b _ hbl;obtain⟨es,hes⟩: ∃es,es=(if mx= -1 then[] else zhi mx.toNat):=⟨_,rfl⟩;have e:qkl mn mx++b=123::(zhi mn.toNat++44::(es++125::b)):=by rw[qkl, <-hes];simp
 have el:((qkl mn mx).length:Int)=(((zhi mn.toNat).length+es.length+3:Nat):Int):=by rw[qkl, <-hes];simp only[length_append,length_cons,length_nil];omega
 have d44: ¬isD 44:=by rintro⟨h,_⟩;exact absurd h (by decide)
 have d125: ¬isD 125:=by rintro⟨_,h⟩;exact absurd h (by decide)
 have h1:=z7i mn.toNat (by omega) (44::(es++125::b)) (zzx d44);rw[Int.toNat_of_nonneg b1] at h1;have hesl:es.length<=2:=by rw[hes];split;simp;exact zke _
 have hml:=zke mn.toNat
 have hl:(zhi mn.toNat++es++b).length<2^40:=by simp only[length_append];omega
 rw[e,el];refine qlu _ _ _ _ ?_;by_cases hm:mx= -1
 ·have he:es=[]:=by rw[hes,if_pos hm]
  subst he;exact z2j _ [] b mn 0 mx (zzi _) h1 (number0 (125::b) (zzx d125)) (by rw[if_pos rfl];exact hm) (by omega) (by omega) (by omega) (.inl hm) hl
 ·have he:es=zhi mx.toNat:=by rw[hes,if_neg hm]
  subst he;have h2:=z7i mx.toNat (by omega) (125::b) (zzx d125);rw[Int.toNat_of_nonneg (by omega)] at h2;exact z2j _ _ b mn mx mx (zzi _) h1 h2 (by rw[if_neg (zzi _)]) (by omega) (by omega) (by omega) (.inr (by omega)) hl
def z7f (x:Tr):List UInt8×Tr:=([40,63,58]++zdc x++[41],x)
theorem zuy: ∀l:List Tr,zlz l=zbn (l.map z7f)
 |[]=>by simp[zlz,zbn]
 |x::l=>by rw[map_cons,zkf,zlz,zuy l];simp[z7f]
theorem qhk: ∀l:List Tr,zjb true l=zv (l.map fun x=>[z7f x])/\ zjb false l=if l=[] then[] else 124::zv (l.map fun x=>[z7f x])
 |[]=>by simp[zjb,zv]
 |[x]=>by simp[zjb,zv,zbn,z7f]
 | x::y::l=>by
  obtain⟨h1,h2⟩:=qhk (y::l);rw[if_neg (by simp)] at h2;have e:zv ((x::y::l).map fun x=>[z7f x])=([40,63,58]++zdc x++[41])++124::zv ((y::l).map fun x=>[z7f x]):=by
   simp only[map_cons];rw[zii];simp[zbn,z7f]
  have st: ∀b,zjb b (x::y::l)=(if b=true then[] else[124])++[40,63,58]++zdc x++[41]++zjb false (y::l):=fun b=>by rw[zjb]
  rw[e,st,st,h2];simp
theorem zxg (s:BS):z4r 0#256 ((zfq s).map fun c=>((c,none):It))=s:=by
 refine BitVec.eq_of_getLsbD_eq fun i hi=> ?_;rw[z0d];simp only[BitVec.getLsbD_zero,Bool.false_or];cases h:s.getLsbD i with
 | true=>
  refine List.any_eq_true.2 ⟨(i,none),mem_map.2 ⟨i,List.mem_filter.2 ⟨List.mem_range.2 hi,h⟩,rfl⟩,?_⟩;exact z5d i hi
 | false=>
  rw[List.any_eq_false];intro x hx;obtain⟨c,hc,rfl⟩:=mem_map.1 hx;obtain⟨hc1,hc2⟩:=List.mem_filter.1 hc;have hne:i≠c:=fun e=>by subst e;rw[h] at hc2;cases hc2
  show ¬(bit c).getLsbD i=true;unfold bit;simp[BitVec.getLsbD_shiftLeft];omega
theorem qnn {s:BS} (h:s≠0#256):(zfq s).map (fun c=>((c,none):It))≠[]:=fun e=>by
 have:=zxg s;rw[e] at this;exact h this.symm
theorem qco (s:BS):zkz ((zfq s).map fun c=>((c,none):It))=(zfq s).flatMap hexS:=by
 unfold zkz;rw[List.flatMap_map];rfl
theorem z6z {t:Tr} (h:zcn t=true)(hk:t.k=2):t=brT t.s/\ t.s≠0#256:=by
 obtain⟨k,s,mn,mx,l⟩:=t;simp only[Tr.k,Tr.s] at*;subst hk;rw[zcm,ziy] at h;simp at h;obtain⟨⟨⟨h1,h2⟩,h3⟩,h4⟩:=h;subst h1 h2 h3;exact⟨rfl,h4⟩
theorem zve {t:Tr} (h:zcn t=true)(hk:t.k=5 \/t.k=6): ∃x,t.l=[x]:=by
 obtain⟨k,s,mn,mx,l⟩:=t;simp only[Tr.k,Tr.l] at*;have hl:l.length=1:=by
  rcases hk with rfl|rfl
  ·rw[zcm] at h;simp at h;have:=h.2.1.1;omega
  ·rw[zcm] at h;simp at h;have:=h.2;omega
 match l,hl with
 |[x],_=>exact⟨x,rfl⟩
theorem z1a {t:Tr} (h:t.k=3):zdc t=zlz t.l:=by
 obtain⟨k,s,mn,mx,l⟩:=t;simp only[Tr.k] at h;subst h;simp[zdc,Tr.l]
theorem z2u {t:Tr} (h:t.k=4):zdc t=zjb true t.l:=by
 obtain⟨k,s,mn,mx,l⟩:=t;simp only[Tr.k] at h;subst h;simp[zdc,Tr.l]
theorem qdh {t x:Tr} (h:t.k=5)(hx:t.l=[x]):zdc t=[40,63,58]++zdc x++[41]++qkl t.mn t.mx:=by
 obtain⟨k,s,mn,mx,l⟩:=t;simp only[Tr.k,Tr.l] at h hx;subst h hx;by_cases hm:mx= -1<;>simp[zdc,qap,qkl,Tr.mn,Tr.mx,hm]
theorem say_hd (t:Tr)(y:UInt8)(u:List UInt8)(h:zdc t=y::u):y≠63:=by
 obtain⟨k,s,mn,mx,l⟩:=t;rw[zdc] at h;split at h
 ·cases h;decide
 split at h
 ·cases l with
  |nil=>simp[zlz] at h
  |cons x l=>rw[zlz] at h;cases h;decide
 split at h
 ·cases l with
  |nil=>simp[zjb] at h
  |cons x l=>rw[zjb] at h;cases h;decide
 split at h
 ·cases h;decide
 split at h
 ·cases h;decide
 ·cases h
theorem qcj {t x:Tr} (h:zcn t=true)(hk:t.k=5)(hx:t.l=[x]):t= .mk 5 0#256 t.mn t.mx [x]:=by
 obtain⟨k,s,mn,mx,l⟩:=t;simp only[Tr.k,Tr.l,Tr.mn,Tr.mx] at*;subst hk hx;rw[zcm,ziy] at h;simp at h;rw[h.1]
theorem zwu {t:Tr} (h:zcn t=true)(hk:t.k=5):zen t.mn t.mx=true:=by
 obtain⟨k,s,mn,mx,l⟩:=t;simp only[Tr.k,Tr.mn,Tr.mx] at*;subst hk;rw[zcm] at h;simp at h;exact h.2.1.2
theorem pcTr_nc (l:List Tr):zqm (l.map z7f)=l:=by simp[zqm,z7f,Function.comp_def]
theorem zox: ∀(m:Nat) (t:Tr),(pre t).length<=m->(pre t).length<1000->CT t-> ∃A,zv A=zdc t/\ zem A=zgn t/\ qfh m A
 | 0,t,h,_,_=>by
  have:0<(pre t).length:=by rw[zec];simp
  omega
 | m +1,t,h,hm,hc=>by
  have hr:=hc.right;have hpl:(pre t).length=1+(zbi t.l).length:=by rw[zec];simp;omega
  have hll:=z5h t.l;have sub: ∀x∈t.l,AtP (m+1) (z7f x).1 (z7f x).2/\ (∀c lo hi,qpu c lo hi->AtP (m+1) ([40,63,58]++zdc x++[41]++c) (zgj x lo hi))/\ (∀c lo hi,qpu c lo hi->AtP (m+1) ([40]++zdc x++[41]++c) (zgj (zgz x) lo hi)):=by
   intro x hx;have hcx:=hc.sub hx;have hlx:=zcp hx;obtain⟨A,a1,a2,a3⟩:=zox m x (by omega) (by omega) hcx;have ex:orT (zem A)=x:=by rw[a2];exact zuq hcx
   have h1: ∀c lo hi,qpu c lo hi->AtP (m+1) ([40,63,58]++zdc x++[41]++c) (zgj x lo hi):=fun c lo hi hcn=>by
    have:=at_nc m A c lo hi a3 hcn;rwa[a1,ex] at this
   refine⟨?_,h1,fun c lo hi hcn=> ?_⟩
   ·have:=h1 [] 1 1 zrm;rw[zmn hcx,append_nil] at this;exact this
   ·have:=at_gr m A c lo hi a3 (fun y u hy=> ?_) hcn
    ·rwa[a1,ex] at this
    ·rw[a1] at hy;exact say_hd x y u hy
  have hk:=zvv hr;by_cases h4:t.k=4
  ·obtain⟨q1,q2⟩:=zib hr h4;refine⟨t.l.map fun x=>[z7f x],?_,?_,?_⟩
   ·rw[<-(qhk t.l).1,z2u h4]
   ·rw[zgn,if_pos h4,zem,List.map_map];refine(List.map_congr_left fun x hx=> ?_).trans (List.map_id t.l);show zoj [x]=x;exact z0a (hc.sub hx)
   ·refine⟨by intro e;rw[List.map_eq_nil_iff] at e;rw[e] at q1;simp at q1,?_,by rw[length_map];omega⟩;intro L hL;obtain⟨x,hx,rfl⟩:=mem_map.1 hL;refine⟨by simp,fun p hp=> ?_⟩;rw[mem_singleton] at hp;subst hp;exact(sub x hx).1
  ·have one: ∀L:Pcs,zbn L=zdc t->zqm L=z1k t->L.length<1000->(∀p∈L,AtP (m+1) p.1 p.2)-> ∃A,zv A=zdc t/\ zem A=zgn t/\ qfh (m+1) A:=fun L l1 l2 l3 l4=>by
    refine⟨[L],l1,?_,by simp,?_,by simp⟩
    ·rw[zgn,if_neg h4]
     show[zoj (zqm L)]=[t]
     rw[l2,seq_pcs hc]
    ·intro M hM;rw[mem_singleton] at hM;subst hM;exact⟨l3,l4⟩
   rcases hk with hk|hk|hk|hk|hk|hk
   ·refine one [] ?_ ?_ (by simp) (by simp)
    ·rw[qdo hr hk];simp[emptyT,zdc,zbn]
    ·rw[z1k,if_pos hk];rfl
   ·obtain⟨e1,e2⟩:=z6z hr hk;have hb:=at_br (m+1) ((zfq t.s).map fun c=>((c,none):It)) [] 1 1 (qnn e2) (by
     intro i hi;obtain⟨c,hc,rfl⟩:=mem_map.1 hi;exact List.mem_range.1 (List.mem_filter.1 hc).1) (by
     rw[length_map];exact Nat.lt_of_le_of_lt (List.length_filter_le _ _) (by simp)) zrm
    rw[zxg,qco,append_nil,qix e2, <-e1] at hb;refine one [([91]++(zfq t.s).flatMap hexS++[93],t)] ?_ ?_ (by simp) (fun p hp=>by rw[mem_singleton] at hp;subst hp;exact hb)
    ·rw[show zdc t=[91]++(zfq t.s).flatMap hexS++[93] by rw[e1];simp[brT,zdc,Tr.s]];simp[zbn]
    ·rw[z1k,if_neg (by omega),if_neg (by omega)];rfl
   ·refine one (t.l.map z7f) ?_ ?_ (by rw[length_map];omega) ?_
    ·rw[<-zuy,z1a hk]
    ·rw[pcTr_nc,z1k,if_neg (by omega),if_pos hk]
    ·intro p hp;obtain⟨x,hx,rfl⟩:=mem_map.1 hp;exact(sub x hx).1
   ·exact absurd hk h4
   ·obtain⟨x,hx⟩:=zve hr (.inl hk);have hx':x∈t.l:=by rw[hx];simp
    have et:t= .mk 5 0#256 t.mn t.mx [x]:=qcj hr hk hx;have hb:zen t.mn t.mx=true:=zwu hr hk;have h1:=(sub x hx').2.1 (qkl t.mn t.mx) t.mn t.mx (cnt_rep hb);rw[qmw (by rw[<-et];exact hc), <-et] at h1;refine one [([40,63,58]++zdc x++[41]++qkl t.mn t.mx,t)] ?_ ?_ (by simp) (fun p hp=>by rw[mem_singleton] at hp;subst hp;exact h1)
    ·rw[qdh hk hx];simp[zbn]
    ·rw[z1k,if_neg (by omega),if_neg (by omega)];rfl
   ·obtain⟨x,hx⟩:=zve hr (.inr hk);have hx':x∈t.l:=by rw[hx];simp
    have et:t= .mk 6 0#256 0 0 [x]:=by
     have:=zgs hr (by omega) (by omega);rwa[hk,hx] at this
    have h1:=(sub x hx').2.2 [] 1 1 zrm;rw[z6r (by rw[<-et];exact hc), <-et,zmn hc,append_nil] at h1;refine one [([40]++zdc x++[41],t)] ?_ ?_ (by simp) (fun p hp=>by rw[mem_singleton] at hp;subst hp;exact h1)
    ·rw[et];simp[zbn,zdc,qap]
    ·rw[z1k,if_neg (by omega),if_neg (by omega)];rfl
end Go.Ab
