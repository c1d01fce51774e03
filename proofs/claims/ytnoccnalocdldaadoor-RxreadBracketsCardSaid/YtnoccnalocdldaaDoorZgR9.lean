import Derived.Test.YtnoccnalocdldaaDoorZgR8
import Derived.Test.YtnoccnalocdldaaDoorZgR2
set_option linter.all false
namespace Go.Ab
open Go Go.RowKit Go.Fwd
def sg1 (p:Nat)(σ0 σ1:St):(Nat→Bool)→St:=fun d=>bif d p then σ1 else σ0
def sg2 (p q:Nat)(σ0 σ1 σ2 σ3:St):(Nat→Bool)→St:=fun d=>bif d p then(bif d q then σ3 else σ1) else(bif d q then σ2 else σ0)
def pvO:Option (Nat×AV)→AV
 |some q=>q.2
 |none=> .raw undef
def psO:List (Option (Nat×AV))→List (Nat×AV)
 |some q::l=>q::psO l
 |none::l=>psO l
 |[]=>[]
def gOk (ops:Array Oper)(E:List AV)(o:Oper):Bool:=
 match o.guard with
 |none=>true
 |some (k,b)=>match zdp ops E k with|some (some c)=>c==b|_=>false
section
variable {IT:IterP} {P:Program} {W:Owed} {k0:Nat}
theorem qck {id:Nat} {ops:Array Oper} {Q:AQ} {S E:List AV} {σ:St} (sg:(Nat→Bool)→St)(σ1:St)(ps:List (Option (Nat×AV)))(h:zjq IT P ops E sg 0 ops.toList (ps.map pvO))(hk:Q .normal E σ1)
 (hE:zbg S (psO ps)=E:=by dsimp only[psO,zbg,List.foldl,List.set]) (hp:zgx ops.toList (ps.map pvO) S=E:=by kernel_rfl) (hb:(floB ops S.length&&zvp ops)=true:=by kernel_rfl)
 (h0:sg (fun j=>Nat.ble ops.size j)=σ:=by kernel_rfl) (h1:sg (fun _=>true)=σ1:=by kernel_rfl):awp IT P W k0 (.region id ops true) Q S σ:=
 .inr (.inr (.inr (.inl ⟨sg,_,E,hp,hb,h0,h,by rw[h1];exact hk⟩)))
variable {ops:Array Oper} {E:List AV} {sg:(Nat→Bool)→St} {i p q:Nat} {o:Oper} {l:List Oper} {a:AV} {vs:List AV} {σ0 σ1 σ2 σ3:St}
theorem fl_gOk (h:gOk ops E o=true):(match o.guard with|none=>True|some (k,b)=>zdp ops E k=some (some b)):=by
 unfold gOk at h
 cases hg:o.guard with
 |none=>trivial
 | some p=>
  obtain⟨k,b⟩:=p
  rw[hg] at h
  simp only at h⊢
  split at h
  ·rename_i c hc;simp at h;subst h;exact hc
  ·cases h
theorem f_w (hk:zjq IT P ops E sg (i+1) l vs)(h: ∀d,d i=false→zzk IT P o E (sg d) a (sg (ziz d i)))(hg:gOk ops E o=true:=by exact rfl):zjq IT P ops E sg i (o::l) (a::vs):=
 ⟨.inl ⟨fl_gOk hg,h⟩,hk⟩
theorem f_o (hk:zjq IT P ops E sg (i+1) l vs)(h: ∀σ,qop P (zcc E) σ o=some a:=by exact fun _=>rfl)(hg:gOk ops E o=true:=by exact rfl)(hs: ∀d,sg (ziz d i)=sg d:=by exact fun _=>rfl):zjq IT P ops E sg i (o::l) (a::vs):=
 f_w hk (fun d _=>by rw[hs];exact .inr (.inl (by unfold aop;rw[h]))) hg
theorem f_l (hk:zjq IT P ops E (sg1 p σ0 σ1) (i+1) l vs)(h0:qop P (zcc E) σ0 o=some a:=by exact rfl)(h1:qop P (zcc E) σ1 o=some a:=by exact rfl)(hg:gOk ops E o=true:=by exact rfl)(hs: ∀d,sg1 p σ0 σ1 (ziz d i)=sg1 p σ0 σ1 d:=by exact fun _=>rfl):
 zjq IT P ops E (sg1 p σ0 σ1) i (o::l) (a::vs):=
 f_w hk (fun d _=>by
  rw[hs];unfold sg1
  cases d p
  ·exact .inr (.inl (by unfold aop;rw[show(bif false then σ1 else σ0)=σ0 from rfl,h0]))
  ·exact .inr (.inl (by unfold aop;rw[show(bif true then σ1 else σ0)=σ1 from rfl,h1]))) hg
theorem f_s (hk:zjq IT P ops E (sg1 p σ0 σ1) (i+1) l vs)(h:aop P (zcc E) σ0 o=some (.raw undef,σ1):=by exact rfl)(hi:i=p:=by exact rfl)(hg:gOk ops E o=true:=by exact rfl):zjq IT P ops E (sg1 p σ0 σ1) i (o::l) (.raw undef::vs):=by
 subst hi
 refine f_w hk (fun d hd=> ?_) hg
 unfold sg1
 rw[hd,zdu]
 exact .inr (.inl h)
theorem f_l2 (hk:zjq IT P ops E (sg2 p q σ0 σ1 σ2 σ3) (i+1) l vs)(h0:qop P (zcc E) σ0 o=some a:=by exact rfl)(h1:qop P (zcc E) σ1 o=some a:=by exact rfl)(h2:qop P (zcc E) σ2 o=some a:=by exact rfl)(h3:qop P (zcc E) σ3 o=some a:=by exact rfl)(hg:gOk ops E o=true:=by exact rfl)(hs: ∀d,sg2 p q σ0 σ1 σ2 σ3 (ziz d i)=sg2 p q σ0 σ1 σ2 σ3 d:=by exact fun _=>rfl):
 zjq IT P ops E (sg2 p q σ0 σ1 σ2 σ3) i (o::l) (a::vs):=
 f_w hk (fun d _=>by
  rw[hs];unfold sg2
  cases d p<;>cases d q
  ·exact .inr (.inl (by unfold aop;rw[show(bif false then(bif false then σ3 else σ1) else(bif false then σ2 else σ0))=σ0 from rfl,h0]))
  ·exact .inr (.inl (by unfold aop;rw[show(bif false then(bif true then σ3 else σ1) else(bif true then σ2 else σ0))=σ2 from rfl,h2]))
  ·exact .inr (.inl (by unfold aop;rw[show(bif true then(bif false then σ3 else σ1) else(bif false then σ2 else σ0))=σ1 from rfl,h1]))
  ·exact .inr (.inl (by unfold aop;rw[show(bif true then(bif true then σ3 else σ1) else(bif true then σ2 else σ0))=σ3 from rfl,h3]))) hg
theorem f_sp (hk:zjq IT P ops E (sg2 p q σ0 σ1 σ2 σ3) (i+1) l vs)(h:aop P (zcc E) σ0 o=some (.raw undef,σ1):=by exact rfl)(h':aop P (zcc E) σ2 o=some (.raw undef,σ3):=by exact rfl)(hi:i=p:=by exact rfl)(hne:q≠p:=by decide)(hg:gOk ops E o=true:=by exact rfl):zjq IT P ops E (sg2 p q σ0 σ1 σ2 σ3) i (o::l) (.raw undef::vs):=by
 subst hi
 refine f_w hk (fun d hd=> ?_) hg
 unfold sg2
 rw[hd,zdu,zbm hne]
 cases d q
 ·exact .inr (.inl h)
 ·exact .inr (.inl h')
theorem f_sq (hk:zjq IT P ops E (sg2 p q σ0 σ1 σ2 σ3) (i+1) l vs)(h:aop P (zcc E) σ0 o=some (.raw undef,σ2):=by exact rfl)(h':aop P (zcc E) σ1 o=some (.raw undef,σ3):=by exact rfl)(hi:i=q:=by exact rfl)(hne:p≠q:=by decide)(hg:gOk ops E o=true:=by exact rfl):zjq IT P ops E (sg2 p q σ0 σ1 σ2 σ3) i (o::l) (.raw undef::vs):=by
 subst hi
 refine f_w hk (fun d hd=> ?_) hg
 unfold sg2
 rw[hd,zdu,zbm hne]
 cases d p
 ·exact .inr (.inl h)
 ·exact .inr (.inl h')
theorem f_e:zjq IT P ops E sg i [] []:=trivial
end
end Go.Ab
namespace Go.Ab
open Go Go.RowKit Go.Fwd Go.Proofs
theorem wk_two {n0:Nat} {S S':List AV} {σ σ':St} (s:Nat) {t:TypeId} {cs:List AV} (hb:σ.boxes[s]? =some (t,cs))(k:Wk n0 S {σ with boxes:=σ.boxes++[(t,[])]++[(t,[])]} S' σ'):Wk n0 S σ S' σ':=by
 refine .step (S1:=S) (σ1:={σ with boxes:=σ.boxes++[(t,[])]}) (.inr (.inr (.inl ⟨s,t,cs,hb,Fg.refl _,rfl⟩))) (.step (S1:=S) (.inr (.inr (.inl ⟨s,t,cs,?_,Fg.refl _,rfl⟩))) k)
 show(σ.boxes++[(t,[])])[s]? =_
 rw[List.getElem?_append_left (List.getElem?_eq_some_iff.1 hb).1];exact hb
section
variable {ρ:Operand→AV} {σ:St} {o:Oper}
theorem q_lastQ {x i:Operand} {b:Nat} {q:Stk} {k:Int} (g:0≤k∧k<((zfk q).length:Int))(ho:o.op= .indexAddr 57 x i)(hx:ρ x=zbd b q)(hi:ρ i= .raw (.int .i64 k)):qop Tryd.prog ρ σ o=some (.ptr b (0+k.toNat*1)):=by
 cases q with
 |none=>simp[zfk] at g;omega
 |some q=>exact qgp (j:=q.1) (l:=q.2) g ho hx hi
theorem rd_int {P:Program} {t:TypeId} {k:IntKind} {cs:List AV} {n:Nat} (hu:P.underlying t=some (.int k))(hs:zdk P t=some n):rd P t cs=cs.head? :=by
 unfold zdk at hs
 cases hi:P.info? t with
 |none=>simp[hi] at hs
 |some i=>simp[rd,hu,hi]
theorem zqz {x:Operand} {b:Nat} {q:Stk} {k:Int} (g:0≤k∧k<((zfk q).length:Int))(ho:o.op= .load 3 x)(hx:ρ x= .ptr b (0+k.toNat*1))(hb:σ.boxes[b]? =some (zm q)):qop Tryd.prog ρ σ o=some (.raw (.int .i64 (ix (zfk q) k))):=by
 cases q with
 |none=>simp[zfk] at g;omega
 | some q=>
  obtain⟨j,l⟩:=q
  cases l with
  |nil=>simp[zfk] at g;omega
  | cons c l=>
   have h1:=Enc.at (l:=c::l) g
   have e:(zm (some (j,c::l))).2=Enc.cellsL (c::l):=rfl
   have hs:zdk Tryd.prog 3=some 1:=by kernel_rfl
   have hu:Tryd.prog.underlying 3=some (.int .i64):=by kernel_rfl
   simp only[qop,ho,zlb,hx,hb,e]
   rw[Nat.zero_add,show k.toNat*1=k.toNat*Enc.sz Int from rfl,h1]
   show rd Tryd.prog 3 (.raw (.int .i64 (ix (c::l) k))::_)=_
   exact rd_int hu hs
end
def z3z (p:Rd→Option (Tr×Rd))(s:(List UInt8)):Option (Rg×Int×Int):=
 (bif (decide ((List.length s:Int)>1000)) then(some ((Rg.mk false false zz),0,3)) else(zbi (Lib.trimPrefix s ([94]:List UInt8),Lib.hasPrefix s ([94]:List UInt8)) (fun x1=>(chk (-9223372036854775808≤((List.length s:Int)-(List.length x1.1:Int))∧((List.length s:Int)-(List.length x1.1:Int))<9223372036854775808) (zar (zus x1.1) (fun x2=>(zdr (τ:=(List UInt8)) (bif x2 then(chk (-9223372036854775808≤((List.length x1.1:Int)-1)∧((List.length x1.1:Int)-1)<9223372036854775808) (chk (0≤0∧0≤((List.length x1.1:Int)-1)∧((List.length x1.1:Int)-1)≤(List.length x1.1:Int)) (zbi (sub x1.1 0 ((List.length x1.1:Int)-1)) (fun x3=>(some (Sum.inl (x3))))))) else(some (Sum.inl (x1.1)))) (fun j1=>(zar (p (Rd.mk j1 0 0 none)) (fun x4=>(zdr (τ:=Rd) (bif (x4.2.e !=0) then(some (Sum.inl (x4.2))) else(bif (decide (x4.2.a<(List.length j1:Int))) then(chk (0≤x4.2.a∧x4.2.a<(List.length j1:Int)) (zbi (ix j1 x4.2.a) (fun x5=>(bif ((((x5).toNat:Nat):Int)==41) then(some (Sum.inl ((Rd.mk x4.2.s x4.2.a 91 x4.2.q)))) else(some (Sum.inl ((Rd.mk x4.2.s x4.2.a 90 x4.2.q)))))))) else(bif (decide ((List.length (zfk x4.2.q):Int)>0)) then(chk (-9223372036854775808≤((List.length (zfk x4.2.q):Int)-1)∧((List.length (zfk x4.2.q):Int)-1)<9223372036854775808) (chk (0≤((List.length (zfk x4.2.q):Int)-1)∧((List.length (zfk x4.2.q):Int)-1)<(List.length (zfk x4.2.q):Int)) (some (Sum.inl ((Rd.mk x4.2.s (ix (zfk x4.2.q) ((List.length (zfk x4.2.q):Int)-1)) 91 x4.2.q)))))) else(some (Sum.inl (x4.2)))))) (fun j2=>(bif (j2.e !=0) then(chk (-9223372036854775808≤(((List.length s:Int)-(List.length x1.1:Int))+j2.a)∧(((List.length s:Int)-(List.length x1.1:Int))+j2.a)<9223372036854775808) (some ((Rg.mk false false zz),(((List.length s:Int)-(List.length x1.1:Int))+j2.a),j2.e))) else(zar (zsn (Rg.mk x1.2 x2 x4.1)) (fun x6=>(bif (x6 !=0) then(some ((Rg.mk false false zz),(List.length s:Int),x6)) else(some ((Rg.mk x1.2 x2 x4.1),(List.length s:Int),0))))))))))))))))))
theorem ent8:Ent Tryd.prog 8:=enters_of Tryd.func8 (by kernel_rfl) rfl
set_option maxRecDepth 100000 in
set_option maxHeartbeats 4000000 in
theorem read_sh (p:Rd→Option (Tr×Rd))(s:(List UInt8))(r:(Rg×Int×Int))(hp: ∀(r:Rd)(y:Tr×Rd),p r=some y→RdC Tryd.prog 20 [] r (.agg (Enc.cells y.1)) y.2)(h:z3z p s=some r):Pure (ITP Tryd.prog) Tryd.prog 8 [.raw (.string (bs s))] (.tup [.agg (Enc.cells (r.1:Rg)),.raw (.int .i64 r.2.1),.raw (.int .i64 r.2.2)]):=by
 obtain⟨d,hd⟩: ∃d,Tryd.f8.body=some d:=⟨_,rfl⟩
 refine zik mix Tryd.func8 hd ent8 ?_
 cases hd
 unfold z3z at h
 refine zbj (by dsimp only[zat,Tryd.f8,List.length_cons,List.length_nil,Nat.zero_add,Nat.reduceAdd,Nat.reduceSub,List.replicate,List.cons_append,List.nil_append]) (by dsimp only[St.empty]) ?_
 refine zi (zc ?_)
 refine zcb (a:= .ptr 0 0) (σ'':=(.B [(35,[.b false,.b false,.u 0,.raw (.int .u64 0),.raw (.int .u64 0),.raw (.int .u64 0),.raw (.int .u64 0),.i 0,.i 0,.list 0 [] .full])])) ?_
 refine w_o (a:= .i 0) ?_
 refine w_o (a:= .i 0) ?_
 refine zi ?_
 refine zi (zc ?_)
 refine zac ?_
 refine w_o (a:= .i (List.length s:Int)) (h:=zbb (zdv rfl rfl rfl)) ?_
 refine w_o (a:= .b (decide ((List.length s:Int)>1000))) ?_
 refine zaa h (fun hc1 h=> ?_) (fun hc1 h=> ?_)
 refine zbw hc1 rfl ?_
 refine zi (zc ?_)
 refine zey (.A ((Rg.mk false false zz):Rg)) rfl rfl rfl rfl (by simp only[zcv,stripL,Enc.stripL]<;>rfl) (by dsimp only[zy,List.set]) ?_
 refine zcb (σ'':=(.B [(35,(Enc.cells ((Rg.mk false false zz):Rg)))])) (h:=zaz (n:=10) rfl rfl rfl rfl rfl rfl rfl rfl (by decide)) ?_
 refine w_o (a:= .i 0) ?_
 refine w_o (a:= .i 3) ?_
 exact zdy (fun(r:(Rg×Int×Int))=>(.tup [.agg (Enc.cells (r.1:Rg)),.i r.2.1,.i r.2.2]:AV)) h (a:= .tup [.agg (Enc.cells ((Rg.mk false false zz):Rg)),.i 0,.i 3]) rfl (show zad _ _=true from(za (zam _ _ (zab (Enc.clo _))) (by kernel_rfl))) (show AV.tup (stripL _)=_ from congrArg AV.tup (zh (zbu (zab (Enc.clo _))) (zh rfl (zh rfl rfl))))
 refine zbv hc1 rfl ?_
 refine zi (zc ?_)
 refine zac ?_
 obtain⟨x1,hx1,h⟩:=zt h
 refine zct (args':=[.s s,.s ([94]:List UInt8)]) (r:= .tup [.s x1.1,.b x1.2]) (by rw[←hx1];exact(qap s ([94]:List UInt8))) rfl rfl (zh rfl (zh rfl rfl)) (by kernel_rfl) (by dsimp only[zy,List.set]) ?_
 refine zac ?_
 refine qej ?_
 refine qej ?_
 refine zac ?_
 refine zac ?_
 refine zi (zc ?_)
 refine zac ?_
 refine w_o (a:= .i (List.length s:Int)) (h:=zbb (zdv rfl rfl rfl)) ?_
 refine zac ?_
 refine w_o (a:= .i (List.length x1.1:Int)) (h:=zbb (zdv rfl rfl rfl)) ?_
 obtain⟨g1,h⟩:=zp h
 refine w_o (a:= .i ((List.length s:Int)-(List.length x1.1:Int))) (h:=zbb (znp rfl rfl rfl rfl g1.1 g1.2)) ?_
 refine zac ?_
 refine zi (zc ?_)
 refine zac ?_
 obtain⟨x2,hx2,h⟩:=zv h
 refine zct (args':=[.s x1.1]) (r:= .b x2) (ends_sh x1.1 x2 hx2) rfl rfl (zh rfl rfl) (by kernel_rfl) (by dsimp only[zy,List.set]) ?_
 refine zac ?_
 refine zbh h [1,3,4,5,9,10,11,12,13,14,15,16,17,18,19,20,21,22,23,24,25,26,27,28,29,30,31,32,33,34,35,36,37,38,39,40,41,42,43,44,45,46,47,48,49,50,51,52,53,54,55,56,57,58,59,60,61,62,63,64,65,66,67,68,69,70,71,72,73,74,75,76,77,78,79,80,81,82,83,84,85,86,87,88,89,90,91,92,93,94,95,96,97,98,99,100,101,102,103,104,105,106,107,108,109,110,111,112,113,114,115,116,117,118,119,120,121,122,123,124,125,126,127,128,129,130] (fun j1=>[(5,.s j1)]) (fun j1=>(.B [(35,[.b false,.b false,.u 0,.raw (.int .u64 0),.raw (.int .u64 0),.raw (.int .u64 0),.raw (.int .u64 0),.i 0,.i 0,.list 0 [] .full])])) ?_ ?_
 intro or1 h hr1
 refine zi (zc ?_)
 refine zac ?_
 refine zaa h (fun hc2 h=> ?_) (fun hc2 h=> ?_)
 refine zbw hc2 rfl ?_
 refine zc (k0:=0) (id:=7) ?_
 refine zac ?_
 refine zac ?_
 refine w_o (a:= .i (List.length x1.1:Int)) (h:=zbb (zdv rfl rfl rfl)) ?_
 obtain⟨g2,h⟩:=zp h
 refine w_o (a:= .i ((List.length x1.1:Int)-1)) (h:=zbb (znp rfl rfl rfl rfl g2.1 g2.2)) ?_
 obtain⟨g3,h⟩:=zp h
 obtain⟨x3,hx3,h⟩:=zt h
 refine w_o (a:= .s x3) (h:=zbb (by rw[←hx3];exact(qco (l:=x1.1) g3 rfl rfl rfl rfl))) ?_
 refine zac ?_
 refine zg (o:=or1) (x3) h ?_
 exact zdq (bl 131 485) (by kernel_rfl) (by kernel_rfl)
 refine zbv hc2 rfl ?_
 refine zg (o:=or1) (x1.1) h ?_
 exact zdq (bl 131 485) (by kernel_rfl) (by kernel_rfl)
 intro j1 h
 refine zbj (by dsimp only[zbg,zbz,List.foldl,List.set]) rfl ?_
 refine zgn (zc ?_)
 refine zac ?_
 refine w_o (a:= .agg [.s j1,.i 0,.i 0,(zbd 0 none)]) ?_
 refine zcb (a:= .ptr 1 0) (σ'':=(.B [(35,[.b false,.b false,.u 0,.raw (.int .u64 0),.raw (.int .u64 0),.raw (.int .u64 0),.raw (.int .u64 0),.i 0,.i 0,.list 0 [] .full]),(59,[.s j1,.i 0,.i 0,(zbd 0 none)])])) ?_
 refine zac ?_
 refine zki (S':=[.s s,.top,.ptr 3 0,.top,.top,.s j1,.b x1.2,.i ((List.length s:Int)-(List.length x1.1:Int)),.b x2,.ptr 0 0,.top,.top,.top,.top,.top,.top,.top,.top,.top,.top,.top,.top,.top,.top,.top,.top,.top,.top,.top,.top,.top,.top,.top,.top,.top,.top,.top,.top,.top,.top,.top,.top,.top,.top,.top,.top,.top,.top,.top,.top,.top,.top,.top,.top,.top,.top,.top,.top,.top,.top,.top,.top,.top,.top,.top,.top,.top,.top,.top,.top,.top,.top,.top,.top,.top,.top,.top,.top,.top,.top,.top,.top,.top,.top,.top,.top,.top,.top,.top,.top,.top,.top,.top,.top,.top,.top,.top,.top,.top,.top,.top,.top,.top,.top,.top,.top,.top,.top,.top,.top,.top,.top,.top,.top,.top,.top,.top,.top,.top,.top,.top,.top,.top,.top,.top,.top,.top,.top,.top,.top,.top]) (σ':=(.B [(59,[.s j1,.i 0,.i 0,(zbd 2 none)]),(59,[]),((zm none).1,(zm none).2),(35,[.b false,.b false,.u 0,.raw (.int .u64 0),.raw (.int .u64 0),.raw (.int .u64 0),.raw (.int .u64 0),.i 0,.i 0,.list 0 [] .full])])) (wk_two 1 rfl (zdo [zzT,zzF,zzT,zzF,zzF,zzT,zzT,zzT,zzT,zzT,zzF,zzF,zzF,zzF,zzF,zzF,zzF,zzF,zzF,zzF,zzF,zzF,zzF,zzF,zzF,zzF,zzF,zzF,zzF,zzF,zzF,zzF,zzF,zzF,zzF,zzF,zzF,zzF,zzF,zzF,zzF,zzF,zzF,zzF,zzF,zzF,zzF,zzF,zzF,zzF,zzF,zzF,zzF,zzF,zzF,zzF,zzF,zzF,zzF,zzF,zzF,zzF,zzF,zzF,zzF,zzF,zzF,zzF,zzF,zzF,zzF,zzF,zzF,zzF,zzF,zzF,zzF,zzF,zzF,zzF,zzF,zzF,zzF,zzF,zzF,zzF,zzF,zzF,zzF,zzF,zzF,zzF,zzF,zzF,zzF,zzF,zzF,zzF,zzF,zzF,zzF,zzF,zzF,zzF,zzF,zzF,zzF,zzF,zzF,zzF,zzF,zzF,zzF,zzF,zzF,zzF,zzF,zzF,zzF,zzF,zzF,zzF,zzF,zzF,zzF,zzF,zzF,zzF,zzF,zzF,zzF] 0 [] [1,2,3,0] 1 (Nat.le_refl _) rfl (zai (zd _ _ _ rfl) (zah (zai rfl (zah (zah (zai (zd _ _ _ rfl) (zai (zd _ _ _ rfl) (zai (zd _ _ _ rfl) (zai (zd _ _ _ rfl) (zai rfl (zk (zk (zk (zk (zk (zk (zk (zk (zk (zk (zk (zk (zk (zk (zk (zah zcu)))))))))))))))))))))))))) (zwt (zj rfl (zb (zd _ _ _ rfl) (zb (zd _ _ _ rfl) (zb (zd _ _ _ rfl) (zb rfl ze)))) (zj rfl ze (zj rfl ze (zj rfl rfl zao)))) rfl))) ?_
 have hk0:0≤2:=by decide
 refine zgn (zc ?_)
 refine zac ?_
 refine zac ?_
 refine zac ?_
 obtain⟨x4,hx4,h⟩:=zv h
 refine zgm (r:= .A (x4.1:Tr)) (σ':=(.B [(59,[.s x4.2.s,.i x4.2.a,.i x4.2.e,(zbd 4 x4.2.q)]),(59,[]),((zm none).1,[]),(35,[.b false,.b false,.u 0,.raw (.int .u64 0),.raw (.int .u64 0),.raw (.int .u64 0),.raw (.int .u64 0),.i 0,.i 0,.list 0 [] .full]),((zm x4.2.q).1,(zm x4.2.q).2)])) ((hp (Rd.mk j1 0 0 none) x4 hx4) _ 2 (by decide) rfl rfl) rfl rfl ⟨rfl,rfl⟩ (by dsimp only[zy,List.set]) ?_
 refine zey (.agg (Enc.cells ((Rg.mk x1.2 x2 x4.1):Rg))) rfl rfl rfl rfl (show zcv (.agg (Enc.cells ((Rg.mk x1.2 x2 x4.1):Rg)))=_ from congrArg AV.agg (zdl _ (Enc.clo ((Rg.mk x1.2 x2 x4.1):Rg)))) (by dsimp only[zy,List.set]) ?_
 refine zcb (a:= .ptr 5 0) (σ'':=(.B [(59,[.s x4.2.s,.i x4.2.a,.i x4.2.e,(zbd 4 x4.2.q)]),(59,[]),((zm none).1,[]),(35,[.b false,.b false,.u 0,.raw (.int .u64 0),.raw (.int .u64 0),.raw (.int .u64 0),.raw (.int .u64 0),.i 0,.i 0,.list 0 [] .full]),((zm x4.2.q).1,(zm x4.2.q).2),(35,[.b false,.b false,.u 0,.raw (.int .u64 0),.raw (.int .u64 0),.raw (.int .u64 0),.raw (.int .u64 0),.i 0,.i 0,.list 0 [] .full])])) ?_
 refine zcb (σ'':=(.B [(59,[.s x4.2.s,.i x4.2.a,.i x4.2.e,(zbd 4 x4.2.q)]),(59,[]),((zm none).1,[]),(35,[.b false,.b false,.u 0,.raw (.int .u64 0),.raw (.int .u64 0),.raw (.int .u64 0),.raw (.int .u64 0),.i 0,.i 0,.list 0 [] .full]),((zm x4.2.q).1,(zm x4.2.q).2),(35,(Enc.cells ((Rg.mk x1.2 x2 x4.1):Rg)))])) (h:=zaz (n:=10) rfl rfl rfl rfl rfl rfl rfl rfl (by decide)) ?_
 refine zki (S':=[.s s,.top,.ptr 3 0,.top,.top,.s j1,.top,.i ((List.length s:Int)-(List.length x1.1:Int)),.top,.ptr 0 0,.ptr 4 0,.top,.top,.top,.top,.top,.top,.top,.top,.top,.top,.top,.top,.top,.top,.top,.top,.top,.top,.top,.top,.top,.top,.top,.top,.top,.top,.top,.top,.top,.top,.top,.top,.top,.top,.top,.top,.top,.top,.top,.top,.top,.top,.top,.top,.top,.top,.top,.top,.top,.top,.top,.top,.top,.top,.top,.top,.top,.top,.top,.top,.top,.top,.top,.top,.top,.top,.top,.top,.top,.top,.top,.top,.top,.top,.top,.top,.top,.top,.top,.top,.top,.top,.top,.top,.top,.top,.top,.top,.top,.top,.top,.top,.top,.top,.top,.top,.top,.top,.top,.top,.top,.top,.top,.top,.top,.top,.top,.top,.top,.top,.top,.top,.top,.top,.top,.top,.top,.top,.top,.top]) (σ':=(.B [(59,[.s x4.2.s,.i x4.2.a,.i x4.2.e,(zbd 2 x4.2.q)]),(59,[]),((zm x4.2.q).1,(zm x4.2.q).2),(35,[.b false,.b false,.u 0,.raw (.int .u64 0),.raw (.int .u64 0),.raw (.int .u64 0),.raw (.int .u64 0),.i 0,.i 0,.list 0 [] .full]),(35,(Enc.cells ((Rg.mk x1.2 x2 x4.1):Rg)))])) (zdo [zzT,zzF,zzT,zzF,zzF,zzT,zzF,zzT,zzF,zzT,zzT,zzF,zzF,zzF,zzF,zzF,zzF,zzF,zzF,zzF,zzF,zzF,zzF,zzF,zzF,zzF,zzF,zzF,zzF,zzF,zzF,zzF,zzF,zzF,zzF,zzF,zzF,zzF,zzF,zzF,zzF,zzF,zzF,zzF,zzF,zzF,zzF,zzF,zzF,zzF,zzF,zzF,zzF,zzF,zzF,zzF,zzF,zzF,zzF,zzF,zzF,zzF,zzF,zzF,zzF,zzF,zzF,zzF,zzF,zzF,zzF,zzF,zzF,zzF,zzF,zzF,zzF,zzF,zzF,zzF,zzF,zzF,zzF,zzF,zzF,zzF,zzF,zzF,zzF,zzF,zzF,zzF,zzF,zzF,zzF,zzF,zzF,zzF,zzF,zzF,zzF,zzF,zzF,zzF,zzF,zzF,zzF,zzF,zzF,zzF,zzF,zzF,zzF,zzF,zzF,zzF,zzF,zzF,zzF,zzF,zzF,zzF,zzF,zzF,zzF,zzF,zzF,zzF,zzF,zzF,zzF] 2 [] [4,3,5] 1 hk0 rfl (zai (zd _ _ _ rfl) (zah (zai rfl (zah (zah (zai (zd _ _ _ rfl) (zah (zai (zd _ _ _ rfl) (zah (zai rfl (zai rfl (zk (zk (zk (zk (zk (zk (zk (zk (zk (zk (zk (zk (zk (zk (zk zcu)))))))))))))))))))))))))) (zay rfl (zb (zd _ _ _ rfl) (zb (zd _ _ _ rfl) (zb (zd _ _ _ rfl) (zb (zas (fun _=>rfl)) ze)))) ze (zj rfl (zu _ _ _) (zj rfl rfl (zj rfl (zau _ _ _ (Enc.clo _)) zao))) rfl)) ?_
 refine zbh h [5,42,43,44,45,46,47,48,49,50,51,52,53,54,55,56,57,58,59,60,61,62,63,64,65,66,67,68,69,70,71,72,73,74,75,76,77,78,79,80,81,82,83,84,85,86,87,88,89,90,91,92,93,94,95,96,97,98,99,100,101,102,103] (fun j2=>[]) (fun j2=>(.B [(59,[.s j2.s,.i j2.a,.i j2.e,(zbd 2 j2.q)]),(59,[]),((zm j2.q).1,(zm j2.q).2),(35,[.b false,.b false,.u 0,.raw (.int .u64 0),.raw (.int .u64 0),.raw (.int .u64 0),.raw (.int .u64 0),.i 0,.i 0,.list 0 [] .full]),(35,(Enc.cells ((Rg.mk x1.2 x2 x4.1):Rg)))])) ?_ ?_
 intro or2 h hr2
 refine zag ?_
 refine zi (zc ?_)
 refine zac ?_
 refine w_o (a:= .ptr 0 0) ?_
 refine w_o (a:= .ptr 0 2) ?_
 refine w_o (a:= .i x4.2.e) ?_
 refine w_o (a:= .b (x4.2.e !=0)) ?_
 refine zac ?_
 refine zaa h (fun hc3 h=> ?_) (fun hc3 h=> ?_)
 refine zbw hc3 rfl ?_
 refine zg (o:=or2) (x4.2) h ?_
 exact zdq (bl 131 2722258915085098104055326439904940916703) (by kernel_rfl) (by kernel_rfl)
 refine zbv hc3 rfl ?_
 refine zi (zc ?_)
 refine zac ?_
 refine w_o (a:= .ptr 0 0) ?_
 refine w_o (a:= .ptr 0 1) ?_
 refine w_o (a:= .i x4.2.a) ?_
 refine zac ?_
 refine w_o (a:= .i (List.length j1:Int)) (h:=zbb (zdv rfl rfl rfl)) ?_
 refine w_o (a:= .b (decide (x4.2.a<(List.length j1:Int)))) ?_
 refine zaa h (fun hc4 h=> ?_) (fun hc4 h=> ?_)
 refine w_o (a:= .b true) (h:=zbb (zeh rfl hc4)) ?_
 refine zan rfl rfl ?_
 refine zac ?_
 refine zan rfl rfl ?_
 refine zac ?_
 refine zan rfl rfl ?_
 refine w_o (a:= .ptr 0 0) ?_
 refine zan rfl rfl ?_
 refine w_o (a:= .ptr 0 1) ?_
 refine zan rfl rfl ?_
 refine w_o (a:= .i x4.2.a) ?_
 refine zan rfl rfl ?_
 obtain⟨g4,h⟩:=zp h
 obtain⟨x5,hx5,h⟩:=zt h
 refine w_o (a:= .u (((x5).toNat:Nat):Int)) (h:=zbb (by rw[←hx5];exact(zdd (l:=j1) (n:=x4.2.a) g4 rfl rfl rfl rfl))) ?_
 refine zan rfl rfl ?_
 refine w_o (a:= .b ((((x5).toNat:Nat):Int)==41)) ?_
 refine w_o (a:= .b ((((x5).toNat:Nat):Int)==41)) ?_
 refine zac ?_
 refine zaa h (fun hc5 h=> ?_) (fun hc5 h=> ?_)
 refine zbw hc5 rfl ?_
 refine zc (k0:=0) (id:=12) ?_
 refine zac ?_
 refine w_o (a:= .ptr 0 0) ?_
 refine w_o (a:= .ptr 0 2) ?_
 refine zcb (σ'':=(.B [(59,[.s x4.2.s,.i x4.2.a,.i 91,(zbd 2 x4.2.q)]),(59,[]),((zm x4.2.q).1,(zm x4.2.q).2),(35,[.b false,.b false,.u 0,.raw (.int .u64 0),.raw (.int .u64 0),.raw (.int .u64 0),.raw (.int .u64 0),.i 0,.i 0,.list 0 [] .full]),(35,(Enc.cells ((Rg.mk x1.2 x2 x4.1):Rg)))])) (h:=zcr (n:=1) rfl rfl rfl rfl rfl ⟨rfl,rfl,Nat.le_of_ble_eq_true rfl,by decide⟩) ?_
 refine zg (o:=or2) ((Rd.mk x4.2.s x4.2.a 91 x4.2.q)) h ?_
 exact zdq (bl 131 2722258915085098104055326439904940916703) (by kernel_rfl) (by kernel_rfl)
 refine zbv hc5 rfl ?_
 refine zi (zc ?_)
 refine zac ?_
 refine w_o (a:= .ptr 0 0) ?_
 refine w_o (a:= .ptr 0 1) ?_
 refine w_o (a:= .i x4.2.a) ?_
 refine zac ?_
 refine w_o (a:= .i (List.length j1:Int)) (h:=zbb (zdv rfl rfl rfl)) ?_
 refine w_o (a:= .b (decide (x4.2.a<(List.length j1:Int)))) ?_
 refine zac ?_
 refine zbw hc4 rfl ?_
 refine zc (k0:=0) (id:=14) ?_
 refine zac ?_
 refine w_o (a:= .ptr 0 0) ?_
 refine w_o (a:= .ptr 0 2) ?_
 refine zcb (σ'':=(.B [(59,[.s x4.2.s,.i x4.2.a,.i 90,(zbd 2 x4.2.q)]),(59,[]),((zm x4.2.q).1,(zm x4.2.q).2),(35,[.b false,.b false,.u 0,.raw (.int .u64 0),.raw (.int .u64 0),.raw (.int .u64 0),.raw (.int .u64 0),.i 0,.i 0,.list 0 [] .full]),(35,(Enc.cells ((Rg.mk x1.2 x2 x4.1):Rg)))])) (h:=zcr (n:=1) rfl rfl rfl rfl rfl ⟨rfl,rfl,Nat.le_of_ble_eq_true rfl,by decide⟩) ?_
 refine zg (o:=or2) ((Rd.mk x4.2.s x4.2.a 90 x4.2.q)) h ?_
 exact zdq (bl 131 2722258915085098104055326439904940916703) (by kernel_rfl) (by kernel_rfl)
 refine w_o (a:= .b false) (h:=zbb (zeh rfl hc4)) ?_
 refine zyc ?_
 refine zyc ?_
 refine zyc ?_
 refine zyc ?_
 refine zyc ?_
 refine zyc ?_
 refine zyc ?_
 refine w_o (a:= .b false) ?_
 refine zac ?_
 refine zax rfl ?_
 refine zi (zc ?_)
 refine zac ?_
 refine w_o (a:= .ptr 0 0) ?_
 refine w_o (a:= .ptr 0 1) ?_
 refine w_o (a:= .i x4.2.a) ?_
 refine zac ?_
 refine w_o (a:= .i (List.length j1:Int)) (h:=zbb (zdv rfl rfl rfl)) ?_
 refine w_o (a:= .b (decide (x4.2.a<(List.length j1:Int)))) ?_
 refine zac ?_
 refine zbv hc4 rfl ?_
 refine zi (zc ?_)
 refine zac ?_
 refine w_o (a:= .ptr 0 0) ?_
 refine w_o (a:= .ptr 0 3) ?_
 refine w_o (a:=(zbd 2 x4.2.q)) ?_
 refine w_o (a:= .i (List.length (zfk x4.2.q):Int)) (h:=zbb (zgr (b:=2) (q:=x4.2.q) rfl rfl)) ?_
 refine w_o (a:= .b (decide ((List.length (zfk x4.2.q):Int)>0))) ?_
 refine zac ?_
 refine zaa h (fun hc6 h=> ?_) (fun hc6 h=> ?_)
 refine zbw hc6 rfl ?_
 obtain⟨g5,h⟩:=zp h
 obtain⟨g6,h⟩:=zp h
 refine qck (id:=16) (sg2 16 19 (.B [(59,[.s x4.2.s,.i x4.2.a,.i x4.2.e,(zbd 2 x4.2.q)]),(59,[]),((zm x4.2.q).1,(zm x4.2.q).2),(35,[.b false,.b false,.u 0,.raw (.int .u64 0),.raw (.int .u64 0),.raw (.int .u64 0),.raw (.int .u64 0),.i 0,.i 0,.list 0 [] .full]),(35,(Enc.cells ((Rg.mk x1.2 x2 x4.1):Rg)))]) (.B [(59,[.s x4.2.s,.i (ix (zfk x4.2.q) ((List.length (zfk x4.2.q):Int)-1)),.i x4.2.e,(zbd 2 x4.2.q)]),(59,[]),((zm x4.2.q).1,(zm x4.2.q).2),(35,[.b false,.b false,.u 0,.raw (.int .u64 0),.raw (.int .u64 0),.raw (.int .u64 0),.raw (.int .u64 0),.i 0,.i 0,.list 0 [] .full]),(35,(Enc.cells ((Rg.mk x1.2 x2 x4.1):Rg)))]) (.B [(59,[.s x4.2.s,.i x4.2.a,.i 91,(zbd 2 x4.2.q)]),(59,[]),((zm x4.2.q).1,(zm x4.2.q).2),(35,[.b false,.b false,.u 0,.raw (.int .u64 0),.raw (.int .u64 0),.raw (.int .u64 0),.raw (.int .u64 0),.i 0,.i 0,.list 0 [] .full]),(35,(Enc.cells ((Rg.mk x1.2 x2 x4.1):Rg)))]) (.B [(59,[.s x4.2.s,.i (ix (zfk x4.2.q) ((List.length (zfk x4.2.q):Int)-1)),.i 91,(zbd 2 x4.2.q)]),(59,[]),((zm x4.2.q).1,(zm x4.2.q).2),(35,[.b false,.b false,.u 0,.raw (.int .u64 0),.raw (.int .u64 0),.raw (.int .u64 0),.raw (.int .u64 0),.i 0,.i 0,.list 0 [] .full]),(35,(Enc.cells ((Rg.mk x1.2 x2 x4.1):Rg)))])) (.B [(59,[.s x4.2.s,.i (ix (zfk x4.2.q) ((List.length (zfk x4.2.q):Int)-1)),.i 91,(zbd 2 x4.2.q)]),(59,[]),((zm x4.2.q).1,(zm x4.2.q).2),(35,[.b false,.b false,.u 0,.raw (.int .u64 0),.raw (.int .u64 0),.raw (.int .u64 0),.raw (.int .u64 0),.i 0,.i 0,.list 0 [] .full]),(35,(Enc.cells ((Rg.mk x1.2 x2 x4.1):Rg)))]) [some (86,.ptr 0 0),some (87,.ptr 0 0),some (88,.ptr 0 0),some (89,.ptr 0 0),some (90,.ptr 0 3),some (91,(zbd 2 x4.2.q)),some (92,.ptr 0 0),some (93,.ptr 0 0),some (94,.ptr 0 3),some (95,(zbd 2 x4.2.q)),some (96,.i (List.length (zfk x4.2.q):Int)),some (97,.i ((List.length (zfk x4.2.q):Int)-1)),some (98,.ptr 2 (0+Int.toNat ((List.length (zfk x4.2.q):Int)-1)*1)),some (99,.i (ix (zfk x4.2.q) ((List.length (zfk x4.2.q):Int)-1))),some (100,.ptr 0 0),some (101,.ptr 0 1),none,some (102,.ptr 0 0),some (103,.ptr 0 2),none] ?_ ?_
 refine f_o ?_
 refine f_o ?_
 refine f_o ?_
 refine f_o ?_
 refine f_o ?_
 refine f_l2 ?_
 refine f_o ?_
 refine f_o ?_
 refine f_o ?_
 refine f_l2 ?_
 refine f_o ?_ (h:=fun _=>(zgr (b:=2) (q:=x4.2.q) rfl rfl))
 refine f_o ?_ (h:=fun _=>(znp rfl rfl rfl rfl g5.1 g5.2))
 refine f_o ?_ (h:=fun _=>(q_lastQ (b:=2) (q:=x4.2.q) g6 rfl rfl rfl))
 refine f_l2 ?_ (h0:=(zqz (b:=2) (q:=x4.2.q) g6 rfl rfl rfl)) (h1:=(zqz (b:=2) (q:=x4.2.q) g6 rfl rfl rfl)) (h2:=(zqz (b:=2) (q:=x4.2.q) g6 rfl rfl rfl)) (h3:=(zqz (b:=2) (q:=x4.2.q) g6 rfl rfl rfl))
 refine f_o ?_
 refine f_o ?_
 refine f_sp ?_ (h:=by kernel_rfl) (h':=by kernel_rfl)
 refine f_o ?_
 refine f_o ?_
 refine f_sq ?_ (h:=by kernel_rfl) (h':=by kernel_rfl)
 exact f_e
 refine zg (o:=or2) ((Rd.mk x4.2.s (ix (zfk x4.2.q) ((List.length (zfk x4.2.q):Int)-1)) 91 x4.2.q)) h ?_
 exact zdq (bl 131 2722258915085098104055326439904940916703) (by kernel_rfl) (by kernel_rfl)
 refine zbv hc6 rfl ?_
 refine zg (o:=or2) (x4.2) h ?_
 exact zdq (bl 131 2722258915085098104055326439904940916703) (by kernel_rfl) (by kernel_rfl)
 intro j2 h
 refine zbj (by dsimp only[zbg,zbz,List.foldl,List.set]) rfl ?_
 refine zi ?_
 refine zi (zc ?_)
 refine zac ?_
 refine w_o (a:= .ptr 0 0) ?_
 refine w_o (a:= .ptr 0 2) ?_
 refine w_o (a:= .i j2.e) ?_
 refine w_o (a:= .b (j2.e !=0)) ?_
 refine zaa h (fun hc7 h=> ?_) (fun hc7 h=> ?_)
 refine zbw hc7 rfl ?_
 obtain⟨g7,h⟩:=zp h
 refine zi ?_
 refine qck (id:=18) (sg1 11 (.B [(59,[.s j2.s,.i j2.a,.i j2.e,(zbd 2 j2.q)]),(59,[]),((zm j2.q).1,(zm j2.q).2),(35,[.b false,.b false,.u 0,.raw (.int .u64 0),.raw (.int .u64 0),.raw (.int .u64 0),.raw (.int .u64 0),.i 0,.i 0,.list 0 [] .full]),(35,(Enc.cells ((Rg.mk x1.2 x2 x4.1):Rg)))]) (.B [(59,[.s j2.s,.i j2.a,.i j2.e,(zbd 2 j2.q)]),(59,[]),((zm j2.q).1,(zm j2.q).2),(35,[.b false,.b false,.u 0,.raw (.int .u64 0),.raw (.int .u64 0),.raw (.int .u64 0),.raw (.int .u64 0),.i 0,.i 0,.list 0 [] .full]),(35,(Enc.cells ((Rg.mk x1.2 x2 x4.1):Rg)))])) (.B [(59,[.s j2.s,.i j2.a,.i j2.e,(zbd 2 j2.q)]),(59,[]),((zm j2.q).1,(zm j2.q).2),(35,[.b false,.b false,.u 0,.raw (.int .u64 0),.raw (.int .u64 0),.raw (.int .u64 0),.raw (.int .u64 0),.i 0,.i 0,.list 0 [] .full]),(35,(Enc.cells ((Rg.mk x1.2 x2 x4.1):Rg)))]) [some (109,.agg [.b false,.b false,.u 0,.raw (.int .u64 0),.raw (.int .u64 0),.raw (.int .u64 0),.raw (.int .u64 0),.i 0,.i 0,.list 0 [] .full]),some (110,.i ((List.length s:Int)-(List.length x1.1:Int))),some (111,.ptr 0 0),some (112,.ptr 0 0),some (113,.ptr 0 1),some (114,.i j2.a),some (115,.i (((List.length s:Int)-(List.length x1.1:Int))+j2.a)),some (116,.ptr 0 0),some (117,.ptr 0 0),some (118,.ptr 0 2),some (119,.i j2.e),none,some (3,.i (((List.length s:Int)-(List.length x1.1:Int))+j2.a)),some (4,.i j2.e)] ?_ ?_
 refine f_o ?_
 refine f_o ?_
 refine f_o ?_
 refine f_o ?_
 refine f_o ?_
 refine f_l ?_
 refine f_o ?_ (h:=fun _=>(znj rfl rfl rfl rfl g7.1 g7.2))
 refine f_o ?_
 refine f_o ?_
 refine f_o ?_
 refine f_l ?_
 refine f_s ?_ (h:=by kernel_rfl)
 refine f_o ?_
 refine f_o ?_
 exact f_e
 exact zdy (fun(r:(Rg×Int×Int))=>(.tup [.agg (Enc.cells (r.1:Rg)),.i r.2.1,.i r.2.2]:AV)) h (a:= .tup [.agg [.b false,.b false,.u 0,.raw (.int .u64 0),.raw (.int .u64 0),.raw (.int .u64 0),.raw (.int .u64 0),.i 0,.i 0,.list 0 [] .full],.i (((List.length s:Int)-(List.length x1.1:Int))+j2.a),.i j2.e]) rfl (show zad _ _=true from(za (by kernel_rfl) (by kernel_rfl))) (show AV.tup (stripL _)=_ from congrArg AV.tup (zh (by kernel_rfl) (zh rfl (zh rfl rfl))))
 refine zbv hc7 rfl ?_
 refine zi ?_
 refine zi (zc ?_)
 refine w_o (a:= .A ((Rg.mk x1.2 x2 x4.1):Rg)) ?_
 obtain⟨x6,hx6,h⟩:=zv h
 refine zct (args':=[.A ((Rg.mk x1.2 x2 x4.1):Rg)]) (r:= .i x6) (qgt (Rg.mk x1.2 x2 x4.1) x6 hx6) rfl rfl (zh (zbu (zab (Enc.clo _))) rfl) (za (zam _ _ (zab (Enc.clo _))) rfl) (by dsimp only[zy,List.set]) ?_
 refine zac ?_
 refine zi (zc ?_)
 refine zac ?_
 refine w_o (a:= .b (x6 !=0)) ?_
 refine zaa h (fun hc8 h=> ?_) (fun hc8 h=> ?_)
 refine zbw hc8 rfl ?_
 refine zi (zc ?_)
 refine zey (.A ((Rg.mk false false zz):Rg)) rfl rfl rfl rfl (by simp only[zcv,stripL,Enc.stripL]<;>rfl) (by dsimp only[zy,List.set]) ?_
 refine zac ?_
 refine w_o (a:= .i (List.length s:Int)) (h:=zbb (zdv rfl rfl rfl)) ?_
 refine zac ?_
 refine zcb (σ'':=(.B [(59,[.s j2.s,.i j2.a,.i j2.e,(zbd 2 j2.q)]),(59,[]),((zm j2.q).1,(zm j2.q).2),(35,(Enc.cells ((Rg.mk false false zz):Rg))),(35,(Enc.cells ((Rg.mk x1.2 x2 x4.1):Rg)))])) (h:=zaz (n:=10) rfl rfl rfl rfl rfl rfl rfl rfl (by decide)) ?_
 refine zac ?_
 refine zac ?_
 exact zdy (fun(r:(Rg×Int×Int))=>(.tup [.agg (Enc.cells (r.1:Rg)),.i r.2.1,.i r.2.2]:AV)) h (a:= .tup [.agg (Enc.cells ((Rg.mk false false zz):Rg)),.i (List.length s:Int),.i x6]) rfl (show zad _ _=true from(za (zam _ _ (zab (Enc.clo _))) (by kernel_rfl))) (show AV.tup (stripL _)=_ from congrArg AV.tup (zh (zbu (zab (Enc.clo _))) (zh rfl (zh rfl rfl))))
 refine zbv hc8 rfl ?_
 refine zi (zc ?_)
 refine w_o (a:= .A ((Rg.mk x1.2 x2 x4.1):Rg)) ?_
 refine zac ?_
 refine w_o (a:= .i (List.length s:Int)) (h:=zbb (zdv rfl rfl rfl)) ?_
 refine zcb (σ'':=(.B [(59,[.s j2.s,.i j2.a,.i j2.e,(zbd 2 j2.q)]),(59,[]),((zm j2.q).1,(zm j2.q).2),(35,(Enc.cells ((Rg.mk x1.2 x2 x4.1):Rg))),(35,(Enc.cells ((Rg.mk x1.2 x2 x4.1):Rg)))])) (h:=zaz (n:=10) rfl rfl rfl rfl rfl rfl rfl rfl (by decide)) ?_
 refine zac ?_
 refine w_o (a:= .i 0) ?_
 exact zdy (fun(r:(Rg×Int×Int))=>(.tup [.agg (Enc.cells (r.1:Rg)),.i r.2.1,.i r.2.2]:AV)) h (a:= .tup [.agg (Enc.cells ((Rg.mk x1.2 x2 x4.1):Rg)),.i (List.length s:Int),.i 0]) rfl (show zad _ _=true from(za (zam _ _ (zab (Enc.clo _))) (by kernel_rfl))) (show AV.tup (stripL _)=_ from congrArg AV.tup (zh (zbu (zab (Enc.clo _))) (zh rfl (zh rfl rfl))))
end Go.Ab
