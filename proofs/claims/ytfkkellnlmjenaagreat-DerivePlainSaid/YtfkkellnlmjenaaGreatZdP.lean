/-
  Ways to walk with the abstract machine.
-/
import Derived.Test.YtfkkellnlmjenaaGreatZdM
set_option linter.unusedSimpArgs false
set_option linter.unusedVariables false
namespace Go.Ab
open Go Go.RowKit Go.Fwd
def quiet (o:Oper):Bool:=
 match o.op with
 | .alloc _| .box _ _| .store _ _ _=>false
 | .call c=>match c.callee with| .builtin .append=>false|_=>true
 |_=>true
abbrev CallP:=FuncId→List AV→Option AV
abbrev CallS:=FuncId→List AV→St→Option (AV×St)
abbrev Run:=Code→Nat→List AV→St→Option (AExit×List AV×St)
def zwu (P:Program)(cp:CallP)(cs:CallS)(o:Oper)(S:List AV)(σ:St):Option (AV×St):=
 match zee S o with
 |some (f,args)=>if zu 0 args=true then(match cp f (stripL args) with|some r=>some (r,σ)|none=>none) else(match cs f args σ with|some (r,σ')=>if σ'.out=σ.out∧σ'.stop=σ.stop then some (r,σ') else none|none=>none)
 | none=>match zek S o with
  |some _=>none
  | none=>match aop P (zes S) σ o with
   |some r=>some r
   |none=>zzh P (zes S) σ o
def z0g (P:Program)(cp:CallP)(cs:CallS)(ops:Array Oper):List Oper→List AV→St→Option (List AV×St)
 |[],S,σ=>some (S,σ)
 | o ::l,S,σ=>match o.guard with
  | none=>match zwu P cp cs o S σ with
   |some (a,σ')=>z0g P cp cs ops l (zab S o.dst a) σ'
   |none=>none
  | some (k,b)=>match zfx ops S k with
   | some c=>if c=some b then(match zwu P cp cs o S σ with
    |some (a,σ')=>z0g P cp cs ops l (zab S o.dst a) σ'
    |none=>none) else z0g P cp cs ops l (zab S o.dst (.raw undef)) σ
   |none=>none
def zqw (P:Program)(cp:CallP)(o:Oper)(S:List AV)(σ:St):Option AV:=
 match zee S o with
 |some (f,args)=>if zu 0 args=true then cp f (stripL args) else none
 |none=>qop P (zes S) σ o
def zqx (P:Program)(cp:CallP)(ops:Array Oper)(size:Nat)(σ:St):List Oper→List AV→Option (List AV)
 |[],S=>some S
 | o ::l,S=>if(o.dst.all fun d=>decide (d<size))=true then(match o.guard with
  | none=>match zqw P cp o S σ with
   |some a=>zqx P cp ops size σ l (zab S o.dst a)
   |none=>none
  | some (k,b)=>match zfx ops S k with
   | some c=>if c=some b then(match zqw P cp o S σ with
    |some a=>zqx P cp ops size σ l (zab S o.dst a)
    |none=>none) else zqx P cp ops size σ l (zab S o.dst (.raw undef))
   |none=>none) else none
def zll (P:Program)(cp:CallP)(ops:Array Oper)(size:Nat)(σ:St):List Oper→List AV→Pend→Option (List AV×Pend)
 |[],S,ps=>some (S,ps)
 | o ::l,S,ps=>if(o.dst.all fun d=>decide (d<size))=true∧(ps.all fun p=>o.dst !=some p.1)=true then(match o.guard with
  | none=>match zqw P cp o S σ with
   |some a=>zll P cp ops size σ l (zab S o.dst a) ps
   | none=>match o.op,o.dst with
    | .alloc t,some d=>match zjy P t with
     |some z=>zll P cp ops size σ l (S.set d .top) (ps++[(d,t,z)])
     |none=>none
    |_,_=>none
  | some (k,b)=>match zfx ops S k with
   | some c=>if c=some b then(match zqw P cp o S σ with
    |some a=>zll P cp ops size σ l (zab S o.dst a) ps
    |none=>none) else zll P cp ops size σ l (zab S o.dst (.raw undef)) ps
   |none=>none) else none
def quietB (o:Oper):Bool:=match o.op with| .alloc _=>true|_=>quiet o
def findB (ops:Array Oper)(size:Nat):Option Nat:=
 let n:=(ops.toList.takeWhile quietB).length
 if chk ops size n=true then some n else none
def zvf (Ea:List AV→St→Option (AExit×List AV×St))(Eb:List AV→St→Option (AExit×List AV×St))(ps:Array Tmp)(S0:List AV)(n:Nat):List (List AV)→St→Option (AExit×List AV×St)
 |[],σ=>some (.normal,S0,σ)
 | x ::xs,σ=>match Ea (znd S0 ps x) σ with
  | some (.normal,S1,σ1)=>(match Eb S1 σ1 with
   | some (e,S2,σ2)=>if z1f n σ2=true then(match e with
    | .normal=>zvf Ea Eb ps S0 n xs (zfy n σ2)
    |e=>some (e,S0,zfy n σ2)) else none
   |none=>none)
  |_=>none
def zna (P:Program)(Ω:CallP)(E:Run)(f:FuncId)(args:List AV):Option AV:=
 match Ω f args with
 |some r=>some r
 | none=>match P.funcs[f]? with
  | some fn=>match fn.body with
   | some c=>if(zbi fn args).length=fn.ntmps then(match E c fn.ntmps (zbi fn args) St.empty with
    |some (.exit _,_,_)=>none
    | some (_,S,σ)=>match zbm P fn σ S with
     |some a=>if zbf 0 a=true then some (zcz a) else none
     |none=>none
    |none=>none) else none
   |none=>none
  |none=>none
def ztf (P:Program)(Ψ:CallS)(E:Run)(f:FuncId)(args:List AV)(σ:St):Option (AV×St):=
 match Ψ f args σ with
 |some r=>some r
 |none=>match P.funcs[f]? with
 | some fn=>match fn.body with
  | some c=>if(zbi fn args).length=fn.ntmps then(match E c fn.ntmps (zbi fn args) σ with
   |some (.exit _,_,_)=>none
   | some (_,S,σ1)=>match zbm P fn σ1 S with
    |some a=>if zbf σ.boxes.length a=true∧z1f σ.boxes.length σ1=true then some (a,zfy σ.boxes.length σ1) else none
    |none=>none
   |none=>none) else none
  |none=>none
 |none=>none
def qqa (P:Program)(cp:CallP)(cs:CallS)(ops:Array Oper)(sz:Nat)(S:List AV)(σ:St)(n:Nat):Option (List AV×St):=
 if chk ops sz n=true then(match zqx P cp ops sz σ (ops.toList.take n) S with
  |some S1=>z0g P cp cs ops (ops.toList.drop n) S1 σ
  |none=>none) else none
def qej (P:Program)(cp:CallP)(cs:CallS)(ops:Array Oper)(sz:Nat)(S:List AV)(σ:St):Option (List AV×St):=
 (List.range ((ops.toList.takeWhile quiet).length+1)).reverse.findSome? (qqa P cp cs ops sz S σ)
section
variable {P:Program} {cp:CallP} {cs:CallS}
def qkx (P:Program)(cp:CallP):Prop:= ∀f args r,cp f args=some r→Pure (ITP P) P f args r
def qds (P:Program)(cs:CallS):Prop:= ∀f args σ r σ',cs f args σ=some (r,σ')→Snd (ITP P) P f args σ r σ'
theorem zjn (hcp:qkx P cp)(hcs:qds P cs) {o:Oper} {S:List AV} {σ σ':St} {a:AV} (h:zwu P cp cs o S σ=some (a,σ')) {K:AV→St→Prop} (hK:K a σ'):zgm (ITP P) P none o S σ K:=by
 unfold zwu at h
 unfold zgm
 split at h
 ·rename_i f args hc
  rw[hc]
  simp only
  split at h
  ·rename_i hok
   split at h<;>cases h
   rename_i hr
   exact⟨a,σ,.inr (.inl ⟨rfl,hok,hcp _ _ _ hr⟩),hK⟩
  ·split at h<;>try cases h
   rename_i hs
   split at h<;>cases h
   rename_i hos
   exact⟨a,σ',.inl ⟨hcs _ _ _ _ _ hs,hos⟩,hK⟩
 ·rename_i hc
  rw[hc]
  simp only
  split at h<;>try cases h
  rename_i hy
  rw[hy]
  split at h
  ·rename_i r hr
   cases h
   exact .inl ⟨a,σ',.inl hr,hK⟩
  ·exact .inl ⟨a,σ',.inr (.inr (.inl h)),hK⟩
theorem ziv (hcp:qkx P cp)(hcs:qds P cs) {ops:Array Oper}: ∀(l:List Oper) (S:List AV) (σ:St) (S':List AV) (σ':St),z0g P cp cs ops l S σ=some (S',σ')→S'.length=S.length∧ ∀Q:List AV→St→Prop,Q S' σ'→zdd (ITP P) P none ops Q l S σ
 |[],S,σ,S',σ',h=>by simp only[z0g,Option.some.injEq,Prod.mk.injEq] at h;obtain⟨rfl,rfl⟩:=h;exact⟨rfl,fun Q h=>h⟩
 | o ::l,S,σ,S',σ',h=>by
  simp only[z0g] at h
  simp only[zdd]
  cases hg:o.guard with
  | none=>
   rw[hg] at h
   simp only at h⊢
   split at h<;>try cases h
   rename_i a σ1 hs
   obtain⟨h1,h2⟩:=ziv hcp hcs l _ _ _ _ h
   exact⟨by rw[h1,zbn],fun Q hQ=>zjn hcp hcs hs (h2 Q hQ)⟩
  | some kb=>
   obtain⟨k,b⟩:=kb
   rw[hg] at h
   simp only at h⊢
   split at h<;>try cases h
   rename_i c hc
   split at h
   ·rename_i e
    split at h<;>try cases h
    rename_i a σ1 hs
    obtain⟨h1,h2⟩:=ziv hcp hcs l _ _ _ _ h
    exact⟨by rw[h1,zbn],fun Q hQ=>⟨c,hc,by rw[if_pos e];exact zjn hcp hcs hs (h2 Q hQ)⟩⟩
   ·rename_i e
    obtain⟨h1,h2⟩:=ziv hcp hcs l _ _ _ _ h
    exact⟨by rw[h1,zbn],fun Q hQ=>⟨c,hc,by rw[if_neg e];exact h2 Q hQ⟩⟩
theorem zik (hcp:qkx P cp) {o:Oper} {S:List AV} {σ:St} {a:AV} (h:zqw P cp o S σ=some a) {K:AV→Prop} (hK:K a):zor (ITP P) P o S σ K:=by
 unfold zqw at h
 unfold zor
 split at h
 ·rename_i f args hc
  rw[hc]
  simp only
  split at h<;>try cases h
  rename_i hok
  exact⟨a,hok,hcp _ _ _ h,hK⟩
 ·rename_i hc
  rw[hc]
  exact⟨a,.inl h,hK⟩
theorem zjk (hcp:qkx P cp) {ops:Array Oper} {size:Nat} {σ:St}: ∀(l:List Oper) (S S':List AV),zqx P cp ops size σ l S=some S'→S.length=size→S'.length=size∧ ∀K:List AV→Prop,K S'→ahead (ITP P) P ops σ K l S
 |[],S,S',h,hl=>by simp only[zqx,Option.some.injEq] at h;subst h;exact⟨hl,fun K h=>h⟩
 | o ::l,S,S',h,hl=>by
  simp only[zqx] at h
  simp only[ahead]
  split at h<;>try cases h
  rename_i hd
  cases hg:o.guard with
  | none=>
   rw[hg] at h
   simp only at h⊢
   split at h<;>try cases h
   rename_i a hs
   obtain⟨h1,h2⟩:=zjk hcp l _ _ h (by rw[zbn];exact hl)
   exact⟨h1,fun K hK=>⟨by rw[hl];exact hd,.inl (zik hcp hs (h2 K hK))⟩⟩
  | some kb=>
   obtain⟨k,b⟩:=kb
   rw[hg] at h
   simp only at h⊢
   split at h<;>try cases h
   rename_i c hc
   split at h
   ·rename_i e
    split at h<;>try cases h
    rename_i a hs
    obtain⟨h1,h2⟩:=zjk hcp l _ _ h (by rw[zbn];exact hl)
    exact⟨h1,fun K hK=>⟨by rw[hl];exact hd,c,hc,by rw[if_pos e];exact .inl (zik hcp hs (h2 K hK))⟩⟩
   ·rename_i e
    obtain⟨h1,h2⟩:=zjk hcp l _ _ h (by rw[zbn];exact hl)
    exact⟨h1,fun K hK=>⟨by rw[hl];exact hd,c,hc,by rw[if_neg e];exact h2 K hK⟩⟩
theorem zgw (hcp:qkx P cp) {ops:Array Oper} {size:Nat} {σ:St}: ∀(l:List Oper) (S S':List AV) (ps ps':Pend),zll P cp ops size σ l S ps=some (S',ps')→S.length=size→S'.length=size∧ ∀K:List AV→Pend→Prop,K S' ps'→zlb (ITP P) P ops σ K l S ps
 |[],S,S',ps,ps',h,hl=>by simp only[zll,Option.some.injEq,Prod.mk.injEq] at h;obtain⟨rfl,rfl⟩:=h;exact⟨hl,fun K h=>h⟩
 | o ::l,S,S',ps,ps',h,hl=>by
  simp only[zll] at h
  simp only[zlb]
  split at h<;>try cases h
  rename_i hd
  cases hg:o.guard with
  | none=>
   rw[hg] at h
   simp only at h⊢
   split at h
   ·rename_i a hs
    obtain⟨h1,h2⟩:=zgw hcp l _ _ _ _ h (by rw[zbn];exact hl)
    exact⟨h1,fun K hK=>⟨by rw[hl];exact hd.1,hd.2,.inr (zik hcp hs (h2 K hK))⟩⟩
   ·split at h<;>try cases h
    rename_i t d ho hdst
    split at h<;>try cases h
    rename_i z hz
    obtain⟨h1,h2⟩:=zgw hcp l _ _ _ _ h (by rw[List.length_set];exact hl)
    exact⟨h1,fun K hK=>⟨by rw[hl];exact hd.1,hd.2,.inl ⟨trivial,t,d,z,ho,hdst,hz,h2 K hK⟩⟩⟩
  | some kb=>
   obtain⟨k,b⟩:=kb
   rw[hg] at h
   simp only at h⊢
   split at h<;>try cases h
   rename_i c hc
   split at h
   ·rename_i e
    split at h<;>try cases h
    rename_i a hs
    obtain⟨h1,h2⟩:=zgw hcp l _ _ _ _ h (by rw[zbn];exact hl)
    exact⟨h1,fun K hK=>⟨by rw[hl];exact hd.1,hd.2,.inr ⟨c,hc,by rw[if_pos e];exact zik hcp hs (h2 K hK)⟩⟩⟩
   ·rename_i e
    obtain⟨h1,h2⟩:=zgw hcp l _ _ _ _ h (by rw[zbn];exact hl)
    exact⟨h1,fun K hK=>⟨by rw[hl];exact hd.1,hd.2,.inr ⟨c,hc,by rw[if_neg e];exact h2 K hK⟩⟩⟩
theorem zrn: ∀(ps:Pend) (n:Nat) (S:List AV),(z0j n ps S).length=S.length
 |[],n,S=>rfl
 |p::ps,n,S=>by rw[z0j,zrn ps,List.length_set]
theorem z3q (S:List AV)(ps:Array Tmp)(x:List AV):(znd S ps x).length=S.length:=by
 unfold znd
 generalize ps.toList.zip x=l
 induction l generalizing S with
 |nil=>rfl
 |cons p l ih=>rw[List.foldl_cons,ih];simp
theorem znt {asg body:Code} {Ea Eb:List AV→St→Option (AExit×List AV×St)} {ps:Array Tmp} {S0:List AV} {n:Nat}
 (ha: ∀S σ e S' σ',S.length=S0.length→Ea S σ=some (e,S',σ')→S'.length=S0.length∧ ∀(k:Nat) (Q:AQ),Q e S' σ'→awp (ITP P) P none k asg Q S σ)
 (hb: ∀S σ e S' σ',S.length=S0.length→Eb S σ=some (e,S',σ')→ ∀(k:Nat) (Q:AQ),Q e S' σ'→awp (ITP P) P none k body Q S σ):
 ∀(xs:List (List AV)) (σ:St) (e:AExit) (S':List AV) (σ':St),zvf Ea Eb ps S0 n xs σ=some (e,S',σ')→S'=S0∧ ∀Q:AQ,Q e S' σ'→zhb (fun k=>awp (ITP P) P none k asg) (fun k=>awp (ITP P) P none k body) ps S0 Q n xs σ
 |[],σ,e,S',σ',h=>by simp only[zvf,Option.some.injEq,Prod.mk.injEq] at h;obtain⟨rfl,rfl,rfl⟩:=h;exact⟨rfl,fun Q h=>h⟩
 | x::xs,σ,e,S',σ',h=>by
  simp only[zvf] at h
  split at h<;>try cases h
  rename_i S1 σ1 ha1
  split at h<;>try cases h
  rename_i e2 S2 σ2 hb2
  split at h<;>try cases h
  rename_i hok2
  obtain⟨a1,a3⟩:=ha _ _ _ _ _ (z3q _ _ _) ha1
  simp only[zhb]
  cases e2 with
  | normal=>
   simp only at h
   obtain⟨h1,h2⟩:=znt ha hb xs _ _ _ _ h
   exact⟨h1,fun Q hQ=>a3 _ _ (hb _ _ _ _ _ a1 hb2 _ _ ⟨hok2,h2 Q hQ⟩)⟩
  | exit id=>
   simp only[Option.some.injEq,Prod.mk.injEq] at h
   obtain⟨rfl,rfl,rfl⟩:=h
   exact⟨rfl,fun Q hQ=>a3 _ _ (hb _ _ _ _ _ a1 hb2 _ _ ⟨hok2,hQ⟩)⟩
  | ret=>
   simp only[Option.some.injEq,Prod.mk.injEq] at h
   obtain⟨rfl,rfl,rfl⟩:=h
   exact⟨rfl,fun Q hQ=>a3 _ _ (hb _ _ _ _ _ a1 hb2 _ _ ⟨hok2,hQ⟩)⟩
end
structure Good (P:Program)(Ω:CallP)(Ψ:CallS):Prop where
 mix:P.follows .mixedOrders=true
 ent: ∀(f:Nat) fn,P.funcs[f]? =some fn→fn.body.isSome=true→Ent P f
 oracle:qkx P Ω
 oracleS:qds P Ψ
def awpT (P:Program)(c:Code)(Q:AQ)(S:List AV)(σ:St):Prop:= ∀k,awp (ITP P) P none k c Q S σ
theorem zed {P:Program} {c:Code} {Q:AQ} {S:List AV} {σ:St} {k:Nat} (h:awpT P c Q S σ):awp (ITP P) P none k c Q S σ:=h k
def EvOk (P:Program)(E:Run):Prop:= ∀c sz S σ e S' σ',E c sz S σ=some (e,S',σ')→S.length=sz→S'.length=sz∧ ∀Q:AQ,Q e S' σ'→awpT P c Q S σ
theorem z2b {P:Program} {Ω:CallP} {Ψ:CallS} (hG:Good P Ω Ψ) {E:Run} (hE:EvOk P E):qkx P (zna P Ω E):=by
 intro f args r h
 unfold zna at h
 split at h
 ·rename_i r' ho
  cases h
  exact hG.oracle _ _ _ ho
 ·split at h<;>try cases h
  rename_i fn hf
  split at h<;>try cases h
  rename_i c hb
  split at h<;>try cases h
  rename_i hl
  have fin: ∀e S σ,(e= .normal∨e= .ret)→E c fn.ntmps (zbi fn args) St.empty=some (e,S,σ)→(match zbm P fn σ S with|some a=>if zbf 0 a=true then some (zcz a) else none|none=>none)=some r→Pure (ITP P) P f args r:=fun e S σ he h1 h2=>by
   split at h2<;>try cases h2
   rename_i a ha
   split at h2<;>cases h2
   rename_i hok
   obtain⟨_,h3⟩:=hE _ _ _ _ _ _ _ h1 hl
   refine zjp hG.mix hf hb (hG.ent f fn hf (by rw[hb];rfl)) (zed (h3 _ ?_))
   rcases he with rfl|rfl<;>exact⟨a,ha,zwt hok rfl⟩
  split at h
  ·cases h
  ·rename_i e S σ hne he
   refine fin e S σ ?_ he h
   cases e with
   |normal=>exact .inl rfl
   |ret=>exact .inr rfl
   |exit id=>exact absurd rfl (hne id)
  ·cases h
theorem z5j {P:Program} {Ω:CallP} {Ψ:CallS} (hG:Good P Ω Ψ) {E:Run} (hE:EvOk P E):qds P (ztf P Ψ E):=by
 intro f args σ r σ' h
 unfold ztf at h
 split at h
 ·rename_i r0 hr0
  cases h
  exact hG.oracleS _ _ _ _ _ hr0
 split at h<;>try cases h
 rename_i fn hf
 split at h<;>try cases h
 rename_i c hb
 split at h<;>try cases h
 rename_i hl
 have fin: ∀e S σ1,(e= .normal∨e= .ret)→E c fn.ntmps (zbi fn args) σ=some (e,S,σ1)→(match zbm P fn σ1 S with|some a=>if zbf σ.boxes.length a=true∧z1f σ.boxes.length σ1=true then some (a,zfy σ.boxes.length σ1) else none|none=>none)=some (r,σ')→Snd (ITP P) P f args σ r σ':=fun e S σ1 he h1 h2=>by
  split at h2<;>try cases h2
  rename_i a ha
  split at h2<;>cases h2
  rename_i hok
  obtain⟨_,h3⟩:=hE _ _ _ _ _ _ _ h1 hl
  refine zrp hG.mix hf hb (hG.ent f fn hf (by rw[hb];rfl)) (zed (h3 _ ?_))
  rcases he with rfl|rfl<;>exact⟨r,ha,z3p hok.1 hok.2 rfl rfl⟩
 split at h
 ·cases h
 ·rename_i e S σ1 hne he
  refine fin e S σ1 ?_ he h
  cases e with
  |normal=>exact .inl rfl
  |ret=>exact .inr rfl
  |exit id=>exact absurd rfl (hne id)
 ·cases h
theorem qlv {ops:Array Oper} {size n:Nat} (h:findB ops size=some n):chk ops size n=true:=by
 unfold findB at h
 simp only at h
 split at h
 ·rename_i hc;cases h;exact hc
 ·cases h
theorem z4j {P:Program} {cp:CallP} {cs:CallS} {ops:Array Oper} {sz:Nat} {S:List AV} {σ:St} {r:List AV×St} (h:qej P cp cs ops sz S σ=some r):
 ∃n,chk ops sz n=true∧ ∃S1,zqx P cp ops sz σ (ops.toList.take n) S=some S1∧z0g P cp cs ops (ops.toList.drop n) S1 σ=some r:=by
 obtain⟨n,_,h⟩:=List.exists_of_findSome?_eq_some h
 unfold qqa at h
 split at h<;>try cases h
 rename_i hc
 split at h<;>try cases h
 rename_i S1 hh
 exact⟨n,hc,S1,hh,h⟩
section
variable {IT:IterP} {P:Program} {W:Owed} {k0:Nat}
theorem zqf {K K':List AV→St→Prop} {Q Q':AQ} (hK: ∀S σ,K S σ→K' S σ)(h: ∀e S σ,Q e S σ→Q' e S σ): ∀e S σ,zwe K Q e S σ→zwe K' Q' e S σ
 | .normal,S,σ,hq=>hK S σ hq
 | .exit _,S,σ,hq=>h _ S σ hq
 | .ret,S,σ,hq=>h _ S σ hq
theorem zmk {o:Oper} {S:List AV} {σ:St} {K K':AV→St→Prop} (h: ∀a σ,K a σ→K' a σ)(k:zgm IT P W o S σ K):zgm IT P W o S σ K':=by
 unfold zgm at k⊢
 split
 ·rename_i hc;rw[hc] at k;obtain⟨r,σ',k1,k2⟩:=k;exact⟨r,σ',k1,h _ _ k2⟩
 ·rename_i hc
  rw[hc] at k
  simp only at k
  split
  ·rename_i hy;rw[hy] at k;obtain⟨G,row,k0,k1,k2,k3,k4,k5,k6,k7,k8⟩:=k;exact⟨G,row,k0,k1,k2,k3,k4,k5,k6,h _ _ k7,h _ _ k8⟩
  ·rename_i hy;rw[hy] at k
   rcases k with⟨a,σ',k1,k2⟩|⟨n,neg,k1,k2,k3⟩
   ·exact .inl ⟨a,σ',k1,h _ _ k2⟩
   ·exact .inr ⟨n,neg,k1,fun e=>h _ _ (k2 e),h _ _ k3⟩
theorem zkf {ops:Array Oper} {Q Q':List AV→St→Prop} (h: ∀S σ,Q S σ→Q' S σ): ∀(l:List Oper) (S:List AV) (σ:St),zdd IT P W ops Q l S σ→zdd IT P W ops Q' l S σ
 |[],S,σ,k=>h S σ k
 | o::l,S,σ,k=>by
  simp only[zdd] at k⊢
  split
  ·rename_i hg;rw[hg] at k;exact zmk (fun a σ'=>zkf h l _ _) k
  ·rename_i kb b hg
   rw[hg] at k
   obtain⟨c,k1,k2⟩:=k
   refine⟨c,k1,?_⟩
   split
   ·rename_i hc;rw[if_pos hc] at k2;exact zmk (fun a σ'=>zkf h l _ _) k2
   ·rename_i hc;rw[if_neg hc] at k2;exact zkf h l _ _ k2
theorem zka {ops:Array Oper} {Q Q':List AV→St→Prop} (h: ∀S σ,Q S σ→Q' S σ): ∀(k:Nat) (listed:Array Bool) (S:List AV) (σ:St),zsu IT P W ops Q k listed S σ→zsu IT P W ops Q' k listed S σ
 |0,_,S,σ,k=>⟨k.1,h S σ k.2⟩
 | n +1,listed,S,σ,k=>by
  refine⟨fun he=>h _ _ (k.1 he),fun i hi=> ?_⟩
  have k:=k.2 i hi
  unfold z0e at k⊢
  cases ho:ops[i]? with
  |none=>rw[ho] at k;exact zka h n _ _ _ k
  | some o=>
   rw[ho] at k
   simp only at k⊢
   split
   ·rename_i hg;rw[hg] at k;exact zmk (fun a σ'=>zka h n _ _ _) k
   ·rename_i kb b hg
    rw[hg] at k
    obtain⟨c,k1,k2⟩:=k
    refine⟨c,k1,?_⟩
    split
    ·rename_i hc;rw[if_pos hc] at k2;exact zmk (fun a σ'=>zka h n _ _ _) k2
    ·rename_i hc;rw[if_neg hc] at k2;exact zka h n _ _ _ k2
theorem zqi {o:Oper} {S:List AV} {σ:St} {K K':AV→Prop} (h: ∀a,K a→K' a)(k:zor IT P o S σ K):zor IT P o S σ K':=by
 unfold zor at k⊢
 split
 ·rename_i hc;rw[hc] at k;obtain⟨r,k1,k2,k3⟩:=k;exact⟨r,k1,k2,h _ k3⟩
 ·rename_i hc;rw[hc] at k;obtain⟨a,k1,k2⟩:=k;exact⟨a,k1,h _ k2⟩
theorem ztl {o:Oper} {S:List AV} {σ:St} {K K':AV→Prop} (h: ∀a,K a→K' a)(k:zvg IT P o S σ K):zvg IT P o S σ K':=
 k.imp (zqi h) fun⟨f,args,r,n,k1,k2,k3,k4⟩=>⟨f,args,r,n,k1,k2,k3,h _ k4⟩
theorem zmm {ops:Array Oper} {σ:St} {K K':List AV→Prop} (h: ∀S,K S→K' S): ∀(l:List Oper) (S:List AV),ahead IT P ops σ K l S→ahead IT P ops σ K' l S
 |[],S,k=>h S k
 | o::l,S,k=>by
  simp only[ahead] at k⊢
  refine⟨k.1,?_⟩
  have k:=k.2
  split
  ·rename_i hg;rw[hg] at k;exact ztl (fun a=>zmm h l _) k
  ·rename_i kb b hg
   rw[hg] at k
   obtain⟨c,k1,k2⟩:=k
   refine⟨c,k1,?_⟩
   split
   ·rename_i hc;rw[if_pos hc] at k2;exact ztl (fun a=>zmm h l _) k2
   ·rename_i hc;rw[if_neg hc] at k2;exact zmm h l _ k2
theorem zit {ops:Array Oper} {σ:St} {K K':List AV→Pend→Prop} (h: ∀S ps,K S ps→K' S ps): ∀(l:List Oper) (S:List AV) (ps:Pend),zlb IT P ops σ K l S ps→zlb IT P ops σ K' l S ps
 |[],S,ps,k=>h S ps k
 | o ::l,S,ps,k=>by
  simp only[zlb] at k⊢
  refine⟨k.1,k.2.1,?_⟩
  rcases k.2.2 with⟨hg,t,d,z,k1,k2,k3,k4⟩|k
  ·exact .inl ⟨hg,t,d,z,k1,k2,k3,zit h l _ _ k4⟩
  ·right
   split
   ·rename_i hg;rw[hg] at k;exact zqi (fun a=>zit h l _ _) k
   ·rename_i kb b hg
    rw[hg] at k
    obtain⟨c,k1,k2⟩:=k
    refine⟨c,k1,?_⟩
    split
    ·rename_i hc;rw[if_pos hc] at k2;exact zqi (fun a=>zit h l _ _) k2
    ·rename_i hc;rw[if_neg hc] at k2;exact zit h l _ _ k2
def WMono (F:AQ→List AV→St→Prop):Prop:= ∀ {Q Q':AQ},(∀e S σ,Q e S σ→Q' e S σ)→ ∀S σ,F Q S σ→F Q' S σ
theorem zrj {F:AQ→List AV→St→Prop} {n0:Nat} (hF:WMono F) {Q Q':AQ} (h: ∀e S σ,Q e S σ→Q' e S σ): ∀(m:Nat) (S:List AV) (σ:St),zqq F Q n0 m S σ→zqq F Q' n0 m S σ
 |0,S,σ,k=>k
 |m+1,S,σ,⟨S',σ',k1,k2⟩=>⟨S',σ',k1,hF (zqf (zrj hF h m) h) _ _ k2⟩
theorem znk {Fa Fb:Nat→AQ→List AV→St→Prop} {ps:Array Tmp} {S:List AV} {n0:Nat} (hFa: ∀k,WMono (Fa k))(hFb: ∀k,WMono (Fb k)) {Q Q':AQ} (h: ∀e S σ,Q e S σ→Q' e S σ): ∀(xs:List (List AV)) (σ:St),zhb Fa Fb ps S Q n0 xs σ→zhb Fa Fb ps S Q' n0 xs σ
 |[],σ,k=>h _ _ _ k
 | x::xs,σ,k=>by
  simp only[zhb] at k⊢
  refine hFa n0 ?_ _ _ k
  intro e S1 σ1 hq
  cases e with
  | normal=>
   refine hFb _ ?_ _ _ hq
   intro e2 S2 σ2 hq2
   cases e2 with
   |normal=>exact⟨hq2.1,znk hFa hFb h xs _ hq2.2⟩
   |exit id=>exact⟨hq2.1,h _ _ _ hq2.2⟩
   |ret=>exact⟨hq2.1,h _ _ _ hq2.2⟩
  |exit id=>exact hq
  |ret=>exact hq
theorem zec {k0:Nat}: ∀(c:Code) {Q Q':AQ},(∀e S σ,Q e S σ→Q' e S σ)→ ∀(S:List AV) (σ:St),awp IT P W k0 c Q S σ→awp IT P W k0 c Q' S σ
 | .skip,Q,Q',h,S,σ,k=>h _ S σ k
 | .seq x y,Q,Q',h,S,σ,k=>zec x (zqf (fun S σ ⟨S',σ',k1,k2⟩=>⟨S',σ',k1,zec y h _ _ k2⟩) h) S σ k
 | .cond c x y,Q,Q',h,S,σ,⟨t,k1,k2⟩=>⟨t,k1,by
  split
  ·rename_i ht;rw[if_pos ht] at k2;exact zec x h _ _ k2
  ·rename_i ht;rw[if_neg ht] at k2;exact zec y h _ _ k2⟩
 | .block id x,Q,Q',h,S,σ,k=>zec x (fun e S σ hq=>by
  cases e with
  |normal=>exact h _ _ _ hq
  |ret=>exact h _ _ _ hq
  | exit j=>
   simp only[zpi] at hq⊢
   split
   ·rename_i hj;rw[if_pos hj] at hq;exact h _ _ _ hq
   ·rename_i hj;rw[if_neg hj] at hq;exact h _ _ _ hq) S σ k
 | .loop x,Q,Q',h,S,σ,⟨m,k⟩=>⟨m,zrj (fun hq=>zec x hq) h m S σ k⟩
 | .exit id,Q,Q',h,S,σ,k=>h _ S σ k
 | .ret,Q,Q',h,S,σ,k=>h _ S σ k
 | .region _ ops false,Q,Q',h,S,σ,k=>zkf (h .normal) _ _ _ k
 | .region _ ops true,Q,Q',h,S,σ,.inl ⟨n,k1,k2,k3⟩=> .inl ⟨n,k1,k2,zmm (fun S'=>zkf (h .normal) _ _ _) _ _ k3⟩
 | .region _ ops true,Q,Q',h,S,σ,.inr (.inl ⟨n,k1,k2,k3⟩)=> .inr (.inl ⟨n,k1,k2,zit (fun S' ps=>zkf (h .normal) _ _ _) _ _ _ k3⟩)
 | .region _ ops true,Q,Q',h,S,σ,.inr (.inr k)=> .inr (.inr (zka (h .normal) _ _ _ _ k))
 | .rangeFunc f ps asg body,Q,Q',h,S,σ,.inl ⟨xs,k1,k0,k2,k3,k4⟩=> .inl ⟨xs,k1,k0,k2,k3,znk (Fa:=fun k=>awp IT P W k asg) (Fb:=fun k=>awp IT P W k body) (fun k=>fun hq=>zec asg hq) (fun k=>fun hq=>zec body hq) h xs σ k4⟩
 | .rangeFunc f ps asg body,Q,Q',h,S,σ,.inr ⟨g,n,t,cs,xs,S',k1,k2,k3,k4,k5,k6,k7,k8,k9,q1,q2,q3,q4⟩=> .inr ⟨g,n,t,cs,xs,S',k1,k2,k3,k4,k5,k6,k7,k8,k9,q1,q2,q3,znk (Fa:=fun k=>awp IT P W k asg) (Fb:=fun k=>awp IT P W k body) (fun k=>fun hq=>zec asg hq) (fun k=>fun hq=>zec body hq) h xs _ q4⟩
 | .scope x,Q,Q',h,S,σ,k=>zec x h S σ k
 | .label _,Q,Q',h,S,σ,k=>h _ S σ k
 | .goto _,_,_,_,_,_,k=>k.elim
 | .refuse _,_,_,_,_,_,k=>k.elim
theorem zf {x y:Code} {Q:AQ} {S:List AV} {σ:St} (h:awp IT P W k0 x (zwe (awp IT P W k0 y Q) Q) S σ):awp IT P W k0 (.seq x y) Q S σ:=
 zec x (zqf (fun S σ k=>⟨S,σ,Wk.refl _ _ _,k⟩) fun _ _ _ k=>k) S σ h
def to (n0:Nat)(S':List AV)(σ':St)(Q:AQ):AQ
 | .normal,S,σ=>Wk n0 S σ S' σ'
 |e,S,σ=>Q e S σ
theorem zb {id:Nat} {ops:Array Oper} {Q:AQ} {S:List AV} {σ:St} (h:zdd IT P W ops (Q .normal) ops.toList S σ):awp IT P W k0 (.region id ops false) Q S σ:=h
theorem zbx {c:Operand} {x y:Code} {Q:AQ} {S:List AV} {σ:St} (hc:zes S c= .raw (.bool true))(h:awp IT P W k0 x Q S σ):awp IT P W k0 (.cond c x y) Q S σ:=⟨true,hc,h⟩
theorem zcg {c:Operand} {x y:Code} {Q:AQ} {S:List AV} {σ:St} (hc:zes S c= .raw (.bool false))(h:awp IT P W k0 y Q S σ):awp IT P W k0 (.cond c x y) Q S σ:=⟨false,hc,h⟩
theorem w_label {id:Nat} {Q:AQ} {S:List AV} {σ:St} (h:Q .normal S σ):awp IT P W k0 (.label id) Q S σ:=h
theorem w_scope {x:Code} {Q:AQ} {S:List AV} {σ:St} (h:awp IT P W k0 x Q S σ):awp IT P W k0 (.scope x) Q S σ:=h
theorem zn {id:Nat} {x:Code} {Q:AQ} {S:List AV} {σ:St} (h:awp IT P W k0 x (zpi id Q) S σ):awp IT P W k0 (.block id x) Q S σ:=h
theorem zwa {ops:Array Oper} {Q:List AV→St→Prop} {o:Oper} {l:List Oper} {S S':List AV} {σ σ':St} {a:AV} (hg:o.guard=none)(hc:zee S o=none)(hy:zek S o=none)(h:aop P (zes S) σ o=some (a,σ'))(hS:zab S o.dst a=S')
 (k:zdd IT P W ops Q l S' σ'):zdd IT P W ops Q (o::l) S σ:=by
 simp only[zdd,hg,zgm,hc,hy]
 exact .inl ⟨a,σ',.inl h,by rw[hS];exact k⟩
theorem qcx {ops:Array Oper} {Q:List AV→St→Prop} {o:Oper} {l:List Oper} {S S':List AV} {σ:St} (a:AV)(hg:o.guard=none)(hc:zee S o=none)(hy:zek S o=none)(h:zoa P (zes S) o a)(hS:zab S o.dst a=S')
 (k:zdd IT P W ops Q l S' σ):zdd IT P W ops Q (o::l) S σ:=by
 simp only[zdd,hg,zgm,hc,hy]
 exact .inl ⟨a,σ,.inr (.inl ⟨rfl,h⟩),by rw[hS];exact k⟩
theorem w_call {ops:Array Oper} {Q:List AV→St→Prop} {o:Oper} {l:List Oper} {S S':List AV} {σ:St} {f:FuncId} {args:List AV} {r:AV} (hp:Pure IT P f (stripL args) r)(hg:o.guard=none)(hc:zee S o=some (f,args))(hok:zu 0 args=true)(hS:zab S o.dst r=S')
 (k:zdd IT P W ops Q l S' σ):zdd IT P W ops Q (o::l) S σ:=by
 simp only[zdd,hg,zgm,hc]
 exact⟨r,σ,.inr (.inl ⟨rfl,hok,hp⟩),by rw[hS];exact k⟩
theorem w_callf {ops:Array Oper} {Q:List AV→St→Prop} {o:Oper} {l:List Oper} {S S':List AV} {σ:St} {f:FuncId} {args args':List AV} {r:AV} (n:Nat)(hp:Pure IT P f args' r)(hg:o.guard=none)(hc:zee S o=some (f,args))(ha:zbk (frz σ.boxes n) args=args')(hraw:ztw r=true)(hS:zab S o.dst r=S')
 (k:zdd IT P W ops Q l S' σ):zdd IT P W ops Q (o::l) S σ:=by
 simp only[zdd,hg,zgm,hc]
 exact⟨r,σ,.inr (.inr (.inl ⟨rfl,hraw,n,by rw[ha];exact hp⟩)),by rw[hS];exact k⟩
theorem w_yield {ops:Array Oper} {Q:List AV→St→Prop} {o:Oper} {l:List Oper} {S:List AV} {σ:St} {n:Nat} {args row:List AV} {rows:List (List AV)} (hg:o.guard=none)(hc:zee S o=none)(hy:zek S o=some (n,args)) {G:Gen} (hW:W=some G)(hGl:G.l=n)(hGr:G.rows=rows)(hr:rows[σ.out]? =some row)(hs:stripL args=row)(hok:zu 0 args=true)(hni:zcf args=true)(hst:σ.stop=false)
 (k1:zdd IT P W ops Q l (zab S o.dst (.raw (.bool true))) {σ with out:=σ.out+1}) (k2:zdd IT P W ops Q l (zab S o.dst (.raw (.bool false))) {σ with stop:=true}):zdd IT P W ops Q (o::l) S σ:=by
 simp only[zdd,hg,zgm,hc,hy]
 exact⟨G,row,hW,hGl,by rw[hGr];exact hr,hs,hok,hni,hst,k1,k2⟩
theorem zal {c:Code} {Q:AQ} {S S':List AV} {σ σ':St} (hS:S=S')(hσ:σ=σ')(h:awp IT P W k0 c Q S' σ'):awp IT P W k0 c Q S σ:=by subst hS hσ;exact h
theorem znz {ops:Array Oper} {Q:List AV→St→Prop} {o:Oper} {l:List Oper} {S S':List AV} {σ σ' σ'':St} {a:AV} (hg:o.guard=none)(hc:zee S o=none)(hy:zek S o=none)(h:aop P (zes S) σ o=some (a,σ'))(hS:zab S o.dst a=S')(hσ:σ'=σ'')
 (k:zdd IT P W ops Q l S' σ''):zdd IT P W ops Q (o::l) S σ:=by
 subst hσ
 exact zwa hg hc hy h hS k
theorem zmq {ops:Array Oper} {Q:List AV→St→Prop} {o:Oper} {l:List Oper} {S S':List AV} {σ σ' σ'':St} {a:AV} (hg:o.guard=none)(hc:zee S o=none)(hy:zek S o=none)(h:zzh P (zes S) σ o=some (a,σ'))(hS:zab S o.dst a=S')(hσ:σ'=σ'')
 (k:zdd IT P W ops Q l S' σ''):zdd IT P W ops Q (o::l) S σ:=by
 subst hσ
 simp only[zdd,hg,zgm,hc,hy]
 exact .inl ⟨a,σ',.inr (.inr (.inl h)),by rw[hS];exact k⟩
theorem w_nil {ops:Array Oper} {Q:List AV→St→Prop} {o:Oper} {l:List Oper} {S S1 S2:List AV} {σ:St} (n:Nat)(neg:Bool)(hg:o.guard=none)(hc:zee S o=none)(hy:zek S o=none)(h:zzp P (zes S) o n neg)
 (h1:zab S o.dst (.raw (.bool (!neg)))=S1) (h2:zab S o.dst (.raw (.bool neg))=S2) (k1:n=0→zdd IT P W ops Q l S1 σ) (k2:zdd IT P W ops Q l S2 σ):zdd IT P W ops Q (o::l) S σ:=by
 simp only[zdd,hg,zgm,hc,hy]
 exact .inr ⟨n,neg,.inl h,fun e=>by rw[h1];exact k1 e,by rw[h2];exact k2⟩
theorem z1t {ops:Array Oper} {Q:List AV→St→Prop} {o:Oper} {l:List Oper} {S S':List AV} {σ σ':St} {f:FuncId} {args:List AV} {r:AV} (hp:Snd IT P f args σ r σ')(hg:o.guard=none)(hc:zee S o=some (f,args))(ho:σ'.out=σ.out∧σ'.stop=σ.stop)(hS:zab S o.dst r=S')
 (k:zdd IT P W ops Q l S' σ'):zdd IT P W ops Q (o::l) S σ:=by
 simp only[zdd,hg,zgm,hc]
 exact⟨r,σ',.inl ⟨hp,ho⟩,by rw[hS];exact k⟩
theorem qpy {ops:Array Oper} {Q:List AV→St→Prop} {o:Oper} {l:List Oper} {S S':List AV} {σ:St} {kb:Nat} {b:Bool} {c:Option Bool} (hg:o.guard=some (kb,b))(hk:zfx ops S kb=some c)(hcb:c≠some b)(hS:zab S o.dst (.raw undef)=S')(k:zdd IT P W ops Q l S' σ):zdd IT P W ops Q (o::l) S σ:=by
 simp only[zdd,hg]
 exact⟨c,hk,by rw[if_neg hcb,hS];exact k⟩
theorem zak {ops:Array Oper} {Q:List AV→St→Prop} {o:Oper} {l:List Oper} {S:List AV} {σ:St} {kb:Nat} {b:Bool} (hg:o.guard=some (kb,b))(hk:zfx ops S kb=some (some b))(k:zdd IT P W ops Q ({o with guard:=none}::l) S σ):zdd IT P W ops Q (o::l) S σ:=by
 simp only[zdd,hg]
 refine⟨some b,hk,?_⟩
 rw[if_pos rfl]
 have e:zgm IT P W {o with guard:=none} S σ=zgm IT P W o S σ:=rfl
 simp only[zdd] at k
 rw[e] at k
 exact k
end
theorem zpd {x:Int} (h1: -9223372036854775808≤x)(h2:x<9223372036854775808):IntKind.i64.wrap x=x:=by
 simp only[IntKind.wrap,IntKind.bits,IntKind.signed]
 simp
 omega
end Go.Ab
