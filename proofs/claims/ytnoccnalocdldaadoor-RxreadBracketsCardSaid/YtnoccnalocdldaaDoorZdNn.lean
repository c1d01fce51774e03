import Derived.Test.YtnoccnalocdldaaDoorZdM
set_option linter.all false
namespace Go.Ab
open Go Go.RowKit Go.Fwd
def quiet (o:Oper):Bool:=
 match o.op with
 | .alloc _| .box _ _| .store _ _ _=>false
 | .call c=>match c.callee with| .builtin .append=>false|_=>true
 |_=>true
abbrev CallP:=FuncId→List AV→Option AV
abbrev CallS:=FuncId→List AV→St→Option (AV×St)
abbrev Run:=Code→Nat→List AV→St→Option (AExit×List AV×St)
def zup (P:Program)(cp:CallP)(cs:CallS)(o:Oper)(S:List AV)(σ:St):Option (AV×St):=
 match zdj S o with
 |some (f,args)=>if zad 0 args=true then(match cp f (stripL args) with|some r=>some (r,σ)|none=>none) else(match cs f args σ with|some (r,σ')=>if σ'.out=σ.out∧σ'.stop=σ.stop then some (r,σ') else none|none=>none)
 | none=>match zdt S o with
  |some _=>none
  | none=>match aop P (zcc S) σ o with
   |some r=>some r
   |none=>zvw P (zcc S) σ o
def zwe (P:Program)(cp:CallP)(cs:CallS)(ops:Array Oper):List Oper→List AV→St→Option (List AV×St)
 |[],S,σ=>some (S,σ)
 | o ::l,S,σ=>match o.guard with
  | none=>match zup P cp cs o S σ with
   |some (a,σ')=>zwe P cp cs ops l (zy S o.dst a) σ'
   |none=>none
  | some (k,b)=>match zdp ops S k with
   | some c=>if c=some b then(match zup P cp cs o S σ with
    |some (a,σ')=>zwe P cp cs ops l (zy S o.dst a) σ'
    |none=>none) else zwe P cp cs ops l (zy S o.dst (.raw undef)) σ
   |none=>none
def zow (P:Program)(cp:CallP)(o:Oper)(S:List AV)(σ:St):Option AV:=
 match zdj S o with
 |some (f,args)=>if zad 0 args=true then cp f (stripL args) else none
 |none=>qop P (zcc S) σ o
def zqh (P:Program)(cp:CallP)(ops:Array Oper)(size:Nat)(σ:St):List Oper→List AV→Option (List AV)
 |[],S=>some S
 | o ::l,S=>if(o.dst.all fun d=>decide (d<size))=true then(match o.guard with
  | none=>match zow P cp o S σ with
   |some a=>zqh P cp ops size σ l (zy S o.dst a)
   |none=>none
  | some (k,b)=>match zdp ops S k with
   | some c=>if c=some b then(match zow P cp o S σ with
    |some a=>zqh P cp ops size σ l (zy S o.dst a)
    |none=>none) else zqh P cp ops size σ l (zy S o.dst (.raw undef))
   |none=>none) else none
def zky (P:Program)(cp:CallP)(ops:Array Oper)(size:Nat)(σ:St):List Oper→List AV→Pend→Option (List AV×Pend)
 |[],S,ps=>some (S,ps)
 | o ::l,S,ps=>if(o.dst.all fun d=>decide (d<size))=true∧(ps.all fun p=>o.dst !=some p.1)=true then(match o.guard with
  | none=>match zow P cp o S σ with
   |some a=>zky P cp ops size σ l (zy S o.dst a) ps
   | none=>match o.op,o.dst with
    | .alloc t,some d=>match zho P t with
     |some z=>zky P cp ops size σ l (S.set d .top) (ps++[(d,t,z)])
     |none=>none
    |_,_=>none
  | some (k,b)=>match zdp ops S k with
   | some c=>if c=some b then(match zow P cp o S σ with
    |some a=>zky P cp ops size σ l (zy S o.dst a) ps
    |none=>none) else zky P cp ops size σ l (zy S o.dst (.raw undef)) ps
   |none=>none) else none
def quietB (o:Oper):Bool:=match o.op with| .alloc _=>true|_=>quiet o
def findB (ops:Array Oper)(size:Nat):Option Nat:=
 let n:=(ops.toList.takeWhile quietB).length
 if chk ops size n=true then some n else none
def zrq (Ea:List AV→St→Option (AExit×List AV×St))(Eb:List AV→St→Option (AExit×List AV×St))(ps:Array Tmp)(S0:List AV)(n:Nat):List (List AV)→St→Option (AExit×List AV×St)
 |[],σ=>some (.normal,S0,σ)
 | x ::xs,σ=>match Ea (zlh S0 ps x) σ with
  | some (.normal,S1,σ1)=>(match Eb S1 σ1 with
   | some (e,S2,σ2)=>if zwb n σ2=true then(match e with
    | .normal=>zrq Ea Eb ps S0 n xs (zes n σ2)
    |e=>some (e,S0,zes n σ2)) else none
   |none=>none)
  |_=>none
def zkh (P:Program)(Ω:CallP)(E:Run)(f:FuncId)(args:List AV):Option AV:=
 match Ω f args with
 |some r=>some r
 | none=>match P.funcs[f]? with
  | some fn=>match fn.body with
   | some c=>if(zat fn args).length=fn.ntmps then(match E c fn.ntmps (zat fn args) St.empty with
    |some (.exit _,_,_)=>none
    | some (_,S,σ)=>match zba P fn σ S with
     |some a=>if zbp 0 a=true then some (zcv a) else none
     |none=>none
    |none=>none) else none
   |none=>none
  |none=>none
def zqa (P:Program)(Ψ:CallS)(E:Run)(f:FuncId)(args:List AV)(σ:St):Option (AV×St):=
 match Ψ f args σ with
 |some r=>some r
 |none=>match P.funcs[f]? with
 | some fn=>match fn.body with
  | some c=>if(zat fn args).length=fn.ntmps then(match E c fn.ntmps (zat fn args) σ with
   |some (.exit _,_,_)=>none
   | some (_,S,σ1)=>match zba P fn σ1 S with
    |some a=>if zbp σ.boxes.length a=true∧zwb σ.boxes.length σ1=true then some (a,zes σ.boxes.length σ1) else none
    |none=>none
   |none=>none) else none
  |none=>none
 |none=>none
def qjk (P:Program)(cp:CallP)(cs:CallS)(ops:Array Oper)(sz:Nat)(S:List AV)(σ:St)(n:Nat):Option (List AV×St):=
 if chk ops sz n=true then(match zqh P cp ops sz σ (ops.toList.take n) S with
  |some S1=>zwe P cp cs ops (ops.toList.drop n) S1 σ
  |none=>none) else none
def qcw (P:Program)(cp:CallP)(cs:CallS)(ops:Array Oper)(sz:Nat)(S:List AV)(σ:St):Option (List AV×St):=
 (List.range ((ops.toList.takeWhile quiet).length+1)).reverse.findSome? (qjk P cp cs ops sz S σ)
section
variable {P:Program} {cp:CallP} {cs:CallS}
def qen (P:Program)(cp:CallP):Prop:= ∀f args r,cp f args=some r→Pure (ITP P) P f args r
def qeo (P:Program)(cs:CallS):Prop:= ∀f args σ r σ',cs f args σ=some (r,σ')→Snd (ITP P) P f args σ r σ'
theorem zia (hcp:qen P cp)(hcs:qeo P cs) {o:Oper} {S:List AV} {σ σ':St} {a:AV} (h:zup P cp cs o S σ=some (a,σ')) {K:AV→St→Prop} (hK:K a σ'):zfx (ITP P) P none o S σ K:=by
 unfold zup at h
 unfold zfx
 split at h
 ·rename_i f args hc
  rw[hc]
  simp only
  split at h
  ·rename_i hok
   split at h<;>cases h
   rename_i hr
   exact⟨a,σ,.inr (.inl ⟨rfl,hok,hcp _ _ _ hr⟩),hK⟩
  ·split at h<;>try cases h
   rename_i hs
   split at h<;>cases h
   rename_i hos
   exact⟨a,σ',.inl ⟨hcs _ _ _ _ _ hs,hos⟩,hK⟩
 ·rename_i hc
  rw[hc]
  simp only
  split at h<;>try cases h
  rename_i hy
  rw[hy]
  split at h
  ·rename_i r hr
   cases h
   exact .inl ⟨a,σ',.inl hr,hK⟩
  ·exact .inl ⟨a,σ',.inr (.inr (.inl h)),hK⟩
theorem zhs (hcp:qen P cp)(hcs:qeo P cs) {ops:Array Oper}: ∀(l:List Oper) (S:List AV) (σ:St) (S':List AV) (σ':St),zwe P cp cs ops l S σ=some (S',σ')→S'.length=S.length∧ ∀Q:List AV→St→Prop,Q S' σ'→zcq (ITP P) P none ops Q l S σ
 |[],S,σ,S',σ',h=>by simp only[zwe,Option.some.injEq,Prod.mk.injEq] at h;obtain⟨rfl,rfl⟩:=h;exact⟨rfl,fun Q h=>h⟩
 | o ::l,S,σ,S',σ',h=>by
  simp only[zwe] at h
  simp only[zcq]
  cases hg:o.guard with
  | none=>
   rw[hg] at h
   simp only at h⊢
   split at h<;>try cases h
   rename_i a σ1 hs
   obtain⟨h1,h2⟩:=zhs hcp hcs l _ _ _ _ h
   exact⟨by rw[h1,zbc],fun Q hQ=>zia hcp hcs hs (h2 Q hQ)⟩
  | some kb=>
   obtain⟨k,b⟩:=kb
   rw[hg] at h
   simp only at h⊢
   split at h<;>try cases h
   rename_i c hc
   split at h
   ·rename_i e
    split at h<;>try cases h
    rename_i a σ1 hs
    obtain⟨h1,h2⟩:=zhs hcp hcs l _ _ _ _ h
    exact⟨by rw[h1,zbc],fun Q hQ=>⟨c,hc,by rw[if_pos e];exact zia hcp hcs hs (h2 Q hQ)⟩⟩
   ·rename_i e
    obtain⟨h1,h2⟩:=zhs hcp hcs l _ _ _ _ h
    exact⟨by rw[h1,zbc],fun Q hQ=>⟨c,hc,by rw[if_neg e];exact h2 Q hQ⟩⟩
theorem zgy (hcp:qen P cp) {o:Oper} {S:List AV} {σ:St} {a:AV} (h:zow P cp o S σ=some a) {K:AV→Prop} (hK:K a):zhv (ITP P) P o S σ K:=by
 unfold zow at h
 unfold zhv
 split at h
 ·rename_i f args hc
  rw[hc]
  simp only
  split at h<;>try cases h
  rename_i hok
  exact⟨a,hok,hcp _ _ _ h,hK⟩
 ·rename_i hc
  rw[hc]
  exact⟨a,.inl h,hK⟩
theorem zii (hcp:qen P cp) {ops:Array Oper} {size:Nat} {σ:St}: ∀(l:List Oper) (S S':List AV),zqh P cp ops size σ l S=some S'→S.length=size→S'.length=size∧ ∀K:List AV→Prop,K S'→zen (ITP P) P ops σ K l S
 |[],S,S',h,hl=>by simp only[zqh,Option.some.injEq] at h;subst h;exact⟨hl,fun K h=>h⟩
 | o ::l,S,S',h,hl=>by
  simp only[zqh] at h
  simp only[zen]
  split at h<;>try cases h
  rename_i hd
  cases hg:o.guard with
  | none=>
   rw[hg] at h
   simp only at h⊢
   split at h<;>try cases h
   rename_i a hs
   obtain⟨h1,h2⟩:=zii hcp l _ _ h (by rw[zbc];exact hl)
   exact⟨h1,fun K hK=>⟨by rw[hl];exact hd,.inl (zgy hcp hs (h2 K hK))⟩⟩
  | some kb=>
   obtain⟨k,b⟩:=kb
   rw[hg] at h
   simp only at h⊢
   split at h<;>try cases h
   rename_i c hc
   split at h
   ·rename_i e
    split at h<;>try cases h
    rename_i a hs
    obtain⟨h1,h2⟩:=zii hcp l _ _ h (by rw[zbc];exact hl)
    exact⟨h1,fun K hK=>⟨by rw[hl];exact hd,c,hc,by rw[if_pos e];exact .inl (zgy hcp hs (h2 K hK))⟩⟩
   ·rename_i e
    obtain⟨h1,h2⟩:=zii hcp l _ _ h (by rw[zbc];exact hl)
    exact⟨h1,fun K hK=>⟨by rw[hl];exact hd,c,hc,by rw[if_neg e];exact h2 K hK⟩⟩
theorem zfv (hcp:qen P cp) {ops:Array Oper} {size:Nat} {σ:St}: ∀(l:List Oper) (S S':List AV) (ps ps':Pend),zky P cp ops size σ l S ps=some (S',ps')→S.length=size→S'.length=size∧ ∀K:List AV→Pend→Prop,K S' ps'→zfe (ITP P) P ops σ K l S ps
 |[],S,S',ps,ps',h,hl=>by simp only[zky,Option.some.injEq,Prod.mk.injEq] at h;obtain⟨rfl,rfl⟩:=h;exact⟨hl,fun K h=>h⟩
 | o ::l,S,S',ps,ps',h,hl=>by
  simp only[zky] at h
  simp only[zfe]
  split at h<;>try cases h
  rename_i hd
  cases hg:o.guard with
  | none=>
   rw[hg] at h
   simp only at h⊢
   split at h
   ·rename_i a hs
    obtain⟨h1,h2⟩:=zfv hcp l _ _ _ _ h (by rw[zbc];exact hl)
    exact⟨h1,fun K hK=>⟨by rw[hl];exact hd.1,hd.2,.inr (zgy hcp hs (h2 K hK))⟩⟩
   ·split at h<;>try cases h
    rename_i t d ho hdst
    split at h<;>try cases h
    rename_i z hz
    obtain⟨h1,h2⟩:=zfv hcp l _ _ _ _ h (by rw[List.length_set];exact hl)
    exact⟨h1,fun K hK=>⟨by rw[hl];exact hd.1,hd.2,.inl ⟨trivial,t,d,z,ho,hdst,hz,h2 K hK⟩⟩⟩
  | some kb=>
   obtain⟨k,b⟩:=kb
   rw[hg] at h
   simp only at h⊢
   split at h<;>try cases h
   rename_i c hc
   split at h
   ·rename_i e
    split at h<;>try cases h
    rename_i a hs
    obtain⟨h1,h2⟩:=zfv hcp l _ _ _ _ h (by rw[zbc];exact hl)
    exact⟨h1,fun K hK=>⟨by rw[hl];exact hd.1,hd.2,.inr ⟨c,hc,by rw[if_pos e];exact zgy hcp hs (h2 K hK)⟩⟩⟩
   ·rename_i e
    obtain⟨h1,h2⟩:=zfv hcp l _ _ _ _ h (by rw[zbc];exact hl)
    exact⟨h1,fun K hK=>⟨by rw[hl];exact hd.1,hd.2,.inr ⟨c,hc,by rw[if_neg e];exact h2 K hK⟩⟩⟩
theorem zqc: ∀(ps:Pend) (n:Nat) (S:List AV),(zmh n ps S).length=S.length
 |[],n,S=>rfl
 |p::ps,n,S=>by rw[zmh,zqc ps,List.length_set]
theorem zyr (S:List AV)(ps:Array Tmp)(x:List AV):(zlh S ps x).length=S.length:=by
 unfold zlh
 generalize ps.toList.zip x=l
 induction l generalizing S with
 |nil=>rfl
 |cons p l ih=>rw[List.foldl_cons,ih];simp
theorem zno {asg body:Code} {Ea Eb:List AV→St→Option (AExit×List AV×St)} {ps:Array Tmp} {S0:List AV} {n:Nat}
 (ha: ∀S σ e S' σ',S.length=S0.length→Ea S σ=some (e,S',σ')→S'.length=S0.length∧ ∀(k:Nat) (Q:AQ),Q e S' σ'→awp (ITP P) P none k asg Q S σ)
 (hb: ∀S σ e S' σ',S.length=S0.length→Eb S σ=some (e,S',σ')→ ∀(k:Nat) (Q:AQ),Q e S' σ'→awp (ITP P) P none k body Q S σ):
 ∀(xs:List (List AV)) (σ:St) (e:AExit) (S':List AV) (σ':St),zrq Ea Eb ps S0 n xs σ=some (e,S',σ')→S'=S0∧ ∀Q:AQ,Q e S' σ'→zev (fun k=>awp (ITP P) P none k asg) (fun k=>awp (ITP P) P none k body) ps S0 Q n xs σ
 |[],σ,e,S',σ',h=>by simp only[zrq,Option.some.injEq,Prod.mk.injEq] at h;obtain⟨rfl,rfl,rfl⟩:=h;exact⟨rfl,fun Q h=>h⟩
 | x::xs,σ,e,S',σ',h=>by
  simp only[zrq] at h
  split at h<;>try cases h
  rename_i S1 σ1 ha1
  split at h<;>try cases h
  rename_i e2 S2 σ2 hb2
  split at h<;>try cases h
  rename_i hok2
  obtain⟨a1,a3⟩:=ha _ _ _ _ _ (zyr _ _ _) ha1
  simp only[zev]
  cases e2 with
  | normal=>
   simp only at h
   obtain⟨h1,h2⟩:=zno ha hb xs _ _ _ _ h
   exact⟨h1,fun Q hQ=>a3 _ _ (hb _ _ _ _ _ a1 hb2 _ _ ⟨hok2,h2 Q hQ⟩)⟩
  | exit id=>
   simp only[Option.some.injEq,Prod.mk.injEq] at h
   obtain⟨rfl,rfl,rfl⟩:=h
   exact⟨rfl,fun Q hQ=>a3 _ _ (hb _ _ _ _ _ a1 hb2 _ _ ⟨hok2,hQ⟩)⟩
  | ret=>
   simp only[Option.some.injEq,Prod.mk.injEq] at h
   obtain⟨rfl,rfl,rfl⟩:=h
   exact⟨rfl,fun Q hQ=>a3 _ _ (hb _ _ _ _ _ a1 hb2 _ _ ⟨hok2,hQ⟩)⟩
end
structure Good (P:Program)(Ω:CallP)(Ψ:CallS):Prop where
 mix:P.follows .mixedOrders=true
 ent: ∀(f:Nat) fn,P.funcs[f]? =some fn→fn.body.isSome=true→Ent P f
 oracle:qen P Ω
 oracleS:qeo P Ψ
def awpT (P:Program)(c:Code)(Q:AQ)(S:List AV)(σ:St):Prop:= ∀k,awp (ITP P) P none k c Q S σ
theorem zdf {P:Program} {c:Code} {Q:AQ} {S:List AV} {σ:St} {k:Nat} (h:awpT P c Q S σ):awp (ITP P) P none k c Q S σ:=h k
def EvOk (P:Program)(E:Run):Prop:= ∀c sz S σ e S' σ',E c sz S σ=some (e,S',σ')→S.length=sz→S'.length=sz∧ ∀Q:AQ,Q e S' σ'→awpT P c Q S σ
theorem zsj {P:Program} {Ω:CallP} {Ψ:CallS} (hG:Good P Ω Ψ) {E:Run} (hE:EvOk P E):qen P (zkh P Ω E):=by
 intro f args r h
 unfold zkh at h
 split at h
 ·rename_i r' ho
  cases h
  exact hG.oracle _ _ _ ho
 ·split at h<;>try cases h
  rename_i fn hf
  split at h<;>try cases h
  rename_i c hb
  split at h<;>try cases h
  rename_i hl
  have fin: ∀e S σ,(e= .normal∨e= .ret)→E c fn.ntmps (zat fn args) St.empty=some (e,S,σ)→(match zba P fn σ S with|some a=>if zbp 0 a=true then some (zcv a) else none|none=>none)=some r→Pure (ITP P) P f args r:=fun e S σ he h1 h2=>by
   split at h2<;>try cases h2
   rename_i a ha
   split at h2<;>cases h2
   rename_i hok
   obtain⟨_,h3⟩:=hE _ _ _ _ _ _ _ h1 hl
   refine zik hG.mix hf hb (hG.ent f fn hf (by rw[hb];rfl)) (zdf (h3 _ ?_))
   rcases he with rfl|rfl<;>exact⟨a,ha,zun hok rfl⟩
  split at h
  ·cases h
  ·rename_i e S σ hne he
   refine fin e S σ ?_ he h
   cases e with
   |normal=>exact .inl rfl
   |ret=>exact .inr rfl
   |exit id=>exact absurd rfl (hne id)
  ·cases h
theorem z1k {P:Program} {Ω:CallP} {Ψ:CallS} (hG:Good P Ω Ψ) {E:Run} (hE:EvOk P E):qeo P (zqa P Ψ E):=by
 intro f args σ r σ' h
 unfold zqa at h
 split at h
 ·rename_i r0 hr0
  cases h
  exact hG.oracleS _ _ _ _ _ hr0
 split at h<;>try cases h
 rename_i fn hf
 split at h<;>try cases h
 rename_i c hb
 split at h<;>try cases h
 rename_i hl
 have fin: ∀e S σ1,(e= .normal∨e= .ret)→E c fn.ntmps (zat fn args) σ=some (e,S,σ1)→(match zba P fn σ1 S with|some a=>if zbp σ.boxes.length a=true∧zwb σ.boxes.length σ1=true then some (a,zes σ.boxes.length σ1) else none|none=>none)=some (r,σ')→Snd (ITP P) P f args σ r σ':=fun e S σ1 he h1 h2=>by
  split at h2<;>try cases h2
  rename_i a ha
  split at h2<;>cases h2
  rename_i hok
  obtain⟨_,h3⟩:=hE _ _ _ _ _ _ _ h1 hl
  refine z9z hG.mix hf hb (hG.ent f fn hf (by rw[hb];rfl)) (zdf (h3 _ ?_))
  rcases he with rfl|rfl<;>exact⟨r,ha,qee hok.1 hok.2 rfl rfl⟩
 split at h
 ·cases h
 ·rename_i e S σ1 hne he
  refine fin e S σ1 ?_ he h
  cases e with
  |normal=>exact .inl rfl
  |ret=>exact .inr rfl
  |exit id=>exact absurd rfl (hne id)
 ·cases h
theorem qfo {ops:Array Oper} {size n:Nat} (h:findB ops size=some n):chk ops size n=true:=by
 unfold findB at h
 simp only at h
 split at h
 ·rename_i hc;cases h;exact hc
 ·cases h
theorem z0o {P:Program} {cp:CallP} {cs:CallS} {ops:Array Oper} {sz:Nat} {S:List AV} {σ:St} {r:List AV×St} (h:qcw P cp cs ops sz S σ=some r):
 ∃n,chk ops sz n=true∧ ∃S1,zqh P cp ops sz σ (ops.toList.take n) S=some S1∧zwe P cp cs ops (ops.toList.drop n) S1 σ=some r:=by
 obtain⟨n,_,h⟩:=List.exists_of_findSome?_eq_some h
 unfold qjk at h
 split at h<;>try cases h
 rename_i hc
 split at h<;>try cases h
 rename_i S1 hh
 exact⟨n,hc,S1,hh,h⟩
abbrev DSt:=Array Bool×List AV×St
def zol (P:Program)(Ψ:CallS)(cp:CallP)(cs:CallS)(o:Oper)(S:List AV)(σ:St):Option (AV×St):=
 match zdj S o with
 | some (f,args)=>(match Ψ f args σ with
  |some (r,σ')=>if σ'.out=σ.out∧σ'.stop=σ.stop then some (r,σ') else none
  |none=>zup P cp cs o S σ)
 |none=>zup P cp cs o S σ
theorem zha {P:Program} {cp:CallP} {cs Ψ:CallS} (hΨ:qeo P Ψ)(hcp:qen P cp)(hcs:qeo P cs) {o:Oper} {S:List AV} {σ σ':St} {a:AV} (h:zol P Ψ cp cs o S σ=some (a,σ')) {K:AV→St→Prop} (hK:K a σ'):zfx (ITP P) P none o S σ K:=by
 unfold zol at h
 split at h
 ·rename_i f args hc
  split at h
  ·rename_i r τ hr
   split at h
   ·rename_i hos
    cases h
    unfold zfx
    rw[hc]
    exact⟨a,σ',.inl ⟨hΨ _ _ _ _ _ hr,hos⟩,hK⟩
   ·cases h
  ·exact zia hcp hcs h hK
 ·exact zia hcp hcs h hK
def zoi (P:Program)(Ψ:CallS)(cp:CallP)(cs:CallS)(ops:Array Oper):List Oper→List AV→St→Option (List AV×St)
 |[],S,σ=>some (S,σ)
 | o ::l,S,σ=>match o.guard with
  | none=>match zol P Ψ cp cs o S σ with
   |some (a,σ')=>zoi P Ψ cp cs ops l (zy S o.dst a) σ'
   |none=>none
  | some (k,b)=>match zdp ops S k with
   | some c=>if c=some b then(match zol P Ψ cp cs o S σ with
    |some (a,σ')=>zoi P Ψ cp cs ops l (zy S o.dst a) σ'
    |none=>none) else zoi P Ψ cp cs ops l (zy S o.dst (.raw undef)) σ
   |none=>none
theorem zff {P:Program} {cp:CallP} {cs Ψ:CallS} (hΨ:qeo P Ψ)(hcp:qen P cp)(hcs:qeo P cs) {ops:Array Oper}: ∀(l:List Oper) (S:List AV) (σ:St) (S':List AV) (σ':St),zoi P Ψ cp cs ops l S σ=some (S',σ')→S'.length=S.length∧ ∀Q:List AV→St→Prop,Q S' σ'→zcq (ITP P) P none ops Q l S σ
 |[],S,σ,S',σ',h=>by simp only[zoi,Option.some.injEq,Prod.mk.injEq] at h;obtain⟨rfl,rfl⟩:=h;exact⟨rfl,fun Q h=>h⟩
 | o ::l,S,σ,S',σ',h=>by
  simp only[zoi] at h
  simp only[zcq]
  cases hg:o.guard with
  | none=>
   rw[hg] at h
   simp only at h⊢
   split at h<;>try cases h
   rename_i a σ1 hs
   obtain⟨h1,h2⟩:=zff hΨ hcp hcs l _ _ _ _ h
   exact⟨by rw[h1,zbc],fun Q hQ=>zha hΨ hcp hcs hs (h2 Q hQ)⟩
  | some kb=>
   obtain⟨k,b⟩:=kb
   rw[hg] at h
   simp only at h⊢
   split at h<;>try cases h
   rename_i c hc
   split at h
   ·rename_i e
    split at h<;>try cases h
    rename_i a σ1 hs
    obtain⟨h1,h2⟩:=zff hΨ hcp hcs l _ _ _ _ h
    exact⟨by rw[h1,zbc],fun Q hQ=>⟨c,hc,by rw[if_pos e];exact zha hΨ hcp hcs hs (h2 Q hQ)⟩⟩
   ·rename_i e
    obtain⟨h1,h2⟩:=zff hΨ hcp hcs l _ _ _ _ h
    exact⟨by rw[h1,zbc],fun Q hQ=>⟨c,hc,by rw[if_neg e];exact h2 Q hQ⟩⟩
def evAt (P:Program)(Ψ:CallS)(cp:CallP)(cs:CallS)(ops:Array Oper)(x:DSt)(i:Nat):Option DSt:=
 match ops[i]? with
 |none=>some (x.1.setIfInBounds i true,x.2.1,x.2.2)
 | some o=>match o.guard with
  | none=>(match zol P Ψ cp cs o x.2.1 x.2.2 with
   |some (a,σ')=>some (x.1.setIfInBounds i true,zy x.2.1 o.dst a,σ')
   |none=>none)
  | some (j,b)=>(match zdp ops x.2.1 j with
   | some c=>if c=some b then(match zol P Ψ cp cs o x.2.1 x.2.2 with
    |some (a,σ')=>some (x.1.setIfInBounds i true,zy x.2.1 o.dst a,σ')
    |none=>none) else some (x.1.setIfInBounds i true,zy x.2.1 o.dst (.raw undef),x.2.2)
   |none=>none)
def qgw (l:List Bool):List DSt→Option DSt
 |[]=>none
 |y::L=>if y.1.toList==l then some y else qgw l L
def ddup:List DSt→List DSt→Option (List DSt)
 |[],H=>some H
 | y::G,H=>match qgw y.1.toList H with
  |some z=>if zmi y.2.1 z.2.1&&eqSt y.2.2 z.2.2 then ddup G H else none
  |none=>ddup G (y::H)
def mapO {α β:Type} (f:α→Option β):List α→Option (List β)
 |[]=>some []
 | x::l=>match f x,mapO f l with
  |some y,some m=>some (y::m)
  |_,_=>none
theorem zwr {α β:Type} {f:α→Option β}: ∀ {l:List α} {m:List β},mapO f l=some m→ ∀x∈l,∃y∈m,f x=some y
 |[],_,_,x,hx=>nomatch hx
 | a::l,m,h,x,hx=>by
  simp only[mapO] at h
  split at h<;>cases h
  rename_i y m2 h1 h2
  rcases List.mem_cons.1 hx with rfl|hx
  ·exact⟨y,List.mem_cons_self ..,h1⟩
  ·obtain⟨z,hz,hf⟩:=zwr h2 x hx
   exact⟨z,List.mem_cons_of_mem _ hz,hf⟩
def succ1 (P:Program)(Ψ:CallS)(cp:CallP)(cs:CallS)(ops:Array Oper)(x:DSt):Option (List DSt):=mapO (evAt P Ψ cp cs ops x) (Region.ready .any ops x.1)
def evD (P:Program)(Ψ:CallS)(cp:CallP)(cs:CallS)(ops:Array Oper)(r:List AV×St):Nat→List DSt→Bool
 |0,F=>F.all fun x=>(Region.ready .any ops x.1).isEmpty&&zmi x.2.1 r.1&&eqSt x.2.2 r.2
 | k+1,F=>(F.all fun x=> !(Region.ready .any ops x.1).isEmpty||(zmi x.2.1 r.1&&eqSt x.2.2 r.2))&&(match mapO (succ1 P Ψ cp cs ops) F with
  |none=>false
  | some G=>match ddup G.flatten [] with
   |none=>false
   |some H=>evD P Ψ cp cs ops r k H)
theorem zyx {l:List Bool}: ∀ {L:List DSt} {z:DSt},qgw l L=some z→z∈L∧z.1.toList=l
 |[],_,h=>nomatch h
 | y::L,z,h=>by
  rw[qgw] at h
  split at h
  ·rename_i e;cases h;exact⟨List.mem_cons_self ..,by simpa using e⟩
  ·obtain⟨h1,h2⟩:=zyx h;exact⟨List.mem_cons_of_mem _ h1,h2⟩
theorem zwo: ∀ {G H K:List DSt},ddup G H=some K→(∀y∈G,y∈K)∧ ∀y∈H,y∈K
 |[],H,K,h=>by simp only[ddup,Option.some.injEq] at h;subst h;exact⟨fun y hy=>(nomatch hy),fun y hy=>hy⟩
 | y ::G,H,K,h=>by
  rw[ddup] at h
  split at h
  ·rename_i z hz
   split at h
   ·rename_i e
    simp only[Bool.and_eq_true] at e
    obtain⟨h1,h2⟩:=zwo h
    obtain⟨m1,m2⟩:=zyx hz
    have:y=z:=by
     obtain⟨⟨y1⟩,y2,y3⟩:=y
     obtain⟨⟨z1⟩,z2,z3⟩:=z
     simp only at m2 e
     rw[m2,zfp _ _ e.1,z3h e.2]
    exact⟨fun x hx=>(List.mem_cons.1 hx).elim (fun e=>by rw[e,this];exact h2 _ m1) (h1 x),h2⟩
   ·cases h
  ·obtain⟨h1,h2⟩:=zwo h
   exact⟨fun x hx=>(List.mem_cons.1 hx).elim (fun e=>by rw[e];exact h2 _ (List.mem_cons_self ..)) (h1 x),fun x hx=>h2 x (List.mem_cons_of_mem _ hx)⟩
variable {P:Program} {cp:CallP} {cs Ψ:CallS}
theorem z0n (hΨ:qeo P Ψ)(hcp:qen P cp)(hcs:qeo P cs) {ops:Array Oper} {r:List AV×St} {Q:List AV→St→Prop} (hQ:Q r.1 r.2):
 ∀(k:Nat) (F:List DSt),evD P Ψ cp cs ops r k F=true→ ∀x∈F,zqt (ITP P) P none ops Q k x.1 x.2.1 x.2.2
 | 0,F,h,x,hx=>by
  have h:=List.all_eq_true.1 h x hx
  simp only[Bool.and_eq_true,List.isEmpty_iff] at h
  refine⟨h.1.1,?_⟩
  rw[zfp _ _ h.1.2,z3h h.2];exact hQ
 | k + 1,F,h,x,hx=>by
  simp only[evD,Bool.and_eq_true] at h
  have h1:=List.all_eq_true.1 h.1 x hx
  have h2:=h.2
  split at h2
  ·cases h2
  rename_i G hG
  split at h2
  ·cases h2
  rename_i H hH
  obtain⟨d1,_⟩:=zwo hH
  have ih:=z0n hΨ hcp hcs hQ k H h2
  refine⟨fun he=> ?_,fun i hi=> ?_⟩
  ·rw[he] at h1
   simp only[List.isEmpty_nil,Bool.not_true,Bool.false_or,Bool.and_eq_true] at h1
   rw[zfp _ _ h1.1,z3h h1.2];exact hQ
  ·obtain⟨m,hm,hs⟩:=zwr hG x hx
   obtain⟨y,hy,he⟩:=zwr hs i hi
   have hyK:=ih y (d1 y (List.mem_flatten.2 ⟨m,hm,hy⟩))
   unfold evAt at he
   unfold zvu
   cases ho:ops[i]? with
   |none=>rw[ho] at he;cases he;exact hyK
   | some o=>
    rw[ho] at he
    simp only at he⊢
    cases hg:o.guard with
    | none=>
     rw[hg] at he
     simp only at he⊢
     split at he
     ·rename_i a σ1 hs1
      cases he
      exact zha hΨ hcp hcs hs1 hyK
     ·cases he
    | some kb=>
     obtain⟨j,b⟩:=kb
     rw[hg] at he
     simp only at he⊢
     split at he
     ·rename_i c hc
      refine⟨c,hc,?_⟩
      split at he
      ·rename_i e
       rw[if_pos e]
       split at he
       ·rename_i a σ1 hs1
        cases he
        exact zha hΨ hcp hcs hs1 hyK
       ·cases he
      ·rename_i e
       rw[if_neg e]
       cases he
       exact hyK
     ·cases he
def evQ (H:Bool)(P:Program)(Ω:CallP)(Ψ:CallS):Nat→Run
 |0,_,_,_,_=>none
 | k + 1,c,sz,S,σ=>match c with
  | .skip=>some (.normal,S,σ)
  | .seq x y=>match evQ H P Ω Ψ k x sz S σ with
   |some (.normal,S1,σ1)=>evQ H P Ω Ψ k y sz S1 σ1
   |r=>r
  | .cond c x y=>match zcc S c with
   | .raw (.bool t)=>if t=true then evQ H P Ω Ψ k x sz S σ else evQ H P Ω Ψ k y sz S σ
   |_=>none
  | .block id x=>match evQ H P Ω Ψ k x sz S σ with
   |some (.exit j,S1,σ1)=>if j=id then some (.normal,S1,σ1) else some (.exit j,S1,σ1)
   |r=>r
  | .exit id=>some (.exit id,S,σ)
  | .label _=>some (.normal,S,σ)
  | .scope x=>evQ H P Ω Ψ k x sz S σ
  | .ret=>some (.ret,S,σ)
  | .loop x=>match evQ H P Ω Ψ k x sz S σ with
   |some (.normal,S1,σ1)=>evQ H P Ω Ψ k (.loop x) sz S1 σ1
   |r=>r
  | .region _ ops false=>match zoi P Ψ (zkh P Ω (evQ H P Ω Ψ k)) (zqa P Ψ (evQ H P Ω Ψ k)) ops ops.toList S σ with
   |some (S1,σ1)=>some (.normal,S1,σ1)
   |none=>none
  | .region _ ops true=>if zth ops.toList=true then(match(if H=true then qcw P (zkh P Ω (evQ H P Ω Ψ k)) (zqa P Ψ (evQ H P Ω Ψ k)) ops sz S σ else none) with
   |some (S2,σ2)=>some (.normal,S2,σ2)
   | none=>match(if H=true then findB ops sz else none) with
    | some n=>(match zky P (zkh P Ω (evQ H P Ω Ψ k)) ops sz σ (ops.toList.take n) S [] with
     | some (S1,ps)=>match zwe P (zkh P Ω (evQ H P Ω Ψ k)) (zqa P Ψ (evQ H P Ω Ψ k)) ops (ops.toList.drop n) (zmh σ.boxes.length ps S1) (zpq σ ps) with
      |some (S2,σ2)=>some (.normal,S2,σ2)
      |none=>none
     |none=>none)
    | none=>match zoi P Ψ (zkh P Ω (evQ H P Ω Ψ k)) (zqa P Ψ (evQ H P Ω Ψ k)) ops ops.toList S σ with
     |some r=>if evD P Ψ (zkh P Ω (evQ H P Ω Ψ k)) (zqa P Ψ (evQ H P Ω Ψ k)) ops r ops.size [(Array.replicate ops.size false,S,σ)]=true then some (.normal,r.1,r.2) else none
     |none=>none) else none
  | .rangeFunc f ps asg body=>match zcc S f with
   | .iter xs=>if Nat.ble ps.size 8=true∧(xs.all fun x=>decide (x.length=ps.size))=true∧zcn asg=true then zrq (evQ H P Ω Ψ k asg sz) (evQ H P Ω Ψ k body sz) ps S σ.boxes.length xs σ else none
   |_=>none
  |_=>none
theorem zte {H:Bool} {P:Program} {Ω:CallP} {Ψ:CallS} (hG:Good P Ω Ψ): ∀k,EvOk P (evQ H P Ω Ψ k)
 |0=>fun c sz S σ e S' σ' h=>by simp[evQ] at h
 | k + 1=>by
  have ih:=zte (H:=H) hG k
  have hcp:=zsj hG ih
  have hcs:=z1k hG ih
  intro c sz S σ e S' σ' h hl
  cases c with
  |skip=>simp only[evQ,Option.some.injEq,Prod.mk.injEq] at h;obtain⟨rfl,rfl,rfl⟩:=h;exact⟨hl,fun Q h j=>h⟩
  |label id=>simp only[evQ,Option.some.injEq,Prod.mk.injEq] at h;obtain⟨rfl,rfl,rfl⟩:=h;exact⟨hl,fun Q h j=>h⟩
  |scope x=>simp only[evQ] at h;obtain⟨l1,h1⟩:=ih _ _ _ _ _ _ _ h hl;exact⟨l1,fun Q hQ j=>show awp (ITP P) P none j x Q S σ from zdf (h1 Q hQ)⟩
  |exit id=>simp only[evQ,Option.some.injEq,Prod.mk.injEq] at h;obtain⟨rfl,rfl,rfl⟩:=h;exact⟨hl,fun Q h j=>h⟩
  |ret=>simp only[evQ,Option.some.injEq,Prod.mk.injEq] at h;obtain⟨rfl,rfl,rfl⟩:=h;exact⟨hl,fun Q h j=>h⟩
  | seq x y=>
   simp only[evQ] at h
   split at h
   ·rename_i S1 σ1 hx
    obtain⟨l1,h1⟩:=ih _ _ _ _ _ _ _ hx hl
    obtain⟨l2,h2⟩:=ih _ _ _ _ _ _ _ h l1
    exact⟨l2,fun Q hQ j=>show awp (ITP P) P none j x (ztz _ Q) S σ∨_ from .inl (zdf (h1 _ ⟨S1,σ1,Wk.refl _ _ _,zdf (h2 Q hQ)⟩))⟩
   ·rename_i hne
    obtain⟨l1,h1⟩:=ih _ _ _ _ _ _ _ h hl
    refine⟨l1,fun Q hQ j=>show awp (ITP P) P none j x (ztz _ Q) S σ∨_ from .inl (zdf (h1 _ ?_))⟩
    cases e with
    |normal=>exact absurd h (hne S' σ')
    |exit id=>exact hQ
    |ret=>exact hQ
  | cond c x y=>
   simp only[evQ] at h
   split at h<;>try cases h
   rename_i t ht
   cases t with
   |true=>obtain⟨l1,h1⟩:=ih _ _ _ _ _ _ _ h hl;exact⟨l1,fun Q hQ j=>⟨true,ht,zdf (h1 Q hQ)⟩⟩
   |false=>obtain⟨l1,h1⟩:=ih _ _ _ _ _ _ _ h hl;exact⟨l1,fun Q hQ j=>⟨false,ht,zdf (h1 Q hQ)⟩⟩
  | block id x=>
   simp only[evQ] at h
   split at h
   ·rename_i j S1 σ1 hx
    obtain⟨l1,h1⟩:=ih _ _ _ _ _ _ _ hx hl
    split at h
    ·rename_i hj
     simp only[Option.some.injEq,Prod.mk.injEq] at h;obtain⟨rfl,rfl,rfl⟩:=h
     exact⟨l1,fun Q hQ j=>show awp (ITP P) P none j x (zil σ.lens.length j id Q) S σ∨_ from .inl (zdf (h1 _ (by simp only[zil];rw[if_pos hj];exact .inl hQ)))⟩
    ·rename_i hj
     simp only[Option.some.injEq,Prod.mk.injEq] at h;obtain⟨rfl,rfl,rfl⟩:=h
     exact⟨l1,fun Q hQ j=>show awp (ITP P) P none j x (zil σ.lens.length j id Q) S σ∨_ from .inl (zdf (h1 _ (by simp only[zil];rw[if_neg hj];exact hQ)))⟩
   ·rename_i hne
    obtain⟨l1,h1⟩:=ih _ _ _ _ _ _ _ h hl
    refine⟨l1,fun Q hQ j=>show awp (ITP P) P none j x (zil σ.lens.length j id Q) S σ∨_ from .inl (zdf (h1 _ ?_))⟩
    cases e with
    |normal=>exact .inl hQ
    |exit j=>exact absurd h (hne j S' σ')
    |ret=>exact hQ
  | loop x=>
   simp only[evQ] at h
   split at h
   ·rename_i S1 σ1 hx
    obtain⟨l1,h1⟩:=ih _ _ _ _ _ _ _ hx hl
    obtain⟨l2,h2⟩:=ih _ _ _ _ _ _ _ h l1
    refine⟨l2,fun Q hQ j=> ?_⟩
    obtain⟨m,hm⟩:=h2 Q hQ j
    exact⟨m+1,S,σ,Wk.refl _ _ _,zdf (k:=j) (h1 _ hm)⟩
   ·rename_i hne
    obtain⟨l1,h1⟩:=ih _ _ _ _ _ _ _ h hl
    refine⟨l1,fun Q hQ j=>⟨1,S,σ,Wk.refl _ _ _,zdf (k:=j) (h1 _ ?_)⟩⟩
    cases e with
    |normal=>exact absurd h (hne S' σ')
    |exit id=>exact hQ
    |ret=>exact hQ
  | region id ops draw=>
   cases draw with
   | false=>
    simp only[evQ] at h
    split at h<;>try cases h
    rename_i ho
    obtain⟨l1,h1⟩:=zff hG.oracleS hcp hcs _ _ _ _ _ ho
    exact⟨l1.trans hl,fun Q hQ j=>h1 _ hQ⟩
   | true=>
    simp only[evQ] at h
    split at h
    rotate_left
    ·cases h
    rename_i hnd
    split at h
    ·rename_i S2 σ2 hd
     cases h
     split at hd
     rotate_left
     ·cases hd
     obtain⟨n,hc,S1,hh,ho⟩:=z0o hd
     obtain⟨l1,h1⟩:=zii hcp _ _ _ hh hl
     obtain⟨l2,h2⟩:=zhs hcp hcs _ _ _ _ _ ho
     exact⟨l2.trans l1,fun Q hQ j=> .inl ⟨n,by rw[hl];exact hc,hnd,h1 _ (h2 _ hQ)⟩⟩
    ·split at h
     ·rename_i n hn
      split at hn
      rotate_left
      ·cases hn
      split at h<;>try cases h
      rename_i S1 ps hh
      split at h<;>try cases h
      rename_i ho
      obtain⟨l1,h1⟩:=zfv hcp _ _ _ _ _ hh hl
      obtain⟨l2,h2⟩:=zhs hcp hcs _ _ _ _ _ ho
      exact⟨l2.trans ((zqc _ _ _).trans l1),fun Q hQ j=> .inr (.inl ⟨n,by rw[hl];exact qfo hn,hnd,h1 _ (h2 _ hQ)⟩)⟩
     ·split at h
      rotate_left
      ·cases h
      rename_i r ho
      split at h
      rotate_left
      ·cases h
      rename_i ha
      cases h
      obtain⟨l2,h2⟩:=zff hG.oracleS hcp hcs _ _ _ r.1 r.2 ho
      exact⟨l2.trans hl,fun Q hQ j=> .inr (.inr (.inl (z0n hG.oracleS hcp hcs hQ _ _ ha _ (List.mem_cons_self ..))))⟩
  | rangeFunc f ps asg body=>
   simp only[evQ] at h
   split at h<;>try(cases h;done)
   rename_i xs hf
   split at h
   rotate_left
   ·cases h
   rename_i hc
   obtain⟨h1,h2⟩:=zno (P:=P) (asg:=asg) (body:=body) (S0:=S) (fun S1 σ1 e1 S1' σ1' hl1 h1=>by obtain⟨k1,k2⟩:=ih _ _ _ _ _ _ _ h1 (hl1.trans hl);exact⟨k1.trans hl.symm,fun k Q hQ=>zdf (k2 Q hQ)⟩) (fun S1 σ1 e1 S1' σ1' hl1 h1 k Q hQ=>zdf ((ih _ _ _ _ _ _ _ h1 (hl1.trans hl)).2 Q hQ)) xs σ e S' σ' h
   exact⟨by rw[h1];exact hl,fun Q hQ j=> .inl ⟨xs,hf,hc.1,hc.2.1,hc.2.2,h2 Q hQ⟩⟩
  |_=>simp[evQ] at h
theorem zcy (H:Bool) {P:Program} {Ω:CallP} {Ψ:CallS} (hG:Good P Ω Ψ)(k:Nat) {f:FuncId} {args:List AV} {r:AV} (h:zkh P Ω (evQ H P Ω Ψ k) f args=some r):Pure (ITP P) P f args r:=zsj hG (zte (H:=H) hG k) f args r h
end Go.Ab
