/-
  Bounds of a Repeat as a typed value; their equality.
-/
import Derived.Test.YtfkkellnlmjenaaGreatRows
import Derived.Test.YtfkkellnlmjenaaGreatZeP
set_option linter.unusedSimpArgs false
set_option linter.unusedVariables false
namespace Go.Ab
open Go Go.RowKit Go.Fwd
abbrev DSt:=Array Bool×List AV×St
def zqg (P:Program)(Ψ:CallS)(cp:CallP)(cs:CallS)(o:Oper)(S:List AV)(σ:St):Option (AV×St):=
 match zee S o with
 | some (f,args)=>(match Ψ f args σ with
  |some (r,σ')=>if σ'.out=σ.out∧σ'.stop=σ.stop then some (r,σ') else none
  |none=>zwu P cp cs o S σ)
 |none=>zwu P cp cs o S σ
theorem zii {P:Program} {cp:CallP} {cs Ψ:CallS} (hΨ:qds P Ψ)(hcp:qkx P cp)(hcs:qds P cs) {o:Oper} {S:List AV} {σ σ':St} {a:AV} (h:zqg P Ψ cp cs o S σ=some (a,σ')) {K:AV→St→Prop} (hK:K a σ'):zgm (ITP P) P none o S σ K:=by
 unfold zqg at h
 split at h
 ·rename_i f args hc
  split at h
  ·rename_i r τ hr
   split at h
   ·rename_i hos
    cases h
    unfold zgm
    rw[hc]
    exact⟨a,σ',.inl ⟨hΨ _ _ _ _ _ hr,hos⟩,hK⟩
   ·cases h
  ·exact zjn hcp hcs h hK
 ·exact zjn hcp hcs h hK
def zrq (P:Program)(Ψ:CallS)(cp:CallP)(cs:CallS)(ops:Array Oper):List Oper→List AV→St→Option (List AV×St)
 |[],S,σ=>some (S,σ)
 | o ::l,S,σ=>match o.guard with
  | none=>match zqg P Ψ cp cs o S σ with
   |some (a,σ')=>zrq P Ψ cp cs ops l (zab S o.dst a) σ'
   |none=>none
  | some (k,b)=>match zfx ops S k with
   | some c=>if c=some b then(match zqg P Ψ cp cs o S σ with
    |some (a,σ')=>zrq P Ψ cp cs ops l (zab S o.dst a) σ'
    |none=>none) else zrq P Ψ cp cs ops l (zab S o.dst (.raw undef)) σ
   |none=>none
theorem zia {P:Program} {cp:CallP} {cs Ψ:CallS} (hΨ:qds P Ψ)(hcp:qkx P cp)(hcs:qds P cs) {ops:Array Oper}: ∀(l:List Oper) (S:List AV) (σ:St) (S':List AV) (σ':St),zrq P Ψ cp cs ops l S σ=some (S',σ')→S'.length=S.length∧ ∀Q:List AV→St→Prop,Q S' σ'→zdd (ITP P) P none ops Q l S σ
 |[],S,σ,S',σ',h=>by simp only[zrq,Option.some.injEq,Prod.mk.injEq] at h;obtain⟨rfl,rfl⟩:=h;exact⟨rfl,fun Q h=>h⟩
 | o ::l,S,σ,S',σ',h=>by
  simp only[zrq] at h
  simp only[zdd]
  cases hg:o.guard with
  | none=>
   rw[hg] at h
   simp only at h⊢
   split at h<;>try cases h
   rename_i a σ1 hs
   obtain⟨h1,h2⟩:=zia hΨ hcp hcs l _ _ _ _ h
   exact⟨by rw[h1,zbn],fun Q hQ=>zii hΨ hcp hcs hs (h2 Q hQ)⟩
  | some kb=>
   obtain⟨k,b⟩:=kb
   rw[hg] at h
   simp only at h⊢
   split at h<;>try cases h
   rename_i c hc
   split at h
   ·rename_i e
    split at h<;>try cases h
    rename_i a σ1 hs
    obtain⟨h1,h2⟩:=zia hΨ hcp hcs l _ _ _ _ h
    exact⟨by rw[h1,zbn],fun Q hQ=>⟨c,hc,by rw[if_pos e];exact zii hΨ hcp hcs hs (h2 Q hQ)⟩⟩
   ·rename_i e
    obtain⟨h1,h2⟩:=zia hΨ hcp hcs l _ _ _ _ h
    exact⟨by rw[h1,zbn],fun Q hQ=>⟨c,hc,by rw[if_neg e];exact h2 Q hQ⟩⟩
def evAt (P:Program)(Ψ:CallS)(cp:CallP)(cs:CallS)(ops:Array Oper)(x:DSt)(i:Nat):Option DSt:=
 match ops[i]? with
 |none=>some (x.1.setIfInBounds i true,x.2.1,x.2.2)
 | some o=>match o.guard with
  | none=>(match zqg P Ψ cp cs o x.2.1 x.2.2 with
   |some (a,σ')=>some (x.1.setIfInBounds i true,zab x.2.1 o.dst a,σ')
   |none=>none)
  | some (j,b)=>(match zfx ops x.2.1 j with
   | some c=>if c=some b then(match zqg P Ψ cp cs o x.2.1 x.2.2 with
    |some (a,σ')=>some (x.1.setIfInBounds i true,zab x.2.1 o.dst a,σ')
    |none=>none) else some (x.1.setIfInBounds i true,zab x.2.1 o.dst (.raw undef),x.2.2)
   |none=>none)
def qla (l:List Bool):List DSt→Option DSt
 |[]=>none
 |y::L=>if y.1.toList==l then some y else qla l L
def ddup:List DSt→List DSt→Option (List DSt)
 |[],H=>some H
 | y::G,H=>match qla y.1.toList H with
  |some z=>if zln y.2.1 z.2.1&&eqSt y.2.2 z.2.2 then ddup G H else none
  |none=>ddup G (y::H)
def mapO {α β:Type} (f:α→Option β):List α→Option (List β)
 |[]=>some []
 | x::l=>match f x,mapO f l with
  |some y,some m=>some (y::m)
  |_,_=>none
theorem zzx {α β:Type} {f:α→Option β}: ∀ {l:List α} {m:List β},mapO f l=some m→ ∀x∈l,∃y∈m,f x=some y
 |[],_,_,x,hx=>nomatch hx
 | a::l,m,h,x,hx=>by
  simp only[mapO] at h
  split at h<;>cases h
  rename_i y m2 h1 h2
  rcases List.mem_cons.1 hx with rfl|hx
  ·exact⟨y,List.mem_cons_self ..,h1⟩
  ·obtain⟨z,hz,hf⟩:=zzx h2 x hx
   exact⟨z,List.mem_cons_of_mem _ hz,hf⟩
def succ1 (P:Program)(Ψ:CallS)(cp:CallP)(cs:CallS)(ops:Array Oper)(x:DSt):Option (List DSt):=mapO (evAt P Ψ cp cs ops x) (Region.ready .any ops x.1)
def evD (P:Program)(Ψ:CallS)(cp:CallP)(cs:CallS)(ops:Array Oper)(r:List AV×St):Nat→List DSt→Bool
 |0,F=>F.all fun x=>(Region.ready .any ops x.1).isEmpty&&zln x.2.1 r.1&&eqSt x.2.2 r.2
 | k+1,F=>(F.all fun x=> !(Region.ready .any ops x.1).isEmpty||(zln x.2.1 r.1&&eqSt x.2.2 r.2))&&(match mapO (succ1 P Ψ cp cs ops) F with
  |none=>false
  | some G=>match ddup G.flatten [] with
   |none=>false
   |some H=>evD P Ψ cp cs ops r k H)
theorem z3n {l:List Bool}: ∀ {L:List DSt} {z:DSt},qla l L=some z→z∈L∧z.1.toList=l
 |[],_,h=>nomatch h
 | y::L,z,h=>by
  rw[qla] at h
  split at h
  ·rename_i e;cases h;exact⟨List.mem_cons_self ..,by simpa using e⟩
  ·obtain⟨h1,h2⟩:=z3n h;exact⟨List.mem_cons_of_mem _ h1,h2⟩
theorem z0x: ∀ {G H K:List DSt},ddup G H=some K→(∀y∈G,y∈K)∧ ∀y∈H,y∈K
 |[],H,K,h=>by simp only[ddup,Option.some.injEq] at h;subst h;exact⟨fun y hy=>(nomatch hy),fun y hy=>hy⟩
 | y ::G,H,K,h=>by
  rw[ddup] at h
  split at h
  ·rename_i z hz
   split at h
   ·rename_i e
    simp only[Bool.and_eq_true] at e
    obtain⟨h1,h2⟩:=z0x h
    obtain⟨m1,m2⟩:=z3n hz
    have:y=z:=by
     obtain⟨⟨y1⟩,y2,y3⟩:=y
     obtain⟨⟨z1⟩,z2,z3⟩:=z
     simp only at m2 e
     rw[m2,zfm _ _ e.1,z6h e.2]
    exact⟨fun x hx=>(List.mem_cons.1 hx).elim (fun e=>by rw[e,this];exact h2 _ m1) (h1 x),h2⟩
   ·cases h
  ·obtain⟨h1,h2⟩:=z0x h
   exact⟨fun x hx=>(List.mem_cons.1 hx).elim (fun e=>by rw[e];exact h2 _ (List.mem_cons_self ..)) (h1 x),fun x hx=>h2 x (List.mem_cons_of_mem _ hx)⟩
variable {P:Program} {cp:CallP} {cs Ψ:CallS}
theorem z5r (hΨ:qds P Ψ)(hcp:qkx P cp)(hcs:qds P cs) {ops:Array Oper} {r:List AV×St} {Q:List AV→St→Prop} (hQ:Q r.1 r.2):
 ∀(k:Nat) (F:List DSt),evD P Ψ cp cs ops r k F=true→ ∀x∈F,zsu (ITP P) P none ops Q k x.1 x.2.1 x.2.2
 | 0,F,h,x,hx=>by
  have h:=List.all_eq_true.1 h x hx
  simp only[Bool.and_eq_true,List.isEmpty_iff] at h
  refine⟨h.1.1,?_⟩
  rw[zfm _ _ h.1.2,z6h h.2];exact hQ
 | k + 1,F,h,x,hx=>by
  simp only[evD,Bool.and_eq_true] at h
  have h1:=List.all_eq_true.1 h.1 x hx
  have h2:=h.2
  split at h2
  ·cases h2
  rename_i G hG
  split at h2
  ·cases h2
  rename_i H hH
  obtain⟨d1,_⟩:=z0x hH
  have ih:=z5r hΨ hcp hcs hQ k H h2
  refine⟨fun he=> ?_,fun i hi=> ?_⟩
  ·rw[he] at h1
   simp only[List.isEmpty_nil,Bool.not_true,Bool.false_or,Bool.and_eq_true] at h1
   rw[zfm _ _ h1.1,z6h h1.2];exact hQ
  ·obtain⟨m,hm,hs⟩:=zzx hG x hx
   obtain⟨y,hy,he⟩:=zzx hs i hi
   have hyK:=ih y (d1 y (List.mem_flatten.2 ⟨m,hm,hy⟩))
   unfold evAt at he
   unfold z0e
   cases ho:ops[i]? with
   |none=>rw[ho] at he;cases he;exact hyK
   | some o=>
    rw[ho] at he
    simp only at he⊢
    cases hg:o.guard with
    | none=>
     rw[hg] at he
     simp only at he⊢
     split at he
     ·rename_i a σ1 hs1
      cases he
      exact zii hΨ hcp hcs hs1 hyK
     ·cases he
    | some kb=>
     obtain⟨j,b⟩:=kb
     rw[hg] at he
     simp only at he⊢
     split at he
     ·rename_i c hc
      refine⟨c,hc,?_⟩
      split at he
      ·rename_i e
       rw[if_pos e]
       split at he
       ·rename_i a σ1 hs1
        cases he
        exact zii hΨ hcp hcs hs1 hyK
       ·cases he
      ·rename_i e
       rw[if_neg e]
       cases he
       exact hyK
     ·cases he
def evQ (H:Bool)(P:Program)(Ω:CallP)(Ψ:CallS):Nat→Run
 |0,_,_,_,_=>none
 | k + 1,c,sz,S,σ=>match c with
  | .skip=>some (.normal,S,σ)
  | .seq x y=>match evQ H P Ω Ψ k x sz S σ with
   |some (.normal,S1,σ1)=>evQ H P Ω Ψ k y sz S1 σ1
   |r=>r
  | .cond c x y=>match zes S c with
   | .raw (.bool t)=>if t=true then evQ H P Ω Ψ k x sz S σ else evQ H P Ω Ψ k y sz S σ
   |_=>none
  | .block id x=>match evQ H P Ω Ψ k x sz S σ with
   |some (.exit j,S1,σ1)=>if j=id then some (.normal,S1,σ1) else some (.exit j,S1,σ1)
   |r=>r
  | .exit id=>some (.exit id,S,σ)
  | .label _=>some (.normal,S,σ)
  | .scope x=>evQ H P Ω Ψ k x sz S σ
  | .ret=>some (.ret,S,σ)
  | .loop x=>match evQ H P Ω Ψ k x sz S σ with
   |some (.normal,S1,σ1)=>evQ H P Ω Ψ k (.loop x) sz S1 σ1
   |r=>r
  | .region _ ops false=>match zrq P Ψ (zna P Ω (evQ H P Ω Ψ k)) (ztf P Ψ (evQ H P Ω Ψ k)) ops ops.toList S σ with
   |some (S1,σ1)=>some (.normal,S1,σ1)
   |none=>none
  | .region _ ops true=>if z1b ops.toList=true then(match(if H=true then qej P (zna P Ω (evQ H P Ω Ψ k)) (ztf P Ψ (evQ H P Ω Ψ k)) ops sz S σ else none) with
   |some (S2,σ2)=>some (.normal,S2,σ2)
   | none=>match(if H=true then findB ops sz else none) with
    | some n=>(match zll P (zna P Ω (evQ H P Ω Ψ k)) ops sz σ (ops.toList.take n) S [] with
     | some (S1,ps)=>match z0g P (zna P Ω (evQ H P Ω Ψ k)) (ztf P Ψ (evQ H P Ω Ψ k)) ops (ops.toList.drop n) (z0j σ.boxes.length ps S1) (z1e σ ps) with
      |some (S2,σ2)=>some (.normal,S2,σ2)
      |none=>none
     |none=>none)
    | none=>match zrq P Ψ (zna P Ω (evQ H P Ω Ψ k)) (ztf P Ψ (evQ H P Ω Ψ k)) ops ops.toList S σ with
     |some r=>if evD P Ψ (zna P Ω (evQ H P Ω Ψ k)) (ztf P Ψ (evQ H P Ω Ψ k)) ops r ops.size [(Array.replicate ops.size false,S,σ)]=true then some (.normal,r.1,r.2) else none
     |none=>none) else none
  | .rangeFunc f ps asg body=>match zes S f with
   | .iter xs=>if Nat.ble ps.size 8=true∧(xs.all fun x=>decide (x.length=ps.size))=true∧zef asg=true then zvf (evQ H P Ω Ψ k asg sz) (evQ H P Ω Ψ k body sz) ps S σ.boxes.length xs σ else none
   |_=>none
  |_=>none
theorem z8t {H:Bool} {P:Program} {Ω:CallP} {Ψ:CallS} (hG:Good P Ω Ψ): ∀k,EvOk P (evQ H P Ω Ψ k)
 |0=>fun c sz S σ e S' σ' h=>by simp[evQ] at h
 | k + 1=>by
  have ih:=z8t (H:=H) hG k
  have hcp:=z2b hG ih
  have hcs:=z5j hG ih
  intro c sz S σ e S' σ' h hl
  cases c with
  |skip=>simp only[evQ,Option.some.injEq,Prod.mk.injEq] at h;obtain⟨rfl,rfl,rfl⟩:=h;exact⟨hl,fun Q h j=>h⟩
  |label id=>simp only[evQ,Option.some.injEq,Prod.mk.injEq] at h;obtain⟨rfl,rfl,rfl⟩:=h;exact⟨hl,fun Q h j=>h⟩
  |scope x=>simp only[evQ] at h;obtain⟨l1,h1⟩:=ih _ _ _ _ _ _ _ h hl;exact⟨l1,fun Q hQ j=>show awp (ITP P) P none j x Q S σ from zed (h1 Q hQ)⟩
  |exit id=>simp only[evQ,Option.some.injEq,Prod.mk.injEq] at h;obtain⟨rfl,rfl,rfl⟩:=h;exact⟨hl,fun Q h j=>h⟩
  |ret=>simp only[evQ,Option.some.injEq,Prod.mk.injEq] at h;obtain⟨rfl,rfl,rfl⟩:=h;exact⟨hl,fun Q h j=>h⟩
  | seq x y=>
   simp only[evQ] at h
   split at h
   ·rename_i S1 σ1 hx
    obtain⟨l1,h1⟩:=ih _ _ _ _ _ _ _ hx hl
    obtain⟨l2,h2⟩:=ih _ _ _ _ _ _ _ h l1
    exact⟨l2,fun Q hQ j=>show awp (ITP P) P none j x (zwe _ Q) S σ from zed (h1 _ ⟨S1,σ1,Wk.refl _ _ _,zed (h2 Q hQ)⟩)⟩
   ·rename_i hne
    obtain⟨l1,h1⟩:=ih _ _ _ _ _ _ _ h hl
    refine⟨l1,fun Q hQ j=>show awp (ITP P) P none j x (zwe _ Q) S σ from zed (h1 _ ?_)⟩
    cases e with
    |normal=>exact absurd h (hne S' σ')
    |exit id=>exact hQ
    |ret=>exact hQ
  | cond c x y=>
   simp only[evQ] at h
   split at h<;>try cases h
   rename_i t ht
   cases t with
   |true=>obtain⟨l1,h1⟩:=ih _ _ _ _ _ _ _ h hl;exact⟨l1,fun Q hQ j=>⟨true,ht,zed (h1 Q hQ)⟩⟩
   |false=>obtain⟨l1,h1⟩:=ih _ _ _ _ _ _ _ h hl;exact⟨l1,fun Q hQ j=>⟨false,ht,zed (h1 Q hQ)⟩⟩
  | block id x=>
   simp only[evQ] at h
   split at h
   ·rename_i j S1 σ1 hx
    obtain⟨l1,h1⟩:=ih _ _ _ _ _ _ _ hx hl
    split at h
    ·rename_i hj
     simp only[Option.some.injEq,Prod.mk.injEq] at h;obtain⟨rfl,rfl,rfl⟩:=h
     exact⟨l1,fun Q hQ j=>show awp (ITP P) P none j x (zpi id Q) S σ from zed (h1 _ (by simp only[zpi];rw[if_pos hj];exact hQ))⟩
    ·rename_i hj
     simp only[Option.some.injEq,Prod.mk.injEq] at h;obtain⟨rfl,rfl,rfl⟩:=h
     exact⟨l1,fun Q hQ j=>show awp (ITP P) P none j x (zpi id Q) S σ from zed (h1 _ (by simp only[zpi];rw[if_neg hj];exact hQ))⟩
   ·rename_i hne
    obtain⟨l1,h1⟩:=ih _ _ _ _ _ _ _ h hl
    refine⟨l1,fun Q hQ j=>show awp (ITP P) P none j x (zpi id Q) S σ from zed (h1 _ ?_)⟩
    cases e with
    |normal=>exact hQ
    |exit j=>exact absurd h (hne j S' σ')
    |ret=>exact hQ
  | loop x=>
   simp only[evQ] at h
   split at h
   ·rename_i S1 σ1 hx
    obtain⟨l1,h1⟩:=ih _ _ _ _ _ _ _ hx hl
    obtain⟨l2,h2⟩:=ih _ _ _ _ _ _ _ h l1
    refine⟨l2,fun Q hQ j=> ?_⟩
    obtain⟨m,hm⟩:=h2 Q hQ j
    exact⟨m+1,S,σ,Wk.refl _ _ _,zed (k:=j) (h1 _ hm)⟩
   ·rename_i hne
    obtain⟨l1,h1⟩:=ih _ _ _ _ _ _ _ h hl
    refine⟨l1,fun Q hQ j=>⟨1,S,σ,Wk.refl _ _ _,zed (k:=j) (h1 _ ?_)⟩⟩
    cases e with
    |normal=>exact absurd h (hne S' σ')
    |exit id=>exact hQ
    |ret=>exact hQ
  | region id ops draw=>
   cases draw with
   | false=>
    simp only[evQ] at h
    split at h<;>try cases h
    rename_i ho
    obtain⟨l1,h1⟩:=zia hG.oracleS hcp hcs _ _ _ _ _ ho
    exact⟨l1.trans hl,fun Q hQ j=>h1 _ hQ⟩
   | true=>
    simp only[evQ] at h
    split at h
    rotate_left
    ·cases h
    rename_i hnd
    split at h
    ·rename_i S2 σ2 hd
     cases h
     split at hd
     rotate_left
     ·cases hd
     obtain⟨n,hc,S1,hh,ho⟩:=z4j hd
     obtain⟨l1,h1⟩:=zjk hcp _ _ _ hh hl
     obtain⟨l2,h2⟩:=ziv hcp hcs _ _ _ _ _ ho
     exact⟨l2.trans l1,fun Q hQ j=> .inl ⟨n,by rw[hl];exact hc,hnd,h1 _ (h2 _ hQ)⟩⟩
    ·split at h
     ·rename_i n hn
      split at hn
      rotate_left
      ·cases hn
      split at h<;>try cases h
      rename_i S1 ps hh
      split at h<;>try cases h
      rename_i ho
      obtain⟨l1,h1⟩:=zgw hcp _ _ _ _ _ hh hl
      obtain⟨l2,h2⟩:=ziv hcp hcs _ _ _ _ _ ho
      exact⟨l2.trans ((zrn _ _ _).trans l1),fun Q hQ j=> .inr (.inl ⟨n,by rw[hl];exact qlv hn,hnd,h1 _ (h2 _ hQ)⟩)⟩
     ·split at h
      rotate_left
      ·cases h
      rename_i r ho
      split at h
      rotate_left
      ·cases h
      rename_i ha
      cases h
      obtain⟨l2,h2⟩:=zia hG.oracleS hcp hcs _ _ _ r.1 r.2 ho
      exact⟨l2.trans hl,fun Q hQ j=> .inr (.inr (z5r hG.oracleS hcp hcs hQ _ _ ha _ (List.mem_cons_self ..)))⟩
  | rangeFunc f ps asg body=>
   simp only[evQ] at h
   split at h<;>try(cases h;done)
   rename_i xs hf
   split at h
   rotate_left
   ·cases h
   rename_i hc
   obtain⟨h1,h2⟩:=znt (P:=P) (asg:=asg) (body:=body) (S0:=S) (fun S1 σ1 e1 S1' σ1' hl1 h1=>by obtain⟨k1,k2⟩:=ih _ _ _ _ _ _ _ h1 (hl1.trans hl);exact⟨k1.trans hl.symm,fun k Q hQ=>zed (k2 Q hQ)⟩) (fun S1 σ1 e1 S1' σ1' hl1 h1 k Q hQ=>zed ((ih _ _ _ _ _ _ _ h1 (hl1.trans hl)).2 Q hQ)) xs σ e S' σ' h
   exact⟨by rw[h1];exact hl,fun Q hQ j=> .inl ⟨xs,hf,hc.1,hc.2.1,hc.2.2,h2 Q hQ⟩⟩
  |_=>simp[evQ] at h
theorem zam (H:Bool) {P:Program} {Ω:CallP} {Ψ:CallS} (hG:Good P Ω Ψ)(k:Nat) {f:FuncId} {args:List AV} {r:AV} (h:zna P Ω (evQ H P Ω Ψ k) f args=some r):Pure (ITP P) P f args r:=z2b hG (z8t (H:=H) hG k) f args r h
def qox (H:Bool)(P:Program)(Ω:CallP)(Ψ:CallS)(k n:Nat)(fn:Func)(c:Code)(args:List AV):Option AV:=
 if (zbi fn args).length=fn.ntmps then(match evQ H P Ω Ψ k c fn.ntmps (zbi fn args) St.empty with
  |some (.exit _,_,_)=>none
  | some (_,S,σ)=>match zbm P fn σ S with
   |some a=>some (zfp (frz σ.boxes n) a)
   |none=>none
  |none=>none) else none
theorem qoc (H:Bool) {P:Program} {Ω:CallP} {Ψ:CallS} (hG:Good P Ω Ψ)(k n:Nat) {f:FuncId} {fn:Func} {c:Code} {args:List AV} {r:AV} (hf:P.funcs[f]? =some fn)(hb:fn.body=some c)(h:qox H P Ω Ψ k n fn c args=some r):Pure (ITP P) P f args r:=by
 refine zjp hG.mix hf hb (hG.ent f fn hf (by rw[hb];rfl)) ?_
 unfold qox at h
 split at h
 rotate_left
 ·cases h
 rename_i hl
 split at h
 ·cases h
 ·rename_i e S σ hne hev
  split at h
  rotate_left
  ·cases h
  rename_i a ha
  cases h
  obtain⟨_,h1⟩:=z8t (H:=H) hG k _ _ _ _ _ _ _ hev hl
  refine zed (h1 _ ?_)
  cases e with
  |exit id=>exact(hne id rfl).elim
  |normal=>exact⟨a,ha,zsk n rfl⟩
  |ret=>exact⟨a,ha,zsk n rfl⟩
 ·cases h
end Go.Ab
namespace Go.Ab
open Go Go.RowKit Go.Fwd Go.Proofs
theorem mix:Tryz.prog.follows .mixedOrders=true:=by kernel_rfl
theorem ents (f:Nat)(fn:Func)(hf:Tryz.prog.funcs[f]? =some fn)(hb:fn.body.isSome=true):Ent Tryz.prog f:=by
 obtain⟨c,hc⟩:=Option.isSome_iff_exists.1 hb
 have hall:(Tryz.prog.funcs.toList.all fun fn=> !(fn.name== "runtime.NumGoroutine"))=true:=by kernel_rfl
 have:=List.all_eq_true.1 hall fn (Array.mem_toList_iff.2 (Array.mem_of_getElem? hf))
 exact enters_of hf (by simpa using this) hc
def noP:CallP:=fun _ _=>none
def noS:CallS:=fun _ _ _=>none
theorem z2a:Good Tryz.prog noP noS:=⟨mix,ents,(fun _ _ _ h=>nomatch h),(fun _ _ _ _ _ h=>nomatch h)⟩
theorem undS:Tryz.prog.underlying 26=some (.array 4 24):=by kernel_rfl
theorem undW:Tryz.prog.underlying 24=some (.int .u64):=by kernel_rfl
theorem sizeW (w:World):(sizeOf 24).run Tryz.prog w= .ok 1 w:=by kernel_rfl
theorem aggW (w:World):(isAgg 24).run Tryz.prog w= .ok false w:=by kernel_rfl
theorem eqInS' (d:Nat)(a0 a1 a2 a3 b0 b1 b2 b3:Int)(w:World):(Op.equalIn (d+1+1) 26 (.agg #[.int .u64 a0,.int .u64 a1,.int .u64 a2,.int .u64 a3]) (.agg #[.int .u64 b0,.int .u64 b1,.int .u64 b2,.int .u64 b3])).run Tryz.prog w=
 .ok (a0==b0&&a1==b1&&a2==b2&&a3==b3) w:=by
 rw[Op.equalIn]
 simp only[Sem.run_bind,run_underlying undS,Result.andThen_ok,sizeW]
 have hq: ∀(a b:Int) (w:World),(Op.equalIn (d+1) 24 (.int .u64 a) (.int .u64 b)).run Tryz.prog w= .ok (a==b) w:=fun a b w=>run_equalIn_int w d 24 .u64 .u64 a b undW
 have hr:List.range' 0 4=[0,1,2,3]:=rfl
 simp[part,hr,aggW,Sem.run_bind,hq,Result.andThen]
 by_cases h0:a0=b0<;>by_cases h1:a1=b1<;>by_cases h2:a2=b2<;>by_cases h3:a3=b3<;>simp[h0,h1,h2,h3,hq,Result.andThen]
theorem eqInS (a0 a1 a2 a3 b0 b1 b2 b3:Int)(w:World):(Op.equalIn 10000 26 (.agg #[.int .u64 a0,.int .u64 a1,.int .u64 a2,.int .u64 a3]) (.agg #[.int .u64 b0,.int .u64 b1,.int .u64 b2,.int .u64 b3])).run Tryz.prog w=
 .ok (a0==b0&&a1==b1&&a2==b2&&a3==b3) w:=eqInS' 9998 _ _ _ _ _ _ _ _ w
theorem qoz:Tryz.prog.eqGuardType Tryz.prog.depth 26=false:=by kernel_rfl
theorem qkm {ρ:Operand→AV} {o:Oper} {x y:Operand} {c} (s t:BS)(ho:o.op= .binOp .eql 26 x y c)(hx:ρ x=qks s)(hy:ρ y=qks t):zoa Tryz.prog ρ o (.raw (.bool (decide (s=t)))):=by
 refine⟨?_,by rw[ho];intros;simp,by rw[ho];intros;simp,.bool (decide (s=t)),fun w=> ?_,rfl,rfl⟩
 ·rw[ho];simp[Op.operands,hx,hy,qks,zgi,zeu,zku]
 ·have h1:zde ρ x= .agg #[.int .u64 (wd s 0),.int .u64 (wd s 1),.int .u64 (wd s 2),.int .u64 (wd s 3)]:=by simp[zde,hx,qks,zgi,zeu,zku]
  have h2:zde ρ y= .agg #[.int .u64 (wd t 0),.int .u64 (wd t 1),.int .u64 (wd t 2),.int .u64 (wd t 3)]:=by simp[zde,hy,qks,zgi,zeu,zku]
  have h3:=eqInS (wd s 0) (wd s 1) (wd s 2) (wd s 3) (wd t 0) (wd t 1) (wd t 2) (wd t 3) w
  rw[qoq] at h3
  simp[execOp,ho,h1,h2,eqGuard,binOp,Op.equal,Op.maxDepth,program,Sem.run,qoz,h3]
theorem qbu {ρ:Operand→AV} {o:Oper} {x y:Operand} {c} (s t:BS)(ho:o.op= .binOp .neq 26 x y c)(hx:ρ x=qks s)(hy:ρ y=qks t):zoa Tryz.prog ρ o (.raw (.bool (decide (s≠t)))):=by
 refine⟨?_,by rw[ho];intros;simp,by rw[ho];intros;simp,.bool (decide (s≠t)),fun w=> ?_,rfl,rfl⟩
 ·rw[ho];simp[Op.operands,hx,hy,qks,zgi,zeu,zku]
 ·have h1:zde ρ x= .agg #[.int .u64 (wd s 0),.int .u64 (wd s 1),.int .u64 (wd s 2),.int .u64 (wd s 3)]:=by simp[zde,hx,qks,zgi,zeu,zku]
  have h2:zde ρ y= .agg #[.int .u64 (wd t 0),.int .u64 (wd t 1),.int .u64 (wd t 2),.int .u64 (wd t 3)]:=by simp[zde,hy,qks,zgi,zeu,zku]
  have h3:=eqInS (wd s 0) (wd s 1) (wd s 2) (wd s 3) (wd t 0) (wd t 1) (wd t 2) (wd t 3) w
  rw[qoq] at h3
  simp[execOp,ho,h1,h2,eqGuard,binOp,Op.equal,Op.maxDepth,program,Sem.run,qoz,h3]
theorem qbl {ρ:Operand→AV} {o:Oper} {x y:Operand} {c} (s t:BS)(ho:o.op= .binOp .eql 26 x y c)(hx:ρ x= .agg (Enc.cells s))(hy:ρ y= .agg (Enc.cells t)):zoa Tryz.prog ρ o (.raw (.bool (decide (s=t)))):=qkm s t ho hx hy
theorem zuo {ρ:Operand→AV} {o:Oper} {x y:Operand} {c} (s t:BS)(ho:o.op= .binOp .neq 26 x y c)(hx:ρ x= .agg (Enc.cells s))(hy:ρ y= .agg (Enc.cells t)):zoa Tryz.prog ρ o (.raw (.bool (decide (s≠t)))):=qbu s t ho hx hy
theorem or_run (a b:BS):Pure (ITP Tryz.prog) Tryz.prog 13 [.agg (Enc.cells a),.agg (Enc.cells b)] (.agg [.raw (.int .u64 (orI .u64 (wd a 0) (wd b 0))),.raw (.int .u64 (orI .u64 (wd a 1) (wd b 1))),.raw (.int .u64 (orI .u64 (wd a 2) (wd b 2))),.raw (.int .u64 (orI .u64 (wd a 3) (wd b 3)))]):=zam true z2a 100 (by kernel_rfl)
theorem qnc (a b:BS):Pure (ITP Tryz.prog) Tryz.prog 144 [.agg (Enc.cells a),.agg (Enc.cells b)] (.agg [.raw (.int .u64 (zpy .u64 (wd a 0) (wd b 0))),.raw (.int .u64 (zpy .u64 (wd a 1) (wd b 1))),.raw (.int .u64 (zpy .u64 (wd a 2) (wd b 2))),.raw (.int .u64 (zpy .u64 (wd a 3) (wd b 3)))]):=zam true z2a 100 (by kernel_rfl)
theorem k_or2 (a b:BS):Pure (ITP Tryz.prog) Tryz.prog 13 [.agg (Enc.cells a),.agg (Enc.cells b)] (.agg (Enc.cells (a|||b))):=by
 have:=or_run a b
 simp only[wd_or] at this;exact this
theorem qio (a b:BS):Pure (ITP Tryz.prog) Tryz.prog 144 [.agg (Enc.cells a),.agg (Enc.cells b)] (.agg (Enc.cells (a&&& ~~~ b))):=by
 have:=qnc a b
 rw[zzc _ _ 0 (by decide),zzc _ _ 1 (by decide),zzc _ _ 2 (by decide),zzc _ _ 3 (by decide)] at this;exact this
end Go.Ab
namespace Go.Ab
open Go Go.RowKit Go.Fwd
end Go.Ab
namespace Go.Ab
open Go Go.RowKit Go.Fwd
def zqs (n:Nat)(i j:Int)(st:Room):Room:=if i.toNat=0∧j.toNat=n then st else if j.toNat=n∧st= .full then .full else .none
theorem qac {α:Type} (l:List α) {i j:Int} (g:0≤i∧i≤j∧j≤(l.length:Int)):(sub l i j).length=j.toNat-i.toNat:=by
 simp only[sub,List.length_take,List.length_drop];omega
theorem z5m {α:Type} [Enc α] (l:List α) {i j:Int} (g:0≤i∧i≤j∧j≤(l.length:Int)):((Enc.cellsL l).drop (i.toNat*Enc.sz α)).take ((j.toNat-i.toNat)*Enc.sz α)=Enc.cellsL (sub l i j):=by
 rw[Enc.drop,Enc.take];rfl
section
variable {P:Program} {ρ:Operand→AV} {σ:St} {o:Oper}
theorem zux {α:Type} [Enc α] (l:List α)(n:Nat)(st:Room):zcz (.list n (Enc.cellsL l) st)= .list n (Enc.cellsL l) .none:=by
 rw[zcz,Enc.stripL]
theorem qim {α:Type} [Enc α] {l:List α} {x y:Operand} {t e:TypeId} {st:Room} {j:Int} (g:0≤0∧0≤j∧j≤(l.length:Int))(ho:o.op= .slice t x none (some y) none)(hx:ρ x= .list l.length (Enc.cellsL l) st)(hy:ρ y= .raw (.int .i64 j))(hu:P.underlying t=some (.slice e))(hs:zds P e=some (Enc.sz α)):
 qop P ρ σ o=some (.list (sub l 0 j).length (Enc.cellsL (sub l 0 j)) (zqs l.length 0 j st)):=by
 have hg:(0:Int)≤0∧0≤j∧j≤(l.length:Int):=⟨Int.le_refl 0,g.2⟩
 have h1:zlf P t (ρ x) none (some (ρ y)) none=some (.list (sub l 0 j).length (Enc.cellsL (sub l 0 j)) (zqs l.length 0 j st)):=by
  have hj:=g.2
  rw[qac l hg,←z5m l hg,hx,hy]
  simp[zlf,hu,hs,zfg,zix,Enc.lenL,zqs,hj]
 simp only[qop,ho,Option.map,h1]
theorem zzu {x:Operand} {s t:TypeId} {k:IntKind} {n:Int} (g: -9223372036854775808≤n∧n<9223372036854775808)(ho:o.op= .convert s t x)(hx:ρ x= .raw (.int k n))(hs:val? P (Next.value<$>convert s t (.int k n))=some (.value (.int .i64 (IntKind.i64.wrap n)))):qop P ρ σ o=some (.raw (.int .i64 n)):=by
 have h:=zpd g.1 g.2
 rw[h] at hs
 simp[qop,zif,ho,Op.operands,hx,zgi,execOp,zde,hs,zjw]
 exact⟨rfl,rfl⟩
theorem ztg: ∀l:List UInt8,zpu (Enc.cellsL l)=some l
 |[]=>rfl
 | a::l=>by
  show zpu (.raw (.int .u8 ((a.toNat:Nat):Int))::Enc.cellsL l)=_
  have h:=a.toNat_lt
  simp[zpu,ztg l]
  omega
theorem q_bstr {l:List UInt8} {x:Operand} {s t e:TypeId} {st:Room} (ho:o.op= .convert s t x)(hx:ρ x= .list l.length (Enc.cellsL l) st)(hs:P.underlying s=some (.slice e)∧P.underlying e=some (.int .u8))(ht:P.underlying t=some .string):qop P ρ σ o=some (.raw (.string (bs l))):=by
 have h:zjw P s t (ρ x)=some (.raw (.string (bs l))):=by
  rw[hx]
  simp only[zjw,hs.1,hs.2,ht,ztg,if_true]
  rfl
 simp only[qop,ho,h]
theorem qiw {t:TypeId} {x y:Operand} {s off n:Nat} {cs:List AV} {bx:TypeId×List AV} (ho:o.op= .store t x y)(hx:ρ x= .ptr s off)(hy:ρ y=zfs n cs)(hb:σ.boxes[s]? =some bx)(hn:zds P t=some 1)(hl:off+1≤bx.2.length):
 aop P ρ σ o=some (.raw undef,{σ with boxes:=σ.boxes.set s (bx.1,bx.2.take off++[zfs n cs]++bx.2.drop (off+1))}):=by
 have h1:cellsOf (zfs n cs)=[zfs n cs]:=by unfold zfs;split<;>rfl
 have h2:zlc (zfs n cs)=true:=by unfold zfs;split<;>rfl
 rw[zmo (n:=1) ho hx hy hb hn ⟨h2,by rw[h1];rfl,hl,by decide⟩,h1]
end
section
variable {P:Program} {ρ:Operand→AV} {σ:St} {o:Oper}
theorem q_subL_ {α:Type} [Enc α] {l:List α} {x y:Operand} {t e:TypeId} {st:Room} {i:Int} (g:0≤i∧i≤(l.length:Int)∧(l.length:Int)≤(l.length:Int))(ho:o.op= .slice t x (some y) none none)(hx:ρ x= .list l.length (Enc.cellsL l) st)(hy:ρ y= .raw (.int .i64 i))(hu:P.underlying t=some (.slice e))(hs:zds P e=some (Enc.sz α)):
 qop P ρ σ o=some (.list (sub l i l.length).length (Enc.cellsL (sub l i l.length)) (zqs l.length i l.length st)):=by
 have h1:zlf P t (ρ x) (some (ρ y)) none none=some (.list (sub l i l.length).length (Enc.cellsL (sub l i l.length)) (zqs l.length i l.length st)):=by
  have hj:=g.1
  have hk:=g.2.1
  rw[qac l g,←z5m l g,hx,hy]
  simp[zlf,hu,hs,zfg,zix,Enc.lenL,zqs,hj,hk]
 simp only[qop,ho,Option.map,h1]
end
end Go.Ab
namespace Go.Ab
open Go Go.RowKit Go.Fwd Go.Proofs
structure Bd where
 lo:Int
 mo:Int
 deriving DecidableEq
def qhd (e:Bd):List AV:=[.raw (.int .i64 e.lo),.raw (.int .i64 e.mo)]
instance:Enc Bd where
 inh:=⟨0,0⟩
 cells:=qhd
 cellsL l:=l.flatMap qhd
 sz:=2
 pos:=by decide
 nil:=rfl
 cons _ _:=rfl
 len _:=rfl
 clo _:=rfl
set_option maxRecDepth 100000 in
theorem qjy {ρ:Operand→AV} {σ:St} {o:Oper} {x:Operand} {b:Nat} {t:TypeId} {i:Int} (s:BS)(hi:0≤i∧i<4)(ho:o.op= .load 24 x)(hx:ρ x= .ptr b (0+i.toNat*1))(hb:σ.boxes[b]? =some (t,Enc.cells s)):qop Tryz.prog ρ σ o=some (.raw (.int .u64 (wd s i.toNat))):=by
 have key: ∀j:Nat,j<4→rd Tryz.prog 24 ((Enc.cells s).drop (0+j*1))=some (.raw (.int .u64 (wd s j))):=by
  intro j hj
  match j,hj with
  |0,_=>rfl
  |1,_=>rfl
  |2,_=>rfl
  |3,_=>rfl
 simp only[qop,ho,zqn,hx,hb]
 exact key i.toNat (by omega)
end Go.Ab
