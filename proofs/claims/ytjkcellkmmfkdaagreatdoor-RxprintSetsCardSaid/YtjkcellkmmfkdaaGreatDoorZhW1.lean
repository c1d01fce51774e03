import Derived.Shelf.Strings.Trim
import Derived.Shelf.Small.Strs
import Derived.Shelf.Small.Wraps
import Derived.Shelf.Strings.Search1
import Derived.Shelf.Strings.Prefix
import Derived.Test.YtjkcellkmmfkdaaGreatDoorProg
import Derived.Test.YtjkcellkmmfkdaaGreatDoorRows
import Derived.Test.YtjkcellkmmfkdaaGreatDoorZhP
import Derived.Shelf.Spec.SlicesInsert
import Derived.Lib.AppendZerosOnto
import Derived.Laws.CopyRow
set_option linter.all false
set_option maxRecDepth 100000
set_option maxHeartbeats 4000000
open Sum (inl inr)
open Int (toNat)
open Option (map_some getD_some)
open List (length all_eq_true mem_cons)
open Go.Proofs.Tryz (prog)
namespace Go.Ab
open Go Go.RowKit Go.Fwd
abbrev DSt:=Array Bool×List AV×St
def zow (P:Program)(Ψ:CallS)(cp:CallP)(cs:CallS)(o:Oper)(S:List AV)(U:St):Option (AV×St):=
 match zda S o with
 | some (f,args)=>(match Ψ f args U with
  |some (r,U')=>if U'.out=U.out/\ U'.stop=U.stop then some (r,U') else none
  |none=>zui P cp cs o S U)
 |none=>zui P cp cs o S U
theorem zgu {P:Program} {cp:CallP} {cs Ψ:CallS} (hΨ:qbw P Ψ)(hcp:qbf P cp)(hcs:qbw P cs) {o:Oper} {S:List AV} {U U':St} {a:AV} (h:zow P Ψ cp cs o S U=some (a,U')) {K:AV->St->Prop} (hK:K a U'):zfo (ITP P) P none o S U K:=by
 unfold zow at h;split at h
 ·rename_i f args hc;split at h
  ·rename_i r τ hr;split at h
   ·rename_i hos;cases h;unfold zfo;rw[hc];exact⟨a,U',.inl ⟨hΨ _ _ _ _ _ hr,hos⟩,hK⟩
   ·cases h
  ·exact zhv hcp hcs h hK
 ·exact zhv hcp hcs h hK
def zmr (P:Program)(Ψ:CallS)(cp:CallP)(cs:CallS)(ops:Array Oper):List Oper->List AV->St->Option (List AV×St)
 |[],S,U=>some (S,U)
 | o ::l,S,U=>match o.guard with
  | none=>match zow P Ψ cp cs o S U with
   |some (a,U')=>zmr P Ψ cp cs ops l (zi S o.dst a) U'
   |none=>none
  | some (k,b)=>match zdo ops S k with
   | some c=>if c=some b then(match zow P Ψ cp cs o S U with
    |some (a,U')=>zmr P Ψ cp cs ops l (zi S o.dst a) U'
    |none=>none) else zmr P Ψ cp cs ops l (zi S o.dst (.raw undef)) U
   |none=>none
theorem zez {P:Program} {cp:CallP} {cs Ψ:CallS} (hΨ:qbw P Ψ)(hcp:qbf P cp)(hcs:qbw P cs) {ops:Array Oper}: ∀(l:List Oper) (S:List AV) (U:St) (S':List AV) (U':St),zmr P Ψ cp cs ops l S U=some (S',U')->S'.length=S.length/\ ∀Q:List AV->St->Prop,Q S' U'->zca (ITP P) P none ops Q l S U
 |[],S,U,S',U',h=>by simp only[zmr,Option.some.injEq,Prod.mk.injEq] at h;obtain⟨rfl,rfl⟩:=h;exact⟨rfl,fun Q h=>h⟩
 | o ::l,S,U,S',U',h=>by
  simp only[zmr] at h;simp only[zca];cases hg:o.guard with
  | none=>
   rw[hg] at h;simp only at h⊢;split at h<;>try cases h
   rename_i a U1 hs;obtain⟨h1,h2⟩:=zez hΨ hcp hcs l _ _ _ _ h;exact⟨by rw[h1,zau],fun Q hQ=>zgu hΨ hcp hcs hs (h2 Q hQ)⟩
  | some kb=>
   obtain⟨k,b⟩:=kb;rw[hg] at h;simp only at h⊢;split at h<;>try cases h
   rename_i c hc;split at h
   ·rename_i e;split at h<;>try cases h
    rename_i a U1 hs;obtain⟨h1,h2⟩:=zez hΨ hcp hcs l _ _ _ _ h;exact⟨by rw[h1,zau],fun Q hQ=>⟨c,hc,by rw[if_pos e];exact zgu hΨ hcp hcs hs (h2 Q hQ)⟩⟩
   ·rename_i e;obtain⟨h1,h2⟩:=zez hΨ hcp hcs l _ _ _ _ h;exact⟨by rw[h1,zau],fun Q hQ=>⟨c,hc,by rw[if_neg e];exact h2 Q hQ⟩⟩
def evAt (P:Program)(Ψ:CallS)(cp:CallP)(cs:CallS)(ops:Array Oper)(x:DSt)(i:Nat):Option DSt:=
 match ops[i]? with
 |none=>some (x.1.setIfInBounds i true,x.2.1,x.2.2)
 | some o=>match o.guard with
  | none=>(match zow P Ψ cp cs o x.2.1 x.2.2 with
   |some (a,U')=>some (x.1.setIfInBounds i true,zi x.2.1 o.dst a,U')
   |none=>none)
  | some (j,b)=>(match zdo ops x.2.1 j with
   | some c=>if c=some b then(match zow P Ψ cp cs o x.2.1 x.2.2 with
    |some (a,U')=>some (x.1.setIfInBounds i true,zi x.2.1 o.dst a,U')
    |none=>none) else some (x.1.setIfInBounds i true,zi x.2.1 o.dst (.raw undef),x.2.2)
   |none=>none)
def qia (l:List Bool):List DSt->Option DSt
 |[]=>none
 |y::L=>if y.1.toList==l then some y else qia l L
def ddup:List DSt->List DSt->Option (List DSt)
 |[],H=>some H
 | y::G,H=>match qia y.1.toList H with
  |some z=>if zmg y.2.1 z.2.1&&eqSt y.2.2 z.2.2 then ddup G H else none
  |none=>ddup G (y::H)
def mapO {α β:Type} (f:α->Option β):List α->Option (List β)
 |[]=>some []
 | x::l=>match f x,mapO f l with
  |some y,some m=>some (y::m)
  |_,_=>none
theorem zvw {α β:Type} {f:α->Option β}: ∀ {l:List α} {m:List β},mapO f l=some m-> ∀x∈l,∃y∈m,f x=some y
 |[],_,_,x,hx=>nomatch hx
 | a::l,m,h,x,hx=>by
  simp only[mapO] at h;split at h<;>cases h
  rename_i y m2 h1 h2;rcases mem_cons.1 hx with rfl|hx
  ·exact⟨y,List.mem_cons_self ..,h1⟩
  ·obtain⟨z,hz,hf⟩:=zvw h2 x hx;exact⟨z,List.mem_cons_of_mem _ hz,hf⟩
def succ1 (P:Program)(Ψ:CallS)(cp:CallP)(cs:CallS)(ops:Array Oper)(x:DSt):Option (List DSt):=mapO (evAt P Ψ cp cs ops x) (Region.ready .any ops x.1)
def evD (P:Program)(Ψ:CallS)(cp:CallP)(cs:CallS)(ops:Array Oper)(r:List AV×St):Nat->List DSt->Bool
 |0,F=>F.all fun x=>(Region.ready .any ops x.1).isEmpty&&zmg x.2.1 r.1&&eqSt x.2.2 r.2
 | k+1,F=>(F.all fun x=> !(Region.ready .any ops x.1).isEmpty||(zmg x.2.1 r.1&&eqSt x.2.2 r.2))&&(match mapO (succ1 P Ψ cp cs ops) F with
  |none=>false
  | some G=>match ddup G.flatten [] with
   |none=>false
   |some H=>evD P Ψ cp cs ops r k H)
theorem zzu {l:List Bool}: ∀ {L:List DSt} {z:DSt},qia l L=some z->z∈L/\ z.1.toList=l
 |[],_,h=>nomatch h
 | y::L,z,h=>by
  rw[qia] at h;split at h
  ·rename_i e;cases h;exact⟨List.mem_cons_self ..,by simpa using e⟩
  ·obtain⟨h1,h2⟩:=zzu h;exact⟨List.mem_cons_of_mem _ h1,h2⟩
theorem zwt: ∀ {G H K:List DSt},ddup G H=some K->(∀y∈G,y∈K)/\ ∀y∈H,y∈K
 |[],H,K,h=>by simp only[ddup,Option.some.injEq] at h;subst h;exact⟨fun y hy=>(nomatch hy),fun y hy=>hy⟩
 | y ::G,H,K,h=>by
  rw[ddup] at h;split at h
  ·rename_i z hz;split at h
   ·rename_i e;simp only[Bool.and_eq_true] at e;obtain⟨h1,h2⟩:=zwt h;obtain⟨m1,m2⟩:=zzu hz;have:y=z:=by
     obtain⟨⟨y1⟩,y2,y3⟩:=y;obtain⟨⟨z1⟩,z2,z3⟩:=z;simp only at m2 e;rw[m2,zfl _ _ e.1,z3a e.2]
    exact⟨fun x hx=>(mem_cons.1 hx).elim (fun e=>by rw[e,this];exact h2 _ m1) (h1 x),h2⟩
   ·cases h
  ·obtain⟨h1,h2⟩:=zwt h;exact⟨fun x hx=>(mem_cons.1 hx).elim (fun e=>by rw[e];exact h2 _ (List.mem_cons_self ..)) (h1 x),fun x hx=>h2 x (List.mem_cons_of_mem _ hx)⟩
variable {P:Program} {cp:CallP} {cs Ψ:CallS}
theorem zxu (hΨ:qbw P Ψ)(hcp:qbf P cp)(hcs:qbw P cs) {ops:Array Oper} {r:List AV×St} {Q:List AV->St->Prop} (hQ:Q r.1 r.2):
 ∀(k:Nat) (F:List DSt),evD P Ψ cp cs ops r k F=true-> ∀x∈F,zqc (ITP P) P none ops Q k x.1 x.2.1 x.2.2
 | 0,F,h,x,hx=>by
  have h:=all_eq_true.1 h x hx;simp only[Bool.and_eq_true,List.isEmpty_iff] at h;refine⟨h.1.1,?_⟩;rw[zfl _ _ h.1.2,z3a h.2];exact hQ
 | k + 1,F,h,x,hx=>by
  simp only[evD,Bool.and_eq_true] at h;have h1:=all_eq_true.1 h.1 x hx;have h2:=h.2;split at h2
  ·cases h2
  rename_i G hG;split at h2
  ·cases h2
  rename_i H hH;obtain⟨d1,_⟩:=zwt hH;have ih:=zxu hΨ hcp hcs hQ k H h2;refine⟨fun he=> ?_,fun i hi=> ?_⟩
  ·rw[he] at h1;simp only[List.isEmpty_nil,Bool.not_true,Bool.false_or,Bool.and_eq_true] at h1;rw[zfl _ _ h1.1,z3a h1.2];exact hQ
  ·obtain⟨m,hm,hs⟩:=zvw hG x hx;obtain⟨y,hy,he⟩:=zvw hs i hi;have hyK:=ih y (d1 y (List.mem_flatten.2 ⟨m,hm,hy⟩));unfold evAt at he;unfold zvo;cases ho:ops[i]? with
   |none=>rw[ho] at he;cases he;exact hyK
   | some o=>
    rw[ho] at he;simp only at he⊢;cases hg:o.guard with
    | none=>
     rw[hg] at he;simp only at he⊢;split at he
     ·rename_i a U1 hs1;cases he;exact zgu hΨ hcp hcs hs1 hyK
     ·cases he
    | some kb=>
     obtain⟨j,b⟩:=kb;rw[hg] at he;simp only at he⊢;split at he
     ·rename_i c hc;refine⟨c,hc,?_⟩;split at he
      ·rename_i e;rw[if_pos e];split at he
       ·rename_i a U1 hs1;cases he;exact zgu hΨ hcp hcs hs1 hyK
       ·cases he
      ·rename_i e;rw[if_neg e];cases he;exact hyK
     ·cases he
def evQ (H:Bool)(P:Program)(Ω:CallP)(Ψ:CallS):Nat->Run
 |0,_,_,_,_=>none
 | k + 1,c,sz,S,U=>match c with
  | .skip=>some (.normal,S,U)
  | .seq x y=>match evQ H P Ω Ψ k x sz S U with
   |some (.normal,S1,U1)=>evQ H P Ω Ψ k y sz S1 U1
   |r=>r
  | .cond c x y=>match zbv S c with
   | .raw (.bool t)=>if t=true then evQ H P Ω Ψ k x sz S U else evQ H P Ω Ψ k y sz S U
   |_=>none
  | .block id x=>match evQ H P Ω Ψ k x sz S U with
   |some (.exit j,S1,U1)=>if j=id then some (.normal,S1,U1) else some (.exit j,S1,U1)
   |r=>r
  | .exit id=>some (.exit id,S,U)
  | .label _=>some (.normal,S,U)
  | .scope x=>evQ H P Ω Ψ k x sz S U
  | .ret=>some (.ret,S,U)
  | .loop x=>match evQ H P Ω Ψ k x sz S U with
   |some (.normal,S1,U1)=>evQ H P Ω Ψ k (.loop x) sz S1 U1
   |r=>r
  | .region _ ops false=>match zmr P Ψ (zjn P Ω (evQ H P Ω Ψ k)) (zpo P Ψ (evQ H P Ω Ψ k)) ops ops.toList S U with
   |some (S1,U1)=>some (.normal,S1,U1)
   |none=>none
  | .region _ ops true=>if zst ops.toList=true then(match(if H=true then qde P (zjn P Ω (evQ H P Ω Ψ k)) (zpo P Ψ (evQ H P Ω Ψ k)) ops sz S U else none) with
   |some (S2,U2)=>some (.normal,S2,U2)
   | none=>match(if H=true then findB ops sz else none) with
    | some n=>(match zjx P (zjn P Ω (evQ H P Ω Ψ k)) ops sz U (ops.toList.take n) S [] with
     | some (S1,ps)=>match zvx P (zjn P Ω (evQ H P Ω Ψ k)) (zpo P Ψ (evQ H P Ω Ψ k)) ops (ops.toList.drop n) (zno U.boxes.length ps S1) (zlp U ps) with
      |some (S2,U2)=>some (.normal,S2,U2)
      |none=>none
     |none=>none)
    | none=>match zmr P Ψ (zjn P Ω (evQ H P Ω Ψ k)) (zpo P Ψ (evQ H P Ω Ψ k)) ops ops.toList S U with
     |some r=>if evD P Ψ (zjn P Ω (evQ H P Ω Ψ k)) (zpo P Ψ (evQ H P Ω Ψ k)) ops r ops.size [(Array.replicate ops.size false,S,U)]=true then some (.normal,r.1,r.2) else none
     |none=>none) else none
  | .rangeFunc f ps asg body=>match zbv S f with
   | .iter xs=>if Nat.ble ps.size 8=true/\ (xs.all fun x=>decide (x.length=ps.size))=true/\ zcg asg=true then zrx (evQ H P Ω Ψ k asg sz) (evQ H P Ω Ψ k body sz) ps S U.boxes.length xs U else none
   |_=>none
  |_=>none
theorem zrd {H:Bool} {P:Program} {Ω:CallP} {Ψ:CallS} (hG:Good P Ω Ψ): ∀k,EvOk P (evQ H P Ω Ψ k)
 |0=>fun c sz S U e S' U' h=>by simp[evQ] at h
 | k + 1=>by
  have ih:=zrd (H:=H) hG k;have hcp:=zrg hG ih;have hcs:=zyh hG ih;intro c sz S U e S' U' h hl;cases c with
  |skip=>simp only[evQ,Option.some.injEq,Prod.mk.injEq] at h;obtain⟨rfl,rfl,rfl⟩:=h;exact⟨hl,fun Q h j=>h⟩
  |label id=>simp only[evQ,Option.some.injEq,Prod.mk.injEq] at h;obtain⟨rfl,rfl,rfl⟩:=h;exact⟨hl,fun Q h j=>h⟩
  |scope x=>simp only[evQ] at h;obtain⟨l1,h1⟩:=ih _ _ _ _ _ _ _ h hl;exact⟨l1,fun Q hQ j=>show awp (ITP P) P none j x Q S U from zcy (h1 Q hQ)⟩
  |exit id=>simp only[evQ,Option.some.injEq,Prod.mk.injEq] at h;obtain⟨rfl,rfl,rfl⟩:=h;exact⟨hl,fun Q h j=>h⟩
  |ret=>simp only[evQ,Option.some.injEq,Prod.mk.injEq] at h;obtain⟨rfl,rfl,rfl⟩:=h;exact⟨hl,fun Q h j=>h⟩
  | seq x y=>
   simp only[evQ] at h;split at h
   ·rename_i S1 U1 hx;obtain⟨l1,h1⟩:=ih _ _ _ _ _ _ _ hx hl;obtain⟨l2,h2⟩:=ih _ _ _ _ _ _ _ h l1;exact⟨l2,fun Q hQ j=>show awp (ITP P) P none j x (ztf _ Q) S U \/_ from .inl (zcy (h1 _ ⟨S1,U1,Wk.refl _ _ _,zcy (h2 Q hQ)⟩))⟩
   ·rename_i hne;obtain⟨l1,h1⟩:=ih _ _ _ _ _ _ _ h hl;refine⟨l1,fun Q hQ j=>show awp (ITP P) P none j x (ztf _ Q) S U \/_ from .inl (zcy (h1 _ ?_))⟩;cases e with
    |normal=>exact absurd h (hne S' U')
    |exit id=>exact hQ
    |ret=>exact hQ
  | cond c x y=>
   simp only[evQ] at h;split at h<;>try cases h
   rename_i t ht;cases t with
   |true=>obtain⟨l1,h1⟩:=ih _ _ _ _ _ _ _ h hl;exact⟨l1,fun Q hQ j=>⟨true,ht,zcy (h1 Q hQ)⟩⟩
   |false=>obtain⟨l1,h1⟩:=ih _ _ _ _ _ _ _ h hl;exact⟨l1,fun Q hQ j=>⟨false,ht,zcy (h1 Q hQ)⟩⟩
  | block id x=>
   simp only[evQ] at h;split at h
   ·rename_i j S1 U1 hx;obtain⟨l1,h1⟩:=ih _ _ _ _ _ _ _ hx hl;split at h
    ·rename_i hj;simp only[Option.some.injEq,Prod.mk.injEq] at h;obtain⟨rfl,rfl,rfl⟩:=h;exact⟨l1,fun Q hQ j=>show awp (ITP P) P none j x (zid U.lens.length j id Q) S U \/_ from .inl (zcy (h1 _ (by simp only[zid];rw[if_pos hj];exact .inl hQ)))⟩
    ·rename_i hj;simp only[Option.some.injEq,Prod.mk.injEq] at h;obtain⟨rfl,rfl,rfl⟩:=h;exact⟨l1,fun Q hQ j=>show awp (ITP P) P none j x (zid U.lens.length j id Q) S U \/_ from .inl (zcy (h1 _ (by simp only[zid];rw[if_neg hj];exact hQ)))⟩
   ·rename_i hne;obtain⟨l1,h1⟩:=ih _ _ _ _ _ _ _ h hl;refine⟨l1,fun Q hQ j=>show awp (ITP P) P none j x (zid U.lens.length j id Q) S U \/_ from .inl (zcy (h1 _ ?_))⟩;cases e with
    |normal=>exact .inl hQ
    |exit j=>exact absurd h (hne j S' U')
    |ret=>exact hQ
  | loop x=>
   simp only[evQ] at h;split at h
   ·rename_i S1 U1 hx;obtain⟨l1,h1⟩:=ih _ _ _ _ _ _ _ hx hl;obtain⟨l2,h2⟩:=ih _ _ _ _ _ _ _ h l1;refine⟨l2,fun Q hQ j=> ?_⟩;obtain⟨m,hm⟩:=h2 Q hQ j;exact⟨m+1,S,U,Wk.refl _ _ _,zcy (k:=j) (h1 _ hm)⟩
   ·rename_i hne;obtain⟨l1,h1⟩:=ih _ _ _ _ _ _ _ h hl;refine⟨l1,fun Q hQ j=>⟨1,S,U,Wk.refl _ _ _,zcy (k:=j) (h1 _ ?_)⟩⟩;cases e with
    |normal=>exact absurd h (hne S' U')
    |exit id=>exact hQ
    |ret=>exact hQ
  | region id ops draw=>
   cases draw with
   | false=>
    simp only[evQ] at h;split at h<;>try cases h
    rename_i ho;obtain⟨l1,h1⟩:=zez hG.oracleS hcp hcs _ _ _ _ _ ho;exact⟨l1.trans hl,fun Q hQ j=>h1 _ hQ⟩
   | true=>
    simp only[evQ] at h;split at h
    rotate_left
    ·cases h
    rename_i hnd;split at h
    ·rename_i S2 U2 hd;cases h;split at hd
     rotate_left
     ·cases hd
     obtain⟨n,hc,S1,hh,ho⟩:=zyx hd;obtain⟨l1,h1⟩:=zho hcp _ _ _ hh hl;obtain⟨l2,h2⟩:=zhe hcp hcs _ _ _ _ _ ho;exact⟨l2.trans l1,fun Q hQ j=> .inr (.inl (qiv n (by rw[hl];exact hc) hnd (h1 _ (h2 _ hQ))))⟩
    ·split at h
     ·rename_i n hn;split at hn
      rotate_left
      ·cases hn
      split at h<;>try cases h
      rename_i S1 ps hh;split at h<;>try cases h
      rename_i ho;obtain⟨l1,h1⟩:=zfk hcp _ _ _ _ _ hh hl;obtain⟨l2,h2⟩:=zhe hcp hcs _ _ _ _ _ ho;exact⟨l2.trans ((zpg _ _ _).trans l1),fun Q hQ j=> .inr (.inl ⟨n,by rw[hl];exact qeo hn,hnd,h1 _ (h2 _ hQ)⟩)⟩
     ·split at h
      rotate_left
      ·cases h
      rename_i r ho;split at h
      rotate_left
      ·cases h
      rename_i ha;cases h;obtain⟨l2,h2⟩:=zez hG.oracleS hcp hcs _ _ _ r.1 r.2 ho;exact⟨l2.trans hl,fun Q hQ j=> .inr (.inr (.inl (zxu hG.oracleS hcp hcs hQ _ _ ha _ (List.mem_cons_self ..))))⟩
  | rangeFunc f ps asg body=>
   simp only[evQ] at h;split at h<;>try(cases h;done)
   rename_i xs hf;split at h
   rotate_left
   ·cases h
   rename_i hc;obtain⟨h1,h2⟩:=zni (P:=P) (asg:=asg) (body:=body) (S0:=S) (fun S1 U1 e1 S1' U1' hl1 h1=>by obtain⟨k1,k2⟩:=ih _ _ _ _ _ _ _ h1 (hl1.trans hl);exact⟨k1.trans hl.symm,fun k Q hQ=>zcy (k2 Q hQ)⟩) (fun S1 U1 e1 S1' U1' hl1 h1 k Q hQ=>zcy ((ih _ _ _ _ _ _ _ h1 (hl1.trans hl)).2 Q hQ)) xs U e S' U' h;exact⟨by rw[h1];exact hl,fun Q hQ j=> .inl ⟨xs,hf,hc.1,hc.2.1,hc.2.2,h2 Q hQ⟩⟩
  |_=>simp[evQ] at h
theorem zfz (H:Bool) {P:Program} {Ω:CallP} {Ψ:CallS} (hG:Good P Ω Ψ)(k:Nat) {f:FuncId} {args:List AV} {r:AV} (h:zjn P Ω (evQ H P Ω Ψ k) f args=some r):Pure (ITP P) P f args r:=zrg hG (zrd (H:=H) hG k) f args r h
end Go.Ab
namespace Go.Proofs
open Go.Shelf
def Tryz.lays162_ren:Go.Shelf.Ren:=⟨fun|162=>105|232=>149|227=>150|234=>151|236=>152|228=>178|271=>179|151=>180|120=>195|197=>196|152=>197|260=>205|137=>158|119=>206|224=>207|225=>208|217=>186|266=>199|n=>n,fun|9=>9|4=>4|3=>3|5=>5|117=>194|116=>193|0=>0|124=>197|21=>21|105=>217|46=>83|119=>248|139=>251|138=>250|n=>n,fun|3=>2|4=>3|n=>n⟩
theorem Tryz.lays162:Go.Proofs.Lays.n162 prog Tryz.lays162_ren:={
 mixed:=by kernel_rfl
 f119:=Tryz.func206.trans (congrArg some (by kernel_rfl))
 f120:=Tryz.func195.trans (congrArg some (by kernel_rfl))
 f137:=Tryz.func158.trans (congrArg some (by kernel_rfl))
 f151:=Tryz.func180.trans (congrArg some (by kernel_rfl))
 f152:=Tryz.func197.trans (congrArg some (by kernel_rfl))
 f162:=Tryz.func105.trans (congrArg some (by kernel_rfl))
 f197:=Tryz.func196.trans (congrArg some (by kernel_rfl))
 f217:=Tryz.func186.trans (congrArg some (by kernel_rfl))
 f224:=Tryz.func207.trans (congrArg some (by kernel_rfl))
 f225:=Tryz.func208.trans (congrArg some (by kernel_rfl))
 f227:=Tryz.func150.trans (congrArg some (by kernel_rfl))
 f228:=Tryz.func178.trans (congrArg some (by kernel_rfl))
 f232:=Tryz.func149.trans (congrArg some (by kernel_rfl))
 f234:=Tryz.func151.trans (congrArg some (by kernel_rfl))
 f236:=Tryz.func152.trans (congrArg some (by kernel_rfl))
 f260:=Tryz.func205.trans (congrArg some (by kernel_rfl))
 f266:=Tryz.func199.trans (congrArg some (by kernel_rfl))
 f271:=Tryz.func179.trans (congrArg some (by kernel_rfl))
 t0:=Tryz.underlying0
 a0:=Tryz.isAgg0
 z0:=Tryz.sizeOf0
 v0:=Tryz.zeroValue0
 t3:=Tryz.underlying3
 a3:=Tryz.isAgg3
 z3:=Tryz.sizeOf3
 v3:=Tryz.zeroValue3
 t4:=Tryz.underlying4
 a4:=Tryz.isAgg4
 z4:=Tryz.sizeOf4
 v4:=Tryz.zeroValue4
 t5:=Tryz.underlying5
 a5:=Tryz.isAgg5
 z5:=Tryz.sizeOf5
 v5:=Tryz.zeroValue5
 t9:=Tryz.underlying9
 a9:=Tryz.isAgg9
 z9:=Tryz.sizeOf9
 v9:=Tryz.zeroValue9
 t21:=Tryz.underlying21
 a21:=Tryz.isAgg21
 z21:=Tryz.sizeOf21
 v21:=Tryz.zeroValue21
 t46:=Tryz.underlying83
 a46:=Tryz.isAgg83
 z46:=Tryz.sizeOf83
 v46:=Tryz.zeroValue83
 t105:=Tryz.underlying217
 a105:=Tryz.isAgg217
 z105:=Tryz.sizeOf217
 v105:=Tryz.zeroValue217
 t116:=Tryz.underlying193
 a116:=Tryz.isAgg193
 z116:=Tryz.sizeOf193
 t117:=Tryz.underlying194
 a117:=Tryz.isAgg194
 z117:=Tryz.sizeOf194
 v117:=Tryz.zeroValue194
 t119:=Tryz.underlying248
 a119:=Tryz.isAgg248
 z119:=Tryz.sizeOf248
 t124:=Tryz.underlying197
 a124:=Tryz.isAgg197
 z124:=Tryz.sizeOf197
 v124:=Tryz.zeroValue197
 t138:=Tryz.underlying250
 a138:=Tryz.isAgg250
 z138:=Tryz.sizeOf250
 v138:=Tryz.zeroValue250
 t139:=Tryz.underlying251
 a139:=Tryz.isAgg251
 z139:=Tryz.sizeOf251
 v139:=Tryz.zeroValue251
 g3:=by kernel_rfl
 g4:=by kernel_rfl}
open Go.RowKit in
theorem Tryz.strings_TrimRight_one (s:ByteArray)(c:UInt8)(hc:c.toNat<128)(w:World)(hs:s.size<=9223372036854775807):
 Calls prog 105 #[.string s,.string ⟨#[c]⟩] w fun e w'=>e= .returned (.string ⟨(Lib.trimRightB s.data.toList c).toArray⟩)/\ w'=w:=Any.strings_TrimRight_one Tryz.lays162 s c hc w hs
def Tryz.lays137_ren:Go.Shelf.Ren:=⟨fun|137=>158|217=>186|266=>199|n=>n,fun|9=>9|5=>5|3=>3|n=>n,fun|n=>n⟩
theorem Tryz.lays137:Go.Proofs.Lays.n137 prog Tryz.lays137_ren:={
 mixed:=by kernel_rfl
 f137:=Tryz.func158.trans (congrArg some (by kernel_rfl))
 f217:=Tryz.func186.trans (congrArg some (by kernel_rfl))
 f266:=Tryz.func199.trans (congrArg some (by kernel_rfl))
 t3:=Tryz.underlying3
 a3:=Tryz.isAgg3
 z3:=Tryz.sizeOf3
 v3:=Tryz.zeroValue3
 t5:=Tryz.underlying5
 a5:=Tryz.isAgg5
 z5:=Tryz.sizeOf5
 v5:=Tryz.zeroValue5
 t9:=Tryz.underlying9
 a9:=Tryz.isAgg9
 z9:=Tryz.sizeOf9
 v9:=Tryz.zeroValue9}
open Go.RowKit in
theorem Tryz.strings_IndexByte (s:ByteArray)(c:Int)(w:World):
 Calls prog 158 #[.string s,.int .u8 c] w fun e w'=>e= .returned (.int .i64 (Lib.indexByte s.data.toList c.toNat.toUInt8))/\ w'=w:=Any.strings_IndexByte Tryz.lays137 s c w
def Tryz.lays103_ren:Go.Shelf.Ren:=⟨fun|103=>57|210=>103|206=>63|n=>n,fun|9=>9|4=>4|24=>105|3=>3|n=>n,fun|n=>n⟩
theorem Tryz.lays103:Go.Proofs.Lays.n103 prog Tryz.lays103_ren:={
 mixed:=by kernel_rfl
 f103:=Tryz.func57.trans (congrArg some (by kernel_rfl))
 f206:=Tryz.func63.trans (congrArg some (by kernel_rfl))
 f210:=Tryz.func103.trans (congrArg some (by kernel_rfl))
 t3:=Tryz.underlying3
 a3:=Tryz.isAgg3
 z3:=Tryz.sizeOf3
 v3:=Tryz.zeroValue3
 t4:=Tryz.underlying4
 a4:=Tryz.isAgg4
 z4:=Tryz.sizeOf4
 v4:=Tryz.zeroValue4
 t9:=Tryz.underlying9
 a9:=Tryz.isAgg9
 z9:=Tryz.sizeOf9
 v9:=Tryz.zeroValue9
 t24:=Tryz.underlying105
 a24:=Tryz.isAgg105
 z24:=Tryz.sizeOf105
 v24:=Tryz.zeroValue105}
open Go.RowKit in
theorem Tryz.strings_CutPrefix (s p:ByteArray)(w:World):
 Calls prog 57 #[.string s,.string p] w fun e w'=>e= .returned (.tuple #[.string ⟨(Lib.trimPrefix s.data.toList p.data.toList).toArray⟩,.bool (Lib.hasPrefix s.data.toList p.data.toList)])/\ w'=w:=Any.strings_CutPrefix Tryz.lays103 s p w
def Tryz.lays104_ren:Go.Shelf.Ren:=⟨fun|104=>104|211=>148|207=>177|n=>n,fun|9=>9|4=>4|24=>105|3=>3|n=>n,fun|n=>n⟩
theorem Tryz.lays104:Go.Proofs.Lays.n104 prog Tryz.lays104_ren:={
 mixed:=by kernel_rfl
 f104:=Tryz.func104.trans (congrArg some (by kernel_rfl))
 f207:=Tryz.func177.trans (congrArg some (by kernel_rfl))
 f211:=Tryz.func148.trans (congrArg some (by kernel_rfl))
 t3:=Tryz.underlying3
 a3:=Tryz.isAgg3
 z3:=Tryz.sizeOf3
 v3:=Tryz.zeroValue3
 t4:=Tryz.underlying4
 a4:=Tryz.isAgg4
 z4:=Tryz.sizeOf4
 v4:=Tryz.zeroValue4
 t9:=Tryz.underlying9
 a9:=Tryz.isAgg9
 z9:=Tryz.sizeOf9
 v9:=Tryz.zeroValue9
 t24:=Tryz.underlying105
 a24:=Tryz.isAgg105
 z24:=Tryz.sizeOf105
 v24:=Tryz.zeroValue105}
open Go.RowKit in
theorem Tryz.strings_CutSuffix (s p:ByteArray)(w:World)(hs:s.size<=9223372036854775807):
 Calls prog 104 #[.string s,.string p] w fun e w'=>e= .returned (.tuple #[.string ⟨(Lib.trimSuffix s.data.toList p.data.toList).toArray⟩,.bool (Lib.hasSuffix s.data.toList p.data.toList)])/\ w'=w:=Any.strings_CutSuffix Tryz.lays104 s p w hs
def Tryz.lays99_ren:Go.Shelf.Ren:=⟨fun|99=>28|206=>63|n=>n,fun|9=>9|4=>4|3=>3|n=>n,fun|n=>n⟩
theorem Tryz.lays99:Go.Proofs.Lays.n99 prog Tryz.lays99_ren:={
 mixed:=by kernel_rfl
 f99:=Tryz.func28.trans (congrArg some (by kernel_rfl))
 f206:=Tryz.func63.trans (congrArg some (by kernel_rfl))
 t3:=Tryz.underlying3
 a3:=Tryz.isAgg3
 z3:=Tryz.sizeOf3
 v3:=Tryz.zeroValue3
 t4:=Tryz.underlying4
 a4:=Tryz.isAgg4
 z4:=Tryz.sizeOf4
 v4:=Tryz.zeroValue4
 t9:=Tryz.underlying9
 a9:=Tryz.isAgg9
 z9:=Tryz.sizeOf9
 v9:=Tryz.zeroValue9}
open Go.RowKit Go.Lib in
theorem Tryz.strings_HasPrefix (s p:ByteArray)(w:World):
 Calls prog 28 #[.string s,.string p] w fun e w'=>e= .returned (.bool (Lib.hasPrefix s.data.toList p.data.toList))/\ w'=w:=Any.strings_HasPrefix Tryz.lays99 s p w
end Go.Proofs
namespace Go.Ab
open Go Go.RowKit Go.Fwd Go.Proofs
variable {ρ:Operand->AV} {o:Oper} {y:Operand}
theorem mix:prog.follows .mixedOrders=true:=by kernel_rfl
theorem ents (f:Nat)(fn:Func)(hf:prog.funcs[f]? =some fn)(hb:fn.body.isSome=true):Ent prog f:=by
 obtain⟨c,hc⟩:=Option.isSome_iff_exists.1 hb;have hall:(prog.funcs.toList.all fun fn=> !(fn.name== "runtime.NumGoroutine"))=true:=by kernel_rfl
 have:=all_eq_true.1 hall fn (Array.mem_toList_iff.2 (Array.mem_of_getElem? hf));exact enters_of hf (by simpa using this) hc
def noP:CallP:=fun _ _=>none
def noS:CallS:=fun _ _ _=>none
theorem goodN:Good prog noP noS:=⟨mix,ents,(fun _ _ _ h=>nomatch h),(fun _ _ _ _ _ h=>nomatch h)⟩
theorem undS:prog.underlying 24=some (.array 4 22):=by kernel_rfl
theorem undW:prog.underlying 22=some (.int .u64):=by kernel_rfl
theorem sizeW (w:World):(sizeOf 22).run prog w= .ok 1 w:=by kernel_rfl
theorem aggW (w:World):(isAgg 22).run prog w= .ok false w:=by kernel_rfl
theorem eqInS' (d:Nat)(a0 a1 a2 a3 b0 b1 b2 b3:Int)(w:World):(Op.equalIn (d+1+1) 24 (.agg #[.int .u64 a0,.int .u64 a1,.int .u64 a2,.int .u64 a3]) (.agg #[.int .u64 b0,.int .u64 b1,.int .u64 b2,.int .u64 b3])).run prog w=
 .ok (a0==b0&&a1==b1&&a2==b2&&a3==b3) w:=by
 rw[Op.equalIn];simp only[Sem.run_bind,run_underlying undS,Result.andThen_ok,sizeW];have hq: ∀(a b:Int) (w:World),(Op.equalIn (d+1) 22 (.int .u64 a) (.int .u64 b)).run prog w= .ok (a==b) w:=fun a b w=>run_equalIn_int w d 22 .u64 .u64 a b undW;have hr:List.range' 0 4=[0,1,2,3]:=rfl;simp[part,hr,aggW,Sem.run_bind,hq,Result.andThen];by_cases h0:a0=b0<;>by_cases h1:a1=b1<;>by_cases h2:a2=b2<;>by_cases h3:a3=b3<;>simp[h0,h1,h2,h3,hq,Result.andThen]
theorem eqInS (a0 a1 a2 a3 b0 b1 b2 b3:Int)(w:World):(Op.equalIn 10000 24 (.agg #[.int .u64 a0,.int .u64 a1,.int .u64 a2,.int .u64 a3]) (.agg #[.int .u64 b0,.int .u64 b1,.int .u64 b2,.int .u64 b3])).run prog w=
 .ok (a0==b0&&a1==b1&&a2==b2&&a3==b3) w:=eqInS' 9998 _ _ _ _ _ _ _ _ w
theorem qjj:prog.eqGuardType prog.depth 24=false:=by kernel_rfl
theorem qba {x:Operand} {c} (s t:BS)(ho:o.op= .binOp .eql 24 x y c)(hx:ρ x=qec s)(hy:ρ y=qec t):zpp prog ρ o (.raw (.bool (decide (s=t)))):=by
 refine⟨?_,by rw[ho];intros;simp,by rw[ho];intros;simp,.bool (decide (s=t)),fun w=> ?_,rfl,rfl⟩
 ·rw[ho];simp[Op.operands,hx,hy,qec,zdm,zeg,zja]
 ·have h1:zce ρ x= .agg #[.int .u64 (wd s 0),.int .u64 (wd s 1),.int .u64 (wd s 2),.int .u64 (wd s 3)]:=by simp[zce,hx,qec,zdm,zeg,zja]
  have h2:zce ρ y= .agg #[.int .u64 (wd t 0),.int .u64 (wd t 1),.int .u64 (wd t 2),.int .u64 (wd t 3)]:=by simp[zce,hy,qec,zdm,zeg,zja]
  have h3:=eqInS (wd s 0) (wd s 1) (wd s 2) (wd s 3) (wd t 0) (wd t 1) (wd t 2) (wd t 3) w;rw[qaq] at h3;simp[execOp,ho,h1,h2,eqGuard,binOp,Op.equal,Op.maxDepth,program,Sem.run,qjj,h3]
theorem z6h {x:Operand} {c} (s t:BS)(ho:o.op= .binOp .neq 24 x y c)(hx:ρ x=qec s)(hy:ρ y=qec t):zpp prog ρ o (.raw (.bool (decide (s≠t)))):=by
 refine⟨?_,by rw[ho];intros;simp,by rw[ho];intros;simp,.bool (decide (s≠t)),fun w=> ?_,rfl,rfl⟩
 ·rw[ho];simp[Op.operands,hx,hy,qec,zdm,zeg,zja]
 ·have h1:zce ρ x= .agg #[.int .u64 (wd s 0),.int .u64 (wd s 1),.int .u64 (wd s 2),.int .u64 (wd s 3)]:=by simp[zce,hx,qec,zdm,zeg,zja]
  have h2:zce ρ y= .agg #[.int .u64 (wd t 0),.int .u64 (wd t 1),.int .u64 (wd t 2),.int .u64 (wd t 3)]:=by simp[zce,hy,qec,zdm,zeg,zja]
  have h3:=eqInS (wd s 0) (wd s 1) (wd s 2) (wd s 3) (wd t 0) (wd t 1) (wd t 2) (wd t 3) w;rw[qaq] at h3;simp[execOp,ho,h1,h2,eqGuard,binOp,Op.equal,Op.maxDepth,program,Sem.run,qjj,h3]
theorem zfy {x:Operand} {c} (s t:BS)(ho:o.op= .binOp .eql 24 x y c)(hx:ρ x= .agg (Enc.cells s))(hy:ρ y= .agg (Enc.cells t)):zpp prog ρ o (.raw (.bool (decide (s=t)))):=qba s t ho hx hy
theorem znd {x:Operand} {c} (s t:BS)(ho:o.op= .binOp .neq 24 x y c)(hx:ρ x= .agg (Enc.cells s))(hy:ρ y= .agg (Enc.cells t)):zpp prog ρ o (.raw (.bool (decide (s≠t)))):=z6h s t ho hx hy
theorem or_run (a b:BS):Pure (ITP prog) prog 67 [.agg (Enc.cells a),.agg (Enc.cells b)] (.agg [.raw (.int .u64 (orI .u64 (wd a 0) (wd b 0))),.raw (.int .u64 (orI .u64 (wd a 1) (wd b 1))),.raw (.int .u64 (orI .u64 (wd a 2) (wd b 2))),.raw (.int .u64 (orI .u64 (wd a 3) (wd b 3)))]):=zfz true goodN 100 (by kernel_rfl)
theorem qfx (a b:BS):Pure (ITP prog) prog 67 [.agg (Enc.cells a),.agg (Enc.cells b)] (.agg (Enc.cells (a|||b))):=by
 have:=or_run a b;simp only[qbm] at this;exact this
end Go.Ab
namespace Go.Ab
open Go Go.RowKit Go.Fwd
end Go.Ab
namespace Go.Ab
open Go Go.RowKit Go.Fwd
section
variable {P:Program} {ρ:Operand->AV} {U:St} {o:Oper}
theorem zqt {x:Operand} {s t:TypeId} {k:IntKind} {n:Int} (g: -9223372036854775808<=n/\ n<9223372036854775808)(ho:o.op= .convert s t x)(hx:ρ x= .raw (.int k n))(hs:val? P (Next.value<$>convert s t (.int k n))=some (.value (.int .i64 (IntKind.i64.wrap n)))):qop P ρ U o=some (.raw (.int .i64 n)):=by
 have h:=zqp g.1 g.2;rw[h] at hs;simp[qop,zfd,ho,Op.operands,hx,zdm,execOp,zce,hs,zob];exact⟨rfl,rfl⟩
end
section
variable {P:Program} {ρ:Operand->AV} {U:St} {o:Oper}
end
end Go.Ab
namespace Go.Ab
open Go Go.RowKit Go.Fwd Go.Proofs
structure Bd where
 lo:Int
 mo:Int
 deriving DecidableEq
def qbt (e:Bd):List AV:=[.raw (.int .i64 e.lo),.raw (.int .i64 e.mo)]
instance:Enc Bd where
 inh:=⟨0,0⟩
 cells:=qbt
 cellsL l:=l.flatMap qbt
 sz:=2
 pos:=by decide
 nil:=rfl
 cons _ _:=rfl
 len _:=rfl
 clo _:=rfl
theorem z2v {ρ:Operand->AV} {U:St} {o:Oper} {x:Operand} {b:Nat} {t:TypeId} {i:Int} (s:BS)(hi:0<=i/\ i<4)(ho:o.op= .load 22 x)(hx:ρ x= .ptr b (0+i.toNat*1))(hb:U.boxes[b]? =some (t,Enc.cells s)):qop prog ρ U o=some (.raw (.int .u64 (wd s i.toNat))):=by
 have key: ∀j:Nat,j<4->rd prog 22 ((Enc.cells s).drop (0+j*1))=some (.raw (.int .u64 (wd s j))):=by
  intro j hj
  match j,hj with
  |0,_=>rfl
  |1,_=>rfl
  |2,_=>rfl
  |3,_=>rfl
 simp only[qop,ho,zzt,hx,hb];exact key i.toNat (by omega)
variable {P:Program}
theorem zig {f:FuncId} {args:List AV} {r:AV} (vs:List Value)(he:Ent P f)(ha: ∀X us,zbe (ITP P) X args us->us=vs)
 (h: ∀X,Inv (ITP P) St.empty X->Calls P f vs.toArray X.w fun e w'=> ∃u,e= .returned u/\ w'=X.w/\ ∀Y,Rep (ITP P) Y r u):Pure (ITP P) P f args r:=by
 refine⟨he,fun X us hI hr=> ?_⟩;rw[ha X us hr];refine(h X hI).mono ?_;rintro e w' ⟨u,rfl,rfl,hu⟩;exact⟨u,X,rfl,rfl,Ext.refl X,hI,hu _⟩
theorem qao {X:Cx} {u v:Value} {us:List Value} (h:zbe (ITP P) X [.raw u,.raw v] us):us=[u,v]:=by
 obtain⟨a,l,rfl,ha,b,l',rfl,hb,hl⟩:=h;have ha:a=u:=ha;have hb:b=v:=hb;have hl:l'=[]:=hl;rw[ha,hb,hl]
theorem ent158:Ent prog 158:=enters_of Tryz.func158 (by kernel_rfl) rfl
theorem ent28:Ent prog 28:=enters_of Tryz.func28 (by kernel_rfl) rfl
theorem ent57:Ent prog 57:=enters_of Tryz.func57 (by kernel_rfl) rfl
theorem ent104:Ent prog 104:=enters_of Tryz.func104 (by kernel_rfl) rfl
theorem ent105:Ent prog 105:=enters_of Tryz.func105 (by kernel_rfl) rfl
theorem z5r (l:List UInt8)(c:UInt8):Pure (ITP prog) prog 158 [.raw (.string (bs l)),.raw (.int .u8 ((c.toNat:Nat):Int))] (.raw (.int .i64 (Lib.indexByte l c))):=by
 have h:Pure (ITP prog) prog 158 [.raw (.string (bs l)),.raw (.int .u8 ((c.toNat:Nat):Int))] (.raw (.int .i64 (Lib.indexByte l ((c.toNat:Nat):Int).toNat.toUInt8))):=
  zig [.string (bs l),.int .u8 _] ent158 (fun X us h=>qao h) fun X hI=>(Tryz.strings_IndexByte (bs l) _ X.w).mono fun e w' ⟨h1,h2⟩=>⟨_,h1,h2,fun Y=>rfl⟩
 rwa[show((c.toNat:Nat):Int).toNat.toUInt8=c by simp] at h
def zkx (e:Int):UInt8:=UInt8.ofNat e.toNat
theorem u8c {e:Int} (g:0<=e/\ e<256):((zkx e).toNat:Int)=e:=by
 unfold zkx;have h:e.toNat<256:=by omega
 rw[show(UInt8.ofNat e.toNat).toNat=e.toNat by simp;omega];omega
theorem zrs (l:List UInt8) {e:Int} (h:0<=e/\ e<256):Pure (ITP prog) prog 158 [.raw (.string (bs l)),.raw (.int .u8 e)] (.raw (.int .i64 (Lib.indexByte l (zkx e)))):=by
 have:=z5r l (zkx e);rwa[u8c h] at this
theorem zmy (l p:List UInt8):Pure (ITP prog) prog 28 [.raw (.string (bs l)),.raw (.string (bs p))] (.raw (.bool (Lib.hasPrefix l p))):=
 zig [.string (bs l),.string (bs p)] ent28 (fun X us h=>qao h) fun X hI=>(Tryz.strings_HasPrefix (bs l) (bs p) X.w).mono fun e w' ⟨h1,h2⟩=>⟨_,h1,h2,fun Y=>rfl⟩
theorem qap (l p:List UInt8):Pure (ITP prog) prog 57 [.raw (.string (bs l)),.raw (.string (bs p))] (.tup [.raw (.string (bs (Lib.trimPrefix l p,Lib.hasPrefix l p).1)),.raw (.bool (Lib.trimPrefix l p,Lib.hasPrefix l p).2)]):=
 zig [.string (bs l),.string (bs p)] ent57 (fun X us h=>qao h) fun X hI=>(Tryz.strings_CutPrefix (bs l) (bs p) X.w).mono fun e w' ⟨h1,h2⟩=>⟨_,h1,h2,fun Y=>⟨_,rfl,_,_,rfl,rfl,_,_,rfl,rfl,rfl⟩⟩
theorem z9t (l p:List UInt8)(h:l.length<=9223372036854775807):Pure (ITP prog) prog 104 [.raw (.string (bs l)),.raw (.string (bs p))] (.tup [.raw (.string (bs (Lib.trimSuffix l p,Lib.hasSuffix l p).1)),.raw (.bool (Lib.trimSuffix l p,Lib.hasSuffix l p).2)]):=
 zig [.string (bs l),.string (bs p)] ent104 (fun X us h=>qao h) fun X hI=>(Tryz.strings_CutSuffix (bs l) (bs p) X.w h).mono fun e w' ⟨h1,h2⟩=>⟨_,h1,h2,fun Y=>⟨_,rfl,_,_,rfl,rfl,_,_,rfl,rfl,rfl⟩⟩
theorem z7k (l:List UInt8)(c:UInt8)(hc:c.toNat<128)(h:l.length<=9223372036854775807):Pure (ITP prog) prog 105 [.raw (.string (bs l)),.raw (.string (bs [c]))] (.raw (.string (bs (Lib.trimRightB l c)))):=
 zig [.string (bs l),.string (bs [c])] ent105 (fun X us h=>qao h) fun X hI=>(Tryz.strings_TrimRight_one (bs l) c hc X.w h).mono fun e w' ⟨h1,h2⟩=>⟨_,h1,h2,fun Y=>rfl⟩
end Go.Ab
namespace Go.Ab
open Go Go.RowKit Go.Fwd
variable {ops:Array Oper} {S S' l':List AV} {n d:Nat} {y:Operand}
section
variable {IT:IterP} {P:Program} {W:Owed} {k0:Nat}
theorem qfo {id:Nat} {y:Code} {Q:AQ} {U:St} (S1:List AV)(U1:St)(h:zqc IT P W ops (fun S U=>Wk k0 S U S1 U1) ops.size (Array.replicate ops.size false) S U)(hrest:awp IT P W k0 y Q S1 U1):awp IT P W k0 (.seq (.region id ops true) y) Q S U:=
 .inl (.inr (.inr (.inl (zgc (fun S U hw=>⟨S1,U1,hw,hrest⟩) _ _ _ _ h))))
theorem zos {ops0:Array Oper} {FIN0:List AV->St->Prop} {k:Nat} {l:Array Bool} {U:St} (h: ∀ops,ops=ops0-> ∀FIN:List AV->St->Prop,(∀S U,FIN0 S U->FIN S U)-> ∀S0,S0=S->zqc IT P W ops FIN k l S0 U):zqc IT P W ops0 FIN0 k l S U:=h ops0 rfl FIN0 (fun _ _ h=>h) S rfl
theorem aopAt_s {ops0:Array Oper} {K:List AV->St->Prop} {i:Nat} {o:Oper} {U:St} (hops:ops=ops0)(ho:ops0[i]? =some o)(h:zca IT P W ops K [o] S U):zvo IT P W ops K i S U:=by
 subst hops;unfold zvo;rw[ho];simp only[zca] at h;exact h
theorem aany_n {ops0:Array Oper} {FIN:List AV->St->Prop} {k:Nat} {bs:List Bool} {U:St} (hops:ops=ops0)(is:List Nat)(hr:Region.ready .any ops0 ⟨bs⟩=is)(hne:is≠[])(h: ∀i∈is,zvo IT P W ops (fun S U=>zqc IT P W ops FIN k ⟨bs.set i true⟩ S U) i S U):zqc IT P W ops FIN (k+1) ⟨bs⟩ S U:=by
 subst hops;refine⟨fun e=>absurd (hr.symm.trans e) hne,fun i hi=> ?_⟩;have h1:=h i (hr▸hi);have e:(⟨bs⟩:Array Bool).setIfInBounds i true=⟨bs.set i true⟩:=by
  apply Array.ext';simp
 rw[e];exact h1
theorem aany_0 {ops0:Array Oper} {FIN:List AV->St->Prop} {bs:List Bool} {U:St} (hops:ops=ops0)(hr:Region.ready .any ops0 ⟨bs⟩=[])(h:FIN S U):zqc IT P W ops FIN 0 ⟨bs⟩ S U:=by
 subst hops;exact⟨hr,h⟩
theorem all_nil {p:Nat->Prop}: ∀i∈([]:List Nat),p i:=fun i h=>by cases h
theorem all_cons {p:Nat->Prop} {a:Nat} {l:List Nat} (h:p a)(t: ∀i∈l,p i): ∀i∈a::l,p i:=fun i hi=>by
 rcases mem_cons.1 hi with rfl|hi
 ·exact h
 ·exact t i hi
end
section
variable {P:Program} {ρ:Operand->AV} {U:St} {o:Oper} {α:Type} [Enc α]
theorem Enc.atK {l:List α} {i:Int} (g:0<=i/\ i<l.length)(k:Nat):(Enc.cellsL l).drop (0+i.toNat*Enc.sz α+k)=(Enc.cells (ix l i)++Enc.cellsL (l.drop (i.toNat+1))).drop k:=by
 rw[Nat.zero_add, <-List.drop_drop,Enc.at g]
theorem qdn {t e:TypeId} {x i:Operand} {s:Nat} {f:Bool} {k:IntKind} {j:Int} (g:0<=j/\ j<n)(ho:o.op= .indexAddr t x i)(hx:ρ x= .bsl s 0 n (Enc.sz α) f)(hi:ρ i= .raw (.int k j))(hu:P.underlying t=some (.slice e))(hs:zfa P e=some (Enc.sz α)):
 qop P ρ U o=some (.ptr s (0+j.toNat*Enc.sz α)):=qge ho hx hi hu hs g
theorem q_loadB {l:List α} {i:Int} {k s:Nat} {te t:TypeId} {x:Operand} {a:AV} (g:0<=i/\ i<l.length)(ho:o.op= .load t x)(hx:ρ x= .ptr s (0+i.toNat*Enc.sz α+k))(hb:U.boxes[s]? =some (te,Enc.cellsL l))(hr:rd P t ((Enc.cells (ix l i)++Enc.cellsL (l.drop (i.toNat+1))).drop k)=some a):
 qop P ρ U o=some a:=by
 rw[<-Enc.atK g] at hr;simp only[qop,ho,hx,zzt,hb,hr]
theorem Enc.putK {l:List α} {i:Int} {x:α} {k:Nat} {cs:List AV} (g:0<=i/\ i<l.length)(hl:cs.length=n)(hk:k+n<=Enc.sz α)(hx:Enc.cells x=(Enc.cells (ix l i)).take k++cs++(Enc.cells (ix l i)).drop (k+n)):
 (Enc.cellsL l).take (0+i.toNat*Enc.sz α+k)++cs++(Enc.cellsL l).drop (0+i.toNat*Enc.sz α+k+n)=Enc.cellsL (l.set i.toNat x):=by
 have hi:i.toNat<l.length:=by omega
 have hset:l.set i.toNat x=l.take i.toNat++[x]++l.drop (i.toNat+1):=by
  rw[List.set_eq_take_append_cons_drop,if_pos hi];simp
 have hlen:=Enc.len (ix l i);have e1:(Enc.cellsL l).drop (i.toNat*Enc.sz α)=Enc.cells (ix l i)++Enc.cellsL (l.drop (i.toNat+1)):=Enc.at g;have e2:(Enc.cellsL l).take (0+i.toNat*Enc.sz α+k)=Enc.cellsL (l.take i.toNat)++(Enc.cells (ix l i)).take k:=by
  rw[Nat.zero_add,List.take_add,Enc.take,e1,List.take_append_of_le_length (by omega)]
 have e3:(Enc.cellsL l).drop (0+i.toNat*Enc.sz α+k+n)=(Enc.cells (ix l i)).drop (k+n)++Enc.cellsL (l.drop (i.toNat+1)):=by
  rw[Nat.zero_add,Nat.add_assoc, <-List.drop_drop,e1,List.drop_append_of_le_length (by omega)]
 rw[e2,e3,hset,Enc.app,Enc.app,Enc.cons,Enc.nil,hx];simp
theorem qad {l:List α} {i:Int} {k s:Nat} {te t:TypeId} {x:Operand} {v:AV} (x':α)(g:0<=i/\ i<l.length)(ho:o.op= .store t x y)(hx:ρ x= .ptr s (0+i.toNat*Enc.sz α+k))(hy:ρ y=v)(hb:U.boxes[s]? =some (te,Enc.cellsL l))(hn:zfa P t=some n)(hc:zif v=true)(hl:(cellsOf v).length=n)(h0:0<n)(hk:k+n<=Enc.sz α)
 (hx':Enc.cells x'=(Enc.cells (ix l i)).take k++cellsOf v++(Enc.cells (ix l i)).drop (k+n)):aop P ρ U o=some (.raw undef,{U with boxes:=U.boxes.set s (te,Enc.cellsL (l.set i.toNat x'))}):=by
 have hfit:0+i.toNat*Enc.sz α+k+n<=(Enc.cellsL l).length:=by
  rw[Enc.lenL];have h1:i.toNat+1<=l.length:=by omega
  have h2:=Nat.mul_le_mul_right (Enc.sz α) h1;rw[Nat.succ_mul] at h2;omega
 rw[zcr (n:=n) ho hx hy hb hn ⟨hc,hl,hfit,h0⟩,Enc.putK g hl hk hx']
theorem opB_bsl {c:Call} {x:Operand} {t e:TypeId} {i:TypeInfo} {z:Value} {s by':Nat} {l r:List α} {st:Room} (hn:l.length=n/\ 0<n/\ 0<r.length/\ (n+r.length)*by'<=140737488355328)(ho:o.op= .call c)(hc:c.callee= .builtin .append)(ha:c.args.toList=[x,y])(ht:c.argTypes.toList=[t,t])
 (hx:ρ x= .bsl s 0 n (Enc.sz α) false) (hy:ρ y= .list r.length (Enc.cellsL r) st) (hb:U.boxes[s]? =some (e,Enc.cellsL l)) (hu:P.underlying t=some (.slice e)) (hi:P.info? e=some i) (hz:i.zero=some z) (hsz:i.size=Enc.sz α) (hzs:z.cells.size=Enc.sz α) (hby:i.bytes=by'/\ 0<by'):
 zvc P ρ U o=some (.bsl U.boxes.length 0 (n+r.length) (Enc.sz α) false,{U with boxes:=U.boxes.set s (e,[])++[(e,Enc.cellsL (l++r))]}):=by
 obtain⟨h1,h2,h3,h4⟩:=hn;have hp:=Enc.pos (α:=α);have hsrc:qae P U i.size t t (ρ y)=some (r.length,Enc.cellsL r):=by rw[hy];exact zsg ⟨rfl,by rw[Enc.lenL,hsz],by omega⟩
 have hmax:n+r.length<=maxLen:=by
  have h5:n+r.length<=(n+r.length)*by':=Nat.le_mul_of_pos_right _ hby.2
  have h6:140737488355328<=maxLen:=by decide
  omega
 have hcond:Enc.sz α=i.size/\ n+r.length<=maxLen/\ (n+r.length)*i.bytes<=140737488355328/\ 0+n*Enc.sz α<=(Enc.cellsL l).length:=⟨hsz.symm,hmax,by rw[hby.1];exact h4,by rw[Enc.lenL,h1];omega⟩;have hcond2:(0:Nat)=0/\ n*Enc.sz α=(Enc.cellsL l).length/\ e=e/\ 0<n:=⟨rfl,by rw[Enc.lenL,h1],rfl,h2⟩;have hcond0:0<i.size/\ z.cells.size=i.size/\ 0<r.length:=⟨by omega,by omega,h3⟩;have key:zoz P U t t (ρ x) (ρ y)=some (.bsl U.boxes.length 0 (n+r.length) (Enc.sz α) false,{U with boxes:=U.boxes.set s (e,[])++[(e,Enc.cellsL (l++r))]}):=by
  rw[zoz];simp only[hu,hi,hz,hsrc,if_pos hcond0,hx,hb,if_pos hcond,Bool.false_eq_true,if_false,Enc.app];rw[if_pos ⟨trivial,hcond2.2.1,trivial,h2⟩]
 have hnn:zta (ρ x)=false:=by rw[hx];rfl
 simp only[zvc,ho,hc,ha,ht,key,hnn,Bool.false_eq_true,if_false]
end
section
variable {m:Nat} {g:FZ}
theorem zhx:fgM [] (zv m g [])=[]:=by rw[zv];rfl
theorem zco {a b:AV} {ms:List Bool} (h:zgv m g a=b)(r:fgM ms (zv m g S)=S'):fgM (true::ms) (zv m g (a::S))=b::S':=by
 rw[zv];show(bif true then zgv m g a else .top)::_=_;rw[r,h];rfl
theorem zcp {a:AV} {ms:List Bool} (r:fgM ms (zv m g S)=S'):fgM (false::ms) (zv m g (a::S))= .top::S':=by
 rw[zv];show(bif false then zgv m g a else .top)::_=_;rw[r];rfl
theorem zdr {a b c d e f x y:AV} {ms:List Bool} (r:fgM ms (zv m g S)=S'):fgM (false::false::false::false::false::false::false::false::ms) (zv m g (a::b::c::d::e::f::x::y::S))= .top:: .top:: .top:: .top:: .top:: .top:: .top:: .top::S':=zcp (zcp (zcp (zcp (zcp (zcp (zcp (zcp r)))))))
theorem zk:zv m g []=[]:=by rw[zv]
theorem zf {a b:AV} {l:List AV} (h:zgv m g a=b)(r:zv m g l=l'):zv m g (a::l)=b::l':=by rw[zv,h,r]
theorem z0p:zcq g []=[]:=by rw[zcq]
theorem znp {a b:AV} {l:List AV} (h:zgf g a=b)(r:zcq g l=l'):zcq g (a::l)=b::l':=by rw[zcq,h,r]
theorem z3h {a:AV} (h:clo a=true):zgf g a=a:=by
 have:=zcv g [a] (by rw[cloL,h];rfl);rw[zcq] at this;exact(List.cons.inj this).1
theorem kz_bsl {α:Type} [Enc α] {bs:List (TypeId×List AV)} {js:List Nat} {d s n:Nat} {f:Bool} {t:TypeId} {l:List α} (hn:l.length=n)(hb:bs[s]? =some (t,Enc.cellsL l))(hp:zfb 0 [] js s=none):zgv m (kz bs m 0 [] js (d+1)) (.bsl s 0 n (Enc.sz α) f)= .list l.length (Enc.cellsL l) .none:=by
 subst hn;rw[zgv];simp only[kz,hp,hb,map_some,getD_some,List.drop_zero,zam _ _ _ (Enc.cloL l)];rw[List.take_of_length_le (by rw[Enc.lenL];exact Nat.le_refl _)]
theorem zae {bs:List (TypeId×List AV)} {fs js0:List Nat}:(([]:List Nat).map fun j=>((bs[j]?).map fun b=>(b.1,zv m (kz bs m n fs js0 d) b.2)).getD (0,[.bad]))=[]:=rfl
theorem zh {bs:List (TypeId×List AV)} {j:Nat} {fs js js0:List Nat} {t:TypeId} {cs cs':List AV} {r:List (TypeId×List AV)} (hb:bs[j]? =some (t,cs))(hc:zv m (kz bs m n fs js0 d) cs=cs')(hr:(js.map fun j=>((bs[j]?).map fun b=>(b.1,zv m (kz bs m n fs js0 d) b.2)).getD (0,[.bad]))=r):
 ((j::js).map fun j=>((bs[j]?).map fun b=>(b.1,zv m (kz bs m n fs js0 d) b.2)).getD (0,[.bad]))=(t,cs')::r:=by
 rw[List.map_cons,hr,hb];simp only[map_some,getD_some,hc]
theorem zvg {U U':St} {js:List Nat} {bs':List (TypeId×List AV)} (h:(js.map fun j=>((U.boxes[j]?).map fun b=>(b.1,zv m (kz U.boxes m 0 [] js d) b.2)).getD (0,[.bad]))=bs')(h2:{U with boxes:=bs',lens:=U.lens.take m,elems:=U.elems.take m}=U'):zed U m 0 [] js d=U':=by
 subst h2;unfold zed zby
 rw[h];rfl
end
section
variable {P:Program} {ρ:Operand->AV} {U:St} {o:Oper}
theorem bs_get (l:List UInt8)(i:Nat):(bs l)[i]? =l[i]? :=by
 simp only[bs];by_cases h:i<l.length
 ·rw[List.getElem?_eq_getElem h];have h2:i<(ByteArray.mk l.toArray).size:=h;rw[getElem?_pos (ByteArray.mk l.toArray) i h2];rfl
 ·rw[List.getElem?_eq_none (by omega)];have h2: ¬i<(ByteArray.mk l.toArray).size:=h;rw[getElem?_neg (ByteArray.mk l.toArray) i h2]
theorem zts (l:List UInt8)(i j:Nat):(bs l).extract i j=bs ((l.drop i).take (j-i)):=by
 apply ByteArray.ext;rw[ByteArray.data_extract];simp[bs,List.extract_eq_take_drop]
theorem z1f {v:Value} (h1:o.op.operands.toList.all (fun x=>(zdm (ρ x)).isSome)=true)(h2: ∀cs b,o.op≠ .select cs b)(h3:val? P (execOp (zce ρ) o)=some (.value v))(h4:zoe v=true):zfd P ρ o=some (zkn v):=by
 unfold zfd;rw[if_pos h1];split
 ·rename_i cs b ho;exact absurd ho (h2 cs b)
 ·rw[h3];simp only[h4,if_true]
theorem zds {t:TypeId} {x i:Operand} {l:List UInt8} {k:IntKind} {n:Int} (g:0<=n/\ n<l.length)(ho:o.op= .index t x i)(hx:ρ x= .raw (.string (bs l)))(hi:ρ i= .raw (.int k n))(hu:P.underlying t=some .string):
 qop P ρ U o=some (.raw (.int .u8 (((ix l n).toNat:Nat):Int))):=by
 have hn:n.toNat<l.length:=by omega
 have h3:val? P (execOp (zce ρ) o)=some (.value (.int .u8 (((ix l n).toNat:Nat):Int))):=by
  have hg:(bs l)[n.toNat]? =some (ix l n):=by
   rw[bs_get,List.getElem?_eq_getElem hn];simp[ix,hn]
  simp only[execOp,ho,zce,hx,hi,zdm,getD_some,Instr.index,asIntOf,underlying];simp only[program,Bind.bind,Pure.pure,Functor.map,Sem.bind,val?,hu,if_pos g.1,hg]
 have h1:o.op.operands.toList.all (fun x=>(zdm (ρ x)).isSome)=true:=by rw[ho];simp[Op.operands,hx,hi,zdm]
 have h4:=z1f h1 (by rw[ho];intros;simp) h3 rfl;simp only[qop,ho,hx,hi,h4];first|rfl|(simp;rfl)
theorem zmf {t:TypeId} {x y:Operand} {l:List UInt8} {i:Int} (g:0<=i/\ i<=(l.length:Int)/\ (l.length:Int)<=(l.length:Int))(ho:o.op= .slice t x (some y) none none)(hx:ρ x= .raw (.string (bs l)))(hy:ρ y= .raw (.int .i64 i))(hu:P.underlying t=some .string):
 qop P ρ U o=some (.raw (.string (bs (sub l i l.length)))):=by
 have hsz:(bs l).size=l.length:=rfl;have c2:0<=i/\ i<=((bs l).size:Int):=by rw[hsz];omega
 have h3:val? P (execOp (zce ρ) o)=some (.value (.string (bs (sub l i l.length)))):=by
  have he:sub l i l.length=(l.drop i.toNat).take (l.length-i.toNat):=rfl;rw[he, <-zts];simp only[execOp,ho,zce,hx,hy,zdm,getD_some,map_some,Option.map_none,Instr.sliceAt,Instr.slice,Instr.sliceBounds,Instr.sliceBound,asIntOf,underlying];simp[program,Bind.bind,Pure.pure,Functor.map,Sem.bind,val?,hu,if_pos c2];try rfl
 have h1:o.op.operands.toList.all (fun x=>(zdm (ρ x)).isSome)=true:=by rw[ho];simp[Op.operands,hx,hy,zdm]
 have h4:=z1f h1 (by rw[ho];intros;simp) h3 rfl;simp only[qop,ho,hx,hy,h4,map_some,Option.map_none,ztn,hu];try rfl
theorem q_ssl_H {t:TypeId} {x z:Operand} {l:List UInt8} {j:Int} (g:0<=0/\ 0<=j/\ j<=(l.length:Int))(ho:o.op= .slice t x none (some z) none)(hx:ρ x= .raw (.string (bs l)))(hz:ρ z= .raw (.int .i64 j))(hu:P.underlying t=some .string):
 qop P ρ U o=some (.raw (.string (bs (sub l 0 j)))):=by
 have hsz:(bs l).size=l.length:=rfl;have c1:0<=j/\ j<=((bs l).size:Int):=by rw[hsz];omega
 have h3:val? P (execOp (zce ρ) o)=some (.value (.string (bs (sub l 0 j)))):=by
  have he:sub l 0 j=(l.drop 0).take (j.toNat-0):=rfl;rw[he, <-zts];simp only[execOp,ho,zce,hx,hz,zdm,getD_some,map_some,Option.map_none,Instr.sliceAt,Instr.slice,Instr.sliceBounds,Instr.sliceBound,asIntOf,underlying];simp[program,Bind.bind,Pure.pure,Functor.map,Sem.bind,val?,hu,if_pos c1];try rfl
 have h1:o.op.operands.toList.all (fun x=>(zdm (ρ x)).isSome)=true:=by rw[ho];simp[Op.operands,hx,hz,zdm]
 have h4:=z1f h1 (by rw[ho];intros;simp) h3 rfl;simp only[qop,ho,hx,hz,h4,map_some,Option.map_none,ztn,hu];try rfl
end
section
variable {P:Program} {ρ:Operand->AV} {U:St} {o:Oper}
theorem zdw {x:Operand} {t:TypeId} {l:List UInt8} (ho:o.op= .call ⟨.builtin .len, #[x], #[t]⟩)(hx:ρ x= .raw (.string (bs l)))(hu:P.underlying t=some .string):qop P ρ U o=some (.raw (.int .i64 (l.length:Int))):=by
 have h2:qef P t (.raw (.string (bs l)))=none:=rfl;have h1:o.op.operands.toList.all (fun x=>(zdm (ρ x)).isSome)=true:=by rw[ho];simp[Op.operands,Call.operands,hx,zdm]
 have h3:val? P (execOp (zce ρ) o)=some (.value (.int .i64 (l.length:Int))):=by
  have hsz:(bs l).size=l.length:=rfl;simp[execOp,ho,resolve,invoke,zce,hx,zdm,builtin,Builtin.len_,underlying,goInt,hsz];simp only[program,Bind.bind,Pure.pure,Functor.map,Sem.bind,val?,hu,hsz];rfl
 have h4:zfd P ρ o=some (.raw (.int .i64 (l.length:Int))):=by
  unfold zfd;rw[if_pos h1,ho,h3];rfl
 simp only[qop,ho,hx,h2,h4]
end
theorem bs_beq (a b:List UInt8):((bs a).toList==(bs b).toList)=decide (a=b):=by
 rw[ByteArray.toList_eq,ByteArray.toList_eq]
 show((a.toArray.toList)==(b.toArray.toList))=_
 by_cases h:a=b<;>simp[h]
section
variable {P:Program} {ρ:Operand->AV} {U:St} {o:Oper}
theorem bs_app (a b:List UInt8):bs a++bs b=bs (a++b):=by
 apply ByteArray.ext
 show(bs a++bs b).data=_
 rw[ByteArray.data_append];simp[bs]
theorem z3e {t:TypeId} {x y:Operand} {c} {a b:List UInt8} (ho:o.op= .binOp .eql t x y c)(hx:ρ x= .raw (.string (bs a)))(hy:ρ y= .raw (.string (bs b))):qop P ρ U o=some (.raw (.bool (a==b))):=by
 have hst:(a==b)=decide (a=b):=by by_cases h:a=b<;>simp[h]
 have h3:val? P (execOp (zce ρ) o)=some (.value (.bool (a==b))):=by
  rw[hst, <-bs_beq];simp[execOp,ho,zce,hx,hy,zdm,eqGuard,binOp,Op.stringOp];rfl
 have h1:o.op.operands.toList.all (fun x=>(zdm (ρ x)).isSome)=true:=by rw[ho];simp[Op.operands,hx,hy,zdm]
 have h4:zfd P ρ o=some (.raw (.bool (a==b))):=by
  unfold zfd;rw[if_pos h1,ho,h3];rfl
 simp only[qop,ho,hx,hy,h4]
end
def bl:Nat->Nat->List Bool
 |0,_=>[]
 |n+1,m=>(m%2==1)::bl n (m/2)
section
variable {IT:IterP} {P:Program} {W:Owed} {ops ops0:Array Oper} {Q:List AV->St->Prop} {K:List AV->Prop} {o:Oper} {l:List Oper} {S S':List AV} {U U' U'':St} {a:AV} {kb:Nat} {b:Bool} {c:Option Bool}
theorem w_o (k:zca IT P W ops Q l S' U')(hg:o.guard=none:=by exact rfl)(hc:zda S o=none:=by exact rfl)(hy:zdb S o=none:=by exact rfl)(h:aop P (zbv S) U o=some (a,U'):=by exact rfl)(hS:zi S o.dst a=S':=by dsimp only[zi,List.set]):zca IT P W ops Q (o::l) S U:=
 zay hg hc hy h hS k
theorem zoc (k:zca IT P W ops Q l S' U'')(hg:o.guard=none:=by exact rfl)(hc:zda S o=none:=by exact rfl)(hy:zdb S o=none:=by exact rfl)(h:aop P (zbv S) U o=some (a,U'):=by exact rfl)(hS:zi S o.dst a=S':=by dsimp only[zi,List.set])(hσ:U'=U'':=by exact rfl):zca IT P W ops Q (o::l) S U:=
 zdu hg hc hy h hS hσ k
theorem h_o (k:zfp IT P ops U K l S')(hd:(o.dst.all fun d=>decide (d<S.length))=true:=by exact rfl)(hg:o.guard=none:=by exact rfl)(hc:zda S o=none:=by exact rfl)(h:qop P (zbv S) U o=some a:=by exact rfl)(hS:zi S o.dst a=S':=by dsimp only[zi,List.set]):zfp IT P ops U K (o::l) S:=
 z8q hd hg hc h hS k
theorem zop (k:zfp IT P ops U K l S')(hd:(o.dst.all fun d=>decide (d<S.length))=true:=by exact rfl)(hg:o.guard=some (kb,b):=by exact rfl)(hk:zdo ops S kb=some c:=by exact rfl)(hcb:c≠some b:=by decide)(hS:zi S o.dst (.raw undef)=S':=by dsimp only[zi,List.set]):zfp IT P ops U K (o::l) S:=
 z8v hd hg hk hcb hS k
end
theorem zoi {IT:IterP} {P:Program} {W:Owed} {ops ops0:Array Oper} {K:List AV->St->Prop} {i:Nat} {o:Oper} {S:List AV} {U:St} (hops:ops=ops0)(ho:ops0.toList[i]? =some o)(h:zca IT P W ops K [o] S U):zvo IT P W ops K i S U:=
 aopAt_s hops (by rw[<-ho,Array.getElem?_toList]) h
def upS:List (Option (Nat×AV))->List Bool->List (Nat×AV)
 |some q::ps,true::bs=>q::upS ps bs
 |none::ps,true::bs=>upS ps bs
 |_::ps,false::bs=>upS ps bs
 |_,_=>[]
def aN (IT:IterP)(P:Program)(W:Owed)(ops:Array Oper)(FIN:List AV->St->Prop)(S0:List AV)(ps:List (Option (Nat×AV)))(n k m:Nat)(U:St):Prop:=
 zqc IT P W ops FIN k ⟨bl n m⟩ (zbg S0 (upS ps (bl n m))) U
section
variable {IT:IterP} {P:Program} {W:Owed} {ops ops0:Array Oper} {FIN:List AV->St->Prop} {S0 L S:List AV} {ps PL:List (Option (Nat×AV))} {n k m m':Nat} {U:St}
theorem aN_n (hops:ops=ops0)(hS:S0=L)(hps:ps=PL)(is:List Nat)
 (h: ∀i∈is,zvo IT P W ops (fun S U=>zqc IT P W ops FIN k ⟨(bl n m).set i true⟩ S U) i S U)
 (hr:Region.ready .any ops0 ⟨bl n m⟩=is:=by kernel_rfl) (hne:is≠[]:=by decide) (e:zbg L (upS PL (bl n m))=S:=by dsimp only[zbg,List.foldl,List.set,upS,bl,Nat.reduceMod,Nat.reduceDiv,Nat.reduceBEq]):aN IT P W ops FIN S0 ps n (k+1) m U:=by
 subst hS hps e;exact aany_n hops is hr hne h
theorem aN_0 (hops:ops=ops0)(hS:S0=L)(hps:ps=PL)(h:FIN S U)(hr:Region.ready .any ops0 ⟨bl n m⟩=[]:=by kernel_rfl)(e:zbg L (upS PL (bl n m))=S:=by dsimp only[zbg,List.foldl,List.set,upS,bl,Nat.reduceMod,Nat.reduceDiv,Nat.reduceBEq]):aN IT P W ops FIN S0 ps n 0 m U:=by
 subst hS hps e;exact aany_0 hops hr h
theorem zd {i:Nat} (h:aN IT P W ops FIN S0 ps n k m' U)(hS:S0=L)(hps:ps=PL)(hb:(bl n m).set i true=bl n m':=by kernel_rfl)(e:zbg L (upS PL (bl n m'))=S:=by kernel_rfl):zqc IT P W ops FIN k ⟨(bl n m).set i true⟩ S U:=by
 subst hS hps e;rw[hb];exact h
theorem zuy {k':Nat} {l:Array Bool} (h:aN IT P W ops FIN S0 ps n k 0 U)(hps:ps=PL)(hk:k=k':=by kernel_rfl)(hb:(⟨bl n 0⟩:Array Bool)=l:=by kernel_rfl)(e:upS PL (bl n 0)=[]:=by kernel_rfl):zqc IT P W ops FIN k' l S0 U:=by
 subst hps hk hb;have h':zqc IT P W ops FIN k ⟨bl n 0⟩ (zbg S0 (upS ps (bl n 0))) U:=h;rw[e] at h';exact h'
end
@[reducible] def AV.i (x:Int):AV:= .raw (.int .i64 x)
@[reducible] def AV.u (x:Int):AV:= .raw (.int .u8 x)
@[reducible] def AV.b (x:Bool):AV:= .raw (.bool x)
@[reducible] def AV.s (x:List UInt8):AV:= .raw (.string (bs x))
def mvOf:Op->Option Nat
 | .move (.tmp k)=>some k
 | .assign (.tmp k)=>some k
 |_=>none
section
variable {IT:IterP} {P:Program} {W:Owed} {ops ops0:Array Oper} {Q:List AV->St->Prop} {K:List AV->Prop} {o:Oper} {l:List Oper} {S S':List AV} {U U' U'':St} {a:AV} {k:Nat}
theorem zwx (ho:mvOf o.op=some k)(hv:S[k]? =some a):zda S o=none/\ zdb S o=none/\ qop P (zbv S) U o=some a:=by
 have h:o.op= .move (.tmp k) \/o.op= .assign (.tmp k):=by
  unfold mvOf at ho;split at ho<;>cases ho
  ·rename_i h;exact .inl h
  ·rename_i h;exact .inr h
 rcases h with h|h<;>simp[zda,zdb,qop,h,zbv,hv]
theorem zz (kk:zca IT P W ops Q l S' U)(ho:mvOf o.op=some k:=by exact rfl)(hg:o.guard=none:=by exact rfl)(hv:S[k]? =some a:=by exact rfl)(hS:zi S o.dst a=S':=by dsimp only[zi,List.set]):zca IT P W ops Q (o::l) S U:=by
 obtain⟨h1,h2,h3⟩:=zwx (P:=P) (U:=U) ho hv;exact zay hg h1 h2 (zbf h3) hS kk
theorem zpu (kk:zfp IT P ops U K l S')(ho:mvOf o.op=some k:=by exact rfl)(hd:(o.dst.all fun d=>decide (d<S.length))=true:=by exact rfl)(hg:o.guard=none:=by exact rfl)(hv:S[k]? =some a:=by exact rfl)(hS:zi S o.dst a=S':=by dsimp only[zi,List.set]):zfp IT P ops U K (o::l) S:=by
 obtain⟨h1,h2,h3⟩:=zwx (P:=P) (U:=U) ho hv;exact z8q hd hg h1 h3 hS kk
def exOf:Op->Option (Nat×Nat)
 | .extract (.tmp k) i=>some (k,i)
 |_=>none
theorem zwy {i:Nat} {vs:List AV} (ho:exOf o.op=some (k,i))(hv:S[k]? =some (.tup vs))(hi:vs[i]? =some a):zda S o=none/\ zdb S o=none/\ qop P (zbv S) U o=some a:=by
 have h:o.op= .extract (.tmp k) i:=by
  unfold exOf at ho;split at ho<;>cases ho
  rename_i h;exact h
 simp[zda,zdb,qop,h,zbv,hv,hi]
theorem z5x {i:Nat} {vs:List AV} (kk:zca IT P W ops Q l S' U)(ho:exOf o.op=some (k,i):=by exact rfl)(hg:o.guard=none:=by exact rfl)(hv:S[k]? =some (.tup vs):=by exact rfl)(hi:vs[i]? =some a:=by exact rfl)(hS:zi S o.dst a=S':=by dsimp only[zi,List.set]):zca IT P W ops Q (o::l) S U:=by
 obtain⟨h1,h2,h3⟩:=zwy (P:=P) (U:=U) ho hv hi;exact zay hg h1 h2 (zbf h3) hS kk
theorem h_ex {i:Nat} {vs:List AV} (kk:zfp IT P ops U K l S')(ho:exOf o.op=some (k,i):=by exact rfl)(hd:(o.dst.all fun d=>decide (d<S.length))=true:=by exact rfl)(hg:o.guard=none:=by exact rfl)(hv:S[k]? =some (.tup vs):=by exact rfl)(hi:vs[i]? =some a:=by exact rfl)(hS:zi S o.dst a=S':=by dsimp only[zi,List.set]):zfp IT P ops U K (o::l) S:=by
 obtain⟨h1,h2,h3⟩:=zwy (P:=P) (U:=U) ho hv hi;exact z8q hd hg h1 h3 hS kk
end
section
variable {P:Program} {fn:Func} {S:List AV} {U:St}
theorem zbh {y r:Bool} (hr:some y=some r)(h:zar P fn U S=some (.raw (.bool y)):=by exact rfl):ztl P fn (.raw (.bool r)) .ret S U:=zdl (fun(r:Bool)=>(.raw (.bool r):AV)) hr h rfl rfl
theorem zjj {k:IntKind} {y r:Int} (hr:some y=some r)(h:zar P fn U S=some (.raw (.int k y)):=by exact rfl):ztl P fn (.raw (.int k r)) .ret S U:=zdl (fun(r:Int)=>(.raw (.int k r):AV)) hr h rfl rfl
theorem qdb {y r:List UInt8} (hr:some y=some r)(h:zar P fn U S=some (.raw (.string (bs y))):=by exact rfl):ztl P fn (.raw (.string (bs r))) .ret S U:=zdl (fun(r:List UInt8)=>(.raw (.string (bs r)):AV)) hr h rfl rfl
end
section
variable {IT:IterP} {P:Program} {W:Owed} {ops ops0:Array Oper} {FIN:List AV->St->Prop} {S0 L S:List AV} {ps PL:List (Option (Nat×AV))} {n k m m':Nat} {U:St} {o o' o'':Oper}
theorem zju (hops:ops=ops0)(hS:S0=L)(hps:ps=PL)(i:Nat)(h:zca IT P W ops (fun S U=>zqc IT P W ops FIN k ⟨(bl n m).set i true⟩ S U) [o] S U)
 (ho:ops0.toList[i]? =some o:=by exact rfl) (hr:Region.ready .any ops0 ⟨bl n m⟩=[i]:=by kernel_rfl) (e:zbg L (upS PL (bl n m))=S:=by dsimp only[zbg,List.foldl,List.set,upS,bl,Nat.reduceMod,Nat.reduceDiv,Nat.reduceBEq]):aN IT P W ops FIN S0 ps n (k+1) m U:=
 aN_n hops hS hps [i] (all_cons (zoi hops ho h) all_nil) hr (by simp) e
theorem zea (hops:ops=ops0)(hS:S0=L)(hps:ps=PL)(i j:Nat)(h:zca IT P W ops (fun S U=>zqc IT P W ops FIN k ⟨(bl n m).set i true⟩ S U) [o] S U)(h':zca IT P W ops (fun S U=>zqc IT P W ops FIN k ⟨(bl n m).set j true⟩ S U) [o'] S U)
 (ho:ops0.toList[i]? =some o:=by exact rfl) (ho':ops0.toList[j]? =some o':=by exact rfl) (hr:Region.ready .any ops0 ⟨bl n m⟩=[i,j]:=by kernel_rfl) (e:zbg L (upS PL (bl n m))=S:=by dsimp only[zbg,List.foldl,List.set,upS,bl,Nat.reduceMod,Nat.reduceDiv,Nat.reduceBEq]):aN IT P W ops FIN S0 ps n (k+1) m U:=
 aN_n hops hS hps [i,j] (all_cons (zoi hops ho h) (all_cons (zoi hops ho' h') all_nil)) hr (by simp) e
theorem zhl (hops:ops=ops0)(hS:S0=L)(hps:ps=PL)(i j q:Nat)(h:zca IT P W ops (fun S U=>zqc IT P W ops FIN k ⟨(bl n m).set i true⟩ S U) [o] S U)(h':zca IT P W ops (fun S U=>zqc IT P W ops FIN k ⟨(bl n m).set j true⟩ S U) [o'] S U)(h'':zca IT P W ops (fun S U=>zqc IT P W ops FIN k ⟨(bl n m).set q true⟩ S U) [o''] S U)
 (ho:ops0.toList[i]? =some o:=by exact rfl) (ho':ops0.toList[j]? =some o':=by exact rfl) (ho'':ops0.toList[q]? =some o'':=by exact rfl) (hr:Region.ready .any ops0 ⟨bl n m⟩=[i,j,q]:=by kernel_rfl) (e:zbg L (upS PL (bl n m))=S:=by dsimp only[zbg,List.foldl,List.set,upS,bl,Nat.reduceMod,Nat.reduceDiv,Nat.reduceBEq]):aN IT P W ops FIN S0 ps n (k+1) m U:=
 aN_n hops hS hps [i,j,q] (all_cons (zoi hops ho h) (all_cons (zoi hops ho' h') (all_cons (zoi hops ho'' h'') all_nil))) hr (by simp) e
end
def bzc:Bool->Nat->List Nat->List Nat
 |true,i,l=>i::l
 |false,_,l=>l
def bz:Nat->Nat->Nat->List Nat
 |_,0,_=>[]
 |i,n+1,m=>bzc (m%2==1) i (bz (i+1) n (m/2))
section
variable {IT:IterP} {P:Program} {W:Owed} {k0:Nat} {ops:Array Oper} {Q:List AV->St->Prop} {o:Oper} {l:List Oper} {S S':List AV} {U U':St} {f:FuncId} {args args':List AV} {r:AV}
theorem zeo {c:Code} {Q:AQ} (h:awp IT P W k0 c Q S' U)(hS:S=S':=by dsimp only[zbg,zcl,List.foldl,List.set,bz,bzc,Nat.reduceMod,Nat.reduceDiv,Nat.reduceBEq,Nat.reduceAdd]):awp IT P W k0 c Q S U:=zav hS rfl h
theorem zbp {n0:Nat} (m:List Bool)(h:fgM m S=S':=by kernel_rfl)(hσ:U'=U:=by kernel_rfl):Wk n0 S U S' U':=zhm m h hσ
end
variable {c:Bool} {y:Operand} {n:Int} {args':List AV}
inductive RV where
 |v (a:AV)|m (a:AV)|x (a:AV)|p
def RV.val:RV->AV
 | .v a=>a
 | .m a=>a
 | .x a=>a
 | .p=> .raw undef
def gst (ops:Array Oper)(S:List AV)(o:Oper):Option Bool:=match o.guard with
 |none=>some true
 | some (k,b)=>match zdo ops S k with
  |some (some c)=>some (c==b)
  |some none=>some false
  |none=>none
def oneV (P:Program)(ops:Array Oper)(U:St)(S:List AV)(o:Oper):RV->Option (AV×St)
 | .v _=>match gst ops S o,zda S o,zdb S o with
  |some true,none,none=>aop P (zbv S) U o
  |_,_,_=>none
 | .m _=>match gst ops S o with
  | some true=>match mvOf o.op with
   | some k=>match S[k]? with
    |some a=>some (a,U)
    |none=>none
   |none=>none
  |_=>none
 | .x _=>match gst ops S o with
  | some true=>match exOf o.op with
   | some (k,i)=>match S[k]? with
    | some (.tup vs)=>match vs[i]? with
     |some a=>some (a,U)
     |none=>none
    |_=>none
   |none=>none
  |_=>none
 | .p=>match gst ops S o with
  |some false=>some (.raw undef,U)
  |_=>none
def outV (P:Program)(ops:Array Oper)(U:St):List RV->List Oper->List AV->List (Option (AV×St))
 |x::vs,o::l,S=>oneV P ops U S o x::outV P ops U vs l (zi S o.dst x.val)
 |_::_,[],_=>[none]
 |[],_,_=>[]
def putV:List RV->List Oper->List AV->List AV
 |x::vs,o::l,S=>putV vs l (zi S o.dst x.val)
 |_,_,S=>S
def z1m:List RV->List Oper->List Oper
 |_::vs,_::l=>z1m vs l
 |_,l=>l
def expV (U:St):List RV->List (Option (AV×St))
 |x::vs=>some (x.val,U)::expV U vs
 |[]=>[]
section
variable {IT:IterP} {P:Program} {W:Owed} {ops:Array Oper} {Q:List AV->St->Prop} {o:Oper} {l L l':List Oper} {S S':List AV} {U U' U'':St} {a:AV} {k0:Nat}
theorem qcj (h:gst ops S o=some c):o.guard=none/\ c=true \/ ∃k b d,o.guard=some (k,b)/\ zdo ops S k=some d/\ (c=true->d=some b)/\ (c=false->d≠some b):=by
 unfold gst at h;split at h
 ·exact .inl ⟨‹_›,(Option.some.inj h).symm⟩
 ·rename_i k b hg;split at h
  ·rename_i d hd;cases h;refine .inr ⟨k,b,_,hg,hd,fun e=> ?_,fun e=> ?_⟩
   ·rw[beq_iff_eq] at e;rw[e]
   ·intro e';cases e';simp at e
  ·rename_i hd;cases h;exact .inr ⟨k,b,_,hg,hd,nofun,nofun⟩
  ·cases h
theorem z1y (h:gst ops S o=some true)(k:zfo IT P W o S U fun a U'=>zca IT P W ops Q l (zi S o.dst a) U'):zca IT P W ops Q (o::l) S U:=by
 rcases qcj h with⟨hg,_⟩|⟨kk,b,d,hg,hd,h1,_⟩
 ·simp only[zca,hg];exact k
 ·simp only[zca,hg];exact⟨d,hd,by rw[h1 rfl,if_pos rfl];exact k⟩
theorem w_one {x:RV} (h:oneV P ops U S o x=some (x.val,U))(k:zca IT P W ops Q l (zi S o.dst x.val) U):zca IT P W ops Q (o::l) S U:=by
 cases x with
 | v a=>
  simp only[oneV] at h;split at h
  ·rename_i h1 h2 h3;refine z1y h1 ?_;simp only[zfo,h2,h3];exact .inl ⟨_,_,.inl h,k⟩
  ·cases h
 | m a=>
  simp only[oneV] at h;split at h
  ·rename_i h1;split at h
   ·rename_i kk h2;split at h
    ·rename_i b h3;obtain⟨q1,q2,q3⟩:=zwx (P:=P) (U:=U) h2 h3;have e:b=a:=congrArg Prod.fst (Option.some.inj h);subst e;refine z1y h1 ?_;simp only[zfo,q1,q2];exact .inl ⟨_,_,.inl (zbf q3),k⟩
    ·cases h
   ·cases h
  ·cases h
 | x a =>
  simp only[oneV] at h;split at h
  ·rename_i h1;split at h
   ·rename_i kk i h2;split at h
    ·rename_i vs h3;split at h
     ·rename_i b h4;obtain⟨q1,q2,q3⟩:=zwy (P:=P) (U:=U) h2 h3 h4;have e:b=a:=congrArg Prod.fst (Option.some.inj h);subst e;refine z1y h1 ?_;simp only[zfo,q1,q2];exact .inl ⟨_,_,.inl (zbf q3),k⟩
     ·cases h
    ·cases h
   ·cases h
  ·cases h
 | p=>
  simp only[oneV] at h;split at h
  ·rename_i h1;rcases qcj h1 with⟨_,e⟩|⟨kk,b,d,hg,hd,_,h2⟩
   ·cases e
   ·exact zag hg hd (h2 rfl) rfl k
  ·cases h
theorem w_r (vs:List RV)(k:zca IT P W ops Q l' S' U)(h:outV P ops U vs l S=expV U vs:=by exact rfl)(hl:z1m vs l=l':=by dsimp only[z1m,List.toList_toArray,List.drop])(hS:putV vs l S=S':=by dsimp only[putV,RV.val,zi,List.set,List.toList_toArray,List.drop]):zca IT P W ops Q l S U:=by
 subst hl hS;induction vs generalizing l S with
 |nil=>simpa[putV,z1m] using k
 | cons x vs ih=>
  cases l with
  |nil=>simp[outV,expV] at h
  | cons o l=>
   simp only[outV,expV,List.cons.injEq] at h;exact w_one h.1 (ih h.2 (by simpa[putV,z1m] using k))
theorem zx {id:Nat} {x y:Code} {Q:AQ} (vs:List RV)(k:zca IT P W ops (ztf (awp IT P W k0 y Q) Q .normal) l' S' U)(hx:x= .region id ops false:=by exact rfl)(h:outV P ops U vs ops.toList S=expV U vs:=by exact rfl)(hl:z1m vs ops.toList=l':=by dsimp only[z1m,List.toList_toArray])(hS:putV vs ops.toList S=S':=by dsimp only[putV,RV.val,zi,List.set,List.toList_toArray]):awp IT P W k0 (.seq x y) Q S U:=by
 subst hx;exact zm (zb (w_r vs k h hl hS))
theorem zaw {t b:Bool} (e:t=b)(k:zca IT P W ops Q l S' U)(hg:o.guard=none:=by exact rfl)(hc:zda S o=none:=by exact rfl)(hy:zdb S o=none:=by exact rfl)(h:qop P (zbv S) U o=some (.raw (.bool t)):=by exact rfl)(hS:zi S o.dst (.raw (.bool b))=S':=by dsimp only[zi,List.set]):zca IT P W ops Q (o::l) S U:=
 zay hg hc hy (zbf (zdf h e)) hS k
theorem zjv {x:Operand} {t:TypeId} {c} {m:Int} (g: -9223372036854775808<=m+n/\ m+n<9223372036854775808)(k:zca IT P W ops Q l S' U)(hg:o.guard=none:=by exact rfl)(ho:o.op= .binOp .add t x y c:=by exact rfl)(hx:zbv S x= .raw (.int .i64 m):=by exact rfl)(hv:zbv S y= .raw (.int .i64 n):=by exact rfl)(hS:zi S o.dst (.raw (.int .i64 (m+n)))=S':=by dsimp only[zi,List.set]):zca IT P W ops Q (o::l) S U:=
 zay hg (by simp[zda,ho]) (by simp[zdb,ho]) (zbf (z2r ho hx hv rfl g.1 g.2)) hS k
theorem w_sb {x:Operand} {t:TypeId} {c} {m:Int} (g: -9223372036854775808<=m-n/\ m-n<9223372036854775808)(k:zca IT P W ops Q l S' U)(hg:o.guard=none:=by exact rfl)(ho:o.op= .binOp .sub t x y c:=by exact rfl)(hx:zbv S x= .raw (.int .i64 m):=by exact rfl)(hv:zbv S y= .raw (.int .i64 n):=by exact rfl)(hS:zi S o.dst (.raw (.int .i64 (m-n)))=S':=by dsimp only[zi,List.set]):zca IT P W ops Q (o::l) S U:=
 zay hg (by simp[zda,ho]) (by simp[zdb,ho]) (zbf (zpy ho hx hv rfl g.1 g.2)) hS k
theorem qgf {α:Type} [Enc α] {t e:TypeId} {x i:Operand} {u:α} {xs:List α} {st:Room} {kd:IntKind} {n:Int} (hu:ix xs n=u)(g:0<=n/\ n<xs.length)(k:zca IT P W ops Q l S' U)(hg:o.guard=none:=by exact rfl)(ho:o.op= .indexAddr t x i:=by exact rfl)(hx:zbv S x= .list xs.length (Enc.cellsL xs) st:=by exact rfl)(hi:zbv S i= .raw (.int kd n):=by exact rfl)(ht:P.underlying t=some (.slice e):=by exact rfl)(hs:zfa P e=some (Enc.sz α):=by exact rfl)
 (hS:zi S o.dst (.iptr (Enc.cells u++Enc.cellsL (xs.drop (n.toNat+1))))=S':=by dsimp only[zi,List.set]):zca IT P W ops Q (o::l) S U:=by
 subst hu;exact zay hg (by simp[zda,ho]) (by simp[zdb,ho]) (zbf (q_idx g ho hx hi ht hs)) hS k
theorem zng {t:TypeId} {x:Operand} {s:Nat} {v:AV} {bx:TypeId×List AV} (n:Nat)(U'':St)(k:zca IT P W ops Q l S' U'')(hg:o.guard=none:=by exact rfl)(ho:o.op= .store t x y:=by exact rfl)(hx:zbv S x= .ptr s 0:=by exact rfl)(hv:zbv S y=v:=by exact rfl)(hb:U.boxes[s]? =some bx:=by exact rfl)(hn:zfa P t=some n:=by exact rfl)(hl:bx.2.length=n:=by exact rfl)(hc:zif v=true:=by exact rfl)(hvl:(cellsOf v).length=n:=by exact rfl)(h0:0<n:=by decide)
 (hS:zi S o.dst (.raw undef)=S':=by dsimp only[zi,List.set]) (hσ:{U with boxes:=U.boxes.set s (bx.1,cellsOf v)}=U'':=by exact rfl):zca IT P W ops Q (o::l) S U:=
 zdu hg (by simp[zda,ho]) (by simp[zdb,ho]) (zcd ho hx hv hb hn hl hc hvl h0) hS hσ k
theorem zdd {f:FuncId} {args:List AV} {r:AV} (hp:Pure IT P f args' r)(k:zca IT P W ops Q l S' U)(hg:o.guard=none:=by exact rfl)(hc:zda S o=some (f,args):=by exact rfl)
 (hs:stripL args=args':=by repeat(first|exact rfl|refine zg (by first|exact zbd (zp (Enc.clo _))|exact zhz (Enc.cloL _)|exact zsz (Enc.cloL _) Enc.z|exact rfl) ?_))
 (hok:zab 0 args=true:=by repeat(first|exact rfl|refine za (by first|exact zy _ _ (zp (Enc.clo _))|exact zbw (Enc.cloL _)|exact zei (Enc.cloL _)|exact rfl) ?_)) (hS:zi S o.dst r=S':=by dsimp only[zi,List.set]):zca IT P W ops Q (o::l) S U:=
 zbt hp hg hc hs hok hS k
theorem h_ck {K:List AV->Prop} {f:FuncId} {args:List AV} {r:AV} (hp:Pure IT P f args' r)(k:zfp IT P ops U K l S')(hd:(o.dst.all fun d=>decide (d<S.length))=true:=by exact rfl)(hg:o.guard=none:=by exact rfl)(hc:zda S o=some (f,args):=by exact rfl)
 (hs:stripL args=args':=by repeat(first|exact rfl|refine zg (by first|exact zbd (zp (Enc.clo _))|exact zhz (Enc.cloL _)|exact zsz (Enc.cloL _) Enc.z|exact rfl) ?_))
 (hok:zab 0 args=true:=by repeat(first|exact rfl|refine za (by first|exact zy _ _ (zp (Enc.clo _))|exact zbw (Enc.cloL _)|exact zei (Enc.cloL _)|exact rfl) ?_)) (hS:zi S o.dst r=S':=by dsimp only[zi,List.set]):zfp IT P ops U K (o::l) S:=
 zuh hp hd hg hc hs hok hS k
end
theorem strip_t {vs us:List AV} (h:stripL vs=us):zcw (.tup vs)= .tup us:=by rw[zcw,h]
theorem strip_a {vs us:List AV} (h:stripL vs=us):zcw (.agg vs)= .agg us:=by rw[zcw,h]
theorem qif {k:Nat} {vs:List AV} (h:zab k vs=true):zbi k (.tup vs)=true:=h
theorem zbr {P:Program} {fn:Func} {S:List AV} {U:St} {R:Type} {y r:R} (E:R->AV)(hr:some y=some r)(a:AV)(h:zar P fn U S=some a:=by exact rfl)
 (hok:zbi 0 a=true:=by first|exact zy _ _ (zp (Enc.clo _))|exact zbw (Enc.cloL _)|exact zei (Enc.cloL _)|((first|refine qif ?_|refine okTrim_a ?_);repeat(first|exact rfl|refine za (by first|exact zy _ _ (zp (Enc.clo _))|exact zbw (Enc.cloL _)|exact zei (Enc.cloL _)|exact rfl) ?_)))
 (hs:zcw a=E y:=by first|exact zhz (Enc.cloL _)|exact zsz (Enc.cloL _) Enc.z|exact zbd (zp (Enc.clo _))|((first|refine strip_t ?_|refine strip_a ?_);repeat(first|exact rfl|refine zg (by first|exact zbd (zp (Enc.clo _))|exact zhz (Enc.cloL _)|exact zsz (Enc.cloL _) Enc.z|exact rfl) ?_))):ztl P fn (E r) .ret S U:=
 zdl E hr h hok hs
theorem zch {IT:IterP} {P:Program} {W:Owed} {k0:Nat} {α:Type} {A B:Option α} {r:α} {d:Operand} {x y:Code} {Q:AQ} {S:List AV} {U:St} (h:(bif c then A else B)=some r)(kt:c=true->A=some r->awp IT P W k0 x Q S U)(kf:c=false->B=some r->awp IT P W k0 y Q S U)(hc:zbv S d= .raw (.bool c):=by exact rfl):awp IT P W k0 (.cond d x y) Q S U:=
 zah h (fun e h=>zet e hc (kt e h)) (fun e h=>zev e hc (kf e h))
@[reducible] def AV.L {α:Type} [Enc α] (l:List α):AV:= .list l.length (Enc.cellsL l) .none
@[reducible] def AV.F {α:Type} [Enc α] (l:List α):AV:= .list l.length (Enc.cellsL l) .full
@[reducible] def AV.O {α:Type} [Enc α] (l:List α):AV:=zck l.length (Enc.cellsL l)
@[reducible] def AV.A {α:Type} [Enc α] (x:α):AV:= .agg (Enc.cells x)
@[reducible] def St.B (l:List (TypeId×List AV)):St:=⟨l,[],[],0,false⟩
theorem zbq {P:Program} {f:FuncId} {fn:Func} {c:Code} {args S':List AV} {r:AV} (n:Nat)(hmix:P.follows .mixedOrders=true)(hf:P.funcs[f]? =some fn)(he:Ent P f)(h:awp (ITP P) P none 0 c (ztl P fn r) S' (St.B []))(hb:fn.body=some c:=by exact rfl)(hn:Nat.sub fn.ntmps args.length=n:=by exact rfl)(hS:args++List.replicate n (.raw undef)=S':=by dsimp only[List.replicate,List.cons_append,List.nil_append]):Pure (ITP P) P f args r:=
 zfh hmix hf hb he (by unfold zad;rw[show fn.ntmps-args.length=n from hn,hS];exact h)
end Go.Ab
namespace Go.Ab
open Go Go.RowKit Go.Fwd Go.Proofs
variable {y:Code} {Q:AQ} {S:List AV} {U:St}
structure InsLaw (P:Program)(f:FuncId)(S e:TypeId)(sz by':Nat):Prop where
 room: ∀(b n c i vb voff m vc:Nat) (R V:List Value) (t0:TypeId) (tA:TypeId) (kA:Nat) (w:World) (hi:i<n) (hm:0<m) (hroom:n+m<=c) (hc63:n+m<=4611686018427387904) (hvb:vb≠b)
  (hrow:w.heap[b]? =some (.cells R.toArray t0 (0,0))) (hR:c*sz<=R.length) (hone: ∀v∈R.take (n*sz),v.oneCell'=true) (hVl:V.length=m*sz) (hV: ∀j v,V[j]? =some v->w.cell? ⟨vb,voff+j,none⟩=some v) (h1v: ∀v∈V,v.oneCell'=true)
  (hsa:w.shape? vb=some (tA,kA)) (hkA:kA≠0),
  Calls P f #[.slice (some ⟨b,0,none⟩) n c,.int .i64 i,.slice (some ⟨vb,voff,none⟩) m vc] w fun e w'=>
   e= .returned (.slice (some ⟨b,0,none⟩) (n+m) c)/\ w'=w.drew.setRow b (R.take (i*sz)++V++(R.drop (i*sz)).take ((n-i)*sz)++R.drop ((n+m)*sz)).toArray
 stop: ∀(base:Option Addr) (n c m vc:Nat) (va:Option Addr) (r:Value) (w w1:World) (hm:0<m) (hnc:n<=c) (hc63:n+m<=4611686018427387904) (hnil:base=none->c=0)
  (hrun:(Builtin.append_ #[S,S] S #[.slice base n c,.slice va m vc]).run P w= .ok r w1),
  Calls P f #[.slice base n c,.int .i64 n,.slice va m vc] w fun e w'=>e= .returned r/\ w'=w1
 grow: ∀(b n c i vb voff m vc:Nat) (R V:List Value) (t0:TypeId) (tA:TypeId) (kA:Nat) (w:World) (hi:i<n) (hm:0<m) (hnc:n<=c) (hroom:c<n+m) (hbig:(n+m)*by'<=140737488355328) (hvb:vb<w.heap.size)
  (hrow:w.heap[b]? =some (.cells R.toArray t0 (0,0))) (hR:c*sz<=R.length) (hone: ∀v∈R.take (n*sz),v.oneCell'=true) (hVl:V.length=m*sz) (hV: ∀j v,V[j]? =some v->w.cell? ⟨vb,voff+j,none⟩=some v) (h1v: ∀v∈V,v.oneCell'=true),
  Calls P f #[.slice (some ⟨b,0,none⟩) n c,.int .i64 i,.slice (some ⟨vb,voff,none⟩) m vc] w fun e' w'=>
   ∃G Z,n+m<=G/\ e'= .returned (.slice (some ⟨w.heap.size,0,none⟩) (n+m) G)/\ Z.length+(n+m)*sz=G*sz/\ w'=w.drew.drew.alloc (.cells (R.take (i*sz)++V++(R.drop (i*sz)).take ((n-i)*sz)++Z:List Value).toArray e)
theorem zxc {w:World} {b o:Nat} {v:Value} (h:w.cell? ⟨b,o,none⟩=some v): ∃t k,w.shape? b=some (t,k)/\ k≠0/\ b<w.heap.size:=by
 unfold World.cell? at h;unfold World.shape?;split at h
 ·rename_i c t f hq;simp only[hq];refine⟨t,c.size,rfl,?_,(Array.getElem?_eq_some_iff.1 hq).1⟩;have:=(Array.getElem?_eq_some_iff.1 h).1;omega
 ·cases h
section
variable {α:Type} [Enc α]
theorem Enc.ins (l r:List α)(k:Nat):(Enc.cellsL l).take (k*Enc.sz α)++Enc.cellsL r++(Enc.cellsL l).drop (k*Enc.sz α)=Enc.cellsL (l.take k++r++l.drop k):=by
 rw[Enc.take,Enc.drop,Enc.app,Enc.app]
end
theorem z8p {IT:IterP} (hIT:ITMono IT) {U:St} {X:Cx} (hI:Inv IT U X) {s b:Nat} {t:TypeId} {cs:List AV} (hs:X.κ[s]? =some b)(hb:U.boxes[s]? =some (t,cs)):
 ∃X',X'.w=X.w/\ Ext X X'/\ Inv IT {U with boxes:=U.boxes.set s (t,[])} X'/\ At IT X' cs b 0:=by
 have hbm:b∈X.κ:=List.mem_of_getElem? hs;obtain⟨us,zs,k1,k2,k3⟩:=hI.box s b t cs hs hb;have hul:=zq k2
 have hE:Ext X {X with F:=fun b' o=>X.F b' o \/(b'=b/\ o<us.length)}:={Ext.refl X with
  F:=fun _ _ h=> .inl h
  cell:=fun _ _ _=>rfl
  Fnew:=fun b' o h=>h.elim .inl fun h=> .inr (.inr (.inr (h.1▸hbm)))}
 have hK:=zqq hI hb;refine⟨{X with F:=fun b' o=>X.F b' o \/(b'=b/\ o<us.length)},rfl,hE,?_,?_⟩
 ·refine {lens:=hK.lens,elems:=hK.elems,κlen:=hK.κlen,κnd:=hK.κnd,box:= ?_,κF:= ?_,βlen:=hK.βlen,βnd:=hK.βnd,βκ:=hK.βκ,row:= ?_,Ok:= ?_,Fcell:= ?_}
  ·intro s' b' t' cs' hs' hb';obtain⟨vs',zs',u1,u2,u3⟩:=hK.box s' b' t' cs' hs' hb';exact⟨vs',zs',u1,zao hIT hE _ _ u2,u3⟩
  ·intro s' b' t' cs' hs' hb' hc o hf;rcases hf with hf|⟨rfl,hlt⟩
   ·exact hK.κF s' b' t' cs' hs' hb' hc o hf
   ·have hne:cs≠[]:=fun e=>by rw[e] at hul;simp at hul;omega
    have hs0:s<U.boxes.length:=(List.getElem?_eq_some_iff.1 hb).1;by_cases e:s=s'
    ·subst e;have hb'':(U.boxes.set s (t,[]))[s]? =some (t',cs'):=hb';rw[List.getElem?_set_self hs0] at hb'';cases hb'';exact hc rfl
    ·have hb'':(U.boxes.set s (t,[]))[s']? =some (t',cs'):=hb';rw[List.getElem?_set_ne e] at hb'';rcases hI.κnd s s' b' hs hs' e with⟨t0,h0⟩|⟨t0,h0⟩
     ·rw[hb] at h0;exact hne (congrArg Prod.snd (Option.some.inj h0))
     ·rw[hb''] at h0;exact hc (congrArg Prod.snd (Option.some.inj h0))
  ·intro s' r L hr hL;obtain⟨cur,fz,c1,c2,c3,c4,c5,c6,c7⟩:=hI.row s' r L hr hL;refine⟨cur,fz,c1,c2,c3,c4,c5,fun o hf=> ?_,c7⟩;rcases hf with hf|⟨e,_⟩
   ·exact c6 o hf
   ·exact absurd (e▸hbm) (hI.βκ r (List.mem_of_getElem? hr))
  ·intro b' ho;obtain⟨h1,h2,h3,h4⟩:=hI.Ok b' ho;exact⟨h1,h2,h3,fun o hf=>hf.elim (h4 o) fun h=>absurd (h.1▸hbm) h2⟩
  ·intro b' o hf;rcases hf with hf|⟨rfl,hlt⟩
   ·exact hI.Fcell b' o hf
   ·refine⟨us[o],?_⟩;show X.w.cell? _=_;rw[cell_of_row _ _ _ _ _ _ k1,List.getElem?_toArray,List.getElem?_append_left hlt];exact List.getElem?_eq_getElem hlt
 ·refine zyc (fun j hj=> .inr ⟨rfl,by omega⟩) k3 (zao hIT hE _ _ k2) fun j u hu=> ?_;show X.w.cell? _=_;have hj:=(List.getElem?_eq_some_iff.1 hu).1;rw[cell_of_row _ _ _ _ _ _ k1,Nat.zero_add,List.getElem?_toArray,List.getElem?_append_left hj];exact hu
theorem snd_frz {IT:IterP} (hIT:ITMono IT) {α:Type} [Enc α] {P:Program} {f:FuncId} {ar ar':List AV} {r:AV} {U:St} {s:Nat} {t:TypeId} {l:List α} {fl:Bool} (h:Pure IT P f (.list (length l) (Enc.cellsL l) .none   ::ar') r)(has:stripL ar=ar')(hok:zab 0 ar=true)(hb:U.boxes[s]? =some (t,Enc.cellsL l)):
 Snd IT P f (.bsl s 0 (length l) (Enc.sz α) fl::ar) U r {U with boxes:=U.boxes.set s (t,[])}:=by
 refine⟨h.1,fun X vs hI hr=> ?_⟩;rw[zbe] at hr;obtain⟨v0,vr,rfl,hv0,hrr⟩:=hr;have hv0:Bsl X s 0 l.length (Enc.sz α) fl v0:=hv0;obtain⟨b,c,cur,t1,hκ,rfl,hcap,_,hrow,hfit⟩:=hv0;obtain⟨X',x1,x2,x3,x4⟩:=z8p hIT hI hκ hb;have hr':zbe IT X' (.list (length l) (Enc.cellsL l) .none::ar) (.slice (some ⟨b,0,none⟩) l.length c::vr):=by
  rw[zbe];refine⟨_,vr,rfl,?_,zao hIT x2 _ _ hrr⟩;rw[Rep];exact⟨_,_,rfl,⟨hcap,fun h=>by cases h⟩,.inr ⟨_,_,rfl,x4⟩,trivial⟩
 have hl:=zjy hIT h (args:= .list (length l) (Enc.cellsL l) .none::ar) (by rw[Go.Ab.stripL,zcw,Enc.stripL,has]) (by rw[za (zbw (Enc.cloL l)) hok]) x3 hr';rw[x1] at hl;refine hl.mono ?_;rintro e w' ⟨v,Y,h1,h2,h3,h4,h5,_⟩;exact⟨v,Y,h1,h2,x2.trans h3,h4,h5⟩
section
variable {IT:IterP} {P:Program} {W:Owed} {k0:Nat}
theorem zge {x:Code} (h:awp IT P W k0 x (ztf (fun S U=> ∃S' U',Wk k0 S U S' U'/\ awp IT P W k0 y Q S' U') Q) S U):awp IT P W k0 (.seq x y) Q S U:= .inl h
theorem w_semB {id:Nat} {x:Code} (S':List AV)(U':St)(hs:qee IT P (.block id x) S U S' U')(h:Q .normal S' U'):awp IT P none k0 (.block id x) Q S U:= .inr ⟨rfl,S',U',hs,h⟩
theorem qdy {x:Code} (S':List AV)(U':St)(hs:qee IT P x S U S' U')(h:awp IT P none k0 y Q S' U'):awp IT P none k0 (.seq x y) Q S U:= .inr ⟨rfl,S',U',hs,h⟩
theorem z9b {S':List AV} {U':St} (hw:Wk k0 S U S' U')(h:awp IT P W k0 y Q S' U'): ∃S' U',Wk k0 S U S' U'/\ awp IT P W k0 y Q S' U':=⟨S',U',hw,h⟩
end
end Go.Ab
namespace Go.Ab
open Go Go.RowKit Go.Fwd
section
variable {P:Program} {ρ:Operand->AV} {U:St} {o:Oper} {α:Type} [Enc α]
theorem q_bslH {t e:TypeId} {x i:Operand} {s n:Nat} {f:Bool} {k:IntKind} {j:Int} (g:0<j/\ j<=n)(ho:o.op= .slice t x none (some i) none)(hx:ρ x= .bsl s 0 n (Enc.sz α) f)(hi:ρ i= .raw (.int k j))(hu:P.underlying t=some (.slice e))(hs:zfa P e=some (Enc.sz α)):
 qop P ρ U o=some (.bsl s 0 j.toNat (Enc.sz α) (f&&(j.toNat==n))):=by
 have h4:zjc n none (some (.raw (.int k j))) none=some (0,j.toNat,false):=by
  have c:0<=j/\ j<=(n:Int):=by omega
  simp only[zjc,zlv,if_pos c]
 have hlt:0<j.toNat:=by omega
 simp only[qop,ho,hx,hi,map_some,Option.map_none,ztn,hu,hs,h4,if_true,if_pos hlt,Nat.zero_add,Nat.zero_mul,Nat.sub_zero];simp
end
theorem qgj {IT:IterP} {P:Program} {W:Owed} {k0:Nat} {id:Nat} {ops:Array Oper} {Q:AQ} {S:List AV} {U:St} (S1:List AV)(U1:St)(h:zqc IT P W ops (fun S U=>S=S1/\ U=U1) ops.size (Array.replicate ops.size false) S U)(hrest:Q .normal S1 U1):awp IT P W k0 (.region id ops true) Q S U:=
 .inr (.inr (.inl (zgc (fun S U hw=>by obtain⟨rfl,rfl⟩:=hw;exact hrest) _ _ _ _ h)))
end Go.Ab
namespace Go.Ab
open Go Go.RowKit Go.Fwd Go.Proofs
theorem xorM64 (x:BitVec 64):xorI .u64 18446744073709551615 (x.toNat:Int)=((~~~ x).toNat:Int):=by
 show IntKind.u64.wrap (((BitVec.ofInt 64 (18446744073709551615:Int)^^^BitVec.ofInt 64 (x.toNat:Int)).toNat:Nat):Int)=_;rw[z1s];have:BitVec.ofInt 64 (18446744073709551615:Int)^^^x= ~~~ x:=by
  rw[show BitVec.ofInt 64 (18446744073709551615:Int)=BitVec.allOnes 64 by decide,BitVec.allOnes_xor]
 rw[this];exact wrap_u64 _
theorem z4r (a:BS)(i:Nat)(hi:i<4):xorI .u64 18446744073709551615 (wd a i)=wd (~~~ a) i:=by
 unfold wd;rw[xorM64];have: ~~~ W64 a i=W64 (~~~ a) i:=by
  apply BitVec.eq_of_getLsbD_eq;intro j hj;simp only[W64,BitVec.getLsbD_not,BitVec.getLsbD_extractLsb',hj,decide_true,Bool.true_and];have:64*i+j<256:=by omega
  simp[this]
 rw[this]
theorem not_run (a:BS):Pure (ITP prog) prog 68 [.agg (Enc.cells a)] (.agg [.raw (.int .u64 (xorI .u64 18446744073709551615 (wd a 0))),.raw (.int .u64 (xorI .u64 18446744073709551615 (wd a 1))),.raw (.int .u64 (xorI .u64 18446744073709551615 (wd a 2))),.raw (.int .u64 (xorI .u64 18446744073709551615 (wd a 3)))]):=zfz true goodN 100 (by kernel_rfl)
theorem qac (a:BS):Pure (ITP prog) prog 68 [.agg (Enc.cells a)] (.agg (Enc.cells (~~~ a))):=by
 have:=not_run a;rw[z4r _ 0 (by decide),z4r _ 1 (by decide),z4r _ 2 (by decide),z4r _ 3 (by decide)] at this;exact this
def stW (s:BS)(i:Nat)(v:Int):BS:=BitVec.ofNat 256 ((if 0=i then v else wd s 0).toNat+2^64*(if 1=i then v else wd s 1).toNat+2^128*(if 2=i then v else wd s 2).toNat+2^192*(if 3=i then v else wd s 3).toNat)
theorem z6y (s:BS)(i:Nat):0<=wd s i/\ wd s i<2^64:=by
 unfold wd;have:=(W64 s i).isLt;omega
theorem qhr (n i:Nat)(hi:i<4):wd (BitVec.ofNat 256 n) i=((n/2^(64*i)%2^64:Nat):Int):=by
 unfold wd W64;rw[BitVec.extractLsb'_toNat,BitVec.toNat_ofNat,Nat.shiftRight_eq_div_pow];congr 1
 have h:(2:Nat)^256=2^(64*i)*2^(256-64*i):=by rw[<-Nat.pow_add];congr 1;omega
 have h2:(2:Nat)^(256-64*i)=2^64*2^(192-64*i):=by rw[<-Nat.pow_add];congr 1;omega
 rw[h,Nat.mod_mul_right_div_self,h2,Nat.mod_mul_right_mod]
theorem qav (s:BS)(i:Nat)(v:Int)(hv:0<=v/\ v<2^64)(j:Nat)(hj:j<4):wd (stW s i v) j=if j=i then v else wd s j:=by
 unfold stW;rw[qhr _ _ hj];have a0:0<=(if 0=i then v else wd s 0)/\ (if 0=i then v else wd s 0)<2^64:=by split;exact hv;exact z6y s 0
 have a1:0<=(if 1=i then v else wd s 1)/\ (if 1=i then v else wd s 1)<2^64:=by split;exact hv;exact z6y s 1
 have a2:0<=(if 2=i then v else wd s 2)/\ (if 2=i then v else wd s 2)<2^64:=by split;exact hv;exact z6y s 2
 have a3:0<=(if 3=i then v else wd s 3)/\ (if 3=i then v else wd s 3)<2^64:=by split;exact hv;exact z6y s 3
 have key: ∀x0 x1 x2 x3:Int,0<=x0/\ x0<2^64->0<=x1/\ x1<2^64->0<=x2/\ x2<2^64->0<=x3/\ x3<2^64-> ∀n:Nat,n=x0.toNat+18446744073709551616*x1.toNat+340282366920938463463374607431768211456*x2.toNat+6277101735386680763835789423207666416102355444464034512896*x3.toNat->
  ((n%18446744073709551616:Nat):Int)=x0/\ ((n/18446744073709551616%18446744073709551616:Nat):Int)=x1/\ ((n/340282366920938463463374607431768211456%18446744073709551616:Nat):Int)=x2/\ ((n/6277101735386680763835789423207666416102355444464034512896%18446744073709551616:Nat):Int)=x3:=by
  intro x0 x1 x2 x3 h0 h1 h2 h3 n hn;obtain⟨y0,rfl⟩:=Int.eq_ofNat_of_zero_le h0.1;obtain⟨y1,rfl⟩:=Int.eq_ofNat_of_zero_le h1.1;obtain⟨y2,rfl⟩:=Int.eq_ofNat_of_zero_le h2.1;obtain⟨y3,rfl⟩:=Int.eq_ofNat_of_zero_le h3.1;simp only[Int.toNat_natCast] at hn;subst hn;refine⟨?_,?_,?_,?_⟩<;>congr 1<;>omega
 obtain⟨k0,k1,k2,k3⟩:=key _ _ _ _ a0 a1 a2 a3 _ rfl
 match j,hj with
 |0,_=>rw[Nat.mul_zero,Nat.pow_zero,Nat.div_one];exact k0
 |1,_=>exact k1
 |2,_=>exact k2
 |3,_=>exact k3
theorem zyy {ρ:Operand->AV} {U:St} {o:Oper} {x y:Operand} {b:Nat} {tt:TypeId} {i v:Int} (s:BS)(h:0<=i/\ i<4)(hv:0<=v/\ v<2^64)(ho:o.op= .store 22 x y)(hx:ρ x= .ptr b (0+i.toNat*1))(hy:ρ y= .raw (.int .u64 v))(hb:U.boxes[b]? =some (tt,Enc.cells s)):
 aop prog ρ U o=some (.raw undef,{U with boxes:=U.boxes.set b (tt,Enc.cells (stW s i.toNat v))}):=by
 have hl:(Enc.cells s).length=4:=Enc.len s;rw[zcr (n:=1) ho hx hy hb (by kernel_rfl) ⟨rfl,rfl,by simp only[hl];omega,by decide⟩];have e:(Enc.cells s).take (0+i.toNat*1)++cellsOf (.raw (.int .u64 v))++(Enc.cells s).drop (0+i.toNat*1+1)=Enc.cells (stW s i.toNat v):=by
  have hj:i.toNat<4:=by omega
  generalize i.toNat=j at hj
  show _=[_,_,_,_];rw[qav s j v hv 0 (by decide),qav s j v hv 1 (by decide),qav s j v hv 2 (by decide),qav s j v hv 3 (by decide)]
  match j,hj with
  |0,_=>rfl
  |1,_=>rfl
  |2,_=>rfl
  |3,_=>rfl
 simp only[e]
end Go.Ab
namespace Go.Ab
open Go Go.RowKit Go.Fwd
variable {y:Code}
abbrev zN:List AV:=[.u 0,.raw (.int .u64 0),.raw (.int .u64 0),.raw (.int .u64 0),.raw (.int .u64 0),.i 0,.i 0,.list 0 [] .full]
section
variable {IT:IterP} {P:Program} {W:Owed} {ops:Array Oper} {Q:List AV->St->Prop} {o:Oper} {l:List Oper} {S S':List AV} {U U':St} {k0:Nat}
theorem zft {t t0:TypeId} {x y:Operand} {s:Nat} {v:AV} {c0:List AV} {bs bs':List (TypeId×List AV)} (n:Nat)(cs:List AV)(k:zca IT P W ops Q l S' (.B bs'))(hσ:U= .B bs:=by exact rfl)(hg:o.guard=none:=by exact rfl)(ho:o.op= .store t x y:=by exact rfl)(hx:zbv S x= .ptr s 0:=by exact rfl)(hv:zbv S y=v:=by exact rfl)(hb:bs[s]? =some (t0,c0):=by exact rfl)(hn:zfa P t=some n:=by exact rfl)(hl:c0.length=n:=by exact rfl)(hc:zif v=true:=by exact rfl)(hcs:cellsOf v=cs:=by exact rfl)(hvl:cs.length=n:=by exact rfl)(h0:0<n:=by decide)
 (hS:zi S o.dst (.raw undef)=S':=by dsimp only[zi,List.set]) (hs:bs.set s (t0,cs)=bs':=by dsimp only[List.set]):zca IT P W ops Q (o::l) S U:=by
 subst hσ hs hcs;exact zdu hg (by simp[zda,ho]) (by simp[zdb,ho]) (zcd ho hx hv hb hn hl hc hvl h0) hS rfl k
theorem zdz {a:AV} {t:TypeId} {bs bs':List (TypeId×List AV)} (cs:List AV)(k:zca IT P W ops Q l S' (.B bs'))(hσ:U= .B bs:=by exact rfl)(hg:o.guard=none:=by exact rfl)(hc:zda S o=none:=by exact rfl)(hy:zdb S o=none:=by exact rfl)(h:aop P (zbv S) (.B bs) o=some (.ptr bs.length 0,.B (bs++[(t,cs)])):=by exact rfl)
 (ha:AV.ptr bs.length 0=a:=by dsimp only[List.length_cons,List.length_nil,Nat.zero_add,Nat.reduceAdd]) (hS:zi S o.dst a=S':=by dsimp only[zi,List.set]) (hs:bs++[(t,cs)]=bs':=by dsimp only[List.cons_append,List.nil_append]):zca IT P W ops Q (o::l) S U:=by
 subst hσ hs ha;exact zdu hg hc hy h hS rfl k
theorem wmk (m:List Bool)(n:Nat)(fs js:List Nat)(d:Nat)(hn:k0<=n)(hσ:zed U U.lens.length n fs js d=U')(hok:zcs U n js=true:=by exact rfl)(h:fgM m (zv U.lens.length (kz U.boxes U.lens.length n fs js d) S)=S':=by
 try dsimp only[zbg,zcl,List.foldl,List.set,bz,bzc,Nat.reduceMod,Nat.reduceDiv,Nat.reduceBEq,Nat.reduceAdd]
 repeat(first|exact zhx|refine zco rfl ?_|refine zco (zn _ _ _ rfl) ?_|refine zco (zn _ _ _ (z3p (Enc.cloL _))) ?_|apply zcp)):Wk k0 S U S' U':=zqz m n fs js d hn hok h hσ
def qai (n:Nat)(l:List (Nat×AV)):List AV:=l.foldl (fun S p=>S.set p.1 p.2) (List.replicate n (.raw undef))
theorem at_wkU {Q:AQ} (n:Nat)(L:List (Nat×AV))(hw:Wk k0 S U (qai n L) U')(h:awp IT P W k0 y Q S' U')(e:qai n L=S':=by dsimp only[qai,List.foldl,List.replicate,List.set]): ∃S' U',Wk k0 S U S' U'/\ awp IT P W k0 y Q S' U':=by
 subst e;exact⟨_,U',hw,h⟩
theorem zih {Q:AQ} (n:Nat)(L:List (Nat×AV))(hw:Wk k0 S U (qfh n L) U')(h:awp IT P W k0 y Q S' U')(e:qfh n L=S':=by dsimp only[qfh,List.foldl,List.replicate,List.set]): ∃S' U',Wk k0 S U S' U'/\ awp IT P W k0 y Q S' U':=by
 subst e;exact⟨_,U',hw,h⟩
end
theorem zxr {IT:IterP} {P:Program} {W:Owed} {ops:Array Oper} {Q:List AV->St->Prop} {o:Oper} {l:List Oper} {S S':List AV} {U:St} (t:Tr)(k:zca IT P W ops Q l S' U)(hg:o.guard=none:=by exact rfl)(hc:zda S o=none:=by exact rfl)(hy:zdb S o=none:=by exact rfl)(h:qop P (zbv S) U o=some (qgy t .full):=by kernel_rfl)(hS:zi S o.dst (.agg (Enc.cells t))=S':=by dsimp only[zi,List.set]):zca IT P W ops Q (o::l) S U:=
 w_qs (.agg (Enc.cells t)) (a0:=qgy t .full) hg hc hy h (z1q _ _) hS k
end Go.Ab
namespace Go.Ab
open Go Go.RowKit Go.Fwd Go.Proofs
def zii (lo:Int)(hi:Int):Option Bool:=
 (zdg (τ:=Unit) (bif (decide (lo<0)) then(some (inr false)) else(bif (decide (lo>16)) then(some (inr false)) else(bif (lo==1) then(bif (hi==1) then(some (inr false)) else(some (inl ()))) else(some (inl ()))))) (fun j1=>(bif (hi==(-1)) then(some true) else(bif (decide (hi>=1)) then(bif (decide (hi<=16)) then(some (decide (hi>=lo))) else(some false)) else(some false)))))
theorem ent145:Ent prog 145:=enters_of Tryz.func145 (by kernel_rfl) rfl
theorem zuc (lo:Int)(hi:Int)(r:Bool)(h:zii lo hi=some r):Pure (ITP prog) prog 145 [.raw (.int .i64 lo),.raw (.int .i64 hi)] (.raw (.bool r)):=by
 unfold zii at h;refine zbq 32 mix Tryz.func145 ent145 ?_;refine zx [.v (.b false)] ?_;refine zaz h (bz 0 34 17179869180) (fun j1=>[]) (fun j1=>(.B [])) ?_ ?_;intro or1 h hr1;refine zx [.m _,.v (.b (decide (lo<0)))] ?_;refine zah h (fun hc1 h=> ?_) (fun hc1 h=> ?_);refine zaw hc1 ?_;refine w_r [.p,.p,.v (.b true),.m _,.p] ?_;refine w_r [.p,.p,.p,.p,.p] ?_;refine w_r [.v (.b true)] ?_;refine zdy rfl ?_;refine zx [.v (.b false)] ?_;replace h:=zax h hr1;exact zbh h;refine zaw hc1 ?_;refine w_r [.m _,.v (.b (decide (lo>16))),.v (.b (decide (lo>16)))] ?_;refine zah h (fun hc2 h=> ?_) (fun hc2 h=> ?_);refine zaw hc2 ?_;refine w_r [.p,.p,.p,.p,.p] ?_;refine w_r [.p,.v (.b true)] ?_;refine zdy rfl ?_;refine zx [.v (.b false)] ?_;replace h:=zax h hr1;exact zbh h;refine zaw hc2 ?_;refine w_r [.m _,.v (.b (lo==1))] ?_;refine zaq rfl rfl ?_;refine zah h (fun hc3 h=> ?_) (fun hc3 h=> ?_);refine zaw hc3 ?_;refine w_r [.m _,.v (.b (hi==1)),.v (.b (hi==1)),.v (.b (hi==1))] ?_;refine zch h (fun hc4 h=> ?_) (fun hc4 h=> ?_);refine zx [.v (.b false)] ?_;replace h:=zax h hr1;exact zbh h;refine zc (o:=or1) () h ?_;exact zbp (bl 34 3);refine zaw hc3 ?_;refine w_r [.p,.p,.v (.b false),.v (.b false)] ?_;refine zbz rfl ?_;refine zc (o:=or1) () h ?_;exact zbp (bl 34 3);intro j1 h;refine zeo ?_;refine zx [.m _,.v (.b (hi==(-1)))] ?_;refine zah h (fun hc5 h=> ?_) (fun hc5 h=> ?_);refine zaw hc5 ?_;iterate 2 refine w_r [.p,.p,.p,.p,.p] ?_
 refine w_r [.p,.v (.b true),.m _] ?_;exact zbh h;refine zaw hc5 ?_;refine w_r [.m _,.v (.b (decide (hi>=1)))] ?_;refine zaq rfl rfl ?_;refine zah h (fun hc6 h=> ?_) (fun hc6 h=> ?_);refine zaw hc6 ?_;refine w_r [.m _,.v (.b (decide (hi<=16))),.v (.b (decide (hi<=16)))] ?_;refine zaq rfl rfl ?_;refine zah h (fun hc7 h=> ?_) (fun hc7 h=> ?_);refine zaw hc7 ?_;refine w_r [.m _,.m _,.v (.b (decide (hi>=lo))),.v (.b (decide (hi>=lo))),.v (.b (decide (hi>=lo)))] ?_;refine w_r [.m _] ?_;exact zbh h;refine zaw hc7 ?_;refine w_r [.p,.p,.p,.v (.b false),.v (.b false)] ?_;refine w_r [.m _] ?_;exact zbh h;refine zaw hc6 ?_;refine w_r [.p,.p,.v (.b false),.m _,.p] ?_;refine w_r [.p,.p,.v (.b false),.v (.b false),.m _] ?_;exact zbh h
def z5t (s:BS):Option Tr:=
 (bif (decide (s=(0#256))) then(some zbc) else(some (Tr.mk 2 s 0 0 [])))
theorem ent123:Ent prog 123:=enters_of Tryz.func123 (by kernel_rfl) rfl
theorem rxof_sh (s:BS)(r:Tr)(h:z5t s=some r):Pure (ITP prog) prog 123 [.A (s:BS)] (.A (r:Tr)):=by
 unfold z5t at h;refine zbq 8 mix Tryz.func123 ent123 ?_;refine zm (zb ?_);refine zdz (Enc.cells (s:BS)) ?_;refine zdz zN ?_;refine zm ?_;refine zx [.v (.A (s:BS)),.v (.A (0#256:BS))] ?_;refine znl (.b (decide (s=(0#256)))) rfl rfl rfl (zfy s (0#256) rfl rfl rfl) (by dsimp only[zi,List.set]) ?_;refine zch h (fun hc1 h=> ?_) (fun hc1 h=> ?_);refine zm (zb ?_);refine zxr zbc ?_;refine zft 8 (Enc.cells (zbc:Tr)) ?_;exact zbr (fun(r:Tr)=> .A (r:Tr)) h (.A (zbc:Tr));refine zx [.v (.A (s:BS))] ?_;refine zxr (Tr.mk 2 s 0 0 []) ?_;refine zft 8 (Enc.cells ((Tr.mk 2 s 0 0 []):Tr)) ?_;exact zbr (fun(r:Tr)=> .A (r:Tr)) h (.A ((Tr.mk 2 s 0 0 []):Tr))
def zkb (s:BS)(c:Int):Option Bool:=
 (chk (0<=(zfq .u8 c 6)/\ (zfq .u8 c 6)<4) (chk (0<=(zlu .u8 c 63)) (some ((zlu .u64 (zfq .u64 (wd s (toNat (zfq .u8 c 6))) (zlu .u8 c 63)) 1)==1))))
theorem ent163:Ent prog 163:=enters_of Tryz.func163 (by kernel_rfl) rfl
theorem zsk (s:BS)(c:Int)(r:Bool)(h:zkb s c=some r):Pure (ITP prog) prog 163 [.A (s:BS),.raw (.int .u8 c)] (.raw (.bool r)):=by
 unfold zkb at h;refine zbq 12 mix Tryz.func163 ent163 ?_;refine zm (zb ?_);refine zdz (Enc.cells (s:BS)) ?_;refine w_o (a:= .b false) ?_;refine zx [.m _] ?_;refine w_o (a:= .u (zfq .u8 c 6)) (h:=zbf (qem (by decide) rfl rfl rfl)) ?_;obtain⟨g1,h⟩:=zt h;refine w_o (a:= .ptr 0 (0+toNat (zfq .u8 c 6)*1)) (h:=zbf (zza g1 rfl rfl rfl rfl rfl)) ?_;refine w_o (a:= .raw (.int .u64 (wd s (toNat (zfq .u8 c 6))))) (h:=zbf (z2v s (by omega) rfl rfl rfl)) ?_;refine w_r [.m _,.v (.u (zlu .u8 c 63))] ?_;obtain⟨g2,h⟩:=zt h;refine w_o (a:= .raw (.int .u64 (zfq .u64 (wd s (toNat (zfq .u8 c 6))) (zlu .u8 c 63)))) (h:=zbf (qem g2 rfl rfl rfl)) ?_;refine w_r [.v (.raw (.int .u64 (zlu .u64 (zfq .u64 (wd s (toNat (zfq .u8 c 6))) (zlu .u8 c 63)) 1))),.v (.b ((zlu .u64 (zfq .u64 (wd s (toNat (zfq .u8 c 6))) (zlu .u8 c 63)) 1)==1)),.m _] ?_;exact zbh h
end Go.Ab
