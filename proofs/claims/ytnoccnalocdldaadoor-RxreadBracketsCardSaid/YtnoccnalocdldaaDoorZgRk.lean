import Derived.Test.YtnoccnalocdldaaDoorZgRd
import Derived.Test.YtnoccnalocdldaaDoorZgSx
set_option linter.all false
namespace Go.Ab
open Go Go.RowKit Go.Fwd
def aendGR (P:Program)(fn:Func)(n:Nat)(q:Stk)(r':Rd):AQ
 | .exit _,_,_=>False
 |_,S,σ=>(∃a,zba P fn σ S=some a)∧(σ.stop=true∨(σ.out=n∧ ∃js d,zdc σ 2 js=true∧zck σ.boxes σ.lens.length 2 [] js d=rdB 2 q r'))
def RdIt (P:Program)(g:FuncId)(r:Rd)(rows:List (List AV))(r':Rd):Prop:=
 (∀q,r.q=some q→z8h P g [.iptr [.ptr 0 0]] [(tyR,rdC 1 r),zm r.q] rows (rdB 2 r.q r'))∧(r.q=none→z8h P g [.iptr [.ptr 0 0]] [(tyR,rdC 1 r)] rows [(tyR,rdC 1 r'),zm r'.q])
theorem zuc: ∀l:List Int,zgw (Enc.cellsL l)=true
 |[]=>rfl
 |i::l=>by rw[Enc.cons];show zgw (AV.raw _::Enc.cellsL l)=true;rw[zgw,zuc l];rfl
theorem z6b (q:Stk):zgw (zm q).2=true:=by
 cases q with
 |none=>rfl
 |some q=>exact zuc _
theorem z6a (k:Nat)(r:Rd):zgw (rdC k r)=true:=by
 obtain⟨s,a,e,q⟩:=r
 cases q<;>rfl
theorem zzb {m:Nat} {g:FZ} {fn:Func} {l:Nat} (hg:g.1 0 0= .ptr 0 0):zaf m g (zat fn [.yld l,.iptr [.ptr 0 0]])=zat fn [.yld l,.iptr [.ptr 0 0]]:=by
 unfold zat
 rw[List.cons_append,List.cons_append,List.nil_append,zaf,zaf,zhc,zhc,zaf,zaf,zhc,hg,zau m g _ (z0p _)]
theorem qgj {P:Program} (hmix:P.follows .mixedOrders=true) {g:FuncId} {fn:Func} {c:Code} {r r':Rd} {rows:List (List AV)} (hf:P.funcs[g]? =some fn)(hb:fn.body=some c)
 (h: ∀G:Gen,G.rows=rows→ ∀k0,k0≤2→awp (ITP P) P (some G) k0 c (aendGR P fn rows.length r.q r') (zat fn [.yld G.l,.iptr [.ptr 0 0]]) (rdS r.q r)):RdIt P g r rows r':=by
 have hfl:(rdB 2 r.q r').all (fun b=>zgw b.2)=true:=by
  simp only[rdB,List.all_cons,List.all_nil,z6a,z6b,zgw,Bool.and_self]
 refine⟨fun q hq=>zyf hmix hf hb fun G hG=>⟨_,rdS r.q r,z8y 1 (t:=(zm r.q).1) (cs:=(zm r.q).2) rfl (zzb rfl) (mv_rd r).symm,zcf c (fun e S σ hq=> ?_) _ _ (h G hG 2 (Nat.le_refl _))⟩,fun hq=>zyf hmix hf hb fun G hG=>⟨zat fn [.yld G.l,.iptr [.ptr 0 0]],rdS r.q r,?_,zcf c (fun e S σ hq=> ?_) _ _ (h G hG 1 (by omega))⟩⟩
 ·have key:(∃a,zba P fn σ S=some a)∧(σ.stop=true∨(σ.out=rows.length∧ ∃js d,zdc σ 2 js=true∧zck σ.boxes σ.lens.length 2 [] js d=rdB 2 r.q r'))→(∃a,zba P fn σ S=some a)∧(σ.stop=true∨(σ.out=rows.length∧ ∃σ',Wk 2 [] σ [] σ'∧σ'.boxes=rdB 2 r.q r'∧((rdB 2 r.q r').all fun b=>zgw b.2)=true)):=fun⟨h1,h2⟩=>⟨h1,h2.imp id fun⟨h3,js,d,h4,h5⟩=>⟨h3,zer σ σ.lens.length 2 [] js d,.one (.inr (.inl ⟨2,[],js,d,Nat.le_refl _,h4,trivial,rfl⟩)),h5,hfl⟩⟩
  cases e with
  |exit id=>exact hq
  |normal=>exact key hq
  |ret=>exact key hq
 ·refine .step (S1:=zat fn [.yld G.l,.iptr [.ptr 0 0]]) (.inr (.inr (.inl ⟨0,tyR,rdC 1 r,rfl,Fg.refl _,rfl⟩))) (.one (.inr (.inr (.inl ⟨0,tyR,rdC 1 r,rfl,Fg.refl _,?_⟩))))
  show rdS r.q r=St.mk [(tyR,rdC 1 r),(tyR,[]),(tyR,[])] [] [] 0 false
  unfold rdS rdB
  rw[zma (k:=2) (k':=1) ‹r.q=none›, ‹r.q=none›];rfl
 ·have key:(∃a,zba P fn σ S=some a)∧(σ.stop=true∨(σ.out=rows.length∧ ∃js d,zdc σ 2 js=true∧zck σ.boxes σ.lens.length 2 [] js d=rdB 2 r.q r'))→(∃a,zba P fn σ S=some a)∧(σ.stop=true∨(σ.out=rows.length∧ ∃σ',Wk 1 [] σ [] σ'∧σ'.boxes=[(tyR,rdC 1 r'),zm r'.q]∧([(tyR,rdC 1 r'),zm r'.q].all fun b=>zgw b.2)=true)):=fun⟨h1,h2⟩=>⟨h1,h2.imp id fun⟨h3,js,d,h4,h5⟩=>by
   obtain⟨σ1,hσ1⟩: ∃σ1,zer σ σ.lens.length 2 [] js d=σ1:=⟨_,rfl⟩
   have hb1:σ1.boxes=rdB 2 r.q r':=by rw[←hσ1];exact h5
   refine⟨h3,zer σ1 σ1.lens.length 1 [] [2] 0,.step (S1:=[]) (.inr (.inl ⟨2,[],js,d,by decide,h4,trivial,hσ1⟩)) (.one (.inr (.inl ⟨1,[],[2],0,Nat.le_refl _,?_,trivial,rfl⟩))),?_,?_⟩
   ·unfold zdc;rw[hb1];rfl
   ·show zck σ1.boxes _ 1 [] [2] 0=_
    rw[hb1]
    show[(tyR,zaf _ _ (rdC 2 r')),((zm r'.q).1,zaf _ _ (zm r'.q).2)]=_
    rw[zu,zel (k':=1) r' fun n=>rfl]
   ·simp only[List.all_cons,List.all_nil,z6a,z6b,Bool.and_self]⟩
  cases e with
  |exit id=>exact hq
  |normal=>exact key hq
  |ret=>exact key hq
def zkz (hs:List Nat)(bx:List (TypeId×List AV))(k:Nat)(q0:Stk)(r':Rd)(σ:St):St:=
 {σ with boxes:=(σ.boxes.mapIdx fun i b=>if i=0 then(tyR,rdC bx.length r') else if i=k then((zm q0).1,[]) else if hs.contains i=true then(bx[i]?).getD b else(b.1,zaf σ.lens.length (gz hs) b.2))++[zm r'.q]}
def qdy (hs:List Nat)(tm:TypeId)(τ:St):St:={τ with boxes:=τ.boxes.mapIdx fun i b=>if hs.contains i=true then(tm,[]) else(b.1,zaf τ.lens.length (gz hs) b.2)}
theorem z3n {τ σ:St} {k:Nat} {q:Stk} {r':Rd} {hs:List Nat} (hk:k≠0)(h1:τ.boxes[k]? =some (zm q))(hkh:hs.contains k=true):
 (q≠none→zie [0,k] hs (rdB 2 q r') τ.boxes σ=zkz hs τ.boxes k q r' σ)∧(q=none→zie [0] hs [(tyR,rdC 1 r'),zm r'.q] τ.boxes σ=zkz hs τ.boxes k q r' σ):=by
 have hX: ∀n js,((zm r'.q).1,zaf 0 (fwz js n) (zm r'.q).2)=zm r'.q:=fun n js=>by rw[zu]
 refine⟨fun hq=> ?_,fun hq=> ?_⟩
 ·unfold zie zkz
  congr 1
  have e2:((rdB 2 q r').drop [0,k].length).map (fun c=>(c.1,zaf 0 (fwz [0,k] τ.boxes.length) c.2))=[zm r'.q]:=by
   show[((zm r'.q).1,zaf 0 _ (zm r'.q).2)]=_
   rw[hX]
  rw[e2]
  congr 1
  apply List.ext_getElem?
  intro i
  simp only[List.getElem?_mapIdx]
  cases hb:σ.boxes[i]? with
  |none=>rfl
  | some b=>
   simp only[Option.map_some,Option.some.injEq]
   by_cases e0:i=0
   ·subst e0
    simp only[if_pos rfl]
    rw[if_pos (by simp)]
    have:[0,k].idxOf 0=0:=by simp
    rw[this]
    show(tyR,zaf 0 _ (rdC 2 r'))=_
    rw[zel (k':=τ.boxes.length) r' fun n=>rfl,if_pos trivial]
   ·by_cases ek:i=k
    ·subst ek
     rw[if_pos (by simp),if_neg e0,if_pos rfl]
     have:[0,i].idxOf i=1:=by
      have:(0==i)=false:=by simpa using Ne.symm e0
      simp[List.idxOf_cons,this]
     rw[this];rfl
    ·rw[if_neg (by simp[e0,ek]),if_neg e0,if_neg ek]
 ·unfold zie zkz
  congr 1
  have e2:([(tyR,rdC 1 r'),zm r'.q].drop [0].length).map (fun c=>(c.1,zaf 0 (fwz [0] τ.boxes.length) c.2))=[zm r'.q]:=by
   show[((zm r'.q).1,zaf 0 _ (zm r'.q).2)]=_
   rw[hX]
  rw[e2]
  congr 1
  apply List.ext_getElem?
  intro i
  simp only[List.getElem?_mapIdx]
  cases hb:σ.boxes[i]? with
  |none=>rfl
  | some b=>
   simp only[Option.map_some,Option.some.injEq]
   by_cases e0:i=0
   ·subst e0
    simp only[if_pos rfl]
    rw[if_pos (by simp)]
    show(tyR,zaf 0 _ (rdC 1 r'))=_
    rw[zel (k':=τ.boxes.length) r' fun n=>rfl,if_pos trivial]
   ·by_cases ek:i=k
    ·subst ek
     rw[if_neg (by simp[e0]),if_pos hkh,if_neg e0,if_pos rfl,h1,hq];rfl
    ·rw[if_neg (by simp[e0]),if_neg e0,if_neg ek]
theorem qbm {P:Program} {k0:Nat} {f:Operand} {ps:Array Tmp} {asg body:Code} {Q:AQ} {S S':List AV} {τ:St} {α β ρ:Type} {FB:β→α→Option (β ⊕ ρ)} {xs:List α} {s0:β} {K:β→Option ρ} {rr:ρ} (h:zdr (zek FB xs s0) K=some rr)(row:α→List AV)(D:β→St)(k m:Nat)(hs:List Nat) {g:Nat} {r r':Rd} {tm:TypeId} {Cm:List AV}
 (hit:RdIt P g r (xs.map row) r') (hent:Ent P g) (hf:zcc S f= .clos g [.iptr [.ptr 0 0]]) (hk:k≠0) (h0:τ.boxes[0]? =some (tyR,rdC k r)) (h1:τ.boxes[k]? =some (zm r.q)) (hh0:hs.contains 0=true) (hhk:hs.contains k=true)
 (hd: ∀(i:Nat) (t:TypeId),τ.boxes[i]? =some (t,[])→hs.contains i=true) (hm:hs.contains m=false) (hbm:τ.boxes[m]? =some (tm,Cm)) (hfg:Fg (zaf τ.lens.length (gz hs) S) S')
 (hl: ∀x,(row x).length=ps.size) (hna:zcn asg=true) (hD:qdy hs tm τ=D s0)
 (zhv: ∀s x p,FB s x=some p→awp (ITP P) P none τ.boxes.length asg (zzl (fun S1 σ1=>awp (ITP P) P none σ1.boxes.length body (z6c S' τ.boxes.length D p rr (fun e _ σ=>match e with| .normal=>Q .normal S (zkz hs τ.boxes k r.q r' σ)|_=>False)) S1 σ1)) (zlh S' ps (row x)) (D s))
 (he: ∀s,K s=some rr→Q .normal S (zkz hs τ.boxes k r.q r' (D s))):awp (ITP P) P none k0 (.rangeFunc f ps asg body) Q S τ:=by
 obtain⟨b1,b2⟩:=z3n (σ:=τ) (r':=r') hk h1 hhk
 cases hq:r.q with
 | some q=>
  have hbk: ∀σ,zie [0,k] hs (rdB 2 r.q r') τ.boxes σ=zkz hs τ.boxes k r.q r' σ:=fun σ=>(z3n (σ:=σ) (r':=r') hk h1 hhk).1 (by rw[hq];simp)
  have hQ:z9e Q S [0,k] hs (rdB 2 r.q r') τ.boxes=(fun e _ σ=>match e with| .normal=>Q .normal S (zkz hs τ.boxes k r.q r' σ)|_=>False):=by
   funext e S1 σ
   cases e with
   |normal=>exact congrArg (Q .normal S) (hbk σ)
   |exit id=>rfl
   |ret=>rfl
  have ik:[0,k].idxOf k=1:=by
   have:(0==k)=false:=by simpa using Ne.symm hk
   simp[List.idxOf_cons,this]
  refine z5e (σ1:=qdy hs tm τ) h row D [0,k] hs m rfl (hit.1 q hq) hent hf ?_ ⟨by simp;exact Ne.symm hk,rfl,?_,by simp only[List.all_cons,List.all_nil,hh0,hhk];rfl,hd,hm,tm,Cm,hbm,rfl⟩ hfg ?_ hl hna hD (by rw[hQ];exact zhv) (fun s hs'=>by rw[hbk];exact he s hs')
  ·rfl
  ·intro i t cs hi
   match i,hi with
   |0,hi=>cases hi;exact⟨rdC k r,h0,zel r fun n=>by show(if[0,k].contains k then AV.bsl ([0,k].idxOf k) 0 n 1 false else .top)=_;simp[ik],by simp[rdC]⟩
   | 1,hi=>
    have hi:some (zm r.q)=some (t,cs):=hi
    cases hi':zm r.q with
    | mk t' c'=>
     rw[hi'] at hi;cases hi
     refine⟨cs,by rw[←hi'];exact h1,?_,?_⟩
     ·have:=zu 0 (bwz [0,k]) r.q;rw[hi'] at this;exact this
     ·have:=zyh q;rw[←hq,hi'] at this;exact this
   |i+2,hi=>cases hi
  ·intro i t cs hi
   match i,hi with
   |0,hi=>cases hi;exact⟨_,rfl⟩
   | 1,hi=>
    have hi:some (zm r.q)=some (t,cs):=hi
    injection hi with hi
    exact⟨[],by show some ((zm r.q).1,[])=_;rw[hi]⟩
   |i+2,hi=>cases hi
 | none=>
  have hbk: ∀σ,zie [0] hs [(tyR,rdC 1 r'),zm r'.q] τ.boxes σ=zkz hs τ.boxes k r.q r' σ:=fun σ=>(z3n (σ:=σ) (r':=r') hk h1 hhk).2 hq
  have hQ:z9e Q S [0] hs [(tyR,rdC 1 r'),zm r'.q] τ.boxes=(fun e _ σ=>match e with| .normal=>Q .normal S (zkz hs τ.boxes k r.q r' σ)|_=>False):=by
   funext e S1 σ
   cases e with
   |normal=>exact congrArg (Q .normal S) (hbk σ)
   |exit id=>rfl
   |ret=>rfl
  refine z5e (σ1:=qdy hs tm τ) h row D [0] hs m rfl (hit.2 hq) hent hf rfl ⟨by simp,rfl,?_,by simp only[List.all_cons,List.all_nil,hh0];rfl,hd,hm,tm,Cm,hbm,rfl⟩ hfg ?_ hl hna hD (by rw[hQ];exact zhv) (fun s hs'=>by rw[hbk];exact he s hs')
  ·intro i t cs hi
   match i,hi with
   |0,hi=>cases hi;exact⟨rdC k r,h0,by rw[zma (k:=k) (k':=0) hq,zel (k':=0) r fun n=>rfl];exact zma hq,by simp[rdC]⟩
   |i+1,hi=>cases hi
  ·intro i t cs hi
   match i,hi with
   |0,hi=>cases hi;exact⟨_,rfl⟩
   |i+1,hi=>cases hi
end Go.Ab
namespace Go.Ab
open Go Go.RowKit Go.Fwd Go.Proofs
theorem zas {m b b':Nat} {g:FZ} {q:Stk} (h: ∀n,g.2 b 0 n 1= .bsl b' 0 n 1 false):zhc m g (zbd b q)=zbd b' q:=by
 cases q with
 |none=>rfl
 |some q=>simp only[zbd,zhc,h]
def zhp (q:Stk)(a:Int):Stk:=some (0,zfk q++[a])
def zzi:Stk→Stk
 |none=>none
 |some (_,[])=>none
 |some (_,[a])=>some (a,[])
 |some (j,a::b::l)=>some (j,(a::b::l).dropLast)
theorem z6q (q:Stk)(a:Int):(zm (zhp q a)).2=Enc.cellsL (zfk q++[a]):=by
 show Enc.cellsL (stkL (some (0,zfk q++[a])))=_
 cases h:zfk q++[a] with
 |nil=>simp at h
 |cons b l=>rfl
section
variable {P:Program} {ρ:Operand→AV} {σ:St} {o:Oper}
theorem zvb {x y:Operand} {b k:Nat} {t0:TypeId} {c0 c1 c2 c3:AV} {q:Stk} (ho:o.op= .store 57 x y)(hx:ρ x= .ptr b 3)(hy:ρ y=zbd k q)(hb:σ.boxes[b]? =some (t0,[c0,c1,c2,c3])):
 aop Tryd.prog ρ σ o=some (.raw undef,{σ with boxes:=σ.boxes.set b (t0,[c0,c1,c2,zbd k q])}):=by
 have hs:(cellsOf (zbd k q)).length=1:=by cases q<;>rfl
 rw[zcr (n:=1) ho hx hy hb (by kernel_rfl) ⟨by cases q<;>rfl,hs,by simp,by decide⟩]
 cases q<;>rfl
theorem qhz:Tryd.prog.underlying 57=some (.slice 3):=by kernel_rfl
theorem zgr {x:Operand} {b:Nat} {q:Stk} (ho:o.op= .call ⟨.builtin .len, #[x], #[57]⟩)(hx:ρ x=zbd b q):qop Tryd.prog ρ σ o=some (.raw (.int .i64 ((zfk q).length:Int))):=by
 have h1:qei Tryd.prog 57 (zbd b q)=some (.raw (.int .i64 ((zfk q).length:Int))):=by
  cases q<;>simp[qei,qhz,zbd,zfk]
 simp only[qop,ho,hx,h1]
theorem qgp {x i:Operand} {b:Nat} {j:Int} {l:List Int} {k:Int} (g:0≤k∧k<(l.length:Int))(ho:o.op= .indexAddr 57 x i)(hx:ρ x=zbd b (some (j,l)))(hi:ρ i= .raw (.int .i64 k)):qop Tryd.prog ρ σ o=some (.ptr b (0+k.toNat*1)):=by
 exact qec (α:=Int) g ho hx hi qhz (by kernel_rfl)
theorem qhm {q:Stk} (h:zfk q≠[]): ∃j l,q=some (j,l)∧l≠[]:=by
 cases q with
 |none=>exact absurd rfl h
 |some q=>exact⟨q.1,q.2,rfl,h⟩
theorem qaw {q:Stk} (h:zfk q≠[]):(zm (zzi q)).2=(zm q).2.take (max 1 ((zfk q).length-1))∧(zm (zzi q)).1=(zm q).1:=by
 match q,h with
 |none,h=>exact absurd rfl h
 |some (_,[]),h=>exact absurd rfl h
 |some (_,[a]),_=>exact⟨rfl,rfl⟩
 | some (j,a::b::l),_=>
  refine⟨?_,rfl⟩
  show Enc.cellsL (stkL (some (j,(a::b::l).dropLast)))=(Enc.cellsL (a::b::l)).take (max 1 ((a::b::l).length-1))
  have e:stkL (some (j,(a::b::l).dropLast))=(a::b::l).dropLast:=rfl
  rw[e,List.dropLast_eq_take]
  have:=Enc.take (a::b::l) (max 1 ((a::b::l).length-1))
  rw[show Enc.sz Int=1 from rfl,Nat.mul_one] at this
  have e2:max 1 ((a::b::l).length-1)=(a::b::l).length-1:=by simp only[List.length_cons];omega
  rw[e2] at this⊢
  exact this.symm
theorem popA {q:Stk} {b:Nat} (h:zfk q≠[]):zbd b (zzi q)= .bsl b 0 ((zfk q).length-1) 1 false:=by
 match q,h with
 |none,h=>exact absurd rfl h
 |some (_,[]),h=>exact absurd rfl h
 |some (_,[a]),_=>rfl
 | some (j,a::b'::l),_=>
  show AV.bsl b 0 ((a::b'::l).dropLast).length 1 false=_
  rw[List.length_dropLast];rfl
theorem qcj {c:Call} {x y:Operand} {b:Nat} {q:Stk} {a:Int} {st:Room} (h:(zfk q).length<2^40)(ho:o.op= .call c)(hc:c.callee= .builtin .append)(ha:c.args.toList=[x,y])(ht:c.argTypes.toList=[57,57])
 (hx:ρ x=zbd b q) (hy:ρ y= .list 1 (Enc.cellsL [a]) st) (hb:σ.boxes[b]? =some (zm q)):
 zvw Tryd.prog ρ σ o=some (zbd σ.boxes.length (zhp q a),{σ with boxes:=(σ.boxes.set b ((zm q).1,[]))++[zm (zhp q a)]}):=by
 have hu:Tryd.prog.underlying 57=some (.slice 3):=by kernel_rfl
 have key:(Tryd.prog.info? 3).map (fun i=>(i.size,i.bytes,i.zero.map fun z=>z.cells.size))=some (1,8,some 1):=by kernel_rfl
 obtain⟨i,hi,⟨z,hz,hzc⟩,hsz,hby⟩: ∃i,Tryd.prog.info? 3=some i∧(∃z,i.zero=some z∧z.cells.size=1)∧i.size=1∧i.bytes=8:=by
  cases hi:Tryd.prog.info? 3 with
  |none=>rw[hi] at key;cases key
  | some i=>
   rw[hi] at key
   simp only[Option.map_some,Option.some.injEq,Prod.mk.injEq] at key
   obtain⟨k1,k2,k3⟩:=key
   cases hz:i.zero with
   |none=>rw[hz] at k3;cases k3
   |some z=>rw[hz] at k3;exact⟨i,rfl,⟨z,hz,by simpa using k3⟩,k1,k2⟩
 have hsrc: ∀S,z8z Tryd.prog S 1 57 57 (.list 1 (Enc.cellsL [a]) st)=some (1,Enc.cellsL [a]):=fun S=>by
  simp only[z8z];rfl
 have hnn:ztb (zbd b q)=false:=by cases q<;>rfl
 have hcells:=z6q q a
 cases q with
 | none=>
  have hset:σ.boxes.set b (tyR,[])=σ.boxes:=by
   apply List.ext_getElem?
   intro j
   rw[List.getElem?_set]
   split
   ·rename_i e;subst e
    have:=(List.getElem?_eq_some_iff.1 hb).1
    rw[if_pos this,hb];rfl
   ·rfl
  simp only[zvw,ho,hc,ha,ht,hx,hy,hnn,Bool.false_eq_true,if_false]
  simp only[zbd,zov,hu,hi,hz,hsz,hsrc]
  rw[if_pos ⟨by decide,hzc,by decide⟩]
  rw[if_pos ⟨by simp,by decide,by rw[hby];decide⟩]
  show some _=some (_,{σ with boxes:=σ.boxes.set b (tyR,[])++_})
  rw[hset];rfl
 | some q=>
  obtain⟨j,l⟩:=q
  simp only[zvw,ho,hc,ha,ht,hx,hy,hnn,Bool.false_eq_true,if_false]
  have hlen:(zfk (some (j,l))).length=l.length:=rfl
  rw[hlen] at h
  cases l with
  | nil=>
   have hB:zov Tryd.prog σ 57 57 (zbd b (some (j,[]))) (.list 1 (Enc.cellsL [a]) st)=none:=by
    simp only[zbd,zov,hu,hi,hz,hsz,hsrc,hb]
    rw[if_pos ⟨by decide,hzc,by decide⟩,if_pos ⟨by simp,by simp[maxLen],by rw[hby];simp,by simp⟩]
    simp
   rw[hB]
   simp only[zbd,z8j,hu,hi,hz,hsz,hsrc,hb]
   rw[if_neg (by decide),if_pos (by refine⟨by simp,by decide,hzc,by decide,by rw[hby];decide,by simp,by simp,rfl,?_,by simp⟩;simp[zm,stkL,Enc.cons,Enc.cells,Enc.nil])]
   rfl
  | cons c l=>
   have hB:zov Tryd.prog σ 57 57 (zbd b (some (j,c::l))) (.list 1 (Enc.cellsL [a]) st)=some (.bsl σ.boxes.length 0 ((c::l).length+1) 1 false,{σ with boxes:=σ.boxes.set b (3,[])++[(3,Enc.cellsL (c::l)++Enc.cellsL [a])]}):=by
    have hl:(Enc.cellsL (c::l)).length=(c::l).length:=by rw[Enc.lenL];exact Nat.mul_one _
    have hl':(zm (some (j,c::l))).2.length=(c::l).length:=hl
    have hm:(c::l).length+1≤maxLen:=by
     have h6:140737488355328≤maxLen:=by decide
     omega
    simp only[zbd,zov,hu,hi,hz,hsz,hsrc,hb,Bool.false_eq_true,if_false]
    rw[if_pos ⟨by decide,hzc,by decide⟩,if_pos ⟨by simp,hm,by rw[hby];omega,by rw[hl'];omega⟩,if_pos ⟨by simp,by rw[hl',Nat.mul_one],rfl,by simp⟩]
    rfl
   rw[hB]
   show some (_,{σ with boxes:=_++[(3,_)]})=some (_,{σ with boxes:=_++[(3,(zm (zhp (some (j,c::l)) a)).2)]})
   rw[hcells]
   have e1:Enc.cellsL (c::l)++Enc.cellsL [a]=Enc.cellsL (zfk (some (j,c::l))++[a]):=(Enc.app _ _).symm
   rw[e1]
   have e2:(c::l).length+1=(zfk (some (j,c::l))++[a]).length:=by simp[zfk]
   show some (AV.bsl _ 0 ((c::l).length+1) 1 false,_)=some (AV.bsl _ 0 (zfk (some (j,c::l))++[a]).length 1 false,_)
   rw[e2];rfl
theorem w_pop {IT:IterP} {W:Owed} {ops:Array Oper} {Q:List AV→St→Prop} {l:List Oper} {S S':List AV} {x i:Operand} {b:Nat} {q:Stk} (h:zfk q≠[])(hg:o.guard=none)(hc:zdj S o=none)(hy:zdt S o=none)(ho:o.op= .slice 57 x none (some i) none)(hx:zcc S x=zbd b q)(hi:zcc S i= .raw (.int .i64 ((zfk q).length-1:Int)))(hS:zy S o.dst (zbd b (zzi q))=S')
 (k:zcq IT Tryd.prog W ops Q l S' σ):zcq IT Tryd.prog W ops Q (o::l) S σ:=by
 obtain⟨j,m,rfl,hm⟩:=qhm h
 have hpos:0<m.length:=List.length_pos_iff.2 hm
 have hsz:zdk Tryd.prog 3=some 1:=by kernel_rfl
 have hN:zfk (some (j,m))=m:=rfl
 rw[hN] at hi
 rcases Nat.lt_or_ge 1 m.length with h1|h1
 ·have:=q_bslH (P:=Tryd.prog) (ρ:=zcc S) (σ:=σ) (α:=Int) (g:=(by omega:0<((m.length:Int)-1)∧((m.length:Int)-1)≤(m.length:Int))) ho hx hi qhz hsz
  have e:((m.length:Int)-1).toNat=m.length-1:=by omega
  rw[e,Bool.false_and] at this
  refine zhw (a:=zbd b (zzi (some (j,m)))) hg hc hy (zbb ?_) hS k
  rw[popA h,hN];exact this
 ·have e1:m.length=1:=by omega
  refine z8k (a:=zbd b (zzi (some (j,m)))) (σ'':=σ) hg hc hy ?_ hS rfl k
  rw[popA h,hN,e1]
  have hi':zcc S i= .raw (.int .i64 0):=by rw[hi,e1];rfl
  simp only[zvw,ho,hx,zbd,zvi,Option.map_some,hi',Option.isNone_none,Option.isNone_some,Bool.and_true,Bool.true_and,Bool.and_false,Bool.false_and,e1]
  have hp:aPop Tryd.prog σ 57 (.bsl b 0 1 1 false) (some (.raw (.int .i64 0))) true=some (.bsl b 0 0 1 false,σ):=by
   simp only[aPop,qhz,hsz,and_self,if_true]
  simp only[hp]
  rfl
end
theorem zay {σ σ':St} {m d:Nat} {js:List Nat} {t0 t1:TypeId} {c0 c0' c1 c1':List AV} {rest bs':List (TypeId×List AV)} (hb:σ.boxes=(t0,c0)::(t1,c1)::rest)(h0:zaf m (kz σ.boxes m 2 [] js d) c0=c0')(h1:zaf m (kz σ.boxes m 2 [] js d) c1=c1')
 (h:(js.map fun j=>((σ.boxes[j]?).map fun b=>(b.1,zaf m (kz σ.boxes m 2 [] js d) b.2)).getD (0,[.bad]))=bs') (h2:{σ with boxes:=(t0,c0')::(t1,c1')::bs',lens:=σ.lens.take m,elems:=σ.elems.take m}=σ'):zer σ m 2 [] js d=σ':=by
 subst h2
 unfold zer zck
 rw[h]
 have e:(σ.boxes.take 2)=[(t0,c0),(t1,c1)]:=by rw[hb];rfl
 rw[e]
 simp only[List.mapIdx_cons,List.mapIdx_nil,List.contains_nil,Bool.false_eq_true,if_false,h0,h1,List.cons_append,List.nil_append]
theorem zxi {σ:St} {m d:Nat} {js:List Nat} {t0 t1:TypeId} {c0 c0' c1 c1':List AV} {rest bs':List (TypeId×List AV)} (hb:σ.boxes=(t0,c0)::(t1,c1)::rest)(h0:zaf m (kz σ.boxes m 2 [] js d) c0=c0')(h1:zaf m (kz σ.boxes m 2 [] js d) c1=c1')
 (h:(js.map fun j=>((σ.boxes[j]?).map fun b=>(b.1,zaf m (kz σ.boxes m 2 [] js d) b.2)).getD (0,[.bad]))=bs'):zck σ.boxes m 2 [] js d=(t0,c0')::(t1,c1')::bs':=
 congrArg St.boxes (zay (σ:=σ) (m:=m) (d:=d) (js:=js) hb h0 h1 h rfl)
theorem w_seqC {IT:IterP} {P:Program} {W:Owed} {k0 id:Nat} {ops:Array Oper} {y:Code} {Q:AQ} {S:List AV} {σ:St} (h:zqt IT P W ops (fun S σ=>awp IT P W k0 y Q S σ) ops.size (Array.replicate ops.size false) S σ):awp IT P W k0 (.seq (.region id ops true) y) Q S σ:=
 .inl (.inr (.inr (.inl (zgq (fun S σ hw=>⟨S,σ,Wk.refl _ _ _,hw⟩) _ _ _ _ h))))
theorem wk_pop {n0:Nat} {S S':List AV} {σ σ1 σ':St} {q:Stk} (h:zfk q≠[])(hb:σ.boxes[2]? =some (zm q))(h1:σ1={σ with boxes:=σ.boxes.set 2 (zm (zzi q))})(k:Wk n0 S σ1 S' σ'):Wk n0 S σ S' σ':=by
 obtain⟨e1,e2⟩:=qaw h
 refine .step (.inr (.inr (.inr (.inl ⟨2,max 1 ((zfk q).length-1),(zm q).1,(zm q).2,hb,Fg.refl _,?_⟩)))) k
 rw[h1,←e1,←e2]
theorem zgc {fn:Func} {S:List AV} {σ:St} {q:Stk} {a v:AV} {r':Rd} (js:List Nat)(d:Nat)(ha:zba Tryd.prog fn σ S=some a)(hok:zdc σ 2 js=true)(hv:zhc 0 (kz σ.boxes 0 2 [] js d) a=v)(hσ:zer σ 0 2 [] js d=rdS q r'):qhu Tryd.prog fn q v r' .ret S σ:=⟨a,ha,js,d,hok,hv,hσ⟩
theorem qbk {fn:Func} {S:List AV} {σ:St} {q:Stk} {a v:AV} {r':Rd} (js:List Nat)(d:Nat)(ha:zba Tryd.prog fn σ S=some a)(hok:zdc σ 2 js=true)(hv:zhc 0 (kz σ.boxes 0 2 [] js d) a=v)(hσ:zer σ 0 2 [] js d=rdS q r'):qhu Tryd.prog fn q v r' .normal S σ:=⟨a,ha,js,d,hok,hv,hσ⟩
end Go.Ab
