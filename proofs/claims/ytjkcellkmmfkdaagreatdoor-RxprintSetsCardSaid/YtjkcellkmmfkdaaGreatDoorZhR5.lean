import Derived.Test.YtjkcellkmmfkdaaGreatDoorZhRd
import Derived.Test.YtjkcellkmmfkdaaGreatDoorZhDa
set_option linter.all false
set_option maxRecDepth 100000
set_option maxHeartbeats 4000000
open Sum (inl inr)
open Nat (le_refl zero_add le_of_ble_eq_true)
open Option (map_some)
open List (length length_cons length_nil cons_append nil_append)
open Go.Proofs.Tryz (prog)
namespace Go.Ab
open Go Go.RowKit Go.Fwd
variable {P:Program}
def aendGR (P:Program)(fn:Func)(n:Nat)(q:Stk)(r':Rd):AQ
 | .exit _,_,_=>False
 |_,S,U=>(∃a,zar P fn U S=some a)/\ (U.stop=true \/(U.out=n/\ ∃js d,zcs U 2 js=true/\ zby U.boxes U.lens.length 2 [] js d=rdB 2 q r'))
def RdIt (P:Program)(g:FuncId)(r:Rd)(rows:List (List AV))(r':Rd):Prop:=
 (∀q,r.q=some q->z7u P g [.iptr [.ptr 0 0]] [(tyR,rdC 1 r),zj r.q] rows (rdB 2 r.q r'))/\ (r.q=none->z7u P g [.iptr [.ptr 0 0]] [(tyR,rdC 1 r)] rows [(tyR,rdC 1 r'),zj r'.q])
theorem ztq: ∀l:List Int,zgp (Enc.cellsL l)=true
 |[]=>rfl
 |i::l=>by rw[Enc.cons];show zgp (AV.raw _::Enc.cellsL l)=true;rw[zgp,ztq l];rfl
theorem z4a (q:Stk):zgp (zj q).2=true:=by
 cases q with
 |none=>rfl
 |some q=>exact ztq _
theorem z3t (k:Nat)(r:Rd):zgp (rdC k r)=true:=by
 obtain⟨s,a,e,q⟩:=r;cases q<;>rfl
theorem z0c {m:Nat} {g:FZ} {fn:Func} {l:Nat} (hg:g.1 0 0= .ptr 0 0):zv m g (zad fn [.yld l,.iptr [.ptr 0 0]])=zad fn [.yld l,.iptr [.ptr 0 0]]:=by
 unfold zad;rw[cons_append,cons_append,nil_append,zv,zv,zgv,zgv,zv,zv,zgv,hg,zam m g _ (zze _)]
theorem qgu (hmix:P.follows .mixedOrders=true) {g:FuncId} {fn:Func} {c:Code} {r r':Rd} {rows:List (List AV)} (hf:P.funcs[g]? =some fn)(hb:fn.body=some c)
 (h: ∀G:Gen,G.rows=rows-> ∀k0,k0<=2->awp (ITP P) P (some G) k0 c (aendGR P fn rows.length r.q r') (zad fn [.yld G.l,.iptr [.ptr 0 0]]) (rdS r.q r)):RdIt P g r rows r':=by
 have hfl:(rdB 2 r.q r').all (fun b=>zgp b.2)=true:=by
  simp only[rdB,List.all_cons,List.all_nil,z3t,z4a,zgp,Bool.and_self]
 refine⟨fun q hq=>z0t hmix hf hb fun G hG=>⟨_,rdS r.q r,z8z 1 (t:=(zj r.q).1) (cs:=(zj r.q).2) rfl (z0c rfl) (mv_rd r).symm,zcb c (fun e S U hq=> ?_) _ _ (h G hG 2 (le_refl _))⟩,fun hq=>z0t hmix hf hb fun G hG=>⟨zad fn [.yld G.l,.iptr [.ptr 0 0]],rdS r.q r,?_,zcb c (fun e S U hq=> ?_) _ _ (h G hG 1 (by omega))⟩⟩
 ·have key:(∃a,zar P fn U S=some a)/\ (U.stop=true \/(U.out=rows.length/\ ∃js d,zcs U 2 js=true/\ zby U.boxes U.lens.length 2 [] js d=rdB 2 r.q r'))->(∃a,zar P fn U S=some a)/\ (U.stop=true \/(U.out=rows.length/\ ∃U',Wk 2 [] U [] U'/\ U'.boxes=rdB 2 r.q r'/\ ((rdB 2 r.q r').all fun b=>zgp b.2)=true)):=fun⟨h1,h2⟩=>⟨h1,h2.imp id fun⟨h3,js,d,h4,h5⟩=>⟨h3,zed U U.lens.length 2 [] js d,.one (.inr (.inl ⟨2,[],js,d,le_refl _,h4,trivial,rfl⟩)),h5,hfl⟩⟩;cases e with
  |exit id=>exact hq
  |normal=>exact key hq
  |ret=>exact key hq
 ·refine .step (S1:=zad fn [.yld G.l,.iptr [.ptr 0 0]]) (.inr (.inr (.inl ⟨0,tyR,rdC 1 r,rfl,Fg.refl _,rfl⟩))) (.one (.inr (.inr (.inl ⟨0,tyR,rdC 1 r,rfl,Fg.refl _,?_⟩))));show rdS r.q r=St.mk [(tyR,rdC 1 r),(tyR,[]),(tyR,[])] [] [] 0 false;unfold rdS rdB;rw[zla (k:=2) (k':=1) ‹r.q=none›, ‹r.q=none›];rfl
 ·have key:(∃a,zar P fn U S=some a)/\ (U.stop=true \/(U.out=rows.length/\ ∃js d,zcs U 2 js=true/\ zby U.boxes U.lens.length 2 [] js d=rdB 2 r.q r'))->(∃a,zar P fn U S=some a)/\ (U.stop=true \/(U.out=rows.length/\ ∃U',Wk 1 [] U [] U'/\ U'.boxes=[(tyR,rdC 1 r'),zj r'.q]/\ ([(tyR,rdC 1 r'),zj r'.q].all fun b=>zgp b.2)=true)):=fun⟨h1,h2⟩=>⟨h1,h2.imp id fun⟨h3,js,d,h4,h5⟩=>by
   obtain⟨U1,hσ1⟩: ∃U1,zed U U.lens.length 2 [] js d=U1:=⟨_,rfl⟩;have hb1:U1.boxes=rdB 2 r.q r':=by rw[<-hσ1];exact h5
   refine⟨h3,zed U1 U1.lens.length 1 [] [2] 0,.step (S1:=[]) (.inr (.inl ⟨2,[],js,d,by decide,h4,trivial,hσ1⟩)) (.one (.inr (.inl ⟨1,[],[2],0,le_refl _,?_,trivial,rfl⟩))),?_,?_⟩
   ·unfold zcs;rw[hb1];rfl
   ·show zby U1.boxes _ 1 [] [2] 0=_;rw[hb1]
    show[(tyR,zv _ _ (rdC 2 r')),((zj r'.q).1,zv _ _ (zj r'.q).2)]=_
    rw[zo,zee (k':=1) r' fun n=>rfl]
   ·simp only[List.all_cons,List.all_nil,z3t,z4a,Bool.and_self]⟩
  cases e with
  |exit id=>exact hq
  |normal=>exact key hq
  |ret=>exact key hq
def zkq (hs:List Nat)(bx:List (TypeId×List AV))(k:Nat)(q0:Stk)(r':Rd)(U:St):St:=
 {U with boxes:=(U.boxes.mapIdx fun i b=>if i=0 then(tyR,rdC bx.length r') else if i=k then((zj q0).1,[]) else if hs.contains i=true then(bx[i]?).getD b else(b.1,zv U.lens.length (gz hs) b.2))++[zj r'.q]}
def z8x (hs:List Nat)(tm:TypeId)(τ:St):St:={τ with boxes:=τ.boxes.mapIdx fun i b=>if hs.contains i=true then(tm,[]) else(b.1,zv τ.lens.length (gz hs) b.2)}
theorem z3g {τ U:St} {k:Nat} {q:Stk} {r':Rd} {hs:List Nat} (hk:k≠0)(h1:τ.boxes[k]? =some (zj q))(hkh:hs.contains k=true):
 (q≠none->zhu [0,k] hs (rdB 2 q r') τ.boxes U=zkq hs τ.boxes k q r' U)/\ (q=none->zhu [0] hs [(tyR,rdC 1 r'),zj r'.q] τ.boxes U=zkq hs τ.boxes k q r' U):=by
 have hX: ∀n js,((zj r'.q).1,zv 0 (fwz js n) (zj r'.q).2)=zj r'.q:=fun n js=>by rw[zo]
 refine⟨fun hq=> ?_,fun hq=> ?_⟩
 ·unfold zhu zkq;congr 1
  have e2:((rdB 2 q r').drop [0,k].length).map (fun c=>(c.1,zv 0 (fwz [0,k] τ.boxes.length) c.2))=[zj r'.q]:=by
   show[((zj r'.q).1,zv 0 _ (zj r'.q).2)]=_
   rw[hX]
  rw[e2];congr 1
  apply List.ext_getElem?;intro i;simp only[List.getElem?_mapIdx];cases hb:U.boxes[i]? with
  |none=>rfl
  | some b=>
   simp only[map_some,Option.some.injEq];by_cases e0:i=0
   ·subst e0;simp only[if_pos rfl];rw[if_pos (by simp)];have:[0,k].idxOf 0=0:=by simp
    rw[this]
    show(tyR,zv 0 _ (rdC 2 r'))=_
    rw[zee (k':=τ.boxes.length) r' fun n=>rfl,if_pos trivial]
   ·by_cases ek:i=k
    ·subst ek;rw[if_pos (by simp),if_neg e0,if_pos rfl];have:[0,i].idxOf i=1:=by
      have:(0==i)=false:=by simpa using Ne.symm e0
      simp[List.idxOf_cons,this]
     rw[this];rfl
    ·rw[if_neg (by simp[e0,ek]),if_neg e0,if_neg ek]
 ·unfold zhu zkq;congr 1
  have e2:([(tyR,rdC 1 r'),zj r'.q].drop [0].length).map (fun c=>(c.1,zv 0 (fwz [0] τ.boxes.length) c.2))=[zj r'.q]:=by
   show[((zj r'.q).1,zv 0 _ (zj r'.q).2)]=_
   rw[hX]
  rw[e2];congr 1
  apply List.ext_getElem?;intro i;simp only[List.getElem?_mapIdx];cases hb:U.boxes[i]? with
  |none=>rfl
  | some b=>
   simp only[map_some,Option.some.injEq];by_cases e0:i=0
   ·subst e0;simp only[if_pos rfl];rw[if_pos (by simp)]
    show(tyR,zv 0 _ (rdC 1 r'))=_
    rw[zee (k':=τ.boxes.length) r' fun n=>rfl,if_pos trivial]
   ·by_cases ek:i=k
    ·subst ek;rw[if_neg (by simp[e0]),if_pos hkh,if_neg e0,if_pos rfl,h1,hq];rfl
    ·rw[if_neg (by simp[e0]),if_neg e0,if_neg ek]
theorem z9u {k0:Nat} {f:Operand} {ps:Array Tmp} {asg body:Code} {Q:AQ} {S S':List AV} {τ:St} {α β ρ:Type} {FB:β->α->Option (β ⊕ ρ)} {xs:List α} {s0:β} {K:β->Option ρ} {rr:ρ} (h:zdg (zcu FB xs s0) K=some rr)(row:α->List AV)(D:β->St)(k m:Nat)(hs:List Nat) {g:Nat} {r r':Rd} {tm:TypeId} {Cm:List AV}
 (hit:RdIt P g r (xs.map row) r') (hent:Ent P g) (hf:zbv S f= .clos g [.iptr [.ptr 0 0]]) (hk:k≠0) (h0:τ.boxes[0]? =some (tyR,rdC k r)) (h1:τ.boxes[k]? =some (zj r.q)) (hh0:hs.contains 0=true) (hhk:hs.contains k=true)
 (hd: ∀(i:Nat) (t:TypeId),τ.boxes[i]? =some (t,[])->hs.contains i=true) (hm:hs.contains m=false) (hbm:τ.boxes[m]? =some (tm,Cm)) (hfg:Fg (zv τ.lens.length (gz hs) S) S')
 (hl: ∀x,(row x).length=ps.size) (hna:zcg asg=true) (hD:z8x hs tm τ=D s0)
 (zhn: ∀s x p,FB s x=some p->awp (ITP P) P none τ.boxes.length asg (z0a (fun S1 U1=>awp (ITP P) P none U1.boxes.length body (z5d S' τ.boxes.length D p rr (fun e _ U=>match e with| .normal=>Q .normal S (zkq hs τ.boxes k r.q r' U)|_=>False)) S1 U1)) (zix S' ps (row x)) (D s))
 (he: ∀s,K s=some rr->Q .normal S (zkq hs τ.boxes k r.q r' (D s))):awp (ITP P) P none k0 (.rangeFunc f ps asg body) Q S τ:=by
 obtain⟨b1,b2⟩:=z3g (U:=τ) (r':=r') hk h1 hhk;cases hq:r.q with
 | some q=>
  have hbk: ∀U,zhu [0,k] hs (rdB 2 r.q r') τ.boxes U=zkq hs τ.boxes k r.q r' U:=fun U=>(z3g (U:=U) (r':=r') hk h1 hhk).1 (by rw[hq];simp);have hQ:qbq Q S [0,k] hs (rdB 2 r.q r') τ.boxes=(fun e _ U=>match e with| .normal=>Q .normal S (zkq hs τ.boxes k r.q r' U)|_=>False):=by
   funext e S1 U
   cases e with
   |normal=>exact congrArg (Q .normal S) (hbk U)
   |exit id=>rfl
   |ret=>rfl
  have ik:[0,k].idxOf k=1:=by
   have:(0==k)=false:=by simpa using Ne.symm hk
   simp[List.idxOf_cons,this]
  refine z5m (U1:=z8x hs tm τ) h row D [0,k] hs m rfl (hit.1 q hq) hent hf ?_ ⟨by simp;exact Ne.symm hk,rfl,?_,by simp only[List.all_cons,List.all_nil,hh0,hhk];rfl,hd,hm,tm,Cm,hbm,rfl⟩ hfg ?_ hl hna hD (by rw[hQ];exact zhn) (fun s hs'=>by rw[hbk];exact he s hs')
  ·rfl
  ·intro i t cs hi
   match i,hi with
   |0,hi=>cases hi;exact⟨rdC k r,h0,zee r fun n=>by show(if[0,k].contains k then AV.bsl ([0,k].idxOf k) 0 n 1 false else .top)=_;simp[ik],by simp[rdC]⟩
   | 1,hi=>
    have hi:some (zj r.q)=some (t,cs):=hi;cases hi':zj r.q with
    | mk t' c'=>
     rw[hi'] at hi;cases hi;refine⟨cs,by rw[<-hi'];exact h1,?_,?_⟩
     ·have:=zo 0 (bwz [0,k]) r.q;rw[hi'] at this;exact this
     ·have:=zya q;rw[<-hq,hi'] at this;exact this
   |i+2,hi=>cases hi
  ·intro i t cs hi
   match i,hi with
   |0,hi=>cases hi;exact⟨_,rfl⟩
   | 1,hi=>
    have hi:some (zj r.q)=some (t,cs):=hi;injection hi with hi
    exact⟨[],by show some ((zj r.q).1,[])=_;rw[hi]⟩
   |i+2,hi=>cases hi
 | none=>
  have hbk: ∀U,zhu [0] hs [(tyR,rdC 1 r'),zj r'.q] τ.boxes U=zkq hs τ.boxes k r.q r' U:=fun U=>(z3g (U:=U) (r':=r') hk h1 hhk).2 hq;have hQ:qbq Q S [0] hs [(tyR,rdC 1 r'),zj r'.q] τ.boxes=(fun e _ U=>match e with| .normal=>Q .normal S (zkq hs τ.boxes k r.q r' U)|_=>False):=by
   funext e S1 U
   cases e with
   |normal=>exact congrArg (Q .normal S) (hbk U)
   |exit id=>rfl
   |ret=>rfl
  refine z5m (U1:=z8x hs tm τ) h row D [0] hs m rfl (hit.2 hq) hent hf rfl ⟨by simp,rfl,?_,by simp only[List.all_cons,List.all_nil,hh0];rfl,hd,hm,tm,Cm,hbm,rfl⟩ hfg ?_ hl hna hD (by rw[hQ];exact zhn) (fun s hs'=>by rw[hbk];exact he s hs')
  ·intro i t cs hi
   match i,hi with
   |0,hi=>cases hi;exact⟨rdC k r,h0,by rw[zla (k:=k) (k':=0) hq,zee (k':=0) r fun n=>rfl];exact zla hq,by simp[rdC]⟩
   |i+1,hi=>cases hi
  ·intro i t cs hi
   match i,hi with
   |0,hi=>cases hi;exact⟨_,rfl⟩
   |i+1,hi=>cases hi
end Go.Ab
namespace Go.Ab
open Go Go.RowKit Go.Fwd Go.Proofs
variable {b' d:Nat} {g:FZ} {y:Operand} {IT:IterP} {ops:Array Oper} {S S' c0 c0' c1 c1':List AV} {U':St} {r':Rd}
theorem zer {m b:Nat} {q:Stk} (h: ∀n,g.2 b 0 n 1= .bsl b' 0 n 1 false):zgv m g (zbb b q)=zbb b' q:=by
 cases q with
 |none=>rfl
 |some q=>simp only[zbb,zgv,h]
theorem zld {m b:Nat} {q:Stk} {x y z:Value} (h: ∀n,g.2 b 0 n 1= .bsl b' 0 n 1 false):zv m g [.raw x,.raw y,.raw z,zbb b q]=[.raw x,.raw y,.raw z,zbb b' q]:=
 zf (zn _ _ _ rfl) (zf (zn _ _ _ rfl) (zf (zn _ _ _ rfl) (zf (zer h) zk)))
def zhy (q:Stk)(a:Int):Stk:=some (0,zel q++[a])
def z0b:Stk->Stk
 |none=>none
 |some (_,[])=>none
 |some (_,[a])=>some (a,[])
 |some (j,a::b::l)=>some (j,(a::b::l).dropLast)
theorem z6p (q:Stk)(a:Int):(zj (zhy q a)).2=Enc.cellsL (zel q++[a]):=by
 show Enc.cellsL (stkL (some (0,zel q++[a])))=_;cases h:zel q++[a] with
 |nil=>simp at h
 |cons b l=>rfl
section
variable {P:Program} {ρ:Operand->AV} {U:St} {o:Oper}
theorem zul {x:Operand} {b k:Nat} {t0:TypeId} {c0 c1 c2 c3:AV} {q:Stk} (ho:o.op= .store 37 x y)(hx:ρ x= .ptr b 3)(hy:ρ y=zbb k q)(hb:U.boxes[b]? =some (t0,[c0,c1,c2,c3])):
 aop prog ρ U o=some (.raw undef,{U with boxes:=U.boxes.set b (t0,[c0,c1,c2,zbb k q])}):=by
 have hs:(cellsOf (zbb k q)).length=1:=by cases q<;>rfl
 rw[zcr (n:=1) ho hx hy hb (by kernel_rfl) ⟨by cases q<;>rfl,hs,by simp,by decide⟩];cases q<;>rfl
theorem qep:prog.underlying 37=some (.slice 3):=by kernel_rfl
theorem zgk {x:Operand} {b:Nat} {q:Stk} (ho:o.op= .call ⟨.builtin .len, #[x], #[37]⟩)(hx:ρ x=zbb b q):qop prog ρ U o=some (.raw (.int .i64 ((zel q).length:Int))):=by
 have h1:qef prog 37 (zbb b q)=some (.raw (.int .i64 ((zel q).length:Int))):=by
  cases q<;>simp[qef,qep,zbb,zel]
 simp only[qop,ho,hx,h1]
theorem qgl {x i:Operand} {b:Nat} {j:Int} {l:List Int} {k:Int} (g:0<=k/\ k<(l.length:Int))(ho:o.op= .indexAddr 37 x i)(hx:ρ x=zbb b (some (j,l)))(hi:ρ i= .raw (.int .i64 k)):qop prog ρ U o=some (.ptr b (0+k.toNat*1)):=by
 exact qdn (α:=Int) g ho hx hi qep (by kernel_rfl)
theorem qfn {q:Stk} (h:zel q≠[]): ∃j l,q=some (j,l)/\ l≠[]:=by
 cases q with
 |none=>exact absurd rfl h
 |some q=>exact⟨q.1,q.2,rfl,h⟩
theorem z9q {q:Stk} (h:zel q≠[]):(zj (z0b q)).2=(zj q).2.take (max 1 ((zel q).length-1))/\ (zj (z0b q)).1=(zj q).1:=by
 match q,h with
 |none,h=>exact absurd rfl h
 |some (_,[]),h=>exact absurd rfl h
 |some (_,[a]),_=>exact⟨rfl,rfl⟩
 | some (j,a::b::l),_=>
  refine⟨?_,rfl⟩;show Enc.cellsL (stkL (some (j,(a::b::l).dropLast)))=(Enc.cellsL (a::b::l)).take (max 1 ((a::b::l).length-1));have e:stkL (some (j,(a::b::l).dropLast))=(a::b::l).dropLast:=rfl;rw[e,List.dropLast_eq_take];have:=Enc.take (a::b::l) (max 1 ((a::b::l).length-1));rw[show Enc.sz Int=1 from rfl,Nat.mul_one] at this;have e2:max 1 ((a::b::l).length-1)=(a::b::l).length-1:=by simp only[length_cons];omega
  rw[e2] at this⊢;exact this.symm
theorem popA {q:Stk} {b:Nat} (h:zel q≠[]):zbb b (z0b q)= .bsl b 0 ((zel q).length-1) 1 false:=by
 match q,h with
 |none,h=>exact absurd rfl h
 |some (_,[]),h=>exact absurd rfl h
 |some (_,[a]),_=>rfl
 | some (j,a::b'::l),_=>
  show AV.bsl b 0 ((a::b'::l).dropLast).length 1 false=_;rw[List.length_dropLast];rfl
theorem qcf {c:Call} {x:Operand} {b:Nat} {q:Stk} {a:Int} {st:Room} (h:(zel q).length<2^40)(ho:o.op= .call c)(hc:c.callee= .builtin .append)(ha:c.args.toList=[x,y])(ht:c.argTypes.toList=[37,37])
 (hx:ρ x=zbb b q) (hy:ρ y= .list 1 (Enc.cellsL [a]) st) (hb:U.boxes[b]? =some (zj q)):
 zvc prog ρ U o=some (zbb U.boxes.length (zhy q a),{U with boxes:=(U.boxes.set b ((zj q).1,[]))++[zj (zhy q a)]}):=by
 have hu:prog.underlying 37=some (.slice 3):=by kernel_rfl
 have key:(prog.info? 3).map (fun i=>(i.size,i.bytes,i.zero.map fun z=>z.cells.size))=some (1,8,some 1):=by kernel_rfl
 obtain⟨i,hi,⟨z,hz,hzc⟩,hsz,hby⟩: ∃i,prog.info? 3=some i/\ (∃z,i.zero=some z/\ z.cells.size=1)/\ i.size=1/\ i.bytes=8:=by
  cases hi:prog.info? 3 with
  |none=>rw[hi] at key;cases key
  | some i=>
   rw[hi] at key;simp only[map_some,Option.some.injEq,Prod.mk.injEq] at key;obtain⟨k1,k2,k3⟩:=key;cases hz:i.zero with
   |none=>rw[hz] at k3;cases k3
   |some z=>rw[hz] at k3;exact⟨i,rfl,⟨z,hz,by simpa using k3⟩,k1,k2⟩
 have hsrc: ∀S,qae prog S 1 37 37 (.list 1 (Enc.cellsL [a]) st)=some (1,Enc.cellsL [a]):=fun S=>by
  simp only[qae];rfl
 have hnn:zta (zbb b q)=false:=by cases q<;>rfl
 have hcells:=z6p q a;cases q with
 | none=>
  have hset:U.boxes.set b (tyR,[])=U.boxes:=by
   apply List.ext_getElem?;intro j;rw[List.getElem?_set];split
   ·rename_i e;subst e;have:=(List.getElem?_eq_some_iff.1 hb).1;rw[if_pos this,hb];rfl
   ·rfl
  simp only[zvc,ho,hc,ha,ht,hx,hy,hnn,Bool.false_eq_true,if_false];simp only[zbb,zoz,hu,hi,hz,hsz,hsrc];rw[if_pos ⟨by decide,hzc,by decide⟩];rw[if_pos ⟨by simp,by decide,by rw[hby];decide⟩];show some _=some (_,{U with boxes:=U.boxes.set b (tyR,[])++_});rw[hset];rfl
 | some q=>
  obtain⟨j,l⟩:=q;simp only[zvc,ho,hc,ha,ht,hx,hy,hnn,Bool.false_eq_true,if_false];have hlen:(zel (some (j,l))).length=l.length:=rfl;rw[hlen] at h;cases l with
  | nil=>
   have hB:zoz prog U 37 37 (zbb b (some (j,[]))) (.list 1 (Enc.cellsL [a]) st)=none:=by
    simp only[zbb,zoz,hu,hi,hz,hsz,hsrc,hb];rw[if_pos ⟨by decide,hzc,by decide⟩,if_pos ⟨by simp,by simp[maxLen],by rw[hby];simp,by simp⟩];simp
   rw[hB];simp only[zbb,z8m,hu,hi,hz,hsz,hsrc,hb];rw[if_neg (by decide),if_pos (by refine⟨by simp,by decide,hzc,by decide,by rw[hby];decide,by simp,by simp,rfl,?_,by simp⟩;simp[zj,stkL,Enc.cons,Enc.cells,Enc.nil])];rfl
  | cons c l=>
   have hB:zoz prog U 37 37 (zbb b (some (j,c::l))) (.list 1 (Enc.cellsL [a]) st)=some (.bsl U.boxes.length 0 ((c::l).length+1) 1 false,{U with boxes:=U.boxes.set b (3,[])++[(3,Enc.cellsL (c::l)++Enc.cellsL [a])]}):=by
    have hl:(Enc.cellsL (c::l)).length=(c::l).length:=by rw[Enc.lenL];exact Nat.mul_one _
    have hl':(zj (some (j,c::l))).2.length=(c::l).length:=hl;have hm:(c::l).length+1<=maxLen:=by
     have h6:140737488355328<=maxLen:=by decide
     omega
    simp only[zbb,zoz,hu,hi,hz,hsz,hsrc,hb,Bool.false_eq_true,if_false];rw[if_pos ⟨by decide,hzc,by decide⟩,if_pos ⟨by simp,hm,by rw[hby];omega,by rw[hl'];omega⟩,if_pos ⟨by simp,by rw[hl',Nat.mul_one],rfl,by simp⟩];rfl
   rw[hB];show some (_,{U with boxes:=_++[(3,_)]})=some (_,{U with boxes:=_++[(3,(zj (zhy (some (j,c::l)) a)).2)]});rw[hcells];have e1:Enc.cellsL (c::l)++Enc.cellsL [a]=Enc.cellsL (zel (some (j,c::l))++[a]):=(Enc.app _ _).symm;rw[e1];have e2:(c::l).length+1=(zel (some (j,c::l))++[a]).length:=by simp[zel]
   show some (AV.bsl _ 0 ((c::l).length+1) 1 false,_)=some (AV.bsl _ 0 (zel (some (j,c::l))++[a]).length 1 false,_);rw[e2];rfl
theorem w_pop {W:Owed} {Q:List AV->St->Prop} {l:List Oper} {x i:Operand} {b:Nat} {q:Stk} (h:zel q≠[])(hg:o.guard=none)(hc:zda S o=none)(hy:zdb S o=none)(ho:o.op= .slice 37 x none (some i) none)(hx:zbv S x=zbb b q)(hi:zbv S i= .raw (.int .i64 ((zel q).length-1:Int)))(hS:zi S o.dst (zbb b (z0b q))=S')
 (k:zca IT prog W ops Q l S' U):zca IT prog W ops Q (o::l) S U:=by
 obtain⟨j,m,rfl,hm⟩:=qfn h;have hpos:0<m.length:=List.length_pos_iff.2 hm;have hsz:zfa prog 3=some 1:=by kernel_rfl
 have hN:zel (some (j,m))=m:=rfl;rw[hN] at hi;rcases Nat.lt_or_ge 1 m.length with h1|h1
 ·have:=q_bslH (P:=prog) (ρ:=zbv S) (U:=U) (α:=Int) (g:=(by omega:0<((m.length:Int)-1)/\ ((m.length:Int)-1)<=(m.length:Int))) ho hx hi qep hsz;have e:((m.length:Int)-1).toNat=m.length-1:=by omega
  rw[e,Bool.false_and] at this;refine zay (a:=zbb b (z0b (some (j,m)))) hg hc hy (zbf ?_) hS k;rw[popA h,hN];exact this
 ·have e1:m.length=1:=by omega
  refine z7f (a:=zbb b (z0b (some (j,m)))) (U'':=U) hg hc hy ?_ hS rfl k;rw[popA h,hN,e1];have hi':zbv S i= .raw (.int .i64 0):=by rw[hi,e1];rfl
  simp only[zvc,ho,hx,zbb,zuk,map_some,hi',Option.isNone_none,Option.isNone_some,Bool.and_true,Bool.true_and,Bool.and_false,Bool.false_and,e1];have hp:aPop prog U 37 (.bsl b 0 1 1 false) (some (.raw (.int .i64 0))) true=some (.bsl b 0 0 1 false,U):=by
   simp only[aPop,qep,hsz,and_self,if_true]
  simp only[hp];rfl
end
theorem zap {U:St} {m:Nat} {js:List Nat} {t0 t1:TypeId} {rest bs':List (TypeId×List AV)} (hb:U.boxes=(t0,c0)::(t1,c1)::rest)(h0:zv m (kz U.boxes m 2 [] js d) c0=c0')(h1:zv m (kz U.boxes m 2 [] js d) c1=c1')
 (h:(js.map fun j=>((U.boxes[j]?).map fun b=>(b.1,zv m (kz U.boxes m 2 [] js d) b.2)).getD (0,[.bad]))=bs') (h2:{U with boxes:=(t0,c0')::(t1,c1')::bs',lens:=U.lens.take m,elems:=U.elems.take m}=U'):zed U m 2 [] js d=U':=by
 subst h2;unfold zed zby
 rw[h];have e:(U.boxes.take 2)=[(t0,c0),(t1,c1)]:=by rw[hb];rfl
 rw[e];simp only[List.mapIdx_cons,List.mapIdx_nil,List.contains_nil,Bool.false_eq_true,if_false,h0,h1,cons_append,nil_append]
theorem zvl {U:St} {m:Nat} {js:List Nat} {t0 t1:TypeId} {rest bs':List (TypeId×List AV)} (hb:U.boxes=(t0,c0)::(t1,c1)::rest)(h0:zv m (kz U.boxes m 2 [] js d) c0=c0')(h1:zv m (kz U.boxes m 2 [] js d) c1=c1')
 (h:(js.map fun j=>((U.boxes[j]?).map fun b=>(b.1,zv m (kz U.boxes m 2 [] js d) b.2)).getD (0,[.bad]))=bs'):zby U.boxes m 2 [] js d=(t0,c0')::(t1,c1')::bs':=
 congrArg St.boxes (zap (U:=U) (m:=m) (d:=d) (js:=js) hb h0 h1 h rfl)
theorem w_seqC {P:Program} {W:Owed} {k0 id:Nat} {y:Code} {Q:AQ} {U:St} (h:zqc IT P W ops (fun S U=>awp IT P W k0 y Q S U) ops.size (Array.replicate ops.size false) S U):awp IT P W k0 (.seq (.region id ops true) y) Q S U:=
 .inl (.inr (.inr (.inl (zgc (fun S U hw=>⟨S,U,Wk.refl _ _ _,hw⟩) _ _ _ _ h))))
theorem wk_pop {n0:Nat} {U U1:St} {q:Stk} (h:zel q≠[])(hb:U.boxes[2]? =some (zj q))(h1:U1={U with boxes:=U.boxes.set 2 (zj (z0b q))})(k:Wk n0 S U1 S' U'):Wk n0 S U S' U':=by
 obtain⟨e1,e2⟩:=z9q h;refine .step (.inr (.inr (.inr (.inl ⟨2,max 1 ((zel q).length-1),(zj q).1,(zj q).2,hb,Fg.refl _,?_⟩)))) k;rw[h1, <-e1, <-e2]
theorem zfr {fn:Func} {U:St} {q:Stk} {a v:AV} (js:List Nat)(d:Nat)(ha:zar prog fn U S=some a)(hok:zcs U 2 js=true)(hv:zgv 0 (kz U.boxes 0 2 [] js d) a=v)(hσ:zed U 0 2 [] js d=rdS q r'):qhm prog fn q v r' .ret S U:=⟨a,ha,js,d,hok,hv,hσ⟩
theorem z8y {fn:Func} {U:St} {q:Stk} {a v:AV} (js:List Nat)(d:Nat)(ha:zar prog fn U S=some a)(hok:zcs U 2 js=true)(hv:zgv 0 (kz U.boxes 0 2 [] js d) a=v)(hσ:zed U 0 2 [] js d=rdS q r'):qhm prog fn q v r' .normal S U:=⟨a,ha,js,d,hok,hv,hσ⟩
end Go.Ab
namespace Go.Ab
open Go Go.RowKit Go.Fwd Go.Proofs
def zgl (at_:Int)(e:Int)(r:Rd):Option Rd:=
 (bif (r.e==0) then(some (Rd.mk r.s at_ e r.q)) else(some r))
theorem ent182:Ent prog 182:=enters_of Tryz.func182 (by kernel_rfl) rfl
theorem zky (at_:Int)(e:Int)(r:Rd)  (y:Rd)(h:zgl at_ e r=some y):RdC prog 182 [.raw (.int .i64 at_),.raw (.int .i64 e)] r (.tup []) y:=by
 obtain⟨d,hd⟩: ∃d,Tryz.f182.body=some d:=⟨_,rfl⟩;refine z7x mix Tryz.func182 hd ent182 (by first|rfl|exact(znc rfl (znc rfl rfl))) rfl (fun k0 hk0=> ?_);cases hd;unfold zgl at h;refine zav (by dsimp only[zad,Tryz.f182,length_cons,length_nil,zero_add,Nat.reduceAdd,Nat.reduceSub,List.replicate,cons_append,nil_append]) (show rdS r.q r=(.B [(110,[.s r.s,.i r.a,.i r.e,(zbb 2 r.q)]),((zj r.q).1,[]),((zj r.q).1,(zj r.q).2)]) from rfl) ?_;refine zx [.m _,.v (.ptr 0 0),.v (.ptr 0 2),.v (.i r.e),.v (.b (r.e==0))] ?_;refine zch h (fun hc1 h=> ?_) (fun hc1 h=> ?_);refine zb (k0:=k0) (id:=1) ?_;refine w_r [.m _,.m _,.m _,.m _,.v (.ptr 0 0)] ?_;refine w_r [.v (.ptr 0 1)] ?_;refine zoc (U'':=(.B [(110,[.s r.s,.i at_,.i r.e,(zbb 2 r.q)]),((zj r.q).1,[]),((zj r.q).1,(zj r.q).2)])) (h:=zcr (n:=1) rfl rfl rfl rfl rfl ⟨rfl,rfl,le_of_ble_eq_true rfl,by decide⟩) ?_;refine w_r [.v (.ptr 0 0),.v (.ptr 0 2)] ?_;refine zoc (U'':=(.B [(110,[.s r.s,.i at_,.i e,(zbb 2 r.q)]),((zj r.q).1,[]),((zj r.q).1,(zj r.q).2)])) (h:=zcr (n:=1) rfl rfl rfl rfl rfl ⟨rfl,rfl,le_of_ble_eq_true rfl,by decide⟩) ?_;have he1:=Option.some.inj h;subst he1;exact z8y [2] 1 rfl rfl (by rw[zgv];rfl) (zap rfl (zld fun _=>rfl) zk (zh rfl (zo _ _ _) zae) rfl);have he2:=Option.some.inj h;subst he2;exact z8y [2] 1 rfl rfl (by rw[zgv];rfl) (zap rfl (zld fun _=>rfl) zk (zh rfl (zo _ _ _) zae) rfl)
def zfm (r:Rd):Option (Int×Rd):=
 (bif (r.e !=0) then(some (0,r)) else(bif (decide (r.a>=(length r.s:Int))) then(some (0,r)) else(chk (0<=r.a/\ r.a<(length r.s:Int)) (zbl (ix r.s r.a) (fun x1=>(some ((((x1).toNat:Nat):Int),r)))))))
theorem ent108:Ent prog 108:=enters_of Tryz.func108 (by kernel_rfl) rfl
theorem zoq (r:Rd)  (y:Int×Rd)(h:zfm r=some y):RdC prog 108 [] r (.raw (.int .u8 y.1)) y.2:=by
 obtain⟨d,hd⟩: ∃d,Tryz.f108.body=some d:=⟨_,rfl⟩;refine z7x mix Tryz.func108 hd ent108 rfl (by first|rfl|exact rfl) (fun k0 hk0=> ?_);cases hd;unfold zfm at h;refine zav (by dsimp only[zad,Tryz.f108,length_cons,length_nil,zero_add,Nat.reduceAdd,Nat.reduceSub,List.replicate,cons_append,nil_append]) (show rdS r.q r=(.B [(110,[.s r.s,.i r.a,.i r.e,(zbb 2 r.q)]),((zj r.q).1,[]),((zj r.q).1,(zj r.q).2)]) from rfl) ?_;refine zx [.v (.u 0)] ?_;iterate 2 refine zm ?_
 refine zkk (k0:=k0) (id:=1) 15 (by kernel_rfl) (by kernel_rfl) ?_;refine zpu ?_;refine h_o (a:= .ptr 0 0) ?_;refine h_o (a:= .ptr 0 2) ?_;refine h_o (a:= .i r.e) ?_;refine h_o (a:= .b (r.e !=0)) ?_;refine zah h (fun hc1 h=> ?_) (fun hc1 h=> ?_);refine h_o (a:= .b true) (h:=zdf rfl hc1) ?_;iterate 9 refine zop ?_
 refine zlq ?_;refine w_r [.p,.v (.b true)] ?_;refine zdy rfl ?_;refine zx [.v (.u 0)] ?_;have he1:=Option.some.inj h;subst he1;exact zfr (a:= .u 0) [2] 1 rfl rfl (zn _ _ _ rfl) (zap rfl (zld fun _=>rfl) zk (zh rfl (zo _ _ _) zae) rfl);refine h_o (a:= .b false) (h:=zdf rfl hc1) ?_;refine zio rfl rfl ?_;refine zpu ?_;refine zio rfl rfl ?_;refine h_o (a:= .ptr 0 0) ?_;refine zio rfl rfl ?_;refine h_o (a:= .ptr 0 1) ?_;refine zio rfl rfl ?_;refine h_o (a:= .i r.a) ?_;refine zio rfl rfl ?_;refine zpu ?_;refine zio rfl rfl ?_;refine h_o (a:= .ptr 0 0) ?_;refine zio rfl rfl ?_;refine h_o (a:= .ptr 0 0) ?_;refine zio rfl rfl ?_;refine h_o (a:= .s r.s) ?_;refine zio rfl rfl ?_;refine h_o (a:= .i (length r.s:Int)) (h:=zdw rfl rfl rfl) ?_;refine zlq ?_;refine w_r [.v (.b (decide (r.a>=(length r.s:Int)))),.v (.b (decide (r.a>=(length r.s:Int))))] ?_;refine zch h (fun hc2 h=> ?_) (fun hc2 h=> ?_);refine zx [.v (.u 0)] ?_;have he2:=Option.some.inj h;subst he2;exact zfr (a:= .u 0) [2] 1 rfl rfl (zn _ _ _ rfl) (zap rfl (zld fun _=>rfl) zk (zh rfl (zo _ _ _) zae) rfl);refine zm ?_;refine zkk (k0:=k0) (id:=3) 8 (by kernel_rfl) (by kernel_rfl) ?_;refine zpu ?_;iterate 2 refine h_o (a:= .ptr 0 0) ?_
 refine h_o (a:= .s r.s) ?_;refine zpu ?_;refine h_o (a:= .ptr 0 0) ?_;refine h_o (a:= .ptr 0 1) ?_;refine h_o (a:= .i r.a) ?_;refine zlq ?_;obtain⟨g1,h⟩:=zt h;obtain⟨x1,hx1,h⟩:=zu h;refine w_o (a:= .u (((x1).toNat:Nat):Int)) (h:=zbf (by rw[<-hx1];exact(zds (l:=r.s) (n:=r.a) g1 rfl rfl rfl rfl))) ?_;refine zz ?_;have he3:=Option.some.inj h;subst he3;exact zfr (a:= .u (((x1).toNat:Nat):Int)) [2] 1 rfl rfl (zn _ _ _ rfl) (zap rfl (zld fun _=>rfl) zk (zh rfl (zo _ _ _) zae) rfl)
def zeb (fuel:Nat)(n:Tr)(r:Rd):Option (Tr×Rd):=
 (bif (r.e !=0) then(some (zbc,r)) else(chk (0<=r.a/\ r.a<=(length r.s:Int)/\ (length r.s:Int)<=(length r.s:Int)) (zbl (sub r.s r.a (length r.s:Int)) (fun x1=>(zaa (z2x fuel x1) (fun x2=>(bif (x2.2.2.2 !=0) then(chk (-9223372036854775808<=(r.a+x2.2.2.1)/\ (r.a+x2.2.2.1)<9223372036854775808) (zaa (zgl (r.a+x2.2.2.1) x2.2.2.2 r) (fun x3=>(some (zbc,x3))))) else(chk (-9223372036854775808<=(r.a+x2.2.2.1)/\ (r.a+x2.2.2.1)<9223372036854775808) (zdg (τ:=Rd) (bif (decide (x2.2.2.1>0)) then(zaa (zfm (Rd.mk r.s (r.a+x2.2.2.1) r.e r.q)) (fun x4=>(chk (0<=x4.1/\ x4.1<256) (zbl (Lib.indexByte ([42,43,63,123]:List UInt8) (zkx x4.1)) (fun x5=>(bif (decide (x5>=0)) then(zaa (zgl x4.2.a 92 x4.2) (fun x6=>(some (inl (x6))))) else(some (inl (x4.2))))))))) else(some (inl ((Rd.mk r.s (r.a+x2.2.2.1) r.e r.q))))) (fun j1=>(chk ((pre n).length<2^40) (zbl (zto n x2.1 x2.2.1) (fun x7=>(some (x7,j1)))))))))))))))
theorem ent154:Ent prog 154:=enters_of Tryz.func154 (by kernel_rfl) rfl
theorem zuv (fuel:Nat)(n:Tr)(r:Rd)  (y:Tr×Rd)(h:zeb fuel n r=some y):RdC Tryz.prog 154 [.A (n:Tr)] r (.A (y.1:Tr)) y.2:=by
 obtain⟨d,hd⟩: ∃d,Tryz.f154.body=some d:=⟨_,rfl⟩;refine z7x mix Tryz.func154 hd ent154 (by first|rfl|exact(znc (zp (Enc.clo _)) rfl)) (by first|rfl|exact(zp (Enc.clo _))) (fun k0 hk0=> ?_);cases hd;unfold zeb at h;refine zav (by dsimp only[zad,Tryz.f154,List.length_cons,List.length_nil,Nat.zero_add,Nat.reduceAdd,Nat.reduceSub,List.replicate,List.cons_append,List.nil_append]) (show rdS r.q r=(.B [(110,[.s r.s,.i r.a,.i r.e,(zbb 2 r.q)]),((zj r.q).1,[]),((zj r.q).1,(zj r.q).2)]) from rfl) ?_;refine zm (zb ?_);refine zdz (Enc.cells (n:Tr)) ?_;refine zdz zN ?_;refine zm ?_;refine zx [.m _,.v (.ptr 0 0),.v (.ptr 0 2),.v (.i r.e),.v (.b (r.e !=0))] ?_;refine zch h (fun hc1 h=> ?_) (fun hc1 h=> ?_);refine zm (zb ?_);refine zxr zbc ?_;refine zft 8 (Enc.cells (zbc:Tr)) ?_;have he1:=Option.some.inj h;subst he1;exact zfr (a:= .A (zbc:Tr)) [2] 1 rfl rfl (zn _ _ _ (zp (Enc.clo _))) (zap rfl (zld fun _=>rfl) zk (zh rfl (zo _ _ _) zae) rfl);refine zm ?_;refine zkk (k0:=k0) (id:=3) 18 (by kernel_rfl) (by kernel_rfl) ?_;refine zpu ?_;iterate 2 refine h_o (a:= .ptr 0 0) ?_
 refine h_o (a:= .s r.s) ?_;refine zpu ?_;refine h_o (a:= .ptr 0 0) ?_;refine h_o (a:= .ptr 0 1) ?_;refine h_o (a:= .i r.a) ?_;obtain⟨g1,h⟩:=zt h;obtain⟨x1,hx1,h⟩:=zu h;refine h_o (a:= .s x1) (h:=by rw[<-hx1];exact(zmf (l:=r.s) g1 rfl rfl rfl rfl)) ?_;obtain⟨x2,hx2,h⟩:=zr h;refine h_ck (qer fuel x1 x2 hx2) ?_;refine zpu ?_;iterate 4 refine h_ex ?_
 iterate 3 refine zpu ?_
 refine zlq ?_;refine zz ?_;refine zm ?_;refine zx [.m _,.v (.b (x2.2.2.2 !=0))] ?_;refine zch h (fun hc2 h=> ?_) (fun hc2 h=> ?_);refine zge (zb ?_);refine w_r [.m _,.m _,.v (.ptr 0 0),.v (.ptr 0 1),.v (.i r.a)] ?_;refine w_r [.m _] ?_;obtain⟨g2,h⟩:=zt h;refine zjv g2 ?_;refine zz ?_;obtain⟨x3,hx3,h⟩:=zr h;refine zgg (r:= .tup []) (U':=(.B [(110,[.s x3.s,.i x3.a,.i x3.e,(zbb 5 x3.q)]),((zj r.q).1,[]),((zj r.q).1,[]),(27,(Enc.cells (n:Tr))),(27,zN),((zj x3.q).1,(zj x3.q).2)])) ((zky (r.a+x2.2.2.1) x2.2.2.2 r x3 hx3) _ 2 (by decide) rfl rfl) rfl rfl ⟨rfl,rfl⟩ (by dsimp only[zi,List.set]) ?_;refine zih 68 [(4,.ptr 4 0)] (U':=(.B [(110,[.s x3.s,.i x3.a,.i x3.e,(zbb 2 x3.q)]),((zj r.q).1,[]),((zj x3.q).1,(zj x3.q).2),(27,(Enc.cells (n:Tr))),(27,zN)])) (wmk (bl 68 16) 2 [] [5,3,4] 1 hk0 (zap rfl (zld fun _=>rfl) zk (zh rfl (zo _ _ _) (zh rfl (zam _ _ _ (Enc.clo _)) (zh rfl rfl zae))) rfl)) ?_;refine zm (zb ?_);refine zxr zbc ?_;refine zft 8 (Enc.cells (zbc:Tr)) ?_;have he2:=Option.some.inj h;subst he2;exact zfr (a:= .A (zbc:Tr)) [2] 1 rfl rfl (zn _ _ _ (zp (Enc.clo _))) (zap rfl (zld fun _=>rfl) zk (zh rfl (zo _ _ _) zae) rfl);refine zx [.m _,.v (.ptr 0 0),.v (.ptr 0 1),.v (.i r.a),.m _] ?_;obtain⟨g3,h⟩:=zt h;refine zjv g3 ?_;refine w_r [.v (.ptr 0 0),.v (.ptr 0 1)] ?_;refine zoc (U'':=(.B [(110,[.s r.s,.i (r.a+x2.2.2.1),.i r.e,(zbb 2 r.q)]),((zj r.q).1,[]),((zj r.q).1,(zj r.q).2),(27,(Enc.cells (n:Tr))),(27,zN)])) (h:=zcr (n:=1) rfl rfl rfl rfl rfl ⟨rfl,rfl,Nat.le_of_ble_eq_true rfl,by decide⟩) ?_;refine zaz h (bz 0 68 295147905179352825735) (fun j1=>[]) (fun j1=>(.B [(110,[.s j1.s,.i j1.a,.i j1.e,(zbb 2 j1.q)]),((zj r.q).1,[]),((zj j1.q).1,(zj j1.q).2),(27,(Enc.cells (n:Tr))),(27,zN)])) ?_ ?_;intro or1 h hr1;refine zge (zb ?_);refine w_r [.m _,.v (.b (decide (x2.2.2.1>0)))] ?_;refine zah h (fun hc3 h=> ?_) (fun hc3 h=> ?_);refine zaw hc3 ?_;refine zaq rfl rfl ?_;refine zz ?_;refine zaq rfl rfl ?_;obtain⟨x4,hx4,h⟩:=zr h;refine zgg (r:= .u x4.1) (U':=(.B [(110,[.s x4.2.s,.i x4.2.a,.i x4.2.e,(zbb 5 x4.2.q)]),((zj r.q).1,[]),((zj r.q).1,[]),(27,(Enc.cells (n:Tr))),(27,zN),((zj x4.2.q).1,(zj x4.2.q).2)])) ((zoq (Rd.mk r.s (r.a+x2.2.2.1) r.e r.q) x4 hx4) _ 2 (by decide) rfl rfl) rfl rfl ⟨rfl,rfl⟩ (by dsimp only[zi,List.set]) ?_;refine zaq rfl rfl ?_;obtain⟨g4,h⟩:=zt h;obtain⟨x5,hx5,h⟩:=zu h;refine zdd (args':=[.s ([42,43,63,123]:List UInt8),.u x4.1]) (r:= .i x5) (by rw[<-hx5];exact(zrs ([42,43,63,123]:List UInt8) g4)) ?_;refine w_r [.v (.b (decide (x5>=0))),.v (.b (decide (x5>=0)))] ?_;refine zih 68 [(0,.ptr 0 0),(3,.ptr 3 0),(4,.ptr 4 0),(5,.i x2.1),(6,.i x2.2.1),(57,.b (decide (x5>=0)))] (U':=(.B [(110,[.s x4.2.s,.i x4.2.a,.i x4.2.e,(zbb 2 x4.2.q)]),((zj r.q).1,[]),((zj x4.2.q).1,(zj x4.2.q).2),(27,(Enc.cells (n:Tr))),(27,zN)])) (wmk (bl 68 144115188075855993) 2 [] [5,3,4] 1 hk0 (zap rfl (zld fun _=>rfl) zk (zh rfl (zo _ _ _) (zh rfl (zam _ _ _ (Enc.clo _)) (zh rfl rfl zae))) rfl)) ?_;refine zch h (fun hc4 h=> ?_) (fun hc4 h=> ?_);refine zb (k0:=k0) (id:=9) ?_;refine w_r [.m _,.m _,.v (.ptr 0 0),.v (.ptr 0 1),.v (.i x4.2.a)] ?_;obtain⟨x6,hx6,h⟩:=zr h;refine zgg (r:= .tup []) (U':=(.B [(110,[.s x6.s,.i x6.a,.i x6.e,(zbb 5 x6.q)]),((zj r.q).1,[]),((zj x4.2.q).1,[]),(27,(Enc.cells (n:Tr))),(27,zN),((zj x6.q).1,(zj x6.q).2)])) ((zky x4.2.a 92 x4.2 x6 hx6) _ 2 (by decide) rfl rfl) rfl rfl ⟨rfl,rfl⟩ (by dsimp only[zi,List.set]) ?_;refine zc (o:=or1) (x6) h ?_;exact(wmk (bl 68 120) 2 [] [5,3,4] 1 hk0 (zap rfl (zld fun _=>rfl) zk (zh rfl (zo _ _ _) (zh rfl (zam _ _ _ (Enc.clo _)) (zh rfl rfl zae))) rfl));refine zc (o:=or1) (x4.2) h ?_;exact zbp (bl 68 120);refine zaw hc3 ?_;refine w_r [.p,.p,.p,.p,.v (.b false)] ?_;refine z9b (Wk.refl _ _ _) ?_;refine zbz rfl ?_;refine zc (o:=or1) ((Rd.mk r.s (r.a+x2.2.2.1) r.e r.q)) h ?_;exact zbp (bl 68 120);intro j1 h;refine zeo ?_;refine zx [.v (.A (n:Tr)),.m _,.m _] ?_;obtain⟨g5,h⟩:=zt h;obtain⟨x7,hx7,h⟩:=zu h;refine zdd (args':=[.A (n:Tr),.i x2.1,.i x2.2.1]) (r:= .A (x7:Tr)) (by rw[<-hx7];exact(k_times n x2.1 x2.2.1 g5)) ?_;refine zng 8 (.B [(110,[.s j1.s,.i j1.a,.i j1.e,(zbb 2 j1.q)]),((zj r.q).1,[]),((zj j1.q).1,(zj j1.q).2),(27,(Enc.cells (n:Tr))),(27,(Enc.cells (x7:Tr)))]) ?_;have he3:=Option.some.inj h;subst he3;exact zfr (a:= .A (x7:Tr)) [2] 1 rfl rfl (zn _ _ _ (zp (Enc.clo _))) (zap rfl (zld fun _=>rfl) zk (zh rfl (zo _ _ _) zae) rfl)
end Go.Ab
namespace Go.Ab
open Go Go.RowKit Go.Fwd Go.Proofs
def zhs (fuel:Nat)(g:Int->Rd->Option (Tr×Rd))(r:Rd):Option (Tr×Rd):=
 (chk (0<=r.a/\ r.a<=(length r.s:Int)/\ (length r.s:Int)<=(length r.s:Int)) (zbl (sub r.s r.a (length r.s:Int)) (fun x1=>(zdg (τ:=Rd) (chk (0<=(0:Int)/\ (0:Int)<(length x1:Int)) (zbl (ix x1 (0:Int)) (fun x2=>(bif ((((x2).toNat:Nat):Int)==40) then(zbl (Lib.hasPrefix x1 ([40,63,58]:List UInt8)) (fun x3=>(bif x3 then(zaa (g 3 r) (fun x4=>(some (inr (x4.1,x4.2))))) else(zaa (g 1 r) (fun x5=>(chk ((pre x5.1).length<2^60) (zbl (znh x5.1) (fun x6=>(some (inr (x6,x5.2))))))))))) else(bif ((((x2).toNat:Nat):Int)==91) then(zaa (zci fuel x1) (fun x7=>(bif (x7.2.2 !=0) then(chk (-9223372036854775808<=(r.a+x7.2.1)/\ (r.a+x7.2.1)<9223372036854775808) (zaa (zgl (r.a+x7.2.1) x7.2.2 r) (fun x8=>(some (inr (zbc,x8)))))) else(chk (-9223372036854775808<=(r.a+x7.2.1)/\ (r.a+x7.2.1)<9223372036854775808) (zbl (ofT x7.1) (fun x9=>(some (inr (x9,(Rd.mk r.s (r.a+x7.2.1) r.e r.q)))))))))) else(bif ((((x2).toNat:Nat):Int)==46) then(chk (-9223372036854775808<=(r.a+1)/\ (r.a+1)<9223372036854775808) (zaa (zek fuel ([10]:List UInt8)) (fun x10=>(zbl (~~~x10) (fun x11=>(zbl (ofT x11) (fun x12=>(some (inr (x12,(Rd.mk r.s (r.a+1) r.e r.q))))))))))) else(zdg (τ:=Bool) (bif ((((x2).toNat:Nat):Int)==42) then(some (inl (((((x2).toNat:Nat):Int)==42)))) else(bif ((((x2).toNat:Nat):Int)==43) then(some (inl (((((x2).toNat:Nat):Int)==43)))) else(bif ((((x2).toNat:Nat):Int)==63) then(some (inl (((((x2).toNat:Nat):Int)==63)))) else(some (inl (((((x2).toNat:Nat):Int)==123))))))) (fun j2=>(bif j2 then(zaa (zgl r.a 92 r) (fun x13=>(some (inl (x13))))) else(zdg (τ:=Bool) (bif ((((x2).toNat:Nat):Int)==94) then(some (inl (((((x2).toNat:Nat):Int)==94)))) else(some (inl (((((x2).toNat:Nat):Int)==36))))) (fun j3=>(bif j3 then(zaa (zgl r.a 95 r) (fun x14=>(some (inl (x14))))) else(some (inl (r))))))))))))))) (fun j1=>(zbl (zgo x1) (fun x15=>(bif x15.2 then(chk (-9223372036854775808<=(j1.a+2)/\ (j1.a+2)<9223372036854775808) (zbl (ofT x15.1) (fun x16=>(some (x16,(Rd.mk j1.s (j1.a+2) j1.e j1.q)))))) else(zaa (zas x1 zbo) (fun x17=>(bif (x17.2.2 !=0) then(zaa (zgl j1.a 90 j1) (fun x18=>(some (zbc,x18)))) else(chk (-9223372036854775808<=(j1.a+x17.2.1)/\ (j1.a+x17.2.1)<9223372036854775808) (zaa (zlh fuel x17.1) (fun x19=>(some (x19,(Rd.mk j1.s (j1.a+x17.2.1) j1.e j1.q)))))))))))))))))
theorem ent155:Ent prog 155:=enters_of Tryz.func155 (by kernel_rfl) rfl
theorem atom_rd (fuel:Nat)(g:Int->Rd->Option (Tr×Rd))(r:Rd)(hg: ∀(k:Int)(r:Rd)(y:Tr×Rd),g k r=some y->RdC prog 184 [.raw (.int .i64 k)] r (.A y.1) y.2)(y:Tr×Rd)(h:zhs fuel g r=some y):RdC prog 155 [] r (.A (y.1:Tr)) y.2:=by
 obtain⟨d,hd⟩: ∃d,Tryz.f155.body=some d:=⟨_,rfl⟩;refine z7x mix Tryz.func155 hd ent155 rfl (by first|rfl|exact(zp (Enc.clo _))) (fun k0 hk0=> ?_);cases hd;unfold zhs at h;refine zav (by dsimp only[zad,Tryz.f155,length_cons,length_nil,zero_add,Nat.reduceAdd,Nat.reduceSub,List.replicate,cons_append,nil_append]) (show rdS r.q r=(.B [(110,[.s r.s,.i r.a,.i r.e,(zbb 2 r.q)]),((zj r.q).1,[]),((zj r.q).1,(zj r.q).2)]) from rfl) ?_;refine zm (zb ?_);refine zdz zN ?_;refine zm ?_;refine zkk (k0:=k0) (id:=1) 8 (by kernel_rfl) (by kernel_rfl) ?_;refine zpu ?_;iterate 2 refine h_o (a:= .ptr 0 0) ?_
 refine h_o (a:= .s r.s) ?_;refine zpu ?_;refine h_o (a:= .ptr 0 0) ?_;refine h_o (a:= .ptr 0 1) ?_;refine h_o (a:= .i r.a) ?_;refine zlq ?_;obtain⟨g1,h⟩:=zt h;obtain⟨x1,hx1,h⟩:=zu h;refine w_o (a:= .s x1) (h:=zbf (by rw[<-hx1];exact(zmf (l:=r.s) g1 rfl rfl rfl rfl))) ?_;refine zz ?_;refine zaz h (bz 0 136 87112285931760246646623899502532662132722) (fun j1=>[]) (fun j1=>(.B [(110,[.s j1.s,.i j1.a,.i j1.e,(zbb 2 j1.q)]),((zj r.q).1,[]),((zj j1.q).1,(zj j1.q).2),(27,zN)])) ?_ ?_;intro or1 h hr1;refine zx [.m _] ?_;obtain⟨g2,h⟩:=zt h;obtain⟨x2,hx2,h⟩:=zu h;refine w_o (a:= .u (((x2).toNat:Nat):Int)) (h:=zbf (by rw[<-hx2];exact(zds (l:=x1) (n:=(0:Int)) g2 rfl rfl rfl rfl))) ?_;refine zac ?_;refine zx [.v (.b ((((x2).toNat:Nat):Int)==40)),.m _] ?_;refine zch h (fun hc1 h=> ?_) (fun hc1 h=> ?_);refine zm ?_;refine zx [.m _] ?_;obtain⟨x3,hx3,h⟩:=zu h;refine zdd (args':=[.s x1,.s ([40,63,58]:List UInt8)]) (r:= .b x3) (by rw[<-hx3];exact(zmy x1 ([40,63,58]:List UInt8))) ?_;refine zch h (fun hc2 h=> ?_) (fun hc2 h=> ?_);refine zge (zb ?_);refine zz ?_;obtain⟨x4,hx4,h⟩:=zr h;refine zgg (r:= .A (x4.1:Tr)) (U':=(.B [(110,[.s x4.2.s,.i x4.2.a,.i x4.2.e,(zbb 4 x4.2.q)]),((zj r.q).1,[]),((zj r.q).1,[]),(27,zN),((zj x4.2.q).1,(zj x4.2.q).2)])) ((hg 3 r x4 hx4) _ 2 (by decide) rfl rfl) rfl rfl ⟨rfl,rfl⟩ (by dsimp only[zi,List.set]) ?_;refine zft 8 (Enc.cells (x4.1:Tr)) ?_;refine zih 136 [(2,.ptr 3 0)] (U':=(.B [(110,[.s x4.2.s,.i x4.2.a,.i x4.2.e,(zbb 2 x4.2.q)]),((zj r.q).1,[]),((zj x4.2.q).1,(zj x4.2.q).2),(27,(Enc.cells (x4.1:Tr)))])) (wmk (bl 136 4) 2 [] [4,3] 1 hk0 (zap rfl (zld fun _=>rfl) zk (zh rfl (zo _ _ _) (zh rfl (zam _ _ _ (Enc.clo _)) zae)) rfl)) ?_;replace h:=zax h hr1;have he1:=Option.some.inj h;subst he1;exact zfr (a:= .A (x4.1:Tr)) [2] 1 rfl rfl (zn _ _ _ (zp (Enc.clo _))) (zap rfl (zld fun _=>rfl) zk (zh rfl (zo _ _ _) zae) rfl);refine zge (zb ?_);refine zz ?_;obtain⟨x5,hx5,h⟩:=zr h;refine zgg (r:= .A (x5.1:Tr)) (U':=(.B [(110,[.s x5.2.s,.i x5.2.a,.i x5.2.e,(zbb 4 x5.2.q)]),((zj r.q).1,[]),((zj r.q).1,[]),(27,zN),((zj x5.2.q).1,(zj x5.2.q).2)])) ((hg 1 r x5 hx5) _ 2 (by decide) rfl rfl) rfl rfl ⟨rfl,rfl⟩ (by dsimp only[zi,List.set]) ?_;obtain⟨g3,h⟩:=zt h;obtain⟨x6,hx6,h⟩:=zu h;refine zdd (args':=[.A (x5.1:Tr)]) (r:= .A (x6:Tr)) (by rw[<-hx6];exact(qdm x5.1 g3)) ?_;refine zft 8 (Enc.cells (x6:Tr)) ?_;refine zih 136 [(2,.ptr 3 0)] (U':=(.B [(110,[.s x5.2.s,.i x5.2.a,.i x5.2.e,(zbb 2 x5.2.q)]),((zj r.q).1,[]),((zj x5.2.q).1,(zj x5.2.q).2),(27,(Enc.cells (x6:Tr)))])) (wmk (bl 136 4) 2 [] [4,3] 1 hk0 (zap rfl (zld fun _=>rfl) zk (zh rfl (zo _ _ _) (zh rfl (zam _ _ _ (Enc.clo _)) zae)) rfl)) ?_;replace h:=zax h hr1;have he2:=Option.some.inj h;subst he2;exact zfr (a:= .A (x6:Tr)) [2] 1 rfl rfl (zn _ _ _ (zp (Enc.clo _))) (zap rfl (zld fun _=>rfl) zk (zh rfl (zo _ _ _) zae) rfl);refine zx [.v (.b ((((x2).toNat:Nat):Int)==91)),.m _] ?_;refine zch h (fun hc3 h=> ?_) (fun hc3 h=> ?_);refine zx [.m _] ?_;obtain⟨x7,hx7,h⟩:=zr h;refine zdd (ztu fuel x1 x7 hx7) ?_;refine w_r [.m _,.x _,.x _,.x _] ?_;refine zdz (Enc.cells (0#256:BS)) ?_;refine zft 4 (Enc.cells (x7.1:BS)) ?_;refine w_r [.m _,.m _] ?_;refine zm ?_;refine zx [.m _,.v (.b (x7.2.2 !=0))] ?_;refine zch h (fun hc4 h=> ?_) (fun hc4 h=> ?_);refine zge (zb ?_);refine w_r [.m _,.m _,.v (.ptr 0 0),.v (.ptr 0 1),.v (.i r.a)] ?_;refine w_r [.m _] ?_;obtain⟨g4,h⟩:=zt h;refine zjv g4 ?_;refine zz ?_;obtain⟨x8,hx8,h⟩:=zr h;refine zgg (r:= .tup []) (U':=(.B [(110,[.s x8.s,.i x8.a,.i x8.e,(zbb 5 x8.q)]),((zj r.q).1,[]),((zj r.q).1,[]),(27,zN),(24,(Enc.cells (x7.1:BS))),((zj x8.q).1,(zj x8.q).2)])) ((zky (r.a+x7.2.1) x7.2.2 r x8 hx8) _ 2 (by decide) rfl rfl) rfl rfl ⟨rfl,rfl⟩ (by dsimp only[zi,List.set]) ?_;refine zih 136 [(2,.ptr 3 0)] (U':=(.B [(110,[.s x8.s,.i x8.a,.i x8.e,(zbb 2 x8.q)]),((zj r.q).1,[]),((zj x8.q).1,(zj x8.q).2),(27,zN),(24,(Enc.cells (x7.1:BS)))])) (wmk (bl 136 4) 2 [] [5,3,4] 1 hk0 (zap rfl (zld fun _=>rfl) zk (zh rfl (zo _ _ _) (zh rfl rfl (zh rfl (zam _ _ _ (Enc.clo _)) zae))) rfl)) ?_;refine zm (zb ?_);refine zxr zbc ?_;refine zft 8 (Enc.cells (zbc:Tr)) ?_;replace h:=zax h hr1;have he3:=Option.some.inj h;subst he3;exact zfr (a:= .A (zbc:Tr)) [2] 1 rfl rfl (zn _ _ _ (zp (Enc.clo _))) (zap rfl (zld fun _=>rfl) zk (zh rfl (zo _ _ _) zae) rfl);refine zx [.m _,.v (.ptr 0 0),.v (.ptr 0 1),.v (.i r.a),.m _] ?_;obtain⟨g5,h⟩:=zt h;refine zjv g5 ?_;refine w_r [.v (.ptr 0 0),.v (.ptr 0 1)] ?_;refine zoc (U'':=(.B [(110,[.s r.s,.i (r.a+x7.2.1),.i r.e,(zbb 2 r.q)]),((zj r.q).1,[]),((zj r.q).1,(zj r.q).2),(27,zN),(24,(Enc.cells (x7.1:BS)))])) (h:=zcr (n:=1) rfl rfl rfl rfl rfl ⟨rfl,rfl,le_of_ble_eq_true rfl,by decide⟩) ?_;refine zx [.v (.A (x7.1:BS))] ?_;obtain⟨x9,hx9,h⟩:=zu h;refine zdd (args':=[.A (x7.1:BS)]) (r:= .A (x9:Tr)) (by rw[<-hx9];exact(k_of x7.1)) ?_;refine zft 8 (Enc.cells (x9:Tr)) ?_;replace h:=zax h hr1;have he4:=Option.some.inj h;subst he4;exact zfr (a:= .A (x9:Tr)) [2] 1 rfl rfl (zn _ _ _ (zp (Enc.clo _))) (zap rfl (zld fun _=>rfl) zk (zh rfl (zo _ _ _) zae) rfl);refine zx [.v (.b ((((x2).toNat:Nat):Int)==46)),.m _] ?_;refine zch h (fun hc5 h=> ?_) (fun hc5 h=> ?_);refine zx [.m _,.v (.ptr 0 0),.v (.ptr 0 1),.v (.i r.a)] ?_;obtain⟨g6,h⟩:=zt h;refine zjv g6 ?_;refine w_r [.v (.ptr 0 0),.v (.ptr 0 1)] ?_;refine zoc (U'':=(.B [(110,[.s r.s,.i (r.a+1),.i r.e,(zbb 2 r.q)]),((zj r.q).1,[]),((zj r.q).1,(zj r.q).2),(27,zN)])) (h:=zcr (n:=1) rfl rfl rfl rfl rfl ⟨rfl,rfl,le_of_ble_eq_true rfl,by decide⟩) ?_;refine zm (zb ?_);refine w_o (a:= .F (([10]:List UInt8):List UInt8)) (h:=zbf (zic (α:=UInt8) (l:=([10]:List UInt8)) (cs:=[.u 10]) rfl rfl)) ?_;obtain⟨x10,hx10,h⟩:=zr h;refine zdd (zgt fuel ([10]:List UInt8) x10 hx10) ?_;obtain⟨x11,hx11,h⟩:=zu h;refine zdd (args':=[.A (x10:BS)]) (r:= .A (x11:BS)) (by rw[<-hx11];exact(qac x10)) ?_;obtain⟨x12,hx12,h⟩:=zu h;refine zdd (args':=[.A (x11:BS)]) (r:= .A (x12:Tr)) (by rw[<-hx12];exact(k_of x11)) ?_;refine zft 8 (Enc.cells (x12:Tr)) ?_;replace h:=zax h hr1;have he5:=Option.some.inj h;subst he5;exact zfr (a:= .A (x12:Tr)) [2] 1 rfl rfl (zn _ _ _ (zp (Enc.clo _))) (zap rfl (zld fun _=>rfl) zk (zh rfl (zo _ _ _) zae) rfl);refine zaz h (bz 0 136 87112285931760246646623899502532657938418) (fun j2=>[(75,.b j2)]) (fun j2=>(.B [(110,[.s r.s,.i r.a,.i r.e,(zbb 2 r.q)]),((zj r.q).1,[]),((zj r.q).1,(zj r.q).2),(27,zN)])) ?_ ?_;intro or2 h hr2;refine zx [.v (.b ((((x2).toNat:Nat):Int)==42)),.m _] ?_;refine zch h (fun hc6 h=> ?_) (fun hc6 h=> ?_);refine zc (o:=or2) (((((x2).toNat:Nat):Int)==42)) h ?_;exact zbp (bl 136 37778931862957165903885);refine zx [.v (.b ((((x2).toNat:Nat):Int)==43)),.m _] ?_;refine zch h (fun hc7 h=> ?_) (fun hc7 h=> ?_);refine zc (o:=or2) (((((x2).toNat:Nat):Int)==43)) h ?_;exact zbp (bl 136 37778931862957165903885);refine zx [.v (.b ((((x2).toNat:Nat):Int)==63)),.m _] ?_;refine zch h (fun hc8 h=> ?_) (fun hc8 h=> ?_);refine zc (o:=or2) (((((x2).toNat:Nat):Int)==63)) h ?_;exact zbp (bl 136 37778931862957165903885);refine zb (k0:=k0) (id:=20) ?_;refine w_r [.v (.b ((((x2).toNat:Nat):Int)==123)),.m _] ?_;refine zc (o:=or2) (((((x2).toNat:Nat):Int)==123)) h ?_;exact zbp (bl 136 37778931862957165903885);intro j2 h;refine zeo ?_;refine zch h (fun hc9 h=> ?_) (fun hc9 h=> ?_);refine zb (k0:=k0) (id:=21) ?_;refine w_r [.m _,.m _,.v (.ptr 0 0),.v (.ptr 0 1),.v (.i r.a)] ?_;obtain⟨x13,hx13,h⟩:=zr h;refine zgg (r:= .tup []) (U':=(.B [(110,[.s x13.s,.i x13.a,.i x13.e,(zbb 4 x13.q)]),((zj r.q).1,[]),((zj r.q).1,[]),(27,zN),((zj x13.q).1,(zj x13.q).2)])) ((zky r.a 92 r x13 hx13) _ 2 (by decide) rfl rfl) rfl rfl ⟨rfl,rfl⟩ (by dsimp only[zi,List.set]) ?_;refine zc (o:=or1) (x13) h ?_;exact(wmk (bl 136 13) 2 [] [4,3] 1 hk0 (zap rfl (zld fun _=>rfl) zk (zh rfl (zo _ _ _) (zh rfl rfl zae)) rfl));refine zaz h [22,75,86,87,88] (fun j3=>[(86,.b j3)]) (fun j3=>(.B [(110,[.s r.s,.i r.a,.i r.e,(zbb 2 r.q)]),((zj r.q).1,[]),((zj r.q).1,(zj r.q).2),(27,zN)])) ?_ ?_;intro or3 h hr3;refine zx [.v (.b ((((x2).toNat:Nat):Int)==94)),.m _] ?_;refine zch h (fun hc10 h=> ?_) (fun hc10 h=> ?_);refine zc (o:=or3) (((((x2).toNat:Nat):Int)==94)) h ?_;exact zbp (bl 136 87112285931759782381330235621972409057279);refine zb (k0:=k0) (id:=23) ?_;refine w_r [.v (.b ((((x2).toNat:Nat):Int)==36)),.m _] ?_;refine zc (o:=or3) (((((x2).toNat:Nat):Int)==36)) h ?_;exact zbp (bl 136 87112285931759782381330235621972409057279);intro j3 h;refine zeo ?_;refine zch h (fun hc11 h=> ?_) (fun hc11 h=> ?_);refine zb (k0:=k0) (id:=24) ?_;refine w_r [.m _,.m _,.v (.ptr 0 0),.v (.ptr 0 1),.v (.i r.a)] ?_;obtain⟨x14,hx14,h⟩:=zr h;refine zgg (r:= .tup []) (U':=(.B [(110,[.s x14.s,.i x14.a,.i x14.e,(zbb 4 x14.q)]),((zj r.q).1,[]),((zj r.q).1,[]),(27,zN),((zj x14.q).1,(zj x14.q).2)])) ((zky r.a 95 r x14 hx14) _ 2 (by decide) rfl rfl) rfl rfl ⟨rfl,rfl⟩ (by dsimp only[zi,List.set]) ?_;refine zc (o:=or1) (x14) h ?_;exact(wmk (bl 136 13) 2 [] [4,3] 1 hk0 (zap rfl (zld fun _=>rfl) zk (zh rfl (zo _ _ _) (zh rfl rfl zae)) rfl));refine zc (o:=or1) (r) h ?_;exact zbp (bl 136 13);intro j1 h;refine zeo ?_;refine zm ?_;refine zx [.m _] ?_;obtain⟨x15,hx15,h⟩:=zu h;refine zdd (args':=[.s x1]) (r:= .tup [.A (x15.1:BS),.b x15.2]) (by rw[<-hx15];exact(z9x x1)) ?_;refine w_r [.m _,.x _,.x _] ?_;refine zdz (Enc.cells (0#256:BS)) ?_;refine zft 4 (Enc.cells (x15.1:BS)) ?_;refine zz ?_;refine zx [.m _] ?_;refine zch h (fun hc12 h=> ?_) (fun hc12 h=> ?_);refine zx [.m _,.v (.ptr 0 0),.v (.ptr 0 1),.v (.i j1.a)] ?_;obtain⟨g7,h⟩:=zt h;refine zjv g7 ?_;refine w_r [.v (.ptr 0 0),.v (.ptr 0 1)] ?_;refine zoc (U'':=(.B [(110,[.s j1.s,.i (j1.a+2),.i j1.e,(zbb 2 j1.q)]),((zj r.q).1,[]),((zj j1.q).1,(zj j1.q).2),(27,zN),(24,(Enc.cells (x15.1:BS)))])) (h:=zcr (n:=1) rfl rfl rfl rfl rfl ⟨rfl,rfl,le_of_ble_eq_true rfl,by decide⟩) ?_;refine zx [.v (.A (x15.1:BS))] ?_;obtain⟨x16,hx16,h⟩:=zu h;refine zdd (args':=[.A (x15.1:BS)]) (r:= .A (x16:Tr)) (by rw[<-hx16];exact(k_of x15.1)) ?_;refine zft 8 (Enc.cells (x16:Tr)) ?_;have he6:=Option.some.inj h;subst he6;exact zfr (a:= .A (x16:Tr)) [2] 1 rfl rfl (zn _ _ _ (zp (Enc.clo _))) (zap rfl (zld fun _=>rfl) zk (zh rfl (zo _ _ _) zae) rfl);refine zx [.m _] ?_;refine zdd (r:= .A (zbo:BS)) z3k ?_;obtain⟨x17,hx17,h⟩:=zr h;refine zdd (zri x1 zbo x17 hx17) ?_;refine w_r [.m _,.x _,.x _,.x _,.m _] ?_;refine w_r [.m _,.m _] ?_;refine zm ?_;refine zx [.m _,.v (.b (x17.2.2 !=0))] ?_;refine zch h (fun hc13 h=> ?_) (fun hc13 h=> ?_);refine zge (zb ?_);refine w_r [.m _,.m _,.v (.ptr 0 0),.v (.ptr 0 1),.v (.i j1.a)] ?_;obtain⟨x18,hx18,h⟩:=zr h;refine zgg (r:= .tup []) (U':=(.B [(110,[.s x18.s,.i x18.a,.i x18.e,(zbb 5 x18.q)]),((zj r.q).1,[]),((zj j1.q).1,[]),(27,zN),(24,(Enc.cells (x15.1:BS))),((zj x18.q).1,(zj x18.q).2)])) ((zky j1.a 90 j1 x18 hx18) _ 2 (by decide) rfl rfl) rfl rfl ⟨rfl,rfl⟩ (by dsimp only[zi,List.set]) ?_;refine zih 136 [(2,.ptr 3 0)] (U':=(.B [(110,[.s x18.s,.i x18.a,.i x18.e,(zbb 2 x18.q)]),((zj r.q).1,[]),((zj x18.q).1,(zj x18.q).2),(27,zN),(24,(Enc.cells (x15.1:BS)))])) (wmk (bl 136 4) 2 [] [5,3,4] 1 hk0 (zap rfl (zld fun _=>rfl) zk (zh rfl (zo _ _ _) (zh rfl rfl (zh rfl (zam _ _ _ (Enc.clo _)) zae))) rfl)) ?_;refine zm (zb ?_);refine zxr zbc ?_;refine zft 8 (Enc.cells (zbc:Tr)) ?_;have he7:=Option.some.inj h;subst he7;exact zfr (a:= .A (zbc:Tr)) [2] 1 rfl rfl (zn _ _ _ (zp (Enc.clo _))) (zap rfl (zld fun _=>rfl) zk (zh rfl (zo _ _ _) zae) rfl);refine zx [.m _,.v (.ptr 0 0),.v (.ptr 0 1),.v (.i j1.a),.m _] ?_;obtain⟨g8,h⟩:=zt h;refine zjv g8 ?_;refine w_r [.v (.ptr 0 0),.v (.ptr 0 1)] ?_;refine zoc (U'':=(.B [(110,[.s j1.s,.i (j1.a+x17.2.1),.i j1.e,(zbb 2 j1.q)]),((zj r.q).1,[]),((zj j1.q).1,(zj j1.q).2),(27,zN),(24,(Enc.cells (x15.1:BS)))])) (h:=zcr (n:=1) rfl rfl rfl rfl rfl ⟨rfl,rfl,le_of_ble_eq_true rfl,by decide⟩) ?_;refine zx [.m _] ?_;obtain⟨x19,hx19,h⟩:=zr h;refine zdd (qdw fuel x17.1 x19 hx19) ?_;refine zft 8 (Enc.cells (x19:Tr)) ?_;have he8:=Option.some.inj h;subst he8;exact zfr (a:= .A (x19:Tr)) [2] 1 rfl rfl (zn _ _ _ (zp (Enc.clo _))) (zap rfl (zld fun _=>rfl) zk (zh rfl (zo _ _ _) zae) rfl)
end Go.Ab
namespace Go.Ab
open Go Go.RowKit Go.Fwd Go.Proofs
def zki (p:Rd->Option (Tr×Rd))(k:Int)(r:Rd):Option (Tr×Rd):=
 (chk (length (zel r.q)<2^40) (chk (-9223372036854775808<=(r.a+k)/\ (r.a+k)<9223372036854775808) (zaa (p (Rd.mk r.s (r.a+k) r.e (zhy r.q r.a))) (fun x1=>(zdg (τ:=Rd) (zaa (zfm x1.2) (fun x2=>(bif (x2.1==41) then(chk (-9223372036854775808<=(x2.2.a+1)/\ (x2.2.a+1)<9223372036854775808) (chk (-9223372036854775808<=((length (zel x2.2.q):Int)-1)/\ ((length (zel x2.2.q):Int)-1)<9223372036854775808) (chk (zel x2.2.q≠[]) (some (inl ((Rd.mk x2.2.s (x2.2.a+1) x2.2.e (z0b x2.2.q)))))))) else(some (inl (x2.2)))))) (fun j1=>(some (x1.1,j1))))))))
theorem ent184:Ent prog 184:=enters_of Tryz.func184 (by kernel_rfl) rfl
theorem qie (p:Rd->Option (Tr×Rd))(k:Int)(r:Rd)(hp: ∀(r:Rd)(y:Tr×Rd),p r=some y->RdC prog 59 [] r (.A y.1) y.2)(y:Tr×Rd)(h:zki p k r=some y):RdC prog 184 [.raw (.int .i64 k)] r (.A (y.1:Tr)) y.2:=by
 obtain⟨d,hd⟩: ∃d,Tryz.f184.body=some d:=⟨_,rfl⟩;refine z7x mix Tryz.func184 hd ent184 (by first|rfl|exact(znc rfl rfl)) (by first|rfl|exact(zp (Enc.clo _))) (fun k0 hk0=> ?_);cases hd;unfold zki at h;refine zav (by dsimp only[zad,Tryz.f184,length_cons,length_nil,zero_add,Nat.reduceAdd,Nat.reduceSub,List.replicate,cons_append,nil_append]) (show rdS r.q r=(.B [(110,[.s r.s,.i r.a,.i r.e,(zbb 2 r.q)]),((zj r.q).1,[]),((zj r.q).1,(zj r.q).2)]) from rfl) ?_;refine zm (zb ?_);refine zdz zN ?_;obtain⟨g1,h⟩:=zt h;refine qfo (id:=1) [.ptr 0 0,.i k,.raw undef,.raw undef,.ptr 3 0,.raw undef,.ptr 0 0,.ptr 0 0,.ptr 0 0,.ptr 0 3,(zbb 2 r.q),.ptr 0 0,.ptr 0 0,.ptr 0 1,.i r.a,.F (([r.a]:List Int):List Int),(zbb 4 (zhy r.q r.a)),.ptr 0 0,.ptr 0 3,.raw undef,.raw undef,.raw undef,.raw undef,.raw undef,.raw undef,.raw undef,.raw undef,.raw undef,.raw undef,.raw undef,.raw undef,.raw undef,.raw undef,.raw undef,.raw undef,.raw undef,.raw undef,.raw undef,.raw undef,.raw undef,.raw undef,.raw undef,.raw undef,.raw undef,.raw undef,.raw undef,.raw undef,.raw undef,.raw undef,.raw undef,.raw undef,.raw undef,.raw undef,.raw undef] (.B [(110,[.s r.s,.i r.a,.i r.e,(zbb 4 (zhy r.q r.a))]),((zj r.q).1,[]),((zj r.q).1,[]),(27,zN),((zj (zhy r.q r.a)).1,(zj (zhy r.q r.a)).2)]) ?_ ?_;refine zos (fun ops hops FIN hFIN S0 hS0=> ?_);let v8:AV:= .ptr 0 0
 let v12:AV:= .ptr 0 0
 let v9:AV:= .ptr 0 3
 let v13:AV:= .ptr 0 1
 let v10:AV:=(zbb 2 r.q)
 let v14:AV:= .i r.a
 let v15:AV:= .F (([r.a]:List Int):List Int)
 let v16:AV:=(zbb 4 (zhy r.q r.a))
 let v17:AV:= .ptr 0 0
 let v18:AV:= .ptr 0 3
 let G0:St:=(.B [(110,[.s r.s,.i r.a,.i r.e,(zbb 2 r.q)]),((zj r.q).1,[]),((zj r.q).1,(zj r.q).2),(27,zN)])
 let G1:St:=(.B [(110,[.s r.s,.i r.a,.i r.e,(zbb 2 r.q)]),((zj r.q).1,[]),((zj r.q).1,[]),(27,zN),((zj (zhy r.q r.a)).1,(zj (zhy r.q r.a)).2)])
 let G2:St:=(.B [(110,[.s r.s,.i r.a,.i r.e,(zbb 4 (zhy r.q r.a))]),((zj r.q).1,[]),((zj r.q).1,[]),(27,zN),((zj (zhy r.q r.a)).1,(zj (zhy r.q r.a)).2)])
 obtain⟨ps,hps⟩: ∃ps:List (Option (Nat×AV)),ps=[some (6,.ptr 0 0),some (7,.ptr 0 0),some (8,v8),some (9,v9),some (10,v10),some (11,.ptr 0 0),some (12,v12),some (13,v13),some (14,v14),some (15,v15),some (16,v16),some (17,v17),some (18,v18),none]:=⟨_,rfl⟩;let N:Nat->Nat->St->Prop:=fun k m U=>aN (ITP prog) prog none ops FIN S0 ps 14 k m U
 have n64:N 0 16383 G2:=by
  exact aN_0 hops hS0 hps (hFIN _ _ (Wk.refl _ _ _))
 have n63:N 1 8191 G1:=by
  refine zju hops hS0 hps 13 ?_;refine zoc (U'':=G2) (h:=zul (k:=4) (q:=(zhy r.q r.a)) rfl rfl rfl rfl) ?_;exact zd n64 hS0 hps
 have n62:N 2 4095 G1:=by
  refine zju hops hS0 hps 12 ?_;refine w_o (a:=v18) ?_;exact zd n63 hS0 hps
 have n61:N 3 2047 G1:=by
  refine zju hops hS0 hps 11 ?_;refine w_o (a:=v17) ?_;exact zd n62 hS0 hps
 have n60:N 4 2046 G1:=by
  refine zju hops hS0 hps 0 ?_;refine zz ?_;exact zd n61 hS0 hps
 have n59:N 4 1023 G0:=by
  refine zju hops hS0 hps 10 ?_;refine z7f (a:=v16) (U'':=G1) rfl rfl rfl (qcf (b:=2) (q:=r.q) (a:=r.a) g1 rfl rfl rfl rfl rfl rfl rfl) (by dsimp only[zi,List.set]) rfl ?_;exact zd n61 hS0 hps
 have n58:N 5 1022 G0:=by
  refine zea hops hS0 hps 0 10 ?_ ?_;refine zz ?_;exact zd n59 hS0 hps;refine z7f (a:=v16) (U'':=G1) rfl rfl rfl (qcf (b:=2) (q:=r.q) (a:=r.a) g1 rfl rfl rfl rfl rfl rfl rfl) (by dsimp only[zi,List.set]) rfl ?_;exact zd n60 hS0 hps
 have n57:N 5 1007 G0:=by
  refine zju hops hS0 hps 4 ?_;refine w_o (a:=v10) ?_;exact zd n59 hS0 hps
 have n56:N 5 511 G0:=by
  refine zju hops hS0 hps 9 ?_;refine w_o (a:=v15) (h:=zbf (zic (α:=Int) (l:=[r.a]) (cs:=Enc.cells (r.a:Int)++[]) rfl (by rw[Enc.cons,Enc.nil]))) ?_;exact zd n59 hS0 hps
 have n55:N 6 1006 G0:=by
  refine zea hops hS0 hps 0 4 ?_ ?_;refine zz ?_;exact zd n57 hS0 hps;refine w_o (a:=v10) ?_;exact zd n58 hS0 hps
 have n54:N 6 510 G0:=by
  refine zea hops hS0 hps 0 9 ?_ ?_;refine zz ?_;exact zd n56 hS0 hps;refine w_o (a:=v15) (h:=zbf (zic (α:=Int) (l:=[r.a]) (cs:=Enc.cells (r.a:Int)++[]) rfl (by rw[Enc.cons,Enc.nil]))) ?_;exact zd n58 hS0 hps
 have n53:N 6 999 G0:=by
  refine zju hops hS0 hps 3 ?_;refine w_o (a:=v9) ?_;exact zd n57 hS0 hps
 have n52:N 6 495 G0:=by
  refine zea hops hS0 hps 4 9 ?_ ?_;refine w_o (a:=v10) ?_;exact zd n56 hS0 hps;refine w_o (a:=v15) (h:=zbf (zic (α:=Int) (l:=[r.a]) (cs:=Enc.cells (r.a:Int)++[]) rfl (by rw[Enc.cons,Enc.nil]))) ?_;exact zd n57 hS0 hps
 have n51:N 6 255 G0:=by
  refine zju hops hS0 hps 8 ?_;refine w_o (a:=v14) ?_;exact zd n56 hS0 hps
 have n50:N 7 998 G0:=by
  refine zea hops hS0 hps 0 3 ?_ ?_;refine zz ?_;exact zd n53 hS0 hps;refine w_o (a:=v9) ?_;exact zd n55 hS0 hps
 have n49:N 7 494 G0:=by
  refine zhl hops hS0 hps 0 4 9 ?_ ?_ ?_;refine zz ?_;exact zd n52 hS0 hps;refine w_o (a:=v10) ?_;exact zd n54 hS0 hps;refine w_o (a:=v15) (h:=zbf (zic (α:=Int) (l:=[r.a]) (cs:=Enc.cells (r.a:Int)++[]) rfl (by rw[Enc.cons,Enc.nil]))) ?_;exact zd n55 hS0 hps
 have n48:N 7 254 G0:=by
  refine zea hops hS0 hps 0 8 ?_ ?_;refine zz ?_;exact zd n51 hS0 hps;refine w_o (a:=v14) ?_;exact zd n54 hS0 hps
 have n47:N 7 995 G0:=by
  refine zju hops hS0 hps 2 ?_;refine w_o (a:=v8) ?_;exact zd n53 hS0 hps
 have n46:N 7 487 G0:=by
  refine zea hops hS0 hps 3 9 ?_ ?_;refine w_o (a:=v9) ?_;exact zd n52 hS0 hps;refine w_o (a:=v15) (h:=zbf (zic (α:=Int) (l:=[r.a]) (cs:=Enc.cells (r.a:Int)++[]) rfl (by rw[Enc.cons,Enc.nil]))) ?_;exact zd n53 hS0 hps
 have n45:N 7 239 G0:=by
  refine zea hops hS0 hps 4 8 ?_ ?_;refine w_o (a:=v10) ?_;exact zd n51 hS0 hps;refine w_o (a:=v14) ?_;exact zd n52 hS0 hps
 have n44:N 7 127 G0:=by
  refine zju hops hS0 hps 7 ?_;refine w_o (a:=v13) ?_;exact zd n51 hS0 hps
 have n43:N 8 994 G0:=by
  refine zea hops hS0 hps 0 2 ?_ ?_;refine zz ?_;exact zd n47 hS0 hps;refine w_o (a:=v8) ?_;exact zd n50 hS0 hps
 have n42:N 8 486 G0:=by
  refine zhl hops hS0 hps 0 3 9 ?_ ?_ ?_;refine zz ?_;exact zd n46 hS0 hps;refine w_o (a:=v9) ?_;exact zd n49 hS0 hps;refine w_o (a:=v15) (h:=zbf (zic (α:=Int) (l:=[r.a]) (cs:=Enc.cells (r.a:Int)++[]) rfl (by rw[Enc.cons,Enc.nil]))) ?_;exact zd n50 hS0 hps
 have n41:N 8 238 G0:=by
  refine zhl hops hS0 hps 0 4 8 ?_ ?_ ?_;refine zz ?_;exact zd n45 hS0 hps;refine w_o (a:=v10) ?_;exact zd n48 hS0 hps;refine w_o (a:=v14) ?_;exact zd n49 hS0 hps
 have n40:N 8 126 G0:=by
  refine zea hops hS0 hps 0 7 ?_ ?_;refine zz ?_;exact zd n44 hS0 hps;refine w_o (a:=v13) ?_;exact zd n48 hS0 hps
 have n39:N 8 993 G0:=by
  refine zju hops hS0 hps 1 ?_;refine zz ?_;exact zd n47 hS0 hps
 have n38:N 8 483 G0:=by
  refine zea hops hS0 hps 2 9 ?_ ?_;refine w_o (a:=v8) ?_;exact zd n46 hS0 hps;refine w_o (a:=v15) (h:=zbf (zic (α:=Int) (l:=[r.a]) (cs:=Enc.cells (r.a:Int)++[]) rfl (by rw[Enc.cons,Enc.nil]))) ?_;exact zd n47 hS0 hps
 have n37:N 8 231 G0:=by
  refine zea hops hS0 hps 3 8 ?_ ?_;refine w_o (a:=v9) ?_;exact zd n45 hS0 hps;refine w_o (a:=v14) ?_;exact zd n46 hS0 hps
 have n36:N 8 111 G0:=by
  refine zea hops hS0 hps 4 7 ?_ ?_;refine w_o (a:=v10) ?_;exact zd n44 hS0 hps;refine w_o (a:=v13) ?_;exact zd n45 hS0 hps
 have n35:N 8 63 G0:=by
  refine zju hops hS0 hps 6 ?_;refine w_o (a:=v12) ?_;exact zd n44 hS0 hps
 have n34:N 9 992 G0:=by
  refine zea hops hS0 hps 0 1 ?_ ?_;refine zz ?_;exact zd n39 hS0 hps;refine zz ?_;exact zd n43 hS0 hps
 have n33:N 9 482 G0:=by
  refine zhl hops hS0 hps 0 2 9 ?_ ?_ ?_;refine zz ?_;exact zd n38 hS0 hps;refine w_o (a:=v8) ?_;exact zd n42 hS0 hps;refine w_o (a:=v15) (h:=zbf (zic (α:=Int) (l:=[r.a]) (cs:=Enc.cells (r.a:Int)++[]) rfl (by rw[Enc.cons,Enc.nil]))) ?_;exact zd n43 hS0 hps
 have n32:N 9 230 G0:=by
  refine zhl hops hS0 hps 0 3 8 ?_ ?_ ?_;refine zz ?_;exact zd n37 hS0 hps;refine w_o (a:=v9) ?_;exact zd n41 hS0 hps;refine w_o (a:=v14) ?_;exact zd n42 hS0 hps
 have n31:N 9 110 G0:=by
  refine zhl hops hS0 hps 0 4 7 ?_ ?_ ?_;refine zz ?_;exact zd n36 hS0 hps;refine w_o (a:=v10) ?_;exact zd n40 hS0 hps;refine w_o (a:=v13) ?_;exact zd n41 hS0 hps
 have n30:N 9 62 G0:=by
  refine zea hops hS0 hps 0 6 ?_ ?_;refine zz ?_;exact zd n35 hS0 hps;refine w_o (a:=v12) ?_;exact zd n40 hS0 hps
 have n29:N 9 481 G0:=by
  refine zea hops hS0 hps 1 9 ?_ ?_;refine zz ?_;exact zd n38 hS0 hps;refine w_o (a:=v15) (h:=zbf (zic (α:=Int) (l:=[r.a]) (cs:=Enc.cells (r.a:Int)++[]) rfl (by rw[Enc.cons,Enc.nil]))) ?_;exact zd n39 hS0 hps
 have n28:N 9 227 G0:=by
  refine zea hops hS0 hps 2 8 ?_ ?_;refine w_o (a:=v8) ?_;exact zd n37 hS0 hps;refine w_o (a:=v14) ?_;exact zd n38 hS0 hps
 have n27:N 9 103 G0:=by
  refine zea hops hS0 hps 3 7 ?_ ?_;refine w_o (a:=v9) ?_;exact zd n36 hS0 hps;refine w_o (a:=v13) ?_;exact zd n37 hS0 hps
 have n26:N 9 47 G0:=by
  refine zea hops hS0 hps 4 6 ?_ ?_;refine w_o (a:=v10) ?_;exact zd n35 hS0 hps;refine w_o (a:=v12) ?_;exact zd n36 hS0 hps
 have n25:N 9 31 G0:=by
  refine zju hops hS0 hps 5 ?_;refine zz ?_;exact zd n35 hS0 hps
 have n24:N 10 480 G0:=by
  refine zhl hops hS0 hps 0 1 9 ?_ ?_ ?_;refine zz ?_;exact zd n29 hS0 hps;refine zz ?_;exact zd n33 hS0 hps;refine w_o (a:=v15) (h:=zbf (zic (α:=Int) (l:=[r.a]) (cs:=Enc.cells (r.a:Int)++[]) rfl (by rw[Enc.cons,Enc.nil]))) ?_;exact zd n34 hS0 hps
 have n23:N 10 226 G0:=by
  refine zhl hops hS0 hps 0 2 8 ?_ ?_ ?_;refine zz ?_;exact zd n28 hS0 hps;refine w_o (a:=v8) ?_;exact zd n32 hS0 hps;refine w_o (a:=v14) ?_;exact zd n33 hS0 hps
 have n22:N 10 102 G0:=by
  refine zhl hops hS0 hps 0 3 7 ?_ ?_ ?_;refine zz ?_;exact zd n27 hS0 hps;refine w_o (a:=v9) ?_;exact zd n31 hS0 hps;refine w_o (a:=v13) ?_;exact zd n32 hS0 hps
 have n21:N 10 46 G0:=by
  refine zhl hops hS0 hps 0 4 6 ?_ ?_ ?_;refine zz ?_;exact zd n26 hS0 hps;refine w_o (a:=v10) ?_;exact zd n30 hS0 hps;refine w_o (a:=v12) ?_;exact zd n31 hS0 hps
 have n20:N 10 30 G0:=by
  refine zea hops hS0 hps 0 5 ?_ ?_;refine zz ?_;exact zd n25 hS0 hps;refine zz ?_;exact zd n30 hS0 hps
 have n19:N 10 225 G0:=by
  refine zea hops hS0 hps 1 8 ?_ ?_;refine zz ?_;exact zd n28 hS0 hps;refine w_o (a:=v14) ?_;exact zd n29 hS0 hps
 have n18:N 10 99 G0:=by
  refine zea hops hS0 hps 2 7 ?_ ?_;refine w_o (a:=v8) ?_;exact zd n27 hS0 hps;refine w_o (a:=v13) ?_;exact zd n28 hS0 hps
 have n17:N 10 39 G0:=by
  refine zea hops hS0 hps 3 6 ?_ ?_;refine w_o (a:=v9) ?_;exact zd n26 hS0 hps;refine w_o (a:=v12) ?_;exact zd n27 hS0 hps
 have n16:N 10 15 G0:=by
  refine zea hops hS0 hps 4 5 ?_ ?_;refine w_o (a:=v10) ?_;exact zd n25 hS0 hps;refine zz ?_;exact zd n26 hS0 hps
 have n15:N 11 224 G0:=by
  refine zhl hops hS0 hps 0 1 8 ?_ ?_ ?_;refine zz ?_;exact zd n19 hS0 hps;refine zz ?_;exact zd n23 hS0 hps;refine w_o (a:=v14) ?_;exact zd n24 hS0 hps
 have n14:N 11 98 G0:=by
  refine zhl hops hS0 hps 0 2 7 ?_ ?_ ?_;refine zz ?_;exact zd n18 hS0 hps;refine w_o (a:=v8) ?_;exact zd n22 hS0 hps;refine w_o (a:=v13) ?_;exact zd n23 hS0 hps
 have n13:N 11 38 G0:=by
  refine zhl hops hS0 hps 0 3 6 ?_ ?_ ?_;refine zz ?_;exact zd n17 hS0 hps;refine w_o (a:=v9) ?_;exact zd n21 hS0 hps;refine w_o (a:=v12) ?_;exact zd n22 hS0 hps
 have n12:N 11 14 G0:=by
  refine zhl hops hS0 hps 0 4 5 ?_ ?_ ?_;refine zz ?_;exact zd n16 hS0 hps;refine w_o (a:=v10) ?_;exact zd n20 hS0 hps;refine zz ?_;exact zd n21 hS0 hps
 have n11:N 11 97 G0:=by
  refine zea hops hS0 hps 1 7 ?_ ?_;refine zz ?_;exact zd n18 hS0 hps;refine w_o (a:=v13) ?_;exact zd n19 hS0 hps
 have n10:N 11 35 G0:=by
  refine zea hops hS0 hps 2 6 ?_ ?_;refine w_o (a:=v8) ?_;exact zd n17 hS0 hps;refine w_o (a:=v12) ?_;exact zd n18 hS0 hps
 have n9:N 11 7 G0:=by
  refine zea hops hS0 hps 3 5 ?_ ?_;refine w_o (a:=v9) ?_;exact zd n16 hS0 hps;refine zz ?_;exact zd n17 hS0 hps
 have n8:N 12 96 G0:=by
  refine zhl hops hS0 hps 0 1 7 ?_ ?_ ?_;refine zz ?_;exact zd n11 hS0 hps;refine zz ?_;exact zd n14 hS0 hps;refine w_o (a:=v13) ?_;exact zd n15 hS0 hps
 have n7:N 12 34 G0:=by
  refine zhl hops hS0 hps 0 2 6 ?_ ?_ ?_;refine zz ?_;exact zd n10 hS0 hps;refine w_o (a:=v8) ?_;exact zd n13 hS0 hps;refine w_o (a:=v12) ?_;exact zd n14 hS0 hps
 have n6:N 12 6 G0:=by
  refine zhl hops hS0 hps 0 3 5 ?_ ?_ ?_;refine zz ?_;exact zd n9 hS0 hps;refine w_o (a:=v9) ?_;exact zd n12 hS0 hps;refine zz ?_;exact zd n13 hS0 hps
 have n5:N 12 33 G0:=by
  refine zea hops hS0 hps 1 6 ?_ ?_;refine zz ?_;exact zd n10 hS0 hps;refine w_o (a:=v12) ?_;exact zd n11 hS0 hps
 have n4:N 12 3 G0:=by
  refine zea hops hS0 hps 2 5 ?_ ?_;refine w_o (a:=v8) ?_;exact zd n9 hS0 hps;refine zz ?_;exact zd n10 hS0 hps
 have n3:N 13 32 G0:=by
  refine zhl hops hS0 hps 0 1 6 ?_ ?_ ?_;refine zz ?_;exact zd n5 hS0 hps;refine zz ?_;exact zd n7 hS0 hps;refine w_o (a:=v12) ?_;exact zd n8 hS0 hps
 have n2:N 13 2 G0:=by
  refine zhl hops hS0 hps 0 2 5 ?_ ?_ ?_;refine zz ?_;exact zd n4 hS0 hps;refine w_o (a:=v8) ?_;exact zd n6 hS0 hps;refine zz ?_;exact zd n7 hS0 hps
 have n1:N 13 1 G0:=by
  refine zea hops hS0 hps 1 5 ?_ ?_;refine zz ?_;exact zd n4 hS0 hps;refine zz ?_;exact zd n5 hS0 hps
 have n0:N 14 0 G0:=by
  refine zhl hops hS0 hps 0 1 5 ?_ ?_ ?_;refine zz ?_;exact zd n1 hS0 hps;refine zz ?_;exact zd n2 hS0 hps;refine zz ?_;exact zd n3 hS0 hps
 exact zuy n0 hps;refine zx [.m _,.v (.ptr 0 0),.v (.ptr 0 1),.v (.i r.a),.m _] ?_;obtain⟨g2,h⟩:=zt h;refine zjv g2 ?_;refine w_r [.v (.ptr 0 0),.v (.ptr 0 1)] ?_;refine zoc (U'':=(.B [(110,[.s r.s,.i (r.a+k),.i r.e,(zbb 4 (zhy r.q r.a))]),((zj r.q).1,[]),((zj r.q).1,[]),(27,zN),((zj (zhy r.q r.a)).1,(zj (zhy r.q r.a)).2)])) (h:=zcr (n:=1) rfl rfl rfl rfl rfl ⟨rfl,rfl,le_of_ble_eq_true rfl,by decide⟩) ?_;refine zge (zb ?_);refine zz ?_;obtain⟨x1,hx1,h⟩:=zr h;refine zgg (r:= .A (x1.1:Tr)) (U':=(.B [(110,[.s x1.2.s,.i x1.2.a,.i x1.2.e,(zbb 5 x1.2.q)]),((zj r.q).1,[]),((zj r.q).1,[]),(27,zN),((zj (zhy r.q r.a)).1,[]),((zj x1.2.q).1,(zj x1.2.q).2)])) ((hp (Rd.mk r.s (r.a+k) r.e (zhy r.q r.a)) x1 hx1) _ 4 (by decide) rfl rfl) rfl rfl ⟨rfl,rfl⟩ (by dsimp only[zi,List.set]) ?_;refine zdz zN ?_;refine zft 8 (Enc.cells (x1.1:Tr)) ?_;refine zih 54 [(0,.ptr 0 0),(4,.ptr 3 0),(5,.ptr 4 0)] (U':=(.B [(110,[.s x1.2.s,.i x1.2.a,.i x1.2.e,(zbb 2 x1.2.q)]),((zj r.q).1,[]),((zj x1.2.q).1,(zj x1.2.q).2),(27,zN),(27,(Enc.cells (x1.1:Tr)))])) (wmk (bl 54 49) 2 [] [5,3,6] 1 hk0 (zap rfl (zld fun _=>rfl) zk (zh rfl (zo _ _ _) (zh rfl rfl (zh rfl (zam _ _ _ (Enc.clo _)) zae))) rfl)) ?_;refine zaz h (bz 0 53 9007198717870081) (fun j1=>[]) (fun j1=>(.B [(110,[.s j1.s,.i j1.a,.i j1.e,(zbb 2 j1.q)]),((zj r.q).1,[]),((zj j1.q).1,(zj j1.q).2),(27,zN),(27,(Enc.cells (x1.1:Tr)))])) ?_ ?_;intro or1 h hr1;refine zge (zb ?_);refine zz ?_;obtain⟨x2,hx2,h⟩:=zr h;refine zgg (r:= .u x2.1) (U':=(.B [(110,[.s x2.2.s,.i x2.2.a,.i x2.2.e,(zbb 5 x2.2.q)]),((zj r.q).1,[]),((zj x1.2.q).1,[]),(27,zN),(27,(Enc.cells (x1.1:Tr))),((zj x2.2.q).1,(zj x2.2.q).2)])) ((zoq x1.2 x2 hx2) _ 2 (by decide) rfl rfl) rfl rfl ⟨rfl,rfl⟩ (by dsimp only[zi,List.set]) ?_;refine w_o (a:= .b (x2.1==41)) ?_;refine zih 54 [(0,.ptr 0 0),(4,.ptr 3 0),(5,.ptr 4 0),(31,.b (x2.1==41))] (U':=(.B [(110,[.s x2.2.s,.i x2.2.a,.i x2.2.e,(zbb 2 x2.2.q)]),((zj r.q).1,[]),((zj x2.2.q).1,(zj x2.2.q).2),(27,zN),(27,(Enc.cells (x1.1:Tr)))])) (wmk (bl 54 2147483697) 2 [] [5,3,4] 1 hk0 (zap rfl (zld fun _=>rfl) zk (zh rfl (zo _ _ _) (zh rfl rfl (zh rfl (zam _ _ _ (Enc.clo _)) zae))) rfl)) ?_;refine zch h (fun hc1 h=> ?_) (fun hc1 h=> ?_);refine zx [.m _,.v (.ptr 0 0),.v (.ptr 0 1),.v (.i x2.2.a)] ?_;obtain⟨g3,h⟩:=zt h;refine zjv g3 ?_;refine w_r [.v (.ptr 0 0),.v (.ptr 0 1)] ?_;refine zoc (U'':=(.B [(110,[.s x2.2.s,.i (x2.2.a+1),.i x2.2.e,(zbb 2 x2.2.q)]),((zj r.q).1,[]),((zj x2.2.q).1,(zj x2.2.q).2),(27,zN),(27,(Enc.cells (x1.1:Tr)))])) (h:=zcr (n:=1) rfl rfl rfl rfl rfl ⟨rfl,rfl,le_of_ble_eq_true rfl,by decide⟩) ?_;obtain⟨g4,h⟩:=zt h;obtain⟨g5,h⟩:=zt h;refine qgj (k0:=k0) (id:=6) [.ptr 0 0,.top,.top,.top,.ptr 3 0,.ptr 4 0,.top,.top,.top,.top,.top,.top,.top,.top,.top,.top,.top,.top,.top,.top,.top,.top,.top,.top,.top,.top,.top,.top,.top,.top,.top,.b (x2.1==41),.ptr 0 0,.ptr 0 0,.ptr 0 1,.i x2.2.a,.i (x2.2.a+1),.ptr 0 0,.ptr 0 1,.ptr 0 0,.ptr 0 0,.ptr 0 0,.ptr 0 3,(zbb 2 x2.2.q),.ptr 0 0,.ptr 0 0,.ptr 0 3,(zbb 2 x2.2.q),.i (length (zel x2.2.q):Int),.i ((length (zel x2.2.q):Int)-1),(zbb 2 (z0b x2.2.q)),.ptr 0 0,.ptr 0 3,.top] (.B [(110,[.s x2.2.s,.i (x2.2.a+1),.i x2.2.e,(zbb 2 (z0b x2.2.q))]),((zj r.q).1,[]),((zj x2.2.q).1,(zj x2.2.q).2),(27,zN),(27,(Enc.cells (x1.1:Tr)))]) ?_ ?_;refine zos (fun ops hops FIN hFIN S0 hS0=> ?_);let v41:AV:= .ptr 0 0
 let v45:AV:= .ptr 0 0
 let v42:AV:= .ptr 0 3
 let v46:AV:= .ptr 0 3
 let v43:AV:=(zbb 2 x2.2.q)
 let v47:AV:=(zbb 2 x2.2.q)
 let v48:AV:= .i (length (zel x2.2.q):Int)
 let v49:AV:= .i ((length (zel x2.2.q):Int)-1)
 let v51:AV:= .ptr 0 0
 let v52:AV:= .ptr 0 3
 let G0:St:=(.B [(110,[.s x2.2.s,.i (x2.2.a+1),.i x2.2.e,(zbb 2 x2.2.q)]),((zj r.q).1,[]),((zj x2.2.q).1,(zj x2.2.q).2),(27,zN),(27,(Enc.cells (x1.1:Tr)))])
 let G1:St:=(.B [(110,[.s x2.2.s,.i (x2.2.a+1),.i x2.2.e,(zbb 2 (z0b x2.2.q))]),((zj r.q).1,[]),((zj x2.2.q).1,(zj x2.2.q).2),(27,zN),(27,(Enc.cells (x1.1:Tr)))])
 obtain⟨ps,hps⟩: ∃ps:List (Option (Nat×AV)),ps=[some (39,.ptr 0 0),some (40,.ptr 0 0),some (41,v41),some (42,v42),some (43,v43),some (44,.ptr 0 0),some (45,v45),some (46,v46),some (47,v47),some (48,v48),some (49,v49),some (50,(zbb 2 (z0b x2.2.q))),some (51,v51),some (52,v52),none]:=⟨_,rfl⟩;let N:Nat->Nat->St->Prop:=fun k m U=>aN (ITP prog) prog none ops FIN S0 ps 15 k m U
 have n74:N 0 32767 G1:=by
  exact aN_0 hops hS0 hps (hFIN _ _ ⟨rfl,rfl⟩)
 have n73:N 1 16383 G0:=by
  refine zju hops hS0 hps 14 ?_;refine zoc (U'':=G1) (h:=zul (k:=2) (q:=(z0b x2.2.q)) rfl rfl rfl rfl) ?_;exact zd n74 hS0 hps
 have n72:N 2 8191 G0:=by
  refine zju hops hS0 hps 13 ?_;refine w_o (a:=v52) ?_;exact zd n73 hS0 hps
 have n71:N 3 4095 G0:=by
  refine zju hops hS0 hps 12 ?_;refine w_o (a:=v51) ?_;exact zd n72 hS0 hps
 have n70:N 4 4094 G0:=by
  refine zju hops hS0 hps 0 ?_;refine zz ?_;exact zd n71 hS0 hps
 have n69:N 4 2047 G0:=by
  refine zju hops hS0 hps 11 ?_;refine w_pop (b:=2) (q:=x2.2.q) g5 rfl rfl rfl rfl rfl rfl (by dsimp only[zi,List.set]) ?_;exact zd n71 hS0 hps
 have n68:N 5 2046 G0:=by
  refine zea hops hS0 hps 0 11 ?_ ?_;refine zz ?_;exact zd n69 hS0 hps;refine w_pop (b:=2) (q:=x2.2.q) g5 rfl rfl rfl rfl rfl rfl (by dsimp only[zi,List.set]) ?_;exact zd n70 hS0 hps
 have n67:N 5 2031 G0:=by
  refine zju hops hS0 hps 4 ?_;refine w_o (a:=v43) ?_;exact zd n69 hS0 hps
 have n66:N 5 1023 G0:=by
  refine zju hops hS0 hps 10 ?_;refine w_o (a:=v49) (h:=zbf (zpy rfl rfl rfl rfl g4.1 g4.2)) ?_;exact zd n69 hS0 hps
 have n65:N 6 2030 G0:=by
  refine zea hops hS0 hps 0 4 ?_ ?_;refine zz ?_;exact zd n67 hS0 hps;refine w_o (a:=v43) ?_;exact zd n68 hS0 hps
 have n64:N 6 1022 G0:=by
  refine zea hops hS0 hps 0 10 ?_ ?_;refine zz ?_;exact zd n66 hS0 hps;refine w_o (a:=v49) (h:=zbf (zpy rfl rfl rfl rfl g4.1 g4.2)) ?_;exact zd n68 hS0 hps
 have n63:N 6 2023 G0:=by
  refine zju hops hS0 hps 3 ?_;refine w_o (a:=v42) ?_;exact zd n67 hS0 hps
 have n62:N 6 1007 G0:=by
  refine zea hops hS0 hps 4 10 ?_ ?_;refine w_o (a:=v43) ?_;exact zd n66 hS0 hps;refine w_o (a:=v49) (h:=zbf (zpy rfl rfl rfl rfl g4.1 g4.2)) ?_;exact zd n67 hS0 hps
 have n61:N 6 511 G0:=by
  refine zju hops hS0 hps 9 ?_;refine w_o (a:=v48) (h:=zbf (zgk (b:=2) (q:=x2.2.q) rfl rfl)) ?_;exact zd n66 hS0 hps
 have n60:N 7 2022 G0:=by
  refine zea hops hS0 hps 0 3 ?_ ?_;refine zz ?_;exact zd n63 hS0 hps;refine w_o (a:=v42) ?_;exact zd n65 hS0 hps
 have n59:N 7 1006 G0:=by
  refine zhl hops hS0 hps 0 4 10 ?_ ?_ ?_;refine zz ?_;exact zd n62 hS0 hps;refine w_o (a:=v43) ?_;exact zd n64 hS0 hps;refine w_o (a:=v49) (h:=zbf (zpy rfl rfl rfl rfl g4.1 g4.2)) ?_;exact zd n65 hS0 hps
 have n58:N 7 510 G0:=by
  refine zea hops hS0 hps 0 9 ?_ ?_;refine zz ?_;exact zd n61 hS0 hps;refine w_o (a:=v48) (h:=zbf (zgk (b:=2) (q:=x2.2.q) rfl rfl)) ?_;exact zd n64 hS0 hps
 have n57:N 7 2019 G0:=by
  refine zju hops hS0 hps 2 ?_;refine w_o (a:=v41) ?_;exact zd n63 hS0 hps
 have n56:N 7 999 G0:=by
  refine zea hops hS0 hps 3 10 ?_ ?_;refine w_o (a:=v42) ?_;exact zd n62 hS0 hps;refine w_o (a:=v49) (h:=zbf (zpy rfl rfl rfl rfl g4.1 g4.2)) ?_;exact zd n63 hS0 hps
 have n55:N 7 495 G0:=by
  refine zea hops hS0 hps 4 9 ?_ ?_;refine w_o (a:=v43) ?_;exact zd n61 hS0 hps;refine w_o (a:=v48) (h:=zbf (zgk (b:=2) (q:=x2.2.q) rfl rfl)) ?_;exact zd n62 hS0 hps
 have n54:N 7 255 G0:=by
  refine zju hops hS0 hps 8 ?_;refine w_o (a:=v47) ?_;exact zd n61 hS0 hps
 have n53:N 8 2018 G0:=by
  refine zea hops hS0 hps 0 2 ?_ ?_;refine zz ?_;exact zd n57 hS0 hps;refine w_o (a:=v41) ?_;exact zd n60 hS0 hps
 have n52:N 8 998 G0:=by
  refine zhl hops hS0 hps 0 3 10 ?_ ?_ ?_;refine zz ?_;exact zd n56 hS0 hps;refine w_o (a:=v42) ?_;exact zd n59 hS0 hps;refine w_o (a:=v49) (h:=zbf (zpy rfl rfl rfl rfl g4.1 g4.2)) ?_;exact zd n60 hS0 hps
 have n51:N 8 494 G0:=by
  refine zhl hops hS0 hps 0 4 9 ?_ ?_ ?_;refine zz ?_;exact zd n55 hS0 hps;refine w_o (a:=v43) ?_;exact zd n58 hS0 hps;refine w_o (a:=v48) (h:=zbf (zgk (b:=2) (q:=x2.2.q) rfl rfl)) ?_;exact zd n59 hS0 hps
 have n50:N 8 254 G0:=by
  refine zea hops hS0 hps 0 8 ?_ ?_;refine zz ?_;exact zd n54 hS0 hps;refine w_o (a:=v47) ?_;exact zd n58 hS0 hps
 have n49:N 8 2017 G0:=by
  refine zju hops hS0 hps 1 ?_;refine zz ?_;exact zd n57 hS0 hps
 have n48:N 8 995 G0:=by
  refine zea hops hS0 hps 2 10 ?_ ?_;refine w_o (a:=v41) ?_;exact zd n56 hS0 hps;refine w_o (a:=v49) (h:=zbf (zpy rfl rfl rfl rfl g4.1 g4.2)) ?_;exact zd n57 hS0 hps
 have n47:N 8 487 G0:=by
  refine zea hops hS0 hps 3 9 ?_ ?_;refine w_o (a:=v42) ?_;exact zd n55 hS0 hps;refine w_o (a:=v48) (h:=zbf (zgk (b:=2) (q:=x2.2.q) rfl rfl)) ?_;exact zd n56 hS0 hps
 have n46:N 8 239 G0:=by
  refine zea hops hS0 hps 4 8 ?_ ?_;refine w_o (a:=v43) ?_;exact zd n54 hS0 hps;refine w_o (a:=v47) ?_;exact zd n55 hS0 hps
 have n45:N 8 127 G0:=by
  refine zju hops hS0 hps 7 ?_;refine w_o (a:=v46) ?_;exact zd n54 hS0 hps
 have n44:N 9 2016 G0:=by
  refine zea hops hS0 hps 0 1 ?_ ?_;refine zz ?_;exact zd n49 hS0 hps;refine zz ?_;exact zd n53 hS0 hps
 have n43:N 9 994 G0:=by
  refine zhl hops hS0 hps 0 2 10 ?_ ?_ ?_;refine zz ?_;exact zd n48 hS0 hps;refine w_o (a:=v41) ?_;exact zd n52 hS0 hps;refine w_o (a:=v49) (h:=zbf (zpy rfl rfl rfl rfl g4.1 g4.2)) ?_;exact zd n53 hS0 hps
 have n42:N 9 486 G0:=by
  refine zhl hops hS0 hps 0 3 9 ?_ ?_ ?_;refine zz ?_;exact zd n47 hS0 hps;refine w_o (a:=v42) ?_;exact zd n51 hS0 hps;refine w_o (a:=v48) (h:=zbf (zgk (b:=2) (q:=x2.2.q) rfl rfl)) ?_;exact zd n52 hS0 hps
 have n41:N 9 238 G0:=by
  refine zhl hops hS0 hps 0 4 8 ?_ ?_ ?_;refine zz ?_;exact zd n46 hS0 hps;refine w_o (a:=v43) ?_;exact zd n50 hS0 hps;refine w_o (a:=v47) ?_;exact zd n51 hS0 hps
 have n40:N 9 126 G0:=by
  refine zea hops hS0 hps 0 7 ?_ ?_;refine zz ?_;exact zd n45 hS0 hps;refine w_o (a:=v46) ?_;exact zd n50 hS0 hps
 have n39:N 9 993 G0:=by
  refine zea hops hS0 hps 1 10 ?_ ?_;refine zz ?_;exact zd n48 hS0 hps;refine w_o (a:=v49) (h:=zbf (zpy rfl rfl rfl rfl g4.1 g4.2)) ?_;exact zd n49 hS0 hps
 have n38:N 9 483 G0:=by
  refine zea hops hS0 hps 2 9 ?_ ?_;refine w_o (a:=v41) ?_;exact zd n47 hS0 hps;refine w_o (a:=v48) (h:=zbf (zgk (b:=2) (q:=x2.2.q) rfl rfl)) ?_;exact zd n48 hS0 hps
 have n37:N 9 231 G0:=by
  refine zea hops hS0 hps 3 8 ?_ ?_;refine w_o (a:=v42) ?_;exact zd n46 hS0 hps;refine w_o (a:=v47) ?_;exact zd n47 hS0 hps
 have n36:N 9 111 G0:=by
  refine zea hops hS0 hps 4 7 ?_ ?_;refine w_o (a:=v43) ?_;exact zd n45 hS0 hps;refine w_o (a:=v46) ?_;exact zd n46 hS0 hps
 have n35:N 9 63 G0:=by
  refine zju hops hS0 hps 6 ?_;refine w_o (a:=v45) ?_;exact zd n45 hS0 hps
 have n34:N 10 992 G0:=by
  refine zhl hops hS0 hps 0 1 10 ?_ ?_ ?_;refine zz ?_;exact zd n39 hS0 hps;refine zz ?_;exact zd n43 hS0 hps;refine w_o (a:=v49) (h:=zbf (zpy rfl rfl rfl rfl g4.1 g4.2)) ?_;exact zd n44 hS0 hps
 have n33:N 10 482 G0:=by
  refine zhl hops hS0 hps 0 2 9 ?_ ?_ ?_;refine zz ?_;exact zd n38 hS0 hps;refine w_o (a:=v41) ?_;exact zd n42 hS0 hps;refine w_o (a:=v48) (h:=zbf (zgk (b:=2) (q:=x2.2.q) rfl rfl)) ?_;exact zd n43 hS0 hps
 have n32:N 10 230 G0:=by
  refine zhl hops hS0 hps 0 3 8 ?_ ?_ ?_;refine zz ?_;exact zd n37 hS0 hps;refine w_o (a:=v42) ?_;exact zd n41 hS0 hps;refine w_o (a:=v47) ?_;exact zd n42 hS0 hps
 have n31:N 10 110 G0:=by
  refine zhl hops hS0 hps 0 4 7 ?_ ?_ ?_;refine zz ?_;exact zd n36 hS0 hps;refine w_o (a:=v43) ?_;exact zd n40 hS0 hps;refine w_o (a:=v46) ?_;exact zd n41 hS0 hps
 have n30:N 10 62 G0:=by
  refine zea hops hS0 hps 0 6 ?_ ?_;refine zz ?_;exact zd n35 hS0 hps;refine w_o (a:=v45) ?_;exact zd n40 hS0 hps
 have n29:N 10 481 G0:=by
  refine zea hops hS0 hps 1 9 ?_ ?_;refine zz ?_;exact zd n38 hS0 hps;refine w_o (a:=v48) (h:=zbf (zgk (b:=2) (q:=x2.2.q) rfl rfl)) ?_;exact zd n39 hS0 hps
 have n28:N 10 227 G0:=by
  refine zea hops hS0 hps 2 8 ?_ ?_;refine w_o (a:=v41) ?_;exact zd n37 hS0 hps;refine w_o (a:=v47) ?_;exact zd n38 hS0 hps
 have n27:N 10 103 G0:=by
  refine zea hops hS0 hps 3 7 ?_ ?_;refine w_o (a:=v42) ?_;exact zd n36 hS0 hps;refine w_o (a:=v46) ?_;exact zd n37 hS0 hps
 have n26:N 10 47 G0:=by
  refine zea hops hS0 hps 4 6 ?_ ?_;refine w_o (a:=v43) ?_;exact zd n35 hS0 hps;refine w_o (a:=v45) ?_;exact zd n36 hS0 hps
 have n25:N 10 31 G0:=by
  refine zju hops hS0 hps 5 ?_;refine zz ?_;exact zd n35 hS0 hps
 have n24:N 11 480 G0:=by
  refine zhl hops hS0 hps 0 1 9 ?_ ?_ ?_;refine zz ?_;exact zd n29 hS0 hps;refine zz ?_;exact zd n33 hS0 hps;refine w_o (a:=v48) (h:=zbf (zgk (b:=2) (q:=x2.2.q) rfl rfl)) ?_;exact zd n34 hS0 hps
 have n23:N 11 226 G0:=by
  refine zhl hops hS0 hps 0 2 8 ?_ ?_ ?_;refine zz ?_;exact zd n28 hS0 hps;refine w_o (a:=v41) ?_;exact zd n32 hS0 hps;refine w_o (a:=v47) ?_;exact zd n33 hS0 hps
 have n22:N 11 102 G0:=by
  refine zhl hops hS0 hps 0 3 7 ?_ ?_ ?_;refine zz ?_;exact zd n27 hS0 hps;refine w_o (a:=v42) ?_;exact zd n31 hS0 hps;refine w_o (a:=v46) ?_;exact zd n32 hS0 hps
 have n21:N 11 46 G0:=by
  refine zhl hops hS0 hps 0 4 6 ?_ ?_ ?_;refine zz ?_;exact zd n26 hS0 hps;refine w_o (a:=v43) ?_;exact zd n30 hS0 hps;refine w_o (a:=v45) ?_;exact zd n31 hS0 hps
 have n20:N 11 30 G0:=by
  refine zea hops hS0 hps 0 5 ?_ ?_;refine zz ?_;exact zd n25 hS0 hps;refine zz ?_;exact zd n30 hS0 hps
 have n19:N 11 225 G0:=by
  refine zea hops hS0 hps 1 8 ?_ ?_;refine zz ?_;exact zd n28 hS0 hps;refine w_o (a:=v47) ?_;exact zd n29 hS0 hps
 have n18:N 11 99 G0:=by
  refine zea hops hS0 hps 2 7 ?_ ?_;refine w_o (a:=v41) ?_;exact zd n27 hS0 hps;refine w_o (a:=v46) ?_;exact zd n28 hS0 hps
 have n17:N 11 39 G0:=by
  refine zea hops hS0 hps 3 6 ?_ ?_;refine w_o (a:=v42) ?_;exact zd n26 hS0 hps;refine w_o (a:=v45) ?_;exact zd n27 hS0 hps
 have n16:N 11 15 G0:=by
  refine zea hops hS0 hps 4 5 ?_ ?_;refine w_o (a:=v43) ?_;exact zd n25 hS0 hps;refine zz ?_;exact zd n26 hS0 hps
 have n15:N 12 224 G0:=by
  refine zhl hops hS0 hps 0 1 8 ?_ ?_ ?_;refine zz ?_;exact zd n19 hS0 hps;refine zz ?_;exact zd n23 hS0 hps;refine w_o (a:=v47) ?_;exact zd n24 hS0 hps
 have n14:N 12 98 G0:=by
  refine zhl hops hS0 hps 0 2 7 ?_ ?_ ?_;refine zz ?_;exact zd n18 hS0 hps;refine w_o (a:=v41) ?_;exact zd n22 hS0 hps;refine w_o (a:=v46) ?_;exact zd n23 hS0 hps
 have n13:N 12 38 G0:=by
  refine zhl hops hS0 hps 0 3 6 ?_ ?_ ?_;refine zz ?_;exact zd n17 hS0 hps;refine w_o (a:=v42) ?_;exact zd n21 hS0 hps;refine w_o (a:=v45) ?_;exact zd n22 hS0 hps
 have n12:N 12 14 G0:=by
  refine zhl hops hS0 hps 0 4 5 ?_ ?_ ?_;refine zz ?_;exact zd n16 hS0 hps;refine w_o (a:=v43) ?_;exact zd n20 hS0 hps;refine zz ?_;exact zd n21 hS0 hps
 have n11:N 12 97 G0:=by
  refine zea hops hS0 hps 1 7 ?_ ?_;refine zz ?_;exact zd n18 hS0 hps;refine w_o (a:=v46) ?_;exact zd n19 hS0 hps
 have n10:N 12 35 G0:=by
  refine zea hops hS0 hps 2 6 ?_ ?_;refine w_o (a:=v41) ?_;exact zd n17 hS0 hps;refine w_o (a:=v45) ?_;exact zd n18 hS0 hps
 have n9:N 12 7 G0:=by
  refine zea hops hS0 hps 3 5 ?_ ?_;refine w_o (a:=v42) ?_;exact zd n16 hS0 hps;refine zz ?_;exact zd n17 hS0 hps
 have n8:N 13 96 G0:=by
  refine zhl hops hS0 hps 0 1 7 ?_ ?_ ?_;refine zz ?_;exact zd n11 hS0 hps;refine zz ?_;exact zd n14 hS0 hps;refine w_o (a:=v46) ?_;exact zd n15 hS0 hps
 have n7:N 13 34 G0:=by
  refine zhl hops hS0 hps 0 2 6 ?_ ?_ ?_;refine zz ?_;exact zd n10 hS0 hps;refine w_o (a:=v41) ?_;exact zd n13 hS0 hps;refine w_o (a:=v45) ?_;exact zd n14 hS0 hps
 have n6:N 13 6 G0:=by
  refine zhl hops hS0 hps 0 3 5 ?_ ?_ ?_;refine zz ?_;exact zd n9 hS0 hps;refine w_o (a:=v42) ?_;exact zd n12 hS0 hps;refine zz ?_;exact zd n13 hS0 hps
 have n5:N 13 33 G0:=by
  refine zea hops hS0 hps 1 6 ?_ ?_;refine zz ?_;exact zd n10 hS0 hps;refine w_o (a:=v45) ?_;exact zd n11 hS0 hps
 have n4:N 13 3 G0:=by
  refine zea hops hS0 hps 2 5 ?_ ?_;refine w_o (a:=v41) ?_;exact zd n9 hS0 hps;refine zz ?_;exact zd n10 hS0 hps
 have n3:N 14 32 G0:=by
  refine zhl hops hS0 hps 0 1 6 ?_ ?_ ?_;refine zz ?_;exact zd n5 hS0 hps;refine zz ?_;exact zd n7 hS0 hps;refine w_o (a:=v45) ?_;exact zd n8 hS0 hps
 have n2:N 14 2 G0:=by
  refine zhl hops hS0 hps 0 2 5 ?_ ?_ ?_;refine zz ?_;exact zd n4 hS0 hps;refine w_o (a:=v41) ?_;exact zd n6 hS0 hps;refine zz ?_;exact zd n7 hS0 hps
 have n1:N 14 1 G0:=by
  refine zea hops hS0 hps 1 5 ?_ ?_;refine zz ?_;exact zd n4 hS0 hps;refine zz ?_;exact zd n5 hS0 hps
 have n0:N 15 0 G0:=by
  refine zhl hops hS0 hps 0 1 5 ?_ ?_ ?_;refine zz ?_;exact zd n1 hS0 hps;refine zz ?_;exact zd n2 hS0 hps;refine zz ?_;exact zd n3 hS0 hps
 exact zuy n0 hps;refine zc (o:=or1) ((Rd.mk x2.2.s (x2.2.a+1) x2.2.e (z0b x2.2.q))) h ?_;exact wk_pop (q:=x2.2.q) (U1:=(.B [(110,[.s x2.2.s,.i (x2.2.a+1),.i x2.2.e,(zbb 2 (z0b x2.2.q))]),((zj r.q).1,[]),((zj (z0b x2.2.q)).1,(zj (z0b x2.2.q)).2),(27,zN),(27,(Enc.cells (x1.1:Tr)))])) g5 rfl rfl (zbp (bl 54 9007199791611902));refine zc (o:=or1) (x2.2) h ?_;exact zbp (bl 54 9007199791611902);intro j1 h;refine zeo ?_;refine zx [.v (.A (x1.1:Tr))] ?_;refine zng 8 (.B [(110,[.s j1.s,.i j1.a,.i j1.e,(zbb 2 j1.q)]),((zj r.q).1,[]),((zj j1.q).1,(zj j1.q).2),(27,(Enc.cells (x1.1:Tr))),(27,(Enc.cells (x1.1:Tr)))]) ?_;have he1:=Option.some.inj h;subst he1;exact zfr (a:= .A (x1.1:Tr)) [2] 1 rfl rfl (zn _ _ _ (zp (Enc.clo _))) (zap rfl (zld fun _=>rfl) zk (zh rfl (zo _ _ _) zae) rfl)
end Go.Ab
