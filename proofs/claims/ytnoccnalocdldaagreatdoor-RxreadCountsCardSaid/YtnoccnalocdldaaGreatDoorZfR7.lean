import Derived.Test.YtnoccnalocdldaaGreatDoorZfBl
import Derived.Lib.FrozenHead
set_option linter.all false
set_option maxRecDepth 100000
set_option maxHeartbeats 4000000
open Sum (inl inr)
open Nat (le_refl zero_add lt_or_ge le_of_ble_eq_true)
open Option (map_some getD_some)
open List (length length_cons length_append mem_of_getElem? length_nil getElem?_eq_getElem getElem?_append_left mem_append cons_append nil_append mem_cons getElem?_set_ne getElem?_set_self getElem?_map mem_map isEmpty length_take)
open Go.Proofs.Tryz (prog)
namespace Go.Ab
open Go Go.RowKit Go.Fwd
theorem z1v {js:List Nat} {n i:Nat} (h:i<js.length):fwN js n i=js[i]:=by simp[fwN,h]
theorem qpt {js:List Nat} {n i:Nat} (h:js.length<=i):fwN js n i=n+(i-js.length):=by simp[fwN,h]
theorem z1p {IT:IterP} (hIT:ITMono IT) {P:Program} {f:FuncId} {args args0:List AV} {r r0:AV} {bs bs':List (TypeId×List AV)} {τ τ':St} (js:List Nat)
 (h:Snd IT P f args0 ⟨bs,[],[],0,false⟩ r0 ⟨bs',[],[],0,false⟩) (hargs:zac 0 (bwz js) args=args0) (hr0:zib 0 (fwz js τ.boxes.length) r0=r)
 (hj:js.length=bs.length) (hnd:js.Nodup) (hle:bs.length<=bs'.length)
 (hb: ∀i t cs,bs[i]? =some (t,cs)-> ∃C,τ.boxes[fwN js 0 i]? =some (t,C)/\ zac 0 (bwz js) C=cs/\ C≠[])
 (hb1: ∀i t cs,bs'[i]? =some (t,cs)->τ'.boxes[fwN js τ.boxes.length i]? =some (t,zac 0 (fwz js τ.boxes.length) cs))
 (hb2: ∀s,s<τ.boxes.length->s∉js->τ'.boxes[s]? =τ.boxes[s]?) (hlen:τ'.boxes.length=τ.boxes.length+(bs'.length-bs.length))
 (hl:τ'.lens=τ.lens) (he:τ'.elems=τ.elems):Snd IT P f args τ r τ':=by
 refine⟨h.1,fun X vs hI hr=> ?_⟩;have hXl:=hI.κlen
 -- where the boxes are
 have hjs: ∀i (hi:i<js.length),∃t C,τ.boxes[js[i]]? =some (t,C)/\ (∃cs,bs[i]? =some (t,cs)/\ zac 0 (bwz js) C=cs)/\ C≠[]:=fun i hi=>by
  have hi2:i<bs.length:=by omega
  obtain⟨C,h1,h2,h3⟩:=hb i bs[i].1 bs[i].2 (getElem?_eq_getElem hi2);rw[z1v hi] at h1;exact⟨_,C,h1,⟨_,getElem?_eq_getElem hi2,h2⟩,h3⟩
 have hjlt: ∀i (hi:i<js.length),js[i]<X.κ.length:=fun i hi=>by
  obtain⟨t,C,h1,_⟩:=hjs i hi;rw[hXl];exact(List.getElem?_eq_some_iff.1 h1).1
 let κ0:List Nat:=js.map fun j=>X.κ.getD j 0
 have hκ0l:κ0.length=js.length:=by simp[κ0]
 have hκ0: ∀i (hi:i<js.length) b,κ0[i]? =some b->X.κ[js[i]]? =some b:=fun i hi b hb=>by
  have:=hjlt i hi;simp only[κ0,getElem?_map,getElem?_eq_getElem hi,map_some,List.getD_eq_getElem?_getD,getElem?_eq_getElem this,getD_some,Option.some.injEq] at hb;rw[getElem?_eq_getElem this,hb]
 have hκ0i: ∀i (hi:i<js.length) b,X.κ[js[i]]? =some b->κ0[i]? =some b:=fun i hi b hb=>by
  have:=hjlt i hi;rw[getElem?_eq_getElem this] at hb;simp only[κ0,getElem?_map,getElem?_eq_getElem hi,map_some,List.getD_eq_getElem?_getD,getElem?_eq_getElem this,getD_some];exact hb
 have hκm: ∀b∈κ0,b∈X.κ:=fun b hb=>by
  obtain⟨i,hi⟩:=List.mem_iff_getElem?.1 hb;have hl:i<js.length:=by rw[<-hκ0l];exact(List.getElem?_eq_some_iff.1 hi).1
  exact mem_of_getElem? (hκ0 i hl b hi)
 let X0:Cx:=⟨X.F,κ0,[],[],X.w,fun _=>False,fun _ _=>False⟩
 have hg0:(∀s off v,Rep IT X (.ptr s off) v->Rep IT X0 ((bwz js).1 s off) v)/\ ∀s off n sz f v,Rep IT X (.bsl s off n sz f) v->Rep IT X0 ((bwz js).2 s off n sz) v:=by
  have key: ∀s b:Nat,js.contains s=true->X.κ[s]? =some b->κ0[js.idxOf s]? =some b:=fun s b hs hb=>by
   have hm:s∈js:=by simpa using hs
   have hlt:=List.idxOf_lt_length_of_mem hm;refine hκ0i _ hlt b ?_;rw[List.getElem_idxOf hlt];exact hb
  refine⟨?_,?_⟩
  ·rintro s off v ⟨b,hb,rfl⟩;show Rep IT X0 (if js.contains s then .ptr (js.idxOf s) off else .top) _;split
   ·rename_i hs;exact⟨b,key s b hs hb,rfl⟩
   ·rw[Rep];trivial
  ·rintro s off n sz f v ⟨b,cap,cur,t,hb,rfl,hcap,hful,hrow,hfit⟩;show Rep IT X0 (if js.contains s then .bsl (js.idxOf s) off n sz false else .top) _;split
   ·rename_i hs;exact⟨b,cap,cur,t,key s b hs hb,rfl,hcap,(fun h=>by cases h),hrow,hfit⟩
   ·rw[Rep];trivial
 have hmL:=zdp (X:=X) (Y:=X0) (m:=0) hIT (fun _ _ h=>h) rfl (fun s hs=>by omega) hg0;have hr':zbo IT X0 args0 vs:=hargs▸hmL args vs hr
 -- which numbers say the same block
 have hsame: ∀i j (hi:i<js.length) (hj2:j<js.length) b,κ0[i]? =some b->κ0[j]? =some b->i=j:=fun i j hi hj2 b h1 h2=>by
  apply Classical.byContradiction;intro hne;have hne2:js[i]≠js[j]:=fun e=>hne ((List.getElem_inj hnd).1 e);obtain⟨t1,C1,a1,_,c1⟩:=hjs i hi;obtain⟨t2,C2,a2,_,c2⟩:=hjs j hj2;rcases hI.κnd _ _ b (hκ0 i hi b h1) (hκ0 j hj2 b h2) hne2 with⟨t,h3⟩|⟨t,h3⟩
  ·rw[a1] at h3;cases h3;exact c1 rfl
  ·rw[a2] at h3;cases h3;exact c2 rfl
 have hI0:Inv IT ⟨bs,[],[],0,false⟩ X0:={
  lens:=rfl,elems:=rfl,κlen:=by show κ0.length=bs.length;omega
  κnd:=fun s1 s2 b1 h1 h2 h3=>by
   have e1:=(List.getElem?_eq_some_iff.1 h1).1;have e2:=(List.getElem?_eq_some_iff.1 h2).1;have e1:s1<κ0.length:=e1;have e2:s2<κ0.length:=e2;exact absurd (hsame s1 s2 (by omega) (by omega) b1 h1 h2) h3
  box:=fun i b t cs h1 h2=>by
   have hi:i<js.length:=by rw[hj];exact(List.getElem?_eq_some_iff.1 h2).1
   obtain⟨t1,C,a1,⟨cs1,a2,a3⟩,a4⟩:=hjs i hi;have h2:bs[i]? =some (t,cs):=h2;rw[h2] at a2;cases a2;obtain⟨us,zs,u1,u2,u3⟩:=hI.box _ b t C (hκ0 i hi b h1) a1;exact⟨us,zs,u1,a3▸hmL C us u2,u3⟩
  κF:=fun i b t cs h1 h2 h3=>by
   have hi:i<js.length:=by rw[hj];exact(List.getElem?_eq_some_iff.1 h2).1
   obtain⟨t1,C,a1,_,a4⟩:=hjs i hi;exact hI.κF _ b t1 C (hκ0 i hi b h1) a1 a4
  βlen:=rfl,βnd:=List.nodup_nil
  βκ:=fun r h=>by simp[X0] at h
  row:=fun s r L h=>by simp[X0] at h
  Ok:=fun b h=>h.elim
  Fcell:=hI.Fcell
  gv:=hI.gv}
 refine(h.2 X0 vs hI0 hr').mono ?_;rintro e w' ⟨v,Y,rfl,rfl,hE,hIY,hv⟩;have hYl:Y.κ.length=bs'.length:=hIY.κlen;have hYκ: ∀i (hi:i<js.length) b,Y.κ[i]? =some b->X.κ[js[i]]? =some b:=fun i hi b hb=>by
  obtain⟨b0,h0⟩: ∃b0,κ0[i]? =some b0:=⟨_,getElem?_eq_getElem (by omega)⟩;have:=hE.κ i b0 h0;rw[hb] at this;cases this;exact hκ0 i hi b h0
 have hYnew: ∀i b:Nat,js.length<=i->Y.κ[i]? =some b->b∉κ0->X.w.heap.size<=b:=fun i b hi hb hn=>by
  rcases hE.κnew b (mem_of_getElem? hb) with h|h
  ·exact absurd h hn
  ·exact h
 have hblk: ∀b,b<X.w.heap.size->b∉κ0->Y.w.heap[b]? =X.w.heap[b]? :=fun b hb hn=>hE.frame b hb hn (by simp[X0]);have hFn: ∀b' i,Y.F b' i->X.F b' i \/X.w.heap.size<=b' \/b'∈κ0:=fun b' i hf=>by
  rcases hE.Fnew b' i hf with h|h|⟨q,hq,_⟩|h
  ·exact .inl h
  ·exact .inr (.inl h)
  ·simp[X0] at hq
  ·exact .inr (.inr h)
 let K:List Nat:=X.κ++Y.κ.drop js.length
 let Z:Cx:=⟨Y.F,K,X.β,X.lens,Y.w,X.O,X.C⟩
 have hKo: ∀s b:Nat,X.κ[s]? =some b->K[s]? =some b:=fun s b hs=>by
  show(X.κ++_)[s]? =some b
  rw[getElem?_append_left (List.getElem?_eq_some_iff.1 hs).1];exact hs
 have hKi: ∀s b:Nat,K[s]? =some b->(s<τ.boxes.length/\ X.κ[s]? =some b) \/(τ.boxes.length<=s/\ Y.κ[js.length+(s-τ.boxes.length)]? =some b):=fun s b hs=>by
  have hs:(X.κ++Y.κ.drop js.length)[s]? =some b:=hs;rcases lt_or_ge s X.κ.length with hlt|hge
  ·rw[getElem?_append_left hlt] at hs;exact .inl ⟨by omega,hs⟩
  ·rw[List.getElem?_append_right hge,List.getElem?_drop,hXl] at hs;exact .inr ⟨by omega,hs⟩
 have hKf: ∀i b:Nat,Y.κ[i]? =some b->K[fwN js τ.boxes.length i]? =some b:=fun i b hb=>by
  rcases lt_or_ge i js.length with hlt|hge
  ·rw[z1v hlt];exact hKo _ b (hYκ i hlt b hb)
  ·rw[qpt hge]
   show(X.κ++Y.κ.drop js.length)[_]? =some b
   rw[List.getElem?_append_right (by omega),List.getElem?_drop,show js.length+(τ.boxes.length+(i-js.length)-X.κ.length)=i by omega];exact hb
 have hg1:(∀s off v,Rep IT Y (.ptr s off) v->Rep IT Z ((fwz js τ.boxes.length).1 s off) v)/\ ∀s off n sz f v,Rep IT Y (.bsl s off n sz f) v->Rep IT Z ((fwz js τ.boxes.length).2 s off n sz) v:=by
  refine⟨?_,?_⟩
  ·rintro s off v ⟨b,hb,rfl⟩;exact⟨b,hKf s b hb,rfl⟩
  ·rintro s off n sz f v ⟨b,cap,cur,t,hb,rfl,hcap,hful,hrow,hfit⟩;exact⟨b,cap,cur,t,hKf s b hb,rfl,hcap,(fun h=>by cases h),hrow,hfit⟩
 have hrep:=zlh (X:=Y) (Y:=Z) (m:=0) hIT (fun _ _ h=>h) rfl (fun s hs=>by omega) hg1;have hrepL:=zdp (X:=Y) (Y:=Z) (m:=0) hIT (fun _ _ h=>h) rfl (fun s hs=>by omega) hg1
 have hX:Ext X Z:={
  os:=hE.os,tape:=hE.tape,output:=hE.output,size:=hE.size,drawn:=hE.drawn,F:=hE.F,cell:=hE.cell
  κ:=hKo
  lens:=fun s L h=>⟨L,h,le_refl _,fun _=>rfl⟩
  blk:=fun s' b' hs cur' t' f' hc=>by
   by_cases e:b'∈κ0
   ·obtain⟨i,hi⟩:=List.mem_iff_getElem?.1 e;exact hE.blk i b' hi cur' t' f' hc
   ·exact⟨cur',(hblk b' (hI.κlt (mem_of_getElem? hs)) e).trans hc,rfl⟩
  szs:=hE.szs
  frame:=fun b' hb' hk _=>hblk b' hb' fun e=>hk (hκm b' e)
  κnew:=fun b hb=>by
   obtain⟨s,hs⟩:=List.mem_iff_getElem?.1 hb;rcases hKi s b hs with⟨_,h⟩|⟨_,h⟩
   ·exact .inl (mem_of_getElem? h)
   ·by_cases e:b∈κ0
    ·exact .inl (hκm b e)
    ·exact .inr (hYnew _ b (by omega) h e)
  βnew:=fun r h=> .inl ⟨r,h,rfl⟩
  O:=rfl
  C:=rfl
  Fnew:=fun b' i hf=>by
   rcases hFn b' i hf with h|h|h
   ·exact .inl h
   ·exact .inr (.inl h)
   ·exact .inr (.inr (.inr (hκm b' h)))}
 -- a box of the others that says one of these blocks is empty
 have hdead: ∀(s':Nat) (t':TypeId) (c':List AV) (b:Nat),b∈κ0->X.κ[s']? =some b->s'∉js->τ.boxes[s']? =some (t',c')->c'=[]:=fun s' t' c' b hb h1 h2 h3=>by
  obtain⟨i,hi⟩:=List.mem_iff_getElem?.1 hb;have hl2:i<js.length:=by rw[<-hκ0l];exact(List.getElem?_eq_some_iff.1 hi).1
  obtain⟨t1,C,a1,_,a4⟩:=hjs i hl2;have hne:s'≠js[i]:=fun e=>h2 (e▸List.getElem_mem hl2);rcases hI.κnd s' _ b h1 (hκ0 i hl2 b hi) hne with⟨t2,h4⟩|⟨t2,h4⟩
  ·rw[h3] at h4;cases h4;rfl
  ·rw[a1] at h4;cases h4;exact absurd rfl a4
 have hmap_ne: ∀(cs:List AV),zac 0 (fwz js τ.boxes.length) cs≠[]->cs≠[]:=fun cs h e=>h (by rw[e,zac])
 -- the boxes behind it, by their numbers
 have new: ∀(s b:Nat) (t:TypeId) (cs:List AV),K[s]? =some b->τ'.boxes[s]? =some (t,cs)->(s<τ.boxes.length/\ s∉js/\ X.κ[s]? =some b/\ τ.boxes[s]? =some (t,cs)) \/(∃i c,s=fwN js τ.boxes.length i/\ Y.κ[i]? =some b/\ bs'[i]? =some (t,c)/\ cs=zac 0 (fwz js τ.boxes.length) c):=fun s b t cs hs hb'=>by
  rcases hKi s b hs with⟨hlt,h⟩|⟨hge,h⟩
  ·by_cases hm:s∈js
   ·right
    have hlt2:=List.idxOf_lt_length_of_mem hm;have hs2:js[js.idxOf s]=s:=List.getElem_idxOf hlt2;have hi2:js.idxOf s<bs'.length:=by omega
    refine⟨js.idxOf s,bs'[js.idxOf s].2,by rw[z1v hlt2,hs2],?_,?_,?_⟩
    ·have:κ0[js.idxOf s]? =some b:=hκ0i _ hlt2 b (by rw[hs2];exact h);exact hE.κ _ b this
    ·have h1:=hb1 (js.idxOf s) bs'[js.idxOf s].1 bs'[js.idxOf s].2 (getElem?_eq_getElem hi2);rw[z1v hlt2,hs2,hb'] at h1;cases h1;exact getElem?_eq_getElem hi2
    ·have h1:=hb1 (js.idxOf s) bs'[js.idxOf s].1 bs'[js.idxOf s].2 (getElem?_eq_getElem hi2);rw[z1v hlt2,hs2,hb'] at h1;cases h1;rfl
   ·left
    rw[hb2 s hlt hm] at hb';exact⟨hlt,hm,h,hb'⟩
  ·right
   have hi2:js.length+(s-τ.boxes.length)<bs'.length:=by
    have:=(List.getElem?_eq_some_iff.1 h).1;omega
   have hfs:fwN js τ.boxes.length (js.length+(s-τ.boxes.length))=s:=by rw[qpt (by omega)];omega
   have h1:=hb1 _ _ _ (getElem?_eq_getElem hi2);rw[hfs,hb'] at h1;cases h1;exact⟨_,_,hfs.symm,h,getElem?_eq_getElem hi2,rfl⟩
 have get': ∀s b:Nat,K[s]? =some b-> ∃t cs,τ'.boxes[s]? =some (t,cs):=fun s b hs=>by
  have h1:=(List.getElem?_eq_some_iff.1 hs).1;have h1:s<(X.κ++Y.κ.drop js.length).length:=h1;rw[length_append,List.length_drop] at h1;exact⟨_,_,getElem?_eq_getElem (by omega)⟩
 refine⟨v,Z,rfl,rfl,hX,{lens:=hI.lens.trans hl.symm,elems:=hI.elems.trans he.symm,κlen:= ?_,κnd:= ?_,box:= ?_,κF:= ?_,βlen:=hI.βlen,βnd:=hI.βnd,βκ:= ?_,row:= ?_,Ok:= ?_,Fcell:=hIY.Fcell,gv:=hIY.gv},hr0▸hrep r0 v hv⟩
 ·show(X.κ++Y.κ.drop js.length).length=_
  rw[length_append,List.length_drop,hlen];omega
 ·intro s1 s2 b1 h1 h2 h3;obtain⟨t1,c1,g1⟩:=get' s1 b1 h1;obtain⟨t2,c2,g2⟩:=get' s2 b1 h2
  show(∃t,τ'.boxes[s1]? =some (t,[])) \/ ∃t,τ'.boxes[s2]? =some (t,[])
  rcases new s1 b1 t1 c1 h1 g1 with⟨p1,p2,p3,p4⟩|⟨i1,e1,p1,p2,p3,p4⟩<;>rcases new s2 b1 t2 c2 h2 g2 with⟨q1,q2,q3,q4⟩|⟨i2,e2,q1,q2,q3,q4⟩
  ·rcases hI.κnd s1 s2 b1 p3 q3 h3 with⟨t,h⟩|⟨t,h⟩
   ·rw[p4] at h;cases h;exact .inl ⟨_,g1⟩
   ·rw[q4] at h;cases h;exact .inr ⟨_,g2⟩
  ·left
   by_cases e:b1∈κ0
   ·have:=hdead s1 t1 c1 b1 e p3 p2 p4;subst this;exact⟨_,g1⟩
   ·have hge:js.length<=i2:=Nat.le_of_not_lt fun hlt=>e (by
     obtain⟨b0,h0⟩: ∃b0,κ0[i2]? =some b0:=⟨_,getElem?_eq_getElem (by omega)⟩;have:=hE.κ i2 b0 h0;rw[q2] at this;cases this;exact mem_of_getElem? h0)
    have:=hYnew i2 b1 hge q2 e;have:=hI.κlt (mem_of_getElem? p3);omega
  ·right
   by_cases e:b1∈κ0
   ·have:=hdead s2 t2 c2 b1 e q3 q2 q4;subst this;exact⟨_,g2⟩
   ·have hge:js.length<=i1:=Nat.le_of_not_lt fun hlt=>e (by
     obtain⟨b0,h0⟩: ∃b0,κ0[i1]? =some b0:=⟨_,getElem?_eq_getElem (by omega)⟩;have:=hE.κ i1 b0 h0;rw[p2] at this;cases this;exact mem_of_getElem? h0)
    have:=hYnew i1 b1 hge p2 e;have:=hI.κlt (mem_of_getElem? q3);omega
  ·have hne:i1≠i2:=fun e=>h3 (by rw[p1,q1,e]);rcases hIY.κnd i1 i2 b1 p2 q2 hne with⟨t,h⟩|⟨t,h⟩
   ·have h:bs'[i1]? =some (t,[]):=h;rw[p3] at h;cases h;exact .inl ⟨t1,by rw[g1,p4,zac]⟩
   ·have h:bs'[i2]? =some (t,[]):=h;rw[q3] at h;cases h;exact .inr ⟨t2,by rw[g2,q4,zac]⟩
 ·intro s b t cs hs hb';rcases new s b t cs hs hb' with⟨p1,p2,p3,p4⟩|⟨i,c,p1,p2,p3,p4⟩
  ·obtain⟨us1,zs1,v1,v2,v3⟩:=hI.box s b t cs p3 p4;by_cases e:b∈κ0
   ·obtain rfl:=hdead s t cs b e p3 p2 p4;obtain⟨i,hi⟩:=List.mem_iff_getElem?.1 e;obtain⟨cur',k1,k2⟩:=hE.blk i b hi _ _ _ v1;exact⟨[],cur'.toList,by simpa using k1,rfl,fun v hv=>by cases hv⟩
   ·exact⟨us1,zs1,(hblk b (hI.κlt (mem_of_getElem? p3)) e).trans v1,zau hIT hX _ _ v2,v3⟩
  ·obtain⟨us,zs,q1,q2,q3⟩:=hIY.box i b t c p2 p3;exact⟨us,zs,q1,p4▸hrepL c us q2,q3⟩
 ·intro s b t cs hs hb' hne' o hf;rcases new s b t cs hs hb' with⟨p1,p2,p3,p4⟩|⟨i,c,p1,p2,p3,p4⟩
  ·rcases hFn b o hf with h|h|h
   ·exact hI.κF s b t cs p3 p4 hne' o h
   ·have:=hI.κlt (mem_of_getElem? p3);omega
   ·exact hne' (hdead s t cs b h p3 p2 p4)
  ·exact hIY.κF i b t c p2 p3 (hmap_ne c (p4▸hne')) o hf
 ·intro r hr2 hm;obtain⟨s,hs⟩:=List.mem_iff_getElem?.1 hm;rcases hKi s _ hs with⟨_,h⟩|⟨_,h⟩
  ·exact hI.βκ r hr2 (mem_of_getElem? h)
  ·by_cases e:r.block∈κ0
   ·exact hI.βκ r hr2 (hκm _ e)
   ·have:=hYnew _ _ (by omega) h e;have:=hI.βlt hr2;omega
 ·intro s' q L hq hL;obtain⟨cur',fz,c1,c2,c3,c4,c5,c6,c7⟩:=hI.row s' q L hq hL;have hlt:=hI.βlt (mem_of_getElem? hq);have hnb:q.block∉κ0:=fun e=>hI.βκ q (mem_of_getElem? hq) (hκm _ e);refine⟨cur',fz,(hblk _ hlt hnb).trans c1,c2,c3,c4,c5,fun o hf=> ?_,c7⟩;rcases hFn _ o hf with h|h|h
  ·exact c6 o h
  ·omega
  ·exact absurd h hnb
 ·intro b' ho;obtain⟨⟨cs0,t0,f0,h0⟩,h2,h3,h4⟩:=hI.Ok b' ho;have hlt:=hI.Olt ho;have hnb:b'∉κ0:=fun e=>h2 (hκm _ e);refine⟨⟨cs0,t0,f0,(hblk b' hlt hnb).trans h0⟩,fun hm=> ?_,h3,fun o hf=> ?_⟩
  ·obtain⟨s,hs⟩:=List.mem_iff_getElem?.1 hm;rcases hKi s _ hs with⟨_,h⟩|⟨_,h⟩
   ·exact h2 (mem_of_getElem? h)
   ·have:=hYnew _ _ (by omega) h hnb;omega
  ·rcases hFn b' o hf with h|h|h
   ·exact h4 o h
   ·omega
   ·exact absurd h hnb
variable {P:Program} {U:St}
theorem zqb (hmix:P.follows .mixedOrders=true) {f:FuncId} {fn:Func} {c:Code} {args S1:List AV} {U U1:St} {Q:AQ} {X:Cx} {vs:List Value} {R:Ending->World->Prop} {M:Option Gen} (hG:zun P X.w.heap.size M)(hf:P.funcs[f]? =some fn)(hb:fn.body=some c)
 {k0:Nat} (hk0:U.boxes.length=k0) (hwk:Wk k0 (zaq fn args) U S1 U1) (h:awp (ITP P) P (zdy M) k0 c Q S1 U1) (hI:Inv (ITP P) U X) (hM:FrM M U X) (hr:zbo (ITP P) X args vs)
 (hQ: ∀e S U' Y,Q e S U'->Rel M X Y->Inv (ITP P) U' Y->FrM M U' Y->(e= .normal \/e= .ret)/\ ∃a,zav P fn U' S=some a/\ ∀v,Rep (ITP P) Y a v->R (.returned v) Y.w):Calls P f vs.toArray X.w R:=by
 refine(callsIn_wide (n:=3)).1 (callsIn_of_wp_marks hf hb trivial ?_ rfl);have hlen:=zu hr;have hreps:znx (ITP P) X (zaq fn args) (vs.toArray++Array.replicate (fn.ntmps-vs.toArray.size) undef):=by
  unfold znx zaq;have e:(vs.toArray++Array.replicate (fn.ntmps-vs.toArray.size) undef).toList=vs++List.replicate (fn.ntmps-args.length) undef:=by simp[hlen]
  rw[e];refine zbq hr (zgk (by simp) fun i a v h1 h2=> ?_);have h1:=List.eq_of_mem_replicate (mem_of_getElem? h1);have h2:=List.eq_of_mem_replicate (mem_of_getElem? h2);subst h1 h2;rw[Rep]
 obtain⟨X1,hX1,hn1⟩:=z2s (M:=M) (zh P) (F:=Fence.wide) (B:=X.w.heap.size) (a:={tmps:=vs.toArray++Array.replicate (fn.ntmps-vs.toArray.size) undef,defers:=[]}) (Nat.le_of_eq (hI.κlen.trans hk0)) hwk
  ⟨Rel.of (Ext.refl X),hI,hreps,⟨le_refl _,fun _=>⟨le_refl _,[],rfl,List.nodup_nil,by simp⟩,fun h=>absurd rfl h⟩,hM⟩
 rw[<-hX1];refine zwb hmix c (M:=M) (B:=X.w.heap.size) hG (zsp P) k0 Q _ U1 X X1 {tmps:=vs.toArray++Array.replicate (fn.ntmps-vs.toArray.size) undef,defers:=[]} _ (Nat.le_of_eq (hI.κlen.trans hk0)) ⟨le_refl _,U,hI⟩ h hn1 (.inl (.inl rfl)) ?_;intro e S U' Y a hq hn;obtain⟨_,Ds,d1,d2,d3⟩:=hn.marks.2.1 rfl;have key:(e= .normal \/e= .ret)/\ LeavesInM Fence.wide 3 P fn a.tmps R a.defers .returning Y.w:=by
  obtain⟨he,_⟩:=hQ e S U' Y hq hn.ext hn.inv hn.frn;refine⟨he,?_⟩;rw[d1];refine zmk (B:=X.w.heap.size) Ds Y.w d2 d3 fun W' hT=> ?_;obtain⟨k1,k2,k3,_,k5⟩:=zme (N:=fun _=>False) (NB:=fun _=>False) (Bm:=X.w.heap.size) hG (le_refl _) (fun _ h=>h.elim) (RelB.of hn.ext) hn.inv hn.frn (zlq M Y) (le_refl _) (zkf hn.inv (zlq M Y) hn.ext.size hT);obtain⟨_,x,hx,hv⟩:=hQ e S U' _ hq (k1.to fun _ h=>h.elim) k2 k3;obtain⟨v,r1,r2⟩:=zoe (P:=P) (fn:=fn) hx (show znx (ITP P) {Y with w:=W'} S a.tmps from zbw (zh P) k5 _ _ hn.reps) k2;exact⟨v,r1,hv v r2⟩
 obtain⟨he,hl⟩:=key;rcases he with rfl|rfl<;>exact hl
theorem qfu (hmix:P.follows .mixedOrders=true) {f:FuncId} {fn:Func} {c:Code} {args S1:List AV} {U U1 U':St} {r:AV} (hf:P.funcs[f]? =some fn)(hb:fn.body=some c)(he:Ent P f)(hwk:Wk U.boxes.length (zaq fn args) U S1 U1)
 (h:awp (ITP P) P none U.boxes.length c (aendS P fn U.boxes.length U.lens.length r U') S1 U1):Snd (ITP P) P f args U r U':=by
 refine⟨he,fun X vs hI hr=>zqb (M:=none) hmix trivial hf hb rfl hwk h hI trivial hr ?_⟩;intro e S U1 Y hq (hE:Ext X Y) hIY _;have hκn:=hI.κlen
 have fin: ∀a,zav P fn U1 S=some a->z6v P U.boxes.length U.lens.length U1 a r U'-> ∃a,zav P fn U1 S=some a/\ ∀v,Rep (ITP P) Y a v->
  ∃v' X',Ending.returned v= .returned v'/\ X'.w=Y.w/\ Ext X X'/\ Inv (ITP P) U' X'/\ Rep (ITP P) X' r v':=fun a h1 h2=>⟨a,h1,fun v hv=>by
  obtain⟨X',k1,k2,k3,k4⟩:=h2 X Y v hE hκn (by rw[hI.lens]) hIY hv;exact⟨v,X',rfl,k1,k2,k3,k4⟩⟩
 cases e with
 |normal=>obtain⟨a,h1,h2⟩:=hq;exact⟨.inl rfl,fin a h1 h2⟩
 |ret=>obtain⟨a,h1,h2⟩:=hq;exact⟨.inr rfl,fin a h1 h2⟩
 |exit id=>exact hq.elim
theorem z4g (hmix:P.follows .mixedOrders=true) {g:FuncId} {fn:Func} {c:Code} {caps:List AV} {bs bs':List (TypeId×List AV)} {rows:List (List AV)} (hf:P.funcs[g]? =some fn)(hb:fn.body=some c)
    (h: ∀G:Gen,G.rows=rows-> ∃S1 U1,Wk bs.length (zaq fn (.yld G.l::caps)) ⟨bs,[],[],0,false⟩ S1 U1/\ awp (ITP P) P (some G) bs.length c (aendGS P fn rows.length bs.length bs') S1 U1):qcg P g caps bs rows bs':=by
  intro F0 w0 O C κ0 lb hgv hκl hnd hbox hnF hcaps hcell l W J Jx s0 hc hz hsz hN hG hF0 hO hC hJ;have hheap: ∀b∈κ0,W.heap[b]? =w0.heap[b]? :=fun b hb=>(hN b hb).1;have hsub:Sub ⟨F0,κ0,[],[],w0,O,C⟩ ⟨F0,κ0,[],[],W,s0.O,s0.C⟩:=⟨fun _ _ h=>h,fun b o hf=>(hc b o hf).2,fun s b h=>h,fun s L h=>by simp at h,fun s b h cur t f e=>⟨cur,(hheap b (mem_of_getElem? h)).trans e,rfl⟩,hz⟩
  have hI:Inv (ITP P) ⟨bs,[],[],0,false⟩ ⟨F0,κ0,[],[],W,s0.O,s0.C⟩:=
    { lens:=rfl,elems:=rfl,κlen:=hκl
      κnd:=fun s s' b' h1 h2 hne=>by
        obtain⟨k1,e1⟩:=List.getElem?_eq_some_iff.1 h1;obtain⟨k2,e2⟩:=List.getElem?_eq_some_iff.1 h2;exact absurd ((List.getElem_inj hnd).1 (e1.trans e2.symm)) hne
      box:=fun s b t cs h1 h2=>by
        obtain⟨vs,zs,u1,u2,u3⟩:=hbox s b t cs h1 h2;exact⟨vs,zs,(hheap b (mem_of_getElem? h1)).trans u1,zbw (zh P) hsub _ _ u2,u3⟩
      κF:=fun s b t cs h1 _ _ o=>hnF b (mem_of_getElem? h1) o
      βlen:=rfl,βnd:=List.nodup_nil,βκ:=fun r h=>by simp at h
      row:=fun s r L h=>by simp at h
      Ok:=fun b hb=>⟨hO b hb,fun hm=>(hN b hm).2.1 hb,by simp,fun o hf=>(hF0 b o hf).resolve_left (fun h=>h hb)⟩
      Fcell:=fun b o hf=>(hc b o hf).1
      gv:=(zh P).gv _ _ _ _ (fun _ _ h=>h) (fun b o hf=>(hc b o hf).2) hz hgv}
  have hr':zbo (ITP P) ⟨F0,κ0,[],[],W,s0.O,s0.C⟩ (.yld l::caps) (.func (.yield l) #[] #[]::lb):=⟨_,_,rfl,rfl,zbw (zh P) hsub _ _ hcaps⟩
  have hFr:FrM (some ⟨W.heap.size,F0,l,rows,J,Jx,fun k=>k∈κ0⟩) ⟨bs,[],[],0,false⟩ ⟨F0,κ0,[],[],W,s0.O,s0.C⟩:=
    ⟨s0,fun _=>Iff.rfl,⟨fun _ _=>Iff.rfl,fun b' o hc'=> .inr ⟨hC b' o hc',fun hm=>(hN b' hm).2.2 o hc',by simp⟩⟩,hJ,le_refl _,fun b' hm=> .inr hm,by simp,fun b o hf=> .inl hf⟩
  have e:(#[.func (.yield l) #[] #[]]++lb.toArray:Array Value)=(Value.func (.yield l) #[] #[]::lb).toArray:=by simp
  rw[e];obtain⟨S1,U1,hwk0,hawp⟩:=h ⟨W.heap.size,F0,l,rows,J,Jx,fun k=>k∈κ0⟩ rfl;refine zqb (M:=some ⟨W.heap.size,F0,l,rows,J,Jx,fun k=>k∈κ0⟩) (X:=⟨F0,κ0,[],[],W,s0.O,s0.C⟩) hmix ⟨hG,le_refl _⟩ hf hb (k0:=bs.length) rfl hwk0 hawp hI hFr hr' ?_;intro e S U' Y hq hE hIY hF;have fin:(∃a,zav P fn U' S=some a)/\ (U'.stop=true \/(U'.out=rows.length/\ ∃U2,Wk bs.length [] U' [] U2/\ U2.boxes=bs'/\ (bs'.all fun b=>zhu b.2)=true))-> ∃a,zav P fn U' S=some a/\ ∀v,Rep (ITP P) Y a v->(∃v',Ending.returned v= .returned v')/\ ∃s,(J rows.length s Y.w/\ qha P κ0 bs' w0.heap.size s Y.w) \/Jx s Y.w:=fun⟨⟨a,h1⟩,h2⟩=>by
    refine⟨a,h1,fun v _=>⟨⟨v,rfl⟩,?_⟩⟩;by_cases hst:U'.stop=true
    . obtain⟨s,_,_,h3,_⟩:Fr _ U' Y:=hF
      rw[if_pos hst] at h3;exact⟨s,.inr h3⟩
    obtain⟨hout,U2,hwk,hbs,hflat⟩:=h2.resolve_left hst
    obtain⟨X',hw,hn⟩:=z2s (M:=some ⟨W.heap.size,F0,l,rows,J,Jx,fun k=>k∈κ0⟩) (zh P) (F:=Fence.wide.inRound 0) (B:=0) (a:={tmps:= #[],defers:=[]}) (Nat.le_of_eq hκl) hwk
      ⟨hE,hIY,by unfold znx;rw[zbo],⟨Nat.zero_le _,fun h=>absurd h (znd 0),fun _=>rfl⟩,hF⟩
    have hE':ExtG W.heap.size ⟨F0,κ0,[],[],W,s0.O,s0.C⟩ X':=hn.ext;obtain⟨s,f1,f2,f3,f4,f5,f6,f7⟩:Fr ⟨W.heap.size,F0,l,rows,J,Jx,fun k=>k∈κ0⟩ U2 X':=hn.frn;obtain⟨o1,o2⟩:=wk_out hwk;rw[if_neg (by rw[o2];exact hst),o1,hout] at f3;refine⟨s,.inl ⟨hw▸f3,?_⟩⟩;have hI2:=hn.inv;refine⟨X'.κ,by rw[hI2.κlen,hbs],fun i b h=>hE'.κ i b h,fun i j b h1 h2 h3=>by rw[<-hbs];exact hI2.κnd i j b h1 h2 h3,fun b hb=>⟨(hE'.κnew b hb).imp id (fun h=>Nat.le_trans hsz h),fun ho=>(hI2.Ok b ((f1 b).1 ho)).2.1 hb⟩,fun i b t cs h1 h2=> ?_⟩;have h2':U2.boxes[i]? =some (t,cs):=by rw[hbs];exact h2
    obtain⟨vs,zs,u1,u2,u3⟩:=hI2.box i b t cs h1 h2';have hfl:zhu cs=true:=List.all_eq_true.1 hflat (t,cs) (mem_of_getElem? h2);refine⟨⟨vs,zs,hw▸u1,z3g (X:=X') (Y:=⟨fun _ _=>False,X'.κ,[],[],Y.w,fun _=>False,fun _ _=>False⟩) rfl hw.symm cs vs hfl u2,u3⟩,fun hne o hC'=> ?_⟩;rcases f2.2 b o hC' with h|⟨_,h,_⟩
    . exact hI2.κF i b t cs h1 h2' hne o h
    . exact h (mem_of_getElem? h1)
  cases e with
  |normal=>exact⟨.inl rfl,fin hq⟩
  |ret=>exact⟨.inr rfl,fin hq⟩
  |exit id=>exact hq.elim
theorem qnq {f:FuncId} {args:List AV} {U1 U2:St} {r r2:AV} (h:Snd (ITP P) P f args U r U1)(hp:z6v P U.boxes.length U.lens.length U1 r r2 U2):Snd (ITP P) P f args U r2 U2:=
 ⟨h.1,fun X vs hI hr=>(h.2 X vs hI hr).mono fun e w' ⟨v,Y,h1,h2,h3,h4,h5⟩=>by
  obtain⟨X',k1,k2,k3,k4⟩:=hp X Y v h3 hI.κlen (by rw[hI.lens]) h4 h5;exact⟨v,X',h1,k1.trans h2,k2,k3,k4⟩⟩
theorem zrl {n n' m:Nat} {U':St} {a r:AV} (fs js:List Nat)(d:Nat)(hn':n<=n')(hok:zdd U n' js=true)(hr:zib m (kz U.boxes m n' fs js d) a=r)(hσ:zeu U m n' fs js d=U'):z6v P n m U a r U':=fun X Y v hE hn hm hI hv=>by
 subst hr hσ;exact⟨zdl U m n' fs js Y,rfl,ztg hE hI hok (by omega) (by omega),zti (zh P) hI hok d,zlh (X:=Y) (Y:=zdl U m n' fs js Y) (zh P) (fun b o h=>Or.inl h) rfl zim (zqm (zh P) hI hok d) _ _ hv⟩
variable {g:FZ} {k':Nat} {P:Program}
abbrev Stk:=Option (Int×List Int)
def stkL:Stk->List Int
 |none=>[]
 |some (j,[])=>[j]
 |some (_,a::l)=>a::l
def zcv:Stk->List Int
 |none=>[]
 |some (_,l)=>l
def zbs (b:Nat):Stk->AV
 |none=> .list 0 [] .full
 |some (_,l)=> .bsl b 0 l.length 1 false
abbrev tyR:TypeId:=69
abbrev tyI:TypeId:=3
def zq:Stk->TypeId×List AV
 |none=>(tyR,[])
 |some q=>(tyI,Enc.cellsL (stkL (some q)))
structure Rd where
 s:List UInt8
 a:Int
 e:Int
 q:Stk
def rdC (k:Nat)(r:Rd):List AV:=[.raw (.string (bs r.s)),.raw (.int .i64 r.a),.raw (.int .i64 r.e),zbs k r.q]
def rdB (k:Nat)(q:Stk)(r:Rd):List (TypeId×List AV):=[(tyR,rdC k r),((zq q).1,[]),zq r.q]
def rdS (q:Stk)(r:Rd):St:=⟨rdB 2 q r,[],[],0,false⟩
def rdAft (τ:St)(k:Nat)(q0:Stk)(r':Rd):St:={τ with boxes:=((τ.boxes.set 0 (tyR,rdC τ.boxes.length r')).set k ((zq q0).1,[]))++[zq r'.q]}
def RdC (P:Program)(f:FuncId)(args:List AV)(r:Rd)(v:AV)(r':Rd):Prop:=
 ∀(τ:St) (k:Nat),0<k->τ.boxes[0]? =some (tyR,rdC k r)->τ.boxes[k]? =some (zq r.q)->Snd (ITP P) P f (.ptr 0 0::args) τ v (rdAft τ k r.q r')
def qos (P:Program)(fn:Func)(q:Stk)(v:AV)(r':Rd):AQ
 | .exit _,_,_=>False
 |_,S,U=> ∃a,zav P fn U S=some a/\ ∃js d,zdd U 2 js=true/\ zib 0 (kz U.boxes 0 2 [] js d) a=v/\ zeu U 0 2 [] js d=rdS q r'
theorem qoj (q:Stk):cloL (zq q).2=true:=by
 cases q with
 |none=>rfl
 |some q=>exact Enc.cloL _
theorem zt (m:Nat)(g:FZ)(q:Stk):zac m g (zq q).2=(zq q).2:=zad m g _ (qoj q)
theorem z1h (q:Int×List Int):(zq (some q)).2≠[]:=by
 obtain⟨j,l⟩:=q;cases l<;>simp[zq,stkL,Enc.cons,Enc.cells]
theorem zey {m:Nat} {k:Nat} (r:Rd)(h: ∀n,g.2 k 0 n 1= .bsl k' 0 n 1 false):zac m g (rdC k r)=rdC k' r:=by
 obtain⟨s,a,e,q⟩:=r;cases q with
 |none=>rfl
 |some q=>simp only[rdC,zbs,zac,zib,h]
theorem znc {k:Nat} {r:Rd} (h:r.q=none):rdC k r=rdC k' r:=by simp only[rdC,h,zbs]
theorem z2q (n:Nat):cloL (List.replicate n (AV.raw undef))=true:=by
 induction n with
 |zero=>rfl
 |succ n ih=>rw[List.replicate_succ,cloL,ih];rfl
theorem z6p {m:Nat} {fn:Func} {args:List AV} (hg:g.1 0 0= .ptr 0 0)(h:cloL args=true):zac m g (zaq fn (.ptr 0 0::args))=zaq fn (.ptr 0 0::args):=by
 unfold zaq;rw[cons_append,zac,zib,hg,zad m g _ (by rw[zek,h,z2q];rfl)]
theorem mv_rd (r:Rd):qqh 1 (zq r.q).1 (zq r.q).2 ⟨[(tyR,rdC 1 r),zq r.q],[],[],0,false⟩=rdS r.q r:=by
 show St.mk [(tyR,zac _ _ (rdC 1 r)),((zq r.q).1,[]),((zq r.q).1,zac _ _ (zq r.q).2)] _ _ _ _=_;rw[zt,zey (k':=2) r fun n=>rfl];rfl
theorem qmp {f:FuncId} {args:List AV} {r r':Rd} {v:AV} {q:Int×List Int} (hq:r.q=some q)(hargs:cloL args=true)(hv: ∀(m:Nat)(g:FZ),g.1 0 0= .ptr 0 0->zib m g v=v)
 (h:Snd (ITP P) P f (.ptr 0 0::args) ⟨[(tyR,rdC 1 r),zq r.q],[],[],0,false⟩ v (rdS r.q r')):RdC P f args r v r':=by
 intro τ k hk h0 h1;have hkl:=(List.getElem?_eq_some_iff.1 h1).1;have h0l:=(List.getElem?_eq_some_iff.1 h0).1;have hk0:k≠0:=by omega
 have i0:[0,k].idxOf 0=0:=by simp
 have ik:[0,k].idxOf k=1:=by
  have:(0==k)=false:=by simpa using Ne.symm hk0
  simp[List.idxOf_cons,this]
 refine z1p (zh P) [0,k] h ?_ (hv _ _ rfl) rfl (by simp;omega) (by simp[rdB]) ?_ ?_ ?_ ?_ rfl rfl
 ·rw[zac,zad _ _ _ hargs]
  show(if[0,k].contains 0 then AV.ptr ([0,k].idxOf 0) 0 else .top)::args=_
  simp[i0]
 ·intro i t cs hi
  match i,hi with
  |0,hi=>cases hi;exact⟨rdC k r,h0,zey r fun n=>by show(if[0,k].contains k then AV.bsl ([0,k].idxOf k) 0 n 1 false else .top)=_;simp[ik],by simp[rdC]⟩
  | 1,hi=>
   have hi:some (zq r.q)=some (t,cs):=hi;cases hi':zq r.q with
   | mk t' c'=>
    rw[hi'] at hi;cases hi;refine⟨cs,by rw[<-hi'];exact h1,?_,?_⟩
    ·have:=zt 0 (bwz [0,k]) r.q;rw[hi'] at this;exact this
    ·have:=z1h q;rw[<-hq,hi'] at this;exact this
  |i+2,hi=>cases hi
 ·intro i t cs hi;have e:(rdAft τ k r.q r').boxes=((τ.boxes.set 0 (tyR,rdC τ.boxes.length r')).set k ((zq r.q).1,[]))++[zq r'.q]:=rfl;rw[e]
  match i,hi with
  | 0,hi=>
   cases hi
   show(_++_:List _)[0]? =_
   rw[getElem?_append_left (by simp;omega),getElem?_set_ne hk0,getElem?_set_self h0l];rw[zey (k':=τ.boxes.length) r' fun n=>rfl]
  | 1,hi=>
   cases hi
   show(_++_:List _)[k]? =_
   rw[getElem?_append_left (by simp;omega),getElem?_set_self (by simp;omega),zac]
  | 2,hi=>
   have hi:some (zq r'.q)=some (t,cs):=hi
   show(_++_:List _)[τ.boxes.length]? =_
   rw[List.getElem?_append_right (by simp)];simp only[List.length_set,Nat.sub_self,List.getElem?_cons_zero];rw[hi];cases hx:zq r'.q with
   | mk t' c'=>
    rw[hx] at hi;cases hi;have:=zt 0 (fwz [0,k] τ.boxes.length) r'.q;rw[hx] at this;rw[this]
  |i+3,hi=>cases hi
 ·intro s hs hns
  show(_++_:List _)[s]? =_
  simp only[mem_cons,List.not_mem_nil,or_false,not_or] at hns;rw[getElem?_append_left (by simp;omega),getElem?_set_ne (Ne.symm hns.2),getElem?_set_ne (Ne.symm hns.1)]
 ·show(_++_:List _).length=_
  simp[rdS,rdB]
theorem qnb {f:FuncId} {args:List AV} {r r':Rd} {v:AV} (hq:r.q=none)(hargs:cloL args=true)(hv: ∀(m:Nat)(g:FZ),g.1 0 0= .ptr 0 0->zib m g v=v)
 (h:Snd (ITP P) P f (.ptr 0 0::args) ⟨[(tyR,rdC 1 r)],[],[],0,false⟩ v ⟨[(tyR,rdC 1 r'),zq r'.q],[],[],0,false⟩):RdC P f args r v r':=by
 intro τ k hk h0 h1;have hkl:=(List.getElem?_eq_some_iff.1 h1).1;have h0l:=(List.getElem?_eq_some_iff.1 h0).1;have hk0:k≠0:=by omega
 have hX:zq r.q=((zq r.q).1,[]):=by rw[hq];rfl
 refine z1p (zh P) [0] h ?_ (hv _ _ rfl) rfl (by simp) (by simp) ?_ ?_ ?_ ?_ rfl rfl
 ·rw[zac,zad _ _ _ hargs];rfl
 ·intro i t cs hi
  match i,hi with
  |0,hi=>cases hi;exact⟨rdC k r,h0,by rw[znc (k:=k) (k':=0) hq];rw[zey (k':=0) r fun n=>rfl];exact znc hq,by simp[rdC]⟩
  |i+1,hi=>cases hi
 ·intro i t cs hi;have e:(rdAft τ k r.q r').boxes=((τ.boxes.set 0 (tyR,rdC τ.boxes.length r')).set k ((zq r.q).1,[]))++[zq r'.q]:=rfl;rw[e]
  match i,hi with
  | 0,hi=>
   cases hi
   show(_++_:List _)[0]? =_
   rw[getElem?_append_left (by simp;omega),getElem?_set_ne hk0,getElem?_set_self h0l];rw[zey (k':=τ.boxes.length) r' fun n=>rfl]
  | 1,hi=>
   have hi:some (zq r'.q)=some (t,cs):=hi
   show(_++_:List _)[τ.boxes.length]? =_
   rw[List.getElem?_append_right (by simp)];simp only[List.length_set,Nat.sub_self,List.getElem?_cons_zero];rw[hi];cases hx:zq r'.q with
   | mk t' c'=>
    rw[hx] at hi;cases hi;have:=zt 0 (fwz [0] τ.boxes.length) r'.q;rw[hx] at this;rw[this]
  |i+2,hi=>cases hi
 ·intro s hs hns
  show(_++_:List _)[s]? =_
  simp only[mem_cons,List.not_mem_nil,or_false] at hns;rw[getElem?_append_left (by simp;omega)];by_cases e:s=k
  ·subst e;rw[getElem?_set_self (by simp;omega),h1, <-hX]
  ·rw[getElem?_set_ne (Ne.symm e),getElem?_set_ne (Ne.symm hns)]
 ·show(_++_:List _).length=_
  simp
theorem qpw (hmix:P.follows .mixedOrders=true) {f:FuncId} {fn:Func} {c:Code} {args:List AV} {r r':Rd} {v:AV} (hf:P.funcs[f]? =some fn)(hb:fn.body=some c)(he:Ent P f)(hargs:cloL args=true)(hv: ∀(m:Nat)(g:FZ),g.1 0 0= .ptr 0 0->zib m g v=v)
 (h: ∀k0,k0<=2->awp (ITP P) P none k0 c (qos P fn r.q v r') (zaq fn (.ptr 0 0::args)) (rdS r.q r)):RdC P f args r v r':=by
 cases hq:r.q with
 | some q=>
  refine qmp hq hargs hv (qfu hmix hf hb he (S1:=zaq fn (.ptr 0 0::args)) (U1:=rdS r.q r) (qdx 1 (t:=(zq r.q).1) (cs:=(zq r.q).2) rfl (z6p rfl hargs) (mv_rd r).symm) (zcl c (fun e S U hq=> ?_) _ _ (h 2 (le_refl _))));cases e with
  |exit id=>exact hq
  |normal=>obtain⟨a,h1,js,d,h2,h3,h4⟩:=hq;exact⟨a,h1,zvx [] js d h2 h3 h4⟩
  |ret=>obtain⟨a,h1,js,d,h2,h3,h4⟩:=hq;exact⟨a,h1,zvx [] js d h2 h3 h4⟩
 | none=>
  refine qnb hq hargs hv (qnq (qfu hmix hf hb he (S1:=zaq fn (.ptr 0 0::args)) (U1:=rdS r.q r) (U':=rdS r.q r') (r:=v) ?_ (zcl c (fun e S U hq=> ?_) _ _ (h 1 (by omega)))) ?_)
  ·refine .step (S1:=zaq fn (.ptr 0 0::args)) (.inr (.inr (.inl ⟨0,tyR,rdC 1 r,rfl,Fg.refl _,rfl⟩))) (.one (.inr (.inr (.inl ⟨0,tyR,rdC 1 r,rfl,Fg.refl _,?_⟩))));show rdS r.q r=St.mk [(tyR,rdC 1 r),(tyR,[]),(tyR,[])] [] [] 0 false;unfold rdS rdB;rw[znc (k:=2) (k':=1) hq,hq];rfl
  ·cases e with
   |exit id=>exact hq
   |normal=>obtain⟨a,h1,js,d,h2,h3,h4⟩:=hq;exact⟨a,h1,zrl [] js d (show 1<=2 by decide) h2 h3 h4⟩
   |ret=>obtain⟨a,h1,js,d,h2,h3,h4⟩:=hq;exact⟨a,h1,zrl [] js d (show 1<=2 by decide) h2 h3 h4⟩
  ·refine zrl (n:=1) (n':=1) (m:=0) [] [2] 0 (le_refl _) rfl (hv _ _ rfl) ?_;show St.mk [(tyR,zac _ _ (rdC 2 r')),((zq r'.q).1,zac _ _ (zq r'.q).2)] _ _ _ _=_;rw[zt,zey (k':=1) r' fun n=>rfl];rfl
theorem qcj (hmix:P.follows .mixedOrders=true) {f:FuncId} {fn:Func} {c:Code} {args:List AV} {r r':Rd} {v:AV} (hf:P.funcs[f]? =some fn)(hb:fn.body=some c)(he:Ent P f)(hargs:cloL args=true)(hv:clo v=true)
 (h: ∀k0,k0<=2->awp (ITP P) P none k0 c (qos P fn r.q v r') (zaq fn (.ptr 0 0::args)) (rdS r.q r)):RdC P f args r v r':=qpw hmix hf hb he hargs (fun m g _=>zaj m g v hv) h
variable {P:Program}
def aendGR (P:Program)(fn:Func)(n:Nat)(q:Stk)(r':Rd):AQ
 | .exit _,_,_=>False
 |_,S,U=>(∃a,zav P fn U S=some a)/\ (U.stop=true \/(U.out=n/\ ∃js d,zdd U 2 js=true/\ zcj U.boxes U.lens.length 2 [] js d=rdB 2 q r'))
def RdIt (P:Program)(g:FuncId)(r:Rd)(rows:List (List AV))(r':Rd):Prop:=
 (∀q,r.q=some q->qcg P g [.iptr [.ptr 0 0]] [(tyR,rdC 1 r),zq r.q] rows (rdB 2 r.q r'))/\ (r.q=none->qcg P g [.iptr [.ptr 0 0]] [(tyR,rdC 1 r)] rows [(tyR,rdC 1 r'),zq r'.q])
theorem zwk: ∀l:List Int,zhu (Enc.cellsL l)=true
 |[]=>rfl
 |i::l=>by rw[Enc.cons];show zhu (AV.raw _::Enc.cellsL l)=true;rw[zhu,zwk l];rfl
theorem z8a (q:Stk):zhu (zq q).2=true:=by
 cases q with
 |none=>rfl
 |some q=>exact zwk _
theorem z7o (k:Nat)(r:Rd):zhu (rdC k r)=true:=by
 obtain⟨s,a,e,q⟩:=r;cases q<;>rfl
theorem z3q {m:Nat} {g:FZ} {fn:Func} {l:Nat} (hg:g.1 0 0= .ptr 0 0):zac m g (zaq fn [.yld l,.iptr [.ptr 0 0]])=zaq fn [.yld l,.iptr [.ptr 0 0]]:=by
 unfold zaq;rw[cons_append,cons_append,nil_append,zac,zac,zib,zib,zac,zac,zib,hg,zad m g _ (z2q _)]
theorem qnv (hmix:P.follows .mixedOrders=true) {g:FuncId} {fn:Func} {c:Code} {r r':Rd} {rows:List (List AV)} (hf:P.funcs[g]? =some fn)(hb:fn.body=some c)
 (h: ∀G:Gen,G.rows=rows-> ∀k0,k0<=2->awp (ITP P) P (some G) k0 c (aendGR P fn rows.length r.q r') (zaq fn [.yld G.l,.iptr [.ptr 0 0]]) (rdS r.q r)):RdIt P g r rows r':=by
 have hfl:(rdB 2 r.q r').all (fun b=>zhu b.2)=true:=by
  simp only[rdB,List.all_cons,List.all_nil,z7o,z8a,zhu,Bool.and_self]
 refine⟨fun q hq=>z4g hmix hf hb fun G hG=>⟨_,rdS r.q r,qdx 1 (t:=(zq r.q).1) (cs:=(zq r.q).2) rfl (z3q rfl) (mv_rd r).symm,zcl c (fun e S U hq=> ?_) _ _ (h G hG 2 (le_refl _))⟩,fun hq=>z4g hmix hf hb fun G hG=>⟨zaq fn [.yld G.l,.iptr [.ptr 0 0]],rdS r.q r,?_,zcl c (fun e S U hq=> ?_) _ _ (h G hG 1 (by omega))⟩⟩
 ·have key:(∃a,zav P fn U S=some a)/\ (U.stop=true \/(U.out=rows.length/\ ∃js d,zdd U 2 js=true/\ zcj U.boxes U.lens.length 2 [] js d=rdB 2 r.q r'))->(∃a,zav P fn U S=some a)/\ (U.stop=true \/(U.out=rows.length/\ ∃U',Wk 2 [] U [] U'/\ U'.boxes=rdB 2 r.q r'/\ ((rdB 2 r.q r').all fun b=>zhu b.2)=true)):=fun⟨h1,h2⟩=>⟨h1,h2.imp id fun⟨h3,js,d,h4,h5⟩=>⟨h3,zeu U U.lens.length 2 [] js d,.one (.inr (.inl ⟨2,[],js,d,le_refl _,h4,trivial,rfl⟩)),h5,hfl⟩⟩;cases e with
  |exit id=>exact hq
  |normal=>exact key hq
  |ret=>exact key hq
 ·refine .step (S1:=zaq fn [.yld G.l,.iptr [.ptr 0 0]]) (.inr (.inr (.inl ⟨0,tyR,rdC 1 r,rfl,Fg.refl _,rfl⟩))) (.one (.inr (.inr (.inl ⟨0,tyR,rdC 1 r,rfl,Fg.refl _,?_⟩))));show rdS r.q r=St.mk [(tyR,rdC 1 r),(tyR,[]),(tyR,[])] [] [] 0 false;unfold rdS rdB;rw[znc (k:=2) (k':=1) ‹r.q=none›, ‹r.q=none›];rfl
 ·have key:(∃a,zav P fn U S=some a)/\ (U.stop=true \/(U.out=rows.length/\ ∃js d,zdd U 2 js=true/\ zcj U.boxes U.lens.length 2 [] js d=rdB 2 r.q r'))->(∃a,zav P fn U S=some a)/\ (U.stop=true \/(U.out=rows.length/\ ∃U',Wk 1 [] U [] U'/\ U'.boxes=[(tyR,rdC 1 r'),zq r'.q]/\ ([(tyR,rdC 1 r'),zq r'.q].all fun b=>zhu b.2)=true)):=fun⟨h1,h2⟩=>⟨h1,h2.imp id fun⟨h3,js,d,h4,h5⟩=>by
   obtain⟨U1,hσ1⟩: ∃U1,zeu U U.lens.length 2 [] js d=U1:=⟨_,rfl⟩;have hb1:U1.boxes=rdB 2 r.q r':=by rw[<-hσ1];exact h5
   refine⟨h3,zeu U1 U1.lens.length 1 [] [2] 0,.step (S1:=[]) (.inr (.inl ⟨2,[],js,d,by decide,h4,trivial,hσ1⟩)) (.one (.inr (.inl ⟨1,[],[2],0,le_refl _,?_,trivial,rfl⟩))),?_,?_⟩
   ·unfold zdd;rw[hb1];rfl
   ·show zcj U1.boxes _ 1 [] [2] 0=_;rw[hb1]
    show[(tyR,zac _ _ (rdC 2 r')),((zq r'.q).1,zac _ _ (zq r'.q).2)]=_
    rw[zt,zey (k':=1) r' fun n=>rfl]
   ·simp only[List.all_cons,List.all_nil,z7o,z8a,Bool.and_self]⟩
  cases e with
  |exit id=>exact hq
  |normal=>exact key hq
  |ret=>exact key hq
def zmr (hs:List Nat)(bx:List (TypeId×List AV))(k:Nat)(q0:Stk)(r':Rd)(U:St):St:=
 {U with boxes:=(U.boxes.mapIdx fun i b=>if i=0 then(tyR,rdC bx.length r') else if i=k then((zq q0).1,[]) else if hs.contains i=true then(bx[i]?).getD b else(b.1,zac U.lens.length (gz hs) b.2))++[zq r'.q]}
def qdu (hs:List Nat)(tm:TypeId)(τ:St):St:={τ with boxes:=τ.boxes.mapIdx fun i b=>if hs.contains i=true then(tm,[]) else(b.1,zac τ.lens.length (gz hs) b.2)}
theorem z7a {τ U:St} {k:Nat} {q:Stk} {r':Rd} {hs:List Nat} (hk:k≠0)(h1:τ.boxes[k]? =some (zq q))(hkh:hs.contains k=true):
 (q≠none->zjm [0,k] hs (rdB 2 q r') τ.boxes U=zmr hs τ.boxes k q r' U)/\ (q=none->zjm [0] hs [(tyR,rdC 1 r'),zq r'.q] τ.boxes U=zmr hs τ.boxes k q r' U):=by
 have hX: ∀n js,((zq r'.q).1,zac 0 (fwz js n) (zq r'.q).2)=zq r'.q:=fun n js=>by rw[zt]
 refine⟨fun hq=> ?_,fun hq=> ?_⟩
 ·unfold zjm zmr;congr 1
  have e2:((rdB 2 q r').drop [0,k].length).map (fun c=>(c.1,zac 0 (fwz [0,k] τ.boxes.length) c.2))=[zq r'.q]:=by
   show[((zq r'.q).1,zac 0 _ (zq r'.q).2)]=_
   rw[hX]
  rw[e2];congr 1
  apply List.ext_getElem?;intro i;simp only[List.getElem?_mapIdx];cases hb:U.boxes[i]? with
  |none=>rfl
  | some b=>
   simp only[map_some,Option.some.injEq];by_cases e0:i=0
   ·subst e0;simp only[if_pos rfl];rw[if_pos (by simp)];have:[0,k].idxOf 0=0:=by simp
    rw[this]
    show(tyR,zac 0 _ (rdC 2 r'))=_
    rw[zey (k':=τ.boxes.length) r' fun n=>rfl,if_pos trivial]
   ·by_cases ek:i=k
    ·subst ek;rw[if_pos (by simp),if_neg e0,if_pos rfl];have:[0,i].idxOf i=1:=by
      have:(0==i)=false:=by simpa using Ne.symm e0
      simp[List.idxOf_cons,this]
     rw[this];rfl
    ·rw[if_neg (by simp[e0,ek]),if_neg e0,if_neg ek]
 ·unfold zjm zmr;congr 1
  have e2:([(tyR,rdC 1 r'),zq r'.q].drop [0].length).map (fun c=>(c.1,zac 0 (fwz [0] τ.boxes.length) c.2))=[zq r'.q]:=by
   show[((zq r'.q).1,zac 0 _ (zq r'.q).2)]=_
   rw[hX]
  rw[e2];congr 1
  apply List.ext_getElem?;intro i;simp only[List.getElem?_mapIdx];cases hb:U.boxes[i]? with
  |none=>rfl
  | some b=>
   simp only[map_some,Option.some.injEq];by_cases e0:i=0
   ·subst e0;simp only[if_pos rfl];rw[if_pos (by simp)]
    show(tyR,zac 0 _ (rdC 1 r'))=_
    rw[zey (k':=τ.boxes.length) r' fun n=>rfl,if_pos trivial]
   ·by_cases ek:i=k
    ·subst ek;rw[if_neg (by simp[e0]),if_pos hkh,if_neg e0,if_pos rfl,h1,hq];rfl
    ·rw[if_neg (by simp[e0]),if_neg e0,if_neg ek]
theorem qff {k0:Nat} {f:Operand} {ps:Array Tmp} {asg body:Code} {Q:AQ} {S S':List AV} {τ:St} {α β ρ:Type} {FB:β->α->Option (β ⊕ ρ)} {xs:List α} {s0:β} {K:β->Option ρ} {rr:ρ} (h:zcu (zem FB xs s0) K=some rr)(row:α->List AV)(D:β->St)(k m:Nat)(hs:List Nat) {g:Nat} {r r':Rd} {tm:TypeId} {Cm:List AV}
 (hit:RdIt P g r (xs.map row) r') (hent:Ent P g) (hf:zbz S f= .clos g [.iptr [.ptr 0 0]]) (hk:k≠0) (h0:τ.boxes[0]? =some (tyR,rdC k r)) (h1:τ.boxes[k]? =some (zq r.q)) (hh0:hs.contains 0=true) (hhk:hs.contains k=true)
 (hd: ∀(i:Nat) (t:TypeId),τ.boxes[i]? =some (t,[])->hs.contains i=true) (hm:hs.contains m=false) (hbm:τ.boxes[m]? =some (tm,Cm)) (hfg:Fg (zac τ.lens.length (gz hs) S) S')
 (hl: ∀x,(row x).length=ps.size) (hna:zcs asg=true) (hD:qdu hs tm τ=D s0)
 (zjb: ∀s x p,FB s x=some p->awp (ITP P) P none τ.boxes.length asg (z3o (fun S1 U1=>awp (ITP P) P none U1.boxes.length body (z9h S' τ.boxes.length D p rr (fun e _ U=>match e with| .normal=>Q .normal S (zmr hs τ.boxes k r.q r' U)|_=>False)) S1 U1)) (zlz S' ps (row x)) (D s))
 (he: ∀s,K s=some rr->Q .normal S (zmr hs τ.boxes k r.q r' (D s))):awp (ITP P) P none k0 (.rangeFunc f ps asg body) Q S τ:=by
 obtain⟨b1,b2⟩:=z7a (U:=τ) (r':=r') hk h1 hhk;cases hq:r.q with
 | some q=>
  have hbk: ∀U,zjm [0,k] hs (rdB 2 r.q r') τ.boxes U=zmr hs τ.boxes k r.q r' U:=fun U=>(z7a (U:=U) (r':=r') hk h1 hhk).1 (by rw[hq];simp);have hQ:qhp Q S [0,k] hs (rdB 2 r.q r') τ.boxes=(fun e _ U=>match e with| .normal=>Q .normal S (zmr hs τ.boxes k r.q r' U)|_=>False):=by
   funext e S1 U
   cases e with
   |normal=>exact congrArg (Q .normal S) (hbk U)
   |exit id=>rfl
   |ret=>rfl
  have ik:[0,k].idxOf k=1:=by
   have:(0==k)=false:=by simpa using Ne.symm hk
   simp[List.idxOf_cons,this]
  refine z9z (U1:=qdu hs tm τ) h row D [0,k] hs m rfl (hit.1 q hq) hent hf ?_ ⟨by simp;exact Ne.symm hk,rfl,?_,by simp only[List.all_cons,List.all_nil,hh0,hhk];rfl,hd,hm,tm,Cm,hbm,rfl⟩ hfg ?_ hl hna hD (by rw[hQ];exact zjb) (fun s hs'=>by rw[hbk];exact he s hs')
  ·rfl
  ·intro i t cs hi
   match i,hi with
   |0,hi=>cases hi;exact⟨rdC k r,h0,zey r fun n=>by show(if[0,k].contains k then AV.bsl ([0,k].idxOf k) 0 n 1 false else .top)=_;simp[ik],by simp[rdC]⟩
   | 1,hi=>
    have hi:some (zq r.q)=some (t,cs):=hi;cases hi':zq r.q with
    | mk t' c'=>
     rw[hi'] at hi;cases hi;refine⟨cs,by rw[<-hi'];exact h1,?_,?_⟩
     ·have:=zt 0 (bwz [0,k]) r.q;rw[hi'] at this;exact this
     ·have:=z1h q;rw[<-hq,hi'] at this;exact this
   |i+2,hi=>cases hi
  ·intro i t cs hi
   match i,hi with
   |0,hi=>cases hi;exact⟨_,rfl⟩
   | 1,hi=>
    have hi:some (zq r.q)=some (t,cs):=hi;injection hi with hi
    exact⟨[],by show some ((zq r.q).1,[])=_;rw[hi]⟩
   |i+2,hi=>cases hi
 | none=>
  have hbk: ∀U,zjm [0] hs [(tyR,rdC 1 r'),zq r'.q] τ.boxes U=zmr hs τ.boxes k r.q r' U:=fun U=>(z7a (U:=U) (r':=r') hk h1 hhk).2 hq;have hQ:qhp Q S [0] hs [(tyR,rdC 1 r'),zq r'.q] τ.boxes=(fun e _ U=>match e with| .normal=>Q .normal S (zmr hs τ.boxes k r.q r' U)|_=>False):=by
   funext e S1 U
   cases e with
   |normal=>exact congrArg (Q .normal S) (hbk U)
   |exit id=>rfl
   |ret=>rfl
  refine z9z (U1:=qdu hs tm τ) h row D [0] hs m rfl (hit.2 hq) hent hf rfl ⟨by simp,rfl,?_,by simp only[List.all_cons,List.all_nil,hh0];rfl,hd,hm,tm,Cm,hbm,rfl⟩ hfg ?_ hl hna hD (by rw[hQ];exact zjb) (fun s hs'=>by rw[hbk];exact he s hs')
  ·intro i t cs hi
   match i,hi with
   |0,hi=>cases hi;exact⟨rdC k r,h0,by rw[znc (k:=k) (k':=0) hq,zey (k':=0) r fun n=>rfl];exact znc hq,by simp[rdC]⟩
   |i+1,hi=>cases hi
  ·intro i t cs hi
   match i,hi with
   |0,hi=>cases hi;exact⟨_,rfl⟩
   |i+1,hi=>cases hi
end Go.Ab
namespace Go.Ab
open Go Go.RowKit Go.Fwd Go.Proofs
variable {b' d:Nat} {g:FZ} {y:Operand} {IT:IterP} {ops:Array Oper} {S S' c0 c0' c1 c1':List AV} {U':St} {r':Rd}
theorem qon {m b:Nat} {q:Stk} (h: ∀n,g.2 b 0 n 1= .bsl b' 0 n 1 false):zib m g (zbs b q)=zbs b' q:=by
 cases q with
 |none=>rfl
 |some q=>simp only[zbs,zib,h]
theorem ziz {m b:Nat} {q:Stk} {x y z:Value} (h: ∀n,g.2 b 0 n 1= .bsl b' 0 n 1 false):zac m g [.raw x,.raw y,.raw z,zbs b q]=[.raw x,.raw y,.raw z,zbs b' q]:=
 zam (zaj _ _ _ rfl) (zam (zaj _ _ _ rfl) (zam (zaj _ _ _ rfl) (zam (qon h) zp)))
def ziy (q:Stk)(a:Int):Stk:=some (0,zcv q++[a])
def zzt:Stk->Stk
 |none=>none
 |some (_,[])=>none
 |some (_,[a])=>some (a,[])
 |some (j,a::b::l)=>some (j,(a::b::l).dropLast)
theorem qav (q:Stk)(a:Int):(zq (ziy q a)).2=Enc.cellsL (zcv q++[a]):=by
 show Enc.cellsL (stkL (some (0,zcv q++[a])))=_;cases h:zcv q++[a] with
 |nil=>simp at h
 |cons b l=>rfl
section
variable {P:Program} {ρ:Operand->AV} {U:St} {o:Oper}
theorem qce {x:Operand} {b k:Nat} {t0:TypeId} {c0 c1 c2 c3:AV} {q:Stk} (ho:o.op= .store 67 x y)(hx:ρ x= .ptr b 3)(hy:ρ y=zbs k q)(hb:U.boxes[b]? =some (t0,[c0,c1,c2,c3])):
 aop prog ρ U o=some (.raw undef,{U with boxes:=U.boxes.set b (t0,[c0,c1,c2,zbs k q])}):=by
 have hs:(cellsOf (zbs k q)).length=1:=by cases q<;>rfl
 rw[zct (n:=1) ho hx hy hb (by kernel_rfl) ⟨by cases q<;>rfl,hs,by simp,by decide⟩];cases q<;>rfl
theorem qll:prog.underlying 67=some (.slice 3):=by kernel_rfl
theorem z5i {x:Operand} {b:Nat} {q:Stk} (ho:o.op= .call ⟨.builtin .len, #[x], #[67]⟩)(hx:ρ x=zbs b q):qop prog ρ U o=some (.raw (.int .i64 ((zcv q).length:Int))):=by
 have h1:qdr prog 67 (zbs b q)=some (.raw (.int .i64 ((zcv q).length:Int))):=by
  cases q<;>simp[qdr,qll,zbs,zcv]
 simp only[qop,ho,hx,h1]
theorem qnn {x i:Operand} {b:Nat} {j:Int} {l:List Int} {k:Int} (g:0<=k/\ k<(l.length:Int))(ho:o.op= .indexAddr 67 x i)(hx:ρ x=zbs b (some (j,l)))(hi:ρ i= .raw (.int .i64 k)):qop prog ρ U o=some (.ptr b (0+k.toNat*1)):=by
 exact zhi (α:=Int) g ho hx hi qll (by kernel_rfl)
theorem qmk {q:Stk} (h:zcv q≠[]): ∃j l,q=some (j,l)/\ l≠[]:=by
 cases q with
 |none=>exact absurd rfl h
 |some q=>exact⟨q.1,q.2,rfl,h⟩
theorem qmr (q:Stk):zcv (zzt q)=(zcv q).dropLast:=by
 match q with
 |none=>rfl
 |some (_,[])=>rfl
 |some (_,[a])=>rfl
 |some (j,a::b::l)=>rfl
theorem qet {q:Stk} (h:zcv q≠[]):(zq (zzt q)).2=(zq q).2.take (max 1 ((zcv q).length-1))/\ (zq (zzt q)).1=(zq q).1:=by
 match q,h with
 |none,h=>exact absurd rfl h
 |some (_,[]),h=>exact absurd rfl h
 |some (_,[a]),_=>exact⟨rfl,rfl⟩
 | some (j,a::b::l),_=>
  refine⟨?_,rfl⟩;show Enc.cellsL (stkL (some (j,(a::b::l).dropLast)))=(Enc.cellsL (a::b::l)).take (max 1 ((a::b::l).length-1));have e:stkL (some (j,(a::b::l).dropLast))=(a::b::l).dropLast:=rfl;rw[e,List.dropLast_eq_take];have:=Enc.take (a::b::l) (max 1 ((a::b::l).length-1));rw[show Enc.sz Int=1 from rfl,Nat.mul_one] at this;have e2:max 1 ((a::b::l).length-1)=(a::b::l).length-1:=by simp only[length_cons];omega
  rw[e2] at this⊢;exact this.symm
theorem popA {q:Stk} {b:Nat} (h:zcv q≠[]):zbs b (zzt q)= .bsl b 0 ((zcv q).length-1) 1 false:=by
 match q,h with
 |none,h=>exact absurd rfl h
 |some (_,[]),h=>exact absurd rfl h
 |some (_,[a]),_=>rfl
 | some (j,a::b'::l),_=>
  show AV.bsl b 0 ((a::b'::l).dropLast).length 1 false=_;rw[List.length_dropLast];rfl
theorem op_push {c:Call} {x:Operand} {b:Nat} {q:Stk} {a:Int} {st:Room} (h:(zcv q).length<2^40)(ho:o.op= .call c)(hc:c.callee= .builtin .append)(ha:c.args.toList=[x,y])(ht:c.argTypes.toList=[67,67])
 (hx:ρ x=zbs b q) (hy:ρ y= .list 1 (Enc.cellsL [a]) st) (hb:U.boxes[b]? =some (zq q)):
 zwa prog ρ U o=some (zbs U.boxes.length (ziy q a),{U with boxes:=(U.boxes.set b ((zq q).1,[]))++[zq (ziy q a)]}):=by
 have hu:prog.underlying 67=some (.slice 3):=by kernel_rfl
 have key:(prog.info? 3).map (fun i=>(i.size,i.bytes,i.zero.map fun z=>z.cells.size))=some (1,8,some 1):=by kernel_rfl
 obtain⟨i,hi,⟨z,hz,hzc⟩,hsz,hby⟩: ∃i,prog.info? 3=some i/\ (∃z,i.zero=some z/\ z.cells.size=1)/\ i.size=1/\ i.bytes=8:=by
  cases hi:prog.info? 3 with
  |none=>rw[hi] at key;cases key
  | some i=>
   rw[hi] at key;simp only[map_some,Option.some.injEq,Prod.mk.injEq] at key;obtain⟨k1,k2,k3⟩:=key;cases hz:i.zero with
   |none=>rw[hz] at k3;cases k3
   |some z=>rw[hz] at k3;exact⟨i,rfl,⟨z,hz,by simpa using k3⟩,k1,k2⟩
 have hsrc: ∀S,qdo prog S 1 67 67 (.list 1 (Enc.cellsL [a]) st)=some (1,Enc.cellsL [a]):=fun S=>by
  simp only[qdo];rfl
 have hnn:zst (zbs b q)=false:=by cases q<;>rfl
 have hcells:=qav q a;cases q with
 | none=>
  have hset:U.boxes.set b (tyR,[])=U.boxes:=by
   apply List.ext_getElem?;intro j;rw[List.getElem?_set];split
   ·rename_i e;subst e;have:=(List.getElem?_eq_some_iff.1 hb).1;rw[if_pos this,hb];rfl
   ·rfl
  simp only[zwa,ho,hc,ha,ht,hx,hy,hnn,Bool.false_eq_true,if_false];simp only[zbs,zqd,hu,hi,hz,hsz,hsrc];rw[if_pos ⟨by decide,hzc,by decide⟩];rw[if_pos ⟨by simp,by decide,by rw[hby];decide⟩];show some _=some (_,{U with boxes:=U.boxes.set b (tyR,[])++_});rw[hset];rfl
 | some q=>
  obtain⟨j,l⟩:=q;simp only[zwa,ho,hc,ha,ht,hx,hy,hnn,Bool.false_eq_true,if_false];have hlen:(zcv (some (j,l))).length=l.length:=rfl;rw[hlen] at h;cases l with
  | nil=>
   have hB:zqd prog U 67 67 (zbs b (some (j,[]))) (.list 1 (Enc.cellsL [a]) st)=none:=by
    simp only[zbs,zqd,hu,hi,hz,hsz,hsrc,hb];rw[if_pos ⟨by decide,hzc,by decide⟩,if_pos ⟨by simp,by simp[maxLen],by rw[hby];simp,by simp⟩];simp
   rw[hB];simp only[zbs,qdf,hu,hi,hz,hsz,hsrc,hb];rw[if_neg (by decide),if_pos (by refine⟨by simp,by decide,hzc,by decide,by rw[hby];decide,by simp,by simp,rfl,?_,by simp⟩;simp[zq,stkL,Enc.cons,Enc.cells,Enc.nil])];rfl
  | cons c l=>
   have hB:zqd prog U 67 67 (zbs b (some (j,c::l))) (.list 1 (Enc.cellsL [a]) st)=some (.bsl U.boxes.length 0 ((c::l).length+1) 1 false,{U with boxes:=U.boxes.set b (3,[])++[(3,Enc.cellsL (c::l)++Enc.cellsL [a])]}):=by
    have hl:(Enc.cellsL (c::l)).length=(c::l).length:=by rw[Enc.lenL];exact Nat.mul_one _
    have hl':(zq (some (j,c::l))).2.length=(c::l).length:=hl;have hm:(c::l).length+1<=maxLen:=by
     have h6:140737488355328<=maxLen:=by decide
     omega
    simp only[zbs,zqd,hu,hi,hz,hsz,hsrc,hb,Bool.false_eq_true,if_false];rw[if_pos ⟨by decide,hzc,by decide⟩,if_pos ⟨by simp,hm,by rw[hby];omega,by rw[hl'];omega⟩,if_pos ⟨by simp,by rw[hl',Nat.mul_one],rfl,by simp⟩];rfl
   rw[hB];show some (_,{U with boxes:=_++[(3,_)]})=some (_,{U with boxes:=_++[(3,(zq (ziy (some (j,c::l)) a)).2)]});rw[hcells];have e1:Enc.cellsL (c::l)++Enc.cellsL [a]=Enc.cellsL (zcv (some (j,c::l))++[a]):=(Enc.app _ _).symm;rw[e1];have e2:(c::l).length+1=(zcv (some (j,c::l))++[a]).length:=by simp[zcv]
   show some (AV.bsl _ 0 ((c::l).length+1) 1 false,_)=some (AV.bsl _ 0 (zcv (some (j,c::l))++[a]).length 1 false,_);rw[e2];rfl
theorem w_pop {W:Owed} {Q:List AV->St->Prop} {l:List Oper} {x i:Operand} {b:Nat} {q:Stk} (h:zcv q≠[])(hg:o.guard=none)(hc:zcx S o=none)(hy:zdh S o=none)(ho:o.op= .slice 67 x none (some i) none)(hx:zbz S x=zbs b q)(hi:zbz S i= .raw (.int .i64 ((zcv q).length-1:Int)))(hS:zah S o.dst (zbs b (zzt q))=S')
 (k:zcb IT prog W ops Q l S' U):zcb IT prog W ops Q (o::l) S U:=by
 obtain⟨j,m,rfl,hm⟩:=qmk h;have hpos:0<m.length:=List.length_pos_iff.2 hm;have hsz:zcp prog 3=some 1:=by kernel_rfl
 have hN:zcv (some (j,m))=m:=rfl;rw[hN] at hi;rcases lt_or_ge 1 m.length with h1|h1
 ·have:=q_bslH (P:=prog) (ρ:=zbz S) (U:=U) (α:=Int) (g:=(by omega:0<((m.length:Int)-1)/\ ((m.length:Int)-1)<=(m.length:Int))) ho hx hi qll hsz;have e:((m.length:Int)-1).toNat=m.length-1:=by omega
  rw[e,Bool.false_and] at this;refine zoy (a:=zbs b (zzt (some (j,m)))) hg hc hy (zaz ?_) hS k;rw[popA h,hN];exact this
 ·have e1:m.length=1:=by omega
  refine zsy (a:=zbs b (zzt (some (j,m)))) (U'':=U) hg hc hy ?_ hS rfl k;rw[popA h,hN,e1];have hi':zbz S i= .raw (.int .i64 0):=by rw[hi,e1];rfl
  simp only[zwa,ho,hx,zbs,zxh,map_some,hi',Option.isNone_none,Option.isNone_some,Bool.and_true,Bool.true_and,Bool.and_false,Bool.false_and,e1];have hp:aPop prog U 67 (.bsl b 0 1 1 false) (some (.raw (.int .i64 0))) true=some (.bsl b 0 0 1 false,U):=by
   simp only[aPop,qll,hsz,and_self,if_true]
  simp only[hp];rfl
end
theorem zat {U:St} {m:Nat} {js:List Nat} {t0 t1:TypeId} {rest bs':List (TypeId×List AV)} (hb:U.boxes=(t0,c0)::(t1,c1)::rest)(h0:zac m (kz U.boxes m 2 [] js d) c0=c0')(h1:zac m (kz U.boxes m 2 [] js d) c1=c1')
 (h:(js.map fun j=>((U.boxes[j]?).map fun b=>(b.1,zac m (kz U.boxes m 2 [] js d) b.2)).getD (0,[.bad]))=bs') (h2:{U with boxes:=(t0,c0')::(t1,c1')::bs',lens:=U.lens.take m,elems:=U.elems.take m}=U'):zeu U m 2 [] js d=U':=by
 subst h2;unfold zeu zcj;rw[h];have e:(U.boxes.take 2)=[(t0,c0),(t1,c1)]:=by rw[hb];rfl
 rw[e];simp only[List.mapIdx_cons,List.mapIdx_nil,List.contains_nil,Bool.false_eq_true,if_false,h0,h1,cons_append,nil_append]
theorem zym {U:St} {m:Nat} {js:List Nat} {t0 t1:TypeId} {rest bs':List (TypeId×List AV)} (hb:U.boxes=(t0,c0)::(t1,c1)::rest)(h0:zac m (kz U.boxes m 2 [] js d) c0=c0')(h1:zac m (kz U.boxes m 2 [] js d) c1=c1')
 (h:(js.map fun j=>((U.boxes[j]?).map fun b=>(b.1,zac m (kz U.boxes m 2 [] js d) b.2)).getD (0,[.bad]))=bs'):zcj U.boxes m 2 [] js d=(t0,c0')::(t1,c1')::bs':=
 congrArg St.boxes (zat (U:=U) (m:=m) (d:=d) (js:=js) hb h0 h1 h rfl)
theorem w_seqC {P:Program} {W:Owed} {k0 id:Nat} {y:Code} {Q:AQ} {U:St} (h:zpq IT P W ops (fun S U=>awp IT P W k0 y Q S U) ops.size (Array.replicate ops.size false) S U):awp IT P W k0 (.seq (.region id ops true) y) Q S U:=
 .inl (.inr (.inr (.inl (zhc (fun S U hw=>⟨S,U,Wk.refl _ _ _,hw⟩) _ _ _ _ h))))
theorem wk_pop {n0:Nat} {U U1:St} {q:Stk} (h:zcv q≠[])(hb:U.boxes[2]? =some (zq q))(h1:U1={U with boxes:=U.boxes.set 2 (zq (zzt q))})(k:Wk n0 S U1 S' U'):Wk n0 S U S' U':=by
 obtain⟨e1,e2⟩:=qet h;refine .step (.inr (.inr (.inr (.inl ⟨2,max 1 ((zcv q).length-1),(zq q).1,(zq q).2,hb,Fg.refl _,?_⟩)))) k;rw[h1, <-e1, <-e2]
theorem zgp {fn:Func} {U:St} {q:Stk} {a v:AV} (js:List Nat)(d:Nat)(ha:zav prog fn U S=some a)(hok:zdd U 2 js=true)(hv:zib 0 (kz U.boxes 0 2 [] js d) a=v)(hσ:zeu U 0 2 [] js d=rdS q r'):qos prog fn q v r' .ret S U:=⟨a,ha,js,d,hok,hv,hσ⟩
theorem qdw {fn:Func} {U:St} {q:Stk} {a v:AV} (js:List Nat)(d:Nat)(ha:zav prog fn U S=some a)(hok:zdd U 2 js=true)(hv:zib 0 (kz U.boxes 0 2 [] js d) a=v)(hσ:zeu U 0 2 [] js d=rdS q r'):qos prog fn q v r' .normal S U:=⟨a,ha,js,d,hok,hv,hσ⟩
end Go.Ab
namespace Go.Ab
open Go Go.RowKit Go.Fwd Go.Proofs
def zjv (at_:Int)(e:Int)(r:Rd):Option Rd:=
 (bif (r.e==0) then(some (Rd.mk r.s at_ e r.q)) else(some r))
theorem ent129:Ent prog 129:=enters_of Tryz.func129 (by kernel_rfl) rfl
theorem zmz (at_:Int)(e:Int)(r:Rd)  (y:Rd)(h:zjv at_ e r=some y):RdC prog 129 [.raw (.int .i64 at_),.raw (.int .i64 e)] r (.tup []) y:=by
 obtain⟨d,hd⟩: ∃d,Tryz.f129.body=some d:=⟨_,rfl⟩;refine qcj mix Tryz.func129 hd ent129 (by first|rfl|exact(zps rfl (zps rfl rfl))) rfl (fun k0 hk0=> ?_);cases hd;unfold zjv at h;refine zbv (by dsimp only[zaq,Tryz.f129,length_cons,length_nil,zero_add,Nat.reduceAdd,Nat.reduceSub,List.replicate,cons_append,nil_append]) (show rdS r.q r=(.B [(69,[.s r.s,.i r.a,.i r.e,(zbs 2 r.q)]),((zq r.q).1,[]),((zq r.q).1,(zq r.q).2)]) from rfl) ?_;refine zbb [.m _,.v (.ptr 0 0),.v (.ptr 0 2),.v (.i r.e),.v (.b (r.e==0))] ?_;refine zbn h (fun hc1 h=> ?_) (fun hc1 h=> ?_);refine zb (k0:=k0) (id:=1) ?_;refine w_r [.m _,.m _,.m _,.m _,.v (.ptr 0 0)] ?_;refine w_r [.v (.ptr 0 1)] ?_;refine zqo (U'':=(.B [(69,[.s r.s,.i at_,.i r.e,(zbs 2 r.q)]),((zq r.q).1,[]),((zq r.q).1,(zq r.q).2)])) (h:=zct (n:=1) rfl rfl rfl rfl rfl ⟨rfl,rfl,le_of_ble_eq_true rfl,by decide⟩) ?_;refine w_r [.v (.ptr 0 0),.v (.ptr 0 2)] ?_;refine zqo (U'':=(.B [(69,[.s r.s,.i at_,.i e,(zbs 2 r.q)]),((zq r.q).1,[]),((zq r.q).1,(zq r.q).2)])) (h:=zct (n:=1) rfl rfl rfl rfl rfl ⟨rfl,rfl,le_of_ble_eq_true rfl,by decide⟩) ?_;have he1:=Option.some.inj h;subst he1;exact qdw [2] 1 rfl rfl (by rw[zib];rfl) (zat rfl (ziz fun _=>rfl) zp (zd rfl (zt _ _ _) zab) rfl);have he2:=Option.some.inj h;subst he2;exact qdw [2] 1 rfl rfl (by rw[zib];rfl) (zat rfl (ziz fun _=>rfl) zp (zd rfl (zt _ _ _) zab) rfl)
def zee (r:Rd):Option (Int×Rd):=
 (bif (r.e !=0) then(some (0,r)) else(bif (decide (r.a>=(length r.s:Int))) then(some (0,r)) else(chk (0<=r.a/\ r.a<(length r.s:Int)) (zba (ix r.s r.a) (fun x1=>(some ((((x1).toNat:Nat):Int),r)))))))
theorem ent63:Ent prog 63:=enters_of Tryz.func63 (by kernel_rfl) rfl
theorem zrf (r:Rd)  (y:Int×Rd)(h:zee r=some y):RdC prog 63 [] r (.raw (.int .u8 y.1)) y.2:=by
 obtain⟨d,hd⟩: ∃d,Tryz.f63.body=some d:=⟨_,rfl⟩;refine qcj mix Tryz.func63 hd ent63 rfl (by first|rfl|exact rfl) (fun k0 hk0=> ?_);cases hd;unfold zee at h;refine zbv (by dsimp only[zaq,Tryz.f63,length_cons,length_nil,zero_add,Nat.reduceAdd,Nat.reduceSub,List.replicate,cons_append,nil_append]) (show rdS r.q r=(.B [(69,[.s r.s,.i r.a,.i r.e,(zbs 2 r.q)]),((zq r.q).1,[]),((zq r.q).1,(zq r.q).2)]) from rfl) ?_;refine zbb [.v (.u 0)] ?_;iterate 2 refine zj ?_
 refine zhe (k0:=k0) (id:=1) 15 (by kernel_rfl) (by kernel_rfl) ?_;refine zhv ?_;refine h_o (a:= .ptr 0 0) ?_;refine h_o (a:= .ptr 0 2) ?_;refine h_o (a:= .i r.e) ?_;refine h_o (a:= .b (r.e !=0)) ?_;refine zz h (fun hc1 h=> ?_) (fun hc1 h=> ?_);refine h_o (a:= .b true) (h:=zhj rfl hc1) ?_;iterate 9 refine z0t ?_
 refine ziq ?_;refine w_r [.p,.v (.b true)] ?_;refine zbd rfl ?_;refine zbb [.v (.u 0)] ?_;have he1:=Option.some.inj h;subst he1;exact zgp (a:= .u 0) [2] 1 rfl rfl (zaj _ _ _ rfl) (zat rfl (ziz fun _=>rfl) zp (zd rfl (zt _ _ _) zab) rfl);refine h_o (a:= .b false) (h:=zhj rfl hc1) ?_;refine zlk rfl rfl ?_;refine zhv ?_;refine zlk rfl rfl ?_;refine h_o (a:= .ptr 0 0) ?_;refine zlk rfl rfl ?_;refine h_o (a:= .ptr 0 1) ?_;refine zlk rfl rfl ?_;refine h_o (a:= .i r.a) ?_;refine zlk rfl rfl ?_;refine zhv ?_;refine zlk rfl rfl ?_;refine h_o (a:= .ptr 0 0) ?_;refine zlk rfl rfl ?_;refine h_o (a:= .ptr 0 0) ?_;refine zlk rfl rfl ?_;refine h_o (a:= .s r.s) ?_;refine zlk rfl rfl ?_;refine h_o (a:= .i (length r.s:Int)) (h:=zdk rfl rfl rfl) ?_;refine ziq ?_;refine w_r [.v (.b (decide (r.a>=(length r.s:Int)))),.v (.b (decide (r.a>=(length r.s:Int))))] ?_;refine zbn h (fun hc2 h=> ?_) (fun hc2 h=> ?_);refine zbb [.v (.u 0)] ?_;have he2:=Option.some.inj h;subst he2;exact zgp (a:= .u 0) [2] 1 rfl rfl (zaj _ _ _ rfl) (zat rfl (ziz fun _=>rfl) zp (zd rfl (zt _ _ _) zab) rfl);refine zj ?_;refine zhe (k0:=k0) (id:=3) 8 (by kernel_rfl) (by kernel_rfl) ?_;refine zhv ?_;iterate 2 refine h_o (a:= .ptr 0 0) ?_
 refine h_o (a:= .s r.s) ?_;refine zhv ?_;refine h_o (a:= .ptr 0 0) ?_;refine h_o (a:= .ptr 0 1) ?_;refine h_o (a:= .i r.a) ?_;refine ziq ?_;obtain⟨g1,h⟩:=ze h;obtain⟨x1,hx1,h⟩:=zk h;refine w_o (a:= .u (((x1).toNat:Nat):Int)) (h:=zaz (by rw[<-hx1];exact(zeo (l:=r.s) (n:=r.a) g1 rfl rfl rfl rfl))) ?_;refine zar ?_;have he3:=Option.some.inj h;subst he3;exact zgp (a:= .u (((x1).toNat:Nat):Int)) [2] 1 rfl rfl (zaj _ _ _ rfl) (zat rfl (ziz fun _=>rfl) zp (zd rfl (zt _ _ _) zab) rfl)
def zdg (fuel:Nat)(n:Tr)(r:Rd):Option (Tr×Rd):=
 (bif (r.e !=0) then(some (zaw,r)) else(chk (0<=r.a/\ r.a<=(length r.s:Int)/\ (length r.s:Int)<=(length r.s:Int)) (zba (sub r.s r.a (length r.s:Int)) (fun x1=>(zag (zeq fuel x1) (fun x2=>(bif (x2.2.2.2 !=0) then(chk (I64 (r.a+x2.2.2.1)) (zag (zjv (r.a+x2.2.2.1) x2.2.2.2 r) (fun x3=>(some (zaw,x3))))) else(chk (I64 (r.a+x2.2.2.1)) (zcu (τ:=Rd) (bif (decide (x2.2.2.1>0)) then(zag (zee (Rd.mk r.s (r.a+x2.2.2.1) r.e r.q)) (fun x4=>(chk (0<=x4.1/\ x4.1<256) (zba (Lib.indexByte ([42,43,63,123]:List UInt8) (zpa x4.1)) (fun x5=>(bif (decide (x5>=0)) then(zag (zjv x4.2.a 92 x4.2) (fun x6=>(some (inl (x6))))) else(some (inl (x4.2))))))))) else(some (inl ((Rd.mk r.s (r.a+x2.2.2.1) r.e r.q))))) (fun j1=>(chk ((pre n).length<2^40) (zba (zde n x2.1 x2.2.1) (fun x7=>(some (x7,j1)))))))))))))))
theorem ent98:Ent prog 98:=enters_of Tryz.func98 (by kernel_rfl) rfl
theorem zxw (fuel:Nat)(n:Tr)(r:Rd)  (y:Tr×Rd)(h:zdg fuel n r=some y):RdC Tryz.prog 98 [.A (n:Tr)] r (.A (y.1:Tr)) y.2:=by
 obtain⟨d,hd⟩: ∃d,Tryz.f98.body=some d:=⟨_,rfl⟩;refine qcj mix Tryz.func98 hd ent98 (by first|rfl|exact(zps (zae (Enc.clo _)) rfl)) (by first|rfl|exact(zae (Enc.clo _))) (fun k0 hk0=> ?_);cases hd;unfold zdg at h;refine zbv (by dsimp only[zaq,Tryz.f98,List.length_cons,List.length_nil,Nat.zero_add,Nat.reduceAdd,Nat.reduceSub,List.replicate,List.cons_append,List.nil_append]) (show rdS r.q r=(.B [(69,[.s r.s,.i r.a,.i r.e,(zbs 2 r.q)]),((zq r.q).1,[]),((zq r.q).1,(zq r.q).2)]) from rfl) ?_;refine zj (zb ?_);refine zdf (Enc.cells (n:Tr)) ?_;refine zdf zN ?_;refine zj ?_;refine zbb [.m _,.v (.ptr 0 0),.v (.ptr 0 2),.v (.i r.e),.v (.b (r.e !=0))] ?_;refine zbn h (fun hc1 h=> ?_) (fun hc1 h=> ?_);refine zj (zb ?_);refine zvz zaw ?_;refine zes 8 (Enc.cells (zaw:Tr)) ?_;have he1:=Option.some.inj h;subst he1;exact zgp (a:= .A (zaw:Tr)) [2] 1 rfl rfl (zaj _ _ _ (zae (Enc.clo _))) (zat rfl (ziz fun _=>rfl) zp (zd rfl (zt _ _ _) zab) rfl);refine zj ?_;refine zhe (k0:=k0) (id:=3) 18 (by kernel_rfl) (by kernel_rfl) ?_;refine zhv ?_;iterate 2 refine h_o (a:= .ptr 0 0) ?_
 refine h_o (a:= .s r.s) ?_;refine zhv ?_;refine h_o (a:= .ptr 0 0) ?_;refine h_o (a:= .ptr 0 1) ?_;refine h_o (a:= .i r.a) ?_;obtain⟨g1,h⟩:=ze h;obtain⟨x1,hx1,h⟩:=zk h;refine h_o (a:= .s x1) (h:=by rw[<-hx1];exact(zok (l:=r.s) g1 rfl rfl rfl rfl)) ?_;obtain⟨x2,hx2,h⟩:=zr h;refine qcf (z7z fuel x1 x2 hx2) ?_;refine zhv ?_;iterate 4 refine h_ex ?_
 iterate 3 refine zhv ?_
 refine ziq ?_;refine zar ?_;refine zj ?_;refine zbb [.m _,.v (.b (x2.2.2.2 !=0))] ?_;refine zbn h (fun hc2 h=> ?_) (fun hc2 h=> ?_);refine zgq (zb ?_);refine w_r [.m _,.m _,.v (.ptr 0 0),.v (.ptr 0 1),.v (.i r.a)] ?_;refine w_r [.m _] ?_;obtain⟨g2,h⟩:=ze h;refine zgu g2 ?_;refine zar ?_;obtain⟨x3,hx3,h⟩:=zr h;refine zhh (r:= .tup []) (U':=(.B [(69,[.s x3.s,.i x3.a,.i x3.e,(zbs 5 x3.q)]),((zq r.q).1,[]),((zq r.q).1,[]),(29,(Enc.cells (n:Tr))),(29,zN),((zq x3.q).1,(zq x3.q).2)])) ((zmz (r.a+x2.2.2.1) x2.2.2.2 r x3 hx3) _ 2 (by decide) rfl rfl) rfl rfl ⟨rfl,rfl⟩ (by dsimp only[zah,List.set]) ?_;refine zht 68 [(4,.ptr 4 0)] (U':=(.B [(69,[.s x3.s,.i x3.a,.i x3.e,(zbs 2 x3.q)]),((zq r.q).1,[]),((zq x3.q).1,(zq x3.q).2),(29,(Enc.cells (n:Tr))),(29,zN)])) (wmk (bl 68 16) 2 [] [5,3,4] 1 hk0 (zat rfl (ziz fun _=>rfl) zp (zd rfl (zt _ _ _) (zd rfl (zad _ _ _ (Enc.clo _)) (zd rfl rfl zab))) rfl)) ?_;refine zj (zb ?_);refine zvz zaw ?_;refine zes 8 (Enc.cells (zaw:Tr)) ?_;have he2:=Option.some.inj h;subst he2;exact zgp (a:= .A (zaw:Tr)) [2] 1 rfl rfl (zaj _ _ _ (zae (Enc.clo _))) (zat rfl (ziz fun _=>rfl) zp (zd rfl (zt _ _ _) zab) rfl);refine zbb [.m _,.v (.ptr 0 0),.v (.ptr 0 1),.v (.i r.a),.m _] ?_;obtain⟨g3,h⟩:=ze h;refine zgu g3 ?_;refine w_r [.v (.ptr 0 0),.v (.ptr 0 1)] ?_;refine zqo (U'':=(.B [(69,[.s r.s,.i (r.a+x2.2.2.1),.i r.e,(zbs 2 r.q)]),((zq r.q).1,[]),((zq r.q).1,(zq r.q).2),(29,(Enc.cells (n:Tr))),(29,zN)])) (h:=zct (n:=1) rfl rfl rfl rfl rfl ⟨rfl,rfl,Nat.le_of_ble_eq_true rfl,by decide⟩) ?_;refine zan h (bz 0 68 295147905179352825735) (fun j1=>[]) (fun j1=>(.B [(69,[.s j1.s,.i j1.a,.i j1.e,(zbs 2 j1.q)]),((zq r.q).1,[]),((zq j1.q).1,(zq j1.q).2),(29,(Enc.cells (n:Tr))),(29,zN)])) ?_ ?_;intro or1 h hr1;refine zgq (zb ?_);refine w_r [.m _,.v (.b (decide (x2.2.2.1>0)))] ?_;refine zz h (fun hc3 h=> ?_) (fun hc3 h=> ?_);refine zai hc3 ?_;refine zao rfl rfl ?_;refine zar ?_;refine zao rfl rfl ?_;obtain⟨x4,hx4,h⟩:=zr h;refine zhh (r:= .u x4.1) (U':=(.B [(69,[.s x4.2.s,.i x4.2.a,.i x4.2.e,(zbs 5 x4.2.q)]),((zq r.q).1,[]),((zq r.q).1,[]),(29,(Enc.cells (n:Tr))),(29,zN),((zq x4.2.q).1,(zq x4.2.q).2)])) ((zrf (Rd.mk r.s (r.a+x2.2.2.1) r.e r.q) x4 hx4) _ 2 (by decide) rfl rfl) rfl rfl ⟨rfl,rfl⟩ (by dsimp only[zah,List.set]) ?_;refine zao rfl rfl ?_;obtain⟨g4,h⟩:=ze h;obtain⟨x5,hx5,h⟩:=zk h;refine zch (args':=[.s ([42,43,63,123]:List UInt8),.u x4.1]) (r:= .i x5) (by rw[<-hx5];exact(z2d ([42,43,63,123]:List UInt8) g4)) ?_;refine w_r [.v (.b (decide (x5>=0))),.v (.b (decide (x5>=0)))] ?_;refine zht 68 [(0,.ptr 0 0),(3,.ptr 3 0),(4,.ptr 4 0),(5,.i x2.1),(6,.i x2.2.1),(57,.b (decide (x5>=0)))] (U':=(.B [(69,[.s x4.2.s,.i x4.2.a,.i x4.2.e,(zbs 2 x4.2.q)]),((zq r.q).1,[]),((zq x4.2.q).1,(zq x4.2.q).2),(29,(Enc.cells (n:Tr))),(29,zN)])) (wmk (bl 68 144115188075855993) 2 [] [5,3,4] 1 hk0 (zat rfl (ziz fun _=>rfl) zp (zd rfl (zt _ _ _) (zd rfl (zad _ _ _ (Enc.clo _)) (zd rfl rfl zab))) rfl)) ?_;refine zbn h (fun hc4 h=> ?_) (fun hc4 h=> ?_);refine zb (k0:=k0) (id:=9) ?_;refine w_r [.m _,.m _,.v (.ptr 0 0),.v (.ptr 0 1),.v (.i x4.2.a)] ?_;obtain⟨x6,hx6,h⟩:=zr h;refine zhh (r:= .tup []) (U':=(.B [(69,[.s x6.s,.i x6.a,.i x6.e,(zbs 5 x6.q)]),((zq r.q).1,[]),((zq x4.2.q).1,[]),(29,(Enc.cells (n:Tr))),(29,zN),((zq x6.q).1,(zq x6.q).2)])) ((zmz x4.2.a 92 x4.2 x6 hx6) _ 2 (by decide) rfl rfl) rfl rfl ⟨rfl,rfl⟩ (by dsimp only[zah,List.set]) ?_;refine zc (o:=or1) (x6) h ?_;exact(wmk (bl 68 120) 2 [] [5,3,4] 1 hk0 (zat rfl (ziz fun _=>rfl) zp (zd rfl (zt _ _ _) (zd rfl (zad _ _ _ (Enc.clo _)) (zd rfl rfl zab))) rfl));refine zc (o:=or1) (x4.2) h ?_;exact zbe (bl 68 120);refine zai hc3 ?_;refine w_r [.p,.p,.p,.p,.v (.b false)] ?_;refine at_wk (Wk.refl _ _ _) ?_;refine zcd rfl ?_;refine zc (o:=or1) ((Rd.mk r.s (r.a+x2.2.2.1) r.e r.q)) h ?_;exact zbe (bl 68 120);intro j1 h;refine zdi ?_;refine zbb [.v (.A (n:Tr)),.m _,.m _] ?_;obtain⟨g5,h⟩:=ze h;obtain⟨x7,hx7,h⟩:=zk h;refine zch (args':=[.A (n:Tr),.i x2.1,.i x2.2.1]) (r:= .A (x7:Tr)) (by rw[<-hx7];exact(z5e n x2.1 x2.2.1 g5)) ?_;refine zoa 8 (.B [(69,[.s j1.s,.i j1.a,.i j1.e,(zbs 2 j1.q)]),((zq r.q).1,[]),((zq j1.q).1,(zq j1.q).2),(29,(Enc.cells (n:Tr))),(29,(Enc.cells (x7:Tr)))]) ?_;have he3:=Option.some.inj h;subst he3;exact zgp (a:= .A (x7:Tr)) [2] 1 rfl rfl (zaj _ _ _ (zae (Enc.clo _))) (zat rfl (ziz fun _=>rfl) zp (zd rfl (zt _ _ _) zab) rfl)
end Go.Ab
namespace Go.Ab
open Go Go.RowKit Go.Fwd Go.Proofs
def zhd (fuel:Nat)(g:Int->Rd->Option (Tr×Rd))(r:Rd):Option (Tr×Rd):=
 (chk (0<=r.a/\ r.a<=(length r.s:Int)/\ (length r.s:Int)<=(length r.s:Int)) (zba (sub r.s r.a (length r.s:Int)) (fun x1=>(zcu (τ:=Rd) (chk (0<=(0:Int)/\ (0:Int)<(length x1:Int)) (zba (ix x1 (0:Int)) (fun x2=>(bif ((((x2).toNat:Nat):Int)==40) then(zba (Lib.hasPrefix x1 ([40,63,58]:List UInt8)) (fun x3=>(bif x3 then(zag (g 3 r) (fun x4=>(some (inr (x4.1,x4.2))))) else(zag (g 1 r) (fun x5=>(chk ((pre x5.1).length<2^60) (zba (zhw x5.1) (fun x6=>(some (inr (x6,x5.2))))))))))) else(bif ((((x2).toNat:Nat):Int)==91) then(zag (zmc fuel x1) (fun x7=>(bif (x7.2.2 !=0) then(chk (I64 (r.a+x7.2.1)) (zag (zjv (r.a+x7.2.1) x7.2.2 r) (fun x8=>(some (inr (zaw,x8)))))) else(chk (I64 (r.a+x7.2.1)) (zba (ofT x7.1) (fun x9=>(some (inr (x9,(Rd.mk r.s (r.a+x7.2.1) r.e r.q)))))))))) else(bif ((((x2).toNat:Nat):Int)==46) then(chk (I64 (r.a+1)) (zag (zhq fuel ([10]:List UInt8)) (fun x10=>(zba (~~~x10) (fun x11=>(zba (ofT x11) (fun x12=>(some (inr (x12,(Rd.mk r.s (r.a+1) r.e r.q))))))))))) else(zcu (τ:=Bool) (bif ((((x2).toNat:Nat):Int)==42) then(some (inl (((((x2).toNat:Nat):Int)==42)))) else(bif ((((x2).toNat:Nat):Int)==43) then(some (inl (((((x2).toNat:Nat):Int)==43)))) else(bif ((((x2).toNat:Nat):Int)==63) then(some (inl (((((x2).toNat:Nat):Int)==63)))) else(some (inl (((((x2).toNat:Nat):Int)==123))))))) (fun j2=>(bif j2 then(zag (zjv r.a 92 r) (fun x13=>(some (inl (x13))))) else(zcu (τ:=Bool) (bif ((((x2).toNat:Nat):Int)==94) then(some (inl (((((x2).toNat:Nat):Int)==94)))) else(some (inl (((((x2).toNat:Nat):Int)==36))))) (fun j3=>(bif j3 then(zag (zjv r.a 95 r) (fun x14=>(some (inl (x14))))) else(some (inl (r))))))))))))))) (fun j1=>(zba (zse x1) (fun x15=>(bif x15.2 then(chk (I64 (j1.a+2)) (zba (ofT x15.1) (fun x16=>(some (x16,(Rd.mk j1.s (j1.a+2) j1.e j1.q)))))) else(zag (zid x1 zlu) (fun x17=>(bif (x17.2.2 !=0) then(zag (zjv j1.a 90 j1) (fun x18=>(some (zaw,x18)))) else(chk (I64 (j1.a+x17.2.1)) (zag (zza fuel x17.1) (fun x19=>(some (x19,(Rd.mk j1.s (j1.a+x17.2.1) j1.e j1.q)))))))))))))))))
theorem ent99:Ent prog 99:=enters_of Tryz.func99 (by kernel_rfl) rfl
theorem atom_rd (fuel:Nat)(g:Int->Rd->Option (Tr×Rd))(r:Rd)(hg: ∀(k:Int)(r:Rd)(y:Tr×Rd),g k r=some y->RdC prog 131 [.raw (.int .i64 k)] r (.A y.1) y.2)(y:Tr×Rd)(h:zhd fuel g r=some y):RdC prog 99 [] r (.A (y.1:Tr)) y.2:=by
 obtain⟨d,hd⟩: ∃d,Tryz.f99.body=some d:=⟨_,rfl⟩;refine qcj mix Tryz.func99 hd ent99 rfl (by first|rfl|exact(zae (Enc.clo _))) (fun k0 hk0=> ?_);cases hd;unfold zhd at h;refine zbv (by dsimp only[zaq,Tryz.f99,length_cons,length_nil,zero_add,Nat.reduceAdd,Nat.reduceSub,List.replicate,cons_append,nil_append]) (show rdS r.q r=(.B [(69,[.s r.s,.i r.a,.i r.e,(zbs 2 r.q)]),((zq r.q).1,[]),((zq r.q).1,(zq r.q).2)]) from rfl) ?_;refine wq 1 ?_;refine zdf zN ?_;refine zj ?_;refine zhe (k0:=k0) (id:=1) 8 (by kernel_rfl) (by kernel_rfl) ?_;refine wq 8 ?_;refine ziq ?_;obtain⟨g1,h⟩:=ze h;obtain⟨x1,hx1,h⟩:=zk h;refine w_o (a:= .s x1) (h:=zaz (by rw[<-hx1];exact(zok (l:=r.s) g1 rfl rfl rfl rfl))) ?_;refine zar ?_;refine zan h (bz 0 136 87112285931760246646623899502532662132722) (fun j1=>[]) (fun j1=>(.B [(69,[.s j1.s,.i j1.a,.i j1.e,(zbs 2 j1.q)]),((zq r.q).1,[]),((zq j1.q).1,(zq j1.q).2),(29,zN)])) ?_ ?_;intro or1 h hr1;refine wq 2 ?_;obtain⟨g2,h⟩:=ze h;obtain⟨x2,hx2,h⟩:=zk h;refine w_o (a:= .u (((x2).toNat:Nat):Int)) (h:=zaz (by rw[<-hx2];exact(zeo (l:=x1) (n:=(0:Int)) g2 rfl rfl rfl rfl))) ?_;refine zx ?_;refine wq 3 ?_;refine zbn h (fun hc1 h=> ?_) (fun hc1 h=> ?_);refine zj ?_;refine wq 2 ?_;obtain⟨x3,hx3,h⟩:=zk h;refine zch (args':=[.s x1,.s ([40,63,58]:List UInt8)]) (r:= .b x3) (by rw[<-hx3];exact(zug x1 ([40,63,58]:List UInt8))) ?_;refine zbn h (fun hc2 h=> ?_) (fun hc2 h=> ?_);refine zgq (zb ?_);refine zar ?_;obtain⟨x4,hx4,h⟩:=zr h;refine zhh (r:= .A (x4.1:Tr)) (U':=(.B [(69,[.s x4.2.s,.i x4.2.a,.i x4.2.e,(zbs 4 x4.2.q)]),((zq r.q).1,[]),((zq r.q).1,[]),(29,zN),((zq x4.2.q).1,(zq x4.2.q).2)])) ((hg 3 r x4 hx4) _ 2 (by decide) rfl rfl) rfl rfl ⟨rfl,rfl⟩ (by dsimp only[zah,List.set]) ?_;refine zes 8 (Enc.cells (x4.1:Tr)) ?_;refine zht 136 [(2,.ptr 3 0)] (U':=(.B [(69,[.s x4.2.s,.i x4.2.a,.i x4.2.e,(zbs 2 x4.2.q)]),((zq r.q).1,[]),((zq x4.2.q).1,(zq x4.2.q).2),(29,(Enc.cells (x4.1:Tr)))])) (wmk (bl 136 4) 2 [] [4,3] 1 hk0 (zat rfl (ziz fun _=>rfl) zp (zd rfl (zt _ _ _) (zd rfl (zad _ _ _ (Enc.clo _)) zab)) rfl)) ?_;replace h:=zi h hr1;have he1:=Option.some.inj h;subst he1;exact zgp (a:= .A (x4.1:Tr)) [2] 1 rfl rfl (zaj _ _ _ (zae (Enc.clo _))) (zat rfl (ziz fun _=>rfl) zp (zd rfl (zt _ _ _) zab) rfl);refine zgq (zb ?_);refine zar ?_;obtain⟨x5,hx5,h⟩:=zr h;refine zhh (r:= .A (x5.1:Tr)) (U':=(.B [(69,[.s x5.2.s,.i x5.2.a,.i x5.2.e,(zbs 4 x5.2.q)]),((zq r.q).1,[]),((zq r.q).1,[]),(29,zN),((zq x5.2.q).1,(zq x5.2.q).2)])) ((hg 1 r x5 hx5) _ 2 (by decide) rfl rfl) rfl rfl ⟨rfl,rfl⟩ (by dsimp only[zah,List.set]) ?_;obtain⟨g3,h⟩:=ze h;obtain⟨x6,hx6,h⟩:=zk h;refine zch (args':=[.A (x5.1:Tr)]) (r:= .A (x6:Tr)) (by rw[<-hx6];exact(qjl x5.1 g3)) ?_;refine zes 8 (Enc.cells (x6:Tr)) ?_;refine zht 136 [(2,.ptr 3 0)] (U':=(.B [(69,[.s x5.2.s,.i x5.2.a,.i x5.2.e,(zbs 2 x5.2.q)]),((zq r.q).1,[]),((zq x5.2.q).1,(zq x5.2.q).2),(29,(Enc.cells (x6:Tr)))])) (wmk (bl 136 4) 2 [] [4,3] 1 hk0 (zat rfl (ziz fun _=>rfl) zp (zd rfl (zt _ _ _) (zd rfl (zad _ _ _ (Enc.clo _)) zab)) rfl)) ?_;replace h:=zi h hr1;have he2:=Option.some.inj h;subst he2;exact zgp (a:= .A (x6:Tr)) [2] 1 rfl rfl (zaj _ _ _ (zae (Enc.clo _))) (zat rfl (ziz fun _=>rfl) zp (zd rfl (zt _ _ _) zab) rfl);refine wq 3 ?_;refine zbn h (fun hc3 h=> ?_) (fun hc3 h=> ?_);refine wq 2 ?_;obtain⟨x7,hx7,h⟩:=zr h;refine zch (qbj fuel x1 x7 hx7) ?_;refine wq 4 ?_;refine zdf (Enc.cells (0#256:BS)) ?_;refine zes 4 (Enc.cells (x7.1:BS)) ?_;refine wq 2 ?_;refine zj ?_;refine wq 3 ?_;refine zbn h (fun hc4 h=> ?_) (fun hc4 h=> ?_);refine zgq (zb ?_);refine wq 6 ?_;obtain⟨g4,h⟩:=ze h;refine zgu g4 ?_;refine zar ?_;obtain⟨x8,hx8,h⟩:=zr h;refine zhh (r:= .tup []) (U':=(.B [(69,[.s x8.s,.i x8.a,.i x8.e,(zbs 5 x8.q)]),((zq r.q).1,[]),((zq r.q).1,[]),(29,zN),(26,(Enc.cells (x7.1:BS))),((zq x8.q).1,(zq x8.q).2)])) ((zmz (r.a+x7.2.1) x7.2.2 r x8 hx8) _ 2 (by decide) rfl rfl) rfl rfl ⟨rfl,rfl⟩ (by dsimp only[zah,List.set]) ?_;refine zht 136 [(2,.ptr 3 0)] (U':=(.B [(69,[.s x8.s,.i x8.a,.i x8.e,(zbs 2 x8.q)]),((zq r.q).1,[]),((zq x8.q).1,(zq x8.q).2),(29,zN),(26,(Enc.cells (x7.1:BS)))])) (wmk (bl 136 4) 2 [] [5,3,4] 1 hk0 (zat rfl (ziz fun _=>rfl) zp (zd rfl (zt _ _ _) (zd rfl rfl (zd rfl (zad _ _ _ (Enc.clo _)) zab))) rfl)) ?_;refine wq 1 ?_;refine zvz zaw ?_;refine zes 8 (Enc.cells (zaw:Tr)) ?_;replace h:=zi h hr1;have he3:=Option.some.inj h;subst he3;exact zgp (a:= .A (zaw:Tr)) [2] 1 rfl rfl (zaj _ _ _ (zae (Enc.clo _))) (zat rfl (ziz fun _=>rfl) zp (zd rfl (zt _ _ _) zab) rfl);refine wq 6 ?_;obtain⟨g5,h⟩:=ze h;refine zgu g5 ?_;refine wq 2 ?_;refine zqo (U'':=(.B [(69,[.s r.s,.i (r.a+x7.2.1),.i r.e,(zbs 2 r.q)]),((zq r.q).1,[]),((zq r.q).1,(zq r.q).2),(29,zN),(26,(Enc.cells (x7.1:BS)))])) (h:=zct (n:=1) rfl rfl rfl rfl rfl ⟨rfl,rfl,le_of_ble_eq_true rfl,by decide⟩) ?_;refine wq 2 ?_;obtain⟨x9,hx9,h⟩:=zk h;refine zch (args':=[.A (x7.1:BS)]) (r:= .A (x9:Tr)) (by rw[<-hx9];exact(k_of x7.1)) ?_;refine zes 8 (Enc.cells (x9:Tr)) ?_;replace h:=zi h hr1;have he4:=Option.some.inj h;subst he4;exact zgp (a:= .A (x9:Tr)) [2] 1 rfl rfl (zaj _ _ _ (zae (Enc.clo _))) (zat rfl (ziz fun _=>rfl) zp (zd rfl (zt _ _ _) zab) rfl);refine wq 3 ?_;refine zbn h (fun hc5 h=> ?_) (fun hc5 h=> ?_);refine wq 5 ?_;obtain⟨g6,h⟩:=ze h;refine zgu g6 ?_;refine wq 2 ?_;refine zqo (U'':=(.B [(69,[.s r.s,.i (r.a+1),.i r.e,(zbs 2 r.q)]),((zq r.q).1,[]),((zq r.q).1,(zq r.q).2),(29,zN)])) (h:=zct (n:=1) rfl rfl rfl rfl rfl ⟨rfl,rfl,le_of_ble_eq_true rfl,by decide⟩) ?_;refine wq 1 ?_;refine w_o (a:= .F (([10]:List UInt8):List UInt8)) (h:=zaz (zho (α:=UInt8) (l:=([10]:List UInt8)) (cs:=[.u 10]) rfl rfl)) ?_;obtain⟨x10,hx10,h⟩:=zr h;refine zch (zlj fuel ([10]:List UInt8) x10 hx10) ?_;obtain⟨x11,hx11,h⟩:=zk h;refine zch (args':=[.A (x10:BS)]) (r:= .A (x11:BS)) (by rw[<-hx11];exact(k_not x10)) ?_;obtain⟨x12,hx12,h⟩:=zk h;refine zch (args':=[.A (x11:BS)]) (r:= .A (x12:Tr)) (by rw[<-hx12];exact(k_of x11)) ?_;refine zes 8 (Enc.cells (x12:Tr)) ?_;replace h:=zi h hr1;have he5:=Option.some.inj h;subst he5;exact zgp (a:= .A (x12:Tr)) [2] 1 rfl rfl (zaj _ _ _ (zae (Enc.clo _))) (zat rfl (ziz fun _=>rfl) zp (zd rfl (zt _ _ _) zab) rfl);refine zan h (bz 0 136 87112285931760246646623899502532657938418) (fun j2=>[(75,.b j2)]) (fun j2=>(.B [(69,[.s r.s,.i r.a,.i r.e,(zbs 2 r.q)]),((zq r.q).1,[]),((zq r.q).1,(zq r.q).2),(29,zN)])) ?_ ?_;intro or2 h hr2;refine wq 3 ?_;refine zbn h (fun hc6 h=> ?_) (fun hc6 h=> ?_);refine zc (o:=or2) (((((x2).toNat:Nat):Int)==42)) h ?_;exact zbe (bl 136 37778931862957165903885);refine wq 3 ?_;refine zbn h (fun hc7 h=> ?_) (fun hc7 h=> ?_);refine zc (o:=or2) (((((x2).toNat:Nat):Int)==43)) h ?_;exact zbe (bl 136 37778931862957165903885);refine wq 3 ?_;refine zbn h (fun hc8 h=> ?_) (fun hc8 h=> ?_);refine zc (o:=or2) (((((x2).toNat:Nat):Int)==63)) h ?_;exact zbe (bl 136 37778931862957165903885);refine zb (k0:=k0) (id:=20) ?_;refine wq 2 ?_;refine zc (o:=or2) (((((x2).toNat:Nat):Int)==123)) h ?_;exact zbe (bl 136 37778931862957165903885);intro j2 h;refine zdi ?_;refine zbn h (fun hc9 h=> ?_) (fun hc9 h=> ?_);refine zb (k0:=k0) (id:=21) ?_;refine wq 5 ?_;obtain⟨x13,hx13,h⟩:=zr h;refine zhh (r:= .tup []) (U':=(.B [(69,[.s x13.s,.i x13.a,.i x13.e,(zbs 4 x13.q)]),((zq r.q).1,[]),((zq r.q).1,[]),(29,zN),((zq x13.q).1,(zq x13.q).2)])) ((zmz r.a 92 r x13 hx13) _ 2 (by decide) rfl rfl) rfl rfl ⟨rfl,rfl⟩ (by dsimp only[zah,List.set]) ?_;refine zc (o:=or1) (x13) h ?_;exact(wmk (bl 136 13) 2 [] [4,3] 1 hk0 (zat rfl (ziz fun _=>rfl) zp (zd rfl (zt _ _ _) (zd rfl rfl zab)) rfl));refine zan h [22,75,86,87,88] (fun j3=>[(86,.b j3)]) (fun j3=>(.B [(69,[.s r.s,.i r.a,.i r.e,(zbs 2 r.q)]),((zq r.q).1,[]),((zq r.q).1,(zq r.q).2),(29,zN)])) ?_ ?_;intro or3 h hr3;refine wq 3 ?_;refine zbn h (fun hc10 h=> ?_) (fun hc10 h=> ?_);refine zc (o:=or3) (((((x2).toNat:Nat):Int)==94)) h ?_;exact zbe (bl 136 87112285931759782381330235621972409057279);refine zb (k0:=k0) (id:=23) ?_;refine wq 2 ?_;refine zc (o:=or3) (((((x2).toNat:Nat):Int)==36)) h ?_;exact zbe (bl 136 87112285931759782381330235621972409057279);intro j3 h;refine zdi ?_;refine zbn h (fun hc11 h=> ?_) (fun hc11 h=> ?_);refine zb (k0:=k0) (id:=24) ?_;refine wq 5 ?_;obtain⟨x14,hx14,h⟩:=zr h;refine zhh (r:= .tup []) (U':=(.B [(69,[.s x14.s,.i x14.a,.i x14.e,(zbs 4 x14.q)]),((zq r.q).1,[]),((zq r.q).1,[]),(29,zN),((zq x14.q).1,(zq x14.q).2)])) ((zmz r.a 95 r x14 hx14) _ 2 (by decide) rfl rfl) rfl rfl ⟨rfl,rfl⟩ (by dsimp only[zah,List.set]) ?_;refine zc (o:=or1) (x14) h ?_;exact(wmk (bl 136 13) 2 [] [4,3] 1 hk0 (zat rfl (ziz fun _=>rfl) zp (zd rfl (zt _ _ _) (zd rfl rfl zab)) rfl));refine zc (o:=or1) (r) h ?_;exact zbe (bl 136 13);intro j1 h;refine zdi ?_;refine zj ?_;refine wq 2 ?_;obtain⟨x15,hx15,h⟩:=zk h;refine zch (args':=[.s x1]) (r:= .tup [.A (x15.1:BS),.b x15.2]) (by rw[<-hx15];exact(qfm x1)) ?_;refine wq 3 ?_;refine zdf (Enc.cells (0#256:BS)) ?_;refine zes 4 (Enc.cells (x15.1:BS)) ?_;refine wq 3 ?_;refine zbn h (fun hc12 h=> ?_) (fun hc12 h=> ?_);refine wq 5 ?_;obtain⟨g7,h⟩:=ze h;refine zgu g7 ?_;refine wq 2 ?_;refine zqo (U'':=(.B [(69,[.s j1.s,.i (j1.a+2),.i j1.e,(zbs 2 j1.q)]),((zq r.q).1,[]),((zq j1.q).1,(zq j1.q).2),(29,zN),(26,(Enc.cells (x15.1:BS)))])) (h:=zct (n:=1) rfl rfl rfl rfl rfl ⟨rfl,rfl,le_of_ble_eq_true rfl,by decide⟩) ?_;refine wq 2 ?_;obtain⟨x16,hx16,h⟩:=zk h;refine zch (args':=[.A (x15.1:BS)]) (r:= .A (x16:Tr)) (by rw[<-hx16];exact(k_of x15.1)) ?_;refine zes 8 (Enc.cells (x16:Tr)) ?_;have he6:=Option.some.inj h;subst he6;exact zgp (a:= .A (x16:Tr)) [2] 1 rfl rfl (zaj _ _ _ (zae (Enc.clo _))) (zat rfl (ziz fun _=>rfl) zp (zd rfl (zt _ _ _) zab) rfl);refine wq 2 ?_;refine zch (r:= .A (zlu:BS)) k_marks ?_;obtain⟨x17,hx17,h⟩:=zr h;refine zch (zuj x1 zlu x17 hx17) ?_;refine wq 7 ?_;refine zj ?_;refine wq 3 ?_;refine zbn h (fun hc13 h=> ?_) (fun hc13 h=> ?_);refine zgq (zb ?_);refine wq 5 ?_;obtain⟨x18,hx18,h⟩:=zr h;refine zhh (r:= .tup []) (U':=(.B [(69,[.s x18.s,.i x18.a,.i x18.e,(zbs 5 x18.q)]),((zq r.q).1,[]),((zq j1.q).1,[]),(29,zN),(26,(Enc.cells (x15.1:BS))),((zq x18.q).1,(zq x18.q).2)])) ((zmz j1.a 90 j1 x18 hx18) _ 2 (by decide) rfl rfl) rfl rfl ⟨rfl,rfl⟩ (by dsimp only[zah,List.set]) ?_;refine zht 136 [(2,.ptr 3 0)] (U':=(.B [(69,[.s x18.s,.i x18.a,.i x18.e,(zbs 2 x18.q)]),((zq r.q).1,[]),((zq x18.q).1,(zq x18.q).2),(29,zN),(26,(Enc.cells (x15.1:BS)))])) (wmk (bl 136 4) 2 [] [5,3,4] 1 hk0 (zat rfl (ziz fun _=>rfl) zp (zd rfl (zt _ _ _) (zd rfl rfl (zd rfl (zad _ _ _ (Enc.clo _)) zab))) rfl)) ?_;refine wq 1 ?_;refine zvz zaw ?_;refine zes 8 (Enc.cells (zaw:Tr)) ?_;have he7:=Option.some.inj h;subst he7;exact zgp (a:= .A (zaw:Tr)) [2] 1 rfl rfl (zaj _ _ _ (zae (Enc.clo _))) (zat rfl (ziz fun _=>rfl) zp (zd rfl (zt _ _ _) zab) rfl);refine wq 6 ?_;obtain⟨g8,h⟩:=ze h;refine zgu g8 ?_;refine wq 2 ?_;refine zqo (U'':=(.B [(69,[.s j1.s,.i (j1.a+x17.2.1),.i j1.e,(zbs 2 j1.q)]),((zq r.q).1,[]),((zq j1.q).1,(zq j1.q).2),(29,zN),(26,(Enc.cells (x15.1:BS)))])) (h:=zct (n:=1) rfl rfl rfl rfl rfl ⟨rfl,rfl,le_of_ble_eq_true rfl,by decide⟩) ?_;refine wq 2 ?_;obtain⟨x19,hx19,h⟩:=zr h;refine zch (qkd fuel x17.1 x19 hx19) ?_;refine zes 8 (Enc.cells (x19:Tr)) ?_;have he8:=Option.some.inj h;subst he8;exact zgp (a:= .A (x19:Tr)) [2] 1 rfl rfl (zaj _ _ _ (zae (Enc.clo _))) (zat rfl (ziz fun _=>rfl) zp (zd rfl (zt _ _ _) zab) rfl)
end Go.Ab
namespace Go.Ab
open Go Go.RowKit Go.Fwd
def valAt (PL:List (Option (Nat×AV)))(i:Nat):AV:=match PL[i]? with
 |some (some (_,v))=>v
 |_=> .raw undef
def qqj (f:Nat->Prop):List Nat->Prop
 |[]=>True
 |i::l=>f i/\ qqj f l
theorem qqr {f:Nat->Prop}:qqj f []:=trivial
theorem qhc {f:Nat->Prop} {i:Nat} {l:List Nat} (h:f i)(r:qqj f l):qqj f (i::l):=⟨h,r⟩
theorem qpy {f:Nat->Prop}: ∀ {l:List Nat},qqj f l-> ∀i∈l,f i
 | _::_,⟨h,r⟩,i,hi=>by
  rcases mem_cons.1 hi with rfl|hi
  ·exact h
  ·exact qpy r i hi
section
variable {IT:IterP} {P:Program} {W:Owed} {ops ops0:Array Oper} {FIN:List AV->St->Prop} {S0 L S:List AV} {ps PL:List (Option (Nat×AV))} {n k m m':Nat} {U U':St} {i:Nat} {o:Oper} {v:AV}
theorem nd_v (hops:ops=ops0)(hS:S0=L)(hps:ps=PL)(ho:ops0[i]? =some o)(hv:valAt PL i=v)(hx:aop P (zbz S) U o=some (v,U') \/zwa P (zbz S) U o=some (v,U'))(hN:aN IT P W ops FIN S0 ps n k (m+2^i) U')(hg:o.guard=none:=by exact rfl)(hc:zcx S o=none:=by exact rfl)(hy:zdh S o=none:=by exact rfl)
 (hb:(bl n m).set i true=bl n (m+2^i):=by kernel_rfl) (e:zap L (upS PL (bl n (m+2^i)))=zah S o.dst v:=by kernel_rfl):zpm IT P W ops (fun S U=>zpq IT P W ops FIN k ⟨(bl n m).set i true⟩ S U) i S U:=by
 unfold zpm;rw[hops,ho];simp only[hg,zfd,hc,hy];rw[<-hops];exact .inl ⟨v,U',hx.elim .inl fun h=> .inr (.inr (.inl h)),zfq hN hS hps hb e⟩
theorem nd_n (is:List Nat)(hops:ops=ops0)(hS:S0=L)(hps:ps=PL)(e:zap L (upS PL (bl n m))=S)(h:qqj (fun i=>zpm IT P W ops (fun S U=>zpq IT P W ops FIN k ⟨(bl n m).set i true⟩ S U) i S U) is)
 (hr:Region.ready .any ops0 ⟨bl n m⟩=is:=by kernel_rfl) (hne:is≠[]:=by decide):aN IT P W ops FIN S0 ps n (k+1) m U:=
 aN_n hops hS hps is (qpy h) hr hne e
theorem nd (is:List Nat)(hops:ops=ops0:=by assumption)(hS:S0=L:=by assumption)(hps:ps=PL:=by assumption)(e:zap L (upS PL (bl n m))=S:=by dsimp only[zap,List.foldl,List.set,upS,bl,Nat.reduceMod,Nat.reduceDiv,Nat.reduceBEq])
 (h:qqj (fun i=>zpm IT P W ops (fun S U=>zpq IT P W ops FIN k ⟨(bl n m).set i true⟩ S U) i S U) is:=by
  repeat(first|exact qqr|refine qhc (nd_v (by assumption) (by assumption) (by assumption) (by exact rfl) (by exact rfl) (.inl (by exact rfl)) (by assumption)) ?_))
 (hr:Region.ready .any ops0 ⟨bl n m⟩=is:=by kernel_rfl) (hne:is≠[]:=by decide):aN IT P W ops FIN S0 ps n (k+1) m U:=
 nd_n is hops hS hps e h hr hne
theorem q_sub2 {x y:Operand} {t:TypeId} {c} {ρ:Operand->AV} {a b:Int} (ho:o.op= .binOp .sub t x y c)(hx:ρ x= .raw (.int .i64 a))(hy:ρ y= .raw (.int .i64 b))(g: -9223372036854775808<=a-b/\ a-b<9223372036854775808):aop P ρ U o=some (.raw (.int .i64 (a-b)),U):=zaz (zju ho hx hy rfl g.1 g.2)
end
end Go.Ab
namespace Go.Ab
open Go Go.RowKit Go.Fwd Go.Proofs
def zfm (p:Rd->Option (Tr×Rd))(k:Int)(r:Rd):Option (Tr×Rd):=
 (chk (length (zcv r.q)<2^40) (chk (I64 (r.a+k)) (zag (p (Rd.mk r.s (r.a+k) r.e (ziy r.q r.a))) (fun x1=>(zcu (τ:=Rd) (zag (zee x1.2) (fun x2=>(bif (x2.1==41) then(chk (I64 (x2.2.a+1)) (chk (I64 ((length (zcv x2.2.q):Int)-1)) (chk (zcv x2.2.q≠[]) (some (inl ((Rd.mk x2.2.s (x2.2.a+1) x2.2.e (zzt x2.2.q)))))))) else(some (inl (x2.2)))))) (fun j1=>(some (x1.1,j1))))))))
theorem nd5 {IT:IterP} {W:Owed} {ops ops0:Array Oper} {FIN:List AV->St->Prop} {S0 L S:List AV} {ps PL:List (Option (Nat×AV))} {n k m:Nat} {U:St} (is:List Nat)(hops:ops=ops0:=by assumption)(hS:S0=L:=by assumption)(hps:ps=PL:=by assumption)(e:zap L (upS PL (bl n m))=S:=by dsimp only[zap,List.foldl,List.set,upS,bl,Nat.reduceMod,Nat.reduceDiv,Nat.reduceBEq])
 (h:qqj (fun i=>zpm IT Tryz.prog W ops (fun S U=>zpq IT Tryz.prog W ops FIN k ⟨(bl n m).set i true⟩ S U) i S U) is:=by
  repeat(first|exact qqr|refine qhc (nd_v (by assumption) (by assumption) (by assumption) (by exact rfl) (by exact rfl) (by first|exact .inl rfl|exact .inl (zaz (z5i (b:=2) rfl rfl))|exact .inl (q_sub2 rfl rfl rfl (by assumption))|exact .inl (zaz (zho (α:=Int) rfl (by rw[Enc.cons,Enc.nil];rfl)))|exact .inr (op_push (b:=2) (by assumption) rfl rfl rfl rfl rfl rfl rfl)|exact .inl (qce rfl rfl rfl rfl)) (by assumption)) ?_))
 (hr:Region.ready .any ops0 ⟨bl n m⟩=is:=by kernel_rfl) (hne:is≠[]:=by decide):aN IT Tryz.prog W ops FIN S0 ps n (k+1) m U:=nd_n is hops hS hps e h hr hne
theorem ent131:Ent prog 131:=enters_of Tryz.func131 (by kernel_rfl) rfl
theorem qpk (p:Rd->Option (Tr×Rd))(k:Int)(r:Rd)(hp: ∀(r:Rd)(y:Tr×Rd),p r=some y->RdC prog 34 [] r (.A y.1) y.2)(y:Tr×Rd)(h:zfm p k r=some y):RdC prog 131 [.raw (.int .i64 k)] r (.A (y.1:Tr)) y.2:=by
 obtain⟨d,hd⟩: ∃d,Tryz.f131.body=some d:=⟨_,rfl⟩;refine qcj mix Tryz.func131 hd ent131 (by first|rfl|exact(zps rfl rfl)) (by first|rfl|exact(zae (Enc.clo _))) (fun k0 hk0=> ?_);cases hd;unfold zfm at h;refine zbv (by dsimp only[zaq,Tryz.f131,length_cons,length_nil,zero_add,Nat.reduceAdd,Nat.reduceSub,List.replicate,cons_append,nil_append]) (show rdS r.q r=(.B [(69,[.s r.s,.i r.a,.i r.e,(zbs 2 r.q)]),((zq r.q).1,[]),((zq r.q).1,(zq r.q).2)]) from rfl) ?_;refine zj (zb ?_);refine zdf zN ?_;obtain⟨g1,h⟩:=ze h;refine qml (id:=1) [.ptr 0 0,.i k,.raw undef,.raw undef,.ptr 3 0,.raw undef,.ptr 0 0,.ptr 0 0,.ptr 0 0,.ptr 0 3,(zbs 2 r.q),.ptr 0 0,.ptr 0 0,.ptr 0 1,.i r.a,.F (([r.a]:List Int):List Int),(zbs 4 (ziy r.q r.a)),.ptr 0 0,.ptr 0 3,.raw undef,.raw undef,.raw undef,.raw undef,.raw undef,.raw undef,.raw undef,.raw undef,.raw undef,.raw undef,.raw undef,.raw undef,.raw undef,.raw undef,.raw undef,.raw undef,.raw undef,.raw undef,.raw undef,.raw undef,.raw undef,.raw undef,.raw undef,.raw undef,.raw undef,.raw undef,.raw undef,.raw undef,.raw undef,.raw undef,.raw undef,.raw undef,.raw undef,.raw undef,.raw undef] (.B [(69,[.s r.s,.i r.a,.i r.e,(zbs 4 (ziy r.q r.a))]),((zq r.q).1,[]),((zq r.q).1,[]),(29,zN),((zq (ziy r.q r.a)).1,(zq (ziy r.q r.a)).2)]) ?_ ?_;refine zrh (fun ops hops FIN hFIN S0 hS0=> ?_);let v8:AV:= .ptr 0 0
 let v12:AV:= .ptr 0 0
 let v9:AV:= .ptr 0 3
 let v13:AV:= .ptr 0 1
 let v10:AV:=(zbs 2 r.q)
 let v14:AV:= .i r.a
 let v15:AV:= .F (([r.a]:List Int):List Int)
 let v16:AV:=(zbs 4 (ziy r.q r.a))
 let v17:AV:= .ptr 0 0
 let v18:AV:= .ptr 0 3
 let G0:St:=(.B [(69,[.s r.s,.i r.a,.i r.e,(zbs 2 r.q)]),((zq r.q).1,[]),((zq r.q).1,(zq r.q).2),(29,zN)])
 let G1:St:=(.B [(69,[.s r.s,.i r.a,.i r.e,(zbs 2 r.q)]),((zq r.q).1,[]),((zq r.q).1,[]),(29,zN),((zq (ziy r.q r.a)).1,(zq (ziy r.q r.a)).2)])
 let G2:St:=(.B [(69,[.s r.s,.i r.a,.i r.e,(zbs 4 (ziy r.q r.a))]),((zq r.q).1,[]),((zq r.q).1,[]),(29,zN),((zq (ziy r.q r.a)).1,(zq (ziy r.q r.a)).2)])
 obtain⟨ps,hps⟩: ∃ps:List (Option (Nat×AV)),ps=[some (6,.ptr 0 0),some (7,.ptr 0 0),some (8,v8),some (9,v9),some (10,v10),some (11,.ptr 0 0),some (12,v12),some (13,v13),some (14,v14),some (15,v15),some (16,v16),some (17,v17),some (18,v18),none]:=⟨_,rfl⟩;let N:Nat->Nat->St->Prop:=fun k m U=>aN (ITP prog) prog none ops FIN S0 ps 14 k m U
 have n64:N 0 16383 G2:=by
  exact aN_0 hops hS0 hps (hFIN _ _ (Wk.refl _ _ _))
 have n63:N 1 8191 G1:=nd5 [13];have n62:N 2 4095 G1:=nd5 [12];have n61:N 3 2047 G1:=nd5 [11];have n60:N 4 2046 G1:=nd5 [0];have n59:N 4 1023 G0:=nd5 [10];have n58:N 5 1022 G0:=nd5 [0,10];have n57:N 5 1007 G0:=nd5 [4];have n56:N 5 511 G0:=nd5 [9];have n55:N 6 1006 G0:=nd5 [0,4];have n54:N 6 510 G0:=nd5 [0,9];have n53:N 6 999 G0:=nd5 [3];have n52:N 6 495 G0:=nd5 [4,9];have n51:N 6 255 G0:=nd5 [8];have n50:N 7 998 G0:=nd5 [0,3];have n49:N 7 494 G0:=nd5 [0,4,9];have n48:N 7 254 G0:=nd5 [0,8];have n47:N 7 995 G0:=nd5 [2];have n46:N 7 487 G0:=nd5 [3,9];have n45:N 7 239 G0:=nd5 [4,8];have n44:N 7 127 G0:=nd5 [7];have n43:N 8 994 G0:=nd5 [0,2];have n42:N 8 486 G0:=nd5 [0,3,9];have n41:N 8 238 G0:=nd5 [0,4,8];have n40:N 8 126 G0:=nd5 [0,7];have n39:N 8 993 G0:=nd5 [1];have n38:N 8 483 G0:=nd5 [2,9];have n37:N 8 231 G0:=nd5 [3,8];have n36:N 8 111 G0:=nd5 [4,7];have n35:N 8 63 G0:=nd5 [6];have n34:N 9 992 G0:=nd5 [0,1];have n33:N 9 482 G0:=nd5 [0,2,9];have n32:N 9 230 G0:=nd5 [0,3,8];have n31:N 9 110 G0:=nd5 [0,4,7];have n30:N 9 62 G0:=nd5 [0,6];have n29:N 9 481 G0:=nd5 [1,9];have n28:N 9 227 G0:=nd5 [2,8];have n27:N 9 103 G0:=nd5 [3,7];have n26:N 9 47 G0:=nd5 [4,6];have n25:N 9 31 G0:=nd5 [5];have n24:N 10 480 G0:=nd5 [0,1,9];have n23:N 10 226 G0:=nd5 [0,2,8];have n22:N 10 102 G0:=nd5 [0,3,7];have n21:N 10 46 G0:=nd5 [0,4,6];have n20:N 10 30 G0:=nd5 [0,5];have n19:N 10 225 G0:=nd5 [1,8];have n18:N 10 99 G0:=nd5 [2,7];have n17:N 10 39 G0:=nd5 [3,6];have n16:N 10 15 G0:=nd5 [4,5];have n15:N 11 224 G0:=nd5 [0,1,8];have n14:N 11 98 G0:=nd5 [0,2,7];have n13:N 11 38 G0:=nd5 [0,3,6];have n12:N 11 14 G0:=nd5 [0,4,5];have n11:N 11 97 G0:=nd5 [1,7];have n10:N 11 35 G0:=nd5 [2,6];have n9:N 11 7 G0:=nd5 [3,5];have n8:N 12 96 G0:=nd5 [0,1,7];have n7:N 12 34 G0:=nd5 [0,2,6];have n6:N 12 6 G0:=nd5 [0,3,5];have n5:N 12 33 G0:=nd5 [1,6];have n4:N 12 3 G0:=nd5 [2,5];have n3:N 13 32 G0:=nd5 [0,1,6];have n2:N 13 2 G0:=nd5 [0,2,5];have n1:N 13 1 G0:=nd5 [1,5];have n0:N 14 0 G0:=nd5 [0,1,5];exact zya n0 hps;refine zbb [.m _,.v (.ptr 0 0),.v (.ptr 0 1),.v (.i r.a),.m _] ?_;obtain⟨g2,h⟩:=ze h;refine zgu g2 ?_;refine w_r [.v (.ptr 0 0),.v (.ptr 0 1)] ?_;refine zqo (U'':=(.B [(69,[.s r.s,.i (r.a+k),.i r.e,(zbs 4 (ziy r.q r.a))]),((zq r.q).1,[]),((zq r.q).1,[]),(29,zN),((zq (ziy r.q r.a)).1,(zq (ziy r.q r.a)).2)])) (h:=zct (n:=1) rfl rfl rfl rfl rfl ⟨rfl,rfl,le_of_ble_eq_true rfl,by decide⟩) ?_;refine zgq (zb ?_);refine zar ?_;obtain⟨x1,hx1,h⟩:=zr h;refine zhh (r:= .A (x1.1:Tr)) (U':=(.B [(69,[.s x1.2.s,.i x1.2.a,.i x1.2.e,(zbs 5 x1.2.q)]),((zq r.q).1,[]),((zq r.q).1,[]),(29,zN),((zq (ziy r.q r.a)).1,[]),((zq x1.2.q).1,(zq x1.2.q).2)])) ((hp (Rd.mk r.s (r.a+k) r.e (ziy r.q r.a)) x1 hx1) _ 4 (by decide) rfl rfl) rfl rfl ⟨rfl,rfl⟩ (by dsimp only[zah,List.set]) ?_;refine zdf zN ?_;refine zes 8 (Enc.cells (x1.1:Tr)) ?_;refine zht 54 [(0,.ptr 0 0),(4,.ptr 3 0),(5,.ptr 4 0)] (U':=(.B [(69,[.s x1.2.s,.i x1.2.a,.i x1.2.e,(zbs 2 x1.2.q)]),((zq r.q).1,[]),((zq x1.2.q).1,(zq x1.2.q).2),(29,zN),(29,(Enc.cells (x1.1:Tr)))])) (wmk (bl 54 49) 2 [] [5,3,6] 1 hk0 (zat rfl (ziz fun _=>rfl) zp (zd rfl (zt _ _ _) (zd rfl rfl (zd rfl (zad _ _ _ (Enc.clo _)) zab))) rfl)) ?_;refine zan h (bz 0 53 9007198717870081) (fun j1=>[]) (fun j1=>(.B [(69,[.s j1.s,.i j1.a,.i j1.e,(zbs 2 j1.q)]),((zq r.q).1,[]),((zq j1.q).1,(zq j1.q).2),(29,zN),(29,(Enc.cells (x1.1:Tr)))])) ?_ ?_;intro or1 h hr1;refine zgq (zb ?_);refine zar ?_;obtain⟨x2,hx2,h⟩:=zr h;refine zhh (r:= .u x2.1) (U':=(.B [(69,[.s x2.2.s,.i x2.2.a,.i x2.2.e,(zbs 5 x2.2.q)]),((zq r.q).1,[]),((zq x1.2.q).1,[]),(29,zN),(29,(Enc.cells (x1.1:Tr))),((zq x2.2.q).1,(zq x2.2.q).2)])) ((zrf x1.2 x2 hx2) _ 2 (by decide) rfl rfl) rfl rfl ⟨rfl,rfl⟩ (by dsimp only[zah,List.set]) ?_;refine w_o (a:= .b (x2.1==41)) ?_;refine zht 54 [(0,.ptr 0 0),(4,.ptr 3 0),(5,.ptr 4 0),(31,.b (x2.1==41))] (U':=(.B [(69,[.s x2.2.s,.i x2.2.a,.i x2.2.e,(zbs 2 x2.2.q)]),((zq r.q).1,[]),((zq x2.2.q).1,(zq x2.2.q).2),(29,zN),(29,(Enc.cells (x1.1:Tr)))])) (wmk (bl 54 2147483697) 2 [] [5,3,4] 1 hk0 (zat rfl (ziz fun _=>rfl) zp (zd rfl (zt _ _ _) (zd rfl rfl (zd rfl (zad _ _ _ (Enc.clo _)) zab))) rfl)) ?_;refine zbn h (fun hc1 h=> ?_) (fun hc1 h=> ?_);refine zbb [.m _,.v (.ptr 0 0),.v (.ptr 0 1),.v (.i x2.2.a)] ?_;obtain⟨g3,h⟩:=ze h;refine zgu g3 ?_;refine w_r [.v (.ptr 0 0),.v (.ptr 0 1)] ?_;refine zqo (U'':=(.B [(69,[.s x2.2.s,.i (x2.2.a+1),.i x2.2.e,(zbs 2 x2.2.q)]),((zq r.q).1,[]),((zq x2.2.q).1,(zq x2.2.q).2),(29,zN),(29,(Enc.cells (x1.1:Tr)))])) (h:=zct (n:=1) rfl rfl rfl rfl rfl ⟨rfl,rfl,le_of_ble_eq_true rfl,by decide⟩) ?_;obtain⟨g4,h⟩:=ze h;obtain⟨g5,h⟩:=ze h;refine qni (k0:=k0) (id:=6) [.ptr 0 0,.top,.top,.top,.ptr 3 0,.ptr 4 0,.top,.top,.top,.top,.top,.top,.top,.top,.top,.top,.top,.top,.top,.top,.top,.top,.top,.top,.top,.top,.top,.top,.top,.top,.top,.b (x2.1==41),.ptr 0 0,.ptr 0 0,.ptr 0 1,.i x2.2.a,.i (x2.2.a+1),.ptr 0 0,.ptr 0 1,.ptr 0 0,.ptr 0 0,.ptr 0 0,.ptr 0 3,(zbs 2 x2.2.q),.ptr 0 0,.ptr 0 0,.ptr 0 3,(zbs 2 x2.2.q),.i (length (zcv x2.2.q):Int),.i ((length (zcv x2.2.q):Int)-1),(zbs 2 (zzt x2.2.q)),.ptr 0 0,.ptr 0 3,.top] (.B [(69,[.s x2.2.s,.i (x2.2.a+1),.i x2.2.e,(zbs 2 (zzt x2.2.q))]),((zq r.q).1,[]),((zq x2.2.q).1,(zq x2.2.q).2),(29,zN),(29,(Enc.cells (x1.1:Tr)))]) ?_ ?_;refine zrh (fun ops hops FIN hFIN S0 hS0=> ?_);let v41:AV:= .ptr 0 0
 let v45:AV:= .ptr 0 0
 let v42:AV:= .ptr 0 3
 let v46:AV:= .ptr 0 3
 let v43:AV:=(zbs 2 x2.2.q)
 let v47:AV:=(zbs 2 x2.2.q)
 let v48:AV:= .i (length (zcv x2.2.q):Int)
 let v49:AV:= .i ((length (zcv x2.2.q):Int)-1)
 let v51:AV:= .ptr 0 0
 let v52:AV:= .ptr 0 3
 let G0:St:=(.B [(69,[.s x2.2.s,.i (x2.2.a+1),.i x2.2.e,(zbs 2 x2.2.q)]),((zq r.q).1,[]),((zq x2.2.q).1,(zq x2.2.q).2),(29,zN),(29,(Enc.cells (x1.1:Tr)))])
 let G1:St:=(.B [(69,[.s x2.2.s,.i (x2.2.a+1),.i x2.2.e,(zbs 2 (zzt x2.2.q))]),((zq r.q).1,[]),((zq x2.2.q).1,(zq x2.2.q).2),(29,zN),(29,(Enc.cells (x1.1:Tr)))])
 obtain⟨ps,hps⟩: ∃ps:List (Option (Nat×AV)),ps=[some (39,.ptr 0 0),some (40,.ptr 0 0),some (41,v41),some (42,v42),some (43,v43),some (44,.ptr 0 0),some (45,v45),some (46,v46),some (47,v47),some (48,v48),some (49,v49),some (50,(zbs 2 (zzt x2.2.q))),some (51,v51),some (52,v52),none]:=⟨_,rfl⟩;let N:Nat->Nat->St->Prop:=fun k m U=>aN (ITP prog) prog none ops FIN S0 ps 15 k m U
 have n74:N 0 32767 G1:=by
  exact aN_0 hops hS0 hps (hFIN _ _ ⟨rfl,rfl⟩)
 have n73:N 1 16383 G0:=nd5 [14];have n72:N 2 8191 G0:=nd5 [13];have n71:N 3 4095 G0:=nd5 [12];have n70:N 4 4094 G0:=nd5 [0];have n69:N 4 2047 G0:=by
  refine qkz hops hS0 hps 11 ?_;refine w_pop (b:=2) (q:=x2.2.q) g5 rfl rfl rfl rfl rfl rfl (by dsimp only[zah,List.set]) ?_;exact zfq n71 hS0 hps
 have n68:N 5 2046 G0:=by
  refine aN_2 hops hS0 hps 0 11 ?_ ?_;refine zar ?_;exact zfq n69 hS0 hps;refine w_pop (b:=2) (q:=x2.2.q) g5 rfl rfl rfl rfl rfl rfl (by dsimp only[zah,List.set]) ?_;exact zfq n70 hS0 hps
 have n67:N 5 2031 G0:=nd5 [4];have n66:N 5 1023 G0:=nd5 [10];have n65:N 6 2030 G0:=nd5 [0,4];have n64:N 6 1022 G0:=nd5 [0,10];have n63:N 6 2023 G0:=nd5 [3];have n62:N 6 1007 G0:=nd5 [4,10];have n61:N 6 511 G0:=nd5 [9];have n60:N 7 2022 G0:=nd5 [0,3];have n59:N 7 1006 G0:=nd5 [0,4,10];have n58:N 7 510 G0:=nd5 [0,9];have n57:N 7 2019 G0:=nd5 [2];have n56:N 7 999 G0:=nd5 [3,10];have n55:N 7 495 G0:=nd5 [4,9];have n54:N 7 255 G0:=nd5 [8];have n53:N 8 2018 G0:=nd5 [0,2];have n52:N 8 998 G0:=nd5 [0,3,10];have n51:N 8 494 G0:=nd5 [0,4,9];have n50:N 8 254 G0:=nd5 [0,8];have n49:N 8 2017 G0:=nd5 [1];have n48:N 8 995 G0:=nd5 [2,10];have n47:N 8 487 G0:=nd5 [3,9];have n46:N 8 239 G0:=nd5 [4,8];have n45:N 8 127 G0:=nd5 [7];have n44:N 9 2016 G0:=nd5 [0,1];have n43:N 9 994 G0:=nd5 [0,2,10];have n42:N 9 486 G0:=nd5 [0,3,9];have n41:N 9 238 G0:=nd5 [0,4,8];have n40:N 9 126 G0:=nd5 [0,7];have n39:N 9 993 G0:=nd5 [1,10];have n38:N 9 483 G0:=nd5 [2,9];have n37:N 9 231 G0:=nd5 [3,8];have n36:N 9 111 G0:=nd5 [4,7];have n35:N 9 63 G0:=nd5 [6];have n34:N 10 992 G0:=nd5 [0,1,10];have n33:N 10 482 G0:=nd5 [0,2,9];have n32:N 10 230 G0:=nd5 [0,3,8];have n31:N 10 110 G0:=nd5 [0,4,7];have n30:N 10 62 G0:=nd5 [0,6];have n29:N 10 481 G0:=nd5 [1,9];have n28:N 10 227 G0:=nd5 [2,8];have n27:N 10 103 G0:=nd5 [3,7];have n26:N 10 47 G0:=nd5 [4,6];have n25:N 10 31 G0:=nd5 [5];have n24:N 11 480 G0:=nd5 [0,1,9];have n23:N 11 226 G0:=nd5 [0,2,8];have n22:N 11 102 G0:=nd5 [0,3,7];have n21:N 11 46 G0:=nd5 [0,4,6];have n20:N 11 30 G0:=nd5 [0,5];have n19:N 11 225 G0:=nd5 [1,8];have n18:N 11 99 G0:=nd5 [2,7];have n17:N 11 39 G0:=nd5 [3,6];have n16:N 11 15 G0:=nd5 [4,5];have n15:N 12 224 G0:=nd5 [0,1,8];have n14:N 12 98 G0:=nd5 [0,2,7];have n13:N 12 38 G0:=nd5 [0,3,6];have n12:N 12 14 G0:=nd5 [0,4,5];have n11:N 12 97 G0:=nd5 [1,7];have n10:N 12 35 G0:=nd5 [2,6];have n9:N 12 7 G0:=nd5 [3,5];have n8:N 13 96 G0:=nd5 [0,1,7];have n7:N 13 34 G0:=nd5 [0,2,6];have n6:N 13 6 G0:=nd5 [0,3,5];have n5:N 13 33 G0:=nd5 [1,6];have n4:N 13 3 G0:=nd5 [2,5];have n3:N 14 32 G0:=nd5 [0,1,6];have n2:N 14 2 G0:=nd5 [0,2,5];have n1:N 14 1 G0:=nd5 [1,5];have n0:N 15 0 G0:=nd5 [0,1,5];exact zya n0 hps;refine zc (o:=or1) ((Rd.mk x2.2.s (x2.2.a+1) x2.2.e (zzt x2.2.q))) h ?_;exact wk_pop (q:=x2.2.q) (U1:=(.B [(69,[.s x2.2.s,.i (x2.2.a+1),.i x2.2.e,(zbs 2 (zzt x2.2.q))]),((zq r.q).1,[]),((zq (zzt x2.2.q)).1,(zq (zzt x2.2.q)).2),(29,zN),(29,(Enc.cells (x1.1:Tr)))])) g5 rfl rfl (zbe (bl 54 9007199791611902));refine zc (o:=or1) (x2.2) h ?_;exact zbe (bl 54 9007199791611902);intro j1 h;refine zdi ?_;refine zbb [.v (.A (x1.1:Tr))] ?_;refine zoa 8 (.B [(69,[.s j1.s,.i j1.a,.i j1.e,(zbs 2 j1.q)]),((zq r.q).1,[]),((zq j1.q).1,(zq j1.q).2),(29,(Enc.cells (x1.1:Tr))),(29,(Enc.cells (x1.1:Tr)))]) ?_;have he1:=Option.some.inj h;subst he1;exact zgp (a:= .A (x1.1:Tr)) [2] 1 rfl rfl (zaj _ _ _ (zae (Enc.clo _))) (zat rfl (ziz fun _=>rfl) zp (zd rfl (zt _ _ _) zab) rfl)
variable {g:FZ} {S S':List AV} {U:St} {n:Nat}
theorem hd_of {bx:List (TypeId×List AV)} {hs:List Nat} (h:(bx.mapIdx fun i b=>hs.contains i|| !b.2.isEmpty).all id=true)(i:Nat)(t:TypeId)(hi:bx[i]? =some (t,[])):hs.contains i=true:=by
 have h1:(bx.mapIdx fun i b=>hs.contains i|| !b.2.isEmpty)[i]? =some (hs.contains i|| !([]:List AV).isEmpty):=by
  rw[List.getElem?_mapIdx,hi];rfl
 have h2:=List.all_eq_true.1 h _ (mem_of_getElem? h1);simpa using h2
theorem fgR_of {m:Nat} (ms:List Bool)(h:fgM ms (zac m g S)=S'):Fg (zac m g S) S':=h▸zqf ms _
theorem rd_back {Q:AQ} (U':St)(h:Q .normal S U')(e:U=U'):Q .normal S U:=e▸h
section
variable {α:Type} [Enc α]
theorem qij {m:Nat} {cs:List AV} (h:cloL cs=true):zib m g (.list n cs .full)= .list n cs .full:=by
 rw[zib,zad m g _ h];rfl
theorem zpf {m:Nat} {l:List α} (h:l.length≠0->0<m):zib m g (zbt l.length (Enc.cellsL l))=zbt l.length (Enc.cellsL l):=by
 unfold zbt;split
 ·rfl
 ·rename_i hn;have:=h hn;rw[zib,zad m g _ (Enc.cloL l)];simp[qfn,this]
end
theorem z7l {bs:List (TypeId×List AV)} {e sz:Nat} (h:n≠0):0<(zbu bs e n sz).lens.length:=by
 simp[zbu,h]
theorem zvt {d e sz:Nat} {js:List Nat} {t0 t1:TypeId} {c0 c0' c1 c1':List AV} {rest bs':List (TypeId×List AV)} (h0:zac (zbu ((t0,c0)::(t1,c1)::rest) e n sz).lens.length (kz ((t0,c0)::(t1,c1)::rest) (zbu ((t0,c0)::(t1,c1)::rest) e n sz).lens.length 2 [] js d) c0=c0')
 (h1:zac (zbu ((t0,c0)::(t1,c1)::rest) e n sz).lens.length (kz ((t0,c0)::(t1,c1)::rest) (zbu ((t0,c0)::(t1,c1)::rest) e n sz).lens.length 2 [] js d) c1=c1')
 (h:(js.map fun j=>((((t0,c0)::(t1,c1)::rest)[j]?).map fun b=>(b.1,zac (zbu ((t0,c0)::(t1,c1)::rest) e n sz).lens.length (kz ((t0,c0)::(t1,c1)::rest) (zbu ((t0,c0)::(t1,c1)::rest) e n sz).lens.length 2 [] js d) b.2)).getD (0,[.bad]))=bs'):
 zeu (zbu ((t0,c0)::(t1,c1)::rest) e n sz) (zbu ((t0,c0)::(t1,c1)::rest) e n sz).lens.length 2 [] js d=zbu ((t0,c0')::(t1,c1')::bs') e n sz:=by
 refine zat rfl h0 h1 h ?_;unfold zbu;by_cases hn:n=0
 ·simp[hn]
 ·simp[hn]
theorem qbs {hs:List Nat} {bx:List (TypeId×List AV)} {k:Nat} {q0:Stk} {r':Rd} {bs bs':List (TypeId×List AV)} {e sz:Nat}
 (h:(bs.mapIdx fun i b=>if i=0 then(tyR,rdC bx.length r') else if i=k then((zq q0).1,[]) else if hs.contains i=true then(bx[i]?).getD b else(b.1,zac (zbu bs e n sz).lens.length (gz hs) b.2))++[zq r'.q]=bs'):zmr hs bx k q0 r' (zbu bs e n sz)=zbu bs' e n sz:=by
 subst h;rfl
theorem z0b {m0 k0:Nat} {K:List AV->St->Prop} {U':St} (ms:List Bool)(n:Nat)(js:List Nat)(d:Nat)(hm:m0<=0)(hn:k0<=n)(hok:zdd U n js=true)(h:fgM ms (zac 0 (kz U.boxes 0 n [] js d) S)=S')(hσ:zeu U 0 n [] js d=U')(k:K S' U'):qdc m0 k0 K S U:=
 .inr ⟨0,n,[],js,d,S',hm,hn,hok,h▸zqf ms _,hσ▸k⟩
end Go.Ab
namespace Go.Ab
open Go Go.RowKit Go.Fwd
theorem zpi (w:World)(a b:Array Value)(e:TypeId):(w.alloc (.cells a e)).setRow w.heap.size b=w.alloc (.cells b e):=by
 unfold World.setRow World.alloc;simp only;congr 1
 apply Array.ext_getElem?;intro i;rw[Array.getElem?_modify,Array.getElem?_push,Array.getElem?_push];by_cases h:w.heap.size=i
 ·subst h;simp
 ·simp[h,Ne.symm h]
theorem zwe (w:World)(g:Nat)(a b:Array Value):(w.setRow g a).setRow g b=w.setRow g b:=by
 unfold World.setRow;simp only;congr 1
 apply Array.ext_getElem?;intro i;simp only[Array.getElem?_modify];by_cases h:g=i
 ·subst h;simp only[if_true];cases w.heap[g]? with
  |none=>rfl
  |some o=>cases o<;>rfl
 ·simp[h]
theorem z5t {IT:IterP} (hIT:ITMono IT) {P:Program} {X:Cx} {U U':St} {t ty:TypeId} {n m b2 o2 cap2:Nat} {cs ds:List AV} {st st2:Room} {x y a:AV} {v:Value} {us ws:List Value} (h:zgi P U t x y=some (a,U'))(hxe:x= .list n cs st)(hye:y= .list m ds st2)(hx:Rep IT X x v)(hI:Inv IT U X)
 (hm0:m≠0) (w1':zbo IT X ds ws) (w2': ∀v∈ws,v.oneCell'=true) (hwl:us.length=ws.length) (u2: ∀v∈us,v.oneCell'=true) (hnews: ∀(j:Nat) w,us[j]? =some w->X.w.cell? ((⟨b2,o2,none⟩:Addr).add j)=some w):
 ∃ (g cap':Nat) (W:World) (pre post:List Value) (e:TypeId) (fz:Nat×Nat) (X':Cx),(Builtin.append_ #[t,t] ty #[v,.slice (some ⟨b2,o2,none⟩) m cap2]).run P X.w= .ok (.slice (some ⟨g,0,none⟩) (n+m) cap') W/\ W.heap[g]? =some (.cells (pre++us++post).toArray e fz)/\ fz.2<=pre.length/\ pre.length=cs.length/\
  X'.w=W.setRow g (pre++ws++post).toArray/\ Ext X X'/\ Inv IT U' X'/\ Rep IT X' a (.slice (some ⟨g,0,none⟩) (n+m) cap')/\ n+m<=cap':=by
 unfold zgi at h;split at h<;>try cases h
 rename_i e n' cs' st' m' ds' st2' hu;cases hxe;cases hye;split at h<;>try cases h
 rename_i i hi;split at h<;>try cases h
 rename_i z hz;have hx0:=hx;rw[Rep] at hx;obtain⟨ad,cap,rfl,⟨hcap,hnil⟩,hc,hst⟩:=hx;split at h
 ·rename_i hm;exact absurd hm.1 hm0
 ·split at h<;>try cases h
  rename_i hcond;obtain⟨q1,q2,q3,q4,q5,q6,q7⟩:=hcond;have hul:=zu w1';have hul2:us.length=m*i.size:=by omega
  have hup:0<ws.length:=by have:=Nat.mul_pos q3 q5;omega
  have hml:((n+m:Nat):Int)<=9223372036854775807:=by unfold maxLen at q6;omega
  have hnm:(n+m)*i.size=n*i.size+m*i.size:=Nat.add_mul _ _ _
  -- the old cells
  obtain⟨vs,v1,v2,v3⟩: ∃vs:List Value,zbo IT X cs vs/\ (∀w∈vs,w.oneCell'=true)/\ ∀b o,ad=some ⟨b,o,none⟩-> ∀(j:Nat) w,vs[j]? =some w->X.w.cell? ((⟨b,o,none⟩:Addr).add j)=some w:=by
   rcases hc with rfl|⟨b,o,rfl,hat⟩
   ·exact⟨[],by rw[zbo],by simp,by simp⟩
   ·obtain⟨vs,w1,w2,w3⟩:=zha hat
    exact⟨vs,w1,w2,fun b' o' e' j w hj=>by cases e';rw[zhg];exact w3 j w hj⟩
  have hvl:=zu v1;have hone: ∀w∈vs++ws,w.oneCell'=true:=fun w hw=>(mem_append.1 hw).elim (v2 w) (w2' w);have hz2: ∀c,n+m<=c->(vs++ws++(Builtin.zeroCells z.cells (c-(n+m))).toList).length=c*i.size:=fun c hcc=>by
   have:=size_zeroCells z.cells (c-(n+m));simp only[length_append,Array.length_toList,this,q4, <-hvl, <-hul,q1,q2, <-Nat.add_mul];congr 1;omega
  -- where it grows
  have grow: ∀(c0:Nat) (hlt:c0<n+m),c0=cap-> ∃r,(Builtin.append_ #[t,t] ty #[.slice ad n cap,.slice (some ⟨b2,o2,none⟩) m cap2]).run P X.w=
   .ok (.slice (some ⟨X.w.heap.size,0,none⟩) (n+m) r) (X.w.drew.alloc (.cells (vs++us++(Builtin.zeroCells z.cells (r-(n+m))).toList).toArray e))/\ n+m<=r/\ r<=maxLen:=fun c0 hlt ec=>by
   subst ec;refine⟨grownCap X.w (n+m) c0 e,?_,grownCap_ge _ _ _ _,grownCap_le_maxLen _ _ _ _ q6⟩;rcases hc with rfl|⟨b,o,rfl,hat⟩
   ·have hn0:n=0:=by
     have:n*i.size=0:=by simpa using q1.symm
     rcases Nat.mul_eq_zero.1 this with h|h
     ·exact h
     ·omega
    subst hn0;have hvs:vs=[]:=by rw[zbo] at v1;exact v1
    subst hvs;cases ad with
    | none=>
     obtain rfl:c0=0:=hnil rfl;have hr:=run_append_nil (P:=P) X.w t ty e i z hu hi hz ⟨b2,o2,none⟩ m cap2 us (by omega) hnews q3 (by omega) (by simp at q7;omega);simp only[zero_add] at hr⊢;rw[hr];congr 2
     simp
    | some ad=>
     have hr:=run_append_grow (P:=P) X.w t ty e i z hu hi hz ad 0 c0 [] (by simp) (by simp) ⟨b2,o2,none⟩ m cap2 us (by omega) hnews (by omega) (by omega) (growslice_fits hlt q7);rw[hr];congr 2
     simp
   ·have hr:=run_append_grow (P:=P) X.w t ty e i z hu hi hz ⟨b,o,none⟩ n c0 vs (by omega) (v3 b o rfl) ⟨b2,o2,none⟩ m cap2 us (by omega) hnews (by omega) (by omega) (growslice_fits hlt q7);rw[hr];congr 2
    simp
  have hlens:X.lens=U.lens:=hI.lens;have hbl:=hI.βlen;have hvu:(vs++ws).length=(n+m)*i.size:=by rw[length_append, <-hvl, <-hul];omega
  have hcd:(cs++ds).length=(n+m)*i.size:=by rw[length_append];omega
  cases st with
  |none=>cases h
  | full=>
   simp only[Option.some.injEq,Prod.mk.injEq] at h;obtain⟨rfl,rfl⟩:=h;simp only at hst;subst hst;obtain⟨r,g1,g2,g3⟩:=grow cap (by omega) rfl
   obtain⟨X',x1,x2,x3,x4,x5,x6⟩:=zrq hIT hI (e:=e) (zbq v1 w1') hone i.size r q5 g3 (hz2 r g2)
    (β':=X.β++[⟨X.w.heap.size,e,i.size,r⟩]) (lens':=U.lens++[(cap+m)*i.size]) (elems':=U.elems++[e])
    (fun s L hs=>⟨L,by rw[<-hlens,getElem?_append_left (List.getElem?_eq_some_iff.1 hs).1];exact hs,le_refl _,fun _=>by
     rw[getElem?_append_left];rw[hbl];exact(List.getElem?_eq_some_iff.1 hs).1⟩)
    (by simp[hbl,hlens]) (by simp[hI.elems])
    (fun s q L hq hL=>by
     rcases lt_or_ge s X.β.length with hlt|hge
     ·rw[getElem?_append_left hlt] at hq;rw[<-hlens,getElem?_append_left (by omega)] at hL;exact .inl ⟨hq,hL⟩
     ·right
      have h0:s=X.β.length:=by
       have:=(List.getElem?_eq_some_iff.1 hq).1;simp at this;omega
      subst h0;rw[<-hlens,hbl] at hL;simp at hq hL;exact⟨hq.symm,by rw[hvu];exact hL.symm⟩)
    (by
     rw[List.map_append];refine List.nodup_append.2 ⟨hI.βnd,by simp,fun a ha b hb e=> ?_⟩;obtain⟨q,hq,rfl⟩:=mem_map.1 ha;have:=hI.βlt hq;simp at hb;omega)
   refine⟨X.w.heap.size,r,_,vs,_,e,(0,0),X',g1,heap_alloc_new X.w.drew _,Nat.zero_le _,hvl.symm,by rw[x1];exact(zpi X.w.drew _ _ _).symm,x2,x3,?_,g2⟩;rw[Rep];refine⟨_,_,rfl,⟨g2,fun e=>by cases e⟩,.inr ⟨_,_,rfl,x4⟩,(cap+m)*i.size,?_,by omega,fun _=>⟨⟨X.w.heap.size,e,i.size,r⟩,?_,rfl,rfl,hcd⟩⟩
   ·rw[x6];simp
   ·rw[x5, <-hlens, <-hbl];simp
  | own s=>
   simp only at h;split at h<;>try cases h
   rename_i hown;obtain⟨w1,w2,w3⟩:=hown;obtain⟨L,k1,k2,k3⟩:=hst;have hLc:cs.length=L:=by rw[hlens] at k1;rw[k1] at w1;exact(Option.some.inj w1).symm
   obtain⟨r,k4,k5,rfl,k7⟩:=k3 hLc;subst hLc;have hsr:r.size=i.size:=by
    have:n*r.size=n*i.size:=by omega
    exact Nat.eq_of_mul_eq_mul_left w3 this
   have hre:r.elem=e:=by
    have h1:(X.β.map (·.elem))[s]? =some e:=by rw[hI.elems];exact w2
    rw[getElem?_map,k4] at h1;simpa using h1
   have hsl:s<X.lens.length:=(List.getElem?_eq_some_iff.1 k1).1;obtain⟨cur,fz,c1,c2,c3,c4,c5,c6,c7⟩:=hI.row s r cs.length k4 k1;subst k5;by_cases hroom:n+m<=r.cap
   ·have hfit:cs.length+ws.length<=cur.size:=by
     rw[c2,hsr];have:=Nat.mul_le_mul_right i.size hroom;omega
    obtain⟨X',x1,x2,x3,x4,x5,x6⟩:=zrd hIT hI k4 k1 c1 w1' w2' hup hfit;have hr:=run_append_roomF (P:=P) X.w t ty e i hu hi r.block n r.cap cur fz (by rw[<-hre];exact c1) (by omega) ⟨b2,o2,none⟩ m cap2 us (by omega) hnews u2 hroom (by omega);have hlen2:cs.length+ws.length=(n+m)*i.size:=by omega
    rw[hlen2] at x3 x6;have hr2:=hr;rw[<-q1,hwl] at hr2;refine⟨r.block,r.cap,_,cur.toList.take cs.length,cur.toList.drop (cs.length+ws.length),r.elem,fz,X',hr2,setRow_heap _ _ _ _ _ _ c1,by simp;omega,by simp;omega,by rw[x1,zwe],x2,x3,?_,hroom⟩
    ·rw[Rep];have hold:At IT X' cs r.block 0:=z5k hIT x2 _ _ _ (by
      rcases hc with rfl|⟨b,o,e1,hat⟩
      ·rw[At];trivial
      ·cases e1;exact hat)
     refine⟨_,_,rfl,⟨hroom,fun e=>by cases e⟩,.inr ⟨_,_,rfl,zpu hold (by rw[zero_add];exact x4)⟩,(n+m)*i.size,?_,by omega,fun _=>⟨r,by rw[x5];exact k4,rfl,rfl,by rw[hcd,hsr]⟩⟩;rw[x6];simp[hsl]
   ·obtain⟨c,g1,g2,g3⟩:=grow r.cap (by omega) rfl
    obtain⟨X',x1,x2,x3,x4,x5,x6⟩:=zrq hIT hI (e:=e) (zbq v1 w1') hone i.size c q5 g3 (hz2 c g2)
     (β':=X.β.set s ⟨X.w.heap.size,e,i.size,c⟩) (lens':=U.lens.set s ((n+m)*i.size)) (elems':=U.elems)
     (fun s' L hs=>by
      by_cases es:s'=s
      ·subst es;rw[k1] at hs;cases hs;have:=Nat.mul_pos q3 q5;exact⟨(n+m)*i.size,by rw[<-hlens];simp[hsl],by omega,fun e=>by omega⟩
      ·exact⟨L,by rw[<-hlens,getElem?_set_ne (Ne.symm es)];exact hs,le_refl _,fun _=>by rw[getElem?_set_ne (Ne.symm es)]⟩)
     (by simp[hbl,hlens])
     (by
      rw[<-hI.elems,List.map_set];apply List.ext_getElem?;intro j;by_cases ej:s=j
      ·subst ej;rw[getElem?_set_self (by simp;omega),getElem?_map,k4];simp[hre]
      ·rw[getElem?_set_ne ej])
     (fun s' q L hq hL=>by
      by_cases es:s'=s
      ·subst es;right
       rw[getElem?_set_self (by omega)] at hq;rw[<-hlens,getElem?_set_self hsl] at hL;cases hq;cases hL;exact⟨rfl,hvu.symm⟩
      ·left
       rw[getElem?_set_ne (Ne.symm es)] at hq;rw[<-hlens,getElem?_set_ne (Ne.symm es)] at hL;exact⟨hq,hL⟩)
     (by
      rw[List.map_set];have hnd:=hI.βnd;have hfresh:X.w.heap.size∉X.β.map (·.block):=fun hm=>by
       obtain⟨q,hq,e'⟩:=mem_map.1 hm;have:=hI.βlt hq;omega
      exact zge _ _ _ hnd hfresh)
    refine⟨X.w.heap.size,c,_,vs,_,e,(0,0),X',g1,heap_alloc_new X.w.drew _,Nat.zero_le _,hvl.symm,by rw[x1];exact(zpi X.w.drew _ _ _).symm,x2,x3,?_,g2⟩;rw[Rep];refine⟨_,_,rfl,⟨g2,fun e=>by cases e⟩,.inr ⟨_,_,rfl,x4⟩,(n+m)*i.size,?_,by omega,fun _=>⟨⟨X.w.heap.size,e,i.size,c⟩,?_,rfl,rfl,hcd⟩⟩
    ·rw[x6, <-hlens];simp[hsl]
    ·rw[x5,getElem?_set_self (by omega)]
end Go.Ab
namespace Go.Ab
open Go Go.RowKit Go.Fwd Go.Proofs
theorem z5f (w:World)(g b:Nat)(r s:Array Value)(h:g≠b):(w.setRow g r).setRow b s=(w.setRow b s).setRow g r:=by
 unfold World.setRow;simp only;congr 1
 apply Array.ext_getElem?;intro i;simp only[Array.getElem?_modify];by_cases h1:b=i
 ·subst h1;simp[h]
 ·simp[h1]
theorem z4e (w:World)(g b:Nat)(r:Array Value)(h:g≠b):(w.setRow g r).heap[b]? =w.heap[b]? :=by
 unfold World.setRow;simp[Array.getElem?_modify,h]
theorem zzs {IT:IterP} (hIT:ITMono IT) {P:Program} {X:Cx} {U U':St} {t:TypeId} {s off:Nat} {y:AV} {u v:Value} (h:zqq P U t (.ptr s off) y=some U')(hx:Rep IT X (.ptr s off) u)(hy:Rep IT X y v)(hI:Inv IT U X):
 ∃b row,X.κ[s]? =some b/\ (∀w:World,w.heap[b]? =X.w.heap[b]? ->(Instr.storeAt t u v).run P w= .ok () (w.setRow b row))/\ Ext X {X with w:=X.w.setRow b row}/\ Inv IT U' {X with w:=X.w.setRow b row}:=by
 unfold zqq at h;simp only at h;rw[Rep] at hx;obtain⟨b,hb,rfl⟩:=hx;split at h<;>try cases h
 rename_i bx n hbx hn;obtain⟨t0,cs⟩:=bx;split at h<;>try cases h
 rename_i hc;obtain⟨hc1,hc2,hc3,hc4⟩:=hc;obtain⟨k1,k2⟩:=zmo hc1 hy;obtain⟨vs,zs,u1,u2,u3⟩:=hI.box s b t0 cs hb hbx;have hl:=zu u2;have hl2:=zu k1;simp only at hc3;have hsz:v.cells.size=n:=by simp at hl2;omega
 have hlist:v.cells.toList.length=n:=by simpa using hsz
 obtain⟨e1,e2⟩:=zzh hIT hI (zs:=zs) hb hbx (by intro e;subst e;simp at hc3;omega) (fun cur t f hc=>by rw[u1] at hc;cases hc;simp at hl2⊢;omega) (zbq (zbq (zil u2 off) k1) (zir u2 (off+n)))
  (fun w hw=>by
   rcases mem_append.1 hw with hw|hw
   ·rcases mem_append.1 hw with hw|hw
    ·exact u3 w (List.mem_of_mem_take hw)
    ·exact k2 w hw
   ·exact u3 w (List.mem_of_mem_drop hw))
 have hrow:(vs++zs).take off++v.cells.toList++(vs++zs).drop (off+n)=vs.take off++v.cells.toList++vs.drop (off+n)++zs:=by
  rw[List.take_append_of_le_length (by omega),List.drop_append_of_le_length (by omega)];simp
 refine⟨b,_,hb,fun w hw=> ?_,e1,e2⟩;have hst:=run_storeCells_at P b off t0 v.cells.toList 0 (vs++zs).toArray w (hw.trans u1) (by simp at hl2⊢;omega) k2;simp only[Nat.add_zero] at hst;rw[hlist] at hst;simp only[Instr.storeAt,Instr.sureAddr,storeVar,Sem.run_bind,Sem.run_pure,Result.andThen_ok,zel hn,hsz];simp only[<-hrow];simpa using hst
theorem qaq {IT:IterP} (hIT:ITMono IT) {P:Program} {F:Fence} (hF:FenceOk F P) {nn B:Nat} {o:Oper} {S E:List AV} {U:St} {X0 X:Cx} {a:Act} {x:AV} {next:Act->World->Prop} {Q:Exit->Act->World->Prop} (h:qop P (zbz E) U o=some x)(hdf: ∀c,o.op≠ .defer c)(hn:Now IT none F B X0 S U X a)(hS:zah S o.dst .top=S)
 (hρ: ∀y∈o.op.operands,Rep IT X (zbz E y) (a.eval y)) (hK: ∀X' v,Ext X X'->Rep IT X' x v->Now IT none F B X0 S U X' (a.put o.dst v)->next (a.put o.dst v) X'.w):o.wpIn F nn P a X.w next Q:=by
 obtain⟨v,X',h1,h2,h3,h4,_⟩:=zqp hIT h hρ hn.inv;unfold Oper.wpIn;refine⟨fun f _=>hF.fn f,?_⟩;rw[Oper.semAt_plain F _ _ hdf,h1];have n:=zcg (P:=P) (M:=none) trivial hIT hn h2 h3 ⟨rfl,rfl⟩ o.dst (x:= .top) (v:=v) (by rw[Rep];trivial);rw[hS] at n;exact hK X' v h2 h4 n
theorem zou {a:Act} {t:Nat} {v:Value} (h:t<a.tmps.size):(a.put (some t) v).eval (.tmp t)=v:=by simp[Act.put,Act.eval,h]
theorem zlw {a:Act} {t t':Nat} {v:Value} (h:t'≠t):(a.put (some t) v).eval (.tmp t')=a.eval (.tmp t'):=zez _ _ _ _ (by intro e;exact h (Option.some.inj e).symm)
def SA (x:Tr):List AV:=[.top,.top,.ptr 3 0,.top,.ptr 5 0,.ptr 6 0,.top,.top,.agg (Enc.cells x),.top,.top,.top,.top,.top,.top,.top,.top,.top,.top,.top,.top,.top,.top,.top,.top,.top,.top,.top,.top,.top,.top,.top]
def zT:AV:= .list 1 [.raw (.int .u8 0),.raw (.int .u64 0),.raw (.int .u64 0),.raw (.int .u64 0),.raw (.int .u64 0),.raw (.int .i64 0),.raw (.int .i64 0),.list 0 [] .full] .full
structure App1 (F:Fence)(B:Nat)(X0:Cx)(x:Tr)(U:St)(ol:AV)(n:Nat)(d:Nat->Bool)(a:Act)(w:World):Prop where
 h: ∃X,X.w=w/\ Now (ITP prog) none F B X0 (SA x) U X a/\ (d 0=true->Rep (ITP prog) X ol (a.eval (.tmp 9)))/\ (d 1=true->Rep (ITP prog) X (.agg (Enc.cells x)) (a.eval (.tmp 10)))/\ (d 2=true->a.eval (.tmp 11)= .int .i64 (n:Int))/\ (d 3=true->Rep (ITP prog) X zT (a.eval (.tmp 12)))
structure App2 (F:Fence)(B:Nat)(X0:Cx)(x:Tr)(U1 U2:St)(nl:AV)(n:Nat)(d:Nat->Bool)(a:Act)(w:World):Prop where
 h : ∃(X:Cx) (g cap:Nat) (pre us ws post:List Value) (e:TypeId) (fz:Nat×Nat),Now (ITP prog) none F B X0 (SA x) (bif d 7 then U2 else U1) X a/\ g∉X.κ/\ (d 6=true->X.w=w)/\ (d 6=false->w.heap[g]? =some (.cells (pre++us++post).toArray e fz)/\ X.w=w.setRow g (pre++ws++post).toArray)/\ fz.2<=pre.length/\ pre.length=n*8/\ us.length=8/\ ws.length=8/\ (∀v∈ws,v.oneCell'=true)/\
  a.eval (.tmp 13)= .slice (some ⟨g,0,none⟩) (n+1) cap/\ Rep (ITP prog) X nl (a.eval (.tmp 13))/\ (d 5=true->a.eval (.tmp 14)= .pointer (some ⟨g,n*8,none⟩))/\ a.eval (.tmp 11)= .int .i64 (n:Int)/\ a.eval (.tmp 10)= .agg ws.toArray
theorem app_reg (b0 b1 b2' b3 b4:TypeId×List AV)(l:List Tr)(x:Tr)(h:l.length<2^40) {id id2:Nat} {ops:Array Oper} (hops:(do let c<-Tryz.f34.body;zls 5 c)=some ops):
 qkv (ITP prog) prog (.block id (.region id2 ops true)) (SA x) (zbu [b0,b1,b2',b3,b4,(27,[zbt l.length (Enc.cellsL l)]),(29,Enc.cells x)] 29 l.length 8) (SA x) (zbu [b0,b1,b2',b3,b4,(27,[zbt (l++[x]).length (Enc.cellsL (l++[x]))]),(29,[])] 29 (l++[x]).length 8):=by
 cases hops;intro F nn B X0 X a hF hI0 hn hfe;have hIT:=zh prog;refine wpIn_block ?_;obtain⟨U0,hσ0⟩: ∃U0,U0=zbu [b0,b1,b2',b3,b4,(27,[zbt l.length (Enc.cellsL l)]),(29,Enc.cells x)] 29 l.length 8:=⟨_,rfl⟩;obtain⟨U1,hσ1⟩: ∃U1,U1=zbu [b0,b1,b2',b3,b4,(27,[zbt l.length (Enc.cellsL l)]),(29,Enc.cells x)] 29 (l++[x]).length 8:=⟨_,rfl⟩;obtain⟨U2,hσ2⟩: ∃U2,U2=zbu [b0,b1,b2',b3,b4,(27,[zbt (l++[x]).length (Enc.cellsL (l++[x]))]),(29,Enc.cells x)] 29 (l++[x]).length 8:=⟨_,rfl⟩;have hsz: ∀ {X:Cx} {a:Act} {U:St},Now (ITP prog) none F B X0 (SA x) U X a->a.tmps.size=32:=fun hn=>by
  have:=zu hn.reps;simpa[SA] using this.symm
 refine any_gen mix (fun d a w=>(d 4=false/\ App1 F B X0 x U0 (zbt l.length (Enc.cellsL l)) l.length d a w) \/(d 4=true/\ App2 F B X0 x U1 U2 (zbt (l++[x]).length (Enc.cellsL (l++[x]))) l.length d a w)) (by kernel_rfl) ?_ ?_ ?_
 ·obtain⟨hEx,hI⟩:=znu hIT hn.inv;refine .inl ⟨rfl,⟨{X with w:=X.w.drew},rfl,?_,fun h=>(by cases h),fun h=>(by cases h),fun h=>(by cases h),fun h=>(by cases h)⟩⟩;subst hσ0;exact⟨Ext.trans hn.ext hEx,hI,zau hIT hEx _ _ hn.reps,hn.marks.ext hEx hn.inv,trivial⟩
 ·intro i o ho
  match i,ho with
  | 0,ho=>
   cases ho;refine⟨rfl,fun d a w next hd hbe hwt hI hK=> ?_⟩;rcases hI with⟨h4,⟨X,rfl,hn,k0,k1,k2,k3⟩⟩|⟨h4,_⟩
   ·refine qaq (E:=SA x) (x:=zbt l.length (Enc.cellsL l)) hIT hF (qrd (.ptr 5 0) rfl rfl (by subst hσ0;rfl)) (fun c hc=>by cases hc) hn rfl (fun y _=>zdt hn.reps y) fun X' v hE hr hn'=>hK _ _ (.inl ⟨by rw[zbk (by decide)];exact h4,⟨X',rfl,hn',fun _=> ?_,fun h=> ?_,fun h=> ?_,fun h=> ?_⟩⟩)
    ·rw[zou (by rw[hsz hn];decide)];exact hr
    ·rw[zlw (by decide)];exact zfk hIT hE _ _ (k1 (by rwa[zbk (by decide)] at h))
    ·rw[zlw (by decide)];exact k2 (by rwa[zbk (by decide)] at h)
    ·rw[zlw (by decide)];exact zfk hIT hE _ _ (k3 (by rwa[zbk (by decide)] at h))
   ·have:=hbe 4 (by kernel_rfl);rw[h4] at this;cases this
  | 1,ho=>
   cases ho;refine⟨rfl,fun d a w next hd hbe hwt hI hK=> ?_⟩;rcases hI with⟨h4,⟨X,rfl,hn,k0,k1,k2,k3⟩⟩|⟨h4,_⟩
   ·refine qaq (E:=SA x) (x:= .agg (Enc.cells x)) hIT hF (qrd (.ptr 6 0) rfl rfl (by subst hσ0;rfl)) (fun c hc=>by cases hc) hn rfl (fun y _=>zdt hn.reps y) fun X' v hE hr hn'=>hK _ _ (.inl ⟨by rw[zbk (by decide)];exact h4,⟨X',rfl,hn',fun h=> ?_,fun _=> ?_,fun h=> ?_,fun h=> ?_⟩⟩)
    ·rw[zlw (by decide)];exact zfk hIT hE _ _ (k0 (by rwa[zbk (by decide)] at h))
    ·rw[zou (by rw[hsz hn];decide)];exact hr
    ·rw[zlw (by decide)];exact k2 (by rwa[zbk (by decide)] at h)
    ·rw[zlw (by decide)];exact zfk hIT hE _ _ (k3 (by rwa[zbk (by decide)] at h))
   ·have:=hbe 4 (by kernel_rfl);rw[h4] at this;cases this
  | 2,ho=>
   cases ho;refine⟨rfl,fun d a w next hd hbe hwt hI hK=> ?_⟩;rcases hI with⟨h4,⟨X,rfl,hn,k0,k1,k2,k3⟩⟩|⟨h4,_⟩
   ·have h9:=k0 (hwt 0 (by kernel_rfl));refine qaq (E:=(SA x).set 9 (zbt l.length (Enc.cellsL l))) (x:= .raw (.int .i64 (l.length:Int))) hIT hF (qre rfl rfl rfl rfl rfl rfl) (fun c hc=>by cases hc) hn rfl (fun y hy=>by
     simp[Op.operands,Call.operands] at hy;subst hy;exact h9) fun X' v hE hr hn'=>hK _ _ (.inl ⟨by rw[zbk (by decide)];exact h4,⟨X',rfl,hn',fun h=> ?_,fun h=> ?_,fun _=> ?_,fun h=> ?_⟩⟩)
    ·rw[zlw (by decide)];exact zfk hIT hE _ _ (k0 (by rwa[zbk (by decide)] at h))
    ·rw[zlw (by decide)];exact zfk hIT hE _ _ (k1 (by rwa[zbk (by decide)] at h))
    ·rw[zou (by rw[hsz hn];decide)];exact hr
    ·rw[zlw (by decide)];exact zfk hIT hE _ _ (k3 (by rwa[zbk (by decide)] at h))
   ·have:=hbe 4 (by kernel_rfl);rw[h4] at this;cases this
  | 3,ho=>
   cases ho;refine⟨rfl,fun d a w next hd hbe hwt hI hK=> ?_⟩;rcases hI with⟨h4,⟨X,rfl,hn,k0,k1,k2,k3⟩⟩|⟨h4,_⟩
   ·refine qaq (E:=SA x) (x:=zT) hIT hF (by kernel_rfl) (fun c hc=>by cases hc) hn rfl (fun y _=>zdt hn.reps y) fun X' v hE hr hn'=>hK _ _ (.inl ⟨by rw[zbk (by decide)];exact h4,⟨X',rfl,hn',fun h=> ?_,fun h=> ?_,fun h=> ?_,fun _=> ?_⟩⟩)
    ·rw[zlw (by decide)];exact zfk hIT hE _ _ (k0 (by rwa[zbk (by decide)] at h))
    ·rw[zlw (by decide)];exact zfk hIT hE _ _ (k1 (by rwa[zbk (by decide)] at h))
    ·rw[zlw (by decide)];exact k2 (by rwa[zbk (by decide)] at h)
    ·rw[zou (by rw[hsz hn];decide)];exact hr
   ·have:=hbe 4 (by kernel_rfl);rw[h4] at this;cases this
  | 4,ho=>
   cases ho;refine⟨rfl,fun d a w next hd hbe hwt hI hK=> ?_⟩;rcases hI with⟨h4,⟨X,rfl,hn,k0,k1,k2,k3⟩⟩|⟨h4,_⟩
   rotate_left
   ·rw[h4] at hd;cases hd
   have r9:=k0 (hwt 0 (by kernel_rfl));have r10:=k1 (hwt 1 (by kernel_rfl));have r11:=k2 (hwt 2 (by kernel_rfl));have r12:=k3 (hwt 3 (by kernel_rfl));rw[zT,Rep] at r12;obtain⟨ad,cap2,e12,hcap2,hz,_⟩:=r12;obtain⟨b2,o2,rfl,hat⟩:=hz.resolve_left (by simp);obtain⟨us,u1,u2,u3⟩:=zha hat
   rw[Rep] at r10;obtain⟨ws,e10,w1,w2⟩:=r10;have hul:us.length=8:=by simpa using(zu u1).symm
   have hwl:ws.length=8:=by have:=zu w1;rw[Enc.len] at this;exact this.symm
   have w1':zbo (ITP prog) X (Enc.cellsL [x]) ws:=by rw[Enc.cons,show Enc.cellsL ([]:List Tr)=[] from rfl,List.append_nil];exact w1
   have happ:zgi prog U0 27 (zbt l.length (Enc.cellsL l)) (.list [x].length (Enc.cellsL [x]) .full)=some (zbt (l++[x]).length (Enc.cellsL (l++[x])),U1):=by
    rw[hσ0,hσ1];exact zfp (P:=prog) (t:=27) (e:=29) (by':=80) (by simp only[length_cons,length_nil];omega) rfl rfl rfl rfl rfl ⟨rfl,by decide⟩
   have hxe: ∃cs st,zbt l.length (Enc.cellsL l)= .list l.length cs st/\ cs.length=l.length*8:=by
    unfold zbt;split
    ·rename_i h0;exact⟨[],.full,by rw[h0],by rw[h0];rfl⟩
    ·exact⟨_,_,rfl,Enc.lenL _⟩
   obtain⟨cs9,st9,hxe,hcl⟩:=hxe;obtain⟨g,cap',W,pre,post,e,fz,X',q1,q2,q3,q4,q5,q6,q7,q8,q9⟩:=z5t (ty:=27) (us:=us) (b2:=b2) (o2:=o2) (cap2:=cap2) hIT happ hxe rfl r9 hn.inv (by simp) w1' w2 (by omega) u2 (fun j w hj=>by rw[zhg];exact u3 j w hj);have hnl: ∃cs r,zbt (l++[x]).length (Enc.cellsL (l++[x]))= .list (l++[x]).length cs (.own 0)/\ cs.length=(l++[x]).length*8/\ X'.lens[0]? =some ((l++[x]).length*8)/\ r=0:=by
    refine⟨Enc.cellsL (l++[x]),0,?_,Enc.lenL _,?_,rfl⟩
    ·unfold zbt;rw[if_neg (by simp)]
    ·rw[q7.lens,hσ1];simp[zbu]
   obtain⟨cs',r0,hnl,hnc,hnlen,_⟩:=hnl;have hgκ:g∉X'.κ:=by
    have q8':=q8;rw[hnl,Rep] at q8';obtain⟨ad',cp',e',_,_,L,m1,m2,m3⟩:=q8';rw[hnlen] at m1;obtain⟨r,m4,m5,_⟩:=m3 (by rw[hnc];exact Option.some.inj m1);have e'':ad'=some ⟨g,0,none⟩:=by injection e' with e1 _ _;exact e1.symm
    have hg:r.block=g:=by rw[e''] at m5;injection m5 with m5;injection m5 with m5 _ _;exact m5.symm
    rw[<-hg];exact q7.βκ r (mem_of_getElem? m4)
   unfold Oper.wpIn;refine⟨fun f _=>hF.fn f,?_⟩;rw[Oper.semAt_plain F _ _ (fun c hc=>by cases hc)];have hrun: ∀o:Oper,o.op= .call ⟨.builtin .append, #[.tmp 9,.tmp 12], #[27,27]⟩->o.type=27->(execOp a.eval o).run prog X.w= .ok (.value (.slice (some ⟨g,0,none⟩) (l.length+1) cap')) W:=fun o h1 h2=>by
    have q1':=q1;simp at q1';simp[execOp,h1,resolve,invoke,builtin,h2,e12,q1']
   rw[hrun _ rfl rfl];have n1:=zcg (P:=prog) (M:=none) trivial hIT hn q6 q7 ⟨by rw[hσ1,hσ0];rfl,by rw[hσ1,hσ0];rfl⟩ (some 13) (x:= .top) (v:= .slice (some ⟨g,0,none⟩) (l.length+1) cap') (by rw[Rep];trivial);have d7:=hbe 7 (by kernel_rfl);have d6:=hbe 6 (by kernel_rfl);have d5:=hbe 5 (by kernel_rfl);refine hK _ _ (.inr ⟨zec _ _,⟨X',g,cap',pre,us,ws,post,e,fz,?_,hgκ,fun h=> ?_,fun _=>⟨q2,q5⟩,q3,by rw[q4];exact hcl,hul,hwl,w2,?_,?_,fun h=> ?_,?_,?_⟩⟩)
   ·rw[zbk (by decide),d7];exact n1
   ·rw[zbk (by decide),d6] at h;cases h
   ·exact zou (by rw[hsz hn];decide)
   ·rw[zou (by rw[hsz hn];decide)];exact q8
   ·rw[zbk (by decide),d5] at h;cases h
   ·rw[zlw (by decide)];exact r11
   ·rw[zlw (by decide)];exact e10
  | 5,ho=>
   cases ho;refine⟨rfl,fun d a w next hd hbe hwt hI hK=> ?_⟩;rcases hI with⟨h4,_⟩|⟨h4,⟨X,g,cap,pre,us,ws,post,e,fz,hn,hg,h6,h6',hfz,hpre,hus,hws,hone,e13,r13,h5,e11,e10⟩⟩
   ·have:=hwt 4 (by kernel_rfl);rw[h4] at this;cases this
   have d6:=hbe 6 (by kernel_rfl);unfold Oper.wpIn;refine⟨fun f _=>hF.fn f,?_⟩;rw[Oper.semAt_plain F _ _ (fun c hc=>by cases hc)];have hrun: ∀o:Oper,o.op= .indexAddr 27 (.tmp 13) (.tmp 11)->(execOp a.eval o).run prog w= .ok (.value (.pointer (some ⟨g,l.length*8,none⟩))) w:=fun o h1=>by
    have hs:zcp prog 29=some 8:=by kernel_rfl
    have hu:prog.underlying 27=some (.slice 29):=by kernel_rfl
    have h2:(0:Int)<=(l.length:Int):=by omega
    have h3:(l.length:Int)<((l.length+1:Nat):Int):=by omega
    simp[execOp,h1,e13,e11,Instr.indexAt,asIntOf,run_underlying hu,zel hs,h2,zhg]
   rw[hrun _ rfl];have n1:=zcg (P:=prog) (M:=none) trivial hIT hn (Ext.refl X) hn.inv ⟨rfl,rfl⟩ (some 14) (x:= .top) (v:= .pointer (some ⟨g,l.length*8,none⟩)) (by rw[Rep];trivial);refine hK _ _ (.inr ⟨by rw[zbk (by decide)];exact h4,⟨X,g,cap,pre,us,ws,post,e,fz,by rw[zbk (by decide)];exact n1,hg,fun h=> ?_,fun _=>h6' d6,hfz,hpre,hus,hws,hone,?_,?_,fun _=> ?_,?_,?_⟩⟩)
   ·rw[zbk (by decide),d6] at h;cases h
   ·rw[zlw (by decide)];exact e13
   ·rw[zlw (by decide)];exact r13
   ·exact zou (by rw[hsz hn];decide)
   ·rw[zlw (by decide)];exact e11
   ·rw[zlw (by decide)];exact e10
  | 6,ho=>
   cases ho;refine⟨rfl,fun d a w next hd hbe hwt hI hK=> ?_⟩;rcases hI with⟨h4,_⟩|⟨h4,⟨X,g,cap,pre,us,ws,post,e,fz,hn,hg,h6,h6',hfz,hpre,hus,hws,hone,e13,r13,h5,e11,e10⟩⟩
   ·have:=hwt 4 (by kernel_rfl);rw[h4] at this;cases this
   have e14:=h5 (hwt 5 (by kernel_rfl));obtain⟨hrow,hX⟩:=h6' hd;have hst:=run_storeCells_atF prog g (l.length*8) e fz ws 0 (pre++us++post).toArray w hrow (by omega) (by simp;omega) hone;have hlist:(pre++us++post).take (l.length*8)++ws++(pre++us++post).drop (l.length*8+ws.length)=pre++ws++post:=by
    have e1:(pre++us++post).take (l.length*8)=pre:=by rw[List.append_assoc, <-hpre,List.take_left]
    have e2:(pre++us++post).drop (l.length*8+ws.length)=post:=by rw[<-hpre,show pre.length+ws.length=(pre++us).length by simp;omega,List.drop_left]
    rw[e1,e2]
   simp only[Nat.add_zero] at hst;rw[hlist, <-hX] at hst;unfold Oper.wpIn;refine⟨fun f _=>hF.fn f,?_⟩;rw[Oper.semAt_plain F _ _ (fun c hc=>by cases hc)];have hrun: ∀o:Oper,o.op= .store 29 (.tmp 14) (.tmp 10)->(execOp a.eval o).run prog w= .ok .skip X.w:=fun o h1=>by
    have hs:zcp prog 29=some 8:=by kernel_rfl
    have hc:(Value.agg ws.toArray).cells.toList=ws:=rfl;have hcs:(Value.agg ws.toArray).cells.size=8:=by show ws.toArray.size=8;simpa using hws
    simp[execOp,h1,e14,e10,Instr.storeAt,Instr.sureAddr,storeVar,zel hs,hcs,hc,hst]
   rw[hrun _ rfl];have n1:=zcg (P:=prog) (M:=none) trivial hIT hn (Ext.refl X) hn.inv ⟨rfl,rfl⟩ none (x:= .top) (v:=undef) (by rw[Rep];trivial);refine hK _ _ (.inr ⟨by rw[zbk (by decide)];exact h4,⟨X,g,cap,pre,us,ws,post,e,fz,by rw[zbk (by decide)];exact n1,hg,fun _=>rfl,fun h=> ?_,hfz,hpre,hus,hws,hone,e13,r13,fun _=>e14,e11,e10⟩⟩);rw[zec] at h;cases h
  | 7,ho=>
   cases ho;refine⟨rfl,fun d a w next hd hbe hwt hI hK=> ?_⟩;rcases hI with⟨h4,_⟩|⟨h4,⟨X,g,cap,pre,us,ws,post,e,fz,hn,hg,h6,h6',hfz,hpre,hus,hws,hone,e13,r13,h5,e11,e10⟩⟩
   ·have:=hwt 4 (by kernel_rfl);rw[h4] at this;cases this
   rw[hd] at hn;have hn:Now (ITP prog) none F B X0 (SA x) U1 X a:=hn;have r4:Rep (ITP prog) X (.ptr 5 0) (a.eval (.tmp 4)):=zdt hn.reps (.tmp 4);have hnl: ∃cs,zbt (l++[x]).length (Enc.cellsL (l++[x]))= .list (l++[x]).length cs (.own 0):=⟨_,by unfold zbt;rw[if_neg (by simp)]⟩;obtain⟨csn,hnl⟩:=hnl;have has:zqq prog U1 27 (.ptr 5 0) (zbt (l++[x]).length (Enc.cellsL (l++[x])))=some U2:=by
    rw[hσ1,hσ2,hnl];have hs:zcp prog 27=some 1:=by kernel_rfl
    simp[zqq,zbu,hs,zhs,cellsOf]
   obtain⟨b,row,kb,hrunb,hE,hI2⟩:=zzs hIT has r4 r13 hn.inv;have hbg:g≠b:=fun e=>hg (by rw[e];exact mem_of_getElem? kb);have hwb:w.heap[b]? =X.w.heap[b]? :=by
    cases d6:d 6 with
    |true=>rw[h6 d6]
    |false=>rw[(h6' d6).2,z4e _ _ _ _ hbg]
   unfold Oper.wpIn;refine⟨fun f _=>hF.fn f,?_⟩;rw[Oper.semAt_plain F _ _ (fun c hc=>by cases hc)];have hrun: ∀o:Oper,o.op= .store 27 (.tmp 4) (.tmp 13)->(execOp a.eval o).run prog w= .ok .skip (w.setRow b row):=fun o h1=>by
    simp[execOp,h1,hrunb w hwb]
   rw[hrun _ rfl];have n1:=zcg (P:=prog) (M:=none) trivial hIT hn hE hI2 ⟨by rw[hσ1,hσ2];rfl,by rw[hσ1,hσ2];rfl⟩ none (x:= .top) (v:=undef) (by rw[Rep];trivial);refine hK _ _ (.inr ⟨by rw[zbk (by decide)];exact h4,⟨{X with w:=X.w.setRow b row},g,cap,pre,us,ws,post,e,fz,by rw[zec];exact n1,hg,fun h=> ?_,fun h=> ?_,hfz,hpre,hus,hws,hone,e13,zfk hIT hE _ _ r13,fun h=>h5 (by rwa[zbk (by decide)] at h),e11,e10⟩⟩)
   ·rw[zbk (by decide)] at h;show X.w.setRow b row=_;rw[h6 h]
   ·rw[zbk (by decide)] at h;obtain⟨p1,p2⟩:=h6' h;refine⟨by rw[z4e _ _ _ _ (Ne.symm hbg)];exact p1,?_⟩;show X.w.setRow b row=_;rw[p2,z5f _ _ _ _ _ hbg]
  |n+8,ho=>simp at ho
 ·intro a w hI;rcases hI with⟨h4,_⟩|⟨_,⟨X,g,cap,pre,us,ws,post,e,fz,hn,_,h6,_⟩⟩
  ·cases h4
  ·refine⟨rfl,X,h6 rfl,?_⟩;have hn:Now (ITP prog) none F B X0 (SA x) U2 X a:=hn;subst hσ2;exact {hn with inv:=zts hn.inv (s:=6) (t:=29) (cs:=Enc.cells x) rfl}
end Go.Ab
namespace Go.Ab
open Go Go.RowKit Go.Fwd Go.Proofs
def ztq (r:Rd):Option Rd:=
 (some r)
theorem ent62:Ent prog 62:=enters_of Tryz.func62 (by kernel_rfl) rfl
theorem qjo (r:Rd)  (y:Rd)(h:ztq r=some y):RdC prog 62 [] r (.clos 97 [.iptr [.ptr 0 0]]) y:=by
 obtain⟨d,hd⟩: ∃d,Tryz.f62.body=some d:=⟨_,rfl⟩;refine qpw mix Tryz.func62 hd ent62 rfl (fun m g hg=>by simp only[zib,zac,hg]) (fun k0 hk0=> ?_);cases hd;unfold ztq at h;refine zbv (by dsimp only[zaq,Tryz.f62,length_cons,length_nil,zero_add,Nat.reduceAdd,Nat.reduceSub,List.replicate,cons_append,nil_append]) (show rdS r.q r=(.B [(69,[.s r.s,.i r.a,.i r.e,(zbs 2 r.q)]),((zq r.q).1,[]),((zq r.q).1,(zq r.q).2)]) from rfl) ?_;refine zj (zb ?_);refine zdf [.ptr 0 0] ?_;refine w_o (a:= .raw Value.nilFunc) ?_;refine zbb [.v (.clos 97 [.ptr 3 0])] ?_;refine zar ?_;have he1:=Option.some.inj h;subst he1;exact zgp (a:= .clos 97 [.ptr 3 0]) [2] 1 rfl rfl rfl (zat rfl (ziz fun _=>rfl) zp (zd rfl (zt _ _ _) zab) rfl)
theorem ent97b:Ent prog 97:=enters_of Tryz.func97 (by kernel_rfl) rfl
def zvr (fuel:Nat)(pcs:Rd->Option (List Tr×Rd))(r:Rd):Option (Tr×Rd):=
 (zcu (τ:=Rd×(List Tr)) (zax (β:=Rd×(List Tr)) (fun s1=>(zcu (τ:=Rd×(List Tr)) (zag (ztq s1.1) (fun x1=>(zag (pcs x1) (fun x2=>(zcu (zem (β:=(List Tr)) (fun s2 w1=>(chk (length s2<2^40) (some (inl ((s2++[w1])))))) x2.1 (([]:List Tr))) (fun s2=>(some (inl (x2.2,s2))))))))) (fun j2=>(chk ((zbj j2.2).length<=2^40) (zba (zny j2.2) (fun x3=>(bif (isEmpty s1.2) then(chk (0<(length [x3])/\ (length [x3])*80<=140737488355328) (zag (zee j2.1) (fun x4=>(bif (x4.1 !=124) then(some (inr (inl (x4.2,[x3])))) else(chk (I64 (x4.2.a+1)) (some (inl ((Rd.mk x4.2.s (x4.2.a+1) x4.2.e x4.2.q),[x3])))))))) else(chk (length s1.2=(length s1.2)/\ 0<(length s1.2)/\ 0<length [x3]/\ ((length s1.2)+length [x3])*80<=140737488355328) (zag (zee j2.1) (fun x5=>(bif (x5.1 !=124) then(some (inr (inl (x5.2,(s1.2++[x3]))))) else(chk (I64 (x5.2.a+1)) (some (inl ((Rd.mk x5.2.s (x5.2.a+1) x5.2.e x5.2.q),(s1.2++[x3])))))))))))))))) fuel (r,([]:List Tr))) (fun j1=>(bif (isEmpty j1.2) then(chk ((zbj ([]:List Tr)).length<=2^40) (zba (orT ([]:List Tr)) (fun x6=>(some (x6,j1.1))))) else(chk ((zbj j1.2).length<=2^40) (zba (orT j1.2) (fun x7=>(some (x7,j1.1))))))))
theorem ent34:Ent prog 34:=enters_of Tryz.func34 (by kernel_rfl) rfl
theorem alts_rd (fuel:Nat)(pcs:Rd->Option (List Tr×Rd))(r:Rd)(hpc: ∀(r:Rd)(y:List Tr×Rd),pcs r=some y->RdIt prog 97 r (y.1.map zoi) y.2)(y:Tr×Rd)(h:zvr fuel pcs r=some y):RdC prog 34 [] r (.A (y.1:Tr)) y.2:=by
 obtain⟨d,hd⟩: ∃d,Tryz.f34.body=some d:=⟨_,rfl⟩;refine qcj mix Tryz.func34 hd ent34 rfl (by first|rfl|exact(zae (Enc.clo _))) (fun k0 hk0=> ?_);cases hd;unfold zvr at h;refine zbv (by dsimp only[zaq,Tryz.f34,length_cons,length_nil,zero_add,Nat.reduceAdd,Nat.reduceSub,List.replicate,cons_append,nil_append]) (show rdS r.q r=(.B [(69,[.s r.s,.i r.a,.i r.e,(zbs 2 r.q)]),((zq r.q).1,[]),((zq r.q).1,(zq r.q).2)]) from rfl) ?_;refine zj (zb ?_);refine zdf zN ?_;refine qen ?_;refine zgq (zb ?_);refine w_o (a:= .list 0 [] .full) ?_;refine qrg 32 [(0,.ptr 0 0),(2,.ptr 3 0),(3,(z0s 4 (length ([]:List Tr)) 8))] (U':=(.B [(69,[.s r.s,.i r.a,.i r.e,(zbs 2 r.q)]),((zq r.q).1,[]),((zq r.q).1,(zq r.q).2),(29,zN),(29,(Enc.cellsL (([]:List Tr):List Tr)))])) (z9n (bl 32 4294967295) 3 rfl rfl rfl) ?_;refine zj ?_;refine qjs ?_;refine zan h (bz 0 32 4294967291) (fun j1=>[(3,(z0s 4 (length j1.2) 8))]) (fun j1=>(.B [(69,[.s j1.1.s,.i j1.1.a,.i j1.1.e,(zbs 2 j1.1.q)]),((zq r.q).1,[]),((zq j1.1.q).1,(zq j1.1.q).2),(29,zN),(29,(Enc.cellsL (j1.2:List Tr)))])) ?_ ?_;intro or1 h hr1;refine z7k ?_;refine zcf h (bz 0 32 4294967290) (fun s1=>[(3,(z0s 4 (length s1.2) 8))]) (fun s1=>(.B [(69,[.s s1.1.s,.i s1.1.a,.i s1.1.e,(zbs 2 s1.1.q)]),((zq r.q).1,[]),((zq s1.1.q).1,(zq s1.1.q).2),(29,zN),(29,(Enc.cellsL (s1.2:List Tr)))])) ?_ ?_;exact zbe (bl 32 13);intro s1 p1 h;refine zdi ?_;refine z7k ?_;refine zj (zb ?_);refine zdf [.F (([]:List Tr):List Tr)] ?_;refine zan h (bz 0 15 32736) (fun j2=>[]) (fun j2=>(zbu [(69,[.s j2.1.s,.i j2.1.a,.i j2.1.e,(zbs 2 j2.1.q)]),((zq r.q).1,[]),((zq j2.1.q).1,(zq j2.1.q).2),(29,zN),(29,(Enc.cellsL (s1.2:List Tr))),(27,[(.O (j2.2:List Tr))])] 29 (length (j2.2:List Tr)) 8)) ?_ ?_;intro or2 h hr2;refine zgq (zb ?_);refine zar ?_;obtain⟨x1,hx1,h⟩:=zr h;refine zhh (r:= .clos 97 [.iptr [.ptr 0 0]]) (U':=(.B [(69,[.s x1.s,.i x1.a,.i x1.e,(zbs 6 x1.q)]),((zq r.q).1,[]),((zq s1.1.q).1,[]),(29,zN),(29,(Enc.cellsL (s1.2:List Tr))),(27,[.F (([]:List Tr):List Tr)]),((zq x1.q).1,(zq x1.q).2)])) ((qjo s1.1 x1 hx1) _ 2 (by decide) rfl rfl) rfl rfl ⟨rfl,rfl⟩ (by dsimp only[zah,List.set]) ?_;refine zht 32 [(0,.ptr 0 0),(2,.ptr 3 0),(3,(z0s 4 (length s1.2) 8)),(4,.ptr 5 0),(7,.clos 97 [.iptr [.ptr 0 0]])] (U':=(.B [(69,[.s x1.s,.i x1.a,.i x1.e,(zbs 2 x1.q)]),((zq r.q).1,[]),((zq x1.q).1,(zq x1.q).2),(29,zN),(29,(Enc.cellsL (s1.2:List Tr))),(27,[.F (([]:List Tr):List Tr)])])) (wmp (bl 32 157) 2 [] [6,3,4,5] 1 hk0 (zat rfl (ziz fun _=>rfl) zp (zd rfl (zt _ _ _) (zd rfl rfl (zd rfl (zad _ _ _ (Enc.cloL _)) (zd rfl (zam (qij (Enc.cloL _)) zp) zab)))) rfl)) ?_;refine zx ?_;obtain⟨x2,hx2,h⟩:=zr h;refine qff h zoi (fun s2=>(zbu [(29,[]),(29,[]),(29,[]),(29,zN),(29,[]),(27,[(.O (s2:List Tr))])] 29 (length (s2:List Tr)) 8)) 2 3 [0,1,2,4] (tm:=29) (S':=[.top,.top,.ptr 3 0,.top,.ptr 5 0,.top,.top,.top,.top,.top,.top,.top,.top,.top,.top,.top,.top,.top,.top,.top,.top,.top,.top,.top,.top,.top,.top,.top,.top,.top,.top,.top]) ((hpc _ _ hx2)) ent97b rfl (by decide) rfl rfl rfl rfl (hd_of (by kernel_rfl)) rfl rfl (fgR_of [false,false,true,false,true,false,false,false,false,false,false,false,false,false,false,false,false,false,false,false,false,false,false,false,false,false,false,false,false,false,false,false] (by repeat(first|exact zif|refine zff rfl ?_|apply zvu))) (fun _=>rfl) rfl rfl ?_ ?_;intro s2 w1 p2 h;refine zbv (by dsimp only[zlz,List.zip,List.zipWith,List.foldl,List.set,Array.toList,zoi]) rfl ?_;refine zb (k0:=k0) (id:=4) ?_;refine zqo (a:= .ptr 6 0) (U'':=(zbu [(29,[]),(29,[]),(29,[]),(29,zN),(29,[]),(27,[(.O (s2:List Tr))]),(29,zN)] 29 (length (s2:List Tr)) 8)) ?_;refine zoa 8 (zbu [(29,[]),(29,[]),(29,[]),(29,zN),(29,[]),(27,[(.O (s2:List Tr))]),(29,(Enc.cells (w1:Tr)))] 29 (length (s2:List Tr)) 8) ?_;obtain⟨g1,h⟩:=ze h;refine w_semB [.top,.top,.ptr 3 0,.top,.ptr 5 0,.ptr 6 0,.top,.top,.A (w1:Tr),.top,.top,.top,.top,.top,.top,.top,.top,.top,.top,.top,.top,.top,.top,.top,.top,.top,.top,.top,.top,.top,.top,.top] (zbu [(29,[]),(29,[]),(29,[]),(29,zN),(29,[]),(27,[(.O ((s2++[w1]):List Tr))]),(29,[])] 29 (length ((s2++[w1]):List Tr)) 8) (app_reg _ _ _ _ _ s2 w1 g1 rfl) ?_;exact zfy (p:=p2) ((s2++[w1])) h (zbg (zy rfl (zy rfl (zy rfl (zy rfl (zy rfl (zy (za (zdn (Enc.cloL _)) rfl) rfl))))))) (by kernel_rfl);intro s2 h;refine rd_back (zbu [(69,[.s x2.2.s,.i x2.2.a,.i x2.2.e,(zbs 6 x2.2.q)]),((zq r.q).1,[]),((zq x1.q).1,[]),(29,zN),(29,(Enc.cellsL (s1.2:List Tr))),(27,[(.O (s2:List Tr))]),((zq x2.2.q).1,(zq x2.2.q).2)] 29 (length (s2:List Tr)) 8) ?_ (qbs (congrArg (fun(z:List AV)=>([(69,[.s x2.2.s,.i x2.2.a,.i x2.2.e,(zbs 6 x2.2.q)]),((zq r.q).1,[]),((zq x1.q).1,[]),(29,zN),(29,(Enc.cellsL (s1.2:List Tr))),(27,z),((zq x2.2.q).1,(zq x2.2.q).2)]:List (TypeId×List AV))) (zam (zpf (fun hn=>z7l hn)) zp)));refine zc (o:=or2) (x2.2,s2) h ?_;exact(wmp (bl 32 4294934559) 2 [] [6,3,4,5] 1 hk0 (zvt (ziz fun _=>rfl) zp (zd rfl (zt _ _ _) (zd rfl rfl (zd rfl (zad _ _ _ (Enc.cloL _)) (zd rfl (zam (zpf (fun hn=>z7l hn)) zp) zab))))));intro j2 h;refine zdi ?_;refine zj (zb ?_);refine zar ?_;refine w_o (a:=(.O (j2.2:List Tr))) ?_;obtain⟨g2,h⟩:=ze h;obtain⟨x3,hx3,h⟩:=zk h;refine zch (args':=[.L (j2.2:List Tr)]) (r:= .A (x3:Tr)) (by rw[<-hx3];exact(k_seq j2.2 g2)) ?_;refine w_o (a:= .F ([x3]:List Tr)) (h:=zaz (zho (α:=Tr) (l:=[x3]) (cs:=Enc.cells (x3:Tr)++[]) rfl (by rw[Enc.cons,Enc.nil]))) ?_;refine zz h (fun hc1 h=> ?_) (fun hc1 h=> ?_);rw[zgh (b:=4) hc1];obtain⟨g3,h⟩:=ze h;refine zsy (a:= .bsl 6 0 (length [x3]) 8 false) (U'':=(zbu [(69,[.s j2.1.s,.i j2.1.a,.i j2.1.e,(zbs 2 j2.1.q)]),((zq r.q).1,[]),((zq j2.1.q).1,(zq j2.1.q).2),(29,zN),(29,(Enc.cellsL (s1.2:List Tr))),(27,[(.O (j2.2:List Tr))]),(29,(Enc.cellsL ([x3]:List Tr)))] 29 (length (j2.2:List Tr)) 8)) rfl rfl rfl (zqg (α:=Tr) (r:=[x3]) (by':=80) g3 rfl rfl rfl rfl rfl rfl rfl rfl rfl rfl rfl ⟨rfl,by decide⟩) (by dsimp only[zah,List.set]) rfl ?_;refine zar ?_;refine zj ?_;refine zgq (zb ?_);refine zar ?_;obtain⟨x4,hx4,h⟩:=zr h;refine zhh (r:= .u x4.1) (U':=(zbu [(69,[.s x4.2.s,.i x4.2.a,.i x4.2.e,(zbs 7 x4.2.q)]),((zq r.q).1,[]),((zq j2.1.q).1,[]),(29,zN),(29,(Enc.cellsL (s1.2:List Tr))),(27,[(.O (j2.2:List Tr))]),(29,(Enc.cellsL ([x3]:List Tr))),((zq x4.2.q).1,(zq x4.2.q).2)] 29 (length (j2.2:List Tr)) 8)) ((zrf j2.1 x4 hx4) _ 2 (by decide) rfl rfl) rfl rfl ⟨rfl,rfl⟩ (by dsimp only[zah,List.set]) ?_;refine w_o (a:= .b (x4.1 !=124)) ?_;refine zht 32 [(0,.ptr 0 0),(2,.ptr 3 0),(3,.bsl 6 0 (length [x3]) 8 false),(22,.b (x4.1 !=124))] (U':=(zbu [(69,[.s x4.2.s,.i x4.2.a,.i x4.2.e,(zbs 2 x4.2.q)]),((zq r.q).1,[]),((zq x4.2.q).1,(zq x4.2.q).2),(29,zN),(29,(Enc.cellsL (s1.2:List Tr))),(27,[(.O (j2.2:List Tr))]),(29,(Enc.cellsL ([x3]:List Tr)))] 29 (length (j2.2:List Tr)) 8)) (wmk (bl 32 4194317) 2 [] [7,3,4,5,6] 1 hk0 (zvt (ziz fun _=>rfl) zp (zd rfl (zt _ _ _) (zd rfl rfl (zd rfl (zad _ _ _ (Enc.cloL _)) (zd rfl (zam (zpf (fun hn=>z7l hn)) zp) (zd rfl (zad _ _ _ (Enc.cloL _)) zab))))))) ?_;refine zbn h (fun hc2 h=> ?_) (fun hc2 h=> ?_);refine zg h (fun h=> ?_);refine z0b (S':=[.top,.top,.ptr 3 0,(z0s 4 (length [x3]) 8),.top,.top,.top,.top,.top,.top,.top,.top,.top,.top,.top,.top,.top,.top,.top,.top,.top,.top,.top,.top,.top,.top,.top,.top,.top,.top,.top,.top]) (U':=(.B [(69,[.s x4.2.s,.i x4.2.a,.i x4.2.e,(zbs 2 x4.2.q)]),((zq r.q).1,[]),((zq x4.2.q).1,(zq x4.2.q).2),(29,zN),(29,(Enc.cellsL ([x3]:List Tr)))])) [false,false,true,true,false,false,false,false,false,false,false,false,false,false,false,false,false,false,false,false,false,false,false,false,false,false,false,false,false,false,false,false] 2 [2,3,6] 1 (le_refl _) hk0 rfl (by repeat(first|exact zif|refine zff rfl ?_|refine zff (zmx (by first|(simp;done)|(simp only[length_append,length_take];omega)) (by first|(simp;done)) _ _) ?_|apply zvu)) (zat rfl (ziz fun _=>rfl) zp (zd rfl (zt _ _ _) (zd rfl rfl (zd rfl (zad _ _ _ (Enc.cloL _)) zab))) rfl) ?_;refine zc (o:=or1) (x4.2,[x3]) h ?_;exact zbe (bl 32 12);refine zb (k0:=k0) (id:=8) ?_;refine zar ?_;refine w_r [.v (.ptr 0 0),.v (.ptr 0 1),.v (.i x4.2.a)] ?_;obtain⟨g4,h⟩:=ze h;refine zgu g4 ?_;refine w_r [.v (.ptr 0 0),.v (.ptr 0 1)] ?_;refine zqo (U'':=(zbu [(69,[.s x4.2.s,.i (x4.2.a+1),.i x4.2.e,(zbs 2 x4.2.q)]),((zq r.q).1,[]),((zq x4.2.q).1,(zq x4.2.q).2),(29,zN),(29,(Enc.cellsL (s1.2:List Tr))),(27,[(.O (j2.2:List Tr))]),(29,(Enc.cellsL ([x3]:List Tr)))] 29 (length (j2.2:List Tr)) 8)) (h:=zct (n:=1) rfl rfl rfl rfl rfl ⟨rfl,rfl,le_of_ble_eq_true rfl,by decide⟩) ?_;refine z0b (S':=[.ptr 0 0,.top,.ptr 3 0,(z0s 4 (length [x3]) 8),.top,.top,.top,.top,.top,.top,.top,.top,.top,.top,.top,.top,.top,.top,.top,.top,.top,.top,.top,.top,.top,.top,.top,.top,.top,.top,.top,.top]) (U':=(.B [(69,[.s x4.2.s,.i (x4.2.a+1),.i x4.2.e,(zbs 2 x4.2.q)]),((zq r.q).1,[]),((zq x4.2.q).1,(zq x4.2.q).2),(29,zN),(29,(Enc.cellsL ([x3]:List Tr)))])) [true,false,true,true,false,false,false,false,false,false,false,false,false,false,false,false,false,false,false,false,false,false,false,false,false,false,false,false,false,false,false,false] 2 [2,3,6] 1 (le_refl _) hk0 rfl (by repeat(first|exact zif|refine zff rfl ?_|refine zff (zmx (by first|(simp;done)|(simp only[length_append,length_take];omega)) (by first|(simp;done)) _ _) ?_|apply zvu)) (zat rfl (ziz fun _=>rfl) zp (zd rfl (zt _ _ _) (zd rfl rfl (zd rfl (zad _ _ _ (Enc.cloL _)) zab))) rfl) ?_;refine zbf (p:=p1) ((Rd.mk x4.2.s (x4.2.a+1) x4.2.e x4.2.q),[x3]) h ?_;exact zbe (bl 32 13);rw[zgy (b:=4) hc1];obtain⟨g5,h⟩:=ze h;refine zsy (a:= .bsl 6 0 ((length s1.2)+length [x3]) 8 false) (U'':=(zbu [(69,[.s j2.1.s,.i j2.1.a,.i j2.1.e,(zbs 2 j2.1.q)]),((zq r.q).1,[]),((zq j2.1.q).1,(zq j2.1.q).2),(29,zN),(29,(Enc.cellsL (([]:List Tr):List Tr))),(27,[(.O (j2.2:List Tr))]),(29,(Enc.cellsL ((s1.2++[x3]):List Tr)))] 29 (length (j2.2:List Tr)) 8)) rfl rfl rfl (z7f (α:=Tr) (l:=s1.2) (r:=[x3]) (by':=80) g5 rfl rfl rfl rfl rfl rfl rfl rfl rfl rfl rfl rfl ⟨rfl,by decide⟩) (by dsimp only[zah,List.set]) rfl ?_;refine zar ?_;refine zj ?_;refine zgq (zb ?_);refine zar ?_;obtain⟨x5,hx5,h⟩:=zr h;refine zhh (r:= .u x5.1) (U':=(zbu [(69,[.s x5.2.s,.i x5.2.a,.i x5.2.e,(zbs 7 x5.2.q)]),((zq r.q).1,[]),((zq j2.1.q).1,[]),(29,zN),(29,(Enc.cellsL (([]:List Tr):List Tr))),(27,[(.O (j2.2:List Tr))]),(29,(Enc.cellsL ((s1.2++[x3]):List Tr))),((zq x5.2.q).1,(zq x5.2.q).2)] 29 (length (j2.2:List Tr)) 8)) ((zrf j2.1 x5 hx5) _ 2 (by decide) rfl rfl) rfl rfl ⟨rfl,rfl⟩ (by dsimp only[zah,List.set]) ?_;refine w_o (a:= .b (x5.1 !=124)) ?_;refine zht 32 [(0,.ptr 0 0),(2,.ptr 3 0),(3,.bsl 6 0 ((length s1.2)+length [x3]) 8 false),(22,.b (x5.1 !=124))] (U':=(zbu [(69,[.s x5.2.s,.i x5.2.a,.i x5.2.e,(zbs 2 x5.2.q)]),((zq r.q).1,[]),((zq x5.2.q).1,(zq x5.2.q).2),(29,zN),(29,(Enc.cellsL (([]:List Tr):List Tr))),(27,[(.O (j2.2:List Tr))]),(29,(Enc.cellsL ((s1.2++[x3]):List Tr)))] 29 (length (j2.2:List Tr)) 8)) (wmk (bl 32 4194317) 2 [] [7,3,4,5,6] 1 hk0 (zvt (ziz fun _=>rfl) zp (zd rfl (zt _ _ _) (zd rfl rfl (zd rfl (zad _ _ _ (Enc.cloL _)) (zd rfl (zam (zpf (fun hn=>z7l hn)) zp) (zd rfl (zad _ _ _ (Enc.cloL _)) zab))))))) ?_;refine zbn h (fun hc3 h=> ?_) (fun hc3 h=> ?_);refine zg h (fun h=> ?_);refine z0b (S':=[.top,.top,.ptr 3 0,(z0s 4 (length (s1.2++[x3])) 8),.top,.top,.top,.top,.top,.top,.top,.top,.top,.top,.top,.top,.top,.top,.top,.top,.top,.top,.top,.top,.top,.top,.top,.top,.top,.top,.top,.top]) (U':=(.B [(69,[.s x5.2.s,.i x5.2.a,.i x5.2.e,(zbs 2 x5.2.q)]),((zq r.q).1,[]),((zq x5.2.q).1,(zq x5.2.q).2),(29,zN),(29,(Enc.cellsL ((s1.2++[x3]):List Tr)))])) [false,false,true,true,false,false,false,false,false,false,false,false,false,false,false,false,false,false,false,false,false,false,false,false,false,false,false,false,false,false,false,false] 2 [2,3,6] 1 (le_refl _) hk0 rfl (by repeat(first|exact zif|refine zff rfl ?_|refine zff (zmx (by first|(simp;done)|(simp only[length_append,length_take];omega)) (by first|(simp;done)) _ _) ?_|apply zvu)) (zat rfl (ziz fun _=>rfl) zp (zd rfl (zt _ _ _) (zd rfl rfl (zd rfl (zad _ _ _ (Enc.cloL _)) zab))) rfl) ?_;refine zc (o:=or1) (x5.2,(s1.2++[x3])) h ?_;exact zbe (bl 32 12);refine zb (k0:=k0) (id:=8) ?_;refine zar ?_;refine w_r [.v (.ptr 0 0),.v (.ptr 0 1),.v (.i x5.2.a)] ?_;obtain⟨g6,h⟩:=ze h;refine zgu g6 ?_;refine w_r [.v (.ptr 0 0),.v (.ptr 0 1)] ?_;refine zqo (U'':=(zbu [(69,[.s x5.2.s,.i (x5.2.a+1),.i x5.2.e,(zbs 2 x5.2.q)]),((zq r.q).1,[]),((zq x5.2.q).1,(zq x5.2.q).2),(29,zN),(29,(Enc.cellsL (([]:List Tr):List Tr))),(27,[(.O (j2.2:List Tr))]),(29,(Enc.cellsL ((s1.2++[x3]):List Tr)))] 29 (length (j2.2:List Tr)) 8)) (h:=zct (n:=1) rfl rfl rfl rfl rfl ⟨rfl,rfl,le_of_ble_eq_true rfl,by decide⟩) ?_;refine z0b (S':=[.ptr 0 0,.top,.ptr 3 0,(z0s 4 (length (s1.2++[x3])) 8),.top,.top,.top,.top,.top,.top,.top,.top,.top,.top,.top,.top,.top,.top,.top,.top,.top,.top,.top,.top,.top,.top,.top,.top,.top,.top,.top,.top]) (U':=(.B [(69,[.s x5.2.s,.i (x5.2.a+1),.i x5.2.e,(zbs 2 x5.2.q)]),((zq r.q).1,[]),((zq x5.2.q).1,(zq x5.2.q).2),(29,zN),(29,(Enc.cellsL ((s1.2++[x3]):List Tr)))])) [true,false,true,true,false,false,false,false,false,false,false,false,false,false,false,false,false,false,false,false,false,false,false,false,false,false,false,false,false,false,false,false] 2 [2,3,6] 1 (le_refl _) hk0 rfl (by repeat(first|exact zif|refine zff rfl ?_|refine zff (zmx (by first|(simp;done)|(simp only[length_append,length_take];omega)) (by first|(simp;done)) _ _) ?_|apply zvu)) (zat rfl (ziz fun _=>rfl) zp (zd rfl (zt _ _ _) (zd rfl rfl (zd rfl (zad _ _ _ (Enc.cloL _)) zab))) rfl) ?_;refine zbf (p:=p1) ((Rd.mk x5.2.s (x5.2.a+1) x5.2.e x5.2.q),(s1.2++[x3])) h ?_;exact zbe (bl 32 13);intro j1 h;refine zdi ?_;refine zz h (fun hc4 h=> ?_) (fun hc4 h=> ?_);rw[zgh (b:=4) hc4];refine zj (zb ?_);refine zar ?_;obtain⟨g7,h⟩:=ze h;obtain⟨x6,hx6,h⟩:=zk h;refine zch (args':=[.list 0 [] .none]) (r:= .A (x6:Tr)) (by rw[<-hx6];exact(k_or ([]:List Tr) g7)) ?_;refine zoa 8 (.B [(69,[.s j1.1.s,.i j1.1.a,.i j1.1.e,(zbs 2 j1.1.q)]),((zq r.q).1,[]),((zq j1.1.q).1,(zq j1.1.q).2),(29,(Enc.cells (x6:Tr))),(29,(Enc.cellsL (j1.2:List Tr)))]) ?_;have he1:=Option.some.inj h;subst he1;exact zgp (a:= .A (x6:Tr)) [2] 1 rfl rfl (zaj _ _ _ (zae (Enc.clo _))) (zat rfl (ziz fun _=>rfl) zp (zd rfl (zt _ _ _) zab) rfl);rw[zgy (b:=4) hc4];refine zj (zb ?_);refine zar ?_;obtain⟨g8,h⟩:=ze h;obtain⟨x7,hx7,h⟩:=zk h;refine zhh (r:= .A (x7:Tr)) (U':=(.B [(69,[.s j1.1.s,.i j1.1.a,.i j1.1.e,(zbs 2 j1.1.q)]),((zq r.q).1,[]),((zq j1.1.q).1,(zq j1.1.q).2),(29,zN),(29,(Enc.cellsL (([]:List Tr):List Tr)))])) (snd_frz (α:=Tr) (t:=29) (l:=j1.2) (ar:=[]) (ar':=[]) (r:= .A (x7:Tr)) (zh _) (by rw[<-hx7];exact(k_or j1.2 g8)) rfl rfl rfl) rfl rfl ⟨rfl,rfl⟩ (by dsimp only[zah,List.set]) ?_;refine zes 8 (Enc.cells (x7:Tr)) ?_;have he2:=Option.some.inj h;subst he2;exact zgp (a:= .A (x7:Tr)) [2] 1 rfl rfl (zaj _ _ _ (zae (Enc.clo _))) (zat rfl (ziz fun _=>rfl) zp (zd rfl (zt _ _ _) zab) rfl)
end Go.Ab
