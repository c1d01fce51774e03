import Derived.Test.YtjkcellkmmfkdaaGreatDoorZhDa
set_option linter.all false
set_option maxRecDepth 100000
set_option maxHeartbeats 4000000
open Sum (inl inr)
open Nat (le_refl zero_add lt_or_ge le_of_ble_eq_true)
open Option (map_some getD_some)
open List (length length_cons mem_of_getElem? length_nil getElem?_eq_getElem getElem?_append_left cons_append nil_append mem_cons getElem?_set_ne getElem?_set_self)
open Go.Proofs.Tryz (prog)
namespace Go.Ab
open Go Go.RowKit Go.Fwd
theorem z1p {js:List Nat} {n i:Nat} (h:i<js.length):fwN js n i=js[i]:=by simp[fwN,h]
theorem qod {js:List Nat} {n i:Nat} (h:js.length<=i):fwN js n i=n+(i-js.length):=by simp[fwN,h]
theorem z1k {IT:IterP} (hIT:ITMono IT) {P:Program} {f:FuncId} {args args0:List AV} {r r0:AV} {bs bs':List (TypeId×List AV)} {τ τ':St} (js:List Nat)
 (h:Snd IT P f args0 ⟨bs,[],[],0,false⟩ r0 ⟨bs',[],[],0,false⟩) (hargs:zx 0 (bwz js) args=args0) (hr0:zhq 0 (fwz js τ.boxes.length) r0=r)
 (hj:js.length=bs.length) (hnd:js.Nodup) (hle:bs.length<=bs'.length)
 (hb: ∀i t cs,bs[i]? =some (t,cs)-> ∃C,τ.boxes[fwN js 0 i]? =some (t,C)/\ zx 0 (bwz js) C=cs/\ C≠[])
 (hb1: ∀i t cs,bs'[i]? =some (t,cs)->τ'.boxes[fwN js τ.boxes.length i]? =some (t,zx 0 (fwz js τ.boxes.length) cs))
 (hb2: ∀s,s<τ.boxes.length->s∉js->τ'.boxes[s]? =τ.boxes[s]?) (hlen:τ'.boxes.length=τ.boxes.length+(bs'.length-bs.length))
 (hl:τ'.lens=τ.lens) (he:τ'.elems=τ.elems):Snd IT P f args τ r τ':=by
 refine⟨h.1,fun X vs hI hr=> ?_⟩;have hXl:=hI.κlen
 -- where the boxes are
 have hjs: ∀i (hi:i<js.length),∃t C,τ.boxes[js[i]]? =some (t,C)/\ (∃cs,bs[i]? =some (t,cs)/\ zx 0 (bwz js) C=cs)/\ C≠[]:=fun i hi=>by
  have hi2:i<bs.length:=by omega
  obtain⟨C,h1,h2,h3⟩:=hb i bs[i].1 bs[i].2 (getElem?_eq_getElem hi2);rw[z1p hi] at h1;exact⟨_,C,h1,⟨_,getElem?_eq_getElem hi2,h2⟩,h3⟩
 have hjlt: ∀i (hi:i<js.length),js[i]<X.κ.length:=fun i hi=>by
  obtain⟨t,C,h1,_⟩:=hjs i hi;rw[hXl];exact(List.getElem?_eq_some_iff.1 h1).1
 let κ0:List Nat:=js.map fun j=>X.κ.getD j 0
 have hκ0l:κ0.length=js.length:=by simp[κ0]
 have hκ0: ∀i (hi:i<js.length) b,κ0[i]? =some b->X.κ[js[i]]? =some b:=fun i hi b hb=>by
  have:=hjlt i hi;simp only[κ0,List.getElem?_map,getElem?_eq_getElem hi,map_some,List.getD_eq_getElem?_getD,getElem?_eq_getElem this,getD_some,Option.some.injEq] at hb;rw[getElem?_eq_getElem this,hb]
 have hκ0i: ∀i (hi:i<js.length) b,X.κ[js[i]]? =some b->κ0[i]? =some b:=fun i hi b hb=>by
  have:=hjlt i hi;rw[getElem?_eq_getElem this] at hb;simp only[κ0,List.getElem?_map,getElem?_eq_getElem hi,map_some,List.getD_eq_getElem?_getD,getElem?_eq_getElem this,getD_some];exact hb
 have hκm: ∀b∈κ0,b∈X.κ:=fun b hb=>by
  obtain⟨i,hi⟩:=List.mem_iff_getElem?.1 hb;have hl:i<js.length:=by rw[<-hκ0l];exact(List.getElem?_eq_some_iff.1 hi).1
  exact mem_of_getElem? (hκ0 i hl b hi)
 let X0:Cx:=⟨X.F,κ0,[],[],X.w,fun _=>False,fun _ _=>False⟩
 have hg0:(∀s off v,Rep IT X (.ptr s off) v->Rep IT X0 ((bwz js).1 s off) v)/\ ∀s off n sz f v,Rep IT X (.bsl s off n sz f) v->Rep IT X0 ((bwz js).2 s off n sz) v:=by
  have key: ∀s b:Nat,js.contains s=true->X.κ[s]? =some b->κ0[js.idxOf s]? =some b:=fun s b hs hb=>by
   have hm:s∈js:=by simpa using hs
   have hlt:=List.idxOf_lt_length_of_mem hm;refine hκ0i _ hlt b ?_;rw[List.getElem_idxOf hlt];exact hb
  refine⟨?_,?_⟩
  ·rintro s off v ⟨b,hb,rfl⟩;show Rep IT X0 (if js.contains s then .ptr (js.idxOf s) off else .top) _;split
   ·rename_i hs;exact⟨b,key s b hs hb,rfl⟩
   ·rw[Rep];trivial
  ·rintro s off n sz f v ⟨b,cap,cur,t,hb,rfl,hcap,hful,hrow,hfit⟩;show Rep IT X0 (if js.contains s then .bsl (js.idxOf s) off n sz false else .top) _;split
   ·rename_i hs;exact⟨b,cap,cur,t,key s b hs hb,rfl,hcap,(fun h=>by cases h),hrow,hfit⟩
   ·rw[Rep];trivial
 have hmL:=zdb (X:=X) (Y:=X0) (m:=0) hIT (fun _ _ h=>h) rfl (fun s hs=>by omega) hg0;have hr':zbf IT X0 args0 vs:=hargs▸hmL args vs hr
 -- which numbers say the same block
 have hsame: ∀i j (hi:i<js.length) (hj2:j<js.length) b,κ0[i]? =some b->κ0[j]? =some b->i=j:=fun i j hi hj2 b h1 h2=>by
  apply Classical.byContradiction;intro hne;have hne2:js[i]≠js[j]:=fun e=>hne ((List.getElem_inj hnd).1 e);obtain⟨t1,C1,a1,_,c1⟩:=hjs i hi;obtain⟨t2,C2,a2,_,c2⟩:=hjs j hj2;rcases hI.κnd _ _ b (hκ0 i hi b h1) (hκ0 j hj2 b h2) hne2 with⟨t,h3⟩|⟨t,h3⟩
  ·rw[a1] at h3;cases h3;exact c1 rfl
  ·rw[a2] at h3;cases h3;exact c2 rfl
 have hI0:Inv IT ⟨bs,[],[],0,false⟩ X0:={
  lens:=rfl,elems:=rfl,κlen:=by show κ0.length=bs.length;omega
  κnd:=fun s1 s2 b1 h1 h2 h3=>by
   have e1:=(List.getElem?_eq_some_iff.1 h1).1;have e2:=(List.getElem?_eq_some_iff.1 h2).1;have e1:s1<κ0.length:=e1;have e2:s2<κ0.length:=e2;exact absurd (hsame s1 s2 (by omega) (by omega) b1 h1 h2) h3
  box:=fun i b t cs h1 h2=>by
   have hi:i<js.length:=by rw[hj];exact(List.getElem?_eq_some_iff.1 h2).1
   obtain⟨t1,C,a1,⟨cs1,a2,a3⟩,a4⟩:=hjs i hi;have h2:bs[i]? =some (t,cs):=h2;rw[h2] at a2;cases a2;obtain⟨us,zs,u1,u2,u3⟩:=hI.box _ b t C (hκ0 i hi b h1) a1;exact⟨us,zs,u1,a3▸hmL C us u2,u3⟩
  κF:=fun i b t cs h1 h2 h3=>by
   have hi:i<js.length:=by rw[hj];exact(List.getElem?_eq_some_iff.1 h2).1
   obtain⟨t1,C,a1,_,a4⟩:=hjs i hi;exact hI.κF _ b t1 C (hκ0 i hi b h1) a1 a4
  βlen:=rfl,βnd:=List.nodup_nil
  βκ:=fun r h=>by simp[X0] at h
  row:=fun s r L h=>by simp[X0] at h
  Ok:=fun b h=>h.elim
  Fcell:=hI.Fcell
  gv:=hI.gv}
 refine(h.2 X0 vs hI0 hr').mono ?_;rintro e w' ⟨v,Y,rfl,rfl,hE,hIY,hv⟩;have hYl:Y.κ.length=bs'.length:=hIY.κlen;have hYκ: ∀i (hi:i<js.length) b,Y.κ[i]? =some b->X.κ[js[i]]? =some b:=fun i hi b hb=>by
  obtain⟨b0,h0⟩: ∃b0,κ0[i]? =some b0:=⟨_,getElem?_eq_getElem (by omega)⟩;have:=hE.κ i b0 h0;rw[hb] at this;cases this;exact hκ0 i hi b h0
 have hYnew: ∀i b:Nat,js.length<=i->Y.κ[i]? =some b->b∉κ0->X.w.heap.size<=b:=fun i b hi hb hn=>by
  rcases hE.κnew b (mem_of_getElem? hb) with h|h
  ·exact absurd h hn
  ·exact h
 have hblk: ∀b,b<X.w.heap.size->b∉κ0->Y.w.heap[b]? =X.w.heap[b]? :=fun b hb hn=>hE.frame b hb hn (by simp[X0]);have hFn: ∀b' i,Y.F b' i->X.F b' i \/X.w.heap.size<=b' \/b'∈κ0:=fun b' i hf=>by
  rcases hE.Fnew b' i hf with h|h|⟨q,hq,_⟩|h
  ·exact .inl h
  ·exact .inr (.inl h)
  ·simp[X0] at hq
  ·exact .inr (.inr h)
 let K:List Nat:=X.κ++Y.κ.drop js.length
 let Z:Cx:=⟨Y.F,K,X.β,X.lens,Y.w,X.O,X.C⟩
 have hKo: ∀s b:Nat,X.κ[s]? =some b->K[s]? =some b:=fun s b hs=>by
  show(X.κ++_)[s]? =some b
  rw[getElem?_append_left (List.getElem?_eq_some_iff.1 hs).1];exact hs
 have hKi: ∀s b:Nat,K[s]? =some b->(s<τ.boxes.length/\ X.κ[s]? =some b) \/(τ.boxes.length<=s/\ Y.κ[js.length+(s-τ.boxes.length)]? =some b):=fun s b hs=>by
  have hs:(X.κ++Y.κ.drop js.length)[s]? =some b:=hs;rcases lt_or_ge s X.κ.length with hlt|hge
  ·rw[getElem?_append_left hlt] at hs;exact .inl ⟨by omega,hs⟩
  ·rw[List.getElem?_append_right hge,List.getElem?_drop,hXl] at hs;exact .inr ⟨by omega,hs⟩
 have hKf: ∀i b:Nat,Y.κ[i]? =some b->K[fwN js τ.boxes.length i]? =some b:=fun i b hb=>by
  rcases lt_or_ge i js.length with hlt|hge
  ·rw[z1p hlt];exact hKo _ b (hYκ i hlt b hb)
  ·rw[qod hge]
   show(X.κ++Y.κ.drop js.length)[_]? =some b
   rw[List.getElem?_append_right (by omega),List.getElem?_drop,show js.length+(τ.boxes.length+(i-js.length)-X.κ.length)=i by omega];exact hb
 have hg1:(∀s off v,Rep IT Y (.ptr s off) v->Rep IT Z ((fwz js τ.boxes.length).1 s off) v)/\ ∀s off n sz f v,Rep IT Y (.bsl s off n sz f) v->Rep IT Z ((fwz js τ.boxes.length).2 s off n sz) v:=by
  refine⟨?_,?_⟩
  ·rintro s off v ⟨b,hb,rfl⟩;exact⟨b,hKf s b hb,rfl⟩
  ·rintro s off n sz f v ⟨b,cap,cur,t,hb,rfl,hcap,hful,hrow,hfit⟩;exact⟨b,cap,cur,t,hKf s b hb,rfl,hcap,(fun h=>by cases h),hrow,hfit⟩
 have hrep:=zkm (X:=Y) (Y:=Z) (m:=0) hIT (fun _ _ h=>h) rfl (fun s hs=>by omega) hg1;have hrepL:=zdb (X:=Y) (Y:=Z) (m:=0) hIT (fun _ _ h=>h) rfl (fun s hs=>by omega) hg1
 have hX:Ext X Z:={
  os:=hE.os,tape:=hE.tape,output:=hE.output,size:=hE.size,drawn:=hE.drawn,F:=hE.F,cell:=hE.cell
  κ:=hKo
  lens:=fun s L h=>⟨L,h,le_refl _,fun _=>rfl⟩
  blk:=fun s' b' hs cur' t' f' hc=>by
   by_cases e:b'∈κ0
   ·obtain⟨i,hi⟩:=List.mem_iff_getElem?.1 e;exact hE.blk i b' hi cur' t' f' hc
   ·exact⟨cur',(hblk b' (hI.κlt (mem_of_getElem? hs)) e).trans hc,rfl⟩
  szs:=hE.szs
  frame:=fun b' hb' hk _=>hblk b' hb' fun e=>hk (hκm b' e)
  κnew:=fun b hb=>by
   obtain⟨s,hs⟩:=List.mem_iff_getElem?.1 hb;rcases hKi s b hs with⟨_,h⟩|⟨_,h⟩
   ·exact .inl (mem_of_getElem? h)
   ·by_cases e:b∈κ0
    ·exact .inl (hκm b e)
    ·exact .inr (hYnew _ b (by omega) h e)
  βnew:=fun r h=> .inl ⟨r,h,rfl⟩
  O:=rfl
  C:=rfl
  Fnew:=fun b' i hf=>by
   rcases hFn b' i hf with h|h|h
   ·exact .inl h
   ·exact .inr (.inl h)
   ·exact .inr (.inr (.inr (hκm b' h)))}
 -- a box of the others that says one of these blocks is empty
 have hdead: ∀(s':Nat) (t':TypeId) (c':List AV) (b:Nat),b∈κ0->X.κ[s']? =some b->s'∉js->τ.boxes[s']? =some (t',c')->c'=[]:=fun s' t' c' b hb h1 h2 h3=>by
  obtain⟨i,hi⟩:=List.mem_iff_getElem?.1 hb;have hl2:i<js.length:=by rw[<-hκ0l];exact(List.getElem?_eq_some_iff.1 hi).1
  obtain⟨t1,C,a1,_,a4⟩:=hjs i hl2;have hne:s'≠js[i]:=fun e=>h2 (e▸List.getElem_mem hl2);rcases hI.κnd s' _ b h1 (hκ0 i hl2 b hi) hne with⟨t2,h4⟩|⟨t2,h4⟩
  ·rw[h3] at h4;cases h4;rfl
  ·rw[a1] at h4;cases h4;exact absurd rfl a4
 have hmap_ne: ∀(cs:List AV),zx 0 (fwz js τ.boxes.length) cs≠[]->cs≠[]:=fun cs h e=>h (by rw[e,zx])
 -- the boxes behind it, by their numbers
 have new: ∀(s b:Nat) (t:TypeId) (cs:List AV),K[s]? =some b->τ'.boxes[s]? =some (t,cs)->(s<τ.boxes.length/\ s∉js/\ X.κ[s]? =some b/\ τ.boxes[s]? =some (t,cs)) \/(∃i c,s=fwN js τ.boxes.length i/\ Y.κ[i]? =some b/\ bs'[i]? =some (t,c)/\ cs=zx 0 (fwz js τ.boxes.length) c):=fun s b t cs hs hb'=>by
  rcases hKi s b hs with⟨hlt,h⟩|⟨hge,h⟩
  ·by_cases hm:s∈js
   ·right
    have hlt2:=List.idxOf_lt_length_of_mem hm;have hs2:js[js.idxOf s]=s:=List.getElem_idxOf hlt2;have hi2:js.idxOf s<bs'.length:=by omega
    refine⟨js.idxOf s,bs'[js.idxOf s].2,by rw[z1p hlt2,hs2],?_,?_,?_⟩
    ·have:κ0[js.idxOf s]? =some b:=hκ0i _ hlt2 b (by rw[hs2];exact h);exact hE.κ _ b this
    ·have h1:=hb1 (js.idxOf s) bs'[js.idxOf s].1 bs'[js.idxOf s].2 (getElem?_eq_getElem hi2);rw[z1p hlt2,hs2,hb'] at h1;cases h1;exact getElem?_eq_getElem hi2
    ·have h1:=hb1 (js.idxOf s) bs'[js.idxOf s].1 bs'[js.idxOf s].2 (getElem?_eq_getElem hi2);rw[z1p hlt2,hs2,hb'] at h1;cases h1;rfl
   ·left
    rw[hb2 s hlt hm] at hb';exact⟨hlt,hm,h,hb'⟩
  ·right
   have hi2:js.length+(s-τ.boxes.length)<bs'.length:=by
    have:=(List.getElem?_eq_some_iff.1 h).1;omega
   have hfs:fwN js τ.boxes.length (js.length+(s-τ.boxes.length))=s:=by rw[qod (by omega)];omega
   have h1:=hb1 _ _ _ (getElem?_eq_getElem hi2);rw[hfs,hb'] at h1;cases h1;exact⟨_,_,hfs.symm,h,getElem?_eq_getElem hi2,rfl⟩
 have get': ∀s b:Nat,K[s]? =some b-> ∃t cs,τ'.boxes[s]? =some (t,cs):=fun s b hs=>by
  have h1:=(List.getElem?_eq_some_iff.1 hs).1;have h1:s<(X.κ++Y.κ.drop js.length).length:=h1;rw[List.length_append,List.length_drop] at h1;exact⟨_,_,getElem?_eq_getElem (by omega)⟩
 refine⟨v,Z,rfl,rfl,hX,{lens:=hI.lens.trans hl.symm,elems:=hI.elems.trans he.symm,κlen:= ?_,κnd:= ?_,box:= ?_,κF:= ?_,βlen:=hI.βlen,βnd:=hI.βnd,βκ:= ?_,row:= ?_,Ok:= ?_,Fcell:=hIY.Fcell,gv:=hIY.gv},hr0▸hrep r0 v hv⟩
 ·show(X.κ++Y.κ.drop js.length).length=_
  rw[List.length_append,List.length_drop,hlen];omega
 ·intro s1 s2 b1 h1 h2 h3;obtain⟨t1,c1,g1⟩:=get' s1 b1 h1;obtain⟨t2,c2,g2⟩:=get' s2 b1 h2
  show(∃t,τ'.boxes[s1]? =some (t,[])) \/ ∃t,τ'.boxes[s2]? =some (t,[])
  rcases new s1 b1 t1 c1 h1 g1 with⟨p1,p2,p3,p4⟩|⟨i1,e1,p1,p2,p3,p4⟩<;>rcases new s2 b1 t2 c2 h2 g2 with⟨q1,q2,q3,q4⟩|⟨i2,e2,q1,q2,q3,q4⟩
  ·rcases hI.κnd s1 s2 b1 p3 q3 h3 with⟨t,h⟩|⟨t,h⟩
   ·rw[p4] at h;cases h;exact .inl ⟨_,g1⟩
   ·rw[q4] at h;cases h;exact .inr ⟨_,g2⟩
  ·left
   by_cases e:b1∈κ0
   ·have:=hdead s1 t1 c1 b1 e p3 p2 p4;subst this;exact⟨_,g1⟩
   ·have hge:js.length<=i2:=Nat.le_of_not_lt fun hlt=>e (by
     obtain⟨b0,h0⟩: ∃b0,κ0[i2]? =some b0:=⟨_,getElem?_eq_getElem (by omega)⟩;have:=hE.κ i2 b0 h0;rw[q2] at this;cases this;exact mem_of_getElem? h0)
    have:=hYnew i2 b1 hge q2 e;have:=hI.κlt (mem_of_getElem? p3);omega
  ·right
   by_cases e:b1∈κ0
   ·have:=hdead s2 t2 c2 b1 e q3 q2 q4;subst this;exact⟨_,g2⟩
   ·have hge:js.length<=i1:=Nat.le_of_not_lt fun hlt=>e (by
     obtain⟨b0,h0⟩: ∃b0,κ0[i1]? =some b0:=⟨_,getElem?_eq_getElem (by omega)⟩;have:=hE.κ i1 b0 h0;rw[p2] at this;cases this;exact mem_of_getElem? h0)
    have:=hYnew i1 b1 hge p2 e;have:=hI.κlt (mem_of_getElem? q3);omega
  ·have hne:i1≠i2:=fun e=>h3 (by rw[p1,q1,e]);rcases hIY.κnd i1 i2 b1 p2 q2 hne with⟨t,h⟩|⟨t,h⟩
   ·have h:bs'[i1]? =some (t,[]):=h;rw[p3] at h;cases h;exact .inl ⟨t1,by rw[g1,p4,zx]⟩
   ·have h:bs'[i2]? =some (t,[]):=h;rw[q3] at h;cases h;exact .inr ⟨t2,by rw[g2,q4,zx]⟩
 ·intro s b t cs hs hb';rcases new s b t cs hs hb' with⟨p1,p2,p3,p4⟩|⟨i,c,p1,p2,p3,p4⟩
  ·obtain⟨us1,zs1,v1,v2,v3⟩:=hI.box s b t cs p3 p4;by_cases e:b∈κ0
   ·obtain rfl:=hdead s t cs b e p3 p2 p4;obtain⟨i,hi⟩:=List.mem_iff_getElem?.1 e;obtain⟨cur',k1,k2⟩:=hE.blk i b hi _ _ _ v1;exact⟨[],cur'.toList,by simpa using k1,rfl,fun v hv=>by cases hv⟩
   ·exact⟨us1,zs1,(hblk b (hI.κlt (mem_of_getElem? p3)) e).trans v1,zam hIT hX _ _ v2,v3⟩
  ·obtain⟨us,zs,q1,q2,q3⟩:=hIY.box i b t c p2 p3;exact⟨us,zs,q1,p4▸hrepL c us q2,q3⟩
 ·intro s b t cs hs hb' hne' o hf;rcases new s b t cs hs hb' with⟨p1,p2,p3,p4⟩|⟨i,c,p1,p2,p3,p4⟩
  ·rcases hFn b o hf with h|h|h
   ·exact hI.κF s b t cs p3 p4 hne' o h
   ·have:=hI.κlt (mem_of_getElem? p3);omega
   ·exact hne' (hdead s t cs b h p3 p2 p4)
  ·exact hIY.κF i b t c p2 p3 (hmap_ne c (p4▸hne')) o hf
 ·intro r hr2 hm;obtain⟨s,hs⟩:=List.mem_iff_getElem?.1 hm;rcases hKi s _ hs with⟨_,h⟩|⟨_,h⟩
  ·exact hI.βκ r hr2 (mem_of_getElem? h)
  ·by_cases e:r.block∈κ0
   ·exact hI.βκ r hr2 (hκm _ e)
   ·have:=hYnew _ _ (by omega) h e;have:=hI.βlt hr2;omega
 ·intro s' q L hq hL;obtain⟨cur',fz,c1,c2,c3,c4,c5,c6,c7⟩:=hI.row s' q L hq hL;have hlt:=hI.βlt (mem_of_getElem? hq);have hnb:q.block∉κ0:=fun e=>hI.βκ q (mem_of_getElem? hq) (hκm _ e);refine⟨cur',fz,(hblk _ hlt hnb).trans c1,c2,c3,c4,c5,fun o hf=> ?_,c7⟩;rcases hFn _ o hf with h|h|h
  ·exact c6 o h
  ·omega
  ·exact absurd h hnb
 ·intro b' ho;obtain⟨⟨cs0,t0,f0,h0⟩,h2,h3,h4⟩:=hI.Ok b' ho;have hlt:=hI.Olt ho;have hnb:b'∉κ0:=fun e=>h2 (hκm _ e);refine⟨⟨cs0,t0,f0,(hblk b' hlt hnb).trans h0⟩,fun hm=> ?_,h3,fun o hf=> ?_⟩
  ·obtain⟨s,hs⟩:=List.mem_iff_getElem?.1 hm;rcases hKi s _ hs with⟨_,h⟩|⟨_,h⟩
   ·exact h2 (mem_of_getElem? h)
   ·have:=hYnew _ _ (by omega) h hnb;omega
  ·rcases hFn b' o hf with h|h|h
   ·exact h4 o h
   ·omega
   ·exact absurd h hnb
variable {P:Program} {U:St}
theorem zoz (hmix:P.follows .mixedOrders=true) {f:FuncId} {fn:Func} {c:Code} {args S1:List AV} {U U1:St} {Q:AQ} {X:Cx} {vs:List Value} {R:Ending->World->Prop} {M:Option Gen} (hG:zuc P X.w.heap.size M)(hf:P.funcs[f]? =some fn)(hb:fn.body=some c)
 {k0:Nat} (hk0:U.boxes.length=k0) (hwk:Wk k0 (zai fn args) U S1 U1) (h:awp (ITP P) P (zdu M) k0 c Q S1 U1) (hI:Inv (ITP P) U X) (hM:FrM M U X) (hr:zbf (ITP P) X args vs)
 (hQ: ∀e S U' Y,Q e S U'->Rel M X Y->Inv (ITP P) U' Y->FrM M U' Y->(e= .normal \/e= .ret)/\ ∃a,zap P fn U' S=some a/\ ∀v,Rep (ITP P) Y a v->R (.returned v) Y.w):Calls P f vs.toArray X.w R:=by
 refine(callsIn_wide (n:=3)).1 (callsIn_of_wp_marks hf hb trivial ?_ rfl);have hlen:=zq hr;have hreps:znc (ITP P) X (zai fn args) (vs.toArray++Array.replicate (fn.ntmps-vs.toArray.size) undef):=by
  unfold znc zai;have e:(vs.toArray++Array.replicate (fn.ntmps-vs.toArray.size) undef).toList=vs++List.replicate (fn.ntmps-args.length) undef:=by simp[hlen]
  rw[e];refine zbm hr (zfw (by simp) fun i a v h1 h2=> ?_);have h1:=List.eq_of_mem_replicate (mem_of_getElem? h1);have h2:=List.eq_of_mem_replicate (mem_of_getElem? h2);subst h1 h2;rw[Rep]
 obtain⟨X1,hX1,hn1⟩:=z2p (M:=M) (ze P) (F:=Fence.wide) (B:=X.w.heap.size) (a:={tmps:=vs.toArray++Array.replicate (fn.ntmps-vs.toArray.size) undef,defers:=[]}) (Nat.le_of_eq (hI.κlen.trans hk0)) hwk
  ⟨Rel.of (Ext.refl X),hI,hreps,⟨le_refl _,fun _=>⟨le_refl _,[],rfl,List.nodup_nil,by simp⟩,fun h=>absurd rfl h⟩,hM⟩
 rw[<-hX1];refine zvs hmix c (M:=M) (B:=X.w.heap.size) hG (zrv P) k0 Q _ U1 X X1 {tmps:=vs.toArray++Array.replicate (fn.ntmps-vs.toArray.size) undef,defers:=[]} _ (Nat.le_of_eq (hI.κlen.trans hk0)) ⟨le_refl _,U,hI⟩ h hn1 (.inl (.inl rfl)) ?_;intro e S U' Y a hq hn;obtain⟨_,Ds,d1,d2,d3⟩:=hn.marks.2.1 rfl;have key:(e= .normal \/e= .ret)/\ LeavesInM Fence.wide 3 P fn a.tmps R a.defers .returning Y.w:=by
  obtain⟨he,_⟩:=hQ e S U' Y hq hn.ext hn.inv hn.frn;refine⟨he,?_⟩;rw[d1];refine zln (B:=X.w.heap.size) Ds Y.w d2 d3 fun W' hT=> ?_;obtain⟨k1,k2,k3,_,k5⟩:=zlg (N:=fun _=>False) (NB:=fun _=>False) (Bm:=X.w.heap.size) hG (le_refl _) (fun _ h=>h.elim) (RelB.of hn.ext) hn.inv hn.frn (zkw M Y) (le_refl _) (zjt hn.inv (zkw M Y) hn.ext.size hT);obtain⟨_,x,hx,hv⟩:=hQ e S U' _ hq (k1.to fun _ h=>h.elim) k2 k3;obtain⟨v,r1,r2⟩:=znj (P:=P) (fn:=fn) hx (show znc (ITP P) {Y with w:=W'} S a.tmps from zbu (ze P) k5 _ _ hn.reps) k2;exact⟨v,r1,hv v r2⟩
 obtain⟨he,hl⟩:=key;rcases he with rfl|rfl<;>exact hl
theorem qes (hmix:P.follows .mixedOrders=true) {f:FuncId} {fn:Func} {c:Code} {args S1:List AV} {U U1 U':St} {r:AV} (hf:P.funcs[f]? =some fn)(hb:fn.body=some c)(he:Ent P f)(hwk:Wk U.boxes.length (zai fn args) U S1 U1)
 (h:awp (ITP P) P none U.boxes.length c (qlq P fn U.boxes.length U.lens.length r U') S1 U1):Snd (ITP P) P f args U r U':=by
 refine⟨he,fun X vs hI hr=>zoz (M:=none) hmix trivial hf hb rfl hwk h hI trivial hr ?_⟩;intro e S U1 Y hq (hE:Ext X Y) hIY _;have hκn:=hI.κlen
 have fin: ∀a,zap P fn U1 S=some a->z3w P U.boxes.length U.lens.length U1 a r U'-> ∃a,zap P fn U1 S=some a/\ ∀v,Rep (ITP P) Y a v->
  ∃v' X',Ending.returned v= .returned v'/\ X'.w=Y.w/\ Ext X X'/\ Inv (ITP P) U' X'/\ Rep (ITP P) X' r v':=fun a h1 h2=>⟨a,h1,fun v hv=>by
  obtain⟨X',k1,k2,k3,k4⟩:=h2 X Y v hE hκn (by rw[hI.lens]) hIY hv;exact⟨v,X',rfl,k1,k2,k3,k4⟩⟩
 cases e with
 |normal=>obtain⟨a,h1,h2⟩:=hq;exact⟨.inl rfl,fin a h1 h2⟩
 |ret=>obtain⟨a,h1,h2⟩:=hq;exact⟨.inr rfl,fin a h1 h2⟩
 |exit id=>exact hq.elim
theorem z4b (hmix:P.follows .mixedOrders=true) {g:FuncId} {fn:Func} {c:Code} {caps:List AV} {bs bs':List (TypeId×List AV)} {rows:List (List AV)} (hf:P.funcs[g]? =some fn)(hb:fn.body=some c)
    (h: ∀G:Gen,G.rows=rows-> ∃S1 U1,Wk bs.length (zai fn (.yld G.l::caps)) ⟨bs,[],[],0,false⟩ S1 U1/\ awp (ITP P) P (some G) bs.length c (aendGS P fn rows.length bs.length bs') S1 U1):qcf P g caps bs rows bs':=by
  intro F0 w0 O C κ0 lb hgv hκl hnd hbox hnF hcaps hcell l W J Jx s0 hc hz hsz hN hG hF0 hO hC hJ;have hheap: ∀b∈κ0,W.heap[b]? =w0.heap[b]? :=fun b hb=>(hN b hb).1;have hsub:Sub ⟨F0,κ0,[],[],w0,O,C⟩ ⟨F0,κ0,[],[],W,s0.O,s0.C⟩:=⟨fun _ _ h=>h,fun b o hf=>(hc b o hf).2,fun s b h=>h,fun s L h=>by simp at h,fun s b h cur t f e=>⟨cur,(hheap b (mem_of_getElem? h)).trans e,rfl⟩,hz⟩
  have hI:Inv (ITP P) ⟨bs,[],[],0,false⟩ ⟨F0,κ0,[],[],W,s0.O,s0.C⟩:=
    { lens:=rfl,elems:=rfl,κlen:=hκl
      κnd:=fun s s' b' h1 h2 hne=>by
        obtain⟨k1,e1⟩:=List.getElem?_eq_some_iff.1 h1;obtain⟨k2,e2⟩:=List.getElem?_eq_some_iff.1 h2;exact absurd ((List.getElem_inj hnd).1 (e1.trans e2.symm)) hne
      box:=fun s b t cs h1 h2=>by
        obtain⟨vs,zs,u1,u2,u3⟩:=hbox s b t cs h1 h2;exact⟨vs,zs,(hheap b (mem_of_getElem? h1)).trans u1,zbu (ze P) hsub _ _ u2,u3⟩
      κF:=fun s b t cs h1 _ _ o=>hnF b (mem_of_getElem? h1) o
      βlen:=rfl,βnd:=List.nodup_nil,βκ:=fun r h=>by simp at h
      row:=fun s r L h=>by simp at h
      Ok:=fun b hb=>⟨hO b hb,fun hm=>(hN b hm).2.1 hb,by simp,fun o hf=>(hF0 b o hf).resolve_left (fun h=>h hb)⟩
      Fcell:=fun b o hf=>(hc b o hf).1
      gv:=(ze P).gv _ _ _ _ (fun _ _ h=>h) (fun b o hf=>(hc b o hf).2) hz hgv}
  have hr':zbf (ITP P) ⟨F0,κ0,[],[],W,s0.O,s0.C⟩ (.yld l::caps) (.func (.yield l) #[] #[]::lb):=⟨_,_,rfl,rfl,zbu (ze P) hsub _ _ hcaps⟩
  have hFr:FrM (some ⟨W.heap.size,F0,l,rows,J,Jx,fun k=>k∈κ0⟩) ⟨bs,[],[],0,false⟩ ⟨F0,κ0,[],[],W,s0.O,s0.C⟩:=
    ⟨s0,fun _=>Iff.rfl,⟨fun _ _=>Iff.rfl,fun b' o hc'=> .inr ⟨hC b' o hc',fun hm=>(hN b' hm).2.2 o hc',by simp⟩⟩,hJ,le_refl _,fun b' hm=> .inr hm,by simp,fun b o hf=> .inl hf⟩
  have e:(#[.func (.yield l) #[] #[]]++lb.toArray:Array Value)=(Value.func (.yield l) #[] #[]::lb).toArray:=by simp
  rw[e];obtain⟨S1,U1,hwk0,hawp⟩:=h ⟨W.heap.size,F0,l,rows,J,Jx,fun k=>k∈κ0⟩ rfl;refine zoz (M:=some ⟨W.heap.size,F0,l,rows,J,Jx,fun k=>k∈κ0⟩) (X:=⟨F0,κ0,[],[],W,s0.O,s0.C⟩) hmix ⟨hG,le_refl _⟩ hf hb (k0:=bs.length) rfl hwk0 hawp hI hFr hr' ?_;intro e S U' Y hq hE hIY hF;have fin:(∃a,zap P fn U' S=some a)/\ (U'.stop=true \/(U'.out=rows.length/\ ∃U2,Wk bs.length [] U' [] U2/\ U2.boxes=bs'/\ (bs'.all fun b=>zhg b.2)=true))-> ∃a,zap P fn U' S=some a/\ ∀v,Rep (ITP P) Y a v->(∃v',Ending.returned v= .returned v')/\ ∃s,(J rows.length s Y.w/\ qfq P κ0 bs' w0.heap.size s Y.w) \/Jx s Y.w:=fun⟨⟨a,h1⟩,h2⟩=>by
    refine⟨a,h1,fun v _=>⟨⟨v,rfl⟩,?_⟩⟩;by_cases hst:U'.stop=true
    . obtain⟨s,_,_,h3,_⟩:Fr _ U' Y:=hF
      rw[if_pos hst] at h3;exact⟨s,.inr h3⟩
    obtain⟨hout,U2,hwk,hbs,hflat⟩:=h2.resolve_left hst
    obtain⟨X',hw,hn⟩:=z2p (M:=some ⟨W.heap.size,F0,l,rows,J,Jx,fun k=>k∈κ0⟩) (ze P) (F:=Fence.wide.inRound 0) (B:=0) (a:={tmps:= #[],defers:=[]}) (Nat.le_of_eq hκl) hwk
      ⟨hE,hIY,by unfold znc;rw[zbf],⟨Nat.zero_le _,fun h=>absurd h (zmm 0),fun _=>rfl⟩,hF⟩
    have hE':ExtG W.heap.size ⟨F0,κ0,[],[],W,s0.O,s0.C⟩ X':=hn.ext;obtain⟨s,f1,f2,f3,f4,f5,f6,f7⟩:Fr ⟨W.heap.size,F0,l,rows,J,Jx,fun k=>k∈κ0⟩ U2 X':=hn.frn;obtain⟨o1,o2⟩:=wk_out hwk;rw[if_neg (by rw[o2];exact hst),o1,hout] at f3;refine⟨s,.inl ⟨hw▸f3,?_⟩⟩;have hI2:=hn.inv;refine⟨X'.κ,by rw[hI2.κlen,hbs],fun i b h=>hE'.κ i b h,fun i j b h1 h2 h3=>by rw[<-hbs];exact hI2.κnd i j b h1 h2 h3,fun b hb=>⟨(hE'.κnew b hb).imp id (fun h=>Nat.le_trans hsz h),fun ho=>(hI2.Ok b ((f1 b).1 ho)).2.1 hb⟩,fun i b t cs h1 h2=> ?_⟩;have h2':U2.boxes[i]? =some (t,cs):=by rw[hbs];exact h2
    obtain⟨vs,zs,u1,u2,u3⟩:=hI2.box i b t cs h1 h2';have hfl:zhg cs=true:=List.all_eq_true.1 hflat (t,cs) (mem_of_getElem? h2);refine⟨⟨vs,zs,hw▸u1,z3a (X:=X') (Y:=⟨fun _ _=>False,X'.κ,[],[],Y.w,fun _=>False,fun _ _=>False⟩) rfl hw.symm cs vs hfl u2,u3⟩,fun hne o hC'=> ?_⟩;rcases f2.2 b o hC' with h|⟨_,h,_⟩
    . exact hI2.κF i b t cs h1 h2' hne o h
    . exact h (mem_of_getElem? h1)
  cases e with
  |normal=>exact⟨.inl rfl,fin hq⟩
  |ret=>exact⟨.inr rfl,fin hq⟩
  |exit id=>exact hq.elim
theorem qlx {f:FuncId} {args:List AV} {U1 U2:St} {r r2:AV} (h:Snd (ITP P) P f args U r U1)(hp:z3w P U.boxes.length U.lens.length U1 r r2 U2):Snd (ITP P) P f args U r2 U2:=
 ⟨h.1,fun X vs hI hr=>(h.2 X vs hI hr).mono fun e w' ⟨v,Y,h1,h2,h3,h4,h5⟩=>by
  obtain⟨X',k1,k2,k3,k4⟩:=hp X Y v h3 hI.κlen (by rw[hI.lens]) h4 h5;exact⟨v,X',h1,k1.trans h2,k2,k3,k4⟩⟩
theorem zqt {n n' m:Nat} {U':St} {a r:AV} (fs js:List Nat)(d:Nat)(hn':n<=n')(hok:zcu U n' js=true)(hr:zhq m (kz U.boxes m n' fs js d) a=r)(hσ:zeo U m n' fs js d=U'):z3w P n m U a r U':=fun X Y v hE hn hm hI hv=>by
 subst hr hσ;exact⟨zcx U m n' fs js Y,rfl,zsi hE hI hok (by omega) (by omega),zsl (ze P) hI hok d,zkm (X:=Y) (Y:=zcx U m n' fs js Y) (ze P) (fun b o h=>Or.inl h) rfl zic (zpm (ze P) hI hok d) _ _ hv⟩
variable {g:FZ} {k':Nat} {P:Program}
abbrev Stk:=Option (Int×List Int)
def stkL:Stk->List Int
 |none=>[]
 |some (j,[])=>[j]
 |some (_,a::l)=>a::l
def zdh:Stk->List Int
 |none=>[]
 |some (_,l)=>l
def zbb (b:Nat):Stk->AV
 |none=> .list 0 [] .full
 |some (_,l)=> .bsl b 0 l.length 1 false
abbrev tyR:TypeId:=110
abbrev tyI:TypeId:=3
def zh:Stk->TypeId×List AV
 |none=>(tyR,[])
 |some q=>(tyI,Enc.cellsL (stkL (some q)))
structure Rd where
 s:List UInt8
 a:Int
 e:Int
 q:Stk
def rdC (k:Nat)(r:Rd):List AV:=[.raw (.string (bs r.s)),.raw (.int .i64 r.a),.raw (.int .i64 r.e),zbb k r.q]
def rdB (k:Nat)(q:Stk)(r:Rd):List (TypeId×List AV):=[(tyR,rdC k r),((zh q).1,[]),zh r.q]
def rdS (q:Stk)(r:Rd):St:=⟨rdB 2 q r,[],[],0,false⟩
def rdAft (τ:St)(k:Nat)(q0:Stk)(r':Rd):St:={τ with boxes:=((τ.boxes.set 0 (tyR,rdC τ.boxes.length r')).set k ((zh q0).1,[]))++[zh r'.q]}
def RdC (P:Program)(f:FuncId)(args:List AV)(r:Rd)(v:AV)(r':Rd):Prop:=
 ∀(τ:St) (k:Nat),0<k->τ.boxes[0]? =some (tyR,rdC k r)->τ.boxes[k]? =some (zh r.q)->Snd (ITP P) P f (.ptr 0 0::args) τ v (rdAft τ k r.q r')
def qnb (P:Program)(fn:Func)(q:Stk)(v:AV)(r':Rd):AQ
 | .exit _,_,_=>False
 |_,S,U=> ∃a,zap P fn U S=some a/\ ∃js d,zcu U 2 js=true/\ zhq 0 (kz U.boxes 0 2 [] js d) a=v/\ zeo U 0 2 [] js d=rdS q r'
theorem qmu (q:Stk):cloL (zh q).2=true:=by
 cases q with
 |none=>rfl
 |some q=>exact Enc.cloL _
theorem zp (m:Nat)(g:FZ)(q:Stk):zx m g (zh q).2=(zh q).2:=zal m g _ (qmu q)
theorem z1b (q:Int×List Int):(zh (some q)).2≠[]:=by
 obtain⟨j,l⟩:=q;cases l<;>simp[zh,stkL,Enc.cons,Enc.cells]
theorem zep {m:Nat} {k:Nat} (r:Rd)(h: ∀n,g.2 k 0 n 1= .bsl k' 0 n 1 false):zx m g (rdC k r)=rdC k' r:=by
 obtain⟨s,a,e,q⟩:=r;cases q with
 |none=>rfl
 |some q=>simp only[rdC,zbb,zx,zhq,h]
theorem zml {k:Nat} {r:Rd} (h:r.q=none):rdC k r=rdC k' r:=by simp only[rdC,h,zbb]
theorem z2k (n:Nat):cloL (List.replicate n (AV.raw undef))=true:=by
 induction n with
 |zero=>rfl
 |succ n ih=>rw[List.replicate_succ,cloL,ih];rfl
theorem z6r {m:Nat} {fn:Func} {args:List AV} (hg:g.1 0 0= .ptr 0 0)(h:cloL args=true):zx m g (zai fn (.ptr 0 0::args))=zai fn (.ptr 0 0::args):=by
 unfold zai;rw[cons_append,zx,zhq,hg,zal m g _ (by rw[zfk,h,z2k];rfl)]
theorem mv_rd (r:Rd):qor 1 (zh r.q).1 (zh r.q).2 ⟨[(tyR,rdC 1 r),zh r.q],[],[],0,false⟩=rdS r.q r:=by
 show St.mk [(tyR,zx _ _ (rdC 1 r)),((zh r.q).1,[]),((zh r.q).1,zx _ _ (zh r.q).2)] _ _ _ _=_;rw[zp,zep (k':=2) r fun n=>rfl];rfl
theorem qkv {f:FuncId} {args:List AV} {r r':Rd} {v:AV} {q:Int×List Int} (hq:r.q=some q)(hargs:cloL args=true)(hv: ∀(m:Nat)(g:FZ),g.1 0 0= .ptr 0 0->zhq m g v=v)
 (h:Snd (ITP P) P f (.ptr 0 0::args) ⟨[(tyR,rdC 1 r),zh r.q],[],[],0,false⟩ v (rdS r.q r')):RdC P f args r v r':=by
 intro τ k hk h0 h1;have hkl:=(List.getElem?_eq_some_iff.1 h1).1;have h0l:=(List.getElem?_eq_some_iff.1 h0).1;have hk0:k≠0:=by omega
 have i0:[0,k].idxOf 0=0:=by simp
 have ik:[0,k].idxOf k=1:=by
  have:(0==k)=false:=by simpa using Ne.symm hk0
  simp[List.idxOf_cons,this]
 refine z1k (ze P) [0,k] h ?_ (hv _ _ rfl) rfl (by simp;omega) (by simp[rdB]) ?_ ?_ ?_ ?_ rfl rfl
 ·rw[zx,zal _ _ _ hargs]
  show(if[0,k].contains 0 then AV.ptr ([0,k].idxOf 0) 0 else .top)::args=_
  simp[i0]
 ·intro i t cs hi
  match i,hi with
  |0,hi=>cases hi;exact⟨rdC k r,h0,zep r fun n=>by show(if[0,k].contains k then AV.bsl ([0,k].idxOf k) 0 n 1 false else .top)=_;simp[ik],by simp[rdC]⟩
  | 1,hi=>
   have hi:some (zh r.q)=some (t,cs):=hi;cases hi':zh r.q with
   | mk t' c'=>
    rw[hi'] at hi;cases hi;refine⟨cs,by rw[<-hi'];exact h1,?_,?_⟩
    ·have:=zp 0 (bwz [0,k]) r.q;rw[hi'] at this;exact this
    ·have:=z1b q;rw[<-hq,hi'] at this;exact this
  |i+2,hi=>cases hi
 ·intro i t cs hi;have e:(rdAft τ k r.q r').boxes=((τ.boxes.set 0 (tyR,rdC τ.boxes.length r')).set k ((zh r.q).1,[]))++[zh r'.q]:=rfl;rw[e]
  match i,hi with
  | 0,hi=>
   cases hi
   show(_++_:List _)[0]? =_
   rw[getElem?_append_left (by simp;omega),getElem?_set_ne hk0,getElem?_set_self h0l];rw[zep (k':=τ.boxes.length) r' fun n=>rfl]
  | 1,hi=>
   cases hi
   show(_++_:List _)[k]? =_
   rw[getElem?_append_left (by simp;omega),getElem?_set_self (by simp;omega),zx]
  | 2,hi=>
   have hi:some (zh r'.q)=some (t,cs):=hi
   show(_++_:List _)[τ.boxes.length]? =_
   rw[List.getElem?_append_right (by simp)];simp only[List.length_set,Nat.sub_self,List.getElem?_cons_zero];rw[hi];cases hx:zh r'.q with
   | mk t' c'=>
    rw[hx] at hi;cases hi;have:=zp 0 (fwz [0,k] τ.boxes.length) r'.q;rw[hx] at this;rw[this]
  |i+3,hi=>cases hi
 ·intro s hs hns
  show(_++_:List _)[s]? =_
  simp only[mem_cons,List.not_mem_nil,or_false,not_or] at hns;rw[getElem?_append_left (by simp;omega),getElem?_set_ne (Ne.symm hns.2),getElem?_set_ne (Ne.symm hns.1)]
 ·show(_++_:List _).length=_
  simp[rdS,rdB]
theorem qlj {f:FuncId} {args:List AV} {r r':Rd} {v:AV} (hq:r.q=none)(hargs:cloL args=true)(hv: ∀(m:Nat)(g:FZ),g.1 0 0= .ptr 0 0->zhq m g v=v)
 (h:Snd (ITP P) P f (.ptr 0 0::args) ⟨[(tyR,rdC 1 r)],[],[],0,false⟩ v ⟨[(tyR,rdC 1 r'),zh r'.q],[],[],0,false⟩):RdC P f args r v r':=by
 intro τ k hk h0 h1;have hkl:=(List.getElem?_eq_some_iff.1 h1).1;have h0l:=(List.getElem?_eq_some_iff.1 h0).1;have hk0:k≠0:=by omega
 have hX:zh r.q=((zh r.q).1,[]):=by rw[hq];rfl
 refine z1k (ze P) [0] h ?_ (hv _ _ rfl) rfl (by simp) (by simp) ?_ ?_ ?_ ?_ rfl rfl
 ·rw[zx,zal _ _ _ hargs];rfl
 ·intro i t cs hi
  match i,hi with
  |0,hi=>cases hi;exact⟨rdC k r,h0,by rw[zml (k:=k) (k':=0) hq];rw[zep (k':=0) r fun n=>rfl];exact zml hq,by simp[rdC]⟩
  |i+1,hi=>cases hi
 ·intro i t cs hi;have e:(rdAft τ k r.q r').boxes=((τ.boxes.set 0 (tyR,rdC τ.boxes.length r')).set k ((zh r.q).1,[]))++[zh r'.q]:=rfl;rw[e]
  match i,hi with
  | 0,hi=>
   cases hi
   show(_++_:List _)[0]? =_
   rw[getElem?_append_left (by simp;omega),getElem?_set_ne hk0,getElem?_set_self h0l];rw[zep (k':=τ.boxes.length) r' fun n=>rfl]
  | 1,hi=>
   have hi:some (zh r'.q)=some (t,cs):=hi
   show(_++_:List _)[τ.boxes.length]? =_
   rw[List.getElem?_append_right (by simp)];simp only[List.length_set,Nat.sub_self,List.getElem?_cons_zero];rw[hi];cases hx:zh r'.q with
   | mk t' c'=>
    rw[hx] at hi;cases hi;have:=zp 0 (fwz [0] τ.boxes.length) r'.q;rw[hx] at this;rw[this]
  |i+2,hi=>cases hi
 ·intro s hs hns
  show(_++_:List _)[s]? =_
  simp only[mem_cons,List.not_mem_nil,or_false] at hns;rw[getElem?_append_left (by simp;omega)];by_cases e:s=k
  ·subst e;rw[getElem?_set_self (by simp;omega),h1, <-hX]
  ·rw[getElem?_set_ne (Ne.symm e),getElem?_set_ne (Ne.symm hns)]
 ·show(_++_:List _).length=_
  simp
theorem qof (hmix:P.follows .mixedOrders=true) {f:FuncId} {fn:Func} {c:Code} {args:List AV} {r r':Rd} {v:AV} (hf:P.funcs[f]? =some fn)(hb:fn.body=some c)(he:Ent P f)(hargs:cloL args=true)(hv: ∀(m:Nat)(g:FZ),g.1 0 0= .ptr 0 0->zhq m g v=v)
 (h: ∀k0,k0<=2->awp (ITP P) P none k0 c (qnb P fn r.q v r') (zai fn (.ptr 0 0::args)) (rdS r.q r)):RdC P f args r v r':=by
 cases hq:r.q with
 | some q=>
  refine qkv hq hargs hv (qes hmix hf hb he (S1:=zai fn (.ptr 0 0::args)) (U1:=rdS r.q r) (qdk 1 (t:=(zh r.q).1) (cs:=(zh r.q).2) rfl (z6r rfl hargs) (mv_rd r).symm) (zcf c (fun e S U hq=> ?_) _ _ (h 2 (le_refl _))));cases e with
  |exit id=>exact hq
  |normal=>obtain⟨a,h1,js,d,h2,h3,h4⟩:=hq;exact⟨a,h1,zvq [] js d h2 h3 h4⟩
  |ret=>obtain⟨a,h1,js,d,h2,h3,h4⟩:=hq;exact⟨a,h1,zvq [] js d h2 h3 h4⟩
 | none=>
  refine qlj hq hargs hv (qlx (qes hmix hf hb he (S1:=zai fn (.ptr 0 0::args)) (U1:=rdS r.q r) (U':=rdS r.q r') (r:=v) ?_ (zcf c (fun e S U hq=> ?_) _ _ (h 1 (by omega)))) ?_)
  ·refine .step (S1:=zai fn (.ptr 0 0::args)) (.inr (.inr (.inl ⟨0,tyR,rdC 1 r,rfl,Fg.refl _,rfl⟩))) (.one (.inr (.inr (.inl ⟨0,tyR,rdC 1 r,rfl,Fg.refl _,?_⟩))));show rdS r.q r=St.mk [(tyR,rdC 1 r),(tyR,[]),(tyR,[])] [] [] 0 false;unfold rdS rdB;rw[zml (k:=2) (k':=1) hq,hq];rfl
  ·cases e with
   |exit id=>exact hq
   |normal=>obtain⟨a,h1,js,d,h2,h3,h4⟩:=hq;exact⟨a,h1,zqt [] js d (show 1<=2 by decide) h2 h3 h4⟩
   |ret=>obtain⟨a,h1,js,d,h2,h3,h4⟩:=hq;exact⟨a,h1,zqt [] js d (show 1<=2 by decide) h2 h3 h4⟩
  ·refine zqt (n:=1) (n':=1) (m:=0) [] [2] 0 (le_refl _) rfl (hv _ _ rfl) ?_;show St.mk [(tyR,zx _ _ (rdC 2 r')),((zh r'.q).1,zx _ _ (zh r'.q).2)] _ _ _ _=_;rw[zp,zep (k':=1) r' fun n=>rfl];rfl
theorem qci (hmix:P.follows .mixedOrders=true) {f:FuncId} {fn:Func} {c:Code} {args:List AV} {r r':Rd} {v:AV} (hf:P.funcs[f]? =some fn)(hb:fn.body=some c)(he:Ent P f)(hargs:cloL args=true)(hv:clo v=true)
 (h: ∀k0,k0<=2->awp (ITP P) P none k0 c (qnb P fn r.q v r') (zai fn (.ptr 0 0::args)) (rdS r.q r)):RdC P f args r v r':=qof hmix hf hb he hargs (fun m g _=>zo m g v hv) h
variable {P:Program}
def aendGR (P:Program)(fn:Func)(n:Nat)(q:Stk)(r':Rd):AQ
 | .exit _,_,_=>False
 |_,S,U=>(∃a,zap P fn U S=some a)/\ (U.stop=true \/(U.out=n/\ ∃js d,zcu U 2 js=true/\ zcd U.boxes U.lens.length 2 [] js d=rdB 2 q r'))
def RdIt (P:Program)(g:FuncId)(r:Rd)(rows:List (List AV))(r':Rd):Prop:=
 (∀q,r.q=some q->qcf P g [.iptr [.ptr 0 0]] [(tyR,rdC 1 r),zh r.q] rows (rdB 2 r.q r'))/\ (r.q=none->qcf P g [.iptr [.ptr 0 0]] [(tyR,rdC 1 r)] rows [(tyR,rdC 1 r'),zh r'.q])
theorem zwf: ∀l:List Int,zhg (Enc.cellsL l)=true
 |[]=>rfl
 |i::l=>by rw[Enc.cons];show zhg (AV.raw _::Enc.cellsL l)=true;rw[zhg,zwf l];rfl
theorem z7t (q:Stk):zhg (zh q).2=true:=by
 cases q with
 |none=>rfl
 |some q=>exact zwf _
theorem z7l (k:Nat)(r:Rd):zhg (rdC k r)=true:=by
 obtain⟨s,a,e,q⟩:=r;cases q<;>rfl
theorem z3j {m:Nat} {g:FZ} {fn:Func} {l:Nat} (hg:g.1 0 0= .ptr 0 0):zx m g (zai fn [.yld l,.iptr [.ptr 0 0]])=zai fn [.yld l,.iptr [.ptr 0 0]]:=by
 unfold zai;rw[cons_append,cons_append,nil_append,zx,zx,zhq,zhq,zx,zx,zhq,hg,zal m g _ (z2k _)]
theorem qme (hmix:P.follows .mixedOrders=true) {g:FuncId} {fn:Func} {c:Code} {r r':Rd} {rows:List (List AV)} (hf:P.funcs[g]? =some fn)(hb:fn.body=some c)
 (h: ∀G:Gen,G.rows=rows-> ∀k0,k0<=2->awp (ITP P) P (some G) k0 c (aendGR P fn rows.length r.q r') (zai fn [.yld G.l,.iptr [.ptr 0 0]]) (rdS r.q r)):RdIt P g r rows r':=by
 have hfl:(rdB 2 r.q r').all (fun b=>zhg b.2)=true:=by
  simp only[rdB,List.all_cons,List.all_nil,z7l,z7t,zhg,Bool.and_self]
 refine⟨fun q hq=>z4b hmix hf hb fun G hG=>⟨_,rdS r.q r,qdk 1 (t:=(zh r.q).1) (cs:=(zh r.q).2) rfl (z3j rfl) (mv_rd r).symm,zcf c (fun e S U hq=> ?_) _ _ (h G hG 2 (le_refl _))⟩,fun hq=>z4b hmix hf hb fun G hG=>⟨zai fn [.yld G.l,.iptr [.ptr 0 0]],rdS r.q r,?_,zcf c (fun e S U hq=> ?_) _ _ (h G hG 1 (by omega))⟩⟩
 ·have key:(∃a,zap P fn U S=some a)/\ (U.stop=true \/(U.out=rows.length/\ ∃js d,zcu U 2 js=true/\ zcd U.boxes U.lens.length 2 [] js d=rdB 2 r.q r'))->(∃a,zap P fn U S=some a)/\ (U.stop=true \/(U.out=rows.length/\ ∃U',Wk 2 [] U [] U'/\ U'.boxes=rdB 2 r.q r'/\ ((rdB 2 r.q r').all fun b=>zhg b.2)=true)):=fun⟨h1,h2⟩=>⟨h1,h2.imp id fun⟨h3,js,d,h4,h5⟩=>⟨h3,zeo U U.lens.length 2 [] js d,.one (.inr (.inl ⟨2,[],js,d,le_refl _,h4,trivial,rfl⟩)),h5,hfl⟩⟩;cases e with
  |exit id=>exact hq
  |normal=>exact key hq
  |ret=>exact key hq
 ·refine .step (S1:=zai fn [.yld G.l,.iptr [.ptr 0 0]]) (.inr (.inr (.inl ⟨0,tyR,rdC 1 r,rfl,Fg.refl _,rfl⟩))) (.one (.inr (.inr (.inl ⟨0,tyR,rdC 1 r,rfl,Fg.refl _,?_⟩))));show rdS r.q r=St.mk [(tyR,rdC 1 r),(tyR,[]),(tyR,[])] [] [] 0 false;unfold rdS rdB;rw[zml (k:=2) (k':=1) ‹r.q=none›, ‹r.q=none›];rfl
 ·have key:(∃a,zap P fn U S=some a)/\ (U.stop=true \/(U.out=rows.length/\ ∃js d,zcu U 2 js=true/\ zcd U.boxes U.lens.length 2 [] js d=rdB 2 r.q r'))->(∃a,zap P fn U S=some a)/\ (U.stop=true \/(U.out=rows.length/\ ∃U',Wk 1 [] U [] U'/\ U'.boxes=[(tyR,rdC 1 r'),zh r'.q]/\ ([(tyR,rdC 1 r'),zh r'.q].all fun b=>zhg b.2)=true)):=fun⟨h1,h2⟩=>⟨h1,h2.imp id fun⟨h3,js,d,h4,h5⟩=>by
   obtain⟨U1,hσ1⟩: ∃U1,zeo U U.lens.length 2 [] js d=U1:=⟨_,rfl⟩;have hb1:U1.boxes=rdB 2 r.q r':=by rw[<-hσ1];exact h5
   refine⟨h3,zeo U1 U1.lens.length 1 [] [2] 0,.step (S1:=[]) (.inr (.inl ⟨2,[],js,d,by decide,h4,trivial,hσ1⟩)) (.one (.inr (.inl ⟨1,[],[2],0,le_refl _,?_,trivial,rfl⟩))),?_,?_⟩
   ·unfold zcu;rw[hb1];rfl
   ·show zcd U1.boxes _ 1 [] [2] 0=_;rw[hb1]
    show[(tyR,zx _ _ (rdC 2 r')),((zh r'.q).1,zx _ _ (zh r'.q).2)]=_
    rw[zp,zep (k':=1) r' fun n=>rfl]
   ·simp only[List.all_cons,List.all_nil,z7l,z7t,Bool.and_self]⟩
  cases e with
  |exit id=>exact hq
  |normal=>exact key hq
  |ret=>exact key hq
def zlx (hs:List Nat)(bx:List (TypeId×List AV))(k:Nat)(q0:Stk)(r':Rd)(U:St):St:=
 {U with boxes:=(U.boxes.mapIdx fun i b=>if i=0 then(tyR,rdC bx.length r') else if i=k then((zh q0).1,[]) else if hs.contains i=true then(bx[i]?).getD b else(b.1,zx U.lens.length (gz hs) b.2))++[zh r'.q]}
def qdi (hs:List Nat)(tm:TypeId)(τ:St):St:={τ with boxes:=τ.boxes.mapIdx fun i b=>if hs.contains i=true then(tm,[]) else(b.1,zx τ.lens.length (gz hs) b.2)}
theorem z6y {τ U:St} {k:Nat} {q:Stk} {r':Rd} {hs:List Nat} (hk:k≠0)(h1:τ.boxes[k]? =some (zh q))(hkh:hs.contains k=true):
 (q≠none->ziz [0,k] hs (rdB 2 q r') τ.boxes U=zlx hs τ.boxes k q r' U)/\ (q=none->ziz [0] hs [(tyR,rdC 1 r'),zh r'.q] τ.boxes U=zlx hs τ.boxes k q r' U):=by
 have hX: ∀n js,((zh r'.q).1,zx 0 (fwz js n) (zh r'.q).2)=zh r'.q:=fun n js=>by rw[zp]
 refine⟨fun hq=> ?_,fun hq=> ?_⟩
 ·unfold ziz zlx;congr 1
  have e2:((rdB 2 q r').drop [0,k].length).map (fun c=>(c.1,zx 0 (fwz [0,k] τ.boxes.length) c.2))=[zh r'.q]:=by
   show[((zh r'.q).1,zx 0 _ (zh r'.q).2)]=_
   rw[hX]
  rw[e2];congr 1
  apply List.ext_getElem?;intro i;simp only[List.getElem?_mapIdx];cases hb:U.boxes[i]? with
  |none=>rfl
  | some b=>
   simp only[map_some,Option.some.injEq];by_cases e0:i=0
   ·subst e0;simp only[if_pos rfl];rw[if_pos (by simp)];have:[0,k].idxOf 0=0:=by simp
    rw[this]
    show(tyR,zx 0 _ (rdC 2 r'))=_
    rw[zep (k':=τ.boxes.length) r' fun n=>rfl,if_pos trivial]
   ·by_cases ek:i=k
    ·subst ek;rw[if_pos (by simp),if_neg e0,if_pos rfl];have:[0,i].idxOf i=1:=by
      have:(0==i)=false:=by simpa using Ne.symm e0
      simp[List.idxOf_cons,this]
     rw[this];rfl
    ·rw[if_neg (by simp[e0,ek]),if_neg e0,if_neg ek]
 ·unfold ziz zlx;congr 1
  have e2:([(tyR,rdC 1 r'),zh r'.q].drop [0].length).map (fun c=>(c.1,zx 0 (fwz [0] τ.boxes.length) c.2))=[zh r'.q]:=by
   show[((zh r'.q).1,zx 0 _ (zh r'.q).2)]=_
   rw[hX]
  rw[e2];congr 1
  apply List.ext_getElem?;intro i;simp only[List.getElem?_mapIdx];cases hb:U.boxes[i]? with
  |none=>rfl
  | some b=>
   simp only[map_some,Option.some.injEq];by_cases e0:i=0
   ·subst e0;simp only[if_pos rfl];rw[if_pos (by simp)]
    show(tyR,zx 0 _ (rdC 1 r'))=_
    rw[zep (k':=τ.boxes.length) r' fun n=>rfl,if_pos trivial]
   ·by_cases ek:i=k
    ·subst ek;rw[if_neg (by simp[e0]),if_pos hkh,if_neg e0,if_pos rfl,h1,hq];rfl
    ·rw[if_neg (by simp[e0]),if_neg e0,if_neg ek]
theorem qei {k0:Nat} {f:Operand} {ps:Array Tmp} {asg body:Code} {Q:AQ} {S S':List AV} {τ:St} {α β ρ:Type} {FB:β->α->Option (β ⊕ ρ)} {xs:List α} {s0:β} {K:β->Option ρ} {rr:ρ} (h:zda (zcp FB xs s0) K=some rr)(row:α->List AV)(D:β->St)(k m:Nat)(hs:List Nat) {g:Nat} {r r':Rd} {tm:TypeId} {Cm:List AV}
 (hit:RdIt P g r (xs.map row) r') (hent:Ent P g) (hf:zbw S f= .clos g [.iptr [.ptr 0 0]]) (hk:k≠0) (h0:τ.boxes[0]? =some (tyR,rdC k r)) (h1:τ.boxes[k]? =some (zh r.q)) (hh0:hs.contains 0=true) (hhk:hs.contains k=true)
 (hd: ∀(i:Nat) (t:TypeId),τ.boxes[i]? =some (t,[])->hs.contains i=true) (hm:hs.contains m=false) (hbm:τ.boxes[m]? =some (tm,Cm)) (hfg:Fg (zx τ.lens.length (gz hs) S) S')
 (hl: ∀x,(row x).length=ps.size) (hna:zcj asg=true) (hD:qdi hs tm τ=D s0)
 (zit: ∀s x p,FB s x=some p->awp (ITP P) P none τ.boxes.length asg (z3i (fun S1 U1=>awp (ITP P) P none U1.boxes.length body (z9b S' τ.boxes.length D p rr (fun e _ U=>match e with| .normal=>Q .normal S (zlx hs τ.boxes k r.q r' U)|_=>False)) S1 U1)) (zkc S' ps (row x)) (D s))
 (he: ∀s,K s=some rr->Q .normal S (zlx hs τ.boxes k r.q r' (D s))):awp (ITP P) P none k0 (.rangeFunc f ps asg body) Q S τ:=by
 obtain⟨b1,b2⟩:=z6y (U:=τ) (r':=r') hk h1 hhk;cases hq:r.q with
 | some q=>
  have hbk: ∀U,ziz [0,k] hs (rdB 2 r.q r') τ.boxes U=zlx hs τ.boxes k r.q r' U:=fun U=>(z6y (U:=U) (r':=r') hk h1 hhk).1 (by rw[hq];simp);have hQ:qgh Q S [0,k] hs (rdB 2 r.q r') τ.boxes=(fun e _ U=>match e with| .normal=>Q .normal S (zlx hs τ.boxes k r.q r' U)|_=>False):=by
   funext e S1 U
   cases e with
   |normal=>exact congrArg (Q .normal S) (hbk U)
   |exit id=>rfl
   |ret=>rfl
  have ik:[0,k].idxOf k=1:=by
   have:(0==k)=false:=by simpa using Ne.symm hk
   simp[List.idxOf_cons,this]
  refine z9p (U1:=qdi hs tm τ) h row D [0,k] hs m rfl (hit.1 q hq) hent hf ?_ ⟨by simp;exact Ne.symm hk,rfl,?_,by simp only[List.all_cons,List.all_nil,hh0,hhk];rfl,hd,hm,tm,Cm,hbm,rfl⟩ hfg ?_ hl hna hD (by rw[hQ];exact zit) (fun s hs'=>by rw[hbk];exact he s hs')
  ·rfl
  ·intro i t cs hi
   match i,hi with
   |0,hi=>cases hi;exact⟨rdC k r,h0,zep r fun n=>by show(if[0,k].contains k then AV.bsl ([0,k].idxOf k) 0 n 1 false else .top)=_;simp[ik],by simp[rdC]⟩
   | 1,hi=>
    have hi:some (zh r.q)=some (t,cs):=hi;cases hi':zh r.q with
    | mk t' c'=>
     rw[hi'] at hi;cases hi;refine⟨cs,by rw[<-hi'];exact h1,?_,?_⟩
     ·have:=zp 0 (bwz [0,k]) r.q;rw[hi'] at this;exact this
     ·have:=z1b q;rw[<-hq,hi'] at this;exact this
   |i+2,hi=>cases hi
  ·intro i t cs hi
   match i,hi with
   |0,hi=>cases hi;exact⟨_,rfl⟩
   | 1,hi=>
    have hi:some (zh r.q)=some (t,cs):=hi;injection hi with hi
    exact⟨[],by show some ((zh r.q).1,[])=_;rw[hi]⟩
   |i+2,hi=>cases hi
 | none=>
  have hbk: ∀U,ziz [0] hs [(tyR,rdC 1 r'),zh r'.q] τ.boxes U=zlx hs τ.boxes k r.q r' U:=fun U=>(z6y (U:=U) (r':=r') hk h1 hhk).2 hq;have hQ:qgh Q S [0] hs [(tyR,rdC 1 r'),zh r'.q] τ.boxes=(fun e _ U=>match e with| .normal=>Q .normal S (zlx hs τ.boxes k r.q r' U)|_=>False):=by
   funext e S1 U
   cases e with
   |normal=>exact congrArg (Q .normal S) (hbk U)
   |exit id=>rfl
   |ret=>rfl
  refine z9p (U1:=qdi hs tm τ) h row D [0] hs m rfl (hit.2 hq) hent hf rfl ⟨by simp,rfl,?_,by simp only[List.all_cons,List.all_nil,hh0];rfl,hd,hm,tm,Cm,hbm,rfl⟩ hfg ?_ hl hna hD (by rw[hQ];exact zit) (fun s hs'=>by rw[hbk];exact he s hs')
  ·intro i t cs hi
   match i,hi with
   |0,hi=>cases hi;exact⟨rdC k r,h0,by rw[zml (k:=k) (k':=0) hq,zep (k':=0) r fun n=>rfl];exact zml hq,by simp[rdC]⟩
   |i+1,hi=>cases hi
  ·intro i t cs hi
   match i,hi with
   |0,hi=>cases hi;exact⟨_,rfl⟩
   |i+1,hi=>cases hi
end Go.Ab
namespace Go.Ab
open Go Go.RowKit Go.Fwd Go.Proofs
variable {b' d:Nat} {g:FZ} {y:Operand} {IT:IterP} {ops:Array Oper} {S S' c0 c0' c1 c1':List AV} {U':St} {r':Rd}
theorem zff {m b:Nat} {q:Stk} (h: ∀n,g.2 b 0 n 1= .bsl b' 0 n 1 false):zhq m g (zbb b q)=zbb b' q:=by
 cases q with
 |none=>rfl
 |some q=>simp only[zbb,zhq,h]
theorem zmo {m b:Nat} {q:Stk} {x y z:Value} (h: ∀n,g.2 b 0 n 1= .bsl b' 0 n 1 false):zx m g [.raw x,.raw y,.raw z,zbb b q]=[.raw x,.raw y,.raw z,zbb b' q]:=
 zf (zo _ _ _ rfl) (zf (zo _ _ _ rfl) (zf (zo _ _ _ rfl) (zf (zff h) zi)))
def zhx (q:Stk)(a:Int):Stk:=some (0,zdh q++[a])
def zxk:Stk->Stk
 |none=>none
 |some (_,[])=>none
 |some (_,[a])=>some (a,[])
 |some (j,a::b::l)=>some (j,(a::b::l).dropLast)
theorem qau (q:Stk)(a:Int):(zh (zhx q a)).2=Enc.cellsL (zdh q++[a]):=by
 show Enc.cellsL (stkL (some (0,zdh q++[a])))=_;cases h:zdh q++[a] with
 |nil=>simp at h
 |cons b l=>rfl
section
variable {P:Program} {ρ:Operand->AV} {U:St} {o:Oper}
theorem zxe {x:Operand} {b k:Nat} {t0:TypeId} {c0 c1 c2 c3:AV} {q:Stk} (ho:o.op= .store 37 x y)(hx:ρ x= .ptr b 3)(hy:ρ y=zbb k q)(hb:U.boxes[b]? =some (t0,[c0,c1,c2,c3])):
 aop prog ρ U o=some (.raw undef,{U with boxes:=U.boxes.set b (t0,[c0,c1,c2,zbb k q])}):=by
 have hs:(cellsOf (zbb k q)).length=1:=by cases q<;>rfl
 rw[zco (n:=1) ho hx hy hb (by kernel_rfl) ⟨by cases q<;>rfl,hs,by simp,by decide⟩];cases q<;>rfl
theorem qjt:prog.underlying 37=some (.slice 3):=by kernel_rfl
theorem zgz {x:Operand} {b:Nat} {q:Stk} (ho:o.op= .call ⟨.builtin .len, #[x], #[37]⟩)(hx:ρ x=zbb b q):qop prog ρ U o=some (.raw (.int .i64 ((zdh q).length:Int))):=by
 have h1:qjh prog 37 (zbb b q)=some (.raw (.int .i64 ((zdh q).length:Int))):=by
  cases q<;>simp[qjh,qjt,zbb,zdh]
 simp only[qop,ho,hx,h1]
theorem qls {x i:Operand} {b:Nat} {j:Int} {l:List Int} {k:Int} (g:0<=k/\ k<(l.length:Int))(ho:o.op= .indexAddr 37 x i)(hx:ρ x=zbb b (some (j,l)))(hi:ρ i= .raw (.int .i64 k)):qop prog ρ U o=some (.ptr b (0+k.toNat*1)):=by
 exact qik (α:=Int) g ho hx hi qjt (by kernel_rfl)
theorem qks {q:Stk} (h:zdh q≠[]): ∃j l,q=some (j,l)/\ l≠[]:=by
 cases q with
 |none=>exact absurd rfl h
 |some q=>exact⟨q.1,q.2,rfl,h⟩
theorem qkx (q:Stk):zdh (zxk q)=(zdh q).dropLast:=by
 match q with
 |none=>rfl
 |some (_,[])=>rfl
 |some (_,[a])=>rfl
 |some (j,a::b::l)=>rfl
theorem qee {q:Stk} (h:zdh q≠[]):(zh (zxk q)).2=(zh q).2.take (max 1 ((zdh q).length-1))/\ (zh (zxk q)).1=(zh q).1:=by
 match q,h with
 |none,h=>exact absurd rfl h
 |some (_,[]),h=>exact absurd rfl h
 |some (_,[a]),_=>exact⟨rfl,rfl⟩
 | some (j,a::b::l),_=>
  refine⟨?_,rfl⟩;show Enc.cellsL (stkL (some (j,(a::b::l).dropLast)))=(Enc.cellsL (a::b::l)).take (max 1 ((a::b::l).length-1));have e:stkL (some (j,(a::b::l).dropLast))=(a::b::l).dropLast:=rfl;rw[e,List.dropLast_eq_take];have:=Enc.take (a::b::l) (max 1 ((a::b::l).length-1));rw[show Enc.sz Int=1 from rfl,Nat.mul_one] at this;have e2:max 1 ((a::b::l).length-1)=(a::b::l).length-1:=by simp only[length_cons];omega
  rw[e2] at this⊢;exact this.symm
theorem popA {q:Stk} {b:Nat} (h:zdh q≠[]):zbb b (zxk q)= .bsl b 0 ((zdh q).length-1) 1 false:=by
 match q,h with
 |none,h=>exact absurd rfl h
 |some (_,[]),h=>exact absurd rfl h
 |some (_,[a]),_=>rfl
 | some (j,a::b'::l),_=>
  show AV.bsl b 0 ((a::b'::l).dropLast).length 1 false=_;rw[List.length_dropLast];rfl
theorem qgu {c:Call} {x:Operand} {b:Nat} {q:Stk} {a:Int} {st:Room} (h:(zdh q).length<2^40)(ho:o.op= .call c)(hc:c.callee= .builtin .append)(ha:c.args.toList=[x,y])(ht:c.argTypes.toList=[37,37])
 (hx:ρ x=zbb b q) (hy:ρ y= .list 1 (Enc.cellsL [a]) st) (hb:U.boxes[b]? =some (zh q)):
 zwg prog ρ U o=some (zbb U.boxes.length (zhx q a),{U with boxes:=(U.boxes.set b ((zh q).1,[]))++[zh (zhx q a)]}):=by
 have hu:prog.underlying 37=some (.slice 3):=by kernel_rfl
 have key:(prog.info? 3).map (fun i=>(i.size,i.bytes,i.zero.map fun z=>z.cells.size))=some (1,8,some 1):=by kernel_rfl
 obtain⟨i,hi,⟨z,hz,hzc⟩,hsz,hby⟩: ∃i,prog.info? 3=some i/\ (∃z,i.zero=some z/\ z.cells.size=1)/\ i.size=1/\ i.bytes=8:=by
  cases hi:prog.info? 3 with
  |none=>rw[hi] at key;cases key
  | some i=>
   rw[hi] at key;simp only[map_some,Option.some.injEq,Prod.mk.injEq] at key;obtain⟨k1,k2,k3⟩:=key;cases hz:i.zero with
   |none=>rw[hz] at k3;cases k3
   |some z=>rw[hz] at k3;exact⟨i,rfl,⟨z,hz,by simpa using k3⟩,k1,k2⟩
 have hsrc: ∀S,qer prog S 1 37 37 (.list 1 (Enc.cellsL [a]) st)=some (1,Enc.cellsL [a]):=fun S=>by
  simp only[qer];rfl
 have hnn:zry (zbb b q)=false:=by cases q<;>rfl
 have hcells:=qau q a;cases q with
 | none=>
  have hset:U.boxes.set b (tyR,[])=U.boxes:=by
   apply List.ext_getElem?;intro j;rw[List.getElem?_set];split
   ·rename_i e;subst e;have:=(List.getElem?_eq_some_iff.1 hb).1;rw[if_pos this,hb];rfl
   ·rfl
  simp only[zwg,ho,hc,ha,ht,hx,hy,hnn,Bool.false_eq_true,if_false];simp only[zbb,zqz,hu,hi,hz,hsz,hsrc];rw[if_pos ⟨by decide,hzc,by decide⟩];rw[if_pos ⟨by simp,by decide,by rw[hby];decide⟩];show some _=some (_,{U with boxes:=U.boxes.set b (tyR,[])++_});rw[hset];rfl
 | some q=>
  obtain⟨j,l⟩:=q;simp only[zwg,ho,hc,ha,ht,hx,hy,hnn,Bool.false_eq_true,if_false];have hlen:(zdh (some (j,l))).length=l.length:=rfl;rw[hlen] at h;cases l with
  | nil=>
   have hB:zqz prog U 37 37 (zbb b (some (j,[]))) (.list 1 (Enc.cellsL [a]) st)=none:=by
    simp only[zbb,zqz,hu,hi,hz,hsz,hsrc,hb];rw[if_pos ⟨by decide,hzc,by decide⟩,if_pos ⟨by simp,by simp[maxLen],by rw[hby];simp,by simp⟩];simp
   rw[hB];simp only[zbb,qcy,hu,hi,hz,hsz,hsrc,hb];rw[if_neg (by decide),if_pos (by refine⟨by simp,by decide,hzc,by decide,by rw[hby];decide,by simp,by simp,rfl,?_,by simp⟩;simp[zh,stkL,Enc.cons,Enc.cells,Enc.nil])];rfl
  | cons c l=>
   have hB:zqz prog U 37 37 (zbb b (some (j,c::l))) (.list 1 (Enc.cellsL [a]) st)=some (.bsl U.boxes.length 0 ((c::l).length+1) 1 false,{U with boxes:=U.boxes.set b (3,[])++[(3,Enc.cellsL (c::l)++Enc.cellsL [a])]}):=by
    have hl:(Enc.cellsL (c::l)).length=(c::l).length:=by rw[Enc.lenL];exact Nat.mul_one _
    have hl':(zh (some (j,c::l))).2.length=(c::l).length:=hl;have hm:(c::l).length+1<=maxLen:=by
     have h6:140737488355328<=maxLen:=by decide
     omega
    simp only[zbb,zqz,hu,hi,hz,hsz,hsrc,hb,Bool.false_eq_true,if_false];rw[if_pos ⟨by decide,hzc,by decide⟩,if_pos ⟨by simp,hm,by rw[hby];omega,by rw[hl'];omega⟩,if_pos ⟨by simp,by rw[hl',Nat.mul_one],rfl,by simp⟩];rfl
   rw[hB];show some (_,{U with boxes:=_++[(3,_)]})=some (_,{U with boxes:=_++[(3,(zh (zhx (some (j,c::l)) a)).2)]});rw[hcells];have e1:Enc.cellsL (c::l)++Enc.cellsL [a]=Enc.cellsL (zdh (some (j,c::l))++[a]):=(Enc.app _ _).symm;rw[e1];have e2:(c::l).length+1=(zdh (some (j,c::l))++[a]).length:=by simp[zdh]
   show some (AV.bsl _ 0 ((c::l).length+1) 1 false,_)=some (AV.bsl _ 0 (zdh (some (j,c::l))++[a]).length 1 false,_);rw[e2];rfl
theorem w_pop {W:Owed} {Q:List AV->St->Prop} {l:List Oper} {x i:Operand} {b:Nat} {q:Stk} (h:zdh q≠[])(hg:o.guard=none)(hc:zct S o=none)(hy:zcv S o=none)(ho:o.op= .slice 37 x none (some i) none)(hx:zbw S x=zbb b q)(hi:zbw S i= .raw (.int .i64 ((zdh q).length-1:Int)))(hS:zad S o.dst (zbb b (zxk q))=S')
 (k:zcb IT prog W ops Q l S' U):zcb IT prog W ops Q (o::l) S U:=by
 obtain⟨j,m,rfl,hm⟩:=qks h;have hpos:0<m.length:=List.length_pos_iff.2 hm;have hsz:zfh prog 3=some 1:=by kernel_rfl
 have hN:zdh (some (j,m))=m:=rfl;rw[hN] at hi;rcases lt_or_ge 1 m.length with h1|h1
 ·have:=q_bslH (P:=prog) (ρ:=zbw S) (U:=U) (α:=Int) (g:=(by omega:0<((m.length:Int)-1)/\ ((m.length:Int)-1)<=(m.length:Int))) ho hx hi qjt hsz;have e:((m.length:Int)-1).toNat=m.length-1:=by omega
  rw[e,Bool.false_and] at this;refine zhp (a:=zbb b (zxk (some (j,m)))) hg hc hy (zbl ?_) hS k;rw[popA h,hN];exact this
 ·have e1:m.length=1:=by omega
  refine z1v (a:=zbb b (zxk (some (j,m)))) (U'':=U) hg hc hy ?_ hS rfl k;rw[popA h,hN,e1];have hi':zbw S i= .raw (.int .i64 0):=by rw[hi,e1];rfl
  simp only[zwg,ho,hx,zbb,zxd,map_some,hi',Option.isNone_none,Option.isNone_some,Bool.and_true,Bool.true_and,Bool.and_false,Bool.false_and,e1];have hp:aPop prog U 37 (.bsl b 0 1 1 false) (some (.raw (.int .i64 0))) true=some (.bsl b 0 0 1 false,U):=by
   simp only[aPop,qjt,hsz,and_self,if_true]
  simp only[hp];rfl
end
theorem zao {U:St} {m:Nat} {js:List Nat} {t0 t1:TypeId} {rest bs':List (TypeId×List AV)} (hb:U.boxes=(t0,c0)::(t1,c1)::rest)(h0:zx m (kz U.boxes m 2 [] js d) c0=c0')(h1:zx m (kz U.boxes m 2 [] js d) c1=c1')
 (h:(js.map fun j=>((U.boxes[j]?).map fun b=>(b.1,zx m (kz U.boxes m 2 [] js d) b.2)).getD (0,[.bad]))=bs') (h2:{U with boxes:=(t0,c0')::(t1,c1')::bs',lens:=U.lens.take m,elems:=U.elems.take m}=U'):zeo U m 2 [] js d=U':=by
 subst h2;unfold zeo zcd;rw[h];have e:(U.boxes.take 2)=[(t0,c0),(t1,c1)]:=by rw[hb];rfl
 rw[e];simp only[List.mapIdx_cons,List.mapIdx_nil,List.contains_nil,Bool.false_eq_true,if_false,h0,h1,cons_append,nil_append]
theorem zyi {U:St} {m:Nat} {js:List Nat} {t0 t1:TypeId} {rest bs':List (TypeId×List AV)} (hb:U.boxes=(t0,c0)::(t1,c1)::rest)(h0:zx m (kz U.boxes m 2 [] js d) c0=c0')(h1:zx m (kz U.boxes m 2 [] js d) c1=c1')
 (h:(js.map fun j=>((U.boxes[j]?).map fun b=>(b.1,zx m (kz U.boxes m 2 [] js d) b.2)).getD (0,[.bad]))=bs'):zcd U.boxes m 2 [] js d=(t0,c0')::(t1,c1')::bs':=
 congrArg St.boxes (zao (U:=U) (m:=m) (d:=d) (js:=js) hb h0 h1 h rfl)
theorem w_seqC {P:Program} {W:Owed} {k0 id:Nat} {y:Code} {Q:AQ} {U:St} (h:zse IT P W ops (fun S U=>awp IT P W k0 y Q S U) ops.size (Array.replicate ops.size false) S U):awp IT P W k0 (.seq (.region id ops true) y) Q S U:=
 .inl (.inr (.inr (.inl (zgr (fun S U hw=>⟨S,U,Wk.refl _ _ _,hw⟩) _ _ _ _ h))))
theorem wk_pop {n0:Nat} {U U1:St} {q:Stk} (h:zdh q≠[])(hb:U.boxes[2]? =some (zh q))(h1:U1={U with boxes:=U.boxes.set 2 (zh (zxk q))})(k:Wk n0 S U1 S' U'):Wk n0 S U S' U':=by
 obtain⟨e1,e2⟩:=qee h;refine .step (.inr (.inr (.inr (.inl ⟨2,max 1 ((zdh q).length-1),(zh q).1,(zh q).2,hb,Fg.refl _,?_⟩)))) k;rw[h1, <-e1, <-e2]
theorem zgf {fn:Func} {U:St} {q:Stk} {a v:AV} (js:List Nat)(d:Nat)(ha:zap prog fn U S=some a)(hok:zcu U 2 js=true)(hv:zhq 0 (kz U.boxes 0 2 [] js d) a=v)(hσ:zeo U 0 2 [] js d=rdS q r'):qnb prog fn q v r' .ret S U:=⟨a,ha,js,d,hok,hv,hσ⟩
theorem qdj {fn:Func} {U:St} {q:Stk} {a v:AV} (js:List Nat)(d:Nat)(ha:zap prog fn U S=some a)(hok:zcu U 2 js=true)(hv:zhq 0 (kz U.boxes 0 2 [] js d) a=v)(hσ:zeo U 0 2 [] js d=rdS q r'):qnb prog fn q v r' .normal S U:=⟨a,ha,js,d,hok,hv,hσ⟩
end Go.Ab
namespace Go.Ab
open Go Go.RowKit Go.Fwd Go.Proofs
def zhb (at_:Int)(e:Int)(r:Rd):Option Rd:=
 (bif (r.e==0) then(some (Rd.mk r.s at_ e r.q)) else(some r))
theorem ent182:Ent prog 182:=enters_of Tryz.func182 (by kernel_rfl) rfl
theorem zmh (at_:Int)(e:Int)(r:Rd)  (y:Rd)(h:zhb at_ e r=some y):RdC prog 182 [.raw (.int .i64 at_),.raw (.int .i64 e)] r (.tup []) y:=by
 obtain⟨d,hd⟩: ∃d,Tryz.f182.body=some d:=⟨_,rfl⟩;refine qci mix Tryz.func182 hd ent182 (by first|rfl|exact(zos rfl (zos rfl rfl))) rfl (fun k0 hk0=> ?_);cases hd;unfold zhb at h;refine zbt (by dsimp only[zai,Tryz.f182,length_cons,length_nil,zero_add,Nat.reduceAdd,Nat.reduceSub,List.replicate,cons_append,nil_append]) (show rdS r.q r=(.B [(110,[.s r.s,.i r.a,.i r.e,(zbb 2 r.q)]),((zh r.q).1,[]),((zh r.q).1,(zh r.q).2)]) from rfl) ?_;refine zr [.m _,.v (.ptr 0 0),.v (.ptr 0 2),.v (.i r.e),.v (.b (r.e==0))] ?_;refine zbv h (fun hc1 h=> ?_) (fun hc1 h=> ?_);refine zb (k0:=k0) (id:=1) ?_;refine w_r [.m _,.m _,.m _,.m _,.v (.ptr 0 0)] ?_;refine w_r [.v (.ptr 0 1)] ?_;refine zoc (U'':=(.B [(110,[.s r.s,.i at_,.i r.e,(zbb 2 r.q)]),((zh r.q).1,[]),((zh r.q).1,(zh r.q).2)])) (h:=zco (n:=1) rfl rfl rfl rfl rfl ⟨rfl,rfl,le_of_ble_eq_true rfl,by decide⟩) ?_;refine w_r [.v (.ptr 0 0),.v (.ptr 0 2)] ?_;refine zoc (U'':=(.B [(110,[.s r.s,.i at_,.i e,(zbb 2 r.q)]),((zh r.q).1,[]),((zh r.q).1,(zh r.q).2)])) (h:=zco (n:=1) rfl rfl rfl rfl rfl ⟨rfl,rfl,le_of_ble_eq_true rfl,by decide⟩) ?_;have he1:=Option.some.inj h;subst he1;exact qdj [2] 1 rfl rfl (by rw[zhq];rfl) (zao rfl (zmo fun _=>rfl) zi (zg rfl (zp _ _ _) zag) rfl);have he2:=Option.some.inj h;subst he2;exact qdj [2] 1 rfl rfl (by rw[zhq];rfl) (zao rfl (zmo fun _=>rfl) zi (zg rfl (zp _ _ _) zag) rfl)
def zeu (r:Rd):Option (Int×Rd):=
 (bif (r.e !=0) then(some (0,r)) else(bif (decide (r.a>=(length r.s:Int))) then(some (0,r)) else(chk (0<=r.a/\ r.a<(length r.s:Int)) (zaz (ix r.s r.a) (fun x1=>(some ((((x1).toNat:Nat):Int),r)))))))
theorem ent108:Ent prog 108:=enters_of Tryz.func108 (by kernel_rfl) rfl
theorem zqm (r:Rd)  (y:Int×Rd)(h:zeu r=some y):RdC prog 108 [] r (.raw (.int .u8 y.1)) y.2:=by
 obtain⟨d,hd⟩: ∃d,Tryz.f108.body=some d:=⟨_,rfl⟩;refine qci mix Tryz.func108 hd ent108 rfl (by first|rfl|exact rfl) (fun k0 hk0=> ?_);cases hd;unfold zeu at h;refine zbt (by dsimp only[zai,Tryz.f108,length_cons,length_nil,zero_add,Nat.reduceAdd,Nat.reduceSub,List.replicate,cons_append,nil_append]) (show rdS r.q r=(.B [(110,[.s r.s,.i r.a,.i r.e,(zbb 2 r.q)]),((zh r.q).1,[]),((zh r.q).1,(zh r.q).2)]) from rfl) ?_;refine zr [.v (.u 0)] ?_;iterate 2 refine zj ?_
 refine zie (k0:=k0) (id:=1) 15 (by kernel_rfl) (by kernel_rfl) ?_;refine zfo ?_;refine h_o (a:= .ptr 0 0) ?_;refine h_o (a:= .ptr 0 2) ?_;refine h_o (a:= .i r.e) ?_;refine h_o (a:= .b (r.e !=0)) ?_;refine zan h (fun hc1 h=> ?_) (fun hc1 h=> ?_);refine h_o (a:= .b true) (h:=zee rfl hc1) ?_;iterate 9 refine zby ?_
 refine zgs ?_;refine w_r [.p,.v (.b true)] ?_;refine zel rfl ?_;refine zr [.v (.u 0)] ?_;have he1:=Option.some.inj h;subst he1;exact zgf (a:= .u 0) [2] 1 rfl rfl (zo _ _ _ rfl) (zao rfl (zmo fun _=>rfl) zi (zg rfl (zp _ _ _) zag) rfl);refine h_o (a:= .b false) (h:=zee rfl hc1) ?_;refine zcm rfl rfl ?_;refine zfo ?_;refine zcm rfl rfl ?_;refine h_o (a:= .ptr 0 0) ?_;refine zcm rfl rfl ?_;refine h_o (a:= .ptr 0 1) ?_;refine zcm rfl rfl ?_;refine h_o (a:= .i r.a) ?_;refine zcm rfl rfl ?_;refine zfo ?_;refine zcm rfl rfl ?_;refine h_o (a:= .ptr 0 0) ?_;refine zcm rfl rfl ?_;refine h_o (a:= .ptr 0 0) ?_;refine zcm rfl rfl ?_;refine h_o (a:= .s r.s) ?_;refine zcm rfl rfl ?_;refine h_o (a:= .i (length r.s:Int)) (h:=zdq rfl rfl rfl) ?_;refine zgs ?_;refine w_r [.v (.b (decide (r.a>=(length r.s:Int)))),.v (.b (decide (r.a>=(length r.s:Int))))] ?_;refine zbv h (fun hc2 h=> ?_) (fun hc2 h=> ?_);refine zr [.v (.u 0)] ?_;have he2:=Option.some.inj h;subst he2;exact zgf (a:= .u 0) [2] 1 rfl rfl (zo _ _ _ rfl) (zao rfl (zmo fun _=>rfl) zi (zg rfl (zp _ _ _) zag) rfl);refine zj ?_;refine zie (k0:=k0) (id:=3) 8 (by kernel_rfl) (by kernel_rfl) ?_;refine zfo ?_;iterate 2 refine h_o (a:= .ptr 0 0) ?_
 refine h_o (a:= .s r.s) ?_;refine zfo ?_;refine h_o (a:= .ptr 0 0) ?_;refine h_o (a:= .ptr 0 1) ?_;refine h_o (a:= .i r.a) ?_;refine zgs ?_;obtain⟨g1,h⟩:=zk h;obtain⟨x1,hx1,h⟩:=zn h;refine w_o (a:= .u (((x1).toNat:Nat):Int)) (h:=zbl (by rw[<-hx1];exact(zdv (l:=r.s) (n:=r.a) g1 rfl rfl rfl rfl))) ?_;refine zah ?_;have he3:=Option.some.inj h;subst he3;exact zgf (a:= .u (((x1).toNat:Nat):Int)) [2] 1 rfl rfl (zo _ _ _ rfl) (zao rfl (zmo fun _=>rfl) zi (zg rfl (zp _ _ _) zag) rfl)
def zen (fuel:Nat)(n:Tr)(r:Rd):Option (Tr×Rd):=
 (bif (r.e !=0) then(some (zax,r)) else(chk (0<=r.a/\ r.a<=(length r.s:Int)/\ (length r.s:Int)<=(length r.s:Int)) (zaz (sub r.s r.a (length r.s:Int)) (fun x1=>(zaa (zij fuel x1) (fun x2=>(bif (x2.2.2.2 !=0) then(chk (-9223372036854775808<=(r.a+x2.2.2.1)/\ (r.a+x2.2.2.1)<9223372036854775808) (zaa (zhb (r.a+x2.2.2.1) x2.2.2.2 r) (fun x3=>(some (zax,x3))))) else(chk (-9223372036854775808<=(r.a+x2.2.2.1)/\ (r.a+x2.2.2.1)<9223372036854775808) (zda (τ:=Rd) (bif (decide (x2.2.2.1>0)) then(zaa (zeu (Rd.mk r.s (r.a+x2.2.2.1) r.e r.q)) (fun x4=>(chk (0<=x4.1/\ x4.1<256) (zaz (Lib.indexByte ([42,43,63,123]:List UInt8) (zkt x4.1)) (fun x5=>(bif (decide (x5>=0)) then(zaa (zhb x4.2.a 92 x4.2) (fun x6=>(some (inl (x6))))) else(some (inl (x4.2))))))))) else(some (inl ((Rd.mk r.s (r.a+x2.2.2.1) r.e r.q))))) (fun j1=>(chk ((pre n).length<2^40) (zaz (zet n x2.1 x2.2.1) (fun x7=>(some (x7,j1)))))))))))))))
theorem ent154:Ent prog 154:=enters_of Tryz.func154 (by kernel_rfl) rfl
theorem zxt (fuel:Nat)(n:Tr)(r:Rd)  (y:Tr×Rd)(h:zen fuel n r=some y):RdC Tryz.prog 154 [.A (n:Tr)] r (.A (y.1:Tr)) y.2:=by
 obtain⟨d,hd⟩: ∃d,Tryz.f154.body=some d:=⟨_,rfl⟩;refine qci mix Tryz.func154 hd ent154 (by first|rfl|exact(zos (zak (Enc.clo _)) rfl)) (by first|rfl|exact(zak (Enc.clo _))) (fun k0 hk0=> ?_);cases hd;unfold zen at h;refine zbt (by dsimp only[zai,Tryz.f154,List.length_cons,List.length_nil,Nat.zero_add,Nat.reduceAdd,Nat.reduceSub,List.replicate,List.cons_append,List.nil_append]) (show rdS r.q r=(.B [(110,[.s r.s,.i r.a,.i r.e,(zbb 2 r.q)]),((zh r.q).1,[]),((zh r.q).1,(zh r.q).2)]) from rfl) ?_;refine zj (zb ?_);refine zdl (Enc.cells (n:Tr)) ?_;refine zdl zN ?_;refine zj ?_;refine zr [.m _,.v (.ptr 0 0),.v (.ptr 0 2),.v (.i r.e),.v (.b (r.e !=0))] ?_;refine zbv h (fun hc1 h=> ?_) (fun hc1 h=> ?_);refine zj (zb ?_);refine z0s zax ?_;refine zfs 8 (Enc.cells (zax:Tr)) ?_;have he1:=Option.some.inj h;subst he1;exact zgf (a:= .A (zax:Tr)) [2] 1 rfl rfl (zo _ _ _ (zak (Enc.clo _))) (zao rfl (zmo fun _=>rfl) zi (zg rfl (zp _ _ _) zag) rfl);refine zj ?_;refine zie (k0:=k0) (id:=3) 18 (by kernel_rfl) (by kernel_rfl) ?_;refine zfo ?_;iterate 2 refine h_o (a:= .ptr 0 0) ?_
 refine h_o (a:= .s r.s) ?_;refine zfo ?_;refine h_o (a:= .ptr 0 0) ?_;refine h_o (a:= .ptr 0 1) ?_;refine h_o (a:= .i r.a) ?_;obtain⟨g1,h⟩:=zk h;obtain⟨x1,hx1,h⟩:=zn h;refine h_o (a:= .s x1) (h:=by rw[<-hx1];exact(zns (l:=r.s) g1 rfl rfl rfl rfl)) ?_;obtain⟨x2,hx2,h⟩:=zm h;refine qce (qjv fuel x1 x2 hx2) ?_;refine zfo ?_;iterate 4 refine h_ex ?_
 iterate 3 refine zfo ?_
 refine zgs ?_;refine zah ?_;refine zj ?_;refine zr [.m _,.v (.b (x2.2.2.2 !=0))] ?_;refine zbv h (fun hc2 h=> ?_) (fun hc2 h=> ?_);refine zgt (zb ?_);refine w_r [.m _,.m _,.v (.ptr 0 0),.v (.ptr 0 1),.v (.i r.a)] ?_;refine w_r [.m _] ?_;obtain⟨g2,h⟩:=zk h;refine zjg g2 ?_;refine zah ?_;obtain⟨x3,hx3,h⟩:=zm h;refine zfj (r:= .tup []) (U':=(.B [(110,[.s x3.s,.i x3.a,.i x3.e,(zbb 5 x3.q)]),((zh r.q).1,[]),((zh r.q).1,[]),(27,(Enc.cells (n:Tr))),(27,zN),((zh x3.q).1,(zh x3.q).2)])) ((zmh (r.a+x2.2.2.1) x2.2.2.2 r x3 hx3) _ 2 (by decide) rfl rfl) rfl rfl ⟨rfl,rfl⟩ (by dsimp only[zad,List.set]) ?_;refine zjo 68 [(4,.ptr 4 0)] (U':=(.B [(110,[.s x3.s,.i x3.a,.i x3.e,(zbb 2 x3.q)]),((zh r.q).1,[]),((zh x3.q).1,(zh x3.q).2),(27,(Enc.cells (n:Tr))),(27,zN)])) (wmk (bl 68 16) 2 [] [5,3,4] 1 hk0 (zao rfl (zmo fun _=>rfl) zi (zg rfl (zp _ _ _) (zg rfl (zal _ _ _ (Enc.clo _)) (zg rfl rfl zag))) rfl)) ?_;refine zj (zb ?_);refine z0s zax ?_;refine zfs 8 (Enc.cells (zax:Tr)) ?_;have he2:=Option.some.inj h;subst he2;exact zgf (a:= .A (zax:Tr)) [2] 1 rfl rfl (zo _ _ _ (zak (Enc.clo _))) (zao rfl (zmo fun _=>rfl) zi (zg rfl (zp _ _ _) zag) rfl);refine zr [.m _,.v (.ptr 0 0),.v (.ptr 0 1),.v (.i r.a),.m _] ?_;obtain⟨g3,h⟩:=zk h;refine zjg g3 ?_;refine w_r [.v (.ptr 0 0),.v (.ptr 0 1)] ?_;refine zoc (U'':=(.B [(110,[.s r.s,.i (r.a+x2.2.2.1),.i r.e,(zbb 2 r.q)]),((zh r.q).1,[]),((zh r.q).1,(zh r.q).2),(27,(Enc.cells (n:Tr))),(27,zN)])) (h:=zco (n:=1) rfl rfl rfl rfl rfl ⟨rfl,rfl,Nat.le_of_ble_eq_true rfl,by decide⟩) ?_;refine zau h (bz 0 68 295147905179352825735) (fun j1=>[]) (fun j1=>(.B [(110,[.s j1.s,.i j1.a,.i j1.e,(zbb 2 j1.q)]),((zh r.q).1,[]),((zh j1.q).1,(zh j1.q).2),(27,(Enc.cells (n:Tr))),(27,zN)])) ?_ ?_;intro or1 h hr1;refine zgt (zb ?_);refine w_r [.m _,.v (.b (decide (x2.2.2.1>0)))] ?_;refine zan h (fun hc3 h=> ?_) (fun hc3 h=> ?_);refine zav hc3 ?_;refine zbj rfl rfl ?_;refine zah ?_;refine zbj rfl rfl ?_;obtain⟨x4,hx4,h⟩:=zm h;refine zfj (r:= .u x4.1) (U':=(.B [(110,[.s x4.2.s,.i x4.2.a,.i x4.2.e,(zbb 5 x4.2.q)]),((zh r.q).1,[]),((zh r.q).1,[]),(27,(Enc.cells (n:Tr))),(27,zN),((zh x4.2.q).1,(zh x4.2.q).2)])) ((zqm (Rd.mk r.s (r.a+x2.2.2.1) r.e r.q) x4 hx4) _ 2 (by decide) rfl rfl) rfl rfl ⟨rfl,rfl⟩ (by dsimp only[zad,List.set]) ?_;refine zbj rfl rfl ?_;obtain⟨g4,h⟩:=zk h;obtain⟨x5,hx5,h⟩:=zn h;refine zbx (args':=[.s ([42,43,63,123]:List UInt8),.u x4.1]) (r:= .i x5) (by rw[<-hx5];exact(zuf ([42,43,63,123]:List UInt8) g4)) ?_;refine w_r [.v (.b (decide (x5>=0))),.v (.b (decide (x5>=0)))] ?_;refine zjo 68 [(0,.ptr 0 0),(3,.ptr 3 0),(4,.ptr 4 0),(5,.i x2.1),(6,.i x2.2.1),(57,.b (decide (x5>=0)))] (U':=(.B [(110,[.s x4.2.s,.i x4.2.a,.i x4.2.e,(zbb 2 x4.2.q)]),((zh r.q).1,[]),((zh x4.2.q).1,(zh x4.2.q).2),(27,(Enc.cells (n:Tr))),(27,zN)])) (wmk (bl 68 144115188075855993) 2 [] [5,3,4] 1 hk0 (zao rfl (zmo fun _=>rfl) zi (zg rfl (zp _ _ _) (zg rfl (zal _ _ _ (Enc.clo _)) (zg rfl rfl zag))) rfl)) ?_;refine zbv h (fun hc4 h=> ?_) (fun hc4 h=> ?_);refine zb (k0:=k0) (id:=9) ?_;refine w_r [.m _,.m _,.v (.ptr 0 0),.v (.ptr 0 1),.v (.i x4.2.a)] ?_;obtain⟨x6,hx6,h⟩:=zm h;refine zfj (r:= .tup []) (U':=(.B [(110,[.s x6.s,.i x6.a,.i x6.e,(zbb 5 x6.q)]),((zh r.q).1,[]),((zh x4.2.q).1,[]),(27,(Enc.cells (n:Tr))),(27,zN),((zh x6.q).1,(zh x6.q).2)])) ((zmh x4.2.a 92 x4.2 x6 hx6) _ 2 (by decide) rfl rfl) rfl rfl ⟨rfl,rfl⟩ (by dsimp only[zad,List.set]) ?_;refine zc (o:=or1) (x6) h ?_;exact(wmk (bl 68 120) 2 [] [5,3,4] 1 hk0 (zao rfl (zmo fun _=>rfl) zi (zg rfl (zp _ _ _) (zg rfl (zal _ _ _ (Enc.clo _)) (zg rfl rfl zag))) rfl));refine zc (o:=or1) (x4.2) h ?_;exact zbh (bl 68 120);refine zav hc3 ?_;refine w_r [.p,.p,.p,.p,.v (.b false)] ?_;refine qdm (Wk.refl _ _ _) ?_;refine zce rfl ?_;refine zc (o:=or1) ((Rd.mk r.s (r.a+x2.2.2.1) r.e r.q)) h ?_;exact zbh (bl 68 120);intro j1 h;refine zdw ?_;refine zr [.v (.A (n:Tr)),.m _,.m _] ?_;obtain⟨g5,h⟩:=zk h;obtain⟨x7,hx7,h⟩:=zn h;refine zbx (args':=[.A (n:Tr),.i x2.1,.i x2.2.1]) (r:= .A (x7:Tr)) (by rw[<-hx7];exact(k_times n x2.1 x2.2.1 g5)) ?_;refine znb 8 (.B [(110,[.s j1.s,.i j1.a,.i j1.e,(zbb 2 j1.q)]),((zh r.q).1,[]),((zh j1.q).1,(zh j1.q).2),(27,(Enc.cells (n:Tr))),(27,(Enc.cells (x7:Tr)))]) ?_;have he3:=Option.some.inj h;subst he3;exact zgf (a:= .A (x7:Tr)) [2] 1 rfl rfl (zo _ _ _ (zak (Enc.clo _))) (zao rfl (zmo fun _=>rfl) zi (zg rfl (zp _ _ _) zag) rfl)
end Go.Ab
namespace Go.Ab
open Go Go.RowKit Go.Fwd Go.Proofs
def zhf (fuel:Nat)(g:Int->Rd->Option (Tr×Rd))(r:Rd):Option (Tr×Rd):=
 (chk (0<=r.a/\ r.a<=(length r.s:Int)/\ (length r.s:Int)<=(length r.s:Int)) (zaz (sub r.s r.a (length r.s:Int)) (fun x1=>(zda (τ:=Rd) (chk (0<=(0:Int)/\ (0:Int)<(length x1:Int)) (zaz (ix x1 (0:Int)) (fun x2=>(bif ((((x2).toNat:Nat):Int)==40) then(zaz (Lib.hasPrefix x1 ([40,63,58]:List UInt8)) (fun x3=>(bif x3 then(zaa (g 3 r) (fun x4=>(some (inr (x4.1,x4.2))))) else(zaa (g 1 r) (fun x5=>(chk ((pre x5.1).length<2^60) (zaz (zfx x5.1) (fun x6=>(some (inr (x6,x5.2))))))))))) else(bif ((((x2).toNat:Nat):Int)==91) then(zaa (zdt fuel x1) (fun x7=>(bif (x7.2.2 !=0) then(chk (-9223372036854775808<=(r.a+x7.2.1)/\ (r.a+x7.2.1)<9223372036854775808) (zaa (zhb (r.a+x7.2.1) x7.2.2 r) (fun x8=>(some (inr (zax,x8)))))) else(chk (-9223372036854775808<=(r.a+x7.2.1)/\ (r.a+x7.2.1)<9223372036854775808) (zaz (ofT x7.1) (fun x9=>(some (inr (x9,(Rd.mk r.s (r.a+x7.2.1) r.e r.q)))))))))) else(bif ((((x2).toNat:Nat):Int)==46) then(chk (-9223372036854775808<=(r.a+1)/\ (r.a+1)<9223372036854775808) (zaa (zex fuel ([10]:List UInt8)) (fun x10=>(zaz (~~~x10) (fun x11=>(zaz (ofT x11) (fun x12=>(some (inr (x12,(Rd.mk r.s (r.a+1) r.e r.q))))))))))) else(zda (τ:=Bool) (bif ((((x2).toNat:Nat):Int)==42) then(some (inl (((((x2).toNat:Nat):Int)==42)))) else(bif ((((x2).toNat:Nat):Int)==43) then(some (inl (((((x2).toNat:Nat):Int)==43)))) else(bif ((((x2).toNat:Nat):Int)==63) then(some (inl (((((x2).toNat:Nat):Int)==63)))) else(some (inl (((((x2).toNat:Nat):Int)==123))))))) (fun j2=>(bif j2 then(zaa (zhb r.a 92 r) (fun x13=>(some (inl (x13))))) else(zda (τ:=Bool) (bif ((((x2).toNat:Nat):Int)==94) then(some (inl (((((x2).toNat:Nat):Int)==94)))) else(some (inl (((((x2).toNat:Nat):Int)==36))))) (fun j3=>(bif j3 then(zaa (zhb r.a 95 r) (fun x14=>(some (inl (x14))))) else(some (inl (r))))))))))))))) (fun j1=>(zaz (zhe x1) (fun x15=>(bif x15.2 then(chk (-9223372036854775808<=(j1.a+2)/\ (j1.a+2)<9223372036854775808) (zaz (ofT x15.1) (fun x16=>(some (x16,(Rd.mk j1.s (j1.a+2) j1.e j1.q)))))) else(zaa (zas x1 zat) (fun x17=>(bif (x17.2.2 !=0) then(zaa (zhb j1.a 90 j1) (fun x18=>(some (zax,x18)))) else(chk (-9223372036854775808<=(j1.a+x17.2.1)/\ (j1.a+x17.2.1)<9223372036854775808) (zaa (zkk fuel x17.1) (fun x19=>(some (x19,(Rd.mk j1.s (j1.a+x17.2.1) j1.e j1.q)))))))))))))))))
theorem ent155:Ent prog 155:=enters_of Tryz.func155 (by kernel_rfl) rfl
theorem atom_rd (fuel:Nat)(g:Int->Rd->Option (Tr×Rd))(r:Rd)(hg: ∀(k:Int)(r:Rd)(y:Tr×Rd),g k r=some y->RdC prog 184 [.raw (.int .i64 k)] r (.A y.1) y.2)(y:Tr×Rd)(h:zhf fuel g r=some y):RdC prog 155 [] r (.A (y.1:Tr)) y.2:=by
 obtain⟨d,hd⟩: ∃d,Tryz.f155.body=some d:=⟨_,rfl⟩;refine qci mix Tryz.func155 hd ent155 rfl (by first|rfl|exact(zak (Enc.clo _))) (fun k0 hk0=> ?_);cases hd;unfold zhf at h;refine zbt (by dsimp only[zai,Tryz.f155,length_cons,length_nil,zero_add,Nat.reduceAdd,Nat.reduceSub,List.replicate,cons_append,nil_append]) (show rdS r.q r=(.B [(110,[.s r.s,.i r.a,.i r.e,(zbb 2 r.q)]),((zh r.q).1,[]),((zh r.q).1,(zh r.q).2)]) from rfl) ?_;refine zj (zb ?_);refine zdl zN ?_;refine zj ?_;refine zie (k0:=k0) (id:=1) 8 (by kernel_rfl) (by kernel_rfl) ?_;refine zfo ?_;iterate 2 refine h_o (a:= .ptr 0 0) ?_
 refine h_o (a:= .s r.s) ?_;refine zfo ?_;refine h_o (a:= .ptr 0 0) ?_;refine h_o (a:= .ptr 0 1) ?_;refine h_o (a:= .i r.a) ?_;refine zgs ?_;obtain⟨g1,h⟩:=zk h;obtain⟨x1,hx1,h⟩:=zn h;refine w_o (a:= .s x1) (h:=zbl (by rw[<-hx1];exact(zns (l:=r.s) g1 rfl rfl rfl rfl))) ?_;refine zah ?_;refine zau h (bz 0 136 87112285931760246646623899502532662132722) (fun j1=>[]) (fun j1=>(.B [(110,[.s j1.s,.i j1.a,.i j1.e,(zbb 2 j1.q)]),((zh r.q).1,[]),((zh j1.q).1,(zh j1.q).2),(27,zN)])) ?_ ?_;intro or1 h hr1;refine zr [.m _] ?_;obtain⟨g2,h⟩:=zk h;obtain⟨x2,hx2,h⟩:=zn h;refine w_o (a:= .u (((x2).toNat:Nat):Int)) (h:=zbl (by rw[<-hx2];exact(zdv (l:=x1) (n:=(0:Int)) g2 rfl rfl rfl rfl))) ?_;refine zy ?_;refine zr [.v (.b ((((x2).toNat:Nat):Int)==40)),.m _] ?_;refine zbv h (fun hc1 h=> ?_) (fun hc1 h=> ?_);refine zj ?_;refine zr [.m _] ?_;obtain⟨x3,hx3,h⟩:=zn h;refine zbx (args':=[.s x1,.s ([40,63,58]:List UInt8)]) (r:= .b x3) (by rw[<-hx3];exact(zts x1 ([40,63,58]:List UInt8))) ?_;refine zbv h (fun hc2 h=> ?_) (fun hc2 h=> ?_);refine zgt (zb ?_);refine zah ?_;obtain⟨x4,hx4,h⟩:=zm h;refine zfj (r:= .A (x4.1:Tr)) (U':=(.B [(110,[.s x4.2.s,.i x4.2.a,.i x4.2.e,(zbb 4 x4.2.q)]),((zh r.q).1,[]),((zh r.q).1,[]),(27,zN),((zh x4.2.q).1,(zh x4.2.q).2)])) ((hg 3 r x4 hx4) _ 2 (by decide) rfl rfl) rfl rfl ⟨rfl,rfl⟩ (by dsimp only[zad,List.set]) ?_;refine zfs 8 (Enc.cells (x4.1:Tr)) ?_;refine zjo 136 [(2,.ptr 3 0)] (U':=(.B [(110,[.s x4.2.s,.i x4.2.a,.i x4.2.e,(zbb 2 x4.2.q)]),((zh r.q).1,[]),((zh x4.2.q).1,(zh x4.2.q).2),(27,(Enc.cells (x4.1:Tr)))])) (wmk (bl 136 4) 2 [] [4,3] 1 hk0 (zao rfl (zmo fun _=>rfl) zi (zg rfl (zp _ _ _) (zg rfl (zal _ _ _ (Enc.clo _)) zag)) rfl)) ?_;replace h:=zaq h hr1;have he1:=Option.some.inj h;subst he1;exact zgf (a:= .A (x4.1:Tr)) [2] 1 rfl rfl (zo _ _ _ (zak (Enc.clo _))) (zao rfl (zmo fun _=>rfl) zi (zg rfl (zp _ _ _) zag) rfl);refine zgt (zb ?_);refine zah ?_;obtain⟨x5,hx5,h⟩:=zm h;refine zfj (r:= .A (x5.1:Tr)) (U':=(.B [(110,[.s x5.2.s,.i x5.2.a,.i x5.2.e,(zbb 4 x5.2.q)]),((zh r.q).1,[]),((zh r.q).1,[]),(27,zN),((zh x5.2.q).1,(zh x5.2.q).2)])) ((hg 1 r x5 hx5) _ 2 (by decide) rfl rfl) rfl rfl ⟨rfl,rfl⟩ (by dsimp only[zad,List.set]) ?_;obtain⟨g3,h⟩:=zk h;obtain⟨x6,hx6,h⟩:=zn h;refine zbx (args':=[.A (x5.1:Tr)]) (r:= .A (x6:Tr)) (by rw[<-hx6];exact(qij x5.1 g3)) ?_;refine zfs 8 (Enc.cells (x6:Tr)) ?_;refine zjo 136 [(2,.ptr 3 0)] (U':=(.B [(110,[.s x5.2.s,.i x5.2.a,.i x5.2.e,(zbb 2 x5.2.q)]),((zh r.q).1,[]),((zh x5.2.q).1,(zh x5.2.q).2),(27,(Enc.cells (x6:Tr)))])) (wmk (bl 136 4) 2 [] [4,3] 1 hk0 (zao rfl (zmo fun _=>rfl) zi (zg rfl (zp _ _ _) (zg rfl (zal _ _ _ (Enc.clo _)) zag)) rfl)) ?_;replace h:=zaq h hr1;have he2:=Option.some.inj h;subst he2;exact zgf (a:= .A (x6:Tr)) [2] 1 rfl rfl (zo _ _ _ (zak (Enc.clo _))) (zao rfl (zmo fun _=>rfl) zi (zg rfl (zp _ _ _) zag) rfl);refine zr [.v (.b ((((x2).toNat:Nat):Int)==91)),.m _] ?_;refine zbv h (fun hc3 h=> ?_) (fun hc3 h=> ?_);refine zr [.m _] ?_;obtain⟨x7,hx7,h⟩:=zm h;refine zbx (qbm fuel x1 x7 hx7) ?_;refine w_r [.m _,.x _,.x _,.x _] ?_;refine zdl (Enc.cells (0#256:BS)) ?_;refine zfs 4 (Enc.cells (x7.1:BS)) ?_;refine w_r [.m _,.m _] ?_;refine zj ?_;refine zr [.m _,.v (.b (x7.2.2 !=0))] ?_;refine zbv h (fun hc4 h=> ?_) (fun hc4 h=> ?_);refine zgt (zb ?_);refine w_r [.m _,.m _,.v (.ptr 0 0),.v (.ptr 0 1),.v (.i r.a)] ?_;refine w_r [.m _] ?_;obtain⟨g4,h⟩:=zk h;refine zjg g4 ?_;refine zah ?_;obtain⟨x8,hx8,h⟩:=zm h;refine zfj (r:= .tup []) (U':=(.B [(110,[.s x8.s,.i x8.a,.i x8.e,(zbb 5 x8.q)]),((zh r.q).1,[]),((zh r.q).1,[]),(27,zN),(24,(Enc.cells (x7.1:BS))),((zh x8.q).1,(zh x8.q).2)])) ((zmh (r.a+x7.2.1) x7.2.2 r x8 hx8) _ 2 (by decide) rfl rfl) rfl rfl ⟨rfl,rfl⟩ (by dsimp only[zad,List.set]) ?_;refine zjo 136 [(2,.ptr 3 0)] (U':=(.B [(110,[.s x8.s,.i x8.a,.i x8.e,(zbb 2 x8.q)]),((zh r.q).1,[]),((zh x8.q).1,(zh x8.q).2),(27,zN),(24,(Enc.cells (x7.1:BS)))])) (wmk (bl 136 4) 2 [] [5,3,4] 1 hk0 (zao rfl (zmo fun _=>rfl) zi (zg rfl (zp _ _ _) (zg rfl rfl (zg rfl (zal _ _ _ (Enc.clo _)) zag))) rfl)) ?_;refine zj (zb ?_);refine z0s zax ?_;refine zfs 8 (Enc.cells (zax:Tr)) ?_;replace h:=zaq h hr1;have he3:=Option.some.inj h;subst he3;exact zgf (a:= .A (zax:Tr)) [2] 1 rfl rfl (zo _ _ _ (zak (Enc.clo _))) (zao rfl (zmo fun _=>rfl) zi (zg rfl (zp _ _ _) zag) rfl);refine zr [.m _,.v (.ptr 0 0),.v (.ptr 0 1),.v (.i r.a),.m _] ?_;obtain⟨g5,h⟩:=zk h;refine zjg g5 ?_;refine w_r [.v (.ptr 0 0),.v (.ptr 0 1)] ?_;refine zoc (U'':=(.B [(110,[.s r.s,.i (r.a+x7.2.1),.i r.e,(zbb 2 r.q)]),((zh r.q).1,[]),((zh r.q).1,(zh r.q).2),(27,zN),(24,(Enc.cells (x7.1:BS)))])) (h:=zco (n:=1) rfl rfl rfl rfl rfl ⟨rfl,rfl,le_of_ble_eq_true rfl,by decide⟩) ?_;refine zr [.v (.A (x7.1:BS))] ?_;obtain⟨x9,hx9,h⟩:=zn h;refine zbx (args':=[.A (x7.1:BS)]) (r:= .A (x9:Tr)) (by rw[<-hx9];exact(k_of x7.1)) ?_;refine zfs 8 (Enc.cells (x9:Tr)) ?_;replace h:=zaq h hr1;have he4:=Option.some.inj h;subst he4;exact zgf (a:= .A (x9:Tr)) [2] 1 rfl rfl (zo _ _ _ (zak (Enc.clo _))) (zao rfl (zmo fun _=>rfl) zi (zg rfl (zp _ _ _) zag) rfl);refine zr [.v (.b ((((x2).toNat:Nat):Int)==46)),.m _] ?_;refine zbv h (fun hc5 h=> ?_) (fun hc5 h=> ?_);refine zr [.m _,.v (.ptr 0 0),.v (.ptr 0 1),.v (.i r.a)] ?_;obtain⟨g6,h⟩:=zk h;refine zjg g6 ?_;refine w_r [.v (.ptr 0 0),.v (.ptr 0 1)] ?_;refine zoc (U'':=(.B [(110,[.s r.s,.i (r.a+1),.i r.e,(zbb 2 r.q)]),((zh r.q).1,[]),((zh r.q).1,(zh r.q).2),(27,zN)])) (h:=zco (n:=1) rfl rfl rfl rfl rfl ⟨rfl,rfl,le_of_ble_eq_true rfl,by decide⟩) ?_;refine zj (zb ?_);refine w_o (a:= .F (([10]:List UInt8):List UInt8)) (h:=zbl (zhc (α:=UInt8) (l:=([10]:List UInt8)) (cs:=[.u 10]) rfl rfl)) ?_;obtain⟨x10,hx10,h⟩:=zm h;refine zbx (zhn fuel ([10]:List UInt8) x10 hx10) ?_;obtain⟨x11,hx11,h⟩:=zn h;refine zbx (args':=[.A (x10:BS)]) (r:= .A (x11:BS)) (by rw[<-hx11];exact(qep x10)) ?_;obtain⟨x12,hx12,h⟩:=zn h;refine zbx (args':=[.A (x11:BS)]) (r:= .A (x12:Tr)) (by rw[<-hx12];exact(k_of x11)) ?_;refine zfs 8 (Enc.cells (x12:Tr)) ?_;replace h:=zaq h hr1;have he5:=Option.some.inj h;subst he5;exact zgf (a:= .A (x12:Tr)) [2] 1 rfl rfl (zo _ _ _ (zak (Enc.clo _))) (zao rfl (zmo fun _=>rfl) zi (zg rfl (zp _ _ _) zag) rfl);refine zau h (bz 0 136 87112285931760246646623899502532657938418) (fun j2=>[(75,.b j2)]) (fun j2=>(.B [(110,[.s r.s,.i r.a,.i r.e,(zbb 2 r.q)]),((zh r.q).1,[]),((zh r.q).1,(zh r.q).2),(27,zN)])) ?_ ?_;intro or2 h hr2;refine zr [.v (.b ((((x2).toNat:Nat):Int)==42)),.m _] ?_;refine zbv h (fun hc6 h=> ?_) (fun hc6 h=> ?_);refine zc (o:=or2) (((((x2).toNat:Nat):Int)==42)) h ?_;exact zbh (bl 136 37778931862957165903885);refine zr [.v (.b ((((x2).toNat:Nat):Int)==43)),.m _] ?_;refine zbv h (fun hc7 h=> ?_) (fun hc7 h=> ?_);refine zc (o:=or2) (((((x2).toNat:Nat):Int)==43)) h ?_;exact zbh (bl 136 37778931862957165903885);refine zr [.v (.b ((((x2).toNat:Nat):Int)==63)),.m _] ?_;refine zbv h (fun hc8 h=> ?_) (fun hc8 h=> ?_);refine zc (o:=or2) (((((x2).toNat:Nat):Int)==63)) h ?_;exact zbh (bl 136 37778931862957165903885);refine zb (k0:=k0) (id:=20) ?_;refine w_r [.v (.b ((((x2).toNat:Nat):Int)==123)),.m _] ?_;refine zc (o:=or2) (((((x2).toNat:Nat):Int)==123)) h ?_;exact zbh (bl 136 37778931862957165903885);intro j2 h;refine zdw ?_;refine zbv h (fun hc9 h=> ?_) (fun hc9 h=> ?_);refine zb (k0:=k0) (id:=21) ?_;refine w_r [.m _,.m _,.v (.ptr 0 0),.v (.ptr 0 1),.v (.i r.a)] ?_;obtain⟨x13,hx13,h⟩:=zm h;refine zfj (r:= .tup []) (U':=(.B [(110,[.s x13.s,.i x13.a,.i x13.e,(zbb 4 x13.q)]),((zh r.q).1,[]),((zh r.q).1,[]),(27,zN),((zh x13.q).1,(zh x13.q).2)])) ((zmh r.a 92 r x13 hx13) _ 2 (by decide) rfl rfl) rfl rfl ⟨rfl,rfl⟩ (by dsimp only[zad,List.set]) ?_;refine zc (o:=or1) (x13) h ?_;exact(wmk (bl 136 13) 2 [] [4,3] 1 hk0 (zao rfl (zmo fun _=>rfl) zi (zg rfl (zp _ _ _) (zg rfl rfl zag)) rfl));refine zau h [22,75,86,87,88] (fun j3=>[(86,.b j3)]) (fun j3=>(.B [(110,[.s r.s,.i r.a,.i r.e,(zbb 2 r.q)]),((zh r.q).1,[]),((zh r.q).1,(zh r.q).2),(27,zN)])) ?_ ?_;intro or3 h hr3;refine zr [.v (.b ((((x2).toNat:Nat):Int)==94)),.m _] ?_;refine zbv h (fun hc10 h=> ?_) (fun hc10 h=> ?_);refine zc (o:=or3) (((((x2).toNat:Nat):Int)==94)) h ?_;exact zbh (bl 136 87112285931759782381330235621972409057279);refine zb (k0:=k0) (id:=23) ?_;refine w_r [.v (.b ((((x2).toNat:Nat):Int)==36)),.m _] ?_;refine zc (o:=or3) (((((x2).toNat:Nat):Int)==36)) h ?_;exact zbh (bl 136 87112285931759782381330235621972409057279);intro j3 h;refine zdw ?_;refine zbv h (fun hc11 h=> ?_) (fun hc11 h=> ?_);refine zb (k0:=k0) (id:=24) ?_;refine w_r [.m _,.m _,.v (.ptr 0 0),.v (.ptr 0 1),.v (.i r.a)] ?_;obtain⟨x14,hx14,h⟩:=zm h;refine zfj (r:= .tup []) (U':=(.B [(110,[.s x14.s,.i x14.a,.i x14.e,(zbb 4 x14.q)]),((zh r.q).1,[]),((zh r.q).1,[]),(27,zN),((zh x14.q).1,(zh x14.q).2)])) ((zmh r.a 95 r x14 hx14) _ 2 (by decide) rfl rfl) rfl rfl ⟨rfl,rfl⟩ (by dsimp only[zad,List.set]) ?_;refine zc (o:=or1) (x14) h ?_;exact(wmk (bl 136 13) 2 [] [4,3] 1 hk0 (zao rfl (zmo fun _=>rfl) zi (zg rfl (zp _ _ _) (zg rfl rfl zag)) rfl));refine zc (o:=or1) (r) h ?_;exact zbh (bl 136 13);intro j1 h;refine zdw ?_;refine zj ?_;refine zr [.m _] ?_;obtain⟨x15,hx15,h⟩:=zn h;refine zbx (args':=[.s x1]) (r:= .tup [.A (x15.1:BS),.b x15.2]) (by rw[<-hx15];exact(qel x1)) ?_;refine w_r [.m _,.x _,.x _] ?_;refine zdl (Enc.cells (0#256:BS)) ?_;refine zfs 4 (Enc.cells (x15.1:BS)) ?_;refine zah ?_;refine zr [.m _] ?_;refine zbv h (fun hc12 h=> ?_) (fun hc12 h=> ?_);refine zr [.m _,.v (.ptr 0 0),.v (.ptr 0 1),.v (.i j1.a)] ?_;obtain⟨g7,h⟩:=zk h;refine zjg g7 ?_;refine w_r [.v (.ptr 0 0),.v (.ptr 0 1)] ?_;refine zoc (U'':=(.B [(110,[.s j1.s,.i (j1.a+2),.i j1.e,(zbb 2 j1.q)]),((zh r.q).1,[]),((zh j1.q).1,(zh j1.q).2),(27,zN),(24,(Enc.cells (x15.1:BS)))])) (h:=zco (n:=1) rfl rfl rfl rfl rfl ⟨rfl,rfl,le_of_ble_eq_true rfl,by decide⟩) ?_;refine zr [.v (.A (x15.1:BS))] ?_;obtain⟨x16,hx16,h⟩:=zn h;refine zbx (args':=[.A (x15.1:BS)]) (r:= .A (x16:Tr)) (by rw[<-hx16];exact(k_of x15.1)) ?_;refine zfs 8 (Enc.cells (x16:Tr)) ?_;have he6:=Option.some.inj h;subst he6;exact zgf (a:= .A (x16:Tr)) [2] 1 rfl rfl (zo _ _ _ (zak (Enc.clo _))) (zao rfl (zmo fun _=>rfl) zi (zg rfl (zp _ _ _) zag) rfl);refine zr [.m _] ?_;refine zbx (r:= .A (zat:BS)) z0m ?_;obtain⟨x17,hx17,h⟩:=zm h;refine zbx (ztx x1 zat x17 hx17) ?_;refine w_r [.m _,.x _,.x _,.x _,.m _] ?_;refine w_r [.m _,.m _] ?_;refine zj ?_;refine zr [.m _,.v (.b (x17.2.2 !=0))] ?_;refine zbv h (fun hc13 h=> ?_) (fun hc13 h=> ?_);refine zgt (zb ?_);refine w_r [.m _,.m _,.v (.ptr 0 0),.v (.ptr 0 1),.v (.i j1.a)] ?_;obtain⟨x18,hx18,h⟩:=zm h;refine zfj (r:= .tup []) (U':=(.B [(110,[.s x18.s,.i x18.a,.i x18.e,(zbb 5 x18.q)]),((zh r.q).1,[]),((zh j1.q).1,[]),(27,zN),(24,(Enc.cells (x15.1:BS))),((zh x18.q).1,(zh x18.q).2)])) ((zmh j1.a 90 j1 x18 hx18) _ 2 (by decide) rfl rfl) rfl rfl ⟨rfl,rfl⟩ (by dsimp only[zad,List.set]) ?_;refine zjo 136 [(2,.ptr 3 0)] (U':=(.B [(110,[.s x18.s,.i x18.a,.i x18.e,(zbb 2 x18.q)]),((zh r.q).1,[]),((zh x18.q).1,(zh x18.q).2),(27,zN),(24,(Enc.cells (x15.1:BS)))])) (wmk (bl 136 4) 2 [] [5,3,4] 1 hk0 (zao rfl (zmo fun _=>rfl) zi (zg rfl (zp _ _ _) (zg rfl rfl (zg rfl (zal _ _ _ (Enc.clo _)) zag))) rfl)) ?_;refine zj (zb ?_);refine z0s zax ?_;refine zfs 8 (Enc.cells (zax:Tr)) ?_;have he7:=Option.some.inj h;subst he7;exact zgf (a:= .A (zax:Tr)) [2] 1 rfl rfl (zo _ _ _ (zak (Enc.clo _))) (zao rfl (zmo fun _=>rfl) zi (zg rfl (zp _ _ _) zag) rfl);refine zr [.m _,.v (.ptr 0 0),.v (.ptr 0 1),.v (.i j1.a),.m _] ?_;obtain⟨g8,h⟩:=zk h;refine zjg g8 ?_;refine w_r [.v (.ptr 0 0),.v (.ptr 0 1)] ?_;refine zoc (U'':=(.B [(110,[.s j1.s,.i (j1.a+x17.2.1),.i j1.e,(zbb 2 j1.q)]),((zh r.q).1,[]),((zh j1.q).1,(zh j1.q).2),(27,zN),(24,(Enc.cells (x15.1:BS)))])) (h:=zco (n:=1) rfl rfl rfl rfl rfl ⟨rfl,rfl,le_of_ble_eq_true rfl,by decide⟩) ?_;refine zr [.m _] ?_;obtain⟨x19,hx19,h⟩:=zm h;refine zbx (z4f fuel x17.1 x19 hx19) ?_;refine zfs 8 (Enc.cells (x19:Tr)) ?_;have he8:=Option.some.inj h;subst he8;exact zgf (a:= .A (x19:Tr)) [2] 1 rfl rfl (zo _ _ _ (zak (Enc.clo _))) (zao rfl (zmo fun _=>rfl) zi (zg rfl (zp _ _ _) zag) rfl)
end Go.Ab
