import Derived.Test.YtjkcellkmmfkdaaGreatDoorZhW1
set_option linter.all false
open Nat (le_refl)
open List (mem_of_getElem? getElem?_eq_getElem getElem?_append_left mem_cons getElem?_set_ne getElem?_set_self)
namespace Go.Ab
open Go Go.RowKit Go.Fwd
theorem zyj {js:List Nat} {n i:Nat} (h:i<js.length):fwN js n i=js[i]:=by simp[fwN,h]
theorem qik {js:List Nat} {n i:Nat} (h:js.length<=i):fwN js n i=n+(i-js.length):=by simp[fwN,h]
theorem zyg {IT:IterP} (hIT:ITMono IT) {P:Program} {f:FuncId} {args args0:List AV} {r r0:AV} {bs bs':List (TypeId×List AV)} {τ τ':St} (js:List Nat)
 (h:Snd IT P f args0 ⟨bs,[],[],0,false⟩ r0 ⟨bs',[],[],0,false⟩) (hargs:zv 0 (bwz js) args=args0) (hr0:zgv 0 (fwz js τ.boxes.length) r0=r)
 (hj:js.length=bs.length) (hnd:js.Nodup) (hle:bs.length<=bs'.length)
 (hb: ∀i t cs,bs[i]? =some (t,cs)-> ∃C,τ.boxes[fwN js 0 i]? =some (t,C)/\ zv 0 (bwz js) C=cs/\ C≠[])
 (hb1: ∀i t cs,bs'[i]? =some (t,cs)->τ'.boxes[fwN js τ.boxes.length i]? =some (t,zv 0 (fwz js τ.boxes.length) cs))
 (hb2: ∀s,s<τ.boxes.length->s∉js->τ'.boxes[s]? =τ.boxes[s]?) (hlen:τ'.boxes.length=τ.boxes.length+(bs'.length-bs.length))
 (hl:τ'.lens=τ.lens) (he:τ'.elems=τ.elems):Snd IT P f args τ r τ':=by
 refine⟨h.1,fun X vs hI hr=> ?_⟩;have hXl:=hI.κlen
 -- where the boxes are
 have hjs: ∀i (hi:i<js.length),∃t C,τ.boxes[js[i]]? =some (t,C)/\ (∃cs,bs[i]? =some (t,cs)/\ zv 0 (bwz js) C=cs)/\ C≠[]:=fun i hi=>by
  have hi2:i<bs.length:=by omega
  obtain⟨C,h1,h2,h3⟩:=hb i bs[i].1 bs[i].2 (getElem?_eq_getElem hi2);rw[zyj hi] at h1;exact⟨_,C,h1,⟨_,getElem?_eq_getElem hi2,h2⟩,h3⟩
 have hjlt: ∀i (hi:i<js.length),js[i]<X.κ.length:=fun i hi=>by
  obtain⟨t,C,h1,_⟩:=hjs i hi;rw[hXl];exact(List.getElem?_eq_some_iff.1 h1).1
 let κ0:List Nat:=js.map fun j=>X.κ.getD j 0
 have hκ0l:κ0.length=js.length:=by simp[κ0]
 have hκ0: ∀i (hi:i<js.length) b,κ0[i]? =some b->X.κ[js[i]]? =some b:=fun i hi b hb=>by
  have:=hjlt i hi;simp only[κ0,List.getElem?_map,getElem?_eq_getElem hi,Option.map_some,List.getD_eq_getElem?_getD,getElem?_eq_getElem this,Option.getD_some,Option.some.injEq] at hb;rw[getElem?_eq_getElem this,hb]
 have hκ0i: ∀i (hi:i<js.length) b,X.κ[js[i]]? =some b->κ0[i]? =some b:=fun i hi b hb=>by
  have:=hjlt i hi;rw[getElem?_eq_getElem this] at hb;simp only[κ0,List.getElem?_map,getElem?_eq_getElem hi,Option.map_some,List.getD_eq_getElem?_getD,getElem?_eq_getElem this,Option.getD_some];exact hb
 have hκm: ∀b∈κ0,b∈X.κ:=fun b hb=>by
  obtain⟨i,hi⟩:=List.mem_iff_getElem?.1 hb;have hl:i<js.length:=by rw[<-hκ0l];exact(List.getElem?_eq_some_iff.1 hi).1
  exact mem_of_getElem? (hκ0 i hl b hi)
 let X0:Cx:=⟨X.F,κ0,[],[],X.w,fun _=>False,fun _ _=>False⟩
 have hg0:(∀s off v,Rep IT X (.ptr s off) v->Rep IT X0 ((bwz js).1 s off) v)/\ ∀s off n sz f v,Rep IT X (.bsl s off n sz f) v->Rep IT X0 ((bwz js).2 s off n sz) v:=by
  have key: ∀s b:Nat,js.contains s=true->X.κ[s]? =some b->κ0[js.idxOf s]? =some b:=fun s b hs hb=>by
   have hm:s∈js:=by simpa using hs
   have hlt:=List.idxOf_lt_length_of_mem hm;refine hκ0i _ hlt b ?_;rw[List.getElem_idxOf hlt];exact hb
  refine⟨?_,?_⟩
  ·rintro s off v ⟨b,hb,rfl⟩;show Rep IT X0 (if js.contains s then .ptr (js.idxOf s) off else .top) _;split
   ·rename_i hs;exact⟨b,key s b hs hb,rfl⟩
   ·rw[Rep];trivial
  ·rintro s off n sz f v ⟨b,cap,cur,t,hb,rfl,hcap,hful,hrow,hfit⟩;show Rep IT X0 (if js.contains s then .bsl (js.idxOf s) off n sz false else .top) _;split
   ·rename_i hs;exact⟨b,cap,cur,t,key s b hs hb,rfl,hcap,(fun h=>by cases h),hrow,hfit⟩
   ·rw[Rep];trivial
 have hmL:=zcx (X:=X) (Y:=X0) (m:=0) hIT (fun _ _ h=>h) rfl (fun s hs=>by omega) hg0;have hr':zbe IT X0 args0 vs:=hargs▸hmL args vs hr
 -- which numbers say the same block
 have hsame: ∀i j (hi:i<js.length) (hj2:j<js.length) b,κ0[i]? =some b->κ0[j]? =some b->i=j:=fun i j hi hj2 b h1 h2=>by
  apply Classical.byContradiction;intro hne;have hne2:js[i]≠js[j]:=fun e=>hne ((List.getElem_inj hnd).1 e);obtain⟨t1,C1,a1,_,c1⟩:=hjs i hi;obtain⟨t2,C2,a2,_,c2⟩:=hjs j hj2;rcases hI.κnd _ _ b (hκ0 i hi b h1) (hκ0 j hj2 b h2) hne2 with⟨t,h3⟩|⟨t,h3⟩
  ·rw[a1] at h3;cases h3;exact c1 rfl
  ·rw[a2] at h3;cases h3;exact c2 rfl
 have hI0:Inv IT ⟨bs,[],[],0,false⟩ X0:={
  lens:=rfl,elems:=rfl,κlen:=by show κ0.length=bs.length;omega
  κnd:=fun s1 s2 b1 h1 h2 h3=>by
   have e1:=(List.getElem?_eq_some_iff.1 h1).1;have e2:=(List.getElem?_eq_some_iff.1 h2).1;have e1:s1<κ0.length:=e1;have e2:s2<κ0.length:=e2;exact absurd (hsame s1 s2 (by omega) (by omega) b1 h1 h2) h3
  box:=fun i b t cs h1 h2=>by
   have hi:i<js.length:=by rw[hj];exact(List.getElem?_eq_some_iff.1 h2).1
   obtain⟨t1,C,a1,⟨cs1,a2,a3⟩,a4⟩:=hjs i hi;have h2:bs[i]? =some (t,cs):=h2;rw[h2] at a2;cases a2;obtain⟨us,zs,u1,u2,u3⟩:=hI.box _ b t C (hκ0 i hi b h1) a1;exact⟨us,zs,u1,a3▸hmL C us u2,u3⟩
  κF:=fun i b t cs h1 h2 h3=>by
   have hi:i<js.length:=by rw[hj];exact(List.getElem?_eq_some_iff.1 h2).1
   obtain⟨t1,C,a1,_,a4⟩:=hjs i hi;exact hI.κF _ b t1 C (hκ0 i hi b h1) a1 a4
  βlen:=rfl,βnd:=List.nodup_nil
  βκ:=fun r h=>by simp[X0] at h
  row:=fun s r L h=>by simp[X0] at h
  Ok:=fun b h=>h.elim
  Fcell:=hI.Fcell
  gv:=hI.gv}
 refine(h.2 X0 vs hI0 hr').mono ?_;rintro e w' ⟨v,Y,rfl,rfl,hE,hIY,hv⟩;have hYl:Y.κ.length=bs'.length:=hIY.κlen;have hYκ: ∀i (hi:i<js.length) b,Y.κ[i]? =some b->X.κ[js[i]]? =some b:=fun i hi b hb=>by
  obtain⟨b0,h0⟩: ∃b0,κ0[i]? =some b0:=⟨_,getElem?_eq_getElem (by omega)⟩;have:=hE.κ i b0 h0;rw[hb] at this;cases this;exact hκ0 i hi b h0
 have hYnew: ∀i b:Nat,js.length<=i->Y.κ[i]? =some b->b∉κ0->X.w.heap.size<=b:=fun i b hi hb hn=>by
  rcases hE.κnew b (mem_of_getElem? hb) with h|h
  ·exact absurd h hn
  ·exact h
 have hblk: ∀b,b<X.w.heap.size->b∉κ0->Y.w.heap[b]? =X.w.heap[b]? :=fun b hb hn=>hE.frame b hb hn (by simp[X0]);have hFn: ∀b' i,Y.F b' i->X.F b' i \/X.w.heap.size<=b' \/b'∈κ0:=fun b' i hf=>by
  rcases hE.Fnew b' i hf with h|h|⟨q,hq,_⟩|h
  ·exact .inl h
  ·exact .inr (.inl h)
  ·simp[X0] at hq
  ·exact .inr (.inr h)
 let K:List Nat:=X.κ++Y.κ.drop js.length
 let Z:Cx:=⟨Y.F,K,X.β,X.lens,Y.w,X.O,X.C⟩
 have hKo: ∀s b:Nat,X.κ[s]? =some b->K[s]? =some b:=fun s b hs=>by
  show(X.κ++_)[s]? =some b
  rw[getElem?_append_left (List.getElem?_eq_some_iff.1 hs).1];exact hs
 have hKi: ∀s b:Nat,K[s]? =some b->(s<τ.boxes.length/\ X.κ[s]? =some b) \/(τ.boxes.length<=s/\ Y.κ[js.length+(s-τ.boxes.length)]? =some b):=fun s b hs=>by
  have hs:(X.κ++Y.κ.drop js.length)[s]? =some b:=hs;rcases Nat.lt_or_ge s X.κ.length with hlt|hge
  ·rw[getElem?_append_left hlt] at hs;exact .inl ⟨by omega,hs⟩
  ·rw[List.getElem?_append_right hge,List.getElem?_drop,hXl] at hs;exact .inr ⟨by omega,hs⟩
 have hKf: ∀i b:Nat,Y.κ[i]? =some b->K[fwN js τ.boxes.length i]? =some b:=fun i b hb=>by
  rcases Nat.lt_or_ge i js.length with hlt|hge
  ·rw[zyj hlt];exact hKo _ b (hYκ i hlt b hb)
  ·rw[qik hge]
   show(X.κ++Y.κ.drop js.length)[_]? =some b
   rw[List.getElem?_append_right (by omega),List.getElem?_drop,show js.length+(τ.boxes.length+(i-js.length)-X.κ.length)=i by omega];exact hb
 have hg1:(∀s off v,Rep IT Y (.ptr s off) v->Rep IT Z ((fwz js τ.boxes.length).1 s off) v)/\ ∀s off n sz f v,Rep IT Y (.bsl s off n sz f) v->Rep IT Z ((fwz js τ.boxes.length).2 s off n sz) v:=by
  refine⟨?_,?_⟩
  ·rintro s off v ⟨b,hb,rfl⟩;exact⟨b,hKf s b hb,rfl⟩
  ·rintro s off n sz f v ⟨b,cap,cur,t,hb,rfl,hcap,hful,hrow,hfit⟩;exact⟨b,cap,cur,t,hKf s b hb,rfl,hcap,(fun h=>by cases h),hrow,hfit⟩
 have hrep:=zjg (X:=Y) (Y:=Z) (m:=0) hIT (fun _ _ h=>h) rfl (fun s hs=>by omega) hg1;have hrepL:=zcx (X:=Y) (Y:=Z) (m:=0) hIT (fun _ _ h=>h) rfl (fun s hs=>by omega) hg1
 have hX:Ext X Z:={
  os:=hE.os,tape:=hE.tape,output:=hE.output,size:=hE.size,drawn:=hE.drawn,F:=hE.F,cell:=hE.cell
  κ:=hKo
  lens:=fun s L h=>⟨L,h,le_refl _,fun _=>rfl⟩
  blk:=fun s' b' hs cur' t' f' hc=>by
   by_cases e:b'∈κ0
   ·obtain⟨i,hi⟩:=List.mem_iff_getElem?.1 e;exact hE.blk i b' hi cur' t' f' hc
   ·exact⟨cur',(hblk b' (hI.κlt (mem_of_getElem? hs)) e).trans hc,rfl⟩
  szs:=hE.szs
  frame:=fun b' hb' hk _=>hblk b' hb' fun e=>hk (hκm b' e)
  κnew:=fun b hb=>by
   obtain⟨s,hs⟩:=List.mem_iff_getElem?.1 hb;rcases hKi s b hs with⟨_,h⟩|⟨_,h⟩
   ·exact .inl (mem_of_getElem? h)
   ·by_cases e:b∈κ0
    ·exact .inl (hκm b e)
    ·exact .inr (hYnew _ b (by omega) h e)
  βnew:=fun r h=> .inl ⟨r,h,rfl⟩
  O:=rfl
  C:=rfl
  Fnew:=fun b' i hf=>by
   rcases hFn b' i hf with h|h|h
   ·exact .inl h
   ·exact .inr (.inl h)
   ·exact .inr (.inr (.inr (hκm b' h)))}
 -- a box of the others that says one of these blocks is empty
 have hdead: ∀(s':Nat) (t':TypeId) (c':List AV) (b:Nat),b∈κ0->X.κ[s']? =some b->s'∉js->τ.boxes[s']? =some (t',c')->c'=[]:=fun s' t' c' b hb h1 h2 h3=>by
  obtain⟨i,hi⟩:=List.mem_iff_getElem?.1 hb;have hl2:i<js.length:=by rw[<-hκ0l];exact(List.getElem?_eq_some_iff.1 hi).1
  obtain⟨t1,C,a1,_,a4⟩:=hjs i hl2;have hne:s'≠js[i]:=fun e=>h2 (e▸List.getElem_mem hl2);rcases hI.κnd s' _ b h1 (hκ0 i hl2 b hi) hne with⟨t2,h4⟩|⟨t2,h4⟩
  ·rw[h3] at h4;cases h4;rfl
  ·rw[a1] at h4;cases h4;exact absurd rfl a4
 have hmap_ne: ∀(cs:List AV),zv 0 (fwz js τ.boxes.length) cs≠[]->cs≠[]:=fun cs h e=>h (by rw[e,zv])
 -- the boxes behind it, by their numbers
 have new: ∀(s b:Nat) (t:TypeId) (cs:List AV),K[s]? =some b->τ'.boxes[s]? =some (t,cs)->(s<τ.boxes.length/\ s∉js/\ X.κ[s]? =some b/\ τ.boxes[s]? =some (t,cs)) \/(∃i c,s=fwN js τ.boxes.length i/\ Y.κ[i]? =some b/\ bs'[i]? =some (t,c)/\ cs=zv 0 (fwz js τ.boxes.length) c):=fun s b t cs hs hb'=>by
  rcases hKi s b hs with⟨hlt,h⟩|⟨hge,h⟩
  ·by_cases hm:s∈js
   ·right
    have hlt2:=List.idxOf_lt_length_of_mem hm;have hs2:js[js.idxOf s]=s:=List.getElem_idxOf hlt2;have hi2:js.idxOf s<bs'.length:=by omega
    refine⟨js.idxOf s,bs'[js.idxOf s].2,by rw[zyj hlt2,hs2],?_,?_,?_⟩
    ·have:κ0[js.idxOf s]? =some b:=hκ0i _ hlt2 b (by rw[hs2];exact h);exact hE.κ _ b this
    ·have h1:=hb1 (js.idxOf s) bs'[js.idxOf s].1 bs'[js.idxOf s].2 (getElem?_eq_getElem hi2);rw[zyj hlt2,hs2,hb'] at h1;cases h1;exact getElem?_eq_getElem hi2
    ·have h1:=hb1 (js.idxOf s) bs'[js.idxOf s].1 bs'[js.idxOf s].2 (getElem?_eq_getElem hi2);rw[zyj hlt2,hs2,hb'] at h1;cases h1;rfl
   ·left
    rw[hb2 s hlt hm] at hb';exact⟨hlt,hm,h,hb'⟩
  ·right
   have hi2:js.length+(s-τ.boxes.length)<bs'.length:=by
    have:=(List.getElem?_eq_some_iff.1 h).1;omega
   have hfs:fwN js τ.boxes.length (js.length+(s-τ.boxes.length))=s:=by rw[qik (by omega)];omega
   have h1:=hb1 _ _ _ (getElem?_eq_getElem hi2);rw[hfs,hb'] at h1;cases h1;exact⟨_,_,hfs.symm,h,getElem?_eq_getElem hi2,rfl⟩
 have get': ∀s b:Nat,K[s]? =some b-> ∃t cs,τ'.boxes[s]? =some (t,cs):=fun s b hs=>by
  have h1:=(List.getElem?_eq_some_iff.1 hs).1;have h1:s<(X.κ++Y.κ.drop js.length).length:=h1;rw[List.length_append,List.length_drop] at h1;exact⟨_,_,getElem?_eq_getElem (by omega)⟩
 refine⟨v,Z,rfl,rfl,hX,{lens:=hI.lens.trans hl.symm,elems:=hI.elems.trans he.symm,κlen:= ?_,κnd:= ?_,box:= ?_,κF:= ?_,βlen:=hI.βlen,βnd:=hI.βnd,βκ:= ?_,row:= ?_,Ok:= ?_,Fcell:=hIY.Fcell,gv:=hIY.gv},hr0▸hrep r0 v hv⟩
 ·show(X.κ++Y.κ.drop js.length).length=_
  rw[List.length_append,List.length_drop,hlen];omega
 ·intro s1 s2 b1 h1 h2 h3;obtain⟨t1,c1,g1⟩:=get' s1 b1 h1;obtain⟨t2,c2,g2⟩:=get' s2 b1 h2
  show(∃t,τ'.boxes[s1]? =some (t,[])) \/ ∃t,τ'.boxes[s2]? =some (t,[])
  rcases new s1 b1 t1 c1 h1 g1 with⟨p1,p2,p3,p4⟩|⟨i1,e1,p1,p2,p3,p4⟩<;>rcases new s2 b1 t2 c2 h2 g2 with⟨q1,q2,q3,q4⟩|⟨i2,e2,q1,q2,q3,q4⟩
  ·rcases hI.κnd s1 s2 b1 p3 q3 h3 with⟨t,h⟩|⟨t,h⟩
   ·rw[p4] at h;cases h;exact .inl ⟨_,g1⟩
   ·rw[q4] at h;cases h;exact .inr ⟨_,g2⟩
  ·left
   by_cases e:b1∈κ0
   ·have:=hdead s1 t1 c1 b1 e p3 p2 p4;subst this;exact⟨_,g1⟩
   ·have hge:js.length<=i2:=Nat.le_of_not_lt fun hlt=>e (by
     obtain⟨b0,h0⟩: ∃b0,κ0[i2]? =some b0:=⟨_,getElem?_eq_getElem (by omega)⟩;have:=hE.κ i2 b0 h0;rw[q2] at this;cases this;exact mem_of_getElem? h0)
    have:=hYnew i2 b1 hge q2 e;have:=hI.κlt (mem_of_getElem? p3);omega
  ·right
   by_cases e:b1∈κ0
   ·have:=hdead s2 t2 c2 b1 e q3 q2 q4;subst this;exact⟨_,g2⟩
   ·have hge:js.length<=i1:=Nat.le_of_not_lt fun hlt=>e (by
     obtain⟨b0,h0⟩: ∃b0,κ0[i1]? =some b0:=⟨_,getElem?_eq_getElem (by omega)⟩;have:=hE.κ i1 b0 h0;rw[p2] at this;cases this;exact mem_of_getElem? h0)
    have:=hYnew i1 b1 hge p2 e;have:=hI.κlt (mem_of_getElem? q3);omega
  ·have hne:i1≠i2:=fun e=>h3 (by rw[p1,q1,e]);rcases hIY.κnd i1 i2 b1 p2 q2 hne with⟨t,h⟩|⟨t,h⟩
   ·have h:bs'[i1]? =some (t,[]):=h;rw[p3] at h;cases h;exact .inl ⟨t1,by rw[g1,p4,zv]⟩
   ·have h:bs'[i2]? =some (t,[]):=h;rw[q3] at h;cases h;exact .inr ⟨t2,by rw[g2,q4,zv]⟩
 ·intro s b t cs hs hb';rcases new s b t cs hs hb' with⟨p1,p2,p3,p4⟩|⟨i,c,p1,p2,p3,p4⟩
  ·obtain⟨us1,zs1,v1,v2,v3⟩:=hI.box s b t cs p3 p4;by_cases e:b∈κ0
   ·obtain rfl:=hdead s t cs b e p3 p2 p4;obtain⟨i,hi⟩:=List.mem_iff_getElem?.1 e;obtain⟨cur',k1,k2⟩:=hE.blk i b hi _ _ _ v1;exact⟨[],cur'.toList,by simpa using k1,rfl,fun v hv=>by cases hv⟩
   ·exact⟨us1,zs1,(hblk b (hI.κlt (mem_of_getElem? p3)) e).trans v1,zao hIT hX _ _ v2,v3⟩
  ·obtain⟨us,zs,q1,q2,q3⟩:=hIY.box i b t c p2 p3;exact⟨us,zs,q1,p4▸hrepL c us q2,q3⟩
 ·intro s b t cs hs hb' hne' o hf;rcases new s b t cs hs hb' with⟨p1,p2,p3,p4⟩|⟨i,c,p1,p2,p3,p4⟩
  ·rcases hFn b o hf with h|h|h
   ·exact hI.κF s b t cs p3 p4 hne' o h
   ·have:=hI.κlt (mem_of_getElem? p3);omega
   ·exact hne' (hdead s t cs b h p3 p2 p4)
  ·exact hIY.κF i b t c p2 p3 (hmap_ne c (p4▸hne')) o hf
 ·intro r hr2 hm;obtain⟨s,hs⟩:=List.mem_iff_getElem?.1 hm;rcases hKi s _ hs with⟨_,h⟩|⟨_,h⟩
  ·exact hI.βκ r hr2 (mem_of_getElem? h)
  ·by_cases e:r.block∈κ0
   ·exact hI.βκ r hr2 (hκm _ e)
   ·have:=hYnew _ _ (by omega) h e;have:=hI.βlt hr2;omega
 ·intro s' q L hq hL;obtain⟨cur',fz,c1,c2,c3,c4,c5,c6,c7⟩:=hI.row s' q L hq hL;have hlt:=hI.βlt (mem_of_getElem? hq);have hnb:q.block∉κ0:=fun e=>hI.βκ q (mem_of_getElem? hq) (hκm _ e);refine⟨cur',fz,(hblk _ hlt hnb).trans c1,c2,c3,c4,c5,fun o hf=> ?_,c7⟩;rcases hFn _ o hf with h|h|h
  ·exact c6 o h
  ·omega
  ·exact absurd h hnb
 ·intro b' ho;obtain⟨⟨cs0,t0,f0,h0⟩,h2,h3,h4⟩:=hI.Ok b' ho;have hlt:=hI.Olt ho;have hnb:b'∉κ0:=fun e=>h2 (hκm _ e);refine⟨⟨cs0,t0,f0,(hblk b' hlt hnb).trans h0⟩,fun hm=> ?_,h3,fun o hf=> ?_⟩
  ·obtain⟨s,hs⟩:=List.mem_iff_getElem?.1 hm;rcases hKi s _ hs with⟨_,h⟩|⟨_,h⟩
   ·exact h2 (mem_of_getElem? h)
   ·have:=hYnew _ _ (by omega) h hnb;omega
  ·rcases hFn b' o hf with h|h|h
   ·exact h4 o h
   ·omega
   ·exact absurd h hnb
variable {P:Program} {U:St}
theorem znm (hmix:P.follows .mixedOrders=true) {f:FuncId} {fn:Func} {c:Code} {args S1:List AV} {U U1:St} {Q:AQ} {X:Cx} {vs:List Value} {R:Ending->World->Prop} {M:Option Gen} (hG:zrn P X.w.heap.size M)(hf:P.funcs[f]? =some fn)(hb:fn.body=some c)
 {k0:Nat} (hk0:U.boxes.length=k0) (hwk:Wk k0 (zad fn args) U S1 U1) (h:awp (ITP P) P (zdk M) k0 c Q S1 U1) (hI:Inv (ITP P) U X) (hM:FrM M U X) (hr:zbe (ITP P) X args vs)
 (hQ: ∀e S U' Y,Q e S U'->Rel M X Y->Inv (ITP P) U' Y->FrM M U' Y->(e= .normal \/e= .ret)/\ ∃a,zar P fn U' S=some a/\ ∀v,Rep (ITP P) Y a v->R (.returned v) Y.w):Calls P f vs.toArray X.w R:=by
 refine(callsIn_wide (n:=3)).1 (callsIn_of_wp_marks hf hb trivial ?_ rfl);have hlen:=zq hr;have hreps:zlr (ITP P) X (zad fn args) (vs.toArray++Array.replicate (fn.ntmps-vs.toArray.size) undef):=by
  unfold zlr zad;have e:(vs.toArray++Array.replicate (fn.ntmps-vs.toArray.size) undef).toList=vs++List.replicate (fn.ntmps-args.length) undef:=by simp[hlen]
  rw[e];refine zbk hr (zfg (by simp) fun i a v h1 h2=> ?_);have h1:=List.eq_of_mem_replicate (mem_of_getElem? h1);have h2:=List.eq_of_mem_replicate (mem_of_getElem? h2);subst h1 h2;rw[Rep]
 obtain⟨X1,hX1,hn1⟩:=zzi (M:=M) (ze P) (F:=Fence.wide) (B:=X.w.heap.size) (a:={tmps:=vs.toArray++Array.replicate (fn.ntmps-vs.toArray.size) undef,defers:=[]}) (Nat.le_of_eq (hI.κlen.trans hk0)) hwk
  ⟨Rel.of (Ext.refl X),hI,hreps,⟨le_refl _,fun _=>⟨le_refl _,[],rfl,List.nodup_nil,by simp⟩,fun h=>absurd rfl h⟩,hM⟩
 rw[<-hX1];refine ztd hmix c (M:=M) (B:=X.w.heap.size) hG (zpv P) k0 Q _ U1 X X1 {tmps:=vs.toArray++Array.replicate (fn.ntmps-vs.toArray.size) undef,defers:=[]} _ (Nat.le_of_eq (hI.κlen.trans hk0)) ⟨le_refl _,U,hI⟩ h hn1 (.inl (.inl rfl)) ?_;intro e S U' Y a hq hn;obtain⟨_,Ds,d1,d2,d3⟩:=hn.marks.2.1 rfl;have key:(e= .normal \/e= .ret)/\ LeavesInM Fence.wide 3 P fn a.tmps R a.defers .returning Y.w:=by
  obtain⟨he,_⟩:=hQ e S U' Y hq hn.ext hn.inv hn.frn;refine⟨he,?_⟩;rw[d1];refine zkg (B:=X.w.heap.size) Ds Y.w d2 d3 fun W' hT=> ?_;obtain⟨k1,k2,k3,_,k5⟩:=zka (N:=fun _=>False) (NB:=fun _=>False) (Bm:=X.w.heap.size) hG (le_refl _) (fun _ h=>h.elim) (RelB.of hn.ext) hn.inv hn.frn (zjq M Y) (le_refl _) (zil hn.inv (zjq M Y) hn.ext.size hT);obtain⟨_,x,hx,hv⟩:=hQ e S U' _ hq (k1.to fun _ h=>h.elim) k2 k3;obtain⟨v,r1,r2⟩:=zly (P:=P) (fn:=fn) hx (show zlr (ITP P) {Y with w:=W'} S a.tmps from zbn (ze P) k5 _ _ hn.reps) k2;exact⟨v,r1,hv v r2⟩
 obtain⟨he,hl⟩:=key;rcases he with rfl|rfl<;>exact hl
theorem qaf (hmix:P.follows .mixedOrders=true) {f:FuncId} {fn:Func} {c:Code} {args S1:List AV} {U U1 U':St} {r:AV} (hf:P.funcs[f]? =some fn)(hb:fn.body=some c)(he:Ent P f)(hwk:Wk U.boxes.length (zad fn args) U S1 U1)
 (h:awp (ITP P) P none U.boxes.length c (aendS P fn U.boxes.length U.lens.length r U') S1 U1):Snd (ITP P) P f args U r U':=by
 refine⟨he,fun X vs hI hr=>znm (M:=none) hmix trivial hf hb rfl hwk h hI trivial hr ?_⟩;intro e S U1 Y hq (hE:Ext X Y) hIY _;have hκn:=hI.κlen
 have fin: ∀a,zar P fn U1 S=some a->z3d P U.boxes.length U.lens.length U1 a r U'-> ∃a,zar P fn U1 S=some a/\ ∀v,Rep (ITP P) Y a v->
  ∃v' X',Ending.returned v= .returned v'/\ X'.w=Y.w/\ Ext X X'/\ Inv (ITP P) U' X'/\ Rep (ITP P) X' r v':=fun a h1 h2=>⟨a,h1,fun v hv=>by
  obtain⟨X',k1,k2,k3,k4⟩:=h2 X Y v hE hκn (by rw[hI.lens]) hIY hv;exact⟨v,X',rfl,k1,k2,k3,k4⟩⟩
 cases e with
 |normal=>obtain⟨a,h1,h2⟩:=hq;exact⟨.inl rfl,fin a h1 h2⟩
 |ret=>obtain⟨a,h1,h2⟩:=hq;exact⟨.inr rfl,fin a h1 h2⟩
 |exit id=>exact hq.elim
theorem z0t (hmix:P.follows .mixedOrders=true) {g:FuncId} {fn:Func} {c:Code} {caps:List AV} {bs bs':List (TypeId×List AV)} {rows:List (List AV)} (hf:P.funcs[g]? =some fn)(hb:fn.body=some c)
    (h: ∀G:Gen,G.rows=rows-> ∃S1 U1,Wk bs.length (zad fn (.yld G.l::caps)) ⟨bs,[],[],0,false⟩ S1 U1/\ awp (ITP P) P (some G) bs.length c (aendGS P fn rows.length bs.length bs') S1 U1):z7u P g caps bs rows bs':=by
  intro F0 w0 O C κ0 lb hgv hκl hnd hbox hnF hcaps hcell l W J Jx s0 hc hz hsz hN hG hF0 hO hC hJ;have hheap: ∀b∈κ0,W.heap[b]? =w0.heap[b]? :=fun b hb=>(hN b hb).1;have hsub:Sub ⟨F0,κ0,[],[],w0,O,C⟩ ⟨F0,κ0,[],[],W,s0.O,s0.C⟩:=⟨fun _ _ h=>h,fun b o hf=>(hc b o hf).2,fun s b h=>h,fun s L h=>by simp at h,fun s b h cur t f e=>⟨cur,(hheap b (mem_of_getElem? h)).trans e,rfl⟩,hz⟩
  have hI:Inv (ITP P) ⟨bs,[],[],0,false⟩ ⟨F0,κ0,[],[],W,s0.O,s0.C⟩:=
    { lens:=rfl,elems:=rfl,κlen:=hκl
      κnd:=fun s s' b' h1 h2 hne=>by
        obtain⟨k1,e1⟩:=List.getElem?_eq_some_iff.1 h1;obtain⟨k2,e2⟩:=List.getElem?_eq_some_iff.1 h2;exact absurd ((List.getElem_inj hnd).1 (e1.trans e2.symm)) hne
      box:=fun s b t cs h1 h2=>by
        obtain⟨vs,zs,u1,u2,u3⟩:=hbox s b t cs h1 h2;exact⟨vs,zs,(hheap b (mem_of_getElem? h1)).trans u1,zbn (ze P) hsub _ _ u2,u3⟩
      κF:=fun s b t cs h1 _ _ o=>hnF b (mem_of_getElem? h1) o
      βlen:=rfl,βnd:=List.nodup_nil,βκ:=fun r h=>by simp at h
      row:=fun s r L h=>by simp at h
      Ok:=fun b hb=>⟨hO b hb,fun hm=>(hN b hm).2.1 hb,by simp,fun o hf=>(hF0 b o hf).resolve_left (fun h=>h hb)⟩
      Fcell:=fun b o hf=>(hc b o hf).1
      gv:=(ze P).gv _ _ _ _ (fun _ _ h=>h) (fun b o hf=>(hc b o hf).2) hz hgv}
  have hr':zbe (ITP P) ⟨F0,κ0,[],[],W,s0.O,s0.C⟩ (.yld l::caps) (.func (.yield l) #[] #[]::lb):=⟨_,_,rfl,rfl,zbn (ze P) hsub _ _ hcaps⟩
  have hFr:FrM (some ⟨W.heap.size,F0,l,rows,J,Jx,fun k=>k∈κ0⟩) ⟨bs,[],[],0,false⟩ ⟨F0,κ0,[],[],W,s0.O,s0.C⟩:=
    ⟨s0,fun _=>Iff.rfl,⟨fun _ _=>Iff.rfl,fun b' o hc'=> .inr ⟨hC b' o hc',fun hm=>(hN b' hm).2.2 o hc',by simp⟩⟩,hJ,le_refl _,fun b' hm=> .inr hm,by simp,fun b o hf=> .inl hf⟩
  have e:(#[.func (.yield l) #[] #[]]++lb.toArray:Array Value)=(Value.func (.yield l) #[] #[]::lb).toArray:=by simp
  rw[e];obtain⟨S1,U1,hwk0,hawp⟩:=h ⟨W.heap.size,F0,l,rows,J,Jx,fun k=>k∈κ0⟩ rfl;refine znm (M:=some ⟨W.heap.size,F0,l,rows,J,Jx,fun k=>k∈κ0⟩) (X:=⟨F0,κ0,[],[],W,s0.O,s0.C⟩) hmix ⟨hG,le_refl _⟩ hf hb (k0:=bs.length) rfl hwk0 hawp hI hFr hr' ?_;intro e S U' Y hq hE hIY hF;have fin:(∃a,zar P fn U' S=some a)/\ (U'.stop=true \/(U'.out=rows.length/\ ∃U2,Wk bs.length [] U' [] U2/\ U2.boxes=bs'/\ (bs'.all fun b=>zgp b.2)=true))-> ∃a,zar P fn U' S=some a/\ ∀v,Rep (ITP P) Y a v->(∃v',Ending.returned v= .returned v')/\ ∃s,(J rows.length s Y.w/\ qbd P κ0 bs' w0.heap.size s Y.w) \/Jx s Y.w:=fun⟨⟨a,h1⟩,h2⟩=>by
    refine⟨a,h1,fun v _=>⟨⟨v,rfl⟩,?_⟩⟩;by_cases hst:U'.stop=true
    . obtain⟨s,_,_,h3,_⟩:Fr _ U' Y:=hF
      rw[if_pos hst] at h3;exact⟨s,.inr h3⟩
    obtain⟨hout,U2,hwk,hbs,hflat⟩:=h2.resolve_left hst
    obtain⟨X',hw,hn⟩:=zzi (M:=some ⟨W.heap.size,F0,l,rows,J,Jx,fun k=>k∈κ0⟩) (ze P) (F:=Fence.wide.inRound 0) (B:=0) (a:={tmps:= #[],defers:=[]}) (Nat.le_of_eq hκl) hwk
      ⟨hE,hIY,by unfold zlr;rw[zbe],⟨Nat.zero_le _,fun h=>absurd h (zlb 0),fun _=>rfl⟩,hF⟩
    have hE':ExtG W.heap.size ⟨F0,κ0,[],[],W,s0.O,s0.C⟩ X':=hn.ext;obtain⟨s,f1,f2,f3,f4,f5,f6,f7⟩:Fr ⟨W.heap.size,F0,l,rows,J,Jx,fun k=>k∈κ0⟩ U2 X':=hn.frn;obtain⟨o1,o2⟩:=wk_out hwk;rw[if_neg (by rw[o2];exact hst),o1,hout] at f3;refine⟨s,.inl ⟨hw▸f3,?_⟩⟩;have hI2:=hn.inv;refine⟨X'.κ,by rw[hI2.κlen,hbs],fun i b h=>hE'.κ i b h,fun i j b h1 h2 h3=>by rw[<-hbs];exact hI2.κnd i j b h1 h2 h3,fun b hb=>⟨(hE'.κnew b hb).imp id (fun h=>Nat.le_trans hsz h),fun ho=>(hI2.Ok b ((f1 b).1 ho)).2.1 hb⟩,fun i b t cs h1 h2=> ?_⟩;have h2':U2.boxes[i]? =some (t,cs):=by rw[hbs];exact h2
    obtain⟨vs,zs,u1,u2,u3⟩:=hI2.box i b t cs h1 h2';have hfl:zgp cs=true:=List.all_eq_true.1 hflat (t,cs) (mem_of_getElem? h2);refine⟨⟨vs,zs,hw▸u1,zzp (X:=X') (Y:=⟨fun _ _=>False,X'.κ,[],[],Y.w,fun _=>False,fun _ _=>False⟩) rfl hw.symm cs vs hfl u2,u3⟩,fun hne o hC'=> ?_⟩;rcases f2.2 b o hC' with h|⟨_,h,_⟩
    . exact hI2.κF i b t cs h1 h2' hne o h
    . exact h (mem_of_getElem? h1)
  cases e with
  |normal=>exact⟨.inl rfl,fin hq⟩
  |ret=>exact⟨.inr rfl,fin hq⟩
  |exit id=>exact hq.elim
theorem qgo {f:FuncId} {args:List AV} {U1 U2:St} {r r2:AV} (h:Snd (ITP P) P f args U r U1)(hp:z3d P U.boxes.length U.lens.length U1 r r2 U2):Snd (ITP P) P f args U r2 U2:=
 ⟨h.1,fun X vs hI hr=>(h.2 X vs hI hr).mono fun e w' ⟨v,Y,h1,h2,h3,h4,h5⟩=>by
  obtain⟨X',k1,k2,k3,k4⟩:=hp X Y v h3 hI.κlen (by rw[hI.lens]) h4 h5;exact⟨v,X',h1,k1.trans h2,k2,k3,k4⟩⟩
theorem zou {n n' m:Nat} {U':St} {a r:AV} (fs js:List Nat)(d:Nat)(hn':n<=n')(hok:zcs U n' js=true)(hr:zgv m (kz U.boxes m n' fs js d) a=r)(hσ:zed U m n' fs js d=U'):z3d P n m U a r U':=fun X Y v hE hn hm hI hv=>by
 subst hr hσ;exact⟨zct U m n' fs js Y,rfl,zqg hE hI hok (by omega) (by omega),zqj (ze P) hI hok d,zjg (X:=Y) (Y:=zct U m n' fs js Y) (ze P) (fun b o h=>Or.inl h) rfl zhd (znu (ze P) hI hok d) _ _ hv⟩
variable {g:FZ} {k':Nat} {P:Program}
abbrev Stk:=Option (Int×List Int)
def stkL:Stk->List Int
 |none=>[]
 |some (j,[])=>[j]
 |some (_,a::l)=>a::l
def zel:Stk->List Int
 |none=>[]
 |some (_,l)=>l
def zbb (b:Nat):Stk->AV
 |none=> .list 0 [] .full
 |some (_,l)=> .bsl b 0 l.length 1 false
abbrev tyR:TypeId:=110
abbrev tyI:TypeId:=3
def zj:Stk->TypeId×List AV
 |none=>(tyR,[])
 |some q=>(tyI,Enc.cellsL (stkL (some q)))
structure Rd where
 s:List UInt8
 a:Int
 e:Int
 q:Stk
def rdC (k:Nat)(r:Rd):List AV:=[.raw (.string (bs r.s)),.raw (.int .i64 r.a),.raw (.int .i64 r.e),zbb k r.q]
def rdB (k:Nat)(q:Stk)(r:Rd):List (TypeId×List AV):=[(tyR,rdC k r),((zj q).1,[]),zj r.q]
def rdS (q:Stk)(r:Rd):St:=⟨rdB 2 q r,[],[],0,false⟩
def rdAft (τ:St)(k:Nat)(q0:Stk)(r':Rd):St:={τ with boxes:=((τ.boxes.set 0 (tyR,rdC τ.boxes.length r')).set k ((zj q0).1,[]))++[zj r'.q]}
def RdC (P:Program)(f:FuncId)(args:List AV)(r:Rd)(v:AV)(r':Rd):Prop:=
 ∀(τ:St) (k:Nat),0<k->τ.boxes[0]? =some (tyR,rdC k r)->τ.boxes[k]? =some (zj r.q)->Snd (ITP P) P f (.ptr 0 0::args) τ v (rdAft τ k r.q r')
def qhm (P:Program)(fn:Func)(q:Stk)(v:AV)(r':Rd):AQ
 | .exit _,_,_=>False
 |_,S,U=> ∃a,zar P fn U S=some a/\ ∃js d,zcs U 2 js=true/\ zgv 0 (kz U.boxes 0 2 [] js d) a=v/\ zed U 0 2 [] js d=rdS q r'
theorem qhg (q:Stk):cloL (zj q).2=true:=by
 cases q with
 |none=>rfl
 |some q=>exact Enc.cloL _
theorem zo (m:Nat)(g:FZ)(q:Stk):zv m g (zj q).2=(zj q).2:=zam m g _ (qhg q)
theorem zya (q:Int×List Int):(zj (some q)).2≠[]:=by
 obtain⟨j,l⟩:=q;cases l<;>simp[zj,stkL,Enc.cons,Enc.cells]
theorem zee {m:Nat} {k:Nat} (r:Rd)(h: ∀n,g.2 k 0 n 1= .bsl k' 0 n 1 false):zv m g (rdC k r)=rdC k' r:=by
 obtain⟨s,a,e,q⟩:=r;cases q with
 |none=>rfl
 |some q=>simp only[rdC,zbb,zv,zgv,h]
theorem zla {k:Nat} {r:Rd} (h:r.q=none):rdC k r=rdC k' r:=by simp only[rdC,h,zbb]
theorem zze (n:Nat):cloL (List.replicate n (AV.raw undef))=true:=by
 induction n with
 |zero=>rfl
 |succ n ih=>rw[List.replicate_succ,cloL,ih];rfl
theorem z2y {m:Nat} {fn:Func} {args:List AV} (hg:g.1 0 0= .ptr 0 0)(h:cloL args=true):zv m g (zad fn (.ptr 0 0::args))=zad fn (.ptr 0 0::args):=by
 unfold zad;rw[List.cons_append,zv,zgv,hg,zam m g _ (by rw[zeu,h,zze];rfl)]
theorem mv_rd (r:Rd):qis 1 (zj r.q).1 (zj r.q).2 ⟨[(tyR,rdC 1 r),zj r.q],[],[],0,false⟩=rdS r.q r:=by
 show St.mk [(tyR,zv _ _ (rdC 1 r)),((zj r.q).1,[]),((zj r.q).1,zv _ _ (zj r.q).2)] _ _ _ _=_;rw[zo,zee (k':=2) r fun n=>rfl];rfl
theorem qfq {f:FuncId} {args:List AV} {r r':Rd} {v:AV} {q:Int×List Int} (hq:r.q=some q)(hargs:cloL args=true)(hv: ∀(m:Nat)(g:FZ),g.1 0 0= .ptr 0 0->zgv m g v=v)
 (h:Snd (ITP P) P f (.ptr 0 0::args) ⟨[(tyR,rdC 1 r),zj r.q],[],[],0,false⟩ v (rdS r.q r')):RdC P f args r v r':=by
 intro τ k hk h0 h1;have hkl:=(List.getElem?_eq_some_iff.1 h1).1;have h0l:=(List.getElem?_eq_some_iff.1 h0).1;have hk0:k≠0:=by omega
 have i0:[0,k].idxOf 0=0:=by simp
 have ik:[0,k].idxOf k=1:=by
  have:(0==k)=false:=by simpa using Ne.symm hk0
  simp[List.idxOf_cons,this]
 refine zyg (ze P) [0,k] h ?_ (hv _ _ rfl) rfl (by simp;omega) (by simp[rdB]) ?_ ?_ ?_ ?_ rfl rfl
 ·rw[zv,zam _ _ _ hargs]
  show(if[0,k].contains 0 then AV.ptr ([0,k].idxOf 0) 0 else .top)::args=_
  simp[i0]
 ·intro i t cs hi
  match i,hi with
  |0,hi=>cases hi;exact⟨rdC k r,h0,zee r fun n=>by show(if[0,k].contains k then AV.bsl ([0,k].idxOf k) 0 n 1 false else .top)=_;simp[ik],by simp[rdC]⟩
  | 1,hi=>
   have hi:some (zj r.q)=some (t,cs):=hi;cases hi':zj r.q with
   | mk t' c'=>
    rw[hi'] at hi;cases hi;refine⟨cs,by rw[<-hi'];exact h1,?_,?_⟩
    ·have:=zo 0 (bwz [0,k]) r.q;rw[hi'] at this;exact this
    ·have:=zya q;rw[<-hq,hi'] at this;exact this
  |i+2,hi=>cases hi
 ·intro i t cs hi;have e:(rdAft τ k r.q r').boxes=((τ.boxes.set 0 (tyR,rdC τ.boxes.length r')).set k ((zj r.q).1,[]))++[zj r'.q]:=rfl;rw[e]
  match i,hi with
  | 0,hi=>
   cases hi
   show(_++_:List _)[0]? =_
   rw[getElem?_append_left (by simp;omega),getElem?_set_ne hk0,getElem?_set_self h0l];rw[zee (k':=τ.boxes.length) r' fun n=>rfl]
  | 1,hi=>
   cases hi
   show(_++_:List _)[k]? =_
   rw[getElem?_append_left (by simp;omega),getElem?_set_self (by simp;omega),zv]
  | 2,hi=>
   have hi:some (zj r'.q)=some (t,cs):=hi
   show(_++_:List _)[τ.boxes.length]? =_
   rw[List.getElem?_append_right (by simp)];simp only[List.length_set,Nat.sub_self,List.getElem?_cons_zero];rw[hi];cases hx:zj r'.q with
   | mk t' c'=>
    rw[hx] at hi;cases hi;have:=zo 0 (fwz [0,k] τ.boxes.length) r'.q;rw[hx] at this;rw[this]
  |i+3,hi=>cases hi
 ·intro s hs hns
  show(_++_:List _)[s]? =_
  simp only[mem_cons,List.not_mem_nil,or_false,not_or] at hns;rw[getElem?_append_left (by simp;omega),getElem?_set_ne (Ne.symm hns.2),getElem?_set_ne (Ne.symm hns.1)]
 ·show(_++_:List _).length=_
  simp[rdS,rdB]
theorem qgc {f:FuncId} {args:List AV} {r r':Rd} {v:AV} (hq:r.q=none)(hargs:cloL args=true)(hv: ∀(m:Nat)(g:FZ),g.1 0 0= .ptr 0 0->zgv m g v=v)
 (h:Snd (ITP P) P f (.ptr 0 0::args) ⟨[(tyR,rdC 1 r)],[],[],0,false⟩ v ⟨[(tyR,rdC 1 r'),zj r'.q],[],[],0,false⟩):RdC P f args r v r':=by
 intro τ k hk h0 h1;have hkl:=(List.getElem?_eq_some_iff.1 h1).1;have h0l:=(List.getElem?_eq_some_iff.1 h0).1;have hk0:k≠0:=by omega
 have hX:zj r.q=((zj r.q).1,[]):=by rw[hq];rfl
 refine zyg (ze P) [0] h ?_ (hv _ _ rfl) rfl (by simp) (by simp) ?_ ?_ ?_ ?_ rfl rfl
 ·rw[zv,zam _ _ _ hargs];rfl
 ·intro i t cs hi
  match i,hi with
  |0,hi=>cases hi;exact⟨rdC k r,h0,by rw[zla (k:=k) (k':=0) hq];rw[zee (k':=0) r fun n=>rfl];exact zla hq,by simp[rdC]⟩
  |i+1,hi=>cases hi
 ·intro i t cs hi;have e:(rdAft τ k r.q r').boxes=((τ.boxes.set 0 (tyR,rdC τ.boxes.length r')).set k ((zj r.q).1,[]))++[zj r'.q]:=rfl;rw[e]
  match i,hi with
  | 0,hi=>
   cases hi
   show(_++_:List _)[0]? =_
   rw[getElem?_append_left (by simp;omega),getElem?_set_ne hk0,getElem?_set_self h0l];rw[zee (k':=τ.boxes.length) r' fun n=>rfl]
  | 1,hi=>
   have hi:some (zj r'.q)=some (t,cs):=hi
   show(_++_:List _)[τ.boxes.length]? =_
   rw[List.getElem?_append_right (by simp)];simp only[List.length_set,Nat.sub_self,List.getElem?_cons_zero];rw[hi];cases hx:zj r'.q with
   | mk t' c'=>
    rw[hx] at hi;cases hi;have:=zo 0 (fwz [0] τ.boxes.length) r'.q;rw[hx] at this;rw[this]
  |i+2,hi=>cases hi
 ·intro s hs hns
  show(_++_:List _)[s]? =_
  simp only[mem_cons,List.not_mem_nil,or_false] at hns;rw[getElem?_append_left (by simp;omega)];by_cases e:s=k
  ·subst e;rw[getElem?_set_self (by simp;omega),h1, <-hX]
  ·rw[getElem?_set_ne (Ne.symm e),getElem?_set_ne (Ne.symm hns)]
 ·show(_++_:List _).length=_
  simp
theorem qil (hmix:P.follows .mixedOrders=true) {f:FuncId} {fn:Func} {c:Code} {args:List AV} {r r':Rd} {v:AV} (hf:P.funcs[f]? =some fn)(hb:fn.body=some c)(he:Ent P f)(hargs:cloL args=true)(hv: ∀(m:Nat)(g:FZ),g.1 0 0= .ptr 0 0->zgv m g v=v)
 (h: ∀k0,k0<=2->awp (ITP P) P none k0 c (qhm P fn r.q v r') (zad fn (.ptr 0 0::args)) (rdS r.q r)):RdC P f args r v r':=by
 cases hq:r.q with
 | some q=>
  refine qfq hq hargs hv (qaf hmix hf hb he (S1:=zad fn (.ptr 0 0::args)) (U1:=rdS r.q r) (z8z 1 (t:=(zj r.q).1) (cs:=(zj r.q).2) rfl (z2y rfl hargs) (mv_rd r).symm) (zcb c (fun e S U hq=> ?_) _ _ (h 2 (le_refl _))));cases e with
  |exit id=>exact hq
  |normal=>obtain⟨a,h1,js,d,h2,h3,h4⟩:=hq;exact⟨a,h1,ztb [] js d h2 h3 h4⟩
  |ret=>obtain⟨a,h1,js,d,h2,h3,h4⟩:=hq;exact⟨a,h1,ztb [] js d h2 h3 h4⟩
 | none=>
  refine qgc hq hargs hv (qgo (qaf hmix hf hb he (S1:=zad fn (.ptr 0 0::args)) (U1:=rdS r.q r) (U':=rdS r.q r') (r:=v) ?_ (zcb c (fun e S U hq=> ?_) _ _ (h 1 (by omega)))) ?_)
  ·refine .step (S1:=zad fn (.ptr 0 0::args)) (.inr (.inr (.inl ⟨0,tyR,rdC 1 r,rfl,Fg.refl _,rfl⟩))) (.one (.inr (.inr (.inl ⟨0,tyR,rdC 1 r,rfl,Fg.refl _,?_⟩))));show rdS r.q r=St.mk [(tyR,rdC 1 r),(tyR,[]),(tyR,[])] [] [] 0 false;unfold rdS rdB;rw[zla (k:=2) (k':=1) hq,hq];rfl
  ·cases e with
   |exit id=>exact hq
   |normal=>obtain⟨a,h1,js,d,h2,h3,h4⟩:=hq;exact⟨a,h1,zou [] js d (show 1<=2 by decide) h2 h3 h4⟩
   |ret=>obtain⟨a,h1,js,d,h2,h3,h4⟩:=hq;exact⟨a,h1,zou [] js d (show 1<=2 by decide) h2 h3 h4⟩
  ·refine zou (n:=1) (n':=1) (m:=0) [] [2] 0 (le_refl _) rfl (hv _ _ rfl) ?_;show St.mk [(tyR,zv _ _ (rdC 2 r')),((zj r'.q).1,zv _ _ (zj r'.q).2)] _ _ _ _=_;rw[zo,zee (k':=1) r' fun n=>rfl];rfl
theorem z7x (hmix:P.follows .mixedOrders=true) {f:FuncId} {fn:Func} {c:Code} {args:List AV} {r r':Rd} {v:AV} (hf:P.funcs[f]? =some fn)(hb:fn.body=some c)(he:Ent P f)(hargs:cloL args=true)(hv:clo v=true)
 (h: ∀k0,k0<=2->awp (ITP P) P none k0 c (qhm P fn r.q v r') (zad fn (.ptr 0 0::args)) (rdS r.q r)):RdC P f args r v r':=qil hmix hf hb he hargs (fun m g _=>zn m g v hv) h
end Go.Ab
