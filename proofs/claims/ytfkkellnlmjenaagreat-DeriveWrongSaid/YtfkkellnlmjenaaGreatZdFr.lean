/-
  A contract for a few boxes, in any state that has them, wherever they are.
-/
import Derived.Test.YtfkkellnlmjenaaGreatZdR
set_option linter.unusedSimpArgs false
set_option linter.unusedVariables false
namespace Go.Ab
open Go Go.RowKit Go.Fwd
def fwN (js:List Nat)(n i:Nat):Nat:=js.getD i (n+(i-js.length))
def fwz (js:List Nat)(n:Nat):FZ:=(fun s off=> .ptr (fwN js n s) off,fun s off k sz=> .bsl (fwN js n s) off k sz false)
def bwz (js:List Nat):FZ:=(fun s off=>if js.contains s then .ptr (js.idxOf s) off else .top,fun s off k sz=>if js.contains s then .bsl (js.idxOf s) off k sz false else .top)
theorem z1x {js:List Nat} {n i:Nat} (h:i<js.length):fwN js n i=js[i]:=by simp[fwN,h]
theorem z8g {js:List Nat} {n i:Nat} (h:js.length≤i):fwN js n i=n+(i-js.length):=by simp[fwN,h]
theorem zst {IT:IterP} (hIT:ITMono IT) {P:Program} {f:FuncId} {args args0:List AV} {r r0:AV} {bs bs':List (TypeId×List AV)} {τ τ':St} (js:List Nat)
 (h:Snd IT P f args0 ⟨bs,[],[],0,false⟩ r0 ⟨bs',[],[],0,false⟩) (hargs:zby 0 (bwz js) args=args0) (hr0:zmo 0 (fwz js τ.boxes.length) r0=r)
 (hj:js.length=bs.length) (hnd:js.Nodup) (hle:bs.length≤bs'.length)
 (hb: ∀i t cs,bs[i]? =some (t,cs)→ ∃C,τ.boxes[fwN js 0 i]? =some (t,C)∧zby 0 (bwz js) C=cs∧C≠[])
 (hb1: ∀i t cs,bs'[i]? =some (t,cs)→τ'.boxes[fwN js τ.boxes.length i]? =some (t,zby 0 (fwz js τ.boxes.length) cs))
 (hb2: ∀s,s<τ.boxes.length→s∉js→τ'.boxes[s]? =τ.boxes[s]?) (hlen:τ'.boxes.length=τ.boxes.length+(bs'.length-bs.length))
 (hl:τ'.lens=τ.lens) (he:τ'.elems=τ.elems):Snd IT P f args τ r τ':=by
 refine⟨h.1,fun X vs hI hr=> ?_⟩
 have hXl:=hI.κlen
 -- where the boxes are
 have hjs: ∀i (hi:i<js.length),∃t C,τ.boxes[js[i]]? =some (t,C)∧(∃cs,bs[i]? =some (t,cs)∧zby 0 (bwz js) C=cs)∧C≠[]:=fun i hi=>by
  have hi2:i<bs.length:=by omega
  obtain⟨C,h1,h2,h3⟩:=hb i bs[i].1 bs[i].2 (List.getElem?_eq_getElem hi2)
  rw[z1x hi] at h1
  exact⟨_,C,h1,⟨_,List.getElem?_eq_getElem hi2,h2⟩,h3⟩
 have hjlt: ∀i (hi:i<js.length),js[i]<X.κ.length:=fun i hi=>by
  obtain⟨t,C,h1,_⟩:=hjs i hi
  rw[hXl];exact(List.getElem?_eq_some_iff.1 h1).1
 let κ0:List Nat:=js.map fun j=>X.κ.getD j 0
 have hκ0l:κ0.length=js.length:=by simp[κ0]
 have hκ0: ∀i (hi:i<js.length) b,κ0[i]? =some b→X.κ[js[i]]? =some b:=fun i hi b hb=>by
  have:=hjlt i hi
  simp only[κ0,List.getElem?_map,List.getElem?_eq_getElem hi,Option.map_some,List.getD_eq_getElem?_getD,List.getElem?_eq_getElem this,Option.getD_some,Option.some.injEq] at hb
  rw[List.getElem?_eq_getElem this,hb]
 have hκ0i: ∀i (hi:i<js.length) b,X.κ[js[i]]? =some b→κ0[i]? =some b:=fun i hi b hb=>by
  have:=hjlt i hi
  rw[List.getElem?_eq_getElem this] at hb
  simp only[κ0,List.getElem?_map,List.getElem?_eq_getElem hi,Option.map_some,List.getD_eq_getElem?_getD,List.getElem?_eq_getElem this,Option.getD_some];exact hb
 have hκm: ∀b∈κ0,b∈X.κ:=fun b hb=>by
  obtain⟨i,hi⟩:=List.mem_iff_getElem?.1 hb
  have hl:i<js.length:=by rw[←hκ0l];exact(List.getElem?_eq_some_iff.1 hi).1
  exact List.mem_of_getElem? (hκ0 i hl b hi)
 let X0:Cx:=⟨X.F,κ0,[],[],X.w,fun _=>False,fun _ _=>False⟩
 have hg0:(∀s off v,Rep IT X (.ptr s off) v→Rep IT X0 ((bwz js).1 s off) v)∧ ∀s off n sz f v,Rep IT X (.bsl s off n sz f) v→Rep IT X0 ((bwz js).2 s off n sz) v:=by
  have key: ∀s b:Nat,js.contains s=true→X.κ[s]? =some b→κ0[js.idxOf s]? =some b:=fun s b hs hb=>by
   have hm:s∈js:=by simpa using hs
   have hlt:=List.idxOf_lt_length_of_mem hm
   refine hκ0i _ hlt b ?_
   rw[List.getElem_idxOf hlt];exact hb
  refine⟨?_,?_⟩
  ·rintro s off v ⟨b,hb,rfl⟩
   show Rep IT X0 (if js.contains s then .ptr (js.idxOf s) off else .top) _
   split
   ·rename_i hs;exact⟨b,key s b hs hb,rfl⟩
   ·rw[Rep];trivial
  ·rintro s off n sz f v ⟨b,cap,cur,t,hb,rfl,hcap,hful,hrow,hfit⟩
   show Rep IT X0 (if js.contains s then .bsl (js.idxOf s) off n sz false else .top) _
   split
   ·rename_i hs;exact⟨b,cap,cur,t,key s b hs hb,rfl,hcap,(fun h=>by cases h),hrow,hfit⟩
   ·rw[Rep];trivial
 have hmL:=zfr (X:=X) (Y:=X0) (m:=0) hIT (fun _ _ h=>h) rfl (fun s hs=>by omega) hg0
 have hr':zbl IT X0 args0 vs:=hargs▸hmL args vs hr
 -- which numbers say the same block
 have hsame: ∀i j (hi:i<js.length) (hj2:j<js.length) b,κ0[i]? =some b→κ0[j]? =some b→i=j:=fun i j hi hj2 b h1 h2=>by
  apply Classical.byContradiction
  intro hne
  have hne2:js[i]≠js[j]:=fun e=>hne ((List.getElem_inj hnd).1 e)
  obtain⟨t1,C1,a1,_,c1⟩:=hjs i hi
  obtain⟨t2,C2,a2,_,c2⟩:=hjs j hj2
  rcases hI.κnd _ _ b (hκ0 i hi b h1) (hκ0 j hj2 b h2) hne2 with⟨t,h3⟩|⟨t,h3⟩
  ·rw[a1] at h3;cases h3;exact c1 rfl
  ·rw[a2] at h3;cases h3;exact c2 rfl
 have hI0:Inv IT ⟨bs,[],[],0,false⟩ X0:={
  lens:=rfl,elems:=rfl,κlen:=by show κ0.length=bs.length;omega
  κnd:=fun s1 s2 b1 h1 h2 h3=>by
   have e1:=(List.getElem?_eq_some_iff.1 h1).1
   have e2:=(List.getElem?_eq_some_iff.1 h2).1
   have e1:s1<κ0.length:=e1
   have e2:s2<κ0.length:=e2
   exact absurd (hsame s1 s2 (by omega) (by omega) b1 h1 h2) h3
  box:=fun i b t cs h1 h2=>by
   have hi:i<js.length:=by rw[hj];exact(List.getElem?_eq_some_iff.1 h2).1
   obtain⟨t1,C,a1,⟨cs1,a2,a3⟩,a4⟩:=hjs i hi
   have h2:bs[i]? =some (t,cs):=h2
   rw[h2] at a2;cases a2
   obtain⟨us,zs,u1,u2,u3⟩:=hI.box _ b t C (hκ0 i hi b h1) a1
   exact⟨us,zs,u1,a3▸hmL C us u2,u3⟩
  κF:=fun i b t cs h1 h2 h3=>by
   have hi:i<js.length:=by rw[hj];exact(List.getElem?_eq_some_iff.1 h2).1
   obtain⟨t1,C,a1,_,a4⟩:=hjs i hi
   exact hI.κF _ b t1 C (hκ0 i hi b h1) a1 a4
  βlen:=rfl,βnd:=List.nodup_nil
  βκ:=fun r h=>by simp[X0] at h
  row:=fun s r L h=>by simp[X0] at h
  Ok:=fun b h=>h.elim
  Fcell:=hI.Fcell
  gv:=hI.gv}
 refine(h.2 X0 vs hI0 hr').mono ?_
 rintro e w' ⟨v,Y,rfl,rfl,hE,hIY,hv⟩
 have hYl:Y.κ.length=bs'.length:=hIY.κlen
 have hYκ: ∀i (hi:i<js.length) b,Y.κ[i]? =some b→X.κ[js[i]]? =some b:=fun i hi b hb=>by
  obtain⟨b0,h0⟩: ∃b0,κ0[i]? =some b0:=⟨_,List.getElem?_eq_getElem (by omega)⟩
  have:=hE.κ i b0 h0
  rw[hb] at this;cases this
  exact hκ0 i hi b h0
 have hYnew: ∀i b:Nat,js.length≤i→Y.κ[i]? =some b→b∉κ0→X.w.heap.size≤b:=fun i b hi hb hn=>by
  rcases hE.κnew b (List.mem_of_getElem? hb) with h|h
  ·exact absurd h hn
  ·exact h
 have hblk: ∀b,b<X.w.heap.size→b∉κ0→Y.w.heap[b]? =X.w.heap[b]? :=fun b hb hn=>hE.frame b hb hn (by simp[X0])
 have hFn: ∀b' i,Y.F b' i→X.F b' i∨X.w.heap.size≤b'∨b'∈κ0:=fun b' i hf=>by
  rcases hE.Fnew b' i hf with h|h|⟨q,hq,_⟩|h
  ·exact .inl h
  ·exact .inr (.inl h)
  ·simp[X0] at hq
  ·exact .inr (.inr h)
 let K:List Nat:=X.κ++Y.κ.drop js.length
 let Z:Cx:=⟨Y.F,K,X.β,X.lens,Y.w,X.O,X.C⟩
 have hKo: ∀s b:Nat,X.κ[s]? =some b→K[s]? =some b:=fun s b hs=>by
  show(X.κ++_)[s]? =some b
  rw[List.getElem?_append_left (List.getElem?_eq_some_iff.1 hs).1];exact hs
 have hKi: ∀s b:Nat,K[s]? =some b→(s<τ.boxes.length∧X.κ[s]? =some b)∨(τ.boxes.length≤s∧Y.κ[js.length+(s-τ.boxes.length)]? =some b):=fun s b hs=>by
  have hs:(X.κ++Y.κ.drop js.length)[s]? =some b:=hs
  rcases Nat.lt_or_ge s X.κ.length with hlt|hge
  ·rw[List.getElem?_append_left hlt] at hs;exact .inl ⟨by omega,hs⟩
  ·rw[List.getElem?_append_right hge,List.getElem?_drop,hXl] at hs;exact .inr ⟨by omega,hs⟩
 have hKf: ∀i b:Nat,Y.κ[i]? =some b→K[fwN js τ.boxes.length i]? =some b:=fun i b hb=>by
  rcases Nat.lt_or_ge i js.length with hlt|hge
  ·rw[z1x hlt];exact hKo _ b (hYκ i hlt b hb)
  ·rw[z8g hge]
   show(X.κ++Y.κ.drop js.length)[_]? =some b
   rw[List.getElem?_append_right (by omega),List.getElem?_drop,show js.length+(τ.boxes.length+(i-js.length)-X.κ.length)=i by omega];exact hb
 have hg1:(∀s off v,Rep IT Y (.ptr s off) v→Rep IT Z ((fwz js τ.boxes.length).1 s off) v)∧ ∀s off n sz f v,Rep IT Y (.bsl s off n sz f) v→Rep IT Z ((fwz js τ.boxes.length).2 s off n sz) v:=by
  refine⟨?_,?_⟩
  ·rintro s off v ⟨b,hb,rfl⟩
   exact⟨b,hKf s b hb,rfl⟩
  ·rintro s off n sz f v ⟨b,cap,cur,t,hb,rfl,hcap,hful,hrow,hfit⟩
   exact⟨b,cap,cur,t,hKf s b hb,rfl,hcap,(fun h=>by cases h),hrow,hfit⟩
 have hrep:=zlw (X:=Y) (Y:=Z) (m:=0) hIT (fun _ _ h=>h) rfl (fun s hs=>by omega) hg1
 have hrepL:=zfr (X:=Y) (Y:=Z) (m:=0) hIT (fun _ _ h=>h) rfl (fun s hs=>by omega) hg1
 have hX:Ext X Z:={
  os:=hE.os,tape:=hE.tape,output:=hE.output,size:=hE.size,drawn:=hE.drawn,F:=hE.F,cell:=hE.cell
  κ:=hKo
  lens:=fun s L h=>⟨L,h,Nat.le_refl _,fun _=>rfl⟩
  blk:=fun s' b' hs cur' t' f' hc=>by
   by_cases e:b'∈κ0
   ·obtain⟨i,hi⟩:=List.mem_iff_getElem?.1 e
    exact hE.blk i b' hi cur' t' f' hc
   ·exact⟨cur',(hblk b' (hI.κlt (List.mem_of_getElem? hs)) e).trans hc,rfl⟩
  szs:=hE.szs
  frame:=fun b' hb' hk _=>hblk b' hb' fun e=>hk (hκm b' e)
  κnew:=fun b hb=>by
   obtain⟨s,hs⟩:=List.mem_iff_getElem?.1 hb
   rcases hKi s b hs with⟨_,h⟩|⟨_,h⟩
   ·exact .inl (List.mem_of_getElem? h)
   ·by_cases e:b∈κ0
    ·exact .inl (hκm b e)
    ·exact .inr (hYnew _ b (by omega) h e)
  βnew:=fun r h=> .inl ⟨r,h,rfl⟩
  O:=rfl
  C:=rfl
  Fnew:=fun b' i hf=>by
   rcases hFn b' i hf with h|h|h
   ·exact .inl h
   ·exact .inr (.inl h)
   ·exact .inr (.inr (.inr (hκm b' h)))}
 -- a box of the others that says one of these blocks is empty
 have hdead: ∀(s':Nat) (t':TypeId) (c':List AV) (b:Nat),b∈κ0→X.κ[s']? =some b→s'∉js→τ.boxes[s']? =some (t',c')→c'=[]:=fun s' t' c' b hb h1 h2 h3=>by
  obtain⟨i,hi⟩:=List.mem_iff_getElem?.1 hb
  have hl2:i<js.length:=by rw[←hκ0l];exact(List.getElem?_eq_some_iff.1 hi).1
  obtain⟨t1,C,a1,_,a4⟩:=hjs i hl2
  have hne:s'≠js[i]:=fun e=>h2 (e▸List.getElem_mem hl2)
  rcases hI.κnd s' _ b h1 (hκ0 i hl2 b hi) hne with⟨t2,h4⟩|⟨t2,h4⟩
  ·rw[h3] at h4;cases h4;rfl
  ·rw[a1] at h4;cases h4;exact absurd rfl a4
 have hmap_ne: ∀(cs:List AV),zby 0 (fwz js τ.boxes.length) cs≠[]→cs≠[]:=fun cs h e=>h (by rw[e,zby])
 -- the boxes behind it, by their numbers
 have new: ∀(s b:Nat) (t:TypeId) (cs:List AV),K[s]? =some b→τ'.boxes[s]? =some (t,cs)→(s<τ.boxes.length∧s∉js∧X.κ[s]? =some b∧τ.boxes[s]? =some (t,cs))∨(∃i c,s=fwN js τ.boxes.length i∧Y.κ[i]? =some b∧bs'[i]? =some (t,c)∧cs=zby 0 (fwz js τ.boxes.length) c):=fun s b t cs hs hb'=>by
  rcases hKi s b hs with⟨hlt,h⟩|⟨hge,h⟩
  ·by_cases hm:s∈js
   ·right
    have hlt2:=List.idxOf_lt_length_of_mem hm
    have hs2:js[js.idxOf s]=s:=List.getElem_idxOf hlt2
    have hi2:js.idxOf s<bs'.length:=by omega
    refine⟨js.idxOf s,bs'[js.idxOf s].2,by rw[z1x hlt2,hs2],?_,?_,?_⟩
    ·have:κ0[js.idxOf s]? =some b:=hκ0i _ hlt2 b (by rw[hs2];exact h)
     exact hE.κ _ b this
    ·have h1:=hb1 (js.idxOf s) bs'[js.idxOf s].1 bs'[js.idxOf s].2 (List.getElem?_eq_getElem hi2)
     rw[z1x hlt2,hs2,hb'] at h1
     cases h1
     exact List.getElem?_eq_getElem hi2
    ·have h1:=hb1 (js.idxOf s) bs'[js.idxOf s].1 bs'[js.idxOf s].2 (List.getElem?_eq_getElem hi2)
     rw[z1x hlt2,hs2,hb'] at h1
     cases h1;rfl
   ·left
    rw[hb2 s hlt hm] at hb'
    exact⟨hlt,hm,h,hb'⟩
  ·right
   have hi2:js.length+(s-τ.boxes.length)<bs'.length:=by
    have:=(List.getElem?_eq_some_iff.1 h).1;omega
   have hfs:fwN js τ.boxes.length (js.length+(s-τ.boxes.length))=s:=by rw[z8g (by omega)];omega
   have h1:=hb1 _ _ _ (List.getElem?_eq_getElem hi2)
   rw[hfs,hb'] at h1
   cases h1
   exact⟨_,_,hfs.symm,h,List.getElem?_eq_getElem hi2,rfl⟩
 have get': ∀s b:Nat,K[s]? =some b→ ∃t cs,τ'.boxes[s]? =some (t,cs):=fun s b hs=>by
  have h1:=(List.getElem?_eq_some_iff.1 hs).1
  have h1:s<(X.κ++Y.κ.drop js.length).length:=h1
  rw[List.length_append,List.length_drop] at h1
  exact⟨_,_,List.getElem?_eq_getElem (by omega)⟩
 refine⟨v,Z,rfl,rfl,hX,{lens:=hI.lens.trans hl.symm,elems:=hI.elems.trans he.symm,κlen:= ?_,κnd:= ?_,box:= ?_,κF:= ?_,βlen:=hI.βlen,βnd:=hI.βnd,βκ:= ?_,row:= ?_,Ok:= ?_,Fcell:=hIY.Fcell,gv:=hIY.gv},hr0▸hrep r0 v hv⟩
 ·show(X.κ++Y.κ.drop js.length).length=_
  rw[List.length_append,List.length_drop,hlen];omega
 ·intro s1 s2 b1 h1 h2 h3
  obtain⟨t1,c1,g1⟩:=get' s1 b1 h1
  obtain⟨t2,c2,g2⟩:=get' s2 b1 h2
  show(∃t,τ'.boxes[s1]? =some (t,[]))∨ ∃t,τ'.boxes[s2]? =some (t,[])
  rcases new s1 b1 t1 c1 h1 g1 with⟨p1,p2,p3,p4⟩|⟨i1,e1,p1,p2,p3,p4⟩<;>rcases new s2 b1 t2 c2 h2 g2 with⟨q1,q2,q3,q4⟩|⟨i2,e2,q1,q2,q3,q4⟩
  ·rcases hI.κnd s1 s2 b1 p3 q3 h3 with⟨t,h⟩|⟨t,h⟩
   ·rw[p4] at h;cases h;exact .inl ⟨_,g1⟩
   ·rw[q4] at h;cases h;exact .inr ⟨_,g2⟩
  ·left
   by_cases e:b1∈κ0
   ·have:=hdead s1 t1 c1 b1 e p3 p2 p4;subst this;exact⟨_,g1⟩
   ·have hge:js.length≤i2:=Nat.le_of_not_lt fun hlt=>e (by
     obtain⟨b0,h0⟩: ∃b0,κ0[i2]? =some b0:=⟨_,List.getElem?_eq_getElem (by omega)⟩
     have:=hE.κ i2 b0 h0;rw[q2] at this;cases this;exact List.mem_of_getElem? h0)
    have:=hYnew i2 b1 hge q2 e;have:=hI.κlt (List.mem_of_getElem? p3);omega
  ·right
   by_cases e:b1∈κ0
   ·have:=hdead s2 t2 c2 b1 e q3 q2 q4;subst this;exact⟨_,g2⟩
   ·have hge:js.length≤i1:=Nat.le_of_not_lt fun hlt=>e (by
     obtain⟨b0,h0⟩: ∃b0,κ0[i1]? =some b0:=⟨_,List.getElem?_eq_getElem (by omega)⟩
     have:=hE.κ i1 b0 h0;rw[p2] at this;cases this;exact List.mem_of_getElem? h0)
    have:=hYnew i1 b1 hge p2 e;have:=hI.κlt (List.mem_of_getElem? q3);omega
  ·have hne:i1≠i2:=fun e=>h3 (by rw[p1,q1,e])
   rcases hIY.κnd i1 i2 b1 p2 q2 hne with⟨t,h⟩|⟨t,h⟩
   ·have h:bs'[i1]? =some (t,[]):=h
    rw[p3] at h;cases h;exact .inl ⟨t1,by rw[g1,p4,zby]⟩
   ·have h:bs'[i2]? =some (t,[]):=h
    rw[q3] at h;cases h;exact .inr ⟨t2,by rw[g2,q4,zby]⟩
 ·intro s b t cs hs hb'
  rcases new s b t cs hs hb' with⟨p1,p2,p3,p4⟩|⟨i,c,p1,p2,p3,p4⟩
  ·obtain⟨us1,zs1,v1,v2,v3⟩:=hI.box s b t cs p3 p4
   by_cases e:b∈κ0
   ·obtain rfl:=hdead s t cs b e p3 p2 p4
    obtain⟨i,hi⟩:=List.mem_iff_getElem?.1 e
    obtain⟨cur',k1,k2⟩:=hE.blk i b hi _ _ _ v1
    exact⟨[],cur'.toList,by simpa using k1,rfl,fun v hv=>by cases hv⟩
   ·exact⟨us1,zs1,(hblk b (hI.κlt (List.mem_of_getElem? p3)) e).trans v1,zba hIT hX _ _ v2,v3⟩
  ·obtain⟨us,zs,q1,q2,q3⟩:=hIY.box i b t c p2 p3
   exact⟨us,zs,q1,p4▸hrepL c us q2,q3⟩
 ·intro s b t cs hs hb' hne' o hf
  rcases new s b t cs hs hb' with⟨p1,p2,p3,p4⟩|⟨i,c,p1,p2,p3,p4⟩
  ·rcases hFn b o hf with h|h|h
   ·exact hI.κF s b t cs p3 p4 hne' o h
   ·have:=hI.κlt (List.mem_of_getElem? p3);omega
   ·exact hne' (hdead s t cs b h p3 p2 p4)
  ·exact hIY.κF i b t c p2 p3 (hmap_ne c (p4▸hne')) o hf
 ·intro r hr2 hm
  obtain⟨s,hs⟩:=List.mem_iff_getElem?.1 hm
  rcases hKi s _ hs with⟨_,h⟩|⟨_,h⟩
  ·exact hI.βκ r hr2 (List.mem_of_getElem? h)
  ·by_cases e:r.block∈κ0
   ·exact hI.βκ r hr2 (hκm _ e)
   ·have:=hYnew _ _ (by omega) h e;have:=hI.βlt hr2;omega
 ·intro s' q L hq hL
  obtain⟨cur',fz,c1,c2,c3,c4,c5,c6,c7⟩:=hI.row s' q L hq hL
  have hlt:=hI.βlt (List.mem_of_getElem? hq)
  have hnb:q.block∉κ0:=fun e=>hI.βκ q (List.mem_of_getElem? hq) (hκm _ e)
  refine⟨cur',fz,(hblk _ hlt hnb).trans c1,c2,c3,c4,c5,fun o hf=> ?_,c7⟩
  rcases hFn _ o hf with h|h|h
  ·exact c6 o h
  ·omega
  ·exact absurd h hnb
 ·intro b' ho
  obtain⟨⟨cs0,t0,f0,h0⟩,h2,h3,h4⟩:=hI.Ok b' ho
  have hlt:=hI.Olt ho
  have hnb:b'∉κ0:=fun e=>h2 (hκm _ e)
  refine⟨⟨cs0,t0,f0,(hblk b' hlt hnb).trans h0⟩,fun hm=> ?_,h3,fun o hf=> ?_⟩
  ·obtain⟨s,hs⟩:=List.mem_iff_getElem?.1 hm
   rcases hKi s _ hs with⟨_,h⟩|⟨_,h⟩
   ·exact h2 (List.mem_of_getElem? h)
   ·have:=hYnew _ _ (by omega) h hnb;omega
  ·rcases hFn b' o hf with h|h|h
   ·exact h4 o h
   ·omega
   ·exact absurd h hnb
end Go.Ab
