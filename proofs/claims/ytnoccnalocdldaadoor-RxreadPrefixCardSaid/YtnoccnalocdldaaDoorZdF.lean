import Derived.Test.YtnoccnalocdldaaDoorZdC
import Derived.Great.BuildSlice
import Derived.Lib.FrozenHead2
set_option linter.all false
open Nat (le_refl zero_add lt_or_ge)
open List (length_append mem_of_getElem? getElem?_eq_getElem getElem?_append_left mem_append mem_cons getElem?_set_ne getElem?_set_self getElem?_map mem_map)
namespace Go.Ab
open Go Go.RowKit Go.Fwd
variable {IT:IterP} {U:St} {X:Cx}
theorem Inv.κlt (hI:Inv IT U X) {b:Nat} (hb:b∈X.κ):b<X.w.heap.size:=by
 obtain⟨s,hs,rfl⟩:=List.mem_iff_getElem.1 hb;have hs':X.κ[s]? =some X.κ[s]:=by simp[hs]
 have hl:=hI.κlen;obtain⟨t,cs,he⟩: ∃t cs,U.boxes[s]? =some (t,cs):=⟨(U.boxes[s]'(by omega)).1,(U.boxes[s]'(by omega)).2,by rw[getElem?_eq_getElem (by omega)]⟩;obtain⟨vs,zs,h1,_⟩:=hI.box s _ t cs hs' he;exact(Array.getElem?_eq_some_iff.1 h1).1
theorem Inv.βlt (hI:Inv IT U X) {r:Row} (hr:r∈X.β):r.block<X.w.heap.size:=by
 obtain⟨s,hs,rfl⟩:=List.mem_iff_getElem.1 hr;have hs':X.β[s]? =some X.β[s]:=by simp[hs]
 have hl:=hI.βlen;obtain⟨cur,fz,h1,_⟩:=hI.row s _ (X.lens[s]'(by omega)) hs' (by rw[getElem?_eq_getElem (by omega)]);exact(Array.getElem?_eq_some_iff.1 h1).1
theorem Inv.Olt (hI:Inv IT U X) {b:Nat} (h:X.O b):b<X.w.heap.size:=by
 obtain⟨⟨cs,t,f,h⟩,_⟩:=hI.Ok b h;exact(Array.getElem?_eq_some_iff.1 h).1
theorem zqd {w:World} {b o:Nat} {v:Value} (h:w.cell? ⟨b,o,none⟩=some v):b<w.heap.size:=by
 unfold World.cell? at h;cases hb:w.heap[b]? with
 |none=>simp[hb] at h
 |some x=>exact(Array.getElem?_eq_some_iff.1 hb).1
theorem Inv.Flt (hI:Inv IT U X) {b o:Nat} (hf:X.F b o):b<X.w.heap.size:=by
 obtain⟨v,hv⟩:=hI.Fcell b o hf;exact zqd hv
theorem zmy (hIT:ITMono IT) {U:St} {X:Cx} (hI:Inv IT U X) {s b:Nat} {t:TypeId} {cs cs':List AV} {vs' zs:List Value} (hs:X.κ[s]? =some b)(hb:U.boxes[s]? =some (t,cs))(hne:cs≠[])
 (hsize: ∀cur t f,X.w.heap[b]? =some (.cells cur t f)->cur.size=(vs'++zs).length) (hr:zbr IT X cs' vs') (h1: ∀v∈vs',v.oneCell'=true):
 Ext X {X with w:=X.w.setRow b (vs'++zs).toArray}/\ Inv IT {U with boxes:=U.boxes.set s (t,cs')} {X with w:=X.w.setRow b (vs'++zs).toArray}:=by
 obtain⟨vs,zs0,k1,k2,k3⟩:=hI.box s b t cs hs hb;have hbm:b∈X.κ:=mem_of_getElem? hs;have hnew:(X.w.setRow b (vs'++zs).toArray).heap[b]? =some (.cells (vs'++zs).toArray t (0,0)):=setRow_heap _ _ _ _ _ _ k1;have hcell: ∀(b' o:Nat),X.F b' o->(X.w.setRow b (vs'++zs).toArray).cell? ⟨b',o,none⟩=X.w.cell? ⟨b',o,none⟩:=fun b' o hf=>
  cell_setRow_other _ _ _ _ fun e=>hI.κF s b t cs hs hb hne o (e▸hf)
 have hdead: ∀(s':Nat) (t':TypeId) (c:List AV),X.κ[s']? =some b->s'≠s->U.boxes[s']? =some (t',c)->c=[]:=fun s' t' c h2 h3 h4=>by
  rcases hI.κnd s' s b h2 hs h3 with⟨t2,h5⟩|⟨t2,h5⟩
  ·rw[h4] at h5;cases h5;rfl
  ·rw[hb] at h5;cases h5;exact absurd rfl hne
 have hE:Ext X {X with w:=X.w.setRow b (vs'++zs).toArray}:={
  os:=rfl,tape:=rfl,output:=rfl,size:=by simp,drawn:=(by first|exact le_refl _|exact Nat.le_succ _)
  F:=fun _ _ h=>h
  cell:=hcell
  κ:=fun _ _ h=>h
  lens:=fun s L h=>⟨L,h,le_refl _,fun _=>rfl⟩
  blk:=fun s' b' _ cur t' f h=>by
   by_cases e:b'=b
   ·subst e;rw[k1] at h;have h2:=hsize _ _ _ k1;cases h;exact⟨_,hnew,by simpa using h2.symm⟩
   ·exact⟨cur,(setRow_other _ _ _ _ e).trans h,rfl⟩
  szs:=Szs.one b (fun k _ e=>setRow_other _ _ _ _ e) fun cs t f h=>by
   rw[k1] at h;have h2:=hsize _ _ _ k1;cases h;exact⟨_,_,_,hnew,by simpa using h2.symm⟩
  frame:=fun b' _ hk _=>setRow_other _ _ _ _ fun e=>hk (e▸hbm)
  κnew:=fun _ h=> .inl h
  βnew:=fun r h=> .inl ⟨r,h,rfl⟩
  O:=rfl
  C:=rfl
  Fnew:=fun _ _ h=> .inl h}
 refine⟨hE,{hI with
  gv:=qdj hIT hE hI.gv
  lens:=hI.lens
  elems:=hI.elems
  κlen:=by simpa using hI.κlen
  κnd:=fun s1 s2 b' h2 h3 h4=> ?_
  κF:=fun s' b' t' c hs' hb' hc o hf=> ?_
  box:=fun s' b' t' c hs' hb'=> ?_
  row:=fun s' r L hr' hL=> ?_
  Ok:=fun b' ho=>by
   obtain⟨⟨cs0,t0,f0,h0⟩,h2,h3,h4⟩:=hI.Ok b' ho;exact⟨⟨cs0,t0,f0,(setRow_other _ _ _ _ (by intro e;subst e;exact h2 hbm)).trans h0⟩,h2,h3,h4⟩
  Fcell:=fun b' o hf=>by
   obtain⟨v,hv⟩:=hI.Fcell b' o hf;exact⟨v,(hcell b' o hf).trans hv⟩}⟩
 ·have put: ∀(s':Nat),s'≠s-> ∀t0,U.boxes[s']? =some (t0,[])-> ∃t0,(U.boxes.set s (t,cs'))[s']? =some (t0,[]):=fun s' e t0 h=>⟨t0,by rw[getElem?_set_ne (Ne.symm e)];exact h⟩;by_cases e1:s1=s
  ·subst e1;rw[hs] at h2;cases h2;obtain⟨c2,hc2⟩: ∃c2,U.boxes[s2]? =some c2:=by
    have:s2<X.κ.length:=(List.getElem?_eq_some_iff.1 h3).1;have hl:=hI.κlen;exact⟨U.boxes[s2]'(by omega),getElem?_eq_getElem _⟩
   obtain⟨t2,c2⟩:=c2;have:=hdead s2 t2 c2 h3 (Ne.symm h4) hc2;subst this;exact .inr (put s2 (Ne.symm h4) t2 hc2)
  ·by_cases e2:s2=s
   ·subst e2;rw[hs] at h3;cases h3;obtain⟨c2,hc2⟩: ∃c2,U.boxes[s1]? =some c2:=by
     have:s1<X.κ.length:=(List.getElem?_eq_some_iff.1 h2).1;have hl:=hI.κlen;exact⟨U.boxes[s1]'(by omega),getElem?_eq_getElem _⟩
    obtain⟨t2,c2⟩:=c2;have:=hdead s1 t2 c2 h2 h4 hc2;subst this;exact .inl (put s1 h4 t2 hc2)
   ·exact(hI.κnd s1 s2 b' h2 h3 h4).imp (fun⟨t0,h⟩=>put s1 e1 t0 h) (fun⟨t0,h⟩=>put s2 e2 t0 h)
 ·by_cases e:s'=s
  ·subst e;rw[hs] at hs';cases hs';have hlt:s'<U.boxes.length:=(List.getElem?_eq_some_iff.1 hb).1;have hb2:some (t,cs')=some (t',c):=by
    have:(U.boxes.set s' (t,cs'))[s']? =some (t',c):=hb';rwa[getElem?_set_self hlt] at this
   cases hb2;exact⟨vs',zs,hnew,zaw hIT hE _ _ hr,h1⟩
  ·have hb2:U.boxes[s']? =some (t',c):=by
    have:(U.boxes.set s (t,cs'))[s']? =some (t',c):=hb';rwa[getElem?_set_ne (Ne.symm e)] at this
   obtain⟨us,zs',u1,u2,u3⟩:=hI.box s' b' t' c hs' hb2;by_cases hbb:b'=b
   ·subst hbb;have hc:=hdead s' t' c hs' e hb2;subst hc;rw[k1] at u1;simp only[Option.some.injEq,Obj.cells.injEq] at u1;obtain⟨_,rfl,_⟩:=u1;exact⟨[],vs'++zs,hnew,by rw[zbr],by simp⟩
   ·exact⟨us,zs',(setRow_other _ _ _ _ hbb).trans u1,zaw hIT hE _ _ u2,u3⟩
 ·by_cases e:s'=s
  ·subst e;rw[hs] at hs';cases hs';exact hI.κF s' b t cs hs hb hne o hf
  ·have hb2:U.boxes[s']? =some (t',c):=by
    have:(U.boxes.set s (t,cs'))[s']? =some (t',c):=hb';rwa[getElem?_set_ne (Ne.symm e)] at this
   exact hI.κF s' b' t' c hs' hb2 hc o hf
 ·obtain⟨cur,fz,c1,c2⟩:=hI.row s' r L hr' hL;have hne:r.block≠b:=fun e=>hI.βκ r (mem_of_getElem? hr') (e▸hbm);exact⟨cur,fz,(setRow_other _ _ _ _ hne).trans c1,c2⟩
theorem zsc (hI:Inv IT U X)(o:Obj)(G:Nat->Prop)(κn:List Nat)(hκ: ∀b∈κn,b=X.w.heap.size):
 Ext X {X with w:=X.w.alloc o,F:=fun b i=>X.F b i \/(b=X.w.heap.size/\ G i),κ:=X.κ++κn} where
 os:=rfl
 tape:=rfl
 output:=rfl
 size:=by simp
 drawn:=(by first|exact le_refl _|exact Nat.le_succ _)
 F:=fun _ _ h=> .inl h
 cell:=fun b i hf=>World.cell?_of_block (Below.heap_alloc _ _ _ (hI.Flt hf))
 κ :=fun s b h=>by
  have:=(List.getElem?_eq_some_iff.1 h).1
  show(X.κ++κn)[s]? =some b
  rw[getElem?_append_left this];exact h
 lens:=fun s L h=>⟨L,h,le_refl _,fun _=>rfl⟩
 blk:=fun s b hs cur t f h=>⟨cur,(Below.heap_alloc _ _ _ (hI.κlt (mem_of_getElem? hs))).trans h,rfl⟩
 szs:=Szs.old fun k hk=>Below.heap_alloc _ _ _ hk
 frame:=fun b hb _ _=>Below.heap_alloc _ _ _ hb
 κnew:=fun b h=>by
  rcases mem_append.1 h with h|h
  ·exact .inl h
  ·exact .inr (by rw[hκ b h];exact le_refl _)
 βnew:=fun r h=> .inl ⟨r,h,rfl⟩
 O:=rfl
 C:=rfl
 Fnew:=fun b i h=>by
  rcases h with h|⟨h,_⟩
  ·exact .inl h
  ·exact .inr (.inl (h▸le_refl _))
theorem z4x (hIT:ITMono IT) {U:St} {X:Cx} (hI:Inv IT U X) {t:TypeId} {cs:List AV} {vs:List Value} (zs:List Value)(hr:zbr IT X cs vs)(h1: ∀v∈vs,v.oneCell'=true):
 ∃X',X'.w=X.w.alloc (.cells (vs++zs).toArray t)/\ Ext X X'/\ Inv IT {U with boxes:=U.boxes++[(t,cs)]} X'/\ Rep IT X' (.ptr U.boxes.length 0) (.pointer (some ⟨X.w.heap.size,0,none⟩)):=by
 have hE:=zsc hI (.cells (vs++zs).toArray t) (fun _=>False) [X.w.heap.size] (fun b h=>by simpa using h);refine⟨_,rfl,hE,?_,?_⟩
 ·refine {lens:=hI.lens,elems:=hI.elems,κlen:=by simp[hI.κlen],κnd:= ?_,box:= ?_,κF:= ?_,βlen:=hI.βlen,βnd:=hI.βnd,βκ:= ?_,row:= ?_,Ok:= ?_,Fcell:= ?_}
  ·intro s s' b h2 h3 h4;have old: ∀s,(X.κ++[X.w.heap.size])[s]? =some b->(X.κ[s]? =some b/\ s<U.boxes.length) \/(s=X.κ.length/\ b=X.w.heap.size):=fun s h=>by
    have hl:=hI.κlen;rcases lt_or_ge s X.κ.length with hlt|hge
    ·rw[getElem?_append_left hlt] at h;exact .inl ⟨h,by omega⟩
    ·have:=(List.getElem?_eq_some_iff.1 h).1;simp at this;have e:s=X.κ.length:=by omega
     subst e;simp at h;exact .inr ⟨rfl,h.symm⟩
   have up: ∀s,s<U.boxes.length->(∃t,U.boxes[s]? =some (t,[]))-> ∃t',(U.boxes++[(t,cs)])[s]? =some (t',[]):=fun s hs ⟨t0,h⟩=>⟨t0,by rw[getElem?_append_left hs];exact h⟩;rcases old s h2 with⟨k2,l2⟩|⟨k2,l2⟩
   ·rcases old s' h3 with⟨k3,l3⟩|⟨k3,l3⟩
    ·exact(hI.κnd s s' b k2 k3 h4).imp (up s l2) (up s' l3)
    ·have:=hI.κlt (mem_of_getElem? k2);omega
   ·rcases old s' h3 with⟨k3,l3⟩|⟨k3,l3⟩
    ·have:=hI.κlt (mem_of_getElem? k3);omega
    ·omega
  ·intro s b t' c hs hb;have hlen:=hI.κlen;rcases lt_or_ge s X.κ.length with hlt|hge
   ·have hs':X.κ[s]? =some b:=by rw[<-hs];exact(getElem?_append_left hlt).symm
    have hb':U.boxes[s]? =some (t',c):=by rw[<-hb];exact(getElem?_append_left (by omega)).symm
    obtain⟨us,zs',u1,u2,u3⟩:=hI.box s b t' c hs' hb';exact⟨us,zs',(Below.heap_alloc _ _ _ (hI.κlt (mem_of_getElem? hs'))).trans u1,zaw hIT hE _ _ u2,u3⟩
   ·have h0:s=X.κ.length:=by
     have:=(List.getElem?_eq_some_iff.1 hs).1;simp at this;omega
    subst h0;have e1:b=X.w.heap.size:=by
     have:(X.κ++[X.w.heap.size])[X.κ.length]? =some b:=hs;simp at this;exact this.symm
    have e2:(t,cs)=(t',c):=by
     have:(U.boxes++[(t,cs)])[X.κ.length]? =some (t',c):=hb;rw[hlen] at this;simpa using this
    cases e2;subst e1;exact⟨vs,zs,zeu _ _ _ rfl,zaw hIT hE _ _ hr,h1⟩
  ·intro s b t' c hs hb hc o hf;rcases hf with hf|⟨_,hf⟩
   ·have hlen:=hI.κlen;rcases lt_or_ge s X.κ.length with hlt|hge
    ·have hs':X.κ[s]? =some b:=by rw[<-hs];exact(getElem?_append_left hlt).symm
     have hb':U.boxes[s]? =some (t',c):=by rw[<-hb];exact(getElem?_append_left (by omega)).symm
     exact hI.κF s b t' c hs' hb' hc o hf
    ·have h0:s=X.κ.length:=by
      have:=(List.getElem?_eq_some_iff.1 hs).1;simp at this;omega
     subst h0;have e1:b=X.w.heap.size:=by
      have:(X.κ++[X.w.heap.size])[X.κ.length]? =some b:=hs;simp at this;exact this.symm
     have:=hI.Flt hf;omega
   ·exact hf
  ·intro r hr' hm;rcases mem_append.1 hm with hm|hm
   ·exact hI.βκ r hr' hm
   ·have:=hI.βlt hr';simp at hm;omega
  ·intro s r L hr' hL;obtain⟨cur,fz,c1,c2,c3,c4,c5,c6,c7⟩:=hI.row s r L hr' hL;refine⟨cur,fz,(Below.heap_alloc _ _ _ (hI.βlt (mem_of_getElem? hr'))).trans c1,c2,c3,c4,c5,fun o hf=> ?_,c7⟩;rcases hf with hf|⟨_,hf⟩
   ·exact c6 o hf
   ·exact hf.elim
  ·intro b ho;obtain⟨⟨cs0,t0,f0,h0⟩,h2,h3,h4⟩:=hI.Ok b ho;have hlt:=hI.Olt ho;refine⟨⟨cs0,t0,f0,(Below.heap_alloc _ _ _ hlt).trans h0⟩,fun hm=> ?_,h3,fun o hf=>hf.elim (h4 o) fun h=>h.2.elim⟩;rcases mem_append.1 hm with hm|hm
   ·exact h2 hm
   ·simp at hm;omega
  ·intro b o hf;rcases hf with hf|⟨_,hf⟩
   ·obtain⟨v,hv⟩:=hI.Fcell b o hf;exact⟨v,(hE.cell b o hf).trans hv⟩
   ·exact hf.elim
 ·rw[Rep];refine⟨X.w.heap.size,?_,rfl⟩
  show(X.κ++[X.w.heap.size])[U.boxes.length]? =_
  rw[<-hI.κlen];simp
theorem ztm (hIT:ITMono IT) {U:St} {X:Cx} (hI:Inv IT U X) {t:TypeId} {cs:List AV} {vs:List Value} (hr:zbr IT X cs vs)(h1: ∀v∈vs,v.oneCell'=true):
 ∃X',X'.w=X.w.alloc (.cells vs.toArray t)/\ Ext X X'/\ Inv IT {U with boxes:=U.boxes++[(t,cs)]} X'/\ Rep IT X' (.ptr U.boxes.length 0) (.pointer (some ⟨X.w.heap.size,0,none⟩)):=by
 obtain⟨X',h1,h2⟩:=z4x hIT hI (t:=t) [] hr h1;exact⟨X',by rw[h1,List.append_nil],h2⟩
theorem zyh {b:Nat}: ∀ {cs:List AV} {vs:List Value} {o:Nat},(∀j,j<vs.length->X.F b (o+j))->(∀v∈vs,v.oneCell'=true)->zbr IT X cs vs->(∀(j:Nat) v,vs[j]? =some v->X.w.cell? ⟨b,o+j,none⟩=some v)->At IT X cs b o
 |[],vs,o,_,_,_,_=>by rw[At];trivial
 | a::l,vs,o,hf,h1,h,hc=>by
  rw[zbr] at h;obtain⟨v,r,rfl,h2,h3⟩:=h;rw[At];refine⟨⟨by simpa using hf 0 (by simp),v,by simpa using hc 0 v rfl,h1 v (by simp),h2⟩,zyh (fun j hj=> ?_) (fun u hu=>h1 u (by simp[hu])) h3 fun j u hu=> ?_⟩
  ·have:=hf (j+1) (by simp;omega);rwa[show o+(j+1)=o+1+j by omega] at this
  ·have:=hc (j+1) u (by simpa using hu);rwa[show o+(j+1)=o+1+j by omega] at this
theorem z7y (hIT:ITMono IT) {U:St} {X:Cx} (hI:Inv IT U X)(t:TypeId) {cs:List AV} {vs:List Value} (hr:zbr IT X cs vs)(h1: ∀v∈vs,v.oneCell'=true):
 ∃ X',X'.w=X.w.alloc (.cells vs.toArray t)/\ Ext X X'/\ Inv IT U X'/\ At IT X' cs X.w.heap.size 0/\
  Grows X.w X'.w/\ X'.κ=X.κ/\ X'.β=X.β/\ X'.lens=X.lens/\ (X'.O=X.O/\ X'.C=X.C)/\ ∀b i,X'.F b i->X.F b i \/X.w.heap.size<=b:=by
 have hE:=zsc hI (.cells vs.toArray t) (fun i=>i<vs.length) [] (fun b h=>by simp at h);refine⟨_,rfl,hE,?_,?_,(Ex.refl _ _).alloc (le_refl _) _,by simp,rfl,rfl,⟨rfl,rfl⟩,fun b i h=>h.imp id fun h=>Nat.le_of_eq h.1.symm⟩
 ·refine {lens:=hI.lens,elems:=hI.elems,κlen:=by simpa using hI.κlen,κnd:=by simpa using hI.κnd,box:= ?_,κF:= ?_,βlen:=hI.βlen,βnd:=hI.βnd,βκ:=by simpa using hI.βκ,row:= ?_,Ok:= ?_,Fcell:= ?_}
  ·intro s b t' c hs hb;have hs':X.κ[s]? =some b:=by simpa using hs
   obtain⟨us,zs',u1,u2,u3⟩:=hI.box s b t' c hs' hb;exact⟨us,zs',(Below.heap_alloc _ _ _ (hI.κlt (mem_of_getElem? hs'))).trans u1,zaw hIT hE _ _ u2,u3⟩
  ·intro s b t' c hs hb hc o hf;have hs':X.κ[s]? =some b:=by simpa using hs
   rcases hf with hf|⟨e,_⟩
   ·exact hI.κF s b t' c hs' hb hc o hf
   ·have:=hI.κlt (mem_of_getElem? hs');omega
  ·intro s r L hr' hL;obtain⟨cur,fz,c1,c2,c3,c4,c5,c6,c7⟩:=hI.row s r L hr' hL;have hlt:=hI.βlt (mem_of_getElem? hr');refine⟨cur,fz,(Below.heap_alloc _ _ _ hlt).trans c1,c2,c3,c4,c5,fun o hf=> ?_,c7⟩;rcases hf with hf|⟨e,_⟩
   ·exact c6 o hf
   ·omega
  ·intro b ho;obtain⟨⟨cs0,t0,f0,h0⟩,h2,h3,h4⟩:=hI.Ok b ho;have hlt:=hI.Olt ho;exact⟨⟨cs0,t0,f0,(Below.heap_alloc _ _ _ hlt).trans h0⟩,by simpa using h2,h3,fun o hf=>hf.elim (h4 o) fun h=>by omega⟩
  ·intro b o hf;rcases hf with hf|⟨e,hf⟩
   ·obtain⟨v,hv⟩:=hI.Fcell b o hf;exact⟨v,(hE.cell b o hf).trans hv⟩
   ·subst e;refine⟨vs[o],?_⟩
    show(X.w.alloc _).cell? _=_
    rw[cell_of_row _ _ _ _ _ _ (zeu _ _ _ rfl)];simp[hf]
 ·refine zyh (fun j hj=> .inr ⟨rfl,by omega⟩) h1 (zaw hIT hE _ _ hr) fun j u hu=> ?_
  show(X.w.alloc _).cell? _=_
  rw[cell_of_row _ _ _ _ _ _ (zeu _ _ _ rfl),zero_add];simpa using hu
variable {IT:IterP} {X:Cx} {P:Program}
def zht:AV->Bool
 | .raw u=>u.oneCell'
 | .agg _| .list _ _ _| .ptr _ _| .bsl _ _ _ _ _| .iptr _| .clos _ _| .yld _=>true
 |_=>false
theorem zkz {a:AV} {v:Value} (h:zht a=true)(k:Rep IT X a v):zbr IT X (zcg a) v.cells.toList/\ ∀u∈v.cells.toList,u.oneCell'=true:=by
 have one:v.oneCell'=true->v.cells= #[v]->Rep IT X a v->zbr IT X [a] v.cells.toList/\ ∀u∈v.cells.toList,u.oneCell'=true:=fun h1 h2 h3=>by
  rw[h2,zbr];exact⟨⟨v,[],by simp,h3,by rw[zbr]⟩,by simpa using h1⟩
 cases a with
 | raw u=>
  have hk:=k;rw[Rep] at k;subst k;exact one h (by cases v<;>first|rfl|simp[zht,Value.oneCell'] at h) hk
 | agg cs=>
  rw[Rep] at k;obtain⟨vs,rfl,k1,k2⟩:=k;exact⟨by simpa[zcg,Value.cells] using k1,by simpa[Value.cells] using k2⟩
 | list n cs st=>
  have hk:=k;rw[Rep] at k;obtain⟨_,_,rfl,_⟩:=k;exact one rfl rfl hk
 | ptr s off=>
  have hk:=k;rw[Rep] at k;obtain⟨_,_,rfl⟩:=k;exact one rfl rfl hk
 | bsl s off n sz f=>
  have hk:=k;rw[Rep] at k;obtain⟨_,_,_,_,_,rfl,_⟩:=k;exact one rfl rfl hk
 | iptr cs=>
  have hk:=k;rw[Rep] at k;obtain⟨_,_,rfl,_⟩:=k;exact one rfl rfl hk
 | clos f c=>
  have hk:=k;rw[Rep] at k;obtain⟨_,rfl,_⟩:=k;exact one rfl rfl hk
 | yld l=>
  have hk:=k;rw[Rep] at k;subst k;exact one rfl rfl hk
 |_=>cases h
def zop (P:Program)(U:St)(t:TypeId)(x y:AV):Option St:=
 match x with
 | .ptr s off=>match U.boxes[s]?,zdm P t with
  |some bx,some n=>if zht y=true/\ (zcg y).length=n/\ off+n<=bx.2.length/\ 0<n then some {U with boxes:=U.boxes.set s (bx.1,bx.2.take off++zcg y++bx.2.drop (off+n))} else none
  |_,_=>none
 |_=>none
theorem z0y (hIT:ITMono IT) {P:Program} {X:Cx} {U U':St} {t:TypeId} {x y:AV} {u v:Value} (h:zop P U t x y=some U')(hx:Rep IT X x u)(hy:Rep IT X y v)(hI:Inv IT U X):
 ∃X',(Instr.storeAt t u v).run P X.w= .ok () X'.w/\ Ext X X'/\ Inv IT U' X':=by
 unfold zop at h;split at h<;>try cases h
 rename_i s off;rw[Rep] at hx;obtain⟨b,hb,rfl⟩:=hx;split at h<;>try cases h
 rename_i bx n hbx hn;obtain⟨t0,cs⟩:=bx;split at h<;>try cases h
 rename_i hc;obtain⟨hc1,hc2,hc3,hc4⟩:=hc;obtain⟨k1,k2⟩:=zkz hc1 hy;obtain⟨vs,zs,u1,u2,u3⟩:=hI.box s b t0 cs hb hbx;have hl:=zq u2;have hl2:=zq k1;simp only at hc3;have hst:=run_storeCells_at P b off t0 v.cells.toList 0 (vs++zs).toArray X.w u1 (by simp at hl2⊢;omega) k2;simp only[Nat.add_zero] at hst;have hsz:v.cells.size=n:=by simp at hl2;omega
 have hlist:v.cells.toList.length=n:=by simpa using hsz
 rw[hlist] at hst
 obtain⟨e1,e2⟩:=zmy hIT hI (zs:=zs) hb hbx (by intro e;subst e;simp at hc3;omega) (fun cur t f hc=>by rw[u1] at hc;cases hc;simp at hl2⊢;omega) (zbp (zbp (zef u2 off) k1) (zgv u2 (off+n)))
  (fun w hw=>by
   rcases mem_append.1 hw with hw|hw
   ·rcases mem_append.1 hw with hw|hw
    ·exact u3 w (List.mem_of_mem_take hw)
    ·exact k2 w hw
   ·exact u3 w (List.mem_of_mem_drop hw))
 have hrow:(vs++zs).take off++v.cells.toList++(vs++zs).drop (off+n)=vs.take off++v.cells.toList++vs.drop (off+n)++zs:=by
  rw[List.take_append_of_le_length (by omega),List.drop_append_of_le_length (by omega)];simp
 refine⟨_,?_,e1,e2⟩;simp only[Instr.storeAt,Instr.sureAddr,storeVar,Sem.run_bind,Sem.run_pure,Result.andThen_ok,zed hn,hsz];simp only[<-hrow];simpa using hst
theorem zov {t:TypeId} {v:Value} (w:World):(newVar t v).run P w= .ok ⟨w.heap.size,0,none⟩ (w.alloc (.cells v.cells t)):=by
 rfl
def aBox (U:St)(t:TypeId)(x:AV):Option (AV×St):=
 if zht x=true then some (.ptr U.boxes.length 0,{U with boxes:=U.boxes++[(t,zcg x)]}) else none
theorem zve (hIT:ITMono IT) {P:Program} {X:Cx} {U U':St} {t:TypeId} {x a:AV} {v:Value} (h:aBox U t x=some (a,U'))(hx:Rep IT X x v)(hI:Inv IT U X):
 ∃X',(Instr.box t v).run P X.w= .ok (.pointer (some ⟨X.w.heap.size,0,none⟩)) X'.w/\ Ext X X'/\ Inv IT U' X'/\ Rep IT X' a (.pointer (some ⟨X.w.heap.size,0,none⟩)):=by
 unfold aBox at h;split at h<;>cases h
 rename_i hc;obtain⟨k1,k2⟩:=zkz hc hx;obtain⟨X',e1,e2,e3,e4⟩:=ztm hIT hI (t:=t) k1 k2;refine⟨X',?_,e2,e3,e4⟩;simp only[Instr.box,Sem.run_bind,zov,Result.andThen_ok,Sem.run_pure,e1]
def zqo (P:Program)(U:St)(t:TypeId):Option (AV×St):=
 match P.info? t with
 | some i=>match i.zero with
  |some z=>if zou z=true then aBox U t (zje z) else none
  |none=>none
 |none=>none
theorem zjo {t:TypeId} {i:TypeInfo} {z:Value} (h:P.info? t=some i)(hz:i.zero=some z)(w:World):(zeroValue t).run P w= .ok z w:=by
 simp[zeroValue,typeInfo,program,Sem.run,h,hz]
theorem z0l (hIT:ITMono IT) {P:Program} {X:Cx} {U U':St} {t:TypeId} {a:AV} {old:Value} (h:zqo P U t=some (a,U'))(hI:Inv IT U X):
 ∃X',(Instr.alloc t true old).run P X.w= .ok (.pointer (some ⟨X.w.heap.size,0,none⟩)) X'.w/\ Ext X X'/\ Inv IT U' X'/\ Rep IT X' a (.pointer (some ⟨X.w.heap.size,0,none⟩)):=by
 unfold zqo at h;split at h<;>try cases h
 rename_i i hi;split at h<;>try cases h
 rename_i z hz;split at h<;>try cases h
 rename_i hok;obtain⟨X',e1,e2,e3,e4⟩:=zve hIT (P:=P) h (zhy z hok) hI;refine⟨X',?_,e2,e3,e4⟩;have:(Instr.alloc t true old).run P X.w=(Instr.box t z).run P X.w:=by
  cases old<;>simp[Instr.alloc,Instr.box,zjo hi hz]
 rw[this];exact e1
def zwd (zfm:Nat->Option (Nat×Nat)):List AV->List (Nat×AV)->Option (List AV)
 |cells,[]=>some cells
 | cells,(i,a)::rest=>match zfm i with
  |none=>none
  |some (off,size)=>if zht a=true/\ (zcg a).length=size/\ off+size<=cells.length then zwd zfm (cells.take off++zcg a++cells.drop (off+size)) rest else none
theorem zun (off:Nat): ∀(l:List Value) (k:Nat) (cs:Array Value),off+k+l.length<=cs.size->
 ((l.zipIdx k).foldl (fun cs (x:Value×Nat)=>cs.setIfInBounds (off+x.2) x.1) cs)=(cs.toList.take (off+k)++l++cs.toList.drop (off+k+l.length)).toArray
 |[],k,cs,_=>by simp
 | v::l,k,cs,h=>by
  rw[List.zipIdx_cons,List.foldl_cons,zun off l (k+1) _ (by simp at h⊢;omega)];apply Array.ext';have:=list_seg_step cs.toList (off+k) v l (by simp at h⊢;omega);simpa[Nat.add_assoc] using this
def zqu (IT:IterP)(X:Cx):List (Nat×AV)->List (Nat×Value)->Prop
 |[],qs=>qs=[]
 |p::ps,qs=> ∃v r,qs=(p.1,v)::r/\ Rep IT X p.2 v/\ zqu IT X ps r
theorem zpl {zfm:Nat->Option (Nat×Nat)}: ∀ {ps:List (Nat×AV)} {qs:List (Nat×Value)} {cells cells':List AV} {vs:List Value},zwd zfm cells ps=some cells'->zqu IT X ps qs->zbr IT X cells vs->
 (∀v∈vs,v.oneCell'=true)-> ∃vs',Instr.fill zfm vs.toArray qs=some vs'.toArray/\ zbr IT X cells' vs'/\ ∀v∈vs',v.oneCell'=true
 | [],_,cells,cells',vs,h,hp,hr,h1=>by
  rw[zqu] at hp;subst hp;simp only[zwd,Option.some.injEq] at h;subst h;exact⟨vs,rfl,hr,h1⟩
 | (i, a)::ps,_,cells,cells',vs,h,hp,hr,h1=>by
  rw[zqu] at hp;obtain⟨v,qs,rfl,hv,hp⟩:=hp;simp only[zwd] at h;cases hpl:zfm i with
  |none=>rw[hpl] at h;cases h
  | some os=>
   obtain⟨off,size⟩:=os;rw[hpl] at h;simp only at h;split at h<;>try cases h
   rename_i hc;obtain⟨hc1,hc2,hc3⟩:=hc;obtain⟨k1,k2⟩:=zkz hc1 hv;have hl:=zq hr;have hl2:=zq k1;have hsz:v.cells.size=size:=by simp at hl2;omega
   have hlist:v.cells.toList.length=size:=by simpa using hsz
   have hfold:(v.cells.zipIdx.foldl (fun cs (x:Value×Nat)=>cs.setIfInBounds (off+x.2) x.1) vs.toArray)=(vs.take off++v.cells.toList++vs.drop (off+size)).toArray:=by
    have:=zun off v.cells.toList 0 vs.toArray (by simp;omega);rw[hlist] at this;simp only[Nat.add_zero] at this;rw[<-this, <-Array.foldl_toList,Array.toList_zipIdx]
   obtain⟨vs',e1,e2,e3⟩:=zpl h hp (zbp (zbp (zef hr off) k1) (zgv hr (off+size)))
    (fun w hw=>by
     rcases mem_append.1 hw with hw|hw
     ·rcases mem_append.1 hw with hw|hw
      ·exact h1 w (List.mem_of_mem_take hw)
      ·exact k2 w hw
     ·exact h1 w (List.mem_of_mem_drop hw))
   refine⟨vs',?_,e2,e3⟩;simp only[Instr.fill,hpl];rw[if_neg (by simp[hsz];omega)];rw[<-e1];congr 1
def zmz (z:Value):List AV:=z.cells.toList.map zit
theorem zya (l:List Value):zbr IT X (l.map zit) l:=by
 refine zfc (by simp) fun i a v h1 h2=> ?_;rw[getElem?_map,h2] at h1;simp at h1;subst h1;exact zjj v
def qbe (P:Program)(t:TypeId)(parts:List (Nat×AV)):Option AV:=
 match P.info? t,P.underlying t with
 | some it,some (.array _ e)=>
  match it.zero,P.info? e with
  |some z,some ie=>if z.cells.toList.all (·.oneCell')=true then(zwd (fun i=>some (i*ie.size,ie.size)) (zmz z) parts).map .agg else none
  |_,_=>none
 | some it,some (.struct fields)=>
  match it.zero,fields.toList.mapM (fun f=>(P.info? f.type).map fun i=>(f.offset,i.size)) with
  |some z,some places=>if z.cells.toList.all (·.oneCell')=true then(zwd (places.toArray[·]?) (zmz z) parts).map .agg else none
  |_,_=>none
 |_,_=>none
theorem z0h {t:TypeId} {ps:List (Nat×AV)} {qs:Array (Nat×Value)} {a:AV} (h:qbe P t ps=some a)(hp:zqu IT X ps qs.toList):
 ∃v,(Instr.build t qs).run P X.w= .ok v X.w/\ Rep IT X a v:=by
 have fin: ∀(zfm:Nat->Option (Nat×Nat)) (z:Value),z.cells.toList.all (·.oneCell')=true->(zwd zfm (zmz z) ps).map AV.agg=some a->(∀cells,Instr.fill zfm z.cells qs.toList=some cells->P.built t qs.toList=some cells)->
  ∃v,(Instr.build t qs).run P X.w= .ok v X.w/\ Rep IT X a v:=fun zfm z h1 h2 h3=>by
  simp only[Option.map_eq_some_iff] at h2;obtain⟨cells',h2,rfl⟩:=h2;obtain⟨vs',e1,e2,e3⟩:=zpl h2 hp (zya z.cells.toList) (fun v hv=>List.all_eq_true.1 h1 v hv);refine⟨_,run_build X.w t qs _ (h3 _ (by simpa using e1)),?_⟩;rw[Rep];exact⟨vs',rfl,e2,e3⟩
 unfold qbe at h;split at h<;>try cases h
 ·rename_i it n e hi hu;split at h<;>try cases h
  rename_i z ie hz hie;split at h<;>try cases h
  rename_i h1;exact fin _ z h1 h fun cells hc=>by simp only[Program.built,hi,hu,hz,hie,hc]
 ·rename_i it fields hi hu;split at h<;>try cases h
  rename_i z places hz hpl;split at h<;>try cases h
  rename_i h1;exact fin _ z h1 h fun cells hc=>by simp only[Program.built,hi,hu,hz,hpl,hc]
def zjv (P:Program)(t:TypeId)(len:Nat)(parts:List (Nat×AV)):Option (List AV×TypeId×Nat):=
 match P.underlying t with
 | some (.slice e)=>match P.info? e with
  | some ie=>match ie.zero with
   | some z=>
    if len=0 then(match parts with|[]=>some ([],e,ie.size)|_=>none)
    else if z.cells.toList.all (·.oneCell')=true/\ z.cells.size≠0/\ len*ie.size<=2^24/\ len*ie.size≠0 then
     (zwd (fun i=>some (i*ie.size,ie.size)) ((List.range (len*ie.size)).map fun k=>(zmz z)[k%z.cells.size]?.getD .bad) parts).map fun cells=>(cells,e,ie.size)
    else none
   |none=>none
  |none=>none
 |_=>none
theorem zky {t e:TypeId} {len sz:Nat} {ps:List (Nat×AV)} {qs:Array (Nat×Value)} {cs:List AV} (h:zjv P t len ps=some (cs,e,sz))(hp:zqu IT X ps qs.toList):
 ∃vs:List Value,(Instr.buildSlice t len qs).run P X.w= .ok (.slice (some ⟨X.w.heap.size,0,none⟩) len len) (X.w.alloc (.cells vs.toArray e))/\ zbr IT X cs vs/\ ∀v∈vs,v.oneCell'=true:=by
 unfold zjv at h;split at h<;>try cases h
 rename_i e' hu;split at h<;>try cases h
 rename_i ie hie;split at h<;>try cases h
 rename_i z hz;split at h
 ·rename_i h0;subst h0;split at h<;>cases h
  rw[zqu] at hp;refine⟨[],?_,by rw[zbr],by simp⟩;simp[Instr.buildSlice,underlying,sizeOf,typeInfo,program,Sem.run,hu,hie,hp,Instr.fill,newRow,newObj,Array.range_zero']
 split at h<;>try cases h
 rename_i hc;obtain⟨hc1,hc2,hc3,hc4⟩:=hc;simp only[Option.map_eq_some_iff,Prod.mk.injEq] at h;obtain⟨cells',h2,rfl,rfl,rfl⟩:=h;have hz0:zbr IT X ((List.range (len*ie.size)).map fun k=>(zmz z)[k%z.cells.size]?.getD .bad) ((List.range (len*ie.size)).map (z.cells[· %z.cells.size]!)):=by
  refine zfc (by simp) fun i x v h1 h2=> ?_;rw[getElem?_map] at h1 h2;cases hr:(List.range (len*ie.size))[i]? with
  |none=>rw[hr] at h1;cases h1
  | some k=>
   rw[hr] at h1 h2;simp only[Option.map_some,Option.some.injEq] at h1 h2;have hlt:k%z.cells.size<z.cells.size:=Nat.mod_lt _ (Nat.pos_of_ne_zero hc2);subst h1 h2;have e1:(zmz z)[k%z.cells.size]?.getD .bad=zit z.cells[k%z.cells.size]:=by
    simp[zmz,hlt]
   have e2:z.cells[k%z.cells.size]! =z.cells[k%z.cells.size]:=getElem!_pos z.cells (k%z.cells.size) hlt;rw[e1,e2];exact zjj _
 have hz1: ∀v∈(List.range (len*ie.size)).map (z.cells[· %z.cells.size]!),v.oneCell'=true:=by
  intro v hv;obtain⟨k,_,rfl⟩:=mem_map.1 hv;have hlt:k%z.cells.size<z.cells.size:=Nat.mod_lt _ (Nat.pos_of_ne_zero hc2);rw[getElem!_pos z.cells (k%z.cells.size) hlt];exact List.all_eq_true.1 hc1 _ (by simp)
 obtain⟨vs',e1,e2,e3⟩:=zpl h2 hp hz0 hz1;exact⟨vs',run_buildSlice X.w t e' len qs vs'.toArray ie z hu hie hz (by omega) hc4 (by
  rw[<-e1];congr 1;apply Array.ext';simp),e2,e3⟩
def zoa (P:Program)(t:TypeId)(len:Nat)(parts:List (Nat×AV)):Option AV:=
 (zjv P t len parts).map fun r=> .list len r.1 .full
theorem zry (hIT:ITMono IT) {P:Program} {X:Cx} {U:St} {t:TypeId} {len:Nat} {ps:List (Nat×AV)} {qs:Array (Nat×Value)} {a:AV} (h:zoa P t len ps=some a)(hp:zqu IT X ps qs.toList)(hI:Inv IT U X):
 ∃ v X',(Instr.buildSlice t len qs).run P X.w= .ok v X'.w/\ Ext X X'/\ Inv IT U X'/\ Rep IT X' a v/\
  Grows X.w X'.w/\ X'.κ=X.κ/\ X'.β=X.β/\ X'.lens=X.lens/\ (X'.O=X.O/\ X'.C=X.C)/\ ∀b i,X'.F b i->X.F b i \/X.w.heap.size<=b:=by
 unfold zoa at h;simp only[Option.map_eq_some_iff] at h;obtain⟨⟨cs,e,sz⟩,h,rfl⟩:=h;obtain⟨vs',e1,e2,e3⟩:=zky h hp;obtain⟨X',x1,x2,x3,x4,x5⟩:=z7y hIT hI e e2 e3;refine⟨.slice (some ⟨X.w.heap.size,0,none⟩) len len,X',by rw[x1];exact e1,x2,x3,?_,x5⟩;rw[Rep];exact⟨_,_,rfl,⟨le_refl _,fun h=>by cases h⟩,.inr ⟨_,_,rfl,x4⟩,rfl⟩
def qgy (P:Program)(U:St)(t:TypeId)(len:Nat)(parts:List (Nat×AV)):Option (AV×St):=
 match zjv P t len parts with
 |some (cs,e,sz)=>if cs.length=len*sz then some (.bsl U.boxes.length 0 len sz true,{U with boxes:=U.boxes++[(e,cs)]}) else none
 |none=>none
theorem z3n (hIT:ITMono IT) {P:Program} {X:Cx} {U U':St} {t:TypeId} {len:Nat} {ps:List (Nat×AV)} {qs:Array (Nat×Value)} {a:AV} (h:qgy P U t len ps=some (a,U'))(hp:zqu IT X ps qs.toList)(hI:Inv IT U X):
 ∃v X',(Instr.buildSlice t len qs).run P X.w= .ok v X'.w/\ Ext X X'/\ Inv IT U' X'/\ Rep IT X' a v:=by
 unfold qgy at h;split at h<;>try cases h
 rename_i cs e sz hl;split at h<;>cases h
 rename_i hlen;obtain⟨vs,e1,e2,e3⟩:=zky hl hp;obtain⟨X',x1,x2,x3,x4⟩:=ztm hIT hI (t:=e) e2 e3;refine⟨_,X',(by rw[x1];exact e1),x2,x3,?_⟩;obtain⟨b,hb1,hb2⟩: ∃b,X'.κ[U.boxes.length]? =some b/\ Value.pointer (some ⟨X.w.heap.size,0,none⟩)= .pointer (some ⟨b,0,none⟩):=x4;have hb3:b=X.w.heap.size:=by simp at hb2;exact hb2.symm
 subst hb3;show Bsl X' _ _ _ _ _ _;have hl:=zq e2;refine⟨_,_,vs.toArray,e,hb1,rfl,le_refl _,fun _=>rfl,?_,by simp;omega⟩;rw[x1];exact zeu _ _ _ rfl
variable {IT:IterP} {P:Program} {X:Cx} {n:Nat}
def zml:AV->Nat->Option Nat
 | .raw (.int k n),y=>if 0<=n/\ n<=y then some n.toNat else none
 |_,_=>none
theorem zgx {x:AV} {v:Value} {y y':Nat} {c:BoundsCode} (h:zml x y=some n)(hx:Rep IT X x v)(hy:y<=y'):(Instr.sliceBound v y' c).run P X.w= .ok n X.w/\ n<=y:=by
 unfold zml at h;split at h<;>try cases h
 rename_i k i;split at h<;>cases h
 rename_i hc;rw[Rep] at hx;subst hx;refine⟨?_,by omega⟩;have:0<=i/\ i<=(y':Int):=⟨hc.1,by have:=hc.2;omega⟩;simp only[Instr.sliceBound,asIntOf,Sem.run_bind,Sem.run_pure,Result.andThen_ok,if_pos this]
def zjr (n:Nat)(lo hi mx:Option AV):Option (Nat×Nat×Bool):=
 match mx with
 | some m=>match hi with
  | some h=>match zml m n with
   | some m=>match zml h m with
    | some h=>match lo with
     |some l=>match zml l h with|some l=>some (l,h,m==h)|none=>none
     |none=>some (0,h,m==h)
    |none=>none
   |none=>none
  |none=>none
 | none=>
  match(match hi with|some h=>zml h n|none=>some n) with
  | some h=>match lo with
   |some l=>match zml l h with|some l=>some (l,h,false)|none=>none
   |none=>some (0,h,false)
  |none=>none
def qbb (IT:IterP)(X:Cx):Option AV->Option Value->Prop
 |none,v=>v=none
 |some a,v=> ∃u,v=some u/\ Rep IT X a u
theorem zjw {cap:Nat} {lo hi mx:Option AV} {l h:Nat} {f:Bool} {lo' hi' mx':Option Value} (hb:zjr n lo hi mx=some (l,h,f))(hl:qbb IT X lo lo')(hh:qbb IT X hi hi')(hm:qbb IT X mx mx')
 (hc:n<=cap): ∃m,(Instr.sliceBounds true n cap lo' hi' mx').run P X.w= .ok (l,h,m) X.w/\ l<=h/\ h<=n/\ h<=m/\ m<=cap/\ (f=true->m=h)/\ (mx=none->m=cap):=by
 unfold zjr at hb;cases mx with
 | some am=>
  obtain⟨m',rfl,hm⟩:=hm;cases hi with
  |none=>simp at hb
  | some ah=>
   obtain⟨h',rfl,hh⟩:=hh;simp only at hb;split at hb<;>try cases hb
   rename_i m em;split at hb<;>try cases hb
   rename_i hv eh;obtain⟨r1,q1⟩:=zgx (P:=P) (c:= .slice3Acap) em hm hc;obtain⟨r2,q2⟩:=zgx (P:=P) (c:= .slice3B) eh hh (le_refl m);cases lo with
   | none=>
    cases hl;simp at hb;obtain⟨rfl,rfl,rfl⟩:=hb;exact⟨m,by simp[Instr.sliceBounds,r1,r2],by omega,by omega,by omega,by omega,by simp,by simp⟩
   | some al=>
    obtain⟨l',rfl,hl⟩:=hl;simp only at hb;split at hb<;>try cases hb
    rename_i lv el;obtain⟨r3,q3⟩:=zgx (P:=P) (c:= .slice3C) el hl (le_refl _);exact⟨m,by simp[Instr.sliceBounds,r1,r2,r3],by omega,by omega,by omega,by omega,by simp,by simp⟩
 | none=>
  cases hm;have hhi: ∀hv,(match hi with|some h=>zml h n|none=>some n)=some hv->((match hi',(none:Option Value) with|some v,some _=>Instr.sliceBound v cap .slice3B|some v,none=>Instr.sliceBound v cap .sliceAcap|none,none=>pure n|none,some _=>stuck "Slice: max without high" :Sem Nat).run P X.w= .ok hv X.w)/\ hv<=n:=fun hv e=>by
   cases hi with
   |none=>cases hh;simp at e;subst e;exact⟨by simp,le_refl _⟩
   | some ah=>
    obtain⟨h',rfl,hh⟩:=hh;exact zgx e hh hc
  simp only at hb;split at hb<;>try cases hb
  rename_i hv eh;obtain⟨r2,q2⟩:=hhi hv eh;cases lo with
  | none=>
   cases hl;simp at hb;obtain⟨rfl,rfl,rfl⟩:=hb;refine⟨cap,?_,by omega,by omega,by omega,by omega,by simp,by simp⟩;cases hi'<;>simp at r2<;>simp[Instr.sliceBounds,r2]
  | some al=>
   obtain⟨l',rfl,hl⟩:=hl;simp only at hb;split at hb<;>try cases hb
   rename_i lv el;obtain⟨r3,q3⟩:=zgx (P:=P) (c:= .sliceB) el hl (le_refl _);refine⟨cap,?_,by omega,by omega,by omega,by omega,by simp,by simp⟩;cases hi'<;>simp at r2<;>simp[Instr.sliceBounds,r2,r3]
def zub (P:Program)(t:TypeId)(x:AV)(lo hi mx:Option AV):Option AV:=
 match P.underlying t,x with
 | some (.slice e),.list n cs st=>match zdm P e,zjr n lo hi mx with
  | some sz,some (l,h,f)=>
   if cs.length=n*sz then
    some (.list (h-l) ((cs.drop (l*sz)).take ((h-l)*sz))
     (if f then .full else if l=0/\ h=n/\ mx.isNone then st else if h=n/\ mx.isNone/\ st= .full then .full else .none))
   else none
  |_,_=>none
 | some (.slice e),.bsl s off n sz f=>match zdm P e,zjr n lo hi mx with
  | some sz',some (l,h,g)=>
   if sz'=sz then
    (if l<h then some (.bsl s (off+l*sz) (h-l) sz (g||(f&&h==n&&mx.isNone))) else some (.list 0 [] (if g||(f&&h==n&&mx.isNone) then .full else .none)))
   else none
  |_,_=>none
 |_,_=>none
theorem zoz {t e:TypeId} {cs:List AV} {st:Room} {a:AV} {v:Value} {lo hi mx:Option AV} {lo' hi' mx':Option Value} (hu:P.underlying t=some (.slice e))(h:(match zdm P e,zjr n lo hi mx with
 | some sz,some (l,h,f)=>
  if cs.length=n*sz then
   some (AV.list (h-l) ((cs.drop (l*sz)).take ((h-l)*sz))
    (if f then .full else if l=0/\ h=n/\ mx.isNone then st else if h=n/\ mx.isNone/\ st= .full then .full else .none))
  else none
 |_,_=>none)=some a) (hx:Rep IT X (.list n cs st) v) (hl:qbb IT X lo lo') (hh:qbb IT X hi hi') (hm:qbb IT X mx mx'):
 ∃u,(Instr.sliceAt t v lo' hi' mx').run P X.w= .ok u X.w/\ Rep IT X a u:=by
 split at h<;>try cases h
 rename_i sz l hv f hsz hb;split at h<;>try cases h
 rename_i hlen;rw[Rep] at hx;obtain⟨ad,cap,rfl,⟨hcap,hnil⟩,hc,hst⟩:=hx;obtain⟨m,r,b1,b2,b3,b4,b5,b6⟩:=zjw (P:=P) hb hl hh hm hcap;refine⟨.slice (if m=l then ad else ad.map (·.add (l*sz))) (hv-l) (m-l),?_,?_⟩
 ·simp[Instr.sliceAt,Instr.slice,underlying,program,Sem.run,hu,r,zed hsz]
 ·rw [Rep];refine⟨_,_,rfl,⟨by omega,fun hn=> ?_⟩,?_,?_⟩
  ·split at hn
   ·omega
   ·have:=hnil (by simpa using hn);omega
  ·rcases hc with rfl|⟨b,o,rfl,hat⟩
   ·left;simp
   ·by_cases hml:m=l
    ·left
     have:hv-l=0:=by omega
     simp[this]
    ·right
     rw[if_neg hml];exact⟨b,o+l*sz,by rw[Option.map_some,zfj],zws _ (zwl _ hat)⟩
  ·split
   ·trivial
   ·rename_i hs;split at hs
    ·rename_i hf;have:=b5 hf;omega
    ·split at hs
     ·rename_i h1 h2;obtain⟨rfl,rfl,hmx⟩:=h2;subst hs;have:=b6 (by simpa using hmx);simp only at hst;omega
     ·split at hs
      ·rename_i h3;obtain⟨rfl,hmx,rfl⟩:=h3;have:=b6 (by simpa using hmx);simp only at hst;omega
      ·cases hs
   ·rename_i s hs;split at hs
    ·cases hs
    ·split at hs
     ·rename_i h1 h2;obtain⟨rfl,rfl,hmx⟩:=h2;subst hs;obtain⟨L,k1,k2,k3⟩:=hst;have e0:(cs.drop (0*sz)).take ((hv-0)*sz)=cs:=by
       rw[Nat.zero_mul,List.drop_zero,Nat.sub_zero, <-hlen,List.take_length]
      rw[e0];refine⟨L,k1,k2,fun e'=> ?_⟩;obtain⟨r',k4,rfl,rfl,k6⟩:=k3 e';have hmc:=b6 (by simpa using hmx);refine⟨r',k4,?_,by omega,by simpa using k6⟩;split
      ·rfl
      ·simp[Addr.add]
     ·split at hs
      ·cases hs
      ·cases hs
theorem zyj {t:TypeId} {x a:AV} {v:Value} {lo hi mx:Option AV} {lo' hi' mx':Option Value} (h:zub P t x lo hi mx=some a)(hx:Rep IT X x v)(hl:qbb IT X lo lo')(hh:qbb IT X hi hi')(hm:qbb IT X mx mx'):
 ∃u,(Instr.sliceAt t v lo' hi' mx').run P X.w= .ok u X.w/\ Rep IT X a u:=by
 unfold zub at h;split at h<;>try cases h
 ·exact zoz ‹_› h hx hl hh hm
 rename_i e s off n sz f hu;split at h<;>try cases h
 rename_i sz' l hv g hsz hb;split at h<;>try cases h
 rename_i hlen;subst hlen;rw[Rep] at hx;obtain⟨b,cap,cur,t0,hk,rfl,hcap,hful,hrow,hfit⟩:=hx;obtain⟨m,r,b1,b2,b3,b4,b5,b6⟩:=zjw (P:=P) hb hl hh hm hcap;have hrun:(Instr.sliceAt t (.slice (some ⟨b,off,none⟩) n cap) lo' hi' mx').run P X.w= .ok (.slice (if m=l then some ⟨b,off,none⟩ else some ((⟨b,off,none⟩:Addr).add (l*sz'))) (hv-l) (m-l)) X.w:=by
  simp only[Instr.sliceAt,Instr.slice,underlying,program,Sem.run,hu,r,zed hsz,Sem.run_bind,Result.andThen_ok,Sem.run_pure];split<;>rfl
 have hg:(g||(f&&hv==n&&mx.isNone))=true->m=hv:=fun hh2=>by
  rw[Bool.or_eq_true] at hh2;rcases hh2 with h2|h2
  ·exact b5 h2
  ·simp only[Bool.and_eq_true,beq_iff_eq,Option.isNone_iff_eq_none] at h2;obtain⟨⟨h3,h4⟩,h5⟩:=h2;rw[b6 h5,hful h3,h4]
 refine⟨_,hrun,?_⟩;split at h
 ·rename_i hlt;cases h;rw[Rep];refine⟨b,m-l,cur,t0,hk,by rw[if_neg (by omega),zfj],by omega,fun e=>by have:=hg e;omega,hrow,?_⟩;have h1:off+m*sz'<=cur.size:=Nat.le_trans (Nat.add_le_add_left (Nat.mul_le_mul_right _ b4) _) hfit;have h2:l*sz'+(m-l)*sz'=m*sz':=by rw[<-Nat.add_mul];congr 1;omega
  omega
 ·rename_i hlt;cases h;have hlv:hv=l:=by omega
  subst hlv;rw[Rep];refine⟨_,m-hv,by rw[Nat.sub_self],⟨by omega,fun hn=>by split at hn<;>cases hn⟩,.inl rfl,?_⟩;split
  ·trivial
  ·rename_i hs;split at hs
   ·rename_i hg2;have:=hg hg2;omega
   ·cases hs
  ·rename_i s0 hs;split at hs<;>cases hs
def qen (P:Program)(t:TypeId):AV->Option AV
 | .list n _ _=>match P.underlying t with|some (.slice _)=>some (.raw (.int .i64 n))|_=>none
 | .bsl _ _ n _ _=>match P.underlying t with|some (.slice _)=>some (.raw (.int .i64 n))|_=>none
 |_=>none
theorem z6m {t ty:TypeId} {x a:AV} {v:Value} (h:qen P t x=some a)(hx:Rep IT X x v): ∃u,(Builtin.len_ #[t] ty #[v]).run P X.w= .ok u X.w/\ Rep IT X a u:=by
 cases x with
 | list n cs st=>
  simp only[qen] at h;split at h<;>cases h
  rename_i e hu;rw[Rep] at hx;obtain⟨ad,cap,rfl,_⟩:=hx;exact⟨.int .i64 n,by simp[Builtin.len_,underlying,program,Sem.run,hu,goInt],by rw[Rep]⟩
 | bsl s off n sz f=>
  simp only[qen] at h;split at h<;>cases h
  rename_i e hu;rw[Rep] at hx;obtain⟨b,cap,cur,t0,_,rfl,_⟩:=hx;exact⟨.int .i64 n,by simp[Builtin.len_,underlying,program,Sem.run,hu,goInt],by rw[Rep]⟩
 |_=>cases h
def zft (P:Program)(U:St)(t:TypeId)(x y:AV):Option (AV×St):=
 match P.underlying t,x,y with
 | some (.slice e),.list n cs st,.list m ds _=>match P.info? e with
  | some i=>match i.zero with
   | some z=>
    if m=0/\ ds=[] then some (.list n cs st,U)
    else if cs.length=n*i.size/\ ds.length=m*i.size/\ 0<m/\ z.cells.size=i.size/\ 0<i.size/\ n+m<=maxLen/\ (n+m)*i.bytes<=140737488355328 then
     match st with
     | .none=>none
     | .full=>some (.list (n+m) (cs++ds) (.own U.lens.length),{U with lens:=U.lens++[(n+m)*i.size],elems:=U.elems++[e]})
     | .own s=>if U.lens[s]? =some cs.length/\ U.elems[s]? =some e/\ 0<n then some (.list (n+m) (cs++ds) (.own s),{U with lens:=U.lens.set s ((n+m)*i.size)}) else none
    else none
   |none=>none
  |none=>none
 |_,_,_=>none
theorem zpu (hIT:ITMono IT) {U:St} {X:Cx} (hI:Inv IT U X) {e:TypeId} {vs zs:List Value} {cs:List AV} (hr:zbr IT X cs vs)(h1: ∀v∈vs,v.oneCell'=true)(size cap:Nat)(hsz:0<size)(hcap:cap<=maxLen)(hlen:(vs++zs).length=cap*size)
 {β':List Row} {lens':List Nat} {elems':List TypeId} (hlens: ∀(s L:Nat),X.lens[s]? =some L-> ∃L',lens'[s]? =some L'/\ L<=L'/\ (L'=L->β'[s]? =X.β[s]?)) (hbl:β'.length=lens'.length) (hel:β'.map (·.elem)=elems')
 (hrow: ∀(s:Nat) (r:Row) (L:Nat),β'[s]? =some r->lens'[s]? =some L->(X.β[s]? =some r/\ X.lens[s]? =some L) \/(r=⟨X.w.heap.size,e,size,cap⟩/\ L=vs.length)) (hnd:(β'.map (·.block)).Nodup):
 ∃X',X'.w=X.w.drew.alloc (.cells (vs++zs).toArray e)/\ Ext X X'/\ Inv IT {U with lens:=lens',elems:=elems'} X'/\ At IT X' cs X.w.heap.size 0/\ X'.β=β'/\ X'.lens=lens':=by
 have hnw:(X.w.drew.alloc (.cells (vs++zs).toArray e)).heap[X.w.heap.size]? =some (.cells (vs++zs).toArray e (0,0)):=heap_alloc_new X.w.drew _;have hmem: ∀r∈β',r∈X.β \/r.block=X.w.heap.size:=fun r hr'=>by
  obtain⟨s,hs,rfl⟩:=List.mem_iff_getElem.1 hr';rcases hrow s _ (lens'[s]'(by omega)) (getElem?_eq_getElem hs) (getElem?_eq_getElem _) with h|⟨h,_⟩
  ·exact .inl (mem_of_getElem? h.1)
  ·exact .inr (by rw[h])
 have hE:Ext X {F:=fun b i=>X.F b i \/(b=X.w.heap.size/\ i<vs.length),κ:=X.κ,β:=β',lens:=lens',w:=X.w.drew.alloc (.cells (vs++zs).toArray e),O:=X.O,C:=X.C}:={
  os:=rfl,tape:=rfl,output:=rfl,size:=by simp,drawn:=Nat.le_succ _
  F:=fun _ _ h=> .inl h
  cell:=fun b i hf=>World.cell?_of_block (heap_alloc_old X.w.drew _ _ (hI.Flt hf))
  κ:=fun _ _ h=>h
  lens:=hlens
  blk:=fun s b hs cur t f h=>⟨cur,(heap_alloc_old X.w.drew _ _ (hI.κlt (mem_of_getElem? hs))).trans h,rfl⟩
  szs:=Szs.old fun k hk=>heap_alloc_old X.w.drew _ _ hk
  frame:=fun b hb _ _=>heap_alloc_old X.w.drew _ _ hb
  κnew:=fun _ h=> .inl h
  βnew:=fun r hr'=>by
   rcases hmem r hr' with h|h
   ·exact .inl ⟨r,h,rfl⟩
   ·exact .inr (Nat.le_of_eq h.symm)
  O:=rfl
  C:=rfl
  Fnew:=fun b i h=>by
   rcases h with h|⟨h,_⟩
   ·exact .inl h
   ·exact .inr (.inl (Nat.le_of_eq h.symm))}
 refine⟨_,rfl,hE,?_,?_,rfl,rfl⟩
 ·refine {lens:=rfl,elems:=hel,κlen:=hI.κlen,κnd:=hI.κnd,box:= ?_,κF:= ?_,βlen:=hbl,βnd:=hnd,βκ:= ?_,row:= ?_,Ok:= ?_,Fcell:= ?_}
  ·intro s b t' c hs hb;obtain⟨us,zs',u1,u2,u3⟩:=hI.box s b t' c hs hb;exact⟨us,zs',(heap_alloc_old X.w.drew _ _ (hI.κlt (mem_of_getElem? hs))).trans u1,zaw hIT hE _ _ u2,u3⟩
  ·intro s b t' c hs hb hc o hf;rcases hf with hf|⟨e,_⟩
   ·exact hI.κF s b t' c hs hb hc o hf
   ·have:=hI.κlt (mem_of_getElem? hs);omega
  ·intro r hr' hm;rcases hmem r hr' with h|h
   ·exact hI.βκ r h hm
   ·have:=hI.κlt hm;omega
  ·intro s r L hr' hL;rcases hrow s r L hr' hL with⟨k1,k2⟩|⟨rfl,rfl⟩
   ·obtain⟨cur,fz,c1,c2,c3,c4,c5,c6,c7⟩:=hI.row s r L k1 k2;have hlt:=hI.βlt (mem_of_getElem? k1);refine⟨cur,fz,(heap_alloc_old X.w.drew _ _ hlt).trans c1,c2,c3,c4,c5,fun o hf=> ?_,c7⟩;rcases hf with hf|⟨e,_⟩
    ·exact c6 o hf
    ·omega
   ·refine⟨(vs++zs).toArray,(0,0),heap_alloc_new X.w.drew _,by simpa using hlen,hcap,hsz,by simp,fun o hf=> ?_,Nat.zero_le _⟩;rcases hf with hf|⟨_,hf⟩
    ·have:=hI.Flt hf;simp at this
    ·exact hf
  ·intro b ho;obtain⟨⟨cs0,t0,f0,h0⟩,h2,h3,h4⟩:=hI.Ok b ho;have hlt:=hI.Olt ho;refine⟨⟨cs0,t0,f0,(heap_alloc_old X.w.drew _ _ hlt).trans h0⟩,h2,fun r hr'=> ?_,fun o hf=>hf.elim (h4 o) fun h=>by omega⟩;rcases hmem r hr' with h|h
   ·exact h3 r h
   ·omega
  ·intro b o hf;rcases hf with hf|⟨e,hf⟩
   ·obtain⟨v,hv⟩:=hI.Fcell b o hf;exact⟨v,(hE.cell b o hf).trans hv⟩
   ·subst e;refine⟨vs[o],?_⟩
    show(X.w.drew.alloc _).cell? _=_
    rw[cell_of_row _ _ _ _ _ _ hnw];simp[getElem?_append_left hf,hf]
 ·refine zyh (fun j hj=> .inr ⟨rfl,by omega⟩) h1 (zaw hIT hE _ _ hr) fun j u hu=> ?_
  show(X.w.drew.alloc _).cell? _=_
  rw[cell_of_row _ _ _ _ _ _ hnw,zero_add];have:=(List.getElem?_eq_some_iff.1 hu).1;simpa[getElem?_append_left this] using hu
theorem zpf (hIT:ITMono IT) {U:St} {X:Cx} (hI:Inv IT U X) {s:Nat} {r:Row} {L:Nat} {us:List Value} {ds:List AV} {cur:Array Value} {fz:Nat×Nat} (hs:X.β[s]? =some r)(hL:X.lens[s]? =some L)
 (hcur:X.w.heap[r.block]? =some (.cells cur r.elem fz)) (hr:zbr IT X ds us) (h1: ∀v∈us,v.oneCell'=true) (hpos:0<us.length) (hfit:L+us.length<=cur.size):
 ∃X',X'.w=X.w.setRow r.block (cur.toList.take L++us++cur.toList.drop (L+us.length)).toArray/\ Ext X X'/\ Inv IT {U with lens:=U.lens.set s (L+us.length)} X'/\ At IT X' ds r.block L/\ X'.β=X.β/\ X'.lens=X.lens.set s (L+us.length):=by
 have hrm:=mem_of_getElem? hs;obtain⟨cur',fz',c1,c2,c3,c4,c5,c6,c7⟩:=hI.row s r L hs hL;obtain⟨rfl,rfl⟩:cur'=cur/\ fz'=fz:=by rw[hcur] at c1;cases c1;exact⟨rfl,rfl⟩
 have hsl:s<X.lens.length:=(List.getElem?_eq_some_iff.1 hL).1;have hsz:(cur'.toList.take L++us++cur'.toList.drop (L+us.length)).length=cur'.size:=by simp;omega
 have hnew:(X.w.setRow r.block (cur'.toList.take L++us++cur'.toList.drop (L+us.length)).toArray).heap[r.block]? =some (.cells (cur'.toList.take L++us++cur'.toList.drop (L+us.length)).toArray r.elem fz'):=setRow_heap _ _ _ _ _ _ hcur
 have hE:Ext X {F:=fun b i=>X.F b i \/(b=r.block/\ i<L+us.length),κ:=X.κ,β:=X.β,lens:=X.lens.set s (L+us.length),w:=X.w.setRow r.block (cur'.toList.take L++us++cur'.toList.drop (L+us.length)).toArray,O:=X.O,C:=X.C}:={
  os:=rfl,tape:=rfl,output:=rfl,size:=by simp,drawn:=(by first|exact le_refl _|exact Nat.le_succ _)
  F:=fun _ _ h=> .inl h
  cell:=fun b i hf=>by
   show(X.w.setRow _ _).cell? _=_
   by_cases e:b=r.block
   ·subst e;have:=c6 i hf;rw[cell_of_row _ _ _ _ _ _ hnew,cell_of_row _ _ _ _ _ _ hcur];rw[<-Array.getElem?_toList, <-Array.getElem?_toList];simp only[List.append_assoc];rw[getElem?_append_left (by simp;omega),List.getElem?_take,if_pos this]
   ·exact cell_setRow_other _ _ _ _ e
  κ:=fun _ _ h=>h
  lens:=fun s' L' h=>by
   by_cases e:s'=s
   ·subst e;rw[hL] at h;cases h;exact⟨L+us.length,by simp[hsl],by omega,fun e=>by omega⟩
   ·exact⟨L',by rw[getElem?_set_ne (Ne.symm e)];exact h,le_refl _,fun _=>rfl⟩
  blk:=fun s' b hs' cu t f h=>⟨cu,(setRow_other _ _ _ _ (show b≠r.block from fun e=>hI.βκ r hrm (e▸mem_of_getElem? hs'))).trans h,rfl⟩
  szs:=Szs.one r.block (fun k _ e=>setRow_other _ _ _ _ e) fun cs t f h=>by
   rw[hcur] at h;cases h;exact⟨_,_,_,hnew,by simpa using hsz⟩
  frame:=fun b _ _ hβ=>setRow_other _ _ _ _ fun e=>hβ r hrm e.symm
  κnew:=fun _ h=> .inl h
  βnew:=fun q h=> .inl ⟨q,h,rfl⟩
  O:=rfl
  C:=rfl
  Fnew:=fun b i h=>by
   rcases h with h|⟨h,_⟩
   ·exact .inl h
   ·exact .inr (.inr (.inl ⟨r,hrm,h.symm⟩))}
 have hother: ∀(s':Nat) (q:Row),X.β[s']? =some q->s'≠s->q.block≠r.block:=fun s' q hq hne e=>hne (by
  have h1:=(List.getElem?_eq_some_iff.1 hq).1;have h2:=(List.getElem?_eq_some_iff.1 hs).1;have e1:(X.β.map (·.block))[s']'(by simpa using h1)=q.block:=by simp[(List.getElem?_eq_some_iff.1 hq).2]
  have e2:(X.β.map (·.block))[s]'(by simpa using h2)=r.block:=by simp[(List.getElem?_eq_some_iff.1 hs).2]
  exact(List.getElem_inj hI.βnd).1 (e1.trans (e.trans e2.symm)))
 refine⟨_,rfl,hE,?_,?_,rfl,rfl⟩
 ·refine {lens:=by rw[hI.lens],elems:=hI.elems,κlen:=hI.κlen,κnd:=hI.κnd,box:= ?_,κF:= ?_,βlen:=by simpa using hI.βlen,βnd:=hI.βnd,βκ:=hI.βκ,row:= ?_,Ok:= ?_,Fcell:= ?_}
  ·intro s' b t' c hs' hb;obtain⟨ws,zs',u1,u2,u3⟩:=hI.box s' b t' c hs' hb;have hne:b≠r.block:=fun e=>hI.βκ r hrm (e▸mem_of_getElem? hs');exact⟨ws,zs',(setRow_other _ _ _ _ hne).trans u1,zaw hIT hE _ _ u2,u3⟩
  ·intro s' b t' c hs' hb hc o hf;rcases hf with hf|⟨e,_⟩
   ·exact hI.κF s' b t' c hs' hb hc o hf
   ·exact hI.βκ r hrm (e▸mem_of_getElem? hs')
  ·intro s' q L' hq hL';by_cases e:s'=s
   ·subst e;rw[hs] at hq;cases hq;have:L'=L+us.length:=by
     have:(X.lens.set s' (L+us.length))[s']? =some L':=hL';rw[getElem?_set_self hsl] at this;simpa using this.symm
    subst this;refine⟨_,_,hnew,by simp only[List.size_toArray,hsz];exact c2,c3,c4,by simp only[List.size_toArray,hsz];exact hfit,fun o hf=> ?_,by omega⟩;rcases hf with hf|⟨_,hf⟩
    ·have:=c6 o hf;omega
    ·exact hf
   ·have hL2:X.lens[s']? =some L':=by
     have:(X.lens.set s (L+us.length))[s']? =some L':=hL';rwa[getElem?_set_ne (Ne.symm e)] at this
    obtain⟨cu,fz,d1,d2,d3,d4,d5,d6,d7⟩:=hI.row s' q L' hq hL2;have hne:=hother s' q hq e;refine⟨cu,fz,(setRow_other _ _ _ _ hne).trans d1,d2,d3,d4,d5,fun o hf=> ?_,d7⟩;rcases hf with hf|⟨e,_⟩
    ·exact d6 o hf
    ·exact absurd e hne
  ·intro b ho;obtain⟨⟨cs0,t0,f0,h0⟩,h2,h3,h4⟩:=hI.Ok b ho;have hne:=h3 r hrm;exact⟨⟨cs0,t0,f0,(setRow_other _ _ _ _ (Ne.symm hne)).trans h0⟩,h2,h3,fun o hf=>hf.elim (h4 o) fun h=>absurd h.1.symm hne⟩
  ·intro b o hf;rcases hf with hf|⟨rfl,hf⟩
   ·obtain⟨v,hv⟩:=hI.Fcell b o hf;exact⟨v,(hE.cell b o hf).trans hv⟩
   ·refine⟨(cur'.toList.take L++us++cur'.toList.drop (L+us.length))[o]'(by omega),?_⟩
    show(X.w.setRow _ _).cell? _=_
    rw[cell_of_row _ _ _ _ _ _ hnew, <-Array.getElem?_toList];exact getElem?_eq_getElem _
 ·refine zyh (fun j hj=> .inr ⟨rfl,by omega⟩) h1 (zaw hIT hE _ _ hr) fun j u hu=> ?_;have hj:=(List.getElem?_eq_some_iff.1 hu).1
  show(X.w.setRow _ _).cell? _=_
  rw[cell_of_row _ _ _ _ _ _ hnew, <-Array.getElem?_toList];simp only[List.append_assoc];rw[List.getElem?_append_right (by simp;omega)];have:L+j-(cur'.toList.take L).length=j:=by simp;omega
  rw[this,getElem?_append_left hj];exact hu
theorem znu {b:Nat}: ∀ {cs ds:List AV} {o:Nat},At IT X cs b o->At IT X ds b (o+cs.length)->At IT X (cs++ds) b o
 |[],ds,o,_,h=>by simpa using h
 | c::cs,ds,o,h1,h2=>by
  rw[At] at h1;rw[List.cons_append,At];exact⟨h1.1,znu h1.2 (by rw[List.length_cons] at h2;rwa[show o+1+cs.length=o+(cs.length+1) by omega])⟩
theorem zfo: ∀(l:List Nat) (s b:Nat),l.Nodup->b∉l->(l.set s b).Nodup
 |[],s,b,_,_=>by simp
 | c::l,0,b,h,hf=>by
  rw[List.nodup_cons] at h;simp only[mem_cons,not_or] at hf;rw[List.set_cons_zero,List.nodup_cons];exact⟨hf.2,h.2⟩
 | c::l,s+1,b,h,hf=>by
  rw[List.nodup_cons] at h;simp only[mem_cons,not_or] at hf;rw[List.set_cons_succ,List.nodup_cons];refine⟨fun hm=> ?_,zfo l s b h.2 hf.2⟩;rcases List.mem_or_eq_of_mem_set hm with h'|h'
  ·exact h.1 h'
  ·exact hf.1 h'.symm
theorem zwn (hIT:ITMono IT) {P:Program} {X:Cx} {U U':St} {t ty:TypeId} {x y a:AV} {v u:Value} (h:zft P U t x y=some (a,U'))(hx:Rep IT X x v)(hy:Rep IT X y u)(hI:Inv IT U X):
 ∃r X',(Builtin.append_ #[t,t] ty #[v,u]).run P X.w= .ok r X'.w/\ Ext X X'/\ Inv IT U' X'/\ Rep IT X' a r:=by
 unfold zft at h;split at h<;>try cases h
 rename_i e n cs st m ds st2 hu;split at h<;>try cases h
 rename_i i hi;split at h<;>try cases h
 rename_i z hz;have hx0:=hx;rw[Rep] at hx hy;obtain⟨ad,cap,rfl,⟨hcap,hnil⟩,hc,hst⟩:=hx;obtain⟨ad2,cap2,rfl,⟨hcap2,hnil2⟩,hc2,_⟩:=hy;split at h
 ·rename_i hm;obtain⟨rfl,rfl⟩:=hm;cases h;refine⟨.slice ad n cap,X,?_,Ext.refl X,hI,hx0⟩;have hn:n+0<=cap:=by omega
  cases ad<;>cases ad2<;>simp[Builtin.append_,run_underlying hu,sizeOf,typeInfo,program,Sem.run,hi,Builtin.lenOf,Builtin.firstCells,loadCells,loadCellsFrom,storeCells,hcap]
 ·split at h<;>try cases h
  rename_i hcond;obtain⟨q1,q2,q3,q4,q5,q6,q7⟩:=hcond;have hds:ds≠[]:=fun e=>by
   rw[e] at q2;have:=Nat.mul_pos q3 q5;simp at q2;omega
  obtain⟨b2,o2,rfl,hat2⟩:=hc2.resolve_left hds;obtain⟨us,u1,u2,u3⟩:=zga hat2;have hul:=zq u1;have hnews: ∀(j:Nat) w,us[j]? =some w->X.w.cell? ((⟨b2,o2,none⟩:Addr).add j)=some w:=fun j w hj=>by rw[zfj];exact u3 j w hj
  have hup:0<us.length:=by have:=Nat.mul_pos q3 q5;omega
  have hml:((n+m:Nat):Int)<=9223372036854775807:=by unfold maxLen at q6;omega
  have hnm:(n+m)*i.size=n*i.size+m*i.size:=Nat.add_mul _ _ _
  -- the old cells
  obtain⟨vs,v1,v2,v3⟩: ∃vs:List Value,zbr IT X cs vs/\ (∀w∈vs,w.oneCell'=true)/\ ∀b o,ad=some ⟨b,o,none⟩-> ∀(j:Nat) w,vs[j]? =some w->X.w.cell? ((⟨b,o,none⟩:Addr).add j)=some w:=by
   rcases hc with rfl|⟨b,o,rfl,hat⟩
   ·exact⟨[],by rw[zbr],by simp,by simp⟩
   ·obtain⟨vs,w1,w2,w3⟩:=zga hat
    exact⟨vs,w1,w2,fun b' o' e' j w hj=>by cases e';rw[zfj];exact w3 j w hj⟩
  have hvl:=zq v1;have hone: ∀w∈vs++us,w.oneCell'=true:=fun w hw=>(mem_append.1 hw).elim (v2 w) (u2 w);have hz2: ∀c,n+m<=c->(vs++us++(Builtin.zeroCells z.cells (c-(n+m))).toList).length=c*i.size:=fun c hcc=>by
   have:=size_zeroCells z.cells (c-(n+m));simp only[length_append,Array.length_toList,this,q4, <-hvl, <-hul,q1,q2, <-Nat.add_mul];congr 1;omega
  -- where it grows
  have grow: ∀(c0:Nat) (hlt:c0<n+m),c0=cap-> ∃r,(Builtin.append_ #[t,t] ty #[.slice ad n cap,.slice (some ⟨b2,o2,none⟩) m cap2]).run P X.w=
   .ok (.slice (some ⟨X.w.heap.size,0,none⟩) (n+m) r) (X.w.drew.alloc (.cells (vs++us++(Builtin.zeroCells z.cells (r-(n+m))).toList).toArray e))/\ n+m<=r/\ r<=maxLen:=fun c0 hlt ec=>by
   subst ec;refine⟨grownCap X.w (n+m) c0 e,?_,grownCap_ge _ _ _ _,grownCap_le_maxLen _ _ _ _ q6⟩;rcases hc with rfl|⟨b,o,rfl,hat⟩
   ·have hn0:n=0:=by
     have:n*i.size=0:=by simpa using q1.symm
     rcases Nat.mul_eq_zero.1 this with h|h
     ·exact h
     ·omega
    subst hn0;have hvs:vs=[]:=by rw[zbr] at v1;exact v1
    subst hvs;cases ad with
    | none=>
     obtain rfl:c0=0:=hnil rfl;have hr:=run_append_nil (P:=P) X.w t ty e i z hu hi hz ⟨b2,o2,none⟩ m cap2 us (by omega) hnews q3 (by omega) (by simp at q7;omega);simp only[zero_add] at hr⊢;rw[hr];congr 2
     simp
    | some ad=>
     have hr:=run_append_grow (P:=P) X.w t ty e i z hu hi hz ad 0 c0 [] (by simp) (by simp) ⟨b2,o2,none⟩ m cap2 us (by omega) hnews (by omega) (by omega) (growslice_fits hlt q7);rw[hr];congr 2
     simp
   ·have hr:=run_append_grow (P:=P) X.w t ty e i z hu hi hz ⟨b,o,none⟩ n c0 vs (by omega) (v3 b o rfl) ⟨b2,o2,none⟩ m cap2 us (by omega) hnews (by omega) (by omega) (growslice_fits hlt q7);rw[hr];congr 2
    simp
  have hlens:X.lens=U.lens:=hI.lens;have hbl:=hI.βlen;have hvu:(vs++us).length=(n+m)*i.size:=by rw[length_append, <-hvl, <-hul];omega
  have hcd:(cs++ds).length=(n+m)*i.size:=by rw[length_append];omega
  cases st with
  |none=>cases h
  | full=>
   simp only[Option.some.injEq,Prod.mk.injEq] at h;obtain⟨rfl,rfl⟩:=h;simp only at hst;subst hst;obtain⟨r,g1,g2,g3⟩:=grow cap (by omega) rfl
   obtain⟨X',x1,x2,x3,x4,x5,x6⟩:=zpu hIT hI (e:=e) (zbp v1 u1) hone i.size r q5 g3 (hz2 r g2)
    (β':=X.β++[⟨X.w.heap.size,e,i.size,r⟩]) (lens':=U.lens++[(cap+m)*i.size]) (elems':=U.elems++[e])
    (fun s L hs=>⟨L,by rw[<-hlens,getElem?_append_left (List.getElem?_eq_some_iff.1 hs).1];exact hs,le_refl _,fun _=>by
     rw[getElem?_append_left];rw[hbl];exact(List.getElem?_eq_some_iff.1 hs).1⟩)
    (by simp[hbl,hlens]) (by simp[hI.elems])
    (fun s q L hq hL=>by
     rcases lt_or_ge s X.β.length with hlt|hge
     ·rw[getElem?_append_left hlt] at hq;rw[<-hlens,getElem?_append_left (by omega)] at hL;exact .inl ⟨hq,hL⟩
     ·right
      have h0:s=X.β.length:=by
       have:=(List.getElem?_eq_some_iff.1 hq).1;simp at this;omega
      subst h0;rw[<-hlens,hbl] at hL;simp at hq hL;exact⟨hq.symm,by rw[hvu];exact hL.symm⟩)
    (by
     rw[List.map_append];refine List.nodup_append.2 ⟨hI.βnd,by simp,fun a ha b hb e=> ?_⟩;obtain⟨q,hq,rfl⟩:=mem_map.1 ha;have:=hI.βlt hq;simp at hb;omega)
   refine⟨_,X',by rw[x1];exact g1,x2,x3,?_⟩;rw[Rep];refine⟨_,_,rfl,⟨g2,fun e=>by cases e⟩,.inr ⟨_,_,rfl,x4⟩,(cap+m)*i.size,?_,by omega,fun _=>⟨⟨X.w.heap.size,e,i.size,r⟩,?_,rfl,rfl,hcd⟩⟩
   ·rw[x6];simp
   ·rw[x5, <-hlens, <-hbl];simp
  | own s=>
   simp only at h;split at h<;>try cases h
   rename_i hown;obtain⟨w1,w2,w3⟩:=hown;obtain⟨L,k1,k2,k3⟩:=hst;have hLc:cs.length=L:=by rw[hlens] at k1;rw[k1] at w1;exact(Option.some.inj w1).symm
   obtain⟨r,k4,k5,rfl,k7⟩:=k3 hLc;subst hLc;have hsr:r.size=i.size:=by
    have:n*r.size=n*i.size:=by omega
    exact Nat.eq_of_mul_eq_mul_left w3 this
   have hre:r.elem=e:=by
    have h1:(X.β.map (·.elem))[s]? =some e:=by rw[hI.elems];exact w2
    rw[getElem?_map,k4] at h1;simpa using h1
   have hsl:s<X.lens.length:=(List.getElem?_eq_some_iff.1 k1).1;obtain⟨cur,fz,c1,c2,c3,c4,c5,c6,c7⟩:=hI.row s r cs.length k4 k1;subst k5;by_cases hroom:n+m<=r.cap
   ·have hfit:cs.length+us.length<=cur.size:=by
     rw[c2,hsr];have:=Nat.mul_le_mul_right i.size hroom;omega
    obtain⟨X',x1,x2,x3,x4,x5,x6⟩:=zpf hIT hI k4 k1 c1 u1 u2 hup hfit;have hr:=run_append_roomF (P:=P) X.w t ty e i hu hi r.block n r.cap cur fz (by rw[<-hre];exact c1) (by omega) ⟨b2,o2,none⟩ m cap2 us (by omega) hnews u2 hroom (by omega);have hlen2:cs.length+us.length=(n+m)*i.size:=by omega
    rw[hlen2] at x3 x6;refine⟨.slice (some ⟨r.block,0,none⟩) (n+m) r.cap,X',?_,x2,x3,?_⟩
    ·rw[x1,hr,q1]
    ·rw[Rep];have hold:At IT X' cs r.block 0:=z1t hIT x2 _ _ _ (by
      rcases hc with rfl|⟨b,o,e1,hat⟩
      ·rw[At];trivial
      ·cases e1;exact hat)
     refine⟨_,_,rfl,⟨hroom,fun e=>by cases e⟩,.inr ⟨_,_,rfl,znu hold (by rw[zero_add];exact x4)⟩,(n+m)*i.size,?_,by omega,fun _=>⟨r,by rw[x5];exact k4,rfl,rfl,by rw[hcd,hsr]⟩⟩;rw[x6];simp[hsl]
   ·obtain⟨c,g1,g2,g3⟩:=grow r.cap (by omega) rfl
    obtain⟨X',x1,x2,x3,x4,x5,x6⟩:=zpu hIT hI (e:=e) (zbp v1 u1) hone i.size c q5 g3 (hz2 c g2)
     (β':=X.β.set s ⟨X.w.heap.size,e,i.size,c⟩) (lens':=U.lens.set s ((n+m)*i.size)) (elems':=U.elems)
     (fun s' L hs=>by
      by_cases es:s'=s
      ·subst es;rw[k1] at hs;cases hs;have:=Nat.mul_pos q3 q5;exact⟨(n+m)*i.size,by rw[<-hlens];simp[hsl],by omega,fun e=>by omega⟩
      ·exact⟨L,by rw[<-hlens,getElem?_set_ne (Ne.symm es)];exact hs,le_refl _,fun _=>by rw[getElem?_set_ne (Ne.symm es)]⟩)
     (by simp[hbl,hlens])
     (by
      rw[<-hI.elems,List.map_set];apply List.ext_getElem?;intro j;by_cases ej:s=j
      ·subst ej;rw[getElem?_set_self (by simp;omega),getElem?_map,k4];simp[hre]
      ·rw[getElem?_set_ne ej])
     (fun s' q L hq hL=>by
      by_cases es:s'=s
      ·subst es;right
       rw[getElem?_set_self (by omega)] at hq;rw[<-hlens,getElem?_set_self hsl] at hL;cases hq;cases hL;exact⟨rfl,hvu.symm⟩
      ·left
       rw[getElem?_set_ne (Ne.symm es)] at hq;rw[<-hlens,getElem?_set_ne (Ne.symm es)] at hL;exact⟨hq,hL⟩)
     (by
      rw[List.map_set];have hnd:=hI.βnd;have hfresh:X.w.heap.size∉X.β.map (·.block):=fun hm=>by
       obtain⟨q,hq,e'⟩:=mem_map.1 hm;have:=hI.βlt hq;omega
      exact zfo _ _ _ hnd hfresh)
    refine⟨_,X',by rw[x1];exact g1,x2,x3,?_⟩;rw[Rep];refine⟨_,_,rfl,⟨g2,fun e=>by cases e⟩,.inr ⟨_,_,rfl,x4⟩,(n+m)*i.size,?_,by omega,fun _=>⟨⟨X.w.heap.size,e,i.size,c⟩,?_,rfl,rfl,hcd⟩⟩
    ·rw[x6, <-hlens];simp[hsl]
    ·rw[x5,getElem?_set_self (by omega)]
end Go.Ab
