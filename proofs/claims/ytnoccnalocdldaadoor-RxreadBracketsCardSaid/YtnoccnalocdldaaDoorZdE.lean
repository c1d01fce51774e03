import Derived.Test.YtnoccnalocdldaaDoorZdC
import Derived.Great.BuildSlice
set_option linter.all false
namespace Go.Ab
open Go Go.RowKit Go.Fwd
theorem Inv.κlt {IT:IterP} {σ:St} {X:Cx} (hI:Inv IT σ X) {b:Nat} (hb:b∈X.κ):b<X.w.heap.size:=by
 obtain⟨s,hs,rfl⟩:=List.mem_iff_getElem.1 hb
 have hs':X.κ[s]? =some X.κ[s]:=by simp[hs]
 have hl:=hI.κlen
 obtain⟨t,cs,he⟩: ∃t cs,σ.boxes[s]? =some (t,cs):=⟨(σ.boxes[s]'(by omega)).1,(σ.boxes[s]'(by omega)).2,by rw[List.getElem?_eq_getElem (by omega)]⟩
 obtain⟨vs,zs,h1,_⟩:=hI.box s _ t cs hs' he
 exact(Array.getElem?_eq_some_iff.1 h1).1
theorem Inv.βlt {IT:IterP} {σ:St} {X:Cx} (hI:Inv IT σ X) {r:Row} (hr:r∈X.β):r.block<X.w.heap.size:=by
 obtain⟨s,hs,rfl⟩:=List.mem_iff_getElem.1 hr
 have hs':X.β[s]? =some X.β[s]:=by simp[hs]
 have hl:=hI.βlen
 obtain⟨cur,fz,h1,_⟩:=hI.row s _ (X.lens[s]'(by omega)) hs' (by rw[List.getElem?_eq_getElem (by omega)])
 exact(Array.getElem?_eq_some_iff.1 h1).1
theorem Inv.Olt {IT:IterP} {σ:St} {X:Cx} (hI:Inv IT σ X) {b:Nat} (h:X.O b):b<X.w.heap.size:=by
 obtain⟨⟨cs,t,f,h⟩,_⟩:=hI.Ok b h
 exact(Array.getElem?_eq_some_iff.1 h).1
theorem zor {w:World} {b o:Nat} {v:Value} (h:w.cell? ⟨b,o,none⟩=some v):b<w.heap.size:=by
 unfold World.cell? at h
 cases hb:w.heap[b]? with
 |none=>simp[hb] at h
 |some x=>exact(Array.getElem?_eq_some_iff.1 hb).1
theorem Inv.Flt {IT:IterP} {σ:St} {X:Cx} (hI:Inv IT σ X) {b o:Nat} (hf:X.F b o):b<X.w.heap.size:=by
 obtain⟨v,hv⟩:=hI.Fcell b o hf
 exact zor hv
theorem zmt {IT:IterP} (hIT:ITMono IT) {σ:St} {X:Cx} (hI:Inv IT σ X) {s b:Nat} {t:TypeId} {cs cs':List AV} {vs' zs:List Value} (hs:X.κ[s]? =some b)(hb:σ.boxes[s]? =some (t,cs))(hne:cs≠[])
 (hsize: ∀cur t f,X.w.heap[b]? =some (.cells cur t f)→cur.size=(vs'++zs).length) (hr:zbk IT X cs' vs') (h1: ∀v∈vs',v.oneCell'=true):
 Ext X {X with w:=X.w.setRow b (vs'++zs).toArray}∧Inv IT {σ with boxes:=σ.boxes.set s (t,cs')} {X with w:=X.w.setRow b (vs'++zs).toArray}:=by
 obtain⟨vs,zs0,k1,k2,k3⟩:=hI.box s b t cs hs hb
 have hbm:b∈X.κ:=List.mem_of_getElem? hs
 have hnew:(X.w.setRow b (vs'++zs).toArray).heap[b]? =some (.cells (vs'++zs).toArray t (0,0)):=setRow_heap _ _ _ _ _ _ k1
 have hcell: ∀(b' o:Nat),X.F b' o→(X.w.setRow b (vs'++zs).toArray).cell? ⟨b',o,none⟩=X.w.cell? ⟨b',o,none⟩:=fun b' o hf=>
  cell_setRow_other _ _ _ _ fun e=>hI.κF s b t cs hs hb hne o (e▸hf)
 have hdead: ∀(s':Nat) (t':TypeId) (c:List AV),X.κ[s']? =some b→s'≠s→σ.boxes[s']? =some (t',c)→c=[]:=fun s' t' c h2 h3 h4=>by
  rcases hI.κnd s' s b h2 hs h3 with⟨t2,h5⟩|⟨t2,h5⟩
  ·rw[h4] at h5;cases h5;rfl
  ·rw[hb] at h5;cases h5;exact absurd rfl hne
 have hE:Ext X {X with w:=X.w.setRow b (vs'++zs).toArray}:={
  os:=rfl,tape:=rfl,output:=rfl,size:=by simp,drawn:=(by first|exact Nat.le_refl _|exact Nat.le_succ _)
  F:=fun _ _ h=>h
  cell:=hcell
  κ:=fun _ _ h=>h
  lens:=fun s L h=>⟨L,h,Nat.le_refl _,fun _=>rfl⟩
  blk:=fun s' b' _ cur t' f h=>by
   by_cases e:b'=b
   ·subst e
    rw[k1] at h
    have h2:=hsize _ _ _ k1
    cases h
    exact⟨_,hnew,by simpa using h2.symm⟩
   ·exact⟨cur,(setRow_other _ _ _ _ e).trans h,rfl⟩
  szs:=Szs.one b (fun k _ e=>setRow_other _ _ _ _ e) fun cs t f h=>by
   rw[k1] at h
   have h2:=hsize _ _ _ k1
   cases h
   exact⟨_,_,_,hnew,by simpa using h2.symm⟩
  frame:=fun b' _ hk _=>setRow_other _ _ _ _ fun e=>hk (e▸hbm)
  κnew:=fun _ h=> .inl h
  βnew:=fun r h=> .inl ⟨r,h,rfl⟩
  O:=rfl
  C:=rfl
  Fnew:=fun _ _ h=> .inl h}
 refine⟨hE,{hI with
  gv:=qan hIT hE hI.gv
  lens:=hI.lens
  elems:=hI.elems
  κlen:=by simpa using hI.κlen
  κnd:=fun s1 s2 b' h2 h3 h4=> ?_
  κF:=fun s' b' t' c hs' hb' hc o hf=> ?_
  box:=fun s' b' t' c hs' hb'=> ?_
  row:=fun s' r L hr' hL=> ?_
  Ok:=fun b' ho=>by
   obtain⟨⟨cs0,t0,f0,h0⟩,h2,h3,h4⟩:=hI.Ok b' ho
   exact⟨⟨cs0,t0,f0,(setRow_other _ _ _ _ (by intro e;subst e;exact h2 hbm)).trans h0⟩,h2,h3,h4⟩
  Fcell:=fun b' o hf=>by
   obtain⟨v,hv⟩:=hI.Fcell b' o hf
   exact⟨v,(hcell b' o hf).trans hv⟩}⟩
 ·have put: ∀(s':Nat),s'≠s→ ∀t0,σ.boxes[s']? =some (t0,[])→ ∃t0,(σ.boxes.set s (t,cs'))[s']? =some (t0,[]):=fun s' e t0 h=>⟨t0,by rw[List.getElem?_set_ne (Ne.symm e)];exact h⟩
  by_cases e1:s1=s
  ·subst e1
   rw[hs] at h2;cases h2
   obtain⟨c2,hc2⟩: ∃c2,σ.boxes[s2]? =some c2:=by
    have:s2<X.κ.length:=(List.getElem?_eq_some_iff.1 h3).1
    have hl:=hI.κlen
    exact⟨σ.boxes[s2]'(by omega),List.getElem?_eq_getElem _⟩
   obtain⟨t2,c2⟩:=c2
   have:=hdead s2 t2 c2 h3 (Ne.symm h4) hc2
   subst this
   exact .inr (put s2 (Ne.symm h4) t2 hc2)
  ·by_cases e2:s2=s
   ·subst e2
    rw[hs] at h3;cases h3
    obtain⟨c2,hc2⟩: ∃c2,σ.boxes[s1]? =some c2:=by
     have:s1<X.κ.length:=(List.getElem?_eq_some_iff.1 h2).1
     have hl:=hI.κlen
     exact⟨σ.boxes[s1]'(by omega),List.getElem?_eq_getElem _⟩
    obtain⟨t2,c2⟩:=c2
    have:=hdead s1 t2 c2 h2 h4 hc2
    subst this
    exact .inl (put s1 h4 t2 hc2)
   ·exact(hI.κnd s1 s2 b' h2 h3 h4).imp (fun⟨t0,h⟩=>put s1 e1 t0 h) (fun⟨t0,h⟩=>put s2 e2 t0 h)
 ·by_cases e:s'=s
  ·subst e
   rw[hs] at hs';cases hs'
   have hlt:s'<σ.boxes.length:=(List.getElem?_eq_some_iff.1 hb).1
   have hb2:some (t,cs')=some (t',c):=by
    have:(σ.boxes.set s' (t,cs'))[s']? =some (t',c):=hb'
    rwa[List.getElem?_set_self hlt] at this
   cases hb2
   exact⟨vs',zs,hnew,zaw hIT hE _ _ hr,h1⟩
  ·have hb2:σ.boxes[s']? =some (t',c):=by
    have:(σ.boxes.set s (t,cs'))[s']? =some (t',c):=hb'
    rwa[List.getElem?_set_ne (Ne.symm e)] at this
   obtain⟨us,zs',u1,u2,u3⟩:=hI.box s' b' t' c hs' hb2
   by_cases hbb:b'=b
   ·subst hbb
    have hc:=hdead s' t' c hs' e hb2
    subst hc
    rw[k1] at u1
    simp only[Option.some.injEq,Obj.cells.injEq] at u1
    obtain⟨_,rfl,_⟩:=u1
    exact⟨[],vs'++zs,hnew,by rw[zbk],by simp⟩
   ·exact⟨us,zs',(setRow_other _ _ _ _ hbb).trans u1,zaw hIT hE _ _ u2,u3⟩
 ·by_cases e:s'=s
  ·subst e
   rw[hs] at hs';cases hs'
   exact hI.κF s' b t cs hs hb hne o hf
  ·have hb2:σ.boxes[s']? =some (t',c):=by
    have:(σ.boxes.set s (t,cs'))[s']? =some (t',c):=hb'
    rwa[List.getElem?_set_ne (Ne.symm e)] at this
   exact hI.κF s' b' t' c hs' hb2 hc o hf
 ·obtain⟨cur,fz,c1,c2⟩:=hI.row s' r L hr' hL
  have hne:r.block≠b:=fun e=>hI.βκ r (List.mem_of_getElem? hr') (e▸hbm)
  exact⟨cur,fz,(setRow_other _ _ _ _ hne).trans c1,c2⟩
theorem zsh {IT:IterP} {σ:St} {X:Cx} (hI:Inv IT σ X)(o:Obj)(G:Nat→Prop)(κn:List Nat)(hκ: ∀b∈κn,b=X.w.heap.size):
 Ext X {X with w:=X.w.alloc o,F:=fun b i=>X.F b i∨(b=X.w.heap.size∧G i),κ:=X.κ++κn} where
 os:=rfl
 tape:=rfl
 output:=rfl
 size:=by simp
 drawn:=(by first|exact Nat.le_refl _|exact Nat.le_succ _)
 F:=fun _ _ h=> .inl h
 cell:=fun b i hf=>World.cell?_of_block (Below.heap_alloc _ _ _ (hI.Flt hf))
 κ :=fun s b h=>by
  have:=(List.getElem?_eq_some_iff.1 h).1
  show(X.κ++κn)[s]? =some b
  rw[List.getElem?_append_left this];exact h
 lens:=fun s L h=>⟨L,h,Nat.le_refl _,fun _=>rfl⟩
 blk:=fun s b hs cur t f h=>⟨cur,(Below.heap_alloc _ _ _ (hI.κlt (List.mem_of_getElem? hs))).trans h,rfl⟩
 szs:=Szs.old fun k hk=>Below.heap_alloc _ _ _ hk
 frame:=fun b hb _ _=>Below.heap_alloc _ _ _ hb
 κnew:=fun b h=>by
  rcases List.mem_append.1 h with h|h
  ·exact .inl h
  ·exact .inr (by rw[hκ b h];exact Nat.le_refl _)
 βnew:=fun r h=> .inl ⟨r,h,rfl⟩
 O:=rfl
 C:=rfl
 Fnew:=fun b i h=>by
  rcases h with h|⟨h,_⟩
  ·exact .inl h
  ·exact .inr (.inl (h▸Nat.le_refl _))
theorem z6j {IT:IterP} (hIT:ITMono IT) {σ:St} {X:Cx} (hI:Inv IT σ X) {t:TypeId} {cs:List AV} {vs:List Value} (zs:List Value)(hr:zbk IT X cs vs)(h1: ∀v∈vs,v.oneCell'=true):
 ∃X',X'.w=X.w.alloc (.cells (vs++zs).toArray t)∧Ext X X'∧Inv IT {σ with boxes:=σ.boxes++[(t,cs)]} X'∧Rep IT X' (.ptr σ.boxes.length 0) (.pointer (some ⟨X.w.heap.size,0,none⟩)):=by
 have hE:=zsh hI (.cells (vs++zs).toArray t) (fun _=>False) [X.w.heap.size] (fun b h=>by simpa using h)
 refine⟨_,rfl,hE,?_,?_⟩
 ·refine {lens:=hI.lens,elems:=hI.elems,κlen:=by simp[hI.κlen],κnd:= ?_,box:= ?_,κF:= ?_,βlen:=hI.βlen,βnd:=hI.βnd,βκ:= ?_,row:= ?_,Ok:= ?_,Fcell:= ?_}
  ·intro s s' b h2 h3 h4
   have old: ∀s,(X.κ++[X.w.heap.size])[s]? =some b→(X.κ[s]? =some b∧s<σ.boxes.length)∨(s=X.κ.length∧b=X.w.heap.size):=fun s h=>by
    have hl:=hI.κlen
    rcases Nat.lt_or_ge s X.κ.length with hlt|hge
    ·rw[List.getElem?_append_left hlt] at h;exact .inl ⟨h,by omega⟩
    ·have:=(List.getElem?_eq_some_iff.1 h).1
     simp at this
     have e:s=X.κ.length:=by omega
     subst e
     simp at h;exact .inr ⟨rfl,h.symm⟩
   have up: ∀s,s<σ.boxes.length→(∃t,σ.boxes[s]? =some (t,[]))→ ∃t',(σ.boxes++[(t,cs)])[s]? =some (t',[]):=fun s hs ⟨t0,h⟩=>⟨t0,by rw[List.getElem?_append_left hs];exact h⟩
   rcases old s h2 with⟨k2,l2⟩|⟨k2,l2⟩
   ·rcases old s' h3 with⟨k3,l3⟩|⟨k3,l3⟩
    ·exact(hI.κnd s s' b k2 k3 h4).imp (up s l2) (up s' l3)
    ·have:=hI.κlt (List.mem_of_getElem? k2);omega
   ·rcases old s' h3 with⟨k3,l3⟩|⟨k3,l3⟩
    ·have:=hI.κlt (List.mem_of_getElem? k3);omega
    ·omega
  ·intro s b t' c hs hb
   have hlen:=hI.κlen
   rcases Nat.lt_or_ge s X.κ.length with hlt|hge
   ·have hs':X.κ[s]? =some b:=by rw[←hs];exact(List.getElem?_append_left hlt).symm
    have hb':σ.boxes[s]? =some (t',c):=by rw[←hb];exact(List.getElem?_append_left (by omega)).symm
    obtain⟨us,zs',u1,u2,u3⟩:=hI.box s b t' c hs' hb'
    exact⟨us,zs',(Below.heap_alloc _ _ _ (hI.κlt (List.mem_of_getElem? hs'))).trans u1,zaw hIT hE _ _ u2,u3⟩
   ·have h0:s=X.κ.length:=by
     have:=(List.getElem?_eq_some_iff.1 hs).1
     simp at this;omega
    subst h0
    have e1:b=X.w.heap.size:=by
     have:(X.κ++[X.w.heap.size])[X.κ.length]? =some b:=hs
     simp at this;exact this.symm
    have e2:(t,cs)=(t',c):=by
     have:(σ.boxes++[(t,cs)])[X.κ.length]? =some (t',c):=hb
     rw[hlen] at this;simpa using this
    cases e2
    subst e1
    exact⟨vs,zs,zeq _ _ _ rfl,zaw hIT hE _ _ hr,h1⟩
  ·intro s b t' c hs hb hc o hf
   rcases hf with hf|⟨_,hf⟩
   ·have hlen:=hI.κlen
    rcases Nat.lt_or_ge s X.κ.length with hlt|hge
    ·have hs':X.κ[s]? =some b:=by rw[←hs];exact(List.getElem?_append_left hlt).symm
     have hb':σ.boxes[s]? =some (t',c):=by rw[←hb];exact(List.getElem?_append_left (by omega)).symm
     exact hI.κF s b t' c hs' hb' hc o hf
    ·have h0:s=X.κ.length:=by
      have:=(List.getElem?_eq_some_iff.1 hs).1
      simp at this;omega
     subst h0
     have e1:b=X.w.heap.size:=by
      have:(X.κ++[X.w.heap.size])[X.κ.length]? =some b:=hs
      simp at this;exact this.symm
     have:=hI.Flt hf
     omega
   ·exact hf
  ·intro r hr' hm
   rcases List.mem_append.1 hm with hm|hm
   ·exact hI.βκ r hr' hm
   ·have:=hI.βlt hr'
    simp at hm;omega
  ·intro s r L hr' hL
   obtain⟨cur,fz,c1,c2,c3,c4,c5,c6,c7⟩:=hI.row s r L hr' hL
   refine⟨cur,fz,(Below.heap_alloc _ _ _ (hI.βlt (List.mem_of_getElem? hr'))).trans c1,c2,c3,c4,c5,fun o hf=> ?_,c7⟩
   rcases hf with hf|⟨_,hf⟩
   ·exact c6 o hf
   ·exact hf.elim
  ·intro b ho
   obtain⟨⟨cs0,t0,f0,h0⟩,h2,h3,h4⟩:=hI.Ok b ho
   have hlt:=hI.Olt ho
   refine⟨⟨cs0,t0,f0,(Below.heap_alloc _ _ _ hlt).trans h0⟩,fun hm=> ?_,h3,fun o hf=>hf.elim (h4 o) fun h=>h.2.elim⟩
   rcases List.mem_append.1 hm with hm|hm
   ·exact h2 hm
   ·simp at hm;omega
  ·intro b o hf
   rcases hf with hf|⟨_,hf⟩
   ·obtain⟨v,hv⟩:=hI.Fcell b o hf
    exact⟨v,(hE.cell b o hf).trans hv⟩
   ·exact hf.elim
 ·rw[Rep]
  refine⟨X.w.heap.size,?_,rfl⟩
  show(X.κ++[X.w.heap.size])[σ.boxes.length]? =_
  rw[←hI.κlen];simp
theorem zso {IT:IterP} (hIT:ITMono IT) {σ:St} {X:Cx} (hI:Inv IT σ X) {t:TypeId} {cs:List AV} {vs:List Value} (hr:zbk IT X cs vs)(h1: ∀v∈vs,v.oneCell'=true):
 ∃X',X'.w=X.w.alloc (.cells vs.toArray t)∧Ext X X'∧Inv IT {σ with boxes:=σ.boxes++[(t,cs)]} X'∧Rep IT X' (.ptr σ.boxes.length 0) (.pointer (some ⟨X.w.heap.size,0,none⟩)):=by
 obtain⟨X',h1,h2⟩:=z6j hIT hI (t:=t) [] hr h1
 exact⟨X',by rw[h1,List.append_nil],h2⟩
theorem zws {IT:IterP} {X:Cx} {b:Nat}: ∀ {cs:List AV} {vs:List Value} {o:Nat},(∀j,j<vs.length→X.F b (o+j))→(∀v∈vs,v.oneCell'=true)→zbk IT X cs vs→(∀(j:Nat) v,vs[j]? =some v→X.w.cell? ⟨b,o+j,none⟩=some v)→At IT X cs b o
 |[],vs,o,_,_,_,_=>by rw[At];trivial
 | a::l,vs,o,hf,h1,h,hc=>by
  rw[zbk] at h
  obtain⟨v,r,rfl,h2,h3⟩:=h
  rw[At]
  refine⟨⟨by simpa using hf 0 (by simp),v,by simpa using hc 0 v rfl,h1 v (by simp),h2⟩,zws (fun j hj=> ?_) (fun u hu=>h1 u (by simp[hu])) h3 fun j u hu=> ?_⟩
  ·have:=hf (j+1) (by simp;omega)
   rwa[show o+(j+1)=o+1+j by omega] at this
  ·have:=hc (j+1) u (by simpa using hu)
   rwa[show o+(j+1)=o+1+j by omega] at this
theorem z8c {IT:IterP} (hIT:ITMono IT) {σ:St} {X:Cx} (hI:Inv IT σ X)(t:TypeId) {cs:List AV} {vs:List Value} (hr:zbk IT X cs vs)(h1: ∀v∈vs,v.oneCell'=true):
 ∃ X',X'.w=X.w.alloc (.cells vs.toArray t)∧Ext X X'∧Inv IT σ X'∧At IT X' cs X.w.heap.size 0∧
  Grows X.w X'.w∧X'.κ=X.κ∧X'.β=X.β∧X'.lens=X.lens∧(X'.O=X.O∧X'.C=X.C)∧ ∀b i,X'.F b i→X.F b i∨X.w.heap.size≤b:=by
 have hE:=zsh hI (.cells vs.toArray t) (fun i=>i<vs.length) [] (fun b h=>by simp at h)
 refine⟨_,rfl,hE,?_,?_,(Ex.refl _ _).alloc (Nat.le_refl _) _,by simp,rfl,rfl,⟨rfl,rfl⟩,fun b i h=>h.imp id fun h=>Nat.le_of_eq h.1.symm⟩
 ·refine {lens:=hI.lens,elems:=hI.elems,κlen:=by simpa using hI.κlen,κnd:=by simpa using hI.κnd,box:= ?_,κF:= ?_,βlen:=hI.βlen,βnd:=hI.βnd,βκ:=by simpa using hI.βκ,row:= ?_,Ok:= ?_,Fcell:= ?_}
  ·intro s b t' c hs hb
   have hs':X.κ[s]? =some b:=by simpa using hs
   obtain⟨us,zs',u1,u2,u3⟩:=hI.box s b t' c hs' hb
   exact⟨us,zs',(Below.heap_alloc _ _ _ (hI.κlt (List.mem_of_getElem? hs'))).trans u1,zaw hIT hE _ _ u2,u3⟩
  ·intro s b t' c hs hb hc o hf
   have hs':X.κ[s]? =some b:=by simpa using hs
   rcases hf with hf|⟨e,_⟩
   ·exact hI.κF s b t' c hs' hb hc o hf
   ·have:=hI.κlt (List.mem_of_getElem? hs');omega
  ·intro s r L hr' hL
   obtain⟨cur,fz,c1,c2,c3,c4,c5,c6,c7⟩:=hI.row s r L hr' hL
   have hlt:=hI.βlt (List.mem_of_getElem? hr')
   refine⟨cur,fz,(Below.heap_alloc _ _ _ hlt).trans c1,c2,c3,c4,c5,fun o hf=> ?_,c7⟩
   rcases hf with hf|⟨e,_⟩
   ·exact c6 o hf
   ·omega
  ·intro b ho
   obtain⟨⟨cs0,t0,f0,h0⟩,h2,h3,h4⟩:=hI.Ok b ho
   have hlt:=hI.Olt ho
   exact⟨⟨cs0,t0,f0,(Below.heap_alloc _ _ _ hlt).trans h0⟩,by simpa using h2,h3,fun o hf=>hf.elim (h4 o) fun h=>by omega⟩
  ·intro b o hf
   rcases hf with hf|⟨e,hf⟩
   ·obtain⟨v,hv⟩:=hI.Fcell b o hf
    exact⟨v,(hE.cell b o hf).trans hv⟩
   ·subst e
    refine⟨vs[o],?_⟩
    show(X.w.alloc _).cell? _=_
    rw[cell_of_row _ _ _ _ _ _ (zeq _ _ _ rfl)]
    simp[hf]
 ·refine zws (fun j hj=> .inr ⟨rfl,by omega⟩) h1 (zaw hIT hE _ _ hr) fun j u hu=> ?_
  show(X.w.alloc _).cell? _=_
  rw[cell_of_row _ _ _ _ _ _ (zeq _ _ _ rfl),Nat.zero_add]
  simpa using hu
def zhn:AV→Bool
 | .raw u=>u.oneCell'
 | .agg _| .list _ _ _| .ptr _ _| .bsl _ _ _ _ _| .iptr _| .clos _ _| .yld _=>true
 |_=>false
theorem zlg {IT:IterP} {X:Cx} {a:AV} {v:Value} (h:zhn a=true)(k:Rep IT X a v):zbk IT X (cellsOf a) v.cells.toList∧ ∀u∈v.cells.toList,u.oneCell'=true:=by
 have one:v.oneCell'=true→v.cells= #[v]→Rep IT X a v→zbk IT X [a] v.cells.toList∧ ∀u∈v.cells.toList,u.oneCell'=true:=fun h1 h2 h3=>by
  rw[h2,zbk]
  exact⟨⟨v,[],by simp,h3,by rw[zbk]⟩,by simpa using h1⟩
 cases a with
 | raw u=>
  have hk:=k
  rw[Rep] at k;subst k
  exact one h (by cases v<;>first|rfl|simp[zhn,Value.oneCell'] at h) hk
 | agg cs=>
  rw[Rep] at k
  obtain⟨vs,rfl,k1,k2⟩:=k
  exact⟨by simpa[cellsOf,Value.cells] using k1,by simpa[Value.cells] using k2⟩
 | list n cs st=>
  have hk:=k
  rw[Rep] at k;obtain⟨_,_,rfl,_⟩:=k
  exact one rfl rfl hk
 | ptr s off=>
  have hk:=k
  rw[Rep] at k;obtain⟨_,_,rfl⟩:=k
  exact one rfl rfl hk
 | bsl s off n sz f=>
  have hk:=k
  rw[Rep] at k;obtain⟨_,_,_,_,_,rfl,_⟩:=k
  exact one rfl rfl hk
 | iptr cs=>
  have hk:=k
  rw[Rep] at k;obtain⟨_,_,rfl,_⟩:=k
  exact one rfl rfl hk
 | clos f c=>
  have hk:=k
  rw[Rep] at k;obtain⟨_,rfl,_⟩:=k
  exact one rfl rfl hk
 | yld l=>
  have hk:=k
  rw[Rep] at k;subst k
  exact one rfl rfl hk
 |_=>cases h
def zof (P:Program)(σ:St)(t:TypeId)(x y:AV):Option St:=
 match x with
 | .ptr s off=>match σ.boxes[s]?,zdk P t with
  |some bx,some n=>if zhn y=true∧(cellsOf y).length=n∧off+n≤bx.2.length∧0<n then some {σ with boxes:=σ.boxes.set s (bx.1,bx.2.take off++cellsOf y++bx.2.drop (off+n))} else none
  |_,_=>none
 |_=>none
theorem zzj {IT:IterP} (hIT:ITMono IT) {P:Program} {X:Cx} {σ σ':St} {t:TypeId} {x y:AV} {u v:Value} (h:zof P σ t x y=some σ')(hx:Rep IT X x u)(hy:Rep IT X y v)(hI:Inv IT σ X):
 ∃X',(Instr.storeAt t u v).run P X.w= .ok () X'.w∧Ext X X'∧Inv IT σ' X':=by
 unfold zof at h
 split at h<;>try cases h
 rename_i s off
 rw[Rep] at hx
 obtain⟨b,hb,rfl⟩:=hx
 split at h<;>try cases h
 rename_i bx n hbx hn
 obtain⟨t0,cs⟩:=bx
 split at h<;>try cases h
 rename_i hc
 obtain⟨hc1,hc2,hc3,hc4⟩:=hc
 obtain⟨k1,k2⟩:=zlg hc1 hy
 obtain⟨vs,zs,u1,u2,u3⟩:=hI.box s b t0 cs hb hbx
 have hl:=zr u2
 have hl2:=zr k1
 simp only at hc3
 have hst:=run_storeCells_at P b off t0 v.cells.toList 0 (vs++zs).toArray X.w u1 (by simp at hl2⊢;omega) k2
 simp only[Nat.add_zero] at hst
 have hsz:v.cells.size=n:=by simp at hl2;omega
 have hlist:v.cells.toList.length=n:=by simpa using hsz
 rw[hlist] at hst
 obtain⟨e1,e2⟩:=zmt hIT hI (zs:=zs) hb hbx (by intro e;subst e;simp at hc3;omega) (fun cur t f hc=>by rw[u1] at hc;cases hc;simp at hl2⊢;omega) (zbn (zbn (zdz u2 off) k1) (zgo u2 (off+n)))
  (fun w hw=>by
   rcases List.mem_append.1 hw with hw|hw
   ·rcases List.mem_append.1 hw with hw|hw
    ·exact u3 w (List.mem_of_mem_take hw)
    ·exact k2 w hw
   ·exact u3 w (List.mem_of_mem_drop hw))
 have hrow:(vs++zs).take off++v.cells.toList++(vs++zs).drop (off+n)=vs.take off++v.cells.toList++vs.drop (off+n)++zs:=by
  rw[List.take_append_of_le_length (by omega),List.drop_append_of_le_length (by omega)]
  simp
 refine⟨_,?_,e1,e2⟩
 simp only[Instr.storeAt,Instr.sureAddr,storeVar,Sem.run_bind,Sem.run_pure,Result.andThen_ok,zea hn,hsz]
 simp only[←hrow]
 simpa using hst
theorem zpd {P:Program} {t:TypeId} {v:Value} (w:World):(newVar t v).run P w= .ok ⟨w.heap.size,0,none⟩ (w.alloc (.cells v.cells t)):=by
 rfl
def aBox (σ:St)(t:TypeId)(x:AV):Option (AV×St):=
 if zhn x=true then some (.ptr σ.boxes.length 0,{σ with boxes:=σ.boxes++[(t,cellsOf x)]}) else none
theorem zud {IT:IterP} (hIT:ITMono IT) {P:Program} {X:Cx} {σ σ':St} {t:TypeId} {x a:AV} {v:Value} (h:aBox σ t x=some (a,σ'))(hx:Rep IT X x v)(hI:Inv IT σ X):
 ∃X',(Instr.box t v).run P X.w= .ok (.pointer (some ⟨X.w.heap.size,0,none⟩)) X'.w∧Ext X X'∧Inv IT σ' X'∧Rep IT X' a (.pointer (some ⟨X.w.heap.size,0,none⟩)):=by
 unfold aBox at h
 split at h<;>cases h
 rename_i hc
 obtain⟨k1,k2⟩:=zlg hc hx
 obtain⟨X',e1,e2,e3,e4⟩:=zso hIT hI (t:=t) k1 k2
 refine⟨X',?_,e2,e3,e4⟩
 simp only[Instr.box,Sem.run_bind,zpd,Result.andThen_ok,Sem.run_pure,e1]
def zqd (P:Program)(σ:St)(t:TypeId):Option (AV×St):=
 match P.info? t with
 | some i=>match i.zero with
  |some z=>if zpp z=true then aBox σ t (ziu z) else none
  |none=>none
 |none=>none
theorem zjt {P:Program} {t:TypeId} {i:TypeInfo} {z:Value} (h:P.info? t=some i)(hz:i.zero=some z)(w:World):(zeroValue t).run P w= .ok z w:=by
 simp[zeroValue,typeInfo,program,Sem.run,h,hz]
theorem zye {IT:IterP} (hIT:ITMono IT) {P:Program} {X:Cx} {σ σ':St} {t:TypeId} {a:AV} {old:Value} (h:zqd P σ t=some (a,σ'))(hI:Inv IT σ X):
 ∃X',(Instr.alloc t true old).run P X.w= .ok (.pointer (some ⟨X.w.heap.size,0,none⟩)) X'.w∧Ext X X'∧Inv IT σ' X'∧Rep IT X' a (.pointer (some ⟨X.w.heap.size,0,none⟩)):=by
 unfold zqd at h
 split at h<;>try cases h
 rename_i i hi
 split at h<;>try cases h
 rename_i z hz
 split at h<;>try cases h
 rename_i hok
 obtain⟨X',e1,e2,e3,e4⟩:=zud hIT (P:=P) h (zhk z hok) hI
 refine⟨X',?_,e2,e3,e4⟩
 have:(Instr.alloc t true old).run P X.w=(Instr.box t z).run P X.w:=by
  cases old<;>simp[Instr.alloc,Instr.box,zjt hi hz]
 rw[this];exact e1
def zxl (zfr:Nat→Option (Nat×Nat)):List AV→List (Nat×AV)→Option (List AV)
 |cells,[]=>some cells
 | cells,(i,a)::rest=>match zfr i with
  |none=>none
  |some (off,size)=>if zhn a=true∧(cellsOf a).length=size∧off+size≤cells.length then zxl zfr (cells.take off++cellsOf a++cells.drop (off+size)) rest else none
theorem zuz (off:Nat): ∀(l:List Value) (k:Nat) (cs:Array Value),off+k+l.length≤cs.size→
 ((l.zipIdx k).foldl (fun cs (x:Value×Nat)=>cs.setIfInBounds (off+x.2) x.1) cs)=(cs.toList.take (off+k)++l++cs.toList.drop (off+k+l.length)).toArray
 |[],k,cs,_=>by simp
 | v::l,k,cs,h=>by
  rw[List.zipIdx_cons,List.foldl_cons,zuz off l (k+1) _ (by simp at h⊢;omega)]
  apply Array.ext'
  have:=list_seg_step cs.toList (off+k) v l (by simp at h⊢;omega)
  simpa[Nat.add_assoc] using this
def zqx (IT:IterP)(X:Cx):List (Nat×AV)→List (Nat×Value)→Prop
 |[],qs=>qs=[]
 |p::ps,qs=> ∃v r,qs=(p.1,v)::r∧Rep IT X p.2 v∧zqx IT X ps r
theorem zoy {IT:IterP} {X:Cx} {zfr:Nat→Option (Nat×Nat)}: ∀ {ps:List (Nat×AV)} {qs:List (Nat×Value)} {cells cells':List AV} {vs:List Value},zxl zfr cells ps=some cells'→zqx IT X ps qs→zbk IT X cells vs→
 (∀v∈vs,v.oneCell'=true)→ ∃vs',Instr.fill zfr vs.toArray qs=some vs'.toArray∧zbk IT X cells' vs'∧ ∀v∈vs',v.oneCell'=true
 | [],_,cells,cells',vs,h,hp,hr,h1=>by
  rw[zqx] at hp;subst hp
  simp only[zxl,Option.some.injEq] at h;subst h
  exact⟨vs,rfl,hr,h1⟩
 | (i, a)::ps,_,cells,cells',vs,h,hp,hr,h1=>by
  rw[zqx] at hp
  obtain⟨v,qs,rfl,hv,hp⟩:=hp
  simp only[zxl] at h
  cases hpl:zfr i with
  |none=>rw[hpl] at h;cases h
  | some os=>
   obtain⟨off,size⟩:=os
   rw[hpl] at h
   simp only at h
   split at h<;>try cases h
   rename_i hc
   obtain⟨hc1,hc2,hc3⟩:=hc
   obtain⟨k1,k2⟩:=zlg hc1 hv
   have hl:=zr hr
   have hl2:=zr k1
   have hsz:v.cells.size=size:=by simp at hl2;omega
   have hlist:v.cells.toList.length=size:=by simpa using hsz
   have hfold:(v.cells.zipIdx.foldl (fun cs (x:Value×Nat)=>cs.setIfInBounds (off+x.2) x.1) vs.toArray)=(vs.take off++v.cells.toList++vs.drop (off+size)).toArray:=by
    have:=zuz off v.cells.toList 0 vs.toArray (by simp;omega)
    rw[hlist] at this
    simp only[Nat.add_zero] at this
    rw[←this,←Array.foldl_toList,Array.toList_zipIdx]
   obtain⟨vs',e1,e2,e3⟩:=zoy h hp (zbn (zbn (zdz hr off) k1) (zgo hr (off+size)))
    (fun w hw=>by
     rcases List.mem_append.1 hw with hw|hw
     ·rcases List.mem_append.1 hw with hw|hw
      ·exact h1 w (List.mem_of_mem_take hw)
      ·exact k2 w hw
     ·exact h1 w (List.mem_of_mem_drop hw))
   refine⟨vs',?_,e2,e3⟩
   simp only[Instr.fill,hpl]
   rw[if_neg (by simp[hsz];omega)]
   rw[←e1]
   congr 1
def zmo (z:Value):List AV:=z.cells.toList.map zih
theorem zyd {IT:IterP} {X:Cx} (l:List Value):zbk IT X (l.map zih) l:=by
 refine zfb (by simp) fun i a v h1 h2=> ?_
 rw[List.getElem?_map,h2] at h1
 simp at h1;subst h1
 exact ziq v
def qda (P:Program)(t:TypeId)(parts:List (Nat×AV)):Option AV:=
 match P.info? t,P.underlying t with
 | some it,some (.array _ e)=>
  match it.zero,P.info? e with
  |some z,some ie=>if z.cells.toList.all (·.oneCell')=true then(zxl (fun i=>some (i*ie.size,ie.size)) (zmo z) parts).map .agg else none
  |_,_=>none
 | some it,some (.struct fields)=>
  match it.zero,fields.toList.mapM (fun f=>(P.info? f.type).map fun i=>(f.offset,i.size)) with
  |some z,some places=>if z.cells.toList.all (·.oneCell')=true then(zxl (places.toArray[·]?) (zmo z) parts).map .agg else none
  |_,_=>none
 |_,_=>none
theorem zyn {IT:IterP} {P:Program} {X:Cx} {t:TypeId} {ps:List (Nat×AV)} {qs:Array (Nat×Value)} {a:AV} (h:qda P t ps=some a)(hp:zqx IT X ps qs.toList):
 ∃v,(Instr.build t qs).run P X.w= .ok v X.w∧Rep IT X a v:=by
 have fin: ∀(zfr:Nat→Option (Nat×Nat)) (z:Value),z.cells.toList.all (·.oneCell')=true→(zxl zfr (zmo z) ps).map AV.agg=some a→(∀cells,Instr.fill zfr z.cells qs.toList=some cells→P.built t qs.toList=some cells)→
  ∃v,(Instr.build t qs).run P X.w= .ok v X.w∧Rep IT X a v:=fun zfr z h1 h2 h3=>by
  simp only[Option.map_eq_some_iff] at h2
  obtain⟨cells',h2,rfl⟩:=h2
  obtain⟨vs',e1,e2,e3⟩:=zoy h2 hp (zyd z.cells.toList) (fun v hv=>List.all_eq_true.1 h1 v hv)
  refine⟨_,run_build X.w t qs _ (h3 _ (by simpa using e1)),?_⟩
  rw[Rep];exact⟨vs',rfl,e2,e3⟩
 unfold qda at h
 split at h<;>try cases h
 ·rename_i it n e hi hu
  split at h<;>try cases h
  rename_i z ie hz hie
  split at h<;>try cases h
  rename_i h1
  exact fin _ z h1 h fun cells hc=>by simp only[Program.built,hi,hu,hz,hie,hc]
 ·rename_i it fields hi hu
  split at h<;>try cases h
  rename_i z places hz hpl
  split at h<;>try cases h
  rename_i h1
  exact fin _ z h1 h fun cells hc=>by simp only[Program.built,hi,hu,hz,hpl,hc]
def zjk (P:Program)(t:TypeId)(len:Nat)(parts:List (Nat×AV)):Option (List AV×TypeId×Nat):=
 match P.underlying t with
 | some (.slice e)=>match P.info? e with
  | some ie=>match ie.zero with
   | some z=>
    if len=0 then(match parts with|[]=>some ([],e,ie.size)|_=>none)
    else if z.cells.toList.all (·.oneCell')=true∧z.cells.size≠0∧len*ie.size≤2^24∧len*ie.size≠0 then
     (zxl (fun i=>some (i*ie.size,ie.size)) ((List.range (len*ie.size)).map fun k=>(zmo z)[k%z.cells.size]?.getD .bad) parts).map fun cells=>(cells,e,ie.size)
    else none
   |none=>none
  |none=>none
 |_=>none
theorem zlj {IT:IterP} {P:Program} {X:Cx} {t e:TypeId} {len sz:Nat} {ps:List (Nat×AV)} {qs:Array (Nat×Value)} {cs:List AV} (h:zjk P t len ps=some (cs,e,sz))(hp:zqx IT X ps qs.toList):
 ∃vs:List Value,(Instr.buildSlice t len qs).run P X.w= .ok (.slice (some ⟨X.w.heap.size,0,none⟩) len len) (X.w.alloc (.cells vs.toArray e))∧zbk IT X cs vs∧ ∀v∈vs,v.oneCell'=true:=by
 unfold zjk at h
 split at h<;>try cases h
 rename_i e' hu
 split at h<;>try cases h
 rename_i ie hie
 split at h<;>try cases h
 rename_i z hz
 split at h
 ·rename_i h0
  subst h0
  split at h<;>cases h
  rw[zqx] at hp
  refine⟨[],?_,by rw[zbk],by simp⟩
  simp[Instr.buildSlice,underlying,sizeOf,typeInfo,program,Sem.run,hu,hie,hp,Instr.fill,newRow,newObj,Array.range_zero']
 split at h<;>try cases h
 rename_i hc
 obtain⟨hc1,hc2,hc3,hc4⟩:=hc
 simp only[Option.map_eq_some_iff,Prod.mk.injEq] at h
 obtain⟨cells',h2,rfl,rfl,rfl⟩:=h
 have hz0:zbk IT X ((List.range (len*ie.size)).map fun k=>(zmo z)[k%z.cells.size]?.getD .bad) ((List.range (len*ie.size)).map (z.cells[· %z.cells.size]!)):=by
  refine zfb (by simp) fun i x v h1 h2=> ?_
  rw[List.getElem?_map] at h1 h2
  cases hr:(List.range (len*ie.size))[i]? with
  |none=>rw[hr] at h1;cases h1
  | some k=>
   rw[hr] at h1 h2
   simp only[Option.map_some,Option.some.injEq] at h1 h2
   have hlt:k%z.cells.size<z.cells.size:=Nat.mod_lt _ (Nat.pos_of_ne_zero hc2)
   subst h1 h2
   have e1:(zmo z)[k%z.cells.size]?.getD .bad=zih z.cells[k%z.cells.size]:=by
    simp[zmo,hlt]
   have e2:z.cells[k%z.cells.size]! =z.cells[k%z.cells.size]:=getElem!_pos z.cells (k%z.cells.size) hlt
   rw[e1,e2];exact ziq _
 have hz1: ∀v∈(List.range (len*ie.size)).map (z.cells[· %z.cells.size]!),v.oneCell'=true:=by
  intro v hv
  obtain⟨k,_,rfl⟩:=List.mem_map.1 hv
  have hlt:k%z.cells.size<z.cells.size:=Nat.mod_lt _ (Nat.pos_of_ne_zero hc2)
  rw[getElem!_pos z.cells (k%z.cells.size) hlt]
  exact List.all_eq_true.1 hc1 _ (by simp)
 obtain⟨vs',e1,e2,e3⟩:=zoy h2 hp hz0 hz1
 exact⟨vs',run_buildSlice X.w t e' len qs vs'.toArray ie z hu hie hz (by omega) hc4 (by
  rw[←e1];congr 1
  apply Array.ext';simp),e2,e3⟩
def znh (P:Program)(t:TypeId)(len:Nat)(parts:List (Nat×AV)):Option AV:=
 (zjk P t len parts).map fun r=> .list len r.1 .full
theorem ztm {IT:IterP} (hIT:ITMono IT) {P:Program} {X:Cx} {σ:St} {t:TypeId} {len:Nat} {ps:List (Nat×AV)} {qs:Array (Nat×Value)} {a:AV} (h:znh P t len ps=some a)(hp:zqx IT X ps qs.toList)(hI:Inv IT σ X):
 ∃ v X',(Instr.buildSlice t len qs).run P X.w= .ok v X'.w∧Ext X X'∧Inv IT σ X'∧Rep IT X' a v∧
  Grows X.w X'.w∧X'.κ=X.κ∧X'.β=X.β∧X'.lens=X.lens∧(X'.O=X.O∧X'.C=X.C)∧ ∀b i,X'.F b i→X.F b i∨X.w.heap.size≤b:=by
 unfold znh at h
 simp only[Option.map_eq_some_iff] at h
 obtain⟨⟨cs,e,sz⟩,h,rfl⟩:=h
 obtain⟨vs',e1,e2,e3⟩:=zlj h hp
 obtain⟨X',x1,x2,x3,x4,x5⟩:=z8c hIT hI e e2 e3
 refine⟨.slice (some ⟨X.w.heap.size,0,none⟩) len len,X',by rw[x1];exact e1,x2,x3,?_,x5⟩
 rw[Rep]
 exact⟨_,_,rfl,⟨Nat.le_refl _,fun h=>by cases h⟩,.inr ⟨_,_,rfl,x4⟩,rfl⟩
def qgn (P:Program)(σ:St)(t:TypeId)(len:Nat)(parts:List (Nat×AV)):Option (AV×St):=
 match zjk P t len parts with
 |some (cs,e,sz)=>if cs.length=len*sz then some (.bsl σ.boxes.length 0 len sz true,{σ with boxes:=σ.boxes++[(e,cs)]}) else none
 |none=>none
theorem z2c {IT:IterP} (hIT:ITMono IT) {P:Program} {X:Cx} {σ σ':St} {t:TypeId} {len:Nat} {ps:List (Nat×AV)} {qs:Array (Nat×Value)} {a:AV} (h:qgn P σ t len ps=some (a,σ'))(hp:zqx IT X ps qs.toList)(hI:Inv IT σ X):
 ∃v X',(Instr.buildSlice t len qs).run P X.w= .ok v X'.w∧Ext X X'∧Inv IT σ' X'∧Rep IT X' a v:=by
 unfold qgn at h
 split at h<;>try cases h
 rename_i cs e sz hl
 split at h<;>cases h
 rename_i hlen
 obtain⟨vs,e1,e2,e3⟩:=zlj hl hp
 obtain⟨X',x1,x2,x3,x4⟩:=zso hIT hI (t:=e) e2 e3
 refine⟨_,X',(by rw[x1];exact e1),x2,x3,?_⟩
 obtain⟨b,hb1,hb2⟩: ∃b,X'.κ[σ.boxes.length]? =some b∧Value.pointer (some ⟨X.w.heap.size,0,none⟩)= .pointer (some ⟨b,0,none⟩):=x4
 have hb3:b=X.w.heap.size:=by simp at hb2;exact hb2.symm
 subst hb3
 show Bsl X' _ _ _ _ _ _
 have hl:=zr e2
 refine⟨_,_,vs.toArray,e,hb1,rfl,Nat.le_refl _,fun _=>rfl,?_,by simp;omega⟩
 rw[x1];exact zeq _ _ _ rfl
end Go.Ab
