import Derived.Test.YtnoccnalocdldaaDoorZdF
import Derived.Deep.AppendSrc
import Derived.Laws.MakeOwn
set_option linter.all false
namespace Go.Ab
open Go Go.RowKit Go.Fwd
def z8z (P:Program)(σ:St)(sz:Nat)(t tx:TypeId):AV→Option (Nat×List AV)
 | .list m ds _=>if t=tx∧ds.length=m*sz∧0<sz then some (m,ds) else none
 | .bsl s off m sz' _=>match σ.boxes[s]? with
  |some bx=>if t=tx∧sz'=sz∧off+m*sz≤bx.2.length then some (m,(bx.2.drop off).take (m*sz)) else none
  |none=>none
 | .raw (.string b)=>match P.underlying tx with|some .string=>if sz=1 then some (b.size,(byteCells b).map .raw) else none|_=>none
 |_=>none
theorem ziv {IT:IterP} {X:Cx}: ∀l:List Value,zbk IT X (l.map .raw) l
 |[]=>by simp[zbk]
 |v::l=>by rw[List.map_cons,zbk];exact⟨v,l,rfl,by rw[Rep],ziv l⟩
theorem zvf {IT:IterP} {P:Program} {σ:St} {X:Cx} {sz m:Nat} {t tx e:TypeId} {y:AV} {u:Value} {ds:List AV} (h:z8z P σ sz t tx y=some (m,ds))(hu:P.underlying t=some (.slice e))(hy:Rep IT X y u)(hI:Inv IT σ X):
 ∃us,Src P sz tx u m us X.w∧zbk IT X ds us:=by
 unfold z8z at h
 split at h
 ·rename_i m' ds' st
  split at h<;>cases h
  rename_i hc
  obtain⟨rfl,hl,hp⟩:=hc
  rw[Rep] at hy
  obtain⟨ad,cap,rfl,⟨hcap,hnil⟩,hc,_⟩:=hy
  rcases hc with rfl|⟨b,o,rfl,hat⟩
  ·have hm:m=0:=by
    rcases Nat.eq_zero_or_pos m with h|h
    ·exact h
    ·have:=Nat.mul_pos h hp;simp at hl;omega
   subst hm
   refine⟨[],?_,by rw[zbk]⟩
   cases ad with
   |none=>exact Src.ofNil X.w hu cap
   |some a=>exact Src.ofSlice X.w hu a 0 cap [] (by simp) (by simp) (by simp)
  ·obtain⟨us,u1,u2,u3⟩:=zft hat
   have hul:=zr u1
   exact⟨us,Src.ofSlice X.w hu ⟨b,o,none⟩ m cap us (by omega) (fun j w hj=>by rw[zfh];exact u3 j w hj) u2,u1⟩
 ·rename_i s off m' sz' f
  split at h<;>try cases h
  rename_i bx hbx
  split at h<;>cases h
  rename_i hc
  obtain⟨rfl,rfl,hl⟩:=hc
  rw[Rep] at hy
  obtain⟨b,cap,cur,t0,hk,rfl,hcap,hful,hrow,hfit⟩:=hy
  obtain⟨us,u1,u2,u3⟩:=zob hI hk hbx off
  refine⟨us.take (m*sz'),?_,zdz u1 _⟩
  have hul:=zr u1
  refine Src.ofSlice X.w hu ⟨b,off,none⟩ m cap _ (by simp at hul⊢;omega) (fun j w hj=> ?_) (fun v hv=>u2 v (List.mem_of_mem_take hv))
  rw[zfh]
  rw[List.getElem?_take] at hj
  split at hj
  ·exact u3 j w hj
  ·cases hj
 ·rename_i b
  split at h<;>try cases h
  rename_i hs
  split at h<;>cases h
  rename_i h1
  subst h1
  rw[Rep] at hy;subst hy
  exact⟨byteCells b,Src.ofString X.w hs b,ziv _⟩
 ·cases h
theorem zjn {IT:IterP} (hIT:ITMono IT) {σ:St} {X:Cx} (hI:Inv IT σ X):Ext X {X with w:=X.w.drew}∧Inv IT σ {X with w:=X.w.drew}:=by
 have hE:Ext X {X with w:=X.w.drew}:={
  os:=rfl,tape:=rfl,output:=rfl,size:=Nat.le_refl _,drawn:=Nat.le_succ _
  F:=fun _ _ h=>h
  cell:=fun _ _ _=>rfl
  κ:=fun _ _ h=>h
  lens:=fun s L h=>⟨L,h,Nat.le_refl _,fun _=>rfl⟩
  blk:=fun _ _ _ cur _ _ h=>⟨cur,h,rfl⟩
  szs:=Szs.heap rfl
  frame:=fun _ _ _ _=>rfl
  κnew:=fun _ h=> .inl h
  βnew:=fun r h=> .inl ⟨r,h,rfl⟩
  O:=rfl
  C:=rfl
  Fnew:=fun _ _ h=> .inl h}
 exact⟨hE,{hI with
  gv:=qan hIT hE hI.gv
  lens:=hI.lens,elems:=hI.elems
  box:=fun s b t cs hs hb=>by
   obtain⟨vs,zs,u1,u2,u3⟩:=hI.box s b t cs hs hb
   exact⟨vs,zs,u1,zaw hIT hE _ _ u2,u3⟩
  row:=hI.row
  Ok:=hI.Ok
  Fcell:=hI.Fcell}⟩
theorem zrm {IT:IterP} {σ:St} {X:Cx} (hI:Inv IT σ X) {s:Nat} {t:TypeId} {cs:List AV} (hb:σ.boxes[s]? =some (t,cs)):Inv IT {σ with boxes:=σ.boxes.set s (t,[])} X:=by
 have hs:s<σ.boxes.length:=(List.getElem?_eq_some_iff.1 hb).1
 have put: ∀s':Nat,(∃t0:TypeId,σ.boxes[s']? =some (t0,[]))→ ∃t0:TypeId,(σ.boxes.set s (t,[]))[s']? =some (t0,[]):=fun s' ⟨t0,h⟩=>by
  by_cases e:s=s'
  ·subst e;exact⟨t,by rw[List.getElem?_set_self hs]⟩
  ·exact⟨t0,by rw[List.getElem?_set_ne e];exact h⟩
 exact {hI with
  lens:=hI.lens,elems:=hI.elems
  κlen:=by simpa using hI.κlen
  κnd:=fun s1 s2 b h1 h2 h3=>(hI.κnd s1 s2 b h1 h2 h3).imp (put s1) (put s2)
  box:=fun s' b t' cs' hs' hb'=>by
   have hb':(σ.boxes.set s (t,[]))[s']? =some (t',cs'):=hb'
   by_cases e:s=s'
   ·subst e
    rw[List.getElem?_set_self hs] at hb'
    cases hb'
    obtain⟨vs,zs,u1,u2,u3⟩:=hI.box s b t cs hs' hb
    exact⟨[],vs++zs,u1,by rw[zbk],by simp⟩
   ·rw[List.getElem?_set_ne e] at hb'
    exact hI.box s' b t' cs' hs' hb'
  κF :=fun s' b t' cs' hs' hb' hc=>by
   have hb':(σ.boxes.set s (t,[]))[s']? =some (t',cs'):=hb'
   by_cases e:s=s'
   ·subst e
    rw[List.getElem?_set_self hs] at hb'
    cases hb';exact absurd rfl hc
   ·rw[List.getElem?_set_ne e] at hb'
    exact hI.κF s' b t' cs' hs' hb' hc
  row:=hI.row
  Ok:=hI.Ok
  Fcell:=hI.Fcell}
theorem zzu {IT:IterP} (hIT:ITMono IT) {σ:St} {X:Cx} (hI:Inv IT σ X) {s b:Nat} {t:TypeId} {cs:List AV} {vs zs:List Value} (hs:X.κ[s]? =some b)(hdead: ∀s':Nat,X.κ[s']? =some b→ ∃t0,σ.boxes[s']? =some (t0,[]))
 (hrow:X.w.heap[b]? =some (.cells (vs++zs).toArray t (0,0))) (hr:zbk IT X cs vs) (h1: ∀v∈vs,v.oneCell'=true) (hF: ∀o,¬X.F b o):
 ∃X',X'.w=X.w∧Ext X X'∧Inv IT {σ with boxes:=σ.boxes++[(t,cs)]} X'∧X'.κ[σ.boxes.length]? =some b:=by
 have hbm:b∈X.κ:=List.mem_of_getElem? hs
 have hE:Ext X {X with κ:=X.κ++[b]}:={
  os:=rfl,tape:=rfl,output:=rfl,size:=Nat.le_refl _,drawn:=(by first|exact Nat.le_refl _|exact Nat.le_succ _)
  F:=fun _ _ h=>h
  cell:=fun _ _ _=>rfl
  κ :=fun s b' h=>by
   show(X.κ++[b])[s]? =some b'
   rw[List.getElem?_append_left (List.getElem?_eq_some_iff.1 h).1];exact h
  lens:=fun s L h=>⟨L,h,Nat.le_refl _,fun _=>rfl⟩
  blk:=fun _ _ _ cur _ _ h=>⟨cur,h,rfl⟩
  szs:=Szs.heap rfl
  frame:=fun _ _ _ _=>rfl
  κnew:=fun b' h=>by
   rcases List.mem_append.1 h with h|h
   ·exact .inl h
   ·simp at h;subst h;exact .inl hbm
  βnew:=fun r h=> .inl ⟨r,h,rfl⟩
  O:=rfl
  C:=rfl
  Fnew:=fun _ _ h=> .inl h}
 have hlen:=hI.κlen
 have old: ∀(s' b':Nat),(X.κ++[b])[s']? =some b'→(X.κ[s']? =some b'∧s'<σ.boxes.length)∨(s'=σ.boxes.length∧b'=b):=fun s' b' h=>by
  rcases Nat.lt_or_ge s' X.κ.length with hlt|hge
  ·rw[List.getElem?_append_left hlt] at h;exact .inl ⟨h,by omega⟩
  ·have:=(List.getElem?_eq_some_iff.1 h).1
   simp at this
   have e:s'=X.κ.length:=by omega
   subst e
   simp at h;exact .inr ⟨hlen,h.symm⟩
 have up: ∀s':Nat,s'<σ.boxes.length→(∃t0:TypeId,σ.boxes[s']? =some (t0,[]))→ ∃t':TypeId,(σ.boxes++[(t,cs)])[s']? =some (t',[]):=fun s' hs ⟨t0,h⟩=>⟨t0,by rw[List.getElem?_append_left hs];exact h⟩
 have boxOld: ∀(s':Nat) (t':TypeId) (c:List AV),s'<σ.boxes.length→(σ.boxes++[(t,cs)])[s']? =some (t',c)→σ.boxes[s']? =some (t',c):=fun s' t' c hs h=>by rwa[List.getElem?_append_left hs] at h
 have boxNew: ∀(t':TypeId) (c:List AV),(σ.boxes++[(t,cs)])[σ.boxes.length]? =some (t',c)→t'=t∧c=cs:=fun t' c h=>by simp at h;exact⟨h.1.symm,h.2.symm⟩
 refine⟨{X with κ:=X.κ++[b]},rfl,hE,{hI with
  gv:=hI.gv
  lens:=hI.lens,elems:=hI.elems
  κlen:=by simp[hlen]
  κnd:=fun s1 s2 b' h2 h3 h4=> ?_
  box:=fun s' b' t' c hs' hb'=> ?_
  κF:=fun s' b' t' c hs' hb' hc o hf=> ?_
  βκ:=fun r hr' hm=> ?_
  row:=hI.row
  Ok:=fun b' ho=> ?_
  Fcell:=hI.Fcell},by rw[←hlen];simp⟩
 ·rcases old s1 b' h2 with⟨k2,l2⟩|⟨k2,l2⟩
  ·rcases old s2 b' h3 with⟨k3,l3⟩|⟨k3,l3⟩
   ·exact(hI.κnd s1 s2 b' k2 k3 h4).imp (up s1 l2) (up s2 l3)
   ·subst l3;exact .inl (up s1 l2 (hdead s1 k2))
  ·rcases old s2 b' h3 with⟨k3,l3⟩|⟨k3,l3⟩
   ·subst l2;exact .inr (up s2 l3 (hdead s2 k3))
   ·omega
 ·rcases old s' b' hs' with⟨k2,l2⟩|⟨k2,l2⟩
  ·obtain⟨us,zs',u1,u2,u3⟩:=hI.box s' b' t' c k2 (boxOld s' t' c l2 hb')
   exact⟨us,zs',u1,zaw hIT hE _ _ u2,u3⟩
  ·subst k2 l2
   obtain⟨rfl,rfl⟩:=boxNew t' c hb'
   exact⟨vs,zs,hrow,zaw hIT hE _ _ hr,h1⟩
 ·rcases old s' b' hs' with⟨k2,l2⟩|⟨k2,l2⟩
  ·exact hI.κF s' b' t' c k2 (boxOld s' t' c l2 hb') hc o hf
  ·subst l2;exact hF o hf
 ·rcases List.mem_append.1 hm with hm|hm
  ·exact hI.βκ r hr' hm
  ·simp at hm;exact hI.βκ r hr' (hm▸hbm)
 ·obtain⟨h0,h2,h3,h4⟩:=hI.Ok b' ho
  refine⟨h0,fun hm=> ?_,h3,h4⟩
  rcases List.mem_append.1 hm with hm|hm
  ·exact h2 hm
  ·simp at hm;exact h2 (hm▸hbm)
theorem qeh {IT:IterP} (hIT:ITMono IT) {σ:St} {X:Cx} (hI:Inv IT σ X) {s:Nat} {t:TypeId} {cs:List AV} (hb:σ.boxes[s]? =some (t,cs)):
 ∃X',X'.w=X.w∧X'.F=X.F∧X'.β=X.β∧X'.lens=X.lens∧X'.O=X.O∧X'.C=X.C∧(∃b∈X.κ,X'.κ=X.κ++[b])∧Ext X X'∧Inv IT {σ with boxes:=σ.boxes++[(t,[])]} X':=by
 have hlen:=hI.κlen
 have hs:s<σ.boxes.length:=(List.getElem?_eq_some_iff.1 hb).1
 obtain⟨b,hκ⟩: ∃b,X.κ[s]? =some b:=⟨X.κ[s]'(by omega),List.getElem?_eq_getElem _⟩
 have hbm:=List.mem_of_getElem? hκ
 obtain⟨us,zs,u1,u2,u3⟩:=hI.box s b t cs hκ hb
 have hE:Ext X {X with κ:=X.κ++[b]}:={
  os:=rfl,tape:=rfl,output:=rfl,size:=Nat.le_refl _,drawn:=(by first|exact Nat.le_refl _|exact Nat.le_succ _)
  F:=fun _ _ h=>h
  cell:=fun _ _ _=>rfl
  κ :=fun s b' h=>by
   show(X.κ++[b])[s]? =some b'
   rw[List.getElem?_append_left (List.getElem?_eq_some_iff.1 h).1];exact h
  lens:=fun s L h=>⟨L,h,Nat.le_refl _,fun _=>rfl⟩
  blk:=fun _ _ _ cur _ _ h=>⟨cur,h,rfl⟩
  szs:=Szs.heap rfl
  frame:=fun _ _ _ _=>rfl
  κnew:=fun b' h=>by
   rcases List.mem_append.1 h with h|h
   ·exact .inl h
   ·simp at h;subst h;exact .inl hbm
  βnew:=fun r h=> .inl ⟨r,h,rfl⟩
  O:=rfl
  C:=rfl
  Fnew:=fun _ _ h=> .inl h}
 have old: ∀(s' b':Nat),(X.κ++[b])[s']? =some b'→(X.κ[s']? =some b'∧s'<σ.boxes.length)∨(s'=σ.boxes.length∧b'=b):=fun s' b' h=>by
  rcases Nat.lt_or_ge s' X.κ.length with hlt|hge
  ·rw[List.getElem?_append_left hlt] at h;exact .inl ⟨h,by omega⟩
  ·have:=(List.getElem?_eq_some_iff.1 h).1
   simp at this
   have e:s'=X.κ.length:=by omega
   subst e
   simp at h;exact .inr ⟨hlen,h.symm⟩
 have up: ∀s':Nat,s'<σ.boxes.length→(∃t0:TypeId,σ.boxes[s']? =some (t0,[]))→ ∃t':TypeId,(σ.boxes++[(t,[])])[s']? =some (t',[]):=fun s' hs ⟨t0,h⟩=>⟨t0,by rw[List.getElem?_append_left hs];exact h⟩
 have boxOld: ∀(s':Nat) (t':TypeId) (c:List AV),s'<σ.boxes.length→(σ.boxes++[(t,[])])[s']? =some (t',c)→σ.boxes[s']? =some (t',c):=fun s' t' c hs h=>by rwa[List.getElem?_append_left hs] at h
 have boxNew:(σ.boxes++[(t,([]:List AV))])[σ.boxes.length]? =some (t,[]):=by simp
 refine⟨{X with κ:=X.κ++[b]},rfl,rfl,rfl,rfl,rfl,rfl,⟨b,hbm,rfl⟩,hE,{hI with
  gv:=hI.gv
  lens:=hI.lens,elems:=hI.elems
  κlen:=by simp[hlen]
  κnd:=fun s1 s2 b' h2 h3 h4=> ?_
  box:=fun s' b' t' c hs' hb'=> ?_
  κF:=fun s' b' t' c hs' hb' hc o hf=> ?_
  βκ:=fun r hr' hm=> ?_
  row:=hI.row
  Ok:=fun b' ho=> ?_
  Fcell:=hI.Fcell}⟩
 ·rcases old s1 b' h2 with⟨k2,l2⟩|⟨k2,l2⟩
  ·rcases old s2 b' h3 with⟨k3,l3⟩|⟨k3,l3⟩
   ·exact(hI.κnd s1 s2 b' k2 k3 h4).imp (up s1 l2) (up s2 l3)
   ·exact .inr ⟨t,by rw[k3];exact boxNew⟩
  ·exact .inl ⟨t,by rw[k2];exact boxNew⟩
 ·rcases old s' b' hs' with⟨k2,l2⟩|⟨k2,l2⟩
  ·obtain⟨us,zs',u1,u2,u3⟩:=hI.box s' b' t' c k2 (boxOld s' t' c l2 hb')
   exact⟨us,zs',u1,zaw hIT hE _ _ u2,u3⟩
  ·subst k2 l2
   have:(t,([]:List AV))=(t',c):=Option.some.inj (boxNew.symm.trans hb')
   cases this
   exact⟨[],us++zs,u1,by rw[zbk],by simp⟩
 ·rcases old s' b' hs' with⟨k2,l2⟩|⟨k2,l2⟩
  ·exact hI.κF s' b' t' c k2 (boxOld s' t' c l2 hb') hc o hf
  ·subst k2
   have:(t,([]:List AV))=(t',c):=Option.some.inj (boxNew.symm.trans hb')
   cases this
   exact hc rfl
 ·rcases List.mem_append.1 hm with hm|hm
  ·exact hI.βκ r hr' hm
  ·simp at hm;exact hI.βκ r hr' (hm▸hbm)
 ·obtain⟨h0,h2,h3,h4⟩:=hI.Ok b' ho
  refine⟨h0,fun hm=> ?_,h3,h4⟩
  rcases List.mem_append.1 hm with hm|hm
  ·exact h2 hm
  ·simp at hm;exact h2 (hm▸hbm)
def zov (P:Program)(σ:St)(t tx:TypeId)(x y:AV):Option (AV×St):=
 match P.underlying t with
 | some (.slice e)=>match P.info? e with
  | some i=>match i.zero with
   | some z=>match z8z P σ i.size t tx y with
    | some (m,ds)=>
     if 0 <i.size∧z.cells.size=i.size∧0<m then
      match x with
      | .list n cs .full=>
       if cs.length=n*i.size∧n+m≤maxLen∧(n+m)*i.bytes≤140737488355328 then some (.bsl σ.boxes.length 0 (n+m) i.size false,{σ with boxes:=σ.boxes++[(e,cs++ds)]}) else none
      | .bsl s off n sz f=>match σ.boxes[s]? with
       | some bx=>
        if sz=i.size∧n+m≤maxLen∧(n+m)*i.bytes≤140737488355328∧off+n*sz≤bx.2.length then
         (if f=true then some (.bsl σ.boxes.length 0 (n+m) sz false,{σ with boxes:=σ.boxes++[(e,(bx.2.drop off).take (n*sz)++ds)]})
         else if off=0∧n*sz=bx.2.length∧bx.1=e∧0<n then some (.bsl σ.boxes.length 0 (n+m) sz false,{σ with boxes:=σ.boxes.set s (e,[])++[(e,bx.2++ds)]})
         else none)
        else none
       |none=>none
      |_=>none
     else none
    |none=>none
   |none=>none
  |none=>none
 |_=>none
theorem zna {IT:IterP} (hIT:ITMono IT) {P:Program} {σ:St} {X:Cx} (hI:Inv IT σ X) {t tx ty e:TypeId} {i:TypeInfo} {z:Value} (hu:P.underlying t=some (.slice e))(hi:P.info? e=some i)(hz:i.zero=some z)(hsz:0<i.size)(hzs:z.cells.size=i.size)
 {base:Option Addr} {n cap m:Nat} {cs ds:List AV} {vs us:List Value} {u:Value} (hold: ∀w,w.heap=X.w.heap→(Builtin.firstCells i.size n (.slice base n cap)).run P w= .ok vs.toArray w) (hvl:vs.length=n*i.size) (hs:Src P i.size tx u m us X.w)
 (hr1:zbk IT X cs vs) (hr2:zbk IT X ds us) (h1: ∀v∈vs,v.oneCell'=true) (hg:cap<n+m) (hmax:n+m≤maxLen) (hb:(n+m)*i.bytes≤140737488355328):
 ∃r X',(Builtin.append_ #[t,tx] ty #[.slice base n cap,u]).run P X.w= .ok r X'.w∧Ext X X'∧Inv IT {σ with boxes:=σ.boxes++[(e,cs++ds)]} X'∧Rep IT X' (.bsl σ.boxes.length 0 (n+m) i.size false) r:=by
 have hml:((n+m:Nat):Int)≤9223372036854775807:=by unfold maxLen at hmax;omega
 have hrun:=run_append_grow_src (P:=P) X.w t tx ty e i z hu hi hz base n cap vs (hold _ rfl) u m us hs hg hml (growslice_fits hg hb)
 obtain⟨d1,d2⟩:=zjn hIT hI
 have hone: ∀v∈vs++us,v.oneCell'=true:=fun v hv=>(List.mem_append.1 hv).elim (h1 v) (hs.one v)
 obtain⟨X',x1,x2,x3,x4⟩:=z6j hIT d2 (t:=e) (Builtin.zeroCells z.cells (grownCap X.w (n+m) cap e-(n+m))).toList (zaw hIT d1 _ _ (zbn hr1 hr2)) hone
 have hge:=grownCap_ge X.w (n+m) cap e
 have hlen:((vs++us).toArray++Builtin.zeroCells z.cells (grownCap X.w (n+m) cap e-(n+m))).size=grownCap X.w (n+m) cap e*i.size:=by
  have:=size_zeroCells z.cells (grownCap X.w (n+m) cap e-(n+m))
  simp only[Array.size_append,List.size_toArray,List.length_append,this,hzs,hvl,hs.newsLen,←Nat.add_mul]
  congr 1;omega
 have hrow:(vs++us++(Builtin.zeroCells z.cells (grownCap X.w (n+m) cap e-(n+m))).toList).toArray=(vs++us).toArray++Builtin.zeroCells z.cells (grownCap X.w (n+m) cap e-(n+m)):=by
  apply Array.ext';simp
 refine⟨.slice (some ⟨X.w.heap.size,0,none⟩) (n+m) (grownCap X.w (n+m) cap e),X',?_,d1.trans x2,x3,?_⟩
 ·rw[x1,hrow];exact hrun
 ·obtain⟨b,hb1,hb2⟩: ∃b,X'.κ[σ.boxes.length]? =some b∧Value.pointer (some ⟨X.w.heap.size,0,none⟩)= .pointer (some ⟨b,0,none⟩):=x4
  have hb3:b=X.w.heap.size:=by simp at hb2;exact hb2.symm
  subst hb3
  show Bsl X' _ _ _ _ _ _
  refine⟨_,_,(vs++us).toArray++Builtin.zeroCells z.cells (grownCap X.w (n+m) cap e-(n+m)),e,hb1,rfl,hge,(fun h=>by cases h),?_,?_⟩
  ·rw[x1,hrow];exact zeq _ _ _ rfl
  ·rw[hlen];simp
theorem z3a {IT:IterP} (hIT:ITMono IT) {P:Program} {X:Cx} {σ σ':St} {t tx ty:TypeId} {x y a:AV} {v u:Value} (h:zov P σ t tx x y=some (a,σ'))(hx:Rep IT X x v)(hy:Rep IT X y u)(hI:Inv IT σ X):
 ∃r X',(Builtin.append_ #[t,tx] ty #[v,u]).run P X.w= .ok r X'.w∧Ext X X'∧Inv IT σ' X'∧Rep IT X' a r:=by
 unfold zov at h
 split at h<;>try cases h
 rename_i e hu
 split at h<;>try cases h
 rename_i i hi
 split at h<;>try cases h
 rename_i z hz
 split at h<;>try cases h
 rename_i m ds hsrc
 split at h<;>try cases h
 rename_i hc
 obtain⟨hsz,hzs,hm⟩:=hc
 obtain⟨us,hs,hr2⟩:=zvf hsrc hu hy hI
 split at h
 ·rename_i n cs
  split at h<;>cases h
  rename_i hc
  obtain⟨hl,hmax,hb⟩:=hc
  rw[Rep] at hx
  obtain⟨ad,cap,rfl,⟨hcap,hnil⟩,hc,rfl⟩:=hx
  rcases hc with rfl|⟨b,o,rfl,hat⟩
  ·have hn:cap=0:=by
    rcases Nat.eq_zero_or_pos cap with h|h
    ·exact h
    ·have:=Nat.mul_pos h hsz;simp at hl;omega
   subst hn
   exact zna hIT hI hu hi hz hsz hzs (vs:=[]) (fun w _=>by cases ad<;>simp[Builtin.firstCells,loadCells,loadCellsFrom]) (by simp) hs (by rw[zbk]) hr2 (by simp) (by omega) hmax hb
  ·obtain⟨vs,w1,w2,w3⟩:=zft hat
   have hvl:=zr w1
   exact zna hIT hI hu hi hz hsz hzs (fun w hw=>run_firstCells_some w i.size cap _ cap cap vs (by omega) (fun j v hj=>by
    rw[zfh]
    have h2:=w3 j v hj
    unfold World.cell? at h2⊢
    rw[hw];exact h2)) (by omega) hs w1 hr2 w2 (by omega) hmax hb
 ·rename_i s off n sz f
  split at h<;>try cases h
  rename_i bx hbx
  obtain⟨t0,cells⟩:=bx
  split at h<;>try cases h
  rename_i hc
  obtain⟨rfl,hmax,hb,hl⟩:=hc
  rw[Rep] at hx
  obtain⟨b,cap,cur,t1,hk,rfl,hcap,hful,hrow,hfit⟩:=hx
  obtain⟨vs0,w1,w2,w3⟩:=zob hI hk hbx off
  have hvl0:=zr w1
  simp only at w1 hvl0 hl
  have hvl:(vs0.take (n*i.size)).length=n*i.size:=by simp at hvl0⊢;omega
  have hold: ∀w:World,w.heap=X.w.heap→(Builtin.firstCells i.size n (.slice (some ⟨b,off,none⟩) n cap)).run P w= .ok (vs0.take (n*i.size)).toArray w:=fun w hw=>run_firstCells_some w i.size n _ n cap _ hvl (fun j v hj=>by
   rw[zfh]
   rw[List.getElem?_take] at hj
   split at hj
   ·have h2:=w3 j v hj
    unfold World.cell? at h2⊢
    rw[hw];exact h2
   ·cases hj)
  split at h
  ·rename_i hf
   cases h
   have:=hful hf
   subst this
   exact zna hIT hI hu hi hz hsz hzs hold hvl hs (zdz w1 _) hr2 (fun v hv=>w2 v (List.mem_of_mem_take hv)) (by omega) hmax hb
  ·split at h<;>cases h
   rename_i hc
   obtain⟨rfl,hnl,rfl,hn⟩:=hc
   simp only at hnl hbx
   by_cases hroom:n+m≤cap
   ·-- in zfr
    obtain⟨vs,zs,k1,k2,k3⟩:=hI.box s b t0 cells hk hbx
    have hkl:=zr k2
    rw[k1] at hrow
    simp only[Option.some.injEq,Obj.cells.injEq,and_true] at hrow
    obtain⟨rfl,rfl⟩:=hrow
    have hne:cells≠[]:=fun e=>by
     rw[e] at hnl
     have:=Nat.mul_pos hn hsz;simp at hnl;omega
    have hnews:=hs.newsLen
    have hmn:(n+m)*i.size≤(vs++zs).length:=by
     have:=Nat.mul_le_mul_right i.size hroom
     simp at hfit⊢;omega
    rw[Nat.add_mul] at hmn
    have hpos:vs.length=n*i.size:=by omega
    have hst:=run_storeCells_at P b (n*i.size) t0 us 0 (vs++zs).toArray X.w k1 (by simp at hmn⊢;omega) hs.one
    have hrow2:(vs++zs).toArray.toList.take (n*i.size+0)++us++(vs++zs).toArray.toList.drop (n*i.size+0+us.length)=vs++us++zs.drop us.length:=by
     simp only[Nat.add_zero]
     rw[←hpos,List.take_left',List.drop_append]
     ·simp
     ·rfl
    rw[hrow2] at hst
    have hrun:(Builtin.append_ #[t,tx] ty #[.slice (some ⟨b,0,none⟩) n cap,u]).run P X.w= .ok (.slice (some ⟨b,0,none⟩) (n+m) cap) (X.w.setRow b (vs++us++zs.drop us.length).toArray):=by
     rcases hs.kind with⟨e',hk'⟩|hk'<;>simp[Builtin.append_,run_underlying hu,run_underlying hk',sizeOf,typeInfo,program,Sem.run,hi,hs.len,hroom,hs.cells,Addr.add_lit,hst]
    have hdead: ∀s':Nat,X.κ[s']? =some b→s'≠s→ ∃t2,σ.boxes[s']? =some (t2,[]):=fun s' h2 h3=>by
     rcases hI.κnd s' s b h2 hk h3 with h4|⟨t2,h5⟩
     ·exact h4
     ·rw[hbx] at h5;cases h5;exact absurd rfl hne
    have hnf:=hI.κF s b t0 cells hk hbx hne
    have hlen2:(vs++us++zs.drop us.length).length=(vs++zs).length:=by simp at hmn⊢;omega
    obtain⟨e1,e2⟩:=zmt hIT hI (cs':=[]) (vs':=[]) (zs:=vs++us++zs.drop us.length) hk hbx hne (fun cur t f hc=>by rw[k1] at hc;cases hc;rw[List.nil_append,hlen2];simp) (by rw[zbk]) (by simp)
    rw[List.nil_append] at e1 e2
    have hs':s<σ.boxes.length:=(List.getElem?_eq_some_iff.1 hbx).1
    obtain⟨X',x1,x2,x3,x4⟩:=zzu hIT e2 (s:=s) (b:=b) (t:=t0) (cs:=cells++ds) (vs:=vs++us) (zs:=zs.drop us.length) hk (fun s' h2=>by
     show ∃t2,(σ.boxes.set s (t0,[]))[s']? =some (t2,[])
     by_cases e:s=s'
     ·subst e;exact⟨t0,by rw[List.getElem?_set_self hs']⟩
     ·rw[List.getElem?_set_ne e];exact hdead s' h2 (Ne.symm e)) (setRow_heap _ _ _ _ _ _ k1)
     (zaw hIT e1 _ _ (zbn k2 hr2)) (fun v hv=>(List.mem_append.1 hv).elim (k3 v) (hs.one v)) hnf
    refine⟨_,X',by rw[x1];exact hrun,e1.trans x2,x3,?_⟩
    rw[Rep]
    have hx4:X'.κ[σ.boxes.length]? =some b:=by
     have:=x4
     simpa using this
    refine⟨b,cap,(vs++us++zs.drop us.length).toArray,t0,hx4,rfl,hroom,(fun h=>by cases h),by rw[x1];exact setRow_heap _ _ _ _ _ _ k1,?_⟩
    simp only[List.size_toArray,hlen2]
    simpa using hfit
   ·have hK:=zrm hI hbx
    have hdrop:(cells.drop 0)=cells:=rfl
    rw[List.drop_zero] at w1
    have htake:vs0.take (n*i.size)=vs0:=by
     apply List.take_of_length_le
     simp at hvl0;omega
    rw[htake] at hold hvl
    have:=zna hIT hK (ty:=ty) hu hi hz hsz hzs hold hvl hs w1 hr2 w2 (by omega) hmax hb
    simpa using this
 ·cases h
def z8j (P:Program)(σ:St)(t tx:TypeId)(x y:AV):Option (AV×St):=
 match P.underlying t with
 | some (.slice e)=>match P.info? e with
  | some i=>match i.zero with
   | some z=>match z8z P σ i.size t tx y with
    | some (m,ds)=>match x with
     | .bsl s off n sz f=>
      if m=0 then some (.bsl s off n sz f,σ)
      else match σ.boxes[s]? with
       | some bx=>
        if sz=i.size∧0<i.size∧z.cells.size=i.size∧m≤maxLen∧m*i.bytes≤140737488355328∧off=0∧n=0∧bx.1=e∧0<bx.2.length∧f=false then
         some (.bsl σ.boxes.length 0 m sz false,{σ with boxes:=σ.boxes.set s (e,[])++[(e,ds)]})
        else none
       |none=>none
     |_=>none
    |none=>none
   |none=>none
  |none=>none
 |_=>none
theorem z2h {IT:IterP} (hIT:ITMono IT) {P:Program} {X:Cx} {σ σ':St} {t tx ty:TypeId} {x y a:AV} {v u:Value} (h:z8j P σ t tx x y=some (a,σ'))(hx:Rep IT X x v)(hy:Rep IT X y u)(hI:Inv IT σ X):
 ∃r X',(Builtin.append_ #[t,tx] ty #[v,u]).run P X.w= .ok r X'.w∧Ext X X'∧Inv IT σ' X'∧Rep IT X' a r:=by
 unfold z8j at h
 split at h<;>try cases h
 rename_i e hu
 split at h<;>try cases h
 rename_i i hi
 split at h<;>try cases h
 rename_i z hz
 split at h<;>try cases h
 rename_i m ds hsrc
 obtain⟨us,hs,hr2⟩:=zvf hsrc hu hy hI
 have hnews:=hs.newsLen
 split at h<;>try cases h
 rename_i s off n sz f
 have hx0:=hx
 rw[Rep] at hx
 obtain⟨b,cap,cur,t1,hk,rfl,hcap,hful,hrow,hfit⟩:=hx
 split at h
 ·rename_i hm
  subst hm
  cases h
  have hus:us=[]:=List.length_eq_zero_iff.1 (by simpa using hnews)
  subst hus
  refine⟨.slice (some ⟨b,off,none⟩) n cap,X,?_,Ext.refl X,hI,hx0⟩
  have hroom:n+0≤cap:=hcap
  rcases hs.kind with⟨e',hk'⟩|hk'<;>simp[Builtin.append_,run_underlying hu,run_underlying hk',sizeOf,typeInfo,program,Sem.run,hi,hs.len,hcap,hs.cells,storeCells]
 ·rename_i hm
  split at h<;>try cases h
  rename_i bx hbx
  obtain⟨t0,cells⟩:=bx
  split at h<;>cases h
  rename_i hc
  obtain⟨rfl,hsz,hzs,hmax,hb,rfl,rfl,rfl,hne,rfl⟩:=hc
  simp only at hne hbx
  by_cases hroom:m≤cap
  ·obtain⟨vs,zs,k1,k2,k3⟩:=hI.box s b t0 cells hk hbx
   rw[k1] at hrow
   simp only[Option.some.injEq,Obj.cells.injEq,and_true] at hrow
   obtain⟨rfl,rfl⟩:=hrow
   have hne':cells≠[]:=fun e=>by rw[e] at hne;simp at hne
   have hmn:us.length≤(vs++zs).length:=by
    have:=Nat.mul_le_mul_right i.size hroom
    simp at hfit⊢;omega
   have hst:=run_storeCells_at P b 0 t0 us 0 (vs++zs).toArray X.w k1 (by simp at hmn⊢;omega) hs.one
   have hrow2:(vs++zs).toArray.toList.take (0+0)++us++(vs++zs).toArray.toList.drop (0+0+us.length)=us++(vs++zs).drop us.length:=by simp
   rw[hrow2] at hst
   have hrun:(Builtin.append_ #[t,tx] ty #[.slice (some ⟨b,0,none⟩) 0 cap,u]).run P X.w= .ok (.slice (some ⟨b,0,none⟩) m cap) (X.w.setRow b (us++(vs++zs).drop us.length).toArray):=by
    have hroom':0+m≤cap:=by omega
    rcases hs.kind with⟨e',hk'⟩|hk'<;>simp[Builtin.append_,run_underlying hu,run_underlying hk',sizeOf,typeInfo,program,Sem.run,hi,hs.len,hroom,hs.cells,Addr.add_lit,hst]
   have hdead: ∀s':Nat,X.κ[s']? =some b→s'≠s→ ∃t2,σ.boxes[s']? =some (t2,[]):=fun s' h2 h3=>by
    rcases hI.κnd s' s b h2 hk h3 with h4|⟨t2,h5⟩
    ·exact h4
    ·rw[hbx] at h5;cases h5;exact absurd rfl hne'
   have hnf:=hI.κF s b t0 cells hk hbx hne'
   have hlen2:(us++(vs++zs).drop us.length).length=(vs++zs).length:=by
    rw[List.length_append,List.length_drop];omega
   obtain⟨e1,e2⟩:=zmt hIT hI (cs':=[]) (vs':=[]) (zs:=us++(vs++zs).drop us.length) hk hbx hne' (fun cur t f hc=>by rw[k1] at hc;cases hc;rw[List.nil_append,hlen2];simp) (by rw[zbk]) (by simp)
   rw[List.nil_append] at e1 e2
   have hs':s<σ.boxes.length:=(List.getElem?_eq_some_iff.1 hbx).1
   obtain⟨X',x1,x2,x3,x4⟩:=zzu hIT e2 (s:=s) (b:=b) (t:=t0) (cs:=ds) (vs:=us) (zs:=(vs++zs).drop us.length) hk (fun s' h2=>by
    show ∃t2,(σ.boxes.set s (t0,[]))[s']? =some (t2,[])
    by_cases e:s=s'
    ·subst e;exact⟨t0,by rw[List.getElem?_set_self hs']⟩
    ·rw[List.getElem?_set_ne e];exact hdead s' h2 (Ne.symm e)) (setRow_heap _ _ _ _ _ _ k1)
    (zaw hIT e1 _ _ hr2) (fun v hv=>hs.one v hv) hnf
   refine⟨_,X',by rw[x1];exact hrun,e1.trans x2,x3,?_⟩
   rw[Rep]
   have hx4:X'.κ[σ.boxes.length]? =some b:=by
    have:=x4
    simpa using this
   refine⟨b,cap,(us++(vs++zs).drop us.length).toArray,t0,hx4,rfl,hroom,(fun h=>by cases h),by rw[x1];exact setRow_heap _ _ _ _ _ _ k1,?_⟩
   simp only[List.size_toArray,hlen2]
   simpa using hfit
  ·have hK:=zrm hI hbx
   have:=zna hIT hK (ty:=ty) (base:=some ⟨b,0,none⟩) (n:=0) (cap:=cap) (cs:=[]) (vs:=[]) hu hi hz hsz hzs (fun w _=>run_firstCells_some w i.size 0 _ 0 cap [] (by simp) (by simp)) (by simp) hs (by rw[zbk]) hr2 (by simp) (by omega) (by omega) (by simpa using hb)
   simpa using this
def qeu (P:Program)(σ:St)(t:TypeId):AV→AV→Option (AV×St)
 | .raw (.int _ l),.raw (.int _ c)=>match P.underlying t with
  | some (.slice e)=>match P.info? e with
   | some i=>match i.zero with
    | some z=>if l=c∧0≤l∧l≤9223372036854775807∧(i.bytes:Int)*l≤281474976710656∧z.cells.toList.all (·.oneCell')=true∧z.cells.size=1∧i.size=1 then
     some (.bsl σ.boxes.length 0 l.toNat 1 true,{σ with boxes:=σ.boxes++[(e,List.replicate l.toNat (zih (z.cells[0]!)))]}) else none
    |none=>none
   |none=>none
  |_=>none
 |_,_=>none
theorem z3p {IT:IterP} (hIT:ITMono IT) {P:Program} {X:Cx} {σ σ':St} {t:TypeId} {x y a:AV} {v u:Value} (h:qeu P σ t x y=some (a,σ'))(hx:Rep IT X x v)(hy:Rep IT X y u)(hI:Inv IT σ X):
 ∃r X',(Instr.makeSlice t v u).run P X.w= .ok r X'.w∧Ext X X'∧Inv IT σ' X'∧Rep IT X' a r:=by
 unfold qeu at h
 split at h<;>try cases h
 rename_i k1 l k2 c
 split at h<;>try cases h
 rename_i e hu
 split at h<;>try cases h
 rename_i i hi
 split at h<;>try cases h
 rename_i z hz
 split at h<;>cases h
 rename_i hc
 obtain⟨rfl,h0,h63,hb,h1,hzs,his⟩:=hc
 rw[Rep] at hx hy
 subst hx hy
 have hrun:=run_make (P:=P) X.w t e i z hu hi hz k1 k2 l l h0 (Int.le_refl _) hb h63
 have hcells:madeCells z.cells (l.toNat*i.size)=(List.replicate l.toNat (z.cells[0]!)).toArray:=by
  apply Array.ext'
  rw[his,Nat.mul_one]
  simp only[madeCells,hzs,Nat.mod_one]
  simp
  apply List.ext_getElem?
  intro j
  simp only[List.getElem?_map,List.getElem?_replicate,List.getElem?_range']
  by_cases hj:j<l.toNat<;>simp[hj]
 have hz0:(z.cells[0]!).oneCell'=true:=by
  rw[getElem!_pos z.cells 0 (by omega)]
  exact List.all_eq_true.1 h1 _ (by simp)
 obtain⟨X',x1,x2,x3,x4⟩:=zso hIT hI (t:=e) (cs:=List.replicate l.toNat (zih (z.cells[0]!))) (vs:=List.replicate l.toNat (z.cells[0]!)) (by
  rw[←List.map_replicate];exact zyd _) (fun v hv=>by rw[List.eq_of_mem_replicate hv];exact hz0)
 refine⟨_,X',(by rw[x1,←hcells];exact hrun),x2,x3,?_⟩
 ·obtain⟨b,hb1,hb2⟩: ∃b,X'.κ[σ.boxes.length]? =some b∧Value.pointer (some ⟨X.w.heap.size,0,none⟩)= .pointer (some ⟨b,0,none⟩):=x4
  have hb3:b=X.w.heap.size:=by simp at hb2;exact hb2.symm
  subst hb3
  show Bsl X' _ _ _ _ _ _
  refine⟨_,_,(List.replicate l.toNat (z.cells[0]!)).toArray,e,hb1,rfl,Nat.le_refl _,fun _=>rfl,?_,?_⟩
  ·rw[x1];exact zeq _ _ _ rfl
  ·simp
end Go.Ab
