import Derived.Deep.AppendSrc
import Derived.Laws.MakeOwn
import Derived.Test.YtnoccnalocdldaaDoorZdH2
import Derived.Laws.CopyRow
set_option linter.all false
open Nat (le_refl lt_or_ge)
open List (length_append getElem?_append_left mem_append all_eq_true nil_append getElem?_set_ne getElem?_set_self getElem?_take mem_of_mem_take getElem?_map mem_map length_take append_assoc)
namespace Go.Ab
open Go Go.RowKit Go.Fwd
variable {IT:IterP} {X:Cx} {U:St}
def z9x (P:Program)(U:St)(sz:Nat)(t tx:TypeId):AV->Option (Nat×List AV)
 | .list m ds _=>if t=tx/\ ds.length=m*sz/\ 0<sz then some (m,ds) else none
 | .bsl s off m sz' _=>match U.boxes[s]? with
  |some bx=>if t=tx/\ sz'=sz/\ off+m*sz<=bx.2.length then some (m,(bx.2.drop off).take (m*sz)) else none
  |none=>none
 | .raw (.string b)=>match P.underlying tx with|some .string=>if sz=1 then some (b.size,(byteCells b).map .raw) else none|_=>none
 |_=>none
theorem zjb: ∀l:List Value,zbr IT X (l.map .raw) l
 |[]=>by simp[zbr]
 |v::l=>by rw[List.map_cons,zbr];exact⟨v,l,rfl,by rw[Rep],zjb l⟩
theorem zva {P:Program} {sz m:Nat} {t tx e:TypeId} {y:AV} {u:Value} {ds:List AV} (h:z9x P U sz t tx y=some (m,ds))(hu:P.underlying t=some (.slice e))(hy:Rep IT X y u)(hI:Inv IT U X):
 ∃us,Src P sz tx u m us X.w/\ zbr IT X ds us:=by
 unfold z9x at h;split at h
 ·rename_i m' ds' st;split at h<;>cases h
  rename_i hc;obtain⟨rfl,hl,hp⟩:=hc;rw[Rep] at hy;obtain⟨ad,cap,rfl,⟨hcap,hnil⟩,hc,_⟩:=hy;rcases hc with rfl|⟨b,o,rfl,hat⟩
  ·have hm:m=0:=by
    rcases Nat.eq_zero_or_pos m with h|h
    ·exact h
    ·have:=Nat.mul_pos h hp;simp at hl;omega
   subst hm;refine⟨[],?_,by rw[zbr]⟩;cases ad with
   |none=>exact Src.ofNil X.w hu cap
   |some a=>exact Src.ofSlice X.w hu a 0 cap [] (by simp) (by simp) (by simp)
  ·obtain⟨us,u1,u2,u3⟩:=zga hat
   have hul:=zq u1;exact⟨us,Src.ofSlice X.w hu ⟨b,o,none⟩ m cap us (by omega) (fun j w hj=>by rw[zfj];exact u3 j w hj) u2,u1⟩
 ·rename_i s off m' sz' f;split at h<;>try cases h
  rename_i bx hbx;split at h<;>cases h
  rename_i hc;obtain⟨rfl,rfl,hl⟩:=hc;rw[Rep] at hy;obtain⟨b,cap,cur,t0,hk,rfl,hcap,hful,hrow,hfit⟩:=hy;obtain⟨us,u1,u2,u3⟩:=znv hI hk hbx off;refine⟨us.take (m*sz'),?_,zef u1 _⟩;have hul:=zq u1;refine Src.ofSlice X.w hu ⟨b,off,none⟩ m cap _ (by simp at hul⊢;omega) (fun j w hj=> ?_) (fun v hv=>u2 v (mem_of_mem_take hv));rw[zfj];rw[getElem?_take] at hj;split at hj
  ·exact u3 j w hj
  ·cases hj
 ·rename_i b;split at h<;>try cases h
  rename_i hs;split at h<;>cases h
  rename_i h1;subst h1;rw[Rep] at hy;subst hy;exact⟨byteCells b,Src.ofString X.w hs b,zjb _⟩
 ·cases h
theorem zke (hIT:ITMono IT) {U:St} {X:Cx} (hI:Inv IT U X):Ext X {X with w:=X.w.drew}/\ Inv IT U {X with w:=X.w.drew}:=by
 have hE:Ext X {X with w:=X.w.drew}:={
  os:=rfl,tape:=rfl,output:=rfl,size:=le_refl _,drawn:=Nat.le_succ _
  F:=fun _ _ h=>h
  cell:=fun _ _ _=>rfl
  κ:=fun _ _ h=>h
  lens:=fun s L h=>⟨L,h,le_refl _,fun _=>rfl⟩
  blk:=fun _ _ _ cur _ _ h=>⟨cur,h,rfl⟩
  szs:=Szs.heap rfl
  frame:=fun _ _ _ _=>rfl
  κnew:=fun _ h=> .inl h
  βnew:=fun r h=> .inl ⟨r,h,rfl⟩
  O:=rfl
  C:=rfl
  Fnew:=fun _ _ h=> .inl h}
 exact⟨hE,{hI with
  gv:=qdj hIT hE hI.gv
  lens:=hI.lens,elems:=hI.elems
  box:=fun s b t cs hs hb=>by
   obtain⟨vs,zs,u1,u2,u3⟩:=hI.box s b t cs hs hb;exact⟨vs,zs,u1,zaw hIT hE _ _ u2,u3⟩
  row:=hI.row
  Ok:=hI.Ok
  Fcell:=hI.Fcell}⟩
theorem zrn (hI:Inv IT U X) {s:Nat} {t:TypeId} {cs:List AV} (hb:U.boxes[s]? =some (t,cs)):Inv IT {U with boxes:=U.boxes.set s (t,[])} X:=by
 have hs:s<U.boxes.length:=(List.getElem?_eq_some_iff.1 hb).1;have put: ∀s':Nat,(∃t0:TypeId,U.boxes[s']? =some (t0,[]))-> ∃t0:TypeId,(U.boxes.set s (t,[]))[s']? =some (t0,[]):=fun s' ⟨t0,h⟩=>by
  by_cases e:s=s'
  ·subst e;exact⟨t,by rw[getElem?_set_self hs]⟩
  ·exact⟨t0,by rw[getElem?_set_ne e];exact h⟩
 exact {hI with
  lens:=hI.lens,elems:=hI.elems
  κlen:=by simpa using hI.κlen
  κnd:=fun s1 s2 b h1 h2 h3=>(hI.κnd s1 s2 b h1 h2 h3).imp (put s1) (put s2)
  box:=fun s' b t' cs' hs' hb'=>by
   have hb':(U.boxes.set s (t,[]))[s']? =some (t',cs'):=hb';by_cases e:s=s'
   ·subst e;rw[getElem?_set_self hs] at hb';cases hb';obtain⟨vs,zs,u1,u2,u3⟩:=hI.box s b t cs hs' hb;exact⟨[],vs++zs,u1,by rw[zbr],by simp⟩
   ·rw[getElem?_set_ne e] at hb';exact hI.box s' b t' cs' hs' hb'
  κF :=fun s' b t' cs' hs' hb' hc=>by
   have hb':(U.boxes.set s (t,[]))[s']? =some (t',cs'):=hb';by_cases e:s=s'
   ·subst e;rw[getElem?_set_self hs] at hb';cases hb';exact absurd rfl hc
   ·rw[getElem?_set_ne e] at hb';exact hI.κF s' b t' cs' hs' hb' hc
  row:=hI.row
  Ok:=hI.Ok
  Fcell:=hI.Fcell}
theorem z0j (hIT:ITMono IT) {U:St} {X:Cx} (hI:Inv IT U X) {s b:Nat} {t:TypeId} {cs:List AV} {vs zs:List Value} (hs:X.κ[s]? =some b)(hdead: ∀s':Nat,X.κ[s']? =some b-> ∃t0,U.boxes[s']? =some (t0,[]))
 (hrow:X.w.heap[b]? =some (.cells (vs++zs).toArray t (0,0))) (hr:zbr IT X cs vs) (h1: ∀v∈vs,v.oneCell'=true) (hF: ∀o,¬X.F b o):
 ∃X',X'.w=X.w/\ Ext X X'/\ Inv IT {U with boxes:=U.boxes++[(t,cs)]} X'/\ X'.κ[U.boxes.length]? =some b:=by
 have hbm:b∈X.κ:=List.mem_of_getElem? hs
 have hE:Ext X {X with κ:=X.κ++[b]}:={
  os:=rfl,tape:=rfl,output:=rfl,size:=le_refl _,drawn:=(by first|exact le_refl _|exact Nat.le_succ _)
  F:=fun _ _ h=>h
  cell:=fun _ _ _=>rfl
  κ :=fun s b' h=>by
   show(X.κ++[b])[s]? =some b'
   rw[getElem?_append_left (List.getElem?_eq_some_iff.1 h).1];exact h
  lens:=fun s L h=>⟨L,h,le_refl _,fun _=>rfl⟩
  blk:=fun _ _ _ cur _ _ h=>⟨cur,h,rfl⟩
  szs:=Szs.heap rfl
  frame:=fun _ _ _ _=>rfl
  κnew:=fun b' h=>by
   rcases mem_append.1 h with h|h
   ·exact .inl h
   ·simp at h;subst h;exact .inl hbm
  βnew:=fun r h=> .inl ⟨r,h,rfl⟩
  O:=rfl
  C:=rfl
  Fnew:=fun _ _ h=> .inl h}
 have hlen:=hI.κlen;have old: ∀(s' b':Nat),(X.κ++[b])[s']? =some b'->(X.κ[s']? =some b'/\ s'<U.boxes.length) \/(s'=U.boxes.length/\ b'=b):=fun s' b' h=>by
  rcases lt_or_ge s' X.κ.length with hlt|hge
  ·rw[getElem?_append_left hlt] at h;exact .inl ⟨h,by omega⟩
  ·have:=(List.getElem?_eq_some_iff.1 h).1;simp at this;have e:s'=X.κ.length:=by omega
   subst e;simp at h;exact .inr ⟨hlen,h.symm⟩
 have up: ∀s':Nat,s'<U.boxes.length->(∃t0:TypeId,U.boxes[s']? =some (t0,[]))-> ∃t':TypeId,(U.boxes++[(t,cs)])[s']? =some (t',[]):=fun s' hs ⟨t0,h⟩=>⟨t0,by rw[getElem?_append_left hs];exact h⟩;have boxOld: ∀(s':Nat) (t':TypeId) (c:List AV),s'<U.boxes.length->(U.boxes++[(t,cs)])[s']? =some (t',c)->U.boxes[s']? =some (t',c):=fun s' t' c hs h=>by rwa[getElem?_append_left hs] at h
 have boxNew: ∀(t':TypeId) (c:List AV),(U.boxes++[(t,cs)])[U.boxes.length]? =some (t',c)->t'=t/\ c=cs:=fun t' c h=>by simp at h;exact⟨h.1.symm,h.2.symm⟩
 refine⟨{X with κ:=X.κ++[b]},rfl,hE,{hI with
  gv:=hI.gv
  lens:=hI.lens,elems:=hI.elems
  κlen:=by simp[hlen]
  κnd:=fun s1 s2 b' h2 h3 h4=> ?_
  box:=fun s' b' t' c hs' hb'=> ?_
  κF:=fun s' b' t' c hs' hb' hc o hf=> ?_
  βκ:=fun r hr' hm=> ?_
  row:=hI.row
  Ok:=fun b' ho=> ?_
  Fcell:=hI.Fcell},by rw[<-hlen];simp⟩
 ·rcases old s1 b' h2 with⟨k2,l2⟩|⟨k2,l2⟩
  ·rcases old s2 b' h3 with⟨k3,l3⟩|⟨k3,l3⟩
   ·exact(hI.κnd s1 s2 b' k2 k3 h4).imp (up s1 l2) (up s2 l3)
   ·subst l3;exact .inl (up s1 l2 (hdead s1 k2))
  ·rcases old s2 b' h3 with⟨k3,l3⟩|⟨k3,l3⟩
   ·subst l2;exact .inr (up s2 l3 (hdead s2 k3))
   ·omega
 ·rcases old s' b' hs' with⟨k2,l2⟩|⟨k2,l2⟩
  ·obtain⟨us,zs',u1,u2,u3⟩:=hI.box s' b' t' c k2 (boxOld s' t' c l2 hb');exact⟨us,zs',u1,zaw hIT hE _ _ u2,u3⟩
  ·subst k2 l2;obtain⟨rfl,rfl⟩:=boxNew t' c hb';exact⟨vs,zs,hrow,zaw hIT hE _ _ hr,h1⟩
 ·rcases old s' b' hs' with⟨k2,l2⟩|⟨k2,l2⟩
  ·exact hI.κF s' b' t' c k2 (boxOld s' t' c l2 hb') hc o hf
  ·subst l2;exact hF o hf
 ·rcases mem_append.1 hm with hm|hm
  ·exact hI.βκ r hr' hm
  ·simp at hm;exact hI.βκ r hr' (hm▸hbm)
 ·obtain⟨h0,h2,h3,h4⟩:=hI.Ok b' ho;refine⟨h0,fun hm=> ?_,h3,h4⟩;rcases mem_append.1 hm with hm|hm
  ·exact h2 hm
  ·simp at hm;exact h2 (hm▸hbm)
theorem qec (hIT:ITMono IT) {U:St} {X:Cx} (hI:Inv IT U X) {s:Nat} {t:TypeId} {cs:List AV} (hb:U.boxes[s]? =some (t,cs)):
 ∃X',X'.w=X.w/\ X'.F=X.F/\ X'.β=X.β/\ X'.lens=X.lens/\ X'.O=X.O/\ X'.C=X.C/\ (∃b∈X.κ,X'.κ=X.κ++[b])/\ Ext X X'/\ Inv IT {U with boxes:=U.boxes++[(t,[])]} X':=by
 have hlen:=hI.κlen;have hs:s<U.boxes.length:=(List.getElem?_eq_some_iff.1 hb).1;obtain⟨b,hκ⟩: ∃b,X.κ[s]? =some b:=⟨X.κ[s]'(by omega),List.getElem?_eq_getElem _⟩;have hbm:=List.mem_of_getElem? hκ;obtain⟨us,zs,u1,u2,u3⟩:=hI.box s b t cs hκ hb
 have hE:Ext X {X with κ:=X.κ++[b]}:={
  os:=rfl,tape:=rfl,output:=rfl,size:=le_refl _,drawn:=(by first|exact le_refl _|exact Nat.le_succ _)
  F:=fun _ _ h=>h
  cell:=fun _ _ _=>rfl
  κ :=fun s b' h=>by
   show(X.κ++[b])[s]? =some b'
   rw[getElem?_append_left (List.getElem?_eq_some_iff.1 h).1];exact h
  lens:=fun s L h=>⟨L,h,le_refl _,fun _=>rfl⟩
  blk:=fun _ _ _ cur _ _ h=>⟨cur,h,rfl⟩
  szs:=Szs.heap rfl
  frame:=fun _ _ _ _=>rfl
  κnew:=fun b' h=>by
   rcases mem_append.1 h with h|h
   ·exact .inl h
   ·simp at h;subst h;exact .inl hbm
  βnew:=fun r h=> .inl ⟨r,h,rfl⟩
  O:=rfl
  C:=rfl
  Fnew:=fun _ _ h=> .inl h}
 have old: ∀(s' b':Nat),(X.κ++[b])[s']? =some b'->(X.κ[s']? =some b'/\ s'<U.boxes.length) \/(s'=U.boxes.length/\ b'=b):=fun s' b' h=>by
  rcases lt_or_ge s' X.κ.length with hlt|hge
  ·rw[getElem?_append_left hlt] at h;exact .inl ⟨h,by omega⟩
  ·have:=(List.getElem?_eq_some_iff.1 h).1;simp at this;have e:s'=X.κ.length:=by omega
   subst e;simp at h;exact .inr ⟨hlen,h.symm⟩
 have up: ∀s':Nat,s'<U.boxes.length->(∃t0:TypeId,U.boxes[s']? =some (t0,[]))-> ∃t':TypeId,(U.boxes++[(t,[])])[s']? =some (t',[]):=fun s' hs ⟨t0,h⟩=>⟨t0,by rw[getElem?_append_left hs];exact h⟩;have boxOld: ∀(s':Nat) (t':TypeId) (c:List AV),s'<U.boxes.length->(U.boxes++[(t,[])])[s']? =some (t',c)->U.boxes[s']? =some (t',c):=fun s' t' c hs h=>by rwa[getElem?_append_left hs] at h
 have boxNew:(U.boxes++[(t,([]:List AV))])[U.boxes.length]? =some (t,[]):=by simp
 refine⟨{X with κ:=X.κ++[b]},rfl,rfl,rfl,rfl,rfl,rfl,⟨b,hbm,rfl⟩,hE,{hI with
  gv:=hI.gv
  lens:=hI.lens,elems:=hI.elems
  κlen:=by simp[hlen]
  κnd:=fun s1 s2 b' h2 h3 h4=> ?_
  box:=fun s' b' t' c hs' hb'=> ?_
  κF:=fun s' b' t' c hs' hb' hc o hf=> ?_
  βκ:=fun r hr' hm=> ?_
  row:=hI.row
  Ok:=fun b' ho=> ?_
  Fcell:=hI.Fcell}⟩
 ·rcases old s1 b' h2 with⟨k2,l2⟩|⟨k2,l2⟩
  ·rcases old s2 b' h3 with⟨k3,l3⟩|⟨k3,l3⟩
   ·exact(hI.κnd s1 s2 b' k2 k3 h4).imp (up s1 l2) (up s2 l3)
   ·exact .inr ⟨t,by rw[k3];exact boxNew⟩
  ·exact .inl ⟨t,by rw[k2];exact boxNew⟩
 ·rcases old s' b' hs' with⟨k2,l2⟩|⟨k2,l2⟩
  ·obtain⟨us,zs',u1,u2,u3⟩:=hI.box s' b' t' c k2 (boxOld s' t' c l2 hb');exact⟨us,zs',u1,zaw hIT hE _ _ u2,u3⟩
  ·subst k2 l2;have:(t,([]:List AV))=(t',c):=Option.some.inj (boxNew.symm.trans hb');cases this;exact⟨[],us++zs,u1,by rw[zbr],by simp⟩
 ·rcases old s' b' hs' with⟨k2,l2⟩|⟨k2,l2⟩
  ·exact hI.κF s' b' t' c k2 (boxOld s' t' c l2 hb') hc o hf
  ·subst k2;have:(t,([]:List AV))=(t',c):=Option.some.inj (boxNew.symm.trans hb');cases this;exact hc rfl
 ·rcases mem_append.1 hm with hm|hm
  ·exact hI.βκ r hr' hm
  ·simp at hm;exact hI.βκ r hr' (hm▸hbm)
 ·obtain⟨h0,h2,h3,h4⟩:=hI.Ok b' ho;refine⟨h0,fun hm=> ?_,h3,h4⟩;rcases mem_append.1 hm with hm|hm
  ·exact h2 hm
  ·simp at hm;exact h2 (hm▸hbm)
def zpv (P:Program)(U:St)(t tx:TypeId)(x y:AV):Option (AV×St):=
 match P.underlying t with
 | some (.slice e)=>match P.info? e with
  | some i=>match i.zero with
   | some z=>match z9x P U i.size t tx y with
    | some (m,ds)=>
     if 0 <i.size/\ z.cells.size=i.size/\ 0<m then
      match x with
      | .list n cs .full=>
       if cs.length=n*i.size/\ n+m<=maxLen/\ (n+m)*i.bytes<=140737488355328 then some (.bsl U.boxes.length 0 (n+m) i.size false,{U with boxes:=U.boxes++[(e,cs++ds)]}) else none
      | .bsl s off n sz f=>match U.boxes[s]? with
       | some bx=>
        if sz=i.size/\ n+m<=maxLen/\ (n+m)*i.bytes<=140737488355328/\ off+n*sz<=bx.2.length then
         (if f=true then some (.bsl U.boxes.length 0 (n+m) sz false,{U with boxes:=U.boxes++[(e,(bx.2.drop off).take (n*sz)++ds)]})
         else if off=0/\ n*sz=bx.2.length/\ bx.1=e/\ 0<n then some (.bsl U.boxes.length 0 (n+m) sz false,{U with boxes:=U.boxes.set s (e,[])++[(e,bx.2++ds)]})
         else none)
        else none
       |none=>none
      |_=>none
     else none
    |none=>none
   |none=>none
  |none=>none
 |_=>none
theorem zon (hIT:ITMono IT) {P:Program} {U:St} {X:Cx} (hI:Inv IT U X) {t tx ty e:TypeId} {i:TypeInfo} {z:Value} (hu:P.underlying t=some (.slice e))(hi:P.info? e=some i)(hz:i.zero=some z)(hsz:0<i.size)(hzs:z.cells.size=i.size)
 {base:Option Addr} {n cap m:Nat} {cs ds:List AV} {vs us:List Value} {u:Value} (hold: ∀w,w.heap=X.w.heap->(Builtin.firstCells i.size n (.slice base n cap)).run P w= .ok vs.toArray w) (hvl:vs.length=n*i.size) (hs:Src P i.size tx u m us X.w)
 (hr1:zbr IT X cs vs) (hr2:zbr IT X ds us) (h1: ∀v∈vs,v.oneCell'=true) (hg:cap<n+m) (hmax:n+m<=maxLen) (hb:(n+m)*i.bytes<=140737488355328):
 ∃r X',(Builtin.append_ #[t,tx] ty #[.slice base n cap,u]).run P X.w= .ok r X'.w/\ Ext X X'/\ Inv IT {U with boxes:=U.boxes++[(e,cs++ds)]} X'/\ Rep IT X' (.bsl U.boxes.length 0 (n+m) i.size false) r:=by
 have hml:((n+m:Nat):Int)<=9223372036854775807:=by unfold maxLen at hmax;omega
 have hrun:=run_append_grow_src (P:=P) X.w t tx ty e i z hu hi hz base n cap vs (hold _ rfl) u m us hs hg hml (growslice_fits hg hb);obtain⟨d1,d2⟩:=zke hIT hI;have hone: ∀v∈vs++us,v.oneCell'=true:=fun v hv=>(mem_append.1 hv).elim (h1 v) (hs.one v);obtain⟨X',x1,x2,x3,x4⟩:=z4x hIT d2 (t:=e) (Builtin.zeroCells z.cells (grownCap X.w (n+m) cap e-(n+m))).toList (zaw hIT d1 _ _ (zbp hr1 hr2)) hone;have hge:=grownCap_ge X.w (n+m) cap e;have hlen:((vs++us).toArray++Builtin.zeroCells z.cells (grownCap X.w (n+m) cap e-(n+m))).size=grownCap X.w (n+m) cap e*i.size:=by
  have:=size_zeroCells z.cells (grownCap X.w (n+m) cap e-(n+m));simp only[Array.size_append,List.size_toArray,length_append,this,hzs,hvl,hs.newsLen, <-Nat.add_mul];congr 1;omega
 have hrow:(vs++us++(Builtin.zeroCells z.cells (grownCap X.w (n+m) cap e-(n+m))).toList).toArray=(vs++us).toArray++Builtin.zeroCells z.cells (grownCap X.w (n+m) cap e-(n+m)):=by
  apply Array.ext';simp
 refine⟨.slice (some ⟨X.w.heap.size,0,none⟩) (n+m) (grownCap X.w (n+m) cap e),X',?_,d1.trans x2,x3,?_⟩
 ·rw[x1,hrow];exact hrun
 ·obtain⟨b,hb1,hb2⟩: ∃b,X'.κ[U.boxes.length]? =some b/\ Value.pointer (some ⟨X.w.heap.size,0,none⟩)= .pointer (some ⟨b,0,none⟩):=x4;have hb3:b=X.w.heap.size:=by simp at hb2;exact hb2.symm
  subst hb3;show Bsl X' _ _ _ _ _ _;refine⟨_,_,(vs++us).toArray++Builtin.zeroCells z.cells (grownCap X.w (n+m) cap e-(n+m)),e,hb1,rfl,hge,(fun h=>by cases h),?_,?_⟩
  ·rw[x1,hrow];exact zeu _ _ _ rfl
  ·rw[hlen];simp
theorem z2s (hIT:ITMono IT) {P:Program} {X:Cx} {U U':St} {t tx ty:TypeId} {x y a:AV} {v u:Value} (h:zpv P U t tx x y=some (a,U'))(hx:Rep IT X x v)(hy:Rep IT X y u)(hI:Inv IT U X):
 ∃r X',(Builtin.append_ #[t,tx] ty #[v,u]).run P X.w= .ok r X'.w/\ Ext X X'/\ Inv IT U' X'/\ Rep IT X' a r:=by
 unfold zpv at h;split at h<;>try cases h
 rename_i e hu;split at h<;>try cases h
 rename_i i hi;split at h<;>try cases h
 rename_i z hz;split at h<;>try cases h
 rename_i m ds hsrc;split at h<;>try cases h
 rename_i hc;obtain⟨hsz,hzs,hm⟩:=hc;obtain⟨us,hs,hr2⟩:=zva hsrc hu hy hI;split at h
 ·rename_i n cs;split at h<;>cases h
  rename_i hc;obtain⟨hl,hmax,hb⟩:=hc;rw[Rep] at hx;obtain⟨ad,cap,rfl,⟨hcap,hnil⟩,hc,rfl⟩:=hx;rcases hc with rfl|⟨b,o,rfl,hat⟩
  ·have hn:cap=0:=by
    rcases Nat.eq_zero_or_pos cap with h|h
    ·exact h
    ·have:=Nat.mul_pos h hsz;simp at hl;omega
   subst hn;exact zon hIT hI hu hi hz hsz hzs (vs:=[]) (fun w _=>by cases ad<;>simp[Builtin.firstCells,loadCells,loadCellsFrom]) (by simp) hs (by rw[zbr]) hr2 (by simp) (by omega) hmax hb
  ·obtain⟨vs,w1,w2,w3⟩:=zga hat
   have hvl:=zq w1;exact zon hIT hI hu hi hz hsz hzs (fun w hw=>run_firstCells_some w i.size cap _ cap cap vs (by omega) (fun j v hj=>by
    rw[zfj];have h2:=w3 j v hj;unfold World.cell? at h2⊢;rw[hw];exact h2)) (by omega) hs w1 hr2 w2 (by omega) hmax hb
 ·rename_i s off n sz f;split at h<;>try cases h
  rename_i bx hbx;obtain⟨t0,cells⟩:=bx;split at h<;>try cases h
  rename_i hc;obtain⟨rfl,hmax,hb,hl⟩:=hc;rw[Rep] at hx;obtain⟨b,cap,cur,t1,hk,rfl,hcap,hful,hrow,hfit⟩:=hx;obtain⟨vs0,w1,w2,w3⟩:=znv hI hk hbx off;have hvl0:=zq w1;simp only at w1 hvl0 hl;have hvl:(vs0.take (n*i.size)).length=n*i.size:=by simp at hvl0⊢;omega
  have hold: ∀w:World,w.heap=X.w.heap->(Builtin.firstCells i.size n (.slice (some ⟨b,off,none⟩) n cap)).run P w= .ok (vs0.take (n*i.size)).toArray w:=fun w hw=>run_firstCells_some w i.size n _ n cap _ hvl (fun j v hj=>by
   rw[zfj];rw[getElem?_take] at hj;split at hj
   ·have h2:=w3 j v hj;unfold World.cell? at h2⊢;rw[hw];exact h2
   ·cases hj)
  split at h
  ·rename_i hf;cases h;have:=hful hf;subst this;exact zon hIT hI hu hi hz hsz hzs hold hvl hs (zef w1 _) hr2 (fun v hv=>w2 v (mem_of_mem_take hv)) (by omega) hmax hb
  ·split at h<;>cases h
   rename_i hc;obtain⟨rfl,hnl,rfl,hn⟩:=hc;simp only at hnl hbx;by_cases hroom:n+m<=cap
   ·-- in zfm
    obtain⟨vs,zs,k1,k2,k3⟩:=hI.box s b t0 cells hk hbx;have hkl:=zq k2;rw[k1] at hrow;simp only[Option.some.injEq,Obj.cells.injEq,and_true] at hrow;obtain⟨rfl,rfl⟩:=hrow;have hne:cells≠[]:=fun e=>by
     rw[e] at hnl;have:=Nat.mul_pos hn hsz;simp at hnl;omega
    have hnews:=hs.newsLen;have hmn:(n+m)*i.size<=(vs++zs).length:=by
     have:=Nat.mul_le_mul_right i.size hroom;simp at hfit⊢;omega
    rw[Nat.add_mul] at hmn;have hpos:vs.length=n*i.size:=by omega
    have hst:=run_storeCells_at P b (n*i.size) t0 us 0 (vs++zs).toArray X.w k1 (by simp at hmn⊢;omega) hs.one;have hrow2:(vs++zs).toArray.toList.take (n*i.size+0)++us++(vs++zs).toArray.toList.drop (n*i.size+0+us.length)=vs++us++zs.drop us.length:=by
     simp only[Nat.add_zero];rw[<-hpos,List.take_left',List.drop_append]
     ·simp
     ·rfl
    rw[hrow2] at hst;have hrun:(Builtin.append_ #[t,tx] ty #[.slice (some ⟨b,0,none⟩) n cap,u]).run P X.w= .ok (.slice (some ⟨b,0,none⟩) (n+m) cap) (X.w.setRow b (vs++us++zs.drop us.length).toArray):=by
     rcases hs.kind with⟨e',hk'⟩|hk'<;>simp[Builtin.append_,run_underlying hu,run_underlying hk',sizeOf,typeInfo,program,Sem.run,hi,hs.len,hroom,hs.cells,Addr.add_lit,hst]
    have hdead: ∀s':Nat,X.κ[s']? =some b->s'≠s-> ∃t2,U.boxes[s']? =some (t2,[]):=fun s' h2 h3=>by
     rcases hI.κnd s' s b h2 hk h3 with h4|⟨t2,h5⟩
     ·exact h4
     ·rw[hbx] at h5;cases h5;exact absurd rfl hne
    have hnf:=hI.κF s b t0 cells hk hbx hne;have hlen2:(vs++us++zs.drop us.length).length=(vs++zs).length:=by simp at hmn⊢;omega
    obtain⟨e1,e2⟩:=zmy hIT hI (cs':=[]) (vs':=[]) (zs:=vs++us++zs.drop us.length) hk hbx hne (fun cur t f hc=>by rw[k1] at hc;cases hc;rw[nil_append,hlen2];simp) (by rw[zbr]) (by simp);rw[nil_append] at e1 e2;have hs':s<U.boxes.length:=(List.getElem?_eq_some_iff.1 hbx).1;obtain⟨X',x1,x2,x3,x4⟩:=z0j hIT e2 (s:=s) (b:=b) (t:=t0) (cs:=cells++ds) (vs:=vs++us) (zs:=zs.drop us.length) hk (fun s' h2=>by
     show ∃t2,(U.boxes.set s (t0,[]))[s']? =some (t2,[]);by_cases e:s=s'
     ·subst e;exact⟨t0,by rw[getElem?_set_self hs']⟩
     ·rw[getElem?_set_ne e];exact hdead s' h2 (Ne.symm e)) (setRow_heap _ _ _ _ _ _ k1)
     (zaw hIT e1 _ _ (zbp k2 hr2)) (fun v hv=>(mem_append.1 hv).elim (k3 v) (hs.one v)) hnf
    refine⟨_,X',by rw[x1];exact hrun,e1.trans x2,x3,?_⟩;rw[Rep];have hx4:X'.κ[U.boxes.length]? =some b:=by
     have:=x4;simpa using this
    refine⟨b,cap,(vs++us++zs.drop us.length).toArray,t0,hx4,rfl,hroom,(fun h=>by cases h),by rw[x1];exact setRow_heap _ _ _ _ _ _ k1,?_⟩;simp only[List.size_toArray,hlen2];simpa using hfit
   ·have hK:=zrn hI hbx;have hdrop:(cells.drop 0)=cells:=rfl;rw[List.drop_zero] at w1;have htake:vs0.take (n*i.size)=vs0:=by
     apply List.take_of_length_le;simp at hvl0;omega
    rw[htake] at hold hvl;have:=zon hIT hK (ty:=ty) hu hi hz hsz hzs hold hvl hs w1 hr2 w2 (by omega) hmax hb;simpa using this
 ·cases h
def z8e (P:Program)(U:St)(t tx:TypeId)(x y:AV):Option (AV×St):=
 match P.underlying t with
 | some (.slice e)=>match P.info? e with
  | some i=>match i.zero with
   | some z=>match z9x P U i.size t tx y with
    | some (m,ds)=>match x with
     | .bsl s off n sz f=>
      if m=0 then some (.bsl s off n sz f,U)
      else match U.boxes[s]? with
       | some bx=>
        if sz=i.size/\ 0<i.size/\ z.cells.size=i.size/\ m<=maxLen/\ m*i.bytes<=140737488355328/\ off=0/\ n=0/\ bx.1=e/\ 0<bx.2.length/\ f=false then
         some (.bsl U.boxes.length 0 m sz false,{U with boxes:=U.boxes.set s (e,[])++[(e,ds)]})
        else none
       |none=>none
     |_=>none
    |none=>none
   |none=>none
  |none=>none
 |_=>none
theorem z1v (hIT:ITMono IT) {P:Program} {X:Cx} {U U':St} {t tx ty:TypeId} {x y a:AV} {v u:Value} (h:z8e P U t tx x y=some (a,U'))(hx:Rep IT X x v)(hy:Rep IT X y u)(hI:Inv IT U X):
 ∃r X',(Builtin.append_ #[t,tx] ty #[v,u]).run P X.w= .ok r X'.w/\ Ext X X'/\ Inv IT U' X'/\ Rep IT X' a r:=by
 unfold z8e at h;split at h<;>try cases h
 rename_i e hu;split at h<;>try cases h
 rename_i i hi;split at h<;>try cases h
 rename_i z hz;split at h<;>try cases h
 rename_i m ds hsrc;obtain⟨us,hs,hr2⟩:=zva hsrc hu hy hI;have hnews:=hs.newsLen;split at h<;>try cases h
 rename_i s off n sz f;have hx0:=hx;rw[Rep] at hx;obtain⟨b,cap,cur,t1,hk,rfl,hcap,hful,hrow,hfit⟩:=hx;split at h
 ·rename_i hm;subst hm;cases h;have hus:us=[]:=List.length_eq_zero_iff.1 (by simpa using hnews);subst hus;refine⟨.slice (some ⟨b,off,none⟩) n cap,X,?_,Ext.refl X,hI,hx0⟩;have hroom:n+0<=cap:=hcap;rcases hs.kind with⟨e',hk'⟩|hk'<;>simp[Builtin.append_,run_underlying hu,run_underlying hk',sizeOf,typeInfo,program,Sem.run,hi,hs.len,hcap,hs.cells,storeCells]
 ·rename_i hm;split at h<;>try cases h
  rename_i bx hbx;obtain⟨t0,cells⟩:=bx;split at h<;>cases h
  rename_i hc;obtain⟨rfl,hsz,hzs,hmax,hb,rfl,rfl,rfl,hne,rfl⟩:=hc;simp only at hne hbx;by_cases hroom:m<=cap
  ·obtain⟨vs,zs,k1,k2,k3⟩:=hI.box s b t0 cells hk hbx;rw[k1] at hrow;simp only[Option.some.injEq,Obj.cells.injEq,and_true] at hrow;obtain⟨rfl,rfl⟩:=hrow;have hne':cells≠[]:=fun e=>by rw[e] at hne;simp at hne
   have hmn:us.length<=(vs++zs).length:=by
    have:=Nat.mul_le_mul_right i.size hroom;simp at hfit⊢;omega
   have hst:=run_storeCells_at P b 0 t0 us 0 (vs++zs).toArray X.w k1 (by simp at hmn⊢;omega) hs.one;have hrow2:(vs++zs).toArray.toList.take (0+0)++us++(vs++zs).toArray.toList.drop (0+0+us.length)=us++(vs++zs).drop us.length:=by simp
   rw[hrow2] at hst;have hrun:(Builtin.append_ #[t,tx] ty #[.slice (some ⟨b,0,none⟩) 0 cap,u]).run P X.w= .ok (.slice (some ⟨b,0,none⟩) m cap) (X.w.setRow b (us++(vs++zs).drop us.length).toArray):=by
    have hroom':0+m<=cap:=by omega
    rcases hs.kind with⟨e',hk'⟩|hk'<;>simp[Builtin.append_,run_underlying hu,run_underlying hk',sizeOf,typeInfo,program,Sem.run,hi,hs.len,hroom,hs.cells,Addr.add_lit,hst]
   have hdead: ∀s':Nat,X.κ[s']? =some b->s'≠s-> ∃t2,U.boxes[s']? =some (t2,[]):=fun s' h2 h3=>by
    rcases hI.κnd s' s b h2 hk h3 with h4|⟨t2,h5⟩
    ·exact h4
    ·rw[hbx] at h5;cases h5;exact absurd rfl hne'
   have hnf:=hI.κF s b t0 cells hk hbx hne';have hlen2:(us++(vs++zs).drop us.length).length=(vs++zs).length:=by
    rw[length_append,List.length_drop];omega
   obtain⟨e1,e2⟩:=zmy hIT hI (cs':=[]) (vs':=[]) (zs:=us++(vs++zs).drop us.length) hk hbx hne' (fun cur t f hc=>by rw[k1] at hc;cases hc;rw[nil_append,hlen2];simp) (by rw[zbr]) (by simp);rw[nil_append] at e1 e2;have hs':s<U.boxes.length:=(List.getElem?_eq_some_iff.1 hbx).1;obtain⟨X',x1,x2,x3,x4⟩:=z0j hIT e2 (s:=s) (b:=b) (t:=t0) (cs:=ds) (vs:=us) (zs:=(vs++zs).drop us.length) hk (fun s' h2=>by
    show ∃t2,(U.boxes.set s (t0,[]))[s']? =some (t2,[]);by_cases e:s=s'
    ·subst e;exact⟨t0,by rw[getElem?_set_self hs']⟩
    ·rw[getElem?_set_ne e];exact hdead s' h2 (Ne.symm e)) (setRow_heap _ _ _ _ _ _ k1)
    (zaw hIT e1 _ _ hr2) (fun v hv=>hs.one v hv) hnf
   refine⟨_,X',by rw[x1];exact hrun,e1.trans x2,x3,?_⟩;rw[Rep];have hx4:X'.κ[U.boxes.length]? =some b:=by
    have:=x4;simpa using this
   refine⟨b,cap,(us++(vs++zs).drop us.length).toArray,t0,hx4,rfl,hroom,(fun h=>by cases h),by rw[x1];exact setRow_heap _ _ _ _ _ _ k1,?_⟩;simp only[List.size_toArray,hlen2];simpa using hfit
  ·have hK:=zrn hI hbx;have:=zon hIT hK (ty:=ty) (base:=some ⟨b,0,none⟩) (n:=0) (cap:=cap) (cs:=[]) (vs:=[]) hu hi hz hsz hzs (fun w _=>run_firstCells_some w i.size 0 _ 0 cap [] (by simp) (by simp)) (by simp) hs (by rw[zbr]) hr2 (by simp) (by omega) (by omega) (by simpa using hb);simpa using this
def qgw (P:Program)(U:St)(t:TypeId):AV->AV->Option (AV×St)
 | .raw (.int _ l),.raw (.int _ c)=>match P.underlying t with
  | some (.slice e)=>match P.info? e with
   | some i=>match i.zero with
    | some z=>if l=c/\ 0<=l/\ l<=9223372036854775807/\ (i.bytes:Int)*l<=281474976710656/\ z.cells.toList.all (·.oneCell')=true/\ z.cells.size=1/\ i.size=1 then
     some (.bsl U.boxes.length 0 l.toNat 1 true,{U with boxes:=U.boxes++[(e,List.replicate l.toNat (zit (z.cells[0]!)))]}) else none
    |none=>none
   |none=>none
  |_=>none
 |_,_=>none
theorem z1o (hIT:ITMono IT) {P:Program} {X:Cx} {U U':St} {t:TypeId} {x y a:AV} {v u:Value} (h:qgw P U t x y=some (a,U'))(hx:Rep IT X x v)(hy:Rep IT X y u)(hI:Inv IT U X):
 ∃r X',(Instr.makeSlice t v u).run P X.w= .ok r X'.w/\ Ext X X'/\ Inv IT U' X'/\ Rep IT X' a r:=by
 unfold qgw at h;split at h<;>try cases h
 rename_i k1 l k2 c;split at h<;>try cases h
 rename_i e hu;split at h<;>try cases h
 rename_i i hi;split at h<;>try cases h
 rename_i z hz;split at h<;>cases h
 rename_i hc;obtain⟨rfl,h0,h63,hb,h1,hzs,his⟩:=hc;rw[Rep] at hx hy;subst hx hy;have hrun:=run_make (P:=P) X.w t e i z hu hi hz k1 k2 l l h0 (Int.le_refl _) hb h63;have hcells:madeCells z.cells (l.toNat*i.size)=(List.replicate l.toNat (z.cells[0]!)).toArray:=by
  apply Array.ext';rw[his,Nat.mul_one];simp only[madeCells,hzs,Nat.mod_one];simp;apply List.ext_getElem?;intro j;simp only[getElem?_map,List.getElem?_replicate,List.getElem?_range'];by_cases hj:j<l.toNat<;>simp[hj]
 have hz0:(z.cells[0]!).oneCell'=true:=by
  rw[getElem!_pos z.cells 0 (by omega)];exact all_eq_true.1 h1 _ (by simp)
 obtain⟨X',x1,x2,x3,x4⟩:=ztm hIT hI (t:=e) (cs:=List.replicate l.toNat (zit (z.cells[0]!))) (vs:=List.replicate l.toNat (z.cells[0]!)) (by
  rw[<-List.map_replicate];exact zya _) (fun v hv=>by rw[List.eq_of_mem_replicate hv];exact hz0)
 refine⟨_,X',(by rw[x1, <-hcells];exact hrun),x2,x3,?_⟩
 ·obtain⟨b,hb1,hb2⟩: ∃b,X'.κ[U.boxes.length]? =some b/\ Value.pointer (some ⟨X.w.heap.size,0,none⟩)= .pointer (some ⟨b,0,none⟩):=x4;have hb3:b=X.w.heap.size:=by simp at hb2;exact hb2.symm
  subst hb3;show Bsl X' _ _ _ _ _ _;refine⟨_,_,(List.replicate l.toNat (z.cells[0]!)).toArray,e,hb1,rfl,le_refl _,fun _=>rfl,?_,?_⟩
  ·rw[x1];exact zeu _ _ _ rfl
  ·simp
def z6s (P:Program)(U:St)(t tx:TypeId)(x y:AV):Option (AV×St):=
 match P.underlying t,P.underlying tx,x,y with
 | some (.slice e),some .string,.list n cs st,.raw (.string b)=>match P.info? e with
  | some i=>match i.zero with
   | some z=>
    if b.size=0/\ i.size=1 then some (.list n cs st,U)
    else if cs.length=n*i.size/\ i.size=1/\ 0<b.size/\ z.cells.size=i.size/\ 0<i.size/\ n+b.size<=maxLen/\ (n+b.size)*i.bytes<=140737488355328 then
     match st with
     | .none=>none
     | .full=>some (.list (n+b.size) (cs++(byteCells b).map AV.raw) (.own U.lens.length),{U with lens:=U.lens++[(n+b.size)*i.size],elems:=U.elems++[e]})
     | .own s=>if U.lens[s]? =some cs.length/\ U.elems[s]? =some e/\ 0<n then some (.list (n+b.size) (cs++(byteCells b).map AV.raw) (.own s),{U with lens:=U.lens.set s ((n+b.size)*i.size)}) else none
    else none
   |none=>none
  |none=>none
 |_,_,_,_=>none
theorem zqv {P:Program} (w:World)(t tx ty e:TypeId)(i:TypeInfo)(ht:P.underlying t=some (.slice e))(hi:P.info? e=some i)
 (g sLen sCap:Nat) (cur:Array Value) (fz:Nat×Nat) (hg:w.heap[g]? =some (.cells cur e fz)) (hfz:fz.2<=sLen*i.size) (u:Value) (m:Nat) (news:List Value) (hs:Src P i.size tx u m news w)
 (hroom:sLen+m<=sCap) (hfit:sLen*i.size+news.length<=cur.size):
 (Builtin.append_ #[t,tx] ty #[.slice (some ⟨g,0,none⟩) sLen sCap,u]).run P w=
  .ok (.slice (some ⟨g,0,none⟩) (sLen+m) sCap) (w.setRow g (cur.toList.take (sLen*i.size)++news++cur.toList.drop (sLen*i.size+news.length)).toArray):=by
 have hst:=run_storeCells_atF P g (sLen*i.size) e fz news 0 cur w hg (by simpa using hfz) (by simpa using hfit) hs.one;simp only[Nat.add_zero] at hst;rcases hs.kind with⟨e',hk'⟩|hk'<;>simp[Builtin.append_,run_underlying ht,run_underlying hk',sizeOf,typeInfo,program,Sem.run,hi,hs.len,hroom,hs.cells,Addr.add_lit,hst]
theorem zsf {IT:IterP} (hIT:ITMono IT) {P:Program} {X:Cx} {U U':St} {t tx ty:TypeId} {x y a:AV} {v u:Value} (h:z6s P U t tx x y=some (a,U'))(hx:Rep IT X x v)(hy:Rep IT X y u)(hI:Inv IT U X):
 ∃r X',(Builtin.append_ #[t,tx] ty #[v,u]).run P X.w= .ok r X'.w/\ Ext X X'/\ Inv IT U' X'/\ Rep IT X' a r:=by
 unfold z6s at h;split at h<;>try cases h
 rename_i e n cs st bb hu htx;split at h<;>try cases h
 rename_i i hi;split at h<;>try cases h
 rename_i z hz;have hx0:=hx;rw[Rep] at hx;obtain⟨ad,cap,rfl,⟨hcap,hnil⟩,hc,hst⟩:=hx;have hy':u= .string bb:=hy;subst hy';split at h
 ·rename_i hm;cases h;obtain⟨hm,hsz1⟩:=hm;have hb0:bb=ByteArray.empty:=by
   apply ByteArray.ext;exact Array.eq_empty_of_size_eq_zero hm
  refine⟨.slice ad n cap,X,?_,Ext.refl X,hI,hx0⟩;subst hb0;have hs:=Src.ofString (P:=P) X.w htx ByteArray.empty;have h1:=hs.len;have h2:=hs.cells;have hn:n+0<=cap:=by omega
  rw[show ByteArray.empty.size=0 from rfl] at h1 h2;rw[show byteCells ByteArray.empty=[] from rfl] at h2;cases ad<;>simp[Builtin.append_,run_underlying hu,run_underlying htx,sizeOf,typeInfo,program,Sem.run,hi,hsz1,h1,h2,storeCells,hcap]
 ·split at h<;>try cases h
  rename_i hcond;obtain⟨q1,q2,q3,q4,q5,q6,q7⟩:=hcond;obtain⟨m,hm⟩: ∃m,m=bb.size:=⟨_,rfl⟩;obtain⟨us,hus⟩: ∃us,us=byteCells bb:=⟨_,rfl⟩;obtain⟨ds,hds0⟩: ∃ds,ds=(byteCells bb).map AV.raw:=⟨_,rfl⟩;have hs:Src P i.size tx (.string bb) m us X.w:=by rw[hus,hm,q2];exact Src.ofString X.w htx bb
  simp only[<-hm, <-hds0] at h q3 q6 q7;have u1:zbr IT X ds us:=by rw[hds0,hus];exact zjb _
  have u2: ∀w∈us,w.oneCell'=true:=hs.one;have hul:=zq u1;have q2':ds.length=m*i.size:=by rw[hul];exact hs.newsLen
  have hup:0<us.length:=by have:=Nat.mul_pos q3 q5;have:=hs.newsLen;omega
  have hml:((n+m:Nat):Int)<=9223372036854775807:=by unfold maxLen at q6;omega
  have hnm:(n+m)*i.size=n*i.size+m*i.size:=Nat.add_mul _ _ _
  -- the old cells
  obtain⟨vs,v1,v2,v3⟩: ∃vs:List Value,zbr IT X cs vs/\ (∀w∈vs,w.oneCell'=true)/\ ∀b o,ad=some ⟨b,o,none⟩-> ∀(j:Nat) w,vs[j]? =some w->X.w.cell? ((⟨b,o,none⟩:Addr).add j)=some w:=by
   rcases hc with rfl|⟨b,o,rfl,hat⟩
   ·exact⟨[],by rw[zbr],by simp,by simp⟩
   ·obtain⟨vs,w1,w2,w3⟩:=zga hat
    exact⟨vs,w1,w2,fun b' o' e' j w hj=>by cases e';rw[zfj];exact w3 j w hj⟩
  have hvl:=zq v1;have hone: ∀w∈vs++us,w.oneCell'=true:=fun w hw=>(mem_append.1 hw).elim (v2 w) (u2 w);have hz2: ∀c,n+m<=c->(vs++us++(Builtin.zeroCells z.cells (c-(n+m))).toList).length=c*i.size:=fun c hcc=>by
   have:=size_zeroCells z.cells (c-(n+m));simp only[length_append,Array.length_toList,this,q4, <-hvl, <-hul,q1,q2', <-Nat.add_mul];congr 1;omega
  -- where it grows
  have grow: ∀(c0:Nat) (hlt:c0<n+m),c0=cap-> ∃r,(Builtin.append_ #[t,tx] ty #[.slice ad n cap,.string bb]).run P X.w=
   .ok (.slice (some ⟨X.w.heap.size,0,none⟩) (n+m) r) (X.w.drew.alloc (.cells (vs++us++(Builtin.zeroCells z.cells (r-(n+m))).toList).toArray e))/\ n+m<=r/\ r<=maxLen:=fun c0 hlt ec=>by
   subst ec;refine⟨grownCap X.w (n+m) c0 e,?_,grownCap_ge _ _ _ _,grownCap_le_maxLen _ _ _ _ q6⟩;have hold: ∀w:World,w.heap=X.w.heap->(Builtin.firstCells i.size n (.slice ad n c0)).run P w= .ok vs.toArray w:=fun w hw=>by
    rcases hc with rfl|⟨b,o,rfl,hat⟩
    ·have hn0:n=0:=by
      have:n*i.size=0:=by simpa using q1.symm
      rcases Nat.mul_eq_zero.1 this with h|h
      ·exact h
      ·omega
     subst hn0;have hvs:vs=[]:=by rw[zbr] at v1;exact v1
     subst hvs;cases ad<;>simp[Builtin.firstCells,loadCells,loadCellsFrom]
    ·exact run_firstCells_some w i.size n _ n c0 vs (by omega) (fun j v hj=>by
      have h2:=v3 b o rfl j v hj;unfold World.cell? at h2⊢;rw[hw];exact h2)
   have hr:=run_append_grow_src (P:=P) X.w t tx ty e i z hu hi hz ad n c0 vs (hold _ rfl) (.string bb) m us hs hlt (by omega) (growslice_fits hlt q7);rw[hr];congr 2
   simp
  have hlens:X.lens=U.lens:=hI.lens;have hbl:=hI.βlen;have hvu:(vs++us).length=(n+m)*i.size:=by rw[length_append, <-hvl, <-hul];omega
  have hcd:(cs++ds).length=(n+m)*i.size:=by rw[length_append];omega
  cases st with
  |none=>cases h
  | full=>
   simp only[Option.some.injEq,Prod.mk.injEq] at h;obtain⟨rfl,rfl⟩:=h;simp only at hst;subst hst;obtain⟨r,g1,g2,g3⟩:=grow cap (by omega) rfl
   obtain⟨X',x1,x2,x3,x4,x5,x6⟩:=zpu hIT hI (e:=e) (zbp v1 u1) hone i.size r q5 g3 (hz2 r g2)
    (β':=X.β++[⟨X.w.heap.size,e,i.size,r⟩]) (lens':=U.lens++[(cap+m)*i.size]) (elems':=U.elems++[e])
    (fun s L hs=>⟨L,by rw[<-hlens,getElem?_append_left (List.getElem?_eq_some_iff.1 hs).1];exact hs,le_refl _,fun _=>by
     rw[getElem?_append_left];rw[hbl];exact(List.getElem?_eq_some_iff.1 hs).1⟩)
    (by simp[hbl,hlens]) (by simp[hI.elems])
    (fun s q L hq hL=>by
     rcases lt_or_ge s X.β.length with hlt|hge
     ·rw[getElem?_append_left hlt] at hq;rw[<-hlens,getElem?_append_left (by omega)] at hL;exact .inl ⟨hq,hL⟩
     ·right
      have h0:s=X.β.length:=by
       have:=(List.getElem?_eq_some_iff.1 hq).1;simp at this;omega
      subst h0;rw[<-hlens,hbl] at hL;simp at hq hL;exact⟨hq.symm,by rw[hvu];exact hL.symm⟩)
    (by
     rw[List.map_append];refine List.nodup_append.2 ⟨hI.βnd,by simp,fun a ha b hb e=> ?_⟩;obtain⟨q,hq,rfl⟩:=mem_map.1 ha;have:=hI.βlt hq;simp at hb;omega)
   refine⟨_,X',by rw[x1];exact g1,x2,x3,?_⟩;rw[Rep];refine⟨_,_,rfl,⟨g2,fun e=>by cases e⟩,.inr ⟨_,_,rfl,x4⟩,(cap+m)*i.size,?_,by omega,fun _=>⟨⟨X.w.heap.size,e,i.size,r⟩,?_,rfl,rfl,hcd⟩⟩
   ·rw[x6];simp
   ·rw[x5, <-hlens, <-hbl];simp
  | own s=>
   simp only at h;split at h<;>try cases h
   rename_i hown;obtain⟨w1,w2,w3⟩:=hown;obtain⟨L,k1,k2,k3⟩:=hst;have hLc:cs.length=L:=by rw[hlens] at k1;rw[k1] at w1;exact(Option.some.inj w1).symm
   obtain⟨r,k4,k5,rfl,k7⟩:=k3 hLc;subst hLc;have hsr:r.size=i.size:=by
    have:n*r.size=n*i.size:=by omega
    exact Nat.eq_of_mul_eq_mul_left w3 this
   have hre:r.elem=e:=by
    have h1:(X.β.map (·.elem))[s]? =some e:=by rw[hI.elems];exact w2
    rw[getElem?_map,k4] at h1;simpa using h1
   have hsl:s<X.lens.length:=(List.getElem?_eq_some_iff.1 k1).1;obtain⟨cur,fz,c1,c2,c3,c4,c5,c6,c7⟩:=hI.row s r cs.length k4 k1;subst k5;by_cases hroom:n+m<=r.cap
   ·have hfit:cs.length+us.length<=cur.size:=by
     rw[c2,hsr];have:=Nat.mul_le_mul_right i.size hroom;omega
    obtain⟨X',x1,x2,x3,x4,x5,x6⟩:=zpf hIT hI k4 k1 c1 u1 u2 hup hfit;have hr:=zqv (P:=P) X.w t tx ty e i hu hi r.block n r.cap cur fz (by rw[<-hre];exact c1) (by omega) (.string bb) m us hs hroom (by omega);have hlen2:cs.length+us.length=(n+m)*i.size:=by omega
    rw[hlen2] at x3 x6;refine⟨.slice (some ⟨r.block,0,none⟩) (n+m) r.cap,X',?_,x2,x3,?_⟩
    ·rw[x1,hr,q1]
    ·rw[Rep];have hold:At IT X' cs r.block 0:=z1t hIT x2 _ _ _ (by
      rcases hc with rfl|⟨b,o,e1,hat⟩
      ·rw[At];trivial
      ·cases e1;exact hat)
     refine⟨_,_,rfl,⟨hroom,fun e=>by cases e⟩,.inr ⟨_,_,rfl,znu hold (by rw[Nat.zero_add];exact x4)⟩,(n+m)*i.size,?_,by omega,fun _=>⟨r,by rw[x5];exact k4,rfl,rfl,by rw[hcd,hsr]⟩⟩;rw[x6];simp[hsl]
   ·obtain⟨c,g1,g2,g3⟩:=grow r.cap (by omega) rfl
    obtain⟨X',x1,x2,x3,x4,x5,x6⟩:=zpu hIT hI (e:=e) (zbp v1 u1) hone i.size c q5 g3 (hz2 c g2)
     (β':=X.β.set s ⟨X.w.heap.size,e,i.size,c⟩) (lens':=U.lens.set s ((n+m)*i.size)) (elems':=U.elems)
     (fun s' L hs=>by
      by_cases es:s'=s
      ·subst es;rw[k1] at hs;cases hs;have:=Nat.mul_pos q3 q5;exact⟨(n+m)*i.size,by rw[<-hlens];simp[hsl],by omega,fun e=>by omega⟩
      ·exact⟨L,by rw[<-hlens,getElem?_set_ne (Ne.symm es)];exact hs,le_refl _,fun _=>by rw[getElem?_set_ne (Ne.symm es)]⟩)
     (by simp[hbl,hlens])
     (by
      rw[<-hI.elems,List.map_set];apply List.ext_getElem?;intro j;by_cases ej:s=j
      ·subst ej;rw[getElem?_set_self (by simp;omega),getElem?_map,k4];simp[hre]
      ·rw[getElem?_set_ne ej])
     (fun s' q L hq hL=>by
      by_cases es:s'=s
      ·subst es;right
       rw[getElem?_set_self (by omega)] at hq;rw[<-hlens,getElem?_set_self hsl] at hL;cases hq;cases hL;exact⟨rfl,hvu.symm⟩
      ·left
       rw[getElem?_set_ne (Ne.symm es)] at hq;rw[<-hlens,getElem?_set_ne (Ne.symm es)] at hL;exact⟨hq,hL⟩)
     (by
      rw[List.map_set];have hnd:=hI.βnd;have hfresh:X.w.heap.size∉X.β.map (·.block):=fun hm=>by
       obtain⟨q,hq,e'⟩:=mem_map.1 hm;have:=hI.βlt hq;omega
      exact zfo _ _ _ hnd hfresh)
    refine⟨_,X',by rw[x1];exact g1,x2,x3,?_⟩;rw[Rep];refine⟨_,_,rfl,⟨g2,fun e=>by cases e⟩,.inr ⟨_,_,rfl,x4⟩,(n+m)*i.size,?_,by omega,fun _=>⟨⟨X.w.heap.size,e,i.size,c⟩,?_,rfl,rfl,hcd⟩⟩
    ·rw[x6, <-hlens];simp[hsl]
    ·rw[x5,getElem?_set_self (by omega)]
variable {IT:IterP}
def z9t (U:St)(sz:Nat):AV->Option (Nat×List AV)
 | .list m ds _=>if ds.length=m*sz/\ 0<sz then some (m,ds) else none
 | .bsl s off m sz' _=>match U.boxes[s]? with
  |some bx=>if sz'=sz/\ off+m*sz<=bx.2.length then some (m,(bx.2.drop off).take (m*sz)) else none
  |none=>none
 |_=>none
theorem zym {P:Program} {U:St} {X:Cx} {sz m:Nat} {y:AV} {u:Value} {ds:List AV} (h:z9t U sz y=some (m,ds))(hy:Rep IT X y u)(hI:Inv IT U X):
 ∃us,zbr IT X ds us/\ (∀v∈us,v.oneCell'=true)/\ (∀w:World,(Builtin.lenOf u).run P w= .ok m w)/\ us.length=m*sz/\ ∀k,k<=m->(Builtin.firstCells sz k u).run P X.w= .ok (us.take (k*sz)).toArray X.w:=by
 unfold z9t at h;split at h
 ·rename_i m' ds' st;split at h<;>cases h
  rename_i hc;obtain⟨hl,hp⟩:=hc;rw[Rep] at hy;obtain⟨ad,cap,rfl,⟨hcap,hnil⟩,hc,_⟩:=hy;rcases hc with rfl|⟨b,o,rfl,hat⟩
  ·have hm:m=0:=by
    rcases Nat.eq_zero_or_pos m with h|h
    ·exact h
    ·have:=Nat.mul_pos h hp;simp at hl;omega
   subst hm;refine⟨[],by rw[zbr],(fun v hv=>by cases hv),fun w=>rfl,by simp,fun k hk=> ?_⟩;have hk0:k=0:=by omega
   subst hk0;rw[List.take_nil];cases ad with
   |none=>rfl
   |some a=>exact run_firstCells_some X.w sz 0 a 0 cap [] (by simp) (by simp)
  ·obtain⟨us,u1,u2,u3⟩:=zga hat
   have hul:=zq u1;refine⟨us,u1,u2,fun w=>rfl,by omega,fun k hk=> ?_⟩;have hkm:k*sz<=m*sz:=Nat.mul_le_mul_right _ hk;refine run_firstCells_some X.w sz k ⟨b,o,none⟩ m cap (us.take (k*sz)) (by rw[length_take];omega) (fun j w hj=> ?_);rw[zfj];rw[getElem?_take] at hj;split at hj
   ·exact u3 j w hj
   ·cases hj
 ·rename_i s off m' sz' f;split at h<;>try cases h
  rename_i bx hbx;split at h<;>cases h
  rename_i hc;obtain⟨rfl,hl⟩:=hc;rw[Rep] at hy;obtain⟨b,cap,cur,t0,hk,rfl,hcap,hful,hrow,hfit⟩:=hy;obtain⟨us,u1,u2,u3⟩:=znv hI hk hbx off;have hul:=zq u1;have hul2:(us.take (m*sz')).length=m*sz':=by simp at hul⊢;omega
  refine⟨us.take (m*sz'),zef u1 _,fun v hv=>u2 v (mem_of_mem_take hv),fun w=>rfl,hul2,fun k hkm=> ?_⟩;have hkm:k*sz'<=m*sz':=Nat.mul_le_mul_right _ hkm;refine run_firstCells_some X.w sz' k ⟨b,off,none⟩ m cap ((us.take (m*sz')).take (k*sz')) (by rw[length_take];omega) (fun j w hj=> ?_);rw[zfj];rw[List.take_take,getElem?_take] at hj;split at hj
  ·exact u3 j w hj
  ·cases hj
 ·cases h
def qep (P:Program)(U:St)(t:TypeId)(x y:AV):Option (AV×St):=
 match P.underlying t,x with
 | some (.slice e),.bsl s off n sz _=>match P.info? e,U.boxes[s]?,z9t U sz y with
  | some i,some (t0,cells),some (m,ds)=>
   if i.size=sz/\ cells.isEmpty=false/\ off+Nat.min m n*sz<=cells.length then
    some (.raw (.int .i64 (Nat.min m n:Nat)),{U with boxes:=U.boxes.set s (t0,cells.take off++ds.take (Nat.min m n*sz)++cells.drop (off+Nat.min m n*sz))})
   else none
  |_,_,_=>none
 |_,_=>none
theorem z3d (hIT:ITMono IT) {P:Program} {X:Cx} {U U':St} {t tx ty:TypeId} {x y a:AV} {v u:Value} (h:qep P U t x y=some (a,U'))(hx:Rep IT X x v)(hy:Rep IT X y u)(hI:Inv IT U X):
 ∃r X',(Builtin.copy_ #[t,tx] ty #[v,u]).run P X.w= .ok r X'.w/\ Ext X X'/\ Inv IT U' X'/\ Rep IT X' a r:=by
 unfold qep at h;split at h<;>try cases h
 rename_i e s off n sz f hu;split at h<;>try cases h
 rename_i i t0 cells m ds hi hbx hsrc;split at h<;>cases h
 rename_i hc;obtain⟨rfl,hne,hfit2⟩:=hc;have hne:cells≠[]:=fun e=>by rw[e] at hne;simp at hne
 rw[Rep] at hx;obtain⟨b,cap,cur,t1,hk,rfl,hcap,hful,hrow,hfit⟩:=hx;obtain⟨us,u1,u2,u3,u4,u5⟩:=zym (P:=P) hsrc hy hI;obtain⟨vs,zs,k1,k2,k3⟩:=hI.box s b t0 cells hk hbx;have hkl:=zq k2;generalize hkk:Nat.min m n=k at*
 have hkm:k<=m:=by rw[<-hkk];exact Nat.min_le_left _ _
 have hkms:k*i.size<=m*i.size:=Nat.mul_le_mul_right _ hkm;have hlen:(us.take (k*i.size)).length=k*i.size:=by rw[length_take];omega
 have hst:=run_storeCells_at P b off t0 (us.take (k*i.size)) 0 (vs++zs).toArray X.w k1 (by simp;omega) (fun v hv=>u2 v (mem_of_mem_take hv));have hrow2:(vs++zs).toArray.toList.take (off+0)++us.take (k*i.size)++(vs++zs).toArray.toList.drop (off+0+(us.take (k*i.size)).length)=(vs.take off++us.take (k*i.size)++vs.drop (off+k*i.size))++zs:=by
  simp only[Nat.add_zero,hlen];rw[List.take_append_of_le_length (by omega),List.drop_append_of_le_length (by omega),append_assoc,append_assoc,append_assoc]
 rw[hrow2] at hst;have hrun:(Builtin.copy_ #[t,tx] ty #[.slice (some ⟨b,off,none⟩) n cap,u]).run P X.w= .ok (goInt k) (X.w.setRow b (vs.take off++us.take (k*i.size)++vs.drop (off+k*i.size)++zs).toArray):=by
  simp[Builtin.copy_,run_underlying hu,sizeOf,typeInfo,program,Sem.run,hi,u3,hkk,u5 k hkm,hst]
 obtain⟨e1,e2⟩:=zmy hIT hI (cs':=cells.take off++ds.take (k*i.size)++cells.drop (off+k*i.size)) (vs':=vs.take off++us.take (k*i.size)++vs.drop (off+k*i.size)) (zs:=zs) hk hbx hne
  (fun cur t f hc=>by rw[k1] at hc;cases hc;simp;omega) (zbp (zbp (zef k2 _) (zef u1 _)) (zgv k2 _))
  (fun v hv=>by
   simp only[mem_append] at hv;rcases hv with(hv|hv)|hv
   ·exact k3 v (mem_of_mem_take hv)
   ·exact u2 v (mem_of_mem_take hv)
   ·exact k3 v (List.mem_of_mem_drop hv))
 exact⟨_,_,hrun,e1,e2,by rw[Rep];rfl⟩
def z4d (P:Program)(U:St)(t:TypeId)(x:AV):Option (AV×St):=
 match P.underlying t,x with
 | some (.slice e),.bsl s off n sz _=>match P.info? e,U.boxes[s]? with
  | some i,some (t0,cells)=>match i.zero with
   |some z=>if i.size=sz/\ z.cells.size=sz/\ cells.isEmpty=false/\ off<=cells.length/\ 0<n/\ z.cells.toList.all (·.oneCell')=true then some (.tup [],{U with boxes:=U.boxes.set s (t0,cells.take off)}) else none
   |none=>none
  |_,_=>none
 |_,_=>none
theorem zxv (hIT:ITMono IT) {P:Program} {X:Cx} {U U':St} {t ty:TypeId} {x a:AV} {v:Value} (h:z4d P U t x=some (a,U'))(hx:Rep IT X x v)(hI:Inv IT U X):
 ∃r X',(Builtin.clear_ #[t] ty #[v]).run P X.w= .ok r X'.w/\ Ext X X'/\ Inv IT U' X'/\ Rep IT X' a r:=by
 unfold z4d at h;split at h<;>try cases h
 rename_i e s off n sz f hu;split at h<;>try cases h
 rename_i i t0 cells hi hbx;split at h<;>try cases h
 rename_i z hz;split at h<;>cases h
 rename_i hc;obtain⟨rfl,hzs,hne,hoff,hn,h1z⟩:=hc;have hne:cells≠[]:=fun e=>by rw[e] at hne;simp at hne
 rw[Rep] at hx;obtain⟨b,cap,cur,t1,hk,rfl,hcap,hful,hrow,hfit⟩:=hx;obtain⟨vs,zs,k1,k2,k3⟩:=hI.box s b t0 cells hk hbx;rw[k1] at hrow;cases hrow;have hkl:=zq k2;have hcs:n*i.size<=cap*i.size:=Nat.mul_le_mul_right _ hcap;simp only[List.size_toArray,length_append] at hfit;obtain⟨Z,hZ⟩: ∃Z,Z=(Builtin.zeroCells z.cells n).toList:=⟨_,rfl⟩;have hZl:Z.length=n*i.size:=by rw[hZ,Array.length_toList,size_zeroCells,hzs]
 rcases Nat.eq_zero_or_pos i.size with h0|h0
 ·have hZ0:Z=[]:=List.length_eq_zero_iff.1 (by rw[hZl,h0,Nat.mul_zero]);obtain⟨m,rfl⟩: ∃m,n=m+1:=⟨n-1,by omega⟩;have hrun:(Builtin.clear_ #[t] ty #[.slice (some ⟨b,off,none⟩) (m+1) cap]).run P X.w= .ok (.tuple #[]) X.w:=by
   simp[Builtin.clear_,run_underlying hu,zeroValue,typeInfo,program,Sem.run,hi,hz, <-hZ,hZ0,storeCells]
  have hset:X.w.setRow b (vs.take off++(vs.drop off++zs)).toArray=X.w:=by
   rw[<-append_assoc,List.take_append_drop];exact setRow_self _ _ _ _ _ k1
  obtain⟨e1,e2⟩:=zmy hIT hI (cs':=cells.take off) (vs':=vs.take off) (zs:=vs.drop off++zs) hk hbx hne (fun cur t f hc=>by rw[k1] at hc;cases hc;simp;omega) (zef k2 _) (fun v hv=>k3 v (mem_of_mem_take hv));rw[hset] at e1 e2;exact⟨_,_,hrun,e1,e2,⟨[],rfl,rfl⟩⟩
 have hone: ∀v∈Z,v.oneCell'=true:=fun v hv=>by
  rw[hZ] at hv;unfold Builtin.zeroCells at hv;rw[Array.mem_toList_iff,Array.mem_map] at hv;obtain⟨j,_,rfl⟩:=hv;have hm:j%z.cells.size<z.cells.size:=Nat.mod_lt _ (by omega);rw[getElem!_pos z.cells _ hm];exact all_eq_true.1 h1z _ (Array.mem_toList_iff.2 (Array.getElem_mem _))
 have hst:=run_storeCells_at P b off t0 Z 0 (vs++zs).toArray X.w k1 (by simp;omega) hone;have hrow2:(vs++zs).toArray.toList.take (off+0)++Z++(vs++zs).toArray.toList.drop (off+0+Z.length)=vs.take off++(Z++(vs++zs).drop (off+Z.length)):=by
  simp only[Nat.add_zero];rw[List.take_append_of_le_length (by omega),append_assoc]
 rw[hrow2] at hst;obtain⟨m,rfl⟩: ∃m,n=m+1:=⟨n-1,by omega⟩;have hrun:(Builtin.clear_ #[t] ty #[.slice (some ⟨b,off,none⟩) (m+1) cap]).run P X.w= .ok (.tuple #[]) (X.w.setRow b (vs.take off++(Z++(vs++zs).drop (off+Z.length))).toArray):=by
  simp[Builtin.clear_,run_underlying hu,zeroValue,typeInfo,program,Sem.run,hi,hz, <-hZ,hst]
 obtain⟨e1,e2⟩:=zmy hIT hI (cs':=cells.take off) (vs':=vs.take off) (zs:=Z++(vs++zs).drop (off+Z.length)) hk hbx hne (fun cur t f hc=>by rw[k1] at hc;cases hc;simp;omega) (zef k2 _) (fun v hv=>k3 v (mem_of_mem_take hv));exact⟨_,_,hrun,e1,e2,⟨[],rfl,rfl⟩⟩
theorem z0r (z:List Value)(d:Value): ∀n:Nat,(List.range (n*z.length)).map (fun i=>z[i%z.length]?.getD d)=(List.replicate n z).flatten
 |0=>by simp
 | n+1=>by
  rw[Nat.add_mul,Nat.one_mul,List.range_add,List.map_append,z0r z d n,List.replicate_succ',List.flatten_append];congr 1
  simp only[List.flatten_cons,List.flatten_nil,List.append_nil];apply List.ext_getElem?;intro j;rcases lt_or_ge j z.length with hj|hj
  ·simp[hj,Nat.add_mod,Nat.mod_eq_of_lt hj]
  ·simp[hj]
def z3h (v:Value):AV:=zde (zit v)
theorem zuz (hIT:ITMono IT) {X:Cx}: ∀l:List Value,zbr IT X (l.map z3h) l
 |[]=>rfl
 |v::l=>⟨v,l,rfl,zid (X:=X) (Y:=X) hIT rfl rfl _ _ (.inr rfl) (zjj v),zuz hIT l⟩
def z5j (P:Program)(U:St)(t:TypeId):AV->AV->Option (AV×St)
 | .raw (.int _ l),.raw (.int _ c)=>match P.underlying t with
  | some (.slice e)=>match P.info? e with
   | some i=>match i.zero with
    | some z=>if l=c/\ 0<=l/\ l<=9223372036854775807/\ (i.bytes:Int)*l<=281474976710656/\ z.cells.toList.all (·.oneCell')=true/\ z.cells.size=i.size then
     some (.bsl U.boxes.length 0 l.toNat i.size true,{U with boxes:=U.boxes++[(e,((List.replicate l.toNat z.cells.toList).flatten).map z3h)]}) else none
    |none=>none
   |none=>none
  |_=>none
 |_,_=>none
theorem z0a (hIT:ITMono IT) {P:Program} {X:Cx} {U U':St} {t:TypeId} {x y a:AV} {v u:Value} (h:z5j P U t x y=some (a,U'))(hx:Rep IT X x v)(hy:Rep IT X y u)(hI:Inv IT U X):
 ∃r X',(Instr.makeSlice t v u).run P X.w= .ok r X'.w/\ Ext X X'/\ Inv IT U' X'/\ Rep IT X' a r:=by
 unfold z5j at h;split at h<;>try cases h
 rename_i k1 l k2 c;split at h<;>try cases h
 rename_i e hu;split at h<;>try cases h
 rename_i i hi;split at h<;>try cases h
 rename_i z hz;split at h<;>cases h
 rename_i hc;obtain⟨rfl,h0,h63,hb,h1,hzs⟩:=hc;rw[Rep] at hx hy;subst hx hy;have hrun:=run_make (P:=P) X.w t e i z hu hi hz k1 k2 l l h0 (Int.le_refl _) hb h63;have hcells:madeCells z.cells (l.toNat*i.size)=((List.replicate l.toNat z.cells.toList).flatten).toArray:=by
  apply Array.ext';have:=z0r z.cells.toList default l.toNat
  simp only[Array.length_toList] at this;rw[<-this, <-hzs];simp only[madeCells,Array.toList_map,Array.toList_range];apply List.map_congr_left;intro j hj;simp[getElem!_def,Array.getElem?_toList];split<;>simp_all
 have hone: ∀v∈(List.replicate l.toNat z.cells.toList).flatten,v.oneCell'=true:=fun v hv=>by
  obtain⟨q,h2,h3⟩:=List.mem_flatten.1 hv;rw[List.eq_of_mem_replicate h2] at h3;exact all_eq_true.1 h1 _ h3
 obtain⟨X',x1,x2,x3,x4⟩:=ztm hIT hI (t:=e) (cs:=((List.replicate l.toNat z.cells.toList).flatten).map z3h) (vs:=(List.replicate l.toNat z.cells.toList).flatten) (zuz hIT _) hone;refine⟨_,X',(by rw[x1, <-hcells];exact hrun),x2,x3,?_⟩
 ·obtain⟨b,hb1,hb2⟩: ∃b,X'.κ[U.boxes.length]? =some b/\ Value.pointer (some ⟨X.w.heap.size,0,none⟩)= .pointer (some ⟨b,0,none⟩):=x4;have hb3:b=X.w.heap.size:=by simp at hb2;exact hb2.symm
  subst hb3;show Bsl X' _ _ _ _ _ _;refine⟨_,_,((List.replicate l.toNat z.cells.toList).flatten).toArray,e,hb1,rfl,le_refl _,fun _=>rfl,?_,?_⟩
  ·rw[x1];exact zeu _ _ _ rfl
  ·rw[<-hcells,size_madeCells,Nat.zero_add];exact le_refl _
end Go.Ab
