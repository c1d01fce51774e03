import Derived.Test.YtjkcellkmmfkdaaGreatDoorZdH2
import Derived.Deep.AppendSrc
import Derived.Laws.MakeOwn
import Derived.Laws.CopyRow
import Derived.Laws.Slices
import Derived.Laws.IdiomStrings
set_option linter.all false
open Nat (le_refl le_trans zero_add lt_or_ge)
open List (length_append mem_of_getElem? getElem?_eq_getElem getElem?_append_left mem_append all_eq_true nil_append getElem?_set_ne getElem?_set_self mem_map mem_iff_getElem)
namespace Go.Ab
open Go Go.RowKit Go.Fwd
variable {IT:IterP} {X:Cx} {U:St}
def qer (P:Program)(U:St)(sz:Nat)(t tx:TypeId):AV->Option (Nat×List AV)
 | .list m ds _=>if t=tx/\ ds.length=m*sz/\ 0<sz then some (m,ds) else none
 | .bsl s off m sz' _=>match U.boxes[s]? with
  |some bx=>if t=tx/\ sz'=sz/\ off+m*sz<=bx.2.length then some (m,(bx.2.drop off).take (m*sz)) else none
  |none=>none
 | .raw (.string b)=>match P.underlying tx with|some .string=>if sz=1 then some (b.size,(byteCells b).map .raw) else none|_=>none
 |_=>none
theorem zlj: ∀l:List Value,zbf IT X (l.map .raw) l
 |[]=>by simp[zbf]
 |v::l=>by rw[List.map_cons,zbf];exact⟨v,l,rfl,by rw[Rep],zlj l⟩
theorem zxj {P:Program} {sz m:Nat} {t tx e:TypeId} {y:AV} {u:Value} {ds:List AV} (h:qer P U sz t tx y=some (m,ds))(hu:P.underlying t=some (.slice e))(hy:Rep IT X y u)(hI:Inv IT U X):
 ∃us,Src P sz tx u m us X.w/\ zbf IT X ds us:=by
 unfold qer at h;split at h
 ·rename_i m' ds' st;split at h<;>cases h
  rename_i hc;obtain⟨rfl,hl,hp⟩:=hc;rw[Rep] at hy;obtain⟨ad,cap,rfl,⟨hcap,hnil⟩,hc,_⟩:=hy;rcases hc with rfl|⟨b,o,rfl,hat⟩
  ·have hm:m=0:=by
    rcases Nat.eq_zero_or_pos m with h|h
    ·exact h
    ·have:=Nat.mul_pos h hp;simp at hl;omega
   subst hm;refine⟨[],?_,by rw[zbf]⟩;cases ad with
   |none=>exact Src.ofNil X.w hu cap
   |some a=>exact Src.ofSlice X.w hu a 0 cap [] (by simp) (by simp) (by simp)
  ·obtain⟨us,u1,u2,u3⟩:=zgp hat
   have hul:=zq u1;exact⟨us,Src.ofSlice X.w hu ⟨b,o,none⟩ m cap us (by omega) (fun j w hj=>by rw[zgg];exact u3 j w hj) u2,u1⟩
 ·rename_i s off m' sz' f;split at h<;>try cases h
  rename_i bx hbx;split at h<;>cases h
  rename_i hc;obtain⟨rfl,rfl,hl⟩:=hc;rw[Rep] at hy;obtain⟨b,cap,cur,t0,hk,rfl,hcap,hful,hrow,hfit⟩:=hy;obtain⟨us,u1,u2,u3⟩:=zui hI hk hbx off;refine⟨us.take (m*sz'),?_,zib u1 _⟩;have hul:=zq u1;refine Src.ofSlice X.w hu ⟨b,off,none⟩ m cap _ (by simp at hul⊢;omega) (fun j w hj=> ?_) (fun v hv=>u2 v (List.mem_of_mem_take hv));rw[zgg];rw[List.getElem?_take] at hj;split at hj
  ·exact u3 j w hj
  ·cases hj
 ·rename_i b;split at h<;>try cases h
  rename_i hs;split at h<;>cases h
  rename_i h1;subst h1;rw[Rep] at hy;subst hy;exact⟨byteCells b,Src.ofString X.w hs b,zlj _⟩
 ·cases h
theorem zjd (hIT:ITMono IT) {U:St} {X:Cx} (hI:Inv IT U X):Ext X {X with w:=X.w.drew}/\ Inv IT U {X with w:=X.w.drew}:=by
 have hE:Ext X {X with w:=X.w.drew}:={
  os:=rfl,tape:=rfl,output:=rfl,size:=le_refl _,drawn:=(by first|exact le_refl _|exact Nat.le_succ _)
  F:=fun _ _ h=>h
  cell:=fun _ _ _=>rfl
  κ:=fun _ _ h=>h
  lens:=fun s L h=>⟨L,h,le_refl _,fun _=>rfl⟩
  blk:=fun _ _ _ cur _ _ h=>⟨cur,h,rfl⟩
  szs:=Szs.heap rfl
  frame:=fun _ _ _ _=>rfl
  κnew:=fun _ h=> .inl h
  βnew:=fun r h=> .inl ⟨r,h,rfl⟩
  O:=rfl
  C:=rfl
  Fnew:=fun _ _ h=> .inl h}
 exact⟨hE,{hI with
  gv:=z3s hIT hE hI.gv
  lens:=hI.lens,elems:=hI.elems
  box:=fun s b t cs hs hb=>by
   obtain⟨vs,zs,u1,u2,u3⟩:=hI.box s b t cs hs hb;exact⟨vs,zs,u1,zam hIT hE _ _ u2,u3⟩
  row:=hI.row
  Ok:=hI.Ok
  Fcell:=hI.Fcell}⟩
theorem zsx (hI:Inv IT U X) {s:Nat} {t:TypeId} {cs:List AV} (hb:U.boxes[s]? =some (t,cs)):Inv IT {U with boxes:=U.boxes.set s (t,[])} X:=by
 have hs:s<U.boxes.length:=(List.getElem?_eq_some_iff.1 hb).1;have put: ∀s':Nat,(∃t0:TypeId,U.boxes[s']? =some (t0,[]))-> ∃t0:TypeId,(U.boxes.set s (t,[]))[s']? =some (t0,[]):=fun s' ⟨t0,h⟩=>by
  by_cases e:s=s'
  ·subst e;exact⟨t,by rw[getElem?_set_self hs]⟩
  ·exact⟨t0,by rw[getElem?_set_ne e];exact h⟩
 exact {hI with
  lens:=hI.lens,elems:=hI.elems
  κlen:=by simpa using hI.κlen
  κnd:=fun s1 s2 b h1 h2 h3=>(hI.κnd s1 s2 b h1 h2 h3).imp (put s1) (put s2)
  box:=fun s' b t' cs' hs' hb'=>by
   have hb':(U.boxes.set s (t,[]))[s']? =some (t',cs'):=hb';by_cases e:s=s'
   ·subst e;rw[getElem?_set_self hs] at hb';cases hb';obtain⟨vs,zs,u1,u2,u3⟩:=hI.box s b t cs hs' hb;exact⟨[],vs++zs,u1,by rw[zbf],by simp⟩
   ·rw[getElem?_set_ne e] at hb';exact hI.box s' b t' cs' hs' hb'
  κF :=fun s' b t' cs' hs' hb' hc=>by
   have hb':(U.boxes.set s (t,[]))[s']? =some (t',cs'):=hb';by_cases e:s=s'
   ·subst e;rw[getElem?_set_self hs] at hb';cases hb';exact absurd rfl hc
   ·rw[getElem?_set_ne e] at hb';exact hI.κF s' b t' cs' hs' hb' hc
  row:=hI.row
  Ok:=hI.Ok
  Fcell:=hI.Fcell}
theorem z3p (hIT:ITMono IT) {U:St} {X:Cx} (hI:Inv IT U X) {s b:Nat} {t:TypeId} {cs:List AV} {vs zs:List Value} (hs:X.κ[s]? =some b)(hdead: ∀s':Nat,X.κ[s']? =some b-> ∃t0,U.boxes[s']? =some (t0,[]))
 (hrow:X.w.heap[b]? =some (.cells (vs++zs).toArray t (0,0))) (hr:zbf IT X cs vs) (h1: ∀v∈vs,v.oneCell'=true) (hF: ∀o,¬X.F b o):
 ∃X',X'.w=X.w/\ Ext X X'/\ Inv IT {U with boxes:=U.boxes++[(t,cs)]} X'/\ X'.κ[U.boxes.length]? =some b:=by
 have hbm:b∈X.κ:=mem_of_getElem? hs
 have hE:Ext X {X with κ:=X.κ++[b]}:={
  os:=rfl,tape:=rfl,output:=rfl,size:=le_refl _,drawn:=(by first|exact le_refl _|exact Nat.le_succ _)
  F:=fun _ _ h=>h
  cell:=fun _ _ _=>rfl
  κ :=fun s b' h=>by
   show(X.κ++[b])[s]? =some b'
   rw[getElem?_append_left (List.getElem?_eq_some_iff.1 h).1];exact h
  lens:=fun s L h=>⟨L,h,le_refl _,fun _=>rfl⟩
  blk:=fun _ _ _ cur _ _ h=>⟨cur,h,rfl⟩
  szs:=Szs.heap rfl
  frame:=fun _ _ _ _=>rfl
  κnew:=fun b' h=>by
   rcases mem_append.1 h with h|h
   ·exact .inl h
   ·simp at h;subst h;exact .inl hbm
  βnew:=fun r h=> .inl ⟨r,h,rfl⟩
  O:=rfl
  C:=rfl
  Fnew:=fun _ _ h=> .inl h}
 have hlen:=hI.κlen;have old: ∀(s' b':Nat),(X.κ++[b])[s']? =some b'->(X.κ[s']? =some b'/\ s'<U.boxes.length) \/(s'=U.boxes.length/\ b'=b):=fun s' b' h=>by
  rcases lt_or_ge s' X.κ.length with hlt|hge
  ·rw[getElem?_append_left hlt] at h;exact .inl ⟨h,by omega⟩
  ·have:=(List.getElem?_eq_some_iff.1 h).1;simp at this;have e:s'=X.κ.length:=by omega
   subst e;simp at h;exact .inr ⟨hlen,h.symm⟩
 have up: ∀s':Nat,s'<U.boxes.length->(∃t0:TypeId,U.boxes[s']? =some (t0,[]))-> ∃t':TypeId,(U.boxes++[(t,cs)])[s']? =some (t',[]):=fun s' hs ⟨t0,h⟩=>⟨t0,by rw[getElem?_append_left hs];exact h⟩;have boxOld: ∀(s':Nat) (t':TypeId) (c:List AV),s'<U.boxes.length->(U.boxes++[(t,cs)])[s']? =some (t',c)->U.boxes[s']? =some (t',c):=fun s' t' c hs h=>by rwa[getElem?_append_left hs] at h
 have boxNew: ∀(t':TypeId) (c:List AV),(U.boxes++[(t,cs)])[U.boxes.length]? =some (t',c)->t'=t/\ c=cs:=fun t' c h=>by simp at h;exact⟨h.1.symm,h.2.symm⟩
 refine⟨{X with κ:=X.κ++[b]},rfl,hE,{hI with
  gv:=hI.gv
  lens:=hI.lens,elems:=hI.elems
  κlen:=by simp[hlen]
  κnd:=fun s1 s2 b' h2 h3 h4=> ?_
  box:=fun s' b' t' c hs' hb'=> ?_
  κF:=fun s' b' t' c hs' hb' hc o hf=> ?_
  βκ:=fun r hr' hm=> ?_
  row:=hI.row
  Ok:=fun b' ho=> ?_
  Fcell:=hI.Fcell},by rw[<-hlen];simp⟩
 ·rcases old s1 b' h2 with⟨k2,l2⟩|⟨k2,l2⟩
  ·rcases old s2 b' h3 with⟨k3,l3⟩|⟨k3,l3⟩
   ·exact(hI.κnd s1 s2 b' k2 k3 h4).imp (up s1 l2) (up s2 l3)
   ·subst l3;exact .inl (up s1 l2 (hdead s1 k2))
  ·rcases old s2 b' h3 with⟨k3,l3⟩|⟨k3,l3⟩
   ·subst l2;exact .inr (up s2 l3 (hdead s2 k3))
   ·omega
 ·rcases old s' b' hs' with⟨k2,l2⟩|⟨k2,l2⟩
  ·obtain⟨us,zs',u1,u2,u3⟩:=hI.box s' b' t' c k2 (boxOld s' t' c l2 hb');exact⟨us,zs',u1,zam hIT hE _ _ u2,u3⟩
  ·subst k2 l2;obtain⟨rfl,rfl⟩:=boxNew t' c hb';exact⟨vs,zs,hrow,zam hIT hE _ _ hr,h1⟩
 ·rcases old s' b' hs' with⟨k2,l2⟩|⟨k2,l2⟩
  ·exact hI.κF s' b' t' c k2 (boxOld s' t' c l2 hb') hc o hf
  ·subst l2;exact hF o hf
 ·rcases mem_append.1 hm with hm|hm
  ·exact hI.βκ r hr' hm
  ·simp at hm;exact hI.βκ r hr' (hm▸hbm)
 ·obtain⟨h0,h2,h3,h4⟩:=hI.Ok b' ho;refine⟨h0,fun hm=> ?_,h3,h4⟩;rcases mem_append.1 hm with hm|hm
  ·exact h2 hm
  ·simp at hm;exact h2 (hm▸hbm)
theorem qiy (hIT:ITMono IT) {U:St} {X:Cx} (hI:Inv IT U X) {s:Nat} {t:TypeId} {cs:List AV} (hb:U.boxes[s]? =some (t,cs)):
 ∃X',X'.w=X.w/\ X'.F=X.F/\ X'.β=X.β/\ X'.lens=X.lens/\ X'.O=X.O/\ X'.C=X.C/\ (∃b∈X.κ,X'.κ=X.κ++[b])/\ Ext X X'/\ Inv IT {U with boxes:=U.boxes++[(t,[])]} X':=by
 have hlen:=hI.κlen;have hs:s<U.boxes.length:=(List.getElem?_eq_some_iff.1 hb).1;obtain⟨b,hκ⟩: ∃b,X.κ[s]? =some b:=⟨X.κ[s]'(by omega),getElem?_eq_getElem _⟩;have hbm:=mem_of_getElem? hκ;obtain⟨us,zs,u1,u2,u3⟩:=hI.box s b t cs hκ hb
 have hE:Ext X {X with κ:=X.κ++[b]}:={
  os:=rfl,tape:=rfl,output:=rfl,size:=le_refl _,drawn:=(by first|exact le_refl _|exact Nat.le_succ _)
  F:=fun _ _ h=>h
  cell:=fun _ _ _=>rfl
  κ :=fun s b' h=>by
   show(X.κ++[b])[s]? =some b'
   rw[getElem?_append_left (List.getElem?_eq_some_iff.1 h).1];exact h
  lens:=fun s L h=>⟨L,h,le_refl _,fun _=>rfl⟩
  blk:=fun _ _ _ cur _ _ h=>⟨cur,h,rfl⟩
  szs:=Szs.heap rfl
  frame:=fun _ _ _ _=>rfl
  κnew:=fun b' h=>by
   rcases mem_append.1 h with h|h
   ·exact .inl h
   ·simp at h;subst h;exact .inl hbm
  βnew:=fun r h=> .inl ⟨r,h,rfl⟩
  O:=rfl
  C:=rfl
  Fnew:=fun _ _ h=> .inl h}
 have old: ∀(s' b':Nat),(X.κ++[b])[s']? =some b'->(X.κ[s']? =some b'/\ s'<U.boxes.length) \/(s'=U.boxes.length/\ b'=b):=fun s' b' h=>by
  rcases lt_or_ge s' X.κ.length with hlt|hge
  ·rw[getElem?_append_left hlt] at h;exact .inl ⟨h,by omega⟩
  ·have:=(List.getElem?_eq_some_iff.1 h).1;simp at this;have e:s'=X.κ.length:=by omega
   subst e;simp at h;exact .inr ⟨hlen,h.symm⟩
 have up: ∀s':Nat,s'<U.boxes.length->(∃t0:TypeId,U.boxes[s']? =some (t0,[]))-> ∃t':TypeId,(U.boxes++[(t,[])])[s']? =some (t',[]):=fun s' hs ⟨t0,h⟩=>⟨t0,by rw[getElem?_append_left hs];exact h⟩;have boxOld: ∀(s':Nat) (t':TypeId) (c:List AV),s'<U.boxes.length->(U.boxes++[(t,[])])[s']? =some (t',c)->U.boxes[s']? =some (t',c):=fun s' t' c hs h=>by rwa[getElem?_append_left hs] at h
 have boxNew:(U.boxes++[(t,([]:List AV))])[U.boxes.length]? =some (t,[]):=by simp
 refine⟨{X with κ:=X.κ++[b]},rfl,rfl,rfl,rfl,rfl,rfl,⟨b,hbm,rfl⟩,hE,{hI with
  gv:=hI.gv
  lens:=hI.lens,elems:=hI.elems
  κlen:=by simp[hlen]
  κnd:=fun s1 s2 b' h2 h3 h4=> ?_
  box:=fun s' b' t' c hs' hb'=> ?_
  κF:=fun s' b' t' c hs' hb' hc o hf=> ?_
  βκ:=fun r hr' hm=> ?_
  row:=hI.row
  Ok:=fun b' ho=> ?_
  Fcell:=hI.Fcell}⟩
 ·rcases old s1 b' h2 with⟨k2,l2⟩|⟨k2,l2⟩
  ·rcases old s2 b' h3 with⟨k3,l3⟩|⟨k3,l3⟩
   ·exact(hI.κnd s1 s2 b' k2 k3 h4).imp (up s1 l2) (up s2 l3)
   ·exact .inr ⟨t,by rw[k3];exact boxNew⟩
  ·exact .inl ⟨t,by rw[k2];exact boxNew⟩
 ·rcases old s' b' hs' with⟨k2,l2⟩|⟨k2,l2⟩
  ·obtain⟨us,zs',u1,u2,u3⟩:=hI.box s' b' t' c k2 (boxOld s' t' c l2 hb');exact⟨us,zs',u1,zam hIT hE _ _ u2,u3⟩
  ·subst k2 l2;have:(t,([]:List AV))=(t',c):=Option.some.inj (boxNew.symm.trans hb');cases this;exact⟨[],us++zs,u1,by rw[zbf],by simp⟩
 ·rcases old s' b' hs' with⟨k2,l2⟩|⟨k2,l2⟩
  ·exact hI.κF s' b' t' c k2 (boxOld s' t' c l2 hb') hc o hf
  ·subst k2;have:(t,([]:List AV))=(t',c):=Option.some.inj (boxNew.symm.trans hb');cases this;exact hc rfl
 ·rcases mem_append.1 hm with hm|hm
  ·exact hI.βκ r hr' hm
  ·simp at hm;exact hI.βκ r hr' (hm▸hbm)
 ·obtain⟨h0,h2,h3,h4⟩:=hI.Ok b' ho;refine⟨h0,fun hm=> ?_,h3,h4⟩;rcases mem_append.1 hm with hm|hm
  ·exact h2 hm
  ·simp at hm;exact h2 (hm▸hbm)
def zqz (P:Program)(U:St)(t tx:TypeId)(x y:AV):Option (AV×St):=
 match P.underlying t with
 | some (.slice e)=>match P.info? e with
  | some i=>match i.zero with
   | some z=>match qer P U i.size t tx y with
    | some (m,ds)=>
     if 0 <i.size/\ z.cells.size=i.size/\ 0<m then
      match x with
      | .list n cs .full=>
       if cs.length=n*i.size/\ n+m<=maxLen/\ (n+m)*i.bytes<=140737488355328 then some (.bsl U.boxes.length 0 (n+m) i.size false,{U with boxes:=U.boxes++[(e,cs++ds)]}) else none
      | .bsl s off n sz f=>match U.boxes[s]? with
       | some bx=>
        if sz=i.size/\ n+m<=maxLen/\ (n+m)*i.bytes<=140737488355328/\ off+n*sz<=bx.2.length then
         (if f=true then some (.bsl U.boxes.length 0 (n+m) sz false,{U with boxes:=U.boxes++[(e,(bx.2.drop off).take (n*sz)++ds)]})
         else if off=0/\ n*sz=bx.2.length/\ bx.1=e/\ 0<n then some (.bsl U.boxes.length 0 (n+m) sz false,{U with boxes:=U.boxes.set s (e,[])++[(e,bx.2++ds)]})
         else none)
        else none
       |none=>none
      |_=>none
     else none
    |none=>none
   |none=>none
  |none=>none
 |_=>none
theorem zpn (hIT:ITMono IT) {P:Program} {U:St} {X:Cx} (hI:Inv IT U X) {t tx ty e:TypeId} {i:TypeInfo} {z:Value} (hu:P.underlying t=some (.slice e))(hi:P.info? e=some i)(hz:i.zero=some z)(hsz:0<i.size)(hzs:z.cells.size=i.size)
 {base:Option Addr} {n cap m:Nat} {cs ds:List AV} {vs us:List Value} {u:Value} (hold: ∀w,w.heap=X.w.heap->(Builtin.firstCells i.size n (.slice base n cap)).run P w= .ok vs.toArray w) (hvl:vs.length=n*i.size) (hs:Src P i.size tx u m us X.w)
 (hr1:zbf IT X cs vs) (hr2:zbf IT X ds us) (h1: ∀v∈vs,v.oneCell'=true) (hg:cap<n+m) (hmax:n+m<=maxLen) (hb:(n+m)*i.bytes<=140737488355328):
 ∃r X',(Builtin.append_ #[t,tx] ty #[.slice base n cap,u]).run P X.w= .ok r X'.w/\ Ext X X'/\ Inv IT {U with boxes:=U.boxes++[(e,cs++ds)]} X'/\ Rep IT X' (.bsl U.boxes.length 0 (n+m) i.size false) r:=by
 have hml:((n+m:Nat):Int)<=9223372036854775807:=by unfold maxLen at hmax;omega
 have hrun:=run_append_grow_src (P:=P) X.w t tx ty e i z hu hi hz base n cap vs (hold _ rfl) u m us hs hg hml (growslice_fits hg hb);obtain⟨d1,d2⟩:=zjd hIT hI;have hone: ∀v∈vs++us,v.oneCell'=true:=fun v hv=>(mem_append.1 hv).elim (h1 v) (hs.one v);obtain⟨X',x1,x2,x3,x4⟩:=z8x hIT d2 (t:=e) (Builtin.zeroCells z.cells (grownCap X.w (n+m) cap e-(n+m))).toList (zam hIT d1 _ _ (zbm hr1 hr2)) hone;have hge:=grownCap_ge X.w (n+m) cap e;have hlen:((vs++us).toArray++Builtin.zeroCells z.cells (grownCap X.w (n+m) cap e-(n+m))).size=grownCap X.w (n+m) cap e*i.size:=by
  have:=size_zeroCells z.cells (grownCap X.w (n+m) cap e-(n+m));simp only[Array.size_append,List.size_toArray,length_append,this,hzs,hvl,hs.newsLen, <-Nat.add_mul];congr 1;omega
 have hrow:(vs++us++(Builtin.zeroCells z.cells (grownCap X.w (n+m) cap e-(n+m))).toList).toArray=(vs++us).toArray++Builtin.zeroCells z.cells (grownCap X.w (n+m) cap e-(n+m)):=by
  apply Array.ext';simp
 refine⟨.slice (some ⟨X.w.heap.size,0,none⟩) (n+m) (grownCap X.w (n+m) cap e),X',?_,d1.trans x2,x3,?_⟩
 ·rw[x1,hrow];exact hrun
 ·obtain⟨b,hb1,hb2⟩: ∃b,X'.κ[U.boxes.length]? =some b/\ Value.pointer (some ⟨X.w.heap.size,0,none⟩)= .pointer (some ⟨b,0,none⟩):=x4;have hb3:b=X.w.heap.size:=by simp at hb2;exact hb2.symm
  subst hb3;show Bsl X' _ _ _ _ _ _;refine⟨_,_,(vs++us).toArray++Builtin.zeroCells z.cells (grownCap X.w (n+m) cap e-(n+m)),e,hb1,rfl,hge,(fun h=>by cases h),?_,?_⟩
  ·rw[x1,hrow];exact zea _ _ _ rfl
  ·rw[hlen];simp
theorem z6n (hIT:ITMono IT) {P:Program} {X:Cx} {U U':St} {t tx ty:TypeId} {x y a:AV} {v u:Value} (h:zqz P U t tx x y=some (a,U'))(hx:Rep IT X x v)(hy:Rep IT X y u)(hI:Inv IT U X):
 ∃r X',(Builtin.append_ #[t,tx] ty #[v,u]).run P X.w= .ok r X'.w/\ Ext X X'/\ Inv IT U' X'/\ Rep IT X' a r:=by
 unfold zqz at h;split at h<;>try cases h
 rename_i e hu;split at h<;>try cases h
 rename_i i hi;split at h<;>try cases h
 rename_i z hz;split at h<;>try cases h
 rename_i m ds hsrc;split at h<;>try cases h
 rename_i hc;obtain⟨hsz,hzs,hm⟩:=hc;obtain⟨us,hs,hr2⟩:=zxj hsrc hu hy hI;split at h
 ·rename_i n cs;split at h<;>cases h
  rename_i hc;obtain⟨hl,hmax,hb⟩:=hc;rw[Rep] at hx;obtain⟨ad,cap,rfl,⟨hcap,hnil⟩,hc,rfl⟩:=hx;rcases hc with rfl|⟨b,o,rfl,hat⟩
  ·have hn:cap=0:=by
    rcases Nat.eq_zero_or_pos cap with h|h
    ·exact h
    ·have:=Nat.mul_pos h hsz;simp at hl;omega
   subst hn;exact zpn hIT hI hu hi hz hsz hzs (vs:=[]) (fun w _=>by cases ad<;>simp[Builtin.firstCells,loadCells,loadCellsFrom]) (by simp) hs (by rw[zbf]) hr2 (by simp) (by omega) hmax hb
  ·obtain⟨vs,w1,w2,w3⟩:=zgp hat
   have hvl:=zq w1;exact zpn hIT hI hu hi hz hsz hzs (fun w hw=>run_firstCells_some w i.size cap _ cap cap vs (by omega) (fun j v hj=>by
    rw[zgg];have h2:=w3 j v hj;unfold World.cell? at h2⊢;rw[hw];exact h2)) (by omega) hs w1 hr2 w2 (by omega) hmax hb
 ·rename_i s off n sz f;split at h<;>try cases h
  rename_i bx hbx;obtain⟨t0,cells⟩:=bx;split at h<;>try cases h
  rename_i hc;obtain⟨rfl,hmax,hb,hl⟩:=hc;rw[Rep] at hx;obtain⟨b,cap,cur,t1,hk,rfl,hcap,hful,hrow,hfit⟩:=hx;obtain⟨vs0,w1,w2,w3⟩:=zui hI hk hbx off;have hvl0:=zq w1;simp only at w1 hvl0 hl;have hvl:(vs0.take (n*i.size)).length=n*i.size:=by simp at hvl0⊢;omega
  have hold: ∀w:World,w.heap=X.w.heap->(Builtin.firstCells i.size n (.slice (some ⟨b,off,none⟩) n cap)).run P w= .ok (vs0.take (n*i.size)).toArray w:=fun w hw=>run_firstCells_some w i.size n _ n cap _ hvl (fun j v hj=>by
   rw[zgg];rw[List.getElem?_take] at hj;split at hj
   ·have h2:=w3 j v hj;unfold World.cell? at h2⊢;rw[hw];exact h2
   ·cases hj)
  split at h
  ·rename_i hf;cases h;have:=hful hf;subst this;exact zpn hIT hI hu hi hz hsz hzs hold hvl hs (zib w1 _) hr2 (fun v hv=>w2 v (List.mem_of_mem_take hv)) (by omega) hmax hb
  ·split at h<;>cases h
   rename_i hc;obtain⟨rfl,hnl,rfl,hn⟩:=hc;simp only at hnl hbx;by_cases hroom:n+m<=cap
   ·-- in zft
    obtain⟨vs,zs,k1,k2,k3⟩:=hI.box s b t0 cells hk hbx;have hkl:=zq k2;rw[k1] at hrow;simp only[Option.some.injEq,Obj.cells.injEq,and_true] at hrow;obtain⟨rfl,rfl⟩:=hrow;have hne:cells≠[]:=fun e=>by
     rw[e] at hnl;have:=Nat.mul_pos hn hsz;simp at hnl;omega
    have hnews:=hs.newsLen;have hmn:(n+m)*i.size<=(vs++zs).length:=by
     have:=Nat.mul_le_mul_right i.size hroom;simp at hfit⊢;omega
    rw[Nat.add_mul] at hmn;have hpos:vs.length=n*i.size:=by omega
    have hst:=run_storeCells_at P b (n*i.size) t0 us 0 (vs++zs).toArray X.w k1 (by simp at hmn⊢;omega) hs.one;have hrow2:(vs++zs).toArray.toList.take (n*i.size+0)++us++(vs++zs).toArray.toList.drop (n*i.size+0+us.length)=vs++us++zs.drop us.length:=by
     simp only[Nat.add_zero];rw[<-hpos,List.take_left',List.drop_append]
     ·simp
     ·rfl
    rw[hrow2] at hst;have hrun:(Builtin.append_ #[t,tx] ty #[.slice (some ⟨b,0,none⟩) n cap,u]).run P X.w= .ok (.slice (some ⟨b,0,none⟩) (n+m) cap) (X.w.setRow b (vs++us++zs.drop us.length).toArray):=by
     rcases hs.kind with⟨e',hk'⟩|hk'<;>simp[Builtin.append_,run_underlying hu,run_underlying hk',sizeOf,typeInfo,program,Sem.run,hi,hs.len,hroom,hs.cells,Addr.add_lit,hst]
    have hdead: ∀s':Nat,X.κ[s']? =some b->s'≠s-> ∃t2,U.boxes[s']? =some (t2,[]):=fun s' h2 h3=>by
     rcases hI.κnd s' s b h2 hk h3 with h4|⟨t2,h5⟩
     ·exact h4
     ·rw[hbx] at h5;cases h5;exact absurd rfl hne
    have hnf:=hI.κF s b t0 cells hk hbx hne;have hlen2:(vs++us++zs.drop us.length).length=(vs++zs).length:=by simp at hmn⊢;omega
    obtain⟨e1,e2⟩:=zur hIT hI (cs':=[]) (vs':=[]) (zs:=vs++us++zs.drop us.length) hk hbx hne (fun cur t f hc=>by rw[k1] at hc;cases hc;rw[nil_append,hlen2];simp) (by rw[zbf]) (by simp);rw[nil_append] at e1 e2;have hs':s<U.boxes.length:=(List.getElem?_eq_some_iff.1 hbx).1;obtain⟨X',x1,x2,x3,x4⟩:=z3p hIT e2 (s:=s) (b:=b) (t:=t0) (cs:=cells++ds) (vs:=vs++us) (zs:=zs.drop us.length) hk (fun s' h2=>by
     show ∃t2,(U.boxes.set s (t0,[]))[s']? =some (t2,[]);by_cases e:s=s'
     ·subst e;exact⟨t0,by rw[getElem?_set_self hs']⟩
     ·rw[getElem?_set_ne e];exact hdead s' h2 (Ne.symm e)) (setRow_heap _ _ _ _ _ _ k1)
     (zam hIT e1 _ _ (zbm k2 hr2)) (fun v hv=>(mem_append.1 hv).elim (k3 v) (hs.one v)) hnf
    refine⟨_,X',by rw[x1];exact hrun,e1.trans x2,x3,?_⟩;rw[Rep];have hx4:X'.κ[U.boxes.length]? =some b:=by
     have:=x4;simpa using this
    refine⟨b,cap,(vs++us++zs.drop us.length).toArray,t0,hx4,rfl,hroom,(fun h=>by cases h),by rw[x1];exact setRow_heap _ _ _ _ _ _ k1,?_⟩;simp only[List.size_toArray,hlen2];simpa using hfit
   ·have hK:=zsx hI hbx;have hdrop:(cells.drop 0)=cells:=rfl;rw[List.drop_zero] at w1;have htake:vs0.take (n*i.size)=vs0:=by
     apply List.take_of_length_le;simp at hvl0;omega
    rw[htake] at hold hvl;have:=zpn hIT hK (ty:=ty) hu hi hz hsz hzs hold hvl hs w1 hr2 w2 (by omega) hmax hb;simpa using this
 ·cases h
def qcy (P:Program)(U:St)(t tx:TypeId)(x y:AV):Option (AV×St):=
 match P.underlying t with
 | some (.slice e)=>match P.info? e with
  | some i=>match i.zero with
   | some z=>match qer P U i.size t tx y with
    | some (m,ds)=>match x with
     | .bsl s off n sz f=>
      if m=0 then some (.bsl s off n sz f,U)
      else match U.boxes[s]? with
       | some bx=>
        if sz=i.size/\ 0<i.size/\ z.cells.size=i.size/\ m<=maxLen/\ m*i.bytes<=140737488355328/\ off=0/\ n=0/\ bx.1=e/\ 0<bx.2.length/\ f=false then
         some (.bsl U.boxes.length 0 m sz false,{U with boxes:=U.boxes.set s (e,[])++[(e,ds)]})
        else none
       |none=>none
     |_=>none
    |none=>none
   |none=>none
  |none=>none
 |_=>none
theorem z5k (hIT:ITMono IT) {P:Program} {X:Cx} {U U':St} {t tx ty:TypeId} {x y a:AV} {v u:Value} (h:qcy P U t tx x y=some (a,U'))(hx:Rep IT X x v)(hy:Rep IT X y u)(hI:Inv IT U X):
 ∃r X',(Builtin.append_ #[t,tx] ty #[v,u]).run P X.w= .ok r X'.w/\ Ext X X'/\ Inv IT U' X'/\ Rep IT X' a r:=by
 unfold qcy at h;split at h<;>try cases h
 rename_i e hu;split at h<;>try cases h
 rename_i i hi;split at h<;>try cases h
 rename_i z hz;split at h<;>try cases h
 rename_i m ds hsrc;obtain⟨us,hs,hr2⟩:=zxj hsrc hu hy hI;have hnews:=hs.newsLen;split at h<;>try cases h
 rename_i s off n sz f;have hx0:=hx;rw[Rep] at hx;obtain⟨b,cap,cur,t1,hk,rfl,hcap,hful,hrow,hfit⟩:=hx;split at h
 ·rename_i hm;subst hm;cases h;have hus:us=[]:=List.length_eq_zero_iff.1 (by simpa using hnews);subst hus;refine⟨.slice (some ⟨b,off,none⟩) n cap,X,?_,Ext.refl X,hI,hx0⟩;have hroom:n+0<=cap:=hcap;rcases hs.kind with⟨e',hk'⟩|hk'<;>simp[Builtin.append_,run_underlying hu,run_underlying hk',sizeOf,typeInfo,program,Sem.run,hi,hs.len,hcap,hs.cells,storeCells]
 ·rename_i hm;split at h<;>try cases h
  rename_i bx hbx;obtain⟨t0,cells⟩:=bx;split at h<;>cases h
  rename_i hc;obtain⟨rfl,hsz,hzs,hmax,hb,rfl,rfl,rfl,hne,rfl⟩:=hc;simp only at hne hbx;by_cases hroom:m<=cap
  ·obtain⟨vs,zs,k1,k2,k3⟩:=hI.box s b t0 cells hk hbx;rw[k1] at hrow;simp only[Option.some.injEq,Obj.cells.injEq,and_true] at hrow;obtain⟨rfl,rfl⟩:=hrow;have hne':cells≠[]:=fun e=>by rw[e] at hne;simp at hne
   have hmn:us.length<=(vs++zs).length:=by
    have:=Nat.mul_le_mul_right i.size hroom;simp at hfit⊢;omega
   have hst:=run_storeCells_at P b 0 t0 us 0 (vs++zs).toArray X.w k1 (by simp at hmn⊢;omega) hs.one;have hrow2:(vs++zs).toArray.toList.take (0+0)++us++(vs++zs).toArray.toList.drop (0+0+us.length)=us++(vs++zs).drop us.length:=by simp
   rw[hrow2] at hst;have hrun:(Builtin.append_ #[t,tx] ty #[.slice (some ⟨b,0,none⟩) 0 cap,u]).run P X.w= .ok (.slice (some ⟨b,0,none⟩) m cap) (X.w.setRow b (us++(vs++zs).drop us.length).toArray):=by
    have hroom':0+m<=cap:=by omega
    rcases hs.kind with⟨e',hk'⟩|hk'<;>simp[Builtin.append_,run_underlying hu,run_underlying hk',sizeOf,typeInfo,program,Sem.run,hi,hs.len,hroom,hs.cells,Addr.add_lit,hst]
   have hdead: ∀s':Nat,X.κ[s']? =some b->s'≠s-> ∃t2,U.boxes[s']? =some (t2,[]):=fun s' h2 h3=>by
    rcases hI.κnd s' s b h2 hk h3 with h4|⟨t2,h5⟩
    ·exact h4
    ·rw[hbx] at h5;cases h5;exact absurd rfl hne'
   have hnf:=hI.κF s b t0 cells hk hbx hne';have hlen2:(us++(vs++zs).drop us.length).length=(vs++zs).length:=by
    rw[length_append,List.length_drop];omega
   obtain⟨e1,e2⟩:=zur hIT hI (cs':=[]) (vs':=[]) (zs:=us++(vs++zs).drop us.length) hk hbx hne' (fun cur t f hc=>by rw[k1] at hc;cases hc;rw[nil_append,hlen2];simp) (by rw[zbf]) (by simp);rw[nil_append] at e1 e2;have hs':s<U.boxes.length:=(List.getElem?_eq_some_iff.1 hbx).1;obtain⟨X',x1,x2,x3,x4⟩:=z3p hIT e2 (s:=s) (b:=b) (t:=t0) (cs:=ds) (vs:=us) (zs:=(vs++zs).drop us.length) hk (fun s' h2=>by
    show ∃t2,(U.boxes.set s (t0,[]))[s']? =some (t2,[]);by_cases e:s=s'
    ·subst e;exact⟨t0,by rw[getElem?_set_self hs']⟩
    ·rw[getElem?_set_ne e];exact hdead s' h2 (Ne.symm e)) (setRow_heap _ _ _ _ _ _ k1)
    (zam hIT e1 _ _ hr2) (fun v hv=>hs.one v hv) hnf
   refine⟨_,X',by rw[x1];exact hrun,e1.trans x2,x3,?_⟩;rw[Rep];have hx4:X'.κ[U.boxes.length]? =some b:=by
    have:=x4;simpa using this
   refine⟨b,cap,(us++(vs++zs).drop us.length).toArray,t0,hx4,rfl,hroom,(fun h=>by cases h),by rw[x1];exact setRow_heap _ _ _ _ _ _ k1,?_⟩;simp only[List.size_toArray,hlen2];simpa using hfit
  ·have hK:=zsx hI hbx;have:=zpn hIT hK (ty:=ty) (base:=some ⟨b,0,none⟩) (n:=0) (cap:=cap) (cs:=[]) (vs:=[]) hu hi hz hsz hzs (fun w _=>run_firstCells_some w i.size 0 _ 0 cap [] (by simp) (by simp)) (by simp) hs (by rw[zbf]) hr2 (by simp) (by omega) (by omega) (by simpa using hb);simpa using this
def zym (P:Program)(U:St)(t tx:TypeId)(x y:AV):Option (AV×St):=
 match P.underlying t,P.underlying tx,x,y with
 | some (.slice e),some .string,.list n cs st,.raw (.string b)=>match P.info? e with
  | some i=>match i.zero with
   | some z=>
    if b.size=0/\ i.size=1 then some (.list n cs st,U)
    else if cs.length=n*i.size/\ i.size=1/\ 0<b.size/\ z.cells.size=i.size/\ 0<i.size/\ n+b.size<=maxLen/\ (n+b.size)*i.bytes<=140737488355328 then
     match st with
     | .none=>none
     | .full=>some (.list (n+b.size) (cs++(byteCells b).map AV.raw) (.own U.lens.length),{U with lens:=U.lens++[(n+b.size)*i.size],elems:=U.elems++[e]})
     | .own s=>if U.lens[s]? =some cs.length/\ U.elems[s]? =some e/\ 0<n then some (.list (n+b.size) (cs++(byteCells b).map AV.raw) (.own s),{U with lens:=U.lens.set s ((n+b.size)*i.size)}) else none
    else none
   |none=>none
  |none=>none
 |_,_,_,_=>none
theorem zsd {P:Program} (w:World)(t tx ty e:TypeId)(i:TypeInfo)(ht:P.underlying t=some (.slice e))(hi:P.info? e=some i)
 (g sLen sCap:Nat) (cur:Array Value) (fz:Nat×Nat) (hg:w.heap[g]? =some (.cells cur e fz)) (hfz:fz.2<=sLen*i.size) (u:Value) (m:Nat) (news:List Value) (hs:Src P i.size tx u m news w)
 (hroom:sLen+m<=sCap) (hfit:sLen*i.size+news.length<=cur.size):
 (Builtin.append_ #[t,tx] ty #[.slice (some ⟨g,0,none⟩) sLen sCap,u]).run P w=
  .ok (.slice (some ⟨g,0,none⟩) (sLen+m) sCap) (w.setRow g (cur.toList.take (sLen*i.size)++news++cur.toList.drop (sLen*i.size+news.length)).toArray):=by
 have hst:=run_storeCells_atF P g (sLen*i.size) e fz news 0 cur w hg (by simpa using hfz) (by simpa using hfit) hs.one;simp only[Nat.add_zero] at hst;rcases hs.kind with⟨e',hk'⟩|hk'<;>simp[Builtin.append_,run_underlying ht,run_underlying hk',sizeOf,typeInfo,program,Sem.run,hi,hs.len,hroom,hs.cells,Addr.add_lit,hst]
theorem ztv {IT:IterP} (hIT:ITMono IT) {P:Program} {X:Cx} {U U':St} {t tx ty:TypeId} {x y a:AV} {v u:Value} (h:zym P U t tx x y=some (a,U'))(hx:Rep IT X x v)(hy:Rep IT X y u)(hI:Inv IT U X):
 ∃r X',(Builtin.append_ #[t,tx] ty #[v,u]).run P X.w= .ok r X'.w/\ Ext X X'/\ Inv IT U' X'/\ Rep IT X' a r:=by
 unfold zym at h;split at h<;>try cases h
 rename_i e n cs st bb hu htx;split at h<;>try cases h
 rename_i i hi;split at h<;>try cases h
 rename_i z hz;have hx0:=hx;rw[Rep] at hx;obtain⟨ad,cap,rfl,⟨hcap,hnil⟩,hc,hst⟩:=hx;have hy':u= .string bb:=hy;subst hy';split at h
 ·rename_i hm;cases h;obtain⟨hm,hsz1⟩:=hm;have hb0:bb=ByteArray.empty:=by
   apply ByteArray.ext;exact Array.eq_empty_of_size_eq_zero hm
  refine⟨.slice ad n cap,X,?_,Ext.refl X,hI,hx0⟩;subst hb0;have hs:=Src.ofString (P:=P) X.w htx ByteArray.empty;have h1:=hs.len;have h2:=hs.cells;have hn:n+0<=cap:=by omega
  rw[show ByteArray.empty.size=0 from rfl] at h1 h2;rw[show byteCells ByteArray.empty=[] from rfl] at h2;cases ad<;>simp[Builtin.append_,run_underlying hu,run_underlying htx,sizeOf,typeInfo,program,Sem.run,hi,hsz1,h1,h2,storeCells,hcap]
 ·split at h<;>try cases h
  rename_i hcond;obtain⟨q1,q2,q3,q4,q5,q6,q7⟩:=hcond;obtain⟨m,hm⟩: ∃m,m=bb.size:=⟨_,rfl⟩;obtain⟨us,hus⟩: ∃us,us=byteCells bb:=⟨_,rfl⟩;obtain⟨ds,hds0⟩: ∃ds,ds=(byteCells bb).map AV.raw:=⟨_,rfl⟩;have hs:Src P i.size tx (.string bb) m us X.w:=by rw[hus,hm,q2];exact Src.ofString X.w htx bb
  simp only[<-hm, <-hds0] at h q3 q6 q7;have u1:zbf IT X ds us:=by rw[hds0,hus];exact zlj _
  have u2: ∀w∈us,w.oneCell'=true:=hs.one;have hul:=zq u1;have q2':ds.length=m*i.size:=by rw[hul];exact hs.newsLen
  have hup:0<us.length:=by have:=Nat.mul_pos q3 q5;have:=hs.newsLen;omega
  have hml:((n+m:Nat):Int)<=9223372036854775807:=by unfold maxLen at q6;omega
  have hnm:(n+m)*i.size=n*i.size+m*i.size:=Nat.add_mul _ _ _
  -- the old cells
  obtain⟨vs,v1,v2,v3⟩: ∃vs:List Value,zbf IT X cs vs/\ (∀w∈vs,w.oneCell'=true)/\ ∀b o,ad=some ⟨b,o,none⟩-> ∀(j:Nat) w,vs[j]? =some w->X.w.cell? ((⟨b,o,none⟩:Addr).add j)=some w:=by
   rcases hc with rfl|⟨b,o,rfl,hat⟩
   ·exact⟨[],by rw[zbf],by simp,by simp⟩
   ·obtain⟨vs,w1,w2,w3⟩:=zgp hat
    exact⟨vs,w1,w2,fun b' o' e' j w hj=>by cases e';rw[zgg];exact w3 j w hj⟩
  have hvl:=zq v1;have hone: ∀w∈vs++us,w.oneCell'=true:=fun w hw=>(mem_append.1 hw).elim (v2 w) (u2 w);have hz2: ∀c,n+m<=c->(vs++us++(Builtin.zeroCells z.cells (c-(n+m))).toList).length=c*i.size:=fun c hcc=>by
   have:=size_zeroCells z.cells (c-(n+m));simp only[length_append,Array.length_toList,this,q4, <-hvl, <-hul,q1,q2', <-Nat.add_mul];congr 1;omega
  -- where it grows
  have grow: ∀(c0:Nat) (hlt:c0<n+m),c0=cap-> ∃r,(Builtin.append_ #[t,tx] ty #[.slice ad n cap,.string bb]).run P X.w=
   .ok (.slice (some ⟨X.w.heap.size,0,none⟩) (n+m) r) (X.w.drew.alloc (.cells (vs++us++(Builtin.zeroCells z.cells (r-(n+m))).toList).toArray e))/\ n+m<=r/\ r<=maxLen:=fun c0 hlt ec=>by
   subst ec;refine⟨grownCap X.w (n+m) c0 e,?_,grownCap_ge _ _ _ _,grownCap_le_maxLen _ _ _ _ q6⟩;have hold: ∀w:World,w.heap=X.w.heap->(Builtin.firstCells i.size n (.slice ad n c0)).run P w= .ok vs.toArray w:=fun w hw=>by
    rcases hc with rfl|⟨b,o,rfl,hat⟩
    ·have hn0:n=0:=by
      have:n*i.size=0:=by simpa using q1.symm
      rcases Nat.mul_eq_zero.1 this with h|h
      ·exact h
      ·omega
     subst hn0;have hvs:vs=[]:=by rw[zbf] at v1;exact v1
     subst hvs;cases ad<;>simp[Builtin.firstCells,loadCells,loadCellsFrom]
    ·exact run_firstCells_some w i.size n _ n c0 vs (by omega) (fun j v hj=>by
      have h2:=v3 b o rfl j v hj;unfold World.cell? at h2⊢;rw[hw];exact h2)
   have hr:=run_append_grow_src (P:=P) X.w t tx ty e i z hu hi hz ad n c0 vs (hold _ rfl) (.string bb) m us hs hlt (by omega) (growslice_fits hlt q7);rw[hr];congr 2
   simp
  have hlens:X.lens=U.lens:=hI.lens;have hbl:=hI.βlen;have hvu:(vs++us).length=(n+m)*i.size:=by rw[length_append, <-hvl, <-hul];omega
  have hcd:(cs++ds).length=(n+m)*i.size:=by rw[length_append];omega
  cases st with
  |none=>cases h
  | full=>
   simp only[Option.some.injEq,Prod.mk.injEq] at h;obtain⟨rfl,rfl⟩:=h;simp only at hst;subst hst;obtain⟨r,g1,g2,g3⟩:=grow cap (by omega) rfl
   obtain⟨X',x1,x2,x3,x4,x5,x6⟩:=zqx hIT hI (e:=e) (zbm v1 u1) hone i.size r q5 g3 (hz2 r g2)
    (β':=X.β++[⟨X.w.heap.size,e,i.size,r⟩]) (lens':=U.lens++[(cap+m)*i.size]) (elems':=U.elems++[e])
    (fun s L hs=>⟨L,by rw[<-hlens,getElem?_append_left (List.getElem?_eq_some_iff.1 hs).1];exact hs,le_refl _,fun _=>by
     rw[getElem?_append_left];rw[hbl];exact(List.getElem?_eq_some_iff.1 hs).1⟩)
    (by simp[hbl,hlens]) (by simp[hI.elems])
    (fun s q L hq hL=>by
     rcases lt_or_ge s X.β.length with hlt|hge
     ·rw[getElem?_append_left hlt] at hq;rw[<-hlens,getElem?_append_left (by omega)] at hL;exact .inl ⟨hq,hL⟩
     ·right
      have h0:s=X.β.length:=by
       have:=(List.getElem?_eq_some_iff.1 hq).1;simp at this;omega
      subst h0;rw[<-hlens,hbl] at hL;simp at hq hL;exact⟨hq.symm,by rw[hvu];exact hL.symm⟩)
    (by
     rw[List.map_append];refine List.nodup_append.2 ⟨hI.βnd,by simp,fun a ha b hb e=> ?_⟩;obtain⟨q,hq,rfl⟩:=mem_map.1 ha;have:=hI.βlt hq;simp at hb;omega)
   refine⟨_,X',by rw[x1];exact g1,x2,x3,?_⟩;rw[Rep];refine⟨_,_,rfl,⟨g2,fun e=>by cases e⟩,.inr ⟨_,_,rfl,x4⟩,(cap+m)*i.size,?_,by omega,fun _=>⟨⟨X.w.heap.size,e,i.size,r⟩,?_,rfl,rfl,hcd⟩⟩
   ·rw[x6];simp
   ·rw[x5, <-hlens, <-hbl];simp
  | own s=>
   simp only at h;split at h<;>try cases h
   rename_i hown;obtain⟨w1,w2,w3⟩:=hown;obtain⟨L,k1,k2,k3⟩:=hst;have hLc:cs.length=L:=by rw[hlens] at k1;rw[k1] at w1;exact(Option.some.inj w1).symm
   obtain⟨r,k4,k5,rfl,k7⟩:=k3 hLc;subst hLc;have hsr:r.size=i.size:=by
    have:n*r.size=n*i.size:=by omega
    exact Nat.eq_of_mul_eq_mul_left w3 this
   have hre:r.elem=e:=by
    have h1:(X.β.map (·.elem))[s]? =some e:=by rw[hI.elems];exact w2
    rw[List.getElem?_map,k4] at h1;simpa using h1
   have hsl:s<X.lens.length:=(List.getElem?_eq_some_iff.1 k1).1;obtain⟨cur,fz,c1,c2,c3,c4,c5,c6,c7⟩:=hI.row s r cs.length k4 k1;subst k5;by_cases hroom:n+m<=r.cap
   ·have hfit:cs.length+us.length<=cur.size:=by
     rw[c2,hsr];have:=Nat.mul_le_mul_right i.size hroom;omega
    obtain⟨X',x1,x2,x3,x4,x5,x6⟩:=zqk hIT hI k4 k1 c1 u1 u2 hup hfit;have hr:=zsd (P:=P) X.w t tx ty e i hu hi r.block n r.cap cur fz (by rw[<-hre];exact c1) (by omega) (.string bb) m us hs hroom (by omega);have hlen2:cs.length+us.length=(n+m)*i.size:=by omega
    rw[hlen2] at x3 x6;refine⟨.slice (some ⟨r.block,0,none⟩) (n+m) r.cap,X',?_,x2,x3,?_⟩
    ·rw[x1,hr,q1]
    ·rw[Rep];have hold:At IT X' cs r.block 0:=z5j hIT x2 _ _ _ (by
      rcases hc with rfl|⟨b,o,e1,hat⟩
      ·rw[At];trivial
      ·cases e1;exact hat)
     refine⟨_,_,rfl,⟨hroom,fun e=>by cases e⟩,.inr ⟨_,_,rfl,zov hold (by rw[zero_add];exact x4)⟩,(n+m)*i.size,?_,by omega,fun _=>⟨r,by rw[x5];exact k4,rfl,rfl,by rw[hcd,hsr]⟩⟩;rw[x6];simp[hsl]
   ·obtain⟨c,g1,g2,g3⟩:=grow r.cap (by omega) rfl
    obtain⟨X',x1,x2,x3,x4,x5,x6⟩:=zqx hIT hI (e:=e) (zbm v1 u1) hone i.size c q5 g3 (hz2 c g2)
     (β':=X.β.set s ⟨X.w.heap.size,e,i.size,c⟩) (lens':=U.lens.set s ((n+m)*i.size)) (elems':=U.elems)
     (fun s' L hs=>by
      by_cases es:s'=s
      ·subst es;rw[k1] at hs;cases hs;have:=Nat.mul_pos q3 q5;exact⟨(n+m)*i.size,by rw[<-hlens];simp[hsl],by omega,fun e=>by omega⟩
      ·exact⟨L,by rw[<-hlens,getElem?_set_ne (Ne.symm es)];exact hs,le_refl _,fun _=>by rw[getElem?_set_ne (Ne.symm es)]⟩)
     (by simp[hbl,hlens])
     (by
      rw[<-hI.elems,List.map_set];apply List.ext_getElem?;intro j;by_cases ej:s=j
      ·subst ej;rw[getElem?_set_self (by simp;omega),List.getElem?_map,k4];simp[hre]
      ·rw[getElem?_set_ne ej])
     (fun s' q L hq hL=>by
      by_cases es:s'=s
      ·subst es;right
       rw[getElem?_set_self (by omega)] at hq;rw[<-hlens,getElem?_set_self hsl] at hL;cases hq;cases hL;exact⟨rfl,hvu.symm⟩
      ·left
       rw[getElem?_set_ne (Ne.symm es)] at hq;rw[<-hlens,getElem?_set_ne (Ne.symm es)] at hL;exact⟨hq,hL⟩)
     (by
      rw[List.map_set];have hnd:=hI.βnd;have hfresh:X.w.heap.size∉X.β.map (·.block):=fun hm=>by
       obtain⟨q,hq,e'⟩:=mem_map.1 hm;have:=hI.βlt hq;omega
      exact zfu _ _ _ hnd hfresh)
    refine⟨_,X',by rw[x1];exact g1,x2,x3,?_⟩;rw[Rep];refine⟨_,_,rfl,⟨g2,fun e=>by cases e⟩,.inr ⟨_,_,rfl,x4⟩,(n+m)*i.size,?_,by omega,fun _=>⟨⟨X.w.heap.size,e,i.size,c⟩,?_,rfl,rfl,hcd⟩⟩
    ·rw[x6, <-hlens];simp[hsl]
    ·rw[x5,getElem?_set_self (by omega)]
theorem z4a (z:List Value)(d:Value): ∀n:Nat,(List.range (n*z.length)).map (fun i=>z[i%z.length]?.getD d)=(List.replicate n z).flatten
 |0=>by simp
 | n+1=>by
  rw[Nat.add_mul,Nat.one_mul,List.range_add,List.map_append,z4a z d n,List.replicate_succ',List.flatten_append];congr 1
  simp only[List.flatten_cons,List.flatten_nil,List.append_nil];apply List.ext_getElem?;intro j;rcases lt_or_ge j z.length with hj|hj
  ·simp[hj,Nat.add_mod,Nat.mod_eq_of_lt hj]
  ·simp[hj]
def z6x (v:Value):AV:=zcz (zkx v)
theorem zxh {IT:IterP} (hIT:ITMono IT) {X:Cx}: ∀l:List Value,zbf IT X (l.map z6x) l
 |[]=>rfl
 |v::l=>⟨v,l,rfl,zio (X:=X) (Y:=X) hIT rfl rfl _ _ (.inr rfl) (zjx v),zxh hIT l⟩
def z9k (P:Program)(U:St)(t:TypeId):AV->AV->Option (AV×St)
 | .raw (.int _ l),.raw (.int _ c)=>match P.underlying t with
  | some (.slice e)=>match P.info? e with
   | some i=>match i.zero with
    | some z=>if l=c/\ 0<=l/\ l<=9223372036854775807/\ (i.bytes:Int)*l<=281474976710656/\ z.cells.toList.all (·.oneCell')=true/\ z.cells.size=i.size then
     some (.bsl U.boxes.length 0 l.toNat i.size true,{U with boxes:=U.boxes++[(e,((List.replicate l.toNat z.cells.toList).flatten).map z6x)]}) else none
    |none=>none
   |none=>none
  |_=>none
 |_,_=>none
theorem z3h {IT:IterP} (hIT:ITMono IT) {P:Program} {X:Cx} {U U':St} {t:TypeId} {x y a:AV} {v u:Value} (h:z9k P U t x y=some (a,U'))(hx:Rep IT X x v)(hy:Rep IT X y u)(hI:Inv IT U X):
 ∃r X',(Instr.makeSlice t v u).run P X.w= .ok r X'.w/\ Ext X X'/\ Inv IT U' X'/\ Rep IT X' a r:=by
 unfold z9k at h;split at h<;>try cases h
 rename_i k1 l k2 c;split at h<;>try cases h
 rename_i e hu;split at h<;>try cases h
 rename_i i hi;split at h<;>try cases h
 rename_i z hz;split at h<;>cases h
 rename_i hc;obtain⟨rfl,h0,h63,hb,h1,hzs⟩:=hc;rw[Rep] at hx hy;subst hx hy;have hrun:=run_make (P:=P) X.w t e i z hu hi hz k1 k2 l l h0 (Int.le_refl _) hb h63;have hcells:madeCells z.cells (l.toNat*i.size)=((List.replicate l.toNat z.cells.toList).flatten).toArray:=by
  apply Array.ext';have:=z4a z.cells.toList default l.toNat
  simp only[Array.length_toList] at this;rw[<-this, <-hzs];simp only[madeCells,Array.toList_map,Array.toList_range];apply List.map_congr_left;intro j hj;simp[getElem!_def,Array.getElem?_toList];split<;>simp_all
 have hone: ∀v∈(List.replicate l.toNat z.cells.toList).flatten,v.oneCell'=true:=fun v hv=>by
  obtain⟨q,h2,h3⟩:=List.mem_flatten.1 hv;rw[List.eq_of_mem_replicate h2] at h3;exact all_eq_true.1 h1 _ h3
 obtain⟨X',x1,x2,x3,x4⟩:=z0d hIT hI (t:=e) (cs:=((List.replicate l.toNat z.cells.toList).flatten).map z6x) (vs:=(List.replicate l.toNat z.cells.toList).flatten) (zxh hIT _) hone;refine⟨_,X',(by rw[x1, <-hcells];exact hrun),x2,x3,?_⟩
 ·obtain⟨b,hb1,hb2⟩: ∃b,X'.κ[U.boxes.length]? =some b/\ Value.pointer (some ⟨X.w.heap.size,0,none⟩)= .pointer (some ⟨b,0,none⟩):=x4;have hb3:b=X.w.heap.size:=by simp at hb2;exact hb2.symm
  subst hb3;show Bsl X' _ _ _ _ _ _;refine⟨_,_,((List.replicate l.toNat z.cells.toList).flatten).toArray,e,hb1,rfl,le_refl _,fun _=>rfl,?_,?_⟩
  ·rw[x1];exact zea _ _ _ rfl
  ·rw[<-hcells,size_madeCells,zero_add];exact le_refl _
variable {U U':St} {y:AV} {X Y Z X' X0:Cx} {c:Bool} {ρ:Operand->AV} {o:Oper} {S:List AV} {n:Nat}
def aop (P:Program)(ρ:Operand->AV)(U:St)(o:Oper):Option (AV×St):=
 match qop P ρ U o with
 |some a=>some (a,U)
 | none=>match o.op with
  | .alloc t=>z8z P U t
  | .box t x=>aBox U t (ρ x)
  | .store t x y=>match zpp P U t (ρ x) (ρ y) with|some U'=>some (.raw undef,U')|none=>none
  | .call c=>match c.callee,c.args.toList,c.argTypes.toList with
   | .builtin .append,[x,y],[t,t']=>if t=t' then zfv P U t (ρ x) (ρ y) else zym P U t t' (ρ x) (ρ y)
   |_,_,_=>none
  |_=>none
theorem zvf {IT:IterP} (hIT:ITMono IT) {P:Program} {X:Cx} {U U':St} {ρ:Operand->AV} {ρc:Operand->Value} {o:Oper} {a:AV} (h:aop P ρ U o=some (a,U'))(hρ: ∀x∈o.op.operands,Rep IT X (ρ x) (ρc x))(hI:Inv IT U X):
 Res IT X U' a ((execOp ρc o).run P X.w):=by
 unfold aop at h;split at h
 ·rename_i b hb;cases h;obtain⟨v,X',h1,h2,h3,h4,_⟩:=zpo hIT hb hρ hI;exact⟨v,X',.inl h1,h2,h3,h4⟩
 ·split at h
  ·rename_i t ho;obtain⟨X',h1,h2,h3,h4⟩:=z3u hIT (P:=P) (old:= .tuple #[]) h hI;exact⟨_,X',.inl (by simp[execOp,ho,h1]),h2,h3,h4⟩
  ·rename_i t x ho;obtain⟨X',h1,h2,h3,h4⟩:=zxq hIT (P:=P) h (hρ x (by simp[ho,Op.operands])) hI;exact⟨_,X',.inl (by simp[execOp,ho,h1]),h2,h3,h4⟩
  ·rename_i t x y ho;split at h<;>cases h
   rename_i U1 hs;obtain⟨X',h1,h2,h3⟩:=z4k hIT (P:=P) hs (hρ x (by simp[ho,Op.operands])) (hρ y (by simp[ho,Op.operands])) hI;exact⟨undef,X',.inr ⟨by simp[execOp,ho,h1],rfl⟩,h2,h3,by rw[Rep]⟩
  ·rename_i c ho;split at h<;>try cases h
   rename_i x y t t' hc hargs htys;have e1:c.args= #[x,y]:=by apply Array.ext';simpa using hargs
   split at h
   rotate_left
   ·have e2:c.argTypes= #[t,t']:=by apply Array.ext';simpa using htys
    obtain⟨r,X',h1,h2,h3,h4⟩:=ztv hIT (P:=P) (ty:=o.type) h (hρ x (by simp[ho,Op.operands,Call.operands,e1])) (hρ y (by simp[ho,Op.operands,Call.operands,e1])) hI;exact⟨r,X',.inl (by simp[execOp,ho,resolve,hc,invoke,builtin,e1,e2,h1]),h2,h3,h4⟩
   rename_i htt;subst htt;have e2:c.argTypes= #[t,t]:=by apply Array.ext';simpa using htys
   obtain⟨r,X',h1,h2,h3,h4⟩:=zzd hIT (P:=P) (ty:=o.type) h (hρ x (by simp[ho,Op.operands,Call.operands,e1])) (hρ y (by simp[ho,Op.operands,Call.operands,e1])) hI;exact⟨r,X',.inl (by simp[execOp,ho,resolve,hc,invoke,builtin,e1,e2,h1]),h2,h3,h4⟩
  ·cases h
def zzg (P:Program)(U:St)(t:TypeId):Option (AV×St):=
 match P.info? t with
 | some i=>match i.zero with
  |some z=>if(z.cells.toList.all fun v=>v.oneCell')=true then some (.ptr U.boxes.length 0,{U with boxes:=U.boxes++[(t,z.cells.toList.map AV.raw)]}) else none
  |none=>none
 |none=>none
theorem zye {IT:IterP} (hIT:ITMono IT) {P:Program} {X:Cx} {U U':St} {t:TypeId} {a:AV} {old:Value} (h:zzg P U t=some (a,U'))(hI:Inv IT U X):
 ∃X',(Instr.alloc t true old).run P X.w= .ok (.pointer (some ⟨X.w.heap.size,0,none⟩)) X'.w/\ Ext X X'/\ Inv IT U' X'/\ Rep IT X' a (.pointer (some ⟨X.w.heap.size,0,none⟩)):=by
 unfold zzg at h;split at h<;>try cases h
 rename_i i hi;split at h<;>try cases h
 rename_i z hz;split at h<;>cases h
 rename_i hok;obtain⟨X',e1,e2,e3,e4⟩:=z0d hIT hI (t:=t) (cs:=z.cells.toList.map AV.raw) (vs:=z.cells.toList) (zlj _) (fun v hv=>all_eq_true.1 hok v hv);refine⟨X',?_,e2,e3,e4⟩;have:(Instr.alloc t true old).run P X.w=(Instr.box t z).run P X.w:=by
  cases old<;>simp[Instr.alloc,Instr.box,zke hi hz]
 rw[this,e1];simp only[Instr.box,Sem.run_bind,zpz,Result.andThen_ok,Sem.run_pure]
def qbe (P:Program)(U:St)(t tx:TypeId)(y:AV):Option (AV×St):=
 match y with
 | .raw (.string b)=>if b.size=0 then(match P.underlying t,P.underlying tx with
  | some (.slice e),some .string=>match P.info? e with
   |some i=>if i.size=1 then some (.raw (.slice none 0 0),U) else none
   |none=>none
  |_,_=>none) else zym P U t tx (.list 0 [] .full) y
 |_=>none
theorem z6s {IT:IterP} (hIT:ITMono IT) {P:Program} {X:Cx} {U U':St} {t tx ty:TypeId} {y a:AV} {u:Value} (h:qbe P U t tx y=some (a,U'))(hy:Rep IT X y u)(hI:Inv IT U X):
 ∃r X',(Builtin.append_ #[t,tx] ty #[.slice none 0 0,u]).run P X.w= .ok r X'.w/\ Ext X X'/\ Inv IT U' X'/\ Rep IT X' a r:=by
 unfold qbe at h;split at h<;>try cases h
 rename_i b;split at h
 ·rename_i hm;split at h<;>try cases h
  rename_i e hu htx;split at h<;>try cases h
  rename_i i hi;split at h<;>cases h
  rename_i hsz1;rw[Rep] at hy;subst hy;have hb0:b=ByteArray.empty:=by
   apply ByteArray.ext;exact Array.eq_empty_of_size_eq_zero hm
  refine⟨.slice none 0 0,X,?_,Ext.refl X,hI,by rw[Rep]⟩;subst hb0;have hs:=Src.ofString (P:=P) X.w htx ByteArray.empty;have h1:=hs.len;have h2:=hs.cells;rw[show ByteArray.empty.size=0 from rfl] at h1 h2;rw[show byteCells ByteArray.empty=[] from rfl] at h2;simp[Builtin.append_,run_underlying hu,run_underlying htx,sizeOf,typeInfo,program,Sem.run,hi,hsz1,h1,h2,storeCells]
 ·exact ztv hIT h (by rw[Rep];exact⟨none,0,rfl,⟨le_refl _,fun _=>rfl⟩,.inl rfl,rfl⟩) hy hI
theorem qhs {P:Program} {t tx:TypeId} {a:AV} (h:qbe P U t tx y=some (a,U')):U'.out=U.out/\ U'.stop=U.stop:=by
 unfold qbe at h;split at h<;>try cases h
 split at h
 ·split at h<;>try cases h
  split at h<;>try cases h
  split at h<;>cases h
  exact⟨rfl,rfl⟩
 ·unfold zym at h;split at h<;>try cases h
  split at h<;>try cases h
  split at h<;>try cases h
  split at h
  ·cases h;exact⟨rfl,rfl⟩
  ·split at h<;>try cases h
   split at h<;>try cases h
   ·exact⟨rfl,rfl⟩
   ·split at h<;>cases h
    exact⟨rfl,rfl⟩
def zry:AV->Bool
 | .raw (.slice none 0 0)=>true
 |_=>false
theorem z6e {a:AV} (h:zry a=true):a= .raw (.slice none 0 0):=by
 unfold zry at h;split at h
 ·rfl
 ·cases h
def zxd (P:Program)(U:St)(t:TypeId)(x:AV)(no:Bool):Option (AV×St):=
 if no=true then
  match x with
  | .ptr s 0=>match U.boxes[s]?,P.underlying t with
   | some (_,cs),some (.array n e)=>match P.info? e with
    |some i=>if i.size=1/\ cs.length=n then some (.bsl s 0 n 1 true,U) else none
    |none=>none
   |_,_=>none
  |_=>none
 else none
theorem z2r {IT:IterP} {P:Program} {t:TypeId} {x a:AV} {no:Bool} {v:Value} (h:zxd P U t x no=some (a,U'))(hx:Rep IT X x v)(hI:Inv IT U X):
 no=true/\ ∃r,(Instr.sliceAt t v none none none).run P X.w= .ok r X.w/\ U'=U/\ Rep IT X a r:=by
 unfold zxd at h;split at h<;>try cases h
 rename_i hno;refine⟨hno,?_⟩;split at h<;>try cases h
 rename_i s;split at h<;>try cases h
 rename_i tb cs n e hb hu;split at h<;>try cases h
 rename_i i hi;split at h<;>cases h
 rename_i hc;rw[Rep] at hx;obtain⟨b,hk,rfl⟩:=hx;obtain⟨vs,zs,k1,k2,k3⟩:=hI.box s b _ cs hk hb;have hl:=zq k2;have hn:P.arrayLen t=n:=by simp[Program.arrayLen,hu]
 have he:P.elem t=e:=by simp[Program.elem,hu]
 have hrun:=run_sliceAt_array_all (P:=P) X.w t ⟨b,0,none⟩ (by rw[hn,he];exact hu);have hsz:(sizeOf (P.elem t)).run P X.w= .ok i.size X.w:=by rw[he];simp[sizeOf,typeInfo,program,Sem.run,hi]
 rw[hsz] at hrun;simp only[Result.andThen_ok] at hrun;refine⟨_,hrun,rfl,?_⟩;rw[hn,hc.1];refine⟨b,n,(vs++zs).toArray,_,hk,?_,le_refl _,fun _=>rfl,k1,?_⟩
 ·simp[slicedAt];by_cases h0:n=0<;>simp[h0,Addr.add]
 ·simp;omega
theorem qds {P:Program} {t:TypeId} {x a:AV} {no:Bool} (h:zxd P U t x no=some (a,U')):U'=U:=by
 unfold zxd at h;split at h<;>try cases h
 split at h<;>try cases h
 split at h<;>try cases h
 split at h<;>try cases h
 split at h<;>cases h
 rfl
def zvg (P:Program)(U:St)(s t:TypeId):AV->Option (AV×St)
 | .bsl b 0 n 1 _=>match U.boxes[b]? with
  | some (_,cs)=>match P.underlying s,P.underlying t with
   | some (.slice e),some .string=>match P.underlying e,zvy cs with
    |some (.int .u8),some l=>if l.length=n then some (.raw (.string ⟨l.toArray⟩),U) else none
    |_,_=>none
   |_,_=>none
  |none=>none
 |_=>none
theorem qcs {P:Program} {s t:TypeId} {x a:AV} (h:zvg P U s t x=some (a,U')):U'=U:=by
 unfold zvg at h;split at h<;>try cases h
 split at h<;>try cases h
 split at h<;>try cases h
 split at h<;>try cases h
 split at h<;>cases h
 rfl
theorem zyo {IT:IterP} {P:Program} {s t:TypeId} {x a:AV} {v:Value} (h:zvg P U s t x=some (a,U'))(hx:Rep IT X x v)(hI:Inv IT U X):
 ∃r,(convert s t v).run P X.w= .ok r X.w/\ U'=U/\ Rep IT X a r:=by
 unfold zvg at h;split at h<;>try cases h
 rename_i b n f;split at h<;>try cases h
 rename_i tb cs hb;split at h<;>try cases h
 rename_i e hs ht;split at h<;>try cases h
 rename_i l he hl;split at h<;>cases h
 rename_i hn;subst hn;have hcs:=zzb hl;rw[Rep] at hx;obtain⟨b',cap,cur,t',h1,rfl,h3,h4,h5,h6⟩:=hx;obtain⟨vs,zs,k1,k2,k3⟩:=hI.box b b' _ cs h1 hb;subst hcs;have hus:=z0p k2;subst hus;refine⟨_,Go.run_convert_bytes_back X.w s t e ⟨b',0,none⟩ cap l hs he ht (fun j hj=> ?_),rfl,by rw[Rep]⟩;rw[zgg,cell_of_row _ _ _ _ _ _ k1];simp only[zero_add,List.getElem?_toArray];rw[getElem?_append_left (by simpa using hj)];simp[hj]
theorem z6w {IT:IterP} (hIT:ITMono IT) {U:St} {X:Cx} (hI:Inv IT U X)(t:TypeId)(fz:Nat×Nat) {cs:List AV} {vs:List Value} (zs:List Value)(hr:zbf IT X cs vs)(h1: ∀v∈vs,v.oneCell'=true):
 ∃X',X'.w=X.w.alloc (.cells (vs++zs).toArray t fz)/\ Ext X X'/\ Inv IT U X'/\ At IT X' cs X.w.heap.size 0:=by
 have hE:=ztr hI (.cells (vs++zs).toArray t fz) (fun i=>i<vs.length) [] (fun b h=>by simp at h);refine⟨_,rfl,hE,?_,?_⟩
 ·refine {lens:=hI.lens,elems:=hI.elems,κlen:=by simpa using hI.κlen,κnd:=by simpa using hI.κnd,box:= ?_,κF:= ?_,βlen:=hI.βlen,βnd:=hI.βnd,βκ:=by simpa using hI.βκ,row:= ?_,Ok:= ?_,Fcell:= ?_}
  ·intro s b t' c hs hb;have hs':X.κ[s]? =some b:=by simpa using hs
   obtain⟨us,zs',u1,u2,u3⟩:=hI.box s b t' c hs' hb;exact⟨us,zs',(Below.heap_alloc _ _ _ (hI.κlt (mem_of_getElem? hs'))).trans u1,zam hIT hE _ _ u2,u3⟩
  ·intro s b t' c hs hb hc o hf;have hs':X.κ[s]? =some b:=by simpa using hs
   rcases hf with hf|⟨e,_⟩
   ·exact hI.κF s b t' c hs' hb hc o hf
   ·have:=hI.κlt (mem_of_getElem? hs');omega
  ·intro s r L hr' hL;obtain⟨cur,fz,c1,c2,c3,c4,c5,c6,c7⟩:=hI.row s r L hr' hL;have hlt:=hI.βlt (mem_of_getElem? hr');refine⟨cur,fz,(Below.heap_alloc _ _ _ hlt).trans c1,c2,c3,c4,c5,fun o hf=> ?_,c7⟩;rcases hf with hf|⟨e,_⟩
   ·exact c6 o hf
   ·omega
  ·intro b ho;obtain⟨⟨cs0,t0,f0,h0⟩,h2,h3,h4⟩:=hI.Ok b ho;have hlt:=hI.Olt ho;exact⟨⟨cs0,t0,f0,(Below.heap_alloc _ _ _ hlt).trans h0⟩,by simpa using h2,h3,fun o hf=>hf.elim (h4 o) fun h=>by omega⟩
  ·intro b o hf;rcases hf with hf|⟨e,hf⟩
   ·obtain⟨v,hv⟩:=hI.Fcell b o hf;exact⟨v,(hE.cell b o hf).trans hv⟩
   ·subst e;refine⟨vs[o],?_⟩
    show(X.w.alloc _).cell? _=_
    rw[cell_of_row _ _ _ _ _ _ (zea _ _ _ rfl),List.getElem?_toArray,getElem?_append_left hf];exact getElem?_eq_getElem hf
 ·refine z1d (fun j hj=> .inr ⟨rfl,by omega⟩) h1 (zam hIT hE _ _ hr) fun j u hu=> ?_
  show(X.w.alloc _).cell? _=_
  have hj:=(List.getElem?_eq_some_iff.1 hu).1;rw[cell_of_row _ _ _ _ _ _ (zea _ _ _ rfl),zero_add,List.getElem?_toArray,getElem?_append_left hj];exact hu
def aPop (P:Program)(U:St)(t:TypeId)(x:AV)(hi:Option AV)(c:Bool):Option (AV×St):=
 match P.underlying t,x,hi,c with
 | some (.slice e),.bsl s off n sz f,some (.raw (.int k j)),true=>match zfh P e with
  |some sz'=>if sz'=sz/\ j=0 then some (.bsl s off 0 sz false,U) else none
  |none=>none
 |_,_,_,_=>none
theorem qhn {P:Program} {t:TypeId} {x a:AV} {hi:Option AV} (h:aPop P U t x hi c=some (a,U')):U'=U:=by
 unfold aPop at h;split at h<;>try cases h
 split at h<;>try cases h
 split at h<;>cases h
 rfl
theorem qck {IT:IterP} {P:Program} {t:TypeId} {x a:AV} {v:Value} {hi:Option AV} {hi':Option Value} (h:aPop P U t x hi c=some (a,U'))(hx:Rep IT X x v)(hh:qfu IT X hi hi'):
 c=true/\ ∃r,(Instr.sliceAt t v none hi' none).run P X.w= .ok r X.w/\ U'=U/\ Rep IT X a r:=by
 have hst:=qhn h;unfold aPop at h;split at h<;>try cases h
 rename_i e s off n sz f k j hu;split at h<;>try cases h
 rename_i sz' hsz;split at h<;>cases h
 rename_i hc;obtain⟨rfl,rfl⟩:=hc;rw[Rep] at hx;obtain⟨b,cap,cur,t0,hk,rfl,hcap,hful,hrow,hfit⟩:=hx;have hb:zkg n none (some (.raw (.int k 0))) none=some (0,0,false):=by simp[zkg,zng]
 obtain⟨m,r,b1,b2,b3,b4,b5,b6⟩:=zkj (P:=P) (X:=X) (IT:=IT) hb (lo':=none) rfl hh (mx':=none) rfl hcap;have hm:=b6 rfl;refine⟨rfl,.slice (some ⟨b,off,none⟩) 0 cap,?_,hst,?_⟩
 ·simp only[Instr.sliceAt,Instr.slice,underlying,program,Sem.run,hu,r,zeb hsz,Sem.run_bind,Result.andThen_ok,Sem.run_pure];split
  ·rw[hm];rfl
  ·rw[hm];simp[Addr.add]
 ·exact⟨b,cap,cur,t0,hk,rfl,Nat.zero_le _,(fun h=>by cases h),hrow,hfit⟩
def zwg (P:Program)(ρ:Operand->AV)(U:St)(o:Oper):Option (AV×St):=
 match o.op with
 | .buildSlice t n parts=>qly P U t n (parts.toList.map fun p=>(p.1,ρ p.2))
 | .makeSlice t l c=>z9k P U t (ρ l) (ρ c)
 | .call c=>match c.callee,c.args.toList,c.argTypes.toList with
  | .builtin .append,[x,y],[t,t']=>if zry (ρ x)=true then qbe P U t t' (ρ y) else match zqz P U t t' (ρ x) (ρ y) with|some r=>some r|none=>qcy P U t t' (ρ x) (ρ y)
  |_,_,_=>none
 | .alloc t=>zzg P U t
 | .slice t x lo hi mx=>match zxd P U t (ρ x) (lo.isNone&&hi.isNone&&mx.isNone) with|some r=>some r|none=>aPop P U t (ρ x) (hi.map ρ) (lo.isNone&&mx.isNone)
 | .convert s t x=>zvg P U s t (ρ x)
 |_=>none
theorem zxs {IT:IterP} (hIT:ITMono IT) {P:Program} {X:Cx} {U U':St} {ρ:Operand->AV} {ρc:Operand->Value} {o:Oper} {a:AV} (h:zwg P ρ U o=some (a,U'))(hρ: ∀x∈o.op.operands,Rep IT X (ρ x) (ρc x))(hI:Inv IT U X):
 Res IT X U' a ((execOp ρc o).run P X.w):=by
 unfold zwg at h;split at h
 ·rename_i t n parts ho;obtain⟨v,X',h1,h2,h3,h4⟩: ∃v X',(Instr.buildSlice t n (parts.map fun(i,x)=>(i,ρc x))).run P X.w= .ok v X'.w/\ Ext X X'/\ Inv IT U' X'/\ Rep IT X' a v:=z7d hIT h (by simpa using zlv (IT:=IT) (X:=X) (ρ:=ρ) (ρc:=ρc) parts.toList fun p hp=>hρ p.2 (by rw[ho];simp only[Op.operands,List.mem_toArray,mem_map];exact⟨p,hp,rfl⟩)) hI;exact⟨v,X',.inl (by simp[execOp,ho,h1]),h2,h3,h4⟩
 ·rename_i t l c ho;obtain⟨v,X',h1,h2,h3,h4⟩:=z3h hIT (P:=P) h (hρ l (by simp[ho,Op.operands])) (hρ c (by simp[ho,Op.operands])) hI;exact⟨v,X',.inl (by simp[execOp,ho,h1]),h2,h3,h4⟩
 ·rename_i c ho;split at h<;>try cases h
  rename_i x y t t' hc hargs htys;have e1:c.args= #[x,y]:=by apply Array.ext';simpa using hargs
  have e2:c.argTypes= #[t,t']:=by apply Array.ext';simpa using htys
  split at h
  ·rename_i hn;have hx:=hρ x (by simp[ho,Op.operands,Call.operands,e1]);rw[z6e hn,Rep] at hx;obtain⟨r,X',h1,h2,h3,h4⟩:=z6s hIT (P:=P) (ty:=o.type) h (hρ y (by simp[ho,Op.operands,Call.operands,e1])) hI;rw[<-hx] at h1;exact⟨r,X',.inl (by simp[execOp,ho,resolve,hc,invoke,builtin,e1,e2,h1]),h2,h3,h4⟩
  ·split at h
   ·rename_i r0 hb;cases h;obtain⟨r,X',h1,h2,h3,h4⟩:=z6n hIT (P:=P) (ty:=o.type) hb (hρ x (by simp[ho,Op.operands,Call.operands,e1])) (hρ y (by simp[ho,Op.operands,Call.operands,e1])) hI;exact⟨r,X',.inl (by simp[execOp,ho,resolve,hc,invoke,builtin,e1,e2,h1]),h2,h3,h4⟩
   ·obtain⟨r,X',h1,h2,h3,h4⟩:=z5k hIT (P:=P) (ty:=o.type) h (hρ x (by simp[ho,Op.operands,Call.operands,e1])) (hρ y (by simp[ho,Op.operands,Call.operands,e1])) hI;exact⟨r,X',.inl (by simp[execOp,ho,resolve,hc,invoke,builtin,e1,e2,h1]),h2,h3,h4⟩
 ·rename_i t ho;obtain⟨X',h1,h2,h3,h4⟩:=zye hIT (P:=P) (old:= .tuple #[]) h hI;exact⟨_,X',.inl (by simp[execOp,ho,h1]),h2,h3,h4⟩
 ·rename_i t x lo hi mx ho;split at h
  ·rename_i r0 hb;cases h;obtain⟨hno,r,h1,rfl,h2⟩:=z2r hb (hρ x (by simp[ho,Op.operands])) hI;simp only[Bool.and_eq_true,Option.isNone_iff_eq_none] at hno;obtain⟨⟨rfl,rfl⟩,rfl⟩:=hno;exact⟨r,X,.inl (by simp[execOp,ho,h1]),Ext.refl X,hI,h2⟩
  ·obtain⟨hno,r,h1,rfl,h2⟩:=qck (IT:=IT) (X:=X) h (hρ x (by simp[ho,Op.operands])) (hi':=hi.map ρc) (by
    cases hi with
    |none=>rfl
    |some i=>exact⟨_,rfl,hρ i (by simp[ho,Op.operands])⟩)
   simp only[Bool.and_eq_true,Option.isNone_iff_eq_none] at hno;obtain⟨rfl,rfl⟩:=hno;exact⟨r,X,.inl (by simp[execOp,ho,h1]),Ext.refl X,hI,h2⟩
 ·rename_i s t x ho;obtain⟨r,h1,rfl,h2⟩:=zyo h (hρ x (by simp[ho,Op.operands])) hI;exact⟨r,X,.inl (by simp[execOp,ho,h1]),Ext.refl X,hI,h2⟩
 ·cases h
theorem zww {P:Program} {a:AV} (h:zwg P ρ U o=some (a,U')): ∀c,o.op≠ .defer c:=by
 intro c ho;unfold zwg at h;rw[ho] at h;simp at h
theorem qen {P:Program} {t tx:TypeId} {x a:AV} (h:zqz P U t tx x y=some (a,U')):U'.out=U.out/\ U'.stop=U.stop:=by
 unfold zqz at h;split at h<;>try cases h
 split at h<;>try cases h
 split at h<;>try cases h
 split at h<;>try cases h
 split at h<;>try cases h
 split at h
 ·split at h<;>cases h
  exact⟨rfl,rfl⟩
 ·split at h<;>try cases h
  split at h<;>try cases h
  split at h
  ·cases h;exact⟨rfl,rfl⟩
  ·split at h<;>cases h
   exact⟨rfl,rfl⟩
 ·cases h
theorem qgr {P:Program} {t tx:TypeId} {x a:AV} (h:qcy P U t tx x y=some (a,U')):U'.out=U.out/\ U'.stop=U.stop:=by
 unfold qcy at h;split at h<;>try cases h
 split at h<;>try cases h
 split at h<;>try cases h
 split at h<;>try cases h
 split at h<;>try cases h
 split at h
 ·cases h;exact⟨rfl,rfl⟩
 ·split at h<;>try cases h
  split at h<;>cases h
  exact⟨rfl,rfl⟩
theorem z8e {P:Program} {a:AV} (h:zwg P ρ U o=some (a,U')):U'.out=U.out/\ U'.stop=U.stop:=by
 unfold zwg at h;split at h
 ·unfold qly at h;split at h<;>try cases h
  split at h<;>cases h
  exact⟨rfl,rfl⟩
 ·unfold z9k at h;split at h<;>try cases h
  split at h<;>try cases h
  split at h<;>try cases h
  split at h<;>try cases h
  split at h<;>cases h
  exact⟨rfl,rfl⟩
 ·split at h<;>try cases h
  split at h
  ·exact qhs h
  split at h
  ·rename_i r0 hb;cases h;exact qen hb
  ·exact qgr h
 ·unfold zzg at h;split at h<;>try cases h
  split at h<;>try cases h
  split at h<;>cases h
  exact⟨rfl,rfl⟩
 ·split at h
  ·rename_i hb;cases h;rw[qds hb];exact⟨rfl,rfl⟩
  ·rw[qhn h];exact⟨rfl,rfl⟩
 ·rw[qcs h];exact⟨rfl,rfl⟩
 ·cases h
theorem val?_map {P:Program} {α β:Type} (s:Sem α)(f:α->Sem β):val? P (s>>=f)=(val? P s).bind fun a=>val? P (f a):=val?_bind s f
theorem qdo {P:Program} {a:AV} (h:qop P ρ U o=some a): ∀c,o.op≠ .defer c:=by
 intro c ho;unfold qop at h;rw[ho] at h;simp only at h;unfold zfi at h;split at h
 ·rw[ho] at h;simp only[execOp,ho,val?_map] at h;cases hr:val? P (resolve (zch ρ) c o.type) with
  |none=>rw[hr] at h;simp at h
  |some d=>rw[hr] at h;simp[val?,Pure.pure] at h
 ·cases h
theorem zul {P:Program} {a:AV} (h:aop P ρ U o=some (a,U')): ∀c,o.op≠ .defer c:=by
 unfold aop at h;split at h
 ·rename_i b hb;exact qdo hb
 ·intro c ho;rw[ho] at h;simp at h
def zrq (P:Program)(ρ:Operand->AV)(o:Oper)(a:AV):Prop:=
 (o.op.operands.toList.all fun x=>(zdr (ρ x)).isSome)=true/\ (∀cs b,o.op≠ .select cs b)/\ (∀c,o.op≠ .defer c)/\ ∃v,(∀w,(execOp (zch ρ) o).run P w= .ok (.value v) w)/\ zpx v=true/\ a=zlu v
theorem zog {IT:IterP} {P:Program} {ρc:Operand->Value} {a:AV} (h:zrq P ρ o a)(hρ: ∀x∈o.op.operands,Rep IT X (ρ x) (ρc x))(hI:Inv IT U X):
 ResQ IT X U a ((execOp ρc o).run P X.w):=by
 obtain⟨hall,hs,_,v,hv,hok,rfl⟩:=h;have hcongr:execOp (zch ρ) o=execOp ρc o:=execOp_congr o hs fun x hx=>by
  have h1:=all_eq_true.1 hall x (Array.mem_toList_iff.2 hx);obtain⟨u,hu⟩:=Option.isSome_iff_exists.1 h1;rw[z4p hu (hρ x hx)];simp[zch,hu]
 rw[<-hcongr];exact zcg v (hv _) hI (zjr v hok)
def QopR (P:Program)(ρ:Operand->AV)(U:St)(o:Oper)(a:AV):Prop:=qop P ρ U o=some a \/zrq P ρ o a \/ ∃a0,qop P ρ U o=some a0/\ a=zcz a0
theorem qbi {IT:IterP} (hIT:ITMono IT) {P:Program} {X:Cx} {U:St} {ρ:Operand->AV} {ρc:Operand->Value} {o:Oper} {a:AV} (h:QopR P ρ U o a)(hρ: ∀x∈o.op.operands,Rep IT X (ρ x) (ρc x))(hI:Inv IT U X):
 ResQ IT X U a ((execOp ρc o).run P X.w):=by
 rcases h with h|h|⟨a0,h,rfl⟩
 ·exact zpo hIT h hρ hI
 ·exact zog h hρ hI
 ·obtain⟨v,X',h1,h2,h3,h4,h5⟩:=zpo hIT h hρ hI;exact⟨v,X',h1,h2,h3,zio (X:=X') (Y:=X') hIT rfl rfl a0 v (.inr rfl) h4,h5⟩
def qpe (P:Program)(ρ:Operand->AV)(U:St)(o:Oper)(a:AV)(U':St):Prop:=aop P ρ U o=some (a,U') \/(U'=U/\ zrq P ρ o a) \/zwg P ρ U o=some (a,U') \/(∃a0,aop P ρ U o=some (a0,U')/\ a=zcz a0) \/
 -- what it makes is never written again: the row is forgotten at once
 ∃a0 U0 d,(aop P ρ U o=some (a0,U0) \/zwg P ρ U o=some (a0,U0))/\ zcu U0 U.boxes.length []=true/\ zeo U0 U.lens.length U.boxes.length [] [] d=U'/\ a=zcz (zhq U.lens.length (kz U0.boxes U.lens.length U.boxes.length [] [] d) a0)
theorem zqj {IT:IterP} (hIT:ITMono IT) {P:Program} {X:Cx} {U U':St} {ρ:Operand->AV} {ρc:Operand->Value} {o:Oper} {a:AV} (h:qpe P ρ U o a U')(hρ: ∀x∈o.op.operands,Rep IT X (ρ x) (ρc x))(hI:Inv IT U X):
 Res IT X U' a ((execOp ρc o).run P X.w):=by
 rcases h with h|⟨rfl,h⟩|h|⟨a0,h,rfl⟩|⟨a0,U0,d,h,hok,rfl,rfl⟩
 ·exact zvf hIT h hρ hI
 ·obtain⟨v,X',h1,h2,h3,h4,_⟩:=zog h hρ hI;exact⟨v,X',.inl h1,h2,h3,h4⟩
 ·exact zxs hIT h hρ hI
 ·obtain⟨v,X',h1,h2,h3,h4⟩:=zvf hIT h hρ hI;exact⟨v,X',h1,h2,h3,zio (X:=X') (Y:=X') hIT rfl rfl a0 v (.inr rfl) h4⟩
 ·obtain⟨v,X',h1,h2,h3,h4⟩:=h.elim (fun h=>zvf hIT h hρ hI) (fun h=>zxs hIT h hρ hI);have hl:X.lens.length<=U.lens.length:=by rw[hI.lens];exact le_refl _
  exact⟨v,zcx U0 U.lens.length U.boxes.length [] [] X',h1,zsi h2 h3 hok (Nat.le_of_eq hI.κlen) hl,zsl hIT h3 hok d,zio (X:=zcx U0 U.lens.length U.boxes.length [] [] X') (Y:=zcx U0 U.lens.length U.boxes.length [] [] X') hIT rfl rfl _ v (.inr rfl) (zkm (X:=X') (Y:=zcx U0 U.lens.length U.boxes.length [] [] X') hIT (fun b o hf=>Or.inl hf) rfl zic (zpm hIT h3 hok d) _ _ h4)⟩
theorem zql {P:Program} {a:AV} (h:qpe P ρ U o a U'): ∀c,o.op≠ .defer c:=h.elim zul (fun h=>h.elim (fun h=>h.2.2.2.1) (fun h=>h.elim zww fun h=>h.elim (fun⟨_,h,_⟩=>zul h) fun⟨_,_,_,h,_⟩=>h.elim zul zww))
def zct (S:List AV)(o:Oper):Option (FuncId×List AV):=
 match o.op with
 | .call c=>match c.callee with
  | .value f=>match zbw S f with
   | .clos g caps=>some (g,c.args.toList.map (zbw S)++caps)
   |_=>none
  |_=>none
 |_=>none
theorem zkn {IT:IterP} {P:Program} {ρc:Operand->Value} {f:FuncId} {args:List AV} (h:zct S o=some (f,args))(hρ: ∀x∈o.op.operands,Rep IT X (zbw S x) (ρc x))(hE:Ent P f):
 ∃vs:List Value,(execOp ρc o).run P X.w= .ok (.enter f vs.toArray) X.w/\ zbf IT X args vs:=by
 unfold zct at h;split at h<;>try cases h
 rename_i c ho;split at h<;>try cases h
 rename_i fo hc;split at h<;>cases h
 rename_i caps hf;have hv:=hρ fo (by simp[ho,Op.operands,Call.operands,hc]);rw[hf,Rep] at hv;obtain⟨us,e,hr⟩:=hv;refine⟨c.args.toList.map ρc++us,?_,zbm (zss _ fun x hx=>hρ x (by simp[ho,Op.operands,Call.operands,hc];exact .inr (by simpa using hx))) hr⟩;have e2:(c.args.map ρc++us.toArray)=(c.args.toList.map ρc++us).toArray:=by apply Array.ext';simp
 simp[execOp,ho,resolve,hc,e,Deferred.ofValue,invoke,hE _ _]
theorem zno {r:FuncId×List AV} (h:zct S o=some r): ∀c,o.op≠ .defer c:=by
 intro c ho;unfold zct at h;rw[ho] at h;simp at h
def zcv (S:List AV)(o:Oper):Option (Nat×List AV):=
 match o.op with
 | .call c=>match c.callee with
  | .value f=>match zbw S f with
   | .yld l=>some (l,c.args.toList.map (zbw S))
   |_=>none
  |_=>none
 |_=>none
theorem z3g {IT:IterP} {P:Program} {ρc:Operand->Value} {l:Nat} {args:List AV} (h:zcv S o=some (l,args))(hρ: ∀x∈o.op.operands,Rep IT X (zbw S x) (ρc x)):
 ∃vs:List Value,execOp ρc o=Instr.yield l vs.toArray/\ zbf IT X args vs:=by
 unfold zcv at h;split at h<;>try cases h
 rename_i c ho;split at h<;>try cases h
 rename_i fo hc;split at h<;>cases h
 rename_i hf;have hv:=hρ fo (by simp[ho,Op.operands,Call.operands,hc]);rw[hf,Rep] at hv;refine⟨c.args.toList.map ρc,?_,zss _ fun x hx=>hρ x (by simp[ho,Op.operands,Call.operands,hc];exact .inr (by simpa using hx))⟩;have e2:c.args.map ρc=(c.args.toList.map ρc).toArray:=by apply Array.ext';simp
 simp[execOp,ho,resolve,hc,hv,Deferred.ofValue,invoke,e2]
theorem z2i {r:Nat×List AV} (h:zcv S o=some r): ∀c,o.op≠ .defer c:=by
 intro c ho;unfold zcv at h;rw[ho] at h;simp at h
structure Frn where
 O:Nat->Prop
 C:Nat->Nat->Prop
structure Moved (B:Nat)(N:Nat->Prop)(s:Frn)(W W':World):Prop where
 os:W'.os=W.os
 tape:W'.tape=W.tape
 output:W'.output=W.output
 size:W.heap.size<=W'.heap.size
 drawn:drn W<=drn W'
 low: ∀k,k<B-> ¬N k->W'.heap[k]? =W.heap[k]?
 blk: ∀k,s.O k->W'.heap[k]? =W.heap[k]?
 cell: ∀(b o:Nat) v,s.C b o->W.cell? ⟨b,o,none⟩=some v->W'.cell? ⟨b,o,none⟩=some v
 szs:Szs W W'
structure Kept (B:Nat)(N:Nat->Prop)(s s':Frn)(F1:Nat->Nat->Prop)(W W':World):Prop where
 os:W'.os=W.os
 tape:W'.tape=W.tape
 output:W'.output=W.output
 size:W.heap.size<=W'.heap.size
 drawn:drn W<=drn W'
 own: ∀(k:Nat) o,(B<=k \/N k)-> ¬s.O k->W.heap[k]? =some o->W'.heap[k]? =some o
 cell: ∀(b o:Nat),F1 b o->W'.cell? ⟨b,o,none⟩=W.cell? ⟨b,o,none⟩
 O: ∀b,s'.O b->(s.O b \/W.heap.size<=b)/\ ∃cs t f,W'.heap[b]? =some (.cells cs t f)
 Cmono: ∀(b o:Nat),s.C b o->s'.C b o
 C: ∀(b o:Nat),s'.C b o->(s.C b o \/F1 b o \/s.O b \/W.heap.size<=b)/\ b<W'.heap.size
 szs:Szs W W'
structure Gen where
 B:Nat
 F0:Nat->Nat->Prop
 l:Nat
 rows:List (List AV)
 J:Nat->Frn->World->Prop
 Jx:Frn->World->Prop
 /-- Blocks that were there and are the iterator's own. -/
 own:Nat->Prop
def noIT:IterP:=⟨fun _ _ _=>False,fun _ _=>True⟩
structure GenOk (P:Program)(G:Gen):Prop where
 hJ: ∀k s W W',G.J k s W->G.B<=W.heap.size->Moved G.B G.own s W W'->G.J k s W'
 hJx: ∀s W W',G.Jx s W->G.B<=W.heap.size->Moved G.B G.own s W W'->G.Jx s W'
 rounds: ∀(k:Nat) (s:Frn) (W:World) (row:List AV) (us:List Value) (F1:Nat->Nat->Prop),G.rows[k]? =some row->G.J k s W->G.B<=W.heap.size->(∀b o,F1 b o->G.F0 b o \/G.B<=b \/G.own b)->(∀b o,F1 b o->(¬s.O b \/s.C b o)/\ ∃v,W.cell? ⟨b,o,none⟩=some v)->
  zbf noIT ⟨F1,[],[],[],W,fun _=>False,fun _ _=>False⟩ row us->
  Fwd.Yields P G.l us.toArray W fun e W'=> ∃s',Kept G.B G.own s s' F1 W W'/\ ((e= .returned (.bool true)/\ G.J (k+1) s' W') \/(e= .returned (.bool false)/\ G.Jx s' W'))
def Fr (G:Gen)(U:St)(X:Cx):Prop:=
 ∃ s:Frn,(∀b,s.O b↔X.O b)/\ ((∀b o,s.C b o↔X.C b o)/\ ∀b o,s.C b o->X.F b o \/(b<X.w.heap.size/\ b∉X.κ/\ ∀r∈X.β,r.block≠b))/\ (if U.stop=true then G.Jx s X.w else G.J U.out s X.w)/\ G.B<=X.w.heap.size/\
  (∀b∈X.κ,G.B<=b \/G.own b)/\ (∀r∈X.β,G.B<=r.block)/\ ∀b o,X.F b o->G.F0 b o \/G.B<=b \/G.own b
structure ExtG (B:Nat)(X X':Cx):Prop extends Sub X X' where
 os:X'.w.os=X.w.os
 tape:X'.w.tape=X.w.tape
 output:X'.w.output=X.w.output
 size:X.w.heap.size<=X'.w.heap.size
 drawn:drn X.w<=drn X'.w
 κnew: ∀b∈X'.κ,b∈X.κ \/X.w.heap.size<=b
 βnew: ∀r∈X'.β,(∃q∈X.β,q.block=r.block) \/X.w.heap.size<=r.block
 Onew: ∀b,X'.O b->X.O b \/X.w.heap.size<=b
 Fnew: ∀(b o:Nat),X'.F b o->X.F b o \/X.w.heap.size<=b \/(∃q∈X.β,q.block=b) \/b∈X.κ
 Cmono: ∀(b o:Nat),X.C b o->X'.C b o
 Cnew: ∀(b o:Nat),X'.C b o->X.C b o \/X.F b o \/X.O b \/X.w.heap.size<=b \/(∃q∈X.β,q.block=b) \/b∈X.κ
 frame: ∀(k:Nat) o,X.w.heap[k]? =some o->B<=k->k∉X.κ->(∀r∈X.β,r.block≠k)-> ¬X.O k->X'.w.heap[k]? =some o
theorem Sub.trans (h:Sub X Y)(k:Sub Y Z):Sub X Z where
 F:=fun b o hf=>k.F b o (h.F b o hf)
 cell:=fun b o hf=>(k.cell b o (h.F b o hf)).trans (h.cell b o hf)
 κ:=fun s b hs=>k.κ s b (h.κ s b hs)
 lens:=fun s L hs=>by
  obtain⟨L1,h1,h2,h3⟩:=h.lens s L hs;obtain⟨L2,k1,k2,k3⟩:=k.lens s L1 h1;exact⟨L2,k1,le_trans h2 k2,fun e=>by
   have e1:L2=L1:=by omega
   have e2:L1=L:=by omega
   rw[k3 e1,h3 e2]⟩
 blk:=fun s b hs cur t f hc=>by
  obtain⟨c1,h1,h2⟩:=h.blk s b hs cur t f hc;obtain⟨c2,k1,k2⟩:=k.blk s b (h.κ s b hs) c1 t f h1;exact⟨c2,k1,k2.trans h2⟩
 szs:=h.szs.trans k.szs
theorem ExtG.trans {B:Nat} (h:ExtG B X Y)(k:ExtG B Y Z):ExtG B X Z where
 toSub:=h.toSub.trans k.toSub
 os:=k.os.trans h.os
 tape:=k.tape.trans h.tape
 output:=k.output.trans h.output
 size:=le_trans h.size k.size
 drawn:=le_trans h.drawn k.drawn
 κnew:=fun b hb=>by
  rcases k.κnew b hb with h1|h1
  ·exact h.κnew b h1
  ·exact .inr (le_trans h.size h1)
 βnew:=fun r hr=>by
  rcases k.βnew r hr with⟨q,hq,e⟩|h1
  ·rcases h.βnew q hq with⟨p,hp,e'⟩|h2
   ·exact .inl ⟨p,hp,e'.trans e⟩
   ·exact .inr (e▸h2)
  ·exact .inr (le_trans h.size h1)
 Onew:=fun b hb=>by
  rcases k.Onew b hb with h1|h1
  ·exact h.Onew b h1
  ·exact .inr (le_trans h.size h1)
 Fnew:=fun b o hf=>by
  rcases k.Fnew b o hf with h1|h1|⟨q,hq,e⟩|h1
  ·exact h.Fnew b o h1
  ·exact .inr (.inl (le_trans h.size h1))
  ·rcases h.βnew q hq with⟨p,hp,e'⟩|h2
   ·exact .inr (.inr (.inl ⟨p,hp,e'.trans e⟩))
   ·exact .inr (.inl (e▸h2))
  ·rcases h.κnew b h1 with h2|h2
   ·exact .inr (.inr (.inr h2))
   ·exact .inr (.inl h2)
 Cmono:=fun b o hc=>k.Cmono b o (h.Cmono b o hc)
 Cnew:=fun b o hf=>by
  rcases k.Cnew b o hf with h1|h1|h1|h1|⟨q,hq,e⟩|h1
  ·exact h.Cnew b o h1
  ·rcases h.Fnew b o h1 with h2|h2|h2
   ·exact .inr (.inl h2)
   ·exact .inr (.inr (.inr (.inl h2)))
   ·exact .inr (.inr (.inr (.inr h2)))
  ·rcases h.Onew b h1 with h2|h2
   ·exact .inr (.inr (.inl h2))
   ·exact .inr (.inr (.inr (.inl h2)))
  ·exact .inr (.inr (.inr (.inl (le_trans h.size h1))))
  ·rcases h.βnew q hq with⟨p,hp,e'⟩|h2
   ·exact .inr (.inr (.inr (.inr (.inl ⟨p,hp,e'.trans e⟩))))
   ·exact .inr (.inr (.inr (.inl (e▸h2))))
  ·rcases h.κnew b h1 with h2|h2
   ·exact .inr (.inr (.inr (.inr (.inr h2))))
   ·exact .inr (.inr (.inr (.inl h2)))
 frame:=fun x o hx hB hκ hβ hO=>by
  have hlt:=(Array.getElem?_eq_some_iff.1 hx).1;refine k.frame x o (h.frame x o hx hB hκ hβ hO) hB (fun hm=> ?_) (fun r hr e=> ?_) (fun ho=> ?_)
  ·rcases h.κnew x hm with h1|h1
   ·exact hκ h1
   ·omega
  ·rcases h.βnew r hr with⟨q,hq,e'⟩|h1
   ·exact hβ q hq (e'.trans e)
   ·omega
  ·rcases h.Onew x ho with h1|h1
   ·exact hO h1
   ·omega
theorem Ext.toG (B:Nat)(h:Ext X X'):ExtG B X X' where
 toSub:=h.toSub
 os:=h.os
 tape:=h.tape
 output:=h.output
 size:=h.size
 drawn:=h.drawn
 κnew:=h.κnew
 βnew:=h.βnew
 Onew:=fun b hb=> .inl (by rw[h.O] at hb;exact hb)
 Fnew:=h.Fnew
 Cmono:=fun b o hc=>by rw[h.C];exact hc
 Cnew:=fun b o hc=> .inl (by rw[h.C] at hc;exact hc)
 frame:=fun k o hk _ hκ hβ _=>(h.frame k (Array.getElem?_eq_some_iff.1 hk).1 hκ hβ).trans hk
def Rel:Option Gen->Cx->Cx->Prop
 |none,X,X'=>Ext X X'
 |some G,X,X'=>ExtG G.B X X'
def FrM:Option Gen->St->Cx->Prop
 |none,_,_=>True
 |some G,U,X=>Fr G U X
def zdu (M:Option Gen):Option Gen:=M
def zuc (P:Program)(B:Nat):Option Gen->Prop
 |none=>True
 |some G=>GenOk P G/\ G.B<=B
theorem Rel.of {M:Option Gen} (h:Ext X X'):Rel M X X':=by cases M with|none=>exact h|some G=>exact h.toG _
theorem Rel.trans {M:Option Gen} (h:Rel M X Y)(k:Rel M Y Z):Rel M X Z:=by cases M with|none=>exact Ext.trans h k|some G=>exact ExtG.trans h k
theorem Rel.sub {M:Option Gen} (h:Rel M X Y):Sub X Y:=by cases M with|none=>exact Ext.toSub h|some G=>exact ExtG.toSub h
theorem Rel.size {M:Option Gen} (h:Rel M X Y):X.w.heap.size<=Y.w.heap.size:=by cases M with|none=>exact Ext.size h|some G=>exact ExtG.size h
theorem Fr.ext {IT:IterP} {P:Program} {G:Gen} (hG:GenOk P G) {U0 U U':St} {X X':Cx} (h:Fr G U X)(hE:Ext X X')(hI:Inv IT U0 X)(ho:U'.out=U.out)(hs:U'.stop=U.stop):Fr G U' X':=by
 obtain⟨s,h1,h2,h3,h4,h5,h6,h7⟩:=h
 have hmv:Moved G.B G.own s X.w X'.w:={
  os:=hE.os,tape:=hE.tape,output:=hE.output,size:=hE.size,drawn:=hE.drawn
  low:=fun k hk hN=>hE.frame k (Nat.lt_of_lt_of_le hk h4) (fun hm=>by have:=(h5 k hm).resolve_right hN;omega) (fun r hr e=>by have:=h6 r hr;omega)
  blk:=fun k hk=>by
   obtain⟨_,k2,k3,_⟩:=hI.Ok k ((h1 k).1 hk);exact hE.frame k (hI.Olt ((h1 k).1 hk)) k2 k3
  cell:=fun b o v hc hv=>by
   rcases h2.2 b o hc with hf|⟨k1,k2,k3⟩
   ·exact(hE.cell b o hf).trans hv
   ·exact(World.cell?_of_block (hE.frame b k1 k2 k3)).trans hv
  szs:=hE.szs}
 refine⟨s,fun b=>by rw[hE.O];exact h1 b,⟨fun b o=>by rw[hE.C];exact h2.1 b o,fun b o hc=> ?_⟩,?_,le_trans h4 hE.size,fun b hb=> ?_,fun r hr=> ?_,fun b o hf=> ?_⟩
 ·rcases h2.2 b o hc with hf|⟨k1,k2,k3⟩
  ·exact .inl (hE.F b o hf)
  ·refine .inr ⟨Nat.lt_of_lt_of_le k1 hE.size,fun hm=> ?_,fun r hr e=> ?_⟩
   ·rcases hE.κnew b hm with h|h
    ·exact k2 h
    ·omega
   ·rcases hE.βnew r hr with⟨q,hq,e'⟩|h
    ·exact k3 q hq (e'.trans e)
    ·omega
 ·rw[hs,ho];split
  ·rename_i hst;rw[if_pos hst] at h3;exact hG.hJx s _ _ h3 h4 hmv
  ·rename_i hst;rw[if_neg hst] at h3;exact hG.hJ _ s _ _ h3 h4 hmv
 ·rcases hE.κnew b hb with h|h
  ·exact h5 b h
  ·exact .inl (by omega)
 ·rcases hE.βnew r hr with⟨q,hq,e'⟩|h
  ·rw[<-e'];exact h6 q hq
  ·omega
 ·rcases hE.Fnew b o hf with h|h|⟨q,hq,e⟩|h
  ·exact h7 b o h
  ·exact .inr (.inl (le_trans h4 h))
  ·exact .inr (.inl (e▸h6 q hq))
  ·exact .inr (h5 b h)
theorem FrM.ext {IT:IterP} {P:Program} {B:Nat} {M:Option Gen} (hG:zuc P B M) {U0 U U':St} {X X':Cx} (h:FrM M U X)(hE:Ext X X')(hI:Inv IT U0 X)(ho:U'.out=U.out)(hs:U'.stop=U.stop):FrM M U' X':=by
 cases M with
 |none=>trivial
 |some G=>exact Fr.ext hG.1 h hE hI ho hs
mutual
def zkz:AV->Bool
 | .agg cs=>zcc cs
 | .tup cs=>zcc cs
 | .list _ cs _=>zcc cs
 | .iptr cs=>zcc cs
 | .clos _ cs=>zcc cs
 | .iter _=>false
 | .ptr _ _=>true
 | .bsl _ _ _ _ _=>true
 | .yld _=>true
 | .raw _=>true
 | .top=>true
 | .bad=>true
def zcc:List AV->Bool
 |[]=>true
 |a::l=>zkz a&&zcc l
end
mutual
theorem zwn {IT IT':IterP}: ∀(a:AV) (v:Value),zkz a=true->Rep IT X a v->Rep IT' X a v
 | .raw u,v,_,hr=>hr
 | .agg cs,v,ho,⟨vs,e,hr,h1⟩=>⟨vs,e,zia cs vs (by simpa[zkz] using ho) hr,h1⟩
 | .tup cs,v,ho,⟨vs,e,hr⟩=>⟨vs,e,zia cs vs (by simpa[zkz] using ho) hr⟩
 | .list m cs st,v,ho,⟨a,cap,e,hcap,hc,hs⟩=>⟨a,cap,e,hcap,hc.imp id fun⟨b,o,e1,e2⟩=>⟨b,o,e1,zve cs b o (by simpa[zkz] using ho) e2⟩,hs⟩
 | .ptr s off,v,_,hr=>hr
 | .bsl s off n sz f,v,_,hr=>hr
 | .iptr cs,v,ho,⟨b,o,e,hc⟩=>⟨b,o,e,zve cs b o (by simpa[zkz] using ho) hc⟩
 | .clos f caps,v,ho,⟨vs,e,hr⟩=>⟨vs,e,zia caps vs (by simpa[zkz] using ho) hr⟩
 | .iter xs,v,ho,_=>by simp[zkz] at ho
 | .yld _,_,_,hr=>hr
 | .top,_,_,hr=>hr
 | .bad,_,_,hr=>hr
theorem zia {IT IT':IterP}: ∀(l:List AV) (vs:List Value),zcc l=true->zbf IT X l vs->zbf IT' X l vs
 |[],_,_,hr=>hr
 | a::l,vs,ho,⟨v,r,e,h1,h2⟩=>by
  rw[zcc,Bool.and_eq_true] at ho;exact⟨v,r,e,zwn a v ho.1 h1,zia l r ho.2 h2⟩
theorem zve {IT IT':IterP}: ∀(cs:List AV) (b o:Nat),zcc cs=true->At IT X cs b o->At IT' X cs b o
 |[],_,_,_,_=>trivial
 | c::cs,b,o,ho,⟨⟨hf,v,hv,h1,hr⟩,ht⟩=>by
  rw[zcc,Bool.and_eq_true] at ho;exact⟨⟨hf,v,hv,h1,zwn c v ho.1 hr⟩,zve cs b (o+1) ho.2 ht⟩
end
def zad (S:List AV)(d:Option Tmp)(x:AV):List AV:=match d with|some t=>S.set t x|none=>S
def zdx (ops:Array Oper)(S:List AV)(k:Nat):Option (Option Bool):=
 match(ops[k]?).bind (·.dst) with
 | some d=>match S[d]? with
  |some (.raw (.bool c))=>some (some c)
  |some (.raw _)=>some none
  |_=>none
 |none=>none
def z0l (P:Program)(ρ:Operand->AV)(o:Oper)(n:Nat)(neg:Bool):Prop:=
 ∃op t x c e,o.op= .binOp op t x (.const (.slice none 0 0)) c/\ (op= .eql/\ neg=false \/op= .neq/\ neg=true)/\ P.underlying t=some (.slice e)/\ ((∃cs st,ρ x= .list n cs st) \/(∃s off m sz f,ρ x= .bsl s off m sz f)/\ n=1)
def qdn (P:Program)(ρ:Operand->AV)(o:Oper)(n:Nat)(neg:Bool):Prop:=
 ∃op t x c ms,o.op= .binOp op t x (.const .nilIface) c/\ (op= .eql/\ neg=false \/op= .neq/\ neg=true)/\ P.underlying t=some (.interface ms)/\ ρ x= .err/\ n=1
theorem z1u {IT:IterP} (hIT:ITMono IT) {P:Program} {X:Cx} {ρ:Operand->AV} {ρc:Operand->Value} {o:Oper} {n:Nat} {neg:Bool} (h:qdn P ρ o n neg)(hρ: ∀x∈o.op.operands,Rep IT X (ρ x) (ρc x))(hE:Env ρc):
 ∃t,(execOp ρc o).run P X.w= .ok (.value (.bool t)) X.w/\ (t=neg \/n=0/\ t= !neg):=by
 obtain⟨op,t,x,c,ms,ho,hop,hu,hx,rfl⟩:=h;have hv:=hρ x (by simp[ho,Op.operands]);rw[hx,Rep] at hv;obtain⟨tt,p,hb⟩:=hIT.err _ _ hv;have heq: ∀w,(Op.equalIn 10000 t (.iface tt p) .nilIface).run P w= .ok false w:=fun w=>by
  rw[show(10000:Nat)=9999+1 from rfl,Op.equalIn];simp[run_underlying hu]
 refine⟨neg,?_,.inl rfl⟩;rcases hop with⟨rfl,rfl⟩|⟨rfl,rfl⟩
 ·simp[execOp,ho,eqGuard,binOp,hb,hE.const,Op.equal,Op.maxDepth,heq]
 ·simp[execOp,ho,eqGuard,binOp,hb,hE.const,Op.equal,Op.maxDepth,heq]
theorem z3q {P:Program} {neg:Bool} (h:qdn P ρ o n neg): ∀c,o.op≠ .defer c:=by
 obtain⟨op,t,x,c,e,ho,_⟩:=h;intro c h;rw[ho] at h;cases h
theorem zzr {IT:IterP} {P:Program} {ρc:Operand->Value} {neg:Bool} (h:z0l P ρ o n neg)(hρ: ∀x∈o.op.operands,Rep IT X (ρ x) (ρc x))(hE:Env ρc):
 ∃t,(execOp ρc o).run P X.w= .ok (.value (.bool t)) X.w/\ (t=neg \/n=0/\ t= !neg):=by
 obtain⟨op,t,x,c,e,ho,hop,hu,hx⟩:=h;have hv:=hρ x (by simp[ho,Op.operands]);obtain⟨b,m,cap,hb,hn⟩: ∃b m cap,ρc x= .slice b m cap/\ (b=none->n=0):=by
  rcases hx with⟨cs,st,hx⟩|⟨⟨s,off,m,sz,f,hx⟩,rfl⟩
  ·rw[hx,Rep] at hv;obtain⟨a,cap,e,⟨h1,h2⟩,_⟩:=hv;exact⟨a,n,cap,e,fun hn=>by have:=h2 hn;omega⟩
  ·rw[hx,Rep] at hv;obtain⟨b,cap,cur,t0,_,e,_⟩:=hv;exact⟨_,_,_,e,fun hn=>by cases hn⟩
 have heq: ∀w,(Op.equalIn 10000 t (.slice b m cap) (.slice none 0 0)).run P w= .ok b.isNone w:=fun w=>by
  rw[show(10000:Nat)=9999+1 from rfl,Op.equalIn];cases b<;>simp[run_underlying hu]
 refine⟨if neg then !b.isNone else b.isNone,?_,?_⟩
 ·rcases hop with⟨rfl,rfl⟩|⟨rfl,rfl⟩
  ·simp[execOp,ho,eqGuard,binOp,hb,hE.const,Op.equal,Op.maxDepth,heq]
  ·simp[execOp,ho,eqGuard,binOp,hb,hE.const,Op.equal,Op.maxDepth,heq]
 ·cases b with
  |none=>right;refine⟨hn rfl,?_⟩;cases neg<;>rfl
  |some a=>left;cases neg<;>rfl
theorem zzs {P:Program} {neg:Bool} (h:z0l P ρ o n neg): ∀c,o.op≠ .defer c:=by
 obtain⟨op,t,x,c,e,ho,_⟩:=h;intro c h;rw[ho] at h;cases h
def SndG (IT:IterP)(P:Program)(G:Gen)(f:FuncId)(args:List AV)(U:St)(r:AV)(U':St):Prop:=
 Ent P f/\ ∀(X:Cx) (vs:List Value),Inv IT U X->zbf IT X args vs->Fr G U X->Calls P f vs.toArray X.w fun e w'=> ∃v X',e= .returned v/\ X'.w=w'/\ ExtG G.B X X'/\ Inv IT U' X'/\ Rep IT X' r v/\ Fr G U' X'
abbrev Owed:=Option Gen
def CallTo (IT:IterP)(P:Program)(W:Owed)(f:FuncId)(args:List AV)(U:St)(r:AV)(U':St):Prop:=
 (Snd IT P f args U r U'/\ U'.out=U.out/\ U'.stop=U.stop) \/(U'=U/\ zac 0 args=true/\ Pure IT P f (stripL args) r) \/(U'=U/\ z4m r=true/\ ∃n,Pure IT P f (zcs (frz U.boxes n) args) r) \/ ∃G,W=some G/\ SndG IT P G f args U r U'
def zfq (IT:IterP)(P:Program)(W:Owed)(o:Oper)(S:List AV)(U:St)(K:AV->St->Prop):Prop:=
 match zct S o with
 |some (f,args)=> ∃r U',CallTo IT P W f args U r U'/\ K r U'
 | none=>match zcv S o with
  |some (l,args)=> ∃G row,W=some G/\ G.l=l/\ G.rows[U.out]? =some row/\ stripL args=row/\ zac 0 args=true/\ zcc args=true/\ U.stop=false/\ K (.raw (.bool true)) {U with out:=U.out+1}/\ K (.raw (.bool false)) {U with stop:=true}
  |none=>(∃a U',qpe P (zbw S) U o a U'/\ K a U') \/(∃n neg,(z0l P (zbw S) o n neg \/qdn P (zbw S) o n neg)/\ (n=0->K (.raw (.bool (!neg))) U)/\ K (.raw (.bool neg)) U)
def zcb (IT:IterP)(P:Program)(W:Owed)(ops:Array Oper)(Q:List AV->St->Prop):List Oper->List AV->St->Prop
 |[],S,U=>Q S U
 | o::l,S,U=>match o.guard with
  |none=>zfq IT P W o S U fun a U'=>zcb IT P W ops Q l (zad S o.dst a) U'
  |some (k,b)=> ∃c,zdx ops S k=some c/\ (if c=some b then zfq IT P W o S U fun a U'=>zcb IT P W ops Q l (zad S o.dst a) U' else zcb IT P W ops Q l (zad S o.dst (.raw undef)) U)
def Marks (B:Nat)(ds:List Deferred)(w:World):Prop:=B<=w.heap.size/\ ∃Ds:List Nat,ds=Ds.map (fun D=>{target:= .collected D,args:= #[]})/\ Ds.Nodup/\ ∀D∈Ds,B<=D/\ w.heap[D]? =some (.deferred (some []))
theorem Ext.noncells {IT:IterP} (h:Ext X X')(hI:Inv IT U X) {k:Nat} {o:Obj} (hk:X.w.heap[k]? =some o)(ho:o.isCells=false):X'.w.heap[k]? =some o:=by
 refine(h.frame k (Array.getElem?_eq_some_iff.1 hk).1 (fun hm=> ?_) (fun r hr e=> ?_)).trans hk
 ·obtain⟨s,hs,rfl⟩:=mem_iff_getElem.1 hm;have hl:=hI.κlen;obtain⟨vs,zs,h1,_⟩:=hI.box s X.κ[s] (U.boxes[s]'(by omega)).1 (U.boxes[s]'(by omega)).2 (by simp[hs]) (by rw[getElem?_eq_getElem (by omega)]);rw[hk] at h1;cases h1;cases ho
 ·obtain⟨s,hs,rfl⟩:=mem_iff_getElem.1 hr;have hl:=hI.βlen;obtain⟨cur,fz,h1,_⟩:=hI.row s X.β[s] (X.lens[s]'(by omega)) (by simp[hs]) (by rw[getElem?_eq_getElem (by omega)]);rw[e,hk] at h1;cases h1;cases ho
theorem Marks.ext {IT:IterP} {B:Nat} {ds:List Deferred} (h:Marks B ds X.w)(hE:Ext X X')(hI:Inv IT U X):Marks B ds X'.w:=by
 obtain⟨h0,Ds,h1,h2,h3⟩:=h;exact⟨le_trans h0 hE.size,Ds,h1,h2,fun D hD=>⟨(h3 D hD).1,hE.noncells hI (h3 D hD).2 rfl⟩⟩
def DM (F:Fence)(B:Nat)(ds:List Deferred)(w:World):Prop:=B<=w.heap.size/\ (F=Fence.wide->Marks B ds w)/\ (F≠Fence.wide->ds=[])
theorem DM.ext {IT:IterP} {F:Fence} {B:Nat} {ds:List Deferred} (h:DM F B ds X.w)(hE:Ext X X')(hI:Inv IT U X):DM F B ds X'.w:=⟨le_trans h.1 hE.size,fun e=>(h.2.1 e).ext hE hI,h.2.2⟩
structure Now (IT:IterP)(M:Option Gen)(F:Fence)(B:Nat)(X0:Cx)(S:List AV)(U:St)(X:Cx)(a:Act):Prop where
 ext:Rel M X0 X
 inv:Inv IT U X
 reps:znc IT X S a.tmps
 marks:DM F B a.defers X.w
 frn:FrM M U X
theorem Now.from {IT:IterP} {M:Option Gen} {F:Fence} {B:Nat} {a:Act} (h:Now IT M F B X0 S U X a):Now IT M F B X S U X a:=⟨Rel.of (Ext.refl X),h.inv,h.reps,h.marks,h.frn⟩
theorem Now.back {IT:IterP} {M:Option Gen} {F:Fence} {B:Nat} {S':List AV} {a a':Act} (h:Now IT M F B X0 S U X a)(k:Now IT M F B X S' U' X' a'):Now IT M F B X0 S' U' X' a':=⟨h.ext.trans k.ext,k.inv,k.reps,k.marks,k.frn⟩
theorem zbz {IT:IterP} {P:Program} {M:Option Gen} {F:Fence} {B:Nat} (hG:zuc P B M)(hIT:ITMono IT) {X0 X X':Cx} {S:List AV} {U U':St} {a:Act} (h:Now IT M F B X0 S U X a)(hE:Ext X X')(hI:Inv IT U' X')(ho:U'.out=U.out/\ U'.stop=U.stop)(d:Option Tmp) {x:AV} {v:Value} (hx:Rep IT X' x v):Now IT M F B X0 (zad S d x) U' X' (a.put d v) where
 ext:=h.ext.trans (Rel.of hE)
 inv:=hI
 reps:=zpb (show znc IT X' S a.tmps from zam hIT hE _ _ h.reps) d hx
 marks:=by
  have:(a.put d v).defers=a.defers:=Act.defers_put a d v;rw[this];exact h.marks.ext hE h.inv
 frn:=FrM.ext hG h.frn hE h.inv ho.1 ho.2
theorem z7j {t:TypeId} {x a:AV} (h:aBox U t x=some (a,U')):U'.out=U.out/\ U'.stop=U.stop:=by
 unfold aBox at h;split at h<;>cases h
 exact⟨rfl,rfl⟩
theorem zqi {P:Program} {a:AV} (h:qpe P ρ U o a U'):U'.out=U.out/\ U'.stop=U.stop:=by
 have key: ∀U',(∃a,aop P ρ U o=some (a,U'))->U'.out=U.out/\ U'.stop=U.stop:=by
  rintro U' ⟨a,h⟩;unfold aop at h;split at h
  ·cases h;exact⟨rfl,rfl⟩
  ·split at h
   ·unfold z8z at h;split at h<;>try cases h
    split at h<;>try cases h
    split at h<;>try cases h
    exact z7j h
   ·exact z7j h
   ·split at h<;>cases h
    rename_i hs;unfold zpp at hs;split at hs<;>try cases hs
    split at hs<;>try cases hs
    split at hs<;>cases hs
    exact⟨rfl,rfl⟩
   ·split at h<;>try cases h
    split at h
    rotate_left
    ·unfold zym at h;split at h<;>try cases h
     split at h<;>try cases h
     split at h<;>try cases h
     split at h
     ·cases h;exact⟨rfl,rfl⟩
     ·split at h<;>try cases h
      split at h<;>try cases h
      ·exact⟨rfl,rfl⟩
      ·split at h<;>cases h
       exact⟨rfl,rfl⟩
    unfold zfv at h;split at h<;>try cases h
    split at h<;>try cases h
    split at h<;>try cases h
    split at h
    ·cases h;exact⟨rfl,rfl⟩
    ·split at h<;>try cases h
     split at h<;>try cases h
     ·exact⟨rfl,rfl⟩
     ·split at h<;>cases h
      exact⟨rfl,rfl⟩
   ·cases h
 rcases h with h|⟨rfl,_⟩|h|⟨a0,h,_⟩|⟨a0,U0,d,h,_,rfl,_⟩
 ·exact key _ ⟨_,h⟩
 ·exact⟨rfl,rfl⟩
 ·exact z8e h
 ·exact key _ ⟨_,h⟩
 ·exact h.elim (fun h=>key U0 ⟨_,h⟩) (fun h=>show U0.out=U.out/\ U0.stop=U.stop from z8e h)
theorem qgp {IT:IterP} (hIT:ITMono IT) {P:Program} {G:Gen} {U:St} {X:Cx} {s s':Frn} {W':World} (hs: ∀b,s.O b↔X.O b)(hC0: ∀b o,s.C b o↔X.C b o)(hC: ∀b o,s.C b o->X.F b o \/(b<X.w.heap.size/\ b∉X.κ/\ ∀r∈X.β,r.block≠b))(hB:G.B<=X.w.heap.size)
 (hκ: ∀b∈X.κ,G.B<=b \/G.own b) (hβ: ∀r∈X.β,G.B<=r.block) (hI:Inv IT U X) (hk:Kept G.B G.own s s' X.F X.w W'):
 ExtG G.B X {X with w:=W',O:=s'.O,C:=s'.C}/\ Inv IT U {X with w:=W',O:=s'.O,C:=s'.C}/\ Sub X {X with w:=W',O:=s'.O,C:=s'.C}/\
  (∀b o,s'.C b o->X.F b o \/(b<W'.heap.size/\ b∉X.κ/\ ∀r∈X.β,r.block≠b)):=by
 have hnO: ∀b,b∈X.κ-> ¬s.O b:=fun b hb ho=>(hI.Ok b ((hs b).1 ho)).2.1 hb;have hS:Sub X {X with w:=W',O:=s'.O,C:=s'.C}:=⟨fun _ _ h=>h,hk.cell,fun _ _ h=>h,fun s L h=>⟨L,h,le_refl _,fun _=>rfl⟩,fun s b hs cur t f h=>⟨cur,hk.own b _ (hκ b (mem_of_getElem? hs)) (hnO b (mem_of_getElem? hs)) h,rfl⟩,hk.szs⟩;have hnO': ∀r∈X.β,¬s.O r.block:=fun r hr ho=>(hI.Ok r.block ((hs _).1 ho)).2.2.1 r hr rfl
 have hX:ExtG G.B X {X with w:=W',O:=s'.O,C:=s'.C}:={
  toSub:=hS
  os:=hk.os
  tape:=hk.tape
  output:=hk.output
  size:=hk.size
  drawn:=hk.drawn
  κnew:=fun _ h=> .inl h
  βnew:=fun r h=> .inl ⟨r,h,rfl⟩
  Onew:=fun b hb=>(hk.O b hb).1.imp (hs b).1 id
  Fnew:=fun _ _ h=> .inl h
  Cmono:=fun b o hc=>hk.Cmono b o ((hC0 b o).2 hc)
  Cnew:=fun b o hc=>by
   rcases(hk.C b o hc).1 with h|h|h|h
   ·exact .inl ((hC0 b o).1 h)
   ·exact .inr (.inl h)
   ·exact .inr (.inr (.inl ((hs b).1 h)))
   ·exact .inr (.inr (.inr (.inl h)))
  frame:=fun k o h1 h2 _ _ h5=>hk.own k o (.inl h2) (fun h=>h5 ((hs k).1 h)) h1}
 refine⟨hX,?_,hS,?_⟩
 ·refine {hI with gv:=qev hIT hS hI.gv,lens:=hI.lens,elems:=hI.elems,box:= ?_,row:= ?_,Ok:= ?_,Fcell:= ?_}
  ·intro i b t cs hi hb;obtain⟨us,zs,u1,u2,u3⟩:=hI.box i b t cs hi hb;have hm:=mem_of_getElem? hi;exact⟨us,zs,hk.own b _ (hκ b hm) (hnO b hm) u1,zbu hIT hS _ _ u2,u3⟩
  ·intro i q L hq hL;obtain⟨cur,fz,c1,c2⟩:=hI.row i q L hq hL;have hm:=mem_of_getElem? hq;exact⟨cur,fz,hk.own _ _ (.inl (hβ q hm)) (hnO' q hm) c1,c2⟩
  ·intro b hb;obtain⟨h1,h2⟩:=hk.O b hb;refine⟨h2,?_⟩;rcases h1 with h1|h1
   ·obtain⟨_,k2,k3,k4⟩:=hI.Ok b ((hs b).1 h1);exact⟨k2,k3,fun o hf=>hk.Cmono b o ((hC0 b o).2 (k4 o hf))⟩
   ·exact⟨fun hm=>by have:=hI.κlt hm;omega,fun r hr e=>by have:=hI.βlt hr;omega,fun o hf=>by have:=hI.Flt hf;omega⟩
  ·intro b o hf;obtain⟨v,hv⟩:=hI.Fcell b o hf;exact⟨v,(hk.cell b o hf).trans hv⟩
 ·intro b o hc;obtain⟨h1,h2⟩:=hk.C b o hc;rcases h1 with h1|h1|h1|h1
  ·rcases hC b o h1 with h|⟨_,h3,h4⟩
   ·exact .inl h
   ·exact .inr ⟨h2,h3,h4⟩
  ·exact .inl h1
  ·obtain⟨_,k2,k3,_⟩:=hI.Ok b ((hs b).1 h1);exact .inr ⟨h2,k2,k3⟩
  ·exact .inr ⟨h2,fun hm=>by have:=hI.κlt hm;omega,fun r hr e=>by have:=hI.βlt hr;omega⟩
theorem ExtG.noncells {IT:IterP} {B k:Nat} {o:Obj} (h:ExtG B X X')(hI:Inv IT U X)(hB:B<=k)(hk:X.w.heap[k]? =some o)(ho:o.isCells=false):X'.w.heap[k]? =some o:=by
 refine h.frame k o hk hB (fun hm=> ?_) (fun r hr e=> ?_) (fun hO=> ?_)
 ·obtain⟨s,hs,rfl⟩:=mem_iff_getElem.1 hm;have hl:=hI.κlen;obtain⟨vs,zs,h1,_⟩:=hI.box s X.κ[s] (U.boxes[s]'(by omega)).1 (U.boxes[s]'(by omega)).2 (by simp[hs]) (by rw[getElem?_eq_getElem (by omega)]);rw[hk] at h1;cases h1;cases ho
 ·obtain⟨s,hs,rfl⟩:=mem_iff_getElem.1 hr;have hl:=hI.βlen;obtain⟨cur,fz,h1,_⟩:=hI.row s X.β[s] (X.lens[s]'(by omega)) (by simp[hs]) (by rw[getElem?_eq_getElem (by omega)]);rw[e,hk] at h1;cases h1;cases ho
 ·obtain⟨⟨cs0,t0,f0,h0⟩,_⟩:=hI.Ok k hO;rw[hk] at h0;cases h0;cases ho
section
variable {IT:IterP} {P:Program} {M:Option Gen} {F:Fence} {nn B:Nat}
theorem zkd (hIT:ITMono IT)(hF:FenceOk F P)(hG:zuc P B M) {o:Oper} {S:List AV} {U:St} {X0 X:Cx} {a:Act} {K:AV->St->Prop} {next:Act->World->Prop} {Q:Exit->Act->World->Prop} (h:zfq IT P (zdu M) o S U K)(hn:Now IT M F B X0 S U X a)
 (hK: ∀x U' X' a',K x U'->Now IT M F B X0 (zad S o.dst x) U' X' a'->next a' X'.w):o.wpIn F nn P a X.w next Q:=by
 have hρ: ∀x∈o.op.operands,Rep IT X (zbw S x) (a.eval x):=fun x _=>zde hn.reps x;unfold zfq at h;split at h
 ·rename_i f args hc;obtain⟨r,U',hcall,hk⟩:=h;have hE:Ent P f:=by
   rcases hcall with⟨h,_⟩|⟨_,_,h⟩|⟨_,_,_,h⟩|⟨_,_,h⟩<;>exact h.1
  obtain⟨vs,hrun,hr⟩:=zkn (P:=P) hc hρ hE;unfold Oper.wpIn;refine⟨fun f _=>hF.fn f,?_⟩;rw[Oper.semAt_plain F _ _ (zno hc),hrun];refine⟨fun hd=>(by rw[hF.depth] at hd;cases hd),hF.calls _ _ _ _ _ ?_⟩;rcases hcall with⟨h,ho⟩|⟨rfl,hok,h⟩|⟨rfl,hraw,n,h⟩|⟨G,hW,h⟩
  rotate_left 3
  ·cases M with
   |none=>cases hW
   | some G'=>
    cases hW;refine(h.2 X vs hn.inv hr hn.frn).mono ?_;rintro e w' ⟨v,X',rfl,rfl,h1,h2,h3,h4⟩;refine hK _ U' X' _ hk ⟨Rel.trans (M:=some G) hn.ext h1,h2,zpb (show znc IT X' S a.tmps from zbu hIT h1.toSub _ _ hn.reps) o.dst h3,?_,h4⟩;rw[Act.defers_put];refine⟨le_trans hn.marks.1 h1.size,fun e=> ?_,hn.marks.2.2⟩;obtain⟨m0,Ds,m1,m2,m3⟩:=hn.marks.2.1 e;refine⟨le_trans m0 h1.size,Ds,m1,m2,fun D hD=>⟨(m3 D hD).1,?_⟩⟩;obtain⟨m4,m5⟩:=m3 D hD;exact h1.noncells hn.inv (le_trans hG.2 m4) m5 rfl
  ·refine(h.2 X vs hn.inv hr).mono ?_;rintro e w' ⟨v,X',rfl,rfl,h1,h2,h3⟩;exact hK _ _ _ _ hk (zbz hG hIT hn h1 h2 ho o.dst h3)
  ·refine(zle hIT h rfl hok hn.inv hr).mono ?_;rintro e w' ⟨v,X',rfl,rfl,h1,h2,h3,_⟩;exact hK _ _ _ _ hk (zbz hG hIT hn h1 h2 ⟨rfl,rfl⟩ o.dst h3)
  ·refine(qml hIT n h rfl hraw hn.inv hr).mono ?_;rintro e w' ⟨v,X',rfl,rfl,h1,h2,h3⟩;exact hK _ _ _ _ hk (zbz hG hIT hn h1 h2 ⟨rfl,rfl⟩ o.dst h3)
 ·split at h
  ·rename_i l args hy;obtain⟨G,row,hW,hGl,hrow,hst,hok,hni,hstop,hk1,hk2⟩:=h;cases M with
   |none=>cases hW
   | some G1=>
    cases hW;subst hGl;obtain⟨us,hrun,hr⟩:=z3g (P:=P) hy hρ;obtain⟨s,f1,f2,f3,f4,f5,f6,f7⟩:Fr G U X:=hn.frn;rw[if_neg (by rw[hstop];simp)] at f3;have hr0:zbf noIT ⟨X.F,[],[],[],X.w,fun _=>False,fun _ _=>False⟩ row us:=by
     rw[<-hst];exact zfm (IT:=noIT) (X:=X) (Y:=⟨X.F,[],[],[],X.w,fun _=>False,fun _ _=>False⟩) ⟨fun _ _ _ _ _ _ _ h=>h.elim,fun _ _ _ _ _ _ _ _=>trivial,fun _ _ h=>h.elim⟩ rfl rfl args us (.inl hok) (zia args us hni hr)
    have hro:=(hG.1:GenOk P G).rounds U.out s X.w row us X.F hrow f3 f4 f7 (fun b o hf=>⟨(Classical.em (s.O b)).elim (fun ho=> .inr ((f2.1 b o).2 ((hn.inv.Ok b ((f1 b).1 ho)).2.2.2 o hf))) .inl,hn.inv.Fcell b o hf⟩) hr0;obtain⟨fn,tmps,asg,body,hy2,hR⟩:=hro (nn-1);unfold Oper.wpIn;refine⟨fun f _=>hF.fn f,?_⟩;rw[Oper.semAt_plain F _ _ (z2i hy),hrun,hy2];refine⟨fun hd=>(by rw[hF.depth] at hd;cases hd),hF.rounds _ _ _ _ _ _ _ _ (hR.mono ?_)⟩;have done: ∀(b:Bool) (U':St) (s':Frn) (W':World),Kept G.B G.own s s' X.F X.w W'->U'.boxes=U.boxes->U'.lens=U.lens->U'.elems=U.elems->(if U'.stop=true then G.Jx s' W' else G.J U'.out s' W')->K (.raw (.bool b)) U'->next (a.put o.dst (.bool b)) W':=fun b U' s' W' hkp e1 e2 e3 hj hk=>by
     obtain⟨x1,x2,x3,x4⟩:=qgp hIT (P:=P) (G:=G) f1 f2.1 f2.2 f4 f5 f6 hn.inv hkp;have hinv:Inv IT U' {X with w:=W',O:=s'.O,C:=s'.C}:={x2 with lens:=x2.lens.trans e2.symm,elems:=x2.elems.trans e3.symm,κlen:=x2.κlen.trans (by rw[e1]),κnd:=fun i j b' h1 h2 h3=>by rw[e1];exact x2.κnd i j b' h1 h2 h3,κF:=fun i b' t cs hi hb=>x2.κF i b' t cs hi (by rw[<-e1];exact hb),box:=fun i b' t cs hi hb=>x2.box i b' t cs hi (by rw[<-e1];exact hb)};refine hK _ U' {X with w:=W',O:=s'.O,C:=s'.C} _ hk ⟨Rel.trans (M:=some G) hn.ext x1,hinv,zpb (show znc IT {X with w:=W',O:=s'.O,C:=s'.C} S a.tmps from zbu hIT x3 _ _ hn.reps) o.dst (by rw[Rep]),?_,?_⟩
     ·rw[Act.defers_put];refine⟨le_trans hn.marks.1 hkp.size,fun e=> ?_,hn.marks.2.2⟩;obtain⟨m0,Ds,m1,m2,m3⟩:=hn.marks.2.1 e;refine⟨le_trans m0 hkp.size,Ds,m1,m2,fun D hD=>⟨(m3 D hD).1,?_⟩⟩;obtain⟨m4,m5⟩:=m3 D hD;refine hkp.own D _ (.inl (le_trans hG.2 m4)) (fun ho=> ?_) m5;obtain⟨⟨cs0,t0,f0,h0⟩,_⟩:=hn.inv.Ok D ((f1 D).1 ho);rw[m5] at h0;cases h0
     ·exact⟨s',fun b=>Iff.rfl,⟨fun b o=>Iff.rfl,x4⟩,hj,le_trans f4 hkp.size,f5,f6,f7⟩
    rintro e W' ⟨s',hkp,(⟨rfl,hj⟩|⟨rfl,hj⟩)⟩
    ·exact done true {U with out:=U.out+1} s' W' hkp rfl rfl rfl (by rw[if_neg (by simp[hstop])];exact hj) hk1
    ·exact done false {U with stop:=true} s' W' hkp rfl rfl rfl (by rw[if_pos rfl];exact hj) hk2
  ·rcases h with⟨x,U',ha,h⟩|⟨m,neg,ha,hk1,hk2⟩
   ·obtain⟨v,X',h1,h2,h3,h4⟩:=zqj hIT ha hρ hn.inv;unfold Oper.wpIn;refine⟨fun f _=>hF.fn f,?_⟩;rw[Oper.semAt_plain F _ _ (zql ha)];rcases h1 with h1|⟨h1,rfl⟩
    ·rw[h1];exact hK _ _ _ _ h (zbz hG hIT hn h2 h3 (zqi ha) o.dst h4)
    ·rw[h1];exact hK _ _ _ _ h (zbz hG hIT hn h2 h3 (zqi ha) o.dst h4)
   ·obtain⟨t,h1,h2⟩:=ha.elim (fun ha=>zzr ha hρ (z0g a)) (fun ha=>z1u hIT ha hρ (z0g a));unfold Oper.wpIn;refine⟨fun f _=>hF.fn f,?_⟩;rw[Oper.semAt_plain F _ _ (ha.elim zzs z3q),h1];have hk:K (.raw (.bool t)) U:=by
     rcases h2 with rfl|⟨h0,rfl⟩
     ·exact hk2
     ·exact hk1 h0
    exact hK _ _ _ _ hk (zbz hG hIT hn (Ext.refl X) hn.inv ⟨rfl,rfl⟩ o.dst (by rw[Rep]))
theorem zix {ops:Array Oper} {a:Act} {k:Nat} {c:Option Bool} (h:zdx ops S k=some c)(hr:znc IT X S a.tmps):yielded ops a.tmps k=c:=by
 unfold zdx at h;unfold yielded;cases hd:(ops[k]?).bind (·.dst) with
 |none=>rw[hd] at h;cases h
 | some d=>
  rw[hd] at h;simp only at h;cases hs:S[d]? with
  |none=>rw[hs] at h;cases h
  | some x=>
   rw[hs] at h;obtain⟨v,hv,hx⟩:=zei hr d x hs;have hv':a.tmps[d]? =some v:=by simpa using hv
   cases x with
   | raw u=>
    rw[Rep] at hx;subst hx;cases v with
    |bool b=>simp at h;subst h;simp[hv']
    |_=>simp at h;subst h;simp[hv']
   |_=>simp at h
theorem zgi (hIT:ITMono IT)(hF:FenceOk F P)(hG:zuc P B M) {ops:Array Oper} {Q:List AV->St->Prop} {K:Exit->Act->World->Prop} {X0:Cx} (hQ: ∀S U X a,Q S U->Now IT M F B X0 S U X a->K .normal a X.w):
 ∀(l:List Oper) (S:List AV) (U:St) (X:Cx) (a:Act),zcb IT P (zdu M) ops Q l S U->Now IT M F B X0 S U X a->wpListIn F nn P ops K l a X.w
 |[],S,U,X,a,h,hn=>hQ _ _ _ _ h hn
 | o ::l,S,U,X,a,h,hn=>by
  simp only[zcb] at h;simp only[wpListIn];cases hg:o.guard with
  | none=>
   rw[hg] at h;rw[if_pos (by simp[Region.wanted,hg])];exact zkd hIT hF hG h hn fun x U' X' a' hk hn'=>zgi hIT hF hG hQ l _ _ _ _ hk hn'
  | some kb=>
   obtain⟨k,b⟩:=kb;rw[hg] at h;obtain⟨c,hc,h⟩:=h;have hy:=zix hc hn.reps;by_cases e:c=some b
   ·rw[if_pos e] at h;rw[if_pos (by simp[Region.wanted,hg,hy,e])];exact zkd hIT hF hG h hn fun x U' X' a' hk hn'=>zgi hIT hF hG hQ l _ _ _ _ hk hn'
   ·rw[if_neg e] at h;rw[if_neg (by simp[Region.wanted,hg,hy,e])];exact⟨fun f _=>hF.fn f,zgi hIT hF hG hQ l _ _ _ _ h (zbz hG hIT hn (Ext.refl X) hn.inv ⟨rfl,rfl⟩ o.dst (by rw[Rep]))⟩
end
end Go.Ab
