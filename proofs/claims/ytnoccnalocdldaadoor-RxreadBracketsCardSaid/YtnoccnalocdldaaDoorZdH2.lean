import Derived.Test.YtnoccnalocdldaaDoorZdH
set_option linter.all false
namespace Go.Ab
open Go Go.RowKit Go.Fwd
mutual
def clo:AV→Bool
 | .agg cs=>cloL cs
 | .tup cs=>cloL cs
 | .list _ cs st=>(match st with| .none=>true|_=>false)&&cloL cs
 | .ptr _ _=>false
 | .bsl _ _ _ _ _=>false
 | .iptr cs=>cloL cs
 | .clos _ cs=>cloL cs
 | .iter _=>true
 | .yld _=>true
 | .raw _=>true
 | .top=>true
 | .bad=>true
def cloL:List AV→Bool
 |[]=>true
 |a::l=>clo a&&cloL l
end
theorem zdw: ∀l m,cloL (l++m)=(cloL l&&cloL m)
 |[],m=>by simp[cloL]
 |a::l,m=>by rw[List.cons_append,cloL,cloL,zdw l m,Bool.and_assoc]
mutual
theorem z0s: ∀a:AV,clo a=true→zcv a=a
 | .agg cs,h=>by rw[zcv,zdl cs (by simpa[clo] using h)]
 | .tup cs,h=>by rw[zcv,zdl cs (by simpa[clo] using h)]
 | .list n cs st,h=>by
  simp only[clo,Bool.and_eq_true] at h
  rw[zcv,zdl cs h.2]
  cases st<;>first|rfl|simp at h
 | .ptr _ _,h=>by simp[clo] at h
 | .bsl _ _ _ _ _,h=>by simp[clo] at h
 | .iptr cs,h=>by rw[zcv,zdl cs (by simpa[clo] using h)]
 | .clos f cs,h=>by rw[zcv,zdl cs (by simpa[clo] using h)]
 | .iter _,_=>by rw[zcv]
 | .yld _,_=>by rw[zcv]
 | .raw _,_=>by rw[zcv]
 | .top,_=>by rw[zcv]
 | .bad,_=>by rw[zcv]
theorem zdl: ∀l:List AV,cloL l=true→stripL l=l
 |[],_=>by rw[stripL]
 | a::l,h=>by
  rw[cloL,Bool.and_eq_true] at h
  rw[stripL,z0s a h.1,zdl l h.2]
end
mutual
theorem zam (n:Nat): ∀a:AV,clo a=true→zbp n a=true
 | .agg cs,h=>by rw[zbp,zal n cs (by simpa[clo] using h)]
 | .tup cs,h=>by rw[zbp,zal n cs (by simpa[clo] using h)]
 | .list m cs st,h=>by
  simp only[clo,Bool.and_eq_true] at h
  rw[zbp,zal n cs h.2]
 | .ptr _ _,h=>by simp[clo] at h
 | .bsl _ _ _ _ _,h=>by simp[clo] at h
 | .iptr cs,h=>by rw[zbp,zal n cs (by simpa[clo] using h)]
 | .clos f cs,h=>by rw[zbp,zal n cs (by simpa[clo] using h)]
 | .iter _,_=>by rw[zbp]
 | .yld _,_=>by rw[zbp]
 | .raw _,_=>by rw[zbp]
 | .top,_=>by rw[zbp]
 | .bad,_=>by rw[zbp]
theorem zal (n:Nat): ∀l:List AV,cloL l=true→zad n l=true
 |[],_=>by rw[zad]
 | a::l,h=>by
  rw[cloL,Bool.and_eq_true] at h
  rw[zad,zam n a h.1,zal n l h.2];rfl
end
mutual
theorem z7b (g:FZ): ∀a:AV,clo a=true→zgb g a=a
 | .agg cs,h=>by rw[zgb,zdx g cs (by simpa[clo] using h)]
 | .tup cs,h=>by rw[zgb,zdx g cs (by simpa[clo] using h)]
 | .list n cs st,h=>by
  simp only[clo,Bool.and_eq_true] at h
  rw[zgb,zdx g cs h.2]
  cases st<;>first|rfl|simp at h
 | .ptr _ _,h=>by simp[clo] at h
 | .bsl _ _ _ _ _,h=>by simp[clo] at h
 | .iptr cs,h=>by rw[zgb,zdx g cs (by simpa[clo] using h)]
 | .clos f cs,h=>by rw[zgb,zdx g cs (by simpa[clo] using h)]
 | .iter _,_=>by rw[zgb]
 | .yld _,_=>by rw[zgb]
 | .raw _,_=>by rw[zgb]
 | .top,_=>by rw[zgb]
 | .bad,_=>by rw[zgb]
theorem zdx (g:FZ): ∀l:List AV,cloL l=true→zbr g l=l
 |[],_=>by rw[zbr]
 | a::l,h=>by
  rw[cloL,Bool.and_eq_true] at h
  rw[zbr,z7b g a h.1,zdx g l h.2]
end
def qba (m:Nat):Room→Room
 | .own s=>if s<m then .own s else .none
 |r=>r
mutual
def zhc (m:Nat)(g:FZ):AV→AV
 | .raw u=> .raw u
 | .agg cs=> .agg (zaf m g cs)
 | .tup cs=> .tup (zaf m g cs)
 | .list n cs st=> .list n (zaf m g cs) (match zaf m g cs with|c=>qba m st)
 | .ptr s off=>g.1 s off
 | .bsl s off n sz _=>g.2 s off n sz
 | .iptr cs=> .iptr (zaf m g cs)
 | .clos f caps=> .clos f (zaf m g caps)
 | .iter xs=> .iter xs
 | .yld l=> .yld l
 | .top=> .top
 | .bad=> .bad
def zaf (m:Nat)(g:FZ):List AV→List AV
 |[]=>[]
 |a::l=>zhc m g a::zaf m g l
end
theorem zql (m:Nat)(g:FZ): ∀l,(zaf m g l).length=l.length
 |[]=>by simp[zaf]
 |a::l=>by simp[zaf,zql m g l]
mutual
theorem zd (m:Nat)(g:FZ): ∀a:AV,clo a=true→zhc m g a=a
 | .agg cs,h=>by rw[zhc,zau m g cs (by simpa[clo] using h)]
 | .tup cs,h=>by rw[zhc,zau m g cs (by simpa[clo] using h)]
 | .list n cs st,h=>by
  simp only[clo,Bool.and_eq_true] at h
  rw[zhc,zau m g cs h.2]
  cases st<;>first|rfl|simp at h
 | .ptr _ _,h=>by simp[clo] at h
 | .bsl _ _ _ _ _,h=>by simp[clo] at h
 | .iptr cs,h=>by rw[zhc,zau m g cs (by simpa[clo] using h)]
 | .clos f cs,h=>by rw[zhc,zau m g cs (by simpa[clo] using h)]
 | .iter _,_=>by rw[zhc]
 | .yld _,_=>by rw[zhc]
 | .raw _,_=>by rw[zhc]
 | .top,_=>by rw[zhc]
 | .bad,_=>by rw[zhc]
theorem zau (m:Nat)(g:FZ): ∀l:List AV,cloL l=true→zaf m g l=l
 |[],_=>by rw[zaf]
 | a::l,h=>by
  rw[cloL,Bool.and_eq_true] at h
  rw[zaf,zd m g a h.1,zau m g l h.2]
end
mutual
theorem zjv {IT:IterP} (hIT:ITMono IT) {X Y:Cx} {m:Nat} {g:FZ} (hF: ∀b o,X.F b o→Y.F b o)(hw:Y.w=X.w)(hl: ∀s,s<m→Y.lens[s]? =X.lens[s]? ∧Y.β[s]? =X.β[s]?)
 (hg:(∀s off v,Rep IT X (.ptr s off) v→Rep IT Y (g.1 s off) v)∧ ∀s off n sz f v,Rep IT X (.bsl s off n sz f) v→Rep IT Y (g.2 s off n sz) v): ∀(a:AV) (v:Value),Rep IT X a v→Rep IT Y (zhc m g a) v
 | .raw u,v,hr=>hr
 | .agg cs,v,⟨vs,e,hr,h1⟩=>⟨vs,e,zde hIT hF hw hl hg cs vs hr,h1⟩
 | .tup cs,v,⟨vs,e,hr⟩=>⟨vs,e,zde hIT hF hw hl hg cs vs hr⟩
 | .list n cs st,v,⟨a,cap,e,hcap,hc,hs⟩=>⟨a,cap,e,hcap,hc.imp (fun h=>by subst h;rfl) fun⟨b,o,e1,e2⟩=>⟨b,o,e1,z2z hIT hF hw hl hg cs b o e2⟩,by
  cases st with
  |none=>trivial
  |full=>exact hs
  | own s=>
   simp only[qba]
   split
   ·trivial
   ·rename_i h2
    split at h2<;>cases h2
   ·rename_i s' h2
    split at h2<;>cases h2
    rename_i hlt
    obtain⟨L,k1,k2,k3⟩:=hs
    rw[zql]
    exact⟨L,by rw[(hl s hlt).1];exact k1,k2,fun e'=>by
     obtain⟨r,r1,r2⟩:=k3 e'
     exact⟨r,by rw[(hl s hlt).2];exact r1,r2⟩⟩⟩
 | .ptr s off,v,hr=>hg.1 s off v hr
 | .bsl s off n sz f,v,hr=>hg.2 s off n sz f v hr
 | .iptr cs,v,⟨b,o,e,hc⟩=>⟨b,o,e,z2z hIT hF hw hl hg cs b o hc⟩
 | .clos f caps,v,⟨vs,e,hr⟩=>⟨vs,e,zde hIT hF hw hl hg caps vs hr⟩
 | .iter xs,v,h2=>hIT.it _ _ _ _ hF (fun b o h=>by rw[hw]) (Szs.eq hw) h2
 | .yld _,_,hr=>hr
 | .top,_,hr=>hr
 | .bad,_,hr=>hr
theorem zde {IT:IterP} (hIT:ITMono IT) {X Y:Cx} {m:Nat} {g:FZ} (hF: ∀b o,X.F b o→Y.F b o)(hw:Y.w=X.w)(hl: ∀s,s<m→Y.lens[s]? =X.lens[s]? ∧Y.β[s]? =X.β[s]?)
 (hg:(∀s off v,Rep IT X (.ptr s off) v→Rep IT Y (g.1 s off) v)∧ ∀s off n sz f v,Rep IT X (.bsl s off n sz f) v→Rep IT Y (g.2 s off n sz) v): ∀(l:List AV) (vs:List Value),zbk IT X l vs→zbk IT Y (zaf m g l) vs
 |[],_,hr=>hr
 |a::l,vs,⟨v,r,e,h1,h2⟩=>⟨v,r,e,zjv hIT hF hw hl hg a v h1,zde hIT hF hw hl hg l r h2⟩
theorem z2z {IT:IterP} (hIT:ITMono IT) {X Y:Cx} {m:Nat} {g:FZ} (hF: ∀b o,X.F b o→Y.F b o)(hw:Y.w=X.w)(hl: ∀s,s<m→Y.lens[s]? =X.lens[s]? ∧Y.β[s]? =X.β[s]?)
 (hg:(∀s off v,Rep IT X (.ptr s off) v→Rep IT Y (g.1 s off) v)∧ ∀s off n sz f v,Rep IT X (.bsl s off n sz f) v→Rep IT Y (g.2 s off n sz) v): ∀(cs:List AV) (b o:Nat),At IT X cs b o→At IT Y (zaf m g cs) b o
 |[],_,_,_=>trivial
 |c::cs,b,o,⟨⟨hf,v,hv,h1,hr⟩,ht⟩=>⟨⟨hF b o hf,v,by rw[hw];exact hv,h1,zjv hIT hF hw hl hg c v hr⟩,z2z hIT hF hw hl hg cs b (o+1) ht⟩
end
def zfr (n:Nat)(fs js:List Nat)(s:Nat):Option Nat:=
 if s<n then(if fs.contains s then none else some s) else(if js.contains s then some (n+js.idxOf s) else none)
def kz (bs:List (TypeId×List AV))(m n:Nat)(fs js:List Nat):Nat→FZ
 |0=>(fun s off=>match zfr n fs js s with|some s'=> .ptr s' off|none=> .top,fun s off k sz=>match zfr n fs js s with|some s'=> .bsl s' off k sz false|none=> .top)
 | d+1=>(fun s off=>match zfr n fs js s with|some s'=> .ptr s' off|none=> .iptr (zaf m (kz bs m n fs js d) (((bs[s]?).map fun b=>b.2.drop off).getD [])),
  fun s off k sz=>match zfr n fs js s with|some s'=> .bsl s' off k sz false|none=> .list k ((zaf m (kz bs m n fs js d) (((bs[s]?).map fun b=>b.2.drop off).getD [])).take (k*sz)) .none)
def zck (bs:List (TypeId×List AV))(m n:Nat)(fs js:List Nat)(d:Nat):List (TypeId×List AV):=
 ((bs.take n).mapIdx fun i b=>(b.1,if fs.contains i then[] else zaf m (kz bs m n fs js d) b.2))++js.map fun j=>((bs[j]?).map fun b=>(b.1,zaf m (kz bs m n fs js d) b.2)).getD (0,[.bad])
def zer (σ:St)(m n:Nat)(fs js:List Nat)(d:Nat):St:={σ with boxes:=zck σ.boxes m n fs js d,lens:=σ.lens.take m,elems:=σ.elems.take m}
def zdc (σ:St)(n:Nat)(js:List Nat):Bool:=decide (n≤σ.boxes.length)&&js.all (fun j=>decide (n≤j)&&decide (j<σ.boxes.length))&&decide js.Nodup
def FrzK (σ:St)(n:Nat)(fs js:List Nat)(Y:Cx)(b o:Nat):Prop:=Y.F b o∨ ∃s bx,Y.κ[s]? =some b∧σ.boxes[s]? =some bx∧zfr n fs js s=none∧o<bx.2.length
def zcz (σ:St)(m n:Nat)(fs js:List Nat)(Y:Cx):Cx:=
 {Y with F:=FrzK σ n fs js Y,κ:=Y.κ.take n++js.map fun j=>Y.κ[j]?.getD 0,β:=Y.β.take m,lens:=Y.lens.take m}
theorem z9h {IT:IterP} {σ:St} {Y:Cx} {m n:Nat} {fs js:List Nat} (hI:Inv IT σ Y)(hok:zdc σ n js=true) {s s' b:Nat} (hp:zfr n fs js s=some s')(hs:Y.κ[s]? =some b):(zcz σ m n fs js Y).κ[s']? =some b:=by
 simp only[zdc,Bool.and_eq_true,decide_eq_true_eq] at hok
 obtain⟨⟨h1,h2⟩,h3⟩:=hok
 have hl:=hI.κlen
 show(Y.κ.take n++js.map fun j=>Y.κ[j]?.getD 0)[s']? =some b
 unfold zfr at hp
 split at hp
 ·rename_i hlt
  split at hp<;>cases hp
  rw[List.getElem?_append_left (by simp;omega),List.getElem?_take,if_pos hlt];exact hs
 ·split at hp<;>cases hp
  rename_i hc
  have hm:s∈js:=by simpa using hc
  have hi:=List.idxOf_lt_length_of_mem hm
  have hlen:(Y.κ.take n).length=n:=by simp;omega
  rw[List.getElem?_append_right (by omega),hlen,Nat.add_sub_cancel_left,List.getElem?_map,List.getElem?_eq_getElem hi,Option.map_some,List.getElem_idxOf,hs]
  rfl
theorem z0c {IT:IterP} {σ:St} {Y:Cx} {m n:Nat} {fs js:List Nat} (hI:Inv IT σ Y)(hok:zdc σ n js=true) {s' b:Nat} (hs:(zcz σ m n fs js Y).κ[s']? =some b):
 ∃s,Y.κ[s]? =some b∧((s'<n∧s=s')∨(n≤s'∧js[s'-n]? =some s)):=by
 simp only[zdc,Bool.and_eq_true,decide_eq_true_eq] at hok
 obtain⟨⟨h1,h2⟩,h3⟩:=hok
 have hl:=hI.κlen
 have hs:(Y.κ.take n++js.map fun j=>Y.κ[j]?.getD 0)[s']? =some b:=hs
 have hlen:(Y.κ.take n).length=n:=by simp;omega
 rcases Nat.lt_or_ge s' n with hlt|hge
 ·rw[List.getElem?_append_left (by omega),List.getElem?_take,if_pos hlt] at hs
  exact⟨s',hs,.inl ⟨hlt,rfl⟩⟩
 ·rw[List.getElem?_append_right (by omega),hlen,List.getElem?_map] at hs
  cases hj:js[s'-n]? with
  |none=>rw[hj] at hs;cases hs
  | some j=>
   rw[hj] at hs
   have hjm:=List.mem_of_getElem? hj
   have hjl:=List.all_eq_true.1 h2 j hjm
   simp only[Bool.and_eq_true,decide_eq_true_eq] at hjl
   have hjk:Y.κ[j]? =some (Y.κ[j]'(by omega)):=List.getElem?_eq_getElem _
   rw[Option.map_some,hjk] at hs
   exact⟨j,by rw[hjk];simpa using hs,.inr ⟨hge,rfl⟩⟩
theorem zxm {σ:St} {m n d:Nat} {fs js:List Nat} (hok:zdc σ n js=true) {s':Nat} {t:TypeId} {cs:List AV} (hb:(zck σ.boxes m n fs js d)[s']? =some (t,cs)) {s:Nat} (hs:(s'<n∧s=s')∨(n≤s'∧js[s'-n]? =some s)):
 ∃cs0,σ.boxes[s]? =some (t,cs0)∧((zfr n fs js s=none∧cs=[])∨cs=zaf m (kz σ.boxes m n fs js d) cs0)∧(cs≠[]→zfr n fs js s≠none):=by
 simp only[zdc,Bool.and_eq_true,decide_eq_true_eq] at hok
 obtain⟨⟨h1,h2⟩,h3⟩:=hok
 unfold zck at hb
 have hlen:((σ.boxes.take n).mapIdx fun i b=>(b.1,if fs.contains i=true then[] else zaf m (kz σ.boxes m n fs js d) b.2)).length=n:=by simp;omega
 rcases hs with⟨hlt,rfl⟩|⟨hge,hj⟩
 ·rw[List.getElem?_append_left (by omega),List.getElem?_mapIdx,List.getElem?_take,if_pos hlt,List.getElem?_eq_getElem (by omega)] at hb
  simp only[Option.map_some,Option.some.injEq,Prod.mk.injEq] at hb
  obtain⟨hb1,hb2⟩:=hb
  refine⟨σ.boxes[s].2,by rw[List.getElem?_eq_getElem (by omega),←hb1],?_,?_⟩
  ·by_cases hf:fs.contains s=true
   ·rw[if_pos hf] at hb2;exact .inl ⟨by rw[zfr,if_pos hlt,if_pos hf],hb2.symm⟩
   ·rw[if_neg hf] at hb2;exact .inr hb2.symm
  ·intro hne
   by_cases hf:fs.contains s=true
   ·rw[if_pos hf] at hb2;exact absurd hb2.symm hne
   ·rw[zfr,if_pos hlt,if_neg hf];simp
 ·have hjm:=List.mem_of_getElem? hj
  have hjl:=List.all_eq_true.1 h2 s hjm
  simp only[Bool.and_eq_true,decide_eq_true_eq] at hjl
  rw[List.getElem?_append_right (by omega),hlen,List.getElem?_map,hj,Option.map_some,List.getElem?_eq_getElem hjl.2] at hb
  simp only[Option.map_some,Option.getD_some,Option.some.injEq,Prod.mk.injEq] at hb
  refine⟨σ.boxes[s].2,by rw[List.getElem?_eq_getElem hjl.2,←hb.1],.inr hb.2.symm,fun _=> ?_⟩
  rw[zfr,if_neg (by omega),if_pos (by simpa using hjm)];simp
theorem znz {IT:IterP} (hIT:ITMono IT) {σ:St} {Y:Cx} (hI:Inv IT σ Y) {m n:Nat} {fs js:List Nat} (hok:zdc σ n js=true): ∀d,
 (∀s off v,Rep IT Y (.ptr s off) v→Rep IT (zcz σ m n fs js Y) ((kz σ.boxes m n fs js d).1 s off) v)∧ ∀s off k sz f v,Rep IT Y (.bsl s off k sz f) v→Rep IT (zcz σ m n fs js Y) ((kz σ.boxes m n fs js d).2 s off k sz) v:=by
 have hrows: ∀s,s<m→(zcz σ m n fs js Y).lens[s]? =Y.lens[s]? ∧(zcz σ m n fs js Y).β[s]? =Y.β[s]? :=fun s hs=>by
  constructor
  ·show(Y.lens.take m)[s]? =_
   rw[List.getElem?_take,if_pos hs]
  ·show(Y.β.take m)[s]? =_
   rw[List.getElem?_take,if_pos hs]
 have kept1: ∀s s' off v,zfr n fs js s=some s'→Rep IT Y (.ptr s off) v→Rep IT (zcz σ m n fs js Y) (.ptr s' off) v:=by
  rintro s s' off v hp ⟨b,hb,rfl⟩
  exact⟨b,z9h hI hok hp hb,rfl⟩
 have kept2: ∀s s' off k sz f v,zfr n fs js s=some s'→Rep IT Y (.bsl s off k sz f) v→Rep IT (zcz σ m n fs js Y) (.bsl s' off k sz false) v:=by
  rintro s s' off k sz f v hp ⟨b,cap,cur,t,hb,rfl,hcap,hful,hrow⟩
  exact⟨b,cap,cur,t,z9h hI hok hp hb,rfl,hcap,(fun h=>by cases h),hrow⟩
 intro d
 induction d with
 | zero=>
  refine⟨fun s off v hr=> ?_,fun s off k sz f v hr=> ?_⟩
  ·simp only[kz]
   split
   ·rename_i s' hp;exact kept1 s s' off v hp hr
   ·trivial
  ·simp only[kz]
   split
   ·rename_i s' hp;exact kept2 s s' off k sz f v hp hr
   ·trivial
 | succ d ih=>
  have key: ∀(s b off:Nat),Y.κ[s]? =some b→zfr n fs js s=none→At IT (zcz σ m n fs js Y) (zaf m (kz σ.boxes m n fs js d) (((σ.boxes[s]?).map fun b=>b.2.drop off).getD [])) b off:=fun s b off hb hp=>by
   have hs:s<σ.boxes.length:=by rw[←hI.κlen];exact(List.getElem?_eq_some_iff.1 hb).1
   obtain⟨us,zs,u1,u2,u3⟩:=hI.box s b (σ.boxes[s]).1 (σ.boxes[s]).2 hb (by simp[hs])
   have hul:=zr u2
   simp only[List.getElem?_eq_getElem hs,Option.map_some,Option.getD_some]
   have hcell: ∀(i:Nat) v,(us.drop off)[i]? =some v→Y.w.cell? ⟨b,off+i,none⟩=some v:=fun i v hv=>by
    rw[List.getElem?_drop] at hv
    have:=(List.getElem?_eq_some_iff.1 hv).1
    unfold World.cell?
    simp[u1,List.getElem?_append_left this,hv]
   exact zws (fun i hi=> .inr ⟨s,σ.boxes[s],hb,by simp[hs],hp,by simp at hi;omega⟩) (fun v hv=>u3 v (List.mem_of_mem_drop hv)) (zde (X:=Y) (Y:=zcz σ m n fs js Y) hIT (fun b o h=>Or.inl h) rfl hrows ih _ _ (zgo u2 off)) hcell
  refine⟨fun s off v hr=> ?_,fun s off k sz f v hr=> ?_⟩
  ·simp only[kz]
   split
   ·rename_i s' hp;exact kept1 s s' off v hp hr
   ·rename_i hp
    obtain⟨b,hb,rfl⟩:=hr
    exact⟨b,off,rfl,key s b off hb hp⟩
  ·simp only[kz]
   split
   ·rename_i s' hp;exact kept2 s s' off k sz f v hp hr
   ·rename_i hp
    obtain⟨b,cap,cur,t,hb,rfl,hcap,hful,_⟩:=hr
    exact⟨_,cap,rfl,⟨hcap,fun h=>by cases h⟩,.inr ⟨b,off,rfl,zvm _ (key s b off hb hp)⟩,trivial⟩
theorem zhj {σ:St} {Y:Cx} {m n:Nat} {fs js:List Nat}: ∀s,s<m→(zcz σ m n fs js Y).lens[s]? =Y.lens[s]? ∧(zcz σ m n fs js Y).β[s]? =Y.β[s]? :=fun s hs=>by
 constructor
 ·show(Y.lens.take m)[s]? =_
  rw[List.getElem?_take,if_pos hs]
 ·show(Y.β.take m)[s]? =_
  rw[List.getElem?_take,if_pos hs]
theorem keepF {IT:IterP} {σ:St} {Y:Cx} (hI:Inv IT σ Y) {m n:Nat} {fs js:List Nat} {b o:Nat} (h:(zcz σ m n fs js Y).F b o):Y.F b o∨b∈Y.κ:=by
 rcases h with h|⟨s,bx,h1,_⟩
 ·exact .inl h
 ·exact .inr (List.mem_of_getElem? h1)
theorem z6k {IT:IterP} {σ:St} {Y:Cx} (hI:Inv IT σ Y) {m n:Nat} {fs js:List Nat} (hok:zdc σ n js=true) {b:Nat} (h:b∈(zcz σ m n fs js Y).κ):b∈Y.κ:=by
 obtain⟨s',hs,rfl⟩:=List.mem_iff_getElem.1 h
 obtain⟨s,h1,_⟩:=z0c hI hok (List.getElem?_eq_getElem hs)
 exact List.mem_of_getElem? h1
theorem zri {IT:IterP} (hIT:ITMono IT) {σ:St} {Y:Cx} (hI:Inv IT σ Y) {m n:Nat} {fs js:List Nat} (hok:zdc σ n js=true)(d:Nat):Inv IT (zer σ m n fs js d) (zcz σ m n fs js Y):=by
 have hok':=hok
 simp only[zdc,Bool.and_eq_true,decide_eq_true_eq] at hok'
 obtain⟨⟨h1,h2⟩,h3⟩:=hok'
 have hl:=hI.κlen
 have hrep:=znz hIT hI (m:=m) (fs:=fs) hok d
 refine {lens:= ?_,elems:= ?_,κlen:= ?_,κnd:= ?_,box:= ?_,κF:= ?_,βlen:= ?_,βnd:= ?_,βκ:= ?_,row:= ?_,Ok:= ?_,Fcell:= ?_,gv:=hIT.gv _ _ _ _ (fun b o h=>Or.inl h) (fun _ _ _=>rfl) (Szs.refl _) hI.gv}
 ·show Y.lens.take m=σ.lens.take m
  rw[hI.lens]
 ·show(Y.β.take m).map (·.elem)=σ.elems.take m
  rw[←hI.elems,List.map_take]
 ·show(Y.κ.take n++js.map fun j=>Y.κ[j]?.getD 0).length=(zck σ.boxes m n fs js d).length
  simp[zck];omega
 ·intro s1 s2 b k1 k2 hne
  obtain⟨r1,a1,b1⟩:=z0c hI hok k1
  obtain⟨r2,a2,b2⟩:=z0c hI hok k2
  have hne':r1≠r2:=fun e=>by
   subst e
   rcases b1 with⟨c1,rfl⟩|⟨c1,c2⟩<;>rcases b2 with⟨d1,d2⟩|⟨d1,d2⟩
   ·exact hne d2
   ·have hjl:=List.all_eq_true.1 h2 _ (List.mem_of_getElem? d2)
    simp only[Bool.and_eq_true,decide_eq_true_eq] at hjl
    omega
   ·have hjl:=List.all_eq_true.1 h2 _ (List.mem_of_getElem? c2)
    simp only[Bool.and_eq_true,decide_eq_true_eq] at hjl
    omega
   ·obtain⟨x1,x2⟩:=List.getElem?_eq_some_iff.1 c2
    obtain⟨y1,y2⟩:=List.getElem?_eq_some_iff.1 d2
    have:=(List.getElem_inj h3 (h₀:=x1) (h₁:=y1)).1 (x2.trans y2.symm)
    omega
  have fin: ∀(s r:Nat),(zcz σ m n fs js Y).κ[s]? =some b→((s<n∧r=s)∨(n≤s∧js[s-n]? =some r))→(∃t,σ.boxes[r]? =some (t,[]))→ ∃t,(zck σ.boxes m n fs js d)[s]? =some (t,[]):=by
   rintro s r ks hs ⟨t,hb⟩
   have hlen:s<(zck σ.boxes m n fs js d).length:=by
    have h4:=(List.getElem?_eq_some_iff.1 ks).1
    have h5:s<(Y.κ.take n++js.map fun j=>Y.κ[j]?.getD 0).length:=h4
    simp[zck] at h5⊢;omega
   obtain⟨cs0,e1,e2,_⟩:=zxm (t:=((zck σ.boxes m n fs js d)[s]).1) (cs:=((zck σ.boxes m n fs js d)[s]).2) hok (List.getElem?_eq_getElem hlen) hs
   rw[hb] at e1
   cases e1
   refine⟨((zck σ.boxes m n fs js d)[s]).1,?_⟩
   rw[List.getElem?_eq_getElem hlen]
   have:((zck σ.boxes m n fs js d)[s]).2=[]:=by
    rcases e2 with⟨_,e2⟩|e2
    ·exact e2
    ·rw[e2,zaf]
   rw[←this]
  exact(hI.κnd r1 r2 b a1 a2 hne').imp (fin s1 r1 k1 b1) (fin s2 r2 k2 b2)
 ·intro s b t cs hs hb
  obtain⟨r,a1,b1⟩:=z0c hI hok hs
  obtain⟨cs0,e1,e2,_⟩:=zxm hok hb b1
  obtain⟨us,zs,u1,u2,u3⟩:=hI.box r b t cs0 a1 e1
  rcases e2 with⟨_,rfl⟩|rfl
  ·exact⟨[],us++zs,u1,by rw[zbk],by simp⟩
  ·exact⟨us,zs,u1,zde (X:=Y) (Y:=zcz σ m n fs js Y) hIT (fun b o h=>Or.inl h) rfl zhj hrep _ _ u2,u3⟩
 ·intro s b t cs hs hb hne o hf
  obtain⟨r,a1,b1⟩:=z0c hI hok hs
  obtain⟨cs0,e1,e2,e3⟩:=zxm hok hb b1
  have hp:=e3 hne
  have hne0:cs0≠[]:=fun e=>by
   subst e
   rcases e2 with⟨_,e2⟩|e2
   ·exact hne e2
   ·exact hne (by rw[e2,zaf])
  rcases hf with hf|⟨s2,bx,f1,f2,f3,f4⟩
  ·exact hI.κF r b t cs0 a1 e1 hne0 o hf
  ·have hne2:r≠s2:=fun e=>by subst e;exact hp f3
   rcases hI.κnd r s2 b a1 f1 hne2 with⟨t2,h⟩|⟨t2,h⟩
   ·rw[e1] at h;cases h;exact hne0 rfl
   ·rw[f2] at h;cases h;simp at f4
 ·show(Y.β.take m).length=(Y.lens.take m).length
  simp[hI.βlen]
 ·show((Y.β.take m).map (·.block)).Nodup
  rw[List.map_take]
  exact hI.βnd.sublist (List.take_sublist _ _)
 ·intro r hr hm
  exact hI.βκ r (List.mem_of_mem_take hr) (z6k hI hok hm)
 ·intro s r L hr hL
  have hr:(Y.β.take m)[s]? =some r:=hr
  have hL:(Y.lens.take m)[s]? =some L:=hL
  rw[List.getElem?_take] at hr hL
  split at hr<;>try cases hr
  rename_i hs
  rw[if_pos hs] at hL
  obtain⟨cur,fz,c1,c2,c3,c4,c5,c6,c7⟩:=hI.row s r L hr hL
  refine⟨cur,fz,c1,c2,c3,c4,c5,fun o hf=> ?_,c7⟩
  rcases hf with hf|⟨s2,bx,f1,_⟩
  ·exact c6 o hf
  ·exact absurd (List.mem_of_getElem? f1) (hI.βκ r (List.mem_of_getElem? hr))
 ·intro b ho
  obtain⟨k1,k2,k3,k4⟩:=hI.Ok b ho
  refine⟨k1,fun hm=>k2 (z6k hI hok hm),fun r hr=>k3 r (List.mem_of_mem_take hr),fun o hf=> ?_⟩
  rcases hf with hf|⟨s2,bx,f1,_⟩
  ·exact k4 o hf
  ·exact absurd (List.mem_of_getElem? f1) k2
 ·intro b o hf
  rcases hf with hf|⟨s,bx,f1,f2,f3,f4⟩
  ·exact hI.Fcell b o hf
  ·obtain⟨t,cs⟩:=bx
   obtain⟨us,zs,u1,u2,u3⟩:=hI.box s b t cs f1 f2
   have hul:=zr u2
   simp only at f4
   refine⟨us[o]'(by omega),?_⟩
   show Y.w.cell? _=_
   rw[cell_of_row _ _ _ _ _ _ u1]
   rw[List.getElem?_toArray,List.getElem?_append_left (by omega)]
   exact List.getElem?_eq_getElem _
theorem zrl {IT:IterP} {σ:St} {X Y:Cx} (hE:Ext X Y)(hI:Inv IT σ Y) {m n:Nat} {fs js:List Nat} (hok:zdc σ n js=true)(hn:X.κ.length≤n)(hm:X.lens.length≤m):Ext X (zcz σ m n fs js Y):=by
  have hok':=hok
  simp only[zdc,Bool.and_eq_true,decide_eq_true_eq] at hok'
  have hl:=hI.κlen
  exact { os :=hE.os,tape:=hE.tape,output:=hE.output,size:=hE.size,drawn:=hE.drawn,cell:=hE.cell
          F:=fun b o h=> .inl (hE.F b o h)
          κ :=fun s b hs=>by
            have:=(List.getElem?_eq_some_iff.1 hs).1
            show(Y.κ.take n++js.map fun j=>Y.κ[j]?.getD 0)[s]? =some b
            rw[List.getElem?_append_left (by simp;omega),List.getElem?_take,if_pos (by omega)];exact hE.κ s b hs
          lens:=fun s L hs=>by
            have hsm:s<m:=by have:=(List.getElem?_eq_some_iff.1 hs).1;omega
            obtain⟨L',k1,k2,k3⟩:=hE.lens s L hs
            obtain⟨q1,q2⟩:=zhj (σ:=σ) (Y:=Y) (n:=n) (fs:=fs) (js:=js) s hsm
            exact⟨L',by rw[q1];exact k1,k2,fun e=>by rw[q2];exact k3 e⟩
          blk:=hE.blk
          szs:=hE.szs
          frame:=hE.frame
          κnew:=fun b hb=>hE.κnew b (z6k hI hok hb)
          βnew:=fun r hr=>hE.βnew r (List.mem_of_mem_take hr)
          O:=hE.O
          C:=hE.C
          Fnew :=fun b o h=>by
            rcases keepF hI h with h|h
            · exact hE.Fnew b o h
            · rcases hE.κnew b h with h|h
              · exact .inr (.inr (.inr h))
              · exact .inr (.inl h)}
end Go.Ab
