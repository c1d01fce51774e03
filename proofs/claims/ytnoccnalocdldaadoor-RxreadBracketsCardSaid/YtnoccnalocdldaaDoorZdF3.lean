import Derived.Test.YtnoccnalocdldaaDoorZdF2
set_option linter.all false
namespace Go.Ab
open Go Go.RowKit Go.Fwd
def z6m (P:Program)(σ:St)(t tx:TypeId)(x y:AV):Option (AV×St):=
 match P.underlying t,P.underlying tx,x,y with
 | some (.slice e),some .string,.list n cs st,.raw (.string b)=>match P.info? e with
  | some i=>match i.zero with
   | some z=>
    if b.size=0∧i.size=1 then some (.list n cs st,σ)
    else if cs.length=n*i.size∧i.size=1∧0<b.size∧z.cells.size=i.size∧0<i.size∧n+b.size≤maxLen∧(n+b.size)*i.bytes≤140737488355328 then
     match st with
     | .none=>none
     | .full=>some (.list (n+b.size) (cs++(byteCells b).map AV.raw) (.own σ.lens.length),{σ with lens:=σ.lens++[(n+b.size)*i.size],elems:=σ.elems++[e]})
     | .own s=>if σ.lens[s]? =some cs.length∧σ.elems[s]? =some e∧0<n then some (.list (n+b.size) (cs++(byteCells b).map AV.raw) (.own s),{σ with lens:=σ.lens.set s ((n+b.size)*i.size)}) else none
    else none
   |none=>none
  |none=>none
 |_,_,_,_=>none
theorem zqv {P:Program} (w:World)(t tx ty e:TypeId)(i:TypeInfo)(ht:P.underlying t=some (.slice e))(hi:P.info? e=some i)
 (g sLen sCap:Nat) (cur:Array Value) (fz:Nat×Nat) (hg:w.heap[g]? =some (.cells cur e fz)) (hfz:fz.2≤sLen*i.size) (u:Value) (m:Nat) (news:List Value) (hs:Src P i.size tx u m news w)
 (hroom:sLen+m≤sCap) (hfit:sLen*i.size+news.length≤cur.size):
 (Builtin.append_ #[t,tx] ty #[.slice (some ⟨g,0,none⟩) sLen sCap,u]).run P w=
  .ok (.slice (some ⟨g,0,none⟩) (sLen+m) sCap) (w.setRow g (cur.toList.take (sLen*i.size)++news++cur.toList.drop (sLen*i.size+news.length)).toArray):=by
 have hst:=run_storeCells_atF P g (sLen*i.size) e fz news 0 cur w hg (by simpa using hfz) (by simpa using hfit) hs.one
 simp only[Nat.add_zero] at hst
 rcases hs.kind with⟨e',hk'⟩|hk'<;>simp[Builtin.append_,run_underlying ht,run_underlying hk',sizeOf,typeInfo,program,Sem.run,hi,hs.len,hroom,hs.cells,Addr.add_lit,hst]
theorem ztr {IT:IterP} (hIT:ITMono IT) {P:Program} {X:Cx} {σ σ':St} {t tx ty:TypeId} {x y a:AV} {v u:Value} (h:z6m P σ t tx x y=some (a,σ'))(hx:Rep IT X x v)(hy:Rep IT X y u)(hI:Inv IT σ X):
 ∃r X',(Builtin.append_ #[t,tx] ty #[v,u]).run P X.w= .ok r X'.w∧Ext X X'∧Inv IT σ' X'∧Rep IT X' a r:=by
 unfold z6m at h
 split at h<;>try cases h
 rename_i e n cs st bb hu htx
 split at h<;>try cases h
 rename_i i hi
 split at h<;>try cases h
 rename_i z hz
 have hx0:=hx
 rw[Rep] at hx
 obtain⟨ad,cap,rfl,⟨hcap,hnil⟩,hc,hst⟩:=hx
 have hy':u= .string bb:=hy
 subst hy'
 split at h
 ·rename_i hm
  cases h
  obtain⟨hm,hsz1⟩:=hm
  have hb0:bb=ByteArray.empty:=by
   apply ByteArray.ext
   exact Array.eq_empty_of_size_eq_zero hm
  refine⟨.slice ad n cap,X,?_,Ext.refl X,hI,hx0⟩
  subst hb0
  have hs:=Src.ofString (P:=P) X.w htx ByteArray.empty
  have h1:=hs.len
  have h2:=hs.cells
  have hn:n+0≤cap:=by omega
  rw[show ByteArray.empty.size=0 from rfl] at h1 h2
  rw[show byteCells ByteArray.empty=[] from rfl] at h2
  cases ad<;>simp[Builtin.append_,run_underlying hu,run_underlying htx,sizeOf,typeInfo,program,Sem.run,hi,hsz1,h1,h2,storeCells,hcap]
 ·split at h<;>try cases h
  rename_i hcond
  obtain⟨q1,q2,q3,q4,q5,q6,q7⟩:=hcond
  obtain⟨m,hm⟩: ∃m,m=bb.size:=⟨_,rfl⟩
  obtain⟨us,hus⟩: ∃us,us=byteCells bb:=⟨_,rfl⟩
  obtain⟨ds,hds0⟩: ∃ds,ds=(byteCells bb).map AV.raw:=⟨_,rfl⟩
  have hs:Src P i.size tx (.string bb) m us X.w:=by rw[hus,hm,q2];exact Src.ofString X.w htx bb
  simp only[←hm,←hds0] at h q3 q6 q7
  have u1:zbk IT X ds us:=by rw[hds0,hus];exact ziv _
  have u2: ∀w∈us,w.oneCell'=true:=hs.one
  have hul:=zr u1
  have q2':ds.length=m*i.size:=by rw[hul];exact hs.newsLen
  have hup:0<us.length:=by have:=Nat.mul_pos q3 q5;have:=hs.newsLen;omega
  have hml:((n+m:Nat):Int)≤9223372036854775807:=by unfold maxLen at q6;omega
  have hnm:(n+m)*i.size=n*i.size+m*i.size:=Nat.add_mul _ _ _
  -- the old cells
  obtain⟨vs,v1,v2,v3⟩: ∃vs:List Value,zbk IT X cs vs∧(∀w∈vs,w.oneCell'=true)∧ ∀b o,ad=some ⟨b,o,none⟩→ ∀(j:Nat) w,vs[j]? =some w→X.w.cell? ((⟨b,o,none⟩:Addr).add j)=some w:=by
   rcases hc with rfl|⟨b,o,rfl,hat⟩
   ·exact⟨[],by rw[zbk],by simp,by simp⟩
   ·obtain⟨vs,w1,w2,w3⟩:=zft hat
    exact⟨vs,w1,w2,fun b' o' e' j w hj=>by cases e';rw[zfh];exact w3 j w hj⟩
  have hvl:=zr v1
  have hone: ∀w∈vs++us,w.oneCell'=true:=fun w hw=>(List.mem_append.1 hw).elim (v2 w) (u2 w)
  have hz2: ∀c,n+m≤c→(vs++us++(Builtin.zeroCells z.cells (c-(n+m))).toList).length=c*i.size:=fun c hcc=>by
   have:=size_zeroCells z.cells (c-(n+m))
   simp only[List.length_append,Array.length_toList,this,q4,←hvl,←hul,q1,q2',←Nat.add_mul]
   congr 1;omega
  -- where it grows
  have grow: ∀(c0:Nat) (hlt:c0<n+m),c0=cap→ ∃r,(Builtin.append_ #[t,tx] ty #[.slice ad n cap,.string bb]).run P X.w=
   .ok (.slice (some ⟨X.w.heap.size,0,none⟩) (n+m) r) (X.w.drew.alloc (.cells (vs++us++(Builtin.zeroCells z.cells (r-(n+m))).toList).toArray e))∧n+m≤r∧r≤maxLen:=fun c0 hlt ec=>by
   subst ec
   refine⟨grownCap X.w (n+m) c0 e,?_,grownCap_ge _ _ _ _,grownCap_le_maxLen _ _ _ _ q6⟩
   have hold: ∀w:World,w.heap=X.w.heap→(Builtin.firstCells i.size n (.slice ad n c0)).run P w= .ok vs.toArray w:=fun w hw=>by
    rcases hc with rfl|⟨b,o,rfl,hat⟩
    ·have hn0:n=0:=by
      have:n*i.size=0:=by simpa using q1.symm
      rcases Nat.mul_eq_zero.1 this with h|h
      ·exact h
      ·omega
     subst hn0
     have hvs:vs=[]:=by rw[zbk] at v1;exact v1
     subst hvs
     cases ad<;>simp[Builtin.firstCells,loadCells,loadCellsFrom]
    ·exact run_firstCells_some w i.size n _ n c0 vs (by omega) (fun j v hj=>by
      have h2:=v3 b o rfl j v hj
      unfold World.cell? at h2⊢
      rw[hw];exact h2)
   have hr:=run_append_grow_src (P:=P) X.w t tx ty e i z hu hi hz ad n c0 vs (hold _ rfl) (.string bb) m us hs hlt (by omega) (growslice_fits hlt q7)
   rw[hr]
   congr 2
   simp
  have hlens:X.lens=σ.lens:=hI.lens
  have hbl:=hI.βlen
  have hvu:(vs++us).length=(n+m)*i.size:=by rw[List.length_append,←hvl,←hul];omega
  have hcd:(cs++ds).length=(n+m)*i.size:=by rw[List.length_append];omega
  cases st with
  |none=>cases h
  | full=>
   simp only[Option.some.injEq,Prod.mk.injEq] at h
   obtain⟨rfl,rfl⟩:=h
   simp only at hst;subst hst
   obtain⟨r,g1,g2,g3⟩:=grow cap (by omega) rfl
   obtain⟨X',x1,x2,x3,x4,x5,x6⟩:=zpa hIT hI (e:=e) (zbn v1 u1) hone i.size r q5 g3 (hz2 r g2)
    (β':=X.β++[⟨X.w.heap.size,e,i.size,r⟩]) (lens':=σ.lens++[(cap+m)*i.size]) (elems':=σ.elems++[e])
    (fun s L hs=>⟨L,by rw[←hlens,List.getElem?_append_left (List.getElem?_eq_some_iff.1 hs).1];exact hs,Nat.le_refl _,fun _=>by
     rw[List.getElem?_append_left];rw[hbl];exact(List.getElem?_eq_some_iff.1 hs).1⟩)
    (by simp[hbl,hlens]) (by simp[hI.elems])
    (fun s q L hq hL=>by
     rcases Nat.lt_or_ge s X.β.length with hlt|hge
     ·rw[List.getElem?_append_left hlt] at hq
      rw[←hlens,List.getElem?_append_left (by omega)] at hL
      exact .inl ⟨hq,hL⟩
     ·right
      have h0:s=X.β.length:=by
       have:=(List.getElem?_eq_some_iff.1 hq).1
       simp at this;omega
      subst h0
      rw[←hlens,hbl] at hL
      simp at hq hL
      exact⟨hq.symm,by rw[hvu];exact hL.symm⟩)
    (by
     rw[List.map_append]
     refine List.nodup_append.2 ⟨hI.βnd,by simp,fun a ha b hb e=> ?_⟩
     obtain⟨q,hq,rfl⟩:=List.mem_map.1 ha
     have:=hI.βlt hq
     simp at hb;omega)
   refine⟨_,X',by rw[x1];exact g1,x2,x3,?_⟩
   rw[Rep]
   refine⟨_,_,rfl,⟨g2,fun e=>by cases e⟩,.inr ⟨_,_,rfl,x4⟩,(cap+m)*i.size,?_,by omega,fun _=>⟨⟨X.w.heap.size,e,i.size,r⟩,?_,rfl,rfl,hcd⟩⟩
   ·rw[x6];simp
   ·rw[x5,←hlens,←hbl];simp
  | own s=>
   simp only at h
   split at h<;>try cases h
   rename_i hown
   obtain⟨w1,w2,w3⟩:=hown
   obtain⟨L,k1,k2,k3⟩:=hst
   have hLc:cs.length=L:=by rw[hlens] at k1;rw[k1] at w1;exact(Option.some.inj w1).symm
   obtain⟨r,k4,k5,rfl,k7⟩:=k3 hLc
   subst hLc
   have hsr:r.size=i.size:=by
    have:n*r.size=n*i.size:=by omega
    exact Nat.eq_of_mul_eq_mul_left w3 this
   have hre:r.elem=e:=by
    have h1:(X.β.map (·.elem))[s]? =some e:=by rw[hI.elems];exact w2
    rw[List.getElem?_map,k4] at h1
    simpa using h1
   have hsl:s<X.lens.length:=(List.getElem?_eq_some_iff.1 k1).1
   obtain⟨cur,fz,c1,c2,c3,c4,c5,c6,c7⟩:=hI.row s r cs.length k4 k1
   subst k5
   by_cases hroom:n+m≤r.cap
   ·have hfit:cs.length+us.length≤cur.size:=by
     rw[c2,hsr]
     have:=Nat.mul_le_mul_right i.size hroom
     omega
    obtain⟨X',x1,x2,x3,x4,x5,x6⟩:=zou hIT hI k4 k1 c1 u1 u2 hup hfit
    have hr:=zqv (P:=P) X.w t tx ty e i hu hi r.block n r.cap cur fz (by rw[←hre];exact c1) (by omega) (.string bb) m us hs hroom (by omega)
    have hlen2:cs.length+us.length=(n+m)*i.size:=by omega
    rw[hlen2] at x3 x6
    refine⟨.slice (some ⟨r.block,0,none⟩) (n+m) r.cap,X',?_,x2,x3,?_⟩
    ·rw[x1,hr,q1]
    ·rw[Rep]
     have hold:At IT X' cs r.block 0:=z2s hIT x2 _ _ _ (by
      rcases hc with rfl|⟨b,o,e1,hat⟩
      ·rw[At];trivial
      ·cases e1;exact hat)
     refine⟨_,_,rfl,⟨hroom,fun e=>by cases e⟩,.inr ⟨_,_,rfl,zkx hold (by rw[Nat.zero_add];exact x4)⟩,(n+m)*i.size,?_,by omega,fun _=>⟨r,by rw[x5];exact k4,rfl,rfl,by rw[hcd,hsr]⟩⟩
     rw[x6];simp[hsl]
   ·obtain⟨c,g1,g2,g3⟩:=grow r.cap (by omega) rfl
    obtain⟨X',x1,x2,x3,x4,x5,x6⟩:=zpa hIT hI (e:=e) (zbn v1 u1) hone i.size c q5 g3 (hz2 c g2)
     (β':=X.β.set s ⟨X.w.heap.size,e,i.size,c⟩) (lens':=σ.lens.set s ((n+m)*i.size)) (elems':=σ.elems)
     (fun s' L hs=>by
      by_cases es:s'=s
      ·subst es
       rw[k1] at hs;cases hs
       have:=Nat.mul_pos q3 q5
       exact⟨(n+m)*i.size,by rw[←hlens];simp[hsl],by omega,fun e=>by omega⟩
      ·exact⟨L,by rw[←hlens,List.getElem?_set_ne (Ne.symm es)];exact hs,Nat.le_refl _,fun _=>by rw[List.getElem?_set_ne (Ne.symm es)]⟩)
     (by simp[hbl,hlens])
     (by
      rw[←hI.elems,List.map_set]
      apply List.ext_getElem?
      intro j
      by_cases ej:s=j
      ·subst ej
       rw[List.getElem?_set_self (by simp;omega),List.getElem?_map,k4];simp[hre]
      ·rw[List.getElem?_set_ne ej])
     (fun s' q L hq hL=>by
      by_cases es:s'=s
      ·subst es
       right
       rw[List.getElem?_set_self (by omega)] at hq
       rw[←hlens,List.getElem?_set_self hsl] at hL
       cases hq;cases hL
       exact⟨rfl,hvu.symm⟩
      ·left
       rw[List.getElem?_set_ne (Ne.symm es)] at hq
       rw[←hlens,List.getElem?_set_ne (Ne.symm es)] at hL
       exact⟨hq,hL⟩)
     (by
      rw[List.map_set]
      have hnd:=hI.βnd
      have hfresh:X.w.heap.size∉X.β.map (·.block):=fun hm=>by
       obtain⟨q,hq,e'⟩:=List.mem_map.1 hm
       have:=hI.βlt hq;omega
      exact zfu _ _ _ hnd hfresh)
    refine⟨_,X',by rw[x1];exact g1,x2,x3,?_⟩
    rw[Rep]
    refine⟨_,_,rfl,⟨g2,fun e=>by cases e⟩,.inr ⟨_,_,rfl,x4⟩,(n+m)*i.size,?_,by omega,fun _=>⟨⟨X.w.heap.size,e,i.size,c⟩,?_,rfl,rfl,hcd⟩⟩
    ·rw[x6,←hlens];simp[hsl]
    ·rw[x5,List.getElem?_set_self (by omega)]
end Go.Ab
