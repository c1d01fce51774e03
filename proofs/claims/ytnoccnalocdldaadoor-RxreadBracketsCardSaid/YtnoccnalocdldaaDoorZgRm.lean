import Derived.Test.YtnoccnalocdldaaDoorZgR3
import Derived.Test.YtnoccnalocdldaaDoorZgRk
import Derived.Lib.FrozenHead
set_option linter.all false
set_option maxRecDepth 100000
set_option maxHeartbeats 4000000
namespace Go.Ab
open Go Go.RowKit Go.Fwd Go.Proofs
mutual
def nullT:Tr→Bool
 | .mk k s mn mx l=>bif (k:Int)==1 then true else bif (k:Int)==2 then false else bif (k:Int)==4 then qdr l else bif (k:Int)==5 then mn==0||nullHd l else z9q l
def qdr:List Tr→Bool
 |[]=>false
 |x::l=>nullT x||qdr l
def z9q:List Tr→Bool
 |[]=>true
 |x::l=>nullT x&&z9q l
def nullHd:List Tr→Bool
 |[]=>false
 |x::_=>nullT x
end
def crT (t:Tr):Bool:=(pre t).all zeu
def q1 (f:Tr→Bool)(n:Nat)(x:Tr):Option Bool:=if(pre x).length<n∧crT x=true then some (f x) else none
def z8f (b n sz:Nat):AV:=match n with|0=> .list 0 [] .full|n+1=> .bsl b 0 (n+1) sz false
section
variable {α:Type}
theorem z5l {e:List α} (h:e.isEmpty=true)(b sz:Nat):z8f b e.length sz= .list 0 [] .full:=by rw[List.isEmpty_iff.1 h];rfl
theorem z5t {e:List α} (h:e.isEmpty=false)(b sz:Nat):z8f b e.length sz= .bsl b 0 e.length sz false:=by
 cases e with
 |nil=>cases h
 |cons x l=>rfl
theorem zwx {l:List α} {n:Nat} (h:l.length=n)(hp:0<n)(b sz:Nat):AV.bsl b 0 n sz false=z8f b l.length sz:=by
 subst h
 cases l with
 |nil=>exact absurd hp (Nat.lt_irrefl _)
 |cons x l=>rfl
theorem z4z {m b n sz:Nat} {z:FZ} (h: ∀k,zhc m z (.bsl b 0 (k+1) sz false)= .bsl b 0 (k+1) sz false):zhc m z (z8f b n sz)=z8f b n sz:=by
 cases n with
 |zero=>rfl
 |succ n=>exact h n
end
section
variable {α:Type} [Enc α] {P:Program} {ρ:Operand→AV} {σ:St} {o:Oper}
theorem qgv {c:Call} {x y:Operand} {t e:TypeId} {i:TypeInfo} {z:Value} {by':Nat} {r:List α} {st:Room} (hn:0<r.length∧r.length*by'≤140737488355328)(ho:o.op= .call c)(hc:c.callee= .builtin .append)(ha:c.args.toList=[x,y])(ht:c.argTypes.toList=[t,t])
 (hx:ρ x= .list 0 [] .full) (hy:ρ y= .list r.length (Enc.cellsL r) st) (hu:P.underlying t=some (.slice e)) (hi:P.info? e=some i) (hz:i.zero=some z) (hsz:i.size=Enc.sz α) (hzs:z.cells.size=Enc.sz α) (hby:i.bytes=by'∧0<by'):
 zvw P ρ σ o=some (.bsl σ.boxes.length 0 r.length (Enc.sz α) false,{σ with boxes:=σ.boxes++[(e,Enc.cellsL r)]}):=by
 obtain⟨h1,h2⟩:=hn
 have hp:=Enc.pos (α:=α)
 have hsrc:z8z P σ (Enc.sz α) t t (ρ y)=some (r.length,Enc.cellsL r):=by rw[hy];exact zto ⟨rfl,by rw[Enc.lenL],by omega⟩
 have hmax:r.length≤maxLen:=by
  unfold maxLen
  have:r.length*1≤r.length*by':=Nat.mul_le_mul_left _ hby.2
  omega
 have h:=z5v (P:=P) (σ:=σ) ho hc ha ht hx hu hi hz hsz hsrc ⟨hp,hzs,h1⟩ ⟨by simp,by rw[Nat.zero_add];exact hmax,by rw[Nat.zero_add,hby.1];exact h2⟩
 rw[h,Nat.zero_add,List.nil_append]
end
section
variable {P:Program} {ρ:Operand→AV} {σ:St} {o:Oper}
end
theorem hd_of {bx:List (TypeId×List AV)} {hs:List Nat} (h:(bx.mapIdx fun i b=>hs.contains i|| !b.2.isEmpty).all id=true)(i:Nat)(t:TypeId)(hi:bx[i]? =some (t,[])):hs.contains i=true:=by
 have h1:(bx.mapIdx fun i b=>hs.contains i|| !b.2.isEmpty)[i]? =some (hs.contains i|| !([]:List AV).isEmpty):=by
  rw[List.getElem?_mapIdx,hi];rfl
 have h2:=List.all_eq_true.1 h _ (List.mem_of_getElem? h1)
 simpa using h2
theorem fgR_of {m:Nat} {g:FZ} {S S':List AV} (ms:List Bool)(h:fgM ms (zaf m g S)=S'):Fg (zaf m g S) S':=h▸znt ms _
theorem rd_back {Q:AQ} {S:List AV} {σ:St} (σ':St)(h:Q .normal S σ')(e:σ=σ'):Q .normal S σ:=e▸h
section
variable {α:Type} [Enc α]
theorem qcc {m:Nat} {g:FZ} {n:Nat} {cs:List AV} (h:cloL cs=true):zhc m g (.list n cs .full)= .list n cs .full:=by
 rw[zhc,zau m g _ h];rfl
theorem zoc {m:Nat} {g:FZ} {l:List α} (h:l.length≠0→0<m):zhc m g (zch l.length (Enc.cellsL l))=zch l.length (Enc.cellsL l):=by
 unfold zch
 split
 ·rfl
 ·rename_i hn
  have:=h hn
  rw[zhc,zau m g _ (Enc.cloL l)]
  simp[qba,this]
end
theorem z6e {bs:List (TypeId×List AV)} {e n sz:Nat} (h:n≠0):0<(zcm bs e n sz).lens.length:=by
 simp[zcm,h]
theorem ztn {d e n sz:Nat} {js:List Nat} {t0 t1:TypeId} {c0 c0' c1 c1':List AV} {rest bs':List (TypeId×List AV)} (h0:zaf (zcm ((t0,c0)::(t1,c1)::rest) e n sz).lens.length (kz ((t0,c0)::(t1,c1)::rest) (zcm ((t0,c0)::(t1,c1)::rest) e n sz).lens.length 2 [] js d) c0=c0')
 (h1:zaf (zcm ((t0,c0)::(t1,c1)::rest) e n sz).lens.length (kz ((t0,c0)::(t1,c1)::rest) (zcm ((t0,c0)::(t1,c1)::rest) e n sz).lens.length 2 [] js d) c1=c1')
 (h:(js.map fun j=>((((t0,c0)::(t1,c1)::rest)[j]?).map fun b=>(b.1,zaf (zcm ((t0,c0)::(t1,c1)::rest) e n sz).lens.length (kz ((t0,c0)::(t1,c1)::rest) (zcm ((t0,c0)::(t1,c1)::rest) e n sz).lens.length 2 [] js d) b.2)).getD (0,[.bad]))=bs'):
 zer (zcm ((t0,c0)::(t1,c1)::rest) e n sz) (zcm ((t0,c0)::(t1,c1)::rest) e n sz).lens.length 2 [] js d=zcm ((t0,c0')::(t1,c1')::bs') e n sz:=by
 refine zay rfl h0 h1 h ?_
 unfold zcm
 by_cases hn:n=0
 ·simp[hn]
 ·simp[hn]
theorem z6t {hs:List Nat} {bx:List (TypeId×List AV)} {k:Nat} {q0:Stk} {r':Rd} {bs bs':List (TypeId×List AV)} {e n sz:Nat}
 (h:(bs.mapIdx fun i b=>if i=0 then(tyR,rdC bx.length r') else if i=k then((zm q0).1,[]) else if hs.contains i=true then(bx[i]?).getD b else(b.1,zaf (zcm bs e n sz).lens.length (gz hs) b.2))++[zm r'.q]=bs'):zkz hs bx k q0 r' (zcm bs e n sz)=zcm bs' e n sz:=by
 subst h;rfl
theorem zwq {m0 k0:Nat} {K:List AV→St→Prop} {S S':List AV} {σ σ':St} (ms:List Bool)(n:Nat)(js:List Nat)(d:Nat)(hm:m0≤0)(hn:k0≤n)(hok:zdc σ n js=true)(h:fgM ms (zaf 0 (kz σ.boxes 0 n [] js d) S)=S')(hσ:zer σ 0 n [] js d=σ')(k:K S' σ'):z6z m0 k0 K S σ:=
 .inr ⟨0,n,[],js,d,S',hm,hn,hok,h▸znt ms _,hσ▸k⟩
end Go.Ab
namespace Go.Ab
open Go Go.RowKit Go.Fwd
theorem zoj (w:World)(a b:Array Value)(e:TypeId):(w.alloc (.cells a e)).setRow w.heap.size b=w.alloc (.cells b e):=by
 unfold World.setRow World.alloc
 simp only
 congr 1
 apply Array.ext_getElem?
 intro i
 rw[Array.getElem?_modify,Array.getElem?_push,Array.getElem?_push]
 by_cases h:w.heap.size=i
 ·subst h;simp
 ·simp[h,Ne.symm h]
theorem ztx (w:World)(g:Nat)(a b:Array Value):(w.setRow g a).setRow g b=w.setRow g b:=by
 unfold World.setRow
 simp only
 congr 1
 apply Array.ext_getElem?
 intro i
 simp only[Array.getElem?_modify]
 by_cases h:g=i
 ·subst h
  simp only[if_true]
  cases w.heap[g]? with
  |none=>rfl
  |some o=>cases o<;>rfl
 ·simp[h]
theorem z3b {IT:IterP} (hIT:ITMono IT) {P:Program} {X:Cx} {σ σ':St} {t ty:TypeId} {n m b2 o2 cap2:Nat} {cs ds:List AV} {st st2:Room} {x y a:AV} {v:Value} {us ws:List Value} (h:zfm P σ t x y=some (a,σ'))(hxe:x= .list n cs st)(hye:y= .list m ds st2)(hx:Rep IT X x v)(hI:Inv IT σ X)
 (hm0:m≠0) (w1':zbk IT X ds ws) (w2': ∀v∈ws,v.oneCell'=true) (hwl:us.length=ws.length) (u2: ∀v∈us,v.oneCell'=true) (hnews: ∀(j:Nat) w,us[j]? =some w→X.w.cell? ((⟨b2,o2,none⟩:Addr).add j)=some w):
 ∃ (g cap':Nat) (W:World) (pre post:List Value) (e:TypeId) (fz:Nat×Nat) (X':Cx),(Builtin.append_ #[t,t] ty #[v,.slice (some ⟨b2,o2,none⟩) m cap2]).run P X.w= .ok (.slice (some ⟨g,0,none⟩) (n+m) cap') W∧W.heap[g]? =some (.cells (pre++us++post).toArray e fz)∧fz.2≤pre.length∧pre.length=cs.length∧
  X'.w=W.setRow g (pre++ws++post).toArray∧Ext X X'∧Inv IT σ' X'∧Rep IT X' a (.slice (some ⟨g,0,none⟩) (n+m) cap')∧n+m≤cap':=by
 unfold zfm at h
 split at h<;>try cases h
 rename_i e n' cs' st' m' ds' st2' hu
 cases hxe;cases hye
 split at h<;>try cases h
 rename_i i hi
 split at h<;>try cases h
 rename_i z hz
 have hx0:=hx
 rw[Rep] at hx
 obtain⟨ad,cap,rfl,⟨hcap,hnil⟩,hc,hst⟩:=hx
 split at h
 ·rename_i hm
  exact absurd hm.1 hm0
 ·split at h<;>try cases h
  rename_i hcond
  obtain⟨q1,q2,q3,q4,q5,q6,q7⟩:=hcond
  have hul:=zr w1'
  have hul2:us.length=m*i.size:=by omega
  have hup:0<ws.length:=by have:=Nat.mul_pos q3 q5;omega
  have hml:((n+m:Nat):Int)≤9223372036854775807:=by unfold maxLen at q6;omega
  have hnm:(n+m)*i.size=n*i.size+m*i.size:=Nat.add_mul _ _ _
  -- the old cells
  obtain⟨vs,v1,v2,v3⟩: ∃vs:List Value,zbk IT X cs vs∧(∀w∈vs,w.oneCell'=true)∧ ∀b o,ad=some ⟨b,o,none⟩→ ∀(j:Nat) w,vs[j]? =some w→X.w.cell? ((⟨b,o,none⟩:Addr).add j)=some w:=by
   rcases hc with rfl|⟨b,o,rfl,hat⟩
   ·exact⟨[],by rw[zbk],by simp,by simp⟩
   ·obtain⟨vs,w1,w2,w3⟩:=zft hat
    exact⟨vs,w1,w2,fun b' o' e' j w hj=>by cases e';rw[zfh];exact w3 j w hj⟩
  have hvl:=zr v1
  have hone: ∀w∈vs++ws,w.oneCell'=true:=fun w hw=>(List.mem_append.1 hw).elim (v2 w) (w2' w)
  have hz2: ∀c,n+m≤c→(vs++ws++(Builtin.zeroCells z.cells (c-(n+m))).toList).length=c*i.size:=fun c hcc=>by
   have:=size_zeroCells z.cells (c-(n+m))
   simp only[List.length_append,Array.length_toList,this,q4,←hvl,←hul,q1,q2,←Nat.add_mul]
   congr 1;omega
  -- where it grows
  have grow: ∀(c0:Nat) (hlt:c0<n+m),c0=cap→ ∃r,(Builtin.append_ #[t,t] ty #[.slice ad n cap,.slice (some ⟨b2,o2,none⟩) m cap2]).run P X.w=
   .ok (.slice (some ⟨X.w.heap.size,0,none⟩) (n+m) r) (X.w.drew.alloc (.cells (vs++us++(Builtin.zeroCells z.cells (r-(n+m))).toList).toArray e))∧n+m≤r∧r≤maxLen:=fun c0 hlt ec=>by
   subst ec
   refine⟨grownCap X.w (n+m) c0 e,?_,grownCap_ge _ _ _ _,grownCap_le_maxLen _ _ _ _ q6⟩
   rcases hc with rfl|⟨b,o,rfl,hat⟩
   ·have hn0:n=0:=by
     have:n*i.size=0:=by simpa using q1.symm
     rcases Nat.mul_eq_zero.1 this with h|h
     ·exact h
     ·omega
    subst hn0
    have hvs:vs=[]:=by rw[zbk] at v1;exact v1
    subst hvs
    cases ad with
    | none=>
     obtain rfl:c0=0:=hnil rfl
     have hr:=run_append_nil (P:=P) X.w t ty e i z hu hi hz ⟨b2,o2,none⟩ m cap2 us (by omega) hnews q3 (by omega) (by simp at q7;omega)
     simp only[Nat.zero_add] at hr⊢
     rw[hr]
     congr 2
     simp
    | some ad=>
     have hr:=run_append_grow (P:=P) X.w t ty e i z hu hi hz ad 0 c0 [] (by simp) (by simp) ⟨b2,o2,none⟩ m cap2 us (by omega) hnews (by omega) (by omega) (growslice_fits hlt q7)
     rw[hr]
     congr 2
     simp
   ·have hr:=run_append_grow (P:=P) X.w t ty e i z hu hi hz ⟨b,o,none⟩ n c0 vs (by omega) (v3 b o rfl) ⟨b2,o2,none⟩ m cap2 us (by omega) hnews (by omega) (by omega) (growslice_fits hlt q7)
    rw[hr]
    congr 2
    simp
  have hlens:X.lens=σ.lens:=hI.lens
  have hbl:=hI.βlen
  have hvu:(vs++ws).length=(n+m)*i.size:=by rw[List.length_append,←hvl,←hul];omega
  have hcd:(cs++ds).length=(n+m)*i.size:=by rw[List.length_append];omega
  cases st with
  |none=>cases h
  | full=>
   simp only[Option.some.injEq,Prod.mk.injEq] at h
   obtain⟨rfl,rfl⟩:=h
   simp only at hst;subst hst
   obtain⟨r,g1,g2,g3⟩:=grow cap (by omega) rfl
   obtain⟨X',x1,x2,x3,x4,x5,x6⟩:=zpa hIT hI (e:=e) (zbn v1 w1') hone i.size r q5 g3 (hz2 r g2)
    (β':=X.β++[⟨X.w.heap.size,e,i.size,r⟩]) (lens':=σ.lens++[(cap+m)*i.size]) (elems':=σ.elems++[e])
    (fun s L hs=>⟨L,by rw[←hlens,List.getElem?_append_left (List.getElem?_eq_some_iff.1 hs).1];exact hs,Nat.le_refl _,fun _=>by
     rw[List.getElem?_append_left];rw[hbl];exact(List.getElem?_eq_some_iff.1 hs).1⟩)
    (by simp[hbl,hlens]) (by simp[hI.elems])
    (fun s q L hq hL=>by
     rcases Nat.lt_or_ge s X.β.length with hlt|hge
     ·rw[List.getElem?_append_left hlt] at hq
      rw[←hlens,List.getElem?_append_left (by omega)] at hL
      exact .inl ⟨hq,hL⟩
     ·right
      have h0:s=X.β.length:=by
       have:=(List.getElem?_eq_some_iff.1 hq).1
       simp at this;omega
      subst h0
      rw[←hlens,hbl] at hL
      simp at hq hL
      exact⟨hq.symm,by rw[hvu];exact hL.symm⟩)
    (by
     rw[List.map_append]
     refine List.nodup_append.2 ⟨hI.βnd,by simp,fun a ha b hb e=> ?_⟩
     obtain⟨q,hq,rfl⟩:=List.mem_map.1 ha
     have:=hI.βlt hq
     simp at hb;omega)
   refine⟨X.w.heap.size,r,_,vs,_,e,(0,0),X',g1,heap_alloc_new X.w.drew _,Nat.zero_le _,hvl.symm,by rw[x1];exact(zoj X.w.drew _ _ _).symm,x2,x3,?_,g2⟩
   rw[Rep]
   refine⟨_,_,rfl,⟨g2,fun e=>by cases e⟩,.inr ⟨_,_,rfl,x4⟩,(cap+m)*i.size,?_,by omega,fun _=>⟨⟨X.w.heap.size,e,i.size,r⟩,?_,rfl,rfl,hcd⟩⟩
   ·rw[x6];simp
   ·rw[x5,←hlens,←hbl];simp
  | own s=>
   simp only at h
   split at h<;>try cases h
   rename_i hown
   obtain⟨w1,w2,w3⟩:=hown
   obtain⟨L,k1,k2,k3⟩:=hst
   have hLc:cs.length=L:=by rw[hlens] at k1;rw[k1] at w1;exact(Option.some.inj w1).symm
   obtain⟨r,k4,k5,rfl,k7⟩:=k3 hLc
   subst hLc
   have hsr:r.size=i.size:=by
    have:n*r.size=n*i.size:=by omega
    exact Nat.eq_of_mul_eq_mul_left w3 this
   have hre:r.elem=e:=by
    have h1:(X.β.map (·.elem))[s]? =some e:=by rw[hI.elems];exact w2
    rw[List.getElem?_map,k4] at h1
    simpa using h1
   have hsl:s<X.lens.length:=(List.getElem?_eq_some_iff.1 k1).1
   obtain⟨cur,fz,c1,c2,c3,c4,c5,c6,c7⟩:=hI.row s r cs.length k4 k1
   subst k5
   by_cases hroom:n+m≤r.cap
   ·have hfit:cs.length+ws.length≤cur.size:=by
     rw[c2,hsr]
     have:=Nat.mul_le_mul_right i.size hroom
     omega
    obtain⟨X',x1,x2,x3,x4,x5,x6⟩:=zou hIT hI k4 k1 c1 w1' w2' hup hfit
    have hr:=run_append_roomF (P:=P) X.w t ty e i hu hi r.block n r.cap cur fz (by rw[←hre];exact c1) (by omega) ⟨b2,o2,none⟩ m cap2 us (by omega) hnews u2 hroom (by omega)
    have hlen2:cs.length+ws.length=(n+m)*i.size:=by omega
    rw[hlen2] at x3 x6
    have hr2:=hr
    rw[←q1,hwl] at hr2
    refine⟨r.block,r.cap,_,cur.toList.take cs.length,cur.toList.drop (cs.length+ws.length),r.elem,fz,X',hr2,setRow_heap _ _ _ _ _ _ c1,by simp;omega,by simp;omega,by rw[x1,ztx],x2,x3,?_,hroom⟩
    ·rw[Rep]
     have hold:At IT X' cs r.block 0:=z2s hIT x2 _ _ _ (by
      rcases hc with rfl|⟨b,o,e1,hat⟩
      ·rw[At];trivial
      ·cases e1;exact hat)
     refine⟨_,_,rfl,⟨hroom,fun e=>by cases e⟩,.inr ⟨_,_,rfl,zkx hold (by rw[Nat.zero_add];exact x4)⟩,(n+m)*i.size,?_,by omega,fun _=>⟨r,by rw[x5];exact k4,rfl,rfl,by rw[hcd,hsr]⟩⟩
     rw[x6];simp[hsl]
   ·obtain⟨c,g1,g2,g3⟩:=grow r.cap (by omega) rfl
    obtain⟨X',x1,x2,x3,x4,x5,x6⟩:=zpa hIT hI (e:=e) (zbn v1 w1') hone i.size c q5 g3 (hz2 c g2)
     (β':=X.β.set s ⟨X.w.heap.size,e,i.size,c⟩) (lens':=σ.lens.set s ((n+m)*i.size)) (elems':=σ.elems)
     (fun s' L hs=>by
      by_cases es:s'=s
      ·subst es
       rw[k1] at hs;cases hs
       have:=Nat.mul_pos q3 q5
       exact⟨(n+m)*i.size,by rw[←hlens];simp[hsl],by omega,fun e=>by omega⟩
      ·exact⟨L,by rw[←hlens,List.getElem?_set_ne (Ne.symm es)];exact hs,Nat.le_refl _,fun _=>by rw[List.getElem?_set_ne (Ne.symm es)]⟩)
     (by simp[hbl,hlens])
     (by
      rw[←hI.elems,List.map_set]
      apply List.ext_getElem?
      intro j
      by_cases ej:s=j
      ·subst ej
       rw[List.getElem?_set_self (by simp;omega),List.getElem?_map,k4];simp[hre]
      ·rw[List.getElem?_set_ne ej])
     (fun s' q L hq hL=>by
      by_cases es:s'=s
      ·subst es
       right
       rw[List.getElem?_set_self (by omega)] at hq
       rw[←hlens,List.getElem?_set_self hsl] at hL
       cases hq;cases hL
       exact⟨rfl,hvu.symm⟩
      ·left
       rw[List.getElem?_set_ne (Ne.symm es)] at hq
       rw[←hlens,List.getElem?_set_ne (Ne.symm es)] at hL
       exact⟨hq,hL⟩)
     (by
      rw[List.map_set]
      have hnd:=hI.βnd
      have hfresh:X.w.heap.size∉X.β.map (·.block):=fun hm=>by
       obtain⟨q,hq,e'⟩:=List.mem_map.1 hm
       have:=hI.βlt hq;omega
      exact zfu _ _ _ hnd hfresh)
    refine⟨X.w.heap.size,c,_,vs,_,e,(0,0),X',g1,heap_alloc_new X.w.drew _,Nat.zero_le _,hvl.symm,by rw[x1];exact(zoj X.w.drew _ _ _).symm,x2,x3,?_,g2⟩
    rw[Rep]
    refine⟨_,_,rfl,⟨g2,fun e=>by cases e⟩,.inr ⟨_,_,rfl,x4⟩,(n+m)*i.size,?_,by omega,fun _=>⟨⟨X.w.heap.size,e,i.size,c⟩,?_,rfl,rfl,hcd⟩⟩
    ·rw[x6,←hlens];simp[hsl]
    ·rw[x5,List.getElem?_set_self (by omega)]
end Go.Ab
namespace Go.Ab
open Go Go.RowKit Go.Fwd Go.Proofs
theorem z2m (w:World)(g b:Nat)(r s:Array Value)(h:g≠b):(w.setRow g r).setRow b s=(w.setRow b s).setRow g r:=by
 unfold World.setRow
 simp only
 congr 1
 apply Array.ext_getElem?
 intro i
 simp only[Array.getElem?_modify]
 by_cases h1:b=i
 ·subst h1
  simp[h]
 ·simp[h1]
theorem zza (w:World)(g b:Nat)(r:Array Value)(h:g≠b):(w.setRow g r).heap[b]? =w.heap[b]? :=by
 unfold World.setRow
 simp[Array.getElem?_modify,h]
theorem zxf {IT:IterP} (hIT:ITMono IT) {P:Program} {X:Cx} {σ σ':St} {t:TypeId} {s off:Nat} {y:AV} {u v:Value} (h:zof P σ t (.ptr s off) y=some σ')(hx:Rep IT X (.ptr s off) u)(hy:Rep IT X y v)(hI:Inv IT σ X):
 ∃b row,X.κ[s]? =some b∧(∀w:World,w.heap[b]? =X.w.heap[b]? →(Instr.storeAt t u v).run P w= .ok () (w.setRow b row))∧Ext X {X with w:=X.w.setRow b row}∧Inv IT σ' {X with w:=X.w.setRow b row}:=by
 unfold zof at h
 simp only at h
 rw[Rep] at hx
 obtain⟨b,hb,rfl⟩:=hx
 split at h<;>try cases h
 rename_i bx n hbx hn
 obtain⟨t0,cs⟩:=bx
 split at h<;>try cases h
 rename_i hc
 obtain⟨hc1,hc2,hc3,hc4⟩:=hc
 obtain⟨k1,k2⟩:=zlg hc1 hy
 obtain⟨vs,zs,u1,u2,u3⟩:=hI.box s b t0 cs hb hbx
 have hl:=zr u2
 have hl2:=zr k1
 simp only at hc3
 have hsz:v.cells.size=n:=by simp at hl2;omega
 have hlist:v.cells.toList.length=n:=by simpa using hsz
 obtain⟨e1,e2⟩:=zmt hIT hI (zs:=zs) hb hbx (by intro e;subst e;simp at hc3;omega) (fun cur t f hc=>by rw[u1] at hc;cases hc;simp at hl2⊢;omega) (zbn (zbn (zdz u2 off) k1) (zgo u2 (off+n)))
  (fun w hw=>by
   rcases List.mem_append.1 hw with hw|hw
   ·rcases List.mem_append.1 hw with hw|hw
    ·exact u3 w (List.mem_of_mem_take hw)
    ·exact k2 w hw
   ·exact u3 w (List.mem_of_mem_drop hw))
 have hrow:(vs++zs).take off++v.cells.toList++(vs++zs).drop (off+n)=vs.take off++v.cells.toList++vs.drop (off+n)++zs:=by
  rw[List.take_append_of_le_length (by omega),List.drop_append_of_le_length (by omega)]
  simp
 refine⟨b,_,hb,fun w hw=> ?_,e1,e2⟩
 have hst:=run_storeCells_at P b off t0 v.cells.toList 0 (vs++zs).toArray w (hw.trans u1) (by simp at hl2⊢;omega) k2
 simp only[Nat.add_zero] at hst
 rw[hlist] at hst
 simp only[Instr.storeAt,Instr.sureAddr,storeVar,Sem.run_bind,Sem.run_pure,Result.andThen_ok,zea hn,hsz]
 simp only[←hrow]
 simpa using hst
theorem z5a {IT:IterP} (hIT:ITMono IT) {P:Program} {F:Fence} (hF:FenceOk F P) {nn B:Nat} {o:Oper} {S E:List AV} {σ:St} {X0 X:Cx} {a:Act} {x:AV} {next:Act→World→Prop} {Q:Exit→Act→World→Prop} (h:qop P (zcc E) σ o=some x)(hdf: ∀c,o.op≠ .defer c)(hn:Now IT none F B X0 S σ X a)(hS:zy S o.dst .top=S)
 (hρ: ∀y∈o.op.operands,Rep IT X (zcc E y) (a.eval y)) (hK: ∀X' v,Ext X X'→Rep IT X' x v→Now IT none F B X0 S σ X' (a.put o.dst v)→next (a.put o.dst v) X'.w):o.wpIn F nn P a X.w next Q:=by
 obtain⟨v,X',h1,h2,h3,h4,_⟩:=zny hIT h hρ hn.inv
 unfold Oper.wpIn
 refine⟨fun f _=>hF.fn f,?_⟩
 rw[Oper.semAt_plain F _ _ hdf,h1]
 have n:=zcg (P:=P) (M:=none) trivial hIT hn h2 h3 ⟨rfl,rfl⟩ o.dst (x:= .top) (v:=v) (by rw[Rep];trivial)
 rw[hS] at n
 exact hK X' v h2 h4 n
theorem zmv {a:Act} {t:Nat} {v:Value} (h:t<a.tmps.size):(a.put (some t) v).eval (.tmp t)=v:=by simp[Act.put,Act.eval,h]
theorem zkj {a:Act} {t t':Nat} {v:Value} (h:t'≠t):(a.put (some t) v).eval (.tmp t')=a.eval (.tmp t'):=zej _ _ _ _ (by intro e;exact h (Option.some.inj e).symm)
def SA (x:Tr):List AV:=[.top,.top,.ptr 3 0,.top,.ptr 5 0,.ptr 6 0,.top,.top,.agg (Enc.cells x),.top,.top,.top,.top,.top,.top,.top,.top,.top,.top,.top,.top,.top,.top,.top,.top,.top,.top,.top,.top,.top,.top,.top]
def zT:AV:= .list 1 [.raw (.int .u8 0),.raw (.int .u64 0),.raw (.int .u64 0),.raw (.int .u64 0),.raw (.int .u64 0),.raw (.int .i64 0),.raw (.int .i64 0),.list 0 [] .full] .full
structure App1 (F:Fence)(B:Nat)(X0:Cx)(x:Tr)(σ:St)(ol:AV)(n:Nat)(d:Nat→Bool)(a:Act)(w:World):Prop where
 h: ∃X,X.w=w∧Now (ITP Tryd.prog) none F B X0 (SA x) σ X a∧(d 0=true→Rep (ITP Tryd.prog) X ol (a.eval (.tmp 9)))∧(d 1=true→Rep (ITP Tryd.prog) X (.agg (Enc.cells x)) (a.eval (.tmp 10)))∧(d 2=true→a.eval (.tmp 11)= .int .i64 (n:Int))∧(d 3=true→Rep (ITP Tryd.prog) X zT (a.eval (.tmp 12)))
structure App2 (F:Fence)(B:Nat)(X0:Cx)(x:Tr)(σ1 σ2:St)(nl:AV)(n:Nat)(d:Nat→Bool)(a:Act)(w:World):Prop where
 h : ∃(X:Cx) (g cap:Nat) (pre us ws post:List Value) (e:TypeId) (fz:Nat×Nat),Now (ITP Tryd.prog) none F B X0 (SA x) (bif d 7 then σ2 else σ1) X a∧g∉X.κ∧(d 6=true→X.w=w)∧(d 6=false→w.heap[g]? =some (.cells (pre++us++post).toArray e fz)∧X.w=w.setRow g (pre++ws++post).toArray)∧fz.2≤pre.length∧pre.length=n*8∧us.length=8∧ws.length=8∧(∀v∈ws,v.oneCell'=true)∧
  a.eval (.tmp 13)= .slice (some ⟨g,0,none⟩) (n+1) cap∧Rep (ITP Tryd.prog) X nl (a.eval (.tmp 13))∧(d 5=true→a.eval (.tmp 14)= .pointer (some ⟨g,n*8,none⟩))∧a.eval (.tmp 11)= .int .i64 (n:Int)∧a.eval (.tmp 10)= .agg ws.toArray
set_option maxRecDepth 100000 in
set_option maxHeartbeats 4000000 in
theorem app_reg (b0 b1 b2' b3 b4:TypeId×List AV)(l:List Tr)(x:Tr)(h:l.length<2^40) {id id2:Nat} {ops:Array Oper} (hops:(do let c ←Tryd.f20.body;zkf 5 c)=some ops):
 qel (ITP Tryd.prog) Tryd.prog (.block id (.region id2 ops true)) (SA x) (zcm [b0,b1,b2',b3,b4,(31,[zch l.length (Enc.cellsL l)]),(33,Enc.cells x)] 33 l.length 8) (SA x) (zcm [b0,b1,b2',b3,b4,(31,[zch (l++[x]).length (Enc.cellsL (l++[x]))]),(33,[])] 33 (l++[x]).length 8):=by
 cases hops
 intro F nn B X0 X a hF hI0 hn hfe
 have hIT:=zn Tryd.prog
 refine wpIn_block ?_
 obtain⟨σ0,hσ0⟩: ∃σ0,σ0=zcm [b0,b1,b2',b3,b4,(31,[zch l.length (Enc.cellsL l)]),(33,Enc.cells x)] 33 l.length 8:=⟨_,rfl⟩
 obtain⟨σ1,hσ1⟩: ∃σ1,σ1=zcm [b0,b1,b2',b3,b4,(31,[zch l.length (Enc.cellsL l)]),(33,Enc.cells x)] 33 (l++[x]).length 8:=⟨_,rfl⟩
 obtain⟨σ2,hσ2⟩: ∃σ2,σ2=zcm [b0,b1,b2',b3,b4,(31,[zch (l++[x]).length (Enc.cellsL (l++[x]))]),(33,Enc.cells x)] 33 (l++[x]).length 8:=⟨_,rfl⟩
 have hsz: ∀ {X:Cx} {a:Act} {σ:St},Now (ITP Tryd.prog) none F B X0 (SA x) σ X a→a.tmps.size=32:=fun hn=>by
  have:=zr hn.reps
  simpa[SA] using this.symm
 refine any_gen mix (fun d a w=>(d 4=false∧App1 F B X0 x σ0 (zch l.length (Enc.cellsL l)) l.length d a w)∨(d 4=true∧App2 F B X0 x σ1 σ2 (zch (l++[x]).length (Enc.cellsL (l++[x]))) l.length d a w)) (by kernel_rfl) ?_ ?_ ?_
 ·obtain⟨hEx,hI⟩:=zjn hIT hn.inv
  refine .inl ⟨rfl,⟨{X with w:=X.w.drew},rfl,?_,fun h=>(by cases h),fun h=>(by cases h),fun h=>(by cases h),fun h=>(by cases h)⟩⟩
  subst hσ0
  exact⟨Ext.trans hn.ext hEx,hI,zaw hIT hEx _ _ hn.reps,hn.marks.ext hEx hn.inv,trivial⟩
 ·intro i o ho
  match i,ho with
  | 0,ho=>
   cases ho
   refine⟨rfl,fun d a w next hd hbe hwt hI hK=> ?_⟩
   rcases hI with⟨h4,⟨X,rfl,hn,k0,k1,k2,k3⟩⟩|⟨h4,_⟩
   ·refine z5a (E:=SA x) (x:=zch l.length (Enc.cellsL l)) hIT hF (qju (.ptr 5 0) rfl rfl (by subst hσ0;rfl)) (fun c hc=>by cases hc) hn rfl (fun y _=>zdh hn.reps y) fun X' v hE hr hn'=>hK _ _ (.inl ⟨by rw[zbm (by decide)];exact h4,⟨X',rfl,hn',fun _=> ?_,fun h=> ?_,fun h=> ?_,fun h=> ?_⟩⟩)
    ·rw[zmv (by rw[hsz hn];decide)];exact hr
    ·rw[zkj (by decide)];exact zep hIT hE _ _ (k1 (by rwa[zbm (by decide)] at h))
    ·rw[zkj (by decide)];exact k2 (by rwa[zbm (by decide)] at h)
    ·rw[zkj (by decide)];exact zep hIT hE _ _ (k3 (by rwa[zbm (by decide)] at h))
   ·have:=hbe 4 (by kernel_rfl)
    rw[h4] at this;cases this
  | 1,ho=>
   cases ho
   refine⟨rfl,fun d a w next hd hbe hwt hI hK=> ?_⟩
   rcases hI with⟨h4,⟨X,rfl,hn,k0,k1,k2,k3⟩⟩|⟨h4,_⟩
   ·refine z5a (E:=SA x) (x:= .agg (Enc.cells x)) hIT hF (qju (.ptr 6 0) rfl rfl (by subst hσ0;rfl)) (fun c hc=>by cases hc) hn rfl (fun y _=>zdh hn.reps y) fun X' v hE hr hn'=>hK _ _ (.inl ⟨by rw[zbm (by decide)];exact h4,⟨X',rfl,hn',fun h=> ?_,fun _=> ?_,fun h=> ?_,fun h=> ?_⟩⟩)
    ·rw[zkj (by decide)];exact zep hIT hE _ _ (k0 (by rwa[zbm (by decide)] at h))
    ·rw[zmv (by rw[hsz hn];decide)];exact hr
    ·rw[zkj (by decide)];exact k2 (by rwa[zbm (by decide)] at h)
    ·rw[zkj (by decide)];exact zep hIT hE _ _ (k3 (by rwa[zbm (by decide)] at h))
   ·have:=hbe 4 (by kernel_rfl)
    rw[h4] at this;cases this
  | 2,ho=>
   cases ho
   refine⟨rfl,fun d a w next hd hbe hwt hI hK=> ?_⟩
   rcases hI with⟨h4,⟨X,rfl,hn,k0,k1,k2,k3⟩⟩|⟨h4,_⟩
   ·have h9:=k0 (hwt 0 (by kernel_rfl))
    refine z5a (E:=(SA x).set 9 (zch l.length (Enc.cellsL l))) (x:= .raw (.int .i64 (l.length:Int))) hIT hF (q_lenO rfl rfl rfl rfl rfl rfl) (fun c hc=>by cases hc) hn rfl (fun y hy=>by
     simp[Op.operands,Call.operands] at hy;subst hy;exact h9) fun X' v hE hr hn'=>hK _ _ (.inl ⟨by rw[zbm (by decide)];exact h4,⟨X',rfl,hn',fun h=> ?_,fun h=> ?_,fun _=> ?_,fun h=> ?_⟩⟩)
    ·rw[zkj (by decide)];exact zep hIT hE _ _ (k0 (by rwa[zbm (by decide)] at h))
    ·rw[zkj (by decide)];exact zep hIT hE _ _ (k1 (by rwa[zbm (by decide)] at h))
    ·rw[zmv (by rw[hsz hn];decide)];exact hr
    ·rw[zkj (by decide)];exact zep hIT hE _ _ (k3 (by rwa[zbm (by decide)] at h))
   ·have:=hbe 4 (by kernel_rfl)
    rw[h4] at this;cases this
  | 3,ho=>
   cases ho
   refine⟨rfl,fun d a w next hd hbe hwt hI hK=> ?_⟩
   rcases hI with⟨h4,⟨X,rfl,hn,k0,k1,k2,k3⟩⟩|⟨h4,_⟩
   ·refine z5a (E:=SA x) (x:=zT) hIT hF (by kernel_rfl) (fun c hc=>by cases hc) hn rfl (fun y _=>zdh hn.reps y) fun X' v hE hr hn'=>hK _ _ (.inl ⟨by rw[zbm (by decide)];exact h4,⟨X',rfl,hn',fun h=> ?_,fun h=> ?_,fun h=> ?_,fun _=> ?_⟩⟩)
    ·rw[zkj (by decide)];exact zep hIT hE _ _ (k0 (by rwa[zbm (by decide)] at h))
    ·rw[zkj (by decide)];exact zep hIT hE _ _ (k1 (by rwa[zbm (by decide)] at h))
    ·rw[zkj (by decide)];exact k2 (by rwa[zbm (by decide)] at h)
    ·rw[zmv (by rw[hsz hn];decide)];exact hr
   ·have:=hbe 4 (by kernel_rfl)
    rw[h4] at this;cases this
  | 4,ho=>
   cases ho
   refine⟨rfl,fun d a w next hd hbe hwt hI hK=> ?_⟩
   rcases hI with⟨h4,⟨X,rfl,hn,k0,k1,k2,k3⟩⟩|⟨h4,_⟩
   rotate_left
   ·rw[h4] at hd;cases hd
   have r9:=k0 (hwt 0 (by kernel_rfl))
   have r10:=k1 (hwt 1 (by kernel_rfl))
   have r11:=k2 (hwt 2 (by kernel_rfl))
   have r12:=k3 (hwt 3 (by kernel_rfl))
   rw[zT,Rep] at r12
   obtain⟨ad,cap2,e12,hcap2,hz,_⟩:=r12
   obtain⟨b2,o2,rfl,hat⟩:=hz.resolve_left (by simp)
   obtain⟨us,u1,u2,u3⟩:=zft hat
   rw[Rep] at r10
   obtain⟨ws,e10,w1,w2⟩:=r10
   have hul:us.length=8:=by simpa using(zr u1).symm
   have hwl:ws.length=8:=by have:=zr w1;rw[Enc.len] at this;exact this.symm
   have w1':zbk (ITP Tryd.prog) X (Enc.cellsL [x]) ws:=by rw[Enc.cons,show Enc.cellsL ([]:List Tr)=[] from rfl,List.append_nil];exact w1
   have happ:zfm Tryd.prog σ0 31 (zch l.length (Enc.cellsL l)) (.list [x].length (Enc.cellsL [x]) .full)=some (zch (l++[x]).length (Enc.cellsL (l++[x])),σ1):=by
    rw[hσ0,hσ1]
    exact zjr (P:=Tryd.prog) (t:=31) (e:=33) (by':=80) (by simp only[List.length_cons,List.length_nil];omega) rfl rfl rfl rfl rfl ⟨rfl,by decide⟩
   have hxe: ∃cs st,zch l.length (Enc.cellsL l)= .list l.length cs st∧cs.length=l.length*8:=by
    unfold zch
    split
    ·rename_i h0;exact⟨[],.full,by rw[h0],by rw[h0];rfl⟩
    ·exact⟨_,_,rfl,Enc.lenL _⟩
   obtain⟨cs9,st9,hxe,hcl⟩:=hxe
   obtain⟨g,cap',W,pre,post,e,fz,X',q1,q2,q3,q4,q5,q6,q7,q8,q9⟩:=z3b (ty:=31) (us:=us) (b2:=b2) (o2:=o2) (cap2:=cap2) hIT happ hxe rfl r9 hn.inv (by simp) w1' w2 (by omega) u2 (fun j w hj=>by rw[zfh];exact u3 j w hj)
   have hnl: ∃cs r,zch (l++[x]).length (Enc.cellsL (l++[x]))= .list (l++[x]).length cs (.own 0)∧cs.length=(l++[x]).length*8∧X'.lens[0]? =some ((l++[x]).length*8)∧r=0:=by
    refine⟨Enc.cellsL (l++[x]),0,?_,Enc.lenL _,?_,rfl⟩
    ·unfold zch;rw[if_neg (by simp)]
    ·rw[q7.lens,hσ1];simp[zcm]
   obtain⟨cs',r0,hnl,hnc,hnlen,_⟩:=hnl
   have hgκ:g∉X'.κ:=by
    have q8':=q8
    rw[hnl,Rep] at q8'
    obtain⟨ad',cp',e',_,_,L,m1,m2,m3⟩:=q8'
    rw[hnlen] at m1
    obtain⟨r,m4,m5,_⟩:=m3 (by rw[hnc];exact Option.some.inj m1)
    have e'':ad'=some ⟨g,0,none⟩:=by injection e' with e1 _ _;exact e1.symm
    have hg:r.block=g:=by rw[e''] at m5;injection m5 with m5;injection m5 with m5 _ _;exact m5.symm
    rw[←hg]
    exact q7.βκ r (List.mem_of_getElem? m4)
   unfold Oper.wpIn
   refine⟨fun f _=>hF.fn f,?_⟩
   rw[Oper.semAt_plain F _ _ (fun c hc=>by cases hc)]
   have hrun: ∀o:Oper,o.op= .call ⟨.builtin .append, #[.tmp 9,.tmp 12], #[31,31]⟩→o.type=31→(execOp a.eval o).run Tryd.prog X.w= .ok (.value (.slice (some ⟨g,0,none⟩) (l.length+1) cap')) W:=fun o h1 h2=>by
    have q1':=q1
    simp at q1'
    simp[execOp,h1,resolve,invoke,builtin,h2,e12,q1']
   rw[hrun _ rfl rfl]
   have n1:=zcg (P:=Tryd.prog) (M:=none) trivial hIT hn q6 q7 ⟨by rw[hσ1,hσ0];rfl,by rw[hσ1,hσ0];rfl⟩ (some 13) (x:= .top) (v:= .slice (some ⟨g,0,none⟩) (l.length+1) cap') (by rw[Rep];trivial)
   have d7:=hbe 7 (by kernel_rfl)
   have d6:=hbe 6 (by kernel_rfl)
   have d5:=hbe 5 (by kernel_rfl)
   refine hK _ _ (.inr ⟨zdu _ _,⟨X',g,cap',pre,us,ws,post,e,fz,?_,hgκ,fun h=> ?_,fun _=>⟨q2,q5⟩,q3,by rw[q4];exact hcl,hul,hwl,w2,?_,?_,fun h=> ?_,?_,?_⟩⟩)
   ·rw[zbm (by decide),d7];exact n1
   ·rw[zbm (by decide),d6] at h;cases h
   ·exact zmv (by rw[hsz hn];decide)
   ·rw[zmv (by rw[hsz hn];decide)];exact q8
   ·rw[zbm (by decide),d5] at h;cases h
   ·rw[zkj (by decide)];exact r11
   ·rw[zkj (by decide)];exact e10
  | 5,ho=>
   cases ho
   refine⟨rfl,fun d a w next hd hbe hwt hI hK=> ?_⟩
   rcases hI with⟨h4,_⟩|⟨h4,⟨X,g,cap,pre,us,ws,post,e,fz,hn,hg,h6,h6',hfz,hpre,hus,hws,hone,e13,r13,h5,e11,e10⟩⟩
   ·have:=hwt 4 (by kernel_rfl)
    rw[h4] at this;cases this
   have d6:=hbe 6 (by kernel_rfl)
   unfold Oper.wpIn
   refine⟨fun f _=>hF.fn f,?_⟩
   rw[Oper.semAt_plain F _ _ (fun c hc=>by cases hc)]
   have hrun: ∀o:Oper,o.op= .indexAddr 31 (.tmp 13) (.tmp 11)→(execOp a.eval o).run Tryd.prog w= .ok (.value (.pointer (some ⟨g,l.length*8,none⟩))) w:=fun o h1=>by
    have hs:zdk Tryd.prog 33=some 8:=by kernel_rfl
    have hu:Tryd.prog.underlying 31=some (.slice 33):=by kernel_rfl
    have h2:(0:Int)≤(l.length:Int):=by omega
    have h3:(l.length:Int)<((l.length+1:Nat):Int):=by omega
    simp[execOp,h1,e13,e11,Instr.indexAt,asIntOf,run_underlying hu,zea hs,h2,zfh]
   rw[hrun _ rfl]
   have n1:=zcg (P:=Tryd.prog) (M:=none) trivial hIT hn (Ext.refl X) hn.inv ⟨rfl,rfl⟩ (some 14) (x:= .top) (v:= .pointer (some ⟨g,l.length*8,none⟩)) (by rw[Rep];trivial)
   refine hK _ _ (.inr ⟨by rw[zbm (by decide)];exact h4,⟨X,g,cap,pre,us,ws,post,e,fz,by rw[zbm (by decide)];exact n1,hg,fun h=> ?_,fun _=>h6' d6,hfz,hpre,hus,hws,hone,?_,?_,fun _=> ?_,?_,?_⟩⟩)
   ·rw[zbm (by decide),d6] at h;cases h
   ·rw[zkj (by decide)];exact e13
   ·rw[zkj (by decide)];exact r13
   ·exact zmv (by rw[hsz hn];decide)
   ·rw[zkj (by decide)];exact e11
   ·rw[zkj (by decide)];exact e10
  | 6,ho=>
   cases ho
   refine⟨rfl,fun d a w next hd hbe hwt hI hK=> ?_⟩
   rcases hI with⟨h4,_⟩|⟨h4,⟨X,g,cap,pre,us,ws,post,e,fz,hn,hg,h6,h6',hfz,hpre,hus,hws,hone,e13,r13,h5,e11,e10⟩⟩
   ·have:=hwt 4 (by kernel_rfl)
    rw[h4] at this;cases this
   have e14:=h5 (hwt 5 (by kernel_rfl))
   obtain⟨hrow,hX⟩:=h6' hd
   have hst:=run_storeCells_atF Tryd.prog g (l.length*8) e fz ws 0 (pre++us++post).toArray w hrow (by omega) (by simp;omega) hone
   have hlist:(pre++us++post).take (l.length*8)++ws++(pre++us++post).drop (l.length*8+ws.length)=pre++ws++post:=by
    have e1:(pre++us++post).take (l.length*8)=pre:=by rw[List.append_assoc,←hpre,List.take_left]
    have e2:(pre++us++post).drop (l.length*8+ws.length)=post:=by rw[←hpre,show pre.length+ws.length=(pre++us).length by simp;omega,List.drop_left]
    rw[e1,e2]
   simp only[Nat.add_zero] at hst
   rw[hlist,←hX] at hst
   unfold Oper.wpIn
   refine⟨fun f _=>hF.fn f,?_⟩
   rw[Oper.semAt_plain F _ _ (fun c hc=>by cases hc)]
   have hrun: ∀o:Oper,o.op= .store 33 (.tmp 14) (.tmp 10)→(execOp a.eval o).run Tryd.prog w= .ok .skip X.w:=fun o h1=>by
    have hs:zdk Tryd.prog 33=some 8:=by kernel_rfl
    have hc:(Value.agg ws.toArray).cells.toList=ws:=rfl
    have hcs:(Value.agg ws.toArray).cells.size=8:=by show ws.toArray.size=8;simpa using hws
    simp[execOp,h1,e14,e10,Instr.storeAt,Instr.sureAddr,storeVar,zea hs,hcs,hc,hst]
   rw[hrun _ rfl]
   have n1:=zcg (P:=Tryd.prog) (M:=none) trivial hIT hn (Ext.refl X) hn.inv ⟨rfl,rfl⟩ none (x:= .top) (v:=undef) (by rw[Rep];trivial)
   refine hK _ _ (.inr ⟨by rw[zbm (by decide)];exact h4,⟨X,g,cap,pre,us,ws,post,e,fz,by rw[zbm (by decide)];exact n1,hg,fun _=>rfl,fun h=> ?_,hfz,hpre,hus,hws,hone,e13,r13,fun _=>e14,e11,e10⟩⟩)
   rw[zdu] at h;cases h
  | 7,ho=>
   cases ho
   refine⟨rfl,fun d a w next hd hbe hwt hI hK=> ?_⟩
   rcases hI with⟨h4,_⟩|⟨h4,⟨X,g,cap,pre,us,ws,post,e,fz,hn,hg,h6,h6',hfz,hpre,hus,hws,hone,e13,r13,h5,e11,e10⟩⟩
   ·have:=hwt 4 (by kernel_rfl)
    rw[h4] at this;cases this
   rw[hd] at hn
   have hn:Now (ITP Tryd.prog) none F B X0 (SA x) σ1 X a:=hn
   have r4:Rep (ITP Tryd.prog) X (.ptr 5 0) (a.eval (.tmp 4)):=zdh hn.reps (.tmp 4)
   have hnl: ∃cs,zch (l++[x]).length (Enc.cellsL (l++[x]))= .list (l++[x]).length cs (.own 0):=⟨_,by unfold zch;rw[if_neg (by simp)]⟩
   obtain⟨csn,hnl⟩:=hnl
   have has:zof Tryd.prog σ1 31 (.ptr 5 0) (zch (l++[x]).length (Enc.cellsL (l++[x])))=some σ2:=by
    rw[hσ1,hσ2,hnl]
    have hs:zdk Tryd.prog 31=some 1:=by kernel_rfl
    simp[zof,zcm,hs,zhn,cellsOf]
   obtain⟨b,row,kb,hrunb,hE,hI2⟩:=zxf hIT has r4 r13 hn.inv
   have hbg:g≠b:=fun e=>hg (by rw[e];exact List.mem_of_getElem? kb)
   have hwb:w.heap[b]? =X.w.heap[b]? :=by
    cases d6:d 6 with
    |true=>rw[h6 d6]
    |false=>rw[(h6' d6).2,zza _ _ _ _ hbg]
   unfold Oper.wpIn
   refine⟨fun f _=>hF.fn f,?_⟩
   rw[Oper.semAt_plain F _ _ (fun c hc=>by cases hc)]
   have hrun: ∀o:Oper,o.op= .store 31 (.tmp 4) (.tmp 13)→(execOp a.eval o).run Tryd.prog w= .ok .skip (w.setRow b row):=fun o h1=>by
    simp[execOp,h1,hrunb w hwb]
   rw[hrun _ rfl]
   have n1:=zcg (P:=Tryd.prog) (M:=none) trivial hIT hn hE hI2 ⟨by rw[hσ1,hσ2];rfl,by rw[hσ1,hσ2];rfl⟩ none (x:= .top) (v:=undef) (by rw[Rep];trivial)
   refine hK _ _ (.inr ⟨by rw[zbm (by decide)];exact h4,⟨{X with w:=X.w.setRow b row},g,cap,pre,us,ws,post,e,fz,by rw[zdu];exact n1,hg,fun h=> ?_,fun h=> ?_,hfz,hpre,hus,hws,hone,e13,zep hIT hE _ _ r13,fun h=>h5 (by rwa[zbm (by decide)] at h),e11,e10⟩⟩)
   ·rw[zbm (by decide)] at h
    show X.w.setRow b row=_
    rw[h6 h]
   ·rw[zbm (by decide)] at h
    obtain⟨p1,p2⟩:=h6' h
    refine⟨by rw[zza _ _ _ _ (Ne.symm hbg)];exact p1,?_⟩
    show X.w.setRow b row=_
    rw[p2,z2m _ _ _ _ _ hbg]
  |n+8,ho=>simp at ho
 ·intro a w hI
  rcases hI with⟨h4,_⟩|⟨_,⟨X,g,cap,pre,us,ws,post,e,fz,hn,_,h6,_⟩⟩
  ·cases h4
  ·refine⟨rfl,X,h6 rfl,?_⟩
   have hn:Now (ITP Tryd.prog) none F B X0 (SA x) σ2 X a:=hn
   subst hσ2
   exact {hn with inv:=zrm hn.inv (s:=6) (t:=33) (cs:=Enc.cells x) rfl}
end Go.Ab
