import Derived.Test.YtjkcellkmmfkdaaGreatDoorZhR5
import Derived.Lib.FrozenHead
import Derived.Test.YtjkcellkmmfkdaaGreatDoorZhSn
set_option linter.all false
set_option maxRecDepth 100000
set_option maxHeartbeats 4000000
open Sum (inl inr)
open Nat (zero_add)
open List (length length_cons length_append length_nil getElem?_append_left mem_append foldl cons_append nil_append getElem?_set_ne getElem?_set_self mem_map)
open Go.Proofs.Tryz (prog)
namespace Go.Ab
open Go Go.RowKit Go.Fwd Go.Proofs
def crT (t:Tr):Bool:=(pre t).all zex
def q1 (f:Tr->Bool)(n:Nat)(x:Tr):Option Bool:=if(pre x).length<n/\ crT x=true then some (f x) else none
variable {n:Nat}
def z6f (b n sz:Nat):AV:=match n with|0=> .list 0 [] .full|n+1=> .bsl b 0 (n+1) sz false
section
variable {α:Type}
theorem z4q {e:List α} (h:e.isEmpty=true)(b sz:Nat):z6f b e.length sz= .list 0 [] .full:=by rw[List.isEmpty_iff.1 h];rfl
theorem z4d {e:List α} (h:e.isEmpty=false)(b sz:Nat):z6f b e.length sz= .bsl b 0 e.length sz false:=by
 cases e with
 |nil=>cases h
 |cons x l=>rfl
theorem zxj {l:List α} (h:l.length=n)(hp:0<n)(b sz:Nat):AV.bsl b 0 n sz false=z6f b l.length sz:=by
 subst h;cases l with
 |nil=>exact absurd hp (Nat.lt_irrefl _)
 |cons x l=>rfl
theorem z4o {m b sz:Nat} {z:FZ} (h: ∀k,zgv m z (.bsl b 0 (k+1) sz false)= .bsl b 0 (k+1) sz false):zgv m z (z6f b n sz)=z6f b n sz:=by
 cases n with
 |zero=>rfl
 |succ n=>exact h n
end
section
variable {α:Type} [Enc α] {P:Program} {ρ:Operand->AV} {U:St} {o:Oper}
theorem qha {c:Call} {x y:Operand} {t e:TypeId} {i:TypeInfo} {z:Value} {by':Nat} {r:List α} {st:Room} (hn:0<r.length/\ r.length*by'<=140737488355328)(ho:o.op= .call c)(hc:c.callee= .builtin .append)(ha:c.args.toList=[x,y])(ht:c.argTypes.toList=[t,t])
 (hx:ρ x= .list 0 [] .full) (hy:ρ y= .list r.length (Enc.cellsL r) st) (hu:P.underlying t=some (.slice e)) (hi:P.info? e=some i) (hz:i.zero=some z) (hsz:i.size=Enc.sz α) (hzs:z.cells.size=Enc.sz α) (hby:i.bytes=by'/\ 0<by'):
 zvc P ρ U o=some (.bsl U.boxes.length 0 r.length (Enc.sz α) false,{U with boxes:=U.boxes++[(e,Enc.cellsL r)]}):=by
 obtain⟨h1,h2⟩:=hn;have hp:=Enc.pos (α:=α);have hsrc:qae P U (Enc.sz α) t t (ρ y)=some (r.length,Enc.cellsL r):=by rw[hy];exact zsg ⟨rfl,by rw[Enc.lenL],by omega⟩
 have hmax:r.length<=maxLen:=by
  unfold maxLen;have:r.length*1<=r.length*by':=Nat.mul_le_mul_left _ hby.2
  omega
 have h:=z4t (P:=P) (U:=U) ho hc ha ht hx hu hi hz hsz hsrc ⟨hp,hzs,h1⟩ ⟨by simp,by rw[zero_add];exact hmax,by rw[zero_add,hby.1];exact h2⟩;rw[h,zero_add,nil_append]
end
section
variable {P:Program} {ρ:Operand->AV} {U:St} {o:Oper}
end
variable {g:FZ} {S S':List AV} {U:St} {n:Nat}
theorem hd_of {bx:List (TypeId×List AV)} {hs:List Nat} (h:(bx.mapIdx fun i b=>hs.contains i|| !b.2.isEmpty).all id=true)(i:Nat)(t:TypeId)(hi:bx[i]? =some (t,[])):hs.contains i=true:=by
 have h1:(bx.mapIdx fun i b=>hs.contains i|| !b.2.isEmpty)[i]? =some (hs.contains i|| !([]:List AV).isEmpty):=by
  rw[List.getElem?_mapIdx,hi];rfl
 have h2:=List.all_eq_true.1 h _ (List.mem_of_getElem? h1);simpa using h2
theorem fgR_of {m:Nat} (ms:List Bool)(h:fgM ms (zv m g S)=S'):Fg (zv m g S) S':=h▸zlz ms _
theorem rd_back {Q:AQ} (U':St)(h:Q .normal S U')(e:U=U'):Q .normal S U:=e▸h
section
variable {α:Type} [Enc α]
theorem qcl {m:Nat} {cs:List AV} (h:cloL cs=true):zgv m g (.list n cs .full)= .list n cs .full:=by
 rw[zgv,zam m g _ h];rfl
theorem zms {m:Nat} {l:List α} (h:l.length≠0->0<m):zgv m g (zck l.length (Enc.cellsL l))=zck l.length (Enc.cellsL l):=by
 unfold zck;split
 ·rfl
 ·rename_i hn;have:=h hn;rw[zgv,zam m g _ (Enc.cloL l)];simp[z9y,this]
end
theorem z3q {bs:List (TypeId×List AV)} {e sz:Nat} (h:n≠0):0<(zcn bs e n sz).lens.length:=by
 simp[zcn,h]
theorem zsw {d e sz:Nat} {js:List Nat} {t0 t1:TypeId} {c0 c0' c1 c1':List AV} {rest bs':List (TypeId×List AV)} (h0:zv (zcn ((t0,c0)::(t1,c1)::rest) e n sz).lens.length (kz ((t0,c0)::(t1,c1)::rest) (zcn ((t0,c0)::(t1,c1)::rest) e n sz).lens.length 2 [] js d) c0=c0')
 (h1:zv (zcn ((t0,c0)::(t1,c1)::rest) e n sz).lens.length (kz ((t0,c0)::(t1,c1)::rest) (zcn ((t0,c0)::(t1,c1)::rest) e n sz).lens.length 2 [] js d) c1=c1')
 (h:(js.map fun j=>((((t0,c0)::(t1,c1)::rest)[j]?).map fun b=>(b.1,zv (zcn ((t0,c0)::(t1,c1)::rest) e n sz).lens.length (kz ((t0,c0)::(t1,c1)::rest) (zcn ((t0,c0)::(t1,c1)::rest) e n sz).lens.length 2 [] js d) b.2)).getD (0,[.bad]))=bs'):
 zed (zcn ((t0,c0)::(t1,c1)::rest) e n sz) (zcn ((t0,c0)::(t1,c1)::rest) e n sz).lens.length 2 [] js d=zcn ((t0,c0')::(t1,c1')::bs') e n sz:=by
 refine zap rfl h0 h1 h ?_;unfold zcn;by_cases hn:n=0
 ·simp[hn]
 ·simp[hn]
theorem z7m {hs:List Nat} {bx:List (TypeId×List AV)} {k:Nat} {q0:Stk} {r':Rd} {bs bs':List (TypeId×List AV)} {e sz:Nat}
 (h:(bs.mapIdx fun i b=>if i=0 then(tyR,rdC bx.length r') else if i=k then((zj q0).1,[]) else if hs.contains i=true then(bx[i]?).getD b else(b.1,zv (zcn bs e n sz).lens.length (gz hs) b.2))++[zj r'.q]=bs'):zkq hs bx k q0 r' (zcn bs e n sz)=zcn bs' e n sz:=by
 subst h;rfl
theorem zww {m0 k0:Nat} {K:List AV->St->Prop} {U':St} (ms:List Bool)(n:Nat)(js:List Nat)(d:Nat)(hm:m0<=0)(hn:k0<=n)(hok:zcs U n js=true)(h:fgM ms (zv 0 (kz U.boxes 0 n [] js d) S)=S')(hσ:zed U 0 n [] js d=U')(k:K S' U'):z8k m0 k0 K S U:=
 .inr ⟨0,n,[],js,d,S',hm,hn,hok,h▸zlz ms _,hσ▸k⟩
end Go.Ab
namespace Go.Ab
open Go Go.RowKit Go.Fwd
theorem zmw (w:World)(a b:Array Value)(e:TypeId):(w.alloc (.cells a e)).setRow w.heap.size b=w.alloc (.cells b e):=by
 unfold World.setRow World.alloc;simp only;congr 1
 apply Array.ext_getElem?;intro i;rw[Array.getElem?_modify,Array.getElem?_push,Array.getElem?_push];by_cases h:w.heap.size=i
 ·subst h;simp
 ·simp[h,Ne.symm h]
theorem ztk (w:World)(g:Nat)(a b:Array Value):(w.setRow g a).setRow g b=w.setRow g b:=by
 unfold World.setRow;simp only;congr 1
 apply Array.ext_getElem?;intro i;simp only[Array.getElem?_modify];by_cases h:g=i
 ·subst h;simp only[if_true];cases w.heap[g]? with
  |none=>rfl
  |some o=>cases o<;>rfl
 ·simp[h]
theorem z2c {IT:IterP} (hIT:ITMono IT) {P:Program} {X:Cx} {U U':St} {t ty:TypeId} {n m b2 o2 cap2:Nat} {cs ds:List AV} {st st2:Room} {x y a:AV} {v:Value} {us ws:List Value} (h:zfe P U t x y=some (a,U'))(hxe:x= .list n cs st)(hye:y= .list m ds st2)(hx:Rep IT X x v)(hI:Inv IT U X)
 (hm0:m≠0) (w1':zbe IT X ds ws) (w2': ∀v∈ws,v.oneCell'=true) (hwl:us.length=ws.length) (u2: ∀v∈us,v.oneCell'=true) (hnews: ∀(j:Nat) w,us[j]? =some w->X.w.cell? ((⟨b2,o2,none⟩:Addr).add j)=some w):
 ∃ (g cap':Nat) (W:World) (pre post:List Value) (e:TypeId) (fz:Nat×Nat) (X':Cx),(Builtin.append_ #[t,t] ty #[v,.slice (some ⟨b2,o2,none⟩) m cap2]).run P X.w= .ok (.slice (some ⟨g,0,none⟩) (n+m) cap') W/\ W.heap[g]? =some (.cells (pre++us++post).toArray e fz)/\ fz.2<=pre.length/\ pre.length=cs.length/\
  X'.w=W.setRow g (pre++ws++post).toArray/\ Ext X X'/\ Inv IT U' X'/\ Rep IT X' a (.slice (some ⟨g,0,none⟩) (n+m) cap')/\ n+m<=cap':=by
 unfold zfe at h;split at h<;>try cases h
 rename_i e n' cs' st' m' ds' st2' hu;cases hxe;cases hye;split at h<;>try cases h
 rename_i i hi;split at h<;>try cases h
 rename_i z hz;have hx0:=hx;rw[Rep] at hx;obtain⟨ad,cap,rfl,⟨hcap,hnil⟩,hc,hst⟩:=hx;split at h
 ·rename_i hm;exact absurd hm.1 hm0
 ·split at h<;>try cases h
  rename_i hcond;obtain⟨q1,q2,q3,q4,q5,q6,q7⟩:=hcond;have hul:=zq w1';have hul2:us.length=m*i.size:=by omega
  have hup:0<ws.length:=by have:=Nat.mul_pos q3 q5;omega
  have hml:((n+m:Nat):Int)<=9223372036854775807:=by unfold maxLen at q6;omega
  have hnm:(n+m)*i.size=n*i.size+m*i.size:=Nat.add_mul _ _ _
  -- the old cells
  obtain⟨vs,v1,v2,v3⟩: ∃vs:List Value,zbe IT X cs vs/\ (∀w∈vs,w.oneCell'=true)/\ ∀b o,ad=some ⟨b,o,none⟩-> ∀(j:Nat) w,vs[j]? =some w->X.w.cell? ((⟨b,o,none⟩:Addr).add j)=some w:=by
   rcases hc with rfl|⟨b,o,rfl,hat⟩
   ·exact⟨[],by rw[zbe],by simp,by simp⟩
   ·obtain⟨vs,w1,w2,w3⟩:=zga hat
    exact⟨vs,w1,w2,fun b' o' e' j w hj=>by cases e';rw[zfs];exact w3 j w hj⟩
  have hvl:=zq v1;have hone: ∀w∈vs++ws,w.oneCell'=true:=fun w hw=>(mem_append.1 hw).elim (v2 w) (w2' w);have hz2: ∀c,n+m<=c->(vs++ws++(Builtin.zeroCells z.cells (c-(n+m))).toList).length=c*i.size:=fun c hcc=>by
   have:=size_zeroCells z.cells (c-(n+m));simp only[length_append,Array.length_toList,this,q4, <-hvl, <-hul,q1,q2, <-Nat.add_mul];congr 1;omega
  -- where it grows
  have grow: ∀(c0:Nat) (hlt:c0<n+m),c0=cap-> ∃r,(Builtin.append_ #[t,t] ty #[.slice ad n cap,.slice (some ⟨b2,o2,none⟩) m cap2]).run P X.w=
   .ok (.slice (some ⟨X.w.heap.size,0,none⟩) (n+m) r) (X.w.drew.alloc (.cells (vs++us++(Builtin.zeroCells z.cells (r-(n+m))).toList).toArray e))/\ n+m<=r/\ r<=maxLen:=fun c0 hlt ec=>by
   subst ec;refine⟨grownCap X.w (n+m) c0 e,?_,grownCap_ge _ _ _ _,grownCap_le_maxLen _ _ _ _ q6⟩;rcases hc with rfl|⟨b,o,rfl,hat⟩
   ·have hn0:n=0:=by
     have:n*i.size=0:=by simpa using q1.symm
     rcases Nat.mul_eq_zero.1 this with h|h
     ·exact h
     ·omega
    subst hn0;have hvs:vs=[]:=by rw[zbe] at v1;exact v1
    subst hvs;cases ad with
    | none=>
     obtain rfl:c0=0:=hnil rfl;have hr:=run_append_nil (P:=P) X.w t ty e i z hu hi hz ⟨b2,o2,none⟩ m cap2 us (by omega) hnews q3 (by omega) (by simp at q7;omega);simp only[zero_add] at hr⊢;rw[hr];congr 2
     simp
    | some ad=>
     have hr:=run_append_grow (P:=P) X.w t ty e i z hu hi hz ad 0 c0 [] (by simp) (by simp) ⟨b2,o2,none⟩ m cap2 us (by omega) hnews (by omega) (by omega) (growslice_fits hlt q7);rw[hr];congr 2
     simp
   ·have hr:=run_append_grow (P:=P) X.w t ty e i z hu hi hz ⟨b,o,none⟩ n c0 vs (by omega) (v3 b o rfl) ⟨b2,o2,none⟩ m cap2 us (by omega) hnews (by omega) (by omega) (growslice_fits hlt q7);rw[hr];congr 2
    simp
  have hlens:X.lens=U.lens:=hI.lens;have hbl:=hI.βlen;have hvu:(vs++ws).length=(n+m)*i.size:=by rw[length_append, <-hvl, <-hul];omega
  have hcd:(cs++ds).length=(n+m)*i.size:=by rw[length_append];omega
  cases st with
  |none=>cases h
  | full=>
   simp only[Option.some.injEq,Prod.mk.injEq] at h;obtain⟨rfl,rfl⟩:=h;simp only at hst;subst hst;obtain⟨r,g1,g2,g3⟩:=grow cap (by omega) rfl
   obtain⟨X',x1,x2,x3,x4,x5,x6⟩:=zox hIT hI (e:=e) (zbk v1 w1') hone i.size r q5 g3 (hz2 r g2)
    (β':=X.β++[⟨X.w.heap.size,e,i.size,r⟩]) (lens':=U.lens++[(cap+m)*i.size]) (elems':=U.elems++[e])
    (fun s L hs=>⟨L,by rw[<-hlens,getElem?_append_left (List.getElem?_eq_some_iff.1 hs).1];exact hs,Nat.le_refl _,fun _=>by
     rw[getElem?_append_left];rw[hbl];exact(List.getElem?_eq_some_iff.1 hs).1⟩)
    (by simp[hbl,hlens]) (by simp[hI.elems])
    (fun s q L hq hL=>by
     rcases Nat.lt_or_ge s X.β.length with hlt|hge
     ·rw[getElem?_append_left hlt] at hq;rw[<-hlens,getElem?_append_left (by omega)] at hL;exact .inl ⟨hq,hL⟩
     ·right
      have h0:s=X.β.length:=by
       have:=(List.getElem?_eq_some_iff.1 hq).1;simp at this;omega
      subst h0;rw[<-hlens,hbl] at hL;simp at hq hL;exact⟨hq.symm,by rw[hvu];exact hL.symm⟩)
    (by
     rw[List.map_append];refine List.nodup_append.2 ⟨hI.βnd,by simp,fun a ha b hb e=> ?_⟩;obtain⟨q,hq,rfl⟩:=mem_map.1 ha;have:=hI.βlt hq;simp at hb;omega)
   refine⟨X.w.heap.size,r,_,vs,_,e,(0,0),X',g1,heap_alloc_new X.w.drew _,Nat.zero_le _,hvl.symm,by rw[x1];exact(zmw X.w.drew _ _ _).symm,x2,x3,?_,g2⟩;rw[Rep];refine⟨_,_,rfl,⟨g2,fun e=>by cases e⟩,.inr ⟨_,_,rfl,x4⟩,(cap+m)*i.size,?_,by omega,fun _=>⟨⟨X.w.heap.size,e,i.size,r⟩,?_,rfl,rfl,hcd⟩⟩
   ·rw[x6];simp
   ·rw[x5, <-hlens, <-hbl];simp
  | own s=>
   simp only at h;split at h<;>try cases h
   rename_i hown;obtain⟨w1,w2,w3⟩:=hown;obtain⟨L,k1,k2,k3⟩:=hst;have hLc:cs.length=L:=by rw[hlens] at k1;rw[k1] at w1;exact(Option.some.inj w1).symm
   obtain⟨r,k4,k5,rfl,k7⟩:=k3 hLc;subst hLc;have hsr:r.size=i.size:=by
    have:n*r.size=n*i.size:=by omega
    exact Nat.eq_of_mul_eq_mul_left w3 this
   have hre:r.elem=e:=by
    have h1:(X.β.map (·.elem))[s]? =some e:=by rw[hI.elems];exact w2
    rw[List.getElem?_map,k4] at h1;simpa using h1
   have hsl:s<X.lens.length:=(List.getElem?_eq_some_iff.1 k1).1;obtain⟨cur,fz,c1,c2,c3,c4,c5,c6,c7⟩:=hI.row s r cs.length k4 k1;subst k5;by_cases hroom:n+m<=r.cap
   ·have hfit:cs.length+ws.length<=cur.size:=by
     rw[c2,hsr];have:=Nat.mul_le_mul_right i.size hroom;omega
    obtain⟨X',x1,x2,x3,x4,x5,x6⟩:=zon hIT hI k4 k1 c1 w1' w2' hup hfit;have hr:=run_append_roomF (P:=P) X.w t ty e i hu hi r.block n r.cap cur fz (by rw[<-hre];exact c1) (by omega) ⟨b2,o2,none⟩ m cap2 us (by omega) hnews u2 hroom (by omega);have hlen2:cs.length+ws.length=(n+m)*i.size:=by omega
    rw[hlen2] at x3 x6;have hr2:=hr;rw[<-q1,hwl] at hr2;refine⟨r.block,r.cap,_,cur.toList.take cs.length,cur.toList.drop (cs.length+ws.length),r.elem,fz,X',hr2,setRow_heap _ _ _ _ _ _ c1,by simp;omega,by simp;omega,by rw[x1,ztk],x2,x3,?_,hroom⟩
    ·rw[Rep];have hold:At IT X' cs r.block 0:=z1t hIT x2 _ _ _ (by
      rcases hc with rfl|⟨b,o,e1,hat⟩
      ·rw[At];trivial
      ·cases e1;exact hat)
     refine⟨_,_,rfl,⟨hroom,fun e=>by cases e⟩,.inr ⟨_,_,rfl,zne hold (by rw[zero_add];exact x4)⟩,(n+m)*i.size,?_,by omega,fun _=>⟨r,by rw[x5];exact k4,rfl,rfl,by rw[hcd,hsr]⟩⟩;rw[x6];simp[hsl]
   ·obtain⟨c,g1,g2,g3⟩:=grow r.cap (by omega) rfl
    obtain⟨X',x1,x2,x3,x4,x5,x6⟩:=zox hIT hI (e:=e) (zbk v1 w1') hone i.size c q5 g3 (hz2 c g2)
     (β':=X.β.set s ⟨X.w.heap.size,e,i.size,c⟩) (lens':=U.lens.set s ((n+m)*i.size)) (elems':=U.elems)
     (fun s' L hs=>by
      by_cases es:s'=s
      ·subst es;rw[k1] at hs;cases hs;have:=Nat.mul_pos q3 q5;exact⟨(n+m)*i.size,by rw[<-hlens];simp[hsl],by omega,fun e=>by omega⟩
      ·exact⟨L,by rw[<-hlens,getElem?_set_ne (Ne.symm es)];exact hs,Nat.le_refl _,fun _=>by rw[getElem?_set_ne (Ne.symm es)]⟩)
     (by simp[hbl,hlens])
     (by
      rw[<-hI.elems,List.map_set];apply List.ext_getElem?;intro j;by_cases ej:s=j
      ·subst ej;rw[getElem?_set_self (by simp;omega),List.getElem?_map,k4];simp[hre]
      ·rw[getElem?_set_ne ej])
     (fun s' q L hq hL=>by
      by_cases es:s'=s
      ·subst es;right
       rw[getElem?_set_self (by omega)] at hq;rw[<-hlens,getElem?_set_self hsl] at hL;cases hq;cases hL;exact⟨rfl,hvu.symm⟩
      ·left
       rw[getElem?_set_ne (Ne.symm es)] at hq;rw[<-hlens,getElem?_set_ne (Ne.symm es)] at hL;exact⟨hq,hL⟩)
     (by
      rw[List.map_set];have hnd:=hI.βnd;have hfresh:X.w.heap.size∉X.β.map (·.block):=fun hm=>by
       obtain⟨q,hq,e'⟩:=mem_map.1 hm;have:=hI.βlt hq;omega
      exact zfc _ _ _ hnd hfresh)
    refine⟨X.w.heap.size,c,_,vs,_,e,(0,0),X',g1,heap_alloc_new X.w.drew _,Nat.zero_le _,hvl.symm,by rw[x1];exact(zmw X.w.drew _ _ _).symm,x2,x3,?_,g2⟩;rw[Rep];refine⟨_,_,rfl,⟨g2,fun e=>by cases e⟩,.inr ⟨_,_,rfl,x4⟩,(n+m)*i.size,?_,by omega,fun _=>⟨⟨X.w.heap.size,e,i.size,c⟩,?_,rfl,rfl,hcd⟩⟩
    ·rw[x6, <-hlens];simp[hsl]
    ·rw[x5,getElem?_set_self (by omega)]
end Go.Ab
namespace Go.Ab
open Go Go.RowKit Go.Fwd Go.Proofs
theorem z1n (w:World)(g b:Nat)(r s:Array Value)(h:g≠b):(w.setRow g r).setRow b s=(w.setRow b s).setRow g r:=by
 unfold World.setRow;simp only;congr 1
 apply Array.ext_getElem?;intro i;simp only[Array.getElem?_modify];by_cases h1:b=i
 ·subst h1;simp[h]
 ·simp[h1]
theorem z0q (w:World)(g b:Nat)(r:Array Value)(h:g≠b):(w.setRow g r).heap[b]? =w.heap[b]? :=by
 unfold World.setRow;simp[Array.getElem?_modify,h]
theorem zwn {IT:IterP} (hIT:ITMono IT) {P:Program} {X:Cx} {U U':St} {t:TypeId} {s off:Nat} {y:AV} {u v:Value} (h:znx P U t (.ptr s off) y=some U')(hx:Rep IT X (.ptr s off) u)(hy:Rep IT X y v)(hI:Inv IT U X):
 ∃b row,X.κ[s]? =some b/\ (∀w:World,w.heap[b]? =X.w.heap[b]? ->(Instr.storeAt t u v).run P w= .ok () (w.setRow b row))/\ Ext X {X with w:=X.w.setRow b row}/\ Inv IT U' {X with w:=X.w.setRow b row}:=by
 unfold znx at h;simp only at h;rw[Rep] at hx;obtain⟨b,hb,rfl⟩:=hx;split at h<;>try cases h
 rename_i bx n hbx hn;obtain⟨t0,cs⟩:=bx;split at h<;>try cases h
 rename_i hc;obtain⟨hc1,hc2,hc3,hc4⟩:=hc;obtain⟨k1,k2⟩:=zkj hc1 hy;obtain⟨vs,zs,u1,u2,u3⟩:=hI.box s b t0 cs hb hbx;have hl:=zq u2;have hl2:=zq k1;simp only at hc3;have hsz:v.cells.size=n:=by simp at hl2;omega
 have hlist:v.cells.toList.length=n:=by simpa using hsz
 obtain⟨e1,e2⟩:=zsd hIT hI (zs:=zs) hb hbx (by intro e;subst e;simp at hc3;omega) (fun cur t f hc=>by rw[u1] at hc;cases hc;simp at hl2⊢;omega) (zbk (zbk (zhc u2 off) k1) (zhg u2 (off+n)))
  (fun w hw=>by
   rcases mem_append.1 hw with hw|hw
   ·rcases mem_append.1 hw with hw|hw
    ·exact u3 w (List.mem_of_mem_take hw)
    ·exact k2 w hw
   ·exact u3 w (List.mem_of_mem_drop hw))
 have hrow:(vs++zs).take off++v.cells.toList++(vs++zs).drop (off+n)=vs.take off++v.cells.toList++vs.drop (off+n)++zs:=by
  rw[List.take_append_of_le_length (by omega),List.drop_append_of_le_length (by omega)];simp
 refine⟨b,_,hb,fun w hw=> ?_,e1,e2⟩;have hst:=run_storeCells_at P b off t0 v.cells.toList 0 (vs++zs).toArray w (hw.trans u1) (by simp at hl2⊢;omega) k2;simp only[Nat.add_zero] at hst;rw[hlist] at hst;simp only[Instr.storeAt,Instr.sureAddr,storeVar,Sem.run_bind,Sem.run_pure,Result.andThen_ok,zdq hn,hsz];simp only[<-hrow];simpa using hst
theorem z6e {IT:IterP} (hIT:ITMono IT) {P:Program} {F:Fence} (hF:FenceOk F P) {nn B:Nat} {o:Oper} {S E:List AV} {U:St} {X0 X:Cx} {a:Act} {x:AV} {next:Act->World->Prop} {Q:Exit->Act->World->Prop} (h:qop P (zbv E) U o=some x)(hdf: ∀c,o.op≠ .defer c)(hn:Now IT none F B X0 S U X a)(hS:zi S o.dst .top=S)
 (hρ: ∀y∈o.op.operands,Rep IT X (zbv E y) (a.eval y)) (hK: ∀X' v,Ext X X'->Rep IT X' x v->Now IT none F B X0 S U X' (a.put o.dst v)->next (a.put o.dst v) X'.w):o.wpIn F nn P a X.w next Q:=by
 obtain⟨v,X',h1,h2,h3,h4,_⟩:=znw hIT h hρ hn.inv;unfold Oper.wpIn;refine⟨fun f _=>hF.fn f,?_⟩;rw[Oper.semAt_plain F _ _ hdf,h1];have n:=zbu (P:=P) (M:=none) trivial hIT hn h2 h3 ⟨rfl,rfl⟩ o.dst (x:= .top) (v:=v) (by rw[Rep];trivial);rw[hS] at n;exact hK X' v h2 h4 n
theorem zmn {a:Act} {t:Nat} {v:Value} (h:t<a.tmps.size):(a.put (some t) v).eval (.tmp t)=v:=by simp[Act.put,Act.eval,h]
theorem zjw {a:Act} {t t':Nat} {v:Value} (h:t'≠t):(a.put (some t) v).eval (.tmp t')=a.eval (.tmp t'):=zef _ _ _ _ (by intro e;exact h (Option.some.inj e).symm)
def SA (x:Tr):List AV:=[.top,.top,.ptr 3 0,.top,.ptr 5 0,.ptr 6 0,.top,.top,.agg (Enc.cells x),.top,.top,.top,.top,.top,.top,.top,.top,.top,.top,.top,.top,.top,.top,.top,.top,.top,.top,.top,.top,.top,.top,.top]
def zT:AV:= .list 1 [.raw (.int .u8 0),.raw (.int .u64 0),.raw (.int .u64 0),.raw (.int .u64 0),.raw (.int .u64 0),.raw (.int .i64 0),.raw (.int .i64 0),.list 0 [] .full] .full
structure App1 (F:Fence)(B:Nat)(X0:Cx)(x:Tr)(U:St)(ol:AV)(n:Nat)(d:Nat->Bool)(a:Act)(w:World):Prop where
 h: ∃X,X.w=w/\ Now (ITP prog) none F B X0 (SA x) U X a/\ (d 0=true->Rep (ITP prog) X ol (a.eval (.tmp 9)))/\ (d 1=true->Rep (ITP prog) X (.agg (Enc.cells x)) (a.eval (.tmp 10)))/\ (d 2=true->a.eval (.tmp 11)= .int .i64 (n:Int))/\ (d 3=true->Rep (ITP prog) X zT (a.eval (.tmp 12)))
structure App2 (F:Fence)(B:Nat)(X0:Cx)(x:Tr)(U1 U2:St)(nl:AV)(n:Nat)(d:Nat->Bool)(a:Act)(w:World):Prop where
 h : ∃(X:Cx) (g cap:Nat) (pre us ws post:List Value) (e:TypeId) (fz:Nat×Nat),Now (ITP prog) none F B X0 (SA x) (bif d 7 then U2 else U1) X a/\ g∉X.κ/\ (d 6=true->X.w=w)/\ (d 6=false->w.heap[g]? =some (.cells (pre++us++post).toArray e fz)/\ X.w=w.setRow g (pre++ws++post).toArray)/\ fz.2<=pre.length/\ pre.length=n*8/\ us.length=8/\ ws.length=8/\ (∀v∈ws,v.oneCell'=true)/\
  a.eval (.tmp 13)= .slice (some ⟨g,0,none⟩) (n+1) cap/\ Rep (ITP prog) X nl (a.eval (.tmp 13))/\ (d 5=true->a.eval (.tmp 14)= .pointer (some ⟨g,n*8,none⟩))/\ a.eval (.tmp 11)= .int .i64 (n:Int)/\ a.eval (.tmp 10)= .agg ws.toArray
theorem app_reg (b0 b1 b2' b3 b4:TypeId×List AV)(l:List Tr)(x:Tr)(h:l.length<2^40) {id id2:Nat} {ops:Array Oper} (hops:(do let c<-Tryz.f59.body;ziu 5 c)=some ops):
 qee (ITP prog) prog (.block id (.region id2 ops true)) (SA x) (zcn [b0,b1,b2',b3,b4,(25,[zck l.length (Enc.cellsL l)]),(27,Enc.cells x)] 27 l.length 8) (SA x) (zcn [b0,b1,b2',b3,b4,(25,[zck (l++[x]).length (Enc.cellsL (l++[x]))]),(27,[])] 27 (l++[x]).length 8):=by
 cases hops;intro F nn B X0 X a hF hI0 hn hfe;have hIT:=ze prog;refine wpIn_block ?_;obtain⟨U0,hσ0⟩: ∃U0,U0=zcn [b0,b1,b2',b3,b4,(25,[zck l.length (Enc.cellsL l)]),(27,Enc.cells x)] 27 l.length 8:=⟨_,rfl⟩;obtain⟨U1,hσ1⟩: ∃U1,U1=zcn [b0,b1,b2',b3,b4,(25,[zck l.length (Enc.cellsL l)]),(27,Enc.cells x)] 27 (l++[x]).length 8:=⟨_,rfl⟩;obtain⟨U2,hσ2⟩: ∃U2,U2=zcn [b0,b1,b2',b3,b4,(25,[zck (l++[x]).length (Enc.cellsL (l++[x]))]),(27,Enc.cells x)] 27 (l++[x]).length 8:=⟨_,rfl⟩;have hsz: ∀ {X:Cx} {a:Act} {U:St},Now (ITP prog) none F B X0 (SA x) U X a->a.tmps.size=32:=fun hn=>by
  have:=zq hn.reps;simpa[SA] using this.symm
 refine any_gen mix (fun d a w=>(d 4=false/\ App1 F B X0 x U0 (zck l.length (Enc.cellsL l)) l.length d a w) \/(d 4=true/\ App2 F B X0 x U1 U2 (zck (l++[x]).length (Enc.cellsL (l++[x]))) l.length d a w)) (by kernel_rfl) ?_ ?_ ?_
 ·obtain⟨hEx,hI⟩:=zjm hIT hn.inv;refine .inl ⟨rfl,⟨{X with w:=X.w.drew},rfl,?_,fun h=>(by cases h),fun h=>(by cases h),fun h=>(by cases h),fun h=>(by cases h)⟩⟩;subst hσ0;exact⟨Ext.trans hn.ext hEx,hI,zao hIT hEx _ _ hn.reps,hn.marks.ext hEx hn.inv,trivial⟩
 ·intro i o ho
  match i,ho with
  | 0,ho=>
   cases ho;refine⟨rfl,fun d a w next hd hbe hwt hI hK=> ?_⟩;rcases hI with⟨h4,⟨X,rfl,hn,k0,k1,k2,k3⟩⟩|⟨h4,_⟩
   ·refine z6e (E:=SA x) (x:=zck l.length (Enc.cellsL l)) hIT hF (qji (.ptr 5 0) rfl rfl (by subst hσ0;rfl)) (fun c hc=>by cases hc) hn rfl (fun y _=>zcz hn.reps y) fun X' v hE hr hn'=>hK _ _ (.inl ⟨by rw[zba (by decide)];exact h4,⟨X',rfl,hn',fun _=> ?_,fun h=> ?_,fun h=> ?_,fun h=> ?_⟩⟩)
    ·rw[zmn (by rw[hsz hn];decide)];exact hr
    ·rw[zjw (by decide)];exact zeq hIT hE _ _ (k1 (by rwa[zba (by decide)] at h))
    ·rw[zjw (by decide)];exact k2 (by rwa[zba (by decide)] at h)
    ·rw[zjw (by decide)];exact zeq hIT hE _ _ (k3 (by rwa[zba (by decide)] at h))
   ·have:=hbe 4 (by kernel_rfl);rw[h4] at this;cases this
  | 1,ho=>
   cases ho;refine⟨rfl,fun d a w next hd hbe hwt hI hK=> ?_⟩;rcases hI with⟨h4,⟨X,rfl,hn,k0,k1,k2,k3⟩⟩|⟨h4,_⟩
   ·refine z6e (E:=SA x) (x:= .agg (Enc.cells x)) hIT hF (qji (.ptr 6 0) rfl rfl (by subst hσ0;rfl)) (fun c hc=>by cases hc) hn rfl (fun y _=>zcz hn.reps y) fun X' v hE hr hn'=>hK _ _ (.inl ⟨by rw[zba (by decide)];exact h4,⟨X',rfl,hn',fun h=> ?_,fun _=> ?_,fun h=> ?_,fun h=> ?_⟩⟩)
    ·rw[zjw (by decide)];exact zeq hIT hE _ _ (k0 (by rwa[zba (by decide)] at h))
    ·rw[zmn (by rw[hsz hn];decide)];exact hr
    ·rw[zjw (by decide)];exact k2 (by rwa[zba (by decide)] at h)
    ·rw[zjw (by decide)];exact zeq hIT hE _ _ (k3 (by rwa[zba (by decide)] at h))
   ·have:=hbe 4 (by kernel_rfl);rw[h4] at this;cases this
  | 2,ho=>
   cases ho;refine⟨rfl,fun d a w next hd hbe hwt hI hK=> ?_⟩;rcases hI with⟨h4,⟨X,rfl,hn,k0,k1,k2,k3⟩⟩|⟨h4,_⟩
   ·have h9:=k0 (hwt 0 (by kernel_rfl));refine z6e (E:=(SA x).set 9 (zck l.length (Enc.cellsL l))) (x:= .raw (.int .i64 (l.length:Int))) hIT hF (q_lenO rfl rfl rfl rfl rfl rfl) (fun c hc=>by cases hc) hn rfl (fun y hy=>by
     simp[Op.operands,Call.operands] at hy;subst hy;exact h9) fun X' v hE hr hn'=>hK _ _ (.inl ⟨by rw[zba (by decide)];exact h4,⟨X',rfl,hn',fun h=> ?_,fun h=> ?_,fun _=> ?_,fun h=> ?_⟩⟩)
    ·rw[zjw (by decide)];exact zeq hIT hE _ _ (k0 (by rwa[zba (by decide)] at h))
    ·rw[zjw (by decide)];exact zeq hIT hE _ _ (k1 (by rwa[zba (by decide)] at h))
    ·rw[zmn (by rw[hsz hn];decide)];exact hr
    ·rw[zjw (by decide)];exact zeq hIT hE _ _ (k3 (by rwa[zba (by decide)] at h))
   ·have:=hbe 4 (by kernel_rfl);rw[h4] at this;cases this
  | 3,ho=>
   cases ho;refine⟨rfl,fun d a w next hd hbe hwt hI hK=> ?_⟩;rcases hI with⟨h4,⟨X,rfl,hn,k0,k1,k2,k3⟩⟩|⟨h4,_⟩
   ·refine z6e (E:=SA x) (x:=zT) hIT hF (by kernel_rfl) (fun c hc=>by cases hc) hn rfl (fun y _=>zcz hn.reps y) fun X' v hE hr hn'=>hK _ _ (.inl ⟨by rw[zba (by decide)];exact h4,⟨X',rfl,hn',fun h=> ?_,fun h=> ?_,fun h=> ?_,fun _=> ?_⟩⟩)
    ·rw[zjw (by decide)];exact zeq hIT hE _ _ (k0 (by rwa[zba (by decide)] at h))
    ·rw[zjw (by decide)];exact zeq hIT hE _ _ (k1 (by rwa[zba (by decide)] at h))
    ·rw[zjw (by decide)];exact k2 (by rwa[zba (by decide)] at h)
    ·rw[zmn (by rw[hsz hn];decide)];exact hr
   ·have:=hbe 4 (by kernel_rfl);rw[h4] at this;cases this
  | 4,ho=>
   cases ho;refine⟨rfl,fun d a w next hd hbe hwt hI hK=> ?_⟩;rcases hI with⟨h4,⟨X,rfl,hn,k0,k1,k2,k3⟩⟩|⟨h4,_⟩
   rotate_left
   ·rw[h4] at hd;cases hd
   have r9:=k0 (hwt 0 (by kernel_rfl));have r10:=k1 (hwt 1 (by kernel_rfl));have r11:=k2 (hwt 2 (by kernel_rfl));have r12:=k3 (hwt 3 (by kernel_rfl));rw[zT,Rep] at r12;obtain⟨ad,cap2,e12,hcap2,hz,_⟩:=r12;obtain⟨b2,o2,rfl,hat⟩:=hz.resolve_left (by simp);obtain⟨us,u1,u2,u3⟩:=zga hat
   rw[Rep] at r10;obtain⟨ws,e10,w1,w2⟩:=r10;have hul:us.length=8:=by simpa using(zq u1).symm
   have hwl:ws.length=8:=by have:=zq w1;rw[Enc.len] at this;exact this.symm
   have w1':zbe (ITP prog) X (Enc.cellsL [x]) ws:=by rw[Enc.cons,show Enc.cellsL ([]:List Tr)=[] from rfl,List.append_nil];exact w1
   have happ:zfe prog U0 25 (zck l.length (Enc.cellsL l)) (.list [x].length (Enc.cellsL [x]) .full)=some (zck (l++[x]).length (Enc.cellsL (l++[x])),U1):=by
    rw[hσ0,hσ1];exact zmj (P:=prog) (t:=25) (e:=27) (by':=80) (by simp only[length_cons,length_nil];omega) rfl rfl rfl rfl rfl ⟨rfl,by decide⟩
   have hxe: ∃cs st,zck l.length (Enc.cellsL l)= .list l.length cs st/\ cs.length=l.length*8:=by
    unfold zck;split
    ·rename_i h0;exact⟨[],.full,by rw[h0],by rw[h0];rfl⟩
    ·exact⟨_,_,rfl,Enc.lenL _⟩
   obtain⟨cs9,st9,hxe,hcl⟩:=hxe;obtain⟨g,cap',W,pre,post,e,fz,X',q1,q2,q3,q4,q5,q6,q7,q8,q9⟩:=z2c (ty:=25) (us:=us) (b2:=b2) (o2:=o2) (cap2:=cap2) hIT happ hxe rfl r9 hn.inv (by simp) w1' w2 (by omega) u2 (fun j w hj=>by rw[zfs];exact u3 j w hj);have hnl: ∃cs r,zck (l++[x]).length (Enc.cellsL (l++[x]))= .list (l++[x]).length cs (.own 0)/\ cs.length=(l++[x]).length*8/\ X'.lens[0]? =some ((l++[x]).length*8)/\ r=0:=by
    refine⟨Enc.cellsL (l++[x]),0,?_,Enc.lenL _,?_,rfl⟩
    ·unfold zck;rw[if_neg (by simp)]
    ·rw[q7.lens,hσ1];simp[zcn]
   obtain⟨cs',r0,hnl,hnc,hnlen,_⟩:=hnl;have hgκ:g∉X'.κ:=by
    have q8':=q8;rw[hnl,Rep] at q8';obtain⟨ad',cp',e',_,_,L,m1,m2,m3⟩:=q8';rw[hnlen] at m1;obtain⟨r,m4,m5,_⟩:=m3 (by rw[hnc];exact Option.some.inj m1);have e'':ad'=some ⟨g,0,none⟩:=by injection e' with e1 _ _;exact e1.symm
    have hg:r.block=g:=by rw[e''] at m5;injection m5 with m5;injection m5 with m5 _ _;exact m5.symm
    rw[<-hg];exact q7.βκ r (List.mem_of_getElem? m4)
   unfold Oper.wpIn;refine⟨fun f _=>hF.fn f,?_⟩;rw[Oper.semAt_plain F _ _ (fun c hc=>by cases hc)];have hrun: ∀o:Oper,o.op= .call ⟨.builtin .append, #[.tmp 9,.tmp 12], #[25,25]⟩->o.type=25->(execOp a.eval o).run prog X.w= .ok (.value (.slice (some ⟨g,0,none⟩) (l.length+1) cap')) W:=fun o h1 h2=>by
    have q1':=q1;simp at q1';simp[execOp,h1,resolve,invoke,builtin,h2,e12,q1']
   rw[hrun _ rfl rfl];have n1:=zbu (P:=prog) (M:=none) trivial hIT hn q6 q7 ⟨by rw[hσ1,hσ0];rfl,by rw[hσ1,hσ0];rfl⟩ (some 13) (x:= .top) (v:= .slice (some ⟨g,0,none⟩) (l.length+1) cap') (by rw[Rep];trivial);have d7:=hbe 7 (by kernel_rfl);have d6:=hbe 6 (by kernel_rfl);have d5:=hbe 5 (by kernel_rfl);refine hK _ _ (.inr ⟨zde _ _,⟨X',g,cap',pre,us,ws,post,e,fz,?_,hgκ,fun h=> ?_,fun _=>⟨q2,q5⟩,q3,by rw[q4];exact hcl,hul,hwl,w2,?_,?_,fun h=> ?_,?_,?_⟩⟩)
   ·rw[zba (by decide),d7];exact n1
   ·rw[zba (by decide),d6] at h;cases h
   ·exact zmn (by rw[hsz hn];decide)
   ·rw[zmn (by rw[hsz hn];decide)];exact q8
   ·rw[zba (by decide),d5] at h;cases h
   ·rw[zjw (by decide)];exact r11
   ·rw[zjw (by decide)];exact e10
  | 5,ho=>
   cases ho;refine⟨rfl,fun d a w next hd hbe hwt hI hK=> ?_⟩;rcases hI with⟨h4,_⟩|⟨h4,⟨X,g,cap,pre,us,ws,post,e,fz,hn,hg,h6,h6',hfz,hpre,hus,hws,hone,e13,r13,h5,e11,e10⟩⟩
   ·have:=hwt 4 (by kernel_rfl);rw[h4] at this;cases this
   have d6:=hbe 6 (by kernel_rfl);unfold Oper.wpIn;refine⟨fun f _=>hF.fn f,?_⟩;rw[Oper.semAt_plain F _ _ (fun c hc=>by cases hc)];have hrun: ∀o:Oper,o.op= .indexAddr 25 (.tmp 13) (.tmp 11)->(execOp a.eval o).run prog w= .ok (.value (.pointer (some ⟨g,l.length*8,none⟩))) w:=fun o h1=>by
    have hs:zfa prog 27=some 8:=by kernel_rfl
    have hu:prog.underlying 25=some (.slice 27):=by kernel_rfl
    have h2:(0:Int)<=(l.length:Int):=by omega
    have h3:(l.length:Int)<((l.length+1:Nat):Int):=by omega
    simp[execOp,h1,e13,e11,Instr.indexAt,asIntOf,run_underlying hu,zdq hs,h2,zfs]
   rw[hrun _ rfl];have n1:=zbu (P:=prog) (M:=none) trivial hIT hn (Ext.refl X) hn.inv ⟨rfl,rfl⟩ (some 14) (x:= .top) (v:= .pointer (some ⟨g,l.length*8,none⟩)) (by rw[Rep];trivial);refine hK _ _ (.inr ⟨by rw[zba (by decide)];exact h4,⟨X,g,cap,pre,us,ws,post,e,fz,by rw[zba (by decide)];exact n1,hg,fun h=> ?_,fun _=>h6' d6,hfz,hpre,hus,hws,hone,?_,?_,fun _=> ?_,?_,?_⟩⟩)
   ·rw[zba (by decide),d6] at h;cases h
   ·rw[zjw (by decide)];exact e13
   ·rw[zjw (by decide)];exact r13
   ·exact zmn (by rw[hsz hn];decide)
   ·rw[zjw (by decide)];exact e11
   ·rw[zjw (by decide)];exact e10
  | 6,ho=>
   cases ho;refine⟨rfl,fun d a w next hd hbe hwt hI hK=> ?_⟩;rcases hI with⟨h4,_⟩|⟨h4,⟨X,g,cap,pre,us,ws,post,e,fz,hn,hg,h6,h6',hfz,hpre,hus,hws,hone,e13,r13,h5,e11,e10⟩⟩
   ·have:=hwt 4 (by kernel_rfl);rw[h4] at this;cases this
   have e14:=h5 (hwt 5 (by kernel_rfl));obtain⟨hrow,hX⟩:=h6' hd;have hst:=run_storeCells_atF prog g (l.length*8) e fz ws 0 (pre++us++post).toArray w hrow (by omega) (by simp;omega) hone;have hlist:(pre++us++post).take (l.length*8)++ws++(pre++us++post).drop (l.length*8+ws.length)=pre++ws++post:=by
    have e1:(pre++us++post).take (l.length*8)=pre:=by rw[List.append_assoc, <-hpre,List.take_left]
    have e2:(pre++us++post).drop (l.length*8+ws.length)=post:=by rw[<-hpre,show pre.length+ws.length=(pre++us).length by simp;omega,List.drop_left]
    rw[e1,e2]
   simp only[Nat.add_zero] at hst;rw[hlist, <-hX] at hst;unfold Oper.wpIn;refine⟨fun f _=>hF.fn f,?_⟩;rw[Oper.semAt_plain F _ _ (fun c hc=>by cases hc)];have hrun: ∀o:Oper,o.op= .store 27 (.tmp 14) (.tmp 10)->(execOp a.eval o).run prog w= .ok .skip X.w:=fun o h1=>by
    have hs:zfa prog 27=some 8:=by kernel_rfl
    have hc:(Value.agg ws.toArray).cells.toList=ws:=rfl;have hcs:(Value.agg ws.toArray).cells.size=8:=by show ws.toArray.size=8;simpa using hws
    simp[execOp,h1,e14,e10,Instr.storeAt,Instr.sureAddr,storeVar,zdq hs,hcs,hc,hst]
   rw[hrun _ rfl];have n1:=zbu (P:=prog) (M:=none) trivial hIT hn (Ext.refl X) hn.inv ⟨rfl,rfl⟩ none (x:= .top) (v:=undef) (by rw[Rep];trivial);refine hK _ _ (.inr ⟨by rw[zba (by decide)];exact h4,⟨X,g,cap,pre,us,ws,post,e,fz,by rw[zba (by decide)];exact n1,hg,fun _=>rfl,fun h=> ?_,hfz,hpre,hus,hws,hone,e13,r13,fun _=>e14,e11,e10⟩⟩);rw[zde] at h;cases h
  | 7,ho=>
   cases ho;refine⟨rfl,fun d a w next hd hbe hwt hI hK=> ?_⟩;rcases hI with⟨h4,_⟩|⟨h4,⟨X,g,cap,pre,us,ws,post,e,fz,hn,hg,h6,h6',hfz,hpre,hus,hws,hone,e13,r13,h5,e11,e10⟩⟩
   ·have:=hwt 4 (by kernel_rfl);rw[h4] at this;cases this
   rw[hd] at hn;have hn:Now (ITP prog) none F B X0 (SA x) U1 X a:=hn;have r4:Rep (ITP prog) X (.ptr 5 0) (a.eval (.tmp 4)):=zcz hn.reps (.tmp 4);have hnl: ∃cs,zck (l++[x]).length (Enc.cellsL (l++[x]))= .list (l++[x]).length cs (.own 0):=⟨_,by unfold zck;rw[if_neg (by simp)]⟩;obtain⟨csn,hnl⟩:=hnl;have has:znx prog U1 25 (.ptr 5 0) (zck (l++[x]).length (Enc.cellsL (l++[x])))=some U2:=by
    rw[hσ1,hσ2,hnl];have hs:zfa prog 25=some 1:=by kernel_rfl
    simp[znx,zcn,hs,zif,cellsOf]
   obtain⟨b,row,kb,hrunb,hE,hI2⟩:=zwn hIT has r4 r13 hn.inv;have hbg:g≠b:=fun e=>hg (by rw[e];exact List.mem_of_getElem? kb);have hwb:w.heap[b]? =X.w.heap[b]? :=by
    cases d6:d 6 with
    |true=>rw[h6 d6]
    |false=>rw[(h6' d6).2,z0q _ _ _ _ hbg]
   unfold Oper.wpIn;refine⟨fun f _=>hF.fn f,?_⟩;rw[Oper.semAt_plain F _ _ (fun c hc=>by cases hc)];have hrun: ∀o:Oper,o.op= .store 25 (.tmp 4) (.tmp 13)->(execOp a.eval o).run prog w= .ok .skip (w.setRow b row):=fun o h1=>by
    simp[execOp,h1,hrunb w hwb]
   rw[hrun _ rfl];have n1:=zbu (P:=prog) (M:=none) trivial hIT hn hE hI2 ⟨by rw[hσ1,hσ2];rfl,by rw[hσ1,hσ2];rfl⟩ none (x:= .top) (v:=undef) (by rw[Rep];trivial);refine hK _ _ (.inr ⟨by rw[zba (by decide)];exact h4,⟨{X with w:=X.w.setRow b row},g,cap,pre,us,ws,post,e,fz,by rw[zde];exact n1,hg,fun h=> ?_,fun h=> ?_,hfz,hpre,hus,hws,hone,e13,zeq hIT hE _ _ r13,fun h=>h5 (by rwa[zba (by decide)] at h),e11,e10⟩⟩)
   ·rw[zba (by decide)] at h;show X.w.setRow b row=_;rw[h6 h]
   ·rw[zba (by decide)] at h;obtain⟨p1,p2⟩:=h6' h;refine⟨by rw[z0q _ _ _ _ (Ne.symm hbg)];exact p1,?_⟩;show X.w.setRow b row=_;rw[p2,z1n _ _ _ _ _ hbg]
  |n+8,ho=>simp at ho
 ·intro a w hI;rcases hI with⟨h4,_⟩|⟨_,⟨X,g,cap,pre,us,ws,post,e,fz,hn,_,h6,_⟩⟩
  ·cases h4
  ·refine⟨rfl,X,h6 rfl,?_⟩;have hn:Now (ITP prog) none F B X0 (SA x) U2 X a:=hn;subst hσ2;exact {hn with inv:=zqq hn.inv (s:=6) (t:=27) (cs:=Enc.cells x) rfl}
end Go.Ab
namespace Go.Ab
open Go Go.RowKit Go.Fwd
def sg1 (p:Nat)(U0 U1:St):(Nat->Bool)->St:=fun d=>bif d p then U1 else U0
def sg2 (p q:Nat)(U0 U1 U2 U3:St):(Nat->Bool)->St:=fun d=>bif d p then(bif d q then U3 else U1) else(bif d q then U2 else U0)
def pvO:Option (Nat×AV)->AV
 |some q=>q.2
 |none=> .raw undef
def psO:List (Option (Nat×AV))->List (Nat×AV)
 |some q::l=>q::psO l
 |none::l=>psO l
 |[]=>[]
def gOk (ops:Array Oper)(E:List AV)(o:Oper):Bool:=
 match o.guard with
 |none=>true
 |some (k,b)=>match zdo ops E k with|some (some c)=>c==b|_=>false
section
variable {IT:IterP} {P:Program} {W:Owed} {k0:Nat}
theorem z9f {id:Nat} {ops:Array Oper} {Q:AQ} {S E:List AV} {U:St} (sg:(Nat->Bool)->St)(U1:St)(ps:List (Option (Nat×AV)))(h:zjd IT P ops E sg 0 ops.toList (ps.map pvO))(hk:Q .normal E U1)
 (hE:zbg S (psO ps)=E:=by dsimp only[psO,zbg,List.foldl,List.set]) (hp:zgb ops.toList (ps.map pvO) S=E:=by kernel_rfl) (hb:(qjl ops S.length&&zvk ops)=true:=by kernel_rfl)
 (h0:sg (fun j=>Nat.ble ops.size j)=U:=by kernel_rfl) (h1:sg (fun _=>true)=U1:=by kernel_rfl):awp IT P W k0 (.region id ops true) Q S U:=
 .inr (.inr (.inr (.inl ⟨sg,_,E,hp,hb,h0,h,by rw[h1];exact hk⟩)))
variable {ops:Array Oper} {E:List AV} {sg:(Nat->Bool)->St} {i p q:Nat} {o:Oper} {l:List Oper} {a:AV} {vs:List AV} {U0 U1 U2 U3:St}
theorem fl_gOk (h:gOk ops E o=true):(match o.guard with|none=>True|some (k,b)=>zdo ops E k=some (some b)):=by
 unfold gOk at h;cases hg:o.guard with
 |none=>trivial
 | some p=>
  obtain⟨k,b⟩:=p;rw[hg] at h;simp only at h⊢;split at h
  ·rename_i c hc;simp at h;subst h;exact hc
  ·cases h
theorem f_w (hk:zjd IT P ops E sg (i+1) l vs)(h: ∀d,d i=false->zyt IT P o E (sg d) a (sg (zis d i)))(hg:gOk ops E o=true:=by exact rfl):zjd IT P ops E sg i (o::l) (a::vs):=
 ⟨.inl ⟨fl_gOk hg,h⟩,hk⟩
theorem f_o (hk:zjd IT P ops E sg (i+1) l vs)(h: ∀U,qop P (zbv E) U o=some a:=by exact fun _=>rfl)(hg:gOk ops E o=true:=by exact rfl)(hs: ∀d,sg (zis d i)=sg d:=by exact fun _=>rfl):zjd IT P ops E sg i (o::l) (a::vs):=
 f_w hk (fun d _=>by rw[hs];exact .inr (.inl (by unfold aop;rw[h]))) hg
theorem f_l (hk:zjd IT P ops E (sg1 p U0 U1) (i+1) l vs)(h0:qop P (zbv E) U0 o=some a:=by exact rfl)(h1:qop P (zbv E) U1 o=some a:=by exact rfl)(hg:gOk ops E o=true:=by exact rfl)(hs: ∀d,sg1 p U0 U1 (zis d i)=sg1 p U0 U1 d:=by exact fun _=>rfl):
 zjd IT P ops E (sg1 p U0 U1) i (o::l) (a::vs):=
 f_w hk (fun d _=>by
  rw[hs];unfold sg1;cases d p
  ·exact .inr (.inl (by unfold aop;rw[show(bif false then U1 else U0)=U0 from rfl,h0]))
  ·exact .inr (.inl (by unfold aop;rw[show(bif true then U1 else U0)=U1 from rfl,h1]))) hg
theorem f_s (hk:zjd IT P ops E (sg1 p U0 U1) (i+1) l vs)(h:aop P (zbv E) U0 o=some (.raw undef,U1):=by exact rfl)(hi:i=p:=by exact rfl)(hg:gOk ops E o=true:=by exact rfl):zjd IT P ops E (sg1 p U0 U1) i (o::l) (.raw undef::vs):=by
 subst hi;refine f_w hk (fun d hd=> ?_) hg;unfold sg1;rw[hd,zde];exact .inr (.inl h)
theorem f_l2 (hk:zjd IT P ops E (sg2 p q U0 U1 U2 U3) (i+1) l vs)(h0:qop P (zbv E) U0 o=some a:=by exact rfl)(h1:qop P (zbv E) U1 o=some a:=by exact rfl)(h2:qop P (zbv E) U2 o=some a:=by exact rfl)(h3:qop P (zbv E) U3 o=some a:=by exact rfl)(hg:gOk ops E o=true:=by exact rfl)(hs: ∀d,sg2 p q U0 U1 U2 U3 (zis d i)=sg2 p q U0 U1 U2 U3 d:=by exact fun _=>rfl):
 zjd IT P ops E (sg2 p q U0 U1 U2 U3) i (o::l) (a::vs):=
 f_w hk (fun d _=>by
  rw[hs];unfold sg2;cases d p<;>cases d q
  ·exact .inr (.inl (by unfold aop;rw[show(bif false then(bif false then U3 else U1) else(bif false then U2 else U0))=U0 from rfl,h0]))
  ·exact .inr (.inl (by unfold aop;rw[show(bif false then(bif true then U3 else U1) else(bif true then U2 else U0))=U2 from rfl,h2]))
  ·exact .inr (.inl (by unfold aop;rw[show(bif true then(bif false then U3 else U1) else(bif false then U2 else U0))=U1 from rfl,h1]))
  ·exact .inr (.inl (by unfold aop;rw[show(bif true then(bif true then U3 else U1) else(bif true then U2 else U0))=U3 from rfl,h3]))) hg
theorem f_sp (hk:zjd IT P ops E (sg2 p q U0 U1 U2 U3) (i+1) l vs)(h:aop P (zbv E) U0 o=some (.raw undef,U1):=by exact rfl)(h':aop P (zbv E) U2 o=some (.raw undef,U3):=by exact rfl)(hi:i=p:=by exact rfl)(hne:q≠p:=by decide)(hg:gOk ops E o=true:=by exact rfl):zjd IT P ops E (sg2 p q U0 U1 U2 U3) i (o::l) (.raw undef::vs):=by
 subst hi;refine f_w hk (fun d hd=> ?_) hg;unfold sg2;rw[hd,zde,zba hne];cases d q
 ·exact .inr (.inl h)
 ·exact .inr (.inl h')
theorem f_sq (hk:zjd IT P ops E (sg2 p q U0 U1 U2 U3) (i+1) l vs)(h:aop P (zbv E) U0 o=some (.raw undef,U2):=by exact rfl)(h':aop P (zbv E) U1 o=some (.raw undef,U3):=by exact rfl)(hi:i=q:=by exact rfl)(hne:p≠q:=by decide)(hg:gOk ops E o=true:=by exact rfl):zjd IT P ops E (sg2 p q U0 U1 U2 U3) i (o::l) (.raw undef::vs):=by
 subst hi;refine f_w hk (fun d hd=> ?_) hg;unfold sg2;rw[hd,zde,zba hne];cases d p
 ·exact .inr (.inl h)
 ·exact .inr (.inl h')
theorem f_e:zjd IT P ops E sg i [] []:=trivial
end
end Go.Ab
namespace Go.Ab
open Go Go.RowKit Go.Fwd Go.Proofs
def zqh  :Option BS:=
 (zbl (~~~(0#256)) (fun x1=>(some x1)))
theorem ent113:Ent prog 113:=enters_of Tryz.func113 (by kernel_rfl) rfl
theorem qax  (r:BS)(h:zqh  =some r):Pure (ITP prog) prog 113 [] (.agg (Enc.cells (r:BS))):=by
 obtain⟨d,hd⟩: ∃d,Tryz.f113.body=some d:=⟨_,rfl⟩;refine zfh mix Tryz.func113 hd ent113 ?_;cases hd;unfold zqh at h;refine zav (by dsimp only[zad,Tryz.f113,length_cons,length_nil,zero_add,Nat.reduceAdd,Nat.reduceSub,List.replicate,cons_append,nil_append]) (by dsimp only[St.empty]) ?_;refine zm (zb ?_);refine zdu (a:= .ptr 0 0) (U'':=⟨[(24,(Enc.cells (0#256:BS)))],[],[],0,false⟩) rfl rfl rfl rfl (by dsimp only[zi,List.set]) rfl ?_;refine zm (zb ?_);refine zay (a:= .agg (Enc.cells (0#256:BS))) rfl rfl rfl rfl (by dsimp only[zi,List.set]) ?_;obtain⟨x1,hx1,h⟩:=zu h;refine zbt (args':=[.agg (Enc.cells (0#256:BS))]) (r:= .agg (Enc.cells (x1:BS))) (by rw[<-hx1];exact(qac (0#256))) rfl rfl (zg (zbd (zp (Enc.clo _))) rfl) (za (zy _ _ (zp (Enc.clo _))) rfl) (by dsimp only[zi,List.set]) ?_;refine zdu (U'':=⟨[(24,(Enc.cells (x1:BS)))],[],[],0,false⟩) rfl rfl rfl (zcd (n:=4) rfl rfl rfl rfl rfl rfl rfl rfl (by decide)) (by dsimp only[zi,List.set]) rfl ?_;exact zdl (fun(r:BS)=>(.agg (Enc.cells (r:BS)):AV)) h (a:= .agg (Enc.cells (x1:BS))) rfl (zy _ _ (zp (Enc.clo _))) (zbd (zp (Enc.clo _)))
noncomputable def znq (fuel:Nat)(s:BS)(rows:List (List UInt8)):Option Nat:=
 (zbl (zjs s) (fun x1=>(zcf (β:=Int×Nat) (fun s1=>(bif (decide (s1.1<(length x1:Int))) then(chk (0<=s1.1/\ s1.1<(length x1:Int)) (zbl (ix x1 s1.1) (fun x2=>(chk (0<=x2.lo/\ x2.lo<256) (zbl (byT zat (zkx x2.lo)) (fun x3=>(zdg (τ:=(List UInt8)) (bif (decide ((IntKind.u8.wrap (x2.hi-x2.lo))>1)) then(chk (0<=x2.hi/\ x2.hi<256) (zbl (byT zat (zkx x2.hi)) (fun x4=>(chk (length ([45]:List UInt8)+length x4<=9223372036854775807) (chk (length x3+length (([45]:List UInt8)++x4)<=9223372036854775807) (some (inl ((x3++(([45]:List UInt8)++x4)))))))))) else(bif (x2.hi !=x2.lo) then(chk (0<=x2.hi/\ x2.hi<256) (zbl (byT zat (zkx x2.hi)) (fun x5=>(chk (length x3+length x5<=9223372036854775807) (some (inl ((x3++x5)))))))) else(some (inl (x3))))) (fun j1=>(z6n (rows[s1.2]? =some j1) (chk (-9223372036854775808<=(s1.1+1)/\ (s1.1+1)<9223372036854775808) (some (inl ((s1.1+1),(s1.2+1)))))))))))))) else(some (inr s1.2)))) fuel (0,0))))
theorem ent187:Ent prog 187:=enters_of Tryz.func187 (by kernel_rfl) rfl
theorem z9o (fuel:Nat)(s:BS)(rows:List (List UInt8))(h:znq fuel s rows=some rows.length)(c:Code)(hc:Tryz.f187.body=some c)(G:Gen)(hGr:G.rows=rows.map qea)(l:Nat)(hGl:G.l=l):awp (ITP prog) prog (some G) 0 c (z3n prog Tryz.f187 rows.length) (zad Tryz.f187 [.yld l,.iptr (Enc.cells (s:BS)),.iptr (Enc.cells (zat:BS))]) St.empty:=by
 cases hc;unfold znq at h;refine zav (by dsimp only[zad,Tryz.f187,length_cons,length_nil,zero_add,Nat.reduceAdd,Nat.reduceSub,List.replicate,cons_append,nil_append]) (by dsimp only[St.empty]) ?_;refine zm (zb ?_);refine zay (a:= .agg (Enc.cells (s:BS))) rfl rfl rfl rfl (by dsimp only[zi,List.set]) ?_;obtain⟨x1,hx1,h⟩:=zu h;refine zbt (args':=[.agg (Enc.cells (s:BS))]) (r:= .list (length (x1:List Sn)) (Enc.cellsL (x1:List Sn)) .none) (by rw[<-hx1];exact(k_spans s)) rfl rfl (zg (zbd (zp (Enc.clo _))) rfl) (za (zy _ _ (zp (Enc.clo _))) rfl) (by dsimp only[zi,List.set]) ?_;refine zay (a:= .raw (.int .i64 (length x1:Int))) rfl rfl rfl rfl (by dsimp only[zi,List.set]) ?_;refine zay (a:= .raw (.int .i64 0)) rfl rfl rfl rfl (by dsimp only[zi,List.set]) ?_;refine zac ?_;refine zec h [1,3,4,5,6,7,10,11,12,13,14,15,16,17,18,19,20,21,22,23,24,25,26,27,28,29,30,31,32,33,34,35,36,37,38,39,40,41,42,43,44,45,46,47,48] (fun s1=>[(10,.raw (.int .i64 s1.1))]) (fun s1=>⟨[],[],[],s1.2,false⟩) ?_ ?_
 .
  exact zhm [true,false,true,false,false,false,false,false,true,true,true,false,false,false,false,false,false,false,false,false,false,false,false,false,false,false,false,false,false,false,false,false,false,false,false,false,false,false,false,false,false,false,false,false,false,false,false,false,false] (by kernel_rfl) (by kernel_rfl)
 .
  intro s1 p1 h
  refine zav (by dsimp only[zbg,zcl,foldl,List.set]) rfl ?_
  refine zm (zb ?_)
  refine zay (a:= .raw (.bool (decide (s1.1<(length x1:Int))))) rfl rfl rfl rfl (by dsimp only[zi,List.set]) ?_
  refine zm ?_
  refine zah h (fun hc1 h=> ?_) (fun hc1 h=> ?_)
  .
   refine zet hc1 rfl ?_
   refine zm ?_
   refine zac ?_
   refine zm (zb ?_)
   obtain⟨g1,h⟩:=zt h
   obtain⟨x2,hx2,h⟩:=zu h
   refine zay (a:= .iptr (Enc.cells x2++Enc.cellsL (List.drop (Int.toNat s1.1+1) x1))) rfl rfl rfl (zbf (by rw[<-hx2];exact(q_idx (α:=Sn) (l:=x1) g1 rfl rfl rfl rfl rfl))) (by dsimp only[zi,List.set]) ?_
   refine zay (a:= .agg (Enc.cells (x2:Sn))) rfl rfl rfl rfl (by dsimp only[zi,List.set]) ?_
   refine zdu (a:= .ptr 0 0) (U'':=⟨[(227,(Enc.cells ((Sn.mk 0 0):Sn)))],[],[],s1.2,false⟩) rfl rfl rfl rfl (by dsimp only[zi,List.set]) rfl ?_
   refine zdu (U'':=⟨[(227,(Enc.cells (x2:Sn)))],[],[],s1.2,false⟩) rfl rfl rfl (zcd (n:=2) rfl rfl rfl rfl rfl rfl rfl rfl (by decide)) (by dsimp only[zi,List.set]) rfl ?_
   refine zm (zb ?_)
   refine zay (a:= .ptr 0 0) rfl rfl rfl rfl (by dsimp only[zi,List.set]) ?_
   refine zay (a:= .raw (.int .u8 x2.lo)) rfl rfl rfl rfl (by dsimp only[zi,List.set]) ?_
   refine zay (a:= .agg (Enc.cells (zat:BS))) rfl rfl rfl rfl (by dsimp only[zi,List.set]) ?_
   obtain⟨g2,h⟩:=zt h
   obtain⟨x3,hx3,h⟩:=zu h
   refine zbt (args':=[.raw (.int .u8 x2.lo),.agg (Enc.cells (zat:BS))]) (r:= .raw (.string (bs x3))) (by rw[<-hx3];exact(z1r g2)) rfl rfl (zg rfl (zg (zbd (zp (Enc.clo _))) rfl)) (za rfl (za (zy _ _ (zp (Enc.clo _))) rfl)) (by dsimp only[zi,List.set]) ?_
   refine zz ?_
   refine zaz h [5,6,11,12,13,14,15,16,17,18,19,20,21,22,23,24,25,26,27,28,29,30,31,32,33,34,35,36,37,38,39,40,41,42,43] (fun j1=>[(6,.raw (.string (bs j1)))]) (fun j1=>⟨[(227,(Enc.cells (x2:Sn)))],[],[],s1.2,false⟩) ?_ ?_
   .
    intro or1 h hr1
    refine zac ?_
    refine zm (zb ?_)
    refine zay (a:= .ptr 0 1) rfl rfl rfl rfl (by dsimp only[zi,List.set]) ?_
    refine zay (a:= .raw (.int .u8 x2.hi)) rfl rfl rfl rfl (by dsimp only[zi,List.set]) ?_
    refine zay (a:= .ptr 0 0) rfl rfl rfl rfl (by dsimp only[zi,List.set]) ?_
    refine zay (a:= .raw (.int .u8 x2.lo)) rfl rfl rfl rfl (by dsimp only[zi,List.set]) ?_
    refine zay (a:= .raw (.int .u8 (IntKind.u8.wrap (x2.hi-x2.lo)))) rfl rfl rfl rfl (by dsimp only[zi,List.set]) ?_
    refine zay (a:= .raw (.bool (decide ((IntKind.u8.wrap (x2.hi-x2.lo))>1)))) rfl rfl rfl rfl (by dsimp only[zi,List.set]) ?_
    refine zz ?_
    refine zah h (fun hc2 h=> ?_) (fun hc2 h=> ?_)
    .
     refine zet hc2 rfl ?_
     refine zb (k0:=0) (id:=5) ?_
     refine zz ?_
     refine zay (a:= .ptr 0 1) rfl rfl rfl rfl (by dsimp only[zi,List.set]) ?_
     refine zay (a:= .raw (.int .u8 x2.hi)) rfl rfl rfl rfl (by dsimp only[zi,List.set]) ?_
     refine zay (a:= .agg (Enc.cells (zat:BS))) rfl rfl rfl rfl (by dsimp only[zi,List.set]) ?_
     obtain⟨g3,h⟩:=zt h
     obtain⟨x4,hx4,h⟩:=zu h
     refine zbt (args':=[.raw (.int .u8 x2.hi),.agg (Enc.cells (zat:BS))]) (r:= .raw (.string (bs x4))) (by rw[<-hx4];exact(z1r g3)) rfl rfl (zg rfl (zg (zbd (zp (Enc.clo _))) rfl)) (za rfl (za (zy _ _ (zp (Enc.clo _))) rfl)) (by dsimp only[zi,List.set]) ?_
     obtain⟨g4,h⟩:=zt h
     refine zay (a:= .raw (.string (bs (([45]:List UInt8)++x4)))) rfl rfl rfl (zbf (zlk g4 rfl rfl rfl)) (by dsimp only[zi,List.set]) ?_
     obtain⟨g5,h⟩:=zt h
     refine zay (a:= .raw (.string (bs (x3++(([45]:List UInt8)++x4))))) rfl rfl rfl (zbf (zlk g5 rfl rfl rfl)) (by dsimp only[zi,List.set]) ?_
     refine zz ?_
     refine zc (o:=or1) ((x3++(([45]:List UInt8)++x4))) h ?_
     exact zhm [true,true,true,true,true,false,true,true,true,true,true,false,false,false,false,false,false,false,false,false,false,false,false,false,false,false,false,false,false,false,false,false,false,false,false,false,false,false,false,false,false,false,false,false,true,true,true,true,true] (by kernel_rfl) (by kernel_rfl)
    .
     refine zev hc2 rfl ?_
     refine zm (zb ?_)
     refine zay (a:= .ptr 0 1) rfl rfl rfl rfl (by dsimp only[zi,List.set]) ?_
     refine zay (a:= .raw (.int .u8 x2.hi)) rfl rfl rfl rfl (by dsimp only[zi,List.set]) ?_
     refine zay (a:= .ptr 0 0) rfl rfl rfl rfl (by dsimp only[zi,List.set]) ?_
     refine zay (a:= .raw (.int .u8 x2.lo)) rfl rfl rfl rfl (by dsimp only[zi,List.set]) ?_
     refine zay (a:= .raw (.bool (x2.hi !=x2.lo))) rfl rfl rfl rfl (by dsimp only[zi,List.set]) ?_
     refine zz ?_
     refine zah h (fun hc3 h=> ?_) (fun hc3 h=> ?_)
     .
      refine zet hc3 rfl ?_
      refine zb (k0:=0) (id:=7) ?_
      refine zz ?_
      refine zay (a:= .ptr 0 1) rfl rfl rfl rfl (by dsimp only[zi,List.set]) ?_
      refine zay (a:= .raw (.int .u8 x2.hi)) rfl rfl rfl rfl (by dsimp only[zi,List.set]) ?_
      refine zay (a:= .agg (Enc.cells (zat:BS))) rfl rfl rfl rfl (by dsimp only[zi,List.set]) ?_
      obtain⟨g6,h⟩:=zt h
      obtain⟨x5,hx5,h⟩:=zu h
      refine zbt (args':=[.raw (.int .u8 x2.hi),.agg (Enc.cells (zat:BS))]) (r:= .raw (.string (bs x5))) (by rw[<-hx5];exact(z1r g6)) rfl rfl (zg rfl (zg (zbd (zp (Enc.clo _))) rfl)) (za rfl (za (zy _ _ (zp (Enc.clo _))) rfl)) (by dsimp only[zi,List.set]) ?_
      obtain⟨g7,h⟩:=zt h
      refine zay (a:= .raw (.string (bs (x3++x5)))) rfl rfl rfl (zbf (zlk g7 rfl rfl rfl)) (by dsimp only[zi,List.set]) ?_
      refine zz ?_
      refine zc (o:=or1) ((x3++x5)) h ?_
      exact zhm [true,true,true,true,true,false,true,true,true,true,true,false,false,false,false,false,false,false,false,false,false,false,false,false,false,false,false,false,false,false,false,false,false,false,false,false,false,false,false,false,false,false,false,false,true,true,true,true,true] (by kernel_rfl) (by kernel_rfl)
     .
      refine zev hc3 rfl ?_
      refine zc (o:=or1) (x3) h ?_
      exact zhm [true,true,true,true,true,false,true,true,true,true,true,false,false,false,false,false,false,false,false,false,false,false,false,false,false,false,false,false,false,false,false,false,false,false,false,false,false,false,false,false,false,false,false,false,true,true,true,true,true] (by kernel_rfl) (by kernel_rfl)
   .
    intro j1 h
    refine zav (by dsimp only[zbg,zcl,foldl,List.set]) rfl ?_
    refine zm (zb ?_)
    iterate 2 refine zz ?_
    obtain⟨g8,h⟩:=zyl h
    refine znt (row:=qea) (x:=j1) (U1:=⟨[(227,(Enc.cells (x2:Sn)))],[],[],(s1.2+1),false⟩) (U2:=⟨[(227,(Enc.cells (x2:Sn)))],[],[],s1.2,true⟩) g8 (zg rfl rfl) (za rfl rfl) (z3y rfl) rfl hGl hGr rfl rfl rfl rfl (by dsimp only[zi,List.set]) (by dsimp only[zi,List.set]) rfl rfl ?_ ?_
    .
     refine zay (a:= .raw (.bool false)) rfl rfl rfl rfl (by dsimp only[zi,List.set]) ?_
     refine zbz rfl ?_
     refine zb (k0:=0) (id:=9) ?_
     obtain⟨g9,h⟩:=zt h
     refine zay (a:= .raw (.int .i64 (s1.1+1))) rfl rfl rfl (zbf (z2r rfl rfl rfl rfl g9.1 g9.2)) (by dsimp only[zi,List.set]) ?_
     refine zz ?_
     refine zcj (p:=p1) ((s1.1+1),(s1.2+1)) h ?_
     exact zfx [true,false,true,false,false,false,false,false,true,true,true,false,false,false,false,false,false,false,false,false,false,false,false,false,false,false,false,false,false,false,false,false,false,false,false,false,false,false,false,false,false,false,false,false,false,false,false,false,false] 0 (by kernel_rfl) (Nat.le_of_ble_eq_true rfl) (zcm rfl) (by dsimp only[zbg,zcl,foldl,List.set];exact(za rfl (za rfl (za rfl (za rfl (za rfl (za rfl (za rfl (za rfl (za (zbw (Enc.cloL _)) (za rfl (za rfl (za rfl (za rfl (za rfl (za rfl (za rfl (za rfl (za rfl (za rfl (za rfl (za rfl (za rfl (za rfl (za rfl (za rfl (za rfl (za rfl (za rfl (za rfl (za rfl (za rfl (za rfl (za rfl (za rfl (za rfl (za rfl (za rfl (za rfl (za rfl (za rfl (za rfl (za rfl (za rfl (za rfl (za rfl (za rfl (za rfl (za rfl (za rfl rfl)))))))))))))))))))))))))))))))))))))))))))))))))) (by kernel_rfl)
    .
     refine zay (a:= .raw (.bool true)) rfl rfl rfl rfl (by dsimp only[zi,List.set]) ?_
     refine zdy rfl ?_
     refine .inr ?_
     exact⟨⟨.tup [],rfl⟩,.inl rfl⟩
  .
   refine zev hc1 rfl ?_
   refine zak h (fun h=> ?_)
   exact⟨⟨.tup [],rfl⟩,.inr (Option.some.inj h)⟩
theorem ent160:Ent prog 160:=enters_of Tryz.func160 (by kernel_rfl) rfl
theorem qga (fuel:Nat)(s:BS)(rows:List (List UInt8))(h:znq fuel s rows=some rows.length):Pure (ITP prog) prog 160 [.agg (Enc.cells (s:BS))] (.iter (rows.map qea)):=by
 obtain⟨d,hd⟩: ∃d,Tryz.f160.body=some d:=⟨_,rfl⟩;refine zfh mix Tryz.func160 hd ent160 ?_;cases hd;refine zav (by dsimp only[zad,Tryz.f160,length_cons,length_nil,zero_add,Nat.reduceAdd,Nat.reduceSub,List.replicate,cons_append,nil_append]) (by dsimp only[St.empty]) ?_;refine zm (zb ?_);refine zdu (a:= .ptr 0 0) (U'':=⟨[(24,(Enc.cells (s:BS)))],[],[],0,false⟩) rfl rfl rfl rfl (by dsimp only[zi,List.set]) rfl ?_;refine zay (a:= .raw Value.nilFunc) rfl rfl rfl rfl (by dsimp only[zi,List.set]) ?_;refine zm (zb ?_);refine zbt (args':=[]) (r:= .agg (Enc.cells (zat:BS))) qbv rfl rfl rfl rfl (by dsimp only[zi,List.set]) ?_;refine zdu (a:= .ptr 1 0) (U'':=⟨[(24,(Enc.cells (s:BS))),(24,(Enc.cells (0#256:BS)))],[],[],0,false⟩) rfl rfl rfl rfl (by dsimp only[zi,List.set]) rfl ?_;refine zdu (U'':=⟨[(24,(Enc.cells (s:BS))),(24,(Enc.cells (zat:BS)))],[],[],0,false⟩) rfl rfl rfl (zcd (n:=4) rfl rfl rfl rfl rfl rfl rfl rfl (by decide)) (by dsimp only[zi,List.set]) rfl ?_;refine zm (zb ?_);refine zay (a:= .clos 187 [.ptr 0 0,.ptr 1 0]) rfl rfl rfl rfl (by dsimp only[zi,List.set]) ?_;refine zz ?_;exact zqy 2 (row:=qea) (caps:=[.iptr (Enc.cells (s:BS)),.iptr (Enc.cells (zat:BS))]) mix rfl (congr (congrArg (fun z w=>AV.clos 187 [.iptr z,.iptr w]) (zcv _ _ (Enc.clo _))) (zcv _ _ (Enc.clo _))) Tryz.func187 rfl ent187 (by first|rfl|simp[cloL,clo,Enc.clo,zeu,Enc.cloL]) (rowS_ne _) (fun G hGr=>z9o fuel s rows h _ rfl G hGr _ rfl)
theorem gts_one (c:Nat):gts [(c,none)]=byT zat (UInt8.ofNat c):=by simp[gts,gtI]
theorem zqr (c:Nat):zkx (c:Int)=UInt8.ofNat c:=by unfold zkx;simp
theorem qfe {a b:Nat} (h:a<=b)(hb:b<256):IntKind.u8.wrap ((b:Int)-(a:Int))=((b-a:Nat):Int):=by
 have:((List.range 256).all fun c=>decide (IntKind.u8.wrap (c:Int)=(c:Int)))=true:=by decide+kernel
 have:=List.all_eq_true.1 this (b-a) (List.mem_range.2 (by omega));rw[decide_eq_true_eq] at this;rw[show(b:Int)-(a:Int)=((b-a:Nat):Int) by omega];exact this
theorem qbu (s:BS):znq 1100 s (zls s)=some (zls s).length:=by
 unfold znq;refine zaj fun x1 hx1=> ?_;subst hx1;have hlen:(zjs s).length=(zfn s).length:=by simp[zjs]
 have hle:(zfn s).length<=256:=by
  have h:=z0r s;have h1:=zmv s;rw[<-h.sum] at h1;have h2: ∀l:List Spn,(∀x∈l,x.1<=x.2)->l.length<=zje l:=by
   intro l;induction l with
   |nil=>intro _;simp[zje]
   | cons x l ih=>
    intro hx;have:=hx x (by simp);have:=ih fun y hy=>hx y (by simp[hy]);rw[zje,length_cons];omega
  have:=h2 (zfn s) fun x hx=>(h.ord x hx).1;omega
 refine zof (zfn s).length (fun i=>((i:Int),i)) rfl (fun i hi=> ?_) ?_ (by omega)
 ·have hget:(zjs s)[i]? =some ⟨((zfn s)[i].1:Int),((zfn s)[i].2:Int)⟩:=by simp[zjs,hi]
  have hord:=(z0r s).ord (zfn s)[i] (List.getElem_mem hi);have hix:ix (zjs s) (i:Int)=⟨((zfn s)[i].1:Int),((zfn s)[i].2:Int)⟩:=by
   unfold ix;rw[Int.toNat_natCast,List.getD_eq_getElem?_getD,hget];rfl
  have hrow:(zls s)[i]? =some (gts (z1i (zfn s)[i])):=by simp[zls,hi]
  obtain⟨x,hx⟩: ∃x,x=(zfn s)[i]:=⟨_,rfl⟩;rw[<-hx] at hix hrow hord;obtain⟨lo,hi'⟩:=x;simp only at hix hord;have hb1:=z4m lo;have hb2:=z4m hi';simp only;rw[decide_eq_true (show(i:Int)<((zjs s).length:Int) by omega),cond_true];refine zal (by omega) (zaj fun x2 hx2=> ?_);rw[hix] at hx2;subst hx2;simp only;refine zal (by omega) (zaj fun x3 hx3=> ?_);rw[zqr] at hx3;subst hx3;refine zbj (gts (z1i (lo,hi'))) ?_ ?_
  ·unfold z1i;simp only;rw[qfe hord.1 hord.2];by_cases h1:hi'-lo>1
   ·rw[decide_eq_true (show((hi'-lo:Nat):Int)>1 by omega),cond_true,if_pos h1];refine zal (by omega) (zaj fun x4 hx4=> ?_);rw[zqr] at hx4;subst hx4;refine zal (by simp;omega) (zal (by simp;omega) ?_);simp[gts,gtI]
   ·rw[decide_eq_false (show ¬((hi'-lo:Nat):Int)>1 by omega),cond_false,if_neg h1];by_cases h2:hi'=lo
    ·rw[h2,show(((lo:Int)) !=(lo:Int))=false by simp,cond_false,if_neg (by simp),gts_one]
    ·rw[show(((hi':Int)) !=(lo:Int))=true by simp;omega,cond_true,if_pos h2];refine zal (by omega) (zaj fun x5 hx5=> ?_);rw[zqr] at hx5;subst hx5;refine zal (by omega) ?_;simp[gts,gtI]
  ·refine z5g hrow (zal (by omega) ?_);simp
 ·simp only;rw[decide_eq_false (show ¬((zfn s).length:Int)<((zjs s).length:Int) by omega),cond_false];simp[zls]
theorem k_items (s:BS):Pure (ITP prog) prog 160 [.agg (Enc.cells s)] (.iter (List.map qea (zls s))):=qga 1100 s (zls s) (qbu s)
end Go.Ab
namespace Go.Ab
open Go Go.RowKit Go.Fwd Go.Proofs
def z4b (fuel:Nat)(n:Nat)(t:Tr):Option Int:=
 (zdg (τ:=Int) (bif (((t.k:Nat):Int)==2) then(some (inl (1))) else(some (inl (0)))) (fun j1=>(zdg (τ:=Int) (zcf (β:=Int×Int) (fun s1=>(bif (decide (s1.2<(length t.l:Int))) then(chk (0<=s1.2/\ s1.2<(length t.l:Int)) (zbl (ix t.l s1.2) (fun x1=>(chk (((pre x1).length<n)) (zbl (z2w x1) (fun x2=>(chk (-9223372036854775808<=(s1.1+x2)/\ (s1.1+x2)<9223372036854775808) (chk (-9223372036854775808<=(s1.2+1)/\ (s1.2+1)<9223372036854775808) (some (inl ((s1.1+x2),(s1.2+1)))))))))))) else(some (inr (inl (s1.1)))))) fuel (j1,0)) (fun j2=>(zdg (τ:=Int) (bif (((t.k:Nat):Int)==5) then(zdg (τ:=Int) (bif (t.mx==(-1)) then(some (inl ((max (max t.mn 0) 1)))) else(some (inl ((max (max t.mn 0) t.mx))))) (fun j4=>(chk (-9223372036854775808<=(j2*(min j4 10001))/\ (j2*(min j4 10001))<9223372036854775808) (some (inl ((j2*(min j4 10001)))))))) else(some (inl (j2)))) (fun j3=>(some (min j3 10001))))))))
theorem ent147:Ent prog 147:=enters_of Tryz.func147 (by kernel_rfl) rfl
theorem posn_sh (fuel:Nat)(n:Nat)(t:Tr)(r:Int)(ih: ∀x:Tr,((pre x).length<n)->Pure (ITP prog) prog 147 [.A x] (.raw (.int .i64 (z2w x))))(h:z4b fuel n t=some r):Pure (ITP prog) prog 147 [.A (t:Tr)] (.raw (.int .i64 r)):=by
 unfold z4b at h;refine zbq 43 mix Tryz.func147 ent147 ?_;refine zm (zb ?_);refine zdz (Enc.cells (t:Tr)) ?_;refine w_o (a:= .i 0) ?_;refine zx [.v (.i 0)] ?_;refine zaz h (bz 0 44 17592186044413) (fun j1=>[(3,.i j1)]) (fun j1=>(.B [(27,(Enc.cells (t:Tr)))])) ?_ ?_;intro or1 h hr1;refine zx [.v (.ptr 0 0),.v (.u ((t.k:Nat):Int)),.v (.b (((t.k:Nat):Int)==2))] ?_;refine zch h (fun hc1 h=> ?_) (fun hc1 h=> ?_);refine zb (k0:=0) (id:=3) ?_;refine w_o (a:= .i 1) ?_;refine zc (o:=or1) (1) h ?_;exact zbp (bl 44 10);refine zc (o:=or1) (0) h ?_;exact zbp (bl 44 10);intro j1 h;refine zeo ?_;refine zaz h (bz 0 23 8386600) (fun j2=>[(3,.i j2)]) (fun j2=>(.B [(27,(Enc.cells (t:Tr)))])) ?_ ?_;intro or2 h hr2;refine zx [.v (.ptr 0 7),.v (.L (t.l:List Tr)),.v (.i (length t.l:Int)),.v (.i 0)] ?_;refine zac ?_;refine zec h (bz 0 23 8374312) (fun s1=>[(3,.i s1.1),(14,.i s1.2)]) (fun s1=>(.B [(27,(Enc.cells (t:Tr)))])) ?_ ?_;exact zbp (bl 44 17592177686495);intro s1 p1 h;refine zeo ?_;refine zx [.v (.b (decide (s1.2<(length t.l:Int))))] ?_;refine zm ?_;refine zch h (fun hc2 h=> ?_) (fun hc2 h=> ?_);refine zm ?_;refine zac ?_;refine zm (zb ?_);obtain⟨g1,h⟩:=zt h;obtain⟨x1,hx1,h⟩:=zu h;refine qgf hx1 g1 ?_;refine w_o (a:= .A (x1:Tr)) ?_;refine zdz zN ?_;refine zft 8 (Enc.cells (x1:Tr)) ?_;refine zb (k0:=0) (id:=7) ?_;refine w_r [.m _,.v (.A (x1:Tr))] ?_;obtain⟨g2,h⟩:=zt h;obtain⟨x2,hx2,h⟩:=zu h;refine zdd (args':=[.A (x1:Tr)]) (r:= .i x2) (by rw[<-hx2];exact(ih x1 g2)) ?_;obtain⟨g3,h⟩:=zt h;refine zjv g3 ?_;refine zz ?_;refine zb (k0:=0) (id:=8) ?_;obtain⟨g4,h⟩:=zt h;refine zjv g4 ?_;refine zz ?_;refine zcj (p:=p1) ((s1.1+x2),(s1.2+1)) h ?_;exact zfx (bl 44 17592177686495) 1 (by kernel_rfl) (Nat.le_of_ble_eq_true rfl) (zcm (zan (zaf _ _ (Enc.clo _)) rfl)) (by dsimp only[zbg,zcl,foldl,List.set,bz,bzc,Nat.reduceMod,Nat.reduceDiv,Nat.reduceBEq,Nat.reduceAdd];exact(za rfl (za (by decide) (za rfl (za rfl (za rfl (za rfl (za rfl (za rfl (za rfl (za rfl (za rfl (za rfl (za (zbw (Enc.cloL _)) (by kernel_rfl))))))))))))))) (by kernel_rfl);refine zak h (fun h=> ?_);refine zc (o:=or2) (s1.1) h ?_;exact zbp (bl 44 17592177657823);intro j2 h;refine zeo ?_;refine zaz h (bz 0 42 4398038122698) (fun j3=>[(3,.i j3)]) (fun j3=>(.B [(27,(Enc.cells (t:Tr)))])) ?_ ?_;intro or3 h hr3;refine zx [.v (.ptr 0 0),.v (.u ((t.k:Nat):Int)),.v (.b (((t.k:Nat):Int)==5))] ?_;refine zch h (fun hc3 h=> ?_) (fun hc3 h=> ?_);refine zx [.v (.ptr 0 5),.v (.i t.mn)] ?_;refine w_o (a:= .i (max t.mn 0)) (h:=zbf (q_max rfl rfl rfl rfl rfl)) ?_;refine zz ?_;refine zx [.m _,.v (.ptr 0 6),.v (.i t.mx)] ?_;refine w_o (a:= .i (max (max t.mn 0) t.mx)) (h:=zbf (q_max rfl rfl rfl rfl rfl)) ?_;refine zz ?_;refine zaz h (bz 0 38 274869518530) (fun j4=>[(7,.i j4)]) (fun j4=>(.B [(27,(Enc.cells (t:Tr)))])) ?_ ?_;intro or4 h hr4;refine zx [.v (.ptr 0 6),.v (.i t.mx),.v (.b (t.mx==(-1)))] ?_;refine zch h (fun hc4 h=> ?_) (fun hc4 h=> ?_);refine zb (k0:=0) (id:=13) ?_;refine zz ?_;refine w_o (a:= .i (max (max t.mn 0) 1)) (h:=zbf (q_max rfl rfl rfl rfl rfl)) ?_;refine zz ?_;refine zc (o:=or4) ((max (max t.mn 0) 1)) h ?_;exact zbp (bl 44 17317316526013);refine zc (o:=or4) ((max (max t.mn 0) t.mx)) h ?_;exact zbp (bl 44 17317316526013);intro j4 h;refine zeo ?_;refine zb (k0:=0) (id:=14) ?_;refine w_r [.m _,.m _] ?_;refine w_o (a:= .i (min j4 10001)) (h:=zbf (q_min rfl rfl rfl rfl rfl)) ?_;obtain⟨g5,h⟩:=zt h;refine w_o (a:= .i (j2*(min j4 10001))) (h:=zbf (q_mul rfl rfl rfl rfl g5.1 g5.2)) ?_;refine zz ?_;refine zc (o:=or3) ((j2*(min j4 10001))) h ?_;exact zbp (bl 44 13194147921725);refine zc (o:=or3) (j2) h ?_;exact zbp (bl 44 13194147921725);intro j3 h;refine zeo ?_;refine zx [.m _] ?_;refine w_o (a:= .i (min j3 10001)) (h:=zbf (q_min rfl rfl rfl rfl rfl)) ?_;refine zz ?_;exact zjj h
def zwl (t:Tr):Option Int:=
 (chk ((pre t).length<2^61) (zbl (zgd t) (fun x1=>(bif (!x1) then(some 10001) else(zdg (τ:=Int) (chk ((pre t).length<2^61) (zbl (pre t) (fun x2=>(zdg (zcu (β:=Int) (fun s1 w1=>(chk (-9223372036854775808<=(s1+1)/\ (s1+1)<9223372036854775808) (some (inl ((s1+1)))))) x2 (0)) (fun s1=>(some (inl (s1)))))))) (fun j1=>(some j1)))))))
theorem ent100:Ent prog 100:=enters_of Tryz.func100 (by kernel_rfl) rfl
theorem qbj (t:Tr)(r:Int)(h:zwl t=some r):Pure (ITP prog) prog 100 [.A (t:Tr)] (.raw (.int .i64 r)):=by
 unfold zwl at h;refine zbq 12 mix Tryz.func100 ent100 ?_;refine zm (zb ?_);refine zdz (Enc.cells (t:Tr)) ?_;refine w_o (a:= .i 0) ?_;refine zm ?_;refine zx [.v (.A (t:Tr))] ?_;obtain⟨g1,h⟩:=zt h;obtain⟨x1,hx1,h⟩:=zu h;refine zdd (args':=[.A (t:Tr)]) (r:= .b x1) (by rw[<-hx1];exact(zvb t g1)) ?_;refine w_o (a:= .b (!x1)) ?_;refine zch h (fun hc1 h=> ?_) (fun hc1 h=> ?_);refine zx [.v (.i 10001)] ?_;exact zjj h;refine zm (zb ?_);refine zdz [.i 0] ?_;refine zng 1 (.B [(27,(Enc.cells (t:Tr))),(3,[.i 0])]) ?_;refine zaz h (bz 0 13 8183) (fun j1=>[]) (fun j1=>(.B [(27,(Enc.cells (t:Tr))),(3,[.i j1])])) ?_ ?_;intro or1 h hr1;refine zx [.v (.A (t:Tr))] ?_;obtain⟨g2,h⟩:=zt h;obtain⟨x2,hx2,h⟩:=zu h;refine zdd (args':=[.A (t:Tr)]) (r:= .iter (List.map zmc x2)) (by rw[<-hx2];exact(zvs t g2)) ?_;refine zac ?_;refine zhw h zmc (fun s1=>(.B [(27,(Enc.cells (t:Tr))),(3,[.i s1])])) rfl (fun _=>rfl) rfl rfl ?_ ?_;intro s1 w1 p1 h;refine zav (by dsimp only[zix,List.zip,List.zipWith,foldl,List.set,Array.toList,zmc]) rfl ?_;refine zac ?_;refine zb (k0:=0) (id:=5) ?_;refine w_o (a:= .i s1) ?_;obtain⟨g3,h⟩:=zt h;refine zjv g3 ?_;refine zft 1 [.i (s1+1)] ?_;exact zeh (p:=p1) ((s1+1)) h (zcm (zan (zaf _ _ (Enc.clo _)) (zan (by kernel_rfl) rfl))) (by kernel_rfl);intro s1 h;refine zc (o:=or1) (s1) h ?_;exact zbp (bl 13 8);intro j1 h;refine zeo ?_;refine zx [.v (.i j1),.m _] ?_;exact zjj h
def zov (t:Tr):Option Int:=
 (chk ((pre t).length<2^61) (zbl (zgd t) (fun x1=>(bif (!x1) then(some 10001) else(zdg (τ:=Int) (chk ((pre t).length<2^61) (zbl (pre t) (fun x2=>(zdg (zcu (β:=Int) (fun s1 w1=>(bif (((w1.k:Nat):Int)==6) then(chk (-9223372036854775808<=(s1+1)/\ (s1+1)<9223372036854775808) (some (inl ((s1+1))))) else(some (inl (s1))))) x2 (0)) (fun s1=>(some (inl (s1)))))))) (fun j1=>(some j1)))))))
theorem ent102:Ent prog 102:=enters_of Tryz.func102 (by kernel_rfl) rfl
theorem z2q (t:Tr)(r:Int)(h:zov t=some r):Pure (ITP prog) prog 102 [.A (t:Tr)] (.raw (.int .i64 r)):=by
 unfold zov at h;refine zbq 16 mix Tryz.func102 ent102 ?_;refine zm (zb ?_);refine zdz (Enc.cells (t:Tr)) ?_;refine w_o (a:= .i 0) ?_;refine zm ?_;refine zx [.v (.A (t:Tr))] ?_;obtain⟨g1,h⟩:=zt h;obtain⟨x1,hx1,h⟩:=zu h;refine zdd (args':=[.A (t:Tr)]) (r:= .b x1) (by rw[<-hx1];exact(zvb t g1)) ?_;refine w_o (a:= .b (!x1)) ?_;refine zch h (fun hc1 h=> ?_) (fun hc1 h=> ?_);refine zx [.v (.i 10001)] ?_;exact zjj h;refine zm (zb ?_);refine zdz [.i 0] ?_;refine zng 1 (.B [(27,(Enc.cells (t:Tr))),(3,[.i 0])]) ?_;refine zaz h (bz 0 17 131063) (fun j1=>[]) (fun j1=>(.B [(27,(Enc.cells (t:Tr))),(3,[.i j1])])) ?_ ?_;intro or1 h hr1;refine zx [.v (.A (t:Tr))] ?_;obtain⟨g2,h⟩:=zt h;obtain⟨x2,hx2,h⟩:=zu h;refine zdd (args':=[.A (t:Tr)]) (r:= .iter (List.map zmc x2)) (by rw[<-hx2];exact(zvs t g2)) ?_;refine zac ?_;refine zhw h zmc (fun s1=>(.B [(27,(Enc.cells (t:Tr))),(3,[.i s1])])) rfl (fun _=>rfl) rfl rfl ?_ ?_;intro s1 w1 p1 h;refine zav (by dsimp only[zix,List.zip,List.zipWith,foldl,List.set,Array.toList,zmc]) rfl ?_;refine zb (k0:=0) (id:=5) ?_;refine zdz zN ?_;refine zft 8 (Enc.cells (w1:Tr)) ?_;refine zac ?_;refine zx [.v (.ptr 2 0),.v (.u ((w1.k:Nat):Int)),.v (.b (((w1.k:Nat):Int)==6))] ?_;refine zch h (fun hc2 h=> ?_) (fun hc2 h=> ?_);refine zb (k0:=0) (id:=7) ?_;refine w_o (a:= .i s1) ?_;obtain⟨g3,h⟩:=zt h;refine zjv g3 ?_;refine zft 1 [.i (s1+1)] ?_;exact zeh (p:=p1) ((s1+1)) h (zcm (zan (zaf _ _ (Enc.clo _)) (zan (by kernel_rfl) rfl))) (by kernel_rfl);exact zeh (p:=p1) (s1) h (zcm (zan (zaf _ _ (Enc.clo _)) (zan (by kernel_rfl) rfl))) (by kernel_rfl);intro s1 h;refine zc (o:=or1) (s1) h ?_;exact zbp (bl 17 8);intro j1 h;refine zeo ?_;refine zx [.v (.i j1),.m _] ?_;exact zjj h
end Go.Ab
namespace Go.Ab
open Go Go.RowKit Go.Fwd Go.Proofs
theorem zwg {α β ρ:Type} {body:β->α->Option (β ⊕ ρ)} (f:β->α->β)(I:β->Nat->Prop): ∀(xs:List α) (s:β),I s xs.length->(∀s x k,x∈xs->k<xs.length->I s (k+1)->body s x=some (.inl (f s x))/\ I (f s x) k)->zcu body xs s=some (.inl (xs.foldl f s))
 |[],s,_,_=>rfl
 | x::xs,s,h0,h=>by
  obtain⟨h1,h2⟩:=h s x xs.length (by simp) (by simp) h0;rw[zcu,h1];exact zwg f I xs (f s x) h2 fun s y k hy hk=>h s y k (by simp[hy]) (by simp;omega)
theorem z0e {α:Type} (p:α->Bool): ∀(xs:List α) (s:Int),xs.foldl (fun s x=>bif p x then s+1 else s) s=s+(xs.countP p:Int)
 |[],s=>by simp
 | x::xs,s=>by
  rw[List.foldl_cons,z0e p xs,List.countP_cons];cases p x<;>simp<;>omega
theorem k_size (t:Tr)(h:(pre t).length<2^61):Pure (ITP prog) prog 100 [.agg (Enc.cells t)] (.raw (.int .i64 (z5q t))):=by
 refine qbj t _ ?_;unfold zwl z5q;refine zal h (zaj fun x1 e1=> ?_);subst e1;cases hl:zgd t with
 |false=>rfl
 | true=>
  refine zhf rfl (zbj ((pre t).length:Int) (zal h (zaj fun x2 e2=> ?_)) rfl);subst e2;refine zbj ((pre t).length:Int) ?_ rfl;refine Eq.trans (zwg (fun(s:Int) _=>s+1) (fun s k=>0<=s/\ s+k<=(pre t).length) (pre t) 0 (by omega) (fun s x k _ hk hI=>⟨zal (by omega) rfl,by omega⟩)) ?_;have: ∀(xs:List Tr) (s:Int),xs.foldl (fun s _=>s+1) s=s+(xs.length:Int):=fun xs=>by
   induction xs with
   |nil=>intro s;simp
   |cons x xs ih=>intro s;rw[List.foldl_cons,ih,length_cons];omega
  rw[this,Int.zero_add]
theorem qhw (t:Tr)(h:(pre t).length<2^61):Pure (ITP prog) prog 102 [.agg (Enc.cells t)] (.raw (.int .i64 (zxi t))):=by
 refine z2q t _ ?_;unfold zov zxi;refine zal h (zaj fun x1 e1=> ?_);subst e1;cases hl:zgd t with
 |false=>rfl
 | true=>
  refine zhf rfl (zbj (((pre t).countP fun x=>decide (x.k=6)):Int) (zal h (zaj fun x2 e2=> ?_)) rfl);subst e2;refine zbj (((pre t).countP fun x=>decide (x.k=6)):Int) ?_ rfl;refine Eq.trans (zwg (fun(s:Int) x=>bif decide (x.k=6) then s+1 else s) (fun s k=>0<=s/\ s+k<=(pre t).length) (pre t) 0 (by omega) (fun s x k _ hk hI=> ?_)) ?_
  rotate_left
  ·rw[z0e (fun x:Tr=>decide (x.k=6)),Int.zero_add]
  ·by_cases h6:x.k=6
   ·simp only[h6,decide_true,cond_true];exact⟨zal (by omega) rfl,by omega⟩
   ·rw[show decide (x.k=6)=false by simpa using h6];exact⟨zhf (by simp;omega) rfl,by simp only[cond_false];omega⟩
theorem posn_eq {fuel:Nat} (n:Nat)(t:Tr)(h:(pre t).length<=10000)(hn:(pre t).length<n+1)(hf:10001<fuel):z4b fuel n t=some (z2w t):=by
 have hp:(pre t).length=1+(zdn t.l).length:=by rw[ziv,length_cons];omega
 have hlen:=zdh t.l;have hpl:=z2s t.l;have hpn:=zji t.l;unfold z4b;have hpos:z2w t=min (if t.k=5 then((if t.k=2 then 1 else 0)+zpc t.l)*min (if t.mx= -1 then max (max t.mn 0) 1 else max (max t.mn 0) t.mx) 10001 else(if t.k=2 then 1 else 0)+zpc t.l) 10001:=by
  obtain⟨k,s,mn,mx,l⟩:=t;rw[z2w];rfl
 rw[hpos];refine zbj (if t.k=2 then 1 else 0) ?_ ?_
 ·by_cases h2:t.k=2
  ·rw[if_pos h2];exact ziw (by simp[h2]) rfl
  ·rw[if_neg h2];exact zhf (by simp;omega) rfl
 ·generalize hb:(if t.k=2 then(1:Int) else 0)=b
  have hb1:0<=b/\ b<=1:=by rw[<-hb];split<;>omega
  refine zbj (b+zpc t.l) ?_ ?_
  ·refine zof t.l.length (fun i=>(b+zpc (t.l.take i),(i:Int))) (by simp[zpc]) (fun i hi=> ?_) ?_ (by omega)
   ·refine ziw (by simpa using hi) (zal (by simp only;omega) (zaj fun x1 e1=> ?_));simp only at e1;rw[zmd hi] at e1;have hm:x1∈t.l:=e1▸List.getElem_mem hi;have hx:=zml hm;have q1:=z2s (t.l.take i);have q2:=zji (t.l.take i);have q3:=qah x1;have q4:=zqx x1;have q5:(t.l.take i).length<=t.l.length:=List.length_take_le' _ _;refine zal (by omega) (zaj fun x2 e2=>zal (by simp only;omega) (zal (by simp only;omega) ?_));rw[qdv _ _ hi,e1, <-e2];simp only[Int.add_assoc];rfl
   ·refine zhf (by simp) ?_;simp
  ·generalize hj:b+zpc t.l=j
   have hj1:0<=j/\ j<=200000000:=by omega
   by_cases h5:t.k=5
   ·rw[if_pos h5];generalize hq:(if t.mx= -1 then max (max t.mn 0) 1 else max (max t.mn 0) t.mx)=q
    have hm:0<=min q 10001/\ min q 10001<=10001:=by
     have:0<=q:=by rw[<-hq];split<;>omega
     omega
    have hmul:0<=j*min q 10001/\ j*min q 10001<=200000000*10001:=⟨Int.mul_nonneg hj1.1 hm.1,Int.mul_le_mul hj1.2 hm.2 hm.1 (by omega)⟩;refine zbj (j*min q 10001) (ziw (by simp[h5]) (zbj q ?_ (zal (by omega) rfl))) rfl;by_cases hx:t.mx= -1
    ·rw[if_pos hx] at hq;exact ziw (by simp[hx]) (by rw[hq])
    ·rw[if_neg hx] at hq;exact zhf (by simpa using hx) (by rw[hq])
   ·rw[if_neg h5];exact zbj j (zhf (by simp;omega) rfl) rfl
theorem z3v: ∀(n:Nat) (t:Tr),(pre t).length<n->(pre t).length<=10000->Pure (ITP prog) prog 147 [.agg (Enc.cells t)] (.raw (.int .i64 (z2w t)))
 |0,t,h,_=>absurd h (Nat.not_lt_zero _)
 | n+1,t,h,hl=>by
  have hp:(pre t).length=1+(zdn t.l).length:=by rw[ziv,length_cons];omega
  exact posn_sh 10002 (min n 10000) t _ (fun x hx=>z3v n x (by omega) (by omega)) (posn_eq (min n 10000) t hl (by omega) (by decide))
theorem k_posn (t:Tr)(h:(pre t).length<=10000):Pure (ITP prog) prog 147 [.agg (Enc.cells t)] (.raw (.int .i64 (z2w t))):=z3v 10001 t (by omega) h
structure Rg where
 b:Bool
 e:Bool
 t:Tr
def qbn (r:Rg):List AV:= .raw (.bool r.b):: .raw (.bool r.e)::Enc.cells r.t
instance:Enc Rg where
 inh:=⟨false,false,zbc⟩
 cells:=qbn
 cellsL l:=l.flatMap qbn
 sz:=10
 pos:=by decide
 nil:=rfl
 cons _ _:=rfl
 len r:=by show(Enc.cells r.t).length+2=10;rw[Enc.len];rfl
 clo r:=by show cloL (.raw _:: .raw _::Enc.cells r.t)=true;rw[cloL,cloL,Enc.clo];rfl
end Go.Ab
namespace Go.Ab
open Go Go.RowKit Go.Fwd Go.Proofs
def zjb (t:Tr):Option Int:=
 (chk ((pre t).length<2^61) (zbl (zgd t) (fun x1=>(bif (!x1) then(some 10001) else(chk ((pre t).length<=10000) (zbl (z2w t) (fun x2=>(some x2))))))))
theorem ent101:Ent prog 101:=enters_of Tryz.func101 (by kernel_rfl) rfl
theorem zzm (t:Tr)(r:Int)(h:zjb t=some r):Pure (ITP prog) prog 101 [.A (t:Tr)] (.raw (.int .i64 r)):=by
 unfold zjb at h;refine zbq 7 mix Tryz.func101 ent101 ?_;refine zm (zb ?_);refine zdz (Enc.cells (t:Tr)) ?_;refine w_o (a:= .i 0) ?_;refine zm ?_;refine zx [.v (.A (t:Tr))] ?_;obtain⟨g1,h⟩:=zt h;obtain⟨x1,hx1,h⟩:=zu h;refine zdd (args':=[.A (t:Tr)]) (r:= .b x1) (by rw[<-hx1];exact(zvb t g1)) ?_;refine w_o (a:= .b (!x1)) ?_;refine zch h (fun hc1 h=> ?_) (fun hc1 h=> ?_);refine zx [.v (.i 10001)] ?_;exact zjj h;refine zx [.v (.A (t:Tr))] ?_;obtain⟨g2,h⟩:=zt h;obtain⟨x2,hx2,h⟩:=zu h;refine zdd (args':=[.A (t:Tr)]) (r:= .i x2) (by rw[<-hx2];exact(k_posn t g2)) ?_;refine zz ?_;exact zjj h
def zra (x:Rg):Option Int:=
 (chk ((pre x.t).length<2^61) (zbl (zff x.t) (fun x1=>(bif (!x1) then(some 80) else(chk ((pre x.t).length<2^61) (zbl (z5q x.t) (fun x2=>(bif (decide (x2>120)) then(some 81) else(zaa (zjb x.t) (fun x3=>(bif (decide (x3>400)) then(some 82) else(chk ((pre x.t).length<2^61) (zbl (zxi x.t) (fun x4=>(bif (decide (x4>9)) then(some 83) else(some 0))))))))))))))))
theorem ent56:Ent prog 56:=enters_of Tryz.func56 (by kernel_rfl) rfl
theorem z4e (x:Rg)(r:Int)(h:zra x=some r):Pure (ITP prog) prog 56 [.A (x:Rg)] (.raw (.int .i64 r)):=by
 unfold zra at h;refine zbq 22 mix Tryz.func56 ent56 ?_;refine zm (zb ?_);refine zdz (Enc.cells (x:Rg)) ?_;refine w_o (a:= .i 0) ?_;refine zm ?_;refine zac ?_;refine zx [.v (.ptr 0 2),.v (.A (x.t:Tr))] ?_;obtain⟨g1,h⟩:=zt h;obtain⟨x1,hx1,h⟩:=zu h;refine zdd (args':=[.A (x.t:Tr)]) (r:= .b x1) (by rw[<-hx1];exact(zrc x.t g1)) ?_;refine w_r [.v (.b (!x1)),.m _] ?_;refine zch h (fun hc1 h=> ?_) (fun hc1 h=> ?_);refine zx [.v (.i 80)] ?_;exact zjj h;refine zx [.v (.ptr 0 2),.v (.A (x.t:Tr))] ?_;obtain⟨g2,h⟩:=zt h;obtain⟨x2,hx2,h⟩:=zu h;refine zdd (args':=[.A (x.t:Tr)]) (r:= .i x2) (by rw[<-hx2];exact(k_size x.t g2)) ?_;refine w_r [.v (.b (decide (x2>120))),.m _] ?_;refine zch h (fun hc2 h=> ?_) (fun hc2 h=> ?_);refine zx [.v (.i 81)] ?_;exact zjj h;refine zx [.v (.ptr 0 2),.v (.A (x.t:Tr))] ?_;obtain⟨x3,hx3,h⟩:=zr h;refine zdd (zzm x.t x3 hx3) ?_;refine w_r [.v (.b (decide (x3>400))),.m _] ?_;refine zch h (fun hc3 h=> ?_) (fun hc3 h=> ?_);refine zx [.v (.i 82)] ?_;exact zjj h;refine zx [.v (.ptr 0 2),.v (.A (x.t:Tr))] ?_;obtain⟨g3,h⟩:=zt h;obtain⟨x4,hx4,h⟩:=zu h;refine zdd (args':=[.A (x.t:Tr)]) (r:= .i x4) (by rw[<-hx4];exact(qhw x.t g3)) ?_;refine w_r [.v (.b (decide (x4>9))),.m _] ?_;refine zch h (fun hc4 h=> ?_) (fun hc4 h=> ?_);refine zx [.v (.i 83)] ?_;exact zjj h;refine zx [.v (.i 0)] ?_;exact zjj h
theorem wk_two {n0:Nat} {S S':List AV} {U U':St} (s:Nat) {t:TypeId} {cs:List AV} (hb:U.boxes[s]? =some (t,cs))(k:Wk n0 S {U with boxes:=U.boxes++[(t,[])]++[(t,[])]} S' U'):Wk n0 S U S' U':=by
 refine .step (S1:=S) (U1:={U with boxes:=U.boxes++[(t,[])]}) (.inr (.inr (.inl ⟨s,t,cs,hb,Fg.refl _,rfl⟩))) (.step (S1:=S) (.inr (.inr (.inl ⟨s,t,cs,?_,Fg.refl _,rfl⟩))) k)
 show(U.boxes++[(t,[])])[s]? =_
 rw[getElem?_append_left (List.getElem?_eq_some_iff.1 hb).1];exact hb
section
variable {ρ:Operand->AV} {U:St} {o:Oper}
theorem q_lastQ {x i:Operand} {b:Nat} {q:Stk} {k:Int} (g:0<=k/\ k<((zel q).length:Int))(ho:o.op= .indexAddr 37 x i)(hx:ρ x=zbb b q)(hi:ρ i= .raw (.int .i64 k)):qop prog ρ U o=some (.ptr b (0+k.toNat*1)):=by
 cases q with
 |none=>simp[zel] at g;omega
 |some q=>exact qgl (j:=q.1) (l:=q.2) g ho hx hi
theorem rd_int {P:Program} {t:TypeId} {k:IntKind} {cs:List AV} {n:Nat} (hu:P.underlying t=some (.int k))(hs:zfa P t=some n):rd P t cs=cs.head? :=by
 unfold zfa at hs;cases hi:P.info? t with
 |none=>simp[hi] at hs
 |some i=>simp[rd,hu,hi]
theorem zqs {x:Operand} {b:Nat} {q:Stk} {k:Int} (g:0<=k/\ k<((zel q).length:Int))(ho:o.op= .load 3 x)(hx:ρ x= .ptr b (0+k.toNat*1))(hb:U.boxes[b]? =some (zj q)):qop prog ρ U o=some (.raw (.int .i64 (ix (zel q) k))):=by
 cases q with
 |none=>simp[zel] at g;omega
 | some q=>
  obtain⟨j,l⟩:=q;cases l with
  |nil=>simp[zel] at g;omega
  | cons c l=>
   have h1:=Enc.at (l:=c::l) g;have e:(zj (some (j,c::l))).2=Enc.cellsL (c::l):=rfl;have hs:zfa prog 3=some 1:=by kernel_rfl
   have hu:prog.underlying 3=some (.int .i64):=by kernel_rfl
   simp only[qop,ho,zzt,hx,hb,e];rw[zero_add,show k.toNat*1=k.toNat*Enc.sz Int from rfl,h1];show rd prog 3 (.raw (.int .i64 (ix (c::l) k))::_)=_;exact rd_int hu hs
end
end Go.Ab
namespace Go.Ab
open Go Go.RowKit Go.Fwd Go.Proofs
def zzc (p:Rd->Option (Tr×Rd))(s:(List UInt8)):Option (Rg×Int×Int):=
 (bif (decide ((length s:Int)>1000)) then(some ((Rg.mk false false zbc),0,3)) else(zbl (Lib.trimPrefix s ([94]:List UInt8),Lib.hasPrefix s ([94]:List UInt8)) (fun x1=>(chk (-9223372036854775808<=((length s:Int)-(length x1.1:Int))/\ ((length s:Int)-(length x1.1:Int))<9223372036854775808) (zaa (zps x1.1) (fun x2=>(zdg (τ:=(List UInt8)) (bif x2 then(chk (-9223372036854775808<=((length x1.1:Int)-1)/\ ((length x1.1:Int)-1)<9223372036854775808) (chk (0<=0/\ 0<=((length x1.1:Int)-1)/\ ((length x1.1:Int)-1)<=(length x1.1:Int)) (zbl (sub x1.1 0 ((length x1.1:Int)-1)) (fun x3=>(some (inl (x3))))))) else(some (inl (x1.1)))) (fun j1=>(zaa (p (Rd.mk j1 0 0 none)) (fun x4=>(zdg (τ:=Rd) (bif (x4.2.e !=0) then(some (inl (x4.2))) else(bif (decide (x4.2.a<(length j1:Int))) then(chk (0<=x4.2.a/\ x4.2.a<(length j1:Int)) (zbl (ix j1 x4.2.a) (fun x5=>(bif ((((x5).toNat:Nat):Int)==41) then(some (inl ((Rd.mk x4.2.s x4.2.a 91 x4.2.q)))) else(some (inl ((Rd.mk x4.2.s x4.2.a 90 x4.2.q)))))))) else(bif (decide ((length (zel x4.2.q):Int)>0)) then(chk (-9223372036854775808<=((length (zel x4.2.q):Int)-1)/\ ((length (zel x4.2.q):Int)-1)<9223372036854775808) (chk (0<=((length (zel x4.2.q):Int)-1)/\ ((length (zel x4.2.q):Int)-1)<(length (zel x4.2.q):Int)) (some (inl ((Rd.mk x4.2.s (ix (zel x4.2.q) ((length (zel x4.2.q):Int)-1)) 91 x4.2.q)))))) else(some (inl (x4.2)))))) (fun j2=>(bif (j2.e !=0) then(chk (-9223372036854775808<=(((length s:Int)-(length x1.1:Int))+j2.a)/\ (((length s:Int)-(length x1.1:Int))+j2.a)<9223372036854775808) (some ((Rg.mk false false zbc),(((length s:Int)-(length x1.1:Int))+j2.a),j2.e))) else(zaa (zra (Rg.mk x1.2 x2 x4.1)) (fun x6=>(bif (x6 !=0) then(some ((Rg.mk false false zbc),(length s:Int),x6)) else(some ((Rg.mk x1.2 x2 x4.1),(length s:Int),0))))))))))))))))))
theorem ent23:Ent prog 23:=enters_of Tryz.func23 (by kernel_rfl) rfl
theorem read_sh (p:Rd->Option (Tr×Rd))(s:(List UInt8))(r:(Rg×Int×Int))(hp: ∀(r:Rd)(y:Tr×Rd),p r=some y->RdC Tryz.prog 59 [] r (.A y.1) y.2)(h:zzc p s=some r):Pure (ITP Tryz.prog) Tryz.prog 23 [.raw (.string (bs s))] (.tup [.A (r.1:Rg),.raw (.int .i64 r.2.1),.raw (.int .i64 r.2.2)]):=by
 unfold zzc at h;refine zbq 130 mix Tryz.func23 ent23 ?_;refine zm (zb ?_);refine zdz [.b false,.b false,.u 0,.raw (.int .u64 0),.raw (.int .u64 0),.raw (.int .u64 0),.raw (.int .u64 0),.i 0,.i 0,.list 0 [] .full] ?_;refine w_r [.v (.i 0),.v (.i 0)] ?_;refine zm ?_;refine zx [.m _] ?_;refine w_o (a:= .i (List.length s:Int)) (h:=zbf (zdw rfl rfl rfl)) ?_;refine w_o (a:= .b (decide ((List.length s:Int)>1000))) ?_;refine zch h (fun hc1 h=> ?_) (fun hc1 h=> ?_);refine zm (zb ?_);refine w_qs (.A ((Rg.mk false false zbc):Rg)) rfl rfl rfl rfl (by simp only[zcw,stripL,Enc.stripL]<;>rfl) (by dsimp only[zi,List.set]) ?_;refine zft 10 (Enc.cells ((Rg.mk false false zbc):Rg)) ?_;refine w_r [.v (.i 0),.v (.i 3)] ?_;exact zbr (fun(r:(Rg×Int×Int))=> .tup [.A (r.1:Rg),.i r.2.1,.i r.2.2]) h (.tup [.A ((Rg.mk false false zbc):Rg),.i 0,.i 3]);refine zx [.m _] ?_;obtain⟨x1,hx1,h⟩:=zu h;refine zdd (args':=[.s s,.s ([94]:List UInt8)]) (r:= .tup [.s x1.1,.b x1.2]) (by rw[<-hx1];exact(qap s ([94]:List UInt8))) ?_;refine w_r [.m _,.x _,.x _,.m _,.m _] ?_;refine zx [.m _] ?_;refine w_o (a:= .i (List.length s:Int)) (h:=zbf (zdw rfl rfl rfl)) ?_;refine zz ?_;refine w_o (a:= .i (List.length x1.1:Int)) (h:=zbf (zdw rfl rfl rfl)) ?_;obtain⟨g1,h⟩:=zt h;refine w_sb g1 ?_;refine zz ?_;refine zx [.m _] ?_;obtain⟨x2,hx2,h⟩:=zr h;refine zdd (ends_sh x1.1 x2 hx2) ?_;refine zz ?_;refine zaz h (bz 0 131 2722258935367507707706996859454145691194) (fun j1=>[(5,.s j1)]) (fun j1=>(.B [(47,[.b false,.b false,.u 0,.raw (.int .u64 0),.raw (.int .u64 0),.raw (.int .u64 0),.raw (.int .u64 0),.i 0,.i 0,.list 0 [] .full])])) ?_ ?_;intro or1 h hr1;refine zx [.m _] ?_;refine zch h (fun hc2 h=> ?_) (fun hc2 h=> ?_);refine zb (k0:=0) (id:=7) ?_;refine w_r [.m _,.m _] ?_;refine w_o (a:= .i (List.length x1.1:Int)) (h:=zbf (zdw rfl rfl rfl)) ?_;obtain⟨g2,h⟩:=zt h;refine w_sb g2 ?_;obtain⟨g3,h⟩:=zt h;obtain⟨x3,hx3,h⟩:=zu h;refine w_o (a:= .s x3) (h:=zbf (by rw[<-hx3];exact(q_ssl_H (l:=x1.1) g3 rfl rfl rfl rfl))) ?_;refine zz ?_;refine zc (o:=or1) (x3) h ?_;exact zbp (bl 131 485);refine zc (o:=or1) (x1.1) h ?_;exact zbp (bl 131 485);intro j1 h;refine zeo ?_;refine zge (zb ?_);refine w_r [.m _,.v (.agg [.s j1,.i 0,.i 0,(zbb 0 none)])] ?_;refine zdz [.s j1,.i 0,.i 0,(zbb 0 none)] ?_;refine zz ?_;refine zih 131 [(0,.s s),(2,.ptr 3 0),(5,.s j1),(6,.b x1.2),(7,.i ((List.length s:Int)-(List.length x1.1:Int))),(8,.b x2),(9,.ptr 0 0)] (U':=(.B [(110,[.s j1,.i 0,.i 0,(zbb 2 none)]),(110,[]),((zj none).1,(zj none).2),(47,[.b false,.b false,.u 0,.raw (.int .u64 0),.raw (.int .u64 0),.raw (.int .u64 0),.raw (.int .u64 0),.i 0,.i 0,.list 0 [] .full])])) (wk_two 1 rfl (wmk (bl 131 997) 0 [] [1,2,3,0] 1 (Nat.le_refl _) (zvg (zh rfl (zf (zn _ _ _ rfl) (zf (zn _ _ _ rfl) (zf (zn _ _ _ rfl) (zf rfl zk)))) (zh rfl zk (zh rfl zk (zh rfl rfl zae)))) rfl))) ?_;have hk0:0<=2:=by decide
 refine zge (zb ?_);refine w_r [.m _,.m _,.m _] ?_;obtain⟨x4,hx4,h⟩:=zr h;refine zgg (r:= .A (x4.1:Tr)) (U':=(.B [(110,[.s x4.2.s,.i x4.2.a,.i x4.2.e,(zbb 4 x4.2.q)]),(110,[]),((zj none).1,[]),(47,[.b false,.b false,.u 0,.raw (.int .u64 0),.raw (.int .u64 0),.raw (.int .u64 0),.raw (.int .u64 0),.i 0,.i 0,.list 0 [] .full]),((zj x4.2.q).1,(zj x4.2.q).2)])) ((hp (Rd.mk j1 0 0 none) x4 hx4) _ 2 (by decide) rfl rfl) rfl rfl ⟨rfl,rfl⟩ (by dsimp only[zi,List.set]) ?_;refine w_qs (.A ((Rg.mk x1.2 x2 x4.1):Rg)) rfl rfl rfl rfl (show zcw (.A ((Rg.mk x1.2 x2 x4.1):Rg))=_ from congrArg AV.agg (zdj _ (Enc.clo ((Rg.mk x1.2 x2 x4.1):Rg)))) (by dsimp only[zi,List.set]) ?_;refine zdz [.b false,.b false,.u 0,.raw (.int .u64 0),.raw (.int .u64 0),.raw (.int .u64 0),.raw (.int .u64 0),.i 0,.i 0,.list 0 [] .full] ?_;refine zft 10 (Enc.cells ((Rg.mk x1.2 x2 x4.1):Rg)) ?_;refine zih 131 [(0,.s s),(2,.ptr 3 0),(5,.s j1),(7,.i ((List.length s:Int)-(List.length x1.1:Int))),(9,.ptr 0 0),(10,.ptr 4 0)] (U':=(.B [(110,[.s x4.2.s,.i x4.2.a,.i x4.2.e,(zbb 2 x4.2.q)]),(110,[]),((zj x4.2.q).1,(zj x4.2.q).2),(47,[.b false,.b false,.u 0,.raw (.int .u64 0),.raw (.int .u64 0),.raw (.int .u64 0),.raw (.int .u64 0),.i 0,.i 0,.list 0 [] .full]),(47,(Enc.cells ((Rg.mk x1.2 x2 x4.1):Rg)))])) (wmk (bl 131 1701) 2 [] [4,3,5] 1 hk0 (zap rfl (zld fun _=>rfl) zk (zh rfl (zo _ _ _) (zh rfl rfl (zh rfl (zam _ _ _ (Enc.clo _)) zae))) rfl)) ?_;refine zaz h (bz 0 104 20282409603651670419549204774944) (fun j2=>[]) (fun j2=>(.B [(110,[.s j2.s,.i j2.a,.i j2.e,(zbb 2 j2.q)]),(110,[]),((zj j2.q).1,(zj j2.q).2),(47,[.b false,.b false,.u 0,.raw (.int .u64 0),.raw (.int .u64 0),.raw (.int .u64 0),.raw (.int .u64 0),.i 0,.i 0,.list 0 [] .full]),(47,(Enc.cells ((Rg.mk x1.2 x2 x4.1):Rg)))])) ?_ ?_;intro or2 h hr2;refine zac ?_;refine zx [.m _,.v (.ptr 0 0),.v (.ptr 0 2),.v (.i x4.2.e),.v (.b (x4.2.e !=0))] ?_;refine w_r [.m _] ?_;refine zch h (fun hc3 h=> ?_) (fun hc3 h=> ?_);refine zc (o:=or2) (x4.2) h ?_;exact zbp (bl 131 2722258915085098104055326439904940916703);refine zx [.m _,.v (.ptr 0 0),.v (.ptr 0 1),.v (.i x4.2.a),.m _] ?_;refine w_o (a:= .i (List.length j1:Int)) (h:=zbf (zdw rfl rfl rfl)) ?_;refine w_o (a:= .b (decide (x4.2.a<(List.length j1:Int)))) ?_;refine zah h (fun hc4 h=> ?_) (fun hc4 h=> ?_);refine zaw hc4 ?_;refine w_r [.m _,.m _,.v (.ptr 0 0),.v (.ptr 0 1),.v (.i x4.2.a)] ?_;refine zaq rfl rfl ?_;obtain⟨g4,h⟩:=zt h;obtain⟨x5,hx5,h⟩:=zu h;refine w_o (a:= .u (((x5).toNat:Nat):Int)) (h:=zbf (by rw[<-hx5];exact(zds (l:=j1) (n:=x4.2.a) g4 rfl rfl rfl rfl))) ?_;refine w_r [.v (.b ((((x5).toNat:Nat):Int)==41)),.v (.b ((((x5).toNat:Nat):Int)==41)),.m _] ?_;refine zch h (fun hc5 h=> ?_) (fun hc5 h=> ?_);refine zb (k0:=0) (id:=12) ?_;refine w_r [.m _,.v (.ptr 0 0),.v (.ptr 0 2)] ?_;refine zoc (U'':=(.B [(110,[.s x4.2.s,.i x4.2.a,.i 91,(zbb 2 x4.2.q)]),(110,[]),((zj x4.2.q).1,(zj x4.2.q).2),(47,[.b false,.b false,.u 0,.raw (.int .u64 0),.raw (.int .u64 0),.raw (.int .u64 0),.raw (.int .u64 0),.i 0,.i 0,.list 0 [] .full]),(47,(Enc.cells ((Rg.mk x1.2 x2 x4.1):Rg)))])) (h:=zcr (n:=1) rfl rfl rfl rfl rfl ⟨rfl,rfl,Nat.le_of_ble_eq_true rfl,by decide⟩) ?_;refine zc (o:=or2) ((Rd.mk x4.2.s x4.2.a 91 x4.2.q)) h ?_;exact zbp (bl 131 2722258915085098104055326439904940916703);refine zx [.m _,.v (.ptr 0 0),.v (.ptr 0 1),.v (.i x4.2.a),.m _] ?_;refine w_o (a:= .i (List.length j1:Int)) (h:=zbf (zdw rfl rfl rfl)) ?_;refine w_r [.v (.b (decide (x4.2.a<(List.length j1:Int)))),.m _] ?_;refine zet hc4 rfl ?_;refine zb (k0:=0) (id:=14) ?_;refine w_r [.m _,.v (.ptr 0 0),.v (.ptr 0 2)] ?_;refine zoc (U'':=(.B [(110,[.s x4.2.s,.i x4.2.a,.i 90,(zbb 2 x4.2.q)]),(110,[]),((zj x4.2.q).1,(zj x4.2.q).2),(47,[.b false,.b false,.u 0,.raw (.int .u64 0),.raw (.int .u64 0),.raw (.int .u64 0),.raw (.int .u64 0),.i 0,.i 0,.list 0 [] .full]),(47,(Enc.cells ((Rg.mk x1.2 x2 x4.1):Rg)))])) (h:=zcr (n:=1) rfl rfl rfl rfl rfl ⟨rfl,rfl,Nat.le_of_ble_eq_true rfl,by decide⟩) ?_;refine zc (o:=or2) ((Rd.mk x4.2.s x4.2.a 90 x4.2.q)) h ?_;exact zbp (bl 131 2722258915085098104055326439904940916703);refine zaw hc4 ?_;refine w_r [.p,.p,.p,.p,.p] ?_;refine w_r [.p,.p,.v (.b false),.m _] ?_;refine zbz rfl ?_;refine zx [.m _,.v (.ptr 0 0),.v (.ptr 0 1),.v (.i x4.2.a),.m _] ?_;refine w_o (a:= .i (List.length j1:Int)) (h:=zbf (zdw rfl rfl rfl)) ?_;refine w_r [.v (.b (decide (x4.2.a<(List.length j1:Int)))),.m _] ?_;refine zev hc4 rfl ?_;refine zx [.m _,.v (.ptr 0 0),.v (.ptr 0 3),.v (zbb 2 x4.2.q)] ?_;refine w_o (a:= .i (List.length (zel x4.2.q):Int)) (h:=zbf (zgk (b:=2) (q:=x4.2.q) rfl rfl)) ?_;refine w_r [.v (.b (decide ((List.length (zel x4.2.q):Int)>0))),.m _] ?_;refine zch h (fun hc6 h=> ?_) (fun hc6 h=> ?_);obtain⟨g5,h⟩:=zt h;obtain⟨g6,h⟩:=zt h;refine z9f (id:=16) (sg2 16 19 (.B [(110,[.s x4.2.s,.i x4.2.a,.i x4.2.e,(zbb 2 x4.2.q)]),(110,[]),((zj x4.2.q).1,(zj x4.2.q).2),(47,[.b false,.b false,.u 0,.raw (.int .u64 0),.raw (.int .u64 0),.raw (.int .u64 0),.raw (.int .u64 0),.i 0,.i 0,.list 0 [] .full]),(47,(Enc.cells ((Rg.mk x1.2 x2 x4.1):Rg)))]) (.B [(110,[.s x4.2.s,.i (ix (zel x4.2.q) ((List.length (zel x4.2.q):Int)-1)),.i x4.2.e,(zbb 2 x4.2.q)]),(110,[]),((zj x4.2.q).1,(zj x4.2.q).2),(47,[.b false,.b false,.u 0,.raw (.int .u64 0),.raw (.int .u64 0),.raw (.int .u64 0),.raw (.int .u64 0),.i 0,.i 0,.list 0 [] .full]),(47,(Enc.cells ((Rg.mk x1.2 x2 x4.1):Rg)))]) (.B [(110,[.s x4.2.s,.i x4.2.a,.i 91,(zbb 2 x4.2.q)]),(110,[]),((zj x4.2.q).1,(zj x4.2.q).2),(47,[.b false,.b false,.u 0,.raw (.int .u64 0),.raw (.int .u64 0),.raw (.int .u64 0),.raw (.int .u64 0),.i 0,.i 0,.list 0 [] .full]),(47,(Enc.cells ((Rg.mk x1.2 x2 x4.1):Rg)))]) (.B [(110,[.s x4.2.s,.i (ix (zel x4.2.q) ((List.length (zel x4.2.q):Int)-1)),.i 91,(zbb 2 x4.2.q)]),(110,[]),((zj x4.2.q).1,(zj x4.2.q).2),(47,[.b false,.b false,.u 0,.raw (.int .u64 0),.raw (.int .u64 0),.raw (.int .u64 0),.raw (.int .u64 0),.i 0,.i 0,.list 0 [] .full]),(47,(Enc.cells ((Rg.mk x1.2 x2 x4.1):Rg)))])) (.B [(110,[.s x4.2.s,.i (ix (zel x4.2.q) ((List.length (zel x4.2.q):Int)-1)),.i 91,(zbb 2 x4.2.q)]),(110,[]),((zj x4.2.q).1,(zj x4.2.q).2),(47,[.b false,.b false,.u 0,.raw (.int .u64 0),.raw (.int .u64 0),.raw (.int .u64 0),.raw (.int .u64 0),.i 0,.i 0,.list 0 [] .full]),(47,(Enc.cells ((Rg.mk x1.2 x2 x4.1):Rg)))]) [some (86,.ptr 0 0),some (87,.ptr 0 0),some (88,.ptr 0 0),some (89,.ptr 0 0),some (90,.ptr 0 3),some (91,(zbb 2 x4.2.q)),some (92,.ptr 0 0),some (93,.ptr 0 0),some (94,.ptr 0 3),some (95,(zbb 2 x4.2.q)),some (96,.i (List.length (zel x4.2.q):Int)),some (97,.i ((List.length (zel x4.2.q):Int)-1)),some (98,.ptr 2 (0+Int.toNat ((List.length (zel x4.2.q):Int)-1)*1)),some (99,.i (ix (zel x4.2.q) ((List.length (zel x4.2.q):Int)-1))),some (100,.ptr 0 0),some (101,.ptr 0 1),none,some (102,.ptr 0 0),some (103,.ptr 0 2),none] ?_ ?_;iterate 5 refine f_o ?_
 refine f_l2 ?_;iterate 3 refine f_o ?_
 refine f_l2 ?_;refine f_o ?_ (h:=fun _=>(zgk (b:=2) (q:=x4.2.q) rfl rfl));refine f_o ?_ (h:=fun _=>(zpy rfl rfl rfl rfl g5.1 g5.2));refine f_o ?_ (h:=fun _=>(q_lastQ (b:=2) (q:=x4.2.q) g6 rfl rfl rfl));refine f_l2 ?_ (h0:=(zqs (b:=2) (q:=x4.2.q) g6 rfl rfl rfl)) (h1:=(zqs (b:=2) (q:=x4.2.q) g6 rfl rfl rfl)) (h2:=(zqs (b:=2) (q:=x4.2.q) g6 rfl rfl rfl)) (h3:=(zqs (b:=2) (q:=x4.2.q) g6 rfl rfl rfl));iterate 2 refine f_o ?_
 refine f_sp ?_ (h:=by kernel_rfl) (h':=by kernel_rfl);iterate 2 refine f_o ?_
 refine f_sq ?_ (h:=by kernel_rfl) (h':=by kernel_rfl);exact f_e;refine zc (o:=or2) ((Rd.mk x4.2.s (ix (zel x4.2.q) ((List.length (zel x4.2.q):Int)-1)) 91 x4.2.q)) h ?_;exact zbp (bl 131 2722258915085098104055326439904940916703);refine zc (o:=or2) (x4.2) h ?_;exact zbp (bl 131 2722258915085098104055326439904940916703);intro j2 h;refine zeo ?_;refine zm ?_;refine zx [.m _,.v (.ptr 0 0),.v (.ptr 0 2),.v (.i j2.e),.v (.b (j2.e !=0))] ?_;refine zch h (fun hc7 h=> ?_) (fun hc7 h=> ?_);obtain⟨g7,h⟩:=zt h;refine zm ?_;refine z9f (id:=18) (sg1 11 (.B [(110,[.s j2.s,.i j2.a,.i j2.e,(zbb 2 j2.q)]),(110,[]),((zj j2.q).1,(zj j2.q).2),(47,[.b false,.b false,.u 0,.raw (.int .u64 0),.raw (.int .u64 0),.raw (.int .u64 0),.raw (.int .u64 0),.i 0,.i 0,.list 0 [] .full]),(47,(Enc.cells ((Rg.mk x1.2 x2 x4.1):Rg)))]) (.B [(110,[.s j2.s,.i j2.a,.i j2.e,(zbb 2 j2.q)]),(110,[]),((zj j2.q).1,(zj j2.q).2),(47,[.b false,.b false,.u 0,.raw (.int .u64 0),.raw (.int .u64 0),.raw (.int .u64 0),.raw (.int .u64 0),.i 0,.i 0,.list 0 [] .full]),(47,(Enc.cells ((Rg.mk x1.2 x2 x4.1):Rg)))])) (.B [(110,[.s j2.s,.i j2.a,.i j2.e,(zbb 2 j2.q)]),(110,[]),((zj j2.q).1,(zj j2.q).2),(47,[.b false,.b false,.u 0,.raw (.int .u64 0),.raw (.int .u64 0),.raw (.int .u64 0),.raw (.int .u64 0),.i 0,.i 0,.list 0 [] .full]),(47,(Enc.cells ((Rg.mk x1.2 x2 x4.1):Rg)))]) [some (109,.agg [.b false,.b false,.u 0,.raw (.int .u64 0),.raw (.int .u64 0),.raw (.int .u64 0),.raw (.int .u64 0),.i 0,.i 0,.list 0 [] .full]),some (110,.i ((List.length s:Int)-(List.length x1.1:Int))),some (111,.ptr 0 0),some (112,.ptr 0 0),some (113,.ptr 0 1),some (114,.i j2.a),some (115,.i (((List.length s:Int)-(List.length x1.1:Int))+j2.a)),some (116,.ptr 0 0),some (117,.ptr 0 0),some (118,.ptr 0 2),some (119,.i j2.e),none,some (3,.i (((List.length s:Int)-(List.length x1.1:Int))+j2.a)),some (4,.i j2.e)] ?_ ?_;iterate 5 refine f_o ?_
 refine f_l ?_;refine f_o ?_ (h:=fun _=>(z2r rfl rfl rfl rfl g7.1 g7.2));iterate 3 refine f_o ?_
 refine f_l ?_;refine f_s ?_ (h:=by kernel_rfl);iterate 2 refine f_o ?_
 exact f_e;exact zdl (fun(r:(Rg×Int×Int))=>(.tup [.agg (Enc.cells (r.1:Rg)),.raw (.int .i64 r.2.1),.raw (.int .i64 r.2.2)]:AV)) h (a:= .tup [.agg [.raw (.bool false),.raw (.bool false),.raw (.int .u8 0),.raw (.int .u64 0),.raw (.int .u64 0),.raw (.int .u64 0),.raw (.int .u64 0),.raw (.int .i64 0),.raw (.int .i64 0),.list 0 [] .full],.raw (.int .i64 (((List.length s:Int)-(List.length x1.1:Int))+j2.a)),.raw (.int .i64 j2.e)]) rfl (show zab _ _=true from(za (by kernel_rfl) (za rfl (za rfl rfl)))) (show AV.tup (stripL _)=_ from congrArg AV.tup (zg (by kernel_rfl) (zg rfl (zg rfl rfl))));refine zm ?_;refine zx [.v (.A ((Rg.mk x1.2 x2 x4.1):Rg))] ?_;obtain⟨x6,hx6,h⟩:=zr h;refine zdd (z4e (Rg.mk x1.2 x2 x4.1) x6 hx6) ?_;refine zz ?_;refine zx [.m _,.v (.b (x6 !=0))] ?_;refine zch h (fun hc8 h=> ?_) (fun hc8 h=> ?_);refine zm (zb ?_);refine w_qs (.A ((Rg.mk false false zbc):Rg)) rfl rfl rfl rfl (by simp only[zcw,stripL,Enc.stripL]<;>rfl) (by dsimp only[zi,List.set]) ?_;refine zz ?_;refine w_o (a:= .i (List.length s:Int)) (h:=zbf (zdw rfl rfl rfl)) ?_;refine zz ?_;refine zft 10 (Enc.cells ((Rg.mk false false zbc):Rg)) ?_;refine w_r [.m _,.m _] ?_;exact zbr (fun(r:(Rg×Int×Int))=> .tup [.A (r.1:Rg),.i r.2.1,.i r.2.2]) h (.tup [.A ((Rg.mk false false zbc):Rg),.i (List.length s:Int),.i x6]);refine zx [.v (.A ((Rg.mk x1.2 x2 x4.1):Rg)),.m _] ?_;refine w_o (a:= .i (List.length s:Int)) (h:=zbf (zdw rfl rfl rfl)) ?_;refine zft 10 (Enc.cells ((Rg.mk x1.2 x2 x4.1):Rg)) ?_;refine w_r [.m _,.v (.i 0)] ?_;exact zbr (fun(r:(Rg×Int×Int))=> .tup [.A (r.1:Rg),.i r.2.1,.i r.2.2]) h (.tup [.A ((Rg.mk x1.2 x2 x4.1):Rg),.i (List.length s:Int),.i 0])
end Go.Ab
