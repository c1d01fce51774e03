import Derived.Test.YtjkcellkmmfkdaaGreatDoorZhR4
import Derived.Lib.FrozenHead
set_option linter.all false
set_option maxRecDepth 100000
set_option maxHeartbeats 4000000
open Sum (inl inr)
open Nat (le_refl zero_add)
open List (length length_cons length_append length_nil mem_append foldl nil_append getElem?_set_ne getElem?_set_self mem_map isEmpty length_take)
open Go.Proofs.Tryz (prog)
namespace Go.Ab
open Go Go.RowKit Go.Fwd Go.Proofs
def crT (t:Tr):Bool:=(pre t).all zcn
def q1 (f:Tr->Bool)(n:Nat)(x:Tr):Option Bool:=if(pre x).length<n/\ crT x=true then some (f x) else none
variable {n:Nat}
def qaj (b n sz:Nat):AV:=match n with|0=> .list 0 [] .full|n+1=> .bsl b 0 (n+1) sz false
section
variable {α:Type}
theorem z8p {e:List α} (h:e.isEmpty=true)(b sz:Nat):qaj b e.length sz= .list 0 [] .full:=by rw[List.isEmpty_iff.1 h];rfl
theorem z7w {e:List α} (h:e.isEmpty=false)(b sz:Nat):qaj b e.length sz= .bsl b 0 e.length sz false:=by
 cases e with
 |nil=>cases h
 |cons x l=>rfl
theorem z0i {l:List α} (h:l.length=n)(hp:0<n)(b sz:Nat):AV.bsl b 0 n sz false=qaj b l.length sz:=by
 subst h;cases l with
 |nil=>exact absurd hp (Nat.lt_irrefl _)
 |cons x l=>rfl
theorem z8n {m b sz:Nat} {z:FZ} (h: ∀k,zhq m z (.bsl b 0 (k+1) sz false)= .bsl b 0 (k+1) sz false):zhq m z (qaj b n sz)=qaj b n sz:=by
 cases n with
 |zero=>rfl
 |succ n=>exact h n
end
section
variable {α:Type} [Enc α] {P:Program} {ρ:Operand->AV} {U:St} {o:Oper}
theorem qmm {c:Call} {x y:Operand} {t e:TypeId} {i:TypeInfo} {z:Value} {by':Nat} {r:List α} {st:Room} (hn:0<r.length/\ r.length*by'<=140737488355328)(ho:o.op= .call c)(hc:c.callee= .builtin .append)(ha:c.args.toList=[x,y])(ht:c.argTypes.toList=[t,t])
 (hx:ρ x= .list 0 [] .full) (hy:ρ y= .list r.length (Enc.cellsL r) st) (hu:P.underlying t=some (.slice e)) (hi:P.info? e=some i) (hz:i.zero=some z) (hsz:i.size=Enc.sz α) (hzs:z.cells.size=Enc.sz α) (hby:i.bytes=by'/\ 0<by'):
 zwg P ρ U o=some (.bsl U.boxes.length 0 r.length (Enc.sz α) false,{U with boxes:=U.boxes++[(e,Enc.cellsL r)]}):=by
 obtain⟨h1,h2⟩:=hn;have hp:=Enc.pos (α:=α);have hsrc:qer P U (Enc.sz α) t t (ρ y)=some (r.length,Enc.cellsL r):=by rw[hy];exact zuu ⟨rfl,by rw[Enc.lenL],by omega⟩
 have hmax:r.length<=maxLen:=by
  unfold maxLen;have:r.length*1<=r.length*by':=Nat.mul_le_mul_left _ hby.2
  omega
 have h:=z8s (P:=P) (U:=U) ho hc ha ht hx hu hi hz hsz hsrc ⟨hp,hzs,h1⟩ ⟨by simp,by rw[zero_add];exact hmax,by rw[zero_add,hby.1];exact h2⟩;rw[h,zero_add,nil_append]
end
section
variable {P:Program} {ρ:Operand->AV} {U:St} {o:Oper}
end
variable {g:FZ} {S S':List AV} {U:St} {n:Nat}
theorem hd_of {bx:List (TypeId×List AV)} {hs:List Nat} (h:(bx.mapIdx fun i b=>hs.contains i|| !b.2.isEmpty).all id=true)(i:Nat)(t:TypeId)(hi:bx[i]? =some (t,[])):hs.contains i=true:=by
 have h1:(bx.mapIdx fun i b=>hs.contains i|| !b.2.isEmpty)[i]? =some (hs.contains i|| !([]:List AV).isEmpty):=by
  rw[List.getElem?_mapIdx,hi];rfl
 have h2:=List.all_eq_true.1 h _ (List.mem_of_getElem? h1);simpa using h2
theorem fgR_of {m:Nat} (ms:List Bool)(h:fgM ms (zx m g S)=S'):Fg (zx m g S) S':=h▸znk ms _
theorem rd_back {Q:AQ} (U':St)(h:Q .normal S U')(e:U=U'):Q .normal S U:=e▸h
section
variable {α:Type} [Enc α]
theorem qhe {m:Nat} {cs:List AV} (h:cloL cs=true):zhq m g (.list n cs .full)= .list n cs .full:=by
 rw[zhq,zal m g _ h];rfl
theorem zoi {m:Nat} {l:List α} (h:l.length≠0->0<m):zhq m g (zcl l.length (Enc.cellsL l))=zcl l.length (Enc.cellsL l):=by
 unfold zcl;split
 ·rfl
 ·rename_i hn;have:=h hn;rw[zhq,zal m g _ (Enc.cloL l)];simp[qem,this]
end
theorem z7h {bs:List (TypeId×List AV)} {e sz:Nat} (h:n≠0):0<(zar bs e n sz).lens.length:=by
 simp[zar,h]
theorem zvm {d e sz:Nat} {js:List Nat} {t0 t1:TypeId} {c0 c0' c1 c1':List AV} {rest bs':List (TypeId×List AV)} (h0:zx (zar ((t0,c0)::(t1,c1)::rest) e n sz).lens.length (kz ((t0,c0)::(t1,c1)::rest) (zar ((t0,c0)::(t1,c1)::rest) e n sz).lens.length 2 [] js d) c0=c0')
 (h1:zx (zar ((t0,c0)::(t1,c1)::rest) e n sz).lens.length (kz ((t0,c0)::(t1,c1)::rest) (zar ((t0,c0)::(t1,c1)::rest) e n sz).lens.length 2 [] js d) c1=c1')
 (h:(js.map fun j=>((((t0,c0)::(t1,c1)::rest)[j]?).map fun b=>(b.1,zx (zar ((t0,c0)::(t1,c1)::rest) e n sz).lens.length (kz ((t0,c0)::(t1,c1)::rest) (zar ((t0,c0)::(t1,c1)::rest) e n sz).lens.length 2 [] js d) b.2)).getD (0,[.bad]))=bs'):
 zeo (zar ((t0,c0)::(t1,c1)::rest) e n sz) (zar ((t0,c0)::(t1,c1)::rest) e n sz).lens.length 2 [] js d=zar ((t0,c0')::(t1,c1')::bs') e n sz:=by
 refine zao rfl h0 h1 h ?_;unfold zar;by_cases hn:n=0
 ·simp[hn]
 ·simp[hn]
theorem qbu {hs:List Nat} {bx:List (TypeId×List AV)} {k:Nat} {q0:Stk} {r':Rd} {bs bs':List (TypeId×List AV)} {e sz:Nat}
 (h:(bs.mapIdx fun i b=>if i=0 then(tyR,rdC bx.length r') else if i=k then((zh q0).1,[]) else if hs.contains i=true then(bx[i]?).getD b else(b.1,zx (zar bs e n sz).lens.length (gz hs) b.2))++[zh r'.q]=bs'):zlx hs bx k q0 r' (zar bs e n sz)=zar bs' e n sz:=by
 subst h;rfl
theorem zzx {m0 k0:Nat} {K:List AV->St->Prop} {U':St} (ms:List Bool)(n:Nat)(js:List Nat)(d:Nat)(hm:m0<=0)(hn:k0<=n)(hok:zcu U n js=true)(h:fgM ms (zx 0 (kz U.boxes 0 n [] js d) S)=S')(hσ:zeo U 0 n [] js d=U')(k:K S' U'):qcw m0 k0 K S U:=
 .inr ⟨0,n,[],js,d,S',hm,hn,hok,h▸znk ms _,hσ▸k⟩
end Go.Ab
namespace Go.Ab
open Go Go.RowKit Go.Fwd
theorem zom (w:World)(a b:Array Value)(e:TypeId):(w.alloc (.cells a e)).setRow w.heap.size b=w.alloc (.cells b e):=by
 unfold World.setRow World.alloc;simp only;congr 1
 apply Array.ext_getElem?;intro i;rw[Array.getElem?_modify,Array.getElem?_push,Array.getElem?_push];by_cases h:w.heap.size=i
 ·subst h;simp
 ·simp[h,Ne.symm h]
theorem zwa (w:World)(g:Nat)(a b:Array Value):(w.setRow g a).setRow g b=w.setRow g b:=by
 unfold World.setRow;simp only;congr 1
 apply Array.ext_getElem?;intro i;simp only[Array.getElem?_modify];by_cases h:g=i
 ·subst h;simp only[if_true];cases w.heap[g]? with
  |none=>rfl
  |some o=>cases o<;>rfl
 ·simp[h]
theorem z5t {IT:IterP} (hIT:ITMono IT) {P:Program} {X:Cx} {U U':St} {t ty:TypeId} {n m b2 o2 cap2:Nat} {cs ds:List AV} {st st2:Room} {x y a:AV} {v:Value} {us ws:List Value} (h:zfv P U t x y=some (a,U'))(hxe:x= .list n cs st)(hye:y= .list m ds st2)(hx:Rep IT X x v)(hI:Inv IT U X)
 (hm0:m≠0) (w1':zbf IT X ds ws) (w2': ∀v∈ws,v.oneCell'=true) (hwl:us.length=ws.length) (u2: ∀v∈us,v.oneCell'=true) (hnews: ∀(j:Nat) w,us[j]? =some w->X.w.cell? ((⟨b2,o2,none⟩:Addr).add j)=some w):
 ∃ (g cap':Nat) (W:World) (pre post:List Value) (e:TypeId) (fz:Nat×Nat) (X':Cx),(Builtin.append_ #[t,t] ty #[v,.slice (some ⟨b2,o2,none⟩) m cap2]).run P X.w= .ok (.slice (some ⟨g,0,none⟩) (n+m) cap') W/\ W.heap[g]? =some (.cells (pre++us++post).toArray e fz)/\ fz.2<=pre.length/\ pre.length=cs.length/\
  X'.w=W.setRow g (pre++ws++post).toArray/\ Ext X X'/\ Inv IT U' X'/\ Rep IT X' a (.slice (some ⟨g,0,none⟩) (n+m) cap')/\ n+m<=cap':=by
 unfold zfv at h;split at h<;>try cases h
 rename_i e n' cs' st' m' ds' st2' hu;cases hxe;cases hye;split at h<;>try cases h
 rename_i i hi;split at h<;>try cases h
 rename_i z hz;have hx0:=hx;rw[Rep] at hx;obtain⟨ad,cap,rfl,⟨hcap,hnil⟩,hc,hst⟩:=hx;split at h
 ·rename_i hm;exact absurd hm.1 hm0
 ·split at h<;>try cases h
  rename_i hcond;obtain⟨q1,q2,q3,q4,q5,q6,q7⟩:=hcond;have hul:=zq w1';have hul2:us.length=m*i.size:=by omega
  have hup:0<ws.length:=by have:=Nat.mul_pos q3 q5;omega
  have hml:((n+m:Nat):Int)<=9223372036854775807:=by unfold maxLen at q6;omega
  have hnm:(n+m)*i.size=n*i.size+m*i.size:=Nat.add_mul _ _ _
  -- the old cells
  obtain⟨vs,v1,v2,v3⟩: ∃vs:List Value,zbf IT X cs vs/\ (∀w∈vs,w.oneCell'=true)/\ ∀b o,ad=some ⟨b,o,none⟩-> ∀(j:Nat) w,vs[j]? =some w->X.w.cell? ((⟨b,o,none⟩:Addr).add j)=some w:=by
   rcases hc with rfl|⟨b,o,rfl,hat⟩
   ·exact⟨[],by rw[zbf],by simp,by simp⟩
   ·obtain⟨vs,w1,w2,w3⟩:=zgp hat
    exact⟨vs,w1,w2,fun b' o' e' j w hj=>by cases e';rw[zgg];exact w3 j w hj⟩
  have hvl:=zq v1;have hone: ∀w∈vs++ws,w.oneCell'=true:=fun w hw=>(mem_append.1 hw).elim (v2 w) (w2' w);have hz2: ∀c,n+m<=c->(vs++ws++(Builtin.zeroCells z.cells (c-(n+m))).toList).length=c*i.size:=fun c hcc=>by
   have:=size_zeroCells z.cells (c-(n+m));simp only[length_append,Array.length_toList,this,q4, <-hvl, <-hul,q1,q2, <-Nat.add_mul];congr 1;omega
  -- where it grows
  have grow: ∀(c0:Nat) (hlt:c0<n+m),c0=cap-> ∃r,(Builtin.append_ #[t,t] ty #[.slice ad n cap,.slice (some ⟨b2,o2,none⟩) m cap2]).run P X.w=
   .ok (.slice (some ⟨X.w.heap.size,0,none⟩) (n+m) r) (X.w.drew.alloc (.cells (vs++us++(Builtin.zeroCells z.cells (r-(n+m))).toList).toArray e))/\ n+m<=r/\ r<=maxLen:=fun c0 hlt ec=>by
   subst ec;refine⟨grownCap X.w (n+m) c0 e,?_,grownCap_ge _ _ _ _,grownCap_le_maxLen _ _ _ _ q6⟩;rcases hc with rfl|⟨b,o,rfl,hat⟩
   ·have hn0:n=0:=by
     have:n*i.size=0:=by simpa using q1.symm
     rcases Nat.mul_eq_zero.1 this with h|h
     ·exact h
     ·omega
    subst hn0;have hvs:vs=[]:=by rw[zbf] at v1;exact v1
    subst hvs;cases ad with
    | none=>
     obtain rfl:c0=0:=hnil rfl;have hr:=run_append_nil (P:=P) X.w t ty e i z hu hi hz ⟨b2,o2,none⟩ m cap2 us (by omega) hnews q3 (by omega) (by simp at q7;omega);simp only[zero_add] at hr⊢;rw[hr];congr 2
     simp
    | some ad=>
     have hr:=run_append_grow (P:=P) X.w t ty e i z hu hi hz ad 0 c0 [] (by simp) (by simp) ⟨b2,o2,none⟩ m cap2 us (by omega) hnews (by omega) (by omega) (growslice_fits hlt q7);rw[hr];congr 2
     simp
   ·have hr:=run_append_grow (P:=P) X.w t ty e i z hu hi hz ⟨b,o,none⟩ n c0 vs (by omega) (v3 b o rfl) ⟨b2,o2,none⟩ m cap2 us (by omega) hnews (by omega) (by omega) (growslice_fits hlt q7);rw[hr];congr 2
    simp
  have hlens:X.lens=U.lens:=hI.lens;have hbl:=hI.βlen;have hvu:(vs++ws).length=(n+m)*i.size:=by rw[length_append, <-hvl, <-hul];omega
  have hcd:(cs++ds).length=(n+m)*i.size:=by rw[length_append];omega
  cases st with
  |none=>cases h
  | full=>
   simp only[Option.some.injEq,Prod.mk.injEq] at h;obtain⟨rfl,rfl⟩:=h;simp only at hst;subst hst;obtain⟨r,g1,g2,g3⟩:=grow cap (by omega) rfl
   obtain⟨X',x1,x2,x3,x4,x5,x6⟩:=zqx hIT hI (e:=e) (zbm v1 w1') hone i.size r q5 g3 (hz2 r g2)
    (β':=X.β++[⟨X.w.heap.size,e,i.size,r⟩]) (lens':=U.lens++[(cap+m)*i.size]) (elems':=U.elems++[e])
    (fun s L hs=>⟨L,by rw[<-hlens,List.getElem?_append_left (List.getElem?_eq_some_iff.1 hs).1];exact hs,le_refl _,fun _=>by
     rw[List.getElem?_append_left];rw[hbl];exact(List.getElem?_eq_some_iff.1 hs).1⟩)
    (by simp[hbl,hlens]) (by simp[hI.elems])
    (fun s q L hq hL=>by
     rcases Nat.lt_or_ge s X.β.length with hlt|hge
     ·rw[List.getElem?_append_left hlt] at hq;rw[<-hlens,List.getElem?_append_left (by omega)] at hL;exact .inl ⟨hq,hL⟩
     ·right
      have h0:s=X.β.length:=by
       have:=(List.getElem?_eq_some_iff.1 hq).1;simp at this;omega
      subst h0;rw[<-hlens,hbl] at hL;simp at hq hL;exact⟨hq.symm,by rw[hvu];exact hL.symm⟩)
    (by
     rw[List.map_append];refine List.nodup_append.2 ⟨hI.βnd,by simp,fun a ha b hb e=> ?_⟩;obtain⟨q,hq,rfl⟩:=mem_map.1 ha;have:=hI.βlt hq;simp at hb;omega)
   refine⟨X.w.heap.size,r,_,vs,_,e,(0,0),X',g1,heap_alloc_new X.w.drew _,Nat.zero_le _,hvl.symm,by rw[x1];exact(zom X.w.drew _ _ _).symm,x2,x3,?_,g2⟩;rw[Rep];refine⟨_,_,rfl,⟨g2,fun e=>by cases e⟩,.inr ⟨_,_,rfl,x4⟩,(cap+m)*i.size,?_,by omega,fun _=>⟨⟨X.w.heap.size,e,i.size,r⟩,?_,rfl,rfl,hcd⟩⟩
   ·rw[x6];simp
   ·rw[x5, <-hlens, <-hbl];simp
  | own s=>
   simp only at h;split at h<;>try cases h
   rename_i hown;obtain⟨w1,w2,w3⟩:=hown;obtain⟨L,k1,k2,k3⟩:=hst;have hLc:cs.length=L:=by rw[hlens] at k1;rw[k1] at w1;exact(Option.some.inj w1).symm
   obtain⟨r,k4,k5,rfl,k7⟩:=k3 hLc;subst hLc;have hsr:r.size=i.size:=by
    have:n*r.size=n*i.size:=by omega
    exact Nat.eq_of_mul_eq_mul_left w3 this
   have hre:r.elem=e:=by
    have h1:(X.β.map (·.elem))[s]? =some e:=by rw[hI.elems];exact w2
    rw[List.getElem?_map,k4] at h1;simpa using h1
   have hsl:s<X.lens.length:=(List.getElem?_eq_some_iff.1 k1).1;obtain⟨cur,fz,c1,c2,c3,c4,c5,c6,c7⟩:=hI.row s r cs.length k4 k1;subst k5;by_cases hroom:n+m<=r.cap
   ·have hfit:cs.length+ws.length<=cur.size:=by
     rw[c2,hsr];have:=Nat.mul_le_mul_right i.size hroom;omega
    obtain⟨X',x1,x2,x3,x4,x5,x6⟩:=zqk hIT hI k4 k1 c1 w1' w2' hup hfit;have hr:=run_append_roomF (P:=P) X.w t ty e i hu hi r.block n r.cap cur fz (by rw[<-hre];exact c1) (by omega) ⟨b2,o2,none⟩ m cap2 us (by omega) hnews u2 hroom (by omega);have hlen2:cs.length+ws.length=(n+m)*i.size:=by omega
    rw[hlen2] at x3 x6;have hr2:=hr;rw[<-q1,hwl] at hr2;refine⟨r.block,r.cap,_,cur.toList.take cs.length,cur.toList.drop (cs.length+ws.length),r.elem,fz,X',hr2,setRow_heap _ _ _ _ _ _ c1,by simp;omega,by simp;omega,by rw[x1,zwa],x2,x3,?_,hroom⟩
    ·rw[Rep];have hold:At IT X' cs r.block 0:=z5j hIT x2 _ _ _ (by
      rcases hc with rfl|⟨b,o,e1,hat⟩
      ·rw[At];trivial
      ·cases e1;exact hat)
     refine⟨_,_,rfl,⟨hroom,fun e=>by cases e⟩,.inr ⟨_,_,rfl,zov hold (by rw[zero_add];exact x4)⟩,(n+m)*i.size,?_,by omega,fun _=>⟨r,by rw[x5];exact k4,rfl,rfl,by rw[hcd,hsr]⟩⟩;rw[x6];simp[hsl]
   ·obtain⟨c,g1,g2,g3⟩:=grow r.cap (by omega) rfl
    obtain⟨X',x1,x2,x3,x4,x5,x6⟩:=zqx hIT hI (e:=e) (zbm v1 w1') hone i.size c q5 g3 (hz2 c g2)
     (β':=X.β.set s ⟨X.w.heap.size,e,i.size,c⟩) (lens':=U.lens.set s ((n+m)*i.size)) (elems':=U.elems)
     (fun s' L hs=>by
      by_cases es:s'=s
      ·subst es;rw[k1] at hs;cases hs;have:=Nat.mul_pos q3 q5;exact⟨(n+m)*i.size,by rw[<-hlens];simp[hsl],by omega,fun e=>by omega⟩
      ·exact⟨L,by rw[<-hlens,getElem?_set_ne (Ne.symm es)];exact hs,le_refl _,fun _=>by rw[getElem?_set_ne (Ne.symm es)]⟩)
     (by simp[hbl,hlens])
     (by
      rw[<-hI.elems,List.map_set];apply List.ext_getElem?;intro j;by_cases ej:s=j
      ·subst ej;rw[getElem?_set_self (by simp;omega),List.getElem?_map,k4];simp[hre]
      ·rw[getElem?_set_ne ej])
     (fun s' q L hq hL=>by
      by_cases es:s'=s
      ·subst es;right
       rw[getElem?_set_self (by omega)] at hq;rw[<-hlens,getElem?_set_self hsl] at hL;cases hq;cases hL;exact⟨rfl,hvu.symm⟩
      ·left
       rw[getElem?_set_ne (Ne.symm es)] at hq;rw[<-hlens,getElem?_set_ne (Ne.symm es)] at hL;exact⟨hq,hL⟩)
     (by
      rw[List.map_set];have hnd:=hI.βnd;have hfresh:X.w.heap.size∉X.β.map (·.block):=fun hm=>by
       obtain⟨q,hq,e'⟩:=mem_map.1 hm;have:=hI.βlt hq;omega
      exact zfu _ _ _ hnd hfresh)
    refine⟨X.w.heap.size,c,_,vs,_,e,(0,0),X',g1,heap_alloc_new X.w.drew _,Nat.zero_le _,hvl.symm,by rw[x1];exact(zom X.w.drew _ _ _).symm,x2,x3,?_,g2⟩;rw[Rep];refine⟨_,_,rfl,⟨g2,fun e=>by cases e⟩,.inr ⟨_,_,rfl,x4⟩,(n+m)*i.size,?_,by omega,fun _=>⟨⟨X.w.heap.size,e,i.size,c⟩,?_,rfl,rfl,hcd⟩⟩
    ·rw[x6, <-hlens];simp[hsl]
    ·rw[x5,getElem?_set_self (by omega)]
end Go.Ab
namespace Go.Ab
open Go Go.RowKit Go.Fwd Go.Proofs
theorem z5d (w:World)(g b:Nat)(r s:Array Value)(h:g≠b):(w.setRow g r).setRow b s=(w.setRow b s).setRow g r:=by
 unfold World.setRow;simp only;congr 1
 apply Array.ext_getElem?;intro i;simp only[Array.getElem?_modify];by_cases h1:b=i
 ·subst h1;simp[h]
 ·simp[h1]
theorem z3y (w:World)(g b:Nat)(r:Array Value)(h:g≠b):(w.setRow g r).heap[b]? =w.heap[b]? :=by
 unfold World.setRow;simp[Array.getElem?_modify,h]
theorem zzq {IT:IterP} (hIT:ITMono IT) {P:Program} {X:Cx} {U U':St} {t:TypeId} {s off:Nat} {y:AV} {u v:Value} (h:zpp P U t (.ptr s off) y=some U')(hx:Rep IT X (.ptr s off) u)(hy:Rep IT X y v)(hI:Inv IT U X):
 ∃b row,X.κ[s]? =some b/\ (∀w:World,w.heap[b]? =X.w.heap[b]? ->(Instr.storeAt t u v).run P w= .ok () (w.setRow b row))/\ Ext X {X with w:=X.w.setRow b row}/\ Inv IT U' {X with w:=X.w.setRow b row}:=by
 unfold zpp at h;simp only at h;rw[Rep] at hx;obtain⟨b,hb,rfl⟩:=hx;split at h<;>try cases h
 rename_i bx n hbx hn;obtain⟨t0,cs⟩:=bx;split at h<;>try cases h
 rename_i hc;obtain⟨hc1,hc2,hc3,hc4⟩:=hc;obtain⟨k1,k2⟩:=zlr hc1 hy;obtain⟨vs,zs,u1,u2,u3⟩:=hI.box s b t0 cs hb hbx;have hl:=zq u2;have hl2:=zq k1;simp only at hc3;have hsz:v.cells.size=n:=by simp at hl2;omega
 have hlist:v.cells.toList.length=n:=by simpa using hsz
 obtain⟨e1,e2⟩:=zur hIT hI (zs:=zs) hb hbx (by intro e;subst e;simp at hc3;omega) (fun cur t f hc=>by rw[u1] at hc;cases hc;simp at hl2⊢;omega) (zbm (zbm (zib u2 off) k1) (zih u2 (off+n)))
  (fun w hw=>by
   rcases mem_append.1 hw with hw|hw
   ·rcases mem_append.1 hw with hw|hw
    ·exact u3 w (List.mem_of_mem_take hw)
    ·exact k2 w hw
   ·exact u3 w (List.mem_of_mem_drop hw))
 have hrow:(vs++zs).take off++v.cells.toList++(vs++zs).drop (off+n)=vs.take off++v.cells.toList++vs.drop (off+n)++zs:=by
  rw[List.take_append_of_le_length (by omega),List.drop_append_of_le_length (by omega)];simp
 refine⟨b,_,hb,fun w hw=> ?_,e1,e2⟩;have hst:=run_storeCells_at P b off t0 v.cells.toList 0 (vs++zs).toArray w (hw.trans u1) (by simp at hl2⊢;omega) k2;simp only[Nat.add_zero] at hst;rw[hlist] at hst;simp only[Instr.storeAt,Instr.sureAddr,storeVar,Sem.run_bind,Sem.run_pure,Result.andThen_ok,zeb hn,hsz];simp only[<-hrow];simpa using hst
theorem qai {IT:IterP} (hIT:ITMono IT) {P:Program} {F:Fence} (hF:FenceOk F P) {nn B:Nat} {o:Oper} {S E:List AV} {U:St} {X0 X:Cx} {a:Act} {x:AV} {next:Act->World->Prop} {Q:Exit->Act->World->Prop} (h:qop P (zbw E) U o=some x)(hdf: ∀c,o.op≠ .defer c)(hn:Now IT none F B X0 S U X a)(hS:zad S o.dst .top=S)
 (hρ: ∀y∈o.op.operands,Rep IT X (zbw E y) (a.eval y)) (hK: ∀X' v,Ext X X'->Rep IT X' x v->Now IT none F B X0 S U X' (a.put o.dst v)->next (a.put o.dst v) X'.w):o.wpIn F nn P a X.w next Q:=by
 obtain⟨v,X',h1,h2,h3,h4,_⟩:=zpo hIT h hρ hn.inv;unfold Oper.wpIn;refine⟨fun f _=>hF.fn f,?_⟩;rw[Oper.semAt_plain F _ _ hdf,h1];have n:=zbz (P:=P) (M:=none) trivial hIT hn h2 h3 ⟨rfl,rfl⟩ o.dst (x:= .top) (v:=v) (by rw[Rep];trivial);rw[hS] at n;exact hK X' v h2 h4 n
theorem zoa {a:Act} {t:Nat} {v:Value} (h:t<a.tmps.size):(a.put (some t) v).eval (.tmp t)=v:=by simp[Act.put,Act.eval,h]
theorem zlc {a:Act} {t t':Nat} {v:Value} (h:t'≠t):(a.put (some t) v).eval (.tmp t')=a.eval (.tmp t'):=zeq _ _ _ _ (by intro e;exact h (Option.some.inj e).symm)
def SA (x:Tr):List AV:=[.top,.top,.ptr 3 0,.top,.ptr 5 0,.ptr 6 0,.top,.top,.agg (Enc.cells x),.top,.top,.top,.top,.top,.top,.top,.top,.top,.top,.top,.top,.top,.top,.top,.top,.top,.top,.top,.top,.top,.top,.top]
def zT:AV:= .list 1 [.raw (.int .u8 0),.raw (.int .u64 0),.raw (.int .u64 0),.raw (.int .u64 0),.raw (.int .u64 0),.raw (.int .i64 0),.raw (.int .i64 0),.list 0 [] .full] .full
structure App1 (F:Fence)(B:Nat)(X0:Cx)(x:Tr)(U:St)(ol:AV)(n:Nat)(d:Nat->Bool)(a:Act)(w:World):Prop where
 h: ∃X,X.w=w/\ Now (ITP prog) none F B X0 (SA x) U X a/\ (d 0=true->Rep (ITP prog) X ol (a.eval (.tmp 9)))/\ (d 1=true->Rep (ITP prog) X (.agg (Enc.cells x)) (a.eval (.tmp 10)))/\ (d 2=true->a.eval (.tmp 11)= .int .i64 (n:Int))/\ (d 3=true->Rep (ITP prog) X zT (a.eval (.tmp 12)))
structure App2 (F:Fence)(B:Nat)(X0:Cx)(x:Tr)(U1 U2:St)(nl:AV)(n:Nat)(d:Nat->Bool)(a:Act)(w:World):Prop where
 h : ∃(X:Cx) (g cap:Nat) (pre us ws post:List Value) (e:TypeId) (fz:Nat×Nat),Now (ITP prog) none F B X0 (SA x) (bif d 7 then U2 else U1) X a/\ g∉X.κ/\ (d 6=true->X.w=w)/\ (d 6=false->w.heap[g]? =some (.cells (pre++us++post).toArray e fz)/\ X.w=w.setRow g (pre++ws++post).toArray)/\ fz.2<=pre.length/\ pre.length=n*8/\ us.length=8/\ ws.length=8/\ (∀v∈ws,v.oneCell'=true)/\
  a.eval (.tmp 13)= .slice (some ⟨g,0,none⟩) (n+1) cap/\ Rep (ITP prog) X nl (a.eval (.tmp 13))/\ (d 5=true->a.eval (.tmp 14)= .pointer (some ⟨g,n*8,none⟩))/\ a.eval (.tmp 11)= .int .i64 (n:Int)/\ a.eval (.tmp 10)= .agg ws.toArray
theorem app_reg (b0 b1 b2' b3 b4:TypeId×List AV)(l:List Tr)(x:Tr)(h:l.length<2^40) {id id2:Nat} {ops:Array Oper} (hops:(do let c<-Tryz.f59.body;zka 5 c)=some ops):
 qjg (ITP prog) prog (.block id (.region id2 ops true)) (SA x) (zar [b0,b1,b2',b3,b4,(25,[zcl l.length (Enc.cellsL l)]),(27,Enc.cells x)] 27 l.length 8) (SA x) (zar [b0,b1,b2',b3,b4,(25,[zcl (l++[x]).length (Enc.cellsL (l++[x]))]),(27,[])] 27 (l++[x]).length 8):=by
 cases hops;intro F nn B X0 X a hF hI0 hn hfe;have hIT:=ze prog;refine wpIn_block ?_;obtain⟨U0,hσ0⟩: ∃U0,U0=zar [b0,b1,b2',b3,b4,(25,[zcl l.length (Enc.cellsL l)]),(27,Enc.cells x)] 27 l.length 8:=⟨_,rfl⟩;obtain⟨U1,hσ1⟩: ∃U1,U1=zar [b0,b1,b2',b3,b4,(25,[zcl l.length (Enc.cellsL l)]),(27,Enc.cells x)] 27 (l++[x]).length 8:=⟨_,rfl⟩;obtain⟨U2,hσ2⟩: ∃U2,U2=zar [b0,b1,b2',b3,b4,(25,[zcl (l++[x]).length (Enc.cellsL (l++[x]))]),(27,Enc.cells x)] 27 (l++[x]).length 8:=⟨_,rfl⟩;have hsz: ∀ {X:Cx} {a:Act} {U:St},Now (ITP prog) none F B X0 (SA x) U X a->a.tmps.size=32:=fun hn=>by
  have:=zq hn.reps;simpa[SA] using this.symm
 refine any_gen mix (fun d a w=>(d 4=false/\ App1 F B X0 x U0 (zcl l.length (Enc.cellsL l)) l.length d a w) \/(d 4=true/\ App2 F B X0 x U1 U2 (zcl (l++[x]).length (Enc.cellsL (l++[x]))) l.length d a w)) (by kernel_rfl) ?_ ?_ ?_
 ·obtain⟨hEx,hI⟩:=zjd hIT hn.inv;refine .inl ⟨rfl,⟨{X with w:=X.w.drew},rfl,?_,fun h=>(by cases h),fun h=>(by cases h),fun h=>(by cases h),fun h=>(by cases h)⟩⟩;subst hσ0;exact⟨Ext.trans hn.ext hEx,hI,zam hIT hEx _ _ hn.reps,hn.marks.ext hEx hn.inv,trivial⟩
 ·intro i o ho
  match i,ho with
  | 0,ho=>
   cases ho;refine⟨rfl,fun d a w next hd hbe hwt hI hK=> ?_⟩;rcases hI with⟨h4,⟨X,rfl,hn,k0,k1,k2,k3⟩⟩|⟨h4,_⟩
   ·refine qai (E:=SA x) (x:=zcl l.length (Enc.cellsL l)) hIT hF (qpm (.ptr 5 0) rfl rfl (by subst hσ0;rfl)) (fun c hc=>by cases hc) hn rfl (fun y _=>zde hn.reps y) fun X' v hE hr hn'=>hK _ _ (.inl ⟨by rw[zba (by decide)];exact h4,⟨X',rfl,hn',fun _=> ?_,fun h=> ?_,fun h=> ?_,fun h=> ?_⟩⟩)
    ·rw[zoa (by rw[hsz hn];decide)];exact hr
    ·rw[zlc (by decide)];exact zfe hIT hE _ _ (k1 (by rwa[zba (by decide)] at h))
    ·rw[zlc (by decide)];exact k2 (by rwa[zba (by decide)] at h)
    ·rw[zlc (by decide)];exact zfe hIT hE _ _ (k3 (by rwa[zba (by decide)] at h))
   ·have:=hbe 4 (by kernel_rfl);rw[h4] at this;cases this
  | 1,ho=>
   cases ho;refine⟨rfl,fun d a w next hd hbe hwt hI hK=> ?_⟩;rcases hI with⟨h4,⟨X,rfl,hn,k0,k1,k2,k3⟩⟩|⟨h4,_⟩
   ·refine qai (E:=SA x) (x:= .agg (Enc.cells x)) hIT hF (qpm (.ptr 6 0) rfl rfl (by subst hσ0;rfl)) (fun c hc=>by cases hc) hn rfl (fun y _=>zde hn.reps y) fun X' v hE hr hn'=>hK _ _ (.inl ⟨by rw[zba (by decide)];exact h4,⟨X',rfl,hn',fun h=> ?_,fun _=> ?_,fun h=> ?_,fun h=> ?_⟩⟩)
    ·rw[zlc (by decide)];exact zfe hIT hE _ _ (k0 (by rwa[zba (by decide)] at h))
    ·rw[zoa (by rw[hsz hn];decide)];exact hr
    ·rw[zlc (by decide)];exact k2 (by rwa[zba (by decide)] at h)
    ·rw[zlc (by decide)];exact zfe hIT hE _ _ (k3 (by rwa[zba (by decide)] at h))
   ·have:=hbe 4 (by kernel_rfl);rw[h4] at this;cases this
  | 2,ho=>
   cases ho;refine⟨rfl,fun d a w next hd hbe hwt hI hK=> ?_⟩;rcases hI with⟨h4,⟨X,rfl,hn,k0,k1,k2,k3⟩⟩|⟨h4,_⟩
   ·have h9:=k0 (hwt 0 (by kernel_rfl));refine qai (E:=(SA x).set 9 (zcl l.length (Enc.cellsL l))) (x:= .raw (.int .i64 (l.length:Int))) hIT hF (q_lenO rfl rfl rfl rfl rfl rfl) (fun c hc=>by cases hc) hn rfl (fun y hy=>by
     simp[Op.operands,Call.operands] at hy;subst hy;exact h9) fun X' v hE hr hn'=>hK _ _ (.inl ⟨by rw[zba (by decide)];exact h4,⟨X',rfl,hn',fun h=> ?_,fun h=> ?_,fun _=> ?_,fun h=> ?_⟩⟩)
    ·rw[zlc (by decide)];exact zfe hIT hE _ _ (k0 (by rwa[zba (by decide)] at h))
    ·rw[zlc (by decide)];exact zfe hIT hE _ _ (k1 (by rwa[zba (by decide)] at h))
    ·rw[zoa (by rw[hsz hn];decide)];exact hr
    ·rw[zlc (by decide)];exact zfe hIT hE _ _ (k3 (by rwa[zba (by decide)] at h))
   ·have:=hbe 4 (by kernel_rfl);rw[h4] at this;cases this
  | 3,ho=>
   cases ho;refine⟨rfl,fun d a w next hd hbe hwt hI hK=> ?_⟩;rcases hI with⟨h4,⟨X,rfl,hn,k0,k1,k2,k3⟩⟩|⟨h4,_⟩
   ·refine qai (E:=SA x) (x:=zT) hIT hF (by kernel_rfl) (fun c hc=>by cases hc) hn rfl (fun y _=>zde hn.reps y) fun X' v hE hr hn'=>hK _ _ (.inl ⟨by rw[zba (by decide)];exact h4,⟨X',rfl,hn',fun h=> ?_,fun h=> ?_,fun h=> ?_,fun _=> ?_⟩⟩)
    ·rw[zlc (by decide)];exact zfe hIT hE _ _ (k0 (by rwa[zba (by decide)] at h))
    ·rw[zlc (by decide)];exact zfe hIT hE _ _ (k1 (by rwa[zba (by decide)] at h))
    ·rw[zlc (by decide)];exact k2 (by rwa[zba (by decide)] at h)
    ·rw[zoa (by rw[hsz hn];decide)];exact hr
   ·have:=hbe 4 (by kernel_rfl);rw[h4] at this;cases this
  | 4,ho=>
   cases ho;refine⟨rfl,fun d a w next hd hbe hwt hI hK=> ?_⟩;rcases hI with⟨h4,⟨X,rfl,hn,k0,k1,k2,k3⟩⟩|⟨h4,_⟩
   rotate_left
   ·rw[h4] at hd;cases hd
   have r9:=k0 (hwt 0 (by kernel_rfl));have r10:=k1 (hwt 1 (by kernel_rfl));have r11:=k2 (hwt 2 (by kernel_rfl));have r12:=k3 (hwt 3 (by kernel_rfl));rw[zT,Rep] at r12;obtain⟨ad,cap2,e12,hcap2,hz,_⟩:=r12;obtain⟨b2,o2,rfl,hat⟩:=hz.resolve_left (by simp);obtain⟨us,u1,u2,u3⟩:=zgp hat
   rw[Rep] at r10;obtain⟨ws,e10,w1,w2⟩:=r10;have hul:us.length=8:=by simpa using(zq u1).symm
   have hwl:ws.length=8:=by have:=zq w1;rw[Enc.len] at this;exact this.symm
   have w1':zbf (ITP prog) X (Enc.cellsL [x]) ws:=by rw[Enc.cons,show Enc.cellsL ([]:List Tr)=[] from rfl,List.append_nil];exact w1
   have happ:zfv prog U0 25 (zcl l.length (Enc.cellsL l)) (.list [x].length (Enc.cellsL [x]) .full)=some (zcl (l++[x]).length (Enc.cellsL (l++[x])),U1):=by
    rw[hσ0,hσ1];exact zif (P:=prog) (t:=25) (e:=27) (by':=80) (by simp only[length_cons,length_nil];omega) rfl rfl rfl rfl rfl ⟨rfl,by decide⟩
   have hxe: ∃cs st,zcl l.length (Enc.cellsL l)= .list l.length cs st/\ cs.length=l.length*8:=by
    unfold zcl;split
    ·rename_i h0;exact⟨[],.full,by rw[h0],by rw[h0];rfl⟩
    ·exact⟨_,_,rfl,Enc.lenL _⟩
   obtain⟨cs9,st9,hxe,hcl⟩:=hxe;obtain⟨g,cap',W,pre,post,e,fz,X',q1,q2,q3,q4,q5,q6,q7,q8,q9⟩:=z5t (ty:=25) (us:=us) (b2:=b2) (o2:=o2) (cap2:=cap2) hIT happ hxe rfl r9 hn.inv (by simp) w1' w2 (by omega) u2 (fun j w hj=>by rw[zgg];exact u3 j w hj);have hnl: ∃cs r,zcl (l++[x]).length (Enc.cellsL (l++[x]))= .list (l++[x]).length cs (.own 0)/\ cs.length=(l++[x]).length*8/\ X'.lens[0]? =some ((l++[x]).length*8)/\ r=0:=by
    refine⟨Enc.cellsL (l++[x]),0,?_,Enc.lenL _,?_,rfl⟩
    ·unfold zcl;rw[if_neg (by simp)]
    ·rw[q7.lens,hσ1];simp[zar]
   obtain⟨cs',r0,hnl,hnc,hnlen,_⟩:=hnl;have hgκ:g∉X'.κ:=by
    have q8':=q8;rw[hnl,Rep] at q8';obtain⟨ad',cp',e',_,_,L,m1,m2,m3⟩:=q8';rw[hnlen] at m1;obtain⟨r,m4,m5,_⟩:=m3 (by rw[hnc];exact Option.some.inj m1);have e'':ad'=some ⟨g,0,none⟩:=by injection e' with e1 _ _;exact e1.symm
    have hg:r.block=g:=by rw[e''] at m5;injection m5 with m5;injection m5 with m5 _ _;exact m5.symm
    rw[<-hg];exact q7.βκ r (List.mem_of_getElem? m4)
   unfold Oper.wpIn;refine⟨fun f _=>hF.fn f,?_⟩;rw[Oper.semAt_plain F _ _ (fun c hc=>by cases hc)];have hrun: ∀o:Oper,o.op= .call ⟨.builtin .append, #[.tmp 9,.tmp 12], #[25,25]⟩->o.type=25->(execOp a.eval o).run prog X.w= .ok (.value (.slice (some ⟨g,0,none⟩) (l.length+1) cap')) W:=fun o h1 h2=>by
    have q1':=q1;simp at q1';simp[execOp,h1,resolve,invoke,builtin,h2,e12,q1']
   rw[hrun _ rfl rfl];have n1:=zbz (P:=prog) (M:=none) trivial hIT hn q6 q7 ⟨by rw[hσ1,hσ0];rfl,by rw[hσ1,hσ0];rfl⟩ (some 13) (x:= .top) (v:= .slice (some ⟨g,0,none⟩) (l.length+1) cap') (by rw[Rep];trivial);have d7:=hbe 7 (by kernel_rfl);have d6:=hbe 6 (by kernel_rfl);have d5:=hbe 5 (by kernel_rfl);refine hK _ _ (.inr ⟨zdk _ _,⟨X',g,cap',pre,us,ws,post,e,fz,?_,hgκ,fun h=> ?_,fun _=>⟨q2,q5⟩,q3,by rw[q4];exact hcl,hul,hwl,w2,?_,?_,fun h=> ?_,?_,?_⟩⟩)
   ·rw[zba (by decide),d7];exact n1
   ·rw[zba (by decide),d6] at h;cases h
   ·exact zoa (by rw[hsz hn];decide)
   ·rw[zoa (by rw[hsz hn];decide)];exact q8
   ·rw[zba (by decide),d5] at h;cases h
   ·rw[zlc (by decide)];exact r11
   ·rw[zlc (by decide)];exact e10
  | 5,ho=>
   cases ho;refine⟨rfl,fun d a w next hd hbe hwt hI hK=> ?_⟩;rcases hI with⟨h4,_⟩|⟨h4,⟨X,g,cap,pre,us,ws,post,e,fz,hn,hg,h6,h6',hfz,hpre,hus,hws,hone,e13,r13,h5,e11,e10⟩⟩
   ·have:=hwt 4 (by kernel_rfl);rw[h4] at this;cases this
   have d6:=hbe 6 (by kernel_rfl);unfold Oper.wpIn;refine⟨fun f _=>hF.fn f,?_⟩;rw[Oper.semAt_plain F _ _ (fun c hc=>by cases hc)];have hrun: ∀o:Oper,o.op= .indexAddr 25 (.tmp 13) (.tmp 11)->(execOp a.eval o).run prog w= .ok (.value (.pointer (some ⟨g,l.length*8,none⟩))) w:=fun o h1=>by
    have hs:zfh prog 27=some 8:=by kernel_rfl
    have hu:prog.underlying 25=some (.slice 27):=by kernel_rfl
    have h2:(0:Int)<=(l.length:Int):=by omega
    have h3:(l.length:Int)<((l.length+1:Nat):Int):=by omega
    simp[execOp,h1,e13,e11,Instr.indexAt,asIntOf,run_underlying hu,zeb hs,h2,zgg]
   rw[hrun _ rfl];have n1:=zbz (P:=prog) (M:=none) trivial hIT hn (Ext.refl X) hn.inv ⟨rfl,rfl⟩ (some 14) (x:= .top) (v:= .pointer (some ⟨g,l.length*8,none⟩)) (by rw[Rep];trivial);refine hK _ _ (.inr ⟨by rw[zba (by decide)];exact h4,⟨X,g,cap,pre,us,ws,post,e,fz,by rw[zba (by decide)];exact n1,hg,fun h=> ?_,fun _=>h6' d6,hfz,hpre,hus,hws,hone,?_,?_,fun _=> ?_,?_,?_⟩⟩)
   ·rw[zba (by decide),d6] at h;cases h
   ·rw[zlc (by decide)];exact e13
   ·rw[zlc (by decide)];exact r13
   ·exact zoa (by rw[hsz hn];decide)
   ·rw[zlc (by decide)];exact e11
   ·rw[zlc (by decide)];exact e10
  | 6,ho=>
   cases ho;refine⟨rfl,fun d a w next hd hbe hwt hI hK=> ?_⟩;rcases hI with⟨h4,_⟩|⟨h4,⟨X,g,cap,pre,us,ws,post,e,fz,hn,hg,h6,h6',hfz,hpre,hus,hws,hone,e13,r13,h5,e11,e10⟩⟩
   ·have:=hwt 4 (by kernel_rfl);rw[h4] at this;cases this
   have e14:=h5 (hwt 5 (by kernel_rfl));obtain⟨hrow,hX⟩:=h6' hd;have hst:=run_storeCells_atF prog g (l.length*8) e fz ws 0 (pre++us++post).toArray w hrow (by omega) (by simp;omega) hone;have hlist:(pre++us++post).take (l.length*8)++ws++(pre++us++post).drop (l.length*8+ws.length)=pre++ws++post:=by
    have e1:(pre++us++post).take (l.length*8)=pre:=by rw[List.append_assoc, <-hpre,List.take_left]
    have e2:(pre++us++post).drop (l.length*8+ws.length)=post:=by rw[<-hpre,show pre.length+ws.length=(pre++us).length by simp;omega,List.drop_left]
    rw[e1,e2]
   simp only[Nat.add_zero] at hst;rw[hlist, <-hX] at hst;unfold Oper.wpIn;refine⟨fun f _=>hF.fn f,?_⟩;rw[Oper.semAt_plain F _ _ (fun c hc=>by cases hc)];have hrun: ∀o:Oper,o.op= .store 27 (.tmp 14) (.tmp 10)->(execOp a.eval o).run prog w= .ok .skip X.w:=fun o h1=>by
    have hs:zfh prog 27=some 8:=by kernel_rfl
    have hc:(Value.agg ws.toArray).cells.toList=ws:=rfl;have hcs:(Value.agg ws.toArray).cells.size=8:=by show ws.toArray.size=8;simpa using hws
    simp[execOp,h1,e14,e10,Instr.storeAt,Instr.sureAddr,storeVar,zeb hs,hcs,hc,hst]
   rw[hrun _ rfl];have n1:=zbz (P:=prog) (M:=none) trivial hIT hn (Ext.refl X) hn.inv ⟨rfl,rfl⟩ none (x:= .top) (v:=undef) (by rw[Rep];trivial);refine hK _ _ (.inr ⟨by rw[zba (by decide)];exact h4,⟨X,g,cap,pre,us,ws,post,e,fz,by rw[zba (by decide)];exact n1,hg,fun _=>rfl,fun h=> ?_,hfz,hpre,hus,hws,hone,e13,r13,fun _=>e14,e11,e10⟩⟩);rw[zdk] at h;cases h
  | 7,ho=>
   cases ho;refine⟨rfl,fun d a w next hd hbe hwt hI hK=> ?_⟩;rcases hI with⟨h4,_⟩|⟨h4,⟨X,g,cap,pre,us,ws,post,e,fz,hn,hg,h6,h6',hfz,hpre,hus,hws,hone,e13,r13,h5,e11,e10⟩⟩
   ·have:=hwt 4 (by kernel_rfl);rw[h4] at this;cases this
   rw[hd] at hn;have hn:Now (ITP prog) none F B X0 (SA x) U1 X a:=hn;have r4:Rep (ITP prog) X (.ptr 5 0) (a.eval (.tmp 4)):=zde hn.reps (.tmp 4);have hnl: ∃cs,zcl (l++[x]).length (Enc.cellsL (l++[x]))= .list (l++[x]).length cs (.own 0):=⟨_,by unfold zcl;rw[if_neg (by simp)]⟩;obtain⟨csn,hnl⟩:=hnl;have has:zpp prog U1 25 (.ptr 5 0) (zcl (l++[x]).length (Enc.cellsL (l++[x])))=some U2:=by
    rw[hσ1,hσ2,hnl];have hs:zfh prog 25=some 1:=by kernel_rfl
    simp[zpp,zar,hs,ziw,cellsOf]
   obtain⟨b,row,kb,hrunb,hE,hI2⟩:=zzq hIT has r4 r13 hn.inv;have hbg:g≠b:=fun e=>hg (by rw[e];exact List.mem_of_getElem? kb);have hwb:w.heap[b]? =X.w.heap[b]? :=by
    cases d6:d 6 with
    |true=>rw[h6 d6]
    |false=>rw[(h6' d6).2,z3y _ _ _ _ hbg]
   unfold Oper.wpIn;refine⟨fun f _=>hF.fn f,?_⟩;rw[Oper.semAt_plain F _ _ (fun c hc=>by cases hc)];have hrun: ∀o:Oper,o.op= .store 25 (.tmp 4) (.tmp 13)->(execOp a.eval o).run prog w= .ok .skip (w.setRow b row):=fun o h1=>by
    simp[execOp,h1,hrunb w hwb]
   rw[hrun _ rfl];have n1:=zbz (P:=prog) (M:=none) trivial hIT hn hE hI2 ⟨by rw[hσ1,hσ2];rfl,by rw[hσ1,hσ2];rfl⟩ none (x:= .top) (v:=undef) (by rw[Rep];trivial);refine hK _ _ (.inr ⟨by rw[zba (by decide)];exact h4,⟨{X with w:=X.w.setRow b row},g,cap,pre,us,ws,post,e,fz,by rw[zdk];exact n1,hg,fun h=> ?_,fun h=> ?_,hfz,hpre,hus,hws,hone,e13,zfe hIT hE _ _ r13,fun h=>h5 (by rwa[zba (by decide)] at h),e11,e10⟩⟩)
   ·rw[zba (by decide)] at h;show X.w.setRow b row=_;rw[h6 h]
   ·rw[zba (by decide)] at h;obtain⟨p1,p2⟩:=h6' h;refine⟨by rw[z3y _ _ _ _ (Ne.symm hbg)];exact p1,?_⟩;show X.w.setRow b row=_;rw[p2,z5d _ _ _ _ _ hbg]
  |n+8,ho=>simp at ho
 ·intro a w hI;rcases hI with⟨h4,_⟩|⟨_,⟨X,g,cap,pre,us,ws,post,e,fz,hn,_,h6,_⟩⟩
  ·cases h4
  ·refine⟨rfl,X,h6 rfl,?_⟩;have hn:Now (ITP prog) none F B X0 (SA x) U2 X a:=hn;subst hσ2;exact {hn with inv:=zsx hn.inv (s:=6) (t:=27) (cs:=Enc.cells x) rfl}
def zsw (r:Rd):Option Rd:=
 (some r)
theorem ent106:Ent prog 106:=enters_of Tryz.func106 (by kernel_rfl) rfl
theorem qin (r:Rd)  (y:Rd)(h:zsw r=some y):RdC prog 106 [] r (.clos 153 [.iptr [.ptr 0 0]]) y:=by
 obtain⟨d,hd⟩: ∃d,Tryz.f106.body=some d:=⟨_,rfl⟩;refine qof mix Tryz.func106 hd ent106 rfl (fun m g hg=>by simp only[zhq,zx,hg]) (fun k0 hk0=> ?_);cases hd;unfold zsw at h;refine zbt (by dsimp only[zai,Tryz.f106,length_cons,length_nil,zero_add,Nat.reduceAdd,Nat.reduceSub,List.replicate,List.cons_append,nil_append]) (show rdS r.q r=⟨[(110,[.s r.s,.i r.a,.i r.e,(zbb 2 r.q)]),((zh r.q).1,[]),((zh r.q).1,(zh r.q).2)],[],[],0,false⟩ from rfl) ?_;refine zj (zb ?_);refine zoc (a:= .ptr 3 0) (U'':=⟨[(110,[.s r.s,.i r.a,.i r.e,(zbb 2 r.q)]),((zh r.q).1,[]),((zh r.q).1,(zh r.q).2),(108,[.ptr 0 0])],[],[],0,false⟩) ?_;refine w_o (a:= .raw Value.nilFunc) ?_;refine zj (zb ?_);refine w_o (a:= .clos 153 [.ptr 3 0]) ?_;refine zah ?_;have he1:=Option.some.inj h;subst he1;exact zgf (a:= .clos 153 [.ptr 3 0]) [2] 1 rfl rfl rfl (zao rfl (zf (zo _ _ _ rfl) (zf (zo _ _ _ rfl) (zf (zo _ _ _ rfl) (zf (zff (fun _=>rfl)) zi)))) zi (zg rfl (zp _ _ _) zag) rfl)
theorem ent153b:Ent prog 153:=enters_of Tryz.func153 (by kernel_rfl) rfl
def z4l (fuel:Nat)(pcs:Rd->Option (List Tr×Rd))(r:Rd):Option (Tr×Rd):=
 (zda (τ:=Rd×(List Tr)) (zbk (β:=Rd×(List Tr)) (fun s1=>(zda (τ:=Rd×(List Tr)) (zaa (zsw s1.1) (fun x1=>(zaa (pcs x1) (fun x2=>(zda (zcp (β:=(List Tr)) (fun s2 w1=>(chk (length s2<2^40) (some (inl ((s2++[w1])))))) x2.1 (([]:List Tr))) (fun s2=>(some (inl (x2.2,s2))))))))) (fun j2=>(chk ((zck j2.2).length<=2^40) (zaz (z0u j2.2) (fun x3=>(bif (isEmpty s1.2) then(chk (0<(length [x3])/\ (length [x3])*80<=140737488355328) (zaa (zeu j2.1) (fun x4=>(bif (x4.1 !=124) then(some (inr (inl (x4.2,[x3])))) else(chk (-9223372036854775808<=(x4.2.a+1)/\ (x4.2.a+1)<9223372036854775808) (some (inl ((Rd.mk x4.2.s (x4.2.a+1) x4.2.e x4.2.q),[x3])))))))) else(chk (length s1.2=(length s1.2)/\ 0<(length s1.2)/\ 0<length [x3]/\ ((length s1.2)+length [x3])*80<=140737488355328) (zaa (zeu j2.1) (fun x5=>(bif (x5.1 !=124) then(some (inr (inl (x5.2,(s1.2++[x3]))))) else(chk (-9223372036854775808<=(x5.2.a+1)/\ (x5.2.a+1)<9223372036854775808) (some (inl ((Rd.mk x5.2.s (x5.2.a+1) x5.2.e x5.2.q),(s1.2++[x3])))))))))))))))) fuel (r,([]:List Tr))) (fun j1=>(bif (isEmpty j1.2) then(chk ((zck ([]:List Tr)).length<=2^40) (zaz (orT ([]:List Tr)) (fun x6=>(some (x6,j1.1))))) else(chk ((zck j1.2).length<=2^40) (zaz (orT j1.2) (fun x7=>(some (x7,j1.1))))))))
theorem ent59:Ent prog 59:=enters_of Tryz.func59 (by kernel_rfl) rfl
set_option maxHeartbeats 16000000 in
theorem alts_rd (fuel:Nat)(pcs:Rd->Option (List Tr×Rd))(r:Rd)(hpc: ∀(r:Rd)(y:List Tr×Rd),pcs r=some y->RdIt prog 153 r (y.1.map znp) y.2)(y:Tr×Rd)(h:z4l fuel pcs r=some y):RdC prog 59 [] r (.agg (Enc.cells (y.1:Tr))) y.2:=by
 obtain⟨d,hd⟩: ∃d,Tryz.f59.body=some d:=⟨_,rfl⟩;refine qci mix Tryz.func59 hd ent59 rfl (by first|rfl|exact(zak (Enc.clo _))) (fun k0 hk0=> ?_);cases hd;unfold z4l at h;refine zbt (by dsimp only[zai,Tryz.f59,length_cons,length_nil,zero_add,Nat.reduceAdd,Nat.reduceSub,List.replicate,List.cons_append,nil_append]) (show rdS r.q r=⟨[(110,[.s r.s,.i r.a,.i r.e,(zbb 2 r.q)]),((zh r.q).1,[]),((zh r.q).1,(zh r.q).2)],[],[],0,false⟩ from rfl) ?_;refine zj (zb ?_);refine zoc (a:= .ptr 3 0) (U'':=⟨[(110,[.s r.s,.i r.a,.i r.e,(zbb 2 r.q)]),((zh r.q).1,[]),((zh r.q).1,(zh r.q).2),(27,[.u 0,.raw (.int .u64 0),.raw (.int .u64 0),.raw (.int .u64 0),.raw (.int .u64 0),.i 0,.i 0,.list 0 [] .full])],[],[],0,false⟩) ?_;refine qdw ?_;refine zgt (zb ?_);refine w_o (a:= .list 0 [] .full) ?_;refine qdm (S':=(.ptr 0 0:: .raw undef:: .ptr 3 0::(qaj 4 (length ([]:List Tr)) 8):: .raw undef:: .raw undef:: .raw undef:: .raw undef:: .raw undef:: .raw undef:: .raw undef:: .raw undef:: .raw undef:: .raw undef:: .raw undef:: .raw undef:: .raw undef:: .raw undef:: .raw undef:: .raw undef:: .raw undef:: .raw undef:: .raw undef:: .raw undef:: .raw undef:: .raw undef:: .raw undef:: .raw undef:: .raw undef:: .raw undef:: .raw undef:: .raw undef::[])) (U':=⟨[(110,[.s r.s,.i r.a,.i r.e,(zbb 2 r.q)]),((zh r.q).1,[]),((zh r.q).1,(zh r.q).2),(27,[.u 0,.raw (.int .u64 0),.raw (.int .u64 0),.raw (.int .u64 0),.raw (.int .u64 0),.i 0,.i 0,.list 0 [] .full]),(27,(Enc.cellsL (([]:List Tr):List Tr)))],[],[],0,false⟩) (qmc (true::true::true::true::true::true::true::true::true::true::true::true::true::true::true::true::true::true::true::true::true::true::true::true::true::true::true::true::true::true::true::true::[]) 3 rfl rfl rfl) ?_;refine zj ?_;refine qiq ?_;refine zau h [0,1,3,4,5,6,7,8,9,10,11,12,13,14,15,16,17,18,19,20,21,22,23,24,25,26,27,28,29,30,31] (fun j1=>[(3,(qaj 4 (length j1.2) 8))]) (fun j1=>⟨[(110,[.s j1.1.s,.i j1.1.a,.i j1.1.e,(zbb 2 j1.1.q)]),((zh r.q).1,[]),((zh j1.1.q).1,(zh j1.1.q).2),(27,[.u 0,.raw (.int .u64 0),.raw (.int .u64 0),.raw (.int .u64 0),.raw (.int .u64 0),.i 0,.i 0,.list 0 [] .full]),(27,(Enc.cellsL (j1.2:List Tr)))],[],[],0,false⟩) ?_ ?_;intro or1 h hr1;refine z7f ?_;refine zdg h [1,3,4,5,6,7,8,9,10,11,12,13,14,15,16,17,18,19,20,21,22,23,24,25,26,27,28,29,30,31] (fun s1=>[(3,(qaj 4 (length s1.2) 8))]) (fun s1=>⟨[(110,[.s s1.1.s,.i s1.1.a,.i s1.1.e,(zbb 2 s1.1.q)]),((zh r.q).1,[]),((zh s1.1.q).1,(zh s1.1.q).2),(27,[.u 0,.raw (.int .u64 0),.raw (.int .u64 0),.raw (.int .u64 0),.raw (.int .u64 0),.i 0,.i 0,.list 0 [] .full]),(27,(Enc.cellsL (s1.2:List Tr)))],[],[],0,false⟩) ?_ ?_;exact z5m (bl 32 13) (by kernel_rfl) (by kernel_rfl);intro s1 p1 h;refine zbt (by dsimp only[zbq,zdf,foldl,List.set]) rfl ?_;refine z7f ?_;refine zj (zb ?_);refine zoc (a:= .ptr 5 0) (U'':=⟨[(110,[.s s1.1.s,.i s1.1.a,.i s1.1.e,(zbb 2 s1.1.q)]),((zh r.q).1,[]),((zh s1.1.q).1,(zh s1.1.q).2),(27,[.u 0,.raw (.int .u64 0),.raw (.int .u64 0),.raw (.int .u64 0),.raw (.int .u64 0),.i 0,.i 0,.list 0 [] .full]),(27,(Enc.cellsL (s1.2:List Tr))),(25,[.list (length (([]:List Tr):List Tr)) (Enc.cellsL (([]:List Tr):List Tr)) .full])],[],[],0,false⟩) ?_;refine zau h [5,6,7,8,9,10,11,12,13,14] (fun j2=>[]) (fun j2=>(zar [(110,[.s j2.1.s,.i j2.1.a,.i j2.1.e,(zbb 2 j2.1.q)]),((zh r.q).1,[]),((zh j2.1.q).1,(zh j2.1.q).2),(27,[.u 0,.raw (.int .u64 0),.raw (.int .u64 0),.raw (.int .u64 0),.raw (.int .u64 0),.i 0,.i 0,.list 0 [] .full]),(27,(Enc.cellsL (s1.2:List Tr))),(25,[(zcl (length (j2.2:List Tr)) (Enc.cellsL (j2.2:List Tr)))])] 27 (length (j2.2:List Tr)) 8)) ?_ ?_;intro or2 h hr2;refine zgt (zb ?_);refine zah ?_;obtain⟨x1,hx1,h⟩:=zm h;refine zfj (r:= .clos 153 [.iptr [.ptr 0 0]]) (U':=⟨[(110,[.s x1.s,.i x1.a,.i x1.e,(zbb 6 x1.q)]),((zh r.q).1,[]),((zh s1.1.q).1,[]),(27,[.u 0,.raw (.int .u64 0),.raw (.int .u64 0),.raw (.int .u64 0),.raw (.int .u64 0),.i 0,.i 0,.list 0 [] .full]),(27,(Enc.cellsL (s1.2:List Tr))),(25,[.list (length (([]:List Tr):List Tr)) (Enc.cellsL (([]:List Tr):List Tr)) .full]),((zh x1.q).1,(zh x1.q).2)],[],[],0,false⟩) ((qin s1.1 x1 hx1) _ 2 (by decide) rfl rfl) rfl rfl ⟨rfl,rfl⟩ (by dsimp only[zad,List.set]) ?_;refine qdm (S':=[.ptr 0 0,.top,.ptr 3 0,(qaj 4 (length s1.2) 8),.ptr 5 0,.top,.top,.clos 153 [.iptr [.ptr 0 0]],.top,.top,.top,.top,.top,.top,.top,.top,.top,.top,.top,.top,.top,.top,.top,.top,.top,.top,.top,.top,.top,.top,.top,.top]) (U':=⟨[(110,[.s x1.s,.i x1.a,.i x1.e,(zbb 2 x1.q)]),((zh r.q).1,[]),((zh x1.q).1,(zh x1.q).2),(27,[.u 0,.raw (.int .u64 0),.raw (.int .u64 0),.raw (.int .u64 0),.raw (.int .u64 0),.i 0,.i 0,.list 0 [] .full]),(27,(Enc.cellsL (s1.2:List Tr))),(25,[.list (length (([]:List Tr):List Tr)) (Enc.cellsL (([]:List Tr):List Tr)) .full])],[],[],0,false⟩) (ztl (bl 32 157) 2 [] [6,3,4,5] 1 hk0 rfl (zcq rfl (zcr (zcq rfl (zcq (z8n (fun _=>rfl)) (zcq rfl (zcr (zcr (zcq rfl (zed (zed (zed zjf))))))))))) (zao rfl (zf (zo _ _ _ rfl) (zf (zo _ _ _ rfl) (zf (zo _ _ _ rfl) (zf (zff (fun _=>rfl)) zi)))) zi (zg rfl (zp _ _ _) (zg rfl rfl (zg rfl (zal _ _ _ (Enc.cloL _)) (zg rfl (zf (qhe (Enc.cloL _)) zi) zag)))) rfl)) ?_;refine zy ?_;obtain⟨x2,hx2,h⟩:=zm h;refine qei h znp (fun s2=>(zar [(27,[]),(27,[]),(27,[]),(27,[.u 0,.raw (.int .u64 0),.raw (.int .u64 0),.raw (.int .u64 0),.raw (.int .u64 0),.i 0,.i 0,.list 0 [] .full]),(27,[]),(25,[(zcl (length (s2:List Tr)) (Enc.cellsL (s2:List Tr)))])] 27 (length (s2:List Tr)) 8)) 2 3 [0,1,2,4] (tm:=27) (S':=[.top,.top,.ptr 3 0,.top,.ptr 5 0,.top,.top,.top,.top,.top,.top,.top,.top,.top,.top,.top,.top,.top,.top,.top,.top,.top,.top,.top,.top,.top,.top,.top,.top,.top,.top,.top]) ((hpc _ _ hx2)) ent153b rfl (by decide) rfl rfl rfl rfl (hd_of (by kernel_rfl)) rfl rfl (fgR_of [false,false,true,false,true,false,false,false,false,false,false,false,false,false,false,false,false,false,false,false,false,false,false,false,false,false,false,false,false,false,false,false] (zcr (zcr (zcq rfl (zcr (zcq rfl (zed (zed (zed (zcr (zcr (zcr zjf)))))))))))) (fun _=>rfl) rfl rfl ?_ ?_;intro s2 w1 p2 h;refine zbt (by dsimp only[zkc,List.zip,List.zipWith,foldl,List.set,Array.toList,znp]) rfl ?_;refine zb (k0:=k0) (id:=4) ?_;refine zoc (a:= .ptr 6 0) (U'':=(zar [(27,[]),(27,[]),(27,[]),(27,[.u 0,.raw (.int .u64 0),.raw (.int .u64 0),.raw (.int .u64 0),.raw (.int .u64 0),.i 0,.i 0,.list 0 [] .full]),(27,[]),(25,[(zcl (length (s2:List Tr)) (Enc.cellsL (s2:List Tr)))]),(27,[.u 0,.raw (.int .u64 0),.raw (.int .u64 0),.raw (.int .u64 0),.raw (.int .u64 0),.i 0,.i 0,.list 0 [] .full])] 27 (length (s2:List Tr)) 8)) ?_;refine zoc (U'':=(zar [(27,[]),(27,[]),(27,[]),(27,[.u 0,.raw (.int .u64 0),.raw (.int .u64 0),.raw (.int .u64 0),.raw (.int .u64 0),.i 0,.i 0,.list 0 [] .full]),(27,[]),(25,[(zcl (length (s2:List Tr)) (Enc.cellsL (s2:List Tr)))]),(27,(Enc.cells (w1:Tr)))] 27 (length (s2:List Tr)) 8)) (h:=zec (n:=8) rfl rfl rfl rfl rfl rfl rfl rfl (by decide)) ?_;obtain⟨g1,h⟩:=zk h;refine w_semB [.top,.top,.ptr 3 0,.top,.ptr 5 0,.ptr 6 0,.top,.top,.agg (Enc.cells (w1:Tr)),.top,.top,.top,.top,.top,.top,.top,.top,.top,.top,.top,.top,.top,.top,.top,.top,.top,.top,.top,.top,.top,.top,.top] (zar [(27,[]),(27,[]),(27,[]),(27,[.u 0,.raw (.int .u64 0),.raw (.int .u64 0),.raw (.int .u64 0),.raw (.int .u64 0),.i 0,.i 0,.list 0 [] .full]),(27,[]),(25,[(zcl (length ((s2++[w1]):List Tr)) (Enc.cellsL ((s2++[w1]):List Tr)))]),(27,[])] 27 (length ((s2++[w1]):List Tr)) 8) (app_reg _ _ _ _ _ s2 w1 g1 rfl) ?_;exact zes (p:=p2) ((s2++[w1])) h (zci (zaj rfl (zaj rfl (zaj rfl (zaj rfl (zaj rfl (zaj (za (zeg (Enc.cloL _)) rfl) rfl))))))) (by kernel_rfl);intro s2 h;refine rd_back (zar [(110,[.s x2.2.s,.i x2.2.a,.i x2.2.e,(zbb 6 x2.2.q)]),((zh r.q).1,[]),((zh x1.q).1,[]),(27,[.u 0,.raw (.int .u64 0),.raw (.int .u64 0),.raw (.int .u64 0),.raw (.int .u64 0),.i 0,.i 0,.list 0 [] .full]),(27,(Enc.cellsL (s1.2:List Tr))),(25,[(zcl (length (s2:List Tr)) (Enc.cellsL (s2:List Tr)))]),((zh x2.2.q).1,(zh x2.2.q).2)] 27 (length (s2:List Tr)) 8) ?_ (qbu (congrArg (fun(z:List AV)=>([(110,[.s x2.2.s,.i x2.2.a,.i x2.2.e,(zbb 6 x2.2.q)]),((zh r.q).1,[]),((zh x1.q).1,[]),(27,[.u 0,.raw (.int .u64 0),.raw (.int .u64 0),.raw (.int .u64 0),.raw (.int .u64 0),.i 0,.i 0,.list 0 [] .full]),(27,(Enc.cellsL (s1.2:List Tr))),(25,z),((zh x2.2.q).1,(zh x2.2.q).2)]:List (TypeId×List AV))) (zf (zoi (fun hn=>z7h hn)) zi)));refine zc (o:=or2) (x2.2,s2) h ?_;exact(ztl (bl 32 4294934559) 2 [] [6,3,4,5] 1 hk0 rfl (by dsimp only[zbq,zdf,foldl,List.set];exact(zcq rfl (zcq rfl (zcq rfl (zcq (z8n (fun _=>rfl)) (zcq rfl (zed (zcr (zcr (zcq rfl (zcq rfl (zcq rfl (zcq rfl (zcq rfl (zcq rfl (zcq rfl (zcq rfl (zcq rfl (zcq rfl (zcq rfl (zcq rfl (zcq rfl (zcq rfl (zcq rfl (zcq rfl (zcq rfl zjf)))))))))))))))))))))))))) (zvm (zf (zo _ _ _ rfl) (zf (zo _ _ _ rfl) (zf (zo _ _ _ rfl) (zf (zff (fun _=>rfl)) zi)))) zi (zg rfl (zp _ _ _) (zg rfl rfl (zg rfl (zal _ _ _ (Enc.cloL _)) (zg rfl (zf (zoi (fun hn=>z7h hn)) zi) zag))))));intro j2 h;refine zbt (by dsimp only[zbq,zdf,foldl,List.set]) rfl ?_;refine zj (zb ?_);refine zah ?_;refine w_o (a:=(zcl (length (j2.2:List Tr)) (Enc.cellsL (j2.2:List Tr)))) ?_;obtain⟨g2,h⟩:=zk h;obtain⟨x3,hx3,h⟩:=zn h;refine zkl (args':=[.list (length (j2.2:List Tr)) (Enc.cellsL (j2.2:List Tr)) .none]) (r:= .agg (Enc.cells (x3:Tr))) (by rw[<-hx3];exact(k_seq j2.2 g2)) rfl rfl (zu (zvp (Enc.cloL _) Enc.z) rfl) (za (zeg (Enc.cloL _)) rfl) (by dsimp only[zad,List.set]) ?_;refine w_o (a:= .list (length ([x3]:List Tr)) (Enc.cellsL ([x3]:List Tr)) .full) (h:=zbl (zhc (α:=Tr) (l:=[x3]) (cs:=Enc.cells (x3:Tr)++[]) rfl (by rw[Enc.cons,Enc.nil]))) ?_;refine zan h (fun hc1 h=> ?_) (fun hc1 h=> ?_);rw[z8p (b:=4) hc1];obtain⟨g3,h⟩:=zk h;refine z1v (a:= .bsl 6 0 (length [x3]) 8 false) (U'':=(zar [(110,[.s j2.1.s,.i j2.1.a,.i j2.1.e,(zbb 2 j2.1.q)]),((zh r.q).1,[]),((zh j2.1.q).1,(zh j2.1.q).2),(27,[.u 0,.raw (.int .u64 0),.raw (.int .u64 0),.raw (.int .u64 0),.raw (.int .u64 0),.i 0,.i 0,.list 0 [] .full]),(27,(Enc.cellsL (s1.2:List Tr))),(25,[(zcl (length (j2.2:List Tr)) (Enc.cellsL (j2.2:List Tr)))]),(27,(Enc.cellsL ([x3]:List Tr)))] 27 (length (j2.2:List Tr)) 8)) rfl rfl rfl (qmm (α:=Tr) (r:=[x3]) (by':=80) g3 rfl rfl rfl rfl rfl rfl rfl rfl rfl rfl rfl ⟨rfl,by decide⟩) (by dsimp only[zad,List.set]) rfl ?_;refine zah ?_;refine zj ?_;refine zgt (zb ?_);refine zah ?_;obtain⟨x4,hx4,h⟩:=zm h;refine zfj (r:= .u x4.1) (U':=(zar [(110,[.s x4.2.s,.i x4.2.a,.i x4.2.e,(zbb 7 x4.2.q)]),((zh r.q).1,[]),((zh j2.1.q).1,[]),(27,[.u 0,.raw (.int .u64 0),.raw (.int .u64 0),.raw (.int .u64 0),.raw (.int .u64 0),.i 0,.i 0,.list 0 [] .full]),(27,(Enc.cellsL (s1.2:List Tr))),(25,[(zcl (length (j2.2:List Tr)) (Enc.cellsL (j2.2:List Tr)))]),(27,(Enc.cellsL ([x3]:List Tr))),((zh x4.2.q).1,(zh x4.2.q).2)] 27 (length (j2.2:List Tr)) 8)) ((zqm j2.1 x4 hx4) _ 2 (by decide) rfl rfl) rfl rfl ⟨rfl,rfl⟩ (by dsimp only[zad,List.set]) ?_;refine w_o (a:= .b (x4.1 !=124)) ?_;refine qdm (S':=[.ptr 0 0,.top,.ptr 3 0,.bsl 6 0 (length [x3]) 8 false,.top,.top,.top,.top,.top,.top,.top,.top,.top,.top,.top,.top,.top,.top,.top,.top,.top,.top,.b (x4.1 !=124),.top,.top,.top,.top,.top,.top,.top,.top,.top]) (U':=(zar [(110,[.s x4.2.s,.i x4.2.a,.i x4.2.e,(zbb 2 x4.2.q)]),((zh r.q).1,[]),((zh x4.2.q).1,(zh x4.2.q).2),(27,[.u 0,.raw (.int .u64 0),.raw (.int .u64 0),.raw (.int .u64 0),.raw (.int .u64 0),.i 0,.i 0,.list 0 [] .full]),(27,(Enc.cellsL (s1.2:List Tr))),(25,[(zcl (length (j2.2:List Tr)) (Enc.cellsL (j2.2:List Tr)))]),(27,(Enc.cellsL ([x3]:List Tr)))] 27 (length (j2.2:List Tr)) 8)) (ztl (bl 32 4194317) 2 [] [7,3,4,5,6] 1 hk0 rfl (zcq rfl (zcr (zcq rfl (zcq rfl (zed (zed (zcr (zcr (zcq (zo _ _ _ rfl) (zed (zcr zjf))))))))))) (zvm (zf (zo _ _ _ rfl) (zf (zo _ _ _ rfl) (zf (zo _ _ _ rfl) (zf (zff (fun _=>rfl)) zi)))) zi (zg rfl (zp _ _ _) (zg rfl rfl (zg rfl (zal _ _ _ (Enc.cloL _)) (zg rfl (zf (zoi (fun hn=>z7h hn)) zi) (zg rfl (zal _ _ _ (Enc.cloL _)) zag))))))) ?_;refine zan h (fun hc2 h=> ?_) (fun hc2 h=> ?_);refine zum hc2 rfl ?_;refine zae h (fun h=> ?_);refine zzx (S':=[.top,.top,.ptr 3 0,(qaj 4 (length [x3]) 8),.top,.top,.top,.top,.top,.top,.top,.top,.top,.top,.top,.top,.top,.top,.top,.top,.top,.top,.top,.top,.top,.top,.top,.top,.top,.top,.top,.top]) (U':=⟨[(110,[.s x4.2.s,.i x4.2.a,.i x4.2.e,(zbb 2 x4.2.q)]),((zh r.q).1,[]),((zh x4.2.q).1,(zh x4.2.q).2),(27,[.u 0,.raw (.int .u64 0),.raw (.int .u64 0),.raw (.int .u64 0),.raw (.int .u64 0),.i 0,.i 0,.list 0 [] .full]),(27,(Enc.cellsL ([x3]:List Tr)))],[],[],0,false⟩) [false,false,true,true,false,false,false,false,false,false,false,false,false,false,false,false,false,false,false,false,false,false,false,false,false,false,false,false,false,false,false,false] 2 [2,3,6] 1 (le_refl _) hk0 rfl (zcr (zcr (zcq rfl (zcq (z0i (by first|(simp;done)|(simp only[length_append,length_take];omega)) (by first|(simp;done)) _ _) (zed (zed (zed (zcr (zcr (zcr (zcr zjf))))))))))) (zao rfl (zf (zo _ _ _ rfl) (zf (zo _ _ _ rfl) (zf (zo _ _ _ rfl) (zf (zff (fun _=>rfl)) zi)))) zi (zg rfl (zp _ _ _) (zg rfl rfl (zg rfl (zal _ _ _ (Enc.cloL _)) zag))) rfl) ?_;refine zc (o:=or1) (x4.2,[x3]) h ?_;exact z5m (bl 32 12) (by kernel_rfl) (by kernel_rfl);refine zvc hc2 rfl ?_;refine zb (k0:=k0) (id:=8) ?_;refine zah ?_;refine w_o (a:= .ptr 0 0) ?_;refine w_o (a:= .ptr 0 1) ?_;refine w_o (a:= .i x4.2.a) ?_;obtain⟨g4,h⟩:=zk h;refine w_o (a:= .i (x4.2.a+1)) (h:=zbl (qcd rfl rfl rfl rfl g4.1 g4.2)) ?_;refine w_o (a:= .ptr 0 0) ?_;refine w_o (a:= .ptr 0 1) ?_;refine zoc (U'':=(zar [(110,[.s x4.2.s,.i (x4.2.a+1),.i x4.2.e,(zbb 2 x4.2.q)]),((zh r.q).1,[]),((zh x4.2.q).1,(zh x4.2.q).2),(27,[.u 0,.raw (.int .u64 0),.raw (.int .u64 0),.raw (.int .u64 0),.raw (.int .u64 0),.i 0,.i 0,.list 0 [] .full]),(27,(Enc.cellsL (s1.2:List Tr))),(25,[(zcl (length (j2.2:List Tr)) (Enc.cellsL (j2.2:List Tr)))]),(27,(Enc.cellsL ([x3]:List Tr)))] 27 (length (j2.2:List Tr)) 8)) (h:=zco (n:=1) rfl rfl rfl rfl rfl ⟨rfl,rfl,Nat.le_of_ble_eq_true rfl,by decide⟩) ?_;refine zzx (S':=[.ptr 0 0,.top,.ptr 3 0,(qaj 4 (length [x3]) 8),.top,.top,.top,.top,.top,.top,.top,.top,.top,.top,.top,.top,.top,.top,.top,.top,.top,.top,.top,.top,.top,.top,.top,.top,.top,.top,.top,.top]) (U':=⟨[(110,[.s x4.2.s,.i (x4.2.a+1),.i x4.2.e,(zbb 2 x4.2.q)]),((zh r.q).1,[]),((zh x4.2.q).1,(zh x4.2.q).2),(27,[.u 0,.raw (.int .u64 0),.raw (.int .u64 0),.raw (.int .u64 0),.raw (.int .u64 0),.i 0,.i 0,.list 0 [] .full]),(27,(Enc.cellsL ([x3]:List Tr)))],[],[],0,false⟩) [true,false,true,true,false,false,false,false,false,false,false,false,false,false,false,false,false,false,false,false,false,false,false,false,false,false,false,false,false,false,false,false] 2 [2,3,6] 1 (le_refl _) hk0 rfl (zcq rfl (zcr (zcq rfl (zcq (z0i (by first|(simp;done)|(simp only[length_append,length_take];omega)) (by first|(simp;done)) _ _) (zed (zed (zed (zcr (zcr (zcr (zcr zjf))))))))))) (zao rfl (zf (zo _ _ _ rfl) (zf (zo _ _ _ rfl) (zf (zo _ _ _ rfl) (zf (zff (fun _=>rfl)) zi)))) zi (zg rfl (zp _ _ _) (zg rfl rfl (zg rfl (zal _ _ _ (Enc.cloL _)) zag))) rfl) ?_;refine zbr (p:=p1) ((Rd.mk x4.2.s (x4.2.a+1) x4.2.e x4.2.q),[x3]) h ?_;exact z5m (bl 32 13) (by kernel_rfl) (by kernel_rfl);rw[z7w (b:=4) hc1];obtain⟨g5,h⟩:=zk h;refine z1v (a:= .bsl 6 0 ((length s1.2)+length [x3]) 8 false) (U'':=(zar [(110,[.s j2.1.s,.i j2.1.a,.i j2.1.e,(zbb 2 j2.1.q)]),((zh r.q).1,[]),((zh j2.1.q).1,(zh j2.1.q).2),(27,[.u 0,.raw (.int .u64 0),.raw (.int .u64 0),.raw (.int .u64 0),.raw (.int .u64 0),.i 0,.i 0,.list 0 [] .full]),(27,(Enc.cellsL (([]:List Tr):List Tr))),(25,[(zcl (length (j2.2:List Tr)) (Enc.cellsL (j2.2:List Tr)))]),(27,(Enc.cellsL ((s1.2++[x3]):List Tr)))] 27 (length (j2.2:List Tr)) 8)) rfl rfl rfl (opB_bsl (α:=Tr) (l:=s1.2) (r:=[x3]) (by':=80) g5 rfl rfl rfl rfl rfl rfl rfl rfl rfl rfl rfl rfl ⟨rfl,by decide⟩) (by dsimp only[zad,List.set]) rfl ?_;refine zah ?_;refine zj ?_;refine zgt (zb ?_);refine zah ?_;obtain⟨x5,hx5,h⟩:=zm h;refine zfj (r:= .u x5.1) (U':=(zar [(110,[.s x5.2.s,.i x5.2.a,.i x5.2.e,(zbb 7 x5.2.q)]),((zh r.q).1,[]),((zh j2.1.q).1,[]),(27,[.u 0,.raw (.int .u64 0),.raw (.int .u64 0),.raw (.int .u64 0),.raw (.int .u64 0),.i 0,.i 0,.list 0 [] .full]),(27,(Enc.cellsL (([]:List Tr):List Tr))),(25,[(zcl (length (j2.2:List Tr)) (Enc.cellsL (j2.2:List Tr)))]),(27,(Enc.cellsL ((s1.2++[x3]):List Tr))),((zh x5.2.q).1,(zh x5.2.q).2)] 27 (length (j2.2:List Tr)) 8)) ((zqm j2.1 x5 hx5) _ 2 (by decide) rfl rfl) rfl rfl ⟨rfl,rfl⟩ (by dsimp only[zad,List.set]) ?_;refine w_o (a:= .b (x5.1 !=124)) ?_;refine qdm (S':=[.ptr 0 0,.top,.ptr 3 0,.bsl 6 0 ((length s1.2)+length [x3]) 8 false,.top,.top,.top,.top,.top,.top,.top,.top,.top,.top,.top,.top,.top,.top,.top,.top,.top,.top,.b (x5.1 !=124),.top,.top,.top,.top,.top,.top,.top,.top,.top]) (U':=(zar [(110,[.s x5.2.s,.i x5.2.a,.i x5.2.e,(zbb 2 x5.2.q)]),((zh r.q).1,[]),((zh x5.2.q).1,(zh x5.2.q).2),(27,[.u 0,.raw (.int .u64 0),.raw (.int .u64 0),.raw (.int .u64 0),.raw (.int .u64 0),.i 0,.i 0,.list 0 [] .full]),(27,(Enc.cellsL (([]:List Tr):List Tr))),(25,[(zcl (length (j2.2:List Tr)) (Enc.cellsL (j2.2:List Tr)))]),(27,(Enc.cellsL ((s1.2++[x3]):List Tr)))] 27 (length (j2.2:List Tr)) 8)) (ztl (bl 32 4194317) 2 [] [7,3,4,5,6] 1 hk0 rfl (zcq rfl (zcr (zcq rfl (zcq rfl (zed (zed (zcr (zcr (zcq (zo _ _ _ rfl) (zed (zcr zjf))))))))))) (zvm (zf (zo _ _ _ rfl) (zf (zo _ _ _ rfl) (zf (zo _ _ _ rfl) (zf (zff (fun _=>rfl)) zi)))) zi (zg rfl (zp _ _ _) (zg rfl rfl (zg rfl (zal _ _ _ (Enc.cloL _)) (zg rfl (zf (zoi (fun hn=>z7h hn)) zi) (zg rfl (zal _ _ _ (Enc.cloL _)) zag))))))) ?_;refine zan h (fun hc3 h=> ?_) (fun hc3 h=> ?_);refine zum hc3 rfl ?_;refine zae h (fun h=> ?_);refine zzx (S':=[.top,.top,.ptr 3 0,(qaj 4 (length (s1.2++[x3])) 8),.top,.top,.top,.top,.top,.top,.top,.top,.top,.top,.top,.top,.top,.top,.top,.top,.top,.top,.top,.top,.top,.top,.top,.top,.top,.top,.top,.top]) (U':=⟨[(110,[.s x5.2.s,.i x5.2.a,.i x5.2.e,(zbb 2 x5.2.q)]),((zh r.q).1,[]),((zh x5.2.q).1,(zh x5.2.q).2),(27,[.u 0,.raw (.int .u64 0),.raw (.int .u64 0),.raw (.int .u64 0),.raw (.int .u64 0),.i 0,.i 0,.list 0 [] .full]),(27,(Enc.cellsL ((s1.2++[x3]):List Tr)))],[],[],0,false⟩) [false,false,true,true,false,false,false,false,false,false,false,false,false,false,false,false,false,false,false,false,false,false,false,false,false,false,false,false,false,false,false,false] 2 [2,3,6] 1 (le_refl _) hk0 rfl (zcr (zcr (zcq rfl (zcq (z0i (by first|(simp;done)|(simp only[length_append,length_take];omega)) (by first|(simp;done)) _ _) (zed (zed (zed (zcr (zcr (zcr (zcr zjf))))))))))) (zao rfl (zf (zo _ _ _ rfl) (zf (zo _ _ _ rfl) (zf (zo _ _ _ rfl) (zf (zff (fun _=>rfl)) zi)))) zi (zg rfl (zp _ _ _) (zg rfl rfl (zg rfl (zal _ _ _ (Enc.cloL _)) zag))) rfl) ?_;refine zc (o:=or1) (x5.2,(s1.2++[x3])) h ?_;exact z5m (bl 32 12) (by kernel_rfl) (by kernel_rfl);refine zvc hc3 rfl ?_;refine zb (k0:=k0) (id:=8) ?_;refine zah ?_;refine w_o (a:= .ptr 0 0) ?_;refine w_o (a:= .ptr 0 1) ?_;refine w_o (a:= .i x5.2.a) ?_;obtain⟨g6,h⟩:=zk h;refine w_o (a:= .i (x5.2.a+1)) (h:=zbl (qcd rfl rfl rfl rfl g6.1 g6.2)) ?_;refine w_o (a:= .ptr 0 0) ?_;refine w_o (a:= .ptr 0 1) ?_;refine zoc (U'':=(zar [(110,[.s x5.2.s,.i (x5.2.a+1),.i x5.2.e,(zbb 2 x5.2.q)]),((zh r.q).1,[]),((zh x5.2.q).1,(zh x5.2.q).2),(27,[.u 0,.raw (.int .u64 0),.raw (.int .u64 0),.raw (.int .u64 0),.raw (.int .u64 0),.i 0,.i 0,.list 0 [] .full]),(27,(Enc.cellsL (([]:List Tr):List Tr))),(25,[(zcl (length (j2.2:List Tr)) (Enc.cellsL (j2.2:List Tr)))]),(27,(Enc.cellsL ((s1.2++[x3]):List Tr)))] 27 (length (j2.2:List Tr)) 8)) (h:=zco (n:=1) rfl rfl rfl rfl rfl ⟨rfl,rfl,Nat.le_of_ble_eq_true rfl,by decide⟩) ?_;refine zzx (S':=[.ptr 0 0,.top,.ptr 3 0,(qaj 4 (length (s1.2++[x3])) 8),.top,.top,.top,.top,.top,.top,.top,.top,.top,.top,.top,.top,.top,.top,.top,.top,.top,.top,.top,.top,.top,.top,.top,.top,.top,.top,.top,.top]) (U':=⟨[(110,[.s x5.2.s,.i (x5.2.a+1),.i x5.2.e,(zbb 2 x5.2.q)]),((zh r.q).1,[]),((zh x5.2.q).1,(zh x5.2.q).2),(27,[.u 0,.raw (.int .u64 0),.raw (.int .u64 0),.raw (.int .u64 0),.raw (.int .u64 0),.i 0,.i 0,.list 0 [] .full]),(27,(Enc.cellsL ((s1.2++[x3]):List Tr)))],[],[],0,false⟩) [true,false,true,true,false,false,false,false,false,false,false,false,false,false,false,false,false,false,false,false,false,false,false,false,false,false,false,false,false,false,false,false] 2 [2,3,6] 1 (le_refl _) hk0 rfl (zcq rfl (zcr (zcq rfl (zcq (z0i (by first|(simp;done)|(simp only[length_append,length_take];omega)) (by first|(simp;done)) _ _) (zed (zed (zed (zcr (zcr (zcr (zcr zjf))))))))))) (zao rfl (zf (zo _ _ _ rfl) (zf (zo _ _ _ rfl) (zf (zo _ _ _ rfl) (zf (zff (fun _=>rfl)) zi)))) zi (zg rfl (zp _ _ _) (zg rfl rfl (zg rfl (zal _ _ _ (Enc.cloL _)) zag))) rfl) ?_;refine zbr (p:=p1) ((Rd.mk x5.2.s (x5.2.a+1) x5.2.e x5.2.q),(s1.2++[x3])) h ?_;exact z5m (bl 32 13) (by kernel_rfl) (by kernel_rfl);intro j1 h;refine zbt (by dsimp only[zbq,zdf,foldl,List.set]) rfl ?_;refine zan h (fun hc4 h=> ?_) (fun hc4 h=> ?_);rw[z8p (b:=4) hc4];refine zj (zb ?_);refine zah ?_;obtain⟨g7,h⟩:=zk h;obtain⟨x6,hx6,h⟩:=zn h;refine zkl (args':=[.list 0 [] .none]) (r:= .agg (Enc.cells (x6:Tr))) (by rw[<-hx6];exact(k_or ([]:List Tr) g7)) rfl rfl (zu rfl rfl) (by kernel_rfl) (by dsimp only[zad,List.set]) ?_;refine zoc (U'':=⟨[(110,[.s j1.1.s,.i j1.1.a,.i j1.1.e,(zbb 2 j1.1.q)]),((zh r.q).1,[]),((zh j1.1.q).1,(zh j1.1.q).2),(27,(Enc.cells (x6:Tr))),(27,(Enc.cellsL (j1.2:List Tr)))],[],[],0,false⟩) (h:=zec (n:=8) rfl rfl rfl rfl rfl rfl rfl rfl (by decide)) ?_;have he1:=Option.some.inj h;subst he1;exact zgf (a:= .agg (Enc.cells (x6:Tr))) [2] 1 rfl rfl (zo _ _ _ (zak (Enc.clo _))) (zao rfl (zf (zo _ _ _ rfl) (zf (zo _ _ _ rfl) (zf (zo _ _ _ rfl) (zf (zff (fun _=>rfl)) zi)))) zi (zg rfl (zp _ _ _) zag) rfl);rw[z7w (b:=4) hc4];refine zj (zb ?_);refine zah ?_;obtain⟨g8,h⟩:=zk h;obtain⟨x7,hx7,h⟩:=zn h;refine zfj (r:= .agg (Enc.cells (x7:Tr))) (U':=⟨[(110,[.s j1.1.s,.i j1.1.a,.i j1.1.e,(zbb 2 j1.1.q)]),((zh r.q).1,[]),((zh j1.1.q).1,(zh j1.1.q).2),(27,[.u 0,.raw (.int .u64 0),.raw (.int .u64 0),.raw (.int .u64 0),.raw (.int .u64 0),.i 0,.i 0,.list 0 [] .full]),(27,(Enc.cellsL (([]:List Tr):List Tr)))],[],[],0,false⟩) (snd_frz (α:=Tr) (t:=27) (l:=j1.2) (ar:=[]) (ar':=[]) (r:= .agg (Enc.cells (x7:Tr))) (ze _) (by rw[<-hx7];exact(k_or j1.2 g8)) rfl rfl rfl) rfl rfl ⟨rfl,rfl⟩ (by dsimp only[zad,List.set]) ?_;refine zoc (U'':=⟨[(110,[.s j1.1.s,.i j1.1.a,.i j1.1.e,(zbb 2 j1.1.q)]),((zh r.q).1,[]),((zh j1.1.q).1,(zh j1.1.q).2),(27,(Enc.cells (x7:Tr))),(27,(Enc.cellsL (([]:List Tr):List Tr)))],[],[],0,false⟩) (h:=zec (n:=8) rfl rfl rfl rfl rfl rfl rfl rfl (by decide)) ?_;have he2:=Option.some.inj h;subst he2;exact zgf (a:= .agg (Enc.cells (x7:Tr))) [2] 1 rfl rfl (zo _ _ _ (zak (Enc.clo _))) (zao rfl (zf (zo _ _ _ rfl) (zf (zo _ _ _ rfl) (zf (zo _ _ _ rfl) (zf (zff (fun _=>rfl)) zi)))) zi (zg rfl (zp _ _ _) zag) rfl)
end Go.Ab
