/-
  Sets: And, All; sorts of sets.
-/
import Derived.Shelf.SlSortCmp.InsertionK
import Derived.Test.YtfkkellnlmjenaaGreatZeW9
import Derived.Shelf.SlGeneric
import Derived.Shelf.SlLaysF0
import Derived.Test.YtfkkellnlmjenaaGreatProg
import Derived.Shelf.SlSortCmp.WholeK
set_option linter.unusedSimpArgs false
set_option linter.unusedVariables false
namespace Go.Ab
open Go Go.RowKit Go.Fwd Go.Proofs Go.Sort
theorem qce {w w':World} (h:Ex w.heap.size w w'): ∃q os',w'=grow (w.drewN q) os':=by
 refine⟨w'.drawn-w.drawn,w'.heap.extract w.heap.size w'.heap.size,?_⟩
 have hh:w'.heap=w.heap++w'.heap.extract w.heap.size w'.heap.size:=by
  apply Array.ext
  ·have:=h.size;simp;omega
  ·intro i h1 h2
   by_cases hi:i<w.heap.size
   ·rw[Array.getElem_append_left hi]
    have:=h.block i hi
    rw[Array.getElem?_eq_getElem h1,Array.getElem?_eq_getElem hi] at this
    exact Option.some.inj this
   ·rw[Array.getElem_append_right (by omega),Array.getElem_extract]
    congr 1;omega
 obtain⟨hp,tp,dr,o,ou⟩:=w'
 obtain⟨hp0,tp0,dr0,o0,ou0⟩:=w
 have e1:=h.os;have e2:=h.tape;have e3:=h.output;have e4:dr0≤dr:=h.drawn
 simp only at e1 e2 e3 hh
 simp only[grow,World.drewN]
 rw[←hh,e1,e2,e3,show dr0+(dr-dr0)=dr by omega]
section
variable {β:Type} (enc:β→List Value)(k:Nat)
theorem ztx (hk: ∀x,(enc x).length=k): ∀(L:List β) (i j:Nat) (hi:i<L.length),j<k→(L.flatMap enc)[i*k+j]? =(enc L[i])[j]?
 |[],i,_,hi,_=>by simp at hi
 | x::L,0,j,_,hj=>by
  rw[List.flatMap_cons,Nat.zero_mul,Nat.zero_add,List.getElem?_append_left (by rw[hk];exact hj)];rfl
 | x::L,i+1,j,hi,hj=>by
  rw[List.flatMap_cons,List.getElem?_append_right (by rw[hk,Nat.succ_mul];omega),hk,show(i+1)*k+j-k=i*k+j by rw[Nat.succ_mul];omega]
  exact ztx hk L i j (by simpa using hi) hj
theorem zha (hk: ∀x,(enc x).length=k): ∀L:List β,(L.flatMap enc).length=L.length*k
 |[]=>by simp
 |x::L=>by rw[List.flatMap_cons,List.length_append,hk,zha hk L,List.length_cons,Nat.succ_mul,Nat.add_comm]
theorem zwq [Inhabited β] (hk: ∀x,(enc x).length=k)(h0:0<k)(L:List β):(flatK enc k L.toArray)=(L.flatMap enc).toArray:=by
 apply Array.ext
 ·rw[size_flatK];simp[zha enc k hk]
 ·intro j h1 h2
  rw[size_flatK] at h1
  have hj:j/k<L.length:=by
   rw[Nat.div_lt_iff_lt_mul h0];simpa using h1
  have hm:j%k<k:=Nat.mod_lt _ h0
  have e:=ztx enc k hk L (j/k) (j%k) hj hm
  have hjk:j/k*k+j%k=j:=by rw[Nat.mul_comm];exact Nat.div_add_mod j k
  rw[hjk] at e
  have h3:j<(L.flatMap enc).length:=by simpa using h2
  rw[List.getElem?_eq_getElem h3,List.getElem?_eq_getElem (by rw[hk];exact hm)] at e
  have e2:=Option.some.inj e
  simp only[flatK,Array.getElem_map,Array.getElem_range]
  rw[List.getElem_toArray,e2]
  rw[getElem!_pos L.toArray _ (by simpa using hj)]
  rw[getElem!_pos _ _ (by rw[hk];exact hm)]
  simp
theorem zvp [Inhabited β] (hk: ∀x,(enc x).length=k)(h0:0<k) {w:World} {b:Nat} {us zs:List Value} {t:TypeId} (hb:w.heap[b]? =some (.cells (us++zs).toArray t (0,0)))(m:Nat)(L:List β)(hl:L.length*k=us.length)(os:Array Obj):
 sortWorldK enc k w b 0 m L.toArray os=grow ((w.setRow b (L.flatMap enc++zs).toArray).drewN m) os:=by
 unfold sortWorldK putRowK putRow
 rw[zwq enc k hk h0]
 congr 1
 have hbl:b<w.heap.size:=(Array.getElem?_eq_some_iff.1 hb).1
 have e1:mapBlock (Sort.ahead w m) b (putCells id 0 (L.flatMap enc).toArray)=(mapBlock w b (putCells id 0 (L.flatMap enc).toArray)).drewN m:=rfl
 rw[e1]
 congr 1
 have e2:mapBlock w b (putCells id 0 (L.flatMap enc).toArray)=mapBlock w b (fun _=>(L.flatMap enc++zs).toArray):=by
  refine mapBlock_congr _ _ _ _ fun c e fr h=> ?_
  rw[hb] at h
  cases h
  apply Array.ext
  ·simp[putCells,zha enc k hk];omega
  ·intro i h1 h2
   simp only[putCells,Array.getElem_mapIdx,List.size_toArray,Nat.zero_add,Nat.sub_zero,id,List.getElem_toArray]
   have hf:=zha enc k hk L
   by_cases hi:i<(L.flatMap enc).length
   ·rw[if_pos ⟨Nat.zero_le _,hi⟩,getElem!_pos _ _ (by simpa using hi),List.getElem_append_left hi];simp
   ·rw[if_neg (by omega),List.getElem_append_right (by omega),List.getElem_append_right (by omega)]
    congr 1;omega
 rw[e2]
 unfold mapBlock World.setRow
 congr 1
end
section
variable {IT:IterP} {α:Type} [Enc α]
structure El (IT:IterP)(X:Cx)(good:α→Prop) where
 c:List Value
 a:α
 len:c.length=Enc.sz α
 one: ∀v∈c,v.oneCell'=true
 rep:zbl IT X (Enc.cells a) c
 ok:good a
theorem qgs {X:Cx} {good:α→Prop}: ∀(l:List α) (us:List Value),zbl IT X (Enc.cellsL l) us→(∀v∈us,v.oneCell'=true)→(∀x∈l,good x)→ ∃es:List (El IT X good),es.map (·.a)=l∧es.flatMap (·.c)=us
 | [],us,h,_,_=>by
  rw[Enc.nil] at h
  exact⟨[],rfl,h.symm⟩
 | x::l,us,h,h1,hg=>by
  rw[Enc.cons] at h
  have ht:=zep h (Enc.sz α)
  have hd:=zhn h (Enc.sz α)
  rw[List.take_left' (Enc.len x)] at ht
  rw[List.drop_left' (Enc.len x)] at hd
  obtain⟨es,e1,e2⟩:=qgs l _ hd (fun v hv=>h1 v (List.mem_of_mem_drop hv)) (fun y hy=>hg y (List.mem_cons_of_mem _ hy))
  refine⟨⟨us.take (Enc.sz α),x,by have:=zad ht;rw[←this,Enc.len],fun v hv=>h1 v (List.mem_of_mem_take hv),ht,hg x List.mem_cons_self⟩::es,by rw[List.map_cons,e1],?_⟩
  rw[List.flatMap_cons,e2,List.take_append_drop]
theorem qoy {X:Cx} {good:α→Prop}: ∀es:List (El IT X good),zbl IT X (Enc.cellsL (es.map (·.a))) (es.flatMap (·.c))
 |[]=>by rw[List.map_nil,Enc.nil];rfl
 | e::es=>by
  rw[List.map_cons,Enc.cons,List.flatMap_cons]
  exact zbq e.rep (qoy es)
theorem z9b (hIT:ITMono IT) {P:Program} {f:FuncId} {g:Nat} {t:TypeId} (ent:Ent P f)(eg: ∀args w,(callFunc g args).run P w= .ok (.enter g args) w)
 (law: ∀(β:Type) (_:Inhabited β) (enc:β→List Value),(∀x,(enc x).length=Enc.sz α)→(∀x,∀v∈enc x,v.oneCell'=true)→ ∀(cf:β→β→Int),SWO (ltOf cf)→ ∀(blk off cap:Nat) (d:Array β) (w:World),CmpLays P g #[] enc (Enc.sz α) cf blk off d.size w→
  HoldsK enc (Enc.sz α) w blk off d→blk<w.heap.size→d.size<4611686018427387904→Calls P f #[.slice (some ⟨blk,off,none⟩) d.size cap,.func (.func g) #[] #[]] w fun e w'=>
  e= .returned (.tuple #[])∧ ∃d' n os,PermIn 0 d.size d d'∧SortedIn (ltOf cf) 0 d.size d'∧w'=sortWorldK enc (Enc.sz α) w blk off n d' os)
 (cf:α→α→Int) (good:α→Prop) (hcmp: ∀x y,good x→good y→Pure IT P g [.agg (Enc.cells x),.agg (Enc.cells y)] (.raw (.int .i64 (cf x y))))
 (irr: ∀x,good x→ ¬cf x x<0) (tr: ∀x y z,good x→good y→good z→cf x y<0→cf y z<0→cf x z<0) (ntr: ∀x y z,good x→good y→good z→ ¬cf x y<0→ ¬cf y z<0→ ¬cf x z<0) (anti: ∀x y,good x→good y→ ¬cf x y<0→ ¬cf y x<0→x=y)
 (l m:List α) (hg: ∀x∈l,good x) (hne:0<l.length∧l.length<4611686018427387904) (hp:m.Perm l) (hm:m.Pairwise fun x y=> ¬cf y x<0) {σ:St} {s:Nat} {fl:Bool} (hb:σ.boxes[s]? =some (t,Enc.cellsL l)):
 Snd IT P f [.bsl s 0 l.length (Enc.sz α) fl,.clos g []] σ (.tup []) {σ with boxes:=σ.boxes.set s (t,Enc.cellsL m)}:=by
 refine⟨ent,fun X vs hI hr=> ?_⟩
 obtain⟨v1,r1,rfl,hv1,v2,r2,rfl,hv2,hr2⟩:=hr
 rw[zbl] at hr2
 subst hr2
 obtain⟨b,cap,cur,t0,hκ,rfl,hcap,hful,hcur,hoff⟩:=hv1
 obtain⟨vs2,rfl,hvs2⟩:=hv2
 rw[zbl] at hvs2
 subst hvs2
 obtain⟨us,zs,hheap,hrep,hone⟩:=hI.box s b t _ hκ hb
 obtain⟨es,he1,he2⟩:=qgs (IT:=IT) (good:=good) l us hrep hone hg
 have hlen:es.length=l.length:=by rw[←he1,List.length_map]
 obtain⟨e0,hme0⟩: ∃e,e∈es:=by
  cases es with
  |nil=>simp at hlen;omega
  |cons e _=>exact⟨e,List.mem_cons_self⟩
 let enc:El IT X good→List Value:=fun e=>e.c
 have hk: ∀e,(enc e).length=Enc.sz α:=fun e=>e.len
 have h0:=Enc.pos (α:=α)
 have hbl:b<X.w.heap.size:=(Array.getElem?_eq_some_iff.1 hheap).1
 have hul:us.length=l.length*Enc.sz α:=by rw[←zad hrep,Enc.lenL]
 letI:Inhabited (El IT X good):=⟨e0⟩
 have hne':Enc.cellsL l≠[]:=fun e=>by
  have:=Enc.lenL l
  rw[e] at this
  have h3:=Nat.mul_pos hne.1 h0
  simp at this;omega
 have hset: ∀(mm:Nat) (L:List (El IT X good)) (os:Array Obj),L.length=l.length→sortWorldK enc (Enc.sz α) X.w b 0 mm L.toArray os=grow ((X.w.setRow b (L.flatMap enc++zs).toArray).drewN mm) os:=fun mm L os hL=>
  zvp enc (Enc.sz α) hk h0 hheap mm L (by rw[hL,hul]) os
 have hH:HoldsK enc (Enc.sz α) X.w b 0 es.toArray:=by
  intro j hj
  rw[zwq enc (Enc.sz α) hk h0,show es.flatMap enc=us from he2] at hj⊢
  have hj':j<us.length:=by simpa using hj
  rw[getElem!_pos (us.toArray) j hj]
  refine⟨?_,by simp[World.frozen?,hheap]⟩
  simp[World.cell?,hheap,List.getElem?_append_left hj',List.getElem?_eq_getElem hj']
 have hother: ∀(mm:Nat) (L:List (El IT X good)) (os:Array Obj),L.length=l.length→ ∀k,k<X.w.heap.size→k≠b→(sortWorldK enc (Enc.sz α) X.w b 0 mm L.toArray os).heap[k]? =X.w.heap[k]? :=fun mm L os hL k hk1 hk2=>by
  rw[hset mm L os hL]
  show((X.w.setRow b _).heap++os)[k]? =_
  rw[Array.getElem?_append_left (by simpa using hk1)]
  exact setRow_other _ _ _ _ hk2
 have hthis: ∀(mm:Nat) (L:List (El IT X good)) (os:Array Obj),L.length=l.length→(sortWorldK enc (Enc.sz α) X.w b 0 mm L.toArray os).heap[b]? =some (.cells (L.flatMap enc++zs).toArray t (0,0)):=fun mm L os hL=>by
  rw[hset mm L os hL]
  show((X.w.setRow b _).heap++os)[b]? =_
  rw[Array.getElem?_append_left (by simpa using hbl)]
  exact setRow_heap _ _ _ _ _ _ hheap
 have hFb: ∀b' o,X.F b' o→b'<X.w.heap.size∧b'≠b:=fun b' o hf=>⟨hI.Flt hf,fun e=>hI.κF s b t _ hκ hb hne' o (e▸hf)⟩
 have hcmp':CmpLays P g #[] enc (Enc.sz α) (fun x y=>cf x.a y.a) b 0 es.toArray.size X.w:=by
  intro mm os dk hdk x y
  obtain⟨W,hW⟩: ∃W,W=sortWorldK enc (Enc.sz α) X.w b 0 mm dk os:=⟨_,rfl⟩
  obtain⟨L,rfl⟩: ∃L:List (El IT X good),dk=L.toArray:=⟨dk.toList,by simp⟩
  have hL:L.length=l.length:=by rw[←hlen];simpa using hdk
  have hcell: ∀b' o,X.F b' o→W.cell? ⟨b',o,none⟩=X.w.cell? ⟨b',o,none⟩:=fun b' o hf=>by
   obtain⟨q1,q2⟩:=hFb b' o hf
   exact World.cell?_of_block (by rw[hW];exact hother mm L os hL b' q1 q2)
  have hsz:Szs X.w W:=Szs.one b (fun k q1 q2=>by rw[hW];exact hother mm L os hL k q1 q2) fun cs t' f' hc=>by
   rw[hheap] at hc;cases hc
   refine⟨_,_,_,by rw[hW];exact hthis mm L os hL,?_⟩
   simp[zha enc (Enc.sz α) hk,hL,hul]
  have hS:Sub ⟨X.F,[],[],[],X.w,fun _=>False,fun _ _=>False⟩ ⟨X.F,[],[],[],W,fun _=>False,fun _ _=>False⟩:=⟨fun _ _ h=>h,hcell,fun _ _ h=>h,fun s L h=>⟨L,h,Nat.le_refl _,fun _=>rfl⟩,fun s b h=>by simp at h,hsz⟩
  have hI0:Inv IT St.empty ⟨X.F,[],[],[],W,fun _=>False,fun _ _=>False⟩:={zln hI with
   gv:=hIT.gv _ _ _ _ (fun _ _ h=>h) hcell hsz hI.gv
   box:=fun s b t cs h=>by simp at h
   κF:=fun s b t cs h=>by simp at h
   row:=fun s r L h=>by simp at h
   Ok:=fun b h=>h.elim
   Fcell:=fun b' o hf=>by rw[hcell b' o hf];exact hI.Fcell b' o hf}
  have hel: ∀e:El IT X good,Rep IT ⟨X.F,[],[],[],W,fun _=>False,fun _ _=>False⟩ (.agg (Enc.cells e.a)) (.agg (enc e).toArray):=fun e=>by
   have h1:Rep IT X (.agg (Enc.cells e.a)) (.agg (enc e).toArray):=⟨_,rfl,e.rep,e.one⟩
   have h2:=zhq (X:=X) (Y:=⟨X.F,[],[],[],X.w,fun _=>False,fun _ _=>False⟩) hIT rfl rfl _ _ (.inl (by show zaa 0 (Enc.cells e.a)=true;exact zm _ _ (Enc.clo _))) h1
   have h3:zcv (.agg (Enc.cells e.a))= .agg (Enc.cells e.a):=by rw[zcv,zdc _ (Enc.clo _)]
   rw[h3] at h2
   exact zjk hIT hS _ _ h2
  have hc:=(hcmp x.a y.a x.ok y.ok).2 ⟨X.F,[],[],[],W,fun _=>False,fun _ _=>False⟩ [.agg (enc x).toArray,.agg (enc y).toArray] hI0 ⟨_,_,rfl,hel x,_,_,rfl,hel y,rfl⟩
  rw[←hW]
  refine hc.mono ?_
  rintro e w' ⟨v,Y,rfl,rfl,hE,_,hv⟩
  refine⟨by rw[show v=_ from hv],qce ⟨⟨hE.os,hE.tape,hE.output,hE.size,fun k hk=>hE.frame k hk (by simp) (by simp)⟩,hE.drawn⟩⟩
 have hSWO:SWO (ltOf fun x y:El IT X good=>cf x.a y.a):={
  irrefl:=fun x=>by simpa[ltOf] using irr _ x.ok
  trans:=fun x y z h1 h2=>by simp only[ltOf,decide_eq_true_eq] at*;exact tr _ _ _ x.ok y.ok z.ok h1 h2
  ntrans:=fun x y z h1 h2=>by simp only[ltOf,decide_eq_false_iff_not] at*;exact ntr _ _ _ x.ok y.ok z.ok h1 h2}
 have hfin:=law (El IT X good) ⟨e0⟩ enc hk (fun e=>e.one) (fun x y=>cf x.a y.a) hSWO b 0 cap es.toArray X.w hcmp' hH hbl (by rw[List.size_toArray,hlen];exact hne.2)
 rw[List.size_toArray,hlen] at hfin
 refine hfin.mono ?_
 rintro e w' ⟨rfl,d',n,os,hperm,hsort,rfl⟩
 obtain⟨L,rfl⟩: ∃L:List (El IT X good),d'=L.toArray:=⟨d'.toList,by simp⟩
 have hLl:L.length=l.length:=by have:=hperm.1;simp at this;omega
 have hLp:L.Perm es:=by
  have:=hperm.2.2
  rw[←hlen] at this
  have e1:(L.toArray.extract 0 es.length).toList=L:=by
   rw[Array.toList_extract,hlen,←hLl];simp[List.extract_eq_take_drop]
  have e2:(es.toArray.extract 0 es.length).toList=es:=by
   rw[Array.toList_extract];simp[List.extract_eq_take_drop]
  rw[e1,e2] at this
  exact this
 have hLm:L.map (·.a)=m:=by
  refine List.Perm.eq_of_pairwise (le:=fun x y=>(good x∧good y)∧ ¬cf y x<0) ?_ ?_ ?_ ?_
  ·intro a b _ _ h1 h2
   exact anti _ _ h1.1.1 h1.1.2 h2.2 h1.2
  ·rw[List.pairwise_iff_getElem]
   intro i j hi hj hij
   rw[List.length_map] at hi hj
   refine⟨⟨by rw[List.getElem_map];exact L[i].ok,by rw[List.getElem_map];exact L[j].ok⟩,?_⟩
   have:=hsort i j (Nat.zero_le _) hij (by omega)
   rw[getElem!_pos L.toArray i (by simpa using hi),getElem!_pos L.toArray j (by simpa using hj)] at this
   simpa[ltOf] using this
  ·rw[List.pairwise_iff_getElem] at hm⊢
   intro i j hi hj hij
   exact⟨⟨hg _ (hp.mem_iff.1 (List.getElem_mem hi)),hg _ (hp.mem_iff.1 (List.getElem_mem hj))⟩,hm i j hi hj hij⟩
  ·exact((hLp.map _).trans (by rw[he1])).trans hp.symm
 have hrL:zbl IT X (Enc.cellsL m) (L.flatMap enc):=by rw[←hLm];exact qoy L
 have h1L: ∀v∈L.flatMap enc,v.oneCell'=true:=fun v hv=>by
  obtain⟨e,_,he⟩:=List.mem_flatMap.1 hv
  exact e.one v he
 obtain⟨x1,x2⟩:=zng hIT hI (cs':=Enc.cellsL m) (vs':=L.flatMap enc) (zs:=zs) hκ hb hne' (fun cur' t' f' hc=>by
  rw[hheap] at hc;cases hc
  simp[zha enc (Enc.sz α) hk,hLl,hul]) hrL h1L
 have hgr:Grows (X.w.setRow b (L.flatMap enc++zs).toArray) (sortWorldK enc (Enc.sz α) X.w b 0 n L.toArray os):=by
  rw[hset n L os hLl]
  obtain⟨W,hW⟩: ∃W,W=X.w.setRow b (L.flatMap enc++zs).toArray:=⟨_,rfl⟩
  rw[←hW]
  refine⟨⟨rfl,rfl,rfl,?_,fun k hk=> ?_⟩,Nat.le_add_right _ _⟩
  ·show W.heap.size≤(W.heap++os).size
   simp
  ·show(W.heap++os)[k]? =_
   rw[Array.getElem?_append_left hk]
 exact⟨_,_,rfl,rfl,x1.trans (znx x2 hgr),zlp hIT x2 hgr,⟨[],rfl,rfl⟩⟩
end
end Go.Ab
namespace Go.Ab
open Go Go.RowKit Go.Fwd
abbrev cutQ {τ α:Type} (R:τ→Prop)(Q:α→Prop)(o:τ ⊕ α):Prop:=match o with| .inl t=>R t| .inr y=>Q y
def Ok {α:Type} (Q:α→Prop)(x:Option α):Prop:= ∃r,x=some r∧Q r
section
variable {α β τ ρ:Type} {Q:α→Prop}
theorem zfd {p:Prop} [Decidable p] {k:Option α} (h:p)(hk:Ok Q k):Ok Q (chk p k):=by rw[zdk h];exact hk
theorem zlt {e:β} {k:β→Option α} (h: ∀x,e=x→Ok Q (k x)):Ok Q (zbc e k):=h e rfl
theorem z1a {c:Bool} {A B:Option α} (ht:c=true→Ok Q A)(hf:c=false→Ok Q B):Ok Q (bif c then A else B):=by
 cases c with
 |true=>exact ht rfl
 |false=>exact hf rfl
theorem zjj {r:α} (h:Q r):Ok Q (some r):=⟨r,rfl,h⟩
theorem z9d {x:Option (τ ⊕ α)} {k:τ→Option α} (R:τ→Prop)(h:Ok (cutQ R Q) x)(hk: ∀t,R t→Ok Q (k t)):Ok Q (zdn x k):=by
 obtain⟨o,rfl,h⟩:=h
 cases o with
 |inl t=>exact hk t h
 |inr y=>exact⟨y,rfl,h⟩
theorem z7l {body:β→Option (β ⊕ α)} (T:β→Prop)(m:β→Nat)(hs: ∀s,T s→Ok (cutQ (fun s'=>T s'∧m s'<m s) Q) (body s)): ∀(n:Nat) (s0:β),m s0<n→T s0→Ok Q (zbv body n s0)
 |0,s0,h,_=>absurd h (Nat.not_lt_zero _)
 | n+1,s0,h,h0=>by
  obtain⟨o,ho,h1⟩:=hs s0 h0
  cases o with
  | inl s'=>
   obtain⟨r,h2,h3⟩:=z7l T m hs n s' (by have:=h1.2;omega) h1.1
   exact⟨r,by simp only[zbv,ho,h2],h3⟩
  |inr y=>exact⟨y,by simp only[zbv,ho],h1⟩
theorem Ok.mono {R:α→Prop} {x:Option α} (h:Ok Q x)(hR: ∀r,Q r→R r):Ok R x:=by
 obtain⟨r,h1,h2⟩:=h;exact⟨r,h1,hR r h2⟩
theorem Ok.eq {x:Option α} {v:α} (h:Ok (fun r=>r=v) x):x=some v:=by
 obtain⟨r,h1,rfl⟩:=h;exact h1
end
end Go.Ab
namespace Go.Ab
open Go Go.RowKit Go.Fwd Go.Proofs
def zjq (p:Tr):List Tr→List Tr
 |[]=>[]
 |y::l=>if zrq y p then zjq y l else y::zjq y l
def ztk:List Tr→List Tr
 |[]=>[]
 |x::l=>x::zjq x l
theorem zuz (l:List Tr)(k:Nat)(h:k<l.length)(p:Tr):zjq p (l.drop k)=if zrq (l.getD k noneT) p then zjq (l.getD k noneT) (l.drop (k+1)) else l.getD k noneT::zjq (l.getD k noneT) (l.drop (k+1)):=by
 rw[List.drop_eq_getElem_cons h,zjq,List.getD_eq_getElem?_getD,List.getElem?_eq_getElem h];rfl
theorem ztb (l:List Tr)(k:Nat):ix l (k:Int)=l.getD k noneT:=rfl
theorem zsg {l:List Tr} {k:Nat} (h:k<l.length):l.getD k noneT∈l:=by
 rw[List.getD_eq_getElem?_getD,List.getElem?_eq_getElem h];exact List.getElem_mem h
theorem zmw {l:List Tr} {k:Nat} (h:k<l.length):l.take (k+1)=l.take k++[l.getD k noneT]:=by
 rw[List.take_succ_eq_append_getElem h,List.getD_eq_getElem?_getD,List.getElem?_eq_getElem h];rfl
theorem comp_eq {fuel:Nat} (l:List Tr)(hf:l.length<fuel)(hl:l.length<2^60)(hp: ∀y∈l,(pre y).length<2^61):z8v fuel l=some (ztk l):=by
 refine Ok.eq ?_
 unfold z8v
 refine z1a (fun h=>zjj ?_) fun h=> ?_
 ·match l,h with
  |[],_=>rfl
  |[x],_=>rfl
  |x::y::l,h=>simp at h;omega
 have h2:2≤l.length:=by simp at h;omega
 refine z9d (fun _=>ztk l=l) ?_ fun _ h=>zjj h.symm
 refine z7l (T:=fun s:Int=> ∃k:Nat,s=k∧1≤k∧k≤l.length∧ztk l=l.take k++zjq (l.getD (k-1) noneT) (l.drop k)) (m:=fun s:Int=>l.length-s.toNat) ?_ fuel 1 (by simp;omega) ⟨1,rfl,by omega,by omega,?_⟩
 ·rintro s1 ⟨k,rfl,k1,k2,k3⟩
  refine z1a (fun hk=> ?_) fun hk=>zjj ?_
  ·have hk :k<l.length:=by simpa using hk
   refine z9d (fun _=>ztk l=l.take (k+1)++zjq (l.getD k noneT) (l.drop (k+1))) ?_ fun _ h=>zfd (by omega) (zjj ⟨⟨k+1,by omega,by omega,by omega,h⟩,by omega⟩)
   refine zfd (by omega) (zfd (by omega) (zlt fun x1 e1=>zfd (by omega) (zfd (by omega) (zfd (by omega) (zlt fun x2 e2=> ?_)))))
   rw[ztb] at e1
   rw[show(k:Int)-1=((k-1:Nat):Int) by omega,ztb] at e2
   subst e1 e2
   refine zfd ⟨hp _ (zsg hk),hp _ (zsg (by omega))⟩ (zlt fun x3 e3=> ?_)
   rw[zuz l k hk] at k3
   refine z1a (fun hx=> ?_) fun hx=>zjj ?_
   ·rw [e3,hx,if_pos rfl] at k3
    refine zfd (by omega) ?_
    refine z9d (fun t:Int×List Tr=> ∃w:Nat,t.1=w∧k≤w∧w<l.length∧t.2.length=l.length∧ztk l=t.2.take w) ?_ ?_
    ·refine z7l (T:=fun s:Int×Int×List Tr=> ∃(w j:Nat) (e:List Tr),s=((w:Int),(j:Int),e)∧1≤j∧j≤l.length-k∧k≤w∧w≤k+j-1∧e.length=l.length∧(∀i,k+j-1≤i→e[i]? =l[i]?)∧ztk l=e.take w++zjq (l.getD (k+j-1) noneT) (l.drop (k+j)))
      (m:=fun s=>l.length-s.2.1.toNat) ?_ fuel _ (by simp only;omega) ⟨k,1,l,rfl,by omega,by omega,by omega,by omega,rfl,fun _ _=>rfl,by simpa using k3⟩
     rintro s2 ⟨w,j,e,rfl,j1,j2,w1,w2,he,hsame,hc⟩
     simp only[Int.toNat_natCast]
     refine z1a (fun hj=> ?_) fun hj=>zjj ?_
     ·have hj:j<l.length-k:=by have:=of_decide_eq_true hj;omega
      have q1:e.getD (k+j) noneT=l.getD (k+j) noneT:=by rw[List.getD_eq_getElem?_getD,List.getD_eq_getElem?_getD,hsame _ (by omega)]
      have q2:e.getD (k+(j-1)) noneT=l.getD (k+(j-1)) noneT:=by rw[List.getD_eq_getElem?_getD,List.getD_eq_getElem?_getD,hsame _ (by omega)]
      have hcs:=hc
      rw[zuz l (k+j) (by omega)] at hcs
      refine z9d (fun t:Int×List Tr=> ∃(w':Nat) (e':List Tr),t=((w':Int),e')∧k≤w'∧w'≤k+j∧e'.length=l.length∧(∀i,k+j≤i→e'[i]? =l[i]?)∧ztk l=e'.take w'++zjq (l.getD (k+j) noneT) (l.drop (k+j+1))) ?_ ?_
      ·refine zfd (by omega) (zfd (by omega) (zlt fun x4 e4=>zfd (by omega) (zfd (by omega) (zfd (by omega) (zlt fun x5 e5=> ?_)))))
       rw[show((k:Int)+(j:Int))=((k+j:Nat):Int) by omega,ztb,q1] at e4
       rw[show((k:Int)+((j:Int)-1))=((k+(j-1):Nat):Int) by omega,ztb,q2,show k+(j-1)=k+j-1 by omega] at e5
       subst e4 e5
       refine zfd ⟨hp _ (zsg (by omega)),hp _ (zsg (by omega))⟩ (zlt fun x6 e6=> ?_)
       rw[e6] at hcs
       refine z1a (fun hx6=> ?_) fun hx6=>zjj ⟨w,e,rfl,w1,by omega,he,fun i hi=>hsame i (by omega),?_⟩
       ·have hx6:x6=false:=by simpa using hx6
        rw[hx6,if_neg (by decide)] at hcs
        refine zfd (by omega) (zfd (by omega) (zlt fun x7 e7=>zfd (by omega) (zfd (by omega) (zlt fun x8 e8=>zfd (by omega) (zjj ?_)))))
        rw[show((k:Int)+(j:Int))=((k+j:Nat):Int) by omega,ztb,q1] at e7
        subst e7
        refine⟨w+1,e.set w (l.getD (k+j) noneT),by simp,by omega,by omega,by rw[List.length_set];exact he,fun i hi=> ?_,?_⟩
        ·rw[List.getElem?_set_ne (by omega)];exact hsame i (by omega)
        ·have hwl:w<(e.set w (l.getD (k+j) noneT)).length:=by rw[List.length_set];omega
         have hg:(e.set w (l.getD (k+j) noneT)).getD w noneT=l.getD (k+j) noneT:=by
          rw[List.getD_eq_getElem?_getD,List.getElem?_set_self (by omega)];rfl
         rw[zmw hwl,hg,List.take_set_of_le (Nat.le_refl _),hcs,List.append_assoc];rfl
       ·have hx6:x6=true:=by simpa using hx6
        rw[hx6,if_pos rfl] at hcs
        exact hcs
      ·rintro t ⟨w',e',rfl,a1,a2,a3,a4,a5⟩
       exact zfd (by omega) (zjj ⟨⟨w',j+1,e',by simp,by omega,by omega,a1,by omega,a3,fun i hi=>a4 i (by omega),by rw[show k+(j+1)-1=k+j by omega,show k+(j+1)=k+j+1 by omega];exact a5⟩,by simp only;omega⟩)
     ·have hj:j=l.length-k:=by have:=of_decide_eq_false hj;omega
      refine⟨w,rfl,w1,by omega,he,?_⟩
      rw[show k+j=l.length by omega,List.drop_length] at hc
      simpa[zjq] using hc
    ·rintro⟨t1,e⟩ ⟨w,hw,a1,a2,a3,a4⟩
     simp only at hw a3 a4
     subst hw
     simp only[Int.toNat_natCast]
     exact zfd (by omega) (zfd (by omega) (zfd ⟨by omega,by rw[List.length_take];omega⟩ (zjj a4.symm)))
   ·rw[e3,hx,if_neg (by decide)] at k3
    rw[k3,zmw hk,List.append_assoc];rfl
  ·have hk:k=l.length:=by have:=of_decide_eq_false hk;omega
   show ztk l=l
   rw[k3,hk,List.take_length,List.drop_length];simp[zjq]
 ·match l,h2 with
  |x::l,_=>rfl
theorem qcz (l:List Tr) {n:Nat} (hn:l.length=n)(g:(0<l.length∧l.length<2^60)∧ ∀y∈l,(pre y).length<2^61) {x:List Tr} (hx:ztk l=x) {σ:St} {s:Nat} {fl:Bool} (hb:σ.boxes[s]? =some (29,Enc.cellsL l)):
 Snd (ITP Tryz.prog) Tryz.prog 106 [.bsl s 0 n 8 fl,.clos 23 []] σ (.bsl s 0 x.length 8 false) {σ with boxes:=σ.boxes.set s (29,Enc.cellsL x)}:=by
 subst hn hx
 exact qgc (zat _) (comp_s0 (l.length+1) l _ (comp_eq l (by omega) g.1.2 g.2)) (ar:=[.clos 23 []]) rfl rfl (Enc.cloL _) (Enc.cloL _) (zup (List.length_pos_iff.1 g.1.1)) hb
end Go.Ab
namespace Go.Proofs
open Go.Shelf
def Tryz.sortS_ren:Go.Shelf.Ren:=⟨fun|6=>145|15=>149|14=>172|28=>182|29=>183|20=>188|21=>189|22=>190|23=>191|24=>192|25=>193|26=>194|27=>195|46=>201|47=>197|48=>198|49=>202|50=>203|57=>205|n=>n,fun|22=>86|24=>26|25=>135|3=>3|39=>95|0=>0|53=>176|55=>24|4=>4|46=>186|45=>185|50=>190|5=>5|9=>9|66=>201|70=>205|76=>209|77=>210|n=>n,fun|n=>n⟩
theorem Tryz.sortS:Go.Proofs.SlLaysF0.n6 Tryz.prog Tryz.sortS_ren:={
 mixed:=by kernel_rfl
 f6:=⟨Tryz.f145.name,by decide,Tryz.func145.trans (congrArg some (by kernel_rfl))⟩
 f14:=⟨Tryz.f172.name,by decide,Tryz.func172.trans (congrArg some (by kernel_rfl))⟩
 f15:=Tryz.func149.trans (congrArg some (by kernel_rfl))
 f20:=⟨Tryz.f188.name,by decide,Tryz.func188.trans (congrArg some (by kernel_rfl))⟩
 f21:=⟨Tryz.f189.name,by decide,Tryz.func189.trans (congrArg some (by kernel_rfl))⟩
 f22:=⟨Tryz.f190.name,by decide,Tryz.func190.trans (congrArg some (by kernel_rfl))⟩
 f23:=⟨Tryz.f191.name,by decide,Tryz.func191.trans (congrArg some (by kernel_rfl))⟩
 f24:=⟨Tryz.f192.name,by decide,Tryz.func192.trans (congrArg some (by kernel_rfl))⟩
 f25:=⟨Tryz.f193.name,by decide,Tryz.func193.trans (congrArg some (by kernel_rfl))⟩
 f26:=⟨Tryz.f194.name,by decide,Tryz.func194.trans (congrArg some (by kernel_rfl))⟩
 f27:=⟨Tryz.f195.name,by decide,Tryz.func195.trans (congrArg some (by kernel_rfl))⟩
 f28:=Tryz.func182.trans (congrArg some (by kernel_rfl))
 f29:=Tryz.func183.trans (congrArg some (by kernel_rfl))
 f46:=⟨Tryz.f201.name,by decide,Tryz.func201.trans (congrArg some (by kernel_rfl))⟩
 f47:=Tryz.func197.trans (congrArg some (by kernel_rfl))
 f48:=Tryz.func198.trans (congrArg some (by kernel_rfl))
 f49:=⟨Tryz.f202.name,by decide,Tryz.func202.trans (congrArg some (by kernel_rfl))⟩
 f50:=⟨Tryz.f203.name,by decide,Tryz.func203.trans (congrArg some (by kernel_rfl))⟩
 f57:=⟨Tryz.f205.name,by decide,Tryz.func205.trans (congrArg some (by kernel_rfl))⟩
 t0:=Tryz.underlying0
 a0:=Tryz.isAgg0
 z0:=Tryz.sizeOf0
 v0:=Tryz.zeroValue0
 t3:=Tryz.underlying3
 a3:=Tryz.isAgg3
 z3:=Tryz.sizeOf3
 v3:=Tryz.zeroValue3
 t4:=Tryz.underlying4
 a4:=Tryz.isAgg4
 z4:=Tryz.sizeOf4
 v4:=Tryz.zeroValue4
 t5:=Tryz.underlying5
 a5:=Tryz.isAgg5
 z5:=Tryz.sizeOf5
 v5:=Tryz.zeroValue5
 t9:=Tryz.underlying9
 a9:=Tryz.isAgg9
 z9:=Tryz.sizeOf9
 v9:=Tryz.zeroValue9
 t22:=Tryz.underlying86
 a22:=Tryz.isAgg86
 z22:=Tryz.sizeOf86
 v22:=Tryz.zeroValue86
 t25:=Tryz.underlying135
 a25:=Tryz.isAgg135
 z25:=Tryz.sizeOf135
 v25:=Tryz.zeroValue135
 t39:=Tryz.underlying95
 a39:=Tryz.isAgg95
 z39:=Tryz.sizeOf95
 v39:=Tryz.zeroValue95
 t45:=Tryz.underlying185
 a45:=Tryz.isAgg185
 z45:=Tryz.sizeOf185
 v45:=Tryz.zeroValue185
 t46:=Tryz.underlying186
 a46:=Tryz.isAgg186
 z46:=Tryz.sizeOf186
 v46:=Tryz.zeroValue186
 t50:=Tryz.underlying190
 a50:=Tryz.isAgg190
 z50:=Tryz.sizeOf190
 v50:=Tryz.zeroValue190
 t53:=Tryz.underlying176
 a53:=Tryz.isAgg176
 z53:=Tryz.sizeOf176
 v53:=Tryz.zeroValue176
 t55:=Tryz.underlying24
 a55:=Tryz.isAgg24
 z55:=Tryz.sizeOf24
 v55:=Tryz.zeroValue24
 t66:=Tryz.underlying201
 a66:=Tryz.isAgg201
 z66:=Tryz.sizeOf201
 v66:=Tryz.zeroValue201
 t70:=Tryz.underlying205
 a70:=Tryz.isAgg205
 z70:=Tryz.sizeOf205
 v70:=Tryz.zeroValue205
 t76:=Tryz.underlying209
 a76:=Tryz.isAgg209
 z76:=Tryz.sizeOf209
 v76:=Tryz.zeroValue209
 t77:=Tryz.underlying210
 a77:=Tryz.isAgg210
 z77:=Tryz.sizeOf210
 v77:=Tryz.zeroValue210}
end Go.Proofs
namespace Go.Ab
open Go Go.RowKit Go.Fwd Go.Proofs Go.Sort
theorem andI64 (x y:BitVec 64):z4j .u64 (x.toNat:Int) (y.toNat:Int)=((x&&&y).toNat:Int):=by
 show IntKind.u64.wrap (((BitVec.ofInt 64 (x.toNat:Int)&&&BitVec.ofInt 64 (y.toNat:Int)).toNat:Nat):Int)=_
 rw[zpp,zpp];exact zzl _
theorem z9i (a b:BS)(i:Nat)(hi:i<4):z4j .u64 (wd a i) (wd b i)=wd (a&&&b) i:=by
 unfold wd
 rw[andI64]
 have:W64 a i&&&W64 b i=W64 (a&&&b) i:=by
  apply BitVec.eq_of_getLsbD_eq
  intro j hj
  simp only[W64,BitVec.getLsbD_and,BitVec.getLsbD_extractLsb',hj,decide_true,Bool.true_and]
 rw[this]
theorem and_run (a b:BS):Pure (ITP Tryz.prog) Tryz.prog 56 [.agg (Enc.cells a),.agg (Enc.cells b)] (.agg [.raw (.int .u64 (z4j .u64 (wd a 0) (wd b 0))),.raw (.int .u64 (z4j .u64 (wd a 1) (wd b 1))),.raw (.int .u64 (z4j .u64 (wd a 2) (wd b 2))),.raw (.int .u64 (z4j .u64 (wd a 3) (wd b 3)))]):=zao true zyt 100 (by kernel_rfl)
theorem k_and (a b:BS):Pure (ITP Tryz.prog) Tryz.prog 56 [.agg (Enc.cells a),.agg (Enc.cells b)] (.agg (Enc.cells (a&&&b))):=by
 have:=and_run a b
 rw[z9i _ _ 0 (by decide),z9i _ _ 1 (by decide),z9i _ _ 2 (by decide),z9i _ _ 3 (by decide)] at this;exact this
def allS:BS:=BitVec.allOnes 256
theorem k_allS:Pure (ITP Tryz.prog) Tryz.prog 143 [] (.agg (Enc.cells allS)):=zao true zyt 100 (by kernel_rfl)
def leU (x y:BS):Bool:=decide (zws x y≤0)
def insU (x:BS):List BS→List BS
 |[]=>[x]
 |y::l=>if leU x y then x::y::l else y::insU x l
def z7d (l:List BS):List BS:=l.foldr insU []
theorem zuh (x:BS): ∀l:List BS,(insU x l).Perm (x::l)
 |[]=> .refl _
 | y::l=>by
  rw[insU]
  split
  ·exact .refl _
  ·exact((zuh x l).cons y).trans (.swap x y l)
theorem zjz: ∀l:List BS,(z7d l).Perm l
 |[]=> .refl _
 |x::l=>(zuh x (z7d l)).trans ((zjz l).cons x)
theorem zfu (a b:BS):zws a b= -zws b a:=zvb _ _ _
theorem zga (a b c:BS):zws a b≤0→zws b c≤0→zws a c≤0:=zqn _ _ _ _
theorem zto (x:BS): ∀l:List BS,l.Pairwise (fun a b=>zws a b≤0)→(insU x l).Pairwise fun a b=>zws a b≤0
 |[],_=>by simp[insU]
 | y ::l,h=>by
  rw[insU]
  have h':=List.pairwise_cons.1 h
  split
  ·rename_i hle
   have hle:zws x y≤0:=by simpa[leU] using hle
   exact List.pairwise_cons.2 ⟨fun z hz=>by
    rcases List.mem_cons.1 hz with rfl|hz
    ·exact hle
    ·exact zga x y z hle (h'.1 z hz),h⟩
  ·rename_i hle
   have hle: ¬zws x y≤0:=by simpa[leU] using hle
   refine List.pairwise_cons.2 ⟨fun z hz=> ?_,zto x l h'.2⟩
   rcases List.mem_cons.1 ((zuh x l).mem_iff.1 hz) with rfl|hz
   ·have:=zfu z y;omega
   ·exact h'.1 z hz
theorem zlj: ∀l:List BS,(z7d l).Pairwise fun a b=>zws a b≤0
 |[]=> .nil
 |x::l=>zto x _ (zlj l)
set_option maxRecDepth 100000 in
theorem qff (l:List BS)(g:0<l.length∧l.length<4611686018427387904) {x:List BS} (hx:z7d l=x) {σ:St} {s n:Nat} {fl:Bool} (hb:σ.boxes[s]? =some (26,Enc.cellsL l))(hn:l.length=n):
 Snd (ITP Tryz.prog) Tryz.prog 145 [.bsl s 0 n 4 fl,.clos 108 []] σ (.tup []) {σ with boxes:=σ.boxes.set s (26,Enc.cellsL x)}:=by
 subst hx hn
 refine z9b (α:=BS) (g:=108) (zat _) (enters_of Tryz.func145 (by kernel_rfl) rfl) (enters_of Tryz.func108 (by kernel_rfl) rfl) ?_ zws (fun _=>True) ?_ ?_ ?_ ?_ ?_ l (z7d l) (fun _ _=>trivial) g (zjz l) ?_ hb
 ·intro β _ enc hk h1 cf hO blk off cap d w hcmp hH hblk hsz
  exact AnyQ.slices_SortFunc Tryz.sortS 4 Tryz.isAgg26 Tryz.sizeOf26 enc hk h1 cf hO 108 #[] blk off cap d w (enters_of Tryz.func108 (by kernel_rfl) rfl) hcmp hH hblk hsz
 ·intro a b _ _
  exact z4h a b _ (z4i a b)
 ·intro a _
  have:=zfu a a;omega
 ·intro a b c _ _ _ h1 h2
  have q1:=zga c b a;have q2:=zfu a b;have q3:=zfu b c;have q4:=zfu a c
  have q5:=zga b a c
  have q6:=zga b c a
  have q7:=zga a b c
  have q8:=zga a c b
  have q9:=zga c a b
  omega
 ·intro a b c _ _ _ h1 h2
  have q1:=zga c b a;have q2:=zfu a b;have q3:=zfu b c;have q4:=zfu a c
  omega
 ·intro a b _ _ h1 h2
  have q:=zfu a b
  exact(z4o a b).1 (by omega)
 ·refine(zlj l).imp fun {a b} h=> ?_
  have q:=zfu a b
  omega
theorem qed:Pure (ITP Tryz.prog) Tryz.prog 145 [.list 0 [] .none,.clos 108 []] (.tup []):=zao true zyt 300 (by kernel_rfl)
end Go.Ab
