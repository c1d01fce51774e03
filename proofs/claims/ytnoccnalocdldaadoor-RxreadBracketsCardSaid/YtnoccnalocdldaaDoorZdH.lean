import Derived.OrdersIn
import Derived.LoopNIn
import Derived.Test.YtnoccnalocdldaaDoorZdG
set_option linter.all false
namespace Go.Fwd
open Go Go.RowKit
structure FenceOk (F:Fence)(P:Program):Prop where
 fn: ∀f,F.fn f
 depth:F.depth=none
 calls: ∀(n:Nat) (f:FuncId) (args:Array Value) (w:World) (R:Ending→World→Prop),Calls P f args w R→CallsIn F n P f args w R
 rows: ∀(n:Nat) (row:String) (args:Array Value) (w:World) (R:Value→World→Prop),Rows P row args w R→RowsIn F n P row args w R
 rounds: ∀(n l:Nat) (f:FuncId) (tmps:Array Value) (asg body:Code) (w:World) (R:Ending→World→Prop),RoundIn Fence.wide n P l f tmps asg body w R→RoundIn F n P l f tmps asg body w R
theorem ztq {n:Nat} {P:Program} {row:String} {args:Array Value} {w:World} {R:Value→World→Prop} (h:Rows P row args w R):RowsIn Fence.wide n P row args w R:=
 fun c cs _=>let⟨v,w',r,s⟩:=h c cs;⟨v,w',r,stepsIn_wide.2 s⟩
theorem zqn (P:Program):FenceOk Fence.wide P:=⟨fun _=>trivial,rfl,fun _ _ _ _ _ h=>callsIn_wide.2 h,fun _ _ _ _ _ h=>ztq h,fun _ _ _ _ _ _ _ _ h=>h⟩
theorem zoh (P:Program)(l:Nat):FenceOk (Fence.wide.inRound l) P:=⟨fun _=>trivial,rfl,fun _ _ _ _ _ h=>CallsIn.inRound l (callsIn_wide.2 h),fun n _ _ _ _ h=>(ztq (n:=n) h:RowsIn Fence.wide n _ _ _ _ _),fun _ _ _ _ _ _ _ _ h=>h⟩
section
variable {F:Fence} {nn:Nat} {P:Program} {ops:Array Oper} {w0:World} {a0:Act} {md:Region.Mode}
theorem zim {Q':Exit→Act→World→Prop}: ∀(l:List Oper) (k:Nat) (listed:Array Bool) (a:Act) (w:World),(∀j,l[j]? =ops[k+j]?)→
 Region.seqB md ops l.length k listed=true→wpListIn F nn P ops Q' l a w→wpAnyIn F nn P md ops Q' l.length listed a w
 |[],_,_,_,_,_,hB,h=>⟨by simpa[Region.seqB] using hB,h⟩
 | o::l,k,listed,a,w,hl,hB,h=>by
  have h0:ops[k]? =some o:=by simpa using(hl 0).symm
  simp only[List.length_cons,Region.seqB,Bool.and_eq_true,decide_eq_true_eq] at hB
  refine⟨fun h1=>(by rw[hB.1] at h1;cases h1),fun i hi=> ?_⟩
  rw[hB.1] at hi
  have hik:i=k:=by simpa using hi
  subst hik
  have hw:wpOpIn F nn P ops Q' i (wpListIn F nn P ops Q' l) a w:=by unfold wpOpIn;simp only[h0];exact h
  exact wpOpIn_mono (fun a' w' h'=>zim l (i+1) _ a' w' (fun j=>by have:=hl (j+1);simpa[Nat.add_assoc,Nat.add_comm 1 j] using this) hB.2 h') hw
theorem wpIn_of_good {o:Oper} {V:VP} {a:Act} {w:World} {K:Act→World→Prop} {Q:Exit→Act→World→Prop} (hF:FenceOk F P)(hnd: ∀c,o.op≠ .defer c)(h:OpGood P V w ((execOp a.eval o).run P w))
 (hK: ∀v w',Grows w w'→V v w'→K (a.put o.dst v) w'):o.wpIn F nn P a w K Q:=by
 unfold Oper.wpIn
 refine⟨fun f _=>hF.fn f,?_⟩
 rw[Oper.semAt_plain F _ _ hnd]
 generalize (execOp a.eval o).run P w=r at*
 cases r with
 |halt x w'=>exact h.elim
 | ok x w'=>
  cases x<;>simp only[OpGood] at h<;>simp only[Oper.uponIn]
  case value v=>exact hK _ _ h.1 h.2
  case skip=>exact hK _ _ h.1 h.2
  case enter f args=>
   refine⟨fun hd=>(by rw[hF.depth] at hd;cases hd),CallsIn.mono (hF.calls _ _ _ _ _ h.2) ?_⟩
   rintro e w'' ⟨v,rfl,hg,hv⟩
   exact hK _ _ hg hv
  case row row args=>exact⟨fun hd=>(by rw[hF.depth] at hd;cases hd),RowsIn.mono (hF.rows _ _ _ _ _ h.2) fun v w'' hh=>hK _ _ hh.1 hh.2⟩
theorem anyIn_of_inv (hF:FenceOk F P)(hnd: ∀ {i:Nat} (o:Oper),ops[i]? =some o→ ∀c,o.op≠ .defer c) {Vs:Nat→VP} {n:Nat} {Q:Exit→Act→World→Prop} (hm: ∀j,j<n→Mono (Vs j))(hst: ∀i,i<n→ ∀o,ops[i]? =some o→StepOk P ops w0 a0 (accU ops Vs i) (Vs i) o)
 (hB:zrz ops a0.tmps.size n=true) (hback:zvp ops=true) (hn:n≤ops.size) (htail:n=ops.size∨(Region.sinkB .any ops n=true∧Region.chainB .any ops n=true))
 (hseq:Region.seqB .any ops (ops.size-n) n ((List.replicate n true).toArray++(List.replicate (ops.size-n) false).toArray)=true)
 (hfin: ∀a w,a.tmps.size=a0.tmps.size→a.defers=a0.defers→Grows w0 w→(∀j t,j<n→zbl ops j=some t→Vs j (a.eval (.tmp t)) w)→(∀t,(∀j,j<n→zbl ops j≠some t)→a.eval (.tmp t)=a0.eval (.tmp t))→
  wpListIn F nn P ops Q (ops.toList.drop n) a w):
 ∀(f:Nat) (listed:Array Bool) (a:Act) (w:World),left n listed=f→Inv ops w0 a0 Vs n listed a w→wpAnyIn F nn P .any ops Q (f+(ops.size-n)) listed a w
 | 0, listed,a,w,h0,inv=>by
  have hall:=zhm n h0
  have hl:listed=(List.replicate n true).toArray++(List.replicate (ops.size-n) false).toArray:=by
   apply Array.ext
   ·simp[inv.head.size];omega
   ·intro i h1 h2
    by_cases hin:i<n
    ·have:=hall i hin
     simp[h1] at this
     rw[this,Array.getElem_append_left (by simpa using hin)];simp
    ·have hs:i<ops.size:=by rw[←inv.head.size];exact h1
     have:=inv.head.tail i (by omega) hs
     simp[h1] at this
     rw[this,Array.getElem_append_right (by simp;omega)];simp
  rw[Nat.zero_add]
  have hlen:(ops.toList.drop n).length=ops.size-n:=by simp
  have:=zim (F:=F) (nn:=nn) (P:=P) (md:= .any) (ops:=ops) (Q':=Q) (ops.toList.drop n) n listed a w (fun j=>by simp) (by rw[hlen,hl];exact hseq)
   (hfin a w inv.size inv.defers inv.grows (fun j t hj hd=>inv.done j t hj hd (hall j hj)) (fun t h=>inv.still t fun j hj hd=>absurd hd (h j hj)))
  rwa[hlen] at this
 | f + 1,listed,a,w,h0,inv=>by
  obtain⟨i0,hi0,hu0,hb0⟩:=zln n (by rw[h0];exact Nat.succ_ne_zero f)
  have hr0:i0∈Region.ready .any ops listed:=by
   have hlt:i0<ops.size:=by omega
   refine mem_ready.2 ⟨hu0,ops[i0],by simp[hlt],fun e he hb=> ?_⟩
   have h1:=List.all_eq_true.1 hback i0 (List.mem_range.2 hlt)
   rw[Array.getElem?_eq_getElem hlt] at h1
   have h2:=Array.all_eq_true'.1 h1 e he
   have h3:e.on<i0:=by simpa[hb] using h2
   exact zmk (by rw[inv.head.size];omega) (hb0 _ h3)
  rw[show f+1+(ops.size-n)=(f+(ops.size-n))+1 by omega]
  refine⟨fun h=>(by rw[h] at hr0;cases hr0),fun i hi=> ?_⟩
  have hlt:i<ops.size:=by obtain⟨_,o,ho,_⟩:=mem_ready.1 hi;exact(Array.getElem?_eq_some_iff.1 ho).1
  have hin:i<n:=by
   rcases Nat.lt_or_ge i n with h|h
   ·exact h
   ·rcases htail with hh|⟨hs,hc⟩
    ·omega
    ·exact absurd hi (tail_waits hs hc (by omega) inv.head _ i0 rfl hi0 hu0 i h)
  obtain⟨hun,o,ho,_⟩:=mem_ready.1 hi
  have hleft:left n (listed.setIfInBounds i true)=f:=by have:=zlv hun n hin;omega
  have next: ∀v w',Grows w w'→Vs i v w'→wpAnyIn F nn P .any ops Q (f+(ops.size-n)) (listed.setIfInBounds i true) (a.put o.dst v) w':=fun v w' hg hv=>by
   have:=inv.step hB hm hi hin hg hv
   have e:zbl ops i=o.dst:=by simp[zbl,ho]
   rw[e] at this
   exact anyIn_of_inv hF hnd hm hst hB hback hn htail hseq hfin f _ _ _ hleft this
  have hlk: ∀t∈zef o.op.operands.toList,env a0 (accU ops Vs i) t (a.eval (.tmp t)) w:=fun t ht=>inv.slot hB hi hin (by simp only[zgg,ho];exact List.mem_append.2 (.inl ht))
  have hs:=hst i hin o ho a.eval w (zrf a) inv.grows (all_mk hlk)
  unfold wpOpIn
  simp only[ho]
  cases hgd:o.guard with
  | none=>
   rw[hgd] at hs
   simp only[Region.wanted,hgd,if_true]
   exact wpIn_of_good hF (hnd o ho) hs next
  | some kb=>
   obtain⟨k,b⟩:=kb
   rw[hgd] at hs
   simp only at hs
   obtain⟨d,hd,hs⟩:=hs
   have hg:=hs (a.eval (.tmp d)) (inv.slot hB hi hin (by simp only[zgg,ho,hgd,hd];exact List.mem_append.2 (.inr (by simp))))
   have hy:yielded ops a.tmps k=match a.tmps[d]? with|some (.bool c)=>some c|_=>none:=by
    unfold yielded
    have:(ops[k]?).bind (·.dst)=some d:=hd
    rw[this];rfl
   by_cases hb:a.eval (.tmp d)= .bool b
   ·have hw:Region.wanted o (yielded ops a.tmps)=true:=by
     simp only[Region.wanted,hgd,hy]
     have:a.tmps[d]? =some (.bool b):=by
      simp only[Act.eval] at hb
      cases hh:a.tmps[d]? with
      |none=>simp[hh,undef] at hb
      |some x=>simp[hh] at hb;rw[hb]
     rw[this];simp
    rw[if_pos hw]
    exact wpIn_of_good hF (hnd o ho) (hg.1 hb) next
   ·have hw: ¬Region.wanted o (yielded ops a.tmps)=true:=by
     simp only[Region.wanted,hgd,hy]
     intro h
     apply hb
     simp only[Act.eval]
     cases hh:a.tmps[d]? with
     |none=>simp[hh] at h
     |some x=>cases x<;>simp[hh] at h;simp[hh,h]
    rw[if_neg hw]
    exact⟨fun f _=>hF.fn f,next _ _ (Grows.refl w) (hg.2 hb)⟩
end
theorem wpIn_region_fwd {F:Fence} {nn:Nat} {P:Program} {id:Nat} {Q:Exit→Act→World→Prop} {a:Act} {w:World} {l:List Oper} (hF:FenceOk F P)(n:Nat)(hm:P.follows .mixedOrders=true)(hnd: ∀o∈l,∀c,o.op≠ .defer c)(hB:chk l.toArray a.tmps.size n=true)
 (h:FwdGo P l.toArray w a (fun acc=> ∀w',Grows w w'→EndAt w' acc a fun a'=>wpListIn F nn P l.toArray Q (l.drop n) a' w') (l.take n) []):(Code.region id l.toArray true).wpIn F nn P Q a w:=by
 simp only[chk,Bool.and_eq_true,decide_eq_true_eq,Bool.or_eq_true] at hB
 obtain⟨⟨⟨⟨h1,h2⟩,h3⟩,h4⟩,h5⟩:=hB
 obtain⟨Vs,_,hs,hf⟩:=fwd_choose (P:=P) (ops:=l.toArray) (w0:=w) (a0:=a) (l.take n) 0 (fun _ _ _=>True) (fun j hj=>z4a hj) h
 have hlen:(l.take n).length=n:=by simp at h3⊢;omega
 rw[hlen,Nat.zero_add] at hs hf
 refine wpIn_region_any hm ?_
 have key:=anyIn_of_inv (F:=F) (nn:=nn) (P:=P) hF (fun o ho=>hnd o (by simpa using List.mem_of_getElem? (by simpa using ho))) (ops:=l.toArray) (w0:=w) (a0:=a) (Vs:=Vs) (n:=n) (Q:=Q) (fun j hj=>(hs j (Nat.zero_le _) (by omega)).1) (fun i hi=>(hs i (Nat.zero_le _) (by omega)).2) h1 h2 h3 h4 h5
  (fun a' w' e1 e2 hg hd hst=>by
   have:=end_of_inv (K:=fun a'=>wpListIn F nn P l.toArray Q (l.drop n) a' w') h1 e1 e2 hd hst (hf w' hg)
   simpa using this)
  (left n (Array.replicate l.toArray.size false)) (Array.replicate l.toArray.size false) a {w with drawn:=w.drawn+1} rfl
  ⟨⟨by simp,fun j oj _ hl=>(by rw[getD_replicate_false] at hl;cases hl),fun t _ ht=>getD_in (by simpa using ht) (getD_replicate_false _ _)⟩,(Grows.refl w).drew,rfl,rfl,
   fun j t hj _ hl=>by
    have:j<l.toArray.size:=by omega
    simp at this;simp[this] at hl,fun _ _=>rfl⟩
 have hleft: ∀m,m≤l.toArray.size→left m (Array.replicate l.toArray.size false)=m:=by
  intro m
  induction m with
  |zero=>intro _;rfl
  | succ m ih=>
   intro hm
   have:m<l.length:=by simp at hm;omega
   simp only[left,ih (by omega)]
   simp[this]
 rw[hleft n h3,show n+(l.toArray.size-n)=l.toArray.size by omega] at key
 exact key
end Go.Fwd
namespace Go.Ab
open Go Go.RowKit Go.Fwd
mutual
def zbp (n:Nat):AV→Bool
 | .agg cs=>zad n cs
 | .tup cs=>zad n cs
 | .list _ cs _=>zad n cs
 | .ptr s _=>decide (s<n)
 | .bsl s _ _ _ _=>decide (s<n)
 | .iptr cs=>zad n cs
 | .clos _ cs=>zad n cs
 | .iter _=>true
 | .yld _=>true
 | .raw _=>true
 | .top=>true
 | .bad=>true
def zad (n:Nat):List AV→Bool
 |[]=>true
 |a::l=>zbp n a&&zad n l
end
mutual
def zcv:AV→AV
 | .agg cs=> .agg (stripL cs)
 | .tup cs=> .tup (stripL cs)
 | .list n cs _=> .list n (stripL cs) .none
 | .ptr s o=> .ptr s o
 | .bsl s o n sz f=> .bsl s o n sz f
 | .iptr cs=> .iptr (stripL cs)
 | .clos f cs=> .clos f (stripL cs)
 | .iter xs=> .iter xs
 | .yld l=> .yld l
 | .raw v=> .raw v
 | .top=> .top
 | .bad=> .bad
def stripL:List AV→List AV
 |[]=>[]
 |a::l=>zcv a::stripL l
end
theorem zlp: ∀l,stripL l=l.map zcv
 |[]=>by simp[stripL]
 |a::l=>by rw[stripL,zlp l,List.map_cons]
theorem zhi (n:Nat): ∀l,zad n l=l.all (zbp n)
 |[]=>by simp[zad]
 |a::l=>by rw[zad,zhi n l,List.all_cons]
mutual
theorem zrg {IT:IterP} (hIT:ITMono IT) {X Y:Cx} {n:Nat} (hF:Y.F=X.F)(hw:Y.w=X.w)(hβ:Y.β=X.β)(hl:Y.lens=X.lens)(hκ:Y.κ=X.κ.take n): ∀(a:AV) (v:Value),zbp n a=true→Rep IT X a v→Rep IT Y a v
 | .raw u,v,_,hr=>hr
 | .agg cs,v,ho,⟨vs,e,hr,h1⟩=>⟨vs,e,zkm hIT hF hw hβ hl hκ cs vs (by simpa[zbp] using ho) hr,h1⟩
 | .tup cs,v,ho,⟨vs,e,hr⟩=>⟨vs,e,zkm hIT hF hw hβ hl hκ cs vs (by simpa[zbp] using ho) hr⟩
 | .list m cs st,v,ho,⟨a,cap,e,hcap,hc,hs⟩=>⟨a,cap,e,hcap,hc.imp id fun⟨b,o,e1,e2⟩=>⟨b,o,e1,z3c hIT hF hw hβ hl hκ cs b o (by simpa[zbp] using ho) e2⟩,by cases st<;>simp only[hl,hβ]<;>exact hs⟩
 | .ptr s off,v,ho,⟨b,e1,e2⟩=>⟨b,by rw[hκ,List.getElem?_take,if_pos (by simpa[zbp] using ho)];exact e1,e2⟩
 | .bsl s off m sz f,v,ho,hr=>Bsl.mono (fun b e1=>by rw[hκ,List.getElem?_take,if_pos (by simpa[zbp] using ho)];exact e1) hw hr
 | .iptr cs,v,ho,⟨b,o,e,hc⟩=>⟨b,o,e,z3c hIT hF hw hβ hl hκ cs b o (by simpa[zbp] using ho) hc⟩
 | .clos f caps,v,ho,⟨vs,e,hr⟩=>⟨vs,e,zkm hIT hF hw hβ hl hκ caps vs (by simpa[zbp] using ho) hr⟩
 | .iter xs,v,ho,h2=>hIT.it _ _ _ _ (fun b o h=>by rw[hF];exact h) (fun b o h=>by rw[hw]) (Szs.eq hw) h2
 | .yld _,_,_,hr=>hr
 | .top,_,_,hr=>hr
 | .bad,_,_,hr=>hr
theorem zkm {IT:IterP} (hIT:ITMono IT) {X Y:Cx} {n:Nat} (hF:Y.F=X.F)(hw:Y.w=X.w)(hβ:Y.β=X.β)(hl:Y.lens=X.lens)(hκ:Y.κ=X.κ.take n): ∀(l:List AV) (vs:List Value),zad n l=true→zbk IT X l vs→zbk IT Y l vs
 |[],_,_,hr=>hr
 | a::l,vs,ho,⟨v,r,e,h1,h2⟩=>by
  rw[zad,Bool.and_eq_true] at ho
  exact⟨v,r,e,zrg hIT hF hw hβ hl hκ a v ho.1 h1,zkm hIT hF hw hβ hl hκ l r ho.2 h2⟩
theorem z3c {IT:IterP} (hIT:ITMono IT) {X Y:Cx} {n:Nat} (hF:Y.F=X.F)(hw:Y.w=X.w)(hβ:Y.β=X.β)(hl:Y.lens=X.lens)(hκ:Y.κ=X.κ.take n): ∀(cs:List AV) (b o:Nat),zad n cs=true→At IT X cs b o→At IT Y cs b o
 |[],_,_,_,_=>trivial
 | c::cs,b,o,ho,⟨⟨hf,v,hv,h1,hr⟩,ht⟩=>by
  rw[zad,Bool.and_eq_true] at ho
  exact⟨⟨by rw[hF];exact hf,v,by rw[hw];exact hv,h1,zrg hIT hF hw hβ hl hκ c v ho.1 hr⟩,z3c hIT hF hw hβ hl hκ cs b (o+1) ho.2 ht⟩
end
mutual
theorem zhh {IT:IterP} (hIT:ITMono IT) {X Y:Cx} (hF:Y.F=X.F)(hw:Y.w=X.w): ∀(a:AV) (v:Value),(zbp 0 a=true∨Y.κ=X.κ)→Rep IT X a v→Rep IT Y (zcv a) v
 | .raw u,v,_,hr=>hr
 | .agg cs,v,ho,⟨vs,e,hr,h1⟩=>⟨vs,e,zeo hIT hF hw cs vs (by simpa[zbp] using ho) hr,h1⟩
 | .tup cs,v,ho,⟨vs,e,hr⟩=>⟨vs,e,zeo hIT hF hw cs vs (by simpa[zbp] using ho) hr⟩
 | .list m cs st,v,ho,⟨a,cap,e,hcap,hc,hs⟩=>⟨a,cap,e,hcap,by
  rcases hc with rfl|⟨b,o,e1,e2⟩
  ·exact .inl (by simp[stripL])
  ·exact .inr ⟨b,o,e1,zwz hIT hF hw cs b o (by simpa[zbp] using ho) e2⟩,trivial⟩
 | .ptr s off,v,ho,⟨b,e1,e2⟩=>by
  rcases ho with ho|ho
  ·simp[zbp] at ho
  ·exact⟨b,by rw[ho];exact e1,e2⟩
 | .bsl s off m sz f,v,ho,hr=>by
  rcases ho with ho|ho
  ·simp[zbp] at ho
  ·exact Bsl.mono (fun b e1=>by rw[ho];exact e1) hw hr
 | .iptr cs,v,ho,⟨b,o,e,hc⟩=>⟨b,o,e,zwz hIT hF hw cs b o (by simpa[zbp] using ho) hc⟩
 | .clos f caps,v,ho,⟨vs,e,hr⟩=>⟨vs,e,zeo hIT hF hw caps vs (by simpa[zbp] using ho) hr⟩
 | .iter xs,v,ho,h2=>hIT.it _ _ _ _ (fun b o h=>by rw[hF];exact h) (fun b o h=>by rw[hw]) (Szs.eq hw) h2
 | .yld _,_,_,hr=>hr
 | .top,_,_,hr=>hr
 | .bad,_,_,hr=>hr
theorem zeo {IT:IterP} (hIT:ITMono IT) {X Y:Cx} (hF:Y.F=X.F)(hw:Y.w=X.w): ∀(l:List AV) (vs:List Value),(zad 0 l=true∨Y.κ=X.κ)→zbk IT X l vs→zbk IT Y (stripL l) vs
 |[],_,_,hr=>hr
 | a::l,vs,ho,⟨v,r,e,h1,h2⟩=>by
  rw[zad,Bool.and_eq_true] at ho
  exact⟨v,r,e,zhh hIT hF hw a v (ho.imp And.left id) h1,zeo hIT hF hw l r (ho.imp And.right id) h2⟩
theorem zwz {IT:IterP} (hIT:ITMono IT) {X Y:Cx} (hF:Y.F=X.F)(hw:Y.w=X.w): ∀(cs:List AV) (b o:Nat),(zad 0 cs=true∨Y.κ=X.κ)→At IT X cs b o→At IT Y (stripL cs) b o
 |[],_,_,_,_=>trivial
 | c::cs,b,o,ho,⟨⟨hf,v,hv,h1,hr⟩,ht⟩=>by
  rw[zad,Bool.and_eq_true] at ho
  exact⟨⟨by rw[hF];exact hf,v,by rw[hw];exact hv,h1,zhh hIT hF hw c v (ho.imp And.left id) hr⟩,zwz hIT hF hw cs b (o+1) (ho.imp And.right id) ht⟩
end
mutual
theorem zvo {IT:IterP} (hIT:ITMono IT) {X Y:Cx} (hF:Y.F=X.F)(hw:Y.w=X.w)(h0:X.κ=[])(hl:X.lens=[]): ∀(a:AV) (v:Value),Rep IT X a v→Rep IT Y a v
 | .raw u,v,hr=>hr
 | .agg cs,v,⟨vs,e,hr,h1⟩=>⟨vs,e,zmz hIT hF hw h0 hl cs vs hr,h1⟩
 | .tup cs,v,⟨vs,e,hr⟩=>⟨vs,e,zmz hIT hF hw h0 hl cs vs hr⟩
 | .list m cs st,v,⟨a,cap,e,hcap,hc,hs⟩=>⟨a,cap,e,hcap,hc.imp id fun⟨b,o,e1,e2⟩=>⟨b,o,e1,z1w hIT hF hw h0 hl cs b o e2⟩,by
  cases st with
  |none=>trivial
  |full=>exact hs
  |own s=>obtain⟨L,k1,_⟩:=hs;rw[hl] at k1;simp at k1⟩
 | .ptr s off,v,⟨b,e1,e2⟩=>by rw[h0] at e1;simp at e1
 | .bsl s off m sz f,v,⟨b,_,_,_,e1,_⟩=>by rw[h0] at e1;simp at e1
 | .iptr cs,v,⟨b,o,e,hc⟩=>⟨b,o,e,z1w hIT hF hw h0 hl cs b o hc⟩
 | .clos f caps,v,⟨vs,e,hr⟩=>⟨vs,e,zmz hIT hF hw h0 hl caps vs hr⟩
 | .iter xs,v,h2=>hIT.it _ _ _ _ (fun b o h=>by rw[hF];exact h) (fun b o h=>by rw[hw]) (Szs.eq hw) h2
 | .yld _,_,hr=>hr
 | .top,_,hr=>hr
 | .bad,_,hr=>hr
theorem zmz {IT:IterP} (hIT:ITMono IT) {X Y:Cx} (hF:Y.F=X.F)(hw:Y.w=X.w)(h0:X.κ=[])(hl:X.lens=[]): ∀(l:List AV) (vs:List Value),zbk IT X l vs→zbk IT Y l vs
 |[],_,hr=>hr
 |a::l,vs,⟨v,r,e,h1,h2⟩=>⟨v,r,e,zvo hIT hF hw h0 hl a v h1,zmz hIT hF hw h0 hl l r h2⟩
theorem z1w {IT:IterP} (hIT:ITMono IT) {X Y:Cx} (hF:Y.F=X.F)(hw:Y.w=X.w)(h0:X.κ=[])(hl:X.lens=[]): ∀(cs:List AV) (b o:Nat),At IT X cs b o→At IT Y cs b o
 |[],_,_,_=>trivial
 |c::cs,b,o,⟨⟨hf,v,hv,h1,hr⟩,ht⟩=>⟨⟨by rw[hF];exact hf,v,by rw[hw];exact hv,h1,zvo hIT hF hw h0 hl c v hr⟩,z1w hIT hF hw h0 hl cs b (o+1) ht⟩
end
def St.empty:St:=⟨[],[],[],0,false⟩
def Ent (P:Program)(f:FuncId):Prop:= ∀args w,(callFunc f args).run P w= .ok (.enter f args) w
def Snd (IT:IterP)(P:Program)(f:FuncId)(args:List AV)(σ:St)(r:AV)(σ':St):Prop:=
 Ent P f∧ ∀(X:Cx) (vs:List Value),Inv IT σ X→zbk IT X args vs→Calls P f vs.toArray X.w fun e w'=> ∃v X',e= .returned v∧X'.w=w'∧Ext X X'∧Inv IT σ' X'∧Rep IT X' r v
def Pure (IT:IterP)(P:Program)(f:FuncId)(args:List AV)(r:AV):Prop:=Snd IT P f args St.empty r St.empty
theorem zoe {IT:IterP} {σ:St} {X:Cx} (hI:Inv IT σ X):Inv IT St.empty ⟨X.F,[],[],[],X.w,fun _=>False,fun _ _=>False⟩ where
 lens:=rfl
 elems:=rfl
 κlen:=rfl
 κnd:=fun s s' b h=>by simp at h
 box:=fun s b t cs h=>by simp at h
 κF:=fun s b t cs h=>by simp at h
 βlen:=rfl
 βnd:=List.nodup_nil
 βκ:=fun r h=>by simp at h
 row:=fun s r L h=>by simp at h
 Ok:=fun b h=>h.elim
 Fcell:=hI.Fcell
 gv:=hI.gv
theorem zja {IT:IterP} (hIT:ITMono IT) {P:Program} {f:FuncId} {args args':List AV} {r:AV} (h:Pure IT P f args' r)(hargs:stripL args=args')(hok:zad 0 args=true) {σ:St} {X:Cx} (hI:Inv IT σ X) {vs:List Value} (hr:zbk IT X args vs):
 Calls P f vs.toArray X.w fun e w'=> ∃v X',e= .returned v∧X'.w=w'∧Ext X X'∧Inv IT σ X'∧Rep IT X' r v∧Grows X.w X'.w∧X'.κ=X.κ∧X'.β=X.β∧X'.lens=X.lens∧(X'.O=X.O∧X'.C=X.C)∧ ∀b i,X'.F b i→X.F b i∨X.w.heap.size≤b:=by
 subst hargs
 have h0:zbk IT ⟨X.F,[],[],[],X.w,fun _=>False,fun _ _=>False⟩ (stripL args) vs:=zeo (X:=X) (Y:=⟨X.F,[],[],[],X.w,fun _=>False,fun _ _=>False⟩) hIT rfl rfl args vs (.inl hok) hr
 refine(h.2 ⟨X.F,[],[],[],X.w,fun _=>False,fun _ _=>False⟩ vs (zoe hI) h0).mono ?_
 rintro e w' ⟨v,Y,rfl,rfl,hE,hIY,hv⟩
 have hκ:Y.κ=[]:=by have:=hIY.κlen;simpa[St.empty] using this
 have hl:Y.lens=[]:=hIY.lens
 have hblk: ∀b,b<X.w.heap.size→Y.w.heap[b]? =X.w.heap[b]? :=fun b hb=>hE.frame b hb (by simp) (by simp)
 have hg:Grows X.w Y.w:=⟨⟨hE.os,hE.tape,hE.output,hE.size,hblk⟩,hE.drawn⟩
 have hFn: ∀b i,Y.F b i→X.F b i∨X.w.heap.size≤b:=fun b i hf=>by
  rcases hE.Fnew b i hf with h|h|⟨q,hq,_⟩|h
  ·exact .inl h
  ·exact .inr h
  ·simp at hq
  ·simp at h
 have hX:Ext X ⟨Y.F,X.κ,X.β,X.lens,Y.w,X.O,X.C⟩:={
  os:=hE.os,tape:=hE.tape,output:=hE.output,size:=hE.size,drawn:=hE.drawn,F:=hE.F,cell:=hE.cell
  κ:=fun _ _ h=>h
  lens:=fun s L h=>⟨L,h,Nat.le_refl _,fun _=>rfl⟩
  blk:=fun s b hs cur t f h=>⟨cur,(hblk b (hI.κlt (List.mem_of_getElem? hs))).trans h,rfl⟩
  szs:=Szs.old hblk
  frame:=fun b hb _ _=>hblk b hb
  κnew:=fun _ h=> .inl h
  βnew:=fun r h=> .inl ⟨r,h,rfl⟩
  O:=rfl
  C:=rfl
  Fnew:=fun b i hf=>(hFn b i hf).imp id .inl}
 refine⟨v,⟨Y.F,X.κ,X.β,X.lens,Y.w,X.O,X.C⟩,rfl,rfl,hX,?_,zvo (X:=Y) (Y:=⟨Y.F,X.κ,X.β,X.lens,Y.w,X.O,X.C⟩) hIT rfl rfl hκ hl r v hv,hg,rfl,rfl,rfl,⟨rfl,rfl⟩,hFn⟩
 refine {lens:=hI.lens,elems:=hI.elems,κlen:=hI.κlen,κnd:=hI.κnd,box:= ?_,κF:= ?_,βlen:=hI.βlen,βnd:=hI.βnd,βκ:=hI.βκ,row:= ?_,Ok:= ?_,Fcell:=hIY.Fcell}
 ·intro s b t cs hs hb
  obtain⟨us,zs,u1,u2,u3⟩:=hI.box s b t cs hs hb
  exact⟨us,zs,(hblk b (hI.κlt (List.mem_of_getElem? hs))).trans u1,zaw hIT hX _ _ u2,u3⟩
 ·intro s b t cs hs hb hc o hf
  rcases hFn b o hf with h|h
  ·exact hI.κF s b t cs hs hb hc o h
  ·have:=hI.κlt (List.mem_of_getElem? hs);omega
 ·intro s q L hq hL
  obtain⟨cur,fz,c1,c2,c3,c4,c5,c6,c7⟩:=hI.row s q L hq hL
  have hlt:=hI.βlt (List.mem_of_getElem? hq)
  refine⟨cur,fz,(hblk _ hlt).trans c1,c2,c3,c4,c5,fun o hf=> ?_,c7⟩
  rcases hFn _ o hf with h|h
  ·exact c6 o h
  ·omega
 ·intro b ho
  obtain⟨⟨cs0,t0,f0,h0⟩,h2,h3,h4⟩:=hI.Ok b ho
  have hlt:=hI.Olt ho
  exact⟨⟨cs0,t0,f0,(hblk b hlt).trans h0⟩,h2,h3,fun o hf=>(hFn b o hf).elim (h4 o) fun h=>by omega⟩
abbrev FZ:=(Nat→Nat→AV)×(Nat→Nat→Nat→Nat→AV)
mutual
def zgb (g:FZ):AV→AV
 | .raw u=> .raw u
 | .agg cs=> .agg (zbr g cs)
 | .tup cs=> .tup (zbr g cs)
 | .list n cs _=> .list n (zbr g cs) .none
 | .ptr s off=>g.1 s off
 | .bsl s off n sz _=>g.2 s off n sz
 | .iptr cs=> .iptr (zbr g cs)
 | .clos f caps=> .clos f (zbr g caps)
 | .iter xs=> .iter xs
 | .yld l=> .yld l
 | .top=> .top
 | .bad=> .bad
def zbr (g:FZ):List AV→List AV
 |[]=>[]
 |a::l=>zgb g a::zbr g l
end
def frz (bs:List (TypeId×List AV)):Nat→FZ
 |0=>(fun _ _=> .top,fun _ _ _ _=> .top)
 | n+1=>(fun s off=> .iptr (zbr (frz bs n) (((bs[s]?).map fun b=>b.2.drop off).getD [])),
  fun s off m sz=> .list m ((zbr (frz bs n) (((bs[s]?).map fun b=>b.2.drop off).getD [])).take (m*sz)) .none)
mutual
theorem zpt {IT:IterP} (hIT:ITMono IT) {X Y:Cx} {g:FZ} (hF: ∀b o,X.F b o→Y.F b o)(hw:Y.w=X.w)(hg:(∀s off v,Rep IT X (.ptr s off) v→Rep IT Y (g.1 s off) v)∧ ∀s off n sz f v,Rep IT X (.bsl s off n sz f) v→Rep IT Y (g.2 s off n sz) v): ∀(a:AV) (v:Value),Rep IT X a v→Rep IT Y (zgb g a) v
 | .raw u,v,hr=>hr
 | .agg cs,v,⟨vs,e,hr,h1⟩=>⟨vs,e,zez hIT hF hw hg cs vs hr,h1⟩
 | .tup cs,v,⟨vs,e,hr⟩=>⟨vs,e,zez hIT hF hw hg cs vs hr⟩
 | .list m cs st,v,⟨a,cap,e,hcap,hc,hs⟩=>⟨a,cap,e,hcap,hc.imp (fun h=>by subst h;rfl) fun⟨b,o,e1,e2⟩=>⟨b,o,e1,ztd hIT hF hw hg cs b o e2⟩,trivial⟩
 | .ptr s off,v,hr=>hg.1 s off v hr
 | .bsl s off n sz f,v,hr=>hg.2 s off n sz f v hr
 | .iptr cs,v,⟨b,o,e,hc⟩=>⟨b,o,e,ztd hIT hF hw hg cs b o hc⟩
 | .clos f caps,v,⟨vs,e,hr⟩=>⟨vs,e,zez hIT hF hw hg caps vs hr⟩
 | .iter xs,v,h2=>hIT.it _ _ _ _ hF (fun b o h=>by rw[hw]) (Szs.eq hw) h2
 | .yld _,_,hr=>hr
 | .top,_,hr=>hr
 | .bad,_,hr=>hr
theorem zez {IT:IterP} (hIT:ITMono IT) {X Y:Cx} {g:FZ} (hF: ∀b o,X.F b o→Y.F b o)(hw:Y.w=X.w)(hg:(∀s off v,Rep IT X (.ptr s off) v→Rep IT Y (g.1 s off) v)∧ ∀s off n sz f v,Rep IT X (.bsl s off n sz f) v→Rep IT Y (g.2 s off n sz) v): ∀(l:List AV) (vs:List Value),zbk IT X l vs→zbk IT Y (zbr g l) vs
 |[],_,hr=>hr
 |a::l,vs,⟨v,r,e,h1,h2⟩=>⟨v,r,e,zpt hIT hF hw hg a v h1,zez hIT hF hw hg l r h2⟩
theorem ztd {IT:IterP} (hIT:ITMono IT) {X Y:Cx} {g:FZ} (hF: ∀b o,X.F b o→Y.F b o)(hw:Y.w=X.w)(hg:(∀s off v,Rep IT X (.ptr s off) v→Rep IT Y (g.1 s off) v)∧ ∀s off n sz f v,Rep IT X (.bsl s off n sz f) v→Rep IT Y (g.2 s off n sz) v): ∀(cs:List AV) (b o:Nat),At IT X cs b o→At IT Y (zbr g cs) b o
 |[],_,_,_=>trivial
 |c::cs,b,o,⟨⟨hf,v,hv,h1,hr⟩,ht⟩=>⟨⟨hF b o hf,v,by rw[hw];exact hv,h1,zpt hIT hF hw hg c v hr⟩,ztd hIT hF hw hg cs b (o+1) ht⟩
end
def z6d (Y:Cx)(b o:Nat):Prop:=Y.F b o∨b∈Y.κ∧ ∃v,Y.w.cell? ⟨b,o,none⟩=some v
theorem z3x {IT:IterP} (hIT:ITMono IT) {σ:St} {Y:Cx} {O C} (hI:Inv IT σ Y): ∀n,(∀s off v,Rep IT Y (.ptr s off) v→Rep IT ⟨z6d Y,[],[],[],Y.w,O,C⟩ ((frz σ.boxes n).1 s off) v)∧
 ∀s off m sz f v,Rep IT Y (.bsl s off m sz f) v→Rep IT ⟨z6d Y,[],[],[],Y.w,O,C⟩ ((frz σ.boxes n).2 s off m sz) v:=by
 intro n
 induction n with
 |zero=>exact⟨fun _ _ _ _=>trivial,fun _ _ _ _ _ _ _=>trivial⟩
 | succ n ih=>
  have key: ∀(s b off:Nat),Y.κ[s]? =some b→At IT ⟨z6d Y,[],[],[],Y.w,O,C⟩ (zbr (frz σ.boxes n) (((σ.boxes[s]?).map fun b=>b.2.drop off).getD [])) b off:=fun s b off hb=>by
   have hs:s<σ.boxes.length:=by rw[←hI.κlen];exact(List.getElem?_eq_some_iff.1 hb).1
   obtain⟨us,zs,u1,u2,u3⟩:=hI.box s b (σ.boxes[s]).1 (σ.boxes[s]).2 hb (by simp[hs])
   simp only[List.getElem?_eq_getElem hs,Option.map_some,Option.getD_some]
   have hcell: ∀(i:Nat) v,(us.drop off)[i]? =some v→Y.w.cell? ⟨b,off+i,none⟩=some v:=fun i v hv=>by
    rw[List.getElem?_drop] at hv
    have:=(List.getElem?_eq_some_iff.1 hv).1
    unfold World.cell?
    simp[u1,List.getElem?_append_left this,hv]
   exact zws (fun i hi=> .inr ⟨List.mem_of_getElem? hb,_,hcell i _ (List.getElem?_eq_getElem hi)⟩) (fun v hv=>u3 v (List.mem_of_mem_drop hv)) (zez (Y:=⟨z6d Y,[],[],[],Y.w,O,C⟩) hIT (fun b o h=>Or.inl h) rfl ih _ _ (zgo u2 off)) hcell
  refine⟨?_,?_⟩
  ·rintro s off v ⟨b,hb,rfl⟩
   exact⟨b,off,rfl,key s b off hb⟩
  ·rintro s off m sz f v ⟨b,cap,cur,t,hb,rfl,hcap,hful,_⟩
   exact⟨_,cap,rfl,⟨hcap,fun h=>by cases h⟩,.inr ⟨b,off,rfl,zvm _ (key s b off hb)⟩,trivial⟩
def zxs:AV→Bool
 | .raw _=>true
 |_=>false
def zsl:AV→Bool
 | .raw _=>true
 | .agg cs=>cs.all zxs
 | .tup cs=>cs.all zxs
 |_=>false
theorem zkn {IT:IterP} {X Y:Cx}: ∀(l:List AV) (vs:List Value),l.all zxs=true→zbk IT X l vs→zbk IT Y l vs
 |[],_,_,h=>h
 | a::l,vs,ho,⟨v,r,e,h1,h2⟩=>by
  rw[List.all_cons,Bool.and_eq_true] at ho
  refine⟨v,r,e,?_,zkn l r ho.2 h2⟩
  cases a with
  |raw u=>exact h1
  |_=>simp[zxs] at ho
theorem zpx {IT:IterP} {X Y:Cx} {a:AV} {v:Value} (ho:zsl a=true)(h:Rep IT X a v):Rep IT Y a v:=by
 cases a with
 |raw u=>exact h
 |agg cs=>obtain⟨vs,e,h1,h2⟩:=h;exact⟨vs,e,zkn cs vs ho h1,h2⟩
 |tup cs=>obtain⟨vs,e,h1⟩:=h;exact⟨vs,e,zkn cs vs ho h1⟩
 |_=>simp[zsl] at ho
theorem qfr {IT:IterP} (hIT:ITMono IT) {P:Program} {f:FuncId} {args args':List AV} {r:AV} (n:Nat) {σ:St} (h:Pure IT P f args' r)(hargs:zbr (frz σ.boxes n) args=args')(hraw:zsl r=true) {X:Cx} (hI:Inv IT σ X) {vs:List Value} (hr:zbk IT X args vs):
 Calls P f vs.toArray X.w fun e w'=> ∃v X',e= .returned v∧X'.w=w'∧Ext X X'∧Inv IT σ X'∧Rep IT X' r v:=by
 subst hargs
 have h0:zbk IT ⟨z6d X,[],[],[],X.w,fun _=>False,fun _ _=>False⟩ (zbr (frz σ.boxes n) args) vs:=zez (Y:=⟨z6d X,[],[],[],X.w,fun _=>False,fun _ _=>False⟩) hIT (fun b o h=>Or.inl h) rfl (z3x hIT hI n) args vs hr
 have hI0:Inv IT St.empty ⟨z6d X,[],[],[],X.w,fun _=>False,fun _ _=>False⟩:={zoe hI with
  gv:=hIT.gv _ _ _ _ (fun b o h=>Or.inl h) (fun _ _ _=>rfl) (Szs.refl _) hI.gv
  box:=fun s b t cs h=>by simp at h
  κF:=fun s b t cs h=>by simp at h
  row:=fun s r L h=>by simp at h
  Ok:=fun b h=>h.elim
  Fcell:=fun b o hf=>hf.elim (hI.Fcell b o) And.right}
 refine(h.2 ⟨z6d X,[],[],[],X.w,fun _=>False,fun _ _=>False⟩ vs hI0 h0).mono ?_
 rintro e w' ⟨v,Y,rfl,rfl,hE,hIY,hv⟩
 have hblk: ∀b,b<X.w.heap.size→Y.w.heap[b]? =X.w.heap[b]? :=fun b hb=>hE.frame b hb (by simp) (by simp)
 have hFn: ∀b i,((Y.F b i∧b∉X.κ)∨X.F b i)→X.F b i∨X.w.heap.size≤b:=fun b i h=>by
  rcases h with⟨hf,hk⟩|h
  ·rcases hE.Fnew b i hf with(h|⟨h,_⟩)|h|⟨q,hq,_⟩|h
   ·exact .inl h
   ·exact absurd h hk
   ·exact .inr h
   ·simp at hq
   ·simp at h
  ·exact .inl h
 have hX:Ext X ⟨fun b o=>(Y.F b o∧b∉X.κ)∨X.F b o,X.κ,X.β,X.lens,Y.w,X.O,X.C⟩:={
  os:=hE.os,tape:=hE.tape,output:=hE.output,size:=hE.size,drawn:=hE.drawn
  F:=fun b o h=> .inr h
  cell:=fun b o h=>hE.cell b o (.inl h)
  κ:=fun _ _ h=>h
  lens:=fun s L h=>⟨L,h,Nat.le_refl _,fun _=>rfl⟩
  blk:=fun s b hs cur t f h=>⟨cur,(hblk b (hI.κlt (List.mem_of_getElem? hs))).trans h,rfl⟩
  szs:=Szs.old hblk
  frame:=fun b hb _ _=>hblk b hb
  κnew:=fun _ h=> .inl h
  βnew:=fun r h=> .inl ⟨r,h,rfl⟩
  O:=rfl
  C:=rfl
  Fnew:=fun b i hf=>(hFn b i hf).imp id .inl}
 refine⟨v,⟨fun b o=>(Y.F b o∧b∉X.κ)∨X.F b o,X.κ,X.β,X.lens,Y.w,X.O,X.C⟩,rfl,rfl,hX,?_,zpx hraw hv⟩
 refine {lens:=hI.lens,elems:=hI.elems,κlen:=hI.κlen,κnd:=hI.κnd,box:= ?_,κF:= ?_,βlen:=hI.βlen,βnd:=hI.βnd,βκ:=hI.βκ,row:= ?_,Ok:= ?_,Fcell:=fun b o hf=>hIY.Fcell b o (hf.elim And.left fun h=>hE.F b o (.inl h))}
 ·intro s b t cs hs hb
  obtain⟨us,zs,u1,u2,u3⟩:=hI.box s b t cs hs hb
  exact⟨us,zs,(hblk b (hI.κlt (List.mem_of_getElem? hs))).trans u1,zaw hIT hX _ _ u2,u3⟩
 ·intro s b t cs hs hb hc o hf
  rcases hf with⟨_,hf⟩|hf
  ·exact hf (List.mem_of_getElem? hs)
  ·exact hI.κF s b t cs hs hb hc o hf
 ·intro s q L hq hL
  obtain⟨cur,fz,c1,c2,c3,c4,c5,c6,c7⟩:=hI.row s q L hq hL
  have hlt:=hI.βlt (List.mem_of_getElem? hq)
  refine⟨cur,fz,(hblk _ hlt).trans c1,c2,c3,c4,c5,fun o hf=> ?_,c7⟩
  rcases hFn _ o hf with h|h
  ·exact c6 o h
  ·omega
 ·intro b ho
  obtain⟨⟨cs0,t0,f0,h0⟩,h2,h3,h4⟩:=hI.Ok b ho
  have hlt:=hI.Olt ho
  exact⟨⟨cs0,t0,f0,(hblk b hlt).trans h0⟩,h2,h3,fun o hf=>(hFn b o hf).elim (h4 o) fun h=>by omega⟩
theorem qcn {IT:IterP} (hIT:ITMono IT) {P:Program} {f:FuncId} {args args':List AV} {r:AV} (n:Nat) {σ:St} (h:Pure IT P f args' r)(hargs:zbr (frz σ.boxes n) args=args')(hraw:zsl r=true) {X:Cx} (hI:Inv IT σ X) {vs:List Value} (hr:zbk IT X args vs):
 Calls P f vs.toArray X.w fun e w'=> ∃v,e= .returned v∧Grows X.w w'∧Rep IT X r v:=by
 subst hargs
 have h0:zbk IT ⟨z6d X,[],[],[],X.w,fun _=>False,fun _ _=>False⟩ (zbr (frz σ.boxes n) args) vs:=zez (Y:=⟨z6d X,[],[],[],X.w,fun _=>False,fun _ _=>False⟩) hIT (fun b o h=>Or.inl h) rfl (z3x hIT hI n) args vs hr
 have hI0:Inv IT St.empty ⟨z6d X,[],[],[],X.w,fun _=>False,fun _ _=>False⟩:={zoe hI with
  gv:=hIT.gv _ _ _ _ (fun b o h=>Or.inl h) (fun _ _ _=>rfl) (Szs.refl _) hI.gv
  box:=fun s b t cs h=>by simp at h
  κF:=fun s b t cs h=>by simp at h
  row:=fun s r L h=>by simp at h
  Ok:=fun b h=>h.elim
  Fcell:=fun b o hf=>hf.elim (hI.Fcell b o) And.right}
 refine(h.2 ⟨z6d X,[],[],[],X.w,fun _=>False,fun _ _=>False⟩ vs hI0 h0).mono ?_
 rintro e w' ⟨v,Y,rfl,rfl,hE,hIY,hv⟩
 exact⟨v,rfl,⟨⟨hE.os,hE.tape,hE.output,hE.size,fun b hb=>hE.frame b hb (by simp) (by simp)⟩,hE.drawn⟩,zpx hraw hv⟩
end Go.Ab
