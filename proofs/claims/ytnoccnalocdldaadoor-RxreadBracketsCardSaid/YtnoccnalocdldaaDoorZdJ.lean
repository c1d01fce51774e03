import Derived.Test.YtnoccnalocdldaaDoorZdI
set_option linter.all false
namespace Go.Ab
open Go Go.RowKit Go.Fwd
def zhv (IT:IterP)(P:Program)(o:Oper)(S:List AV)(σ:St)(K:AV→Prop):Prop:=
 match zdj S o with
 |some (f,args)=> ∃r,zad 0 args=true∧Pure IT P f (stripL args) r∧K r
 |none=> ∃a,QopR P (zcc S) σ o a∧K a
def zrr (IT:IterP)(P:Program)(o:Oper)(S:List AV)(σ:St)(K:AV→Prop):Prop:=
 zhv IT P o S σ K∨ ∃f args r n,zdj S o=some (f,args)∧zsl r=true∧Pure IT P f (zbr (frz σ.boxes n) args) r∧K r
def zen (IT:IterP)(P:Program)(ops:Array Oper)(σ:St)(K:List AV→Prop):List Oper→List AV→Prop
 |[],S=>K S
 | o::l,S=>(o.dst.all fun d=>decide (d<S.length))=true∧match o.guard with
  |none=>zrr IT P o S σ fun a=>zen IT P ops σ K l (zy S o.dst a)
  |some (k,b)=> ∃c,zdp ops S k=some c∧(if c=some b then zrr IT P o S σ fun a=>zen IT P ops σ K l (zy S o.dst a) else zen IT P ops σ K l (zy S o.dst (.raw undef)))
def zth (l:List Oper):Bool:=l.all fun o=>match o.op with| .defer _=>false|_=>true
def adraw (IT:IterP)(P:Program)(W:Owed)(ops:Array Oper)(Q:List AV→St→Prop)(S:List AV)(σ:St):Prop:=
 ∃n,chk ops S.length n=true∧zth ops.toList=true∧zen IT P ops σ (fun S'=>zcq IT P W ops Q (ops.toList.drop n) S' σ) (ops.toList.take n) S
def zmj (X:Cx)(W:World):Cx:={X with F:=fun b i=>X.F b i∨(X.w.heap.size≤b∧ ∃v,W.cell? ⟨b,i,none⟩=some v),w:=W}
theorem zsk {IT:IterP} {σ:St} {X:Cx} (hI:Inv IT σ X) {W:World} (hg:Grows X.w W):Ext X (zmj X W) where
 os:=hg.os
 tape:=hg.tape
 output:=hg.output
 size:=hg.size
 drawn:=hg.drawn
 F:=fun _ _ h=> .inl h
 cell:=fun b i hf=>World.cell?_of_block (hg.block _ (hI.Flt hf))
 κ:=fun _ _ h=>h
 lens:=fun s L h=>⟨L,h,Nat.le_refl _,fun _=>rfl⟩
 blk:=fun s b hs cur t f h=>⟨cur,(hg.block b (hI.κlt (List.mem_of_getElem? hs))).trans h,rfl⟩
 szs:=Szs.old fun k hk=>hg.block k hk
 frame:=fun b hb _ _=>hg.block b hb
 κnew:=fun _ h=> .inl h
 βnew:=fun r h=> .inl ⟨r,h,rfl⟩
 O:=rfl
 C:=rfl
 Fnew:=fun b i h=>h.imp id fun h=> .inl h.1
theorem zng {IT:IterP} (hIT:ITMono IT) {σ:St} {X:Cx} (hI:Inv IT σ X) {W:World} (hg:Grows X.w W):Inv IT σ (zmj X W):=by
 have hX:=zsk hI hg
 refine {lens:=hI.lens,elems:=hI.elems,κlen:=hI.κlen,κnd:=hI.κnd,box:= ?_,κF:= ?_,βlen:=hI.βlen,βnd:=hI.βnd,βκ:=hI.βκ,row:= ?_,Ok:= ?_,Fcell:= ?_}
 ·intro s b t cs hs hb
  obtain⟨us,zs,u1,u2,u3⟩:=hI.box s b t cs hs hb
  exact⟨us,zs,(hg.block b (hI.κlt (List.mem_of_getElem? hs))).trans u1,zaw hIT hX _ _ u2,u3⟩
 ·intro s b t cs hs hb hc o hf
  rcases hf with h|⟨h,_⟩
  ·exact hI.κF s b t cs hs hb hc o h
  ·have:=hI.κlt (List.mem_of_getElem? hs);omega
 ·intro s q L hq hL
  obtain⟨cur,fz,c1,c2,c3,c4,c5,c6,c7⟩:=hI.row s q L hq hL
  have hlt:=hI.βlt (List.mem_of_getElem? hq)
  refine⟨cur,fz,(hg.block _ hlt).trans c1,c2,c3,c4,c5,fun o hf=> ?_,c7⟩
  rcases hf with h|⟨h,_⟩
  ·exact c6 o h
  ·omega
 ·intro b ho
  obtain⟨⟨cs0,t0,f0,h0⟩,h2,h3,h4⟩:=hI.Ok b ho
  have hlt:=hI.Olt ho
  exact⟨⟨cs0,t0,f0,(hg.block b hlt).trans h0⟩,h2,h3,fun o hf=>hf.elim (h4 o) fun h=>by omega⟩
 ·intro b o hf
  rcases hf with h|⟨_,h⟩
  ·obtain⟨v,hv⟩:=hI.Fcell b o h
   exact⟨v,(hX.cell b o h).trans hv⟩
  ·exact h
theorem z8v {X:Cx} {W W':World} (hs:X.w.heap.size≤W.heap.size)(hb: ∀b i,X.F b i→b<W.heap.size)(hg:Grows W W'):Sub (zmj X W) (zmj X W') where
 blk:=fun s b hs cur t f h=>⟨cur,(hg.block b (Array.getElem?_eq_some_iff.1 h).1).trans h,rfl⟩
 szs:=Szs.old fun k hk=>hg.block k hk
 F:=fun b i h=>h.imp id fun⟨h1,v,h2⟩=>⟨h1,v,(World.cell?_of_block (hg.block _ (zor h2))).trans h2⟩
 cell:=fun b i h=>World.cell?_of_block (hg.block _ (by
  rcases h with h|⟨_,v,h⟩
  ·exact hb b i h
  ·exact zor h))
 κ:=fun _ _ h=>h
 lens:=fun s L h=>⟨L,h,Nat.le_refl _,fun _=>rfl⟩
section
variable {IT:IterP} {P:Program} {M:Option Gen} {F:Fence} {nn B:Nat}
def VA (IT:IterP)(X:Cx)(x:AV):VP:=fun v W=>Grows X.w W∧Rep IT (zmj X W) x v
theorem z3o (hIT:ITMono IT) {σ:St} {X:Cx} (hI:Inv IT σ X)(x:AV):Mono (VA IT X x):=fun v w w' hg ⟨h1,h2⟩=>
 ⟨h1.trans hg,zht hIT (z8v h1.size (fun b i h=>Nat.lt_of_lt_of_le (hI.Flt h) h1.size) hg) _ _ h2⟩
def z2l (IT:IterP)(X:Cx)(a0:Act)(acc:Acc)(S:List AV):Prop:= ∀t v W,Grows X.w W→env a0 acc t v W→Rep IT (zmj X W) (zcc S (.tmp t)) v
theorem zru {X:Cx} {a0:Act} {acc:Acc} {S:List AV} (h:z2l IT X a0 acc S)(d:Option Tmp)(x:AV)(hd:(d.all fun d=>decide (d<S.length))=true):z2l IT X a0 (accOf acc d (VA IT X x)) (zy S d x):=by
 cases d with
 |none=>exact h
 | some d=>
  intro t v W hg he
  simp only[accOf,env] at he
  have hlt:d<S.length:=by simpa using hd
  by_cases e:d=t
  ·subst e
   rw[if_pos rfl] at he
   simp only[zy,zcc,List.getElem?_set_self hlt,Option.getD_some]
   exact he.2
  ·rw[if_neg e] at he
   simp only[zy,zcc,List.getElem?_set_ne e]
   exact h t v W hg he
theorem zsq {X:Cx} {a0:Act} {acc:Acc} {S:List AV} (h:z2l IT X a0 acc S) {ρ:Operand→Value} {W:World} (hE:Env ρ)(hg:Grows X.w W) {l:List Operand} (hr:All (env a0 acc) ρ W (zef l)): ∀x∈l,Rep IT (zmj X W) (zcc S x) (ρ x):=by
 induction l with
 |nil=>intro x hx;cases hx
 | cons y l ih=>
  intro x hx
  cases y with
  | tmp t=>
   simp only[zef,All] at hr
   rcases List.mem_cons.1 hx with rfl|hx
   ·exact h t _ W hg hr.1
   ·exact ih hr.2 x hx
  | const v=>
   rcases List.mem_cons.1 hx with rfl|hx
   ·rw[hE.const];simp only[zcc]
    split
    ·rename_i h;exact zhk v h
    ·rw[Rep]
   ·exact ih hr x hx
  | func f=>
   rcases List.mem_cons.1 hx with rfl|hx
   ·rw[hE.func];simp only[zcc,Rep];exact⟨[],rfl,by rw[zbk]⟩
   ·exact ih hr x hx
  | global g=>
   rcases List.mem_cons.1 hx with rfl|hx
   ·rw[hE.global];simp[zcc,Rep]
   ·exact ih hr x hx
theorem z1z (hIT:ITMono IT) {σ:St} {X:Cx} (hI:Inv IT σ X) {a0:Act} {acc:Acc} {S:List AV} {o:Oper} {K:AV→Prop} (h:zhv IT P o S σ K)(hA:z2l IT X a0 acc S):
 ∃x,K x∧ ∀(ρ:Operand→Value) (W:World),Env ρ→Grows X.w W→All (env a0 acc) ρ W (zef o.op.operands.toList)→OpGood P (VA IT X x) W ((execOp ρ o).run P W):=by
 unfold zhv at h
 split at h
 ·rename_i f args hc
  obtain⟨r,hok,hp,hk⟩:=h
  refine⟨r,hk,fun ρ W hE hg hr=> ?_⟩
  have hρ:=zsq hA hE hg hr
  obtain⟨vs,hrun,hrr⟩:=zgf (IT:=IT) (P:=P) (X:=zmj X W) hc (fun x hx=>hρ x (by simpa using hx)) hp.1
  rw[show(execOp ρ o).run P W=_ from hrun]
  refine⟨Grows.refl _,(zja hIT hp rfl hok (zng hIT hI hg) hrr).mono ?_⟩
  rintro e w' ⟨v,X',rfl,rfl,h1,h2,h3,h4,h5,h6,h7,hO,h8⟩
  refine⟨v,rfl,h4,hg.trans h4,?_⟩
  refine zht hIT (X:=X') (X':=zmj X X'.w) ⟨fun b i hf=> ?_,fun _ _ _=>rfl,fun s b hs=>by rw[h5] at hs;exact hs,fun s L hs=>by rw[h7] at hs;exact⟨L,hs,Nat.le_refl _,fun _=>by rw[h6];rfl⟩,fun s b hs cur t f h=>⟨cur,h,rfl⟩,Szs.refl _⟩ _ _ h3
  rcases h8 b i hf with h|h
  ·rcases h with h|⟨ha,hb⟩
   ·exact .inl h
   ·exact .inr ⟨ha,h2.Fcell b i hf⟩
  ·exact .inr ⟨Nat.le_trans hg.size h,h2.Fcell b i hf⟩
 ·obtain⟨x,hx,h⟩:=h
  ·refine⟨x,h,fun ρ W hE hg hr=> ?_⟩
   have hρ:=zsq hA hE hg hr
   obtain⟨v,X',h1,h2,h3,h4,h5,h6,h7,h8,hO,h9⟩:=zva hIT (X:=zmj X W) hx (fun x hx=>hρ x (by simpa using hx)) (zng hIT hI hg)
   rw[show(execOp ρ o).run P W=_ from h1]
   refine⟨h5,hg.trans h5,?_⟩
   refine zht hIT (X:=X') (X':=zmj X X'.w) ⟨fun b i hf=> ?_,fun _ _ _=>rfl,fun s b hs=>by rw[h6] at hs;exact hs,fun s L hs=>by rw[h8] at hs;exact⟨L,hs,Nat.le_refl _,fun _=>by rw[h7];rfl⟩,fun s b hs cur t f h=>⟨cur,h,rfl⟩,Szs.refl _⟩ _ _ h4
   rcases h9 b i hf with h|h
   ·rcases h with h|⟨ha,hb⟩
    ·exact .inl h
    ·exact .inr ⟨ha,h3.Fcell b i hf⟩
   ·exact .inr ⟨Nat.le_trans hg.size h,h3.Fcell b i hf⟩
theorem zqj (hIT:ITMono IT) {σ:St} {X:Cx} (hI:Inv IT σ X) {a0:Act} {acc:Acc} {S:List AV} {o:Oper} {K:AV→Prop} (h:zrr IT P o S σ K)(hA:z2l IT X a0 acc S):
 ∃x,K x∧ ∀(ρ:Operand→Value) (W:World),Env ρ→Grows X.w W→All (env a0 acc) ρ W (zef o.op.operands.toList)→OpGood P (VA IT X x) W ((execOp ρ o).run P W):=by
 rcases h with h|⟨f,args,r,n,hc,hraw,hp,hk⟩
 ·exact z1z hIT hI h hA
 ·refine⟨r,hk,fun ρ W hE hg hr=> ?_⟩
  have hρ:=zsq hA hE hg hr
  obtain⟨vs,hrun,hrr⟩:=zgf (IT:=IT) (P:=P) (X:=zmj X W) hc (fun x hx=>hρ x (by simpa using hx)) hp.1
  rw[show(execOp ρ o).run P W=_ from hrun]
  refine⟨Grows.refl _,(qcn hIT n hp rfl hraw (zng hIT hI hg) hrr).mono ?_⟩
  rintro e w' ⟨v,rfl,h4,h5⟩
  exact⟨v,rfl,h4,hg.trans h4,zpx hraw h5⟩
theorem zbc (S:List AV)(d:Option Tmp)(x:AV):(zy S d x).length=S.length:=by cases d<;>simp[zy]
theorem zod (hIT:ITMono IT) {σ:St} {X:Cx} (hI:Inv IT σ X) {ops:Array Oper} {a0:Act} {K:List AV→Prop} {fin:Acc→Prop} (hfin: ∀S acc,K S→S.length=a0.tmps.size→z2l IT X a0 acc S→fin acc):
 ∀(l:List Oper) (S:List AV) (acc:Acc),zen IT P ops σ K l S→S.length=a0.tmps.size→z2l IT X a0 acc S→FwdGo P ops X.w a0 fin l acc
 |[],S,acc,h,hl,hA=>hfin S acc h hl hA
 | o ::l,S,acc,h,hl,hA=>by
  simp only[zen] at h
  obtain⟨hd,h⟩:=h
  cases hg:o.guard with
  | none=>
   rw[hg] at h
   obtain⟨x,hk,hs⟩:=zqj (P:=P) hIT hI h hA
   exact⟨VA IT X x,z3o hIT hI x,fun ρ W hE hgr hr=>by rw[hg];exact hs ρ W hE hgr hr,zod hIT hI hfin l _ _ hk (by rw[zbc];exact hl) (zru hA o.dst x hd)⟩
  | some kb=>
   obtain⟨k,b⟩:=kb
   rw[hg] at h
   obtain⟨c,hc,h⟩:=h
   obtain⟨d,u,hdk,hsd,hcu⟩: ∃d u,zbl ops k=some d∧S[d]? =some (.raw u)∧ ∀t,u= .bool t↔c=some t:=by
    unfold zdp at hc
    split at hc<;>try cases hc
    rename_i d hd'
    split at hc<;>cases hc
    ·rename_i c' hs
     exact⟨d,_,hd',hs,fun t=>by simp⟩
    ·rename_i u hne hs
     exact⟨d,u,hd',hs,fun t=>⟨fun e=>absurd e (hne t),fun e=>by cases e⟩⟩
   have hgv: ∀g W,Grows X.w W→env a0 acc d g W→g=u:=fun g W hgr he=>by
    have:=hA d g W hgr he
    simp only[zcc,hsd,Option.getD_some] at this
    rw[Rep] at this;exact this
   by_cases e:c=some b
   ·rw[if_pos e] at h
    obtain⟨x,hk,hs⟩:=zqj (P:=P) hIT hI h hA
    refine⟨VA IT X x,z3o hIT hI x,fun ρ W hE hgr hr=> ?_,zod hIT hI hfin l _ _ hk (by rw[zbc];exact hl) (zru hA o.dst x hd)⟩
    rw[hg]
    exact⟨d,hdk,fun g he=>⟨fun _=>hs ρ W hE hgr hr,fun hne=>absurd (by rw[hgv g W hgr he,(hcu b).2 e]) hne⟩⟩
   ·rw[if_neg e] at h
    refine⟨VA IT X (.raw undef),z3o hIT hI _,fun ρ W hE hgr hr=> ?_,zod hIT hI hfin l _ _ h (by rw[zbc];exact hl) (zru hA o.dst _ hd)⟩
    rw[hg]
    refine⟨d,hdk,fun g he=>⟨fun hb=> ?_,fun _=>⟨hgr,by rw[Rep]⟩⟩⟩
    rw[hgv g W hgr he] at hb
    exact absurd ((hcu b).1 hb) e
theorem z3j (hIT:ITMono IT)(hF:FenceOk F P)(hG:zrp P B M)(hmix:P.follows .mixedOrders=true) {id:Nat} {ops:Array Oper} {Q:List AV→St→Prop} {K:Exit→Act→World→Prop} {X0 X:Cx} {S:List AV} {σ:St} {a:Act}
 (hQ: ∀S σ X a,Q S σ→Now IT M F B X0 S σ X a→K .normal a X.w) (h:adraw IT P (zdn M) ops Q S σ) (hn:Now IT M F B X0 S σ X a):(Code.region id ops true).wpIn F nn P K a X.w:=by
 obtain⟨l,rfl⟩: ∃l:List Oper,ops=l.toArray:=⟨ops.toList,by simp⟩
 obtain⟨n,hc,hnd,h⟩:=h
 simp only[List.toList_toArray] at hnd h
 have hlen:S.length=a.tmps.size:=by have:=zr hn.reps;simpa using this
 refine wpIn_region_fwd (F:=F) (nn:=nn) (P:=P) (id:=id) (Q:=K) (a:=a) (w:=X.w) (l:=l) hF n hmix
  (fun o ho c e=>by
   have:=List.all_eq_true.1 hnd o ho
   rw[e] at this;cases this)
  (by rw[←hlen];exact hc)
  (zod (K:=fun S'=>zcq IT P (zdn M) l.toArray Q (l.drop n) S' σ) hIT hn.inv (fun S' acc hk hl hA w' hg=>endAt_all fun a' h1 h2 h3=> ?_)
   (l.take n) S [] h hlen (fun t v W hg he=>by
    have e:v=a.eval (.tmp t):=he
    subst e
    exact zep hIT (zsk hn.inv hg) _ _ (zdh hn.reps (.tmp t))))
 have hE:=zsk hn.inv hg
 have hrs:zmb IT (zmj X w') S' a'.tmps:=zfb (by simp[hl,h1]) fun i x v e1 e2=>by
  have hi:i<a.tmps.size:=by have:=(List.getElem?_eq_some_iff.1 e1).1;omega
  have:=hA i (a'.eval (.tmp i)) w' hg (h3 i hi)
  have ev:a'.eval (.tmp i)=v:=by
   have:a'.tmps[i]? =some v:=by simpa using e2
   simp[Act.eval,this]
  rw[ev] at this
  simpa only[zcc,e1,Option.getD_some] using this
 have hnow:Now IT M F B X0 S' σ (zmj X w') a':=⟨hn.ext.trans (Rel.of hE),zng hIT hn.inv hg,hrs,by rw[h2];exact hn.marks.ext hE hn.inv,FrM.ext hG hn.frn hE hn.inv rfl rfl⟩
 exact zfg (nn:=nn) hIT hF hG hQ (l.drop n) S' σ (zmj X w') a' hk hnow
end
end Go.Ab
