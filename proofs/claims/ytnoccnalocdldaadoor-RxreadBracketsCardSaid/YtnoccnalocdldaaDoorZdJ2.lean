import Derived.Test.YtnoccnalocdldaaDoorZdJ
import Derived.Test.YtnoccnalocdldaaDoorZdS
set_option linter.all false
namespace Go.Ab
open Go Go.RowKit Go.Fwd
theorem z7i {X Y:Cx} (h:Ext X Y) {b:Nat} (hb:X.w.heap.size≤b):Ext X {Y with κ:=Y.κ++[b]} where
 os:=h.os
 tape:=h.tape
 output:=h.output
 size:=h.size
 drawn:=h.drawn
 F:=h.F
 cell:=h.cell
 κ :=fun s b' hs=>by
  have h1:=h.κ s b' hs
  have:=(List.getElem?_eq_some_iff.1 h1).1
  show(Y.κ++[b])[s]? =_
  rw[List.getElem?_append_left this];exact h1
 lens:=h.lens
 blk:=h.blk
 szs:=h.szs
 frame:=h.frame
 κnew:=fun b' hm=>by
  rcases List.mem_append.1 hm with hm|hm
  ·exact h.κnew b' hm
  ·simp at hm;subst hm;exact .inr hb
 βnew:=h.βnew
 O:=h.O
 C:=h.C
 Fnew:=h.Fnew
theorem zuv (Y:Cx)(b:Nat):Sub Y {Y with κ:=Y.κ++[b]} where
 F:=fun _ _ h=>h
 cell:=fun _ _ _=>rfl
 κ :=fun s b' h1=>by
  have:=(List.getElem?_eq_some_iff.1 h1).1
  show(Y.κ++[b])[s]? =_
  rw[List.getElem?_append_left this];exact h1
 lens:=fun s L h=>⟨L,h,Nat.le_refl _,fun _=>rfl⟩
 blk:=fun _ _ _ cur _ _ h=>⟨cur,h,rfl⟩
 szs:=Szs.heap rfl
theorem z7r {IT:IterP} (hIT:ITMono IT) {σ:St} {Y:Cx} (hI:Inv IT σ Y) {b:Nat} {t:TypeId} {cs:List AV} {us:List Value} (hb:Y.w.heap[b]? =some (.cells us.toArray t (0,0)))(hr:zbk IT Y cs us)(h1: ∀v∈us,v.oneCell'=true)
 (hF: ∀o,¬Y.F b o) (hκ:b∉Y.κ) (hβ: ∀r∈Y.β,r.block≠b) (hO: ¬Y.O b):Inv IT {σ with boxes:=σ.boxes++[(t,cs)]} {Y with κ:=Y.κ++[b]}:=by
 have hlen:=hI.κlen
 have old: ∀s b',(Y.κ++[b])[s]? =some b'→(Y.κ[s]? =some b'∧s<σ.boxes.length)∨(s=Y.κ.length∧b'=b):=fun s b' h=>by
  rcases Nat.lt_or_ge s Y.κ.length with hlt|hge
  ·rw[List.getElem?_append_left hlt] at h;exact .inl ⟨h,by omega⟩
  ·have:=(List.getElem?_eq_some_iff.1 h).1
   simp at this
   have e:s=Y.κ.length:=by omega
   subst e
   simp at h;exact .inr ⟨rfl,h.symm⟩
 have up: ∀s,s<σ.boxes.length→(∃t,σ.boxes[s]? =some (t,[]))→ ∃t',(σ.boxes++[(t,cs)])[s]? =some (t',[]):=fun s hs ⟨t0,h⟩=>⟨t0,by rw[List.getElem?_append_left hs];exact h⟩
 have hS:=zuv Y b
 refine {lens:=hI.lens,elems:=hI.elems,κlen:=by simp[hI.κlen],κnd:= ?_,box:= ?_,κF:= ?_,βlen:=hI.βlen,βnd:=hI.βnd,βκ:= ?_,row:=hI.row,Ok:= ?_,Fcell:=hI.Fcell,gv:=hI.gv}
 ·intro s s' b' h2 h3 h4
  rcases old s b' h2 with⟨k2,l2⟩|⟨k2,l2⟩
  ·rcases old s' b' h3 with⟨k3,l3⟩|⟨k3,l3⟩
   ·exact(hI.κnd s s' b' k2 k3 h4).imp (up s l2) (up s' l3)
   ·subst l3;exact absurd (List.mem_of_getElem? k2) hκ
  ·rcases old s' b' h3 with⟨k3,l3⟩|⟨k3,l3⟩
   ·subst l2;exact absurd (List.mem_of_getElem? k3) hκ
   ·omega
 ·intro s b' t' c hs hb'
  rcases old s b' hs with⟨k2,l2⟩|⟨k2,l2⟩
  ·have hb2:σ.boxes[s]? =some (t',c):=by rw[←hb'];exact(List.getElem?_append_left l2).symm
   obtain⟨vs,zs,u1,u2,u3⟩:=hI.box s b' t' c k2 hb2
   exact⟨vs,zs,u1,zbx hIT hS _ _ u2,u3⟩
  ·subst k2;subst l2
   have e2:(t,cs)=(t',c):=by
    have:(σ.boxes++[(t,cs)])[Y.κ.length]? =some (t',c):=hb'
    rw[hlen] at this;simpa using this
   cases e2
   exact⟨us,[],by rw[List.append_nil];exact hb,zbx hIT hS _ _ hr,h1⟩
 ·intro s b' t' c hs hb' hc o hf
  rcases old s b' hs with⟨k2,l2⟩|⟨k2,l2⟩
  ·exact hI.κF s b' t' c k2 (by rw[←hb'];exact(List.getElem?_append_left l2).symm) hc o hf
  ·subst l2;exact hF o hf
 ·intro r hr' hm
  rcases List.mem_append.1 hm with hm|hm
  ·exact hI.βκ r hr' hm
  ·simp at hm;exact hβ r hr' hm
 ·intro b' ho
  obtain⟨h0,h2,h3,h4⟩:=hI.Ok b' ho
  refine⟨h0,fun hm=> ?_,h3,h4⟩
  rcases List.mem_append.1 hm with hm|hm
  ·exact h2 hm
  ·simp at hm;subst hm;exact hO ho
def zho (P:Program)(t:TypeId):Option Value:=
 match P.info? t with
 | some i=>match i.zero with
  |some z=>if zpp z=true∧zhn (ziu z)=true then some z else none
  |none=>none
 |none=>none
abbrev Pend:=List (Tmp×TypeId×Value)
def zfe (IT:IterP)(P:Program)(ops:Array Oper)(σ:St)(K:List AV→Pend→Prop):List Oper→List AV→Pend→Prop
 |[],S,ps=>K S ps
 | o::l,S,ps=>(o.dst.all fun d=>decide (d<S.length))=true∧(ps.all fun p=>o.dst !=some p.1)=true∧
  ((o.guard=none∧ ∃t d z,o.op= .alloc t∧o.dst=some d∧zho P t=some z∧zfe IT P ops σ K l (S.set d .top) (ps++[(d,t,z)]))∨
   match o.guard with
   |none=>zhv IT P o S σ fun a=>zfe IT P ops σ K l (zy S o.dst a) ps
   |some (k,b)=> ∃c,zdp ops S k=some c∧(if c=some b then zhv IT P o S σ fun a=>zfe IT P ops σ K l (zy S o.dst a) ps else zfe IT P ops σ K l (zy S o.dst (.raw undef)) ps))
def zmh:Nat→Pend→List AV→List AV
 |_,[],S=>S
 |n,p::ps,S=>zmh (n+1) ps (S.set p.1 (.ptr n 0))
def zpq (σ:St)(ps:Pend):St:={σ with boxes:=σ.boxes++ps.map fun p=>(p.2.1,cellsOf (ziu p.2.2))}
def qjg (IT:IterP)(P:Program)(W:Owed)(ops:Array Oper)(Q:List AV→St→Prop)(S:List AV)(σ:St):Prop:=
 ∃n,chk ops S.length n=true∧zth ops.toList=true∧zfe IT P ops σ (fun S' ps=>zcq IT P W ops Q (ops.toList.drop n) (zmh σ.boxes.length ps S') (zpq σ ps)) (ops.toList.take n) S []
def zig (X:Cx)(W:World)(B:List (Nat×Nat)):Cx:={X with F:=fun b i=>X.F b i∨(X.w.heap.size≤b∧(∀p∈B,p.2≠b)∧ ∃v,W.cell? ⟨b,i,none⟩=some v),w:=W}
theorem zpu {IT:IterP} {σ:St} {X:Cx} (hI:Inv IT σ X) {W:World} (B:List (Nat×Nat))(hg:Grows X.w W):Ext X (zig X W B) where
 os:=hg.os
 tape:=hg.tape
 output:=hg.output
 size:=hg.size
 drawn:=hg.drawn
 F:=fun _ _ h=> .inl h
 cell:=fun b i hf=>World.cell?_of_block (hg.block _ (hI.Flt hf))
 κ:=fun _ _ h=>h
 lens:=fun s L h=>⟨L,h,Nat.le_refl _,fun _=>rfl⟩
 blk:=fun s b hs cur t f h=>⟨cur,(hg.block b (hI.κlt (List.mem_of_getElem? hs))).trans h,rfl⟩
 szs:=Szs.old fun k hk=>hg.block k hk
 frame:=fun b hb _ _=>hg.block b hb
 κnew:=fun _ h=> .inl h
 βnew:=fun r h=> .inl ⟨r,h,rfl⟩
 O:=rfl
 C:=rfl
 Fnew:=fun b i h=>h.imp id fun h=> .inl h.1
theorem zpg {IT:IterP} (hIT:ITMono IT) {σ:St} {X:Cx} (hI:Inv IT σ X) {W:World} (B:List (Nat×Nat))(hg:Grows X.w W):Inv IT σ (zig X W B):=by
 have hX:=zpu hI B hg
 refine {lens:=hI.lens,elems:=hI.elems,κlen:=hI.κlen,κnd:=hI.κnd,box:= ?_,κF:= ?_,βlen:=hI.βlen,βnd:=hI.βnd,βκ:=hI.βκ,row:= ?_,Ok:= ?_,Fcell:= ?_}
 ·intro s b t cs hs hb
  obtain⟨us,zs,u1,u2,u3⟩:=hI.box s b t cs hs hb
  exact⟨us,zs,(hg.block b (hI.κlt (List.mem_of_getElem? hs))).trans u1,zaw hIT hX _ _ u2,u3⟩
 ·intro s b t cs hs hb hc o hf
  rcases hf with h|⟨h,_⟩
  ·exact hI.κF s b t cs hs hb hc o h
  ·have:=hI.κlt (List.mem_of_getElem? hs);omega
 ·intro s q L hq hL
  obtain⟨cur,fz,c1,c2,c3,c4,c5,c6,c7⟩:=hI.row s q L hq hL
  have hlt:=hI.βlt (List.mem_of_getElem? hq)
  refine⟨cur,fz,(hg.block _ hlt).trans c1,c2,c3,c4,c5,fun o hf=> ?_,c7⟩
  rcases hf with h|⟨h,_⟩
  ·exact c6 o h
  ·omega
 ·intro b ho
  obtain⟨⟨cs0,t0,f0,h0⟩,h2,h3,h4⟩:=hI.Ok b ho
  have hlt:=hI.Olt ho
  exact⟨⟨cs0,t0,f0,(hg.block b hlt).trans h0⟩,h2,h3,fun o hf=>hf.elim (h4 o) fun h=>by omega⟩
 ·intro b o hf
  rcases hf with h|⟨_,_,h⟩
  ·obtain⟨v,hv⟩:=hI.Fcell b o h
   exact⟨v,(hX.cell b o h).trans hv⟩
  ·exact h
structure GB (X:Cx) where
 W:World
 B:List (Nat×Nat)
 lo: ∀p∈B,X.w.heap.size≤p.2
 hi: ∀p∈B,p.2<W.heap.size
 nd: ∀p∈B,∀q∈B,p.2=q.2→p=q
 grows:Grows X.w W
def gh (X:Cx):FwdG.Gh where
 Γ:=GB X
 π:=GB.W
 Le:=fun x y=>Grows x.W y.W∧(∀p∈x.B,p∈y.B)∧ ∀p∈y.B,p∈x.B∨x.W.heap.size≤p.2
 refl:=fun x=>⟨Grows.refl _,fun _ h=>h,fun _ h=> .inl h⟩
 trans:=fun x y z h k=>⟨h.1.trans k.1,fun p hp=>k.2.1 p (h.2.1 p hp),fun p hp=>(k.2.2 p hp).elim (h.2.2 p) fun h'=> .inr (Nat.le_trans h.1.size h')⟩
theorem z7x {X:Cx} {x y:GB X} (hXF: ∀b i,X.F b i→b<X.w.heap.size)(h:(gh X).Le x y):Sub (zig X x.W x.B) (zig X y.W y.B):=by
 obtain⟨hg,h2,h3⟩:=h
 refine⟨fun b i hf=> ?_,fun b i hf=> ?_,fun _ _ h=>h,fun s L h=>⟨L,h,Nat.le_refl _,fun _=>rfl⟩,fun s b hs cur t f h=>⟨cur,(hg.block b (Array.getElem?_eq_some_iff.1 h).1).trans h,rfl⟩,Szs.old fun k hk=>hg.block k hk⟩
 ·rcases hf with hf|⟨k1,k2,v,k3⟩
  ·exact .inl hf
  ·refine .inr ⟨k1,fun p hp e=> ?_,v,(World.cell?_of_block (hg.block _ (zor k3))).trans k3⟩
   rcases h3 p hp with h|h
   ·exact k2 p h e
   ·have:=zor k3;omega
 ·refine World.cell?_of_block (hg.block _ ?_)
  rcases hf with hf|⟨_,_,v,k3⟩
  ·exact Nat.lt_of_lt_of_le (hXF b i hf) x.grows.size
  ·exact zor k3
section
variable {IT:IterP} {P:Program} {M:Option Gen} {F:Fence} {nn B:Nat}
def VB (IT:IterP)(X:Cx)(x:AV):FwdG.VP (gh X):=fun v (γ:GB X)=>Rep IT (zig X γ.W γ.B) x v
def VN (X:Cx)(d:Tmp)(t:TypeId)(z:Value):FwdG.VP (gh X):=fun v (γ:GB X)=> ∃b,(d,b)∈γ.B∧v= .pointer (some ⟨b,0,none⟩)∧γ.W.heap[b]? =some (.cells z.cells t (0,0))
theorem z2q (hIT:ITMono IT) {σ:St} {X:Cx} (hI:Inv IT σ X)(x:AV):FwdG.Mono (VB IT X x):=fun v w w' hg h=>
 zht hIT (z7x (fun b i h=>hI.Flt h) hg) _ _ h
theorem vn_mono {X:Cx} (d:Tmp)(t:TypeId)(z:Value):FwdG.Mono (VN X d t z):=fun v w w' hg ⟨b,h1,h2,h3⟩=>
 ⟨b,hg.2.1 _ h1,h2,(hg.1.block b (Array.getElem?_eq_some_iff.1 h3).1).trans h3⟩
def zqg (IT:IterP)(X:Cx)(a0:Act)(acc:FwdG.Acc (gh X))(S:List AV)(ps:Pend):Prop:=
 (∀t v (γ:GB X),FwdG.env a0 acc t v γ→Rep IT (zig X γ.W γ.B) (zcc S (.tmp t)) v)∧
 (∀p∈ps,p.1<S.length∧zho P p.2.1=some p.2.2∧S[p.1]? =some .top∧ ∀v (γ:GB X),FwdG.env a0 acc p.1 v γ→VN X p.1 p.2.1 p.2.2 v γ)∧(ps.map (·.1)).Nodup
theorem zkt {X:Cx} {a0:Act} {acc:FwdG.Acc (gh X)} {d:Option Tmp} {V:FwdG.VP (gh X)} {t:Tmp}:FwdG.env a0 (FwdG.accOf acc d V) t=if d=some t then V else FwdG.env a0 acc t:=by
 cases d with
 |none=>simp[FwdG.accOf]
 |some d=>simp[FwdG.accOf,FwdG.env]
theorem zpf {X:Cx} {a0:Act} {acc:FwdG.Acc (gh X)} {S:List AV} {ps:Pend} (h:zqg (P:=P) IT X a0 acc S ps)(d:Option Tmp)(x:AV)(hd:(d.all fun d=>decide (d<S.length))=true)(hp:(ps.all fun p=>d !=some p.1)=true):
 zqg (P:=P) IT X a0 (FwdG.accOf acc d (VB IT X x)) (zy S d x) ps:=by
 obtain⟨h1,h2,h3⟩:=h
 refine⟨fun t v γ he=> ?_,fun p hpm=> ?_,h3⟩
 ·rw [zkt] at he
  by_cases e:d=some t
  ·subst e
   rw[if_pos rfl] at he
   have hlt:t<S.length:=by simpa using hd
   simp only[zy,zcc,List.getElem?_set_self hlt,Option.getD_some]
   exact he
  ·rw[if_neg e] at he
   have:zcc (zy S d x) (.tmp t)=zcc S (.tmp t):=by
    cases d with
    |none=>rfl
    |some d=>simp only[zy,zcc];rw[List.getElem?_set_ne (fun h=>e (by rw[h]))]
   rw[this];exact h1 t v γ he
 ·obtain⟨k1,k2,k3,k4⟩:=h2 p hpm
  have hne:d≠some p.1:=by simpa using List.all_eq_true.1 hp p hpm
  refine⟨by rw[zbc];exact k1,k2,?_,fun v γ he=>k4 v γ ?_⟩
  ·cases d with
   |none=>exact k3
   |some d=>simp only[zy];rw[List.getElem?_set_ne (fun h=>hne (by rw[h]))];exact k3
  ·rw[zkt,if_neg hne] at he;exact he
theorem z7m {X:Cx} {a0:Act} {acc:FwdG.Acc (gh X)} {S:List AV} {ps:Pend} (h:zqg (P:=P) IT X a0 acc S ps) {d:Tmp} {t:TypeId} {z:Value} (hd:d<S.length)(hp:(ps.all fun p=>some d !=some p.1)=true)(hz:zho P t=some z):
 zqg (P:=P) IT X a0 (FwdG.accOf acc (some d) (VN X d t z)) (S.set d .top) (ps++[(d,t,z)]):=by
 obtain⟨h1,h2,h3⟩:=h
 have hne: ∀p∈ps,d≠p.1:=fun p hpm=>by simpa using List.all_eq_true.1 hp p hpm
 refine⟨fun u v γ he=> ?_,fun p hpm=> ?_,?_⟩
 ·rw[zkt] at he
  by_cases e:d=u
  ·subst e
   simp only[zcc,List.getElem?_set_self hd,Option.getD_some]
   rw[Rep];trivial
  ·rw[if_neg (fun h=>e (Option.some.inj h))] at he
   simp only[zcc]
   rw[List.getElem?_set_ne e];exact h1 u v γ he
 ·rcases List.mem_append.1 hpm with hpm|hpm
  ·obtain⟨k1,k2,k3,k4⟩:=h2 p hpm
   refine⟨by rw[List.length_set];exact k1,k2,by rw[List.getElem?_set_ne (hne p hpm)];exact k3,fun v γ he=>k4 v γ ?_⟩
   rw[zkt,if_neg (fun h=>hne p hpm (Option.some.inj h))] at he;exact he
  ·simp only[List.mem_singleton] at hpm
   subst hpm
   refine⟨by rw[List.length_set];exact hd,hz,List.getElem?_set_self hd,fun v γ he=> ?_⟩
   rw[zkt,if_pos rfl] at he;exact he
 ·rw[List.map_append,List.nodup_append]
  refine⟨h3,by simp,fun a ha b hb=> ?_⟩
  obtain⟨p,hpm,rfl⟩:=List.mem_map.1 ha
  simp at hb;subst hb
  exact fun e=>hne p hpm e.symm
theorem zuo {X:Cx} {a0:Act} {acc:FwdG.Acc (gh X)} {S:List AV} {ps:Pend} (h:zqg (P:=P) IT X a0 acc S ps) {ρ:Operand→Value} {γ:GB X} (hE:Env ρ) {l:List Operand} (hr:FwdG.All (G:=gh X) (FwdG.env a0 acc) ρ γ (zef l)): ∀x∈l,Rep IT (zig X γ.W γ.B) (zcc S x) (ρ x):=by
 induction l with
 |nil=>intro x hx;cases hx
 | cons y l ih=>
  intro x hx
  cases y with
  | tmp t=>
   simp only[zef,FwdG.All] at hr
   rcases List.mem_cons.1 hx with rfl|hx
   ·exact h.1 t _ γ hr.1
   ·exact ih hr.2 x hx
  | const v=>
   rcases List.mem_cons.1 hx with rfl|hx
   ·rw[hE.const];simp only[zcc]
    split
    ·rename_i h;exact zhk v h
    ·rw[Rep]
   ·exact ih hr x hx
  | func f=>
   rcases List.mem_cons.1 hx with rfl|hx
   ·rw[hE.func];simp only[zcc,Rep];exact⟨[],rfl,by rw[zbk]⟩
   ·exact ih hr x hx
  | global g=>
   rcases List.mem_cons.1 hx with rfl|hx
   ·rw[hE.global];simp[zcc,Rep]
   ·exact ih hr x hx
def GB.next {X:Cx} (γ:GB X)(W:World)(hg:Grows γ.W W):GB X:=⟨W,γ.B,γ.lo,fun p hp=>Nat.lt_of_lt_of_le (γ.hi p hp) hg.size,γ.nd,γ.grows.trans hg⟩
theorem GB.next_le {X:Cx} (γ:GB X)(W:World)(hg:Grows γ.W W):(gh X).Le γ (γ.next W hg):=⟨hg,fun _ h=>h,fun _ h=> .inl h⟩
theorem zqo (hIT:ITMono IT) {σ:St} {X:Cx} (hI:Inv IT σ X) {a0:Act} {acc:FwdG.Acc (gh X)} {S:List AV} {ps:Pend} {o:Oper} {K:AV→Prop} (h:zhv IT P o S σ K)(hA:zqg (P:=P) IT X a0 acc S ps):
 ∃x,K x∧ ∀(ρ:Operand→Value) (γ:GB X),Env ρ→FwdG.All (G:=gh X) (FwdG.env a0 acc) ρ γ (zef o.op.operands.toList)→FwdG.OpGood (G:=gh X) P (VB IT X x) γ ((execOp ρ o).run P γ.W):=by
 unfold zhv at h
 have fin: ∀ {x:AV} {v:Value} {γ:GB X} {X':Cx} (hg:Grows γ.W X'.w),Inv IT σ X'→Rep IT X' x v→X'.κ=X.κ→X'.β=X.β→X'.lens=X.lens→(∀b i,X'.F b i→(zig X γ.W γ.B).F b i∨γ.W.heap.size≤b)→VB IT X x v (γ.next X'.w hg):=by
  intro x v γ X' hg h2 h3 h5 h6 h7 h8
  show Rep IT (zig X X'.w γ.B) x v
  refine zht hIT (X:=X') (X':=zig X X'.w γ.B) ⟨fun b i hf=> ?_,fun _ _ _=>rfl,fun s b hs=>by rw[h5] at hs;exact hs,fun s L hs=>by rw[h7] at hs;exact⟨L,hs,Nat.le_refl _,fun _=>by rw[h6];rfl⟩,fun s b hs cur t f h=>⟨cur,h,rfl⟩,Szs.refl _⟩ _ _ h3
  rcases h8 b i hf with h|h
  ·rcases h with h|⟨ha,hb,hc⟩
   ·exact .inl h
   ·exact .inr ⟨ha,hb,h2.Fcell b i hf⟩
  ·refine .inr ⟨Nat.le_trans γ.grows.size h,fun p hp e=> ?_,h2.Fcell b i hf⟩
   have:=γ.hi p hp;omega
 split at h
 ·rename_i f args hc
  obtain⟨r,hok,hp,hk⟩:=h
  refine⟨r,hk,fun ρ γ hE hr=> ?_⟩
  have hρ:=zuo hA hE hr
  obtain⟨vs,hrun,hrr⟩:=zgf (IT:=IT) (P:=P) (X:=zig X γ.W γ.B) hc (fun x hx=>hρ x (by simpa using hx)) hp.1
  rw[show(execOp ρ o).run P γ.W=_ from hrun]
  refine(zja hIT hp rfl hok (zpg hIT hI γ.B γ.grows) hrr).mono ?_
  rintro e w' ⟨v,X',rfl,rfl,h1,h2,h3,h4,h5,h6,h7,hO,h8⟩
  exact⟨v,rfl,γ.next X'.w h4,rfl,γ.next_le X'.w h4,fin h4 h2 h3 h5 h6 h7 h8⟩
 ·obtain⟨x,hx,h⟩:=h
  refine⟨x,h,fun ρ γ hE hr=> ?_⟩
  have hρ:=zuo hA hE hr
  obtain⟨v,X',h1,h2,h3,h4,h5,h6,h7,h8,hO,h9⟩:=zva hIT (X:=zig X γ.W γ.B) hx (fun x hx=>hρ x (by simpa using hx)) (zpg hIT hI γ.B γ.grows)
  rw[show(execOp ρ o).run P γ.W=_ from h1]
  exact⟨γ.next X'.w h5,rfl,γ.next_le X'.w h5,fin h5 h3 h4 h6 h7 h8 h9⟩
theorem zsy {t:TypeId} {z:Value} (h:zho P t=some z):(∃i,P.info? t=some i∧i.zero=some z)∧zpp z=true∧zhn (ziu z)=true:=by
 unfold zho at h
 split at h<;>try cases h
 rename_i i hi
 split at h<;>try cases h
 rename_i z' hz
 split at h<;>cases h
 rename_i hc
 exact⟨⟨i,hi,hz⟩,hc⟩
theorem z7f {X:Cx} {γ:GB X} {ρ:Operand→Value} {o:Oper} {t:TypeId} {d:Tmp} {z:Value} (ho:o.op= .alloc t)(hz:zho P t=some z):
 FwdG.OpGood (G:=gh X) P (VN X d t z) γ ((execOp ρ o).run P γ.W):=by
 obtain⟨⟨i,hi,hz'⟩,_,_⟩:=zsy hz
 have hrun:(Instr.alloc t true (.tuple #[])).run P γ.W= .ok (.pointer (some ⟨γ.W.heap.size,0,none⟩)) (γ.W.alloc (.cells z.cells t)):=by
  have:(Instr.alloc t true (.tuple #[])).run P γ.W=(Instr.box t z).run P γ.W:=by
   simp[Instr.alloc,Instr.box,zjt hi hz']
  rw[this]
  simp only[Instr.box,Sem.run_bind,zpd,Result.andThen_ok,Sem.run_pure]
 have hrun2:(execOp ρ o).run P γ.W= .ok (.value (.pointer (some ⟨γ.W.heap.size,0,none⟩))) (γ.W.alloc (.cells z.cells t)):=by simp[execOp,ho,hrun]
 rw[hrun2]
 have hg:Grows γ.W (γ.W.alloc (.cells z.cells t)):=(Ex.refl _ _).alloc (Nat.le_refl _) _
 refine⟨⟨γ.W.alloc (.cells z.cells t),(d,γ.W.heap.size)::γ.B,fun p hp=> ?_,fun p hp=> ?_,fun p hp q hq e=> ?_,γ.grows.trans hg⟩,rfl,⟨hg,fun p hp=>List.mem_cons_of_mem _ hp,fun p hp=> ?_⟩,γ.W.heap.size,List.mem_cons_self,rfl,zeq _ _ _ rfl⟩
 ·rcases List.mem_cons.1 hp with rfl|hp
  ·exact γ.grows.size
  ·exact γ.lo p hp
 ·rw[World.size_alloc]
  rcases List.mem_cons.1 hp with rfl|hp
  ·exact Nat.lt_succ_self _
  ·exact Nat.lt_succ_of_lt (γ.hi p hp)
 ·rcases List.mem_cons.1 hp with rfl|hp
  ·rcases List.mem_cons.1 hq with rfl|hq
   ·rfl
   ·have:=γ.hi q hq;simp only at e;omega
  ·rcases List.mem_cons.1 hq with rfl|hq
   ·have:=γ.hi p hp;simp only at e;omega
   ·exact γ.nd p hp q hq e
 ·rcases List.mem_cons.1 hp with rfl|hp
  ·exact .inr (Nat.le_refl _)
  ·exact .inl hp
theorem zjg (hIT:ITMono IT) {σ:St} {X:Cx} (hI:Inv IT σ X) {ops:Array Oper} {a0:Act} {K:List AV→Pend→Prop} {fin:FwdG.Acc (gh X)→Prop} {γ0:GB X}
 (hfin: ∀S ps acc,K S ps→S.length=a0.tmps.size→zqg (P:=P) IT X a0 acc S ps→fin acc):
 ∀(l:List Oper) (S:List AV) (ps:Pend) (acc:FwdG.Acc (gh X)),zfe IT P ops σ K l S ps→S.length=a0.tmps.size→zqg (P:=P) IT X a0 acc S ps→FwdG.FwdGo (G:=gh X) P ops γ0 a0 fin l acc
 |[],S,ps,acc,h,hl,hA=>hfin S ps acc h hl hA
 | o ::l,S,ps,acc,h,hl,hA=>by
  simp only[zfe] at h
  obtain⟨hd,hp,h⟩:=h
  rcases h with⟨hg,t,d,z,ho,hdst,hz,hk⟩|h
  ·have hdl:d<S.length:=by rw[hdst] at hd;simpa using hd
   refine⟨VN X d t z,vn_mono d t z,fun ρ γ hE hgr hr=>by rw[hg];exact z7f ho hz,?_⟩
   rw[hdst]
   exact zjg hIT hI hfin l _ _ _ hk (by rw[List.length_set];exact hl) (z7m hA hdl (by rw[hdst] at hp;exact hp) hz)
  ·cases hg:o.guard with
   | none=>
    rw[hg] at h
    obtain⟨x,hk,hs⟩:=zqo (P:=P) hIT hI h hA
    exact⟨VB IT X x,z2q hIT hI x,fun ρ γ hE hgr hr=>by rw[hg];exact hs ρ γ hE hr,zjg hIT hI hfin l _ _ _ hk (by rw[zbc];exact hl) (zpf hA o.dst x hd hp)⟩
   | some kb=>
    obtain⟨k,b⟩:=kb
    rw[hg] at h
    obtain⟨c,hc,h⟩:=h
    obtain⟨d,u,hdk,hsd,hcu⟩: ∃d u,zbl ops k=some d∧S[d]? =some (.raw u)∧ ∀t,u= .bool t↔c=some t:=by
     unfold zdp at hc
     split at hc<;>try cases hc
     rename_i d hd'
     split at hc<;>cases hc
     ·rename_i c' hs
      exact⟨d,_,hd',hs,fun t=>by simp⟩
     ·rename_i u hne hs
      exact⟨d,u,hd',hs,fun t=>⟨fun e=>absurd e (hne t),fun e=>by cases e⟩⟩
    have hgv: ∀g (γ:GB X),FwdG.env a0 acc d g γ→g=u:=fun g γ he=>by
     have:=hA.1 d g γ he
     simp only[zcc,hsd,Option.getD_some] at this
     rw[Rep] at this;exact this
    by_cases e:c=some b
    ·rw[if_pos e] at h
     obtain⟨x,hk,hs⟩:=zqo (P:=P) hIT hI h hA
     refine⟨VB IT X x,z2q hIT hI x,fun ρ γ hE hgr hr=> ?_,zjg hIT hI hfin l _ _ _ hk (by rw[zbc];exact hl) (zpf hA o.dst x hd hp)⟩
     rw[hg]
     exact⟨d,hdk,fun g he=>⟨fun _=>hs ρ γ hE hr,fun hne=>absurd (by rw[hgv g γ he,(hcu b).2 e]) hne⟩⟩
    ·rw[if_neg e] at h
     refine⟨VB IT X (.raw undef),z2q hIT hI _,fun ρ γ hE hgr hr=> ?_,zjg hIT hI hfin l _ _ _ h (by rw[zbc];exact hl) (zpf hA o.dst _ hd hp)⟩
     rw[hg]
     refine⟨d,hdk,fun g he=>⟨fun hb=> ?_,fun _=>by show Rep _ _ _ _;rw[Rep]⟩⟩
     rw[hgv g γ he] at hb
     exact absurd ((hcu b).1 hb) e
theorem zub (hIT:ITMono IT) {X:Cx} {tmps:Array Value}: ∀(ps:Pend) (σ:St) (Y:Cx) (S:List AV),Ext X Y→Inv IT σ Y→zmb IT Y S tmps→
 (∀p∈ps,zho P p.2.1=some p.2.2∧p.1<S.length∧ ∃b,tmps[p.1]? =some (.pointer (some ⟨b,0,none⟩))∧Y.w.heap[b]? =some (.cells p.2.2.cells p.2.1 (0,0))∧X.w.heap.size≤b∧(∀o,¬Y.F b o)∧b∉Y.κ∧(∀r∈Y.β,r.block≠b)∧ ¬Y.O b)→
 (ps.Pairwise fun p q=>tmps[p.1]? ≠tmps[q.1]?)→
 ∃Y',Ext X Y'∧Inv IT (zpq σ ps) Y'∧zmb IT Y' (zmh σ.boxes.length ps S) tmps∧Y'.w=Y.w
 |[],σ,Y,S,hE,hI,hr,_,_=>⟨Y,hE,by simpa[zpq] using hI,hr,rfl⟩
 | (d,t,z)::ps,σ,Y,S,hE,hI,hr,hp,hpw=>by
  obtain⟨hz,hd,b,h1,h2,h3,h4,h5,h6,h7⟩:=hp (d,t,z) List.mem_cons_self
  simp only at hz hd h1 h2
  obtain⟨_,hok,hco⟩:=zsy hz
  obtain⟨k1,k2⟩:=zlg (IT:=IT) (X:=Y) hco (zhk z hok)
  have hI2:=z7r hIT hI (b:=b) (t:=t) (us:=z.cells.toList) (by simpa using h2) k1 k2 h4 h5 h6 h7
  have hS:=zuv Y b
  have hr2:zmb IT {Y with κ:=Y.κ++[b]} (S.set d (.ptr σ.boxes.length 0)) tmps:=by
   have hlen:=zr hr
   refine zfb (by rw[List.length_set];exact hlen) fun i x v e1 e2=> ?_
   by_cases e:d=i
   ·subst e
    rw[List.getElem?_set_self hd] at e1
    cases e1
    rw[Rep]
    have:v= .pointer (some ⟨b,0,none⟩):=by
     have e3:tmps[d]? =some v:=by simpa using e2
     rw[h1] at e3;cases e3;rfl
    refine⟨b,?_,this⟩
    show(Y.κ++[b])[σ.boxes.length]? =_
    rw[←hI.κlen];simp
   ·rw[List.getElem?_set_ne e] at e1
    obtain⟨v',hv',hrr⟩:=zeg hr i x e1
    rw[hv'] at e2;cases e2
    exact zht hIT hS _ _ hrr
  rw[List.pairwise_cons] at hpw
  obtain⟨Y',g1,g2,g3,g4⟩:=zub hIT ps {σ with boxes:=σ.boxes++[(t,cellsOf (ziu z))]} {Y with κ:=Y.κ++[b]} (S.set d (.ptr σ.boxes.length 0)) (z7i hE h3) hI2 hr2 (fun p hpm=>by
   obtain⟨q1,q2,b',q3,q4,q5,q6,q7,q8,q9⟩:=hp p (List.mem_cons_of_mem _ hpm)
   refine⟨q1,by rw[List.length_set];exact q2,b',q3,q4,q5,q6,fun hm=> ?_,q8,q9⟩
   rcases List.mem_append.1 hm with hm|hm
   ·exact q7 hm
   ·simp at hm;subst hm
    exact hpw.1 p hpm (by simp only;rw[h1,q3])) hpw.2
  refine⟨Y',g1,?_,?_,g4⟩
  ·have e:zpq {σ with boxes:=σ.boxes++[(t,cellsOf (ziu z))]} ps=zpq σ ((d,t,z)::ps):=by simp[zpq]
   rw[←e];exact g2
  ·simpa[zmh] using g3
theorem zyu (hIT:ITMono IT)(hF:FenceOk F P)(hG:zrp P B M)(hmix:P.follows .mixedOrders=true) {id:Nat} {ops:Array Oper} {Q:List AV→St→Prop} {K:Exit→Act→World→Prop} {X0 X:Cx} {S:List AV} {σ:St} {a:Act}
 (hQ: ∀S σ X a,Q S σ→Now IT M F B X0 S σ X a→K .normal a X.w) (h:qjg IT P (zdn M) ops Q S σ) (hn:Now IT M F B X0 S σ X a):(Code.region id ops true).wpIn F nn P K a X.w:=by
 obtain⟨l,rfl⟩: ∃l:List Oper,ops=l.toArray:=⟨ops.toList,by simp⟩
 obtain⟨n,hc,hnd,h⟩:=h
 simp only[List.toList_toArray] at hnd h
 have hlen:S.length=a.tmps.size:=by have:=zr hn.reps;simpa using this
 obtain⟨γ0,hγ0⟩: ∃γ0:GB X,γ0=⟨X.w,[],fun _ h=>(by cases h),fun _ h=>(by cases h),fun _ h=>(by cases h),Grows.refl _⟩:=⟨_,rfl⟩
 have hπ:(gh X).π γ0=X.w:=by rw[hγ0];rfl
 have hd0:Grows X.w {X.w with drawn:=X.w.drawn+1}:=(Grows.refl _).drew
 have key:=FwdG.wpIn_region_fwd (G:=gh X) (F:=F) (nn:=nn) (P:=P) (id:=id) (Q:=K) (a:=a) (w:=γ0) (w1:=γ0.next {X.w with drawn:=X.w.drawn+1} (by rw[hγ0];exact hd0)) (l:=l) hF n (by rw[hπ];rfl) (γ0.next_le _ _) hmix
  (fun o ho c e=>by
   have:=List.all_eq_true.1 hnd o ho
   rw[e] at this;cases this)
  (by rw[←hlen];exact hc)
  (zjg (P:=P) (γ0:=γ0) (K:=fun S' ps=>zcq IT P (zdn M) l.toArray Q (l.drop n) (zmh σ.boxes.length ps S') (zpq σ ps)) hIT hn.inv (fun S' ps acc hk hl hA (γ:(gh X).Γ) hle=>FwdG.endAt_all (G:=gh X) (w:=γ) fun a' h1 h2 h3=> ?_)
   (l.take n) S [] [] h hlen ⟨fun t v γ he=>by
    have e:v=a.eval (.tmp t):=he
    subst e
    exact zep hIT (zpu hn.inv γ.B γ.grows) _ _ (zdh hn.reps (.tmp t)),fun _ h=>(by cases h),by simp⟩)
 ·rw[hπ] at key;exact key
 have hE:=zpu hn.inv γ.B γ.grows
 have hev: ∀i,i<a.tmps.size→FwdG.env a acc i (a'.eval (.tmp i)) γ:=fun i hi=>h3 i hi
 have hval: ∀i (hi:i<a.tmps.size),a'.tmps[i]? =some (a'.eval (.tmp i)):=fun i hi=>by
  have:i<a'.tmps.size:=by omega
  simp[Act.eval,this]
 have hrs:zmb IT (zig X γ.W γ.B) S' a'.tmps:=zfb (by simp[hl,h1]) fun i x v e1 e2=>by
  have hi:i<a.tmps.size:=by have:=(List.getElem?_eq_some_iff.1 e1).1;omega
  have:=hA.1 i (a'.eval (.tmp i)) γ (hev i hi)
  have ev:a'.eval (.tmp i)=v:=by
   have h:=hval i hi
   have e3:a'.tmps[i]? =some v:=by simpa using e2
   rw[e3] at h;cases h;rfl
  rw[ev] at this
  simpa only[zcc,e1,Option.getD_some] using this
 have hpb: ∀p∈ps,p.1<S'.length∧zho P p.2.1=some p.2.2∧ ∃b,(p.1,b)∈γ.B∧a'.tmps[p.1]? =some (.pointer (some ⟨b,0,none⟩))∧γ.W.heap[b]? =some (.cells p.2.2.cells p.2.1 (0,0)):=fun p hp=>by
  obtain⟨k1,k2,k3,k4⟩:=hA.2.1 p hp
  have hi:p.1<a.tmps.size:=by rw[←hl];exact k1
  obtain⟨b,b1,b2,b3⟩:=k4 _ γ (hev p.1 hi)
  exact⟨k1,k2,b,b1,by rw[hval p.1 hi,b2],b3⟩
 have hlt: ∀ {b:Nat},X.w.heap.size≤b→b∉X.κ:=fun hb hm=>by have:=hn.inv.κlt hm;omega
 obtain⟨Y',g1,g2,g3,g4⟩:=zub (P:=P) hIT (X:=X) (tmps:=a'.tmps) ps σ (zig X γ.W γ.B) S' hE (zpg hIT hn.inv γ.B γ.grows) hrs
  (fun p hp=>by
   obtain⟨k1,k2,b,b1,b2,b3⟩:=hpb p hp
   have hb:=γ.lo _ b1
   refine⟨k2,k1,b,b2,b3,hb,fun o hf=> ?_,hlt hb,fun r hr e=> ?_,fun ho=> ?_⟩
   ·rcases hf with hf|⟨_,hf,_⟩
    ·have:=hn.inv.Flt hf;simp only at hb;omega
    ·exact hf _ b1 rfl
   ·have:=hn.inv.βlt hr;simp only at hb;omega
   ·have:=hn.inv.Olt ho;simp only at hb;omega)
  (by
   have hnd:=hA.2.2
   rw[List.nodup_iff_pairwise_ne,List.pairwise_map] at hnd
   refine List.Pairwise.imp_of_mem (fun {p q} hp hq hne e=> ?_) hnd
   obtain⟨_,_,b,b1,b2,_⟩:=hpb p hp
   obtain⟨_,_,b',b1',b2',_⟩:=hpb q hq
   rw[b2,b2'] at e
   have eb:b=b':=by simpa using e
   have:=γ.nd _ b1 _ b1' eb
   exact hne ((Prod.mk.inj this).1))
 have hnow:Now IT M F B X0 (zmh σ.boxes.length ps S') (zpq σ ps) Y' a':=⟨hn.ext.trans (Rel.of g1),g2,g3,by rw[h2];exact hn.marks.ext g1 hn.inv,FrM.ext hG hn.frn g1 hn.inv rfl rfl⟩
 have:=zfg (nn:=nn) hIT hF hG hQ (l.drop n) _ _ Y' a' hk hnow
 rw[g4] at this
 exact this
end
end Go.Ab
