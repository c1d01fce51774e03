import Derived.Test.YtjkcellkmmfkdaaGreatDoorZdK
set_option linter.all false
open Nat (le_refl le_trans)
open Option (map_some getD_some)
open List (length_append mem_of_getElem? getElem?_eq_getElem mem_append all_eq_true getElem?_drop length_drop)
namespace Go.Ab
open Go Go.RowKit Go.Fwd
variable {IT:IterP} {X Y X' Z X0:Cx} {B' n:Nat} {N:Nat->Prop} {M:Option Gen} {U U':St} {W':World} {P:Program} {F1:Nat->Nat->Prop}
theorem z2j: ∀(ps:List Tmp) (x:List AV) (vs:List Value) (S:List AV) (tmps:Array Value),zbf IT X x vs->znc IT X S tmps->
 znc IT X ((ps.zip x).foldl (fun S p=>S.set p.1 p.2) S) ((ps.zip vs).foldl (fun t p=>t.setIfInBounds p.1 p.2) tmps)
 |[],x,vs,S,tmps,_,h=>h
 |p::ps,[],vs,S,tmps,hx,h=>by rw[zbf] at hx;subst hx;exact h
 | p::ps,a::x,vs,S,tmps,hx,h=>by
  rw[zbf] at hx;obtain⟨v,r,rfl,h1,h2⟩:=hx;simp only[List.zip_cons_cons,List.foldl_cons];refine z2j ps x r _ _ h2 ?_;exact zpb (a:={tmps:=tmps,defers:=[]}) h (some p) h1
theorem zmm (l:Nat):Fence.wide.inRound l≠Fence.wide:=fun h=>by have:=congrArg Fence.round h;simp[Fence.wide] at this
mutual
theorem qpd (hF: ∀b o,X.F b o->Y.F b o)(hw:Y.w=X.w)(h0:X.κ=[])(hl:X.lens=[]): ∀(a:AV) (v:Value),Rep noIT X a v->Rep IT Y a v
 | .raw u,v,hr=>hr
 | .agg cs,v,⟨vs,e,hr,h1⟩=>⟨vs,e,zvb hF hw h0 hl cs vs hr,h1⟩
 | .tup cs,v,⟨vs,e,hr⟩=>⟨vs,e,zvb hF hw h0 hl cs vs hr⟩
 | .list m cs st,v,⟨a,cap,e,hcap,hc,hs⟩=>⟨a,cap,e,hcap,hc.imp id fun⟨b,o,e1,e2⟩=>⟨b,o,e1,at_in hF hw h0 hl cs b o e2⟩,by
  cases st with
  |none=>trivial
  |full=>exact hs
  |own s=>obtain⟨L,k1,_⟩:=hs;rw[hl] at k1;simp at k1⟩
 | .ptr s off,v,⟨b,e1,e2⟩=>by rw[h0] at e1;simp at e1
 | .bsl s off n sz f,v,⟨b,_,_,_,e1,_⟩=>by rw[h0] at e1;simp at e1
 | .iptr cs,v,⟨b,o,e,hc⟩=>⟨b,o,e,at_in hF hw h0 hl cs b o hc⟩
 | .clos f caps,v,⟨vs,e,hr⟩=>⟨vs,e,zvb hF hw h0 hl caps vs hr⟩
 | .iter xs,v,h2=>h2.elim
 | .yld _,_,hr=>hr
 | .top,_,hr=>hr
 | .bad,_,hr=>hr
theorem zvb (hF: ∀b o,X.F b o->Y.F b o)(hw:Y.w=X.w)(h0:X.κ=[])(hl:X.lens=[]): ∀(l:List AV) (vs:List Value),zbf noIT X l vs->zbf IT Y l vs
 |[],_,hr=>hr
 |a::l,vs,⟨v,r,e,h1,h2⟩=>⟨v,r,e,qpd hF hw h0 hl a v h1,zvb hF hw h0 hl l r h2⟩
theorem at_in (hF: ∀b o,X.F b o->Y.F b o)(hw:Y.w=X.w)(h0:X.κ=[])(hl:X.lens=[]): ∀(cs:List AV) (b o:Nat),At noIT X cs b o->At IT Y cs b o
 |[],_,_,_=>trivial
 |c::cs,b,o,⟨⟨hf,v,hv,h1,hr⟩,ht⟩=>⟨⟨hF b o hf,v,by rw[hw];exact hv,h1,qpd hF hw h0 hl c v hr⟩,at_in hF hw h0 hl cs b (o+1) ht⟩
end
structure ExtC (B:Nat)(N:Nat->Prop)(X X':Cx):Prop extends Sub X X' where
 os:X'.w.os=X.w.os
 tape:X'.w.tape=X.w.tape
 output:X'.w.output=X.w.output
 size:X.w.heap.size<=X'.w.heap.size
 drawn:drn X.w<=drn X'.w
 κnew: ∀b∈X'.κ,b∈X.κ \/X.w.heap.size<=b
 βnew: ∀r∈X'.β,(∃q∈X.β,q.block=r.block) \/X.w.heap.size<=r.block
 Onew: ∀b,X'.O b->X.O b \/X.w.heap.size<=b
 Fnew: ∀(b o:Nat),X'.F b o->X.F b o \/X.w.heap.size<=b \/(∃q∈X.β,q.block=b) \/b∈X.κ
 Cmono: ∀(b o:Nat),X.C b o->X'.C b o
 Cnew: ∀(b o:Nat),X'.C b o->X.C b o \/X.F b o \/X.O b \/X.w.heap.size<=b \/(∃q∈X.β,q.block=b) \/b∈X.κ
 frame: ∀(k:Nat) cs t f,X.w.heap[k]? =some (.cells cs t f)->(B<=k \/N k)->k∉X.κ->(∀r∈X.β,r.block≠k)-> ¬X.O k->X'.w.heap[k]? =some (.cells cs t f)
theorem ExtG.toC {B:Nat} (h:ExtG B X X')(hB:B<=B')(hN: ∀k,N k->B<=k):ExtC B' N X X':=
 {h with F:=h.F,cell:=h.cell,κ:=h.κ,lens:=h.lens,blk:=h.blk,szs:=h.szs,Fnew:=h.Fnew,frame:=fun k cs t f hk hb=>h.frame k _ hk (hb.elim (le_trans hB) (hN k))}
theorem Rel.toC (h:Rel M X X')(hB: ∀G,M=some G->G.B<=B')(hN: ∀k,N k-> ∀G,M=some G->G.B<=k):ExtC B' N X X':=by
 cases M with
 |none=>exact ExtG.toC (B:=0) (Ext.toG 0 (show Ext X X' from h)) (Nat.zero_le _) (fun _ _=>Nat.zero_le _)
 |some G=>exact ExtG.toC (show ExtG G.B X X' from h) (hB G rfl) (fun k hk=>hN k hk G rfl)
theorem ExtC.trans {B:Nat} (h:ExtC B N X Y)(k:ExtC B N Y Z):ExtC B N X Z where
 toSub:=h.toSub.trans k.toSub
 os:=k.os.trans h.os
 tape:=k.tape.trans h.tape
 output:=k.output.trans h.output
 size:=le_trans h.size k.size
 drawn:=le_trans h.drawn k.drawn
 κnew:=fun b hb=>by
  rcases k.κnew b hb with h1|h1
  ·exact h.κnew b h1
  ·exact .inr (le_trans h.size h1)
 βnew:=fun r hr=>by
  rcases k.βnew r hr with⟨q,hq,e⟩|h1
  ·rcases h.βnew q hq with⟨p,hp,e'⟩|h2
   ·exact .inl ⟨p,hp,e'.trans e⟩
   ·exact .inr (e▸h2)
  ·exact .inr (le_trans h.size h1)
 Onew:=fun b hb=>by
  rcases k.Onew b hb with h1|h1
  ·exact h.Onew b h1
  ·exact .inr (le_trans h.size h1)
 Fnew:=fun b o hf=>by
  rcases k.Fnew b o hf with h1|h1|⟨q,hq,e⟩|h1
  ·exact h.Fnew b o h1
  ·exact .inr (.inl (le_trans h.size h1))
  ·rcases h.βnew q hq with⟨p,hp,e'⟩|h2
   ·exact .inr (.inr (.inl ⟨p,hp,e'.trans e⟩))
   ·exact .inr (.inl (e▸h2))
  ·rcases h.κnew b h1 with h2|h2
   ·exact .inr (.inr (.inr h2))
   ·exact .inr (.inl h2)
 Cmono:=fun b o hc=>k.Cmono b o (h.Cmono b o hc)
 Cnew:=fun b o hf=>by
  rcases k.Cnew b o hf with h1|h1|h1|h1|⟨q,hq,e⟩|h1
  ·exact h.Cnew b o h1
  ·rcases h.Fnew b o h1 with h2|h2|h2
   ·exact .inr (.inl h2)
   ·exact .inr (.inr (.inr (.inl h2)))
   ·exact .inr (.inr (.inr (.inr h2)))
  ·rcases h.Onew b h1 with h2|h2
   ·exact .inr (.inr (.inl h2))
   ·exact .inr (.inr (.inr (.inl h2)))
  ·exact .inr (.inr (.inr (.inl (le_trans h.size h1))))
  ·rcases h.βnew q hq with⟨p,hp,e'⟩|h2
   ·exact .inr (.inr (.inr (.inr (.inl ⟨p,hp,e'.trans e⟩))))
   ·exact .inr (.inr (.inr (.inl (e▸h2))))
  ·rcases h.κnew b h1 with h2|h2
   ·exact .inr (.inr (.inr (.inr (.inr h2))))
   ·exact .inr (.inr (.inr (.inl h2)))
 frame:=fun x cs t f hx hB hκ hβ hO=>by
  have hlt:=(Array.getElem?_eq_some_iff.1 hx).1;refine k.frame x cs t f (h.frame x cs t f hx hB hκ hβ hO) hB (fun hm=> ?_) (fun r hr e=> ?_) (fun ho=> ?_)
  ·rcases h.κnew x hm with h1|h1
   ·exact hκ h1
   ·omega
  ·rcases h.βnew r hr with⟨q,hq,e'⟩|h1
   ·exact hβ q hq (e'.trans e)
   ·omega
  ·rcases h.Onew x ho with h1|h1
   ·exact hO h1
   ·omega
def CM (M:Option Gen)(X:Cx)(b o:Nat):Prop:=match M with|none=>False|some _=>X.C b o
def Cov (M:Option Gen)(s:Frn)(Y:Cx):Prop:=(∀b,s.O b↔(b∈Y.κ \/(∃r∈Y.β,r.block=b) \/Y.O b))/\ ∀b o,s.C b o↔(Y.F b o \/CM M Y b o)
theorem Cov.cells {s:Frn} (hI:Inv IT U Y)(hc:Cov M s Y): ∀b,s.O b-> ∃cs t f,Y.w.heap[b]? =some (Obj.cells cs t f):=fun b hb=>by
 rcases(hc.1 b).1 hb with h|⟨r,hr,rfl⟩|h
 ·obtain⟨i,hi,rfl⟩:=List.mem_iff_getElem.1 h;have hl:=hI.κlen;obtain⟨vs,zs,h1,_⟩:=hI.box i Y.κ[i] (U.boxes[i]'(by omega)).1 (U.boxes[i]'(by omega)).2 (by simp[hi]) (by rw[getElem?_eq_getElem (by omega)]);exact⟨_,_,_,h1⟩
 ·obtain⟨i,hi,rfl⟩:=List.mem_iff_getElem.1 hr;have hl:=hI.βlen;obtain⟨cur,fz,h1,_⟩:=hI.row i Y.β[i] (Y.lens[i]'(by omega)) (by simp[hi]) (by rw[getElem?_eq_getElem (by omega)]);exact⟨_,_,_,h1⟩
 ·exact(hI.Ok b h).1
theorem zjt {s:Frn} {B:Nat} (hI:Inv IT U Y)(hc:Cov M s Y)(hB:B<=Y.w.heap.size)(ht:Turn B Y.w W'):Moved B N s Y.w W':=by
 have hcells: ∀(b:Nat) (cs:Array Value) (t:TypeId) (f:Nat×Nat),Y.w.heap[b]? =some (Obj.cells cs t f)->W'.heap[b]? =some (Obj.cells cs t f):=fun b cs t f h=>ht.same b _ h (.inr rfl);refine {os:=ht.os,tape:=ht.tape,output:=ht.output,size:=ht.size,drawn:=ht.drawn,low:=fun k hk _=> ?_,blk:=fun k hk=> ?_,cell:=fun b o v _ hv=> ?_,szs:=fun k cs t f h=>⟨cs,t,f,hcells k cs t f h,rfl⟩}
 ·have hlt:k<Y.w.heap.size:=by omega
  rw[Array.getElem?_eq_getElem hlt];exact ht.same k _ (Array.getElem?_eq_getElem hlt) (.inl hk)
 ·obtain⟨cs,t,f,h⟩:=hc.cells hI k hk;rw[h];exact hcells _ _ _ _ h
 ·unfold World.cell? at hv⊢;cases hb:Y.w.heap[b]? with
  |none=>simp[hb] at hv
  | some x=>
   cases x with
   |cells cs t f=>simp[hcells b cs t f hb];simpa[hb] using hv
   |_=>simp[hb] at hv
structure ExtW (Kp:Nat->Prop)(X X':Cx):Prop extends Sub X X' where
 os:X'.w.os=X.w.os
 tape:X'.w.tape=X.w.tape
 output:X'.w.output=X.w.output
 size:X.w.heap.size<=X'.w.heap.size
 drawn:drn X.w<=drn X'.w
 frame: ∀(b:Nat),b<X.w.heap.size-> ¬Kp b->(∀r∈X.β,r.block≠b)->X'.w.heap[b]? =X.w.heap[b]?
 κnew: ∀b∈X'.κ,Kp b \/X.w.heap.size<=b
 βnew: ∀r∈X'.β,(∃q∈X.β,q.block=r.block) \/X.w.heap.size<=r.block
 O:X'.O=X.O
 C:X'.C=X.C
 Fnew: ∀(b o:Nat),X'.F b o->X.F b o \/X.w.heap.size<=b \/(∃q∈X.β,q.block=b) \/Kp b
def KpN (N:Nat->Prop)(X:Cx)(b:Nat):Prop:=b∈X.κ \/N b
def RelB (M:Option Gen)(N:Nat->Prop)(X Y:Cx):Prop:=match M with|none=>ExtW (KpN N X) X Y|some G=>ExtG G.B X Y
theorem RelB.of (h:Rel M X Y):RelB M N X Y:=by
  cases M with
  | none=>
    have h:Ext X Y:=h
    exact { h with
            F:=h.F,cell:=h.cell,κ:=h.κ,lens:=h.lens,blk:=h.blk,szs:=h.szs,os:=h.os,tape:=h.tape,output:=h.output,size:=h.size,drawn:=h.drawn
            frame:=fun b hb hk=>h.frame b hb fun hm=>hk (.inl hm)
            κnew:=fun b hb=>(h.κnew b hb).imp .inl id
            βnew:=h.βnew
            O:=h.O
            C:=h.C
            Fnew:=fun b o hf=>(h.Fnew b o hf).imp id (Or.imp id (Or.imp id .inl)):ExtW (KpN N X) X Y}
  |some G=>exact h
theorem RelB.to (h:RelB M N X Y)(hN: ∀k,N k->X.w.heap.size<=k):Rel M X Y:=by
  cases M with
  | none=>
    have h:ExtW (KpN N X) X Y:=h;have hk: ∀b,KpN N X b->b∈X.κ \/X.w.heap.size<=b:=fun b hb=>hb.imp id (hN b)
    exact { h with
            F:=h.F,cell:=h.cell,κ:=h.κ,lens:=h.lens,blk:=h.blk,szs:=h.szs,os:=h.os,tape:=h.tape,output:=h.output,size:=h.size,drawn:=h.drawn
            frame:=fun b hb hκ=>h.frame b hb fun hm=>(hk b hm).elim hκ (fun h=>by omega)
            κnew:=fun b hb=>(h.κnew b hb).elim (hk b) .inr
            βnew:=h.βnew
            O:=h.O
            C:=h.C
            Fnew:=fun b o hf=>(h.Fnew b o hf).imp id fun h1=>h1.elim .inl fun h1=>h1.elim (fun h2=> .inr (.inl h2)) fun h2=>(hk b h2).elim (fun h3=> .inr (.inr h3)) .inl:Ext X Y}
  |some G=>exact h
theorem RelB.sub (h:RelB M N X Y):Sub X Y:=by cases M with|none=>exact ExtW.toSub h|some G=>exact ExtG.toSub h
theorem RelB.size (h:RelB M N X Y):X.w.heap.size<=Y.w.heap.size:=by cases M with|none=>exact ExtW.size h|some G=>exact ExtG.size h
theorem RelB.trans (h:RelB M N X Y)(k:Rel M Y Z):RelB M N X Z:=by
 cases M with
 |some G=>exact ExtG.trans h k
 | none=>
  have h:ExtW (KpN N X) X Y:=h;have k:Ext Y Z:=k
  exact {
   toSub:=h.toSub.trans k.toSub
   os:=k.os.trans h.os
   tape:=k.tape.trans h.tape
   output:=k.output.trans h.output
   size:=le_trans h.size k.size
   drawn:=le_trans h.drawn k.drawn
   frame:=fun b hb hκ hβ=>by
    have hs:=h.size;refine(k.frame b (by omega) (fun hm=> ?_) (fun r hr e=> ?_)).trans (h.frame b hb hκ hβ)
    ·rcases h.κnew b hm with h1|h1
     ·exact hκ h1
     ·omega
    ·rcases h.βnew r hr with⟨q,hq,e'⟩|h1
     ·exact hβ q hq (e'.trans e)
     ·omega
   κnew:=fun b hb=>by
    rcases k.κnew b hb with h1|h1
    ·exact h.κnew b h1
    ·exact .inr (le_trans h.size h1)
   βnew:=fun r hr=>by
    rcases k.βnew r hr with⟨q,hq,e⟩|h1
    ·rcases h.βnew q hq with⟨p,hp,e'⟩|h2
     ·exact .inl ⟨p,hp,e'.trans e⟩
     ·exact .inr (e▸h2)
    ·exact .inr (le_trans h.size h1)
   O:=k.O.trans h.O
   C:=k.C.trans h.C
   Fnew:=fun b o hf=>by
    rcases k.Fnew b o hf with h1|h1|⟨q,hq,e⟩|h1
    ·exact h.Fnew b o h1
    ·exact .inr (.inl (le_trans h.size h1))
    ·rcases h.βnew q hq with⟨p,hp,e'⟩|h2
     ·exact .inr (.inr (.inl ⟨p,hp,e'.trans e⟩))
     ·exact .inr (.inl (e▸h2))
    ·rcases h.κnew b h1 with h2|h2
     ·exact .inr (.inr (.inr h2))
     ·exact .inr (.inl h2):ExtW (KpN N X) X Z}
theorem qgb (h:RelB M N X0 X)(hn:X0.κ.length<=n):RelB M N X0 {X with κ:=X.κ.take n}:=by
 have hκ: ∀(s b:Nat),X0.κ[s]? =some b->(X.κ.take n)[s]? =some b:=fun s b hs=>by
  have:=(List.getElem?_eq_some_iff.1 hs).1;rw[List.getElem?_take,if_pos (by omega)];exact h.sub.κ s b hs
 cases M with
 | none=>
  have h:ExtW (KpN N X0) X0 X:=h;exact {h with κ:=hκ,F:=h.F,cell:=h.cell,lens:=h.lens,blk:=h.blk,szs:=h.szs,κnew:=fun b hb=>h.κnew b (List.mem_of_mem_take hb):ExtW (KpN N X0) X0 {X with κ:=X.κ.take n}}
 | some G=>
  have h:ExtG G.B X0 X:=h;exact {h with κ:=hκ,F:=h.F,cell:=h.cell,lens:=h.lens,blk:=h.blk,szs:=h.szs,κnew:=fun b hb=>h.κnew b (List.mem_of_mem_take hb):ExtG G.B X0 {X with κ:=X.κ.take n}}
theorem zlg {Bm B:Nat} {NB:Nat->Prop} {s:Frn} (hG:zuc P B M)(hBX:B<=X.w.heap.size)(hN: ∀k,N k->X.w.heap.size<=k \/(M=none/\ NB k))(hE:RelB M NB X Y)(hI:Inv (ITP P) U' Y)(hM:FrM M U' Y)(hc:Cov M s Y)(hBm:X.w.heap.size<=Bm)(hm:Moved Bm N s Y.w W'):
 RelB M NB X {Y with w:=W'}/\ Inv (ITP P) U' {Y with w:=W'}/\ FrM M U' {Y with w:=W'}/\ Cov M s {Y with w:=W'}/\ Sub Y {Y with w:=W'}:=by
 have hIT:=ze P;have hcell: ∀b o,Y.F b o->W'.cell? ⟨b,o,none⟩=Y.w.cell? ⟨b,o,none⟩:=fun b o hf=>by
  obtain⟨v,hv⟩:=hI.Fcell b o hf;rw[hv];exact hm.cell b o v ((hc.2 b o).2 (.inl hf)) hv
 have hS:Sub Y {Y with w:=W'}:=⟨fun _ _ h=>h,hcell,fun _ _ h=>h,fun s L h=>⟨L,h,le_refl _,fun _=>rfl⟩,fun i b hi cur t f h=>⟨cur,(hm.blk b ((hc.1 b).2 (.inl (mem_of_getElem? hi)))).trans h,rfl⟩,hm.szs⟩;refine⟨?_,?_,?_,hc,hS⟩
 ·cases M with
  | none=>
   have hE:ExtW (KpN NB X) X Y:=hE
   exact {hE with
    os:=hm.os.trans hE.os,tape:=hm.tape.trans hE.tape,output:=hm.output.trans hE.output,size:=le_trans hE.size hm.size,drawn:=le_trans hE.drawn hm.drawn
    F:=hE.F,κ:=hE.κ,lens:=hE.lens,Fnew:=hE.Fnew,blk:=(hE.toSub.trans hS).blk,szs:=hE.szs.trans hm.szs
    cell:=fun b o hf=>(hcell b o (hE.F b o hf)).trans (hE.cell b o hf)
    frame:=fun b hb hκ hβ=>(hm.low b (by omega) (fun h=>(hN b h).elim (fun h1=>by omega) fun h1=>hκ (.inr h1.2))).trans (hE.frame b hb hκ hβ):ExtW (KpN NB X) X {Y with w:=W'}}
  | some G=>
   have hE:ExtG G.B X Y:=hE
   exact {hE with
    os:=hm.os.trans hE.os,tape:=hm.tape.trans hE.tape,output:=hm.output.trans hE.output,size:=le_trans hE.size hm.size,drawn:=le_trans hE.drawn hm.drawn
    F:=hE.F,κ:=hE.κ,lens:=hE.lens,Fnew:=hE.Fnew,blk:=(hE.toSub.trans hS).blk,szs:=hE.szs.trans hm.szs
    cell:=fun b o hf=>(hcell b o (hE.F b o hf)).trans (hE.cell b o hf)
    frame:=fun k o hk hb hκ hβ hO=>(hm.low k (by have:=(Array.getElem?_eq_some_iff.1 hk).1;omega) (fun h=>by have:=(hN k h).resolve_right (fun h1=>nomatch h1.1);have:=(Array.getElem?_eq_some_iff.1 hk).1;omega)).trans (hE.frame k o hk hb hκ hβ hO):ExtG G.B X {Y with w:=W'}}
 ·refine {hI with gv:=hIT.gv _ _ _ _ (fun b o h=>h) hcell hm.szs hI.gv,lens:=hI.lens,elems:=hI.elems,box:= ?_,row:= ?_,Ok:= ?_,Fcell:= ?_}
  ·intro i b t cs hi hb;obtain⟨us,zs,u1,u2,u3⟩:=hI.box i b t cs hi hb;exact⟨us,zs,(hm.blk b ((hc.1 b).2 (.inl (mem_of_getElem? hi)))).trans u1,zbu hIT hS _ _ u2,u3⟩
  ·intro i q L hq hL;obtain⟨cur,fz,c1,c2⟩:=hI.row i q L hq hL;exact⟨cur,fz,(hm.blk _ ((hc.1 _).2 (.inr (.inl ⟨q,mem_of_getElem? hq,rfl⟩)))).trans c1,c2⟩
  ·intro b ho;obtain⟨⟨cs0,t0,f0,h0⟩,h2⟩:=hI.Ok b ho;exact⟨⟨cs0,t0,f0,(hm.blk b ((hc.1 b).2 (.inr (.inr ho)))).trans h0⟩,h2⟩
  ·intro b o hf;obtain⟨v,hv⟩:=hI.Fcell b o hf;exact⟨v,(hcell b o hf).trans hv⟩
 ·cases M with
  |none=>trivial
  | some G=>
   obtain⟨so,f1,f2,f3,f4,f5,f6,f7⟩:Fr G U' Y:=hM;have g4:G.B<=X.w.heap.size:=le_trans hG.2 hBX
   have hmv:Moved G.B G.own so Y.w W':={hm with
    low:=fun k hk _=>hm.low k (by omega) (fun h=>by have:=(hN k h).resolve_right (fun h1=>nomatch h1.1);omega)
    blk:=fun k hk=>hm.blk k ((hc.1 k).2 (.inr (.inr ((f1 k).1 hk))))
    cell:=fun b o v hc' hv=>hm.cell b o v ((hc.2 b o).2 (.inr ((f2.1 b o).1 hc'))) hv}
   refine⟨so,f1,⟨f2.1,fun b o hc'=>(f2.2 b o hc').imp id fun⟨k1,k2⟩=>⟨Nat.lt_of_lt_of_le k1 hm.size,k2⟩⟩,?_,le_trans f4 hm.size,f5,f6,f7⟩;split
   ·rename_i hst;rw[if_pos hst] at f3;exact hG.1.hJx so _ _ f3 f4 hmv
   ·rename_i hst;rw[if_neg hst] at f3;exact hG.1.hJ _ so _ _ f3 f4 hmv
def zsb (M:Option Gen)(Y:Cx):Frn:=⟨fun b=>b∈Y.κ \/(∃r∈Y.β,r.block=b) \/Y.O b,fun b o=>Y.F b o \/CM M Y b o⟩
theorem zkw (M:Option Gen)(Y:Cx):Cov M (zsb M Y) Y:=⟨fun _=>Iff.rfl,fun _ _=>Iff.rfl⟩
theorem ExtC.turn {B Bt:Nat} (h:ExtC B N X Y)(hI:Inv IT U Y)(ht:Turn Bt Y.w W'):ExtC B N X {Y with w:=W'}:=
  { h with
    F:=h.F,κ:=h.κ,lens:=h.lens,Fnew:=h.Fnew
    blk:=fun s b hs cur t f hc=>by
      obtain⟨c1,h1,h2⟩:=h.blk s b hs cur t f hc;exact⟨c1,ht.same b _ h1 (.inr rfl),h2⟩
    szs:=h.szs.trans fun k cs t f e=>⟨cs,t,f,ht.same k _ e (.inr rfl),rfl⟩
    os:=ht.os.trans h.os,tape:=ht.tape.trans h.tape,output:=ht.output.trans h.output,size:=le_trans h.size ht.size,drawn:=le_trans h.drawn ht.drawn
    cell :=fun b o hf=>by
      obtain⟨v,hv⟩:=hI.Fcell b o (h.F b o hf);rw[<-h.cell b o hf,hv];show W'.cell? _=_;unfold World.cell? at hv⊢;cases hb:Y.w.heap[b]? with
      |none=>simp[hb] at hv
      | some x=>
        cases x with
        |cells cs t f=>simp[ht.same b _ hb (.inr rfl)];simpa[hb] using hv
        |_=>simp[hb] at hv
    frame:=fun k cs t f h1 h2 h3 h4 h5=>ht.same k _ (h.frame k cs t f h1 h2 h3 h4 h5) (.inr rfl)}
theorem ExtC.trim {B:Nat} (h:ExtC B N X Y)(hn:X.κ.length<=n):ExtC B N X {Y with κ:=Y.κ.take n}:=
  { h with
    F:=h.F,cell:=h.cell,lens:=h.lens,blk:=h.blk,szs:=h.szs,Fnew:=h.Fnew
    κ :=fun s b hs=>by
      have:=(List.getElem?_eq_some_iff.1 hs).1
      show(Y.κ.take n)[s]? =some b
      rw[List.getElem?_take,if_pos (by omega)];exact h.κ s b hs
    κnew:=fun b hb=>h.κnew b (List.mem_of_mem_take hb)}
theorem z6f (h:Sub X Y):X.κ.length<=Y.κ.length:=by
 rcases Nat.eq_zero_or_pos X.κ.length with h0|h0
 ·omega
 ·have hi:X.κ.length-1<X.κ.length:=by omega
  have:=h.κ (X.κ.length-1) _ (getElem?_eq_getElem hi);have:=(List.getElem?_eq_some_iff.1 this).1;omega
theorem qcr {B:Nat} {s:Frn} {F0:Nat->Nat->Prop} {Bi:Nat} (hBX:B<=X.w.heap.size)(hN: ∀k,N k->X.w.heap.size<=k \/M=none)(hG:zuc P B M)(hE:RelB M N X Y)(hI:Inv (ITP P) U' Y)(hM:FrM M U' Y)(hc:Cov M s Y)
 (hF0: ∀b o,F0 b o->Y.F b o) (hBi:X.w.heap.size<=Bi) (h1: ∀b o,F1 b o->F0 b o \/Bi<=b \/N b) (h2: ∀b o,F1 b o->(¬s.O b \/s.C b o)/\ ∃v,Y.w.cell? ⟨b,o,none⟩=some v):
 RelB M N X {Y with F:=fun b o=>Y.F b o \/F1 b o}/\ Inv (ITP P) U' {Y with F:=fun b o=>Y.F b o \/F1 b o}/\ FrM M U' {Y with F:=fun b o=>Y.F b o \/F1 b o}/\ Sub Y {Y with F:=fun b o=>Y.F b o \/F1 b o}:=by
 have hIT:=ze P;have hS:Sub Y {Y with F:=fun b o=>Y.F b o \/F1 b o}:=⟨fun _ _ h=> .inl h,fun _ _ _=>rfl,fun _ _ h=>h,fun s L h=>⟨L,h,le_refl _,fun _=>rfl⟩,fun i b hi cur t f h=>⟨cur,h,rfl⟩,Szs.refl _⟩;have hcm: ∀b o,CM M Y b o->Y.F b o \/(b<Y.w.heap.size/\ b∉Y.κ/\ ∀r∈Y.β,r.block≠b):=fun b o h=>by
  cases M with
  |none=>exact h.elim
  | some G=>
   obtain⟨so,f1,f2,_⟩:Fr G U' Y:=hM;exact f2.2 b o ((f2.1 b o).2 h)
 refine⟨?_,?_,?_,hS⟩
 ·cases M with
  | none=>
   have hE:ExtW (KpN N X) X Y:=hE
   exact {hE with
    F:=fun b o h=> .inl (hE.F b o h),κ:=hE.κ,lens:=hE.lens,cell:=hE.cell,blk:=hE.blk,szs:=hE.szs
    Fnew:=fun b o h=>by
     rcases h with h|h
     ·exact hE.Fnew b o h
     ·rcases h1 b o h with h|h|h
      ·exact hE.Fnew b o (hF0 b o h)
      ·exact .inr (.inl (le_trans hBi h))
      ·exact .inr (.inr (.inr (.inr h))):ExtW (KpN N X) X {Y with F:=fun b o=>Y.F b o \/F1 b o}}
  | some G=>
   have hE:ExtG G.B X Y:=hE
   exact {hE with
    F:=fun b o h=> .inl (hE.F b o h),κ:=hE.κ,lens:=hE.lens,cell:=hE.cell,blk:=hE.blk,szs:=hE.szs
    Fnew:=fun b o h=>by
     rcases h with h|h
     ·exact hE.Fnew b o h
     ·rcases h1 b o h with h|h|h
      ·exact hE.Fnew b o (hF0 b o h)
      ·exact .inr (.inl (le_trans hBi h))
      ·exact .inr (.inl ((hN b h).resolve_right (fun h1=>nomatch h1))):ExtG G.B X {Y with F:=fun b o=>Y.F b o \/F1 b o}}
 ·refine {hI with gv:=(ze P).gv _ _ _ _ (fun b o h=>Or.inl h) (fun _ _ _=>rfl) (Szs.refl _) hI.gv,lens:=hI.lens,elems:=hI.elems,box:= ?_,κF:= ?_,row:= ?_,Ok:= ?_,Fcell:= ?_}
  ·intro i b t cs hi hb;obtain⟨us,zs,u1,u2,u3⟩:=hI.box i b t cs hi hb;exact⟨us,zs,u1,zbu hIT hS _ _ u2,u3⟩
  ·intro i b t cs hi hb hne o hf;rcases hf with hf|hf
   ·exact hI.κF i b t cs hi hb hne o hf
   ·rcases(h2 b o hf).1 with h|h
    ·exact h ((hc.1 b).2 (.inl (mem_of_getElem? hi)))
    ·rcases(hc.2 b o).1 h with h|h
     ·exact hI.κF i b t cs hi hb hne o h
     ·rcases hcm b o h with h|⟨_,h,_⟩
      ·exact hI.κF i b t cs hi hb hne o h
      ·exact h (mem_of_getElem? hi)
  ·intro i q L hq hL;obtain⟨cur,fz,c1,c2,c3,c4,c5,c6,c7⟩:=hI.row i q L hq hL;have hm:=mem_of_getElem? hq;refine⟨cur,fz,c1,c2,c3,c4,c5,fun o hf=> ?_,c7⟩;rcases hf with hf|hf
   ·exact c6 o hf
   ·rcases(h2 _ o hf).1 with h|h
    ·exact absurd ((hc.1 _).2 (.inr (.inl ⟨q,hm,rfl⟩))) h
    ·rcases(hc.2 _ o).1 h with h|h
     ·exact c6 o h
     ·rcases hcm _ o h with h|⟨_,_,h⟩
      ·exact c6 o h
      ·exact absurd rfl (h q hm)
  ·intro b ho;obtain⟨k1,k2,k3,k4⟩:=hI.Ok b ho;refine⟨k1,k2,k3,fun o hf=> ?_⟩;rcases hf with hf|hf
   ·exact k4 o hf
   ·rcases(h2 b o hf).1 with h|h
    ·exact absurd ((hc.1 b).2 (.inr (.inr ho))) h
    ·rcases(hc.2 b o).1 h with h|h
     ·exact k4 o h
     ·cases M with
      |none=>exact h.elim
      |some G=>exact h
  ·intro b o hf;rcases hf with hf|hf
   ·exact hI.Fcell b o hf
   ·exact(h2 b o hf).2
 ·cases M with
  |none=>trivial
  | some G=>
   obtain⟨so,f1,f2,f3,f4,f5,f6,f7⟩:Fr G U' Y:=hM;have g4:G.B<=X.w.heap.size:=le_trans hG.2 hBX;refine⟨so,f1,⟨f2.1,fun b o h=>(f2.2 b o h).imp .inl id⟩,f3,f4,f5,f6,fun b o hf=> ?_⟩;rcases hf with hf|hf
   ·exact f7 b o hf
   ·rcases h1 b o hf with h|h|h
    ·exact f7 b o (hF0 b o h)
    ·exact .inr (.inl (by omega))
    ·exact .inr (.inl (by have:=(hN b h).resolve_right (fun h1=>nomatch h1);omega))
def Btw (P:Program)(M:Option Gen)(B:Nat)(N:Nat->Prop)(X0 X:Cx)(n:Nat)(A:St->Prop)(s:Frn)(W:World):Prop:=
 ∃U' Y,Y.w=W/\ RelB M N X0 Y/\ Inv (ITP P) U' Y/\ FrM M U' Y/\ Cov M s Y/\ Y.κ.length=n/\ A U'/\ Sub X Y/\ X.w.heap.size<=Y.w.heap.size/\ ∀(k:Nat) o,B<=k->X.w.heap[k]? =some o->o.isCells=false->Y.w.heap[k]? =some o
theorem Btw.moved {B Bm:Nat} {A:St->Prop} {s:Frn} {W:World} (hG:zuc P B M)(hBX:B<=X0.w.heap.size) {NB:Nat->Prop} (hN: ∀k,N k->X0.w.heap.size<=k \/(M=none/\ NB k))(hN2: ∀k,N k-> ∀o,X.w.heap[k]? =some o->o.isCells=true)(h0:X0.w.heap.size<=X.w.heap.size)(hBm:X.w.heap.size<=Bm)(h:Btw P M B NB X0 X n A s W)(hm:Moved Bm N s W W'):Btw P M B NB X0 X n A s W':=by
 obtain⟨U',Y,rfl,h1,h2,h3,h4,h5,h6,h7,h8,h9⟩:=h;obtain⟨k1,k2,k3,k4,k5⟩:=zlg hG hBX hN h1 h2 h3 h4 (le_trans h0 hBm) hm;refine⟨U',_,rfl,k1,k2,k3,k4,h5,h6,h7.trans k5,le_trans h8 hm.size,fun k o hB hk hc=> ?_⟩;have hlt:=(Array.getElem?_eq_some_iff.1 hk).1;exact(hm.low k (by omega) (fun h=>by rw[hN2 k h o hk] at hc;cases hc)).trans (h9 k o hB hk hc)
theorem kept_of {s:Frn} {U2:St} {Bi:Nat} (hI:Inv (ITP P) U' Y)(hM:FrM M U' Y)(hc:Cov M s Y)(hE:ExtC Bi N {Y with F:=fun b o=>Y.F b o \/F1 b o} Z)(hIZ:Inv (ITP P) U2 Z)(hMZ:FrM M U2 Z)
 (hnon: ∀(k:Nat) o,(Bi<=k \/N k)->Y.w.heap[k]? =some o->o.isCells=false->Z.w.heap[k]? =some o):Kept Bi N s (zsb M Z) F1 Y.w Z.w where
 os:=hE.os
 tape:=hE.tape
 output:=hE.output
 size:=hE.size
 drawn:=hE.drawn
 own:=fun k o hB hO hk=>by
  cases o with
  |cells cs t f=>exact hE.frame k cs t f hk hB (fun h=>hO ((hc.1 k).2 (.inl h))) (fun r hr e=>hO ((hc.1 k).2 (.inr (.inl ⟨r,hr,e⟩)))) (fun h=>hO ((hc.1 k).2 (.inr (.inr h))))
  |_=>exact hnon k _ hB hk rfl
 cell:=fun b o hf=>hE.cell b o (.inr hf)
 szs:=hE.szs
 O :=fun b hb=>by
  refine⟨?_,(zkw M Z).cells hIZ b hb⟩;rcases hb with h|⟨r,hr,rfl⟩|h
  ·exact(hE.κnew b h).imp (fun h=>(hc.1 b).2 (.inl h)) id
  ·rcases hE.βnew r hr with⟨q,hq,e⟩|h
   ·exact .inl ((hc.1 _).2 (.inr (.inl ⟨q,hq,e⟩)))
   ·exact .inr h
  ·exact(hE.Onew b h).imp (fun h=>(hc.1 b).2 (.inr (.inr h))) id
 Cmono:=fun b o h=>by
  rcases(hc.2 b o).1 h with h|h
  ·exact .inl (hE.F b o (.inl h))
  ·cases M with
   |none=>exact h.elim
   |some G=>exact .inr (hE.Cmono b o h)
 C := fun b o h=>by
  have hF: ∀b o,(Y.F b o \/F1 b o)->s.C b o \/F1 b o \/s.O b \/Y.w.heap.size<=b:=fun b o h=>h.elim (fun h=> .inl ((hc.2 b o).2 (.inl h))) (fun h=> .inr (.inl h));rcases h with h|h
  ·refine⟨?_,hIZ.Flt h⟩;rcases hE.Fnew b o h with h|h|⟨q,hq,e⟩|h
   ·exact hF b o h
   ·exact .inr (.inr (.inr h))
   ·exact .inr (.inr (.inl ((hc.1 b).2 (.inr (.inl ⟨q,hq,e⟩)))))
   ·exact .inr (.inr (.inl ((hc.1 b).2 (.inl h))))
  ·cases M with
   |none=>exact h.elim
   | some G=>
    refine⟨?_,?_⟩
    ·rcases hE.Cnew b o h with h|h|h|h|⟨q,hq,e⟩|h
     ·exact .inl ((hc.2 b o).2 (.inr h))
     ·exact hF b o h
     ·exact .inr (.inr (.inl ((hc.1 b).2 (.inr (.inr h)))))
     ·exact .inr (.inr (.inr h))
     ·exact .inr (.inr (.inl ((hc.1 b).2 (.inr (.inl ⟨q,hq,e⟩)))))
     ·exact .inr (.inr (.inl ((hc.1 b).2 (.inl h))))
    ·obtain⟨so,f1,f2,_⟩:Fr G U2 Z:=hMZ;rcases f2.2 b o ((f2.1 b o).2 h) with h|⟨h,_⟩
     ·exact hIZ.Flt h
     ·exact h
theorem qaq {ps:Array Tmp} {asg body:Code} (iha:zsg P asg)(ihb:zsg P body)(hna:zcj asg=true) {M:Option Gen} {B:Nat} (hG:zuc P B M) {F:Fence} {X0 X:Cx} {S:List AV} {U:St} {a:Act} (hBX:B<=X0.w.heap.size)(hn:Now (ITP P) M F B X0 S U X a) {N:Nat->Prop} (hN: ∀k,N k->X0.w.heap.size<=k \/M=none)(hNc: ∀k,N k-> ∃cs t f,X.w.heap[k]? =some (Obj.cells cs t f)) {Q:AQ} {xs:List (List AV)}
 (hxs:(xs.all fun x=>decide (x.length=ps.size))=true) {F0:Nat->Nat->Prop} (hF0: ∀b o,F0 b o->X.F b o) {l Bi d:Nat} {fn:FuncId} (hl1:X.w.heap.size<=l) (hl2:l<Bi)
 (rec:LoopState->Option Code->Loop) (hrec:rec=fun st pe=>{state:=st,pending:=pe,fn,tmps:=a.tmps,params:=ps,assign:=asg,body,defers:=d})
 {k:Nat} {s:Frn} {W:World} {row:List AV} {us:List Value} {F1:Nat->Nat->Prop} (hrow:xs[k]? =some row) (hb:Btw P M B N X0 X X.κ.length (zfn (fun k=>awp (ITP P) P (zdu M) k asg) (fun k=>awp (ITP P) P (zdu M) k body) ps S Q X.κ.length (xs.drop k)) s W)
 (hl:W.heap[l]? =some (.loop (rec .ready none))) (hF1: ∀b o,F1 b o->F0 b o \/Bi<=b \/N b) (hF2: ∀b o,F1 b o->(¬s.O b \/s.C b o)/\ ∃v,W.cell? ⟨b,o,none⟩=some v) (hus:zbf noIT ⟨F1,[],[],[],W,fun _=>False,fun _ _=>False⟩ row us):
 Fwd.Yields P l us.toArray W fun e W'=>(∀(D:Nat) o,X.w.heap.size<=D->D≠l->W.heap[D]? =some o->o.isCells=false->W'.heap[D]? =some o)/\ ∃s',Kept Bi N s s' F1 W W'/\
  ((e= .returned (.bool true)/\ Btw P M B N X0 X X.κ.length (zfn (fun k=>awp (ITP P) P (zdu M) k asg) (fun k=>awp (ITP P) P (zdu M) k body) ps S Q X.κ.length (xs.drop (k+1))) s' W'/\ W'.heap[l]? =some (.loop (rec .ready none))) \/
   (e= .returned (.bool false)/\ ∃c e',Btw P M B N X0 X X.κ.length (Q e' S) s' W'/\ ((c= .ret/\ e'= .ret) \/ ∃id,c= .exit id/\ e'= .exit id)/\ W'.heap[l]? =some (.loop (rec .done (some c))))):=by
 have hIT:=ze P;obtain⟨U',Y,rfl,h1,h2,h3,h4,h5,h6,h7,h8,h9⟩:=hb;have h0X:X0.w.heap.size<=X.w.heap.size:=hn.ext.size;have hNG: ∀k,N k-> ∀G,M=some G->G.B<=k:=fun k h G e=>le_trans (z4e hG G e) (le_trans hBX ((hN k h).resolve_right (fun h1=>by rw[e] at h1;cases h1)));have hklt:k<xs.length:=(List.getElem?_eq_some_iff.1 hrow).1;have hxk:xs[k]=row:=(List.getElem?_eq_some_iff.1 hrow).2;rw[List.drop_eq_getElem_cons hklt,hxk] at h6;simp only[zfn] at h6;have hBi:X.w.heap.size<=Bi:=by omega
 have hYs:X.w.heap.size<=Y.w.heap.size:=h8;have hXB:B<=X.w.heap.size:=hn.marks.1;have hGB: ∀G,M=some G->G.B<=Bi:=fun G e=>by have:=z4e hG G e;omega
 obtain⟨w1,w2,w3,w4⟩:=qcr hBX hN hG h1 h2 h3 h4 (fun b o h=>h7.F b o (hF0 b o h)) (le_trans h0X hBi) hF1 hF2;obtain⟨Y1,hY1⟩: ∃Y1:Cx,Y1={Y with F:=fun b o=>Y.F b o \/F1 b o}:=⟨_,rfl⟩;rw[<-hY1] at w1 w2 w3 w4;have hY1w:Y1.w=Y.w:=by rw[hY1]
 have hY1κ:Y1.κ=Y.κ:=by rw[hY1]
 have hrow1:zbf (ITP P) Y1 row us:=zvb (X:=⟨F1,[],[],[],Y.w,fun _=>False,fun _ _=>False⟩) (Y:=Y1) (fun b o h=>by rw[hY1];exact .inr h) hY1w rfl rfl row us hus;have hrs:row.length=ps.size:=by
  have:=all_eq_true.1 hxs row (mem_of_getElem? hrow);simpa using this
 have husl:us.length=ps.size:=by rw[<-zq hus];exact hrs
 have hreps:znc (ITP P) Y1 S a.tmps:=zbu hIT w4 _ _ (zbu hIT h7 _ _ hn.reps)
 -- the predicates of the round
 let NC:Cx->Prop:=fun Z=> ∀(k:Nat) o,B<=k->k<X.w.heap.size->Y1.w.heap[k]? =some o->o.isCells=false->Z.w.heap[k]? =some o
 have ncT: ∀ {Z:Cx} {W':World},NC Z->Turn X.w.heap.size Z.w W'->NC {Z with w:=W'}:=fun h ht k o h1 h2 h3 h4=>ht.same k o (h k o h1 h2 h3 h4) (.inl h2);have ncE: ∀ {U2:St} {Z Z2:Cx},NC Z->Rel M Z Z2->Inv (ITP P) U2 Z->NC Z2:=fun h r1 r2 k o h1 h2 h3 h4=>r1.noncells r2 (fun G e=>le_trans (z4e hG G e) h1) (h k o h1 h2 h3 h4) h4;have nc1:NC Y1:=fun k o _ _ h _=>h;let Aft:World->Prop:=fun W'=> ∃U2 Z,Z.w=W'/\ RelB M N X0 Z/\ Inv (ITP P) U2 Z/\ FrM M U2 Z/\ ExtC Bi N Y1 Z/\ NC Z/\ Z.κ.length=X.κ.length/\ zfn (fun k=>awp (ITP P) P (zdu M) k asg) (fun k=>awp (ITP P) P (zdu M) k body) ps S Q X.κ.length (xs.drop (k+1)) U2
 let AftX:Code->World->Prop:=fun c W'=> ∃e' U2 Z,Z.w=W'/\ RelB M N X0 Z/\ Inv (ITP P) U2 Z/\ FrM M U2 Z/\ ExtC Bi N Y1 Z/\ NC Z/\ Z.κ.length=X.κ.length/\ Q e' S U2/\ ((c= .ret/\ e'= .ret) \/ ∃id,c= .exit id/\ e'= .exit id)
 let A:Unit->Act->World->Prop:=fun _ a' W'=> ∃U2 S2 Z,Z.w=W'/\ RelB M N X0 Z/\ Inv (ITP P) U2 Z/\ FrM M U2 Z/\ ExtC Bi N Y1 Z/\ NC Z/\ znc (ITP P) Z S2 a'.tmps/\ a'.defers=[]/\
  awp (ITP P) P (zdu M) U2.boxes.length body (qpj Q S X.κ.length (zfn (fun k=>awp (ITP P) P (zdu M) k asg) (fun k=>awp (ITP P) P (zdu M) k body) ps S Q X.κ.length (xs.drop (k+1)))) S2 U2
 have turn: ∀ {U2:St} {Z:Cx} {W':World},RelB M N X0 Z->Inv (ITP P) U2 Z->FrM M U2 Z->ExtC Bi N Y1 Z->Turn X.w.heap.size Z.w W'->RelB M N X0 {Z with w:=W'}/\ Inv (ITP P) U2 {Z with w:=W'}/\ FrM M U2 {Z with w:=W'}/\ ExtC Bi N Y1 {Z with w:=W'}/\ Sub Z {Z with w:=W'}:=fun r1 r2 r3 r4 ht=>by
  obtain⟨k1,k2,k3,_,k5⟩:=zlg (N:=fun _=>False) (Bm:=X.w.heap.size) hG hBX (fun _ h=>h.elim) r1 r2 r3 (zkw M _) h0X (zjt r2 (zkw M _) (by have:=r4.size;rw[hY1w] at this;omega) ht);exact⟨k1,k2,k3,r4.turn r2 ht,k5⟩
 have hI:Stable X.w.heap.size (fun(pre:List Unit) W'=>pre=[] \/Aft W'):=by
  rintro pre V V' (h|⟨U2,Z,rfl,r1,r2,r3,r4,r0,r5,r6⟩) ht
  ·exact .inl h
  ·obtain⟨k1,k2,k3,k4,_⟩:=turn r1 r2 r3 r4 ht;exact .inr ⟨U2,_,rfl,k1,k2,k3,k4,ncT r0 ht,r5,r6⟩
 have hIx: ∀c,Stable X.w.heap.size (fun(_:List Unit) W'=>AftX c W'):=by
  rintro c pre V V' ⟨e',U2,Z,rfl,r1,r2,r3,r4,r0,r5,r6⟩ ht;obtain⟨k1,k2,k3,k4,_⟩:=turn r1 r2 r3 r4 ht;exact⟨e',U2,_,rfl,k1,k2,k3,k4,ncT r0 ht,r5,r6⟩
 have hA: ∀x a',Stable X.w.heap.size (fun(_:Unit) W'=>A x a' W'):=by
  rintro x a' _ V V' ⟨U2,S2,Z,rfl,r1,r2,r3,r4,r0,r5,r6⟩ ht;obtain⟨k1,k2,k3,k4,k5⟩:=turn r1 r2 r3 r4 ht;exact⟨U2,S2,_,rfl,k1,k2,k3,k4,ncT r0 ht,zbu hIT k5 _ _ r5,r6⟩
 have noncells: ∀ {U2:St} {Z Z2:Cx},Rel M Z Z2->Inv (ITP P) U2 Z->KeepsFrom X.w.heap.size Z.w Z2.w:=fun r1 r2=>⟨r1.size,fun k o hk h1 h2=>r1.noncells r2 (fun G e=>by have:=z4e hG G e;omega) h1 h2⟩
 have key:=zwp (P:=P) (B:=X.w.heap.size) (l:=l) rec hrec hl1 (encs:=fun _:Unit=>us.toArray) (Kp:=fun _ _=>True) (fun _=>by simpa using husl) (fun _ _ _ _ _=>trivial) (fun _ _ _ _=>trivial)
  (I:=fun(pre:List Unit) W'=>pre=[] \/Aft W') (Ix:=fun c _ W'=>AftX c W') (A:=A) hI hIx hA (pre:=[]) (x:=()) hl ?assign ?body
 case assign=>
  intro Kk hKk;have hnow:Now (ITP P) M (Fence.wide.inRound l) B Y1 (zkc S ps row) U' Y1 {tmps:=(ps.zip us.toArray).foldl (fun t (p,v)=>t.setIfInBounds p v) a.tmps,defers:=[]}:=by
   refine⟨Rel.of (Ext.refl Y1),w2,?_,⟨by rw[hY1w];omega,fun e=>absurd e (zmm l),fun _=>rfl⟩,w3⟩;have:=z2j ps.toList row us S a.tmps hrow1 hreps;simp only[zkc];have e:(ps.zip us.toArray).foldl (fun t (x:Nat×Value)=>match x with|(p,v)=>t.setIfInBounds p v) a.tmps=(ps.toList.zip us).foldl (fun t p=>t.setIfInBounds p.1 p.2) a.tmps:=by
    rw[<-Array.foldl_toList,Array.toList_zip]
   rw[e];exact this
  rw[<-hY1w];refine iha hG (zoe P l) X.κ.length _ _ _ Y1 Y1 _ _ (by rw[hY1κ,h5];exact le_refl _) ⟨by rw[hY1w];omega,U',w2⟩ h6 hnow (.inr hna) ?_;intro e S1 U1 Z a1 hq hn1;cases e with
  |normal=>exact hKk a1 Z.w (by rw[<-hY1w];exact noncells hn1.ext w2) trivial (.inl rfl) ⟨U1,S1,Z,rfl,w1.trans hn1.ext,hn1.inv,hn1.frn,hn1.ext.toC hGB hNG,ncE nc1 hn1.ext w2,hn1.reps,hn1.marks.2.2 (zmm l),hq⟩
  |exit id=>exact hq.elim
  |ret=>exact hq.elim
 case body=>
  rintro a' V ⟨r,hr,_⟩ _ ⟨U2,S2,Z,rfl,r1,r2,r3,r4,r0,r5,r6,r7⟩;have hnow:Now (ITP P) M (Fence.wide.inRound l) B Z S2 U2 Z a':=⟨Rel.of (Ext.refl Z),r2,r5,⟨by have:=r1.size;omega,fun e=>absurd e (zmm l),fun _=>r6⟩,r3⟩;refine ihb hG (zoe P l) U2.boxes.length _ _ _ Z Z _ _ (Nat.le_of_eq r2.κlen) ⟨le_trans hBX r1.size,U2,r2⟩ r7 hnow (.inl (.inr ⟨l,r,rfl,by omega,hr⟩)) ?_;intro e S3 U3 Z3 a3 hq hn3;have hrel:RelB M N X0 Z3:=r1.trans hn3.ext;have hkf:=noncells hn3.ext r2;have hsub:X.κ.length<=Z3.κ.length:=by have:=z6f hn3.ext.sub;have:=z6f r4.toSub;rw[hY1κ,h5] at this;omega
  have mk:z0t X.κ.length U3=true->RelB M N X0 {Z3 with κ:=Z3.κ.take X.κ.length}/\ Inv (ITP P) (zfb X.κ.length U3) {Z3 with κ:=Z3.κ.take X.κ.length}/\ FrM M (zfb X.κ.length U3) {Z3 with κ:=Z3.κ.take X.κ.length}/\ ExtC Bi N Y1 {Z3 with κ:=Z3.κ.take X.κ.length}/\ NC {Z3 with κ:=Z3.κ.take X.κ.length}/\ (Z3.κ.take X.κ.length).length=X.κ.length:=fun hok=>by
   exact⟨qgb hrel (z6f hn.ext.sub),z9z hIT hn3.inv hok,z7s hn3.frn,(r4.trans (hn3.ext.toC hGB hNG)).trim (by rw[hY1κ,h5];exact le_refl _),fun k o q1 q2 q3 q4=>ncE r0 hn3.ext r2 k o q1 q2 q3 q4,by simp;omega⟩
  cases e with
  | normal=>
   obtain⟨q1,q2⟩:=hq;obtain⟨m1,m2,m3,m4,m0,m5⟩:=mk q1;exact⟨hkf,trivial,.inr ⟨_,{Z3 with κ:=Z3.κ.take X.κ.length},rfl,m1,m2,m3,m4,m0,m5,q2⟩⟩
  | exit id=>
   obtain⟨q1,q2⟩:=hq;obtain⟨m1,m2,m3,m4,m0,m5⟩:=mk q1;exact⟨hkf,_,_,{Z3 with κ:=Z3.κ.take X.κ.length},rfl,m1,m2,m3,m4,m0,m5,q2,.inr ⟨id,rfl,rfl⟩⟩
  | ret=>
   obtain⟨q1,q2⟩:=hq;obtain⟨m1,m2,m3,m4,m0,m5⟩:=mk q1;exact⟨hkf,_,_,{Z3 with κ:=Z3.κ.take X.κ.length},rfl,m1,m2,m3,m4,m0,m5,q2,.inl ⟨rfl,rfl⟩⟩
 refine key.mono ?_;rintro e W' ⟨hk1,hk2,hk3⟩;have hNY: ∀k,N k-> ∀o,Y.w.heap[k]? =some o->o.isCells=true:=fun k hk o ho=>by
  obtain⟨cs,t,f,hc⟩:=hNc k hk;obtain⟨cs',t',f',hc',_⟩:=h7.szs k cs t f hc;rw[hc'] at ho;cases ho;rfl
 have hkept: ∀ {U2:St} {Z:Cx},Z.w=W'->ExtC Bi N Y1 Z->Inv (ITP P) U2 Z->FrM M U2 Z->Kept Bi N s (zsb M Z) F1 Y.w W':=fun hw r1 r2 r3=>by
  subst hw;refine kept_of h2 h3 h4 (by rw[hY1] at r1;exact r1) r2 r3 fun j o hj hjo hnc=> ?_;rcases hj with hj|hj
  ·exact hk1.same j o (by omega) hjo hnc
  ·rw[hNY j hj o hjo] at hnc;cases hnc
 have fin: ∀ {Z:Cx},ExtC Bi N Y1 Z->NC Z->Sub X Z/\ X.w.heap.size<=Z.w.heap.size/\ ∀(k:Nat) o,B<=k->X.w.heap[k]? =some o->o.isCells=false->Z.w.heap[k]? =some o:=fun r1 r2=>
  ⟨(h7.trans w4).trans r1.toSub,by have:=r1.size;rw[hY1w] at this;omega,fun k o q1 q2 q3=>r2 k o q1 (Array.getElem?_eq_some_iff.1 q2).1 (by rw[hY1w];exact h9 k o q1 q2 q3) q3⟩
 refine⟨fun D o hD hne hDo hnc=>hk2 D o hD hne hDo hnc,?_⟩;rcases hk3 with⟨rfl,⟨(h|⟨U2,Z,hw,r1,r2,r3,r4,r0,r5,r6⟩),hrd⟩,_⟩|⟨rfl,c,⟨e',U2,Z,hw,r1,r2,r3,r4,r0,r5,r6,r7⟩,hrd⟩
 ·simp at h
 ·exact⟨zsb M Z,hkept hw r4 r2 r3,.inl ⟨rfl,⟨U2,Z,hw,r1,r2,r3,zkw M Z,r5,r6,fin r4 r0⟩,hrd⟩⟩
 ·exact⟨zsb M Z,hkept hw r4 r2 r3,.inr ⟨rfl,c,e',⟨U2,Z,hw,r1,r2,r3,zkw M Z,r5,r6,fin r4 r0⟩,r7,hrd⟩⟩
theorem Rel.κnew (h:Rel M X Y): ∀b∈Y.κ,b∈X.κ \/X.w.heap.size<=b:=by cases M with|none=>exact Ext.κnew h|some G=>exact ExtG.κnew h
theorem z2c {f:Operand} {ps:Array Tmp} {asg body:Code} (iha:zsg P asg)(ihb:zsg P body) {M:Option Gen} {F:Fence} {nn B:Nat} (hG:zuc P B M) {Q:AQ} {S:List AV} {U:St} {X0 X:Cx} {a:Act} {K:Exit->Act->World->Prop} {xs:List (List AV)} {N:Nat->Prop}
 (hBX:B<=X0.w.heap.size) (hN: ∀k,N k->X0.w.heap.size<=k \/M=none) (hNc: ∀k,N k-> ∃cs t f,X.w.heap[k]? =some (Obj.cells cs t f)) (hNO: ∀k,N k-> ¬(zsb M X).O k/\ ∀o,¬(zsb M X).C k o)
 (hxs:(xs.all fun x=>decide (x.length=ps.size))=true) (hna:zcj asg=true) (h:zfn (fun k=>awp (ITP P) P (zdu M) k asg) (fun k=>awp (ITP P) P (zdu M) k body) ps S Q X.κ.length xs U) (hn:Now (ITP P) M F B X0 S U X a) (hfe:FenceAt B F X.w)
 {g:Nat} {lb:Array Value} {F0:Nat->Nat->Prop} (hg:a.eval f= .func (.func g) #[] lb) (hent:Ent P g) (hF0: ∀b o,F0 b o->X.F b o) {RR:Frn->World->Prop} (hRR: ∀s V V',RR s V->Turn X.w.heap.size V V'->RR s V') (hit:IterR P g lb xs N F0 X.w RR)
 (hK: ∀(e:AExit) (U':St) (Y:Cx) (s:Frn) (a':Act),Q e S U'->(e= .normal->RR s Y.w)->a'.tmps=a.tmps->RelB M N X0 Y->Inv (ITP P) U' Y->FrM M U' Y->Cov M s Y->Y.κ.length=X.κ.length->Sub X Y->znc (ITP P) Y S a'.tmps->DM F B a'.defers Y.w->K e.to a' Y.w):(Code.rangeFunc f ps asg body).wpIn F nn P K a X.w:=by
 have hIT:=ze P;have hXB:B<=X.w.heap.size:=hn.marks.1;have h0X:X0.w.heap.size<=X.w.heap.size:=hn.ext.size;have hNc': ∀k,N k-> ∀o,X.w.heap[k]? =some o->o.isCells=true:=fun k hk o ho=>by
  obtain⟨cs,t,f,hc⟩:=hNc k hk;rw[hc] at ho;cases ho;rfl
 have hN1: ∀k,N k->X0.w.heap.size<=k \/(M=none/\ N k):=fun k hk=>(hN k hk).imp id fun h=>⟨h,hk⟩
 -- from the record on
 have main: ∀(l d:Nat) (fn:FuncId) (W1:World) (rec:LoopState->Option Code->Loop),rec=(fun st pe=>{state:=st,pending:=pe,fn,tmps:=a.tmps,params:=ps,assign:=asg,body,defers:=d})->X.w.heap.size<=l->l<W1.heap.size->
  Ex X.w.heap.size X.w W1->W1.heap[l]? =some (.loop (rec .ready none))-> ∀(R:World->Prop),(∀V V',R V->(∀(D:Nat) o,X.w.heap.size<=D->D≠l->V.heap[D]? =some o->D<W1.heap.size->o.isCells=false->V'.heap[D]? =some o)->R V')->R W1->
  Calls P g (#[.func (.yield l) #[] #[]]++lb) W1 fun e W'=>(∃v,e= .returned v)/\ R W'/\ ∃s,
   ((Btw P M B N X0 X X.κ.length (Q .normal S) s W'/\ RR s W'/\ W'.heap[l]? =some (.loop (rec .ready none))) \/
    (∃c e',Btw P M B N X0 X X.κ.length (Q e' S) s W'/\ ((c= .ret/\ e'= .ret) \/ ∃id,c= .exit id/\ e'= .exit id)/\ W'.heap[l]? =some (.loop (rec .done (some c))))):=by
  intro l d fn W1 rec hrec hl1 hl2 hEx hL R hR hR1;have hmv0:Moved X.w.heap.size (fun _=>False) (zsb M X) X.w W1:=zjt hn.inv (zkw M X) (le_refl _) (Turn.of_ex _ hEx)
  have hb0:Btw P M B N X0 X X.κ.length (zfn (fun k=>awp (ITP P) P (zdu M) k asg) (fun k=>awp (ITP P) P (zdu M) k body) ps S Q X.κ.length (xs.drop 0)) (zsb M X) W1:=
   Btw.moved hG hBX (fun _ h=>h.elim) (fun _ h=>h.elim) h0X (le_refl _) ⟨U,X,rfl,RelB.of hn.ext,hn.inv,hn.frn,zkw M X,rfl,by simpa using h,Ext.toSub (Ext.refl X),le_refl _,fun _ _ _ h _=>h⟩ hmv0
  have hrec0: ∀(V V':World) (st:LoopState) (pe:Option Code) (s:Frn),V.heap[l]? =some (.loop (rec st pe))->Moved W1.heap.size N s V V'->V'.heap[l]? =some (.loop (rec st pe)):=fun V V' st pe s h1 h2=>(h2.low l hl2 fun hN'=>by obtain⟨_,_,_,hc⟩:=hNc l hN';have:=(Array.getElem?_eq_some_iff.1 hc).1;omega).trans h1;have hR0: ∀(V V':World) (s:Frn),R V->Moved W1.heap.size N s V V'->R V':=fun V V' s h1 h2=>hR V V' h1 fun D o hXD _ hD hlt _=>(h2.low D hlt fun hN'=>by obtain⟨_,_,_,hc⟩:=hNc D hN';have:=(Array.getElem?_eq_some_iff.1 hc).1;omega).trans hD
  refine(hit l W1
   (fun k s V=>(Btw P M B N X0 X X.κ.length (zfn (fun k=>awp (ITP P) P (zdu M) k asg) (fun k=>awp (ITP P) P (zdu M) k body) ps S Q X.κ.length (xs.drop k)) s V/\ V.heap[l]? =some (.loop (rec .ready none)))/\ R V)
   (fun s V=>(∃c e',Btw P M B N X0 X X.κ.length (Q e' S) s V/\ ((c= .ret/\ e'= .ret) \/ ∃id,c= .exit id/\ e'= .exit id)/\ V.heap[l]? =some (.loop (rec .done (some c))))/\ R V)
   (zsb M X) ?_ (Szs.old fun k hk=>hEx.block k hk) hEx.size (fun k hk=>⟨hEx.block k (by obtain⟨_,_,_,hc⟩:=hNc k hk;exact(Array.getElem?_eq_some_iff.1 hc).1),hNO k hk⟩) ⟨?_,?_,?_⟩ ?_ ?_ ?_ ⟨⟨hb0,hL⟩,hR1⟩).mono ?_
  ·intro b o hf0;obtain⟨v,hv⟩:=hn.inv.Fcell b o (hF0 b o hf0);have:=World.cell?_of_block (a:=⟨b,o,none⟩) (hEx.block b (hn.inv.Flt (hF0 b o hf0)));exact⟨⟨v,this.trans hv⟩,this⟩
  ·rintro k s V V' ⟨⟨hb,hr⟩,hr2⟩ _ hm;exact⟨⟨hb.moved hG hBX hN1 hNc' h0X hEx.size hm,hrec0 _ _ _ _ _ hr hm⟩,hR0 _ _ _ hr2 hm⟩
  ·rintro s V V' ⟨⟨c,e',hb,hc,hr⟩,hr2⟩ _ hm;exact⟨⟨c,e',hb.moved hG hBX hN1 hNc' h0X hEx.size hm,hc,hrec0 _ _ _ _ _ hr hm⟩,hR0 _ _ _ hr2 hm⟩
  ·rintro k s V row us F1 hrow ⟨⟨hb,hr⟩,hr2⟩ hV hF1 hF2 hus;refine(qaq iha ihb hna hG hBX hn hN hNc hxs hF0 hl1 hl2 rec hrec hrow hb hr hF1 hF2 hus).mono ?_;rintro e V' ⟨hkeep,s',hkept,hres⟩;have hRV:R V':=hR V V' hr2 fun D o hD hne hDo _ hnc=>hkeep D o hD hne hDo hnc;refine⟨s',hkept,?_⟩;rcases hres with⟨rfl,h1,h2⟩|⟨rfl,c,e',h1,h2,h3⟩
   ·exact .inl ⟨rfl,⟨h1,h2⟩,hRV⟩
   ·exact .inr ⟨rfl,⟨c,e',h1,h2,h3⟩,hRV⟩
  ·exact fun b o hf0=> .inr (.inl (hF0 b o hf0))
  ·intro b ho;obtain⟨cs,t,f',hc⟩:=(zkw M X).cells hn.inv b ho;exact⟨cs,t,f',(hEx.block b (Array.getElem?_eq_some_iff.1 hc).1).trans hc⟩
  ·intro b o hc;rcases hc with h|h
   ·exact Nat.lt_of_lt_of_le (hn.inv.Flt h) hEx.size
   ·cases M with
    |none=>exact h.elim
    | some G=>
     obtain⟨so,f1,f2,_⟩:Fr G U X:=hn.frn;rcases f2.2 b o ((f2.1 b o).2 h) with h|⟨h,_⟩
     ·exact Nat.lt_of_lt_of_le (hn.inv.Flt h) hEx.size
     ·exact Nat.lt_of_lt_of_le h hEx.size
  ·rintro e W' ⟨hv,s,(⟨⟨⟨hb,hr⟩,hr2⟩,hrr⟩|⟨hx,hr2⟩)⟩
   ·refine⟨hv,hr2,s,.inl ⟨?_,hrr,hr⟩⟩;obtain⟨U',Y,r1,r2,r3,r4,r5,r6,r7,r8⟩:=hb;rw[List.drop_length] at r7;exact⟨U',Y,r1,r2,r3,r4,r5,r6,r7,r8⟩
   ·exact⟨hv,hr2,s,.inr hx⟩
 -- after the loop
 have fin: ∀(W2:World) (l:Nat) (st:LoopState) (rc:Loop) (s:Frn) (e:AExit) (ds:List Deferred),X.w.heap.size<=l->W2.heap[l]? =some (.loop rc)->Btw P M B N X0 X X.κ.length (Q e S) s W2->(e= .normal->RR s W2)->
  (∀Y:Cx,Y.w=W2.putObj l (.loop {rc with state:=st})->(X.w.heap.size<=Y.w.heap.size/\ ∀(k:Nat) o,B<=k->X.w.heap[k]? =some o->o.isCells=false->Y.w.heap[k]? =some o)->DM F B ds Y.w)->K e.to {a with defers:=ds} (W2.putObj l (.loop {rc with state:=st})):=by
  intro W2 l st rc s e ds hl hl2 hb hrr hds;have ht:Turn X.w.heap.size W2 (W2.putObj l (.loop {rc with state:=st})):=Turn.putObj _ hl hl2 rfl;obtain⟨U',Y,rfl,h1,h2,h3,h4,h5,h6,h7,h8,h9⟩:=hb;obtain⟨k1,k2,k3,k4,k5⟩:=zlg (N:=fun _=>False) (Bm:=X.w.heap.size) hG hBX (fun _ h=>h.elim) h1 h2 h3 h4 h0X (zjt h2 h4 h8 ht);exact hK e U' {Y with w:=Y.w.putObj l (.loop {rc with state:=st})} s _ h6 (fun he=>hRR s _ _ (hrr he) ht) rfl k1 k2 k3 k4 h5 (h7.trans k5) (zbu hIT (h7.trans k5) _ _ hn.reps) (hds _ rfl ⟨le_trans h8 (by simp[World.putObj]),fun k o q1 q2 q3=>ht.same k o (h9 k o q1 q2 q3) (.inl (Array.getElem?_eq_some_iff.1 q2).1)⟩)
 rcases hfe with rfl|⟨l0,r0,rfl,hB0,hr0⟩
 ·refine zmv (n:=1) rfl (wpIn_rangeFunc ?_);intro fn _;obtain⟨rec,hrec⟩: ∃rec:LoopState->Option Code->Loop,rec=fun st pe=>{state:=st,pending:=pe,fn,tmps:=a.tmps,params:=ps,assign:=asg,body,defers:=X.w.heap.size}:=⟨_,rfl⟩;have hrun:=run_enterLoop_outer (P:=P) (w:=X.w) fn a.tmps ps asg body;obtain⟨W1,hW1⟩: ∃W1,(X.w.alloc (.deferred (some []))).alloc (.loop (rec .ready none))=W1:=⟨_,rfl⟩;have hE:Ex X.w.heap.size X.w W1:=by rw[<-hW1];exact((Ex.refl _ _).alloc (le_refl _) _).alloc (by simp) _
  have hL:W1.heap[X.w.heap.size+1]? =some (.loop (rec .ready none)):=by
   rw[<-hW1];have:=World.alloc_heap_new (X.w.alloc (.deferred (some []))) (.loop (rec .ready none));rwa[World.size_alloc] at this
  have hD:W1.heap[X.w.heap.size]? =some (.deferred (some [])):=by
   rw[<-hW1];exact(Below.heap_alloc _ _ _ (by simp)).trans (World.alloc_heap_new X.w _)
  have hsz:W1.heap.size=X.w.heap.size+2:=by rw[<-hW1];simp
  have hrun':(Instr.enterLoop fn a.tmps ps asg body Fence.wide.round).run P X.w= .ok (X.w.heap.size+1,[{target:= .collected X.w.heap.size,args:= #[]}]) W1:=by
   rw[<-hW1,hrec];exact hrun
  clear hW1 hrun
  refine⟨X.w.heap.size+1,[{target:= .collected X.w.heap.size,args:= #[]}],W1,{target:= .fn (.func g) lb,args:= #[.func (.yield (X.w.heap.size+1)) #[] #[]]},W1,g,
   #[.func (.yield (X.w.heap.size+1)) #[] #[]]++lb,W1,hrun',?_,fun _ _=>trivial,?_,fun h=>by simp[Fence.wide] at h,callsIn_wide.2 ?_⟩
  ·simp only[resolve,hg];simp[go_sem]
  ·simp[invoke,go_sem,hent _ _]
  refine(main (X.w.heap.size+1) X.w.heap.size fn W1 rec hrec (by omega) (by omega) hE hL (fun V=>V.heap[X.w.heap.size]? =some (.deferred (some []))) (fun V V' h1 h2=>h2 _ _ (le_refl _) (by omega) h1 (by omega) rfl) hD).mono ?_;have hds: ∀(W2:World) (rc:Loop) (st:LoopState),W2.heap[X.w.heap.size]? =some (.deferred (some []))-> ∀Y:Cx,Y.w=W2.putObj (X.w.heap.size+1) (.loop {rc with state:=st})->(X.w.heap.size<=Y.w.heap.size/\ ∀(k:Nat) o,B<=k->X.w.heap[k]? =some o->o.isCells=false->Y.w.heap[k]? =some o)->DM Fence.wide B ({target:= .collected X.w.heap.size,args:= #[]}::a.defers) Y.w:=by
   intro W2 rc st hd Y hY hR;refine⟨le_trans hXB hR.1,fun _=> ?_,fun h=>absurd rfl h⟩;obtain⟨eb,Ds,e1,e2,e3⟩:=hn.marks.2.1 rfl;refine⟨le_trans eb hR.1,X.w.heap.size::Ds,by rw[e1];rfl,List.nodup_cons.2 ⟨fun hm=> ?_,e2⟩,fun D' h=> ?_⟩
   ·have:=(Array.getElem?_eq_some_iff.1 (e3 _ hm).2).1;omega
   ·rcases List.mem_cons.1 h with rfl|h
    ·exact⟨hXB,by rw[hY];exact(World.putObj_heap_other (by omega)).trans hd⟩
    ·exact⟨(e3 D' h).1,hR.2 D' _ (e3 D' h).1 (e3 D' h).2 rfl⟩
  rintro e W2 ⟨⟨v,rfl⟩,hd,s,(⟨hb,hrr,hl⟩|⟨c,e',hb,hc,hl⟩)⟩
  ·have hr:=run_endLoop (P:=P) hl (by rw[hrec];simp);exact⟨none,W2.putObj (X.w.heap.size+1) (.loop {rec .ready none with state:= .exhausted}),by rw[hrec] at hr⊢;exact hr,fin W2 _ .exhausted _ s .normal _ (by omega) hl hb (fun _=>hrr) (hds W2 _ _ hd)⟩
  ·have hr:=run_endLoop (P:=P) hl (by rw[hrec];simp);refine⟨some c,W2.putObj (X.w.heap.size+1) (.loop {rec .done (some c) with state:= .exhausted}),by rw[hrec] at hr⊢;exact hr,?_⟩;have hne:e'= .normal->RR s W2:=fun he=>by rcases hc with⟨_,h⟩|⟨_,_,h⟩<;>rw[h] at he<;>cases he
   have:=fin W2 _ .exhausted _ s e' _ (by omega) hl hb hne (hds W2 _ _ hd);rcases hc with⟨rfl,rfl⟩|⟨id,rfl,rfl⟩
   ·exact wpIn_ret this
   ·exact wpIn_exit this
 ·refine zmv (n:=1) rfl (wpIn_rangeFunc ?_);intro fn _;obtain⟨rec,hrec⟩: ∃rec:LoopState->Option Code->Loop,rec=fun st pe=>{state:=st,pending:=pe,fn,tmps:=a.tmps,params:=ps,assign:=asg,body,defers:=r0.defers}:=⟨_,rfl⟩;have hrun:=run_enterLoop_inner (P:=P) hr0 fn a.tmps ps asg body;obtain⟨W1,hW1⟩: ∃W1,X.w.alloc (.loop (rec .ready none))=W1:=⟨_,rfl⟩;have hE:Ex X.w.heap.size X.w W1:=by rw[<-hW1];exact(Ex.refl _ _).alloc (le_refl _) _
  have hL:W1.heap[X.w.heap.size]? =some (.loop (rec .ready none)):=by rw[<-hW1];exact World.alloc_heap_new _ _
  have hsz:W1.heap.size=X.w.heap.size+1:=by rw[<-hW1];simp
  have hrun':(Instr.enterLoop fn a.tmps ps asg body (Fence.wide.inRound l0).round).run P X.w= .ok (X.w.heap.size,[]) W1:=by
   rw[<-hW1,hrec];exact hrun
  clear hW1 hrun
  refine⟨X.w.heap.size,[],W1,{target:= .fn (.func g) lb,args:= #[.func (.yield X.w.heap.size) #[] #[]]},W1,g,
   #[.func (.yield X.w.heap.size) #[] #[]]++lb,W1,hrun',?_,fun _ _=>trivial,?_,fun h=>by simp[Fence.wide] at h,CallsIn.inRound l0 (callsIn_wide.2 ?_)⟩
  ·simp only[resolve,hg];simp[go_sem]
  ·simp[invoke,go_sem,hent _ _]
  refine(main X.w.heap.size r0.defers fn W1 rec hrec (by omega) (by omega) hE hL (fun V=>True) (fun V V' h1 h2=>trivial) trivial).mono ?_;have hds: ∀(W2:World) (rc:Loop) (st:LoopState),∀Y:Cx,Y.w=W2.putObj X.w.heap.size (.loop {rc with state:=st})->(X.w.heap.size<=Y.w.heap.size/\ ∀(k:Nat) o,B<=k->X.w.heap[k]? =some o->o.isCells=false->Y.w.heap[k]? =some o)->DM (Fence.wide.inRound l0) B a.defers Y.w:=by
   intro W2 rc st Y hY hR;exact⟨le_trans hXB hR.1,fun h=>absurd h (zmm l0),hn.marks.2.2⟩
  rintro e W2 ⟨⟨v,rfl⟩,_,s,(⟨hb,hrr,hl⟩|⟨c,e',hb,hc,hl⟩)⟩
  ·have hr:=run_endLoop (P:=P) hl (by rw[hrec];simp);exact⟨none,W2.putObj X.w.heap.size (.loop {rec .ready none with state:= .exhausted}),by rw[hrec] at hr⊢;exact hr,fin W2 _ .exhausted _ s .normal _ (by omega) hl hb (fun _=>hrr) (hds W2 _ _)⟩
  ·have hr:=run_endLoop (P:=P) hl (by rw[hrec];simp);refine⟨some c,W2.putObj X.w.heap.size (.loop {rec .done (some c) with state:= .exhausted}),by rw[hrec] at hr⊢;exact hr,?_⟩;have hne:e'= .normal->RR s W2:=fun he=>by rcases hc with⟨_,h⟩|⟨_,_,h⟩<;>rw[h] at he<;>cases he
   have:=fin W2 _ .exhausted _ s e' _ (by omega) hl hb hne (hds W2 _ _);rcases hc with⟨rfl,rfl⟩|⟨id,rfl,rfl⟩
   ·exact wpIn_ret this
   ·exact wpIn_exit this
theorem qcj {f:Operand} {ps:Array Tmp} {asg body:Code} (iha:zsg P asg)(ihb:zsg P body) {M:Option Gen} {F:Fence} {nn B:Nat} (hG:zuc P B M) {Q:AQ} {S:List AV} {U:St} {X0 X:Cx} {a:Act} {K:Exit->Act->World->Prop} {xs:List (List AV)} {N:Nat->Prop}
 (hBX:B<=X0.w.heap.size) (hN: ∀k,N k->X0.w.heap.size<=k) (hNc: ∀k,N k-> ∃cs t f,X.w.heap[k]? =some (Obj.cells cs t f)) (hNO: ∀k,N k-> ¬(zsb M X).O k/\ ∀o,¬(zsb M X).C k o)
 (hxs:(xs.all fun x=>decide (x.length=ps.size))=true) (hna:zcj asg=true) (h:zfn (fun k=>awp (ITP P) P (zdu M) k asg) (fun k=>awp (ITP P) P (zdu M) k body) ps S Q X.κ.length xs U) (hn:Now (ITP P) M F B X0 S U X a) (hfe:FenceAt B F X.w)
 {g:Nat} {lb:Array Value} {F0:Nat->Nat->Prop} (hg:a.eval f= .func (.func g) #[] lb) (hent:Ent P g) (hF0: ∀b o,F0 b o->X.F b o) (hit:IterX P g lb xs N F0 X.w) (hK: ∀e S U X a,Q e S U->Now (ITP P) M F B X0 S U X a->K e.to a X.w):(Code.rangeFunc f ps asg body).wpIn F nn P K a X.w:=
 z2c iha ihb hG hBX (fun k hk=> .inl (hN k hk)) hNc hNO hxs hna h hn hfe hg hent hF0 (fun _ _ _ _ _=>trivial) hit.toR fun e U' Y s a' hq _ _ h1 h2 h3 _ _ _ h4 h5=>hK e S U' Y a' hq ⟨h1.to hN,h2,h4,h5,h3⟩
theorem qas {κ0:List Nat} {bs':List (TypeId×List AV)} {n0 B:Nat} {s:Frn} {V V':World} (h:qfq P κ0 bs' n0 s V)(ht:Turn B V V'):qfq P κ0 bs' n0 s V':=by
 obtain⟨κ',l1,l2,l3,l4,l5⟩:=h;refine⟨κ',l1,l2,l3,l4,fun i b t cs h1 h2=> ?_⟩;obtain⟨⟨vs,zs,e1,e2,e3⟩,e4⟩:=l5 i b t cs h1 h2;refine⟨⟨vs,zs,ht.same b _ e1 (.inr rfl),?_,e3⟩,e4⟩;exact zbu (ze P) (X:=⟨fun _ _=>False,κ',[],[],V,fun _=>False,fun _ _=>False⟩) (X':=⟨fun _ _=>False,κ',[],[],V',fun _=>False,fun _ _=>False⟩) ⟨fun _ _ h=>h,fun _ _ h=>h.elim,fun _ _ h=>h,fun s L h=>by simp at h,fun i b hi cur t f h=>⟨cur,ht.same b _ h (.inr rfl),rfl⟩,fun k cs t f e=>⟨cs,t,f,ht.same k _ e (.inr rfl),rfl⟩⟩ _ _ e2
theorem qjw {f:Operand} {ps:Array Tmp} {asg body:Code} (iha:zsg P asg)(ihb:zsg P body) {F:Fence} {nn B:Nat} {Q:AQ} {S S':List AV} {U U1:St} {X0 X:Cx} {a:Act} {K:Exit->Act->World->Prop} {xs:List (List AV)} {js hs:List Nat} {m:Nat} {bs bs':List (TypeId×List AV)} {caps:List AV}
    (hxs:(xs.all fun x=>decide (x.length=ps.size))=true) (hna:zcj asg=true) {g:Nat} (hf:zbw S f= .clos g caps) (hH:Hand U js hs m bs U1) (hfg:Fg (zx U.lens.length (gz hs) S) S') (hit:qcf P g (zx 0 (bwz js) caps) bs xs bs') (hent:Ent P g) (hbk: ∀(i:Nat) (t:TypeId) (cs:List AV),bs[i]? =some (t,cs)-> ∃cs',bs'[i]? =some (t,cs'))
    (h:zfn (fun k=>awp (ITP P) P none k asg) (fun k=>awp (ITP P) P none k body) ps S' (qgh Q S js hs bs' U.boxes) U.boxes.length xs U1) (hn:Now (ITP P) none F B X0 S U X a) (hfe:FenceAt B F X.w)
    (hK: ∀e S U X a,Q e S U->Now (ITP P) none F B X0 S U X a->K e.to a X.w):(Code.rangeFunc f ps asg body).wpIn F nn P K a X.w:=by
  have hIT:=ze P;have hI:=hn.inv;have hXl:=hI.κlen;obtain⟨hnd,hj,hb,hjh,hdead,hm,tm,Cm,hbm,rfl⟩:=hH;have hjh: ∀j∈js,hs.contains j=true:=fun j hj=>all_eq_true.1 hjh j hj
  -- the boxes that are handed over
  have hjs: ∀i (hi:i<js.length),∃t C,U.boxes[js[i]]? =some (t,C)/\ (∃cs,bs[i]? =some (t,cs)/\ zx 0 (bwz js) C=cs)/\ C≠[]:=fun i hi=>by
    have hi2:i<bs.length:=by omega
    obtain⟨C,h1,h2,h3⟩:=hb i bs[i].1 bs[i].2 (getElem?_eq_getElem hi2);rw[show fwN js 0 i=js[i] by simp[fwN,hi]] at h1;exact⟨_,C,h1,⟨_,getElem?_eq_getElem hi2,h2⟩,h3⟩
  have hjlt: ∀i (hi:i<js.length),js[i]<X.κ.length:=fun i hi=>by
    obtain⟨t,C,h1,_⟩:=hjs i hi;rw[hXl];exact(List.getElem?_eq_some_iff.1 h1).1
  obtain⟨κ0,hκ0d⟩: ∃κ0:List Nat,κ0=js.map fun j=>X.κ.getD j 0:=⟨_,rfl⟩;have hκ0l:κ0.length=js.length:=by simp[hκ0d]
  have hκ0i: ∀i (hi:i<js.length) b,X.κ[js[i]]? =some b->κ0[i]? =some b:=fun i hi b hb=>by
    have:=hjlt i hi;rw[getElem?_eq_getElem this] at hb;simp only[hκ0d,List.getElem?_map,getElem?_eq_getElem hi,map_some,List.getD_eq_getElem?_getD,getElem?_eq_getElem this,getD_some];exact hb
  have hκ0: ∀i (hi:i<js.length) b,κ0[i]? =some b->X.κ[js[i]]? =some b:=fun i hi b hb=>by
    have:=hjlt i hi;have h2:=hκ0i i hi _ (getElem?_eq_getElem this);rw[hb] at h2;cases h2;exact getElem?_eq_getElem this
  have hκm: ∀b∈κ0,∃i,∃hi:i<js.length,κ0[i]? =some b/\ X.κ[js[i]]? =some b:=fun b hb=>by
    obtain⟨i,hi⟩:=List.mem_iff_getElem?.1 hb;have hl:i<js.length:=by rw[<-hκ0l];exact(List.getElem?_eq_some_iff.1 hi).1
    exact⟨i,hl,hi,hκ0 i hl b hi⟩
  have hκX: ∀b∈κ0,b∈X.κ:=fun b hb=>by obtain⟨_,_,_,h⟩:=hκm b hb;exact mem_of_getElem? h
  have hsame: ∀i j (hi:i<js.length) (hj2:j<js.length) b,κ0[i]? =some b->κ0[j]? =some b->i=j:=fun i j hi hj2 b h1 h2=>by
    apply Classical.byContradiction;intro hne;have hne2:js[i]≠js[j]:=fun e=>hne ((List.getElem_inj hnd).1 e);obtain⟨t1,C1,a1,_,c1⟩:=hjs i hi;obtain⟨t2,C2,a2,_,c2⟩:=hjs j hj2;rcases hI.κnd _ _ b (hκ0 i hi b h1) (hκ0 j hj2 b h2) hne2 with⟨t,h3⟩|⟨t,h3⟩
    . rw[a1] at h3;cases h3;exact c1 rfl
    . rw[a2] at h3;cases h3;exact c2 rfl
  have hκ0nd:κ0.Nodup:=by
    rw[List.nodup_iff_pairwise_ne,List.pairwise_iff_getElem];intro i j hi2 hjl hij e;have h1:κ0[i]? =some κ0[j]:=by rw[<-e];exact getElem?_eq_getElem hi2
    have:=hsame i j (by omega) (by omega) _ h1 (getElem?_eq_getElem hjl);omega
  -- a box of another number that says one of these blocks is empty
  have hother: ∀(s b:Nat),b∈κ0->X.κ[s]? =some b->hs.contains s=true:=fun s b hb h1=>by
    by_cases hsj:s∈js
    . exact hjh s hsj
    obtain⟨i,hi,e1,e2⟩:=hκm b hb;obtain⟨t1,C,a1,_,a4⟩:=hjs i hi;have hne:s≠js[i]:=fun e=>hsj (e▸List.getElem_mem hi);rcases hI.κnd s _ b h1 e2 hne with⟨t2,h4⟩|⟨t2,h4⟩
    . exact hdead s t2 h4
    . rw[a1] at h4;cases h4;exact absurd rfl a4
  -- the context of the loop
  obtain⟨dm,hdm⟩: ∃dm,X.κ[m]? =some dm:=⟨_,getElem?_eq_getElem (by rw[hXl];exact(List.getElem?_eq_some_iff.1 hbm).1)⟩;obtain⟨X1,hX1⟩: ∃X1:Cx,X1={X with κ:=X.κ.mapIdx fun i b=>if hs.contains i=true then dm else b}:=⟨_,rfl⟩;have x1w:X1.w=X.w:=by rw[hX1]
  have x1F:X1.F=X.F:=by rw[hX1]
  have x1β:X1.β=X.β:=by rw[hX1]
  have x1l:X1.lens=X.lens:=by rw[hX1]
  have x1O:X1.O=X.O:=by rw[hX1]
  have x1C:X1.C=X.C:=by rw[hX1]
  have x1κl:X1.κ.length=X.κ.length:=by rw[hX1];simp
  have x1n: ∀s,hs.contains s=false->X1.κ[s]? =X.κ[s]? :=fun s h=>by
    rw[hX1];simp only[List.getElem?_mapIdx,h];cases X.κ[s]? <;>rfl
  have x1h: ∀s b,hs.contains s=true->X1.κ[s]? =some b->b=dm:=fun s b h e=>by
    rw[hX1] at e;simp only[List.getElem?_mapIdx,h,if_true,Option.map_eq_some_iff] at e;obtain⟨_,_,e⟩:=e;exact e.symm
  have x1m: ∀b∈X1.κ,∃s,hs.contains s=false/\ X.κ[s]? =some b:=fun b hb=>by
    obtain⟨s,hs'⟩:=List.mem_iff_getElem?.1 hb;cases hc:hs.contains s with
    |false=>exact⟨s,hc,by rw[<-x1n s hc];exact hs'⟩
    |true=>have:=x1h s b hc hs';subst this;exact⟨m,hm,hdm⟩
  have x1κ: ∀b∈X1.κ,b∈X.κ:=fun b hb=>by obtain⟨s,_,h⟩:=x1m b hb;exact mem_of_getElem? h
  have hgz:(∀s off v,Rep (ITP P) X (.ptr s off) v->Rep (ITP P) X1 ((gz hs).1 s off) v)/\ ∀s off n sz f v,Rep (ITP P) X (.bsl s off n sz f) v->Rep (ITP P) X1 ((gz hs).2 s off n sz) v:=by
    refine⟨?_,?_⟩
    . rintro s off v ⟨b,hb,rfl⟩
      show Rep (ITP P) X1 (if hs.contains s then .top else .ptr s off) _
      cases hc:hs.contains s with
      |true=>rw[if_pos rfl,Rep];trivial
      |false=>rw[if_neg (by simp)];exact⟨b,by rw[x1n s hc];exact hb,rfl⟩
    . rintro s off n sz f v ⟨b,cap,cur,t,hb,rfl,hcap,hful,hrow,hfit⟩
      show Rep (ITP P) X1 (if hs.contains s then .top else .bsl s off n sz false) _
      cases hc:hs.contains s with
      |true=>rw[if_pos rfl,Rep];trivial
      |false=>rw[if_neg (by simp)];exact⟨b,cap,cur,t,by rw[x1n s hc];exact hb,rfl,hcap,(fun h=>by cases h),by rw[x1w];exact hrow,hfit⟩
  have hmL:=zdb (X:=X) (Y:=X1) (m:=U.lens.length) hIT (fun b o h=>by rw[x1F];exact h) x1w (fun s _=>by rw[x1l,x1β];exact⟨rfl,rfl⟩) hgz;obtain⟨usm,zsm,um1,_,_⟩:=hI.box m dm tm Cm hdm hbm
  -- the boxes of the loop's state, by number
  have hb1: ∀(s:Nat) (t:TypeId) (cs:List AV),(U.boxes.mapIdx fun i b=>if hs.contains i=true then(tm,[]) else(b.1,zx U.lens.length (gz hs) b.2))[s]? =some (t,cs)->(hs.contains s=true/\ t=tm/\ cs=[]) \/(hs.contains s=false/\ ∃C,U.boxes[s]? =some (t,C)/\ cs=zx U.lens.length (gz hs) C):=fun s t cs h=>by
    simp only[List.getElem?_mapIdx,Option.map_eq_some_iff] at h;obtain⟨bx,h1,h2⟩:=h;cases hc:hs.contains s with
    |true=>rw[hc,if_pos rfl] at h2;cases h2;exact .inl ⟨rfl,rfl,rfl⟩
    |false=>rw[hc,if_neg (by simp)] at h2;cases h2;exact .inr ⟨rfl,_,h1,rfl⟩
  have hI1 :Inv (ITP P) {U with boxes:=U.boxes.mapIdx fun i b=>if hs.contains i=true then(tm,[]) else(b.1,zx U.lens.length (gz hs) b.2)} X1:={
    lens:=by rw[x1l];exact hI.lens
    elems:=by rw[x1β];exact hI.elems
    κlen:=by rw[x1κl,hXl];simp
    κnd := fun s s' b h1 h2 hne=>by
      have get: ∀s,s<X1.κ.length-> ∃bx,U.boxes[s]? =some bx:=fun s h=>⟨_,getElem?_eq_getElem (by rw[x1κl,hXl] at h;exact h)⟩;have emp: ∀s,s<X1.κ.length->hs.contains s=true->(U.boxes.mapIdx fun i b=>if hs.contains i=true then(tm,[]) else(b.1,zx U.lens.length (gz hs) b.2))[s]? =some (tm,[]):=fun s h hc=>by
        obtain⟨bx,e⟩:=get s h;simp only[List.getElem?_mapIdx,e,map_some,hc,if_true]
      have l1:=(List.getElem?_eq_some_iff.1 h1).1;have l2:=(List.getElem?_eq_some_iff.1 h2).1;cases hc:hs.contains s with
      |true=>exact .inl ⟨_,emp s l1 hc⟩
      | false=>
        cases hc2:hs.contains s' with
        |true=>exact .inr ⟨_,emp s' l2 hc2⟩
        | false=>
          rw[x1n s hc] at h1;rw[x1n s' hc2] at h2;refine(hI.κnd s s' b h1 h2 hne).imp (fun⟨t,e⟩=> ?_) (fun⟨t,e⟩=> ?_)
          . rw[hdead s t e] at hc;cases hc
          . rw[hdead s' t e] at hc2;cases hc2
    box :=fun s b t cs h1 h2=>by
      rcases hb1 s t cs h2 with⟨hc,rfl,rfl⟩|⟨hc,C,h3,rfl⟩
      . have:=x1h s b hc h1;subst this
        exact⟨[],usm++zsm,by rw[x1w];simpa using um1,rfl,fun v hv=>by cases hv⟩
      . rw[x1n s hc] at h1
        obtain⟨us,zs,u1,u2,u3⟩:=hI.box s b t C h1 h3
        exact⟨us,zs,by rw[x1w];exact u1,hmL C us u2,u3⟩
    κF :=fun s b t cs h1 h2 hne o=>by
      rcases hb1 s t cs h2 with⟨hc,rfl,rfl⟩|⟨hc,C,h3,rfl⟩
      . exact absurd rfl hne
      . rw[x1n s hc] at h1
        rw[x1F]
        exact hI.κF s b t C h1 h3 (fun e=>hne (by rw[e,zx])) o
    βlen:=by rw[x1β,x1l];exact hI.βlen
    βnd:=by rw[x1β];exact hI.βnd
    βκ:=fun r hr hm=>hI.βκ r (by rw[x1β] at hr;exact hr) (x1κ _ hm)
    row:=fun s r L h1 h2=>by rw[x1β] at h1;rw[x1l] at h2;rw[x1w,x1F];exact hI.row s r L h1 h2
    Ok :=fun b hb=>by
      rw[x1O] at hb;obtain⟨k1,k2,k3,k4⟩:=hI.Ok b hb;rw[x1w,x1β,x1F,x1C];exact⟨k1,fun hm=>k2 (x1κ b hm),k3,k4⟩
    Fcell:=fun b o hf=>by rw[x1F] at hf;rw[x1w];exact hI.Fcell b o hf
    gv:=by rw[x1F,x1w];exact hI.gv}
  have hn1:Now (ITP P) none F B X1 S' {U with boxes:=U.boxes.mapIdx fun i b=>if hs.contains i=true then(tm,[]) else(b.1,zx U.lens.length (gz hs) b.2)} X1 a:=
    ⟨Rel.of (Ext.refl X1),hI1,zhz hfg (hmL _ _ hn.reps),by rw[x1w];exact hn.marks,trivial⟩
  -- what the iterator sees
  have hv:=zde hn.reps f;rw[hf] at hv;obtain⟨lb,hg,hlb⟩:=hv;have hbw:(∀s off v,Rep (ITP P) X (.ptr s off) v->Rep (ITP P) ⟨X.F,κ0,[],[],X.w,X.O,X.C⟩ ((bwz js).1 s off) v)/\ ∀s off n sz f v,Rep (ITP P) X (.bsl s off n sz f) v->Rep (ITP P) ⟨X.F,κ0,[],[],X.w,X.O,X.C⟩ ((bwz js).2 s off n sz) v:=by
    have key: ∀s b:Nat,js.contains s=true->X.κ[s]? =some b->κ0[js.idxOf s]? =some b:=fun s b hs hb=>by
      have hm:s∈js:=by simpa using hs
      have hlt:=List.idxOf_lt_length_of_mem hm;refine hκ0i _ hlt b ?_;rw[List.getElem_idxOf hlt];exact hb
    refine⟨?_,?_⟩
    . rintro s off v ⟨b,hb,rfl⟩
      show Rep (ITP P) _ (if js.contains s then .ptr (js.idxOf s) off else .top) _
      split
      . rename_i hs;exact⟨b,key s b hs hb,rfl⟩
      . rw[Rep];trivial
    . rintro s off n sz f v ⟨b,cap,cur,t,hb,rfl,hcap,hful,hrow,hfit⟩
      show Rep (ITP P) _ (if js.contains s then .bsl (js.idxOf s) off n sz false else .top) _
      split
      . rename_i hs;exact⟨b,cap,cur,t,key s b hs hb,rfl,hcap,(fun h=>by cases h),hrow,hfit⟩
      . rw[Rep];trivial
  have hbL:=zdb (X:=X) (Y:=⟨X.F,κ0,[],[],X.w,X.O,X.C⟩) (m:=0) hIT (fun _ _ h=>h) rfl (fun s hs=>by omega) hbw;have hkF: ∀b∈κ0,∀o,¬X.F b o:=fun b hb o=>by
    obtain⟨i,hi,e1,e2⟩:=hκm b hb;obtain⟨t1,C,a1,_,a4⟩:=hjs i hi;exact hI.κF _ b t1 C e2 a1 a4 o
  have hitR:=hit X.F X.w X.O X.C κ0 lb hI.gv (by omega) hκ0nd (fun i b t cs h1 h2=>by
    have hi:i<js.length:=by rw[hj];exact(List.getElem?_eq_some_iff.1 h2).1
    obtain⟨t1,C,a1,⟨cs1,a2,a3⟩,_⟩:=hjs i hi;rw[h2] at a2;cases a2;obtain⟨us,zs,u1,u2,u3⟩:=hI.box _ b t C (hκ0 i hi b h1) a1;exact⟨us,zs,u1,a3▸hbL C us u2,u3⟩) hkF (hbL caps lb hlb) hI.Fcell
  have hNX: ∀b∈κ0,b∉X1.κ:=fun b hb hm2=>by
    obtain⟨s,hc,h1⟩:=x1m b hm2;rw[hother s b hb h1] at hc;cases hc
  have hn2:=hn;rw[<-x1w];refine z2c iha ihb (M:=none) (X0:=X1) (X:=X1) (N:=fun k=>k∈κ0) trivial (by rw[x1w];exact hn.marks.1) (fun _ _=> .inr rfl) (fun k hk=> ?_) (fun k hk=>⟨?_,?_⟩) hxs hna (by rw[x1κl,hXl];exact h) hn1 (by rw[x1w];exact hfe) hg hent (F0:=X.F) (fun b o h=>by rw[x1F];exact h) (RR:=qfq P κ0 bs' X.w.heap.size) (fun s V V' h1 h2=>qas h1 h2) (by rw[x1w];exact hitR) ?_
  . obtain⟨i,hi,e1,e2⟩:=hκm k hk
    obtain⟨t1,C,a1,_,_⟩:=hjs i hi
    obtain⟨us,zs,u1,_⟩:=hI.box _ k t1 C e2 a1
    exact⟨_,_,_,by rw[x1w];exact u1⟩
  . rintro(h1|⟨r,hr,rfl⟩|h1)
    . exact hNX k hk h1
    . rw[x1β] at hr;exact hI.βκ r hr (hκX _ hk)
    . rw[x1O] at h1;exact(hI.Ok k h1).2.1 (hκX k hk)
  . rintro o (h1|h1)
    . rw[x1F] at h1;exact hkF k hk o h1
    . exact h1
  -- behind the loop
  intro e U' Y s a' hq hrr hat hrel hIY _ hcov hYl hsub hreps hdmk;cases e with
  |exit id=>exact hq.elim
  |ret=>exact hq.elim
  |normal=>
  have hq:Q .normal S (ziz js hs bs' U.boxes U'):=hq;obtain⟨κ',l1,l2,l3,l4,l5⟩:=hrr rfl;have hrel:ExtW (KpN (fun k=>k∈κ0) X1) X1 Y:=hrel;have hYκ:Y.κ=X1.κ:=List.ext_getElem? fun s=>by
    cases h1:X1.κ[s]? with
    |some b=>exact hsub.κ s b h1
    |none=>rw[List.getElem?_eq_none_iff] at h1⊢;omega
  have hσl:U'.boxes.length=X.κ.length:=by rw[<-hIY.κlen,hYκ,x1κl]
  have hKp: ∀b,KpN (fun k=>k∈κ0) X1 b->b∈X.κ:=fun b h=>h.elim (x1κ b) (hκX b);have hYO:Y.O=X.O:=hrel.O.trans x1O;have hYC:Y.C=X.C:=hrel.C.trans x1C;have hszs:Szs X.w Y.w:=x1w▸hrel.szs;have hsize:X.w.heap.size<=Y.w.heap.size:=x1w▸hrel.size;have hframe: ∀b,b<X.w.heap.size->b∉X1.κ->b∉κ0->(∀r∈X.β,r.block≠b)->Y.w.heap[b]? =X.w.heap[b]? :=fun b h1 h2 h3 h4=>by
    have:=hrel.frame b (by rw[x1w];exact h1) (fun h=>h.elim h2 h3) (by rw[x1β];exact h4);rw[x1w] at this;exact this
  have hblk: ∀(s b:Nat),X.κ[s]? =some b-> ∀(cur:Array Value) (t:TypeId) (fz:Nat×Nat),X.w.heap[b]? =some (.cells cur t fz)-> ∃cur',Y.w.heap[b]? =some (.cells cur' t fz)/\ cur'.size=cur.size:=fun s b hs' cur t fz hc=>by
    by_cases h1:b∈X1.κ
    . obtain⟨s',hs2⟩:=List.mem_iff_getElem?.1 h1
      exact hrel.blk s' b hs2 cur t fz (by rw[x1w];exact hc)
    by_cases h2:b∈κ0
    . obtain⟨i,hi,e1,e2⟩:=hκm b h2
      obtain⟨t1,C,a1,⟨cs1,a2,_⟩,_⟩:=hjs i hi
      obtain⟨us,zs,u1,_⟩:=hI.box _ b t1 C e2 a1
      obtain⟨cs',hb'⟩:=hbk i t1 cs1 a2
      obtain⟨⟨vs,zs',v1,_⟩,_⟩:=l5 i b t1 cs' (l2 i b e1) hb'
      obtain⟨c2,t2,f2,k1,k2⟩:=hszs b _ _ _ hc
      rw[hc] at u1
      injection u1 with u1
      injection u1 with _ u2 u3
      subst u2 u3
      rw[v1] at k1;cases k1
      exact⟨_,v1,k2⟩
    . exact⟨cur,(hframe b (hI.κlt (mem_of_getElem? hs')) h1 h2 (fun r hr e=>hI.βκ r hr (e▸mem_of_getElem? hs'))).trans hc,rfl⟩
  obtain⟨Z,hZ⟩: ∃Z:Cx,Z=⟨Y.F,X.κ++κ'.drop js.length,Y.β,Y.lens,Y.w,X.O,X.C⟩:=⟨_,rfl⟩;have zw:Z.w=Y.w:=by rw[hZ]
  have zF:Z.F=Y.F:=by rw[hZ]
  have zβ:Z.β=Y.β:=by rw[hZ]
  have zl:Z.lens=Y.lens:=by rw[hZ]
  have zO:Z.O=X.O:=by rw[hZ]
  have zC:Z.C=X.C:=by rw[hZ]
  have zκ:Z.κ=X.κ++κ'.drop js.length:=by rw[hZ]
  have zκo: ∀s b:Nat,X.κ[s]? =some b->Z.κ[s]? =some b:=fun s b h=>by
    rw[zκ,List.getElem?_append_left (List.getElem?_eq_some_iff.1 h).1];exact h
  have hSub:Sub X Z:=⟨fun b o h=>by rw[zF];exact hsub.F b o (by rw[x1F];exact h),fun b o h=>by rw[zw];have:=hsub.cell b o (by rw[x1F];exact h);rw[x1w] at this;exact this,zκo,
    fun s L h=>by rw[zl,zβ];have:=hsub.lens s L (by rw[x1l];exact h);rw[x1β] at this;exact this,fun s b h1 cur t fz h2=>by rw[zw];exact hblk s b h1 cur t fz h2,by rw[zw];exact hszs⟩
  have hfresh: ∀b∈κ'.drop js.length,b∈X.κ \/X.w.heap.size<=b:=fun b hb=>(l4 b (List.mem_of_mem_drop hb)).1.imp (hκX b) id
  have hExt : Ext X Z := { toSub:=hSub,os:=by rw[zw,hrel.os,x1w],tape:=by rw[zw,hrel.tape,x1w],output:=by rw[zw,hrel.output,x1w],size:=by rw[zw];exact hsize,drawn:=by rw[zw];have:=hrel.drawn;rw[x1w] at this;exact this
                           frame:=fun b h1 h2 h3=>by rw[zw];exact hframe b h1 (fun h=>h2 (x1κ b h)) (fun h=>h2 (hκX b h)) h3
                           κnew:=fun b hb=>by
                             rw[zκ] at hb;rcases mem_append.1 hb with h|h
                             . exact .inl h
                             . exact hfresh b h
                           βnew:=fun r hr=>by rw[zβ] at hr;have:=hrel.βnew r hr;rw[x1β,x1w] at this;exact this
                           O:=zO
                           C:=zC
                           Fnew:=fun b o hf=>by
                             rw[zF] at hf;have:=hrel.Fnew b o hf;rw[x1F,x1β,x1w] at this;exact this.imp id (Or.imp id (Or.imp id (hKp b)))}
  have zκf: ∀i b:Nat,κ'[i]? =some b->Z.κ[fwN js U.boxes.length i]? =some b:=fun i b hb=>by
    rcases Nat.lt_or_ge i js.length with hlt|hge
    . rw[show fwN js U.boxes.length i=js[i] by simp[fwN,hlt]]
      obtain⟨b0,h0⟩: ∃b0,κ0[i]? =some b0:=⟨_,getElem?_eq_getElem (by omega)⟩
      have:=l2 i b0 h0
      rw[hb] at this;cases this
      exact zκo _ b (hκ0 i hlt b h0)
    . rw[show fwN js U.boxes.length i=U.boxes.length+(i-js.length) by simp[fwN,hge],zκ,List.getElem?_append_right (by omega),getElem?_drop,show js.length+(U.boxes.length+(i-js.length)-X.κ.length)=i by omega];exact hb
  have hg1:(∀s off v,Rep (ITP P) ⟨fun _ _=>False,κ',[],[],Y.w,fun _=>False,fun _ _=>False⟩ (.ptr s off) v->Rep (ITP P) Z ((fwz js U.boxes.length).1 s off) v)/\ ∀s off n sz f v,Rep (ITP P) ⟨fun _ _=>False,κ',[],[],Y.w,fun _=>False,fun _ _=>False⟩ (.bsl s off n sz f) v->Rep (ITP P) Z ((fwz js U.boxes.length).2 s off n sz) v:=by
    refine⟨?_,?_⟩
    . rintro s off v ⟨b,hb,rfl⟩
      exact⟨b,zκf s b hb,rfl⟩
    . rintro s off n sz f v ⟨b,cap,cur,t,hb,rfl,hcap,hful,hrow,hfit⟩
      exact⟨b,cap,cur,t,zκf s b hb,rfl,hcap,(fun h=>by cases h),by rw[zw];exact hrow,hfit⟩
  have hrepB:=zdb (X:=⟨fun _ _=>False,κ',[],[],Y.w,fun _=>False,fun _ _=>False⟩) (Y:=Z) (m:=0) hIT (fun _ _ h=>h.elim) zw (fun s hs=>by omega) hg1;have hg2:(∀s off v,Rep (ITP P) Y (.ptr s off) v->Rep (ITP P) Z ((gz hs).1 s off) v)/\ ∀s off n sz f v,Rep (ITP P) Y (.bsl s off n sz f) v->Rep (ITP P) Z ((gz hs).2 s off n sz) v:=by
    refine⟨?_,?_⟩
    . rintro s off v ⟨b,hb,rfl⟩
      show Rep (ITP P) Z (if hs.contains s then .top else .ptr s off) _
      cases hc:hs.contains s with
      |true=>rw[if_pos rfl,Rep];trivial
      |false=>rw[if_neg (by simp)];rw[hYκ,x1n s hc] at hb;exact⟨b,zκo s b hb,rfl⟩
    . rintro s off n sz f v ⟨b,cap,cur,t,hb,rfl,hcap,hful,hrow,hfit⟩
      show Rep (ITP P) Z (if hs.contains s then .top else .bsl s off n sz false) _
      cases hc:hs.contains s with
      |true=>rw[if_pos rfl,Rep];trivial
      |false=>rw[if_neg (by simp)];rw[hYκ,x1n s hc] at hb;exact⟨b,cap,cur,t,zκo s b hb,rfl,hcap,(fun h=>by cases h),by rw[zw];exact hrow,hfit⟩
  have hrepA:=zdb (X:=Y) (Y:=Z) (m:=U'.lens.length) hIT (fun b o h=>by rw[zF];exact h) zw (fun s _=>by rw[zl,zβ];exact⟨rfl,rfl⟩) hg2
  -- the boxes behind it, by their numbers
  have hnew: ∀(s b:Nat) (t:TypeId) (cs:List AV),Z.κ[s]? =some b->(ziz js hs bs' U.boxes U').boxes[s]? =some (t,cs)->
      (hs.contains s=false/\ Y.κ[s]? =some b/\ ∃C,U'.boxes[s]? =some (t,C)/\ cs=zx U'.lens.length (gz hs) C) \/(∃i c,s=fwN js U.boxes.length i/\ κ'[i]? =some b/\ bs'[i]? =some (t,c)/\ cs=zx 0 (fwz js U.boxes.length) c) \/(X.κ[s]? =some b/\ U.boxes[s]? =some (t,cs)/\ hs.contains s=true/\ js.contains s=false):=fun s b t cs h1 h2=>by
    have h2:((U'.boxes.mapIdx fun i b=>if js.contains i=true then((bs'[js.idxOf i]?).map fun c=>(c.1,zx 0 (fwz js U.boxes.length) c.2)).getD b else if hs.contains i=true then(U.boxes[i]?).getD b else(b.1,zx U'.lens.length (gz hs) b.2))++(bs'.drop js.length).map fun c=>(c.1,zx 0 (fwz js U.boxes.length) c.2))[s]? =some (t,cs):=h2;rcases Nat.lt_or_ge s X.κ.length with hlt|hge
    . rw [zκ,List.getElem?_append_left hlt] at h1
      rw[List.getElem?_append_left (by simp;omega)] at h2
      simp only[List.getElem?_mapIdx,getElem?_eq_getElem (show s<U'.boxes.length by omega),map_some,Option.some.injEq] at h2
      cases hc:js.contains s with
      | true=>
        have hm2:s∈js:=by simpa using hc
        have hlt2:=List.idxOf_lt_length_of_mem hm2;have hs2:js[js.idxOf s]=s:=List.getElem_idxOf hlt2;obtain⟨t1,C,a1,⟨cs1,a2,_⟩,_⟩:=hjs _ hlt2;obtain⟨cs',hb'⟩:=hbk _ t1 cs1 a2;rw[hc,if_pos rfl,hb'] at h2;simp only[map_some,getD_some,Prod.mk.injEq] at h2;obtain⟨rfl,rfl⟩:=h2;refine .inr (.inl ⟨js.idxOf s,cs',by simp[fwN,hlt2,hs2],?_,hb',rfl⟩);exact l2 _ b (hκ0i _ hlt2 b (by rw[hs2];exact h1))
      | false=>
        rw[hc,if_neg (by simp)] at h2;cases hc2:hs.contains s with
        | true=>
          have hlb:s<U.boxes.length:=by omega
          rw[hc2,if_pos rfl,getElem?_eq_getElem hlb,getD_some] at h2;exact .inr (.inr ⟨h1,by rw[getElem?_eq_getElem hlb,h2],rfl,rfl⟩)
        | false=>
          rw[hc2,if_neg (by simp)] at h2;cases h2;exact .inl ⟨rfl,by rw[hYκ,x1n s hc2];exact h1,_,getElem?_eq_getElem (by omega),rfl⟩
    . rw[zκ,List.getElem?_append_right hge,getElem?_drop] at h1
      rw[List.getElem?_append_right (by simp;omega)] at h2
      simp only[List.length_mapIdx,hσl,List.getElem?_map,getElem?_drop,Option.map_eq_some_iff] at h2
      obtain⟨c,h3,h4⟩:=h2
      cases h4
      exact .inr (.inl ⟨js.length+(s-X.κ.length),c.2,by rw[show fwN js U.boxes.length (js.length+(s-X.κ.length))=U.boxes.length+(js.length+(s-X.κ.length)-js.length) by simp[fwN]];omega,h1,h3,rfl⟩)
  have hget: ∀s b:Nat,Z.κ[s]? =some b-> ∃t cs,(ziz js hs bs' U.boxes U').boxes[s]? =some (t,cs):=fun s b h=>by
    have h1:=(List.getElem?_eq_some_iff.1 h).1;rw[zκ,length_append,length_drop] at h1;have:s<(ziz js hs bs' U.boxes U').boxes.length:=by
      show s<(_++_:List _).length;rw[length_append,List.length_mapIdx,List.length_map,length_drop];omega
    exact⟨_,_,getElem?_eq_getElem this⟩
  have hO1: ∀b∈κ',¬s.O b:=fun b hb=>(l4 b hb).2;have hjbs:js.length<=bs'.length:=by
    rcases Nat.eq_zero_or_pos js.length with h0|h0
    . omega
    . obtain⟨t1,C,a1,⟨cs1,a2,_⟩,_⟩:=hjs (js.length-1) (by omega)
      obtain⟨cs',hb'⟩:=hbk _ t1 cs1 a2
      have:=(List.getElem?_eq_some_iff.1 hb').1
      omega
  have hpark: ∀(s b:Nat) (t:TypeId) (cs:List AV),X.κ[s]? =some b->U.boxes[s]? =some (t,cs)->hs.contains s=true->js.contains s=false->cs≠[]->b∉X1.κ/\ b∉κ0:=fun s b t cs h1 h2 h3 h4 hne=>by
    refine⟨fun hm2=> ?_,fun hm2=> ?_⟩
    . obtain⟨s',hc',h'⟩:=x1m b hm2
      have hns:s≠s':=by rintro rfl;rw[h3] at hc';cases hc'
      rcases hI.κnd s s' b h1 h' hns with⟨t2,e⟩|⟨t2,e⟩
      . rw[h2] at e;cases e;exact hne rfl
      . rw[hdead s' t2 e] at hc';cases hc'
    . obtain⟨i,hi,e1,e2⟩:=hκm b hm2
      obtain⟨t1,C,a1,_,a4⟩:=hjs i hi
      have hns:s≠js[i]:=fun e=>by
        have:js.contains s=true:=by rw[e];simp
        rw[h4] at this;cases this
      rcases hI.κnd s _ b h1 e2 hns with⟨t2,e⟩|⟨t2,e⟩
      . rw[h2] at e;cases e;exact hne rfl
      . rw[a1] at e;cases e;exact a4 rfl
  have hIZ :Inv (ITP P) (ziz js hs bs' U.boxes U') Z:={
    lens:=by rw[zl];exact hIY.lens
    elems:=by rw[zβ];exact hIY.elems
    κlen:=by
      show _=(_++_:List _).length;rw[zκ,length_append,length_drop,length_append,List.length_mapIdx,List.length_map,length_drop,hσl,l1]
    κnd := fun s1 s2 b h1 h2 hne=>by
      obtain⟨t1,c1,g1⟩:=hget s1 b h1;obtain⟨t2,c2,g2⟩:=hget s2 b h2;rcases hnew s1 b t1 c1 h1 g1 with⟨p1,p2,C1,p3,rfl⟩|⟨i1,d1,p1,p2,p3,rfl⟩|⟨p1,p2,p3,p4⟩<;>rcases hnew s2 b t2 c2 h2 g2 with⟨q1,q2,C2,q3,rfl⟩|⟨i2,d2,q1,q2,q3,rfl⟩|⟨q1,q2,q3,q4⟩
      . refine(hIY.κnd s1 s2 b p2 q2 hne).imp (fun⟨t,e⟩=> ?_) (fun⟨t,e⟩=> ?_)
        . rw[p3] at e;cases e;exact⟨_,by rw[g1,zx]⟩
        . rw[q3] at e;cases e;exact⟨_,by rw[g2,zx]⟩
      . exact absurd ((hcov.1 b).2 (.inl (mem_of_getElem? p2))) (hO1 b (mem_of_getElem? q2))
      . rcases Classical.em (c2=[]) with e|e
        . exact .inr ⟨_,by rw[g2,e]⟩
        . exact absurd (hYκ▸mem_of_getElem? p2) (hpark s2 b t2 c2 q1 q2 q3 q4 e).1
      . exact absurd ((hcov.1 b).2 (.inl (mem_of_getElem? q2))) (hO1 b (mem_of_getElem? p2))
      . have hne2:i1≠i2:=fun e=>hne (by rw[p1,q1,e])
        refine(l3 i1 i2 b p2 q2 hne2).imp (fun⟨t,e⟩=> ?_) (fun⟨t,e⟩=> ?_)
        . rw[p3] at e;cases e;exact⟨_,by rw[g1,zx]⟩
        . rw[q3] at e;cases e;exact⟨_,by rw[g2,zx]⟩
      . rcases Classical.em (c2=[]) with e|e
        . exact .inr ⟨_,by rw[g2,e]⟩
        . rcases(l4 b (mem_of_getElem? p2)).1 with h|h
          . exact absurd h (hpark s2 b t2 c2 q1 q2 q3 q4 e).2
          . have:=hI.κlt (mem_of_getElem? q1);omega
      . rcases Classical.em (c1=[]) with e|e
        . exact .inl ⟨_,by rw[g1,e]⟩
        . exact absurd (hYκ▸mem_of_getElem? q2) (hpark s1 b t1 c1 p1 p2 p3 p4 e).1
      . rcases Classical.em (c1=[]) with e|e
        . exact .inl ⟨_,by rw[g1,e]⟩
        . rcases(l4 b (mem_of_getElem? q2)).1 with h|h
          . exact absurd h (hpark s1 b t1 c1 p1 p2 p3 p4 e).2
          . have:=hI.κlt (mem_of_getElem? p1);omega
      . refine(hI.κnd s1 s2 b p1 q1 hne).imp (fun⟨t,e⟩=> ?_) (fun⟨t,e⟩=> ?_)
        . rw[p2] at e;cases e;exact⟨_,g1⟩
        . rw[q2] at e;cases e;exact⟨_,g2⟩
    box := fun s0 b t cs h1 h2=>by
      rw[zw];rcases hnew s0 b t cs h1 h2 with⟨p1,p2,C1,p3,rfl⟩|⟨i1,d1,p1,p2,p3,rfl⟩|⟨p1,p2,p3,p4⟩
      . obtain⟨us,zs,u1,u2,u3⟩:=hIY.box s0 b t C1 p2 p3
        exact⟨us,zs,u1,hrepA C1 us u2,u3⟩
      . obtain⟨⟨vs,zs,u1,u2,u3⟩,_⟩:=l5 i1 b t d1 p2 p3
        exact⟨vs,zs,u1,hrepB d1 vs u2,u3⟩
      . obtain⟨us,zs,u1,u2,u3⟩:=hI.box s0 b t cs p1 p2
        rcases Classical.em (cs=[]) with rfl|hne
        . obtain⟨cur',k1,_⟩:=hblk s0 b p1 _ _ _ u1
          exact⟨[],cur'.toList,by simpa using k1,rfl,fun v hv=>by cases hv⟩
        . obtain⟨n1,n2⟩:=hpark s0 b t cs p1 p2 p3 p4 hne
          exact⟨us,zs,by rw[hframe b (hI.κlt (mem_of_getElem? p1)) n1 n2 (fun r hr e=>hI.βκ r hr (e▸mem_of_getElem? p1))];exact u1,zbu hIT hSub _ _ u2,u3⟩
    κF :=fun s0 b t cs h1 h2 hne o hf=>by
      rw[zF] at hf;rcases hnew s0 b t cs h1 h2 with⟨p1,p2,C1,p3,rfl⟩|⟨i1,d1,p1,p2,p3,rfl⟩|⟨p1,p2,p3,p4⟩
      . exact hIY.κF s0 b t C1 p2 p3 (fun e=>hne (by rw[e,zx])) o hf
      . exact(l5 i1 b t d1 p2 p3).2 (fun e=>hne (by rw[e,zx])) o ((hcov.2 b o).2 (.inl hf))
      . obtain⟨n1,n2⟩:=hpark s0 b t cs p1 p2 p3 p4 hne
        have:=hrel.Fnew b o hf
        rw[x1F,x1β,x1w] at this
        rcases this with h|h|⟨q,hq2,e⟩|h
        . exact hI.κF s0 b t cs p1 p2 hne o h
        . have:=hI.κlt (mem_of_getElem? p1);omega
        . exact hI.βκ q hq2 (e▸mem_of_getElem? p1)
        . exact h.elim n1 n2
    βlen:=by rw[zβ,zl];exact hIY.βlen
    βnd:=by rw[zβ];exact hIY.βnd
    βκ :=fun r hr hm2=>by
      rw[zβ] at hr;rw[zκ] at hm2;rcases mem_append.1 hm2 with h1|h1
      . have hb:=hrel.βnew r hr
        rw[x1β,x1w] at hb
        rcases hb with⟨q,hq2,e⟩|hb
        . exact hI.βκ q hq2 (e▸h1)
        . have:=hI.κlt h1;omega
      . exact hO1 _ (List.mem_of_mem_drop h1) ((hcov.1 _).2 (.inr (.inl ⟨r,hr,rfl⟩)))
    row:=fun s0 r L h1 h2=>by rw[zβ] at h1;rw[zl] at h2;rw[zw,zF];exact hIY.row s0 r L h1 h2
    Ok :=fun b hb=>by
      rw[zO] at hb;obtain⟨k1,k2,k3,k4⟩:=hIY.Ok b (by rw[hYO];exact hb);rw[zw,zβ,zF,zC, <-hYC];refine⟨k1,fun hm2=> ?_,k3,k4⟩;rw[zκ] at hm2;rcases mem_append.1 hm2 with h1|h1
      . exact(hI.Ok b hb).2.1 h1
      . exact hO1 _ (List.mem_of_mem_drop h1) ((hcov.1 _).2 (.inr (.inr (by rw[hYO];exact hb))))
    Fcell:=fun b o hf=>by rw[zF] at hf;rw[zw];exact hIY.Fcell b o hf
    gv:=by rw[zF,zw];exact hIY.gv}
  have hfin:=hK .normal S (ziz js hs bs' U.boxes U') Z a' hq ⟨Ext.trans (show Ext X0 X from hn2.ext) hExt,hIZ,by unfold znc;rw[hat];exact zbu hIT hSub _ _ hn2.reps,by rw[zw];exact hdmk,trivial⟩;rw[zw] at hfin;exact hfin
theorem qbf {f:Operand} {ps:Array Tmp} {asg body:Code} (iha:zsg P asg)(ihb:zsg P body):zsg P (.rangeFunc f ps asg body):=by
 have hIT:=ze P;intro M F nn B hG hF k0 Q S U X0 X a K hk ⟨hBX,U0,hI0⟩ h hn hfe hK;have hfe:FenceAt B F X.w:=(hfe.resolve_right (by simp[zcj])).ext (z4e hG) hn.ext hI0;have hv:=zde hn.reps f;rcases h with⟨xs,hf,hps,hxs,hna,h⟩|⟨g,caps,js,hs,m,bs,bs',xs,S',U1,hf,hH,hfg,hW,hna,hxs,hit,hent,hbk,h⟩
 rotate_right
 ·cases M with
  |some G=>cases hW
  |none=>exact qjw iha ihb hxs hna hf hH hfg hit hent hbk h hn hfe hK
 ·rw[hf,Rep] at hv;obtain⟨g,lb,F0,hg,hent,hF0,hit⟩:=(hv.resolve_left fun e=>by
   have h1:=all_eq_true.1 hxs (List.replicate 9 .bad) (by rw[e.1];exact List.mem_singleton.2 rfl);have h2:=Nat.le_of_ble_eq_true hps;simp at h1;omega).2
  rw[<-hn.inv.κlen] at h;exact qcj iha ihb hG (N:=fun _=>False) hBX (fun _ h=>h.elim) (fun _ h=>h.elim) (fun _ h=>h.elim) hxs hna h hn hfe hg hent hF0 hit hK
theorem qnj (hmix:P.follows .mixedOrders=true) {id:Nat} {ops:Array Oper}:zsg P (.region id ops true):=by
 intro M F nn B hG hF k0 Q S U X0 X a K hk hI0 h hn hfe hK;rcases h with h|h|h|h|⟨hW,S',U',hs,h⟩
 ·exact h.elim
 ·exact z1w (ze P) hF hG hmix (fun S U X a hq hn=>hK .normal S U X a hq hn) h hn
 ·exact z4g (ze P) hF hG hmix (fun S U X a hq hn=>hK .normal S U X a hq hn) h hn
 ·exact z1n (ze P) hF hG hmix (fun S U X a hq hn=>hK .normal S U X a hq hn) h hn
 ·cases M with
  |some G=>cases hW
  | none=>
   refine wpIn_mono (hs hF hI0 hn hfe) ?_;rintro e a' w' ⟨rfl,X',rfl,hn'⟩;exact hK .normal _ _ _ _ h hn'
theorem zvs (hmix:P.follows .mixedOrders=true): ∀c:Code,zsg P c
 | .skip=>fun hG hF k0 Q S U X0 X a K _ _ h hn _ hK=>wpIn_skip (hK .normal S U X a h hn)
 | .seq x y=>qli (zvs hmix x) (zvs hmix y)
 | .cond c x y=>qhg (zvs hmix x) (zvs hmix y)
 | .block id x=>qcp (zvs hmix x)
 | .loop x=>qfp (ze P) (zvs hmix x)
 | .exit id=>fun hG hF k0 Q S U X0 X a K _ _ h hn _ hK=>wpIn_exit (hK (.exit id) S U X a h hn)
 | .ret=>fun hG hF k0 Q S U X0 X a K _ _ h hn _ hK=>wpIn_ret (hK .ret S U X a h hn)
 | .region id ops false=>fun hG hF k0 Q S U X0 X a K _ _ h hn _ hK=>wpIn_region_list (zgi (ze P) hF hG (fun S U X a hq hn=>hK .normal S U X a hq hn) ops.toList S U X a h hn)
 | .region id ops true=>qnj hmix
 | .rangeFunc f ps asg body=>qbf (zvs hmix asg) (zvs hmix body)
 | .scope x=>qbb (zvs hmix x)
 | .label _=>fun hG hF k0 Q S U X0 X a K _ _ h hn _ hK=>wpIn_label (hK .normal S U X a h hn)
 | .goto _=>fun hG hF k0 Q S U X0 X a K _ _ h hn _ hK=>h.elim
 | .refuse _=>fun hG hF k0 Q S U X0 X a K _ _ h hn _ hK=>h.elim
end Go.Ab
