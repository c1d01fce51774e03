/-
  The law DerivePlain of the given program returns true, whatever the input, and what came in reads as it did. No condition.
-/
import Derived.ProofKit
import Derived.Laws.IdiomArrays
import Derived.Deep.Slices
import Derived.Deep.Fields
import Derived.ChangeSame
import Derived.HandedShaped
import Derived.Shelf.Vars
import Derived.Test.YtfkkellnlmjenaaGreatZeLg
import Derived.Test.YtfkkellnlmjenaaGreatZeLd
set_option linter.unusedSimpArgs false
set_option linter.unusedVariables false
set_option maxRecDepth 100000
namespace Go.Ab
open Go Go.RowKit Go.Fwd Go.Proofs Go.ChangeShapes Go.WideShapes Go.ChangeAt Go.Deep
theorem ownLess:ownKnob Tryz.prog.godebug=none:=by kernel_rfl
theorem laidOut:laidOutB Tryz.prog=true:=by kernel_rfl
def zwh (W:World):Cx:=⟨fun b o=> ∃v,W.cell? ⟨b,o,none⟩=some v,[],[],[],W,fun _=>False,fun _ _=>False⟩
theorem gv_base (W:World)(hS:W.ShapedOpen Tryz.prog):gvBase Tryz.prog W where
 err:=fun n g h e=>by
  have h1:Tryz.prog.globalNamed "strconv.ErrSyntax" =none:=by kernel_rfl
  have h2:Tryz.prog.globalNamed "strconv.ErrRange" =none:=by kernel_rfl
  rcases h with rfl|rfl
  ·rw[h1] at e;cases e
  ·rw[h2] at e;cases e
 pow:=fun g e=>by
  have h1:Tryz.prog.globalNamed "internal/strconv.uint64pow10" =none:=by kernel_rfl
  rw[h1] at e;cases e
 max:=fun g e=>by
  have h1:Tryz.prog.globalNamed "internal/bytealg.MaxLen" =some 0:=by kernel_rfl
  rw[h1] at e;cases e
  exact Go.Proofs.cell_of_shapedOpen_int (zero:= #[.int .i64 0]) (t:=3) hS (of_decide_eq_true (by kernel_rfl)) (by kernel_rfl) rfl (by kernel_rfl) (by kernel_rfl) (by kernel_rfl)
theorem inv_top (W:World)(hS:W.ShapedOpen Tryz.prog):Inv (ITP Tryz.prog) St.empty (zwh W) where
 lens:=rfl
 elems:=rfl
 κlen:=rfl
 κnd:=fun s s' b h=>by simp[zwh] at h
 box:=fun s b t cs h=>by simp[zwh] at h
 κF:=fun s b t cs h=>by simp[zwh] at h
 βlen:=rfl
 βnd:=by simp[zwh]
 βκ:=fun r h=>by simp[zwh] at h
 row:=fun s r L h=>by simp[zwh] at h
 Ok:=fun b h=>h.elim
 Fcell:=fun b o h=>h
 gv:=⟨W,gv_base W hS,Szs.refl _,fun b o v _ hv=>⟨⟨v,hv⟩,hv⟩⟩
theorem qnl {f:FuncId} {args:List AV} {u:Value} (h:Pure (ITP Tryz.prog) Tryz.prog f args (.raw u))(W:World)(hS:W.ShapedOpen Tryz.prog) {vs:List Value} (hr:zbd (ITP Tryz.prog) (zwh W) args vs):
 Calls Tryz.prog f vs.toArray W fun e W'=>e= .returned u∧Ex W.heap.size W W':=by
 refine(h.2 (zwh W) vs (inv_top W hS) hr).mono ?_
 rintro e w' ⟨v,Y,rfl,rfl,hE,hIY,hv⟩
 rw[Rep] at hv;subst hv
 exact⟨rfl,⟨⟨hE.os,hE.tape,hE.output,hE.size,fun b hb=>hE.frame b hb (by simp[zwh]) (by simp[zwh])⟩,hE.drawn⟩⟩
theorem qaj {n:Int} (h:(Lit.int .u8 n).wf=true):0≤n∧n≤255:=by
 have h1:IntKind.u8.min=0:=rfl
 have h2:IntKind.u8.max=255:=rfl
 simp only[Lit.wf,Bool.and_eq_true,decide_eq_true_eq] at h
 omega
theorem qpp:Tryz.prog.underlying 22=some (.slice 81):=rfl
theorem cells49:Tryz.prog.cellsOf 81=3:=by kernel_rfl
theorem qok: ∃f0 f1 f2:Field,Tryz.prog.underlying 81=some (.struct #[f0,f1,f2])∧oneCellFields Tryz.prog #[f0,f1,f2]=true∧Tryz.prog.underlying f0.type=some (.int .u8)∧Tryz.prog.underlying f1.type=some (.int .u8)∧Tryz.prog.underlying f2.type=some (.int .u8):=⟨_,_,_,rfl,by kernel_rfl,rfl,rfl,rfl⟩
section
variable {H:Type} {enc:TypeId×Value→H}
theorem z6n {W:World} {base:Nat} {spare:Nat→Bool} {held:Bool} {n:Nat} {cs:List Value} {x:DataW H×List MemPlace} (h:DataW.trod enc Tryz.prog W base spare held n 81 cs=some x)(hl:cs.length=3):
 ∃s:Sm,cs=[.int .u8 (s.1:Int),.int .u8 (s.2.1:Int),.int .u8 (s.2.2:Int)]∧s.2.1<256:=by
 obtain⟨f0,f1,f2,hu,hone,t0,t1,t2⟩:=qok
 obtain⟨ys,m,_,_,_,hyl,hf⟩:=DataW.trod_struct hu h
 obtain⟨o0,k0⟩:=hone_of hone 0 f0 rfl
 obtain⟨o1,k1⟩:=hone_of hone 1 f1 rfl
 obtain⟨o2,k2⟩:=hone_of hone 2 f2 rfl
 match cs,hl with
 | [c0,c1,c2],_=>
  match ys,hyl with
  | [y0,y1,y2],_=>
   have g0:DataW.trod enc Tryz.prog W base spare held m f0.type [c0]=some y0:=by simpa[o0,k0] using hf 0 f0 rfl
   have g1:DataW.trod enc Tryz.prog W base spare held m f1.type [c1]=some y1:=by simpa[o1,k1] using hf 1 f1 rfl
   have g2:DataW.trod enc Tryz.prog W base spare held m f2.type [c2]=some y2:=by simpa[o2,k2] using hf 2 f2 rfl
   obtain⟨n0,e0,_,w0⟩:=DataW.trod_int t0 g0
   obtain⟨n1,e1,_,w1⟩:=DataW.trod_int t1 g1
   obtain⟨n2,e2,_,w2⟩:=DataW.trod_int t2 g2
   simp at e0 e1 e2
   subst e0 e1 e2
   have b0:=qaj w0
   have b1:=qaj w1
   have b2:=qaj w2
   exact⟨(n0.toNat,n1.toNat,n2.toNat),by simp only[Int.toNat_of_nonneg b0.1,Int.toNat_of_nonneg b1.1,Int.toNat_of_nonneg b2.1],by simp only;omega⟩
theorem z4p (W:World)(b:Nat): ∀(len o:Nat) (g:Nat→Sm),(∀i,i<len→W.cell? ⟨b,o+i*3,none⟩=some (.int .u8 ((g i).1:Int))∧W.cell? ⟨b,o+i*3+1,none⟩=some (.int .u8 ((g i).2.1:Int))∧W.cell? ⟨b,o+i*3+2,none⟩=some (.int .u8 ((g i).2.2:Int)))→
 At (ITP Tryz.prog) (zwh W) (qpe ((List.range len).map g)) b o
 |0,o,g,_=>by simp[qpe,At]
 | len+1,o,g,h=>by
  rw[List.range_succ_eq_map,List.map_cons,List.map_map,qpe,smc]
  have h0:=h 0 (by omega)
  simp only[Nat.zero_mul,Nat.add_zero] at h0
  obtain⟨a0,a1,a2⟩:=h0
  have ih:=z4p W b len (o+3) (g∘Nat.succ) (fun i hi=>by
   have:=h (i+1) (by omega)
   rw[show o+(i+1)*3=o+3+i*3 by omega] at this
   exact this)
  simp only[List.cons_append,List.nil_append,At]
  exact⟨⟨⟨_,a0⟩,_,a0,rfl,by rw[Rep]⟩,⟨⟨_,a1⟩,_,a1,rfl,by rw[Rep]⟩,⟨⟨_,a2⟩,_,a2,rfl,by rw[Rep]⟩,ih⟩
theorem qcd {W:World} {base:Nat} {v:Value} {d:DataW H} {p:List MemPlace} (hv:Value.okWide Tryz.prog W .any base 22 v)(h:DataW.Trod enc Tryz.prog W 0 (fun _=>true) true 22 v d p):
 ∃l:List Sm,(l.length<2^63∧ ∀x∈l,x.2.1<256)∧Rep (ITP Tryz.prog) (zwh W) (.list l.length (qpe l) .none) v:=by
 obtain⟨fuel,hf⟩:=h
 obtain⟨a0,len,cap,rfl⟩:=okWide_slice qpp hv
 rcases open_slice qpp hf with⟨h0,_⟩|⟨a,len',cap',m,n,D,Pl,hcs,hb,hl,hm,hmm,hx,hi⟩
 ·simp[Value.cells] at h0
  obtain⟨rfl,rfl,rfl⟩:=h0
  refine⟨[],by simp,?_⟩
  rw[Rep]
  exact⟨none,0,rfl,⟨Nat.le_refl _,fun _=>rfl⟩,.inl rfl,trivial⟩
 ·simp [Value.cells] at hcs
  obtain⟨rfl,rfl,rfl⟩:=hcs
  rw[cells49] at hi
  have hm':m=cap:=by simpa using hmm
  have hcell: ∀i,i<m→ ∃s:Sm,W.cell? (a.add (i*3))=some (.int .u8 (s.1:Int))∧W.cell? (a.add (i*3+1))=some (.int .u8 (s.2.1:Int))∧W.cell? (a.add (i*3+2))=some (.int .u8 (s.2.2:Int))∧s.2.1<256:=fun i him=>by
   obtain⟨cs',hc,ht⟩:=hi i him
   obtain⟨_,hcl,hat⟩:=World.cells?_some hc
   obtain⟨s,rfl,hs⟩:=z6n ht hcl
   refine⟨s,?_,?_,?_,hs⟩
   ·have:=hat 0 (by omega);rw[Go.Deep.add_add] at this;simpa using this
   ·have:=hat 1 (by omega);rw[Go.Deep.add_add] at this;simpa using this
   ·have:=hat 2 (by omega);rw[Go.Deep.add_add] at this;simpa using this
  by_cases hz:len=0
  ·subst hz
   refine⟨[],by simp,?_⟩
   rw[Rep]
   exact⟨some a,cap,rfl,⟨hl,fun h=>by cases h⟩,.inl rfl,trivial⟩
  ·obtain⟨s0,c0,_⟩:=hcell 0 (by omega)
   have hspot:a=⟨a.block,a.off,none⟩:=by
    cases a with
    | mk b o sp=>
     cases sp with
     |none=>rfl
     | some k=>
      exfalso
      simp[Addr.add,World.cell?] at c0
      split at c0<;>simp at c0
   have hadd: ∀j,a.add j=⟨a.block,a.off+j,none⟩:=fun j=>by
    by_cases hj:j=0
    ·subst hj;simp[Addr.add];exact hspot
    ·simp[Addr.add,hj]
   let g:Nat→Sm:=fun i=>if h:i<m then Classical.choose (hcell i h) else(0,0,0)
   have hg: ∀i (him:i<m),W.cell? (a.add (i*3))=some (.int .u8 ((g i).1:Int))∧W.cell? (a.add (i*3+1))=some (.int .u8 ((g i).2.1:Int))∧W.cell? (a.add (i*3+2))=some (.int .u8 ((g i).2.2:Int))∧(g i).2.1<256:=fun i him=>by
    have e:g i=Classical.choose (hcell i him):=dif_pos him
    rw[e];exact Classical.choose_spec (hcell i him)
   have hml:maxLen<2^63:=by decide
   refine⟨(List.range len).map g,⟨by simp;omega,fun x hx=> ?_⟩,?_⟩
   ·obtain⟨i,hi',rfl⟩:=List.mem_map.1 hx
    exact(hg i (by have:=List.mem_range.1 hi';omega)).2.2.2
   rw[Rep]
   refine⟨some a,cap,by simp,⟨by simpa using hl,fun h=>by cases h⟩,.inr ⟨a.block,a.off,by rw[←hspot],z4p W a.block len a.off g fun i hi=> ?_⟩,trivial⟩
   have:=hg i (by omega)
   rw[hadd,hadd,hadd] at this
   exact⟨this.1,this.2.1,this.2.2.1⟩
end
theorem zpe {H:Type} {enc:TypeId×Value→H} {P:Program} (hl:laidOutB P=true) {W W':World} (hb:Below W.heap.size W W'): ∀ {ts:List TypeId} {vs:List Value} {ds:List (DataW H)} {ps:List MemPlace},
 (ts.all fun t=>P.readableRec t&&decide (t<P.types.size))=true→DataW.TrodAll enc P W 0 (fun _=>true) true ts vs ds ps→(∀x∈ps,x.block<W.heap.size)→DataW.TrodAll enc P W' 0 (fun b=>decide (b<W.heap.size)) true ts vs ds ps
 | [],vs,ds,ps,_,h,_=>by
  cases vs with
  | nil=>
   cases ds with
   |nil=>exact h
   |cons=>exact h.elim
  |cons=>exact h.elim
 | t::ts,vs,ds,ps,ht,h,hlt=>by
  obtain⟨v,vs',d,ds',p,q,rfl,rfl,rfl,hd,hr⟩:=trodAll_cons h
  simp only[List.all_cons,Bool.and_eq_true,decide_eq_true_eq] at ht
  exact⟨p,q,Below.trod hl ht.1.1 ht.1.2 hd hb fun x hx=>hlt x (by simp[hx]),zpe hl hb ht.2 hr fun x hx=>hlt x (by simp[hx]),rfl⟩
end Go.Ab
set_option maxRecDepth 100000
namespace Go.Ab
open Go Go.RowKit Go.Fwd Go.Proofs Go.ChangeShapes Go.WideShapes Go.ChangeAt Go.Deep
section
variable {H:Type} {enc:TypeId×Value→H} {P:Program} {α:Type} [Enc α]
theorem qpi (W:World)(b:Nat): ∀(len o:Nat) (g:Nat→α),(∀i,i<len→ ∃cs:List Value,zbd (ITP P) (zwh W) (Enc.cells (g i)) cs∧(∀u∈cs,u.oneCell'=true)∧ ∀j c,cs[j]? =some c→W.cell? ⟨b,o+i*Enc.sz α+j,none⟩=some c)→
 At (ITP P) (zwh W) (Enc.cellsL ((List.range len).map g)) b o
 |0,o,g,_=>by simp only[List.range_zero,List.map_nil];rw[Enc.nil,At];trivial
 | len+1,o,g,h=>by
  rw[List.range_succ_eq_map,List.map_cons,List.map_map,Enc.cons]
  obtain⟨cs,h1,h2,h3⟩:=h 0 (by omega)
  simp only[Nat.zero_mul,Nat.add_zero] at h3
  have ih:=qpi W b len (o+Enc.sz α) (g∘Nat.succ) (fun i hi=>by
   obtain⟨cs,k1,k2,k3⟩:=h (i+1) (by omega)
   refine⟨cs,k1,k2,fun j c hc=> ?_⟩
   have:=k3 j c hc
   rw[show o+(i+1)*Enc.sz α+j=o+Enc.sz α+i*Enc.sz α+j by rw[Nat.add_mul];omega] at this
   exact this)
  refine zon (z2r (vs:=cs) (fun j hj=> ?_) h2 h1 (fun j u hu=>h3 j u hu)) (by rw[Enc.len];exact ih)
  obtain⟨c,hc⟩: ∃c,cs[j]? =some c:=⟨_,List.getElem?_eq_getElem hj⟩
  exact⟨c,h3 j c hc⟩
theorem qnz {W:World} {t e:TypeId} (hu:P.underlying t=some (.slice e))(ce:P.cellsOf e=Enc.sz α)
 (el: ∀(n:Nat) (cs:List Value) (x:DataW H×List MemPlace),DataW.trod enc P W 0 (fun _=>true) true n e cs=some x→cs.length=Enc.sz α→ ∃s:α,zbd (ITP P) (zwh W) (Enc.cells s) cs∧ ∀u∈cs,u.oneCell'=true)
 {fuel:Nat} {v:Value} {x:DataW H×List MemPlace} (h:DataW.trod enc P W 0 (fun _=>true) true fuel t [v]=some x): ∃l:List α,l.length<2^63∧Rep (ITP P) (zwh W) (.list l.length (Enc.cellsL l) .none) v:=by
 rcases open_slice hu h with⟨h0,_⟩|⟨a,len,cap,m,n,D,Pl,hcs,hb,hl,hm,hmm,hx,hi⟩
 ·simp at h0
  subst h0
  refine⟨[],by simp,?_⟩
  rw[Rep]
  exact⟨none,0,rfl,⟨Nat.le_refl _,fun _=>rfl⟩,.inl (by rw[Enc.nil]),trivial⟩
 ·simp at hcs
  subst hcs
  rw[ce] at hi
  have hm':m=cap:=by simpa using hmm
  by_cases hz:len=0
  ·subst hz
   refine⟨[],by simp,?_⟩
   rw[Rep]
   exact⟨some a,cap,rfl,⟨hl,fun h=>by cases h⟩,.inl (by rw[Enc.nil]),trivial⟩
  ·have hcell: ∀i,i<m→ ∃s:α,∃cs:List Value,zbd (ITP P) (zwh W) (Enc.cells s) cs∧(∀u∈cs,u.oneCell'=true)∧cs.length=Enc.sz α∧ ∀j c,cs[j]? =some c→W.cell? (a.add (i*Enc.sz α+j))=some c:=fun i him=>by
    obtain⟨cs',hc,ht⟩:=hi i him
    obtain⟨_,hcl,hat⟩:=World.cells?_some hc
    obtain⟨s,k1,k2⟩:=el n cs' _ ht hcl
    refine⟨s,cs',k1,k2,hcl,fun j c hj=> ?_⟩
    have hjl:j<Enc.sz α:=by have:=(List.getElem?_eq_some_iff.1 hj).1;omega
    have:=hat j hjl
    rw[Go.Deep.add_add] at this
    rw[this]
    simpa using hj
   have hspot:a=⟨a.block,a.off,none⟩:=by
    obtain⟨s,cs,_,_,k3,k4⟩:=hcell 0 (by omega)
    obtain⟨c,hc⟩: ∃c,cs[0]? =some c:=⟨_,List.getElem?_eq_getElem (by rw[k3];exact Enc.pos)⟩
    have c0:=k4 0 c hc
    cases a with
    | mk b o sp=>
     cases sp with
     |none=>rfl
     | some k=>
      exfalso
      simp[Addr.add,World.cell?] at c0
      split at c0<;>simp at c0
   have hadd: ∀j,a.add j=⟨a.block,a.off+j,none⟩:=fun j=>by
    by_cases hj:j=0
    ·subst hj;simp[Addr.add];exact hspot
    ·simp[Addr.add,hj]
   let g:Nat→α:=fun i=>if h:i<m then Classical.choose (hcell i h) else Enc.inh
   have hg: ∀i (him:i<m),∃cs:List Value,zbd (ITP P) (zwh W) (Enc.cells (g i)) cs∧(∀u∈cs,u.oneCell'=true)∧cs.length=Enc.sz α∧ ∀j c,cs[j]? =some c→W.cell? (a.add (i*Enc.sz α+j))=some c:=fun i him=>by
    have e:g i=Classical.choose (hcell i him):=dif_pos him
    rw[e];exact Classical.choose_spec (hcell i him)
   have hml:maxLen<2^63:=by decide
   refine⟨(List.range len).map g,by simp;omega,?_⟩
   rw[Rep]
   refine⟨some a,cap,by simp,⟨by simpa using hl,fun h=>by cases h⟩,.inr ⟨a.block,a.off,by rw[←hspot],qpi W a.block len a.off g fun i hi=> ?_⟩,trivial⟩
   obtain⟨cs,k1,k2,k3,k4⟩:=hg i (by omega)
   refine⟨cs,k1,k2,fun j c hc=> ?_⟩
   have:=k4 j c hc
   rw[hadd] at this
   rw[Nat.add_assoc];exact this
end
theorem cells5:Tryz.prog.cellsOf 5=Enc.sz UInt8:=by kernel_rfl
theorem undB:Tryz.prog.underlying 46=some (.slice 5):=by kernel_rfl
section
variable {H:Type} {enc:TypeId×Value→H}
theorem el_u8 {W:World} (n:Nat)(cs:List Value)(x:DataW H×List MemPlace)(h:DataW.trod enc Tryz.prog W 0 (fun _=>true) true n 5 cs=some x)(hl:cs.length=Enc.sz UInt8): ∃s:UInt8,zbd (ITP Tryz.prog) (zwh W) (Enc.cells s) cs∧ ∀u∈cs,u.oneCell'=true:=by
 match cs,hl with
 | [c],_=>
  obtain⟨n0,e0,_,w0⟩:=DataW.trod_int (show Tryz.prog.underlying 5=some (.int .u8) from by kernel_rfl) h
  simp at e0
  subst e0
  have hb:=qaj w0
  refine⟨UInt8.ofNat n0.toNat,?_,fun u hu=>by rw[List.mem_singleton.1 hu];rfl⟩
  have:(((UInt8.ofNat n0.toNat).toNat:Nat):Int)=n0:=by rw[UInt8.toNat_ofNat'];omega
  show zbd _ _ [.raw (.int .u8 (((UInt8.ofNat n0.toNat).toNat:Nat):Int))] _
  rw[this]
  exact⟨_,_,rfl,rfl,rfl⟩
theorem qcb {W:World} {base:Nat} {v:Value} {d:DataW H} {p:List MemPlace} (hv:Value.okWide Tryz.prog W .any base 46 v)(h:DataW.Trod enc Tryz.prog W 0 (fun _=>true) true 46 v d p):
 ∃l:List UInt8,l.length<2^63∧Rep (ITP Tryz.prog) (zwh W) (.list l.length (Enc.cellsL l) .none) v:=by
 obtain⟨fuel,hf⟩:=h
 obtain⟨a0,len,cap,rfl⟩:=okWide_slice undB hv
 exact qnz (α:=UInt8) undB cells5 (fun n cs x h hl=>el_u8 n cs x h hl) hf
end
end Go.Ab
namespace Go.Ab
open Go Go.RowKit Go.Fwd Go.Proofs
theorem made_gd (l:List Sm):Gd (zub l):=by obtain⟨h1,h2,_,h4⟩:=made_ok l;exact⟨h1,by omega,h2⟩
theorem gd_all {t:Tr} (h:Gd t): ∃D,D.length≤400∧TD (plT t) D∧Gd (plT t)∧plT (plT t)=plT t∧nullT (plT t)=nullT t∧ztv (plT t)=0:=by
 obtain⟨h1,h2,h3⟩:=qiq h
 obtain⟨a,b,c⟩:=qqj _ t (Nat.le_refl _) h.cs
 have hp:=c h.2.2
 have hpn:=zcu t
 have h400:=h.2.2
 have htb:tbT (plT t)≤3900:=Nat.le_trans (qmg (plT t)) (Nat.le_trans (zsv (b:=61) (by omega)) (by decide))
 obtain⟨D,d,hD⟩:=pd_ex _ (plT t) (Nat.le_refl _) h1 htb (by omega)
 refine⟨D,by omega,⟨h1,htb,hD⟩,⟨h1,h2,by omega⟩,pl_id _ _ (Nat.le_refl _) ⟨h1,by omega⟩ a,b,?_⟩
 rw[ztv,if_pos (zgl (by omega))]
 have:(pre (plT t)).countP (fun x=>decide (x.k=6))=0:=List.countP_eq_zero.2 fun x hx=>by simpa using a x hx
 rw[this];rfl
theorem zpv {fuel:Nat} {t:Tr} {D:List Tr} {s:List UInt8} (h:Gd t)(hD:TD (plT t) D)(hl:D.length≤400)(hs:s.length≤4096)(hf:5000<fuel):zkt fuel t s=some ((znw [plT t] s).any nullT):=by
 have h0:RS (plT t) D [plT t]:=⟨by simp,fun y hy=>by rw[List.mem_singleton] at hy;exact .inl hy⟩
 have hr:=hD.word s _ h0
 have hb:=hD.bo hr
 have hlen:=hr.len
 unfold zkt zim
 refine zbh ((znw [plT t] s).any nullT,0) (zbh _ (zvp h hD (by omega) hs (by omega)) (zbp rfl (zbh _ (qbr nullT (by show(znw [plT t] s).length<fuel;omega) (by show(znw [plT t] s).length<2^62;omega) fun x hx=> ?_) rfl))) ?_
 ·have:=hb x hx
  have h2:=zeh this
  rw[nulQ,if_pos ⟨by omega,this.1⟩]
 ·cases (znw [plT t] s).any nullT<;>rfl
theorem qiv {fuel:Nat} (x:List Sm)(b:List UInt8)(hl:x.length<2^63)(hu: ∀y∈x,y.2.1<256)(hf:5000<fuel):zsn fuel x b=some true:=by
 obtain⟨t,ht⟩: ∃t,zub x=t:=⟨_,rfl⟩
 have hg:Gd t:=ht▸made_gd x
 obtain⟨D,d,hD,hgp,hid,hnu,hgr⟩:=gd_all hg
 have hDp:TD (plT (plT t)) D:=by rw[hid];exact hD
 obtain⟨p,hp⟩: ∃p,plT t=p:=⟨_,rfl⟩
 obtain⟨s,hs⟩: ∃s,sub b 0 (min (List.length b:Int) 10)=s:=⟨_,rfl⟩
 have hsl:s.length≤10:=by rw[←hs,sub,List.length_take];omega
 have l1:=hg.2.1
 have l2:=hgp.2.1
 have c1:zch (plT t)=true:=z8u hgp.1 (by omega)
 have hpl:=(z9e _ t (Nat.le_refl _) hg.cs).2
 have w1:=zvp (fuel:=fuel) (s:=s) hg hD (by omega) (by omega) (by omega)
 have w2:=zvp (fuel:=fuel) (s:=s) hgp hDp (by omega) (by omega) (by omega)
 rw[hid] at w2
 have m1:=zpv (fuel:=fuel) (s:=s) hg hD d (by omega) hf
 have m2:=zpv (fuel:=fuel) (s:=s) hgp hDp d (by omega) hf
 rw[hid] at m2
 have m3:=zpv (fuel:=fuel) (s:=[]) hg hD d (by simp) hf
 have h0:RS (plT t) D [plT t]:=⟨by simp,fun y hy=>by rw[List.mem_singleton] at hy;exact .inl hy⟩
 have hr:=hD.word s _ h0
 have hrl:=hr.len
 have q:=qls (fuel:=fuel) (hD.bo hr) (by omega) (by omega)
 have p1:=zwl hg
 have p2:=zwl hgp
 rw[hid] at p2
 have n1:=z2o hg
 have n2:=z2o hgp
 rw[hnu] at n2
 unfold zsn
 refine zm ⟨hl,hu⟩ (zad fun x1 e1=> ?_)
 rw[ht] at e1;subst e1
 refine zm (by omega) ?_
 rw[hs]
 refine zbh _ p1 (zbh _ p2 (zbh _ n1 (zbh _ n2 (zbh _ w1 (zbh _ w2 ?_)))))
 refine zm (by simp) (zm (by simp) (zm (by simp) (zm (by simp) (zm (by simp) (zaw rfl (zm (by simp only;omega) (zad fun x8 e8=> ?_)))))))
 simp only at e8
 rw[c1] at e8;subst e8
 refine zaw rfl (zm (by simp only;omega) (zad fun x9 e9=> ?_))
 simp only at e9
 rw[hgr] at e9;subst e9
 refine zaw rfl (zm (by simp only;omega) (zad fun x10 e10=>zm (by omega) (zad fun x11 e11=> ?_)))
 simp only at e10
 rw[ztc,if_pos (zgl (by omega))] at e10 e11
 subst e10 e11
 refine zaw (by simp;omega) (zm (by simp only;omega) (zad fun x12 e12=> ?_))
 simp only at e12
 rw[zkm,zgl (show(pre (plT t)).length≤10000 by omega),zwm] at e12
 subst e12
 refine zaw rfl (zaw (by simp) (zbh _ q (zaw rfl (zbh _ m1 (zbh _ m2 (zbp (by simp) (zbh _ m3 (zbp ?_ (zbh _ (zov hg) (zbp rfl (zbh _ (zov hgp) rfl)))))))))))
 simp[znw,hnu]
theorem qgt (x:List Sm)(b:List UInt8)(hl:x.length<2^63)(hu: ∀y∈x,y.2.1<256):Pure (ITP Tryz.prog) Tryz.prog 4 [.list x.length (Enc.cellsL x) .none,.list b.length (Enc.cellsL b) .none] (.raw (.bool true)):=qeb 5001 x b true (qiv x b hl hu (by omega))
end Go.Ab
namespace Go.Proofs.YtfkkellnlmjenaaGreat
open Go Go.Ab Go.ChangeShapes Go.WideShapes Go.ChangeAt Go.RowKit Go.Fwd
theorem derivePlain_lifted (os:Os)(started:os.Started)(H:Type)(enc:TypeId×Value→H):
 ReturnsInHanded {} Tryz.checked os 4 .any (Rows.derivePlainSpec.pre6 enc Tryz.prog Tryz.f4 Rows.derivePlainRow.domain false) (Rows.derivePlainSpec.post enc Tryz.prog Tryz.f4 false true false false):=by
 refine returnsInHanded_of_change_shaped (C:=Tryz.checked) ownLess started (by kernel_rfl) Tryz.func4
  (ChangeSpec.witness6 (enc:=enc) (C:=Tryz.checked) false ⟨#[], #[.slice .none 0 0,.slice .none 0 0],[]⟩ 8 (by kernel_rfl) (by kernel_rfl) (by kernel_rfl) (by kernel_rfl)) ?_
 intro W base args ds gs before hval0 hW _ _ hS _
 have hval: ∀(j:Nat) t v,Tryz.f4.params[j]? =some t→args[j]? =some v→Value.okWide Tryz.prog W .any base t v:=hval0
 have hW':=hW
 obtain⟨p,q,hA0,hV,rfl,_,_⟩:=hW
 have hA:DataW.TrodAll enc Tryz.prog W 0 (fun _=>true) true Tryz.f4.params.toList args.toList ds p:=hA0
 rw[show Tryz.f4.params.toList=[22,46] from by kernel_rfl] at hA
 have hA1:=hA
 obtain⟨v0,v1,d0,d1,p0,p1,rfl,rfl,rfl,h0,h1⟩:=trodAll_two hA
 obtain⟨rfl,rfl⟩:=trodVars_none hV
 obtain⟨l0,hl0,hr0⟩:=qcd (hval 0 22 v0 (by kernel_rfl) rfl) h0
 obtain⟨l1,hl1,hr1⟩:=qcb (hval 1 46 v1 (by kernel_rfl) rfl) h1
 clear hA0 hval0
 simp only[List.append_nil] at hW'
 have hlt:=hW'.lt
 refine(qnl (qgt l0 l1 hl0.1 hl0.2) W hS (vs:=[v0,v1]) ⟨_,_,rfl,hr0,_,_,rfl,hr1,rfl⟩).mono fun e W' ⟨he,hw⟩=> ?_
 subst he
 refine⟨_,rfl,?_⟩
 refine⟨_,_,_,[]++[],p0++p1,[],hW',?_,?_,rfl,hw.toBelow.frame _,fun h=>by cases h⟩
 ·exact trodAll_mk1 (shut_bool (show Tryz.prog.underlying 4=some .bool from by kernel_rfl) true)
 ·exact zpe laidOut hw.toBelow (by kernel_rfl) hA1 (fun x hx=>hlt x (by simpa using hx))
theorem derivePlain_holds:Rows.DerivePlainSaid:=
 OpenClaim.holds_of_wide 4 Tryz.f4 rfl rfl rfl rfl rfl rfl rfl ⟨rfl,rfl,rfl,rfl,rfl⟩ rfl rfl rfl rfl rfl (by kernel_rfl) Tryz.func4 (by kernel_rfl)
  (of_decide_eq_true (by kernel_rfl)) (by unfold Func.isWrapper;rw[if_neg (by decide+kernel)];exact⟨rfl,rfl⟩)
  (fun os started H enc _=>derivePlain_lifted os started H enc)
end Go.Proofs.YtfkkellnlmjenaaGreat
