/-
  Functions that are handed a function, called by functions that were handed one themselves.
-/
import Derived.Test.YtfkkellnlmjenaaGreatZdP
set_option linter.unusedSimpArgs false
set_option linter.unusedVariables false
namespace Go.Ab
open Go Go.RowKit Go.Fwd
def zff (k:Nat):St:=⟨[],[],[],k,false⟩
def aendC (P:Program)(fn:Func)(n:Nat):AQ
 | .exit _,_,_=>False
 |_,S,σ=>(∃a,zbo P fn σ S=some a)∧σ.stop=false∧σ.out=n
theorem zzb {P:Program} (hmix:P.follows .mixedOrders=true) {f:FuncId} {fn:Func} {c:Code} {args:List AV} {σ:St} {Q:AQ} {X:Cx} {vs:List Value} {R:Ending→World→Prop} {G:Gen} (hG:GenOk P G)(hB:G.B≤X.w.heap.size)(hf:P.funcs[f]? =some fn)(hb:fn.body=some c)
 {k0:Nat} (hk0:σ.boxes.length=k0) (h:awp (ITP P) P (some G) k0 c Q (zbf fn args) σ) (hI:Inv (ITP P) σ X) (hM:Fr G σ X) (hr:zbl (ITP P) X args vs)
 (hQ: ∀e S σ' Y,Q e S σ'→ExtG G.B X Y→Inv (ITP P) σ' Y→Fr G σ' Y→(e= .normal∨e= .ret)∧ ∃a,zbo P fn σ' S=some a∧ ∀v,Rep (ITP P) Y a v→R (.returned v) Y.w):Calls P f vs.toArray X.w R:=
 ziw (M:=some G) hmix ⟨hG,hB⟩ hf hb hk0 h hI hM hr hQ
theorem qiz {P :Program} (hmix:P.follows .mixedOrders=true) {f:FuncId} {fn:Func} {c:Code} {args:List AV} {G:Gen} {k n:Nat} (hG:GenOk P G)(hf:P.funcs[f]? =some fn)(hb:fn.body=some c)(he:Ent P f)
    (h:awp (ITP P) P (some G) 0 c (aendC P fn n) (zbf fn args) (zff k)):z4z (ITP P) P G f args (zff k) .top (zff n):=by
  refine⟨he,fun X vs hI hr hF=> ?_⟩
  have hκ:X.κ=[]:=List.length_eq_zero_iff.1 (by have:=hI.κlen;simpa[zff] using this)
  have hl:X.lens=[]:=hI.lens
  have hβ:X.β=[]:=List.length_eq_zero_iff.1 (by have:=hI.βlen;rw[hl] at this;simpa using this)
  have hF2:=hF
  obtain⟨s0,_,_,_,hB0,_⟩:Fr G (zff k) X:=hF2
  refine zzb hmix hG hB0 hf hb (k0:=0) rfl h hI hF hr ?_
  intro e S σ' Y hq hE hIY hFY
  have fin : (∃a,zbo P fn σ' S=some a)∧σ'.stop=false∧σ'.out=n→ ∃a,zbo P fn σ' S=some a∧ ∀v,Rep (ITP P) Y a v→
      ∃v' X',Ending.returned v= .returned v'∧X'.w=Y.w∧ExtG G.B X X'∧Inv (ITP P) (zff n) X'∧Rep (ITP P) X' .top v'∧Fr G (zff n) X':=fun⟨⟨a,h1⟩,h2,h3⟩=>by
    refine⟨a,h1,fun v _=>⟨v,⟨Y.F,[],[],[],Y.w,Y.O,Y.C⟩,rfl,rfl,?_,?_,by rw[Rep];trivial,?_⟩⟩
    · exact {hE with
        F:=hE.F,cell:=hE.cell
        κ:=fun s b hs=>by rw[hκ] at hs;simp at hs
        lens:=fun s L hs=>by rw[hl] at hs;simp at hs
        blk:=hE.blk
        szs:=hE.szs
        os:=hE.os,tape:=hE.tape,output:=hE.output,size:=hE.size,drawn:=hE.drawn
        κnew:=fun b hb=>by simp at hb
        βnew:=fun r hr=>by simp at hr
        Onew:=hE.Onew,Fnew:=hE.Fnew,Cmono:=hE.Cmono,Cnew:=hE.Cnew,frame:=hE.frame}
    · exact { lens:=rfl,elems:=rfl,κlen:=rfl,κnd:=fun s s' b h=>by simp at h,box:=fun s b t cs h=>by simp at h,κF:=fun s b t cs h=>by simp at h,βlen:=rfl,βnd:=List.nodup_nil,βκ:=fun r h=>by simp at h
              row:=fun s r L h=>by simp at h
              Ok:=fun b hb=>by obtain⟨k1,_,_,k4⟩:=hIY.Ok b hb;exact⟨k1,by simp,by simp,k4⟩
              Fcell:=hIY.Fcell
              gv:=hIY.gv}
    · obtain⟨s,f1,f2,f3,f4,f5,f6,f7⟩:=hFY
      refine⟨s,f1,⟨f2.1,fun b o hc=>(f2.2 b o hc).imp id fun⟨k1,_,_⟩=>⟨k1,by simp,by simp⟩⟩,?_,f4,by simp,by simp,f7⟩
      rw[if_neg (by rw[h2];simp),h3] at f3
      rw[if_neg (by simp[zff])];exact f3
  cases e with
  |normal=>exact⟨.inl rfl,fin hq⟩
  |ret=>exact⟨.inr rfl,fin hq⟩
  |exit id=>exact hq.elim
theorem kept_g {IT:IterP} {G:Gen} {X Y:Cx} {F1:Nat→Nat→Prop} {s:Frn} {σ':St} (hown: ∀b,¬G.own b)(hF: ∀b o,F1 b o→X.F b o)(hκ:X.κ=[])(hβ:X.β=[])(hs: ∀b,s.O b↔X.O b)(hC: ∀b o,s.C b o↔X.C b o)(hE:ExtG G.B X Y)(hI:Inv IT σ' Y)(hF1: ∀b o,X.F b o→F1 b o)
 (hCY: ∀b o,Y.C b o→Y.F b o∨b<Y.w.heap.size) (hFlt: ∀b o,Y.F b o→b<Y.w.heap.size):Kept G.B G.own s ⟨Y.O,Y.C⟩ F1 X.w Y.w where
 os:=hE.os
 tape:=hE.tape
 output:=hE.output
 size:=hE.size
 drawn:=hE.drawn
 own:=fun k o hk hO h=>by
  rcases hk with hk|hk
  ·exact hE.frame k o h hk (by rw[hκ];simp) (by rw[hβ];simp) fun ho=>hO ((hs k).2 ho)
  ·exact absurd hk (hown k)
 cell:=fun b o hf=>hE.cell b o (hF b o hf)
 O :=fun b hb=>by
  refine⟨(hE.Onew b hb).imp (hs b).2 id,?_⟩
  obtain⟨⟨cs,t,f,h⟩,_⟩:=hI.Ok b hb
  exact⟨cs,t,f,h⟩
 Cmono:=fun b o hc=>hE.Cmono b o ((hC b o).1 hc)
 C :=fun b o hc=>by
  refine⟨?_,(hCY b o hc).elim (hFlt b o) id⟩
  rcases hE.Cnew b o hc with h|h|h|h|⟨q,hq,_⟩|h
  ·exact .inl ((hC b o).2 h)
  ·exact .inr (.inl (hF1 b o h))
  ·exact .inr (.inr (.inl ((hs b).2 h)))
  ·exact .inr (.inr (.inr h))
  ·rw[hβ] at hq;simp at hq
  ·rw[hκ] at h;simp at h
 szs:=hE.szs
theorem z2a {IT:IterP} (hIT:ITMono IT) {P:Program} {G:Gen} (hown: ∀b,¬G.own b) {f:FuncId} {args args':List AV} {k n:Nat} (h:z4z IT P G f args' (zff k) .top (zff n))(hargs:stripL args=args')(hok:zaa 0 args=true) {σ:St} (ho:σ.out=k)(hst:σ.stop=false):
    z4z IT P G f args σ .top {σ with out:=n}:=by
  subst hargs
  refine⟨h.1,fun X vs hI hr hF=> ?_⟩
  obtain⟨s,f1,f2,f3,f4,f5,f6,f7⟩:=hF
  rw[if_neg (by rw[hst];simp),ho] at f3
  have hI0:Inv IT (zff k) ⟨X.F,[],[],[],X.w,X.O,X.C⟩:=
    { lens:=rfl,elems:=rfl,κlen:=rfl,κnd:=fun s s' b h=>by simp at h,box:=fun s b t cs h=>by simp at h,κF:=fun s b t cs h=>by simp at h,βlen:=rfl,βnd:=List.nodup_nil,βκ:=fun r h=>by simp at h
      row:=fun s r L h=>by simp at h
      Ok:=fun b hb=>by obtain⟨k1,_,_,k4⟩:=hI.Ok b hb;exact⟨k1,by simp,by simp,k4⟩
      Fcell:=hI.Fcell
      gv:=hI.gv}
  have hF0:Fr G (zff k) ⟨X.F,[],[],[],X.w,X.O,X.C⟩:=
    ⟨s,f1,⟨f2.1,fun b o hc=>(f2.2 b o hc).imp id fun⟨k1,_,_⟩=>⟨k1,by simp,by simp⟩⟩,by rw[if_neg (by simp[zff])];exact f3,f4,by simp,by simp,f7⟩
  have hr0:zbl IT ⟨X.F,[],[],[],X.w,X.O,X.C⟩ (stripL args) vs:=zcp (X:=X) (Y:=⟨X.F,[],[],[],X.w,X.O,X.C⟩) hIT rfl rfl args vs (.inl hok) hr
  refine(h.2 _ vs hI0 hr0 hF0).mono ?_
  rintro e w' ⟨v,Y,rfl,rfl,hE,hIY,_,hFY⟩
  obtain⟨t,g1,g2,g3,g4,g5,g6,g7⟩:=hFY
  rw[if_neg (by simp[zff])] at g3
  have hkp:Kept G.B G.own s ⟨Y.O,Y.C⟩ X.F X.w Y.w:=kept_g (X:=⟨X.F,[],[],[],X.w,X.O,X.C⟩) hown (fun _ _ h=>h) rfl rfl f1 f2.1 hE hIY (fun _ _ h=>h)
    (fun b o hc=>(g2.2 b o ((g2.1 b o).2 hc)).imp id fun h=>h.1) (fun b o hf=>hIY.Flt hf)
  obtain⟨x1,x2,x3,x4⟩:=zth hIT (P:=P) (G:=G) f1 f2.1 f2.2 f4 f5 f6 hI hkp
  refine⟨v,{X with w:=Y.w,O:=Y.O,C:=Y.C},rfl,rfl,x1,?_,by rw[Rep];trivial,?_⟩
  · exact {x2 with lens:=x2.lens,elems:=x2.elems,κlen:=x2.κlen,κnd:=x2.κnd,box:=x2.box,κF:=x2.κF,row:=x2.row}
  · refine⟨⟨Y.O,Y.C⟩,fun b=>Iff.rfl,⟨fun b o=>Iff.rfl,x4⟩,?_,Nat.le_trans f4 hkp.size,f5,f6,f7⟩
    have ht:t=⟨Y.O,Y.C⟩:=by
      obtain⟨tO,tC⟩:=t
      have e1:tO=Y.O:=funext fun b=>propext (g1 b)
      have e2:tC=Y.C:=funext fun b=>funext fun o=>propext (g2.1 b o)
      subst e1 e2;rfl
    rw[if_neg (by show ¬σ.stop=true;rw[hst];simp),←ht];exact g3
theorem zmh {IT:IterP} {X:Cx}: ∀ {l m:List AV} {vs:List Value},zbl IT X (l++m) vs→ ∃us ws,vs=us++ws∧zbl IT X l us∧zbl IT X m ws
 |[],m,vs,h=>⟨[],vs,rfl,by rw[zbl],h⟩
 | a::l,m,vs,h=>by
  obtain⟨v,r,rfl,h1,h2⟩:=h
  obtain⟨us,ws,rfl,k1,k2⟩:=zmh (l:=l) h2
  exact⟨v::us,ws,rfl,⟨v,us,rfl,h1,k1⟩,k2⟩
theorem zok {IT:IterP} {X:Cx}: ∀ {cv vs:List Value},zbl IT X (cv.map AV.raw) vs↔vs=cv
 |[],vs=>by rw[List.map_nil,zbl]
 | c::cv,vs=>by
  rw[List.map_cons]
  constructor
  ·rintro⟨v,r,rfl,h1,h2⟩
   rw[Rep] at h1
   rw[h1,zok.1 h2]
  ·rintro rfl
   exact⟨c,cv,rfl,by rw[Rep],zok.2 rfl⟩
def Rnd (P:Program)(G:Gen)(g:FuncId)(cv:List Value)(k:Nat)(row:List AV):Prop:=
 ∀ (s:Frn) (W:World) (us:List Value) (F1:Nat→Nat→Prop),G.J k s W→G.B≤W.heap.size→(∀b o,F1 b o→G.F0 b o∨G.B≤b∨G.own b)→(∀b o,F1 b o→(¬s.O b∨s.C b o)∧ ∃v,W.cell? ⟨b,o,none⟩=some v)→
  zbl qjo ⟨F1,[],[],[],W,fun _=>False,fun _ _=>False⟩ row us→
  Calls P g (us++cv).toArray W fun e W'=>(∃v,e= .returned v)∧ ∃s',Kept G.B G.own s s' F1 W W'∧G.J (k+1) s' W'
theorem qiu {IT:IterP} (hIT:ITMono IT) {P:Program} {G:Gen} {g:FuncId} {cv:List Value} {k:Nat} {row args:List AV} {σ:St} (he:Ent P g)(hR:Rnd P G g cv k row)(hs:stripL args=row)(hok:zaa 0 args=true)(hni:zco args=true)(ho:σ.out=k)(hst:σ.stop=false):
 z4z IT P G g (args++cv.map AV.raw) σ .top {σ with out:=k+1}:=by
 refine⟨he,fun X vs hI hr hF=> ?_⟩
 obtain⟨us,ws,rfl,hr1,hr2⟩:=zmh hr
 rw[zok] at hr2
 subst hr2
 obtain⟨s,f1,f2,f3,f4,f5,f6,f7⟩:=hF
 rw[if_neg (by rw[hst];simp),ho] at f3
 have hr0:zbl qjo ⟨X.F,[],[],[],X.w,fun _=>False,fun _ _=>False⟩ row us:=by
  rw[←hs]
  exact zcp (IT:=qjo) (X:=X) (Y:=⟨X.F,[],[],[],X.w,fun _=>False,fun _ _=>False⟩) ⟨fun _ _ _ _ _ _ _ h=>h.elim,fun _ _ _ _ _ _ _ _=>trivial,fun _ _ h=>h.elim⟩ rfl rfl args us (.inl hok) (zgy args us hni hr1)
 refine(hR s X.w us X.F f3 f4 f7 (fun b o hf=>⟨(Classical.em (s.O b)).elim (fun ho=> .inr ((f2.1 b o).2 ((hI.Ok b ((f1 b).1 ho)).2.2.2 o hf))) .inl,hI.Fcell b o hf⟩) hr0).mono ?_
 rintro e W' ⟨⟨v,rfl⟩,s',hkp,hj⟩
 obtain⟨x1,x2,x3,x4⟩:=zth hIT (P:=P) (G:=G) f1 f2.1 f2.2 f4 f5 f6 hI hkp
 refine⟨v,{X with w:=W',O:=s'.O,C:=s'.C},rfl,rfl,x1,?_,by rw[Rep];trivial,?_⟩
 ·exact {x2 with lens:=x2.lens,elems:=x2.elems,κlen:=x2.κlen,κnd:=x2.κnd,box:=x2.box,κF:=x2.κF,row:=x2.row}
 ·exact⟨s',fun b=>Iff.rfl,⟨fun b o=>Iff.rfl,x4⟩,by rw[if_neg (by show ¬σ.stop=true;rw[hst];simp)];exact hj,Nat.le_trans f4 hkp.size,f5,f6,f7⟩
theorem snd_sw {P:Program} {f g:FuncId} {pre pre' caps:List AV} {σ:Nat→St} {rows:Nat→List AV} {m:Nat} (he:Ent P f)(hpre:stripL pre=pre')(hok:zaa 0 pre=true)(hrow: ∀k,k<m→zaa 0 (rows k)=true)
    (hf: ∀(G:Gen) (cv:List Value),GenOk P G→(∀b,¬G.own b)→(∀k,k<m→Rnd P G g cv k (rows k))→z4z (ITP P) P G f (pre'++[.clos g (cv.map AV.raw)]) (zff 0) .top (zff m))
    (hch: ∀k,k<m→Snd (ITP P) P g (rows k++caps) (σ k) .top (σ (k+1))):Snd (ITP P) P f (pre++[.clos g caps]) (σ 0) .top (σ m):=by
  refine⟨he,fun X vs hI hr=> ?_⟩
  have hIT:=zat P
  obtain⟨us,ws,rfl,hr1,hr2⟩:=zmh hr
  obtain⟨cl,r,rfl,⟨cv,rfl,hcv⟩,hr3⟩:=hr2
  rw[zbl] at hr3
  subst hr3
  let J:Nat→Frn→World→Prop:=fun k s W=> ∃Y,Y.w=W∧Ext X Y∧Inv (ITP P) (σ k) Y∧Cov none s Y
  let G:Gen:=⟨X.w.heap.size,X.F,0,[],J,fun _ _=>False,fun _=>False⟩
  have hG:GenOk P G:={
    hJ :=fun k s W W' hj _ hm=>by
      obtain⟨Y,rfl,h1,h2,h3⟩:=hj
      obtain⟨k1,k2,_,k4,_⟩:=zjv (M:=none) (B:=0) (N:=fun _=>False) (Bm:=X.w.heap.size) trivial (Nat.zero_le _) (fun _ h=>h.elim) (show Rel none X Y from h1) h2 trivial h3 (Nat.le_refl _) hm
      exact⟨_,rfl,k1,k2,k4⟩
    hJx:=fun s W W' h _ _=>h
    rounds:=fun k s W row us F1 h=>by simp[G] at h}
  have hR: ∀k,k<m→Rnd P G g cv k (rows k):=fun k hk s W us F1 hj _ hF0 hF1 hru=>by
    obtain⟨Y,rfl,h1,h2,h3⟩:=hj
    obtain⟨k1,k2,_,k4⟩:=zph (M:=none) (B:=0) (N:=fun _=>False) (Bi:=X.w.heap.size) (F1:=F1) (F0:=X.F) (Nat.zero_le _) (fun _ h=>h.elim) trivial (show Rel none X Y from h1) h2 trivial h3 (fun b o h=>h1.F b o h) (Nat.le_refl _) hF0 hF1
    have k1:Ext X {Y with F:=fun b o=>Y.F b o∨F1 b o}:=k1
    have hrow':zbl (ITP P) {Y with F:=fun b o=>Y.F b o∨F1 b o} (rows k) us:=zmx (X:=⟨F1,[],[],[],Y.w,fun _=>False,fun _ _=>False⟩) (Y:={Y with F:=fun b o=>Y.F b o∨F1 b o}) (fun b o h=>Or.inr h) rfl rfl rfl _ _ hru
    have hcaps:zbl (ITP P) {Y with F:=fun b o=>Y.F b o∨F1 b o} caps cv:=zba hIT k1 _ _ hcv
    refine((hch k hk).2 _ (us++cv) k2 (zbq hrow' hcaps)).mono ?_
    rintro e W' ⟨v,Z,rfl,rfl,hE,hIZ,_⟩
    refine⟨⟨v,rfl⟩,zgh none Z,?_,Z,rfl,Ext.trans k1 hE,hIZ,zhv none Z⟩
    exact z7q (M:=none) h2 trivial h3 (Rel.toC (M:=none) (show Rel none _ Z from hE) (fun G e=>by cases e) (fun k h=>h.elim)) hIZ trivial fun q o hq hk hc=>Ext.noncells hE k2 hk hc
  have hI0:Inv (ITP P) (zff 0) ⟨X.F,[],[],[],X.w,(zgh none X).O,(zgh none X).C⟩:=
    { lens:=rfl,elems:=rfl,κlen:=rfl,κnd:=fun s s' b h=>by simp at h,box:=fun s b t cs h=>by simp at h,κF:=fun s b t cs h=>by simp at h,βlen:=rfl,βnd:=List.nodup_nil,βκ:=fun r h=>by simp at h
      row:=fun s r L h=>by simp at h
      Ok:=fun b hb=>⟨(zhv none X).cells hI b hb,by simp,by simp,fun o hf=> .inl hf⟩
      Fcell:=hI.Fcell
      gv:=hI.gv}
  have hF0:Fr G (zff 0) ⟨X.F,[],[],[],X.w,(zgh none X).O,(zgh none X).C⟩:=
    ⟨zgh none X,fun _=>Iff.rfl,⟨fun _ _=>Iff.rfl,fun b o hc=>hc.elim .inl fun h=>h.elim⟩,by rw[if_neg (by simp[zff])];exact⟨X,rfl,Ext.refl X,hI,zhv none X⟩,Nat.le_refl _,by simp,by simp,fun b o hf=> .inl hf⟩
  have hr0:zbl (ITP P) ⟨X.F,[],[],[],X.w,(zgh none X).O,(zgh none X).C⟩ (pre'++[.clos g (cv.map AV.raw)]) (us++[.func (.func g) #[] cv.toArray]):=by
    refine zbq ?_ ⟨_,[],rfl,⟨cv,rfl,zok.2 rfl⟩,by rw[zbl]⟩
    rw[←hpre]
    exact zcp (X:=X) (Y:=⟨X.F,[],[],[],X.w,(zgh none X).O,(zgh none X).C⟩) hIT rfl rfl pre us (.inl hok) hr1
  refine((hf G cv hG (fun b h=>h) hR).2 _ _ hI0 hr0 hF0).mono ?_
  rintro e w' ⟨v,Y,rfl,rfl,_,_,_,hFY⟩
  obtain⟨s,_,_,f3,_⟩:=hFY
  rw[if_neg (by simp[zff])] at f3
  obtain⟨Z,hZw,hZ1,hZ2,_⟩:=f3
  exact⟨v,Z,rfl,hZw,hZ1,hZ2,by rw[Rep];trivial⟩
theorem zpu {IT:IterP} {P:Program} {W:Owed} {ops:Array Oper} {Q:List AV→St→Prop} {o:Oper} {l:List Oper} {S S':List AV} {σ σ':St} {f:FuncId} {args:List AV} {r:AV} {G:Gen} (hp:z4z IT P G f args σ r σ')(hW:W=some G)(hg:o.guard=none)(hc:zdo S o=some (f,args))(hS:zh S o.dst r=S')
 (k:zcz IT P W ops Q l S' σ'):zcz IT P W ops Q (o::l) S σ:=by
 simp only[zcz,hg,zgp,hc]
 exact⟨r,σ',.inr (.inr (.inr ⟨G,hW,hp⟩)),by rw[hS];exact k⟩
theorem zvj (n:Nat): ∀cv:List Value,zaa n (cv.map AV.raw)=true
 |[]=>by rw[List.map_nil,zaa]
 |v::cv=>by rw[List.map_cons,zaa,zvj n cv,zbk];rfl
theorem zxc: ∀cv:List Value,stripL (cv.map AV.raw)=cv.map AV.raw
 |[]=>by rw[List.map_nil,stripL]
 |v::cv=>by rw[List.map_cons,stripL,zxc cv,zcv]
theorem sndg_sw {P:Program} {H:Gen} (hGH:GenOk P H) {f g:FuncId} {pre pre' caps:List AV} {σ:Nat→St} {rows:Nat→List AV} {m:Nat} (he:Ent P f)(hpre:stripL pre=pre')(hok:zaa 0 pre=true)(hst: ∀k,(σ k).stop=false)
    (hf: ∀(G:Gen) (cv:List Value),GenOk P G→(∀b,¬G.own b)→(∀k,k<m→Rnd P G g cv k (rows k))→z4z (ITP P) P G f (pre'++[.clos g (cv.map AV.raw)]) (zff 0) .top (zff m))
    (hch: ∀k,k<m→z4z (ITP P) P H g (rows k++caps) (σ k) .top (σ (k+1))):z4z (ITP P) P H f (pre++[.clos g caps]) (σ 0) .top (σ m):=by
  refine⟨he,fun X vs hI hr hF=> ?_⟩
  have hIT:=zat P
  have hHB:H.B≤X.w.heap.size:=by obtain⟨_,_,_,_,h,_⟩:Fr H (σ 0) X:=hF;exact h
  have hGM:z4t P H.B (some H):=⟨hGH,Nat.le_refl _⟩
  obtain⟨us,ws,rfl,hr1,hr2⟩:=zmh hr
  obtain⟨cl,r,rfl,⟨cv,rfl,hcv⟩,hr3⟩:=hr2
  rw[zbl] at hr3
  subst hr3
  let J:Nat→Frn→World→Prop:=fun k s W=> ∃Y,Y.w=W∧Rel (some H) X Y∧Inv (ITP P) (σ k) Y∧FrM (some H) (σ k) Y∧Cov (some H) s Y
  let G:Gen:=⟨X.w.heap.size,X.F,0,[],J,fun _ _=>False,fun _=>False⟩
  have hG:GenOk P G:={
    hJ :=fun k s W W' hj _ hm=>by
      obtain⟨Y,rfl,h1,h2,h3,h4⟩:=hj
      obtain⟨k1,k2,k3,k4,_⟩:=zjv (M:=some H) (B:=H.B) (N:=fun _=>False) (Bm:=X.w.heap.size) hGM hHB (fun _ h=>h.elim) h1 h2 h3 h4 (Nat.le_refl _) hm
      exact⟨_,rfl,k1,k2,k3,k4⟩
    hJx:=fun s W W' h _ _=>h
    rounds:=fun k s W row us F1 h=>by simp[G] at h}
  have hR: ∀k,k<m→Rnd P G g cv k (rows k):=fun k hk s W us F1 hj _ hF0 hF1 hru=>by
    obtain⟨Y,rfl,h1,h2,h3,h4⟩:=hj
    obtain⟨k1,k2,k3,k4⟩:=zph (M:=some H) (B:=H.B) (N:=fun _=>False) (Bi:=X.w.heap.size) (F1:=F1) (F0:=X.F) hHB (fun _ h=>h.elim) hGM h1 h2 h3 h4 (fun b o h=>h1.F b o h) (Nat.le_refl _) hF0 hF1
    have k1:ExtG H.B X {Y with F:=fun b o=>Y.F b o∨F1 b o}:=k1
    have hrow':zbl (ITP P) {Y with F:=fun b o=>Y.F b o∨F1 b o} (rows k) us:=zmx (X:=⟨F1,[],[],[],Y.w,fun _=>False,fun _ _=>False⟩) (Y:={Y with F:=fun b o=>Y.F b o∨F1 b o}) (fun b o h=>Or.inr h) rfl rfl rfl _ _ hru
    have hcaps:zbl (ITP P) {Y with F:=fun b o=>Y.F b o∨F1 b o} caps cv:=zdj hIT k1.toSub _ _ hcv
    refine((hch k hk).2 _ (us++cv) k2 (zbq hrow' hcaps) k3).mono ?_
    rintro e W' ⟨v,Z,rfl,rfl,hE,hIZ,_,hFZ⟩
    refine⟨⟨v,rfl⟩,zgh (some H) Z,?_,Z,rfl,ExtG.trans k1 hE,hIZ,hFZ,zhv (some H) Z⟩
    refine z7q (M:=some H) h2 h3 h4 (Rel.toC (M:=some H) (show Rel (some H) _ Z from hE) (fun G e=>by cases e;exact hHB) (fun k h=>h.elim)) hIZ hFZ fun q o hq hk hc=> ?_
    rcases hq with hq|hq
    · exact Rel.noncells (M:=some H) (show Rel (some H) _ Z from hE) k2 (fun G e=>by cases e;exact Nat.le_trans hHB hq) hk hc
    · exact hq.elim
  have hFX:=hF
  obtain⟨s0,f1,f2,f3,f4,f5,f6,f7⟩:Fr H (σ 0) X:=hFX
  have hI0:Inv (ITP P) (zff 0) ⟨X.F,[],[],[],X.w,(zgh (some H) X).O,(zgh (some H) X).C⟩:=
    { lens:=rfl,elems:=rfl,κlen:=rfl,κnd:=fun s s' b h=>by simp at h,box:=fun s b t cs h=>by simp at h,κF:=fun s b t cs h=>by simp at h,βlen:=rfl,βnd:=List.nodup_nil,βκ:=fun r h=>by simp at h
      row:=fun s r L h=>by simp at h
      Ok:=fun b hb=>⟨(zhv (some H) X).cells hI b hb,by simp,by simp,fun o hf=> .inl hf⟩
      Fcell:=hI.Fcell
      gv:=hI.gv}
  have hF0:Fr G (zff 0) ⟨X.F,[],[],[],X.w,(zgh (some H) X).O,(zgh (some H) X).C⟩:=
    ⟨zgh (some H) X,fun _=>Iff.rfl,⟨fun _ _=>Iff.rfl,fun b o hc=>hc.elim .inl fun h=>(f2.2 b o ((f2.1 b o).2 h)).imp id fun⟨a,_,_⟩=>⟨a,by simp,by simp⟩⟩,by rw[if_neg (by simp[zff])];exact⟨X,rfl,(Ext.refl X).toG _,hI,hF,zhv (some H) X⟩,Nat.le_refl _,by simp,by simp,fun b o hf=> .inl hf⟩
  have hr0:zbl (ITP P) ⟨X.F,[],[],[],X.w,(zgh (some H) X).O,(zgh (some H) X).C⟩ (pre'++[.clos g (cv.map AV.raw)]) (us++[.func (.func g) #[] cv.toArray]):=by
    refine zbq ?_ ⟨_,[],rfl,⟨cv,rfl,zok.2 rfl⟩,by rw[zbl]⟩
    rw[←hpre]
    exact zcp (X:=X) (Y:=⟨X.F,[],[],[],X.w,(zgh (some H) X).O,(zgh (some H) X).C⟩) hIT rfl rfl pre us (.inl hok) hr1
  refine((hf G cv hG (fun b h=>h) hR).2 _ _ hI0 hr0 hF0).mono ?_
  rintro e w' ⟨v,Y,rfl,rfl,_,_,_,hFY⟩
  obtain⟨s,_,_,g3,_⟩:=hFY
  rw[if_neg (by simp[zff])] at g3
  obtain⟨Z,hZw,hZ1,hZ2,hZ3,_⟩:=g3
  exact⟨v,Z,rfl,hZw,hZ1,hZ2,by rw[Rep];trivial,hZ3⟩
end Go.Ab
