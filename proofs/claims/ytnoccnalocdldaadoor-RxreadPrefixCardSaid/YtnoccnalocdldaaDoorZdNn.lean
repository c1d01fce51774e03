import Derived.Test.YtnoccnalocdldaaDoorZdL
set_option linter.all false
open Bool (and_eq_true)
open Nat (le_refl)
namespace Go.Ab
open Go Go.RowKit Go.Fwd
variable {IT:IterP} {P:Program} {X Y:Cx} {U U':St} {S S':List AV} {n n0:Nat}
def qae (P:Program)(U:St)(S:List AV):ResultVar->Option AV
 | .tmp t=>some ((S[t]?).getD (.raw undef))
 | .cell t ty=>zlg P U ty ((S[t]?).getD (.raw undef))
def z1k (P:Program)(U:St)(S:List AV):List ResultVar->Option (List AV)
 |[]=>some []
 |x::l=>match qae P U S x,z1k P U S l with|some a,some r=>some (a::r)|_,_=>none
def zaz (P:Program)(fn:Func)(U:St)(S:List AV):Option AV:=
 match z1k P U S fn.results.toList with
 |some [a]=>some a
 |some l=>some (.tup l)
 |none=>none
theorem z1x {tmps:Array Value} {x:ResultVar} {a:AV} (h:qae P U S x=some a)(hr:zma IT X S tmps)(hI:Inv IT U X):
 ∃v,((match x with| .tmp t=>pure (tmps.getD t undef)| .cell a t=>do loadVar t (<-asAddr (tmps.getD a undef))):Sem Value).run P X.w= .ok v X.w/\ Rep IT X a v:=by
 have hev: ∀t,Rep IT X ((S[t]?).getD (.raw undef)) (tmps.getD t undef):=fun t=>zdj (a:={tmps:=tmps,defers:=[]}) hr (.tmp t);cases x with
 | tmp t=>
  simp only[qae,Option.some.injEq] at h;subst h;exact⟨_,rfl,hev t⟩
 | cell t ty=>
  simp only[qae] at h;obtain⟨v,h1,h2⟩:=zrt (P:=P) h (hev t) hI;refine⟨v,?_,h2⟩;have hp: ∃ad,tmps.getD t undef= .pointer (some ad):=by
   have:=hev t;generalize (S[t]?).getD (.raw undef)=y at h this
   cases y with
   |ptr s off=>rw[Rep] at this;obtain⟨b,_,e⟩:=this;exact⟨_,e⟩
   |iptr cs=>rw[Rep] at this;obtain⟨b,o,e,_⟩:=this;exact⟨_,e⟩
   |_=>cases h
  obtain⟨ad,e⟩:=hp;rw[e] at h1;simp only[Instr.loadAt,Instr.sureAddr,Sem.run_bind,Sem.run_pure,Result.andThen_ok] at h1;simp only[e,asAddr,Sem.run_bind,Sem.run_pure,Result.andThen_ok,h1]
theorem zsz {tmps:Array Value} (hr:zma IT X S tmps)(hI:Inv IT U X): ∀(l:List ResultVar) (r:List AV),z1k P U S l=some r->
 ∃vs,(l.mapM fun x=>((match x with| .tmp t=>pure (tmps.getD t undef)| .cell a t=>do loadVar t (<-asAddr (tmps.getD a undef))):Sem Value)).run P X.w= .ok vs X.w/\ zbr IT X r vs
 |[],r,h=>by simp[z1k] at h;subst h;exact⟨[],by simp,by rw[zbr]⟩
 | x::l,r,h=>by
  simp only[z1k] at h;split at h<;>cases h
  rename_i a r' h1 h2;obtain⟨v,e1,e2⟩:=z1x h1 hr hI;obtain⟨vs,k1,k2⟩:=zsz hr hI l r' h2;refine⟨v::vs,?_,by rw[zbr];exact⟨v,vs,rfl,e2,k2⟩⟩;rw[List.mapM_cons];simp only[Sem.run_bind,e1,Result.andThen_ok,k1,Sem.run_pure]
theorem zmo {fn:Func} {tmps:Array Value} {a:AV} (h:zaz P fn U S=some a)(hr:zma IT X S tmps)(hI:Inv IT U X):
 ∃v,(results fn tmps).run P X.w= .ok v X.w/\ Rep IT X a v:=by
 unfold zaz at h;have run: ∀r,z1k P U S fn.results.toList=some r-> ∃vs,(results fn tmps).run P X.w= .ok (if h:vs.length=1 then vs[0] else .tuple vs.toArray) X.w/\ zbr IT X r vs:=fun r hr'=>by
  obtain⟨vs,k1,k2⟩:=zsz hr hI _ r hr';refine⟨vs,?_,k2⟩;unfold results;rw[Array.mapM_eq_mapM_toList];simp only[Sem.run_bind,Sem.run_map,Sem.run_pure];exact congrArg (fun r:Result (List Value)=>(r.andThen (fun a w'=>Result.ok a.toArray w')).andThen fun a w'=>Result.ok (if h:a.size=1 then a[0] else Value.tuple a) w') k1
 split at h
 ·rename_i b hl;cases h;obtain⟨vs,k1,k2⟩:=run _ hl;rw[zbr] at k2;obtain⟨v,r,rfl,k3,k4⟩:=k2;rw[zbr] at k4;subst k4;exact⟨v,by simpa using k1,k3⟩
 ·rename_i l hne hl;cases h;obtain⟨vs,k1,k2⟩:=run _ hl;have hlen:=zq k2;refine⟨.tuple vs.toArray,?_,by rw[Rep];exact⟨vs,rfl,k2⟩⟩;rw[k1,dif_neg];intro h1;obtain⟨x,rfl⟩:=List.length_eq_one_iff.1 (hlen.trans h1);exact hne x rfl
 ·cases h
theorem zkx {F:Fence} {fn:Func} {tmps:Array Value} {R:Ending->World->Prop} {B:Nat}: ∀(Ds:List Nat) (w:World),Ds.Nodup->(∀D∈Ds,B<=D/\ w.heap[D]? =some (.deferred (some [])))->
 (∀W',Turn B w W'-> ∃v,(results fn tmps).run P W'= .ok v W'/\ R (.returned v) W')->LeavesInM F n P fn tmps R (Ds.map fun D=>{target:= .collected D,args:= #[]}) .returning w
 | [],w,_,_,h=>by
  obtain⟨v,h1,h2⟩:=h w ⟨rfl,rfl,rfl,le_refl _,le_refl _,fun _ _ h _=>h⟩;exact⟨_,h1,h2⟩
 | D::Ds,w,hnd,hD,h=>by
  rw[List.nodup_cons] at hnd;obtain⟨hB,hd⟩:=hD D (by simp);have hT:=Turn.putObj (B:=B) (.deferred none) hB hd rfl;refine⟨by simp,.inl ⟨D,_,rfl,run_takeDeferred hd,?_⟩⟩;refine zkx Ds _ hnd.2 (fun D' h'=>⟨(hD D' (by simp[h'])).1,?_⟩) fun W' hT'=>h W' ?_
  ·exact(World.putObj_heap_other (by intro e;subst e;exact hnd.1 h')).trans (hD D' (by simp[h'])).2
  ·exact⟨hT'.os.trans hT.os,hT'.tape.trans hT.tape,hT'.output.trans hT.output,Nat.le_trans hT.size hT'.size,Nat.le_trans hT.drawn hT'.drawn,fun k o hk hc=>hT'.same k o (hT.same k o hk hc) hc⟩
def zat (fn:Func)(args:List AV):List AV:=args++List.replicate (fn.ntmps-args.length) (.raw undef)
def Ends (P:Program)(U:St)(a r:AV):Prop:= ∀(Y:Cx) (v:Value),Inv (ITP P) U Y->Rep (ITP P) Y a v-> ∃F':Nat->Nat->Prop,(∀b o,Y.F b o->F' b o)/\ (∀b o,F' b o->Y.F b o \/b∈Y.κ)/\
 (∀b o,F' b o-> ∃v,Y.w.cell? ⟨b,o,none⟩=some v)/\ Rep (ITP P) ⟨F',[],[],[],Y.w,Y.O,Y.C⟩ r v
theorem zui {a r:AV} (h1:zbs 0 a=true)(h2:zde a=r):Ends P U a r:=fun Y v hI hv=>by
 subst h2;exact⟨Y.F,fun _ _ h=>h,fun _ _ h=> .inl h,hI.Fcell,zid (X:=Y) (Y:=⟨Y.F,[],[],[],Y.w,Y.O,Y.C⟩) (zn P) rfl rfl a v (.inl h1) hv⟩
def zxk (P:Program)(fn:Func)(r:AV):AQ
 | .exit _,_,_=>False
 |_,S,U=> ∃a,zaz P fn U S=some a/\ Ends P U a r
def z3g (P:Program)(n m:Nat)(U:St)(a r:AV)(U':St):Prop:= ∀(X Y:Cx) (v:Value),Ext X Y->X.κ.length=n->X.lens.length=m->Inv (ITP P) U Y->Rep (ITP P) Y a v-> ∃X',X'.w=Y.w/\ Ext X X'/\ Inv (ITP P) U' X'/\ Rep (ITP P) X' r v
theorem ztr {m:Nat} {a r:AV} (fs js:List Nat)(d:Nat)(hok:zdf U n js=true)(hr:zhl m (kz U.boxes m n fs js d) a=r)(hσ:zew U m n fs js d=U'):z3g P n m U a r U':=fun X Y v hE hn hm hI hv=>by
 subst hr hσ;exact⟨zdc U m n fs js Y,rfl,zrc hE hI hok (by omega) (by omega),zre (zn P) hI hok d,zka (X:=Y) (Y:=zdc U m n fs js Y) (zn P) (fun b o h=>Or.inl h) rfl zhu (zom (zn P) hI hok d) _ _ hv⟩
theorem qco {m:Nat} {a r:AV} (h1:zbs n a=true)(h2:zwi n U=true)(h3:a=r)(h4:zev n U=U'):z3g P n m U a r U':=fun X Y v hE hn hm hI hv=>by
 subst h3 h4;have htr:=zxp (M:=none) (zn P) none (F:=Fence.wide.inRound 0) (B:=0) (S:=[]) (a:={tmps:= #[],defers:=[]}) ⟨hE,hI,by unfold zma;rw[zbr],⟨Nat.zero_le _,fun h=>absurd h (zlr 0),fun _=>rfl⟩,trivial⟩ (Nat.le_of_eq hn) h2;exact⟨{Y with κ:=Y.κ.take n},rfl,htr.ext,htr.inv,zrd (X:=Y) (Y:={Y with κ:=Y.κ.take n}) (zn P) rfl rfl rfl rfl rfl a v h1 hv⟩
def aendS (P:Program)(fn:Func)(n m:Nat)(r:AV)(U':St):AQ
 | .exit _,_,_=>False
 |_,S,U=> ∃a,zaz P fn U S=some a/\ z3g P n m U a r U'
def z8g (P:Program)(fn:Func)(n:Nat):AQ
 | .exit _,_,_=>False
 |_,S,U=>(∃a,zaz P fn U S=some a)/\ (U.stop=true \/U.out=n)
theorem zlj (hmix:P.follows .mixedOrders=true) {f:FuncId} {fn:Func} {c:Code} {args:List AV} {U:St} {Q:AQ} {X:Cx} {vs:List Value} {R:Ending->World->Prop} {M:Option Gen} (hG:zri P X.w.heap.size M)(hf:P.funcs[f]? =some fn)(hb:fn.body=some c)
 {k0:Nat} (hk0:U.boxes.length=k0) (h:awp (ITP P) P (zdp M) k0 c Q (zat fn args) U) (hI:Inv (ITP P) U X) (hM:FrM M U X) (hr:zbr (ITP P) X args vs)
 (hQ: ∀e S U' Y,Q e S U'->Rel M X Y->Inv (ITP P) U' Y->FrM M U' Y->(e= .normal \/e= .ret)/\ ∃a,zaz P fn U' S=some a/\ ∀v,Rep (ITP P) Y a v->R (.returned v) Y.w):Calls P f vs.toArray X.w R:=by
 refine(callsIn_wide (n:=3)).1 (callsIn_of_wp_marks hf hb trivial ?_ rfl);have hlen:=zq hr;have hreps:zma (ITP P) X (zat fn args) (vs.toArray++Array.replicate (fn.ntmps-vs.toArray.size) undef):=by
  unfold zma zat
  have e:(vs.toArray++Array.replicate (fn.ntmps-vs.toArray.size) undef).toList=vs++List.replicate (fn.ntmps-args.length) undef:=by simp[hlen]
  rw[e];refine zbp hr (zfc (by simp) fun i a v h1 h2=> ?_);have h1:=List.eq_of_mem_replicate (List.mem_of_getElem? h1);have h2:=List.eq_of_mem_replicate (List.mem_of_getElem? h2);subst h1 h2;rw[Rep]
 refine zsj hmix c (M:=M) (B:=X.w.heap.size) hG (zqr P) k0 Q _ U X X {tmps:=vs.toArray++Array.replicate (fn.ntmps-vs.toArray.size) undef,defers:=[]} _ (Nat.le_of_eq (hI.κlen.trans hk0)) ⟨le_refl _,U,hI⟩ h
  ⟨Rel.of (Ext.refl X),hI,hreps,⟨le_refl _,fun _=>⟨le_refl _,[],rfl,List.nodup_nil,by simp⟩,fun h=>absurd rfl h⟩,hM⟩ (.inl (.inl rfl)) ?_
 intro e S U' Y a hq hn;obtain⟨_,Ds,d1,d2,d3⟩:=hn.marks.2.1 rfl;have key:(e= .normal \/e= .ret)/\ LeavesInM Fence.wide 3 P fn a.tmps R a.defers .returning Y.w:=by
  obtain⟨he,_⟩:=hQ e S U' Y hq hn.ext hn.inv hn.frn;refine⟨he,?_⟩;rw[d1];refine zkx (B:=X.w.heap.size) Ds Y.w d2 d3 fun W' hT=> ?_;obtain⟨k1,k2,k3,_,k5⟩:=zku (N:=fun _=>False) (NB:=fun _=>False) (Bm:=X.w.heap.size) hG (le_refl _) (fun _ h=>h.elim) (RelB.of hn.ext) hn.inv hn.frn (zki M Y) (le_refl _) (zjf hn.inv (zki M Y) hn.ext.size hT);obtain⟨_,x,hx,hv⟩:=hQ e S U' _ hq (k1.to fun _ h=>h.elim) k2 k3;obtain⟨v,r1,r2⟩:=zmo (P:=P) (fn:=fn) hx (show zma (ITP P) {Y with w:=W'} S a.tmps from zby (zn P) k5 _ _ hn.reps) k2;exact⟨v,r1,hv v r2⟩
 obtain⟨he,hl⟩:=key;rcases he with rfl|rfl<;>exact hl
theorem ziu (hmix:P.follows .mixedOrders=true) {f:FuncId} {fn:Func} {c:Code} {args:List AV} {r:AV} (hf:P.funcs[f]? =some fn)(hb:fn.body=some c)(he:Ent P f)
    (h:awp (ITP P) P none 0 c (zxk P fn r) (zat fn args) St.empty):Pure (ITP P) P f args r:=by
  refine⟨he,fun X vs hI hr=>zlj (M:=none) hmix trivial hf hb (U:=St.empty) (k0:=0) rfl h hI trivial hr ?_⟩;intro e S U' Y hq (hE:Ext X Y) hIY _;have hκ:X.κ=[]:=by have:=hI.κlen;simpa[St.empty] using this
  have hl:X.lens=[]:=hI.lens;have hβ:X.β=[]:=by have:=hI.βlen;rw[hl] at this;simpa using this
  have fin : ∀ a,zaz P fn U' S=some a->Ends P U' a r-> ∃a,zaz P fn U' S=some a/\ ∀v,Rep (ITP P) Y a v->
      ∃v' X',Ending.returned v= .returned v'/\ X'.w=Y.w/\ Ext X X'/\ Inv (ITP P) St.empty X'/\ Rep (ITP P) X' r v':=fun a h1 h2=>by
    refine⟨a,h1,fun v hv=> ?_⟩;obtain⟨F',f1,f2,f3,f4⟩:=h2 Y v hIY hv;refine⟨v,⟨F',[],[],[],Y.w,Y.O,Y.C⟩,rfl,rfl,?_,?_,f4⟩
    . exact { os :=hE.os,tape:=hE.tape,output:=hE.output,size:=hE.size,drawn:=hE.drawn,F:=fun b o h=>f1 b o (hE.F b o h),cell:=hE.cell
              κ:=fun s b hs=>by rw[hκ] at hs;simp at hs
              lens:=fun s L hs=>by rw[hl] at hs;simp at hs
              blk:=fun s b hs=>by rw[hκ] at hs;simp at hs
              szs:=hE.szs
              frame:=hE.frame
              κnew:=fun b hb=>by simp at hb
              βnew:=fun r hr=>by simp at hr
              O:=hE.O
              C:=hE.C
              Fnew:=fun b o h=>(f2 b o h).elim (hE.Fnew b o) fun hm=>by
                rcases hE.κnew b hm with h|h
                . rw[hκ] at h;simp at h
                . exact .inr (.inl h)}
    . exact { lens:=rfl,elems:=rfl,κlen:=rfl,κnd:=fun s s' b h=>by simp at h,box:=fun s b t cs h=>by simp at h,κF:=fun s b t cs h=>by simp at h,βlen:=rfl,βnd:=List.nodup_nil,βκ:=fun r h=>by simp at h
              row:=fun s r L h=>by simp at h
              Ok :=fun b hb=>by
                obtain⟨k1,k2,k3,k4⟩:=hIY.Ok b hb;exact⟨k1,by simp,by simp,fun o hf=>(f2 b o hf).elim (k4 o) fun hm=>absurd hm k2⟩
              Fcell:=f3
              gv:=(zn P).gv _ _ _ _ f1 (fun _ _ _=>rfl) (Szs.refl _) hIY.gv}
  cases e with
  |normal=>obtain⟨a,h1,h2⟩:=hq;exact⟨.inl rfl,fin a h1 h2⟩
  |ret=>obtain⟨a,h1,h2⟩:=hq;exact⟨.inr rfl,fin a h1 h2⟩
  |exit id=>exact hq.elim
theorem z9z (hmix:P.follows .mixedOrders=true) {f:FuncId} {fn:Func} {c:Code} {args:List AV} {U U':St} {r:AV} (hf:P.funcs[f]? =some fn)(hb:fn.body=some c)(he:Ent P f)
 (h:awp (ITP P) P none U.boxes.length c (aendS P fn U.boxes.length U.lens.length r U') (zat fn args) U):Snd (ITP P) P f args U r U':=by
 refine⟨he,fun X vs hI hr=>zlj (M:=none) hmix trivial hf hb rfl h hI trivial hr ?_⟩;intro e S U1 Y hq (hE:Ext X Y) hIY _;have hκn:=hI.κlen
 have fin: ∀a,zaz P fn U1 S=some a->z3g P U.boxes.length U.lens.length U1 a r U'-> ∃a,zaz P fn U1 S=some a/\ ∀v,Rep (ITP P) Y a v->
  ∃v' X',Ending.returned v= .returned v'/\ X'.w=Y.w/\ Ext X X'/\ Inv (ITP P) U' X'/\ Rep (ITP P) X' r v':=fun a h1 h2=>⟨a,h1,fun v hv=>by
  obtain⟨X',k1,k2,k3,k4⟩:=h2 X Y v hE hκn (by rw[hI.lens]) hIY hv;exact⟨v,X',rfl,k1,k2,k3,k4⟩⟩
 cases e with
 |normal=>obtain⟨a,h1,h2⟩:=hq;exact⟨.inl rfl,fin a h1 h2⟩
 |ret=>obtain⟨a,h1,h2⟩:=hq;exact⟨.inr rfl,fin a h1 h2⟩
 |exit id=>exact hq.elim
theorem qhb (hmix:P.follows .mixedOrders=true) {g:FuncId} {fn:Func} {c:Code} {caps:List AV} {lb:List Value} {rows:List (List AV)} {F0:Nat->Nat->Prop} {w0:World} {O C} (hf:P.funcs[g]? =some fn)(hb:fn.body=some c)
    (h: ∀G:Gen,G.rows=rows->awp (ITP P) P (some G) 0 c (z8g P fn rows.length) (zat fn (.yld G.l::caps)) St.empty) (hr:zbr (ITP P) ⟨F0,[],[],[],w0,O,C⟩ caps lb) (hgv:(ITP P).gv F0 w0):IterX P g lb.toArray rows (fun _=>False) F0 w0:=by
  intro l W J Jx s0 hc hz _ hG hF0 hO hC hJ
  have hI:Inv (ITP P) St.empty ⟨F0,[],[],[],W,s0.O,s0.C⟩:=
    { lens:=rfl,elems:=rfl,κlen:=rfl,κnd:=fun s s' b h=>by simp at h,box:=fun s b t cs h=>by simp at h,κF:=fun s b t cs h=>by simp at h,βlen:=rfl,βnd:=List.nodup_nil,βκ:=fun r h=>by simp at h
      row:=fun s r L h=>by simp at h
      Ok:=fun b hb=>⟨hO b hb,by simp,by simp,fun o hf=>(hF0 b o hf).resolve_left (fun h=>h hb)⟩
      Fcell:=fun b o hf=>(hc b o hf).1
      gv:=(zn P).gv _ _ _ _ (fun _ _ h=>h) (fun b o hf=>(hc b o hf).2) hz hgv}
  have hr':zbr (ITP P) ⟨F0,[],[],[],W,s0.O,s0.C⟩ (.yld l::caps) (.func (.yield l) #[] #[]::lb):=
    ⟨_,lb,rfl,rfl,zby (X:=⟨F0,[],[],[],w0,O,C⟩) (X':=⟨F0,[],[],[],W,s0.O,s0.C⟩) (zn P) ⟨fun _ _ h=>h,fun b o hf=>(hc b o hf).2,fun _ _ h=>h,fun s L h=>by simp at h,fun s b h=>by simp at h,hz⟩ _ _ hr⟩
  have hFr:FrM (some ⟨W.heap.size,F0,l,rows,J,Jx,fun _=>False⟩) St.empty ⟨F0,[],[],[],W,s0.O,s0.C⟩:=
    ⟨s0,fun _=>Iff.rfl,⟨fun _ _=>Iff.rfl,fun b o hc=> .inr ⟨hC b o hc,by simp,by simp⟩⟩,hJ,le_refl _,by simp,by simp,fun b o hf=> .inl hf⟩
  have e:(#[.func (.yield l) #[] #[]]++lb.toArray:Array Value)=(Value.func (.yield l) #[] #[]::lb).toArray:=by simp
  rw[e];refine zlj (M:=some ⟨W.heap.size,F0,l,rows,J,Jx,fun _=>False⟩) (X:=⟨F0,[],[],[],W,s0.O,s0.C⟩) hmix ⟨hG,le_refl _⟩ hf hb (k0:=0) rfl (h _ rfl) hI hFr hr' ?_;intro e S U' Y hq _ _ hF;have fin:(∃a,zaz P fn U' S=some a)/\ (U'.stop=true \/U'.out=rows.length)-> ∃a,zaz P fn U' S=some a/\ ∀v,Rep (ITP P) Y a v->(∃v',Ending.returned v= .returned v')/\ ∃s,(J rows.length s Y.w \/Jx s Y.w):=fun⟨⟨a,h1⟩,h2⟩=>by
    obtain⟨s,_,_,h3,_⟩:Fr _ U' Y:=hF;refine⟨a,h1,fun v _=>⟨⟨v,rfl⟩,s,?_⟩⟩;by_cases hst:U'.stop=true
    . rw[if_pos hst] at h3;exact .inr h3
    . rw[if_neg hst,h2.resolve_left hst] at h3;exact .inl h3
  cases e with
  |normal=>exact⟨.inl rfl,fin hq⟩
  |ret=>exact⟨.inr rfl,fin hq⟩
  |exit id=>exact hq.elim
mutual
def zmj:AV->Bool
 | .raw _=>true
 | .ptr _ _=>true
 | .bsl _ _ _ _ _=>true
 | .top=>true
 | .list _ cs st=>zhg cs&&decide (st≠ .none \/cs=[])&&(match st with| .own _=>false|_=>true)&&cs.isEmpty
 |_=>false
def zhg:List AV->Bool
 |[]=>true
 |a::l=>zmj a&&zhg l
end
theorem qhn (hκ:Y.κ=X.κ)(hw:Y.w=X.w): ∀(a:AV) (v:Value),zmj a=true->Rep IT X a v->Rep IT Y a v
 | .raw _,_,_,h=>h
 | .ptr s off,v,_,⟨b,h,e⟩=>⟨b,by rw[hκ];exact h,e⟩
 | .bsl s off n sz f,v,_,h=>Bsl.mono (X:=X) (Y:=Y) (fun b h=>by rw[hκ];exact h) hw h
 | .top,_,_,_=>by rw[Rep];trivial
 | .list n cs st,v,hf,⟨a,cap,e,h1,_,h3⟩=>by
  simp only[zmj,and_eq_true,List.isEmpty_iff] at hf;obtain⟨⟨_,hs⟩,rfl⟩:=hf;exact⟨a,cap,e,h1,.inl rfl,by cases st with|none=>trivial|full=>exact h3|own s=>cases hs⟩
 | .agg _,_,h,_=>by simp[zmj] at h
 | .tup _,_,h,_=>by simp[zmj] at h
 | .iptr _,_,h,_=>by simp[zmj] at h
 | .clos _ _,_,h,_=>by simp[zmj] at h
 | .iter _,_,h,_=>by simp[zmj] at h
 | .yld _,_,h,_=>by simp[zmj] at h
 | .bad,_,h,_=>by simp[zmj] at h
theorem zzu (hκ:Y.κ=X.κ)(hw:Y.w=X.w): ∀(l:List AV) (vs:List Value),zhg l=true->zbr IT X l vs->zbr IT Y l vs
 |[],_,_,h=>h
 | a::l,vs,hf,⟨v,r,e,h1,h2⟩=>by
  rw[zhg,and_eq_true] at hf;exact⟨v,r,e,qhn hκ hw a v hf.1 h1,zzu hκ hw l r hf.2 h2⟩
theorem z2x (h:Wk1 n0 S U S' U'):U'.out=U.out/\ U'.stop=U.stop:=by
 rcases h with⟨_,(rfl|⟨n,_,_,_,rfl⟩)⟩|⟨n,fs,js,d,_,_,_,rfl⟩|⟨s,t,cs,_,_,rfl⟩|⟨s,k,t,cs,_,_,rfl⟩|⟨s,t,cs,_,_,rfl⟩<;>exact⟨rfl,rfl⟩
theorem wk_out (h:Wk n0 S U S' U'):U'.out=U.out/\ U'.stop=U.stop:=by
 induction h with
 |one h=>exact z2x h
 |step h _ ih=>exact⟨ih.1.trans (z2x h).1,ih.2.trans (z2x h).2⟩
def aendGS (P:Program)(fn:Func)(n n0:Nat)(bs':List (TypeId×List AV)):AQ
 | .exit _,_,_=>False
 |_,S,U=>(∃a,zaz P fn U S=some a)/\ (U.stop=true \/(U.out=n/\ ∃U',Wk n0 [] U [] U'/\ U'.boxes=bs'/\ (bs'.all fun b=>zhg b.2)=true))
theorem qgv (hmix:P.follows .mixedOrders=true) {g:FuncId} {fn:Func} {c:Code} {caps:List AV} {rows:List (List AV)} (hne:rows≠errRows)(hf:P.funcs[g]? =some fn)(hb:fn.body=some c)(he:Ent P g)
 (h: ∀G:Gen,G.rows=rows->awp (ITP P) P (some G) 0 c (z8g P fn rows.length) (zat fn (.yld G.l::stripL caps)) St.empty) (hok:zaf 0 caps=true) {X:Cx} {v:Value} (hgv:(ITP P).gv X.F X.w) (hv:Rep (ITP P) X (.clos g caps) v):Rep (ITP P) X (.iter rows) v:=by
 obtain⟨vs,rfl,hr⟩:=hv;exact .inr ⟨hne,g,vs.toArray,X.F,rfl,he,fun _ _ h=>h,qhb hmix hf hb h (O:=X.O) (C:=X.C) (zer (X:=X) (Y:=⟨X.F,[],[],[],X.w,X.O,X.C⟩) (zn P) rfl rfl caps vs (.inl hok) hr) hgv⟩
theorem z9v (hmix:P.follows .mixedOrders=true) {U:St} {a:AV} {g:FuncId} {fn:Func} {c:Code} {caps:List AV} {rows:List (List AV)} (hne:rows≠errRows)(h0:Ends P U a (.clos g caps))(hf:P.funcs[g]? =some fn)(hb:fn.body=some c)(he:Ent P g)
 (h: ∀G:Gen,G.rows=rows->awp (ITP P) P (some G) 0 c (z8g P fn rows.length) (zat fn (.yld G.l::stripL caps)) St.empty) (hok:zaf 0 caps=true):Ends P U a (.iter rows):=fun Y v hI hv=>by
 obtain⟨F',f1,f2,f3,f4⟩:=h0 Y v hI hv;exact⟨F',f1,f2,f3,qgv hmix hne hf hb he h hok ((zn P).gv _ _ _ _ f1 (fun _ _ _=>rfl) (Szs.refl _) hI.gv) f4⟩
theorem qgg {a r:AV} (n:Nat)(h:zgu (frz U.boxes n) a=r):Ends P U a r:=fun Y v hI hv=>by
 subst h;refine⟨z5a Y,fun _ _ h=> .inl h,fun b o h=>h.imp id And.left,fun b o h=> ?_,zqa (Y:=⟨z5a Y,[],[],[],Y.w,Y.O,Y.C⟩) (zn P) (fun b o h=>Or.inl h) rfl (z2y (zn P) hI n) a v hv⟩;rcases h with h|⟨_,h⟩
 ·exact hI.Fcell b o h
 ·exact h
def quiet (o:Oper):Bool:=
 match o.op with
 | .alloc _| .box _ _| .store _ _ _=>false
 | .call c=>match c.callee with| .builtin .append=>false|_=>true
 |_=>true
abbrev CallP:=FuncId->List AV->Option AV
abbrev CallS:=FuncId->List AV->St->Option (AV×St)
abbrev Run:=Code->Nat->List AV->St->Option (AExit×List AV×St)
def zuu (P:Program)(cp:CallP)(cs:CallS)(o:Oper)(S:List AV)(U:St):Option (AV×St):=
 match zdn S o with
 |some (f,args)=>if zaf 0 args=true then(match cp f (stripL args) with|some r=>some (r,U)|none=>none) else(match cs f args U with|some (r,U')=>if U'.out=U.out/\ U'.stop=U.stop then some (r,U') else none|none=>none)
 | none=>match zdw S o with
  |some _=>none
  | none=>match aop P (zcb S) U o with
   |some r=>some r
   |none=>zvm P (zcb S) U o
def zwh (P:Program)(cp:CallP)(cs:CallS)(ops:Array Oper):List Oper->List AV->St->Option (List AV×St)
 |[],S,U=>some (S,U)
 | o ::l,S,U=>match o.guard with
  | none=>match zuu P cp cs o S U with
   |some (a,U')=>zwh P cp cs ops l (zy S o.dst a) U'
   |none=>none
  | some (k,b)=>match zdu ops S k with
   | some c=>if c=some b then(match zuu P cp cs o S U with
    |some (a,U')=>zwh P cp cs ops l (zy S o.dst a) U'
    |none=>none) else zwh P cp cs ops l (zy S o.dst (.raw undef)) U
   |none=>none
def zot (P:Program)(cp:CallP)(o:Oper)(S:List AV)(U:St):Option AV:=
 match zdn S o with
 |some (f,args)=>if zaf 0 args=true then cp f (stripL args) else none
 |none=>qop P (zcb S) U o
def zqn (P:Program)(cp:CallP)(ops:Array Oper)(size:Nat)(U:St):List Oper->List AV->Option (List AV)
 |[],S=>some S
 | o ::l,S=>if(o.dst.all fun d=>decide (d<size))=true then(match o.guard with
  | none=>match zot P cp o S U with
   |some a=>zqn P cp ops size U l (zy S o.dst a)
   |none=>none
  | some (k,b)=>match zdu ops S k with
   | some c=>if c=some b then(match zot P cp o S U with
    |some a=>zqn P cp ops size U l (zy S o.dst a)
    |none=>none) else zqn P cp ops size U l (zy S o.dst (.raw undef))
   |none=>none) else none
def zkq (P:Program)(cp:CallP)(ops:Array Oper)(size:Nat)(U:St):List Oper->List AV->Pend->Option (List AV×Pend)
 |[],S,ps=>some (S,ps)
 | o ::l,S,ps=>if(o.dst.all fun d=>decide (d<size))=true/\ (ps.all fun p=>o.dst !=some p.1)=true then(match o.guard with
  | none=>match zot P cp o S U with
   |some a=>zkq P cp ops size U l (zy S o.dst a) ps
   | none=>match o.op,o.dst with
    | .alloc t,some d=>match zhw P t with
     |some z=>zkq P cp ops size U l (S.set d .top) (ps++[(d,t,z)])
     |none=>none
    |_,_=>none
  | some (k,b)=>match zdu ops S k with
   | some c=>if c=some b then(match zot P cp o S U with
    |some a=>zkq P cp ops size U l (zy S o.dst a) ps
    |none=>none) else zkq P cp ops size U l (zy S o.dst (.raw undef)) ps
   |none=>none) else none
def quietB (o:Oper):Bool:=match o.op with| .alloc _=>true|_=>quiet o
def findB (ops:Array Oper)(size:Nat):Option Nat:=
 let n:=(ops.toList.takeWhile quietB).length
 if chk ops size n=true then some n else none
def zsq (Ea:List AV->St->Option (AExit×List AV×St))(Eb:List AV->St->Option (AExit×List AV×St))(ps:Array Tmp)(S0:List AV)(n:Nat):List (List AV)->St->Option (AExit×List AV×St)
 |[],U=>some (.normal,S0,U)
 | x ::xs,U=>match Ea (zkr S0 ps x) U with
  | some (.normal,S1,U1)=>(match Eb S1 U1 with
   | some (e,S2,U2)=>if zwi n U2=true then(match e with
    | .normal=>zsq Ea Eb ps S0 n xs (zev n U2)
    |e=>some (e,S0,zev n U2)) else none
   |none=>none)
  |_=>none
def zkf (P:Program)(Ω:CallP)(E:Run)(f:FuncId)(args:List AV):Option AV:=
 match Ω f args with
 |some r=>some r
 | none=>match P.funcs[f]? with
  | some fn=>match fn.body with
   | some c=>if(zat fn args).length=fn.ntmps then(match E c fn.ntmps (zat fn args) St.empty with
    |some (.exit _,_,_)=>none
    | some (_,S,U)=>match zaz P fn U S with
     |some a=>if zbs 0 a=true then some (zde a) else none
     |none=>none
    |none=>none) else none
   |none=>none
  |none=>none
def zql (P:Program)(Ψ:CallS)(E:Run)(f:FuncId)(args:List AV)(U:St):Option (AV×St):=
 match Ψ f args U with
 |some r=>some r
 |none=>match P.funcs[f]? with
 | some fn=>match fn.body with
  | some c=>if(zat fn args).length=fn.ntmps then(match E c fn.ntmps (zat fn args) U with
   |some (.exit _,_,_)=>none
   | some (_,S,U1)=>match zaz P fn U1 S with
    |some a=>if zbs U.boxes.length a=true/\ zwi U.boxes.length U1=true then some (a,zev U.boxes.length U1) else none
    |none=>none
   |none=>none) else none
  |none=>none
 |none=>none
def qiw (P:Program)(cp:CallP)(cs:CallS)(ops:Array Oper)(sz:Nat)(S:List AV)(U:St)(n:Nat):Option (List AV×St):=
 if chk ops sz n=true then(match zqn P cp ops sz U (ops.toList.take n) S with
  |some S1=>zwh P cp cs ops (ops.toList.drop n) S1 U
  |none=>none) else none
def qcz (P:Program)(cp:CallP)(cs:CallS)(ops:Array Oper)(sz:Nat)(S:List AV)(U:St):Option (List AV×St):=
 (List.range ((ops.toList.takeWhile quiet).length+1)).reverse.findSome? (qiw P cp cs ops sz S U)
variable {n:Nat} {S:List AV} {U:St} {ops:Array Oper}
section
variable {P:Program} {cp:CallP} {cs:CallS}
def qeh (P:Program)(cp:CallP):Prop:= ∀f args r,cp f args=some r->Pure (ITP P) P f args r
def qei (P:Program)(cs:CallS):Prop:= ∀f args U r U',cs f args U=some (r,U')->Snd (ITP P) P f args U r U'
theorem zis (hcp:qeh P cp)(hcs:qei P cs) {o:Oper} {S:List AV} {U U':St} {a:AV} (h:zuu P cp cs o S U=some (a,U')) {K:AV->St->Prop} (hK:K a U'):zgc (ITP P) P none o S U K:=by
 unfold zuu at h;unfold zgc;split at h
 ·rename_i f args hc;rw[hc];simp only;split at h
  ·rename_i hok;split at h<;>cases h
   rename_i hr;exact⟨a,U,.inr (.inl ⟨rfl,hok,hcp _ _ _ hr⟩),hK⟩
  ·split at h<;>try cases h
   rename_i hs;split at h<;>cases h
   rename_i hos;exact⟨a,U',.inl ⟨hcs _ _ _ _ _ hs,hos⟩,hK⟩
 ·rename_i hc;rw[hc];simp only;split at h<;>try cases h
  rename_i hy;rw[hy];split at h
  ·rename_i r hr;cases h;exact .inl ⟨a,U',.inl hr,hK⟩
  ·exact .inl ⟨a,U',.inr (.inr (.inl h)),hK⟩
theorem zhv (hcp:qeh P cp)(hcs:qei P cs) {ops:Array Oper}: ∀(l:List Oper) (S:List AV) (U:St) (S':List AV) (U':St),zwh P cp cs ops l S U=some (S',U')->S'.length=S.length/\ ∀Q:List AV->St->Prop,Q S' U'->zcs (ITP P) P none ops Q l S U
 |[],S,U,S',U',h=>by simp only[zwh,Option.some.injEq,Prod.mk.injEq] at h;obtain⟨rfl,rfl⟩:=h;exact⟨rfl,fun Q h=>h⟩
 | o ::l,S,U,S',U',h=>by
  simp only[zwh] at h;simp only[zcs];cases hg:o.guard with
  | none=>
   rw[hg] at h;simp only at h⊢;split at h<;>try cases h
   rename_i a U1 hs;obtain⟨h1,h2⟩:=zhv hcp hcs l _ _ _ _ h;exact⟨by rw[h1,zbc],fun Q hQ=>zis hcp hcs hs (h2 Q hQ)⟩
  | some kb=>
   obtain⟨k,b⟩:=kb;rw[hg] at h;simp only at h⊢;split at h<;>try cases h
   rename_i c hc;split at h
   ·rename_i e;split at h<;>try cases h
    rename_i a U1 hs;obtain⟨h1,h2⟩:=zhv hcp hcs l _ _ _ _ h;exact⟨by rw[h1,zbc],fun Q hQ=>⟨c,hc,by rw[if_pos e];exact zis hcp hcs hs (h2 Q hQ)⟩⟩
   ·rename_i e;obtain⟨h1,h2⟩:=zhv hcp hcs l _ _ _ _ h;exact⟨by rw[h1,zbc],fun Q hQ=>⟨c,hc,by rw[if_neg e];exact h2 Q hQ⟩⟩
theorem zhh (hcp:qeh P cp) {o:Oper} {S:List AV} {U:St} {a:AV} (h:zot P cp o S U=some a) {K:AV->Prop} (hK:K a):ziw (ITP P) P o S U K:=by
 unfold zot at h;unfold ziw;split at h
 ·rename_i f args hc;rw[hc];simp only;split at h<;>try cases h
  rename_i hok;exact⟨a,hok,hcp _ _ _ h,hK⟩
 ·rename_i hc;rw[hc];exact⟨a,.inl h,hK⟩
theorem zih (hcp:qeh P cp) {ops:Array Oper} {size:Nat} {U:St}: ∀(l:List Oper) (S S':List AV),zqn P cp ops size U l S=some S'->S.length=size->S'.length=size/\ ∀K:List AV->Prop,K S'->zex (ITP P) P ops U K l S
 |[],S,S',h,hl=>by simp only[zqn,Option.some.injEq] at h;subst h;exact⟨hl,fun K h=>h⟩
 | o ::l,S,S',h,hl=>by
  simp only[zqn] at h;simp only[zex];split at h<;>try cases h
  rename_i hd;cases hg:o.guard with
  | none=>
   rw[hg] at h;simp only at h⊢;split at h<;>try cases h
   rename_i a hs;obtain⟨h1,h2⟩:=zih hcp l _ _ h (by rw[zbc];exact hl);exact⟨h1,fun K hK=>⟨by rw[hl];exact hd,.inl (zhh hcp hs (h2 K hK))⟩⟩
  | some kb=>
   obtain⟨k,b⟩:=kb;rw[hg] at h;simp only at h⊢;split at h<;>try cases h
   rename_i c hc;split at h
   ·rename_i e;split at h<;>try cases h
    rename_i a hs;obtain⟨h1,h2⟩:=zih hcp l _ _ h (by rw[zbc];exact hl);exact⟨h1,fun K hK=>⟨by rw[hl];exact hd,c,hc,by rw[if_pos e];exact .inl (zhh hcp hs (h2 K hK))⟩⟩
   ·rename_i e;obtain⟨h1,h2⟩:=zih hcp l _ _ h (by rw[zbc];exact hl);exact⟨h1,fun K hK=>⟨by rw[hl];exact hd,c,hc,by rw[if_neg e];exact h2 K hK⟩⟩
theorem zfv (hcp:qeh P cp) {ops:Array Oper} {size:Nat} {U:St}: ∀(l:List Oper) (S S':List AV) (ps ps':Pend),zkq P cp ops size U l S ps=some (S',ps')->S.length=size->S'.length=size/\ ∀K:List AV->Pend->Prop,K S' ps'->zfl (ITP P) P ops U K l S ps
 |[],S,S',ps,ps',h,hl=>by simp only[zkq,Option.some.injEq,Prod.mk.injEq] at h;obtain⟨rfl,rfl⟩:=h;exact⟨hl,fun K h=>h⟩
 | o ::l,S,S',ps,ps',h,hl=>by
  simp only[zkq] at h;simp only[zfl];split at h<;>try cases h
  rename_i hd;cases hg:o.guard with
  | none=>
   rw[hg] at h;simp only at h⊢;split at h
   ·rename_i a hs;obtain⟨h1,h2⟩:=zfv hcp l _ _ _ _ h (by rw[zbc];exact hl);exact⟨h1,fun K hK=>⟨by rw[hl];exact hd.1,hd.2,.inr (zhh hcp hs (h2 K hK))⟩⟩
   ·split at h<;>try cases h
    rename_i t d ho hdst;split at h<;>try cases h
    rename_i z hz;obtain⟨h1,h2⟩:=zfv hcp l _ _ _ _ h (by rw[List.length_set];exact hl);exact⟨h1,fun K hK=>⟨by rw[hl];exact hd.1,hd.2,.inl ⟨trivial,t,d,z,ho,hdst,hz,h2 K hK⟩⟩⟩
  | some kb=>
   obtain⟨k,b⟩:=kb;rw[hg] at h;simp only at h⊢;split at h<;>try cases h
   rename_i c hc;split at h
   ·rename_i e;split at h<;>try cases h
    rename_i a hs;obtain⟨h1,h2⟩:=zfv hcp l _ _ _ _ h (by rw[zbc];exact hl);exact⟨h1,fun K hK=>⟨by rw[hl];exact hd.1,hd.2,.inr ⟨c,hc,by rw[if_pos e];exact zhh hcp hs (h2 K hK)⟩⟩⟩
   ·rename_i e;obtain⟨h1,h2⟩:=zfv hcp l _ _ _ _ h (by rw[zbc];exact hl);exact⟨h1,fun K hK=>⟨by rw[hl];exact hd.1,hd.2,.inr ⟨c,hc,by rw[if_neg e];exact h2 K hK⟩⟩⟩
theorem zqe: ∀(ps:Pend) (n:Nat) (S:List AV),(zna n ps S).length=S.length
 |[],n,S=>rfl
 |p::ps,n,S=>by rw[zna,zqe ps,List.length_set]
theorem zyc (S:List AV)(ps:Array Tmp)(x:List AV):(zkr S ps x).length=S.length:=by
 unfold zkr;generalize ps.toList.zip x=l
 induction l generalizing S with
 |nil=>rfl
 |cons p l ih=>rw[List.foldl_cons,ih];simp
theorem zny {asg body:Code} {Ea Eb:List AV->St->Option (AExit×List AV×St)} {ps:Array Tmp} {S0:List AV}
 (ha: ∀S U e S' U',S.length=S0.length->Ea S U=some (e,S',U')->S'.length=S0.length/\ ∀(k:Nat) (Q:AQ),Q e S' U'->awp (ITP P) P none k asg Q S U)
 (hb: ∀S U e S' U',S.length=S0.length->Eb S U=some (e,S',U')-> ∀(k:Nat) (Q:AQ),Q e S' U'->awp (ITP P) P none k body Q S U):
 ∀(xs:List (List AV)) (U:St) (e:AExit) (S':List AV) (U':St),zsq Ea Eb ps S0 n xs U=some (e,S',U')->S'=S0/\ ∀Q:AQ,Q e S' U'->zez (fun k=>awp (ITP P) P none k asg) (fun k=>awp (ITP P) P none k body) ps S0 Q n xs U
 |[],U,e,S',U',h=>by simp only[zsq,Option.some.injEq,Prod.mk.injEq] at h;obtain⟨rfl,rfl,rfl⟩:=h;exact⟨rfl,fun Q h=>h⟩
 | x::xs,U,e,S',U',h=>by
  simp only[zsq] at h;split at h<;>try cases h
  rename_i S1 U1 ha1;split at h<;>try cases h
  rename_i e2 S2 U2 hb2;split at h<;>try cases h
  rename_i hok2;obtain⟨a1,a3⟩:=ha _ _ _ _ _ (zyc _ _ _) ha1;simp only[zez];cases e2 with
  | normal=>
   simp only at h;obtain⟨h1,h2⟩:=zny ha hb xs _ _ _ _ h;exact⟨h1,fun Q hQ=>a3 _ _ (hb _ _ _ _ _ a1 hb2 _ _ ⟨hok2,h2 Q hQ⟩)⟩
  | exit id=>
   simp only[Option.some.injEq,Prod.mk.injEq] at h;obtain⟨rfl,rfl,rfl⟩:=h;exact⟨rfl,fun Q hQ=>a3 _ _ (hb _ _ _ _ _ a1 hb2 _ _ ⟨hok2,hQ⟩)⟩
  | ret=>
   simp only[Option.some.injEq,Prod.mk.injEq] at h;obtain⟨rfl,rfl,rfl⟩:=h;exact⟨rfl,fun Q hQ=>a3 _ _ (hb _ _ _ _ _ a1 hb2 _ _ ⟨hok2,hQ⟩)⟩
end
structure Good (P:Program)(Ω:CallP)(Ψ:CallS):Prop where
 mix:P.follows .mixedOrders=true
 ent: ∀(f:Nat) fn,P.funcs[f]? =some fn->fn.body.isSome=true->Ent P f
 oracle:qeh P Ω
 oracleS:qei P Ψ
def awpT (P:Program)(c:Code)(Q:AQ)(S:List AV)(U:St):Prop:= ∀k,awp (ITP P) P none k c Q S U
theorem zdi {P:Program} {c:Code} {Q:AQ} {k:Nat} (h:awpT P c Q S U):awp (ITP P) P none k c Q S U:=h k
def EvOk (P:Program)(E:Run):Prop:= ∀c sz S U e S' U',E c sz S U=some (e,S',U')->S.length=sz->S'.length=sz/\ ∀Q:AQ,Q e S' U'->awpT P c Q S U
theorem zse {P:Program} {Ω:CallP} {Ψ:CallS} (hG:Good P Ω Ψ) {E:Run} (hE:EvOk P E):qeh P (zkf P Ω E):=by
 intro f args r h;unfold zkf at h;split at h
 ·rename_i r' ho;cases h;exact hG.oracle _ _ _ ho
 ·split at h<;>try cases h
  rename_i fn hf;split at h<;>try cases h
  rename_i c hb;split at h<;>try cases h
  rename_i hl;have fin: ∀e S U,(e= .normal \/e= .ret)->E c fn.ntmps (zat fn args) St.empty=some (e,S,U)->(match zaz P fn U S with|some a=>if zbs 0 a=true then some (zde a) else none|none=>none)=some r->Pure (ITP P) P f args r:=fun e S U he h1 h2=>by
   split at h2<;>try cases h2
   rename_i a ha;split at h2<;>cases h2
   rename_i hok;obtain⟨_,h3⟩:=hE _ _ _ _ _ _ _ h1 hl;refine ziu hG.mix hf hb (hG.ent f fn hf (by rw[hb];rfl)) (zdi (h3 _ ?_));rcases he with rfl|rfl<;>exact⟨a,ha,zui hok rfl⟩
  split at h
  ·cases h
  ·rename_i e S U hne he;refine fin e S U ?_ he h;cases e with
   |normal=>exact .inl rfl
   |ret=>exact .inr rfl
   |exit id=>exact absurd rfl (hne id)
  ·cases h
theorem zyn {P:Program} {Ω:CallP} {Ψ:CallS} (hG:Good P Ω Ψ) {E:Run} (hE:EvOk P E):qei P (zql P Ψ E):=by
 intro f args U r U' h;unfold zql at h;split at h
 ·rename_i r0 hr0;cases h;exact hG.oracleS _ _ _ _ _ hr0
 split at h<;>try cases h
 rename_i fn hf;split at h<;>try cases h
 rename_i c hb;split at h<;>try cases h
 rename_i hl;have fin: ∀e S U1,(e= .normal \/e= .ret)->E c fn.ntmps (zat fn args) U=some (e,S,U1)->(match zaz P fn U1 S with|some a=>if zbs U.boxes.length a=true/\ zwi U.boxes.length U1=true then some (a,zev U.boxes.length U1) else none|none=>none)=some (r,U')->Snd (ITP P) P f args U r U':=fun e S U1 he h1 h2=>by
  split at h2<;>try cases h2
  rename_i a ha;split at h2<;>cases h2
  rename_i hok;obtain⟨_,h3⟩:=hE _ _ _ _ _ _ _ h1 hl;refine z9z hG.mix hf hb (hG.ent f fn hf (by rw[hb];rfl)) (zdi (h3 _ ?_));rcases he with rfl|rfl<;>exact⟨r,ha,qco hok.1 hok.2 rfl rfl⟩
 split at h
 ·cases h
 ·rename_i e S U1 hne he;refine fin e S U1 ?_ he h;cases e with
  |normal=>exact .inl rfl
  |ret=>exact .inr rfl
  |exit id=>exact absurd rfl (hne id)
 ·cases h
theorem qez {size:Nat} (h:findB ops size=some n):chk ops size n=true:=by
 unfold findB at h;simp only at h;split at h
 ·rename_i hc;cases h;exact hc
 ·cases h
theorem zzc {P:Program} {cp:CallP} {cs:CallS} {sz:Nat} {r:List AV×St} (h:qcz P cp cs ops sz S U=some r):
 ∃n,chk ops sz n=true/\ ∃S1,zqn P cp ops sz U (ops.toList.take n) S=some S1/\ zwh P cp cs ops (ops.toList.drop n) S1 U=some r:=by
 obtain⟨n,_,h⟩:=List.exists_of_findSome?_eq_some h;unfold qiw at h;split at h<;>try cases h
 rename_i hc;split at h<;>try cases h
 rename_i S1 hh;exact⟨n,hc,S1,hh,h⟩
abbrev DSt:=Array Bool×List AV×St
def zpt (P:Program)(Ψ:CallS)(cp:CallP)(cs:CallS)(o:Oper)(S:List AV)(U:St):Option (AV×St):=
 match zdn S o with
 | some (f,args)=>(match Ψ f args U with
  |some (r,U')=>if U'.out=U.out/\ U'.stop=U.stop then some (r,U') else none
  |none=>zuu P cp cs o S U)
 |none=>zuu P cp cs o S U
theorem zhk {P:Program} {cp:CallP} {cs Ψ:CallS} (hΨ:qei P Ψ)(hcp:qeh P cp)(hcs:qei P cs) {o:Oper} {S:List AV} {U U':St} {a:AV} (h:zpt P Ψ cp cs o S U=some (a,U')) {K:AV->St->Prop} (hK:K a U'):zgc (ITP P) P none o S U K:=by
 unfold zpt at h;split at h
 ·rename_i f args hc;split at h
  ·rename_i r τ hr;split at h
   ·rename_i hos;cases h;unfold zgc;rw[hc];exact⟨a,U',.inl ⟨hΨ _ _ _ _ _ hr,hos⟩,hK⟩
   ·cases h
  ·exact zis hcp hcs h hK
 ·exact zis hcp hcs h hK
def znj (P:Program)(Ψ:CallS)(cp:CallP)(cs:CallS)(ops:Array Oper):List Oper->List AV->St->Option (List AV×St)
 |[],S,U=>some (S,U)
 | o ::l,S,U=>match o.guard with
  | none=>match zpt P Ψ cp cs o S U with
   |some (a,U')=>znj P Ψ cp cs ops l (zy S o.dst a) U'
   |none=>none
  | some (k,b)=>match zdu ops S k with
   | some c=>if c=some b then(match zpt P Ψ cp cs o S U with
    |some (a,U')=>znj P Ψ cp cs ops l (zy S o.dst a) U'
    |none=>none) else znj P Ψ cp cs ops l (zy S o.dst (.raw undef)) U
   |none=>none
theorem zfk {P:Program} {cp:CallP} {cs Ψ:CallS} (hΨ:qei P Ψ)(hcp:qeh P cp)(hcs:qei P cs) {ops:Array Oper}: ∀(l:List Oper) (S:List AV) (U:St) (S':List AV) (U':St),znj P Ψ cp cs ops l S U=some (S',U')->S'.length=S.length/\ ∀Q:List AV->St->Prop,Q S' U'->zcs (ITP P) P none ops Q l S U
 |[],S,U,S',U',h=>by simp only[znj,Option.some.injEq,Prod.mk.injEq] at h;obtain⟨rfl,rfl⟩:=h;exact⟨rfl,fun Q h=>h⟩
 | o ::l,S,U,S',U',h=>by
  simp only[znj] at h;simp only[zcs];cases hg:o.guard with
  | none=>
   rw[hg] at h;simp only at h⊢;split at h<;>try cases h
   rename_i a U1 hs;obtain⟨h1,h2⟩:=zfk hΨ hcp hcs l _ _ _ _ h;exact⟨by rw[h1,zbc],fun Q hQ=>zhk hΨ hcp hcs hs (h2 Q hQ)⟩
  | some kb=>
   obtain⟨k,b⟩:=kb;rw[hg] at h;simp only at h⊢;split at h<;>try cases h
   rename_i c hc;split at h
   ·rename_i e;split at h<;>try cases h
    rename_i a U1 hs;obtain⟨h1,h2⟩:=zfk hΨ hcp hcs l _ _ _ _ h;exact⟨by rw[h1,zbc],fun Q hQ=>⟨c,hc,by rw[if_pos e];exact zhk hΨ hcp hcs hs (h2 Q hQ)⟩⟩
   ·rename_i e;obtain⟨h1,h2⟩:=zfk hΨ hcp hcs l _ _ _ _ h;exact⟨by rw[h1,zbc],fun Q hQ=>⟨c,hc,by rw[if_neg e];exact h2 Q hQ⟩⟩
def evAt (P:Program)(Ψ:CallS)(cp:CallP)(cs:CallS)(ops:Array Oper)(x:DSt)(i:Nat):Option DSt:=
 match ops[i]? with
 |none=>some (x.1.setIfInBounds i true,x.2.1,x.2.2)
 | some o=>match o.guard with
  | none=>(match zpt P Ψ cp cs o x.2.1 x.2.2 with
   |some (a,U')=>some (x.1.setIfInBounds i true,zy x.2.1 o.dst a,U')
   |none=>none)
  | some (j,b)=>(match zdu ops x.2.1 j with
   | some c=>if c=some b then(match zpt P Ψ cp cs o x.2.1 x.2.2 with
    |some (a,U')=>some (x.1.setIfInBounds i true,zy x.2.1 o.dst a,U')
    |none=>none) else some (x.1.setIfInBounds i true,zy x.2.1 o.dst (.raw undef),x.2.2)
   |none=>none)
def qih (l:List Bool):List DSt->Option DSt
 |[]=>none
 |y::L=>if y.1.toList==l then some y else qih l L
def ddup:List DSt->List DSt->Option (List DSt)
 |[],H=>some H
 | y::G,H=>match qih y.1.toList H with
  |some z=>if zmw y.2.1 z.2.1&&eqSt y.2.2 z.2.2 then ddup G H else none
  |none=>ddup G (y::H)
def mapO {α β:Type} (f:α->Option β):List α->Option (List β)
 |[]=>some []
 | x::l=>match f x,mapO f l with
  |some y,some m=>some (y::m)
  |_,_=>none
theorem zwf {α β:Type} {f:α->Option β}: ∀ {l:List α} {m:List β},mapO f l=some m-> ∀x∈l,∃y∈m,f x=some y
 |[],_,_,x,hx=>nomatch hx
 | a::l,m,h,x,hx=>by
  simp only[mapO] at h;split at h<;>cases h
  rename_i y m2 h1 h2;rcases List.mem_cons.1 hx with rfl|hx
  ·exact⟨y,List.mem_cons_self ..,h1⟩
  ·obtain⟨z,hz,hf⟩:=zwf h2 x hx;exact⟨z,List.mem_cons_of_mem _ hz,hf⟩
def succ1 (P:Program)(Ψ:CallS)(cp:CallP)(cs:CallS)(ops:Array Oper)(x:DSt):Option (List DSt):=mapO (evAt P Ψ cp cs ops x) (Region.ready .any ops x.1)
def evD (P:Program)(Ψ:CallS)(cp:CallP)(cs:CallS)(ops:Array Oper)(r:List AV×St):Nat->List DSt->Bool
 |0,F=>F.all fun x=>(Region.ready .any ops x.1).isEmpty&&zmw x.2.1 r.1&&eqSt x.2.2 r.2
 | k+1,F=>(F.all fun x=> !(Region.ready .any ops x.1).isEmpty||(zmw x.2.1 r.1&&eqSt x.2.2 r.2))&&(match mapO (succ1 P Ψ cp cs ops) F with
  |none=>false
  | some G=>match ddup G.flatten [] with
   |none=>false
   |some H=>evD P Ψ cp cs ops r k H)
theorem zzx {l:List Bool}: ∀ {L:List DSt} {z:DSt},qih l L=some z->z∈L/\ z.1.toList=l
 |[],_,h=>nomatch h
 | y::L,z,h=>by
  rw[qih] at h;split at h
  ·rename_i e;cases h;exact⟨List.mem_cons_self ..,by simpa using e⟩
  ·obtain⟨h1,h2⟩:=zzx h;exact⟨List.mem_cons_of_mem _ h1,h2⟩
theorem zxa: ∀ {G H K:List DSt},ddup G H=some K->(∀y∈G,y∈K)/\ ∀y∈H,y∈K
 |[],H,K,h=>by simp only[ddup,Option.some.injEq] at h;subst h;exact⟨fun y hy=>(nomatch hy),fun y hy=>hy⟩
 | y ::G,H,K,h=>by
  rw[ddup] at h;split at h
  ·rename_i z hz;split at h
   ·rename_i e;simp only[and_eq_true] at e;obtain⟨h1,h2⟩:=zxa h;obtain⟨m1,m2⟩:=zzx hz;have:y=z:=by
     obtain⟨⟨y1⟩,y2,y3⟩:=y;obtain⟨⟨z1⟩,z2,z3⟩:=z;simp only at m2 e;rw[m2,zfw _ _ e.1,z3f e.2]
    exact⟨fun x hx=>(List.mem_cons.1 hx).elim (fun e=>by rw[e,this];exact h2 _ m1) (h1 x),h2⟩
   ·cases h
  ·obtain⟨h1,h2⟩:=zxa h;exact⟨fun x hx=>(List.mem_cons.1 hx).elim (fun e=>by rw[e];exact h2 _ (List.mem_cons_self ..)) (h1 x),fun x hx=>h2 x (List.mem_cons_of_mem _ hx)⟩
variable {P:Program} {cp:CallP} {cs Ψ:CallS}
theorem zxs (hΨ:qei P Ψ)(hcp:qeh P cp)(hcs:qei P cs) {ops:Array Oper} {r:List AV×St} {Q:List AV->St->Prop} (hQ:Q r.1 r.2):
 ∀(k:Nat) (F:List DSt),evD P Ψ cp cs ops r k F=true-> ∀x∈F,zqw (ITP P) P none ops Q k x.1 x.2.1 x.2.2
 | 0,F,h,x,hx=>by
  have h:=List.all_eq_true.1 h x hx;simp only[and_eq_true,List.isEmpty_iff] at h;refine⟨h.1.1,?_⟩;rw[zfw _ _ h.1.2,z3f h.2];exact hQ
 | k + 1,F,h,x,hx=>by
  simp only[evD,and_eq_true] at h;have h1:=List.all_eq_true.1 h.1 x hx;have h2:=h.2;split at h2
  ·cases h2
  rename_i G hG;split at h2
  ·cases h2
  rename_i H hH;obtain⟨d1,_⟩:=zxa hH;have ih:=zxs hΨ hcp hcs hQ k H h2;refine⟨fun he=> ?_,fun i hi=> ?_⟩
  ·rw[he] at h1;simp only[List.isEmpty_nil,Bool.not_true,Bool.false_or,and_eq_true] at h1;rw[zfw _ _ h1.1,z3f h1.2];exact hQ
  ·obtain⟨m,hm,hs⟩:=zwf hG x hx;obtain⟨y,hy,he⟩:=zwf hs i hi;have hyK:=ih y (d1 y (List.mem_flatten.2 ⟨m,hm,hy⟩));unfold evAt at he;unfold zvw;cases ho:ops[i]? with
   |none=>rw[ho] at he;cases he;exact hyK
   | some o=>
    rw[ho] at he;simp only at he⊢;cases hg:o.guard with
    | none=>
     rw[hg] at he;simp only at he⊢;split at he
     ·rename_i a U1 hs1;cases he;exact zhk hΨ hcp hcs hs1 hyK
     ·cases he
    | some kb=>
     obtain⟨j,b⟩:=kb;rw[hg] at he;simp only at he⊢;split at he
     ·rename_i c hc;refine⟨c,hc,?_⟩;split at he
      ·rename_i e;rw[if_pos e];split at he
       ·rename_i a U1 hs1;cases he;exact zhk hΨ hcp hcs hs1 hyK
       ·cases he
      ·rename_i e;rw[if_neg e];cases he;exact hyK
     ·cases he
def evQ (H:Bool)(P:Program)(Ω:CallP)(Ψ:CallS):Nat->Run
 |0,_,_,_,_=>none
 | k + 1,c,sz,S,U=>match c with
  | .skip=>some (.normal,S,U)
  | .seq x y=>match evQ H P Ω Ψ k x sz S U with
   |some (.normal,S1,U1)=>evQ H P Ω Ψ k y sz S1 U1
   |r=>r
  | .cond c x y=>match zcb S c with
   | .raw (.bool t)=>if t=true then evQ H P Ω Ψ k x sz S U else evQ H P Ω Ψ k y sz S U
   |_=>none
  | .block id x=>match evQ H P Ω Ψ k x sz S U with
   |some (.exit j,S1,U1)=>if j=id then some (.normal,S1,U1) else some (.exit j,S1,U1)
   |r=>r
  | .exit id=>some (.exit id,S,U)
  | .label _=>some (.normal,S,U)
  | .scope x=>evQ H P Ω Ψ k x sz S U
  | .ret=>some (.ret,S,U)
  | .loop x=>match evQ H P Ω Ψ k x sz S U with
   |some (.normal,S1,U1)=>evQ H P Ω Ψ k (.loop x) sz S1 U1
   |r=>r
  | .region _ ops false=>match znj P Ψ (zkf P Ω (evQ H P Ω Ψ k)) (zql P Ψ (evQ H P Ω Ψ k)) ops ops.toList S U with
   |some (S1,U1)=>some (.normal,S1,U1)
   |none=>none
  | .region _ ops true=>if ztl ops.toList=true then(match(if H=true then qcz P (zkf P Ω (evQ H P Ω Ψ k)) (zql P Ψ (evQ H P Ω Ψ k)) ops sz S U else none) with
   |some (S2,U2)=>some (.normal,S2,U2)
   | none=>match(if H=true then findB ops sz else none) with
    | some n=>(match zkq P (zkf P Ω (evQ H P Ω Ψ k)) ops sz U (ops.toList.take n) S [] with
     | some (S1,ps)=>match zwh P (zkf P Ω (evQ H P Ω Ψ k)) (zql P Ψ (evQ H P Ω Ψ k)) ops (ops.toList.drop n) (zna U.boxes.length ps S1) (zpb U ps) with
      |some (S2,U2)=>some (.normal,S2,U2)
      |none=>none
     |none=>none)
    | none=>match znj P Ψ (zkf P Ω (evQ H P Ω Ψ k)) (zql P Ψ (evQ H P Ω Ψ k)) ops ops.toList S U with
     |some r=>if evD P Ψ (zkf P Ω (evQ H P Ω Ψ k)) (zql P Ψ (evQ H P Ω Ψ k)) ops r ops.size [(Array.replicate ops.size false,S,U)]=true then some (.normal,r.1,r.2) else none
     |none=>none) else none
  | .rangeFunc f ps asg body=>match zcb S f with
   | .iter xs=>if Nat.ble ps.size 8=true/\ (xs.all fun x=>decide (x.length=ps.size))=true/\ zcp asg=true then zsq (evQ H P Ω Ψ k asg sz) (evQ H P Ω Ψ k body sz) ps S U.boxes.length xs U else none
   |_=>none
  |_=>none
theorem zrz {H:Bool} {P:Program} {Ω:CallP} {Ψ:CallS} (hG:Good P Ω Ψ): ∀k,EvOk P (evQ H P Ω Ψ k)
 |0=>fun c sz S U e S' U' h=>by simp[evQ] at h
 | k + 1=>by
  have ih:=zrz (H:=H) hG k;have hcp:=zse hG ih;have hcs:=zyn hG ih;intro c sz S U e S' U' h hl;cases c with
  |skip=>simp only[evQ,Option.some.injEq,Prod.mk.injEq] at h;obtain⟨rfl,rfl,rfl⟩:=h;exact⟨hl,fun Q h j=>h⟩
  |label id=>simp only[evQ,Option.some.injEq,Prod.mk.injEq] at h;obtain⟨rfl,rfl,rfl⟩:=h;exact⟨hl,fun Q h j=>h⟩
  |scope x=>simp only[evQ] at h;obtain⟨l1,h1⟩:=ih _ _ _ _ _ _ _ h hl;exact⟨l1,fun Q hQ j=>show awp (ITP P) P none j x Q S U from zdi (h1 Q hQ)⟩
  |exit id=>simp only[evQ,Option.some.injEq,Prod.mk.injEq] at h;obtain⟨rfl,rfl,rfl⟩:=h;exact⟨hl,fun Q h j=>h⟩
  |ret=>simp only[evQ,Option.some.injEq,Prod.mk.injEq] at h;obtain⟨rfl,rfl,rfl⟩:=h;exact⟨hl,fun Q h j=>h⟩
  | seq x y=>
   simp only[evQ] at h;split at h
   ·rename_i S1 U1 hx;obtain⟨l1,h1⟩:=ih _ _ _ _ _ _ _ hx hl;obtain⟨l2,h2⟩:=ih _ _ _ _ _ _ _ h l1;exact⟨l2,fun Q hQ j=>show awp (ITP P) P none j x (ztu _ Q) S U \/_ from .inl (zdi (h1 _ ⟨S1,U1,Wk.refl _ _ _,zdi (h2 Q hQ)⟩))⟩
   ·rename_i hne;obtain⟨l1,h1⟩:=ih _ _ _ _ _ _ _ h hl;refine⟨l1,fun Q hQ j=>show awp (ITP P) P none j x (ztu _ Q) S U \/_ from .inl (zdi (h1 _ ?_))⟩;cases e with
    |normal=>exact absurd h (hne S' U')
    |exit id=>exact hQ
    |ret=>exact hQ
  | cond c x y=>
   simp only[evQ] at h;split at h<;>try cases h
   rename_i t ht;cases t with
   |true=>obtain⟨l1,h1⟩:=ih _ _ _ _ _ _ _ h hl;exact⟨l1,fun Q hQ j=>⟨true,ht,zdi (h1 Q hQ)⟩⟩
   |false=>obtain⟨l1,h1⟩:=ih _ _ _ _ _ _ _ h hl;exact⟨l1,fun Q hQ j=>⟨false,ht,zdi (h1 Q hQ)⟩⟩
  | block id x=>
   simp only[evQ] at h;split at h
   ·rename_i j S1 U1 hx;obtain⟨l1,h1⟩:=ih _ _ _ _ _ _ _ hx hl;split at h
    ·rename_i hj;simp only[Option.some.injEq,Prod.mk.injEq] at h;obtain⟨rfl,rfl,rfl⟩:=h;exact⟨l1,fun Q hQ j=>show awp (ITP P) P none j x (ziv U.lens.length j id Q) S U \/_ from .inl (zdi (h1 _ (by simp only[ziv];rw[if_pos hj];exact .inl hQ)))⟩
    ·rename_i hj;simp only[Option.some.injEq,Prod.mk.injEq] at h;obtain⟨rfl,rfl,rfl⟩:=h;exact⟨l1,fun Q hQ j=>show awp (ITP P) P none j x (ziv U.lens.length j id Q) S U \/_ from .inl (zdi (h1 _ (by simp only[ziv];rw[if_neg hj];exact hQ)))⟩
   ·rename_i hne;obtain⟨l1,h1⟩:=ih _ _ _ _ _ _ _ h hl;refine⟨l1,fun Q hQ j=>show awp (ITP P) P none j x (ziv U.lens.length j id Q) S U \/_ from .inl (zdi (h1 _ ?_))⟩;cases e with
    |normal=>exact .inl hQ
    |exit j=>exact absurd h (hne j S' U')
    |ret=>exact hQ
  | loop x=>
   simp only[evQ] at h;split at h
   ·rename_i S1 U1 hx;obtain⟨l1,h1⟩:=ih _ _ _ _ _ _ _ hx hl;obtain⟨l2,h2⟩:=ih _ _ _ _ _ _ _ h l1;refine⟨l2,fun Q hQ j=> ?_⟩;obtain⟨m,hm⟩:=h2 Q hQ j;exact⟨m+1,S,U,Wk.refl _ _ _,zdi (k:=j) (h1 _ hm)⟩
   ·rename_i hne;obtain⟨l1,h1⟩:=ih _ _ _ _ _ _ _ h hl;refine⟨l1,fun Q hQ j=>⟨1,S,U,Wk.refl _ _ _,zdi (k:=j) (h1 _ ?_)⟩⟩;cases e with
    |normal=>exact absurd h (hne S' U')
    |exit id=>exact hQ
    |ret=>exact hQ
  | region id ops draw=>
   cases draw with
   | false=>
    simp only[evQ] at h;split at h<;>try cases h
    rename_i ho;obtain⟨l1,h1⟩:=zfk hG.oracleS hcp hcs _ _ _ _ _ ho;exact⟨l1.trans hl,fun Q hQ j=>h1 _ hQ⟩
   | true=>
    simp only[evQ] at h;split at h
    rotate_left
    ·cases h
    rename_i hnd;split at h
    ·rename_i S2 U2 hd;cases h;split at hd
     rotate_left
     ·cases hd
     obtain⟨n,hc,S1,hh,ho⟩:=zzc hd;obtain⟨l1,h1⟩:=zih hcp _ _ _ hh hl;obtain⟨l2,h2⟩:=zhv hcp hcs _ _ _ _ _ ho;exact⟨l2.trans l1,fun Q hQ j=> .inl ⟨n,by rw[hl];exact hc,hnd,h1 _ (h2 _ hQ)⟩⟩
    ·split at h
     ·rename_i n hn;split at hn
      rotate_left
      ·cases hn
      split at h<;>try cases h
      rename_i S1 ps hh;split at h<;>try cases h
      rename_i ho;obtain⟨l1,h1⟩:=zfv hcp _ _ _ _ _ hh hl;obtain⟨l2,h2⟩:=zhv hcp hcs _ _ _ _ _ ho;exact⟨l2.trans ((zqe _ _ _).trans l1),fun Q hQ j=> .inr (.inl ⟨n,by rw[hl];exact qez hn,hnd,h1 _ (h2 _ hQ)⟩)⟩
     ·split at h
      rotate_left
      ·cases h
      rename_i r ho;split at h
      rotate_left
      ·cases h
      rename_i ha;cases h;obtain⟨l2,h2⟩:=zfk hG.oracleS hcp hcs _ _ _ r.1 r.2 ho;exact⟨l2.trans hl,fun Q hQ j=> .inr (.inr (.inl (zxs hG.oracleS hcp hcs hQ _ _ ha _ (List.mem_cons_self ..))))⟩
  | rangeFunc f ps asg body=>
   simp only[evQ] at h;split at h<;>try(cases h;done)
   rename_i xs hf;split at h
   rotate_left
   ·cases h
   rename_i hc;obtain⟨h1,h2⟩:=zny (P:=P) (asg:=asg) (body:=body) (S0:=S) (fun S1 U1 e1 S1' U1' hl1 h1=>by obtain⟨k1,k2⟩:=ih _ _ _ _ _ _ _ h1 (hl1.trans hl);exact⟨k1.trans hl.symm,fun k Q hQ=>zdi (k2 Q hQ)⟩) (fun S1 U1 e1 S1' U1' hl1 h1 k Q hQ=>zdi ((ih _ _ _ _ _ _ _ h1 (hl1.trans hl)).2 Q hQ)) xs U e S' U' h;exact⟨by rw[h1];exact hl,fun Q hQ j=> .inl ⟨xs,hf,hc.1,hc.2.1,hc.2.2,h2 Q hQ⟩⟩
  |_=>simp[evQ] at h
theorem zdt (H:Bool) {P:Program} {Ω:CallP} {Ψ:CallS} (hG:Good P Ω Ψ)(k:Nat) {f:FuncId} {args:List AV} {r:AV} (h:zkf P Ω (evQ H P Ω Ψ k) f args=some r):Pure (ITP P) P f args r:=zse hG (zrz (H:=H) hG k) f args r h
end Go.Ab
