import Derived.Test.YtjkcellkmmfkdaaGreatDoorZdL
set_option linter.all false
open Sum (inl inr)
open Nat (le_refl)
open List (mem_of_getElem? getElem?_append_left mem_append getElem?_append_right getElem?_map)
namespace Go.Ab
open Go Go.RowKit Go.Fwd
variable {IT:IterP} {P:Program} {X Y:Cx} {U U':St} {S S':List AV} {n n0:Nat}
def qkn (P:Program)(U:St)(S:List AV):ResultVar->Option AV
 | .tmp t=>some ((S[t]?).getD (.raw undef))
 | .cell t ty=>zzk P U ty ((S[t]?).getD (.raw undef))
def qam (P:Program)(U:St)(S:List AV):List ResultVar->Option (List AV)
 |[]=>some []
 |x::l=>match qkn P U S x,qam P U S l with|some a,some r=>some (a::r)|_,_=>none
def zap (P:Program)(fn:Func)(U:St)(S:List AV):Option AV:=
 match qam P U S fn.results.toList with
 |some [a]=>some a
 |some l=>some (.tup l)
 |none=>none
theorem z5n {tmps:Array Value} {x:ResultVar} {a:AV} (h:qkn P U S x=some a)(hr:znc IT X S tmps)(hI:Inv IT U X):
 ∃v,((match x with| .tmp t=>pure (tmps.getD t undef)| .cell a t=>do loadVar t (<-asAddr (tmps.getD a undef))):Sem Value).run P X.w= .ok v X.w/\ Rep IT X a v:=by
 have hev: ∀t,Rep IT X ((S[t]?).getD (.raw undef)) (tmps.getD t undef):=fun t=>zde (a:={tmps:=tmps,defers:=[]}) hr (.tmp t);cases x with
 | tmp t=>
  simp only[qkn,Option.some.injEq] at h;subst h;exact⟨_,rfl,hev t⟩
 | cell t ty=>
  simp only[qkn] at h;obtain⟨v,h1,h2⟩:=ztd (P:=P) h (hev t) hI;refine⟨v,?_,h2⟩;have hp: ∃ad,tmps.getD t undef= .pointer (some ad):=by
   have:=hev t;generalize (S[t]?).getD (.raw undef)=y at h this
   cases y with
   |ptr s off=>rw[Rep] at this;obtain⟨b,_,e⟩:=this;exact⟨_,e⟩
   |iptr cs=>rw[Rep] at this;obtain⟨b,o,e,_⟩:=this;exact⟨_,e⟩
   |_=>cases h
  obtain⟨ad,e⟩:=hp;rw[e] at h1;simp only[Instr.loadAt,Instr.sureAddr,Sem.run_bind,Sem.run_pure,Result.andThen_ok] at h1;simp only[e,asAddr,Sem.run_bind,Sem.run_pure,Result.andThen_ok,h1]
theorem zuw {tmps:Array Value} (hr:znc IT X S tmps)(hI:Inv IT U X): ∀(l:List ResultVar) (r:List AV),qam P U S l=some r->
 ∃vs,(l.mapM fun x=>((match x with| .tmp t=>pure (tmps.getD t undef)| .cell a t=>do loadVar t (<-asAddr (tmps.getD a undef))):Sem Value)).run P X.w= .ok vs X.w/\ zbf IT X r vs
 |[],r,h=>by simp[qam] at h;subst h;exact⟨[],by simp,by rw[zbf]⟩
 | x::l,r,h=>by
  simp only[qam] at h;split at h<;>cases h
  rename_i a r' h1 h2;obtain⟨v,e1,e2⟩:=z5n h1 hr hI;obtain⟨vs,k1,k2⟩:=zuw hr hI l r' h2;refine⟨v::vs,?_,by rw[zbf];exact⟨v,vs,rfl,e2,k2⟩⟩;rw[List.mapM_cons];simp only[Sem.run_bind,e1,Result.andThen_ok,k1,Sem.run_pure]
theorem znj {fn:Func} {tmps:Array Value} {a:AV} (h:zap P fn U S=some a)(hr:znc IT X S tmps)(hI:Inv IT U X):
 ∃v,(results fn tmps).run P X.w= .ok v X.w/\ Rep IT X a v:=by
 unfold zap at h;have run: ∀r,qam P U S fn.results.toList=some r-> ∃vs,(results fn tmps).run P X.w= .ok (if h:vs.length=1 then vs[0] else .tuple vs.toArray) X.w/\ zbf IT X r vs:=fun r hr'=>by
  obtain⟨vs,k1,k2⟩:=zuw hr hI _ r hr';refine⟨vs,?_,k2⟩;unfold results;rw[Array.mapM_eq_mapM_toList];simp only[Sem.run_bind,Sem.run_map,Sem.run_pure];exact congrArg (fun r:Result (List Value)=>(r.andThen (fun a w'=>Result.ok a.toArray w')).andThen fun a w'=>Result.ok (if h:a.size=1 then a[0] else Value.tuple a) w') k1
 split at h
 ·rename_i b hl;cases h;obtain⟨vs,k1,k2⟩:=run _ hl;rw[zbf] at k2;obtain⟨v,r,rfl,k3,k4⟩:=k2;rw[zbf] at k4;subst k4;exact⟨v,by simpa using k1,k3⟩
 ·rename_i l hne hl;cases h;obtain⟨vs,k1,k2⟩:=run _ hl;have hlen:=zq k2;refine⟨.tuple vs.toArray,?_,by rw[Rep];exact⟨vs,rfl,k2⟩⟩;rw[k1,dif_neg];intro h1;obtain⟨x,rfl⟩:=List.length_eq_one_iff.1 (hlen.trans h1);exact hne x rfl
 ·cases h
theorem zln {F:Fence} {fn:Func} {tmps:Array Value} {R:Ending->World->Prop} {B:Nat}: ∀(Ds:List Nat) (w:World),Ds.Nodup->(∀D∈Ds,B<=D/\ w.heap[D]? =some (.deferred (some [])))->
 (∀W',Turn B w W'-> ∃v,(results fn tmps).run P W'= .ok v W'/\ R (.returned v) W')->LeavesInM F n P fn tmps R (Ds.map fun D=>{target:= .collected D,args:= #[]}) .returning w
 | [],w,_,_,h=>by
  obtain⟨v,h1,h2⟩:=h w ⟨rfl,rfl,rfl,le_refl _,le_refl _,fun _ _ h _=>h⟩;exact⟨_,h1,h2⟩
 | D::Ds,w,hnd,hD,h=>by
  rw[List.nodup_cons] at hnd;obtain⟨hB,hd⟩:=hD D (by simp);have hT:=Turn.putObj (B:=B) (.deferred none) hB hd rfl;refine⟨by simp,.inl ⟨D,_,rfl,run_takeDeferred hd,?_⟩⟩;refine zln Ds _ hnd.2 (fun D' h'=>⟨(hD D' (by simp[h'])).1,?_⟩) fun W' hT'=>h W' ?_
  ·exact(World.putObj_heap_other (by intro e;subst e;exact hnd.1 h')).trans (hD D' (by simp[h'])).2
  ·exact⟨hT'.os.trans hT.os,hT'.tape.trans hT.tape,hT'.output.trans hT.output,Nat.le_trans hT.size hT'.size,Nat.le_trans hT.drawn hT'.drawn,fun k o hk hc=>hT'.same k o (hT.same k o hk hc) hc⟩
def zai (fn:Func)(args:List AV):List AV:=args++List.replicate (fn.ntmps-args.length) (.raw undef)
def Ends (P:Program)(U:St)(a r:AV):Prop:= ∀(Y:Cx) (v:Value),Inv (ITP P) U Y->Rep (ITP P) Y a v-> ∃F':Nat->Nat->Prop,(∀b o,Y.F b o->F' b o)/\ (∀b o,F' b o->Y.F b o \/b∈Y.κ)/\
 (∀b o,F' b o-> ∃v,Y.w.cell? ⟨b,o,none⟩=some v)/\ Rep (ITP P) ⟨F',[],[],[],Y.w,Y.O,Y.C⟩ r v
theorem zwl {a r:AV} (h1:zbe 0 a=true)(h2:zcz a=r):Ends P U a r:=fun Y v hI hv=>by
 subst h2;exact⟨Y.F,fun _ _ h=>h,fun _ _ h=> .inl h,hI.Fcell,zio (X:=Y) (Y:=⟨Y.F,[],[],[],Y.w,Y.O,Y.C⟩) (ze P) rfl rfl a v (.inl h1) hv⟩
def zwb (P:Program)(fn:Func)(r:AV):AQ
 | .exit _,_,_=>False
 |_,S,U=> ∃a,zap P fn U S=some a/\ Ends P U a r
def z3w (P:Program)(n m:Nat)(U:St)(a r:AV)(U':St):Prop:= ∀(X Y:Cx) (v:Value),Ext X Y->X.κ.length=n->X.lens.length=m->Inv (ITP P) U Y->Rep (ITP P) Y a v-> ∃X',X'.w=Y.w/\ Ext X X'/\ Inv (ITP P) U' X'/\ Rep (ITP P) X' r v
theorem zvq {m:Nat} {a r:AV} (fs js:List Nat)(d:Nat)(hok:zcu U n js=true)(hr:zhq m (kz U.boxes m n fs js d) a=r)(hσ:zeo U m n fs js d=U'):z3w P n m U a r U':=fun X Y v hE hn hm hI hv=>by
 subst hr hσ;exact⟨zcx U m n fs js Y,rfl,zsi hE hI hok (by omega) (by omega),zsl (ze P) hI hok d,zkm (X:=Y) (Y:=zcx U m n fs js Y) (ze P) (fun b o h=>Or.inl h) rfl zic (zpm (ze P) hI hok d) _ _ hv⟩
theorem qho {m:Nat} {a r:AV} (h1:zbe n a=true)(h2:z0t n U=true)(h3:a=r)(h4:zfb n U=U'):z3w P n m U a r U':=fun X Y v hE hn hm hI hv=>by
 subst h3 h4;have htr:=qah (M:=none) (ze P) none (F:=Fence.wide.inRound 0) (B:=0) (S:=[]) (a:={tmps:= #[],defers:=[]}) ⟨hE,hI,by unfold znc;rw[zbf],⟨Nat.zero_le _,fun h=>absurd h (zmm 0),fun _=>rfl⟩,trivial⟩ (Nat.le_of_eq hn) h2;exact⟨{Y with κ:=Y.κ.take n},rfl,htr.ext,htr.inv,zsk (X:=Y) (Y:={Y with κ:=Y.κ.take n}) (ze P) rfl rfl rfl rfl rfl a v h1 hv⟩
def qlq (P:Program)(fn:Func)(n m:Nat)(r:AV)(U':St):AQ
 | .exit _,_,_=>False
 |_,S,U=> ∃a,zap P fn U S=some a/\ z3w P n m U a r U'
def z7e (P:Program)(fn:Func)(n:Nat):AQ
 | .exit _,_,_=>False
 |_,S,U=>(∃a,zap P fn U S=some a)/\ (U.stop=true \/U.out=n)
theorem zmd (hmix:P.follows .mixedOrders=true) {f:FuncId} {fn:Func} {c:Code} {args:List AV} {U:St} {Q:AQ} {X:Cx} {vs:List Value} {R:Ending->World->Prop} {M:Option Gen} (hG:zuc P X.w.heap.size M)(hf:P.funcs[f]? =some fn)(hb:fn.body=some c)
 {k0:Nat} (hk0:U.boxes.length=k0) (h:awp (ITP P) P (zdu M) k0 c Q (zai fn args) U) (hI:Inv (ITP P) U X) (hM:FrM M U X) (hr:zbf (ITP P) X args vs)
 (hQ: ∀e S U' Y,Q e S U'->Rel M X Y->Inv (ITP P) U' Y->FrM M U' Y->(e= .normal \/e= .ret)/\ ∃a,zap P fn U' S=some a/\ ∀v,Rep (ITP P) Y a v->R (.returned v) Y.w):Calls P f vs.toArray X.w R:=by
 refine(callsIn_wide (n:=3)).1 (callsIn_of_wp_marks hf hb trivial ?_ rfl);have hlen:=zq hr;have hreps:znc (ITP P) X (zai fn args) (vs.toArray++Array.replicate (fn.ntmps-vs.toArray.size) undef):=by
  unfold znc zai;have e:(vs.toArray++Array.replicate (fn.ntmps-vs.toArray.size) undef).toList=vs++List.replicate (fn.ntmps-args.length) undef:=by simp[hlen]
  rw[e];refine zbm hr (zfw (by simp) fun i a v h1 h2=> ?_);have h1:=List.eq_of_mem_replicate (mem_of_getElem? h1);have h2:=List.eq_of_mem_replicate (mem_of_getElem? h2);subst h1 h2;rw[Rep]
 refine zvs hmix c (M:=M) (B:=X.w.heap.size) hG (zrv P) k0 Q _ U X X {tmps:=vs.toArray++Array.replicate (fn.ntmps-vs.toArray.size) undef,defers:=[]} _ (Nat.le_of_eq (hI.κlen.trans hk0)) ⟨le_refl _,U,hI⟩ h
  ⟨Rel.of (Ext.refl X),hI,hreps,⟨le_refl _,fun _=>⟨le_refl _,[],rfl,List.nodup_nil,by simp⟩,fun h=>absurd rfl h⟩,hM⟩ (.inl (.inl rfl)) ?_
 intro e S U' Y a hq hn;obtain⟨_,Ds,d1,d2,d3⟩:=hn.marks.2.1 rfl;have key:(e= .normal \/e= .ret)/\ LeavesInM Fence.wide 3 P fn a.tmps R a.defers .returning Y.w:=by
  obtain⟨he,_⟩:=hQ e S U' Y hq hn.ext hn.inv hn.frn;refine⟨he,?_⟩;rw[d1];refine zln (B:=X.w.heap.size) Ds Y.w d2 d3 fun W' hT=> ?_;obtain⟨k1,k2,k3,_,k5⟩:=zlg (N:=fun _=>False) (NB:=fun _=>False) (Bm:=X.w.heap.size) hG (le_refl _) (fun _ h=>h.elim) (RelB.of hn.ext) hn.inv hn.frn (zkw M Y) (le_refl _) (zjt hn.inv (zkw M Y) hn.ext.size hT);obtain⟨_,x,hx,hv⟩:=hQ e S U' _ hq (k1.to fun _ h=>h.elim) k2 k3;obtain⟨v,r1,r2⟩:=znj (P:=P) (fn:=fn) hx (show znc (ITP P) {Y with w:=W'} S a.tmps from zbu (ze P) k5 _ _ hn.reps) k2;exact⟨v,r1,hv v r2⟩
 obtain⟨he,hl⟩:=key;rcases he with rfl|rfl<;>exact hl
theorem zko (hmix:P.follows .mixedOrders=true) {f:FuncId} {fn:Func} {c:Code} {args:List AV} {r:AV} (hf:P.funcs[f]? =some fn)(hb:fn.body=some c)(he:Ent P f)
    (h:awp (ITP P) P none 0 c (zwb P fn r) (zai fn args) St.empty):Pure (ITP P) P f args r:=by
  refine⟨he,fun X vs hI hr=>zmd (M:=none) hmix trivial hf hb (U:=St.empty) (k0:=0) rfl h hI trivial hr ?_⟩;intro e S U' Y hq (hE:Ext X Y) hIY _;have hκ:X.κ=[]:=by have:=hI.κlen;simpa[St.empty] using this
  have hl:X.lens=[]:=hI.lens;have hβ:X.β=[]:=by have:=hI.βlen;rw[hl] at this;simpa using this
  have fin : ∀ a,zap P fn U' S=some a->Ends P U' a r-> ∃a,zap P fn U' S=some a/\ ∀v,Rep (ITP P) Y a v->
      ∃v' X',Ending.returned v= .returned v'/\ X'.w=Y.w/\ Ext X X'/\ Inv (ITP P) St.empty X'/\ Rep (ITP P) X' r v':=fun a h1 h2=>by
    refine⟨a,h1,fun v hv=> ?_⟩;obtain⟨F',f1,f2,f3,f4⟩:=h2 Y v hIY hv;refine⟨v,⟨F',[],[],[],Y.w,Y.O,Y.C⟩,rfl,rfl,?_,?_,f4⟩
    . exact { os :=hE.os,tape:=hE.tape,output:=hE.output,size:=hE.size,drawn:=hE.drawn,F:=fun b o h=>f1 b o (hE.F b o h),cell:=hE.cell
              κ:=fun s b hs=>by rw[hκ] at hs;simp at hs
              lens:=fun s L hs=>by rw[hl] at hs;simp at hs
              blk:=fun s b hs=>by rw[hκ] at hs;simp at hs
              szs:=hE.szs
              frame:=hE.frame
              κnew:=fun b hb=>by simp at hb
              βnew:=fun r hr=>by simp at hr
              O:=hE.O
              C:=hE.C
              Fnew:=fun b o h=>(f2 b o h).elim (hE.Fnew b o) fun hm=>by
                rcases hE.κnew b hm with h|h
                . rw[hκ] at h;simp at h
                . exact .inr (.inl h)}
    . exact { lens:=rfl,elems:=rfl,κlen:=rfl,κnd:=fun s s' b h=>by simp at h,box:=fun s b t cs h=>by simp at h,κF:=fun s b t cs h=>by simp at h,βlen:=rfl,βnd:=List.nodup_nil,βκ:=fun r h=>by simp at h
              row:=fun s r L h=>by simp at h
              Ok :=fun b hb=>by
                obtain⟨k1,k2,k3,k4⟩:=hIY.Ok b hb;exact⟨k1,by simp,by simp,fun o hf=>(f2 b o hf).elim (k4 o) fun hm=>absurd hm k2⟩
              Fcell:=f3
              gv:=(ze P).gv _ _ _ _ f1 (fun _ _ _=>rfl) (Szs.refl _) hIY.gv}
  cases e with
  |normal=>obtain⟨a,h1,h2⟩:=hq;exact⟨.inl rfl,fin a h1 h2⟩
  |ret=>obtain⟨a,h1,h2⟩:=hq;exact⟨.inr rfl,fin a h1 h2⟩
  |exit id=>exact hq.elim
theorem z8c (hmix:P.follows .mixedOrders=true) {f:FuncId} {fn:Func} {c:Code} {args:List AV} {U U':St} {r:AV} (hf:P.funcs[f]? =some fn)(hb:fn.body=some c)(he:Ent P f)
 (h:awp (ITP P) P none U.boxes.length c (qlq P fn U.boxes.length U.lens.length r U') (zai fn args) U):Snd (ITP P) P f args U r U':=by
 refine⟨he,fun X vs hI hr=>zmd (M:=none) hmix trivial hf hb rfl h hI trivial hr ?_⟩;intro e S U1 Y hq (hE:Ext X Y) hIY _;have hκn:=hI.κlen
 have fin: ∀a,zap P fn U1 S=some a->z3w P U.boxes.length U.lens.length U1 a r U'-> ∃a,zap P fn U1 S=some a/\ ∀v,Rep (ITP P) Y a v->
  ∃v' X',Ending.returned v= .returned v'/\ X'.w=Y.w/\ Ext X X'/\ Inv (ITP P) U' X'/\ Rep (ITP P) X' r v':=fun a h1 h2=>⟨a,h1,fun v hv=>by
  obtain⟨X',k1,k2,k3,k4⟩:=h2 X Y v hE hκn (by rw[hI.lens]) hIY hv;exact⟨v,X',rfl,k1,k2,k3,k4⟩⟩
 cases e with
 |normal=>obtain⟨a,h1,h2⟩:=hq;exact⟨.inl rfl,fin a h1 h2⟩
 |ret=>obtain⟨a,h1,h2⟩:=hq;exact⟨.inr rfl,fin a h1 h2⟩
 |exit id=>exact hq.elim
theorem qmd (hmix:P.follows .mixedOrders=true) {g:FuncId} {fn:Func} {c:Code} {caps:List AV} {lb:List Value} {rows:List (List AV)} {F0:Nat->Nat->Prop} {w0:World} {O C} (hf:P.funcs[g]? =some fn)(hb:fn.body=some c)
    (h: ∀G:Gen,G.rows=rows->awp (ITP P) P (some G) 0 c (z7e P fn rows.length) (zai fn (.yld G.l::caps)) St.empty) (hr:zbf (ITP P) ⟨F0,[],[],[],w0,O,C⟩ caps lb) (hgv:(ITP P).gv F0 w0):IterX P g lb.toArray rows (fun _=>False) F0 w0:=by
  intro l W J Jx s0 hc hz _ hG hF0 hO hC hJ
  have hI:Inv (ITP P) St.empty ⟨F0,[],[],[],W,s0.O,s0.C⟩:=
    { lens:=rfl,elems:=rfl,κlen:=rfl,κnd:=fun s s' b h=>by simp at h,box:=fun s b t cs h=>by simp at h,κF:=fun s b t cs h=>by simp at h,βlen:=rfl,βnd:=List.nodup_nil,βκ:=fun r h=>by simp at h
      row:=fun s r L h=>by simp at h
      Ok:=fun b hb=>⟨hO b hb,by simp,by simp,fun o hf=>(hF0 b o hf).resolve_left (fun h=>h hb)⟩
      Fcell:=fun b o hf=>(hc b o hf).1
      gv:=(ze P).gv _ _ _ _ (fun _ _ h=>h) (fun b o hf=>(hc b o hf).2) hz hgv}
  have hr':zbf (ITP P) ⟨F0,[],[],[],W,s0.O,s0.C⟩ (.yld l::caps) (.func (.yield l) #[] #[]::lb):=
    ⟨_,lb,rfl,rfl,zbu (X:=⟨F0,[],[],[],w0,O,C⟩) (X':=⟨F0,[],[],[],W,s0.O,s0.C⟩) (ze P) ⟨fun _ _ h=>h,fun b o hf=>(hc b o hf).2,fun _ _ h=>h,fun s L h=>by simp at h,fun s b h=>by simp at h,hz⟩ _ _ hr⟩
  have hFr:FrM (some ⟨W.heap.size,F0,l,rows,J,Jx,fun _=>False⟩) St.empty ⟨F0,[],[],[],W,s0.O,s0.C⟩:=
    ⟨s0,fun _=>Iff.rfl,⟨fun _ _=>Iff.rfl,fun b o hc=> .inr ⟨hC b o hc,by simp,by simp⟩⟩,hJ,le_refl _,by simp,by simp,fun b o hf=> .inl hf⟩
  have e:(#[.func (.yield l) #[] #[]]++lb.toArray:Array Value)=(Value.func (.yield l) #[] #[]::lb).toArray:=by simp
  rw[e];refine zmd (M:=some ⟨W.heap.size,F0,l,rows,J,Jx,fun _=>False⟩) (X:=⟨F0,[],[],[],W,s0.O,s0.C⟩) hmix ⟨hG,le_refl _⟩ hf hb (k0:=0) rfl (h _ rfl) hI hFr hr' ?_;intro e S U' Y hq _ _ hF;have fin:(∃a,zap P fn U' S=some a)/\ (U'.stop=true \/U'.out=rows.length)-> ∃a,zap P fn U' S=some a/\ ∀v,Rep (ITP P) Y a v->(∃v',Ending.returned v= .returned v')/\ ∃s,(J rows.length s Y.w \/Jx s Y.w):=fun⟨⟨a,h1⟩,h2⟩=>by
    obtain⟨s,_,_,h3,_⟩:Fr _ U' Y:=hF;refine⟨a,h1,fun v _=>⟨⟨v,rfl⟩,s,?_⟩⟩;by_cases hst:U'.stop=true
    . rw[if_pos hst] at h3;exact .inr h3
    . rw[if_neg hst,h2.resolve_left hst] at h3;exact .inl h3
  cases e with
  |normal=>exact⟨.inl rfl,fin hq⟩
  |ret=>exact⟨.inr rfl,fin hq⟩
  |exit id=>exact hq.elim
mutual
def zne:AV->Bool
 | .raw _=>true
 | .ptr _ _=>true
 | .bsl _ _ _ _ _=>true
 | .top=>true
 | .list _ cs st=>zhg cs&&decide (st≠ .none \/cs=[])&&(match st with| .own _=>false|_=>true)&&cs.isEmpty
 |_=>false
def zhg:List AV->Bool
 |[]=>true
 |a::l=>zne a&&zhg l
end
theorem qms (hκ:Y.κ=X.κ)(hw:Y.w=X.w): ∀(a:AV) (v:Value),zne a=true->Rep IT X a v->Rep IT Y a v
 | .raw _,_,_,h=>h
 | .ptr s off,v,_,⟨b,h,e⟩=>⟨b,by rw[hκ];exact h,e⟩
 | .bsl s off n sz f,v,_,h=>Bsl.mono (X:=X) (Y:=Y) (fun b h=>by rw[hκ];exact h) hw h
 | .top,_,_,_=>by rw[Rep];trivial
 | .list n cs st,v,hf,⟨a,cap,e,h1,_,h3⟩=>by
  simp only[zne,Bool.and_eq_true,List.isEmpty_iff] at hf;obtain⟨⟨_,hs⟩,rfl⟩:=hf;exact⟨a,cap,e,h1,.inl rfl,by cases st with|none=>trivial|full=>exact h3|own s=>cases hs⟩
 | .agg _,_,h,_=>by simp[zne] at h
 | .tup _,_,h,_=>by simp[zne] at h
 | .iptr _,_,h,_=>by simp[zne] at h
 | .clos _ _,_,h,_=>by simp[zne] at h
 | .iter _,_,h,_=>by simp[zne] at h
 | .yld _,_,h,_=>by simp[zne] at h
 | .bad,_,h,_=>by simp[zne] at h
theorem z3a (hκ:Y.κ=X.κ)(hw:Y.w=X.w): ∀(l:List AV) (vs:List Value),zhg l=true->zbf IT X l vs->zbf IT Y l vs
 |[],_,_,h=>h
 | a::l,vs,hf,⟨v,r,e,h1,h2⟩=>by
  rw[zhg,Bool.and_eq_true] at hf;exact⟨v,r,e,qms hκ hw a v hf.1 h1,z3a hκ hw l r hf.2 h2⟩
theorem z6o (h:Wk1 n0 S U S' U'):U'.out=U.out/\ U'.stop=U.stop:=by
 rcases h with⟨_,(rfl|⟨n,_,_,_,rfl⟩)⟩|⟨n,fs,js,d,_,_,_,rfl⟩|⟨s,t,cs,_,_,rfl⟩|⟨s,k,t,cs,_,_,rfl⟩|⟨s,t,cs,_,_,rfl⟩<;>exact⟨rfl,rfl⟩
theorem wk_out (h:Wk n0 S U S' U'):U'.out=U.out/\ U'.stop=U.stop:=by
 induction h with
 |one h=>exact z6o h
 |step h _ ih=>exact⟨ih.1.trans (z6o h).1,ih.2.trans (z6o h).2⟩
def aendGS (P:Program)(fn:Func)(n n0:Nat)(bs':List (TypeId×List AV)):AQ
 | .exit _,_,_=>False
 |_,S,U=>(∃a,zap P fn U S=some a)/\ (U.stop=true \/(U.out=n/\ ∃U',Wk n0 [] U [] U'/\ U'.boxes=bs'/\ (bs'.all fun b=>zhg b.2)=true))
theorem qlu (hmix:P.follows .mixedOrders=true) {g:FuncId} {fn:Func} {c:Code} {caps:List AV} {rows:List (List AV)} (hne:rows≠errRows)(hf:P.funcs[g]? =some fn)(hb:fn.body=some c)(he:Ent P g)
 (h: ∀G:Gen,G.rows=rows->awp (ITP P) P (some G) 0 c (z7e P fn rows.length) (zai fn (.yld G.l::stripL caps)) St.empty) (hok:zac 0 caps=true) {X:Cx} {v:Value} (hgv:(ITP P).gv X.F X.w) (hv:Rep (ITP P) X (.clos g caps) v):Rep (ITP P) X (.iter rows) v:=by
 obtain⟨vs,rfl,hr⟩:=hv;exact .inr ⟨hne,g,vs.toArray,X.F,rfl,he,fun _ _ h=>h,qmd hmix hf hb h (O:=X.O) (C:=X.C) (zfm (X:=X) (Y:=⟨X.F,[],[],[],X.w,X.O,X.C⟩) (ze P) rfl rfl caps vs (.inl hok) hr) hgv⟩
theorem qeo (hmix:P.follows .mixedOrders=true) {U:St} {a:AV} {g:FuncId} {fn:Func} {c:Code} {caps:List AV} {rows:List (List AV)} (hne:rows≠errRows)(h0:Ends P U a (.clos g caps))(hf:P.funcs[g]? =some fn)(hb:fn.body=some c)(he:Ent P g)
 (h: ∀G:Gen,G.rows=rows->awp (ITP P) P (some G) 0 c (z7e P fn rows.length) (zai fn (.yld G.l::stripL caps)) St.empty) (hok:zac 0 caps=true):Ends P U a (.iter rows):=fun Y v hI hv=>by
 obtain⟨F',f1,f2,f3,f4⟩:=h0 Y v hI hv;exact⟨F',f1,f2,f3,qlu hmix hne hf hb he h hok ((ze P).gv _ _ _ _ f1 (fun _ _ _=>rfl) (Szs.refl _) hI.gv) f4⟩
theorem qle {a r:AV} (n:Nat)(h:zgu (frz U.boxes n) a=r):Ends P U a r:=fun Y v hI hv=>by
 subst h;refine⟨qjd Y,fun _ _ h=> .inl h,fun b o h=>h.imp id And.left,fun b o h=> ?_,zre (Y:=⟨qjd Y,[],[],[],Y.w,Y.O,Y.C⟩) (ze P) (fun b o h=>Or.inl h) rfl (qhy (ze P) hI n) a v hv⟩;rcases h with h|⟨_,h⟩
 ·exact hI.Fcell b o h
 ·exact h
def quiet (o:Oper):Bool:=
 match o.op with
 | .alloc _| .box _ _| .store _ _ _=>false
 | .call c=>match c.callee with| .builtin .append=>false|_=>true
 |_=>true
abbrev CallP:=FuncId->List AV->Option AV
abbrev CallS:=FuncId->List AV->St->Option (AV×St)
abbrev Run:=Code->Nat->List AV->St->Option (AExit×List AV×St)
def zwz (P:Program)(cp:CallP)(cs:CallS)(o:Oper)(S:List AV)(U:St):Option (AV×St):=
 match zct S o with
 |some (f,args)=>if zac 0 args=true then(match cp f (stripL args) with|some r=>some (r,U)|none=>none) else(match cs f args U with|some (r,U')=>if U'.out=U.out/\ U'.stop=U.stop then some (r,U') else none|none=>none)
 | none=>match zcv S o with
  |some _=>none
  | none=>match aop P (zbw S) U o with
   |some r=>some r
   |none=>zwg P (zbw S) U o
def zyx (P:Program)(cp:CallP)(cs:CallS)(ops:Array Oper):List Oper->List AV->St->Option (List AV×St)
 |[],S,U=>some (S,U)
 | o ::l,S,U=>match o.guard with
  | none=>match zwz P cp cs o S U with
   |some (a,U')=>zyx P cp cs ops l (zad S o.dst a) U'
   |none=>none
  | some (k,b)=>match zdx ops S k with
   | some c=>if c=some b then(match zwz P cp cs o S U with
    |some (a,U')=>zyx P cp cs ops l (zad S o.dst a) U'
    |none=>none) else zyx P cp cs ops l (zad S o.dst (.raw undef)) U
   |none=>none
def zpw (P:Program)(cp:CallP)(o:Oper)(S:List AV)(U:St):Option AV:=
 match zct S o with
 |some (f,args)=>if zac 0 args=true then cp f (stripL args) else none
 |none=>qop P (zbw S) U o
def zrs (P:Program)(cp:CallP)(ops:Array Oper)(size:Nat)(U:St):List Oper->List AV->Option (List AV)
 |[],S=>some S
 | o ::l,S=>if(o.dst.all fun d=>decide (d<size))=true then(match o.guard with
  | none=>match zpw P cp o S U with
   |some a=>zrs P cp ops size U l (zad S o.dst a)
   |none=>none
  | some (k,b)=>match zdx ops S k with
   | some c=>if c=some b then(match zpw P cp o S U with
    |some a=>zrs P cp ops size U l (zad S o.dst a)
    |none=>none) else zrs P cp ops size U l (zad S o.dst (.raw undef))
   |none=>none) else none
def zld (P:Program)(cp:CallP)(ops:Array Oper)(size:Nat)(U:St):List Oper->List AV->Pend->Option (List AV×Pend)
 |[],S,ps=>some (S,ps)
 | o ::l,S,ps=>if(o.dst.all fun d=>decide (d<size))=true/\ (ps.all fun p=>o.dst !=some p.1)=true then(match o.guard with
  | none=>match zpw P cp o S U with
   |some a=>zld P cp ops size U l (zad S o.dst a) ps
   | none=>match o.op,o.dst with
    | .alloc t,some d=>match znh P t with
     |some z=>zld P cp ops size U l (S.set d .top) (ps++[(d,t,z)])
     |none=>none
    |_,_=>none
  | some (k,b)=>match zdx ops S k with
   | some c=>if c=some b then(match zpw P cp o S U with
    |some a=>zld P cp ops size U l (zad S o.dst a) ps
    |none=>none) else zld P cp ops size U l (zad S o.dst (.raw undef)) ps
   |none=>none) else none
def quietB (o:Oper):Bool:=match o.op with| .alloc _=>true|_=>quiet o
def findB (ops:Array Oper)(size:Nat):Option Nat:=
 let n:=(ops.toList.takeWhile quietB).length
 if chk ops size n=true then some n else none
def zuk (Ea:List AV->St->Option (AExit×List AV×St))(Eb:List AV->St->Option (AExit×List AV×St))(ps:Array Tmp)(S0:List AV)(n:Nat):List (List AV)->St->Option (AExit×List AV×St)
 |[],U=>some (.normal,S0,U)
 | x ::xs,U=>match Ea (zkc S0 ps x) U with
  | some (.normal,S1,U1)=>(match Eb S1 U1 with
   | some (e,S2,U2)=>if z0t n U2=true then(match e with
    | .normal=>zuk Ea Eb ps S0 n xs (zfb n U2)
    |e=>some (e,S0,zfb n U2)) else none
   |none=>none)
  |_=>none
def zjl (P:Program)(Ω:CallP)(E:Run)(f:FuncId)(args:List AV):Option AV:=
 match Ω f args with
 |some r=>some r
 | none=>match P.funcs[f]? with
  | some fn=>match fn.body with
   | some c=>if(zai fn args).length=fn.ntmps then(match E c fn.ntmps (zai fn args) St.empty with
    |some (.exit _,_,_)=>none
    | some (_,S,U)=>match zap P fn U S with
     |some a=>if zbe 0 a=true then some (zcz a) else none
     |none=>none
    |none=>none) else none
   |none=>none
  |none=>none
def zro (P:Program)(Ψ:CallS)(E:Run)(f:FuncId)(args:List AV)(U:St):Option (AV×St):=
 match Ψ f args U with
 |some r=>some r
 |none=>match P.funcs[f]? with
 | some fn=>match fn.body with
  | some c=>if(zai fn args).length=fn.ntmps then(match E c fn.ntmps (zai fn args) U with
   |some (.exit _,_,_)=>none
   | some (_,S,U1)=>match zap P fn U1 S with
    |some a=>if zbe U.boxes.length a=true/\ z0t U.boxes.length U1=true then some (a,zfb U.boxes.length U1) else none
    |none=>none
   |none=>none) else none
  |none=>none
 |none=>none
def qog (P:Program)(cp:CallP)(cs:CallS)(ops:Array Oper)(sz:Nat)(S:List AV)(U:St)(n:Nat):Option (List AV×St):=
 if chk ops sz n=true then(match zrs P cp ops sz U (ops.toList.take n) S with
  |some S1=>zyx P cp cs ops (ops.toList.drop n) S1 U
  |none=>none) else none
def qhx (P:Program)(cp:CallP)(cs:CallS)(ops:Array Oper)(sz:Nat)(S:List AV)(U:St):Option (List AV×St):=
 (List.range ((ops.toList.takeWhile quiet).length+1)).reverse.findSome? (qog P cp cs ops sz S U)
variable {IT:IterP} {S:List AV} {U:St} {ops:Array Oper} {n:Nat}
theorem zmz {P:Program} {o:Oper} {K K':AV->Prop} (h: ∀a,K a->K' a)(k:zit IT P o S U K):zit IT P o S U K':=by
 unfold zit at k⊢;split
 ·rename_i hc;rw[hc] at k;obtain⟨r,k1,k2,k3⟩:=k;exact⟨r,k1,k2,h _ k3⟩
 ·rename_i hc;rw[hc] at k;obtain⟨a,k1,k2⟩:=k;exact⟨a,k1,h _ k2⟩
theorem z0r {P:Program} {K:List AV->Prop} {K':List AV->Pend->Prop} (h: ∀S,K S->K' S []): ∀(l:List Oper) (S:List AV),zfr IT P ops U K l S->zev IT P ops U K' l S []
 |[],S,k=>h S k
 | o::l,S,k=>by
  simp only[zfr] at k;simp only[zev];refine⟨k.1,rfl,.inr ?_⟩;have k:=k.2;split
  ·rename_i hg;rw[hg] at k;exact zmz (fun a=>z0r h l _) k
  ·rename_i kb b hg;rw[hg] at k;obtain⟨c,k1,k2⟩:=k;refine⟨c,k1,?_⟩;split
   ·rename_i hc;rw[if_pos hc] at k2;exact zmz (fun a=>z0r h l _) k2
   ·rename_i hc;rw[if_neg hc] at k2;exact z0r h l _ k2
theorem qov {P:Program} {W:Owed} {Q:List AV->St->Prop} (n:Nat)(h1:chk ops S.length n=true)(h2:zvh ops.toList=true)(h3:zfr IT P ops U (fun S'=>zcb IT P W ops Q (ops.toList.drop n) S' U) (ops.toList.take n) S):qgf IT P W ops Q S U:=
 ⟨n,h1,h2,z0r (fun S' h=>by
  have e:zna U []=U:=by simp[zna]
  show zcb IT P W ops Q (ops.toList.drop n) S' (zna U []);rw[e];exact h) _ _ h3⟩
section
variable {P:Program} {cp:CallP} {cs:CallS}
def qdd (P:Program)(cp:CallP):Prop:= ∀f args r,cp f args=some r->Pure (ITP P) P f args r
def qgm (P:Program)(cs:CallS):Prop:= ∀f args U r U',cs f args U=some (r,U')->Snd (ITP P) P f args U r U'
theorem zjb (hcp:qdd P cp)(hcs:qgm P cs) {o:Oper} {S:List AV} {U U':St} {a:AV} (h:zwz P cp cs o S U=some (a,U')) {K:AV->St->Prop} (hK:K a U'):zfq (ITP P) P none o S U K:=by
 unfold zwz at h;unfold zfq;split at h
 ·rename_i f args hc;rw[hc];simp only;split at h
  ·rename_i hok;split at h<;>cases h
   rename_i hr;exact⟨a,U,.inr (.inl ⟨rfl,hok,hcp _ _ _ hr⟩),hK⟩
  ·split at h<;>try cases h
   rename_i hs;split at h<;>cases h
   rename_i hos;exact⟨a,U',.inl ⟨hcs _ _ _ _ _ hs,hos⟩,hK⟩
 ·rename_i hc;rw[hc];simp only;split at h<;>try cases h
  rename_i hy;rw[hy];split at h
  ·rename_i r hr;cases h;exact .inl ⟨a,U',.inl hr,hK⟩
  ·exact .inl ⟨a,U',.inr (.inr (.inl h)),hK⟩
theorem zid (hcp:qdd P cp)(hcs:qgm P cs) {ops:Array Oper}: ∀(l:List Oper) (S:List AV) (U:St) (S':List AV) (U':St),zyx P cp cs ops l S U=some (S',U')->S'.length=S.length/\ ∀Q:List AV->St->Prop,Q S' U'->zcb (ITP P) P none ops Q l S U
 |[],S,U,S',U',h=>by simp only[zyx,Option.some.injEq,Prod.mk.injEq] at h;obtain⟨rfl,rfl⟩:=h;exact⟨rfl,fun Q h=>h⟩
 | o ::l,S,U,S',U',h=>by
  simp only[zyx] at h;simp only[zcb];cases hg:o.guard with
  | none=>
   rw[hg] at h;simp only at h⊢;split at h<;>try cases h
   rename_i a U1 hs;obtain⟨h1,h2⟩:=zid hcp hcs l _ _ _ _ h;exact⟨by rw[h1,zay],fun Q hQ=>zjb hcp hcs hs (h2 Q hQ)⟩
  | some kb=>
   obtain⟨k,b⟩:=kb;rw[hg] at h;simp only at h⊢;split at h<;>try cases h
   rename_i c hc;split at h
   ·rename_i e;split at h<;>try cases h
    rename_i a U1 hs;obtain⟨h1,h2⟩:=zid hcp hcs l _ _ _ _ h;exact⟨by rw[h1,zay],fun Q hQ=>⟨c,hc,by rw[if_pos e];exact zjb hcp hcs hs (h2 Q hQ)⟩⟩
   ·rename_i e;obtain⟨h1,h2⟩:=zid hcp hcs l _ _ _ _ h;exact⟨by rw[h1,zay],fun Q hQ=>⟨c,hc,by rw[if_neg e];exact h2 Q hQ⟩⟩
theorem zhl (hcp:qdd P cp) {o:Oper} {S:List AV} {U:St} {a:AV} (h:zpw P cp o S U=some a) {K:AV->Prop} (hK:K a):zit (ITP P) P o S U K:=by
 unfold zpw at h;unfold zit;split at h
 ·rename_i f args hc;rw[hc];simp only;split at h<;>try cases h
  rename_i hok;exact⟨a,hok,hcp _ _ _ h,hK⟩
 ·rename_i hc;rw[hc];exact⟨a,.inl h,hK⟩
theorem ziu (hcp:qdd P cp) {ops:Array Oper} {size:Nat} {U:St}: ∀(l:List Oper) (S S':List AV),zrs P cp ops size U l S=some S'->S.length=size->S'.length=size/\ ∀K:List AV->Prop,K S'->zfr (ITP P) P ops U K l S
 |[],S,S',h,hl=>by simp only[zrs,Option.some.injEq] at h;subst h;exact⟨hl,fun K h=>h⟩
 | o ::l,S,S',h,hl=>by
  simp only[zrs] at h;simp only[zfr];split at h<;>try cases h
  rename_i hd;cases hg:o.guard with
  | none=>
   rw[hg] at h;simp only at h⊢;split at h<;>try cases h
   rename_i a hs;obtain⟨h1,h2⟩:=ziu hcp l _ _ h (by rw[zay];exact hl);exact⟨h1,fun K hK=>⟨by rw[hl];exact hd,zhl hcp hs (h2 K hK)⟩⟩
  | some kb=>
   obtain⟨k,b⟩:=kb;rw[hg] at h;simp only at h⊢;split at h<;>try cases h
   rename_i c hc;split at h
   ·rename_i e;split at h<;>try cases h
    rename_i a hs;obtain⟨h1,h2⟩:=ziu hcp l _ _ h (by rw[zay];exact hl);exact⟨h1,fun K hK=>⟨by rw[hl];exact hd,c,hc,by rw[if_pos e];exact zhl hcp hs (h2 K hK)⟩⟩
   ·rename_i e;obtain⟨h1,h2⟩:=ziu hcp l _ _ h (by rw[zay];exact hl);exact⟨h1,fun K hK=>⟨by rw[hl];exact hd,c,hc,by rw[if_neg e];exact h2 K hK⟩⟩
theorem zga (hcp:qdd P cp) {ops:Array Oper} {size:Nat} {U:St}: ∀(l:List Oper) (S S':List AV) (ps ps':Pend),zld P cp ops size U l S ps=some (S',ps')->S.length=size->S'.length=size/\ ∀K:List AV->Pend->Prop,K S' ps'->zev (ITP P) P ops U K l S ps
 |[],S,S',ps,ps',h,hl=>by simp only[zld,Option.some.injEq,Prod.mk.injEq] at h;obtain⟨rfl,rfl⟩:=h;exact⟨hl,fun K h=>h⟩
 | o ::l,S,S',ps,ps',h,hl=>by
  simp only[zld] at h;simp only[zev];split at h<;>try cases h
  rename_i hd;cases hg:o.guard with
  | none=>
   rw[hg] at h;simp only at h⊢;split at h
   ·rename_i a hs;obtain⟨h1,h2⟩:=zga hcp l _ _ _ _ h (by rw[zay];exact hl);exact⟨h1,fun K hK=>⟨by rw[hl];exact hd.1,hd.2,.inr (zhl hcp hs (h2 K hK))⟩⟩
   ·split at h<;>try cases h
    rename_i t d ho hdst;split at h<;>try cases h
    rename_i z hz;obtain⟨h1,h2⟩:=zga hcp l _ _ _ _ h (by rw[List.length_set];exact hl);exact⟨h1,fun K hK=>⟨by rw[hl];exact hd.1,hd.2,.inl ⟨trivial,t,d,z,ho,hdst,hz,h2 K hK⟩⟩⟩
  | some kb=>
   obtain⟨k,b⟩:=kb;rw[hg] at h;simp only at h⊢;split at h<;>try cases h
   rename_i c hc;split at h
   ·rename_i e;split at h<;>try cases h
    rename_i a hs;obtain⟨h1,h2⟩:=zga hcp l _ _ _ _ h (by rw[zay];exact hl);exact⟨h1,fun K hK=>⟨by rw[hl];exact hd.1,hd.2,.inr ⟨c,hc,by rw[if_pos e];exact zhl hcp hs (h2 K hK)⟩⟩⟩
   ·rename_i e;obtain⟨h1,h2⟩:=zga hcp l _ _ _ _ h (by rw[zay];exact hl);exact⟨h1,fun K hK=>⟨by rw[hl];exact hd.1,hd.2,.inr ⟨c,hc,by rw[if_neg e];exact h2 K hK⟩⟩⟩
theorem zrg: ∀(ps:Pend) (n:Nat) (S:List AV),(zpd n ps S).length=S.length
 |[],n,S=>rfl
 |p::ps,n,S=>by rw[zpd,zrg ps,List.length_set]
theorem z0z (S:List AV)(ps:Array Tmp)(x:List AV):(zkc S ps x).length=S.length:=by
 unfold zkc;generalize ps.toList.zip x=l
 induction l generalizing S with
 |nil=>rfl
 |cons p l ih=>rw[List.foldl_cons,ih];simp
theorem zox {asg body:Code} {Ea Eb:List AV->St->Option (AExit×List AV×St)} {ps:Array Tmp} {S0:List AV}
 (ha: ∀S U e S' U',S.length=S0.length->Ea S U=some (e,S',U')->S'.length=S0.length/\ ∀(k:Nat) (Q:AQ),Q e S' U'->awp (ITP P) P none k asg Q S U)
 (hb: ∀S U e S' U',S.length=S0.length->Eb S U=some (e,S',U')-> ∀(k:Nat) (Q:AQ),Q e S' U'->awp (ITP P) P none k body Q S U):
 ∀(xs:List (List AV)) (U:St) (e:AExit) (S':List AV) (U':St),zuk Ea Eb ps S0 n xs U=some (e,S',U')->S'=S0/\ ∀Q:AQ,Q e S' U'->zfn (fun k=>awp (ITP P) P none k asg) (fun k=>awp (ITP P) P none k body) ps S0 Q n xs U
 |[],U,e,S',U',h=>by simp only[zuk,Option.some.injEq,Prod.mk.injEq] at h;obtain⟨rfl,rfl,rfl⟩:=h;exact⟨rfl,fun Q h=>h⟩
 | x::xs,U,e,S',U',h=>by
  simp only[zuk] at h;split at h<;>try cases h
  rename_i S1 U1 ha1;split at h<;>try cases h
  rename_i e2 S2 U2 hb2;split at h<;>try cases h
  rename_i hok2;obtain⟨a1,a3⟩:=ha _ _ _ _ _ (z0z _ _ _) ha1;simp only[zfn];cases e2 with
  | normal=>
   simp only at h;obtain⟨h1,h2⟩:=zox ha hb xs _ _ _ _ h;exact⟨h1,fun Q hQ=>a3 _ _ (hb _ _ _ _ _ a1 hb2 _ _ ⟨hok2,h2 Q hQ⟩)⟩
  | exit id=>
   simp only[Option.some.injEq,Prod.mk.injEq] at h;obtain⟨rfl,rfl,rfl⟩:=h;exact⟨rfl,fun Q hQ=>a3 _ _ (hb _ _ _ _ _ a1 hb2 _ _ ⟨hok2,hQ⟩)⟩
  | ret=>
   simp only[Option.some.injEq,Prod.mk.injEq] at h;obtain⟨rfl,rfl,rfl⟩:=h;exact⟨rfl,fun Q hQ=>a3 _ _ (hb _ _ _ _ _ a1 hb2 _ _ ⟨hok2,hQ⟩)⟩
end
structure Good (P:Program)(Ω:CallP)(Ψ:CallS):Prop where
 mix:P.follows .mixedOrders=true
 ent: ∀(f:Nat) fn,P.funcs[f]? =some fn->fn.body.isSome=true->Ent P f
 oracle:qdd P Ω
 oracleS:qgm P Ψ
def awpT (P:Program)(c:Code)(Q:AQ)(S:List AV)(U:St):Prop:= ∀k,awp (ITP P) P none k c Q S U
theorem zdd {P:Program} {c:Code} {Q:AQ} {k:Nat} (h:awpT P c Q S U):awp (ITP P) P none k c Q S U:=h k
def EvOk (P:Program)(E:Run):Prop:= ∀c sz S U e S' U',E c sz S U=some (e,S',U')->S.length=sz->S'.length=sz/\ ∀Q:AQ,Q e S' U'->awpT P c Q S U
theorem ztt {P:Program} {Ω:CallP} {Ψ:CallS} (hG:Good P Ω Ψ) {E:Run} (hE:EvOk P E):qdd P (zjl P Ω E):=by
 intro f args r h;unfold zjl at h;split at h
 ·rename_i r' ho;cases h;exact hG.oracle _ _ _ ho
 ·split at h<;>try cases h
  rename_i fn hf;split at h<;>try cases h
  rename_i c hb;split at h<;>try cases h
  rename_i hl;have fin: ∀e S U,(e= .normal \/e= .ret)->E c fn.ntmps (zai fn args) St.empty=some (e,S,U)->(match zap P fn U S with|some a=>if zbe 0 a=true then some (zcz a) else none|none=>none)=some r->Pure (ITP P) P f args r:=fun e S U he h1 h2=>by
   split at h2<;>try cases h2
   rename_i a ha;split at h2<;>cases h2
   rename_i hok;obtain⟨_,h3⟩:=hE _ _ _ _ _ _ _ h1 hl;refine zko hG.mix hf hb (hG.ent f fn hf (by rw[hb];rfl)) (zdd (h3 _ ?_));rcases he with rfl|rfl<;>exact⟨a,ha,zwl hok rfl⟩
  split at h
  ·cases h
  ·rename_i e S U hne he;refine fin e S U ?_ he h;cases e with
   |normal=>exact .inl rfl
   |ret=>exact .inr rfl
   |exit id=>exact absurd rfl (hne id)
  ·cases h
theorem z1m {P:Program} {Ω:CallP} {Ψ:CallS} (hG:Good P Ω Ψ) {E:Run} (hE:EvOk P E):qgm P (zro P Ψ E):=by
 intro f args U r U' h;unfold zro at h;split at h
 ·rename_i r0 hr0;cases h;exact hG.oracleS _ _ _ _ _ hr0
 split at h<;>try cases h
 rename_i fn hf;split at h<;>try cases h
 rename_i c hb;split at h<;>try cases h
 rename_i hl;have fin: ∀e S U1,(e= .normal \/e= .ret)->E c fn.ntmps (zai fn args) U=some (e,S,U1)->(match zap P fn U1 S with|some a=>if zbe U.boxes.length a=true/\ z0t U.boxes.length U1=true then some (a,zfb U.boxes.length U1) else none|none=>none)=some (r,U')->Snd (ITP P) P f args U r U':=fun e S U1 he h1 h2=>by
  split at h2<;>try cases h2
  rename_i a ha;split at h2<;>cases h2
  rename_i hok;obtain⟨_,h3⟩:=hE _ _ _ _ _ _ _ h1 hl;refine z8c hG.mix hf hb (hG.ent f fn hf (by rw[hb];rfl)) (zdd (h3 _ ?_));rcases he with rfl|rfl<;>exact⟨r,ha,qho hok.1 hok.2 rfl rfl⟩
 split at h
 ·cases h
 ·rename_i e S U1 hne he;refine fin e S U1 ?_ he h;cases e with
  |normal=>exact .inl rfl
  |ret=>exact .inr rfl
  |exit id=>exact absurd rfl (hne id)
 ·cases h
theorem qjs {size:Nat} (h:findB ops size=some n):chk ops size n=true:=by
 unfold findB at h;simp only at h;split at h
 ·rename_i hc;cases h;exact hc
 ·cases h
theorem z2e {P:Program} {cp:CallP} {cs:CallS} {sz:Nat} {r:List AV×St} (h:qhx P cp cs ops sz S U=some r):
 ∃n,chk ops sz n=true/\ ∃S1,zrs P cp ops sz U (ops.toList.take n) S=some S1/\ zyx P cp cs ops (ops.toList.drop n) S1 U=some r:=by
 obtain⟨n,_,h⟩:=List.exists_of_findSome?_eq_some h;unfold qog at h;split at h<;>try cases h
 rename_i hc;split at h<;>try cases h
 rename_i S1 hh;exact⟨n,hc,S1,hh,h⟩
variable {K K' Q Q':List AV->St->Prop} {o:Oper} {S S':List AV} {U U' U'':St} {ops:Array Oper} {n0:Nat} {y:Code} {c:Operand}
section
variable {IT:IterP} {P:Program} {W:Owed} {k0:Nat}
theorem zrb {Q Q':AQ} (hK: ∀S U,K S U->K' S U)(h: ∀e S U,Q e S U->Q' e S U): ∀e S U,zvt K Q e S U->zvt K' Q' e S U
 | .normal,S,U,hq=>hK S U hq
 | .exit _,S,U,hq=>h _ S U hq
 | .ret,S,U,hq=>h _ S U hq
theorem zmq {K K':AV->St->Prop} (h: ∀a U,K a U->K' a U)(k:zfq IT P W o S U K):zfq IT P W o S U K':=by
 unfold zfq at k⊢;split
 ·rename_i hc;rw[hc] at k;obtain⟨r,U',k1,k2⟩:=k;exact⟨r,U',k1,h _ _ k2⟩
 ·rename_i hc;rw[hc] at k;simp only at k;split
  ·rename_i hy;rw[hy] at k;obtain⟨G,row,k0,k1,k2,k3,k4,k5,k6,k7,k8⟩:=k;exact⟨G,row,k0,k1,k2,k3,k4,k5,k6,h _ _ k7,h _ _ k8⟩
  ·rename_i hy;rw[hy] at k;rcases k with⟨a,U',k1,k2⟩|⟨n,neg,k1,k2,k3⟩
   ·exact .inl ⟨a,U',k1,h _ _ k2⟩
   ·exact .inr ⟨n,neg,k1,fun e=>h _ _ (k2 e),h _ _ k3⟩
theorem zli (h: ∀S U,Q S U->Q' S U): ∀(l:List Oper) (S:List AV) (U:St),zcb IT P W ops Q l S U->zcb IT P W ops Q' l S U
 |[],S,U,k=>h S U k
 | o::l,S,U,k=>by
  simp only[zcb] at k⊢;split
  ·rename_i hg;rw[hg] at k;exact zmq (fun a U'=>zli h l _ _) k
  ·rename_i kb b hg;rw[hg] at k;obtain⟨c,k1,k2⟩:=k;refine⟨c,k1,?_⟩;split
   ·rename_i hc;rw[if_pos hc] at k2;exact zmq (fun a U'=>zli h l _ _) k2
   ·rename_i hc;rw[if_neg hc] at k2;exact zli h l _ _ k2
theorem zgr (h: ∀S U,Q S U->Q' S U): ∀(k:Nat) (listed:Array Bool) (S:List AV) (U:St),zse IT P W ops Q k listed S U->zse IT P W ops Q' k listed S U
 |0,_,S,U,k=>⟨k.1,h S U k.2⟩
 | n +1,listed,S,U,k=>by
  refine⟨fun he=>h _ _ (k.1 he),fun i hi=> ?_⟩;have k:=k.2 i hi;unfold zyk at k⊢;cases ho:ops[i]? with
  |none=>rw[ho] at k;exact zgr h n _ _ _ k
  | some o=>
   rw[ho] at k;simp only at k⊢;split
   ·rename_i hg;rw[hg] at k;exact zmq (fun a U'=>zgr h n _ _ _) k
   ·rename_i kb b hg;rw[hg] at k;obtain⟨c,k1,k2⟩:=k;refine⟨c,k1,?_⟩;split
    ·rename_i hc;rw[if_pos hc] at k2;exact zmq (fun a U'=>zgr h n _ _ _) k2
    ·rename_i hc;rw[if_neg hc] at k2;exact zgr h n _ _ _ k2
theorem zil {K K':List AV->Pend->Prop} (h: ∀S ps,K S ps->K' S ps): ∀(l:List Oper) (S:List AV) (ps:Pend),zev IT P ops U K l S ps->zev IT P ops U K' l S ps
 |[],S,ps,k=>h S ps k
 | o ::l,S,ps,k=>by
  simp only[zev] at k⊢;refine⟨k.1,k.2.1,?_⟩;rcases k.2.2 with⟨hg,t,d,z,k1,k2,k3,k4⟩|k
  ·exact .inl ⟨hg,t,d,z,k1,k2,k3,zil h l _ _ k4⟩
  ·right
   split
   ·rename_i hg;rw[hg] at k;exact zmz (fun a=>zil h l _ _) k
   ·rename_i kb b hg;rw[hg] at k;obtain⟨c,k1,k2⟩:=k;refine⟨c,k1,?_⟩;split
    ·rename_i hc;rw[if_pos hc] at k2;exact zmz (fun a=>zil h l _ _) k2
    ·rename_i hc;rw[if_neg hc] at k2;exact zil h l _ _ k2
def WMono (F:AQ->List AV->St->Prop):Prop:= ∀ {Q Q':AQ},(∀e S U,Q e S U->Q' e S U)-> ∀S U,F Q S U->F Q' S U
theorem zrr {F:AQ->List AV->St->Prop} (hF:WMono F) {Q Q':AQ} (h: ∀e S U,Q e S U->Q' e S U): ∀(m:Nat) (S:List AV) (U:St),zrd F Q n0 m S U->zrd F Q' n0 m S U
 |0,S,U,k=>k
 |m+1,S,U,⟨S',U',k1,k2⟩=>⟨S',U',k1,hF (zrb (zrr hF h m) h) _ _ k2⟩
theorem znv {Fa Fb:Nat->AQ->List AV->St->Prop} {ps:Array Tmp} (hFa: ∀k,WMono (Fa k))(hFb: ∀k,WMono (Fb k)) {Q Q':AQ} (h: ∀e S U,Q e S U->Q' e S U): ∀(xs:List (List AV)) (U:St),zfn Fa Fb ps S Q n0 xs U->zfn Fa Fb ps S Q' n0 xs U
 |[],U,k=>h _ _ _ k
 | x::xs,U,k=>by
  simp only[zfn] at k⊢;refine hFa n0 ?_ _ _ k;intro e S1 U1 hq;cases e with
  | normal=>
   refine hFb _ ?_ _ _ hq;intro e2 S2 U2 hq2;cases e2 with
   |normal=>exact⟨hq2.1,znv hFa hFb h xs _ hq2.2⟩
   |exit id=>exact⟨hq2.1,h _ _ _ hq2.2⟩
   |ret=>exact⟨hq2.1,h _ _ _ hq2.2⟩
  |exit id=>exact hq
  |ret=>exact hq
theorem z1e {m0 k0:Nat} (h: ∀S U,K S U->K' S U):qcw m0 k0 K S U->qcw m0 k0 K' S U:=
 Or.imp (h _ _) fun⟨m,n,fs,js,d,S',h1,h2,h3,h4,h5⟩=>⟨m,n,fs,js,d,S',h1,h2,h3,h4,h _ _ h5⟩
theorem zcf {k0:Nat}: ∀(c:Code) {Q Q':AQ},(∀e S U,Q e S U->Q' e S U)-> ∀(S:List AV) (U:St),awp IT P W k0 c Q S U->awp IT P W k0 c Q' S U
 | .skip,Q,Q',h,S,U,k=>h _ S U k
 | .seq x y,Q,Q',h,S,U,.inl k=> .inl (zcf x (zrb (fun S U ⟨S',U',k1,k2⟩=>⟨S',U',k1,zcf y h _ _ k2⟩) h) S U k)
 | .seq x y,Q,Q',h,S,U,.inr ⟨hW,S',U',k1,k2⟩=> .inr ⟨hW,S',U',k1,zcf y h _ _ k2⟩
 | .cond c x y,Q,Q',h,S,U,⟨t,k1,k2⟩=>⟨t,k1,by
  split
  ·rename_i ht;rw[if_pos ht] at k2;exact zcf x h _ _ k2
  ·rename_i ht;rw[if_neg ht] at k2;exact zcf y h _ _ k2⟩
 | .block id x,Q,Q',h,S,U,.inr ⟨hW,S',U',k1,k2⟩=> .inr ⟨hW,S',U',k1,h .normal _ _ k2⟩
 | .block id x,Q,Q',h,S,U,.inl k=> .inl<|zcf x (fun e S U hq=>by
  cases e with
  |normal=>exact z1e (h .normal) hq
  |ret=>exact h _ _ _ hq
  | exit j=>
   simp only[zjk] at hq⊢;split
   ·rename_i hj;rw[if_pos hj] at hq;exact z1e (h .normal) hq
   ·rename_i hj;rw[if_neg hj] at hq;exact h _ _ _ hq) S U k
 | .loop x,Q,Q',h,S,U,⟨m,k⟩=>⟨m,zrr (fun hq=>zcf x hq) h m S U k⟩
 | .exit id,Q,Q',h,S,U,k=>h _ S U k
 | .ret,Q,Q',h,S,U,k=>h _ S U k
 | .region _ ops false,Q,Q',h,S,U,k=>zli (h .normal) _ _ _ k
 | .region _ ops true,Q,Q',h,S,U,.inl k=>k.elim
 | .region _ ops true,Q,Q',h,S,U,.inr (.inl ⟨n,k1,k2,k3⟩)=> .inr (.inl ⟨n,k1,k2,zil (fun S' ps=>zli (h .normal) _ _ _) _ _ _ k3⟩)
 | .region _ ops true,Q,Q',h,S,U,.inr (.inr (.inl k))=> .inr (.inr (.inl (zgr (h .normal) _ _ _ _ k)))
 | .region _ ops true,Q,Q',h,S,U,.inr (.inr (.inr (.inl ⟨sg,vs,E,k1,k2,k3,k4,k5⟩)))=> .inr (.inr (.inr (.inl ⟨sg,vs,E,k1,k2,k3,k4,h .normal _ _ k5⟩)))
 | .region _ ops true,Q,Q',h,S,U,.inr (.inr (.inr (.inr ⟨k0,S',U',k1,k2⟩)))=> .inr (.inr (.inr (.inr ⟨k0,S',U',k1,h .normal _ _ k2⟩)))
 | .rangeFunc f ps asg body,Q,Q',h,S,U,.inl ⟨xs,k1,k0,k2,k3,k4⟩=> .inl ⟨xs,k1,k0,k2,k3,znv (Fa:=fun k=>awp IT P W k asg) (Fb:=fun k=>awp IT P W k body) (fun k=>fun hq=>zcf asg hq) (fun k=>fun hq=>zcf body hq) h xs U k4⟩
 | .rangeFunc f ps asg body,Q,Q',h,S,U,.inr ⟨g,caps,js,hs,m,bs,bs',xs,S',U1,k1,k2,k3,k4,k5,k6,k7,k8,k9,q⟩=> .inr ⟨g,caps,js,hs,m,bs,bs',xs,S',U1,k1,k2,k3,k4,k5,k6,k7,k8,k9,
  znv (Fa:=fun k=>awp IT P W k asg) (Fb:=fun k=>awp IT P W k body) (fun k=>fun hq=>zcf asg hq) (fun k=>fun hq=>zcf body hq) (fun e S1 U1 hq=>by cases e with|normal=>exact h .normal _ _ hq|exit id=>exact hq|ret=>exact hq) xs _ q⟩
 | .scope x,Q,Q',h,S,U,k=>zcf x h S U k
 | .label _,Q,Q',h,S,U,k=>h _ S U k
 | .goto _,_,_,_,_,_,k=>k.elim
 | .refuse _,_,_,_,_,_,k=>k.elim
theorem zj {x:Code} {Q:AQ} (h:awp IT P W k0 x (zvt (awp IT P W k0 y Q) Q) S U):awp IT P W k0 (.seq x y) Q S U:=
 .inl<|zcf x (zrb (fun S U k=>⟨S,U,Wk.refl _ _ _,k⟩) fun _ _ _ k=>k) S U h
def to (n0:Nat)(S':List AV)(U':St)(Q:AQ):AQ
 | .normal,S,U=>Wk n0 S U S' U'
 |e,S,U=>Q e S U
theorem zb {id:Nat} {Q:AQ} (h:zcb IT P W ops (Q .normal) ops.toList S U):awp IT P W k0 (.region id ops false) Q S U:=h
theorem zel {x:Code} {Q:AQ} (hc:zbw S c= .raw (.bool true))(h:awp IT P W k0 x Q S U):awp IT P W k0 (.cond c x y) Q S U:=⟨true,hc,h⟩
theorem zce {x:Code} {Q:AQ} (hc:zbw S c= .raw (.bool false))(h:awp IT P W k0 y Q S U):awp IT P W k0 (.cond c x y) Q S U:=⟨false,hc,h⟩
theorem qiq {id:Nat} {Q:AQ} (h:Q .normal S U):awp IT P W k0 (.label id) Q S U:=h
theorem qdw {x:Code} {Q:AQ} (h:awp IT P W k0 x Q S U):awp IT P W k0 (.scope x) Q S U:=h
theorem z7f {id:Nat} {x:Code} {Q:AQ} (h:awp IT P W k0 x (zjk U.lens.length k0 id Q) S U):awp IT P W k0 (.block id x) Q S U:= .inl h
theorem zy {id:Nat} {x:Code} {Q:AQ} (h:awp IT P W k0 x (qpa id Q) S U):awp IT P W k0 (.block id x) Q S U:=
 .inl<|zcf x (fun e S1 U1 hq=>by
  cases e with
  |normal=>exact .inl hq
  |ret=>exact hq
  | exit j=>
   simp only[qpa,zjk] at hq⊢;split
   ·rename_i hj;rw[if_pos hj] at hq;exact .inl hq
   ·rename_i hj;rw[if_neg hj] at hq;exact hq) S U h
theorem zhp {l:List Oper} {a:AV} (hg:o.guard=none)(hc:zct S o=none)(hy:zcv S o=none)(h:aop P (zbw S) U o=some (a,U'))(hS:zad S o.dst a=S')
 (k:zcb IT P W ops Q l S' U'):zcb IT P W ops Q (o::l) S U:=by
 simp only[zcb,hg,zfq,hc,hy];exact .inl ⟨a,U',.inl h,by rw[hS];exact k⟩
theorem zzi {l:List Oper} (a:AV)(hg:o.guard=none)(hc:zct S o=none)(hy:zcv S o=none)(h:zrq P (zbw S) o a)(hS:zad S o.dst a=S')
 (k:zcb IT P W ops Q l S' U):zcb IT P W ops Q (o::l) S U:=by
 simp only[zcb,hg,zfq,hc,hy];exact .inl ⟨a,U,.inr (.inl ⟨rfl,h⟩),by rw[hS];exact k⟩
theorem w_call {l:List Oper} {f:FuncId} {args:List AV} {r:AV} (hp:Pure IT P f (stripL args) r)(hg:o.guard=none)(hc:zct S o=some (f,args))(hok:zac 0 args=true)(hS:zad S o.dst r=S')
 (k:zcb IT P W ops Q l S' U):zcb IT P W ops Q (o::l) S U:=by
 simp only[zcb,hg,zfq,hc];exact⟨r,U,.inr (.inl ⟨rfl,hok,hp⟩),by rw[hS];exact k⟩
theorem w_callf {l:List Oper} {f:FuncId} {args args':List AV} {r:AV} (n:Nat)(hp:Pure IT P f args' r)(hg:o.guard=none)(hc:zct S o=some (f,args))(ha:zcs (frz U.boxes n) args=args')(hraw:z4m r=true)(hS:zad S o.dst r=S')
 (k:zcb IT P W ops Q l S' U):zcb IT P W ops Q (o::l) S U:=by
 simp only[zcb,hg,zfq,hc];exact⟨r,U,.inr (.inr (.inl ⟨rfl,hraw,n,by rw[ha];exact hp⟩)),by rw[hS];exact k⟩
theorem w_yield {l:List Oper} {n:Nat} {args row:List AV} {rows:List (List AV)} (hg:o.guard=none)(hc:zct S o=none)(hy:zcv S o=some (n,args)) {G:Gen} (hW:W=some G)(hGl:G.l=n)(hGr:G.rows=rows)(hr:rows[U.out]? =some row)(hs:stripL args=row)(hok:zac 0 args=true)(hni:zcc args=true)(hst:U.stop=false)
 (k1:zcb IT P W ops Q l (zad S o.dst (.raw (.bool true))) {U with out:=U.out+1}) (k2:zcb IT P W ops Q l (zad S o.dst (.raw (.bool false))) {U with stop:=true}):zcb IT P W ops Q (o::l) S U:=by
 simp only[zcb,hg,zfq,hc,hy];exact⟨G,row,hW,hGl,by rw[hGr];exact hr,hs,hok,hni,hst,k1,k2⟩
theorem zbt {c:Code} {Q:AQ} (hS:S=S')(hσ:U=U')(h:awp IT P W k0 c Q S' U'):awp IT P W k0 c Q S U:=by subst hS hσ;exact h
theorem zis {l:List Oper} {a:AV} (hg:o.guard=none)(hc:zct S o=none)(hy:zcv S o=none)(h:aop P (zbw S) U o=some (a,U'))(hS:zad S o.dst a=S')(hσ:U'=U'')
 (k:zcb IT P W ops Q l S' U''):zcb IT P W ops Q (o::l) S U:=by
 subst hσ;exact zhp hg hc hy h hS k
theorem z1v {l:List Oper} {a:AV} (hg:o.guard=none)(hc:zct S o=none)(hy:zcv S o=none)(h:zwg P (zbw S) U o=some (a,U'))(hS:zad S o.dst a=S')(hσ:U'=U'')
 (k:zcb IT P W ops Q l S' U''):zcb IT P W ops Q (o::l) S U:=by
 subst hσ;simp only[zcb,hg,zfq,hc,hy];exact .inl ⟨a,U',.inr (.inr (.inl h)),by rw[hS];exact k⟩
theorem w_nil {l:List Oper} {S1 S2:List AV} (n:Nat)(neg:Bool)(hg:o.guard=none)(hc:zct S o=none)(hy:zcv S o=none)(h:z0l P (zbw S) o n neg)
 (h1:zad S o.dst (.raw (.bool (!neg)))=S1) (h2:zad S o.dst (.raw (.bool neg))=S2) (k1:n=0->zcb IT P W ops Q l S1 U) (k2:zcb IT P W ops Q l S2 U):zcb IT P W ops Q (o::l) S U:=by
 simp only[zcb,hg,zfq,hc,hy];exact .inr ⟨n,neg,.inl h,fun e=>by rw[h1];exact k1 e,by rw[h2];exact k2⟩
theorem zfj {l:List Oper} {f:FuncId} {args:List AV} {r:AV} (hp:Snd IT P f args U r U')(hg:o.guard=none)(hc:zct S o=some (f,args))(ho:U'.out=U.out/\ U'.stop=U.stop)(hS:zad S o.dst r=S')
 (k:zcb IT P W ops Q l S' U'):zcb IT P W ops Q (o::l) S U:=by
 simp only[zcb,hg,zfq,hc];exact⟨r,U',.inl ⟨hp,ho⟩,by rw[hS];exact k⟩
theorem z7k {l:List Oper} {kb:Nat} {b:Bool} {c:Option Bool} (hg:o.guard=some (kb,b))(hk:zdx ops S kb=some c)(hcb:c≠some b)(hS:zad S o.dst (.raw undef)=S')(k:zcb IT P W ops Q l S' U):zcb IT P W ops Q (o::l) S U:=by
 simp only[zcb,hg];exact⟨c,hk,by rw[if_neg hcb,hS];exact k⟩
theorem zbj {l:List Oper} {kb:Nat} {b:Bool} (hg:o.guard=some (kb,b))(hk:zdx ops S kb=some (some b))(k:zcb IT P W ops Q ({o with guard:=none}::l) S U):zcb IT P W ops Q (o::l) S U:=by
 simp only[zcb,hg];refine⟨some b,hk,?_⟩;rw[if_pos rfl];have e:zfq IT P W {o with guard:=none} S U=zfq IT P W o S U:=rfl;simp only[zcb] at k;rw[e] at k;exact k
end
def qkl (n:Nat)(l:List (Nat×AV)):List AV:=l.foldl (fun S p=>S.set p.1 p.2) (List.replicate n .top)
theorem qdk (s:Nat) {t:TypeId} {cs:List AV} (hb:U.boxes[s]? =some (t,cs))(h:zx U.lens.length (mvz s U.boxes.length) S=S')(hσ:U'=qor s t cs U):Wk n0 S U S' U':=
 .one<| .inr (.inr (.inr (.inr ⟨s,t,cs,hb,h▸Fg.refl _,hσ⟩)))
theorem op_load {P:Program} {ρ:Operand->AV} {t:TypeId} {x:Operand} {a:AV} (p:AV)(ho:o.op= .load t x)(hx:ρ x=p)(ha:zzk P U t p=some a):aop P ρ U o=some (a,U):=by
 simp only[aop,qop,ho,hx,ha]
theorem zsu {x:Int} (h1: -9223372036854775808<=x)(h2:x<9223372036854775808):IntKind.i64.wrap x=x:=by
 simp only[IntKind.wrap,IntKind.bits,IntKind.signed];simp;omega
variable {ops:Array Oper} {S S' args':List AV} {n0:Nat} {U':St} {Q:AQ} {K:List AV->Prop} {n:Int} {y:Operand} {c:Call} {k':IntKind}
section
variable {IT:IterP} {P:Program} {W:Owed} {k0:Nat}
theorem zkl {Q:List AV->St->Prop} {o:Oper} {l:List Oper} {U:St} {f:FuncId} {args:List AV} {r:AV} (hp:Pure IT P f args' r)(hg:o.guard=none)(hc:zct S o=some (f,args))(hs:stripL args=args')(hok:zac 0 args=true)(hS:zad S o.dst r=S')
 (k:zcb IT P W ops Q l S' U):zcb IT P W ops Q (o::l) S U:=w_call (by rw[hs];exact hp) hg hc hok hS k
def zbq (S:List AV)(l:List (Nat×AV)):List AV:=l.foldl (fun S p=>S.set p.1 p.2) S
def zdf (S:List AV)(l:List Nat):List AV:=l.foldl (fun S p=>S.set p .top) S
def fgM:List Bool->List AV->List AV
 |b::m,a::l=>(bif b then a else .top)::fgM m l
 |[],l=>l
 |_,[]=>[]
theorem znk: ∀(m:List Bool) (S:List AV),Fg S (fgM m S)
 |b::m,a::l=>⟨by cases b<;>simp,znk m l⟩
 |[],l=>Fg.refl l
 |_::_,[]=>trivial
theorem z5m {U:St} (m:List Bool)(h:fgM m S=S')(hσ:U'=U):Wk n0 S U S' U':= .one<| .inl ⟨h▸znk m S,.inl hσ⟩
theorem zfl {U:St} (m:List Bool)(n:Nat)(h:fgM m S=S')(hn:n0<=n)(h1:z0t n U=true)(h2:zac n S'=true)(h3:zfb n U=U'):Wk n0 S U S' U':= .one<| .inl ⟨h▸znk m S,.inr ⟨n,hn,h1,h2,h3⟩⟩
theorem ztl {U:St} (m:List Bool)(n:Nat)(fs js:List Nat)(d:Nat)(hn:n0<=n)(hok:zcu U n js=true)(h:fgM m (zx U.lens.length (kz U.boxes U.lens.length n fs js d) S)=S')(hσ:zeo U U.lens.length n fs js d=U'):Wk n0 S U S' U':=
 .one<| .inr (.inl ⟨n,fs,js,d,hn,hok,h▸znk m _,hσ⟩)
theorem qmc {U:St} (m:List Bool)(s:Nat) {t:TypeId} {cs:List AV} (hb:U.boxes[s]? =some (t,cs))(h:fgM m S=S')(hσ:U'={U with boxes:=U.boxes++[(t,[])]}):Wk n0 S U S' U':=
 .one<| .inr (.inr (.inl ⟨s,t,cs,hb,h▸znk m _,hσ⟩))
theorem zie {id:Nat} {U:St} (n:Nat)(h1:chk ops S.length n=true)(h2:zvh ops.toList=true)(h3:zfr IT P ops U (fun S'=>zcb IT P W ops (Q .normal) (ops.toList.drop n) S' U) (ops.toList.take n) S):awp IT P W k0 (.region id ops true) Q S U:= .inr (.inl (qov n h1 h2 h3))
theorem w_drawB {id:Nat} {U:St} (n:Nat)(h1:chk ops S.length n=true)(h2:zvh ops.toList=true)(h3:zev IT P ops U (fun S' ps=>zcb IT P W ops (Q .normal) (ops.toList.drop n) (zpd U.boxes.length ps S') (zna U ps)) (ops.toList.take n) S []):awp IT P W k0 (.region id ops true) Q S U:= .inr (.inl ⟨n,h1,h2,h3⟩)
theorem hB_new {U:St} {K:List AV->Pend->Prop} {o:Oper} {l:List Oper} {ps:Pend} {t:TypeId} {d:Tmp} (z:Value)(ho:o.op= .alloc t)(hdst:o.dst=some d)(hd:(o.dst.all fun d=>decide (d<S.length))=true)(hp:(ps.all fun p=>o.dst !=some p.1)=true)(hg:o.guard=none)(hz:znh P t=some z)(hS:S.set d .top=S')(k:zev IT P ops U K l S' (ps++[(d,t,z)])):zev IT P ops U K (o::l) S ps:=⟨hd,hp,.inl ⟨hg,t,d,z,ho,hdst,hz,by rw[hS];exact k⟩⟩
theorem hB_op {U:St} {K:List AV->Pend->Prop} {o:Oper} {l:List Oper} {ps:Pend} {a:AV} (hd:(o.dst.all fun d=>decide (d<S.length))=true)(hp:(ps.all fun p=>o.dst !=some p.1)=true)(hg:o.guard=none)(hc:zct S o=none)(h:qop P (zbw S) U o=some a)(hS:zad S o.dst a=S')(k:zev IT P ops U K l S' ps):zev IT P ops U K (o::l) S ps:=by
 refine⟨hd,hp,.inr ?_⟩;simp only[hg,zit,hc];exact⟨a,.inl h,by rw[hS];exact k⟩
theorem zra {U:St} {K:List AV->Pend->Prop} {o:Oper} {l:List Oper} {ps:Pend} {f:FuncId} {args:List AV} {r:AV} (hpu:Pure IT P f args' r)(hd:(o.dst.all fun d=>decide (d<S.length))=true)(hp:(ps.all fun p=>o.dst !=some p.1)=true)(hg:o.guard=none)(hc:zct S o=some (f,args))(hs:stripL args=args')(hok:zac 0 args=true)(hS:zad S o.dst r=S')(k:zev IT P ops U K l S' ps):zev IT P ops U K (o::l) S ps:=by
 refine⟨hd,hp,.inr ?_⟩;simp only[hg,zit,hc];exact⟨r,hok,by rw[hs];exact hpu,by rw[hS];exact k⟩
theorem zgs {U:St} (h:K S):zfr IT P ops U K [] S:=h
theorem h_op {U:St} {o:Oper} {l:List Oper} {a:AV} (hd:(o.dst.all fun d=>decide (d<S.length))=true)(hg:o.guard=none)(hc:zct S o=none)(h:qop P (zbw S) U o=some a)(hS:zad S o.dst a=S')(k:zfr IT P ops U K l S'):zfr IT P ops U K (o::l) S:=by
 refine⟨hd,?_⟩;simp only[hg,zit,hc];exact⟨a,.inl h,by rw[hS];exact k⟩
theorem h_call {U:St} {o:Oper} {l:List Oper} {f:FuncId} {args:List AV} {r:AV} (hp:Pure IT P f args' r)(hd:(o.dst.all fun d=>decide (d<S.length))=true)(hg:o.guard=none)(hc:zct S o=some (f,args))(hs:stripL args=args')(hok:zac 0 args=true)(hS:zad S o.dst r=S')(k:zfr IT P ops U K l S'):zfr IT P ops U K (o::l) S:=by
 refine⟨hd,?_⟩;simp only[hg,zit,hc];exact⟨r,hok,by rw[hs];exact hp,by rw[hS];exact k⟩
theorem h_pass {U:St} {o:Oper} {l:List Oper} {kb:Nat} {b:Bool} {c:Option Bool} (hd:(o.dst.all fun d=>decide (d<S.length))=true)(hg:o.guard=some (kb,b))(hk:zdx ops S kb=some c)(hcb:c≠some b)(hS:zad S o.dst (.raw undef)=S')(k:zfr IT P ops U K l S'):zfr IT P ops U K (o::l) S:=by
 refine⟨hd,?_⟩;simp only[hg];exact⟨c,hk,by rw[if_neg hcb,hS];exact k⟩
theorem zcm {U:St} {o:Oper} {l:List Oper} {kb:Nat} {b:Bool} (hg:o.guard=some (kb,b))(hk:zdx ops S kb=some (some b))(k:zfr IT P ops U K ({o with guard:=none}::l) S):zfr IT P ops U K (o::l) S:=by
 refine⟨k.1,?_⟩;simp only[hg];refine⟨some b,hk,?_⟩;rw[if_pos rfl];have e:zit IT P {o with guard:=none} S U=zit IT P o S U:=rfl;have k:=k.2;simp only at k;rw[e] at k;exact k
end
theorem qmw {P:Program} {fn:Func} {U:St} {a r:AV} (h:zap P fn U S=some a)(hok:zbe 0 a=true)(hs:zcz a=r):zwb P fn r .ret S U:=⟨a,h,zwl hok hs⟩
theorem zyz {P:Program} {fn:Func} {U:St} {n m:Nat} {a r:AV} (fs js:List Nat)(d:Nat)(h:zap P fn U S=some a)(hok:zcu U n js=true)(hr:zhq m (kz U.boxes m n fs js d) a=r)(hσ:zeo U m n fs js d=U'):qlq P fn n m r U' .ret S U:=⟨a,h,zvq fs js d hok hr hσ⟩
section
variable {P:Program} {ρ:Operand->AV} {U:St} {o:Oper}
theorem q_index {t e:TypeId} {x i:Operand} {sz len:Nat} {cs:List AV} {st:Room} {k:IntKind} (ho:o.op= .indexAddr t x i)(hx:ρ x= .list len cs st)(hi:ρ i= .raw (.int k n))(hu:P.underlying t=some (.slice e))(hs:zfh P e=some sz)(hb:0<=n/\ n<len/\ cs≠[]):
 qop P ρ U o=some (.iptr (cs.drop (n.toNat*sz))):=by
 simp only[qop,ho,hx,hi,zhv,hu,hs,if_pos hb]
theorem qlm {t e:TypeId} {x i:Operand} {s off len sz sz':Nat} {f:Bool} {k:IntKind} (ho:o.op= .indexAddr t x i)(hx:ρ x= .bsl s off len sz' f)(hi:ρ i= .raw (.int k n))(hu:P.underlying t=some (.slice e))(hs:zfh P e=some sz)(hb:0<=n/\ n<len):
 qop P ρ U o=some (.ptr s (off+n.toNat*sz)):=by
 simp only[qop,ho,hx,hi,zhv,hu,hs,if_pos hb]
theorem zbl {a:AV} (h:qop P ρ U o=some a):aop P ρ U o=some (a,U):=by simp only[aop,h]
theorem qpm {t:TypeId} {x:Operand} {a:AV} (p:AV)(ho:o.op= .load t x)(hx:ρ x=p)(ha:zzk P U t p=some a):qop P ρ U o=some a:=by
 simp only[qop,ho,hx,ha]
theorem zco {t:TypeId} {x:Operand} {s off n:Nat} {v:AV} {bx:TypeId×List AV} (ho:o.op= .store t x y)(hx:ρ x= .ptr s off)(hy:ρ y=v)(hb:U.boxes[s]? =some bx)(hn:zfh P t=some n)(hc:ziw v=true/\ (cellsOf v).length=n/\ off+n<=bx.2.length/\ 0<n):
 aop P ρ U o=some (.raw undef,{U with boxes:=U.boxes.set s (bx.1,bx.2.take off++cellsOf v++bx.2.drop (off+n))}):=by
 simp only[aop,qop,ho,zpp,hx,hy,hb,hn,if_pos hc]
theorem zec {t:TypeId} {x:Operand} {s n:Nat} {v:AV} {bx:TypeId×List AV} (ho:o.op= .store t x y)(hx:ρ x= .ptr s 0)(hy:ρ y=v)(hb:U.boxes[s]? =some bx)(hn:zfh P t=some n)(hl:bx.2.length=n)(hc:ziw v=true)(hv:(cellsOf v).length=n)(h0:0<n):
 aop P ρ U o=some (.raw undef,{U with boxes:=U.boxes.set s (bx.1,cellsOf v)}):=by
 rw[zco (n:=n) ho hx hy hb hn ⟨hc,hv,by omega,h0⟩];rw[List.drop_of_length_le (by omega)];simp
theorem qcd {x:Operand} {t:TypeId} {c} {m r:Int} (ho:o.op= .binOp .add t x y c)(hx:ρ x= .raw (.int .i64 m))(hy:ρ y= .raw (.int .i64 n))(hr:m+n=r)(h1: -9223372036854775808<=r)(h2:r<9223372036854775808):qop P ρ U o=some (.raw (.int .i64 r)):=by
 subst hr;have h:=zsu h1 h2;simp[qop,zfi,ho,Op.operands,hx,hy,zdr,execOp,zch,eqGuard,binOp,Op.intArith,h];rfl
theorem zsa {x:Operand} {t:TypeId} {c} {m r:Int} (ho:o.op= .binOp .sub t x y c)(hx:ρ x= .raw (.int .i64 m))(hy:ρ y= .raw (.int .i64 n))(hr:m-n=r)(h1: -9223372036854775808<=r)(h2:r<9223372036854775808):qop P ρ U o=some (.raw (.int .i64 r)):=by
 subst hr;have h:=zsu h1 h2;simp[qop,zfi,ho,Op.operands,hx,hy,zdr,execOp,zch,eqGuard,binOp,Op.intArith,h];rfl
theorem q_mul {x:Operand} {t:TypeId} {c} {m r:Int} (ho:o.op= .binOp .mul t x y c)(hx:ρ x= .raw (.int .i64 m))(hy:ρ y= .raw (.int .i64 n))(hr:m*n=r)(h1: -9223372036854775808<=r)(h2:r<9223372036854775808):qop P ρ U o=some (.raw (.int .i64 r)):=by
 subst hr;have h:=zsu h1 h2;simp[qop,zfi,ho,Op.operands,hx,hy,zdr,execOp,zch,eqGuard,binOp,Op.intArith,h];rfl
theorem q_max {x:Operand} {k:IntKind} {m:Int} (ho:o.op= .call c)(hc:c.callee= .builtin .max)(ha:c.args= #[x,y])(hx:ρ x= .raw (.int k m))(hy:ρ y= .raw (.int k' n)):qop P ρ U o=some (.raw (.int k (max m n))):=by
 have e:(if n>m then n else m)=max m n:=by split<;>omega
 simp[qop,zfi,ho,hc,ha,Op.operands,Call.operands,hx,hy,zdr,execOp,zch,resolve,invoke,builtin,Builtin.max_,Builtin.max2,val?,zpx,zlu,zkx,e];simp[Pure.pure,Bind.bind,Sem.bind,val?,zpx,zlu,zkx]
theorem qfr {x:Operand} {k:IntKind} {m:Int} (ho:o.op= .call c)(hc:c.callee= .builtin .min)(ha:c.args= #[x,y])(hx:ρ x= .raw (.int k m))(hy:ρ y= .raw (.int k' n)):qop P ρ U o=some (.raw (.int k (min m n))):=by
 have e:(if n<m then n else m)=min m n:=by split<;>omega
 simp[qop,zfi,ho,hc,ha,Op.operands,Call.operands,hx,hy,zdr,execOp,zch,resolve,invoke,builtin,Builtin.min_,Builtin.min2,val?,zpx,zlu,zkx,e];simp[Pure.pure,Bind.bind,Sem.bind,val?,zpx,zlu,zkx]
theorem zee {t b:Bool} (h:qop P ρ U o=some (.raw (.bool t)))(e:t=b):qop P ρ U o=some (.raw (.bool b)):=by rw[h,e]
end
section
variable {IT:IterP} {P:Program} {W:Owed} {k0:Nat}
theorem zuu {U:St} {sz m:Nat} {t tx:TypeId} {ds:List AV} {st:Room} (h:t=tx/\ ds.length=m*sz/\ 0<sz):qer P U sz t tx (.list m ds st)=some (m,ds):=by simp only[qer,if_pos h]
theorem z8s {ρ:Operand->AV} {U:St} {o:Oper} {c:Call} {x y:Operand} {t tx e:TypeId} {i:TypeInfo} {z:Value} {n m sz:Nat} {cs ds:List AV} (ho:o.op= .call c)(hc:c.callee= .builtin .append)(ha:c.args.toList=[x,y])(ht:c.argTypes.toList=[t,tx])
 (hx:ρ x= .list n cs .full) (hu:P.underlying t=some (.slice e)) (hi:P.info? e=some i) (hz:i.zero=some z) (hsz:i.size=sz) (hs:qer P U sz t tx (ρ y)=some (m,ds)) (h1:0<sz/\ z.cells.size=sz/\ 0<m) (h2:cs.length=n*sz/\ n+m<=maxLen/\ (n+m)*i.bytes<=140737488355328):
 zwg P ρ U o=some (.bsl U.boxes.length 0 (n+m) sz false,{U with boxes:=U.boxes++[(e,cs++ds)]}):=by
 subst hsz;have hnn:zry (ρ x)=false:=by rw[hx];rfl
 have hnn2:zry (.list n cs .full)=false:=rfl;simp only[zwg,ho,hc,ha,ht,hnn,hnn2,Bool.false_eq_true,if_false,zqz,hu,hi,hz,hs,if_pos h1,hx,if_pos h2]
end
def shz (n:Nat):FZ:=(fun s off=> .ptr (n+s) off,fun s off k sz=> .bsl (n+s) off k sz false)
def zgy (n:Nat)(bs:List (TypeId×List AV)):List (TypeId×List AV):=bs.map fun b=>(b.1,zx 0 (shz n) b.2)
theorem z8f {IT:IterP} (hIT:ITMono IT) {P:Program} {f:FuncId} {args args':List AV} {r:AV} {bs:List (TypeId×List AV)} (h:Snd IT P f args' St.empty r ⟨bs,[],[],0,false⟩)(hargs:stripL args=args')(hok:zac 0 args=true)(U:St):
 Snd IT P f args U (zhq 0 (shz U.boxes.length) r) {U with boxes:=U.boxes++zgy U.boxes.length bs}:=by
 refine⟨h.1,fun X vs hI hr=> ?_⟩;subst hargs;have h0:zbf IT ⟨X.F,[],[],[],X.w,fun _=>False,fun _ _=>False⟩ (stripL args) vs:=zfm (X:=X) (Y:=⟨X.F,[],[],[],X.w,fun _=>False,fun _ _=>False⟩) hIT rfl rfl args vs (.inl hok) hr;refine(h.2 ⟨X.F,[],[],[],X.w,fun _=>False,fun _ _=>False⟩ vs (zvd hI) h0).mono ?_;rintro e w' ⟨v,Y,rfl,rfl,hE,hIY,hv⟩;have hκl:Y.κ.length=bs.length:=hIY.κlen;have hXl:=hI.κlen;have hl:Y.lens=[]:=hIY.lens;have hnew: ∀b∈Y.κ,X.w.heap.size<=b:=fun b hb=>by
  rcases hE.κnew b hb with h|h
  ·simp at h
  ·exact h
 have hblk: ∀b,b<X.w.heap.size->Y.w.heap[b]? =X.w.heap[b]? :=fun b hb=>hE.frame b hb (by simp) (by simp);have hFn: ∀b i,Y.F b i->X.F b i \/X.w.heap.size<=b:=fun b i hf=>by
  rcases hE.Fnew b i hf with h|h|⟨q,hq,_⟩|h
  ·exact .inl h
  ·exact .inr h
  ·simp at hq
  ·simp at h
 have hX:Ext X ⟨Y.F,X.κ++Y.κ,X.β,X.lens,Y.w,X.O,X.C⟩:={
  os:=hE.os,tape:=hE.tape,output:=hE.output,size:=hE.size,drawn:=hE.drawn,F:=hE.F,cell:=hE.cell
  κ :=fun s b hs=>by
   show(X.κ++Y.κ)[s]? =some b
   rw[getElem?_append_left (List.getElem?_eq_some_iff.1 hs).1];exact hs
  lens:=fun s L h=>⟨L,h,le_refl _,fun _=>rfl⟩
  blk:=fun s b hs cur t f h=>⟨cur,(hblk b (hI.κlt (mem_of_getElem? hs))).trans h,rfl⟩
  szs:=Szs.old hblk
  frame:=fun b hb _ _=>hblk b hb
  κnew:=fun b hb=>by
   rcases mem_append.1 hb with hb|hb
   ·exact .inl hb
   ·exact .inr (hnew b hb)
  βnew:=fun r h=> .inl ⟨r,h,rfl⟩
  O:=rfl
  C:=rfl
  Fnew:=fun b i hf=>(hFn b i hf).imp id .inl}
 have hnk: ∀s b,Y.κ[s]? =some b->(X.κ++Y.κ)[U.boxes.length+s]? =some b:=fun s b hs=>by
  rw[getElem?_append_right (by omega),show U.boxes.length+s-X.κ.length=s by omega];exact hs
 have hg:(∀s off v,Rep IT Y (.ptr s off) v->Rep IT ⟨Y.F,X.κ++Y.κ,X.β,X.lens,Y.w,X.O,X.C⟩ ((shz U.boxes.length).1 s off) v)/\
  ∀s off n sz f v,Rep IT Y (.bsl s off n sz f) v->Rep IT ⟨Y.F,X.κ++Y.κ,X.β,X.lens,Y.w,X.O,X.C⟩ ((shz U.boxes.length).2 s off n sz) v:=by
  refine⟨?_,?_⟩
  ·rintro s off v ⟨b,hb,rfl⟩;exact⟨b,hnk s b hb,rfl⟩
  ·rintro s off n sz f v ⟨b,cap,cur,t,hb,rfl,hcap,hful,hrow⟩;exact⟨b,cap,cur,t,hnk s b hb,rfl,hcap,(fun h=>by cases h),hrow⟩
 have hrep:=zkm (X:=Y) (Y:=⟨Y.F,X.κ++Y.κ,X.β,X.lens,Y.w,X.O,X.C⟩) (m:=0) hIT (fun _ _ h=>h) rfl (fun s hs=>by omega) hg;have hrepL:=zdb (X:=Y) (Y:=⟨Y.F,X.κ++Y.κ,X.β,X.lens,Y.w,X.O,X.C⟩) (m:=0) hIT (fun _ _ h=>h) rfl (fun s hs=>by omega) hg;refine⟨v,⟨Y.F,X.κ++Y.κ,X.β,X.lens,Y.w,X.O,X.C⟩,rfl,rfl,hX,?_,hrep r v hv⟩;have old: ∀(s b:Nat),(X.κ++Y.κ)[s]? =some b->(X.κ[s]? =some b/\ s<U.boxes.length) \/(U.boxes.length<=s/\ Y.κ[s-U.boxes.length]? =some b):=fun s b h=>by
  rcases Nat.lt_or_ge s X.κ.length with hlt|hge
  ·rw[getElem?_append_left hlt] at h;exact .inl ⟨h,by omega⟩
  ·rw[getElem?_append_right hge,hXl] at h;exact .inr ⟨by omega,h⟩
 have upO: ∀s:Nat,s<U.boxes.length->(∃t:TypeId,U.boxes[s]? =some (t,[]))-> ∃t:TypeId,(U.boxes++zgy U.boxes.length bs)[s]? =some (t,[]):=fun s hs ⟨t,h⟩=>⟨t,by rw[getElem?_append_left hs];exact h⟩;have upN: ∀s:Nat,U.boxes.length<=s->(∃t:TypeId,bs[s-U.boxes.length]? =some (t,[]))-> ∃t:TypeId,(U.boxes++zgy U.boxes.length bs)[s]? =some (t,[]):=fun s hs ⟨t,h⟩=>⟨t,by
  rw[getElem?_append_right hs,zgy,getElem?_map,h];simp[zx]⟩
 refine {lens:=hI.lens,elems:=hI.elems,κlen:= ?_,κnd:= ?_,box:= ?_,κF:= ?_,βlen:=hI.βlen,βnd:=hI.βnd,βκ:= ?_,row:= ?_,Ok:= ?_,Fcell:=hIY.Fcell}
 ·show(X.κ++Y.κ).length=(U.boxes++zgy U.boxes.length bs).length
  simp[zgy];omega
 ·intro s s' b k1 k2 hne;rcases old s b k1 with⟨a1,b1⟩|⟨a1,b1⟩<;>rcases old s' b k2 with⟨a2,b2⟩|⟨a2,b2⟩
  ·exact(hI.κnd s s' b a1 a2 hne).imp (upO s b1) (upO s' b2)
  ·have:=hI.κlt (mem_of_getElem? a1);have:=hnew b (mem_of_getElem? b2);omega
  ·have:=hI.κlt (mem_of_getElem? a2);have:=hnew b (mem_of_getElem? b1);omega
  ·exact(hIY.κnd _ _ b b1 b2 (by omega)).imp (upN s a1) (upN s' a2)
 ·intro s b t cs hs hb;have hb:(U.boxes++zgy U.boxes.length bs)[s]? =some (t,cs):=hb;rcases old s b hs with⟨a1,b1⟩|⟨a1,b1⟩
  ·rw[getElem?_append_left b1] at hb;obtain⟨us,zs,u1,u2,u3⟩:=hI.box s b t cs a1 hb;exact⟨us,zs,(hblk b (hI.κlt (mem_of_getElem? a1))).trans u1,zam hIT hX _ _ u2,u3⟩
  ·rw[getElem?_append_right a1,zgy,getElem?_map] at hb;cases hbs:bs[s-U.boxes.length]? with
   |none=>rw[hbs] at hb;cases hb
   | some bx=>
    rw[hbs] at hb;simp only[Option.map_some,Option.some.injEq,Prod.mk.injEq] at hb;obtain⟨rfl,rfl⟩:=hb;obtain⟨us,zs,u1,u2,u3⟩:=hIY.box _ b bx.1 bx.2 b1 hbs;exact⟨us,zs,u1,hrepL _ _ u2,u3⟩
 ·intro s b t cs hs hb hne o hf;have hb:(U.boxes++zgy U.boxes.length bs)[s]? =some (t,cs):=hb;rcases old s b hs with⟨a1,b1⟩|⟨a1,b1⟩
  ·rw[getElem?_append_left b1] at hb;rcases hFn b o hf with h|h
   ·exact hI.κF s b t cs a1 hb hne o h
   ·have:=hI.κlt (mem_of_getElem? a1);omega
  ·rw[getElem?_append_right a1,zgy,getElem?_map] at hb;cases hbs:bs[s-U.boxes.length]? with
   |none=>rw[hbs] at hb;cases hb
   | some bx=>
    rw[hbs] at hb;simp only[Option.map_some,Option.some.injEq,Prod.mk.injEq] at hb;obtain⟨rfl,rfl⟩:=hb;refine hIY.κF _ b bx.1 bx.2 b1 hbs (fun e=>hne ?_) o hf;rw[e,zx]
 ·intro r hr' hm;rcases mem_append.1 hm with hm|hm
  ·exact hI.βκ r hr' hm
  ·have:=hI.βlt hr';have:=hnew _ hm;omega
 ·intro s q L hq hL;obtain⟨cur,fz,c1,c2,c3,c4,c5,c6,c7⟩:=hI.row s q L hq hL;have hlt:=hI.βlt (mem_of_getElem? hq);refine⟨cur,fz,(hblk _ hlt).trans c1,c2,c3,c4,c5,fun o hf=> ?_,c7⟩;rcases hFn _ o hf with h|h
  ·exact c6 o h
  ·omega
 ·intro b ho;obtain⟨⟨cs0,t0,f0,h0⟩,h2,h3,h4⟩:=hI.Ok b ho;have hlt:=hI.Olt ho;refine⟨⟨cs0,t0,f0,(hblk b hlt).trans h0⟩,fun hm=> ?_,h3,fun o hf=>(hFn b o hf).elim (h4 o) fun h=>by omega⟩;rcases mem_append.1 hm with hm|hm
  ·exact h2 hm
  ·have:=hnew _ hm;omega
def zcl (n:Nat)(cs:List AV):AV:=if n=0 then .list 0 [] .full else .list n cs (.own 0)
def zar (bs:List (TypeId×List AV))(e n sz:Nat):St:=⟨bs,if n=0 then[] else[n*sz],if n=0 then[] else[e],0,false⟩
theorem qcc {P:Program} {t e:TypeId} {i:TypeInfo} {z:Value} {n m sz:Nat} {cs ds:List AV} {st:Room} {bs:List (TypeId×List AV)} (hu:P.underlying t=some (.slice e))(hi:P.info? e=some i)(hz:i.zero=some z)(hsz:i.size=sz)(hzs:z.cells.size=sz)(h0:0<sz)
 (hcs:cs.length=n*sz) (hds:ds.length=m*sz) (hmax:n+m<=maxLen) (hb:(n+m)*i.bytes<=140737488355328):
 zfv P (zar bs e n sz) t (zcl n cs) (.list m ds st)=some (zcl (n+m) (cs++ds),zar bs e (n+m) sz):=by
 subst hsz;rcases Nat.eq_zero_or_pos m with rfl|hm
 ·have hd:ds=[]:=List.length_eq_zero_iff.1 (by omega);subst hd;rcases Nat.eq_zero_or_pos n with rfl|hn
  ·have hc:cs=[]:=List.length_eq_zero_iff.1 (by omega);subst hc;simp[zfv,zcl,zar,hu,hi,hz]
  ·have hn':n≠0:=by omega
   simp[zfv,zcl,zar,hu,hi,hz,hn']
 ·have hm':m≠0:=by omega
  have hnm:n+m≠0:=by omega
  rcases Nat.eq_zero_or_pos n with rfl|hn
  ·have hc:cs=[]:=List.length_eq_zero_iff.1 (by omega);subst hc;simp only[Nat.zero_add] at hmax hb;simp[zfv,zcl,zar,hu,hi,hz,hm',hds,hm,hzs,h0,hmax,hb]
  ·have hn':n≠0:=by omega
   simp[zfv,zcl,zar,hu,hi,hz,hm',hn',hds,hcs,hm,hzs,h0,hmax,hb,hn]
theorem zpa {P:Program} {ρ:Operand->AV} {U U':St} {o:Oper} {c:Call} {x y:Operand} {t:TypeId} {a:AV} (ho:o.op= .call c)(hc:c.callee= .builtin .append)(ha:c.args.toList=[x,y])(ht:c.argTypes.toList=[t,t])(h:zfv P U t (ρ x) (ρ y)=some (a,U')):aop P ρ U o=some (a,U'):=by
 simp[aop,qop,ho,hc,ha,ht,h]
theorem qfo {n:Nat} {cs:List AV} (hc:cloL cs=true)(h:n=0->cs=[]):zcz (zcl n cs)= .list n cs .none:=by
 unfold zcl;split
 ·rename_i h0;rw[h h0,h0];rfl
 ·rw[zcz,zds cs hc]
theorem zeg {k n:Nat} {cs:List AV} (hc:cloL cs=true):zbe k (zcl n cs)=true:=by
 unfold zcl;split
 ·rfl
 ·rw[zbe,zab k cs hc]
variable {c:Bool} {G:Prop} {y:Code} {Q:AQ} {S S0 S1 S':List AV} {U1:St} {n0 n:Nat} {ops:Array Oper} {k':IntKind}
class Enc (α:Type) where
 inh:α
 cells:α->List AV
 cellsL:List α->List AV
 sz:Nat
 pos:0<sz
 nil:cellsL []=[]
 cons: ∀a l,cellsL (a::l)=cells a++cellsL l
 len: ∀a,(cells a).length=sz
 clo: ∀a,cloL (cells a)=true
section
variable {α:Type} [Enc α]
theorem Enc.cloL: ∀l:List α,Go.Ab.cloL (Enc.cellsL l)=true
 |[]=>by rw[Enc.nil];rfl
 |a::l=>by rw[Enc.cons,zfk,Enc.clo,Enc.cloL l];rfl
theorem Enc.lenL: ∀l:List α,(Enc.cellsL l).length=l.length*Enc.sz α
 |[]=>by rw[Enc.nil];simp
 |a::l=>by rw[Enc.cons,List.length_append,Enc.len,Enc.lenL l,List.length_cons,Nat.succ_mul,Nat.add_comm]
theorem Enc.app: ∀a b:List α,Enc.cellsL (a++b)=Enc.cellsL a++Enc.cellsL b
 |[],b=>by rw[Enc.nil];rfl
 |x::a,b=>by rw[List.cons_append,Enc.cons,Enc.cons,Enc.app a b,List.append_assoc]
theorem Enc.drop: ∀(l:List α) (i:Nat),(Enc.cellsL l).drop (i*Enc.sz α)=Enc.cellsL (l.drop i)
 |l,0=>by simp
 |[],i+1=>by simp[Enc.nil]
 | t::l,i+1=>by
  rw[Enc.cons,List.drop_succ_cons, <-Enc.drop l i,List.drop_append,Enc.len];have h:(i+1)*Enc.sz α=i*Enc.sz α+Enc.sz α:=Nat.succ_mul _ _;have:(i+1)*Enc.sz α-Enc.sz α=i*Enc.sz α:=by omega
  rw[this,List.drop_of_length_le (by rw[Enc.len];omega),List.nil_append]
theorem Enc.take (l:List α)(i:Nat):(Enc.cellsL l).take (i*Enc.sz α)=Enc.cellsL (l.take i):=by
 rcases Nat.le_or_ge i l.length with h|h
 ·have h1:=Enc.app (l.take i) (l.drop i);rw[List.take_append_drop] at h1;rw[h1,List.take_append_of_le_length (by rw[Enc.lenL,List.length_take,Nat.min_eq_left h];exact le_refl _)];exact List.take_of_length_le (by rw[Enc.lenL,List.length_take,Nat.min_eq_left h];exact le_refl _)
 ·rw[List.take_of_length_le h,List.take_of_length_le (by rw[Enc.lenL];exact Nat.mul_le_mul_right _ h)]
def ix (l:List α)(i:Int):α:=l.getD i.toNat Enc.inh
theorem Enc.at {l:List α} {i:Int} (h:0<=i/\ i<l.length):(Enc.cellsL l).drop (i.toNat*Enc.sz α)=Enc.cells (ix l i)++Enc.cellsL (l.drop (i.toNat+1)):=by
 have hi:i.toNat<l.length:=by omega
 rw[Enc.drop,List.drop_eq_getElem_cons hi,Enc.cons];simp[ix,hi]
theorem Enc.ne {l:List α} {i:Int} (h:0<=i/\ i<l.length):Enc.cellsL l≠[]:=by
 intro e;have:=Enc.lenL l;rw[e] at this;have h1:0<l.length:=by omega
 have h2:=Nat.mul_pos h1 (Enc.pos (α:=α));simp only[List.length_nil] at this;omega
end
def bs (l:List UInt8):ByteArray:=⟨l.toArray⟩
instance:Enc Int:=⟨0,fun x=>[.raw (.int .i64 x)],fun l=>l.map fun x=> .raw (.int .i64 x),1,by decide,rfl,fun _ _=>rfl,fun _=>rfl,fun _=>rfl⟩
instance:Enc UInt8:=⟨0,fun x=>[.raw (.int .u8 ((x.toNat:Nat):Int))],fun l=>l.map fun x=> .raw (.int .u8 ((x.toNat:Nat):Int)),1,by decide,rfl,fun _ _=>rfl,fun _=>rfl,fun _=>rfl⟩
instance:Enc (List UInt8):=⟨[],fun x=>[.raw (.string (bs x))],fun l=>l.map fun x=> .raw (.string (bs x)),1,by decide,rfl,fun _ _=>rfl,fun _=>rfl,fun _=>rfl⟩
instance:Enc Bool:=⟨false,fun x=>[.raw (.bool x)],fun l=>l.map fun x=> .raw (.bool x),1,by decide,rfl,fun _ _=>rfl,fun _=>rfl,fun _=>rfl⟩
section
variable {α β τ ρ:Type}
def chk (p:Prop) [Decidable p] (k:Option α):Option α:=if p then k else none
theorem zk {p:Prop} [Decidable p] {k:Option α} {r:α} (h:chk p k=some r):p/\ k=some r:=by
 unfold chk at h;split at h
 ·exact⟨‹_›,h⟩
 ·cases h
theorem zbo {p:Prop} [Decidable p] {k:Option α} (h:p):chk p k=k:=if_pos h
def zaz (e:α)(k:α->Option β):Option β:=k e
theorem zn {e:α} {k:α->Option β} {r:β} (h:zaz e k=some r): ∃x,e=x/\ k x=some r:=⟨e,rfl,h⟩
def zaa (x:Option α)(k:α->Option β):Option β:=match x with|some a=>k a|none=>none
theorem zm {x:Option α} {k:α->Option β} {r:β} (h:zaa x k=some r): ∃a,x=some a/\ k a=some r:=by
 cases x with
 |none=>cases h
 |some a=>exact⟨a,rfl,h⟩
@[simp] theorem bindE_some (a:α) (k:α->Option β):zaa (some a) k=k a:=rfl
theorem zan {A B:Option α} {r:α} (h:(bif c then A else B)=some r)(kt:c=true->A=some r->G)(kf:c=false->B=some r->G):G:=by
 cases c with
 |true=>exact kt rfl h
 |false=>exact kf rfl h
def zda (x:Option (τ ⊕ ρ))(k:τ->Option ρ):Option ρ:=match x with|some (.inl t)=>k t|some (.inr y)=>some y|none=>none
@[simp] theorem cutE_inl (t:τ) (k:τ->Option ρ):zda (some (.inl t)) k=k t:=rfl
@[simp] theorem cutE_inr (y:ρ) (k:τ->Option ρ):zda (some (.inr y)) k=some y:=rfl
theorem zaq {y r:ρ} {o:τ ⊕ ρ} (h:some (inr y)=some o)(hr: ∀y,o= .inr y->y=r):some y=some r:=by
 rw[hr y (Option.some.inj h).symm]
def zbk (body:β->Option (β ⊕ ρ)):Nat->β->Option ρ
 |0,_=>none
 |n+1,s=>match body s with|some (.inl s')=>zbk body n s'|some (.inr y)=>some y|none=>none
def zcp (body:β->α->Option (β ⊕ ρ)):List α->β->Option (β ⊕ ρ)
 |[],s=>some (.inl s)
 |x::xs,s=>match body s x with|some (.inl s')=>zcp body xs s'|some (.inr y)=>some (.inr y)|none=>none
end
section
variable {IT:IterP} {P:Program} {W:Owed} {k0:Nat}
theorem zau {x:Code} {U:St} {τ ρ:Type} {FX:Option (τ ⊕ ρ)} {K:τ->Option ρ} {r:ρ} (h:zda FX K=some r)(tops:List Nat)(upd:τ->List (Nat×AV))(D:τ->St)
 (hx: ∀o,FX=some o->(∀y,o= .inr y->y=r)->awp IT P W k0 x (zvt (fun S1 U1=> ∃t,o= .inl t/\ Wk k0 S1 U1 (zbq (zdf S tops) (upd t)) (D t)) Q) S U)
 (hk: ∀t,K t=some r->awp IT P W k0 y Q (zbq (zdf S tops) (upd t)) (D t)):awp IT P W k0 (.seq x y) Q S U:=by
 cases FX with
 |none=>cases h
 | some o=>
  refine .inl (zcf x ?_ _ _ (hx o rfl fun y e=>by subst e;exact Option.some.inj h));intro e S1 U1 hq;cases e with
  | normal=>
   obtain⟨t,rfl,hw⟩:=hq;exact⟨_,_,hw,hk t h⟩
  |exit id=>exact hq
  |ret=>exact hq
theorem zc {τ ρ:Type} {o:τ ⊕ ρ} {tops:List Nat} {upd:τ->List (Nat×AV)} {D:τ->St} (t:τ)(h:some (inl t)=some o)(hw:Wk n0 S1 U1 (zbq (zdf S0 tops) (upd t)) (D t)):
 ∃t,o= .inl t/\ Wk n0 S1 U1 (zbq (zdf S0 tops) (upd t)) (D t):=⟨t,(Option.some.inj h).symm,hw⟩
def loopQ {β ρ:Type} (n0:Nat)(T:β->List AV)(D:β->St)(p:β ⊕ ρ)(o:ρ)(Q:AQ):AQ
 | .normal,S,U=> ∃s,p= .inl s/\ Wk n0 S U (T s) (D s)
 |e,S,U=>(∃y,p= .inr y/\ (some y=some o->Q e S U)) \/Q e S U
theorem zdg {x:Code} {U:St} {β ρ:Type} {body:β->Option (β ⊕ ρ)} {s0:β} {o:ρ} (h:zbk body n s0=some o)(tops:List Nat)(upd:β->List (Nat×AV))(D:β->St)
 (h0:Wk k0 S U (zbq (zdf S tops) (upd s0)) (D s0))
 (hs: ∀s p,body s=some p->awp IT P W k0 x (loopQ k0 (fun s=>zbq (zdf S tops) (upd s)) D p o Q) (zbq (zdf S tops) (upd s)) (D s)):awp IT P W k0 (.loop x) Q S U:=by
 have key: ∀(n:Nat) (s0:β) S1 U1,zbk body n s0=some o->Wk k0 S1 U1 (zbq (zdf S tops) (upd s0)) (D s0)->zrd (awp IT P W k0 x) Q k0 n S1 U1:=by
  intro n;induction n with
  |zero=>intro s0 S1 U1 h;cases h
  | succ n ih=>
   intro s0 S1 U1 h hw;rw[zbk] at h;cases hb:body s0 with
   |none=>rw[hb] at h;cases h
   | some p=>
    rw[hb] at h;refine⟨_,_,hw,zcf x ?_ _ _ (hs s0 p hb)⟩;intro e S2 U2 hq;cases e with
    | normal=>
     obtain⟨s,rfl,hw2⟩:=hq;exact ih s S2 U2 h hw2
    | exit id=>
     rcases hq with⟨y,rfl,hq⟩|hq
     ·exact hq h
     ·exact hq
    | ret=>
     rcases hq with⟨y,rfl,hq⟩|hq
     ·exact hq h
     ·exact hq
 exact⟨n,key n s0 S U h h0⟩
theorem zbr {β ρ:Type} {p:β ⊕ ρ} {tops:List Nat} {upd:β->List (Nat×AV)} {D:β->St} (s:β)(h:some (inl s)=some p)(hw:Wk n0 S1 U1 (zbq (zdf S0 tops) (upd s)) (D s)):
 ∃s,p= .inl s/\ Wk n0 S1 U1 (zbq (zdf S0 tops) (upd s)) (D s):=⟨s,(Option.some.inj h).symm,hw⟩
theorem zae {β ρ:Type} {p:β ⊕ ρ} {o y:ρ} {H:Prop} (h:some (inr y)=some p)(k:some y=some o->G):(∃y,p= .inr y/\ (some y=some o->G)) \/H:= .inl ⟨y,(Option.some.inj h).symm,k⟩
def z9b {β ρ:Type} (S0:List AV)(n0:Nat)(D:β->St)(p:β ⊕ ρ)(r:ρ)(Q:AQ):AQ
 | .normal,_,U=> ∃s,p= .inl s/\ z0t n0 U=true/\ zfb n0 U=D s
 |e,_,U=>(∃y,p= .inr y/\ (some y=some r->z0t n0 U=true/\ Q e S0 (zfb n0 U))) \/(z0t n0 U=true/\ Q e S0 (zfb n0 U))
theorem z2g {ps:Array Tmp} {asg body:Code} {α β ρ:Type} {FB:β->α->Option (β ⊕ ρ)} {K:β->Option ρ} {r:ρ} (row:α->List AV)(D:β->St)
 (hs: ∀s x p,FB s x=some p->awp IT P W n0 asg (z3i (fun S1 U1=>awp IT P W U1.boxes.length body (z9b S n0 D p r Q) S1 U1)) (zkc S ps (row x)) (D s))
 (he: ∀s,K s=some r->Q .normal S (D s)): ∀(xs:List α) (s0:β),zda (zcp FB xs s0) K=some r->zfn (fun k=>awp IT P W k asg) (fun k=>awp IT P W k body) ps S Q n0 (xs.map row) (D s0):=by
 intro xs;induction xs with
 |nil=>intro s0 h;exact he s0 h
 | cons x xs ih=>
  intro s0 h;rw[zcp] at h;cases hb:FB s0 x with
  |none=>rw[hb] at h;cases h
  | some p=>
   rw[hb] at h;simp only[List.map_cons,zfn];refine zcf asg ?_ _ _ (hs s0 x p hb);intro e S1 U1 hq;cases e with
   | normal=>
    refine zcf body ?_ _ _ hq;intro e2 S2 U2 hq2;cases e2 with
    |normal=>obtain⟨s,rfl,q1,q2⟩:=hq2;exact⟨q1,by rw[q2];exact ih s h⟩
    |exit id=>
    rcases hq2 with⟨y,rfl,hq2⟩|hq2
    ·exact hq2 h
    ·exact hq2
    |ret=>
    rcases hq2 with⟨y,rfl,hq2⟩|hq2
    ·exact hq2 h
    ·exact hq2
   |exit id=>exact hq.elim
   |ret=>exact hq.elim
theorem zjc {f:Operand} {ps:Array Tmp} {asg body:Code} {U:St} {α β ρ:Type} {FB:β->α->Option (β ⊕ ρ)} {xs:List α} {s0:β} {K:β->Option ρ} {r:ρ} (h:zda (zcp FB xs s0) K=some r)(row:α->List AV)(D:β->St)
 (hf:zbw S f= .iter (xs.map row)) (hl: ∀x,(row x).length=ps.size) (hna:zcj asg=true) (h0:U=D s0)
 (hs: ∀s x p,FB s x=some p->awp IT P W U.boxes.length asg (z3i (fun S1 U1=>awp IT P W U1.boxes.length body (z9b S U.boxes.length D p r Q) S1 U1)) (zkc S ps (row x)) (D s))
 (he: ∀s,K s=some r->Q .normal S (D s)) (hps:Nat.ble ps.size 8=true:=by exact rfl):awp IT P W k0 (.rangeFunc f ps asg body) Q S U:=by
 refine .inl ⟨xs.map row,hf,hps,by simp[List.all_map];intro x _;exact hl x,hna,?_⟩;rw[h0];rw[h0] at hs;exact z2g row D hs he xs s0 h
theorem z9p {f:Operand} {ps:Array Tmp} {asg body:Code} {U:St} {α β ρ:Type} {FB:β->α->Option (β ⊕ ρ)} {xs:List α} {s0:β} {K:β->Option ρ} {r:ρ} (h:zda (zcp FB xs s0) K=some r)(row:α->List AV)(D:β->St)(js hs:List Nat)(m:Nat) {g:Nat} {caps caps0:List AV} {bs bs':List (TypeId×List AV)}
 (hW:W=none) (hit:qcf P g caps0 bs (xs.map row) bs') (hent:Ent P g) (hf:zbw S f= .clos g caps) (hcaps:zx 0 (bwz js) caps=caps0) (hH:Hand U js hs m bs U1) (hfg:Fg (zx U.lens.length (gz hs) S) S') (hbk: ∀(i:Nat) (t:TypeId) (cs:List AV),bs[i]? =some (t,cs)-> ∃cs',bs'[i]? =some (t,cs'))
 (hl: ∀x,(row x).length=ps.size) (hna:zcj asg=true) (h0:U1=D s0)
 (zit: ∀s x p,FB s x=some p->awp IT P W U.boxes.length asg (z3i (fun S1 U1=>awp IT P W U1.boxes.length body (z9b S' U.boxes.length D p r (qgh Q S js hs bs' U.boxes)) S1 U1)) (zkc S' ps (row x)) (D s))
 (he: ∀s,K s=some r->Q .normal S (ziz js hs bs' U.boxes (D s))):awp IT P W k0 (.rangeFunc f ps asg body) Q S U:=
 .inr (⟨g,caps,js,hs,m,bs,bs',xs.map row,S',U1,hf,hH,hfg,hW,hna,by simp[List.all_map];intro x _;exact hl x,by rw[hcaps];exact hit,hent,hbk,by rw[h0];exact z2g row D zit he xs s0 h⟩)
theorem zes {β ρ:Type} {p:β ⊕ ρ} {D:β->St} (s:β)(h:some (inl s)=some p)(h1:z0t n0 U1=true)(h2:zfb n0 U1=D s): ∃s,p= .inl s/\ z0t n0 U1=true/\ zfb n0 U1=D s:=⟨s,(Option.some.inj h).symm,h1,h2⟩
theorem zum {c:Operand} {x:Code} {U:St} {t:Bool} (ht:t=true)(hc:zbw S c= .raw (.bool t))(k:awp IT P W k0 x Q S U):awp IT P W k0 (.cond c x y) Q S U:=⟨true,by rw[hc,ht],by rw[if_pos rfl];exact k⟩
theorem zvc {c:Operand} {x:Code} {U:St} {t:Bool} (ht:t=false)(hc:zbw S c= .raw (.bool t))(k:awp IT P W k0 y Q S U):awp IT P W k0 (.cond c x y) Q S U:=⟨false,by rw[hc,ht],by rw[if_neg (by decide)];exact k⟩
theorem w_qs {Q:List AV->St->Prop} {o:Oper} {l:List Oper} {U:St} (a:AV) {a0:AV} (hg:o.guard=none)(hc:zct S o=none)(hy:zcv S o=none)(h:qop P (zbw S) U o=some a0)(ha:zcz a0=a)(hS:zad S o.dst a=S')
 (k:zcb IT P W ops Q l S' U):zcb IT P W ops Q (o::l) S U:=by
 simp only[zcb,hg,zfq,hc,hy];exact .inl ⟨a,U,.inr (.inr (.inr (.inl ⟨a0,zbl h,ha.symm⟩))),by rw[hS];exact k⟩
end
section
variable {P:Program} {ρ:Operand->AV} {U:St} {o:Oper}
theorem qmt {α:Type} [Enc α] {t e:TypeId} {x i:Operand} {l:List α} {st:Room} {k:IntKind} {n:Int} (hb:0<=n/\ n<l.length)(ho:o.op= .indexAddr t x i)(hx:ρ x= .list l.length (Enc.cellsL l) st)(hi:ρ i= .raw (.int k n))(hu:P.underlying t=some (.slice e))(hs:zfh P e=some (Enc.sz α)):
 qop P ρ U o=some (.iptr (Enc.cells (ix l n)++Enc.cellsL (l.drop (n.toNat+1)))):=by
 rw[q_index ho hx hi hu hs ⟨hb.1,hb.2,Enc.ne hb⟩,Enc.at hb]
end
theorem zdn {a:AV} (h:clo a=true):zcz a=a:=z2t a h
theorem zlq {cs:List AV} {st:Room} (h:cloL cs=true):zcz (.list n cs st)= .list n cs .none:=by rw[zcz,zds cs h]
theorem zvp {cs:List AV} (h:cloL cs=true)(h0:n=0->cs=[]):zcz (zcl n cs)= .list n cs .none:=qfo h h0
theorem zu {a b:AV} {l m:List AV} (h:zcz a=b)(k:stripL l=m):stripL (a::l)=b::m:=by rw[stripL,h,k]
theorem zca {k:Nat} {cs:List AV} {st:Room} (h:cloL cs=true):zbe k (.list n cs st)=true:=by rw[zbe,zab k cs h]
theorem za {k:Nat} {a:AV} {l:List AV} (h:zbe k a=true)(m:zac k l=true):zac k (a::l)=true:=by rw[zac,h,m];rfl
theorem zos {a:AV} {l:List AV} (h:clo a=true)(m:cloL l=true):cloL (a::l)=true:=by rw[cloL,h,m];rfl
theorem zak {cs:List AV} (h:cloL cs=true):clo (.agg cs)=true:=h
theorem z7g {cs:List AV} (h:cloL cs=true):clo (.list n cs .none)=true:=by simp[clo,h]
theorem Enc.z {α:Type} [Enc α] {l:List α}:l.length=0->Enc.cellsL l=[]:=fun h=>by rw[List.length_eq_zero_iff.1 h,Enc.nil]
theorem Enc.stripL {α:Type} [Enc α] (l:List α):Go.Ab.stripL (Enc.cellsL l)=Enc.cellsL l:=zds _ (Enc.cloL l)
section
variable {P:Program} {ρ:Operand->AV} {U:St} {o:Oper}
theorem zhc {α:Type} [Enc α] {l:List α} {cs:List AV} {st:Room} (h:qop P ρ U o=some (.list l.length cs st))(hc:Enc.cellsL l=cs):qop P ρ U o=some (.list l.length (Enc.cellsL l) st):=by rw[hc];exact h
def sub {α:Type} (l:List α)(i j:Int):List α:=(l.drop i.toNat).take (j.toNat-i.toNat)
theorem q_lenO {α:Type} [Enc α] {c:Call} {x:Operand} {t:TypeId} {l:List α} (ho:o.op= .call c)(hc:c.callee= .builtin .len)(ha:c.args.toList=[x])(hx:ρ x=zcl l.length (Enc.cellsL l))(ht:c.argTypes.toList=[t]) {e:TypeId} (hu:P.underlying t=some (.slice e)):qop P ρ U o=some (.raw (.int .i64 (l.length:Int))):=by
 have:qjh P t (zcl l.length (Enc.cellsL l))=some (.raw (.int .i64 (l.length:Int))):=by
  unfold zcl;split
  ·rename_i h0;simp[qjh,hu,h0]
  ·simp[qjh,hu]
 simp[qop,ho,hc,ha,ht,hx,this]
theorem zif {α:Type} [Enc α] {t e:TypeId} {i:TypeInfo} {z:Value} {st:Room} {bs:List (TypeId×List AV)} {a b:List α} {by':Nat} (hb:(a.length+b.length)*by'<=140737488355328)(hu:P.underlying t=some (.slice e))(hi:P.info? e=some i)(hz:i.zero=some z)(hsz:i.size=Enc.sz α)(hzs:z.cells.size=Enc.sz α)(hby:i.bytes=by'/\ 0<by'):
 zfv P (zar bs e a.length (Enc.sz α)) t (zcl a.length (Enc.cellsL a)) (.list b.length (Enc.cellsL b) st)=some (zcl (a++b).length (Enc.cellsL (a++b)),zar bs e (a++b).length (Enc.sz α)):=by
 have hm:a.length+b.length<=maxLen:=by
  have h1:a.length+b.length<=(a.length+b.length)*by':=Nat.le_mul_of_pos_right _ hby.2
  have h2:140737488355328<=maxLen:=by decide
  omega
 rw[qcc hu hi hz hsz hzs Enc.pos (Enc.lenL a) (Enc.lenL b) hm (by rw[hby.1];exact hb),List.length_append,Enc.app]
end
section
variable {IT:IterP} {P:Program} {W:Owed} {k0:Nat}
theorem qnc {Q:List AV->St->Prop} {l:List Oper} {U U':St} {ps:Pend} (hn:U.boxes.length=n)(hσ:zna U ps=U')(hS:zpd n ps S=S')(k:zcb IT P W ops Q l S' U'):
 zev IT P ops U (fun S' ps=>zcb IT P W ops Q l (zpd U.boxes.length ps S') (zna U ps)) [] S ps:=by
 show zcb IT P W ops Q l (zpd U.boxes.length ps S) (zna U ps);rw[hn,hσ,hS];exact k
end
theorem zaj {b:TypeId×List AV} {l:List (TypeId×List AV)} (h:zac n b.2=true)(k:(l.all fun bx=>zac n bx.2)=true):((b::l).all fun bx=>zac n bx.2)=true:=by rw[List.all_cons,h,k];rfl
theorem zci {U:St} (h:((U.boxes.take n).all fun bx=>zac n bx.2)=true):z0t n U=true:=h
theorem zez {P:Program} {fn:Func} {U:St} {a:AV} {R:Type} {y r:R} (E:R->AV)(hr:some y=some r)(h:zap P fn U S=some a)(hok:zbe 0 a=true)(hs:zcz a=E y):zwb P fn (E r) .ret S U:=by
 cases hr;exact qmw h hok hs
def znf (k:IntKind)(x y:Int):Int:=k.wrap ((BitVec.ofInt k.bits x&&&BitVec.ofInt k.bits y).toNat:Int)
def orI (k:IntKind)(x y:Int):Int:=k.wrap ((BitVec.ofInt k.bits x|||BitVec.ofInt k.bits y).toNat:Int)
def xorI (k:IntKind)(x y:Int):Int:=k.wrap ((BitVec.ofInt k.bits x^^^BitVec.ofInt k.bits y).toNat:Int)
def zge (k:IntKind)(x y:Int):Int:=x.fdiv (2^min y.toNat k.bits)
def zqn (k:IntKind)(x y:Int):Int:=k.wrap (x*2^min y.toNat k.bits)
section
variable {P:Program} {ρ:Operand->AV} {U:St} {o:Oper}
theorem qjp {x y:Operand} {t:TypeId} {c} {k:IntKind} {m n:Int} (g:0<=n)(ho:o.op= .binOp .shr t x y c)(hx:ρ x= .raw (.int k m))(hy:ρ y= .raw (.int k' n)):qop P ρ U o=some (.raw (.int k (zge k m n))):=by
 have h: ¬n<0:=by omega
 simp[qop,zfi,ho,Op.operands,hx,hy,zdr,execOp,zch,eqGuard,binOp,Op.shift,h,zge];rfl
theorem q_shl {x y:Operand} {t:TypeId} {c} {k:IntKind} {m n:Int} (g:0<=n)(ho:o.op= .binOp .shl t x y c)(hx:ρ x= .raw (.int k m))(hy:ρ y= .raw (.int k' n)):qop P ρ U o=some (.raw (.int k (zqn k m n))):=by
 have h: ¬n<0:=by omega
 simp[qop,zfi,ho,Op.operands,hx,hy,zdr,execOp,zch,eqGuard,binOp,Op.shift,h,zqn];rfl
theorem z2h {t e:TypeId} {x i:Operand} {len s off sz:Nat} {k:IntKind} {n:Int} (hb:0<=n/\ n<len)(ho:o.op= .indexAddr t x i)(hx:ρ x= .ptr s off)(hi:ρ i= .raw (.int k n))(hu:P.underlying t=some (.array len e))(hs:zfh P e=some sz):
 qop P ρ U o=some (.ptr s (off+n.toNat*sz)):=by
 simp only[qop,ho,hx,hi,zhv,hu,hs,if_pos hb,qcm]
end
open Classical in
noncomputable def qar {α:Type} (p:Prop)(k:Option α):Option α:=if p then k else none
theorem z1r {α:Type} {p:Prop} {k:Option α} {r:α} (h:qar p k=some r):p/\ k=some r:=by
 unfold qar at h;split at h
 ·exact⟨‹_›,h⟩
 ·cases h
theorem z9h {α:Type} {p:Prop} {k r:Option α} (h:p)(hk:k=r):qar p k=r:=by unfold qar;rw[if_pos h];exact hk
theorem zpj {IT:IterP} {P:Program} {W:Owed} {α:Type} {row:α->List AV} {rows:List α} {x:α} {Q:List AV->St->Prop} {o:Oper} {l:List Oper} {S2:List AV} {U U2:St} {args:List AV} (hr:rows[U.out]? =some x)(hs:stripL args=row x)(hok:zac 0 args=true)(hni:zcc args=true) {G:Gen} (hW:W=some G)(hGl:G.l=n)(hGr:G.rows=rows.map row)(hg:o.guard=none)(hc:zct S o=none)(hy:zcv S o=some (n,args))(hst:U.stop=false)
 (h1:zad S o.dst (.raw (.bool true))=S1) (h2:zad S o.dst (.raw (.bool false))=S2) (e1:{U with out:=U.out+1}=U1) (e2:{U with stop:=true}=U2) (k1:zcb IT P W ops Q l S1 U1) (k2:zcb IT P W ops Q l S2 U2):zcb IT P W ops Q (o::l) S U:=
 w_yield hg hc hy hW hGl hGr (by rw[getElem?_map,hr];rfl) hs hok hni hst (by rw[h1,e1];exact k1) (by rw[h2,e2];exact k2)
theorem z7r {v:Value} {l:List AV} (h:zcc l=true):zcc (.raw v::l)=true:=by simp[zcc,zkz,h]
theorem zti (n:Nat) {P:Program} (hmix:P.follows .mixedOrders=true) {U:St} {a:AV} {g:FuncId} {fn f:Func} {c:Code} {caps:List AV} {S:List AV} {α:Type} {row:α->List AV} {rows:List α} (hr:zap P f U S=some a)(hm:zgu (frz U.boxes n) a= .clos g caps)(hf:P.funcs[g]? =some fn)(hb:fn.body=some c)(he:Ent P g)
 (hcl:cloL caps=true) (hne:rows.map row≠errRows) (h: ∀G:Gen,G.rows=rows.map row->awp (ITP P) P (some G) 0 c (z7e P fn rows.length) (zai fn (.yld G.l::caps)) St.empty):zwb P f (.iter (rows.map row)) .ret S U:=
 ⟨a,hr,qeo (caps:=caps) hmix hne (qle n hm) hf hb he (fun G hGr=>by rw[zds _ hcl,List.length_map];exact h G hGr) (zab 0 _ hcl)⟩
section
variable {α β τ ρ:Type}
theorem zt {p:Prop} [Decidable p] {k:Option α} {r:Option α} (h:p)(hk:k=r):chk p k=r:=by rw[zbo h];exact hk
theorem zv {e:α} {k:α->Option β} {r:Option β} (h: ∀x,e=x->k x=r):zaz e k=r:=h e rfl
theorem zkb {A B:α} {r:α} (h:c=true)(k:A=r):(bif c then A else B)=r:=by rw[h];exact k
theorem zig {A B:α} {r:α} (h:c=false)(k:B=r):(bif c then A else B)=r:=by rw[h];exact k
theorem bif_i {A B:α} {r:α} (kt:c=true->A=r)(kf:c=false->B=r):(bif c then A else B)=r:=by
 cases c with
 |true=>exact kt rfl
 |false=>exact kf rfl
theorem zaf {x:Option α} {k:α->Option β} {r:Option β} (a:α)(h:x=some a)(hk:k a=r):zaa x k=r:=by rw[h];exact hk
theorem zbg {x:Option (τ ⊕ ρ)} {k:τ->Option ρ} {r:Option ρ} (t:τ)(h:x=some (.inl t))(hk:k t=r):zda x k=r:=by rw[h];exact hk
theorem z2l {x:Option (τ ⊕ ρ)} {k:τ->Option ρ} {r:Option ρ} (y:ρ)(h:x=some (.inr y))(hk:some y=r):zda x k=r:=by rw[h];exact hk
theorem zpy {body:β->Option (β ⊕ ρ)} {s0:β} {o:ρ} (N:Nat)(f:Nat->β)(h0:s0=f 0)(hs: ∀i,i<N->body (f i)=some (.inl (f (i+1))))(he:body (f N)=some (.inr o))(hn:N<n):zbk body n s0=some o:=by
 have key: ∀k i n,i+k=N->k<n->zbk body n (f i)=some o:=by
  intro k;induction k with
  | zero=>
   intro i n hi hn;obtain rfl:i=N:=by omega
   match n,hn with
   |n+1,_=>rw[zbk,he]
  | succ k ih=>
   intro i n hi hn
   match n,hn with
   |n+1,_=>rw[zbk,hs i (by omega)];exact ih (i+1) n (by omega) (by omega)
 rw[h0];exact key N 0 n (by omega) hn
theorem loopC_i {τ:Type} {body:β->Option (β ⊕ (τ ⊕ ρ))} {K:τ->Option ρ} (N:Nat)(T:Nat->β)(R:Nat->Option ρ)(hn:N<n)(hs: ∀i,i<=N->(i<N/\ body (T i)=some (.inl (T (i+1)))/\ R i=R (i+1)) \/(∃y,body (T i)=some (.inr y)/\ zda (some y) K=R i)):zda (zbk body n (T 0)) K=R 0:=by
 have key: ∀k i n,i+k=N->k<n->zda (zbk body n (T i)) K=R i:=by
  intro k;induction k with
  | zero=>
   intro i n hi hn;obtain rfl:i=N:=by omega
   match n,hn with
   | n+1,_=>
    rcases hs i (le_refl _) with⟨h,_⟩|⟨y,h1,h2⟩
    ·omega
    ·rw[zbk,h1];exact h2
  | succ k ih=>
   intro i n hi hn
   match n,hn with
   | n+1,_=>
    rcases hs i (by omega) with⟨_,h1,h2⟩|⟨y,h1,h2⟩
    ·rw[zbk,h1,h2];exact ih (i+1) n (by omega) (by omega)
    ·rw[zbk,h1];exact h2
 exact key N 0 n (by omega) hn
end
end Go.Ab
