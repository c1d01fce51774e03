import Derived.Test.YtnoccnalocdldaaGreatDoorZdL
set_option linter.all false
open Sum (inl inr)
open Nat (le_refl zero_add)
open Option (map_some getD_some)
open List (mem_of_getElem? getElem?_append_left mem_append getElem?_append_right getElem?_map map_cons take_of_length_le)
namespace Go.Ab
open Go Go.RowKit Go.Fwd
variable {IT:IterP} {P:Program} {X Y:Cx} {U U':St} {S S':List AV} {n n0:Nat}
def qgb (P:Program)(U:St)(S:List AV):ResultVar->Option AV
 | .tmp t=>some ((S[t]?).getD (.raw undef))
 | .cell t ty=>zlv P U ty ((S[t]?).getD (.raw undef))
def z5a (P:Program)(U:St)(S:List AV):List ResultVar->Option (List AV)
 |[]=>some []
 |x::l=>match qgb P U S x,z5a P U S l with|some a,some r=>some (a::r)|_,_=>none
def zav (P:Program)(fn:Func)(U:St)(S:List AV):Option AV:=
 match z5a P U S fn.results.toList with
 |some [a]=>some a
 |some l=>some (.tup l)
 |none=>none
theorem z5o {tmps:Array Value} {x:ResultVar} {a:AV} (h:qgb P U S x=some a)(hr:znx IT X S tmps)(hI:Inv IT U X):
 ∃v,((match x with| .tmp t=>pure (tmps.getD t undef)| .cell a t=>do loadVar t (<-asAddr (tmps.getD a undef))):Sem Value).run P X.w= .ok v X.w/\ Rep IT X a v:=by
 have hev: ∀t,Rep IT X ((S[t]?).getD (.raw undef)) (tmps.getD t undef):=fun t=>zdt (a:={tmps:=tmps,defers:=[]}) hr (.tmp t);cases x with
 | tmp t=>
  simp only[qgb,Option.some.injEq] at h;subst h;exact⟨_,rfl,hev t⟩
 | cell t ty=>
  simp only[qgb] at h;obtain⟨v,h1,h2⟩:=ztx (P:=P) h (hev t) hI;refine⟨v,?_,h2⟩;have hp: ∃ad,tmps.getD t undef= .pointer (some ad):=by
   have:=hev t;generalize (S[t]?).getD (.raw undef)=y at h this
   cases y with
   |ptr s off=>rw[Rep] at this;obtain⟨b,_,e⟩:=this;exact⟨_,e⟩
   |iptr cs=>rw[Rep] at this;obtain⟨b,o,e,_⟩:=this;exact⟨_,e⟩
   |_=>cases h
  obtain⟨ad,e⟩:=hp;rw[e] at h1;simp only[Instr.loadAt,Instr.sureAddr,Sem.run_bind,Sem.run_pure,Result.andThen_ok] at h1;simp only[e,asAddr,Sem.run_bind,Sem.run_pure,Result.andThen_ok,h1]
theorem zve {tmps:Array Value} (hr:znx IT X S tmps)(hI:Inv IT U X): ∀(l:List ResultVar) (r:List AV),z5a P U S l=some r->
 ∃vs,(l.mapM fun x=>((match x with| .tmp t=>pure (tmps.getD t undef)| .cell a t=>do loadVar t (<-asAddr (tmps.getD a undef))):Sem Value)).run P X.w= .ok vs X.w/\ zbo IT X r vs
 |[],r,h=>by simp[z5a] at h;subst h;exact⟨[],by simp,by rw[zbo]⟩
 | x::l,r,h=>by
  simp only[z5a] at h;split at h<;>cases h
  rename_i a r' h1 h2;obtain⟨v,e1,e2⟩:=z5o h1 hr hI;obtain⟨vs,k1,k2⟩:=zve hr hI l r' h2;refine⟨v::vs,?_,by rw[zbo];exact⟨v,vs,rfl,e2,k2⟩⟩;rw[List.mapM_cons];simp only[Sem.run_bind,e1,Result.andThen_ok,k1,Sem.run_pure]
theorem zoe {fn:Func} {tmps:Array Value} {a:AV} (h:zav P fn U S=some a)(hr:znx IT X S tmps)(hI:Inv IT U X):
 ∃v,(results fn tmps).run P X.w= .ok v X.w/\ Rep IT X a v:=by
 unfold zav at h;have run: ∀r,z5a P U S fn.results.toList=some r-> ∃vs,(results fn tmps).run P X.w= .ok (if h:vs.length=1 then vs[0] else .tuple vs.toArray) X.w/\ zbo IT X r vs:=fun r hr'=>by
  obtain⟨vs,k1,k2⟩:=zve hr hI _ r hr';refine⟨vs,?_,k2⟩;unfold results;rw[Array.mapM_eq_mapM_toList];simp only[Sem.run_bind,Sem.run_map,Sem.run_pure];exact congrArg (fun r:Result (List Value)=>(r.andThen (fun a w'=>Result.ok a.toArray w')).andThen fun a w'=>Result.ok (if h:a.size=1 then a[0] else Value.tuple a) w') k1
 split at h
 ·rename_i b hl;cases h;obtain⟨vs,k1,k2⟩:=run _ hl;rw[zbo] at k2;obtain⟨v,r,rfl,k3,k4⟩:=k2;rw[zbo] at k4;subst k4;exact⟨v,by simpa using k1,k3⟩
 ·rename_i l hne hl;cases h;obtain⟨vs,k1,k2⟩:=run _ hl;have hlen:=zu k2;refine⟨.tuple vs.toArray,?_,by rw[Rep];exact⟨vs,rfl,k2⟩⟩;rw[k1,dif_neg];intro h1;obtain⟨x,rfl⟩:=List.length_eq_one_iff.1 (hlen.trans h1);exact hne x rfl
 ·cases h
theorem zmk {F:Fence} {fn:Func} {tmps:Array Value} {R:Ending->World->Prop} {B:Nat}: ∀(Ds:List Nat) (w:World),Ds.Nodup->(∀D∈Ds,B<=D/\ w.heap[D]? =some (.deferred (some [])))->
 (∀W',Turn B w W'-> ∃v,(results fn tmps).run P W'= .ok v W'/\ R (.returned v) W')->LeavesInM F n P fn tmps R (Ds.map fun D=>{target:= .collected D,args:= #[]}) .returning w
 | [],w,_,_,h=>by
  obtain⟨v,h1,h2⟩:=h w ⟨rfl,rfl,rfl,le_refl _,le_refl _,fun _ _ h _=>h⟩;exact⟨_,h1,h2⟩
 | D::Ds,w,hnd,hD,h=>by
  rw[List.nodup_cons] at hnd;obtain⟨hB,hd⟩:=hD D (by simp);have hT:=Turn.putObj (B:=B) (.deferred none) hB hd rfl;refine⟨by simp,.inl ⟨D,_,rfl,run_takeDeferred hd,?_⟩⟩;refine zmk Ds _ hnd.2 (fun D' h'=>⟨(hD D' (by simp[h'])).1,?_⟩) fun W' hT'=>h W' ?_
  ·exact(World.putObj_heap_other (by intro e;subst e;exact hnd.1 h')).trans (hD D' (by simp[h'])).2
  ·exact⟨hT'.os.trans hT.os,hT'.tape.trans hT.tape,hT'.output.trans hT.output,Nat.le_trans hT.size hT'.size,Nat.le_trans hT.drawn hT'.drawn,fun k o hk hc=>hT'.same k o (hT.same k o hk hc) hc⟩
def zaq (fn:Func)(args:List AV):List AV:=args++List.replicate (fn.ntmps-args.length) (.raw undef)
def Ends (P:Program)(U:St)(a r:AV):Prop:= ∀(Y:Cx) (v:Value),Inv (ITP P) U Y->Rep (ITP P) Y a v-> ∃F':Nat->Nat->Prop,(∀b o,Y.F b o->F' b o)/\ (∀b o,F' b o->Y.F b o \/b∈Y.κ)/\
 (∀b o,F' b o-> ∃v,Y.w.cell? ⟨b,o,none⟩=some v)/\ Rep (ITP P) ⟨F',[],[],[],Y.w,Y.O,Y.C⟩ r v
theorem zws {a r:AV} (h1:zbp 0 a=true)(h2:zcw a=r):Ends P U a r:=fun Y v hI hv=>by
 subst h2;exact⟨Y.F,fun _ _ h=>h,fun _ _ h=> .inl h,hI.Fcell,ziw (X:=Y) (Y:=⟨Y.F,[],[],[],Y.w,Y.O,Y.C⟩) (zh P) rfl rfl a v (.inl h1) hv⟩
def zwg (P:Program)(fn:Func)(r:AV):AQ
 | .exit _,_,_=>False
 |_,S,U=> ∃a,zav P fn U S=some a/\ Ends P U a r
def z6v (P:Program)(n m:Nat)(U:St)(a r:AV)(U':St):Prop:= ∀(X Y:Cx) (v:Value),Ext X Y->X.κ.length=n->X.lens.length=m->Inv (ITP P) U Y->Rep (ITP P) Y a v-> ∃X',X'.w=Y.w/\ Ext X X'/\ Inv (ITP P) U' X'/\ Rep (ITP P) X' r v
theorem zvx {m:Nat} {a r:AV} (fs js:List Nat)(d:Nat)(hok:zdd U n js=true)(hr:zib m (kz U.boxes m n fs js d) a=r)(hσ:zeu U m n fs js d=U'):z6v P n m U a r U':=fun X Y v hE hn hm hI hv=>by
 subst hr hσ;exact⟨zdl U m n fs js Y,rfl,ztg hE hI hok (by omega) (by omega),zti (zh P) hI hok d,zlh (X:=Y) (Y:=zdl U m n fs js Y) (zh P) (fun b o h=>Or.inl h) rfl zim (zqm (zh P) hI hok d) _ _ hv⟩
theorem qir {m:Nat} {a r:AV} (h1:zbp n a=true)(h2:z0u n U=true)(h3:a=r)(h4:zfj n U=U'):z6v P n m U a r U':=fun X Y v hE hn hm hI hv=>by
 subst h3 h4;have htr:=qap (M:=none) (zh P) none (F:=Fence.wide.inRound 0) (B:=0) (S:=[]) (a:={tmps:= #[],defers:=[]}) ⟨hE,hI,by unfold znx;rw[zbo],⟨Nat.zero_le _,fun h=>absurd h (znd 0),fun _=>rfl⟩,trivial⟩ (Nat.le_of_eq hn) h2;exact⟨{Y with κ:=Y.κ.take n},rfl,htr.ext,htr.inv,zth (X:=Y) (Y:={Y with κ:=Y.κ.take n}) (zh P) rfl rfl rfl rfl rfl a v h1 hv⟩
def aendS (P:Program)(fn:Func)(n m:Nat)(r:AV)(U':St):AQ
 | .exit _,_,_=>False
 |_,S,U=> ∃a,zav P fn U S=some a/\ z6v P n m U a r U'
def qdh (P:Program)(fn:Func)(n:Nat):AQ
 | .exit _,_,_=>False
 |_,S,U=>(∃a,zav P fn U S=some a)/\ (U.stop=true \/U.out=n)
theorem zmt (hmix:P.follows .mixedOrders=true) {f:FuncId} {fn:Func} {c:Code} {args:List AV} {U:St} {Q:AQ} {X:Cx} {vs:List Value} {R:Ending->World->Prop} {M:Option Gen} (hG:zun P X.w.heap.size M)(hf:P.funcs[f]? =some fn)(hb:fn.body=some c)
 {k0:Nat} (hk0:U.boxes.length=k0) (h:awp (ITP P) P (zdy M) k0 c Q (zaq fn args) U) (hI:Inv (ITP P) U X) (hM:FrM M U X) (hr:zbo (ITP P) X args vs)
 (hQ: ∀e S U' Y,Q e S U'->Rel M X Y->Inv (ITP P) U' Y->FrM M U' Y->(e= .normal \/e= .ret)/\ ∃a,zav P fn U' S=some a/\ ∀v,Rep (ITP P) Y a v->R (.returned v) Y.w):Calls P f vs.toArray X.w R:=by
 refine(callsIn_wide (n:=3)).1 (callsIn_of_wp_marks hf hb trivial ?_ rfl);have hlen:=zu hr;have hreps:znx (ITP P) X (zaq fn args) (vs.toArray++Array.replicate (fn.ntmps-vs.toArray.size) undef):=by
  unfold znx zaq;have e:(vs.toArray++Array.replicate (fn.ntmps-vs.toArray.size) undef).toList=vs++List.replicate (fn.ntmps-args.length) undef:=by simp[hlen]
  rw[e];refine zbq hr (zgk (by simp) fun i a v h1 h2=> ?_);have h1:=List.eq_of_mem_replicate (mem_of_getElem? h1);have h2:=List.eq_of_mem_replicate (mem_of_getElem? h2);subst h1 h2;rw[Rep]
 refine zwb hmix c (M:=M) (B:=X.w.heap.size) hG (zsp P) k0 Q _ U X X {tmps:=vs.toArray++Array.replicate (fn.ntmps-vs.toArray.size) undef,defers:=[]} _ (Nat.le_of_eq (hI.κlen.trans hk0)) ⟨le_refl _,U,hI⟩ h
  ⟨Rel.of (Ext.refl X),hI,hreps,⟨le_refl _,fun _=>⟨le_refl _,[],rfl,List.nodup_nil,by simp⟩,fun h=>absurd rfl h⟩,hM⟩ (.inl (.inl rfl)) ?_
 intro e S U' Y a hq hn;obtain⟨_,Ds,d1,d2,d3⟩:=hn.marks.2.1 rfl;have key:(e= .normal \/e= .ret)/\ LeavesInM Fence.wide 3 P fn a.tmps R a.defers .returning Y.w:=by
  obtain⟨he,_⟩:=hQ e S U' Y hq hn.ext hn.inv hn.frn;refine⟨he,?_⟩;rw[d1];refine zmk (B:=X.w.heap.size) Ds Y.w d2 d3 fun W' hT=> ?_;obtain⟨k1,k2,k3,_,k5⟩:=zme (N:=fun _=>False) (NB:=fun _=>False) (Bm:=X.w.heap.size) hG (le_refl _) (fun _ h=>h.elim) (RelB.of hn.ext) hn.inv hn.frn (zlq M Y) (le_refl _) (zkf hn.inv (zlq M Y) hn.ext.size hT);obtain⟨_,x,hx,hv⟩:=hQ e S U' _ hq (k1.to fun _ h=>h.elim) k2 k3;obtain⟨v,r1,r2⟩:=zoe (P:=P) (fn:=fn) hx (show znx (ITP P) {Y with w:=W'} S a.tmps from zbw (zh P) k5 _ _ hn.reps) k2;exact⟨v,r1,hv v r2⟩
 obtain⟨he,hl⟩:=key;rcases he with rfl|rfl<;>exact hl
theorem zjw (hmix:P.follows .mixedOrders=true) {f:FuncId} {fn:Func} {c:Code} {args:List AV} {r:AV} (hf:P.funcs[f]? =some fn)(hb:fn.body=some c)(he:Ent P f)
    (h:awp (ITP P) P none 0 c (zwg P fn r) (zaq fn args) St.empty):Pure (ITP P) P f args r:=by
  refine⟨he,fun X vs hI hr=>zmt (M:=none) hmix trivial hf hb (U:=St.empty) (k0:=0) rfl h hI trivial hr ?_⟩;intro e S U' Y hq (hE:Ext X Y) hIY _;have hκ:X.κ=[]:=by have:=hI.κlen;simpa[St.empty] using this
  have hl:X.lens=[]:=hI.lens;have hβ:X.β=[]:=by have:=hI.βlen;rw[hl] at this;simpa using this
  have fin : ∀ a,zav P fn U' S=some a->Ends P U' a r-> ∃a,zav P fn U' S=some a/\ ∀v,Rep (ITP P) Y a v->
      ∃v' X',Ending.returned v= .returned v'/\ X'.w=Y.w/\ Ext X X'/\ Inv (ITP P) St.empty X'/\ Rep (ITP P) X' r v':=fun a h1 h2=>by
    refine⟨a,h1,fun v hv=> ?_⟩;obtain⟨F',f1,f2,f3,f4⟩:=h2 Y v hIY hv;refine⟨v,⟨F',[],[],[],Y.w,Y.O,Y.C⟩,rfl,rfl,?_,?_,f4⟩
    . exact { os :=hE.os,tape:=hE.tape,output:=hE.output,size:=hE.size,drawn:=hE.drawn,F:=fun b o h=>f1 b o (hE.F b o h),cell:=hE.cell
              κ:=fun s b hs=>by rw[hκ] at hs;simp at hs
              lens:=fun s L hs=>by rw[hl] at hs;simp at hs
              blk:=fun s b hs=>by rw[hκ] at hs;simp at hs
              szs:=hE.szs
              frame:=hE.frame
              κnew:=fun b hb=>by simp at hb
              βnew:=fun r hr=>by simp at hr
              O:=hE.O
              C:=hE.C
              Fnew:=fun b o h=>(f2 b o h).elim (hE.Fnew b o) fun hm=>by
                rcases hE.κnew b hm with h|h
                . rw[hκ] at h;simp at h
                . exact .inr (.inl h)}
    . exact { lens:=rfl,elems:=rfl,κlen:=rfl,κnd:=fun s s' b h=>by simp at h,box:=fun s b t cs h=>by simp at h,κF:=fun s b t cs h=>by simp at h,βlen:=rfl,βnd:=List.nodup_nil,βκ:=fun r h=>by simp at h
              row:=fun s r L h=>by simp at h
              Ok :=fun b hb=>by
                obtain⟨k1,k2,k3,k4⟩:=hIY.Ok b hb;exact⟨k1,by simp,by simp,fun o hf=>(f2 b o hf).elim (k4 o) fun hm=>absurd hm k2⟩
              Fcell:=f3
              gv:=(zh P).gv _ _ _ _ f1 (fun _ _ _=>rfl) (Szs.refl _) hIY.gv}
  cases e with
  |normal=>obtain⟨a,h1,h2⟩:=hq;exact⟨.inl rfl,fin a h1 h2⟩
  |ret=>obtain⟨a,h1,h2⟩:=hq;exact⟨.inr rfl,fin a h1 h2⟩
  |exit id=>exact hq.elim
theorem qfv (hmix:P.follows .mixedOrders=true) {f:FuncId} {fn:Func} {c:Code} {args:List AV} {U U':St} {r:AV} (hf:P.funcs[f]? =some fn)(hb:fn.body=some c)(he:Ent P f)
 (h:awp (ITP P) P none U.boxes.length c (aendS P fn U.boxes.length U.lens.length r U') (zaq fn args) U):Snd (ITP P) P f args U r U':=by
 refine⟨he,fun X vs hI hr=>zmt (M:=none) hmix trivial hf hb rfl h hI trivial hr ?_⟩;intro e S U1 Y hq (hE:Ext X Y) hIY _;have hκn:=hI.κlen
 have fin: ∀a,zav P fn U1 S=some a->z6v P U.boxes.length U.lens.length U1 a r U'-> ∃a,zav P fn U1 S=some a/\ ∀v,Rep (ITP P) Y a v->
  ∃v' X',Ending.returned v= .returned v'/\ X'.w=Y.w/\ Ext X X'/\ Inv (ITP P) U' X'/\ Rep (ITP P) X' r v':=fun a h1 h2=>⟨a,h1,fun v hv=>by
  obtain⟨X',k1,k2,k3,k4⟩:=h2 X Y v hE hκn (by rw[hI.lens]) hIY hv;exact⟨v,X',rfl,k1,k2,k3,k4⟩⟩
 cases e with
 |normal=>obtain⟨a,h1,h2⟩:=hq;exact⟨.inl rfl,fin a h1 h2⟩
 |ret=>obtain⟨a,h1,h2⟩:=hq;exact⟨.inr rfl,fin a h1 h2⟩
 |exit id=>exact hq.elim
theorem qnu (hmix:P.follows .mixedOrders=true) {g:FuncId} {fn:Func} {c:Code} {caps:List AV} {lb:List Value} {rows:List (List AV)} {F0:Nat->Nat->Prop} {w0:World} {O C} (hf:P.funcs[g]? =some fn)(hb:fn.body=some c)
    (h: ∀G:Gen,G.rows=rows->awp (ITP P) P (some G) 0 c (qdh P fn rows.length) (zaq fn (.yld G.l::caps)) St.empty) (hr:zbo (ITP P) ⟨F0,[],[],[],w0,O,C⟩ caps lb) (hgv:(ITP P).gv F0 w0):IterX P g lb.toArray rows (fun _=>False) F0 w0:=by
  intro l W J Jx s0 hc hz _ hG hF0 hO hC hJ
  have hI:Inv (ITP P) St.empty ⟨F0,[],[],[],W,s0.O,s0.C⟩:=
    { lens:=rfl,elems:=rfl,κlen:=rfl,κnd:=fun s s' b h=>by simp at h,box:=fun s b t cs h=>by simp at h,κF:=fun s b t cs h=>by simp at h,βlen:=rfl,βnd:=List.nodup_nil,βκ:=fun r h=>by simp at h
      row:=fun s r L h=>by simp at h
      Ok:=fun b hb=>⟨hO b hb,by simp,by simp,fun o hf=>(hF0 b o hf).resolve_left (fun h=>h hb)⟩
      Fcell:=fun b o hf=>(hc b o hf).1
      gv:=(zh P).gv _ _ _ _ (fun _ _ h=>h) (fun b o hf=>(hc b o hf).2) hz hgv}
  have hr':zbo (ITP P) ⟨F0,[],[],[],W,s0.O,s0.C⟩ (.yld l::caps) (.func (.yield l) #[] #[]::lb):=
    ⟨_,lb,rfl,rfl,zbw (X:=⟨F0,[],[],[],w0,O,C⟩) (X':=⟨F0,[],[],[],W,s0.O,s0.C⟩) (zh P) ⟨fun _ _ h=>h,fun b o hf=>(hc b o hf).2,fun _ _ h=>h,fun s L h=>by simp at h,fun s b h=>by simp at h,hz⟩ _ _ hr⟩
  have hFr:FrM (some ⟨W.heap.size,F0,l,rows,J,Jx,fun _=>False⟩) St.empty ⟨F0,[],[],[],W,s0.O,s0.C⟩:=
    ⟨s0,fun _=>Iff.rfl,⟨fun _ _=>Iff.rfl,fun b o hc=> .inr ⟨hC b o hc,by simp,by simp⟩⟩,hJ,le_refl _,by simp,by simp,fun b o hf=> .inl hf⟩
  have e:(#[.func (.yield l) #[] #[]]++lb.toArray:Array Value)=(Value.func (.yield l) #[] #[]::lb).toArray:=by simp
  rw[e];refine zmt (M:=some ⟨W.heap.size,F0,l,rows,J,Jx,fun _=>False⟩) (X:=⟨F0,[],[],[],W,s0.O,s0.C⟩) hmix ⟨hG,le_refl _⟩ hf hb (k0:=0) rfl (h _ rfl) hI hFr hr' ?_;intro e S U' Y hq _ _ hF;have fin:(∃a,zav P fn U' S=some a)/\ (U'.stop=true \/U'.out=rows.length)-> ∃a,zav P fn U' S=some a/\ ∀v,Rep (ITP P) Y a v->(∃v',Ending.returned v= .returned v')/\ ∃s,(J rows.length s Y.w \/Jx s Y.w):=fun⟨⟨a,h1⟩,h2⟩=>by
    obtain⟨s,_,_,h3,_⟩:Fr _ U' Y:=hF;refine⟨a,h1,fun v _=>⟨⟨v,rfl⟩,s,?_⟩⟩;by_cases hst:U'.stop=true
    . rw[if_pos hst] at h3;exact .inr h3
    . rw[if_neg hst,h2.resolve_left hst] at h3;exact .inl h3
  cases e with
  |normal=>exact⟨.inl rfl,fin hq⟩
  |ret=>exact⟨.inr rfl,fin hq⟩
  |exit id=>exact hq.elim
mutual
def znz:AV->Bool
 | .raw _=>true
 | .ptr _ _=>true
 | .bsl _ _ _ _ _=>true
 | .top=>true
 | .list _ cs st=>zhu cs&&decide (st≠ .none \/cs=[])&&(match st with| .own _=>false|_=>true)&&cs.isEmpty
 |_=>false
def zhu:List AV->Bool
 |[]=>true
 |a::l=>znz a&&zhu l
end
theorem qoh (hκ:Y.κ=X.κ)(hw:Y.w=X.w): ∀(a:AV) (v:Value),znz a=true->Rep IT X a v->Rep IT Y a v
 | .raw _,_,_,h=>h
 | .ptr s off,v,_,⟨b,h,e⟩=>⟨b,by rw[hκ];exact h,e⟩
 | .bsl s off n sz f,v,_,h=>Bsl.mono (X:=X) (Y:=Y) (fun b h=>by rw[hκ];exact h) hw h
 | .top,_,_,_=>by rw[Rep];trivial
 | .list n cs st,v,hf,⟨a,cap,e,h1,_,h3⟩=>by
  simp only[znz,Bool.and_eq_true,List.isEmpty_iff] at hf;obtain⟨⟨_,hs⟩,rfl⟩:=hf;exact⟨a,cap,e,h1,.inl rfl,by cases st with|none=>trivial|full=>exact h3|own s=>cases hs⟩
 | .agg _,_,h,_=>by simp[znz] at h
 | .tup _,_,h,_=>by simp[znz] at h
 | .iptr _,_,h,_=>by simp[znz] at h
 | .clos _ _,_,h,_=>by simp[znz] at h
 | .iter _,_,h,_=>by simp[znz] at h
 | .yld _,_,h,_=>by simp[znz] at h
 | .bad,_,h,_=>by simp[znz] at h
theorem z3g (hκ:Y.κ=X.κ)(hw:Y.w=X.w): ∀(l:List AV) (vs:List Value),zhu l=true->zbo IT X l vs->zbo IT Y l vs
 |[],_,_,h=>h
 | a::l,vs,hf,⟨v,r,e,h1,h2⟩=>by
  rw[zhu,Bool.and_eq_true] at hf;exact⟨v,r,e,qoh hκ hw a v hf.1 h1,z3g hκ hw l r hf.2 h2⟩
theorem z6n (h:Wk1 n0 S U S' U'):U'.out=U.out/\ U'.stop=U.stop:=by
 rcases h with⟨_,(rfl|⟨n,_,_,_,rfl⟩)⟩|⟨n,fs,js,d,_,_,_,rfl⟩|⟨s,t,cs,_,_,rfl⟩|⟨s,k,t,cs,_,_,rfl⟩|⟨s,t,cs,_,_,rfl⟩<;>exact⟨rfl,rfl⟩
theorem wk_out (h:Wk n0 S U S' U'):U'.out=U.out/\ U'.stop=U.stop:=by
 induction h with
 |one h=>exact z6n h
 |step h _ ih=>exact⟨ih.1.trans (z6n h).1,ih.2.trans (z6n h).2⟩
def aendGS (P:Program)(fn:Func)(n n0:Nat)(bs':List (TypeId×List AV)):AQ
 | .exit _,_,_=>False
 |_,S,U=>(∃a,zav P fn U S=some a)/\ (U.stop=true \/(U.out=n/\ ∃U',Wk n0 [] U [] U'/\ U'.boxes=bs'/\ (bs'.all fun b=>zhu b.2)=true))
theorem qnp (hmix:P.follows .mixedOrders=true) {g:FuncId} {fn:Func} {c:Code} {caps:List AV} {rows:List (List AV)} (hne:rows≠errRows)(hf:P.funcs[g]? =some fn)(hb:fn.body=some c)(he:Ent P g)
 (h: ∀G:Gen,G.rows=rows->awp (ITP P) P (some G) 0 c (qdh P fn rows.length) (zaq fn (.yld G.l::stripL caps)) St.empty) (hok:zaf 0 caps=true) {X:Cx} {v:Value} (hgv:(ITP P).gv X.F X.w) (hv:Rep (ITP P) X (.clos g caps) v):Rep (ITP P) X (.iter rows) v:=by
 obtain⟨vs,rfl,hr⟩:=hv;exact .inr ⟨hne,g,vs.toArray,X.F,rfl,he,fun _ _ h=>h,qnu hmix hf hb h (O:=X.O) (C:=X.C) (zft (X:=X) (Y:=⟨X.F,[],[],[],X.w,X.O,X.C⟩) (zh P) rfl rfl caps vs (.inl hok) hr) hgv⟩
theorem qft (hmix:P.follows .mixedOrders=true) {U:St} {a:AV} {g:FuncId} {fn:Func} {c:Code} {caps:List AV} {rows:List (List AV)} (hne:rows≠errRows)(h0:Ends P U a (.clos g caps))(hf:P.funcs[g]? =some fn)(hb:fn.body=some c)(he:Ent P g)
 (h: ∀G:Gen,G.rows=rows->awp (ITP P) P (some G) 0 c (qdh P fn rows.length) (zaq fn (.yld G.l::stripL caps)) St.empty) (hok:zaf 0 caps=true):Ends P U a (.iter rows):=fun Y v hI hv=>by
 obtain⟨F',f1,f2,f3,f4⟩:=h0 Y v hI hv;exact⟨F',f1,f2,f3,qnp hmix hne hf hb he h hok ((zh P).gv _ _ _ _ f1 (fun _ _ _=>rfl) (Szs.refl _) hI.gv) f4⟩
theorem qmy {a r:AV} (n:Nat)(h:zhf (frz U.boxes n) a=r):Ends P U a r:=fun Y v hI hv=>by
 subst h;refine⟨qkt Y,fun _ _ h=> .inl h,fun b o h=>h.imp id And.left,fun b o h=> ?_,zru (Y:=⟨qkt Y,[],[],[],Y.w,Y.O,Y.C⟩) (zh P) (fun b o h=>Or.inl h) rfl (qjh (zh P) hI n) a v hv⟩;rcases h with h|⟨_,h⟩
 ·exact hI.Fcell b o h
 ·exact h
def quiet (o:Oper):Bool:=
 match o.op with
 | .alloc _| .box _ _| .store _ _ _=>false
 | .call c=>match c.callee with| .builtin .append=>false|_=>true
 |_=>true
abbrev CallP:=FuncId->List AV->Option AV
abbrev CallS:=FuncId->List AV->St->Option (AV×St)
abbrev Run:=Code->Nat->List AV->St->Option (AExit×List AV×St)
def zxe (P:Program)(cp:CallP)(cs:CallS)(o:Oper)(S:List AV)(U:St):Option (AV×St):=
 match zcx S o with
 |some (f,args)=>if zaf 0 args=true then(match cp f (stripL args) with|some r=>some (r,U)|none=>none) else(match cs f args U with|some (r,U')=>if U'.out=U.out/\ U'.stop=U.stop then some (r,U') else none|none=>none)
 | none=>match zdh S o with
  |some _=>none
  | none=>match aop P (zbz S) U o with
   |some r=>some r
   |none=>zwa P (zbz S) U o
def zzb (P:Program)(cp:CallP)(cs:CallS)(ops:Array Oper):List Oper->List AV->St->Option (List AV×St)
 |[],S,U=>some (S,U)
 | o ::l,S,U=>match o.guard with
  | none=>match zxe P cp cs o S U with
   |some (a,U')=>zzb P cp cs ops l (zah S o.dst a) U'
   |none=>none
  | some (k,b)=>match zea ops S k with
   | some c=>if c=some b then(match zxe P cp cs o S U with
    |some (a,U')=>zzb P cp cs ops l (zah S o.dst a) U'
    |none=>none) else zzb P cp cs ops l (zah S o.dst (.raw undef)) U
   |none=>none
def zqu (P:Program)(cp:CallP)(o:Oper)(S:List AV)(U:St):Option AV:=
 match zcx S o with
 |some (f,args)=>if zaf 0 args=true then cp f (stripL args) else none
 |none=>qop P (zbz S) U o
def zsk (P:Program)(cp:CallP)(ops:Array Oper)(size:Nat)(U:St):List Oper->List AV->Option (List AV)
 |[],S=>some S
 | o ::l,S=>if(o.dst.all fun d=>decide (d<size))=true then(match o.guard with
  | none=>match zqu P cp o S U with
   |some a=>zsk P cp ops size U l (zah S o.dst a)
   |none=>none
  | some (k,b)=>match zea ops S k with
   | some c=>if c=some b then(match zqu P cp o S U with
    |some a=>zsk P cp ops size U l (zah S o.dst a)
    |none=>none) else zsk P cp ops size U l (zah S o.dst (.raw undef))
   |none=>none) else none
def zly (P:Program)(cp:CallP)(ops:Array Oper)(size:Nat)(U:St):List Oper->List AV->Pend->Option (List AV×Pend)
 |[],S,ps=>some (S,ps)
 | o ::l,S,ps=>if(o.dst.all fun d=>decide (d<size))=true/\ (ps.all fun p=>o.dst !=some p.1)=true then(match o.guard with
  | none=>match zqu P cp o S U with
   |some a=>zly P cp ops size U l (zah S o.dst a) ps
   | none=>match o.op,o.dst with
    | .alloc t,some d=>match zio P t with
     |some z=>zly P cp ops size U l (S.set d .top) (ps++[(d,t,z)])
     |none=>none
    |_,_=>none
  | some (k,b)=>match zea ops S k with
   | some c=>if c=some b then(match zqu P cp o S U with
    |some a=>zly P cp ops size U l (zah S o.dst a) ps
    |none=>none) else zly P cp ops size U l (zah S o.dst (.raw undef)) ps
   |none=>none) else none
def quietB (o:Oper):Bool:=match o.op with| .alloc _=>true|_=>quiet o
def findB (ops:Array Oper)(size:Nat):Option Nat:=
 let n:=(ops.toList.takeWhile quietB).length
 if chk ops size n=true then some n else none
def zuv (Ea:List AV->St->Option (AExit×List AV×St))(Eb:List AV->St->Option (AExit×List AV×St))(ps:Array Tmp)(S0:List AV)(n:Nat):List (List AV)->St->Option (AExit×List AV×St)
 |[],U=>some (.normal,S0,U)
 | x ::xs,U=>match Ea (zlz S0 ps x) U with
  | some (.normal,S1,U1)=>(match Eb S1 U1 with
   | some (e,S2,U2)=>if z0u n U2=true then(match e with
    | .normal=>zuv Ea Eb ps S0 n xs (zfj n U2)
    |e=>some (e,S0,zfj n U2)) else none
   |none=>none)
  |_=>none
def zlo (P:Program)(Ω:CallP)(E:Run)(f:FuncId)(args:List AV):Option AV:=
 match Ω f args with
 |some r=>some r
 | none=>match P.funcs[f]? with
  | some fn=>match fn.body with
   | some c=>if(zaq fn args).length=fn.ntmps then(match E c fn.ntmps (zaq fn args) St.empty with
    |some (.exit _,_,_)=>none
    | some (_,S,U)=>match zav P fn U S with
     |some a=>if zbp 0 a=true then some (zcw a) else none
     |none=>none
    |none=>none) else none
   |none=>none
  |none=>none
def zsh (P:Program)(Ψ:CallS)(E:Run)(f:FuncId)(args:List AV)(U:St):Option (AV×St):=
 match Ψ f args U with
 |some r=>some r
 |none=>match P.funcs[f]? with
 | some fn=>match fn.body with
  | some c=>if(zaq fn args).length=fn.ntmps then(match E c fn.ntmps (zaq fn args) U with
   |some (.exit _,_,_)=>none
   | some (_,S,U1)=>match zav P fn U1 S with
    |some a=>if zbp U.boxes.length a=true/\ z0u U.boxes.length U1=true then some (a,zfj U.boxes.length U1) else none
    |none=>none
   |none=>none) else none
  |none=>none
 |none=>none
def qpx (P:Program)(cp:CallP)(cs:CallS)(ops:Array Oper)(sz:Nat)(S:List AV)(U:St)(n:Nat):Option (List AV×St):=
 if chk ops sz n=true then(match zsk P cp ops sz U (ops.toList.take n) S with
  |some S1=>zzb P cp cs ops (ops.toList.drop n) S1 U
  |none=>none) else none
def qjf (P:Program)(cp:CallP)(cs:CallS)(ops:Array Oper)(sz:Nat)(S:List AV)(U:St):Option (List AV×St):=
 (List.range ((ops.toList.takeWhile quiet).length+1)).reverse.findSome? (qpx P cp cs ops sz S U)
variable {IT:IterP} {S:List AV} {U:St} {ops:Array Oper} {n:Nat}
theorem znq {P:Program} {o:Oper} {K K':AV->Prop} (h: ∀a,K a->K' a)(k:zjb IT P o S U K):zjb IT P o S U K':=by
 unfold zjb at k⊢;split
 ·rename_i hc;rw[hc] at k;obtain⟨r,k1,k2,k3⟩:=k;exact⟨r,k1,k2,h _ k3⟩
 ·rename_i hc;rw[hc] at k;obtain⟨a,k1,k2⟩:=k;exact⟨a,k1,h _ k2⟩
theorem z0r {P:Program} {K:List AV->Prop} {K':List AV->Pend->Prop} (h: ∀S,K S->K' S []): ∀(l:List Oper) (S:List AV),zed IT P ops U K l S->zfb IT P ops U K' l S []
 |[],S,k=>h S k
 | o::l,S,k=>by
  simp only[zed] at k;simp only[zfb];refine⟨k.1,rfl,.inr ?_⟩;have k:=k.2;split
  ·rename_i hg;rw[hg] at k;exact znq (fun a=>z0r h l _) k
  ·rename_i kb b hg;rw[hg] at k;obtain⟨c,k1,k2⟩:=k;refine⟨c,k1,?_⟩;split
   ·rename_i hc;rw[if_pos hc] at k2;exact znq (fun a=>z0r h l _) k2
   ·rename_i hc;rw[if_neg hc] at k2;exact z0r h l _ k2
theorem qqk {P:Program} {W:Owed} {Q:List AV->St->Prop} (n:Nat)(h1:chk ops S.length n=true)(h2:zvn ops.toList=true)(h3:zed IT P ops U (fun S'=>zcb IT P W ops Q (ops.toList.drop n) S' U) (ops.toList.take n) S):qhn IT P W ops Q S U:=
 ⟨n,h1,h2,z0r (fun S' h=>by
  have e:znw U []=U:=by simp[znw]
  show zcb IT P W ops Q (ops.toList.drop n) S' (znw U []);rw[e];exact h) _ _ h3⟩
section
variable {P:Program} {cp:CallP} {cs:CallS}
def qkq (P:Program)(cp:CallP):Prop:= ∀f args r,cp f args=some r->Pure (ITP P) P f args r
def qks (P:Program)(cs:CallS):Prop:= ∀f args U r U',cs f args U=some (r,U')->Snd (ITP P) P f args U r U'
theorem zjp (hcp:qkq P cp)(hcs:qks P cs) {o:Oper} {S:List AV} {U U':St} {a:AV} (h:zxe P cp cs o S U=some (a,U')) {K:AV->St->Prop} (hK:K a U'):zfd (ITP P) P none o S U K:=by
 unfold zxe at h;unfold zfd;split at h
 ·rename_i f args hc;rw[hc];simp only;split at h
  ·rename_i hok;split at h<;>cases h
   rename_i hr;exact⟨a,U,.inr (.inl ⟨rfl,hok,hcp _ _ _ hr⟩),hK⟩
  ·split at h<;>try cases h
   rename_i hs;split at h<;>cases h
   rename_i hos;exact⟨a,U',.inl ⟨hcs _ _ _ _ _ hs,hos⟩,hK⟩
 ·rename_i hc;rw[hc];simp only;split at h<;>try cases h
  rename_i hy;rw[hy];split at h
  ·rename_i r hr;cases h;exact .inl ⟨a,U',.inl hr,hK⟩
  ·exact .inl ⟨a,U',.inr (.inr (.inl h)),hK⟩
theorem zin (hcp:qkq P cp)(hcs:qks P cs) {ops:Array Oper}: ∀(l:List Oper) (S:List AV) (U:St) (S':List AV) (U':St),zzb P cp cs ops l S U=some (S',U')->S'.length=S.length/\ ∀Q:List AV->St->Prop,Q S' U'->zcb (ITP P) P none ops Q l S U
 |[],S,U,S',U',h=>by simp only[zzb,Option.some.injEq,Prod.mk.injEq] at h;obtain⟨rfl,rfl⟩:=h;exact⟨rfl,fun Q h=>h⟩
 | o ::l,S,U,S',U',h=>by
  simp only[zzb] at h;simp only[zcb];cases hg:o.guard with
  | none=>
   rw[hg] at h;simp only at h⊢;split at h<;>try cases h
   rename_i a U1 hs;obtain⟨h1,h2⟩:=zin hcp hcs l _ _ _ _ h;exact⟨by rw[h1,zbh],fun Q hQ=>zjp hcp hcs hs (h2 Q hQ)⟩
  | some kb=>
   obtain⟨k,b⟩:=kb;rw[hg] at h;simp only at h⊢;split at h<;>try cases h
   rename_i c hc;split at h
   ·rename_i e;split at h<;>try cases h
    rename_i a U1 hs;obtain⟨h1,h2⟩:=zin hcp hcs l _ _ _ _ h;exact⟨by rw[h1,zbh],fun Q hQ=>⟨c,hc,by rw[if_pos e];exact zjp hcp hcs hs (h2 Q hQ)⟩⟩
   ·rename_i e;obtain⟨h1,h2⟩:=zin hcp hcs l _ _ _ _ h;exact⟨by rw[h1,zbh],fun Q hQ=>⟨c,hc,by rw[if_neg e];exact h2 Q hQ⟩⟩
theorem zhx (hcp:qkq P cp) {o:Oper} {S:List AV} {U:St} {a:AV} (h:zqu P cp o S U=some a) {K:AV->Prop} (hK:K a):zjb (ITP P) P o S U K:=by
 unfold zqu at h;unfold zjb;split at h
 ·rename_i f args hc;rw[hc];simp only;split at h<;>try cases h
  rename_i hok;exact⟨a,hok,hcp _ _ _ h,hK⟩
 ·rename_i hc;rw[hc];exact⟨a,.inl h,hK⟩
theorem zje (hcp:qkq P cp) {ops:Array Oper} {size:Nat} {U:St}: ∀(l:List Oper) (S S':List AV),zsk P cp ops size U l S=some S'->S.length=size->S'.length=size/\ ∀K:List AV->Prop,K S'->zed (ITP P) P ops U K l S
 |[],S,S',h,hl=>by simp only[zsk,Option.some.injEq] at h;subst h;exact⟨hl,fun K h=>h⟩
 | o ::l,S,S',h,hl=>by
  simp only[zsk] at h;simp only[zed];split at h<;>try cases h
  rename_i hd;cases hg:o.guard with
  | none=>
   rw[hg] at h;simp only at h⊢;split at h<;>try cases h
   rename_i a hs;obtain⟨h1,h2⟩:=zje hcp l _ _ h (by rw[zbh];exact hl);exact⟨h1,fun K hK=>⟨by rw[hl];exact hd,zhx hcp hs (h2 K hK)⟩⟩
  | some kb=>
   obtain⟨k,b⟩:=kb;rw[hg] at h;simp only at h⊢;split at h<;>try cases h
   rename_i c hc;split at h
   ·rename_i e;split at h<;>try cases h
    rename_i a hs;obtain⟨h1,h2⟩:=zje hcp l _ _ h (by rw[zbh];exact hl);exact⟨h1,fun K hK=>⟨by rw[hl];exact hd,c,hc,by rw[if_pos e];exact zhx hcp hs (h2 K hK)⟩⟩
   ·rename_i e;obtain⟨h1,h2⟩:=zje hcp l _ _ h (by rw[zbh];exact hl);exact⟨h1,fun K hK=>⟨by rw[hl];exact hd,c,hc,by rw[if_neg e];exact h2 K hK⟩⟩
theorem zgm (hcp:qkq P cp) {ops:Array Oper} {size:Nat} {U:St}: ∀(l:List Oper) (S S':List AV) (ps ps':Pend),zly P cp ops size U l S ps=some (S',ps')->S.length=size->S'.length=size/\ ∀K:List AV->Pend->Prop,K S' ps'->zfb (ITP P) P ops U K l S ps
 |[],S,S',ps,ps',h,hl=>by simp only[zly,Option.some.injEq,Prod.mk.injEq] at h;obtain⟨rfl,rfl⟩:=h;exact⟨hl,fun K h=>h⟩
 | o ::l,S,S',ps,ps',h,hl=>by
  simp only[zly] at h;simp only[zfb];split at h<;>try cases h
  rename_i hd;cases hg:o.guard with
  | none=>
   rw[hg] at h;simp only at h⊢;split at h
   ·rename_i a hs;obtain⟨h1,h2⟩:=zgm hcp l _ _ _ _ h (by rw[zbh];exact hl);exact⟨h1,fun K hK=>⟨by rw[hl];exact hd.1,hd.2,.inr (zhx hcp hs (h2 K hK))⟩⟩
   ·split at h<;>try cases h
    rename_i t d ho hdst;split at h<;>try cases h
    rename_i z hz;obtain⟨h1,h2⟩:=zgm hcp l _ _ _ _ h (by rw[List.length_set];exact hl);exact⟨h1,fun K hK=>⟨by rw[hl];exact hd.1,hd.2,.inl ⟨trivial,t,d,z,ho,hdst,hz,h2 K hK⟩⟩⟩
  | some kb=>
   obtain⟨k,b⟩:=kb;rw[hg] at h;simp only at h⊢;split at h<;>try cases h
   rename_i c hc;split at h
   ·rename_i e;split at h<;>try cases h
    rename_i a hs;obtain⟨h1,h2⟩:=zgm hcp l _ _ _ _ h (by rw[zbh];exact hl);exact⟨h1,fun K hK=>⟨by rw[hl];exact hd.1,hd.2,.inr ⟨c,hc,by rw[if_pos e];exact zhx hcp hs (h2 K hK)⟩⟩⟩
   ·rename_i e;obtain⟨h1,h2⟩:=zgm hcp l _ _ _ _ h (by rw[zbh];exact hl);exact⟨h1,fun K hK=>⟨by rw[hl];exact hd.1,hd.2,.inr ⟨c,hc,by rw[if_neg e];exact h2 K hK⟩⟩⟩
theorem zrw: ∀(ps:Pend) (n:Nat) (S:List AV),(zor n ps S).length=S.length
 |[],n,S=>rfl
 |p::ps,n,S=>by rw[zor,zrw ps,List.length_set]
theorem z1e (S:List AV)(ps:Array Tmp)(x:List AV):(zlz S ps x).length=S.length:=by
 unfold zlz;generalize ps.toList.zip x=l
 induction l generalizing S with
 |nil=>rfl
 |cons p l ih=>rw[List.foldl_cons,ih];simp
theorem zpw {asg body:Code} {Ea Eb:List AV->St->Option (AExit×List AV×St)} {ps:Array Tmp} {S0:List AV}
 (ha: ∀S U e S' U',S.length=S0.length->Ea S U=some (e,S',U')->S'.length=S0.length/\ ∀(k:Nat) (Q:AQ),Q e S' U'->awp (ITP P) P none k asg Q S U)
 (hb: ∀S U e S' U',S.length=S0.length->Eb S U=some (e,S',U')-> ∀(k:Nat) (Q:AQ),Q e S' U'->awp (ITP P) P none k body Q S U):
 ∀(xs:List (List AV)) (U:St) (e:AExit) (S':List AV) (U':St),zuv Ea Eb ps S0 n xs U=some (e,S',U')->S'=S0/\ ∀Q:AQ,Q e S' U'->zfu (fun k=>awp (ITP P) P none k asg) (fun k=>awp (ITP P) P none k body) ps S0 Q n xs U
 |[],U,e,S',U',h=>by simp only[zuv,Option.some.injEq,Prod.mk.injEq] at h;obtain⟨rfl,rfl,rfl⟩:=h;exact⟨rfl,fun Q h=>h⟩
 | x::xs,U,e,S',U',h=>by
  simp only[zuv] at h;split at h<;>try cases h
  rename_i S1 U1 ha1;split at h<;>try cases h
  rename_i e2 S2 U2 hb2;split at h<;>try cases h
  rename_i hok2;obtain⟨a1,a3⟩:=ha _ _ _ _ _ (z1e _ _ _) ha1;simp only[zfu];cases e2 with
  | normal=>
   simp only at h;obtain⟨h1,h2⟩:=zpw ha hb xs _ _ _ _ h;exact⟨h1,fun Q hQ=>a3 _ _ (hb _ _ _ _ _ a1 hb2 _ _ ⟨hok2,h2 Q hQ⟩)⟩
  | exit id=>
   simp only[Option.some.injEq,Prod.mk.injEq] at h;obtain⟨rfl,rfl,rfl⟩:=h;exact⟨rfl,fun Q hQ=>a3 _ _ (hb _ _ _ _ _ a1 hb2 _ _ ⟨hok2,hQ⟩)⟩
  | ret=>
   simp only[Option.some.injEq,Prod.mk.injEq] at h;obtain⟨rfl,rfl,rfl⟩:=h;exact⟨rfl,fun Q hQ=>a3 _ _ (hb _ _ _ _ _ a1 hb2 _ _ ⟨hok2,hQ⟩)⟩
end
structure Good (P:Program)(Ω:CallP)(Ψ:CallS):Prop where
 mix:P.follows .mixedOrders=true
 ent: ∀(f:Nat) fn,P.funcs[f]? =some fn->fn.body.isSome=true->Ent P f
 oracle:qkq P Ω
 oracleS:qks P Ψ
def awpT (P:Program)(c:Code)(Q:AQ)(S:List AV)(U:St):Prop:= ∀k,awp (ITP P) P none k c Q S U
theorem zdq {P:Program} {c:Code} {Q:AQ} {k:Nat} (h:awpT P c Q S U):awp (ITP P) P none k c Q S U:=h k
def EvOk (P:Program)(E:Run):Prop:= ∀c sz S U e S' U',E c sz S U=some (e,S',U')->S.length=sz->S'.length=sz/\ ∀Q:AQ,Q e S' U'->awpT P c Q S U
theorem zuh {P:Program} {Ω:CallP} {Ψ:CallS} (hG:Good P Ω Ψ) {E:Run} (hE:EvOk P E):qkq P (zlo P Ω E):=by
 intro f args r h;unfold zlo at h;split at h
 ·rename_i r' ho;cases h;exact hG.oracle _ _ _ ho
 ·split at h<;>try cases h
  rename_i fn hf;split at h<;>try cases h
  rename_i c hb;split at h<;>try cases h
  rename_i hl;have fin: ∀e S U,(e= .normal \/e= .ret)->E c fn.ntmps (zaq fn args) St.empty=some (e,S,U)->(match zav P fn U S with|some a=>if zbp 0 a=true then some (zcw a) else none|none=>none)=some r->Pure (ITP P) P f args r:=fun e S U he h1 h2=>by
   split at h2<;>try cases h2
   rename_i a ha;split at h2<;>cases h2
   rename_i hok;obtain⟨_,h3⟩:=hE _ _ _ _ _ _ _ h1 hl;refine zjw hG.mix hf hb (hG.ent f fn hf (by rw[hb];rfl)) (zdq (h3 _ ?_));rcases he with rfl|rfl<;>exact⟨a,ha,zws hok rfl⟩
  split at h
  ·cases h
  ·rename_i e S U hne he;refine fin e S U ?_ he h;cases e with
   |normal=>exact .inl rfl
   |ret=>exact .inr rfl
   |exit id=>exact absurd rfl (hne id)
  ·cases h
theorem z1s {P:Program} {Ω:CallP} {Ψ:CallS} (hG:Good P Ω Ψ) {E:Run} (hE:EvOk P E):qks P (zsh P Ψ E):=by
 intro f args U r U' h;unfold zsh at h;split at h
 ·rename_i r0 hr0;cases h;exact hG.oracleS _ _ _ _ _ hr0
 split at h<;>try cases h
 rename_i fn hf;split at h<;>try cases h
 rename_i c hb;split at h<;>try cases h
 rename_i hl;have fin: ∀e S U1,(e= .normal \/e= .ret)->E c fn.ntmps (zaq fn args) U=some (e,S,U1)->(match zav P fn U1 S with|some a=>if zbp U.boxes.length a=true/\ z0u U.boxes.length U1=true then some (a,zfj U.boxes.length U1) else none|none=>none)=some (r,U')->Snd (ITP P) P f args U r U':=fun e S U1 he h1 h2=>by
  split at h2<;>try cases h2
  rename_i a ha;split at h2<;>cases h2
  rename_i hok;obtain⟨_,h3⟩:=hE _ _ _ _ _ _ _ h1 hl;refine qfv hG.mix hf hb (hG.ent f fn hf (by rw[hb];rfl)) (zdq (h3 _ ?_));rcases he with rfl|rfl<;>exact⟨r,ha,qir hok.1 hok.2 rfl rfl⟩
 split at h
 ·cases h
 ·rename_i e S U1 hne he;refine fin e S U1 ?_ he h;cases e with
  |normal=>exact .inl rfl
  |ret=>exact .inr rfl
  |exit id=>exact absurd rfl (hne id)
 ·cases h
theorem qlk {size:Nat} (h:findB ops size=some n):chk ops size n=true:=by
 unfold findB at h;simp only at h;split at h
 ·rename_i hc;cases h;exact hc
 ·cases h
theorem z2j {P:Program} {cp:CallP} {cs:CallS} {sz:Nat} {r:List AV×St} (h:qjf P cp cs ops sz S U=some r):
 ∃n,chk ops sz n=true/\ ∃S1,zsk P cp ops sz U (ops.toList.take n) S=some S1/\ zzb P cp cs ops (ops.toList.drop n) S1 U=some r:=by
 obtain⟨n,_,h⟩:=List.exists_of_findSome?_eq_some h;unfold qpx at h;split at h<;>try cases h
 rename_i hc;split at h<;>try cases h
 rename_i S1 hh;exact⟨n,hc,S1,hh,h⟩
variable {K K' Q Q':List AV->St->Prop} {o:Oper} {S S':List AV} {U U' U'':St} {ops:Array Oper} {n0:Nat} {y:Code} {c:Operand}
section
variable {IT:IterP} {P:Program} {W:Owed} {k0:Nat}
theorem zrr {Q Q':AQ} (hK: ∀S U,K S U->K' S U)(h: ∀e S U,Q e S U->Q' e S U): ∀e S U,zue K Q e S U->zue K' Q' e S U
 | .normal,S,U,hq=>hK S U hq
 | .exit _,S,U,hq=>h _ S U hq
 | .ret,S,U,hq=>h _ S U hq
theorem zng {K K':AV->St->Prop} (h: ∀a U,K a U->K' a U)(k:zfd IT P W o S U K):zfd IT P W o S U K':=by
 unfold zfd at k⊢;split
 ·rename_i hc;rw[hc] at k;obtain⟨r,U',k1,k2⟩:=k;exact⟨r,U',k1,h _ _ k2⟩
 ·rename_i hc;rw[hc] at k;simp only at k;split
  ·rename_i hy;rw[hy] at k;obtain⟨G,row,k0,k1,k2,k3,k4,k5,k6,k7,k8⟩:=k;exact⟨G,row,k0,k1,k2,k3,k4,k5,k6,h _ _ k7,h _ _ k8⟩
  ·rename_i hy;rw[hy] at k;rcases k with⟨a,U',k1,k2⟩|⟨n,neg,k1,k2,k3⟩
   ·exact .inl ⟨a,U',k1,h _ _ k2⟩
   ·exact .inr ⟨n,neg,k1,fun e=>h _ _ (k2 e),h _ _ k3⟩
theorem zmf (h: ∀S U,Q S U->Q' S U): ∀(l:List Oper) (S:List AV) (U:St),zcb IT P W ops Q l S U->zcb IT P W ops Q' l S U
 |[],S,U,k=>h S U k
 | o::l,S,U,k=>by
  simp only[zcb] at k⊢;split
  ·rename_i hg;rw[hg] at k;exact zng (fun a U'=>zmf h l _ _) k
  ·rename_i kb b hg;rw[hg] at k;obtain⟨c,k1,k2⟩:=k;refine⟨c,k1,?_⟩;split
   ·rename_i hc;rw[if_pos hc] at k2;exact zng (fun a U'=>zmf h l _ _) k2
   ·rename_i hc;rw[if_neg hc] at k2;exact zmf h l _ _ k2
theorem zhc (h: ∀S U,Q S U->Q' S U): ∀(k:Nat) (listed:Array Bool) (S:List AV) (U:St),zpq IT P W ops Q k listed S U->zpq IT P W ops Q' k listed S U
 |0,_,S,U,k=>⟨k.1,h S U k.2⟩
 | n +1,listed,S,U,k=>by
  refine⟨fun he=>h _ _ (k.1 he),fun i hi=> ?_⟩;have k:=k.2 i hi;unfold zpm at k⊢;cases ho:ops[i]? with
  |none=>rw[ho] at k;exact zhc h n _ _ _ k
  | some o=>
   rw[ho] at k;simp only at k⊢;split
   ·rename_i hg;rw[hg] at k;exact zng (fun a U'=>zhc h n _ _ _) k
   ·rename_i kb b hg;rw[hg] at k;obtain⟨c,k1,k2⟩:=k;refine⟨c,k1,?_⟩;split
    ·rename_i hc;rw[if_pos hc] at k2;exact zng (fun a U'=>zhc h n _ _ _) k2
    ·rename_i hc;rw[if_neg hc] at k2;exact zhc h n _ _ _ k2
theorem ziv {K K':List AV->Pend->Prop} (h: ∀S ps,K S ps->K' S ps): ∀(l:List Oper) (S:List AV) (ps:Pend),zfb IT P ops U K l S ps->zfb IT P ops U K' l S ps
 |[],S,ps,k=>h S ps k
 | o ::l,S,ps,k=>by
  simp only[zfb] at k⊢;refine⟨k.1,k.2.1,?_⟩;rcases k.2.2 with⟨hg,t,d,z,k1,k2,k3,k4⟩|k
  ·exact .inl ⟨hg,t,d,z,k1,k2,k3,ziv h l _ _ k4⟩
  ·right
   split
   ·rename_i hg;rw[hg] at k;exact znq (fun a=>ziv h l _ _) k
   ·rename_i kb b hg;rw[hg] at k;obtain⟨c,k1,k2⟩:=k;refine⟨c,k1,?_⟩;split
    ·rename_i hc;rw[if_pos hc] at k2;exact znq (fun a=>ziv h l _ _) k2
    ·rename_i hc;rw[if_neg hc] at k2;exact ziv h l _ _ k2
def WMono (F:AQ->List AV->St->Prop):Prop:= ∀ {Q Q':AQ},(∀e S U,Q e S U->Q' e S U)-> ∀S U,F Q S U->F Q' S U
theorem zsi {F:AQ->List AV->St->Prop} (hF:WMono F) {Q Q':AQ} (h: ∀e S U,Q e S U->Q' e S U): ∀(m:Nat) (S:List AV) (U:St),zrt F Q n0 m S U->zrt F Q' n0 m S U
 |0,S,U,k=>k
 |m+1,S,U,⟨S',U',k1,k2⟩=>⟨S',U',k1,hF (zrr (zsi hF h m) h) _ _ k2⟩
theorem zoo {Fa Fb:Nat->AQ->List AV->St->Prop} {ps:Array Tmp} (hFa: ∀k,WMono (Fa k))(hFb: ∀k,WMono (Fb k)) {Q Q':AQ} (h: ∀e S U,Q e S U->Q' e S U): ∀(xs:List (List AV)) (U:St),zfu Fa Fb ps S Q n0 xs U->zfu Fa Fb ps S Q' n0 xs U
 |[],U,k=>h _ _ _ k
 | x::xs,U,k=>by
  simp only[zfu] at k⊢;refine hFa n0 ?_ _ _ k;intro e S1 U1 hq;cases e with
  | normal=>
   refine hFb _ ?_ _ _ hq;intro e2 S2 U2 hq2;cases e2 with
   |normal=>exact⟨hq2.1,zoo hFa hFb h xs _ hq2.2⟩
   |exit id=>exact⟨hq2.1,h _ _ _ hq2.2⟩
   |ret=>exact⟨hq2.1,h _ _ _ hq2.2⟩
  |exit id=>exact hq
  |ret=>exact hq
theorem z1l {m0 k0:Nat} (h: ∀S U,K S U->K' S U):qdc m0 k0 K S U->qdc m0 k0 K' S U:=
 Or.imp (h _ _) fun⟨m,n,fs,js,d,S',h1,h2,h3,h4,h5⟩=>⟨m,n,fs,js,d,S',h1,h2,h3,h4,h _ _ h5⟩
theorem zcl {k0:Nat}: ∀(c:Code) {Q Q':AQ},(∀e S U,Q e S U->Q' e S U)-> ∀(S:List AV) (U:St),awp IT P W k0 c Q S U->awp IT P W k0 c Q' S U
 | .skip,Q,Q',h,S,U,k=>h _ S U k
 | .seq x y,Q,Q',h,S,U,.inl k=> .inl (zcl x (zrr (fun S U ⟨S',U',k1,k2⟩=>⟨S',U',k1,zcl y h _ _ k2⟩) h) S U k)
 | .seq x y,Q,Q',h,S,U,.inr ⟨hW,S',U',k1,k2⟩=> .inr ⟨hW,S',U',k1,zcl y h _ _ k2⟩
 | .cond c x y,Q,Q',h,S,U,⟨t,k1,k2⟩=>⟨t,k1,by
  split
  ·rename_i ht;rw[if_pos ht] at k2;exact zcl x h _ _ k2
  ·rename_i ht;rw[if_neg ht] at k2;exact zcl y h _ _ k2⟩
 | .block id x,Q,Q',h,S,U,.inr ⟨hW,S',U',k1,k2⟩=> .inr ⟨hW,S',U',k1,h .normal _ _ k2⟩
 | .block id x,Q,Q',h,S,U,.inl k=> .inl<|zcl x (fun e S U hq=>by
  cases e with
  |normal=>exact z1l (h .normal) hq
  |ret=>exact h _ _ _ hq
  | exit j=>
   simp only[zjx] at hq⊢;split
   ·rename_i hj;rw[if_pos hj] at hq;exact z1l (h .normal) hq
   ·rename_i hj;rw[if_neg hj] at hq;exact h _ _ _ hq) S U k
 | .loop x,Q,Q',h,S,U,⟨m,k⟩=>⟨m,zsi (fun hq=>zcl x hq) h m S U k⟩
 | .exit id,Q,Q',h,S,U,k=>h _ S U k
 | .ret,Q,Q',h,S,U,k=>h _ S U k
 | .region _ ops false,Q,Q',h,S,U,k=>zmf (h .normal) _ _ _ k
 | .region _ ops true,Q,Q',h,S,U,.inl k=>k.elim
 | .region _ ops true,Q,Q',h,S,U,.inr (.inl ⟨n,k1,k2,k3⟩)=> .inr (.inl ⟨n,k1,k2,ziv (fun S' ps=>zmf (h .normal) _ _ _) _ _ _ k3⟩)
 | .region _ ops true,Q,Q',h,S,U,.inr (.inr (.inl k))=> .inr (.inr (.inl (zhc (h .normal) _ _ _ _ k)))
 | .region _ ops true,Q,Q',h,S,U,.inr (.inr (.inr (.inl ⟨sg,vs,E,k1,k2,k3,k4,k5⟩)))=> .inr (.inr (.inr (.inl ⟨sg,vs,E,k1,k2,k3,k4,h .normal _ _ k5⟩)))
 | .region _ ops true,Q,Q',h,S,U,.inr (.inr (.inr (.inr ⟨k0,S',U',k1,k2⟩)))=> .inr (.inr (.inr (.inr ⟨k0,S',U',k1,h .normal _ _ k2⟩)))
 | .rangeFunc f ps asg body,Q,Q',h,S,U,.inl ⟨xs,k1,k0,k2,k3,k4⟩=> .inl ⟨xs,k1,k0,k2,k3,zoo (Fa:=fun k=>awp IT P W k asg) (Fb:=fun k=>awp IT P W k body) (fun k=>fun hq=>zcl asg hq) (fun k=>fun hq=>zcl body hq) h xs U k4⟩
 | .rangeFunc f ps asg body,Q,Q',h,S,U,.inr ⟨g,caps,js,hs,m,bs,bs',xs,S',U1,k1,k2,k3,k4,k5,k6,k7,k8,k9,q⟩=> .inr ⟨g,caps,js,hs,m,bs,bs',xs,S',U1,k1,k2,k3,k4,k5,k6,k7,k8,k9,
  zoo (Fa:=fun k=>awp IT P W k asg) (Fb:=fun k=>awp IT P W k body) (fun k=>fun hq=>zcl asg hq) (fun k=>fun hq=>zcl body hq) (fun e S1 U1 hq=>by cases e with|normal=>exact h .normal _ _ hq|exit id=>exact hq|ret=>exact hq) xs _ q⟩
 | .scope x,Q,Q',h,S,U,k=>zcl x h S U k
 | .label _,Q,Q',h,S,U,k=>h _ S U k
 | .goto _,_,_,_,_,_,k=>k.elim
 | .refuse _,_,_,_,_,_,k=>k.elim
theorem zj {x:Code} {Q:AQ} (h:awp IT P W k0 x (zue (awp IT P W k0 y Q) Q) S U):awp IT P W k0 (.seq x y) Q S U:=
 .inl<|zcl x (zrr (fun S U k=>⟨S,U,Wk.refl _ _ _,k⟩) fun _ _ _ k=>k) S U h
def to (n0:Nat)(S':List AV)(U':St)(Q:AQ):AQ
 | .normal,S,U=>Wk n0 S U S' U'
 |e,S,U=>Q e S U
theorem zb {id:Nat} {Q:AQ} (h:zcb IT P W ops (Q .normal) ops.toList S U):awp IT P W k0 (.region id ops false) Q S U:=h
theorem zbd {x:Code} {Q:AQ} (hc:zbz S c= .raw (.bool true))(h:awp IT P W k0 x Q S U):awp IT P W k0 (.cond c x y) Q S U:=⟨true,hc,h⟩
theorem zcd {x:Code} {Q:AQ} (hc:zbz S c= .raw (.bool false))(h:awp IT P W k0 y Q S U):awp IT P W k0 (.cond c x y) Q S U:=⟨false,hc,h⟩
theorem qjs {id:Nat} {Q:AQ} (h:Q .normal S U):awp IT P W k0 (.label id) Q S U:=h
theorem qen {x:Code} {Q:AQ} (h:awp IT P W k0 x Q S U):awp IT P W k0 (.scope x) Q S U:=h
theorem z7k {id:Nat} {x:Code} {Q:AQ} (h:awp IT P W k0 x (zjx U.lens.length k0 id Q) S U):awp IT P W k0 (.block id x) Q S U:= .inl h
theorem zx {id:Nat} {x:Code} {Q:AQ} (h:awp IT P W k0 x (qqo id Q) S U):awp IT P W k0 (.block id x) Q S U:=
 .inl<|zcl x (fun e S1 U1 hq=>by
  cases e with
  |normal=>exact .inl hq
  |ret=>exact hq
  | exit j=>
   simp only[qqo,zjx] at hq⊢;split
   ·rename_i hj;rw[if_pos hj] at hq;exact .inl hq
   ·rename_i hj;rw[if_neg hj] at hq;exact hq) S U h
theorem zoy {l:List Oper} {a:AV} (hg:o.guard=none)(hc:zcx S o=none)(hy:zdh S o=none)(h:aop P (zbz S) U o=some (a,U'))(hS:zah S o.dst a=S')
 (k:zcb IT P W ops Q l S' U'):zcb IT P W ops Q (o::l) S U:=by
 simp only[zcb,hg,zfd,hc,hy];exact .inl ⟨a,U',.inl h,by rw[hS];exact k⟩
theorem qcd {l:List Oper} (a:AV)(hg:o.guard=none)(hc:zcx S o=none)(hy:zdh S o=none)(h:zpt P (zbz S) o a)(hS:zah S o.dst a=S')
 (k:zcb IT P W ops Q l S' U):zcb IT P W ops Q (o::l) S U:=by
 simp only[zcb,hg,zfd,hc,hy];exact .inl ⟨a,U,.inr (.inl ⟨rfl,h⟩),by rw[hS];exact k⟩
theorem w_call {l:List Oper} {f:FuncId} {args:List AV} {r:AV} (hp:Pure IT P f (stripL args) r)(hg:o.guard=none)(hc:zcx S o=some (f,args))(hok:zaf 0 args=true)(hS:zah S o.dst r=S')
 (k:zcb IT P W ops Q l S' U):zcb IT P W ops Q (o::l) S U:=by
 simp only[zcb,hg,zfd,hc];exact⟨r,U,.inr (.inl ⟨rfl,hok,hp⟩),by rw[hS];exact k⟩
theorem w_callf {l:List Oper} {f:FuncId} {args args':List AV} {r:AV} (n:Nat)(hp:Pure IT P f args' r)(hg:o.guard=none)(hc:zcx S o=some (f,args))(ha:zdj (frz U.boxes n) args=args')(hraw:z4p r=true)(hS:zah S o.dst r=S')
 (k:zcb IT P W ops Q l S' U):zcb IT P W ops Q (o::l) S U:=by
 simp only[zcb,hg,zfd,hc];exact⟨r,U,.inr (.inr (.inl ⟨rfl,hraw,n,by rw[ha];exact hp⟩)),by rw[hS];exact k⟩
theorem w_yield {l:List Oper} {n:Nat} {args row:List AV} {rows:List (List AV)} (hg:o.guard=none)(hc:zcx S o=none)(hy:zdh S o=some (n,args)) {G:Gen} (hW:W=some G)(hGl:G.l=n)(hGr:G.rows=rows)(hr:rows[U.out]? =some row)(hs:stripL args=row)(hok:zaf 0 args=true)(hni:zci args=true)(hst:U.stop=false)
 (k1:zcb IT P W ops Q l (zah S o.dst (.raw (.bool true))) {U with out:=U.out+1}) (k2:zcb IT P W ops Q l (zah S o.dst (.raw (.bool false))) {U with stop:=true}):zcb IT P W ops Q (o::l) S U:=by
 simp only[zcb,hg,zfd,hc,hy];exact⟨G,row,hW,hGl,by rw[hGr];exact hr,hs,hok,hni,hst,k1,k2⟩
theorem zbv {c:Code} {Q:AQ} (hS:S=S')(hσ:U=U')(h:awp IT P W k0 c Q S' U'):awp IT P W k0 c Q S U:=by subst hS hσ;exact h
theorem zhn {l:List Oper} {a:AV} (hg:o.guard=none)(hc:zcx S o=none)(hy:zdh S o=none)(h:aop P (zbz S) U o=some (a,U'))(hS:zah S o.dst a=S')(hσ:U'=U'')
 (k:zcb IT P W ops Q l S' U''):zcb IT P W ops Q (o::l) S U:=by
 subst hσ;exact zoy hg hc hy h hS k
theorem zsy {l:List Oper} {a:AV} (hg:o.guard=none)(hc:zcx S o=none)(hy:zdh S o=none)(h:zwa P (zbz S) U o=some (a,U'))(hS:zah S o.dst a=S')(hσ:U'=U'')
 (k:zcb IT P W ops Q l S' U''):zcb IT P W ops Q (o::l) S U:=by
 subst hσ;simp only[zcb,hg,zfd,hc,hy];exact .inl ⟨a,U',.inr (.inr (.inl h)),by rw[hS];exact k⟩
theorem w_nil {l:List Oper} {S1 S2:List AV} (n:Nat)(neg:Bool)(hg:o.guard=none)(hc:zcx S o=none)(hy:zdh S o=none)(h:z0n P (zbz S) o n neg)
 (h1:zah S o.dst (.raw (.bool (!neg)))=S1) (h2:zah S o.dst (.raw (.bool neg))=S2) (k1:n=0->zcb IT P W ops Q l S1 U) (k2:zcb IT P W ops Q l S2 U):zcb IT P W ops Q (o::l) S U:=by
 simp only[zcb,hg,zfd,hc,hy];exact .inr ⟨n,neg,.inl h,fun e=>by rw[h1];exact k1 e,by rw[h2];exact k2⟩
theorem zhh {l:List Oper} {f:FuncId} {args:List AV} {r:AV} (hp:Snd IT P f args U r U')(hg:o.guard=none)(hc:zcx S o=some (f,args))(ho:U'.out=U.out/\ U'.stop=U.stop)(hS:zah S o.dst r=S')
 (k:zcb IT P W ops Q l S' U'):zcb IT P W ops Q (o::l) S U:=by
 simp only[zcb,hg,zfd,hc];exact⟨r,U',.inl ⟨hp,ho⟩,by rw[hS];exact k⟩
theorem qdv {l:List Oper} {kb:Nat} {b:Bool} {c:Option Bool} (hg:o.guard=some (kb,b))(hk:zea ops S kb=some c)(hcb:c≠some b)(hS:zah S o.dst (.raw undef)=S')(k:zcb IT P W ops Q l S' U):zcb IT P W ops Q (o::l) S U:=by
 simp only[zcb,hg];exact⟨c,hk,by rw[if_neg hcb,hS];exact k⟩
theorem zao {l:List Oper} {kb:Nat} {b:Bool} (hg:o.guard=some (kb,b))(hk:zea ops S kb=some (some b))(k:zcb IT P W ops Q ({o with guard:=none}::l) S U):zcb IT P W ops Q (o::l) S U:=by
 simp only[zcb,hg];refine⟨some b,hk,?_⟩;rw[if_pos rfl];have e:zfd IT P W {o with guard:=none} S U=zfd IT P W o S U:=rfl;simp only[zcb] at k;rw[e] at k;exact k
end
def qme (n:Nat)(l:List (Nat×AV)):List AV:=l.foldl (fun S p=>S.set p.1 p.2) (List.replicate n .top)
theorem qdx (s:Nat) {t:TypeId} {cs:List AV} (hb:U.boxes[s]? =some (t,cs))(h:zac U.lens.length (mvz s U.boxes.length) S=S')(hσ:U'=qqh s t cs U):Wk n0 S U S' U':=
 .one<| .inr (.inr (.inr (.inr ⟨s,t,cs,hb,h▸Fg.refl _,hσ⟩)))
theorem zqh {x:Int} (h1: -9223372036854775808<=x)(h2:x<9223372036854775808):IntKind.i64.wrap x=x:=by
 simp only[IntKind.wrap,IntKind.bits,IntKind.signed];simp;omega
variable {ops:Array Oper} {S S' args':List AV} {n0:Nat} {U':St} {Q:AQ} {K:List AV->Prop} {n:Int} {y:Operand} {c:Call} {k':IntKind}
section
variable {IT:IterP} {P:Program} {W:Owed} {k0:Nat}
theorem zlg {Q:List AV->St->Prop} {o:Oper} {l:List Oper} {U:St} {f:FuncId} {args:List AV} {r:AV} (hp:Pure IT P f args' r)(hg:o.guard=none)(hc:zcx S o=some (f,args))(hs:stripL args=args')(hok:zaf 0 args=true)(hS:zah S o.dst r=S')
 (k:zcb IT P W ops Q l S' U):zcb IT P W ops Q (o::l) S U:=w_call (by rw[hs];exact hp) hg hc hok hS k
def zap (S:List AV)(l:List (Nat×AV)):List AV:=l.foldl (fun S p=>S.set p.1 p.2) S
def zbi (S:List AV)(l:List Nat):List AV:=l.foldl (fun S p=>S.set p .top) S
def fgM:List Bool->List AV->List AV
 |b::m,a::l=>(bif b then a else .top)::fgM m l
 |[],l=>l
 |_,[]=>[]
theorem zqf: ∀(m:List Bool) (S:List AV),Fg S (fgM m S)
 |b::m,a::l=>⟨by cases b<;>simp,zqf m l⟩
 |[],l=>Fg.refl l
 |_::_,[]=>trivial
theorem zpl {U:St} (m:List Bool)(h:fgM m S=S')(hσ:U'=U):Wk n0 S U S' U':= .one<| .inl ⟨h▸zqf m S,.inl hσ⟩
theorem zce {U:St} (m:List Bool)(n:Nat)(h:fgM m S=S')(hn:n0<=n)(h1:z0u n U=true)(h2:zaf n S'=true)(h3:zfj n U=U'):Wk n0 S U S' U':= .one<| .inl ⟨h▸zqf m S,.inr ⟨n,hn,h1,h2,h3⟩⟩
theorem zqx {U:St} (m:List Bool)(n:Nat)(fs js:List Nat)(d:Nat)(hn:n0<=n)(hok:zdd U n js=true)(h:fgM m (zac U.lens.length (kz U.boxes U.lens.length n fs js d) S)=S')(hσ:zeu U U.lens.length n fs js d=U'):Wk n0 S U S' U':=
 .one<| .inr (.inl ⟨n,fs,js,d,hn,hok,h▸zqf m _,hσ⟩)
theorem z9n {U:St} (m:List Bool)(s:Nat) {t:TypeId} {cs:List AV} (hb:U.boxes[s]? =some (t,cs))(h:fgM m S=S')(hσ:U'={U with boxes:=U.boxes++[(t,[])]}):Wk n0 S U S' U':=
 .one<| .inr (.inr (.inl ⟨s,t,cs,hb,h▸zqf m _,hσ⟩))
theorem zhe {id:Nat} {U:St} (n:Nat)(h1:chk ops S.length n=true)(h2:zvn ops.toList=true)(h3:zed IT P ops U (fun S'=>zcb IT P W ops (Q .normal) (ops.toList.drop n) S' U) (ops.toList.take n) S):awp IT P W k0 (.region id ops true) Q S U:= .inr (.inl (qqk n h1 h2 h3))
theorem qgi {id:Nat} {U:St} (n:Nat)(h1:chk ops S.length n=true)(h2:zvn ops.toList=true)(h3:zfb IT P ops U (fun S' ps=>zcb IT P W ops (Q .normal) (ops.toList.drop n) (zor U.boxes.length ps S') (znw U ps)) (ops.toList.take n) S []):awp IT P W k0 (.region id ops true) Q S U:= .inr (.inl ⟨n,h1,h2,h3⟩)
theorem qqf {U:St} {K:List AV->Pend->Prop} {o:Oper} {l:List Oper} {ps:Pend} {t:TypeId} {d:Tmp} (z:Value)(ho:o.op= .alloc t)(hdst:o.dst=some d)(hd:(o.dst.all fun d=>decide (d<S.length))=true)(hp:(ps.all fun p=>o.dst !=some p.1)=true)(hg:o.guard=none)(hz:zio P t=some z)(hS:S.set d .top=S')(k:zfb IT P ops U K l S' (ps++[(d,t,z)])):zfb IT P ops U K (o::l) S ps:=⟨hd,hp,.inl ⟨hg,t,d,z,ho,hdst,hz,by rw[hS];exact k⟩⟩
theorem zsz {U:St} {K:List AV->Pend->Prop} {o:Oper} {l:List Oper} {ps:Pend} {a:AV} (hd:(o.dst.all fun d=>decide (d<S.length))=true)(hp:(ps.all fun p=>o.dst !=some p.1)=true)(hg:o.guard=none)(hc:zcx S o=none)(h:qop P (zbz S) U o=some a)(hS:zah S o.dst a=S')(k:zfb IT P ops U K l S' ps):zfb IT P ops U K (o::l) S ps:=by
 refine⟨hd,hp,.inr ?_⟩;simp only[hg,zjb,hc];exact⟨a,.inl h,by rw[hS];exact k⟩
theorem zos {U:St} {K:List AV->Pend->Prop} {o:Oper} {l:List Oper} {ps:Pend} {f:FuncId} {args:List AV} {r:AV} (hpu:Pure IT P f args' r)(hd:(o.dst.all fun d=>decide (d<S.length))=true)(hp:(ps.all fun p=>o.dst !=some p.1)=true)(hg:o.guard=none)(hc:zcx S o=some (f,args))(hs:stripL args=args')(hok:zaf 0 args=true)(hS:zah S o.dst r=S')(k:zfb IT P ops U K l S' ps):zfb IT P ops U K (o::l) S ps:=by
 refine⟨hd,hp,.inr ?_⟩;simp only[hg,zjb,hc];exact⟨r,hok,by rw[hs];exact hpu,by rw[hS];exact k⟩
theorem ziq {U:St} (h:K S):zed IT P ops U K [] S:=h
theorem qko {U:St} {o:Oper} {l:List Oper} {a:AV} (hd:(o.dst.all fun d=>decide (d<S.length))=true)(hg:o.guard=none)(hc:zcx S o=none)(h:qop P (zbz S) U o=some a)(hS:zah S o.dst a=S')(k:zed IT P ops U K l S'):zed IT P ops U K (o::l) S:=by
 refine⟨hd,?_⟩;simp only[hg,zjb,hc];exact⟨a,.inl h,by rw[hS];exact k⟩
theorem qqt {U:St} {o:Oper} {l:List Oper} {f:FuncId} {args:List AV} {r:AV} (hp:Pure IT P f args' r)(hd:(o.dst.all fun d=>decide (d<S.length))=true)(hg:o.guard=none)(hc:zcx S o=some (f,args))(hs:stripL args=args')(hok:zaf 0 args=true)(hS:zah S o.dst r=S')(k:zed IT P ops U K l S'):zed IT P ops U K (o::l) S:=by
 refine⟨hd,?_⟩;simp only[hg,zjb,hc];exact⟨r,hok,by rw[hs];exact hp,by rw[hS];exact k⟩
theorem qpr {U:St} {o:Oper} {l:List Oper} {kb:Nat} {b:Bool} {c:Option Bool} (hd:(o.dst.all fun d=>decide (d<S.length))=true)(hg:o.guard=some (kb,b))(hk:zea ops S kb=some c)(hcb:c≠some b)(hS:zah S o.dst (.raw undef)=S')(k:zed IT P ops U K l S'):zed IT P ops U K (o::l) S:=by
 refine⟨hd,?_⟩;simp only[hg];exact⟨c,hk,by rw[if_neg hcb,hS];exact k⟩
theorem zlk {U:St} {o:Oper} {l:List Oper} {kb:Nat} {b:Bool} (hg:o.guard=some (kb,b))(hk:zea ops S kb=some (some b))(k:zed IT P ops U K ({o with guard:=none}::l) S):zed IT P ops U K (o::l) S:=by
 refine⟨k.1,?_⟩;simp only[hg];refine⟨some b,hk,?_⟩;rw[if_pos rfl];have e:zjb IT P {o with guard:=none} S U=zjb IT P o S U:=rfl;have k:=k.2;simp only at k;rw[e] at k;exact k
end
theorem z9y {P:Program} {fn:Func} {U:St} {a r:AV} (h:zav P fn U S=some a)(hok:zbp 0 a=true)(hs:zcw a=r):zwg P fn r .ret S U:=⟨a,h,zws hok hs⟩
theorem zze {P:Program} {fn:Func} {U:St} {n m:Nat} {a r:AV} (fs js:List Nat)(d:Nat)(h:zav P fn U S=some a)(hok:zdd U n js=true)(hr:zib m (kz U.boxes m n fs js d) a=r)(hσ:zeu U m n fs js d=U'):aendS P fn n m r U' .ret S U:=⟨a,h,zvx fs js d hok hr hσ⟩
section
variable {P:Program} {ρ:Operand->AV} {U:St} {o:Oper}
theorem q_index {t e:TypeId} {x i:Operand} {sz len:Nat} {cs:List AV} {st:Room} {k:IntKind} (ho:o.op= .indexAddr t x i)(hx:ρ x= .list len cs st)(hi:ρ i= .raw (.int k n))(hu:P.underlying t=some (.slice e))(hs:zcp P e=some sz)(hb:0<=n/\ n<len/\ cs≠[]):
 qop P ρ U o=some (.iptr (cs.drop (n.toNat*sz))):=by
 simp only[qop,ho,hx,hi,zie,hu,hs,if_pos hb]
theorem z8z {t e:TypeId} {x i:Operand} {s off len sz sz':Nat} {f:Bool} {k:IntKind} (ho:o.op= .indexAddr t x i)(hx:ρ x= .bsl s off len sz' f)(hi:ρ i= .raw (.int k n))(hu:P.underlying t=some (.slice e))(hs:zcp P e=some sz)(hb:0<=n/\ n<len):
 qop P ρ U o=some (.ptr s (off+n.toNat*sz)):=by
 simp only[qop,ho,hx,hi,zie,hu,hs,if_pos hb]
theorem zaz {a:AV} (h:qop P ρ U o=some a):aop P ρ U o=some (a,U):=by simp only[aop,h]
theorem qrd {t:TypeId} {x:Operand} {a:AV} (p:AV)(ho:o.op= .load t x)(hx:ρ x=p)(ha:zlv P U t p=some a):qop P ρ U o=some a:=by
 simp only[qop,ho,hx,ha]
theorem zct {t:TypeId} {x:Operand} {s off n:Nat} {v:AV} {bx:TypeId×List AV} (ho:o.op= .store t x y)(hx:ρ x= .ptr s off)(hy:ρ y=v)(hb:U.boxes[s]? =some bx)(hn:zcp P t=some n)(hc:zhs v=true/\ (cellsOf v).length=n/\ off+n<=bx.2.length/\ 0<n):
 aop P ρ U o=some (.raw undef,{U with boxes:=U.boxes.set s (bx.1,bx.2.take off++cellsOf v++bx.2.drop (off+n))}):=by
 simp only[aop,qop,ho,zqq,hx,hy,hb,hn,if_pos hc]
theorem zen {t:TypeId} {x:Operand} {s n:Nat} {v:AV} {bx:TypeId×List AV} (ho:o.op= .store t x y)(hx:ρ x= .ptr s 0)(hy:ρ y=v)(hb:U.boxes[s]? =some bx)(hn:zcp P t=some n)(hl:bx.2.length=n)(hc:zhs v=true)(hv:(cellsOf v).length=n)(h0:0<n):
 aop P ρ U o=some (.raw undef,{U with boxes:=U.boxes.set s (bx.1,cellsOf v)}):=by
 rw[zct (n:=n) ho hx hy hb hn ⟨hc,hv,by omega,h0⟩];rw[List.drop_of_length_le (by omega)];simp
theorem qnt {x:Operand} {t:TypeId} {c} {m r:Int} (ho:o.op= .binOp .add t x y c)(hx:ρ x= .raw (.int .i64 m))(hy:ρ y= .raw (.int .i64 n))(hr:m+n=r)(h1: -9223372036854775808<=r)(h2:r<9223372036854775808):qop P ρ U o=some (.raw (.int .i64 r)):=by
 subst hr;have h:=zqh h1 h2;simp[qop,zgb,ho,Op.operands,hx,hy,zdv,execOp,zca,eqGuard,binOp,Op.intArith,h];rfl
theorem zju {x:Operand} {t:TypeId} {c} {m r:Int} (ho:o.op= .binOp .sub t x y c)(hx:ρ x= .raw (.int .i64 m))(hy:ρ y= .raw (.int .i64 n))(hr:m-n=r)(h1: -9223372036854775808<=r)(h2:r<9223372036854775808):qop P ρ U o=some (.raw (.int .i64 r)):=by
 subst hr;have h:=zqh h1 h2;simp[qop,zgb,ho,Op.operands,hx,hy,zdv,execOp,zca,eqGuard,binOp,Op.intArith,h];rfl
theorem qoi {x:Operand} {t:TypeId} {c} {m r:Int} (ho:o.op= .binOp .mul t x y c)(hx:ρ x= .raw (.int .i64 m))(hy:ρ y= .raw (.int .i64 n))(hr:m*n=r)(h1: -9223372036854775808<=r)(h2:r<9223372036854775808):qop P ρ U o=some (.raw (.int .i64 r)):=by
 subst hr;have h:=zqh h1 h2;simp[qop,zgb,ho,Op.operands,hx,hy,zdv,execOp,zca,eqGuard,binOp,Op.intArith,h];rfl
theorem q_max {x:Operand} {k:IntKind} {m:Int} (ho:o.op= .call c)(hc:c.callee= .builtin .max)(ha:c.args= #[x,y])(hx:ρ x= .raw (.int k m))(hy:ρ y= .raw (.int k' n)):qop P ρ U o=some (.raw (.int k (max m n))):=by
 have e:(if n>m then n else m)=max m n:=by split<;>omega
 simp[qop,zgb,ho,hc,ha,Op.operands,Call.operands,hx,hy,zdv,execOp,zca,resolve,invoke,builtin,Builtin.max_,Builtin.max2,val?,zog,zja,zjr,e];simp[Pure.pure,Bind.bind,Sem.bind,val?,zog,zja,zjr]
theorem q_min {x:Operand} {k:IntKind} {m:Int} (ho:o.op= .call c)(hc:c.callee= .builtin .min)(ha:c.args= #[x,y])(hx:ρ x= .raw (.int k m))(hy:ρ y= .raw (.int k' n)):qop P ρ U o=some (.raw (.int k (min m n))):=by
 have e:(if n<m then n else m)=min m n:=by split<;>omega
 simp[qop,zgb,ho,hc,ha,Op.operands,Call.operands,hx,hy,zdv,execOp,zca,resolve,invoke,builtin,Builtin.min_,Builtin.min2,val?,zog,zja,zjr,e];simp[Pure.pure,Bind.bind,Sem.bind,val?,zog,zja,zjr]
theorem zhj {t b:Bool} (h:qop P ρ U o=some (.raw (.bool t)))(e:t=b):qop P ρ U o=some (.raw (.bool b)):=by rw[h,e]
end
section
variable {IT:IterP} {P:Program} {W:Owed} {k0:Nat}
theorem zpy {U:St} {sz m:Nat} {t tx:TypeId} {ds:List AV} {st:Room} (h:t=tx/\ ds.length=m*sz/\ 0<sz):qdo P U sz t tx (.list m ds st)=some (m,ds):=by simp only[qdo,if_pos h]
theorem z8t {ρ:Operand->AV} {U:St} {o:Oper} {c:Call} {x y:Operand} {t tx e:TypeId} {i:TypeInfo} {z:Value} {n m sz:Nat} {cs ds:List AV} (ho:o.op= .call c)(hc:c.callee= .builtin .append)(ha:c.args.toList=[x,y])(ht:c.argTypes.toList=[t,tx])
 (hx:ρ x= .list n cs .full) (hu:P.underlying t=some (.slice e)) (hi:P.info? e=some i) (hz:i.zero=some z) (hsz:i.size=sz) (hs:qdo P U sz t tx (ρ y)=some (m,ds)) (h1:0<sz/\ z.cells.size=sz/\ 0<m) (h2:cs.length=n*sz/\ n+m<=maxLen/\ (n+m)*i.bytes<=140737488355328):
 zwa P ρ U o=some (.bsl U.boxes.length 0 (n+m) sz false,{U with boxes:=U.boxes++[(e,cs++ds)]}):=by
 subst hsz;have hnn:zst (ρ x)=false:=by rw[hx];rfl
 have hnn2:zst (.list n cs .full)=false:=rfl;simp only[zwa,ho,hc,ha,ht,hnn,hnn2,Bool.false_eq_true,if_false,zqd,hu,hi,hz,hs,if_pos h1,hx,if_pos h2]
end
def shz (n:Nat):FZ:=(fun s off=> .ptr (n+s) off,fun s off k sz=> .bsl (n+s) off k sz false)
def zhm (n:Nat)(bs:List (TypeId×List AV)):List (TypeId×List AV):=bs.map fun b=>(b.1,zac 0 (shz n) b.2)
theorem z8k {IT:IterP} (hIT:ITMono IT) {P:Program} {f:FuncId} {args args':List AV} {r:AV} {bs:List (TypeId×List AV)} (h:Snd IT P f args' St.empty r ⟨bs,[],[],0,false⟩)(hargs:stripL args=args')(hok:zaf 0 args=true)(U:St):
 Snd IT P f args U (zib 0 (shz U.boxes.length) r) {U with boxes:=U.boxes++zhm U.boxes.length bs}:=by
 refine⟨h.1,fun X vs hI hr=> ?_⟩;subst hargs;have h0:zbo IT ⟨X.F,[],[],[],X.w,fun _=>False,fun _ _=>False⟩ (stripL args) vs:=zft (X:=X) (Y:=⟨X.F,[],[],[],X.w,fun _=>False,fun _ _=>False⟩) hIT rfl rfl args vs (.inl hok) hr;refine(h.2 ⟨X.F,[],[],[],X.w,fun _=>False,fun _ _=>False⟩ vs (zvj hI) h0).mono ?_;rintro e w' ⟨v,Y,rfl,rfl,hE,hIY,hv⟩;have hκl:Y.κ.length=bs.length:=hIY.κlen;have hXl:=hI.κlen;have hl:Y.lens=[]:=hIY.lens;have hnew: ∀b∈Y.κ,X.w.heap.size<=b:=fun b hb=>by
  rcases hE.κnew b hb with h|h
  ·simp at h
  ·exact h
 have hblk: ∀b,b<X.w.heap.size->Y.w.heap[b]? =X.w.heap[b]? :=fun b hb=>hE.frame b hb (by simp) (by simp);have hFn: ∀b i,Y.F b i->X.F b i \/X.w.heap.size<=b:=fun b i hf=>by
  rcases hE.Fnew b i hf with h|h|⟨q,hq,_⟩|h
  ·exact .inl h
  ·exact .inr h
  ·simp at hq
  ·simp at h
 have hX:Ext X ⟨Y.F,X.κ++Y.κ,X.β,X.lens,Y.w,X.O,X.C⟩:={
  os:=hE.os,tape:=hE.tape,output:=hE.output,size:=hE.size,drawn:=hE.drawn,F:=hE.F,cell:=hE.cell
  κ :=fun s b hs=>by
   show(X.κ++Y.κ)[s]? =some b
   rw[getElem?_append_left (List.getElem?_eq_some_iff.1 hs).1];exact hs
  lens:=fun s L h=>⟨L,h,le_refl _,fun _=>rfl⟩
  blk:=fun s b hs cur t f h=>⟨cur,(hblk b (hI.κlt (mem_of_getElem? hs))).trans h,rfl⟩
  szs:=Szs.old hblk
  frame:=fun b hb _ _=>hblk b hb
  κnew:=fun b hb=>by
   rcases mem_append.1 hb with hb|hb
   ·exact .inl hb
   ·exact .inr (hnew b hb)
  βnew:=fun r h=> .inl ⟨r,h,rfl⟩
  O:=rfl
  C:=rfl
  Fnew:=fun b i hf=>(hFn b i hf).imp id .inl}
 have hnk: ∀s b,Y.κ[s]? =some b->(X.κ++Y.κ)[U.boxes.length+s]? =some b:=fun s b hs=>by
  rw[getElem?_append_right (by omega),show U.boxes.length+s-X.κ.length=s by omega];exact hs
 have hg:(∀s off v,Rep IT Y (.ptr s off) v->Rep IT ⟨Y.F,X.κ++Y.κ,X.β,X.lens,Y.w,X.O,X.C⟩ ((shz U.boxes.length).1 s off) v)/\
  ∀s off n sz f v,Rep IT Y (.bsl s off n sz f) v->Rep IT ⟨Y.F,X.κ++Y.κ,X.β,X.lens,Y.w,X.O,X.C⟩ ((shz U.boxes.length).2 s off n sz) v:=by
  refine⟨?_,?_⟩
  ·rintro s off v ⟨b,hb,rfl⟩;exact⟨b,hnk s b hb,rfl⟩
  ·rintro s off n sz f v ⟨b,cap,cur,t,hb,rfl,hcap,hful,hrow⟩;exact⟨b,cap,cur,t,hnk s b hb,rfl,hcap,(fun h=>by cases h),hrow⟩
 have hrep:=zlh (X:=Y) (Y:=⟨Y.F,X.κ++Y.κ,X.β,X.lens,Y.w,X.O,X.C⟩) (m:=0) hIT (fun _ _ h=>h) rfl (fun s hs=>by omega) hg;have hrepL:=zdp (X:=Y) (Y:=⟨Y.F,X.κ++Y.κ,X.β,X.lens,Y.w,X.O,X.C⟩) (m:=0) hIT (fun _ _ h=>h) rfl (fun s hs=>by omega) hg;refine⟨v,⟨Y.F,X.κ++Y.κ,X.β,X.lens,Y.w,X.O,X.C⟩,rfl,rfl,hX,?_,hrep r v hv⟩;have old: ∀(s b:Nat),(X.κ++Y.κ)[s]? =some b->(X.κ[s]? =some b/\ s<U.boxes.length) \/(U.boxes.length<=s/\ Y.κ[s-U.boxes.length]? =some b):=fun s b h=>by
  rcases Nat.lt_or_ge s X.κ.length with hlt|hge
  ·rw[getElem?_append_left hlt] at h;exact .inl ⟨h,by omega⟩
  ·rw[getElem?_append_right hge,hXl] at h;exact .inr ⟨by omega,h⟩
 have upO: ∀s:Nat,s<U.boxes.length->(∃t:TypeId,U.boxes[s]? =some (t,[]))-> ∃t:TypeId,(U.boxes++zhm U.boxes.length bs)[s]? =some (t,[]):=fun s hs ⟨t,h⟩=>⟨t,by rw[getElem?_append_left hs];exact h⟩;have upN: ∀s:Nat,U.boxes.length<=s->(∃t:TypeId,bs[s-U.boxes.length]? =some (t,[]))-> ∃t:TypeId,(U.boxes++zhm U.boxes.length bs)[s]? =some (t,[]):=fun s hs ⟨t,h⟩=>⟨t,by
  rw[getElem?_append_right hs,zhm,getElem?_map,h];simp[zac]⟩
 refine {lens:=hI.lens,elems:=hI.elems,κlen:= ?_,κnd:= ?_,box:= ?_,κF:= ?_,βlen:=hI.βlen,βnd:=hI.βnd,βκ:= ?_,row:= ?_,Ok:= ?_,Fcell:=hIY.Fcell}
 ·show(X.κ++Y.κ).length=(U.boxes++zhm U.boxes.length bs).length
  simp[zhm];omega
 ·intro s s' b k1 k2 hne;rcases old s b k1 with⟨a1,b1⟩|⟨a1,b1⟩<;>rcases old s' b k2 with⟨a2,b2⟩|⟨a2,b2⟩
  ·exact(hI.κnd s s' b a1 a2 hne).imp (upO s b1) (upO s' b2)
  ·have:=hI.κlt (mem_of_getElem? a1);have:=hnew b (mem_of_getElem? b2);omega
  ·have:=hI.κlt (mem_of_getElem? a2);have:=hnew b (mem_of_getElem? b1);omega
  ·exact(hIY.κnd _ _ b b1 b2 (by omega)).imp (upN s a1) (upN s' a2)
 ·intro s b t cs hs hb;have hb:(U.boxes++zhm U.boxes.length bs)[s]? =some (t,cs):=hb;rcases old s b hs with⟨a1,b1⟩|⟨a1,b1⟩
  ·rw[getElem?_append_left b1] at hb;obtain⟨us,zs,u1,u2,u3⟩:=hI.box s b t cs a1 hb;exact⟨us,zs,(hblk b (hI.κlt (mem_of_getElem? a1))).trans u1,zau hIT hX _ _ u2,u3⟩
  ·rw[getElem?_append_right a1,zhm,getElem?_map] at hb;cases hbs:bs[s-U.boxes.length]? with
   |none=>rw[hbs] at hb;cases hb
   | some bx=>
    rw[hbs] at hb;simp only[map_some,Option.some.injEq,Prod.mk.injEq] at hb;obtain⟨rfl,rfl⟩:=hb;obtain⟨us,zs,u1,u2,u3⟩:=hIY.box _ b bx.1 bx.2 b1 hbs;exact⟨us,zs,u1,hrepL _ _ u2,u3⟩
 ·intro s b t cs hs hb hne o hf;have hb:(U.boxes++zhm U.boxes.length bs)[s]? =some (t,cs):=hb;rcases old s b hs with⟨a1,b1⟩|⟨a1,b1⟩
  ·rw[getElem?_append_left b1] at hb;rcases hFn b o hf with h|h
   ·exact hI.κF s b t cs a1 hb hne o h
   ·have:=hI.κlt (mem_of_getElem? a1);omega
  ·rw[getElem?_append_right a1,zhm,getElem?_map] at hb;cases hbs:bs[s-U.boxes.length]? with
   |none=>rw[hbs] at hb;cases hb
   | some bx=>
    rw[hbs] at hb;simp only[map_some,Option.some.injEq,Prod.mk.injEq] at hb;obtain⟨rfl,rfl⟩:=hb;refine hIY.κF _ b bx.1 bx.2 b1 hbs (fun e=>hne ?_) o hf;rw[e,zac]
 ·intro r hr' hm;rcases mem_append.1 hm with hm|hm
  ·exact hI.βκ r hr' hm
  ·have:=hI.βlt hr';have:=hnew _ hm;omega
 ·intro s q L hq hL;obtain⟨cur,fz,c1,c2,c3,c4,c5,c6,c7⟩:=hI.row s q L hq hL;have hlt:=hI.βlt (mem_of_getElem? hq);refine⟨cur,fz,(hblk _ hlt).trans c1,c2,c3,c4,c5,fun o hf=> ?_,c7⟩;rcases hFn _ o hf with h|h
  ·exact c6 o h
  ·omega
 ·intro b ho;obtain⟨⟨cs0,t0,f0,h0⟩,h2,h3,h4⟩:=hI.Ok b ho;have hlt:=hI.Olt ho;refine⟨⟨cs0,t0,f0,(hblk b hlt).trans h0⟩,fun hm=> ?_,h3,fun o hf=>(hFn b o hf).elim (h4 o) fun h=>by omega⟩;rcases mem_append.1 hm with hm|hm
  ·exact h2 hm
  ·have:=hnew _ hm;omega
def zbt (n:Nat)(cs:List AV):AV:=if n=0 then .list 0 [] .full else .list n cs (.own 0)
def zbu (bs:List (TypeId×List AV))(e n sz:Nat):St:=⟨bs,if n=0 then[] else[n*sz],if n=0 then[] else[e],0,false⟩
theorem qcc {P:Program} {t e:TypeId} {i:TypeInfo} {z:Value} {n m sz:Nat} {cs ds:List AV} {st:Room} {bs:List (TypeId×List AV)} (hu:P.underlying t=some (.slice e))(hi:P.info? e=some i)(hz:i.zero=some z)(hsz:i.size=sz)(hzs:z.cells.size=sz)(h0:0<sz)
 (hcs:cs.length=n*sz) (hds:ds.length=m*sz) (hmax:n+m<=maxLen) (hb:(n+m)*i.bytes<=140737488355328):
 zgi P (zbu bs e n sz) t (zbt n cs) (.list m ds st)=some (zbt (n+m) (cs++ds),zbu bs e (n+m) sz):=by
 subst hsz;rcases Nat.eq_zero_or_pos m with rfl|hm
 ·have hd:ds=[]:=List.length_eq_zero_iff.1 (by omega);subst hd;rcases Nat.eq_zero_or_pos n with rfl|hn
  ·have hc:cs=[]:=List.length_eq_zero_iff.1 (by omega);subst hc;simp[zgi,zbt,zbu,hu,hi,hz]
  ·have hn':n≠0:=by omega
   simp[zgi,zbt,zbu,hu,hi,hz,hn']
 ·have hm':m≠0:=by omega
  have hnm:n+m≠0:=by omega
  rcases Nat.eq_zero_or_pos n with rfl|hn
  ·have hc:cs=[]:=List.length_eq_zero_iff.1 (by omega);subst hc;simp only[zero_add] at hmax hb;simp[zgi,zbt,zbu,hu,hi,hz,hm',hds,hm,hzs,h0,hmax,hb]
  ·have hn':n≠0:=by omega
   simp[zgi,zbt,zbu,hu,hi,hz,hm',hn',hds,hcs,hm,hzs,h0,hmax,hb,hn]
theorem zkk {P:Program} {ρ:Operand->AV} {U U':St} {o:Oper} {c:Call} {x y:Operand} {t:TypeId} {a:AV} (ho:o.op= .call c)(hc:c.callee= .builtin .append)(ha:c.args.toList=[x,y])(ht:c.argTypes.toList=[t,t])(h:zgi P U t (ρ x) (ρ y)=some (a,U')):aop P ρ U o=some (a,U'):=by
 simp[aop,qop,ho,hc,ha,ht,h]
theorem qgx {n:Nat} {cs:List AV} (hc:cloL cs=true)(h:n=0->cs=[]):zcw (zbt n cs)= .list n cs .none:=by
 unfold zbt;split
 ·rename_i h0;rw[h h0,h0];rfl
 ·rw[zcw,zcy cs hc]
theorem zdn {k n:Nat} {cs:List AV} (hc:cloL cs=true):zbp k (zbt n cs)=true:=by
 unfold zbt;split
 ·rfl
 ·rw[zbp,zn k cs hc]
variable {c:Bool} {G:Prop} {y:Code} {Q:AQ} {S S0 S1 S':List AV} {U1:St} {n0 n:Nat} {ops:Array Oper} {k':IntKind}
class Enc (α:Type) where
 inh:α
 cells:α->List AV
 cellsL:List α->List AV
 sz:Nat
 pos:0<sz
 nil:cellsL []=[]
 cons: ∀a l,cellsL (a::l)=cells a++cellsL l
 len: ∀a,(cells a).length=sz
 clo: ∀a,cloL (cells a)=true
section
variable {α:Type} [Enc α]
theorem Enc.cloL: ∀l:List α,Go.Ab.cloL (Enc.cellsL l)=true
 |[]=>by rw[Enc.nil];rfl
 |a::l=>by rw[Enc.cons,zek,Enc.clo,Enc.cloL l];rfl
theorem Enc.lenL: ∀l:List α,(Enc.cellsL l).length=l.length*Enc.sz α
 |[]=>by rw[Enc.nil];simp
 |a::l=>by rw[Enc.cons,List.length_append,Enc.len,Enc.lenL l,List.length_cons,Nat.succ_mul,Nat.add_comm]
theorem Enc.app: ∀a b:List α,Enc.cellsL (a++b)=Enc.cellsL a++Enc.cellsL b
 |[],b=>by rw[Enc.nil];rfl
 |x::a,b=>by rw[List.cons_append,Enc.cons,Enc.cons,Enc.app a b,List.append_assoc]
theorem Enc.drop: ∀(l:List α) (i:Nat),(Enc.cellsL l).drop (i*Enc.sz α)=Enc.cellsL (l.drop i)
 |l,0=>by simp
 |[],i+1=>by simp[Enc.nil]
 | t::l,i+1=>by
  rw[Enc.cons,List.drop_succ_cons, <-Enc.drop l i,List.drop_append,Enc.len];have h:(i+1)*Enc.sz α=i*Enc.sz α+Enc.sz α:=Nat.succ_mul _ _;have:(i+1)*Enc.sz α-Enc.sz α=i*Enc.sz α:=by omega
  rw[this,List.drop_of_length_le (by rw[Enc.len];omega),List.nil_append]
theorem Enc.take (l:List α)(i:Nat):(Enc.cellsL l).take (i*Enc.sz α)=Enc.cellsL (l.take i):=by
 rcases Nat.le_or_ge i l.length with h|h
 ·have h1:=Enc.app (l.take i) (l.drop i);rw[List.take_append_drop] at h1;rw[h1,List.take_append_of_le_length (by rw[Enc.lenL,List.length_take,Nat.min_eq_left h];exact le_refl _)];exact take_of_length_le (by rw[Enc.lenL,List.length_take,Nat.min_eq_left h];exact le_refl _)
 ·rw[take_of_length_le h,take_of_length_le (by rw[Enc.lenL];exact Nat.mul_le_mul_right _ h)]
def ix (l:List α)(i:Int):α:=l.getD i.toNat Enc.inh
theorem Enc.at {l:List α} {i:Int} (h:0<=i/\ i<l.length):(Enc.cellsL l).drop (i.toNat*Enc.sz α)=Enc.cells (ix l i)++Enc.cellsL (l.drop (i.toNat+1)):=by
 have hi:i.toNat<l.length:=by omega
 rw[Enc.drop,List.drop_eq_getElem_cons hi,Enc.cons];simp[ix,hi]
theorem Enc.ne {l:List α} {i:Int} (h:0<=i/\ i<l.length):Enc.cellsL l≠[]:=by
 intro e;have:=Enc.lenL l;rw[e] at this;have h1:0<l.length:=by omega
 have h2:=Nat.mul_pos h1 (Enc.pos (α:=α));simp only[List.length_nil] at this;omega
end
def bs (l:List UInt8):ByteArray:=⟨l.toArray⟩
instance:Enc Int:=⟨0,fun x=>[.raw (.int .i64 x)],fun l=>l.map fun x=> .raw (.int .i64 x),1,by decide,rfl,fun _ _=>rfl,fun _=>rfl,fun _=>rfl⟩
instance:Enc UInt8:=⟨0,fun x=>[.raw (.int .u8 ((x.toNat:Nat):Int))],fun l=>l.map fun x=> .raw (.int .u8 ((x.toNat:Nat):Int)),1,by decide,rfl,fun _ _=>rfl,fun _=>rfl,fun _=>rfl⟩
instance:Enc (List UInt8):=⟨[],fun x=>[.raw (.string (bs x))],fun l=>l.map fun x=> .raw (.string (bs x)),1,by decide,rfl,fun _ _=>rfl,fun _=>rfl,fun _=>rfl⟩
instance:Enc Bool:=⟨false,fun x=>[.raw (.bool x)],fun l=>l.map fun x=> .raw (.bool x),1,by decide,rfl,fun _ _=>rfl,fun _=>rfl,fun _=>rfl⟩
section
variable {α β τ ρ:Type}
def chk (p:Prop) [Decidable p] (k:Option α):Option α:=if p then k else none
theorem ze {p:Prop} [Decidable p] {k:Option α} {r:α} (h:chk p k=some r):p/\ k=some r:=by
 unfold chk at h;split at h
 ·exact⟨‹_›,h⟩
 ·cases h
theorem zew {p:Prop} [Decidable p] {k:Option α} (h:p):chk p k=k:=if_pos h
def zba (e:α)(k:α->Option β):Option β:=k e
theorem zk {e:α} {k:α->Option β} {r:β} (h:zba e k=some r): ∃x,e=x/\ k x=some r:=⟨e,rfl,h⟩
def zag (x:Option α)(k:α->Option β):Option β:=match x with|some a=>k a|none=>none
theorem zr {x:Option α} {k:α->Option β} {r:β} (h:zag x k=some r): ∃a,x=some a/\ k a=some r:=by
 cases x with
 |none=>cases h
 |some a=>exact⟨a,rfl,h⟩
@[simp] theorem bindE_some (a:α) (k:α->Option β):zag (some a) k=k a:=rfl
theorem zz {A B:Option α} {r:α} (h:(bif c then A else B)=some r)(kt:c=true->A=some r->G)(kf:c=false->B=some r->G):G:=by
 cases c with
 |true=>exact kt rfl h
 |false=>exact kf rfl h
def zcu (x:Option (τ ⊕ ρ))(k:τ->Option ρ):Option ρ:=match x with|some (.inl t)=>k t|some (.inr y)=>some y|none=>none
@[simp] theorem cutE_inl (t:τ) (k:τ->Option ρ):zcu (some (.inl t)) k=k t:=rfl
@[simp] theorem cutE_inr (y:ρ) (k:τ->Option ρ):zcu (some (.inr y)) k=some y:=rfl
theorem zi {y r:ρ} {o:τ ⊕ ρ} (h:some (inr y)=some o)(hr: ∀y,o= .inr y->y=r):some y=some r:=by
 rw[hr y (Option.some.inj h).symm]
def zax (body:β->Option (β ⊕ ρ)):Nat->β->Option ρ
 |0,_=>none
 |n+1,s=>match body s with|some (.inl s')=>zax body n s'|some (.inr y)=>some y|none=>none
def zem (body:β->α->Option (β ⊕ ρ)):List α->β->Option (β ⊕ ρ)
 |[],s=>some (.inl s)
 |x::xs,s=>match body s x with|some (.inl s')=>zem body xs s'|some (.inr y)=>some (.inr y)|none=>none
end
section
variable {IT:IterP} {P:Program} {W:Owed} {k0:Nat}
theorem zan {x:Code} {U:St} {τ ρ:Type} {FX:Option (τ ⊕ ρ)} {K:τ->Option ρ} {r:ρ} (h:zcu FX K=some r)(tops:List Nat)(upd:τ->List (Nat×AV))(D:τ->St)
 (hx: ∀o,FX=some o->(∀y,o= .inr y->y=r)->awp IT P W k0 x (zue (fun S1 U1=> ∃t,o= .inl t/\ Wk k0 S1 U1 (zap (zbi S tops) (upd t)) (D t)) Q) S U)
 (hk: ∀t,K t=some r->awp IT P W k0 y Q (zap (zbi S tops) (upd t)) (D t)):awp IT P W k0 (.seq x y) Q S U:=by
 cases FX with
 |none=>cases h
 | some o=>
  refine .inl (zcl x ?_ _ _ (hx o rfl fun y e=>by subst e;exact Option.some.inj h));intro e S1 U1 hq;cases e with
  | normal=>
   obtain⟨t,rfl,hw⟩:=hq;exact⟨_,_,hw,hk t h⟩
  |exit id=>exact hq
  |ret=>exact hq
theorem zc {τ ρ:Type} {o:τ ⊕ ρ} {tops:List Nat} {upd:τ->List (Nat×AV)} {D:τ->St} (t:τ)(h:some (inl t)=some o)(hw:Wk n0 S1 U1 (zap (zbi S0 tops) (upd t)) (D t)):
 ∃t,o= .inl t/\ Wk n0 S1 U1 (zap (zbi S0 tops) (upd t)) (D t):=⟨t,(Option.some.inj h).symm,hw⟩
def loopQ {β ρ:Type} (n0:Nat)(T:β->List AV)(D:β->St)(p:β ⊕ ρ)(o:ρ)(Q:AQ):AQ
 | .normal,S,U=> ∃s,p= .inl s/\ Wk n0 S U (T s) (D s)
 |e,S,U=>(∃y,p= .inr y/\ (some y=some o->Q e S U)) \/Q e S U
theorem zcf {x:Code} {U:St} {β ρ:Type} {body:β->Option (β ⊕ ρ)} {s0:β} {o:ρ} (h:zax body n s0=some o)(tops:List Nat)(upd:β->List (Nat×AV))(D:β->St)
 (h0:Wk k0 S U (zap (zbi S tops) (upd s0)) (D s0))
 (hs: ∀s p,body s=some p->awp IT P W k0 x (loopQ k0 (fun s=>zap (zbi S tops) (upd s)) D p o Q) (zap (zbi S tops) (upd s)) (D s)):awp IT P W k0 (.loop x) Q S U:=by
 have key: ∀(n:Nat) (s0:β) S1 U1,zax body n s0=some o->Wk k0 S1 U1 (zap (zbi S tops) (upd s0)) (D s0)->zrt (awp IT P W k0 x) Q k0 n S1 U1:=by
  intro n;induction n with
  |zero=>intro s0 S1 U1 h;cases h
  | succ n ih=>
   intro s0 S1 U1 h hw;rw[zax] at h;cases hb:body s0 with
   |none=>rw[hb] at h;cases h
   | some p=>
    rw[hb] at h;refine⟨_,_,hw,zcl x ?_ _ _ (hs s0 p hb)⟩;intro e S2 U2 hq;cases e with
    | normal=>
     obtain⟨s,rfl,hw2⟩:=hq;exact ih s S2 U2 h hw2
    | exit id=>
     rcases hq with⟨y,rfl,hq⟩|hq
     ·exact hq h
     ·exact hq
    | ret=>
     rcases hq with⟨y,rfl,hq⟩|hq
     ·exact hq h
     ·exact hq
 exact⟨n,key n s0 S U h h0⟩
theorem zbf {β ρ:Type} {p:β ⊕ ρ} {tops:List Nat} {upd:β->List (Nat×AV)} {D:β->St} (s:β)(h:some (inl s)=some p)(hw:Wk n0 S1 U1 (zap (zbi S0 tops) (upd s)) (D s)):
 ∃s,p= .inl s/\ Wk n0 S1 U1 (zap (zbi S0 tops) (upd s)) (D s):=⟨s,(Option.some.inj h).symm,hw⟩
theorem zg {β ρ:Type} {p:β ⊕ ρ} {o y:ρ} {H:Prop} (h:some (inr y)=some p)(k:some y=some o->G):(∃y,p= .inr y/\ (some y=some o->G)) \/H:= .inl ⟨y,(Option.some.inj h).symm,k⟩
def z9h {β ρ:Type} (S0:List AV)(n0:Nat)(D:β->St)(p:β ⊕ ρ)(r:ρ)(Q:AQ):AQ
 | .normal,_,U=> ∃s,p= .inl s/\ z0u n0 U=true/\ zfj n0 U=D s
 |e,_,U=>(∃y,p= .inr y/\ (some y=some r->z0u n0 U=true/\ Q e S0 (zfj n0 U))) \/(z0u n0 U=true/\ Q e S0 (zfj n0 U))
theorem z2m {ps:Array Tmp} {asg body:Code} {α β ρ:Type} {FB:β->α->Option (β ⊕ ρ)} {K:β->Option ρ} {r:ρ} (row:α->List AV)(D:β->St)
 (hs: ∀s x p,FB s x=some p->awp IT P W n0 asg (z3o (fun S1 U1=>awp IT P W U1.boxes.length body (z9h S n0 D p r Q) S1 U1)) (zlz S ps (row x)) (D s))
 (he: ∀s,K s=some r->Q .normal S (D s)): ∀(xs:List α) (s0:β),zcu (zem FB xs s0) K=some r->zfu (fun k=>awp IT P W k asg) (fun k=>awp IT P W k body) ps S Q n0 (xs.map row) (D s0):=by
 intro xs;induction xs with
 |nil=>intro s0 h;exact he s0 h
 | cons x xs ih=>
  intro s0 h;rw[zem] at h;cases hb:FB s0 x with
  |none=>rw[hb] at h;cases h
  | some p=>
   rw[hb] at h;simp only[map_cons,zfu];refine zcl asg ?_ _ _ (hs s0 x p hb);intro e S1 U1 hq;cases e with
   | normal=>
    refine zcl body ?_ _ _ hq;intro e2 S2 U2 hq2;cases e2 with
    |normal=>obtain⟨s,rfl,q1,q2⟩:=hq2;exact⟨q1,by rw[q2];exact ih s h⟩
    |exit id=>
    rcases hq2 with⟨y,rfl,hq2⟩|hq2
    ·exact hq2 h
    ·exact hq2
    |ret=>
    rcases hq2 with⟨y,rfl,hq2⟩|hq2
    ·exact hq2 h
    ·exact hq2
   |exit id=>exact hq.elim
   |ret=>exact hq.elim
theorem znt {f:Operand} {ps:Array Tmp} {asg body:Code} {U:St} {α β ρ:Type} {FB:β->α->Option (β ⊕ ρ)} {xs:List α} {s0:β} {K:β->Option ρ} {r:ρ} (h:zcu (zem FB xs s0) K=some r)(row:α->List AV)(D:β->St)
 (hf:zbz S f= .iter (xs.map row)) (hl: ∀x,(row x).length=ps.size) (hna:zcs asg=true) (h0:U=D s0)
 (hs: ∀s x p,FB s x=some p->awp IT P W U.boxes.length asg (z3o (fun S1 U1=>awp IT P W U1.boxes.length body (z9h S U.boxes.length D p r Q) S1 U1)) (zlz S ps (row x)) (D s))
 (he: ∀s,K s=some r->Q .normal S (D s)) (hps:Nat.ble ps.size 8=true:=by exact rfl):awp IT P W k0 (.rangeFunc f ps asg body) Q S U:=by
 refine .inl ⟨xs.map row,hf,hps,by simp[List.all_map];intro x _;exact hl x,hna,?_⟩;rw[h0];rw[h0] at hs;exact z2m row D hs he xs s0 h
theorem z9z {f:Operand} {ps:Array Tmp} {asg body:Code} {U:St} {α β ρ:Type} {FB:β->α->Option (β ⊕ ρ)} {xs:List α} {s0:β} {K:β->Option ρ} {r:ρ} (h:zcu (zem FB xs s0) K=some r)(row:α->List AV)(D:β->St)(js hs:List Nat)(m:Nat) {g:Nat} {caps caps0:List AV} {bs bs':List (TypeId×List AV)}
 (hW:W=none) (hit:qcg P g caps0 bs (xs.map row) bs') (hent:Ent P g) (hf:zbz S f= .clos g caps) (hcaps:zac 0 (bwz js) caps=caps0) (hH:Hand U js hs m bs U1) (hfg:Fg (zac U.lens.length (gz hs) S) S') (hbk: ∀(i:Nat) (t:TypeId) (cs:List AV),bs[i]? =some (t,cs)-> ∃cs',bs'[i]? =some (t,cs'))
 (hl: ∀x,(row x).length=ps.size) (hna:zcs asg=true) (h0:U1=D s0)
 (zjb: ∀s x p,FB s x=some p->awp IT P W U.boxes.length asg (z3o (fun S1 U1=>awp IT P W U1.boxes.length body (z9h S' U.boxes.length D p r (qhp Q S js hs bs' U.boxes)) S1 U1)) (zlz S' ps (row x)) (D s))
 (he: ∀s,K s=some r->Q .normal S (zjm js hs bs' U.boxes (D s))):awp IT P W k0 (.rangeFunc f ps asg body) Q S U:=
 .inr (⟨g,caps,js,hs,m,bs,bs',xs.map row,S',U1,hf,hH,hfg,hW,hna,by simp[List.all_map];intro x _;exact hl x,by rw[hcaps];exact hit,hent,hbk,by rw[h0];exact z2m row D zjb he xs s0 h⟩)
theorem zfy {β ρ:Type} {p:β ⊕ ρ} {D:β->St} (s:β)(h:some (inl s)=some p)(h1:z0u n0 U1=true)(h2:zfj n0 U1=D s): ∃s,p= .inl s/\ z0u n0 U1=true/\ zfj n0 U1=D s:=⟨s,(Option.some.inj h).symm,h1,h2⟩
theorem zfn {c:Operand} {x:Code} {U:St} {t:Bool} (ht:t=true)(hc:zbz S c= .raw (.bool t))(k:awp IT P W k0 x Q S U):awp IT P W k0 (.cond c x y) Q S U:=⟨true,by rw[hc,ht],by rw[if_pos rfl];exact k⟩
theorem zfs {c:Operand} {x:Code} {U:St} {t:Bool} (ht:t=false)(hc:zbz S c= .raw (.bool t))(k:awp IT P W k0 y Q S U):awp IT P W k0 (.cond c x y) Q S U:=⟨false,by rw[hc,ht],by rw[if_neg (by decide)];exact k⟩
theorem qol {Q:List AV->St->Prop} {o:Oper} {l:List Oper} {U:St} (a:AV) {a0:AV} (hg:o.guard=none)(hc:zcx S o=none)(hy:zdh S o=none)(h:qop P (zbz S) U o=some a0)(ha:zcw a0=a)(hS:zah S o.dst a=S')
 (k:zcb IT P W ops Q l S' U):zcb IT P W ops Q (o::l) S U:=by
 simp only[zcb,hg,zfd,hc,hy];exact .inl ⟨a,U,.inr (.inr (.inr (.inl ⟨a0,zaz h,ha.symm⟩))),by rw[hS];exact k⟩
end
section
variable {P:Program} {ρ:Operand->AV} {U:St} {o:Oper}
theorem qco {α:Type} [Enc α] {t e:TypeId} {x i:Operand} {l:List α} {st:Room} {k:IntKind} {n:Int} (hb:0<=n/\ n<l.length)(ho:o.op= .indexAddr t x i)(hx:ρ x= .list l.length (Enc.cellsL l) st)(hi:ρ i= .raw (.int k n))(hu:P.underlying t=some (.slice e))(hs:zcp P e=some (Enc.sz α)):
 qop P ρ U o=some (.iptr (Enc.cells (ix l n)++Enc.cellsL (l.drop (n.toNat+1)))):=by
 rw[q_index ho hx hi hu hs ⟨hb.1,hb.2,Enc.ne hb⟩,Enc.at hb]
end
theorem zcq {a:AV} (h:clo a=true):zcw a=a:=z2y a h
theorem zmn {cs:List AV} {st:Room} (h:cloL cs=true):zcw (.list n cs st)= .list n cs .none:=by rw[zcw,zcy cs h]
theorem zvw {cs:List AV} (h:cloL cs=true)(h0:n=0->cs=[]):zcw (zbt n cs)= .list n cs .none:=qgx h h0
theorem zv {a b:AV} {l m:List AV} (h:zcw a=b)(k:stripL l=m):stripL (a::l)=b::m:=by rw[stripL,h,k]
theorem zbc {k:Nat} {cs:List AV} {st:Room} (h:cloL cs=true):zbp k (.list n cs st)=true:=by rw[zbp,zn k cs h]
theorem za {k:Nat} {a:AV} {l:List AV} (h:zbp k a=true)(m:zaf k l=true):zaf k (a::l)=true:=by rw[zaf,h,m];rfl
theorem zps {a:AV} {l:List AV} (h:clo a=true)(m:cloL l=true):cloL (a::l)=true:=by rw[cloL,h,m];rfl
theorem zae {cs:List AV} (h:cloL cs=true):clo (.agg cs)=true:=h
theorem zks {cs:List AV} (h:cloL cs=true):clo (.list n cs .none)=true:=by simp[clo,h]
theorem Enc.z {α:Type} [Enc α] {l:List α}:l.length=0->Enc.cellsL l=[]:=fun h=>by rw[List.length_eq_zero_iff.1 h,Enc.nil]
theorem Enc.stripL {α:Type} [Enc α] (l:List α):Go.Ab.stripL (Enc.cellsL l)=Enc.cellsL l:=zcy _ (Enc.cloL l)
section
variable {P:Program} {ρ:Operand->AV} {U:St} {o:Oper}
theorem zho {α:Type} [Enc α] {l:List α} {cs:List AV} {st:Room} (h:qop P ρ U o=some (.list l.length cs st))(hc:Enc.cellsL l=cs):qop P ρ U o=some (.list l.length (Enc.cellsL l) st):=by rw[hc];exact h
def sub {α:Type} (l:List α)(i j:Int):List α:=(l.drop i.toNat).take (j.toNat-i.toNat)
theorem qre {α:Type} [Enc α] {c:Call} {x:Operand} {t:TypeId} {l:List α} (ho:o.op= .call c)(hc:c.callee= .builtin .len)(ha:c.args.toList=[x])(hx:ρ x=zbt l.length (Enc.cellsL l))(ht:c.argTypes.toList=[t]) {e:TypeId} (hu:P.underlying t=some (.slice e)):qop P ρ U o=some (.raw (.int .i64 (l.length:Int))):=by
 have:qdr P t (zbt l.length (Enc.cellsL l))=some (.raw (.int .i64 (l.length:Int))):=by
  unfold zbt;split
  ·rename_i h0;simp[qdr,hu,h0]
  ·simp[qdr,hu]
 simp[qop,ho,hc,ha,ht,hx,this]
theorem zfp {α:Type} [Enc α] {t e:TypeId} {i:TypeInfo} {z:Value} {st:Room} {bs:List (TypeId×List AV)} {a b:List α} {by':Nat} (hb:(a.length+b.length)*by'<=140737488355328)(hu:P.underlying t=some (.slice e))(hi:P.info? e=some i)(hz:i.zero=some z)(hsz:i.size=Enc.sz α)(hzs:z.cells.size=Enc.sz α)(hby:i.bytes=by'/\ 0<by'):
 zgi P (zbu bs e a.length (Enc.sz α)) t (zbt a.length (Enc.cellsL a)) (.list b.length (Enc.cellsL b) st)=some (zbt (a++b).length (Enc.cellsL (a++b)),zbu bs e (a++b).length (Enc.sz α)):=by
 have hm:a.length+b.length<=maxLen:=by
  have h1:a.length+b.length<=(a.length+b.length)*by':=Nat.le_mul_of_pos_right _ hby.2
  have h2:140737488355328<=maxLen:=by decide
  omega
 rw[qcc hu hi hz hsz hzs Enc.pos (Enc.lenL a) (Enc.lenL b) hm (by rw[hby.1];exact hb),List.length_append,Enc.app]
end
section
variable {IT:IterP} {P:Program} {W:Owed} {k0:Nat}
theorem qac {Q:List AV->St->Prop} {l:List Oper} {U U':St} {ps:Pend} (hn:U.boxes.length=n)(hσ:znw U ps=U')(hS:zor n ps S=S')(k:zcb IT P W ops Q l S' U'):
 zfb IT P ops U (fun S' ps=>zcb IT P W ops Q l (zor U.boxes.length ps S') (znw U ps)) [] S ps:=by
 show zcb IT P W ops Q l (zor U.boxes.length ps S) (znw U ps);rw[hn,hσ,hS];exact k
end
theorem zy {b:TypeId×List AV} {l:List (TypeId×List AV)} (h:zaf n b.2=true)(k:(l.all fun bx=>zaf n bx.2)=true):((b::l).all fun bx=>zaf n bx.2)=true:=by rw[List.all_cons,h,k];rfl
theorem zbg {U:St} (h:((U.boxes.take n).all fun bx=>zaf n bx.2)=true):z0u n U=true:=h
theorem zdz {P:Program} {fn:Func} {U:St} {a:AV} {R:Type} {y r:R} (E:R->AV)(hr:some y=some r)(h:zav P fn U S=some a)(hok:zbp 0 a=true)(hs:zcw a=E y):zwg P fn (E r) .ret S U:=by
 cases hr;exact z9y h hok hs
def zlx (k:IntKind)(x y:Int):Int:=k.wrap ((BitVec.ofInt k.bits x&&&BitVec.ofInt k.bits y).toNat:Int)
def orI (k:IntKind)(x y:Int):Int:=k.wrap ((BitVec.ofInt k.bits x|||BitVec.ofInt k.bits y).toNat:Int)
def xorI (k:IntKind)(x y:Int):Int:=k.wrap ((BitVec.ofInt k.bits x^^^BitVec.ofInt k.bits y).toNat:Int)
def zgc (k:IntKind)(x y:Int):Int:=x.fdiv (2^min y.toNat k.bits)
def zrg (k:IntKind)(x y:Int):Int:=k.wrap (x*2^min y.toNat k.bits)
section
variable {P:Program} {ρ:Operand->AV} {U:St} {o:Oper}
theorem qee {x y:Operand} {t:TypeId} {c} {k:IntKind} {m n:Int} (g:0<=n)(ho:o.op= .binOp .shr t x y c)(hx:ρ x= .raw (.int k m))(hy:ρ y= .raw (.int k' n)):qop P ρ U o=some (.raw (.int k (zgc k m n))):=by
 have h: ¬n<0:=by omega
 simp[qop,zgb,ho,Op.operands,hx,hy,zdv,execOp,zca,eqGuard,binOp,Op.shift,h,zgc];rfl
theorem q_shl {x y:Operand} {t:TypeId} {c} {k:IntKind} {m n:Int} (g:0<=n)(ho:o.op= .binOp .shl t x y c)(hx:ρ x= .raw (.int k m))(hy:ρ y= .raw (.int k' n)):qop P ρ U o=some (.raw (.int k (zrg k m n))):=by
 have h: ¬n<0:=by omega
 simp[qop,zgb,ho,Op.operands,hx,hy,zdv,execOp,zca,eqGuard,binOp,Op.shift,h,zrg];rfl
theorem zsj {t e:TypeId} {x i:Operand} {len s off sz:Nat} {k:IntKind} {n:Int} (hb:0<=n/\ n<len)(ho:o.op= .indexAddr t x i)(hx:ρ x= .ptr s off)(hi:ρ i= .raw (.int k n))(hu:P.underlying t=some (.array len e))(hs:zcp P e=some sz):
 qop P ρ U o=some (.ptr s (off+n.toNat*sz)):=by
 simp only[qop,ho,hx,hi,zie,hu,hs,if_pos hb,qcn]
end
open Classical in
noncomputable def qdm {α:Type} (p:Prop)(k:Option α):Option α:=if p then k else none
theorem z8l {α:Type} {p:Prop} {k:Option α} {r:α} (h:qdm p k=some r):p/\ k=some r:=by
 unfold qdm at h;split at h
 ·exact⟨‹_›,h⟩
 ·cases h
theorem qiu {α:Type} {p:Prop} {k r:Option α} (h:p)(hk:k=r):qdm p k=r:=by unfold qdm;rw[if_pos h];exact hk
theorem ztu {IT:IterP} {P:Program} {W:Owed} {α:Type} {row:α->List AV} {rows:List α} {x:α} {Q:List AV->St->Prop} {o:Oper} {l:List Oper} {S2:List AV} {U U2:St} {args:List AV} (hr:rows[U.out]? =some x)(hs:stripL args=row x)(hok:zaf 0 args=true)(hni:zci args=true) {G:Gen} (hW:W=some G)(hGl:G.l=n)(hGr:G.rows=rows.map row)(hg:o.guard=none)(hc:zcx S o=none)(hy:zdh S o=some (n,args))(hst:U.stop=false)
 (h1:zah S o.dst (.raw (.bool true))=S1) (h2:zah S o.dst (.raw (.bool false))=S2) (e1:{U with out:=U.out+1}=U1) (e2:{U with stop:=true}=U2) (k1:zcb IT P W ops Q l S1 U1) (k2:zcb IT P W ops Q l S2 U2):zcb IT P W ops Q (o::l) S U:=
 w_yield hg hc hy hW hGl hGr (by rw[getElem?_map,hr];rfl) hs hok hni hst (by rw[h1,e1];exact k1) (by rw[h2,e2];exact k2)
theorem qlh {v:Value} {l:List AV} (h:zci l=true):zci (.raw v::l)=true:=by simp[zci,zlt,h]
theorem z1a (n:Nat) {P:Program} (hmix:P.follows .mixedOrders=true) {U:St} {a:AV} {g:FuncId} {fn f:Func} {c:Code} {caps:List AV} {S:List AV} {α:Type} {row:α->List AV} {rows:List α} (hr:zav P f U S=some a)(hm:zhf (frz U.boxes n) a= .clos g caps)(hf:P.funcs[g]? =some fn)(hb:fn.body=some c)(he:Ent P g)
 (hcl:cloL caps=true) (hne:rows.map row≠errRows) (h: ∀G:Gen,G.rows=rows.map row->awp (ITP P) P (some G) 0 c (qdh P fn rows.length) (zaq fn (.yld G.l::caps)) St.empty):zwg P f (.iter (rows.map row)) .ret S U:=
 ⟨a,hr,qft (caps:=caps) hmix hne (qmy n hm) hf hb he (fun G hGr=>by rw[zcy _ hcl,List.length_map];exact h G hGr) (zn 0 _ hcl)⟩
section
variable {α β τ ρ:Type}
theorem zf {p:Prop} [Decidable p] {k:Option α} {r:Option α} (h:p)(hk:k=r):chk p k=r:=by rw[zew h];exact hk
theorem zm {e:α} {k:α->Option β} {r:Option β} (h: ∀x,e=x->k x=r):zba e k=r:=h e rfl
theorem zdw {A B:α} {r:α} (h:c=true)(k:A=r):(bif c then A else B)=r:=by rw[h];exact k
theorem zdo {A B:α} {r:α} (h:c=false)(k:B=r):(bif c then A else B)=r:=by rw[h];exact k
theorem z7g {A B:α} {r:α} (kt:c=true->A=r)(kf:c=false->B=r):(bif c then A else B)=r:=by
 cases c with
 |true=>exact kt rfl
 |false=>exact kf rfl
theorem zaa {x:Option α} {k:α->Option β} {r:Option β} (a:α)(h:x=some a)(hk:k a=r):zag x k=r:=by rw[h];exact hk
theorem zak {x:Option (τ ⊕ ρ)} {k:τ->Option ρ} {r:Option ρ} (t:τ)(h:x=some (.inl t))(hk:k t=r):zcu x k=r:=by rw[h];exact hk
theorem zoc {x:Option (τ ⊕ ρ)} {k:τ->Option ρ} {r:Option ρ} (y:ρ)(h:x=some (.inr y))(hk:some y=r):zcu x k=r:=by rw[h];exact hk
theorem zhl {body:β->Option (β ⊕ ρ)} {s0:β} {o:ρ} (N:Nat)(f:Nat->β)(h0:s0=f 0)(hs: ∀i,i<N->body (f i)=some (.inl (f (i+1))))(he:body (f N)=some (.inr o))(hn:N<n):zax body n s0=some o:=by
 have key: ∀k i n,i+k=N->k<n->zax body n (f i)=some o:=by
  intro k;induction k with
  | zero=>
   intro i n hi hn;obtain rfl:i=N:=by omega
   match n,hn with
   |n+1,_=>rw[zax,he]
  | succ k ih=>
   intro i n hi hn
   match n,hn with
   |n+1,_=>rw[zax,hs i (by omega)];exact ih (i+1) n (by omega) (by omega)
 rw[h0];exact key N 0 n (by omega) hn
theorem loopC_i {τ:Type} {body:β->Option (β ⊕ (τ ⊕ ρ))} {K:τ->Option ρ} (N:Nat)(T:Nat->β)(R:Nat->Option ρ)(hn:N<n)(hs: ∀i,i<=N->(i<N/\ body (T i)=some (.inl (T (i+1)))/\ R i=R (i+1)) \/(∃y,body (T i)=some (.inr y)/\ zcu (some y) K=R i)):zcu (zax body n (T 0)) K=R 0:=by
 have key: ∀k i n,i+k=N->k<n->zcu (zax body n (T i)) K=R i:=by
  intro k;induction k with
  | zero=>
   intro i n hi hn;obtain rfl:i=N:=by omega
   match n,hn with
   | n+1,_=>
    rcases hs i (le_refl _) with⟨h,_⟩|⟨y,h1,h2⟩
    ·omega
    ·rw[zax,h1];exact h2
  | succ k ih=>
   intro i n hi hn
   match n,hn with
   | n+1,_=>
    rcases hs i (by omega) with⟨_,h1,h2⟩|⟨y,h1,h2⟩
    ·rw[zax,h1,h2];exact ih (i+1) n (by omega) (by omega)
    ·rw[zax,h1];exact h2
 exact key N 0 n (by omega) hn
end
variable {ops:Array Oper} {S S' l':List AV} {n d:Nat} {y:Operand}
section
variable {IT:IterP} {P:Program} {W:Owed} {k0:Nat}
theorem qml {id:Nat} {y:Code} {Q:AQ} {U:St} (S1:List AV)(U1:St)(h:zpq IT P W ops (fun S U=>Wk k0 S U S1 U1) ops.size (Array.replicate ops.size false) S U)(hrest:awp IT P W k0 y Q S1 U1):awp IT P W k0 (.seq (.region id ops true) y) Q S U:=
 .inl (.inr (.inr (.inl (zhc (fun S U hw=>⟨S1,U1,hw,hrest⟩) _ _ _ _ h))))
theorem zrh {ops0:Array Oper} {FIN0:List AV->St->Prop} {k:Nat} {l:Array Bool} {U:St} (h: ∀ops,ops=ops0-> ∀FIN:List AV->St->Prop,(∀S U,FIN0 S U->FIN S U)-> ∀S0,S0=S->zpq IT P W ops FIN k l S0 U):zpq IT P W ops0 FIN0 k l S U:=h ops0 rfl FIN0 (fun _ _ h=>h) S rfl
theorem aopAt_s {ops0:Array Oper} {K:List AV->St->Prop} {i:Nat} {o:Oper} {U:St} (hops:ops=ops0)(ho:ops0[i]? =some o)(h:zcb IT P W ops K [o] S U):zpm IT P W ops K i S U:=by
 subst hops;unfold zpm;rw[ho];simp only[zcb] at h;exact h
theorem aany_n {ops0:Array Oper} {FIN:List AV->St->Prop} {k:Nat} {bs:List Bool} {U:St} (hops:ops=ops0)(is:List Nat)(hr:Region.ready .any ops0 ⟨bs⟩=is)(hne:is≠[])(h: ∀i∈is,zpm IT P W ops (fun S U=>zpq IT P W ops FIN k ⟨bs.set i true⟩ S U) i S U):zpq IT P W ops FIN (k+1) ⟨bs⟩ S U:=by
 subst hops;refine⟨fun e=>absurd (hr.symm.trans e) hne,fun i hi=> ?_⟩;have h1:=h i (hr▸hi);have e:(⟨bs⟩:Array Bool).setIfInBounds i true=⟨bs.set i true⟩:=by
  apply Array.ext';simp
 rw[e];exact h1
theorem aany_0 {ops0:Array Oper} {FIN:List AV->St->Prop} {bs:List Bool} {U:St} (hops:ops=ops0)(hr:Region.ready .any ops0 ⟨bs⟩=[])(h:FIN S U):zpq IT P W ops FIN 0 ⟨bs⟩ S U:=by
 subst hops;exact⟨hr,h⟩
theorem all_nil {p:Nat->Prop}: ∀i∈([]:List Nat),p i:=fun i h=>by cases h
theorem all_cons {p:Nat->Prop} {a:Nat} {l:List Nat} (h:p a)(t: ∀i∈l,p i): ∀i∈a::l,p i:=fun i hi=>by
 rcases List.mem_cons.1 hi with rfl|hi
 ·exact h
 ·exact t i hi
end
section
variable {P:Program} {ρ:Operand->AV} {U:St} {o:Oper} {α:Type} [Enc α]
theorem Enc.atK {l:List α} {i:Int} (g:0<=i/\ i<l.length)(k:Nat):(Enc.cellsL l).drop (0+i.toNat*Enc.sz α+k)=(Enc.cells (ix l i)++Enc.cellsL (l.drop (i.toNat+1))).drop k:=by
 rw[zero_add, <-List.drop_drop,Enc.at g]
theorem zhi {t e:TypeId} {x i:Operand} {s:Nat} {f:Bool} {k:IntKind} {j:Int} (g:0<=j/\ j<n)(ho:o.op= .indexAddr t x i)(hx:ρ x= .bsl s 0 n (Enc.sz α) f)(hi:ρ i= .raw (.int k j))(hu:P.underlying t=some (.slice e))(hs:zcp P e=some (Enc.sz α)):
 qop P ρ U o=some (.ptr s (0+j.toNat*Enc.sz α)):=z8z ho hx hi hu hs g
theorem zgj {l:List α} {i:Int} {k s:Nat} {te t:TypeId} {x:Operand} {a:AV} (g:0<=i/\ i<l.length)(ho:o.op= .load t x)(hx:ρ x= .ptr s (0+i.toNat*Enc.sz α+k))(hb:U.boxes[s]? =some (te,Enc.cellsL l))(hr:rd P t ((Enc.cells (ix l i)++Enc.cellsL (l.drop (i.toNat+1))).drop k)=some a):
 qop P ρ U o=some a:=by
 rw[<-Enc.atK g] at hr;simp only[qop,ho,hx,zlv,hb,hr]
theorem Enc.putK {l:List α} {i:Int} {x:α} {k:Nat} {cs:List AV} (g:0<=i/\ i<l.length)(hl:cs.length=n)(hk:k+n<=Enc.sz α)(hx:Enc.cells x=(Enc.cells (ix l i)).take k++cs++(Enc.cells (ix l i)).drop (k+n)):
 (Enc.cellsL l).take (0+i.toNat*Enc.sz α+k)++cs++(Enc.cellsL l).drop (0+i.toNat*Enc.sz α+k+n)=Enc.cellsL (l.set i.toNat x):=by
 have hi:i.toNat<l.length:=by omega
 have hset:l.set i.toNat x=l.take i.toNat++[x]++l.drop (i.toNat+1):=by
  rw[List.set_eq_take_append_cons_drop,if_pos hi];simp
 have hlen:=Enc.len (ix l i);have e1:(Enc.cellsL l).drop (i.toNat*Enc.sz α)=Enc.cells (ix l i)++Enc.cellsL (l.drop (i.toNat+1)):=Enc.at g;have e2:(Enc.cellsL l).take (0+i.toNat*Enc.sz α+k)=Enc.cellsL (l.take i.toNat)++(Enc.cells (ix l i)).take k:=by
  rw[zero_add,List.take_add,Enc.take,e1,List.take_append_of_le_length (by omega)]
 have e3:(Enc.cellsL l).drop (0+i.toNat*Enc.sz α+k+n)=(Enc.cells (ix l i)).drop (k+n)++Enc.cellsL (l.drop (i.toNat+1)):=by
  rw[zero_add,Nat.add_assoc, <-List.drop_drop,e1,List.drop_append_of_le_length (by omega)]
 rw[e2,e3,hset,Enc.app,Enc.app,Enc.cons,Enc.nil,hx];simp
theorem zul {l:List α} {i:Int} {k s:Nat} {te t:TypeId} {x:Operand} {v:AV} (x':α)(g:0<=i/\ i<l.length)(ho:o.op= .store t x y)(hx:ρ x= .ptr s (0+i.toNat*Enc.sz α+k))(hy:ρ y=v)(hb:U.boxes[s]? =some (te,Enc.cellsL l))(hn:zcp P t=some n)(hc:zhs v=true)(hl:(cellsOf v).length=n)(h0:0<n)(hk:k+n<=Enc.sz α)
 (hx':Enc.cells x'=(Enc.cells (ix l i)).take k++cellsOf v++(Enc.cells (ix l i)).drop (k+n)):aop P ρ U o=some (.raw undef,{U with boxes:=U.boxes.set s (te,Enc.cellsL (l.set i.toNat x'))}):=by
 have hfit:0+i.toNat*Enc.sz α+k+n<=(Enc.cellsL l).length:=by
  rw[Enc.lenL];have h1:i.toNat+1<=l.length:=by omega
  have h2:=Nat.mul_le_mul_right (Enc.sz α) h1;rw[Nat.succ_mul] at h2;omega
 rw[zct (n:=n) ho hx hy hb hn ⟨hc,hl,hfit,h0⟩,Enc.putK g hl hk hx']
theorem z7f {c:Call} {x:Operand} {t e:TypeId} {i:TypeInfo} {z:Value} {s by':Nat} {l r:List α} {st:Room} (hn:l.length=n/\ 0<n/\ 0<r.length/\ (n+r.length)*by'<=140737488355328)(ho:o.op= .call c)(hc:c.callee= .builtin .append)(ha:c.args.toList=[x,y])(ht:c.argTypes.toList=[t,t])
 (hx:ρ x= .bsl s 0 n (Enc.sz α) false) (hy:ρ y= .list r.length (Enc.cellsL r) st) (hb:U.boxes[s]? =some (e,Enc.cellsL l)) (hu:P.underlying t=some (.slice e)) (hi:P.info? e=some i) (hz:i.zero=some z) (hsz:i.size=Enc.sz α) (hzs:z.cells.size=Enc.sz α) (hby:i.bytes=by'/\ 0<by'):
 zwa P ρ U o=some (.bsl U.boxes.length 0 (n+r.length) (Enc.sz α) false,{U with boxes:=U.boxes.set s (e,[])++[(e,Enc.cellsL (l++r))]}):=by
 obtain⟨h1,h2,h3,h4⟩:=hn;have hp:=Enc.pos (α:=α);have hsrc:qdo P U i.size t t (ρ y)=some (r.length,Enc.cellsL r):=by rw[hy];exact zpy ⟨rfl,by rw[Enc.lenL,hsz],by omega⟩
 have hmax:n+r.length<=maxLen:=by
  have h5:n+r.length<=(n+r.length)*by':=Nat.le_mul_of_pos_right _ hby.2
  have h6:140737488355328<=maxLen:=by decide
  omega
 have hcond:Enc.sz α=i.size/\ n+r.length<=maxLen/\ (n+r.length)*i.bytes<=140737488355328/\ 0+n*Enc.sz α<=(Enc.cellsL l).length:=⟨hsz.symm,hmax,by rw[hby.1];exact h4,by rw[Enc.lenL,h1];omega⟩;have hcond2:(0:Nat)=0/\ n*Enc.sz α=(Enc.cellsL l).length/\ e=e/\ 0<n:=⟨rfl,by rw[Enc.lenL,h1],rfl,h2⟩;have hcond0:0<i.size/\ z.cells.size=i.size/\ 0<r.length:=⟨by omega,by omega,h3⟩;have key:zqd P U t t (ρ x) (ρ y)=some (.bsl U.boxes.length 0 (n+r.length) (Enc.sz α) false,{U with boxes:=U.boxes.set s (e,[])++[(e,Enc.cellsL (l++r))]}):=by
  rw[zqd];simp only[hu,hi,hz,hsrc,if_pos hcond0,hx,hb,if_pos hcond,Bool.false_eq_true,if_false,Enc.app];rw[if_pos ⟨trivial,hcond2.2.1,trivial,h2⟩]
 have hnn:zst (ρ x)=false:=by rw[hx];rfl
 simp only[zwa,ho,hc,ha,ht,key,hnn,Bool.false_eq_true,if_false]
end
section
variable {m:Nat} {g:FZ}
theorem zif:fgM [] (zac m g [])=[]:=by rw[zac];rfl
theorem zff {a b:AV} {ms:List Bool} (h:zib m g a=b)(r:fgM ms (zac m g S)=S'):fgM (true::ms) (zac m g (a::S))=b::S':=by
 rw[zac];show(bif true then zib m g a else .top)::_=_;rw[r,h];rfl
theorem zvu {a:AV} {ms:List Bool} (r:fgM ms (zac m g S)=S'):fgM (false::ms) (zac m g (a::S))= .top::S':=by
 rw[zac];show(bif false then zib m g a else .top)::_=_;rw[r];rfl
theorem zp:zac m g []=[]:=by rw[zac]
theorem zam {a b:AV} {l:List AV} (h:zib m g a=b)(r:zac m g l=l'):zac m g (a::l)=b::l':=by rw[zac,h,r]
theorem z4b:zdj g []=[]:=by rw[zdj]
theorem zqi {a b:AV} {l:List AV} (h:zhf g a=b)(r:zdj g l=l'):zdj g (a::l)=b::l':=by rw[zdj,h,r]
theorem z7b {a:AV} (h:clo a=true):zhf g a=a:=by
 have:=zeh g [a] (by rw[cloL,h];rfl);rw[zdj] at this;exact(List.cons.inj this).1
theorem kz_bsl {α:Type} [Enc α] {bs:List (TypeId×List AV)} {js:List Nat} {d s n:Nat} {f:Bool} {t:TypeId} {l:List α} (hn:l.length=n)(hb:bs[s]? =some (t,Enc.cellsL l))(hp:zgd 0 [] js s=none):zib m (kz bs m 0 [] js (d+1)) (.bsl s 0 n (Enc.sz α) f)= .list l.length (Enc.cellsL l) .none:=by
 subst hn;rw[zib];simp only[kz,hp,hb,map_some,getD_some,List.drop_zero,zad _ _ _ (Enc.cloL l)];rw[take_of_length_le (by rw[Enc.lenL];exact le_refl _)]
theorem zab {bs:List (TypeId×List AV)} {fs js0:List Nat}:(([]:List Nat).map fun j=>((bs[j]?).map fun b=>(b.1,zac m (kz bs m n fs js0 d) b.2)).getD (0,[.bad]))=[]:=rfl
theorem zd {bs:List (TypeId×List AV)} {j:Nat} {fs js js0:List Nat} {t:TypeId} {cs cs':List AV} {r:List (TypeId×List AV)} (hb:bs[j]? =some (t,cs))(hc:zac m (kz bs m n fs js0 d) cs=cs')(hr:(js.map fun j=>((bs[j]?).map fun b=>(b.1,zac m (kz bs m n fs js0 d) b.2)).getD (0,[.bad]))=r):
 ((j::js).map fun j=>((bs[j]?).map fun b=>(b.1,zac m (kz bs m n fs js0 d) b.2)).getD (0,[.bad]))=(t,cs')::r:=by
 rw[map_cons,hr,hb];simp only[map_some,getD_some,hc]
theorem zev {U U':St} {js:List Nat} {bs':List (TypeId×List AV)} (h:(js.map fun j=>((U.boxes[j]?).map fun b=>(b.1,zac m (kz U.boxes m 0 [] js d) b.2)).getD (0,[.bad]))=bs')(h2:{U with boxes:=bs',lens:=U.lens.take m,elems:=U.elems.take m}=U'):zeu U m 0 [] js d=U':=by
 subst h2;unfold zeu zcj;rw[h];rfl
end
def bl:Nat->Nat->List Bool
 |0,_=>[]
 |n+1,m=>(m%2==1)::bl n (m/2)
section
variable {IT:IterP} {P:Program} {W:Owed} {ops ops0:Array Oper} {Q:List AV->St->Prop} {K:List AV->Prop} {o:Oper} {l:List Oper} {S S':List AV} {U U' U'':St} {a:AV} {kb:Nat} {b:Bool} {c:Option Bool}
theorem w_o (k:zcb IT P W ops Q l S' U')(hg:o.guard=none:=by exact rfl)(hc:zcx S o=none:=by exact rfl)(hy:zdh S o=none:=by exact rfl)(h:aop P (zbz S) U o=some (a,U'):=by exact rfl)(hS:zah S o.dst a=S':=by dsimp only[zah,List.set]):zcb IT P W ops Q (o::l) S U:=
 zoy hg hc hy h hS k
theorem zqo (k:zcb IT P W ops Q l S' U'')(hg:o.guard=none:=by exact rfl)(hc:zcx S o=none:=by exact rfl)(hy:zdh S o=none:=by exact rfl)(h:aop P (zbz S) U o=some (a,U'):=by exact rfl)(hS:zah S o.dst a=S':=by dsimp only[zah,List.set])(hσ:U'=U'':=by exact rfl):zcb IT P W ops Q (o::l) S U:=
 zhn hg hc hy h hS hσ k
theorem qkr (k:zcb IT P W ops Q l S' U)(hg:o.guard=some (kb,b):=by exact rfl)(hk:zea ops S kb=some c:=by exact rfl)(hcb:c≠some b:=by decide)(hS:zah S o.dst (.raw undef)=S':=by dsimp only[zah,List.set]):zcb IT P W ops Q (o::l) S U:=
 qdv hg hk hcb hS k
theorem h_o (k:zed IT P ops U K l S')(hd:(o.dst.all fun d=>decide (d<S.length))=true:=by exact rfl)(hg:o.guard=none:=by exact rfl)(hc:zcx S o=none:=by exact rfl)(h:qop P (zbz S) U o=some a:=by exact rfl)(hS:zah S o.dst a=S':=by dsimp only[zah,List.set]):zed IT P ops U K (o::l) S:=
 qko hd hg hc h hS k
theorem z0t (k:zed IT P ops U K l S')(hd:(o.dst.all fun d=>decide (d<S.length))=true:=by exact rfl)(hg:o.guard=some (kb,b):=by exact rfl)(hk:zea ops S kb=some c:=by exact rfl)(hcb:c≠some b:=by decide)(hS:zah S o.dst (.raw undef)=S':=by dsimp only[zah,List.set]):zed IT P ops U K (o::l) S:=
 qpr hd hg hk hcb hS k
end
theorem zqw {IT:IterP} {P:Program} {W:Owed} {ops ops0:Array Oper} {K:List AV->St->Prop} {i:Nat} {o:Oper} {S:List AV} {U:St} (hops:ops=ops0)(ho:ops0.toList[i]? =some o)(h:zcb IT P W ops K [o] S U):zpm IT P W ops K i S U:=
 aopAt_s hops (by rw[<-ho,Array.getElem?_toList]) h
def upS:List (Option (Nat×AV))->List Bool->List (Nat×AV)
 |some q::ps,true::bs=>q::upS ps bs
 |none::ps,true::bs=>upS ps bs
 |_::ps,false::bs=>upS ps bs
 |_,_=>[]
def aN (IT:IterP)(P:Program)(W:Owed)(ops:Array Oper)(FIN:List AV->St->Prop)(S0:List AV)(ps:List (Option (Nat×AV)))(n k m:Nat)(U:St):Prop:=
 zpq IT P W ops FIN k ⟨bl n m⟩ (zap S0 (upS ps (bl n m))) U
section
variable {IT:IterP} {P:Program} {W:Owed} {ops ops0:Array Oper} {FIN:List AV->St->Prop} {S0 L S:List AV} {ps PL:List (Option (Nat×AV))} {n k m m':Nat} {U:St}
theorem aN_n (hops:ops=ops0)(hS:S0=L)(hps:ps=PL)(is:List Nat)
 (h: ∀i∈is,zpm IT P W ops (fun S U=>zpq IT P W ops FIN k ⟨(bl n m).set i true⟩ S U) i S U)
 (hr:Region.ready .any ops0 ⟨bl n m⟩=is:=by kernel_rfl) (hne:is≠[]:=by decide) (e:zap L (upS PL (bl n m))=S:=by dsimp only[zap,List.foldl,List.set,upS,bl,Nat.reduceMod,Nat.reduceDiv,Nat.reduceBEq]):aN IT P W ops FIN S0 ps n (k+1) m U:=by
 subst hS hps e;exact aany_n hops is hr hne h
theorem aN_0 (hops:ops=ops0)(hS:S0=L)(hps:ps=PL)(h:FIN S U)(hr:Region.ready .any ops0 ⟨bl n m⟩=[]:=by kernel_rfl)(e:zap L (upS PL (bl n m))=S:=by dsimp only[zap,List.foldl,List.set,upS,bl,Nat.reduceMod,Nat.reduceDiv,Nat.reduceBEq]):aN IT P W ops FIN S0 ps n 0 m U:=by
 subst hS hps e;exact aany_0 hops hr h
theorem zfq {i:Nat} (h:aN IT P W ops FIN S0 ps n k m' U)(hS:S0=L)(hps:ps=PL)(hb:(bl n m).set i true=bl n m':=by kernel_rfl)(e:zap L (upS PL (bl n m'))=S:=by kernel_rfl):zpq IT P W ops FIN k ⟨(bl n m).set i true⟩ S U:=by
 subst hS hps e;rw[hb];exact h
theorem zya {k':Nat} {l:Array Bool} (h:aN IT P W ops FIN S0 ps n k 0 U)(hps:ps=PL)(hk:k=k':=by kernel_rfl)(hb:(⟨bl n 0⟩:Array Bool)=l:=by kernel_rfl)(e:upS PL (bl n 0)=[]:=by kernel_rfl):zpq IT P W ops FIN k' l S0 U:=by
 subst hps hk hb;have h':zpq IT P W ops FIN k ⟨bl n 0⟩ (zap S0 (upS ps (bl n 0))) U:=h;rw[e] at h';exact h'
end
@[reducible] def AV.i (x:Int):AV:= .raw (.int .i64 x)
@[reducible] def AV.u (x:Int):AV:= .raw (.int .u8 x)
@[reducible] def AV.b (x:Bool):AV:= .raw (.bool x)
@[reducible] def AV.s (x:List UInt8):AV:= .raw (.string (bs x))
def mvOf:Op->Option Nat
 | .move (.tmp k)=>some k
 | .assign (.tmp k)=>some k
 |_=>none
section
variable {IT:IterP} {P:Program} {W:Owed} {ops ops0:Array Oper} {Q:List AV->St->Prop} {K:List AV->Prop} {o:Oper} {l:List Oper} {S S':List AV} {U U' U'':St} {a:AV} {k:Nat}
theorem ztt (ho:mvOf o.op=some k)(hv:S[k]? =some a):zcx S o=none/\ zdh S o=none/\ qop P (zbz S) U o=some a:=by
 have h:o.op= .move (.tmp k) \/o.op= .assign (.tmp k):=by
  unfold mvOf at ho;split at ho<;>cases ho
  ·rename_i h;exact .inl h
  ·rename_i h;exact .inr h
 rcases h with h|h<;>simp[zcx,zdh,qop,h,zbz,hv]
theorem zar (kk:zcb IT P W ops Q l S' U)(ho:mvOf o.op=some k:=by exact rfl)(hg:o.guard=none:=by exact rfl)(hv:S[k]? =some a:=by exact rfl)(hS:zah S o.dst a=S':=by dsimp only[zah,List.set]):zcb IT P W ops Q (o::l) S U:=by
 obtain⟨h1,h2,h3⟩:=ztt (P:=P) (U:=U) ho hv;exact zoy hg h1 h2 (zaz h3) hS kk
theorem zhv (kk:zed IT P ops U K l S')(ho:mvOf o.op=some k:=by exact rfl)(hd:(o.dst.all fun d=>decide (d<S.length))=true:=by exact rfl)(hg:o.guard=none:=by exact rfl)(hv:S[k]? =some a:=by exact rfl)(hS:zah S o.dst a=S':=by dsimp only[zah,List.set]):zed IT P ops U K (o::l) S:=by
 obtain⟨h1,h2,h3⟩:=ztt (P:=P) (U:=U) ho hv;exact qko hd hg h1 h3 hS kk
def exOf:Op->Option (Nat×Nat)
 | .extract (.tmp k) i=>some (k,i)
 |_=>none
theorem z0c {i:Nat} {vs:List AV} (ho:exOf o.op=some (k,i))(hv:S[k]? =some (.tup vs))(hi:vs[i]? =some a):zcx S o=none/\ zdh S o=none/\ qop P (zbz S) U o=some a:=by
 have h:o.op= .extract (.tmp k) i:=by
  unfold exOf at ho;split at ho<;>cases ho
  rename_i h;exact h
 simp[zcx,zdh,qop,h,zbz,hv,hi]
theorem h_ex {i:Nat} {vs:List AV} (kk:zed IT P ops U K l S')(ho:exOf o.op=some (k,i):=by exact rfl)(hd:(o.dst.all fun d=>decide (d<S.length))=true:=by exact rfl)(hg:o.guard=none:=by exact rfl)(hv:S[k]? =some (.tup vs):=by exact rfl)(hi:vs[i]? =some a:=by exact rfl)(hS:zah S o.dst a=S':=by dsimp only[zah,List.set]):zed IT P ops U K (o::l) S:=by
 obtain⟨h1,h2,h3⟩:=z0c (P:=P) (U:=U) ho hv hi;exact qko hd hg h1 h3 hS kk
end
section
variable {P:Program} {fn:Func} {S:List AV} {U:St}
theorem zal {y r:Bool} (hr:some y=some r)(h:zav P fn U S=some (.raw (.bool y)):=by exact rfl):zwg P fn (.raw (.bool r)) .ret S U:=zdz (fun(r:Bool)=>(.raw (.bool r):AV)) hr h rfl rfl
theorem zkj {k:IntKind} {y r:Int} (hr:some y=some r)(h:zav P fn U S=some (.raw (.int k y)):=by exact rfl):zwg P fn (.raw (.int k r)) .ret S U:=zdz (fun(r:Int)=>(.raw (.int k r):AV)) hr h rfl rfl
theorem qja {y r:List UInt8} (hr:some y=some r)(h:zav P fn U S=some (.raw (.string (bs y))):=by exact rfl):zwg P fn (.raw (.string (bs r))) .ret S U:=zdz (fun(r:List UInt8)=>(.raw (.string (bs r)):AV)) hr h rfl rfl
end
section
variable {IT:IterP} {P:Program} {W:Owed} {ops ops0:Array Oper} {FIN:List AV->St->Prop} {S0 L S:List AV} {ps PL:List (Option (Nat×AV))} {n k m m':Nat} {U:St} {o o' o'':Oper}
theorem qkz (hops:ops=ops0)(hS:S0=L)(hps:ps=PL)(i:Nat)(h:zcb IT P W ops (fun S U=>zpq IT P W ops FIN k ⟨(bl n m).set i true⟩ S U) [o] S U)
 (ho:ops0.toList[i]? =some o:=by exact rfl) (hr:Region.ready .any ops0 ⟨bl n m⟩=[i]:=by kernel_rfl) (e:zap L (upS PL (bl n m))=S:=by dsimp only[zap,List.foldl,List.set,upS,bl,Nat.reduceMod,Nat.reduceDiv,Nat.reduceBEq]):aN IT P W ops FIN S0 ps n (k+1) m U:=
 aN_n hops hS hps [i] (all_cons (zqw hops ho h) all_nil) hr (by simp) e
theorem aN_2 (hops:ops=ops0)(hS:S0=L)(hps:ps=PL)(i j:Nat)(h:zcb IT P W ops (fun S U=>zpq IT P W ops FIN k ⟨(bl n m).set i true⟩ S U) [o] S U)(h':zcb IT P W ops (fun S U=>zpq IT P W ops FIN k ⟨(bl n m).set j true⟩ S U) [o'] S U)
 (ho:ops0.toList[i]? =some o:=by exact rfl) (ho':ops0.toList[j]? =some o':=by exact rfl) (hr:Region.ready .any ops0 ⟨bl n m⟩=[i,j]:=by kernel_rfl) (e:zap L (upS PL (bl n m))=S:=by dsimp only[zap,List.foldl,List.set,upS,bl,Nat.reduceMod,Nat.reduceDiv,Nat.reduceBEq]):aN IT P W ops FIN S0 ps n (k+1) m U:=
 aN_n hops hS hps [i,j] (all_cons (zqw hops ho h) (all_cons (zqw hops ho' h') all_nil)) hr (by simp) e
theorem aN_3 (hops:ops=ops0)(hS:S0=L)(hps:ps=PL)(i j q:Nat)(h:zcb IT P W ops (fun S U=>zpq IT P W ops FIN k ⟨(bl n m).set i true⟩ S U) [o] S U)(h':zcb IT P W ops (fun S U=>zpq IT P W ops FIN k ⟨(bl n m).set j true⟩ S U) [o'] S U)(h'':zcb IT P W ops (fun S U=>zpq IT P W ops FIN k ⟨(bl n m).set q true⟩ S U) [o''] S U)
 (ho:ops0.toList[i]? =some o:=by exact rfl) (ho':ops0.toList[j]? =some o':=by exact rfl) (ho'':ops0.toList[q]? =some o'':=by exact rfl) (hr:Region.ready .any ops0 ⟨bl n m⟩=[i,j,q]:=by kernel_rfl) (e:zap L (upS PL (bl n m))=S:=by dsimp only[zap,List.foldl,List.set,upS,bl,Nat.reduceMod,Nat.reduceDiv,Nat.reduceBEq]):aN IT P W ops FIN S0 ps n (k+1) m U:=
 aN_n hops hS hps [i,j,q] (all_cons (zqw hops ho h) (all_cons (zqw hops ho' h') (all_cons (zqw hops ho'' h'') all_nil))) hr (by simp) e
end
def bzc:Bool->Nat->List Nat->List Nat
 |true,i,l=>i::l
 |false,_,l=>l
def bz:Nat->Nat->Nat->List Nat
 |_,0,_=>[]
 |i,n+1,m=>bzc (m%2==1) i (bz (i+1) n (m/2))
section
variable {IT:IterP} {P:Program} {W:Owed} {k0:Nat} {ops:Array Oper} {Q:List AV->St->Prop} {o:Oper} {l:List Oper} {S S':List AV} {U U':St} {f:FuncId} {args args':List AV} {r:AV}
theorem zdi {c:Code} {Q:AQ} (h:awp IT P W k0 c Q S' U)(hS:S=S':=by dsimp only[zap,zbi,List.foldl,List.set,bz,bzc,Nat.reduceMod,Nat.reduceDiv,Nat.reduceBEq,Nat.reduceAdd]):awp IT P W k0 c Q S U:=zbv hS rfl h
theorem zbe {n0:Nat} (m:List Bool)(h:fgM m S=S':=by kernel_rfl)(hσ:U'=U:=by kernel_rfl):Wk n0 S U S' U':=zpl m h hσ
end
end Go.Ab
