import Derived.Test.YtjkcellkmmfkdaaGreatDoorZdL
set_option linter.all false
open Nat (le_refl)
namespace Go.Ab
open Go Go.RowKit Go.Fwd
variable {IT:IterP} {P:Program} {X Y:Cx} {U U':St} {S S':List AV} {n n0:Nat}
def qfj (P:Program)(U:St)(S:List AV):ResultVar->Option AV
 | .tmp t=>some ((S[t]?).getD (.raw undef))
 | .cell t ty=>zzt P U ty ((S[t]?).getD (.raw undef))
def z6i (P:Program)(U:St)(S:List AV):List ResultVar->Option (List AV)
 |[]=>some []
 |x::l=>match qfj P U S x,z6i P U S l with|some a,some r=>some (a::r)|_,_=>none
def zar (P:Program)(fn:Func)(U:St)(S:List AV):Option AV:=
 match z6i P U S fn.results.toList with
 |some [a]=>some a
 |some l=>some (.tup l)
 |none=>none
theorem z1w {tmps:Array Value} {x:ResultVar} {a:AV} (h:qfj P U S x=some a)(hr:zlr IT X S tmps)(hI:Inv IT U X):
 ∃v,((match x with| .tmp t=>pure (tmps.getD t undef)| .cell a t=>do loadVar t (<-asAddr (tmps.getD a undef))):Sem Value).run P X.w= .ok v X.w/\ Rep IT X a v:=by
 have hev: ∀t,Rep IT X ((S[t]?).getD (.raw undef)) (tmps.getD t undef):=fun t=>zcz (a:={tmps:=tmps,defers:=[]}) hr (.tmp t);cases x with
 | tmp t=>
  simp only[qfj,Option.some.injEq] at h;subst h;exact⟨_,rfl,hev t⟩
 | cell t ty=>
  simp only[qfj] at h;obtain⟨v,h1,h2⟩:=zqu (P:=P) h (hev t) hI;refine⟨v,?_,h2⟩;have hp: ∃ad,tmps.getD t undef= .pointer (some ad):=by
   have:=hev t;generalize (S[t]?).getD (.raw undef)=y at h this
   cases y with
   |ptr s off=>rw[Rep] at this;obtain⟨b,_,e⟩:=this;exact⟨_,e⟩
   |iptr cs=>rw[Rep] at this;obtain⟨b,o,e,_⟩:=this;exact⟨_,e⟩
   |_=>cases h
  obtain⟨ad,e⟩:=hp;rw[e] at h1;simp only[Instr.loadAt,Instr.sureAddr,Sem.run_bind,Sem.run_pure,Result.andThen_ok] at h1;simp only[e,asAddr,Sem.run_bind,Sem.run_pure,Result.andThen_ok,h1]
theorem zsi {tmps:Array Value} (hr:zlr IT X S tmps)(hI:Inv IT U X): ∀(l:List ResultVar) (r:List AV),z6i P U S l=some r->
 ∃vs,(l.mapM fun x=>((match x with| .tmp t=>pure (tmps.getD t undef)| .cell a t=>do loadVar t (<-asAddr (tmps.getD a undef))):Sem Value)).run P X.w= .ok vs X.w/\ zbe IT X r vs
 |[],r,h=>by simp[z6i] at h;subst h;exact⟨[],by simp,by rw[zbe]⟩
 | x::l,r,h=>by
  simp only[z6i] at h;split at h<;>cases h
  rename_i a r' h1 h2;obtain⟨v,e1,e2⟩:=z1w h1 hr hI;obtain⟨vs,k1,k2⟩:=zsi hr hI l r' h2;refine⟨v::vs,?_,by rw[zbe];exact⟨v,vs,rfl,e2,k2⟩⟩;rw[List.mapM_cons];simp only[Sem.run_bind,e1,Result.andThen_ok,k1,Sem.run_pure]
theorem zly {fn:Func} {tmps:Array Value} {a:AV} (h:zar P fn U S=some a)(hr:zlr IT X S tmps)(hI:Inv IT U X):
 ∃v,(results fn tmps).run P X.w= .ok v X.w/\ Rep IT X a v:=by
 unfold zar at h;have run: ∀r,z6i P U S fn.results.toList=some r-> ∃vs,(results fn tmps).run P X.w= .ok (if h:vs.length=1 then vs[0] else .tuple vs.toArray) X.w/\ zbe IT X r vs:=fun r hr'=>by
  obtain⟨vs,k1,k2⟩:=zsi hr hI _ r hr';refine⟨vs,?_,k2⟩;unfold results;rw[Array.mapM_eq_mapM_toList];simp only[Sem.run_bind,Sem.run_map,Sem.run_pure];exact congrArg (fun r:Result (List Value)=>(r.andThen (fun a w'=>Result.ok a.toArray w')).andThen fun a w'=>Result.ok (if h:a.size=1 then a[0] else Value.tuple a) w') k1
 split at h
 ·rename_i b hl;cases h;obtain⟨vs,k1,k2⟩:=run _ hl;rw[zbe] at k2;obtain⟨v,r,rfl,k3,k4⟩:=k2;rw[zbe] at k4;subst k4;exact⟨v,by simpa using k1,k3⟩
 ·rename_i l hne hl;cases h;obtain⟨vs,k1,k2⟩:=run _ hl;have hlen:=zq k2;refine⟨.tuple vs.toArray,?_,by rw[Rep];exact⟨vs,rfl,k2⟩⟩;rw[k1,dif_neg];intro h1;obtain⟨x,rfl⟩:=List.length_eq_one_iff.1 (hlen.trans h1);exact hne x rfl
 ·cases h
theorem zkg {F:Fence} {fn:Func} {tmps:Array Value} {R:Ending->World->Prop} {B:Nat}: ∀(Ds:List Nat) (w:World),Ds.Nodup->(∀D∈Ds,B<=D/\ w.heap[D]? =some (.deferred (some [])))->
 (∀W',Turn B w W'-> ∃v,(results fn tmps).run P W'= .ok v W'/\ R (.returned v) W')->LeavesInM F n P fn tmps R (Ds.map fun D=>{target:= .collected D,args:= #[]}) .returning w
 | [],w,_,_,h=>by
  obtain⟨v,h1,h2⟩:=h w ⟨rfl,rfl,rfl,le_refl _,le_refl _,fun _ _ h _=>h⟩;exact⟨_,h1,h2⟩
 | D::Ds,w,hnd,hD,h=>by
  rw[List.nodup_cons] at hnd;obtain⟨hB,hd⟩:=hD D (by simp);have hT:=Turn.putObj (B:=B) (.deferred none) hB hd rfl;refine⟨by simp,.inl ⟨D,_,rfl,run_takeDeferred hd,?_⟩⟩;refine zkg Ds _ hnd.2 (fun D' h'=>⟨(hD D' (by simp[h'])).1,?_⟩) fun W' hT'=>h W' ?_
  ·exact(World.putObj_heap_other (by intro e;subst e;exact hnd.1 h')).trans (hD D' (by simp[h'])).2
  ·exact⟨hT'.os.trans hT.os,hT'.tape.trans hT.tape,hT'.output.trans hT.output,Nat.le_trans hT.size hT'.size,Nat.le_trans hT.drawn hT'.drawn,fun k o hk hc=>hT'.same k o (hT.same k o hk hc) hc⟩
def zad (fn:Func)(args:List AV):List AV:=args++List.replicate (fn.ntmps-args.length) (.raw undef)
def Ends (P:Program)(U:St)(a r:AV):Prop:= ∀(Y:Cx) (v:Value),Inv (ITP P) U Y->Rep (ITP P) Y a v-> ∃F':Nat->Nat->Prop,(∀b o,Y.F b o->F' b o)/\ (∀b o,F' b o->Y.F b o \/b∈Y.κ)/\
 (∀b o,F' b o-> ∃v,Y.w.cell? ⟨b,o,none⟩=some v)/\ Rep (ITP P) ⟨F',[],[],[],Y.w,Y.O,Y.C⟩ r v
theorem ztt {a r:AV} (h1:zbi 0 a=true)(h2:zcw a=r):Ends P U a r:=fun Y v hI hv=>by
 subst h2;exact⟨Y.F,fun _ _ h=>h,fun _ _ h=> .inl h,hI.Fcell,zhk (X:=Y) (Y:=⟨Y.F,[],[],[],Y.w,Y.O,Y.C⟩) (ze P) rfl rfl a v (.inl h1) hv⟩
def ztl (P:Program)(fn:Func)(r:AV):AQ
 | .exit _,_,_=>False
 |_,S,U=> ∃a,zar P fn U S=some a/\ Ends P U a r
def z3d (P:Program)(n m:Nat)(U:St)(a r:AV)(U':St):Prop:= ∀(X Y:Cx) (v:Value),Ext X Y->X.κ.length=n->X.lens.length=m->Inv (ITP P) U Y->Rep (ITP P) Y a v-> ∃X',X'.w=Y.w/\ Ext X X'/\ Inv (ITP P) U' X'/\ Rep (ITP P) X' r v
theorem ztb {m:Nat} {a r:AV} (fs js:List Nat)(d:Nat)(hok:zcs U n js=true)(hr:zgv m (kz U.boxes m n fs js d) a=r)(hσ:zed U m n fs js d=U'):z3d P n m U a r U':=fun X Y v hE hn hm hI hv=>by
 subst hr hσ;exact⟨zct U m n fs js Y,rfl,zqg hE hI hok (by omega) (by omega),zqj (ze P) hI hok d,zjg (X:=Y) (Y:=zct U m n fs js Y) (ze P) (fun b o h=>Or.inl h) rfl zhd (znu (ze P) hI hok d) _ _ hv⟩
theorem qcv {m:Nat} {a r:AV} (h1:zbi n a=true)(h2:zxs n U=true)(h3:a=r)(h4:zem n U=U'):z3d P n m U a r U':=fun X Y v hE hn hm hI hv=>by
 subst h3 h4;have htr:=z6c (M:=none) (ze P) none (F:=Fence.wide.inRound 0) (B:=0) (S:=[]) (a:={tmps:= #[],defers:=[]}) ⟨hE,hI,by unfold zlr;rw[zbe],⟨Nat.zero_le _,fun h=>absurd h (zlb 0),fun _=>rfl⟩,trivial⟩ (Nat.le_of_eq hn) h2;exact⟨{Y with κ:=Y.κ.take n},rfl,htr.ext,htr.inv,zqi (X:=Y) (Y:={Y with κ:=Y.κ.take n}) (ze P) rfl rfl rfl rfl rfl a v h1 hv⟩
def aendS (P:Program)(fn:Func)(n m:Nat)(r:AV)(U':St):AQ
 | .exit _,_,_=>False
 |_,S,U=> ∃a,zar P fn U S=some a/\ z3d P n m U a r U'
def z3n (P:Program)(fn:Func)(n:Nat):AQ
 | .exit _,_,_=>False
 |_,S,U=>(∃a,zar P fn U S=some a)/\ (U.stop=true \/U.out=n)
theorem zkt (hmix:P.follows .mixedOrders=true) {f:FuncId} {fn:Func} {c:Code} {args:List AV} {U:St} {Q:AQ} {X:Cx} {vs:List Value} {R:Ending->World->Prop} {M:Option Gen} (hG:zrn P X.w.heap.size M)(hf:P.funcs[f]? =some fn)(hb:fn.body=some c)
 {k0:Nat} (hk0:U.boxes.length=k0) (h:awp (ITP P) P (zdk M) k0 c Q (zad fn args) U) (hI:Inv (ITP P) U X) (hM:FrM M U X) (hr:zbe (ITP P) X args vs)
 (hQ: ∀e S U' Y,Q e S U'->Rel M X Y->Inv (ITP P) U' Y->FrM M U' Y->(e= .normal \/e= .ret)/\ ∃a,zar P fn U' S=some a/\ ∀v,Rep (ITP P) Y a v->R (.returned v) Y.w):Calls P f vs.toArray X.w R:=by
 refine(callsIn_wide (n:=3)).1 (callsIn_of_wp_marks hf hb trivial ?_ rfl);have hlen:=zq hr;have hreps:zlr (ITP P) X (zad fn args) (vs.toArray++Array.replicate (fn.ntmps-vs.toArray.size) undef):=by
  unfold zlr zad;have e:(vs.toArray++Array.replicate (fn.ntmps-vs.toArray.size) undef).toList=vs++List.replicate (fn.ntmps-args.length) undef:=by simp[hlen]
  rw[e];refine zbk hr (zfg (by simp) fun i a v h1 h2=> ?_);have h1:=List.eq_of_mem_replicate (List.mem_of_getElem? h1);have h2:=List.eq_of_mem_replicate (List.mem_of_getElem? h2);subst h1 h2;rw[Rep]
 refine ztd hmix c (M:=M) (B:=X.w.heap.size) hG (zpv P) k0 Q _ U X X {tmps:=vs.toArray++Array.replicate (fn.ntmps-vs.toArray.size) undef,defers:=[]} _ (Nat.le_of_eq (hI.κlen.trans hk0)) ⟨le_refl _,U,hI⟩ h
  ⟨Rel.of (Ext.refl X),hI,hreps,⟨le_refl _,fun _=>⟨le_refl _,[],rfl,List.nodup_nil,by simp⟩,fun h=>absurd rfl h⟩,hM⟩ (.inl (.inl rfl)) ?_
 intro e S U' Y a hq hn;obtain⟨_,Ds,d1,d2,d3⟩:=hn.marks.2.1 rfl;have key:(e= .normal \/e= .ret)/\ LeavesInM Fence.wide 3 P fn a.tmps R a.defers .returning Y.w:=by
  obtain⟨he,_⟩:=hQ e S U' Y hq hn.ext hn.inv hn.frn;refine⟨he,?_⟩;rw[d1];refine zkg (B:=X.w.heap.size) Ds Y.w d2 d3 fun W' hT=> ?_;obtain⟨k1,k2,k3,_,k5⟩:=zka (N:=fun _=>False) (NB:=fun _=>False) (Bm:=X.w.heap.size) hG (le_refl _) (fun _ h=>h.elim) (RelB.of hn.ext) hn.inv hn.frn (zjq M Y) (le_refl _) (zil hn.inv (zjq M Y) hn.ext.size hT);obtain⟨_,x,hx,hv⟩:=hQ e S U' _ hq (k1.to fun _ h=>h.elim) k2 k3;obtain⟨v,r1,r2⟩:=zly (P:=P) (fn:=fn) hx (show zlr (ITP P) {Y with w:=W'} S a.tmps from zbn (ze P) k5 _ _ hn.reps) k2;exact⟨v,r1,hv v r2⟩
 obtain⟨he,hl⟩:=key;rcases he with rfl|rfl<;>exact hl
theorem zfh (hmix:P.follows .mixedOrders=true) {f:FuncId} {fn:Func} {c:Code} {args:List AV} {r:AV} (hf:P.funcs[f]? =some fn)(hb:fn.body=some c)(he:Ent P f)
    (h:awp (ITP P) P none 0 c (ztl P fn r) (zad fn args) St.empty):Pure (ITP P) P f args r:=by
  refine⟨he,fun X vs hI hr=>zkt (M:=none) hmix trivial hf hb (U:=St.empty) (k0:=0) rfl h hI trivial hr ?_⟩;intro e S U' Y hq (hE:Ext X Y) hIY _;have hκ:X.κ=[]:=by have:=hI.κlen;simpa[St.empty] using this
  have hl:X.lens=[]:=hI.lens;have hβ:X.β=[]:=by have:=hI.βlen;rw[hl] at this;simpa using this
  have fin : ∀ a,zar P fn U' S=some a->Ends P U' a r-> ∃a,zar P fn U' S=some a/\ ∀v,Rep (ITP P) Y a v->
      ∃v' X',Ending.returned v= .returned v'/\ X'.w=Y.w/\ Ext X X'/\ Inv (ITP P) St.empty X'/\ Rep (ITP P) X' r v':=fun a h1 h2=>by
    refine⟨a,h1,fun v hv=> ?_⟩;obtain⟨F',f1,f2,f3,f4⟩:=h2 Y v hIY hv;refine⟨v,⟨F',[],[],[],Y.w,Y.O,Y.C⟩,rfl,rfl,?_,?_,f4⟩
    . exact { os :=hE.os,tape:=hE.tape,output:=hE.output,size:=hE.size,drawn:=hE.drawn,F:=fun b o h=>f1 b o (hE.F b o h),cell:=hE.cell
              κ:=fun s b hs=>by rw[hκ] at hs;simp at hs
              lens:=fun s L hs=>by rw[hl] at hs;simp at hs
              blk:=fun s b hs=>by rw[hκ] at hs;simp at hs
              szs:=hE.szs
              frame:=hE.frame
              κnew:=fun b hb=>by simp at hb
              βnew:=fun r hr=>by simp at hr
              O:=hE.O
              C:=hE.C
              Fnew:=fun b o h=>(f2 b o h).elim (hE.Fnew b o) fun hm=>by
                rcases hE.κnew b hm with h|h
                . rw[hκ] at h;simp at h
                . exact .inr (.inl h)}
    . exact { lens:=rfl,elems:=rfl,κlen:=rfl,κnd:=fun s s' b h=>by simp at h,box:=fun s b t cs h=>by simp at h,κF:=fun s b t cs h=>by simp at h,βlen:=rfl,βnd:=List.nodup_nil,βκ:=fun r h=>by simp at h
              row:=fun s r L h=>by simp at h
              Ok :=fun b hb=>by
                obtain⟨k1,k2,k3,k4⟩:=hIY.Ok b hb;exact⟨k1,by simp,by simp,fun o hf=>(f2 b o hf).elim (k4 o) fun hm=>absurd hm k2⟩
              Fcell:=f3
              gv:=(ze P).gv _ _ _ _ f1 (fun _ _ _=>rfl) (Szs.refl _) hIY.gv}
  cases e with
  |normal=>obtain⟨a,h1,h2⟩:=hq;exact⟨.inl rfl,fin a h1 h2⟩
  |ret=>obtain⟨a,h1,h2⟩:=hq;exact⟨.inr rfl,fin a h1 h2⟩
  |exit id=>exact hq.elim
theorem qag (hmix:P.follows .mixedOrders=true) {f:FuncId} {fn:Func} {c:Code} {args:List AV} {U U':St} {r:AV} (hf:P.funcs[f]? =some fn)(hb:fn.body=some c)(he:Ent P f)
 (h:awp (ITP P) P none U.boxes.length c (aendS P fn U.boxes.length U.lens.length r U') (zad fn args) U):Snd (ITP P) P f args U r U':=by
 refine⟨he,fun X vs hI hr=>zkt (M:=none) hmix trivial hf hb rfl h hI trivial hr ?_⟩;intro e S U1 Y hq (hE:Ext X Y) hIY _;have hκn:=hI.κlen
 have fin: ∀a,zar P fn U1 S=some a->z3d P U.boxes.length U.lens.length U1 a r U'-> ∃a,zar P fn U1 S=some a/\ ∀v,Rep (ITP P) Y a v->
  ∃v' X',Ending.returned v= .returned v'/\ X'.w=Y.w/\ Ext X X'/\ Inv (ITP P) U' X'/\ Rep (ITP P) X' r v':=fun a h1 h2=>⟨a,h1,fun v hv=>by
  obtain⟨X',k1,k2,k3,k4⟩:=h2 X Y v hE hκn (by rw[hI.lens]) hIY hv;exact⟨v,X',rfl,k1,k2,k3,k4⟩⟩
 cases e with
 |normal=>obtain⟨a,h1,h2⟩:=hq;exact⟨.inl rfl,fin a h1 h2⟩
 |ret=>obtain⟨a,h1,h2⟩:=hq;exact⟨.inr rfl,fin a h1 h2⟩
 |exit id=>exact hq.elim
theorem qgt (hmix:P.follows .mixedOrders=true) {g:FuncId} {fn:Func} {c:Code} {caps:List AV} {lb:List Value} {rows:List (List AV)} {F0:Nat->Nat->Prop} {w0:World} {O C} (hf:P.funcs[g]? =some fn)(hb:fn.body=some c)
    (h: ∀G:Gen,G.rows=rows->awp (ITP P) P (some G) 0 c (z3n P fn rows.length) (zad fn (.yld G.l::caps)) St.empty) (hr:zbe (ITP P) ⟨F0,[],[],[],w0,O,C⟩ caps lb) (hgv:(ITP P).gv F0 w0):IterX P g lb.toArray rows (fun _=>False) F0 w0:=by
  intro l W J Jx s0 hc hz _ hG hF0 hO hC hJ
  have hI:Inv (ITP P) St.empty ⟨F0,[],[],[],W,s0.O,s0.C⟩:=
    { lens:=rfl,elems:=rfl,κlen:=rfl,κnd:=fun s s' b h=>by simp at h,box:=fun s b t cs h=>by simp at h,κF:=fun s b t cs h=>by simp at h,βlen:=rfl,βnd:=List.nodup_nil,βκ:=fun r h=>by simp at h
      row:=fun s r L h=>by simp at h
      Ok:=fun b hb=>⟨hO b hb,by simp,by simp,fun o hf=>(hF0 b o hf).resolve_left (fun h=>h hb)⟩
      Fcell:=fun b o hf=>(hc b o hf).1
      gv:=(ze P).gv _ _ _ _ (fun _ _ h=>h) (fun b o hf=>(hc b o hf).2) hz hgv}
  have hr':zbe (ITP P) ⟨F0,[],[],[],W,s0.O,s0.C⟩ (.yld l::caps) (.func (.yield l) #[] #[]::lb):=
    ⟨_,lb,rfl,rfl,zbn (X:=⟨F0,[],[],[],w0,O,C⟩) (X':=⟨F0,[],[],[],W,s0.O,s0.C⟩) (ze P) ⟨fun _ _ h=>h,fun b o hf=>(hc b o hf).2,fun _ _ h=>h,fun s L h=>by simp at h,fun s b h=>by simp at h,hz⟩ _ _ hr⟩
  have hFr:FrM (some ⟨W.heap.size,F0,l,rows,J,Jx,fun _=>False⟩) St.empty ⟨F0,[],[],[],W,s0.O,s0.C⟩:=
    ⟨s0,fun _=>Iff.rfl,⟨fun _ _=>Iff.rfl,fun b o hc=> .inr ⟨hC b o hc,by simp,by simp⟩⟩,hJ,le_refl _,by simp,by simp,fun b o hf=> .inl hf⟩
  have e:(#[.func (.yield l) #[] #[]]++lb.toArray:Array Value)=(Value.func (.yield l) #[] #[]::lb).toArray:=by simp
  rw[e];refine zkt (M:=some ⟨W.heap.size,F0,l,rows,J,Jx,fun _=>False⟩) (X:=⟨F0,[],[],[],W,s0.O,s0.C⟩) hmix ⟨hG,le_refl _⟩ hf hb (k0:=0) rfl (h _ rfl) hI hFr hr' ?_;intro e S U' Y hq _ _ hF;have fin:(∃a,zar P fn U' S=some a)/\ (U'.stop=true \/U'.out=rows.length)-> ∃a,zar P fn U' S=some a/\ ∀v,Rep (ITP P) Y a v->(∃v',Ending.returned v= .returned v')/\ ∃s,(J rows.length s Y.w \/Jx s Y.w):=fun⟨⟨a,h1⟩,h2⟩=>by
    obtain⟨s,_,_,h3,_⟩:Fr _ U' Y:=hF;refine⟨a,h1,fun v _=>⟨⟨v,rfl⟩,s,?_⟩⟩;by_cases hst:U'.stop=true
    . rw[if_pos hst] at h3;exact .inr h3
    . rw[if_neg hst,h2.resolve_left hst] at h3;exact .inl h3
  cases e with
  |normal=>exact⟨.inl rfl,fin hq⟩
  |ret=>exact⟨.inr rfl,fin hq⟩
  |exit id=>exact hq.elim
mutual
def zlt:AV->Bool
 | .raw _=>true
 | .ptr _ _=>true
 | .bsl _ _ _ _ _=>true
 | .top=>true
 | .list _ cs st=>zgp cs&&decide (st≠ .none \/cs=[])&&(match st with| .own _=>false|_=>true)&&cs.isEmpty
 |_=>false
def zgp:List AV->Bool
 |[]=>true
 |a::l=>zlt a&&zgp l
end
theorem qhf (hκ:Y.κ=X.κ)(hw:Y.w=X.w): ∀(a:AV) (v:Value),zlt a=true->Rep IT X a v->Rep IT Y a v
 | .raw _,_,_,h=>h
 | .ptr s off,v,_,⟨b,h,e⟩=>⟨b,by rw[hκ];exact h,e⟩
 | .bsl s off n sz f,v,_,h=>Bsl.mono (X:=X) (Y:=Y) (fun b h=>by rw[hκ];exact h) hw h
 | .top,_,_,_=>by rw[Rep];trivial
 | .list n cs st,v,hf,⟨a,cap,e,h1,_,h3⟩=>by
  simp only[zlt,Bool.and_eq_true,List.isEmpty_iff] at hf;obtain⟨⟨_,hs⟩,rfl⟩:=hf;exact⟨a,cap,e,h1,.inl rfl,by cases st with|none=>trivial|full=>exact h3|own s=>cases hs⟩
 | .agg _,_,h,_=>by simp[zlt] at h
 | .tup _,_,h,_=>by simp[zlt] at h
 | .iptr _,_,h,_=>by simp[zlt] at h
 | .clos _ _,_,h,_=>by simp[zlt] at h
 | .iter _,_,h,_=>by simp[zlt] at h
 | .yld _,_,h,_=>by simp[zlt] at h
 | .bad,_,h,_=>by simp[zlt] at h
theorem zzp (hκ:Y.κ=X.κ)(hw:Y.w=X.w): ∀(l:List AV) (vs:List Value),zgp l=true->zbe IT X l vs->zbe IT Y l vs
 |[],_,_,h=>h
 | a::l,vs,hf,⟨v,r,e,h1,h2⟩=>by
  rw[zgp,Bool.and_eq_true] at hf;exact⟨v,r,e,qhf hκ hw a v hf.1 h1,zzp hκ hw l r hf.2 h2⟩
theorem z2u (h:Wk1 n0 S U S' U'):U'.out=U.out/\ U'.stop=U.stop:=by
 rcases h with⟨_,(rfl|⟨n,_,_,_,rfl⟩)⟩|⟨n,fs,js,d,_,_,_,rfl⟩|⟨s,t,cs,_,_,rfl⟩|⟨s,k,t,cs,_,_,rfl⟩|⟨s,t,cs,_,_,rfl⟩<;>exact⟨rfl,rfl⟩
theorem wk_out (h:Wk n0 S U S' U'):U'.out=U.out/\ U'.stop=U.stop:=by
 induction h with
 |one h=>exact z2u h
 |step h _ ih=>exact⟨ih.1.trans (z2u h).1,ih.2.trans (z2u h).2⟩
def aendGS (P:Program)(fn:Func)(n n0:Nat)(bs':List (TypeId×List AV)):AQ
 | .exit _,_,_=>False
 |_,S,U=>(∃a,zar P fn U S=some a)/\ (U.stop=true \/(U.out=n/\ ∃U',Wk n0 [] U [] U'/\ U'.boxes=bs'/\ (bs'.all fun b=>zgp b.2)=true))
theorem qgn (hmix:P.follows .mixedOrders=true) {g:FuncId} {fn:Func} {c:Code} {caps:List AV} {rows:List (List AV)} (hne:rows≠errRows)(hf:P.funcs[g]? =some fn)(hb:fn.body=some c)(he:Ent P g)
 (h: ∀G:Gen,G.rows=rows->awp (ITP P) P (some G) 0 c (z3n P fn rows.length) (zad fn (.yld G.l::stripL caps)) St.empty) (hok:zab 0 caps=true) {X:Cx} {v:Value} (hgv:(ITP P).gv X.F X.w) (hv:Rep (ITP P) X (.clos g caps) v):Rep (ITP P) X (.iter rows) v:=by
 obtain⟨vs,rfl,hr⟩:=hv;exact .inr ⟨hne,g,vs.toArray,X.F,rfl,he,fun _ _ h=>h,qgt hmix hf hb h (O:=X.O) (C:=X.C) (zew (X:=X) (Y:=⟨X.F,[],[],[],X.w,X.O,X.C⟩) (ze P) rfl rfl caps vs (.inl hok) hr) hgv⟩
theorem qab (hmix:P.follows .mixedOrders=true) {U:St} {a:AV} {g:FuncId} {fn:Func} {c:Code} {caps:List AV} {rows:List (List AV)} (hne:rows≠errRows)(h0:Ends P U a (.clos g caps))(hf:P.funcs[g]? =some fn)(hb:fn.body=some c)(he:Ent P g)
 (h: ∀G:Gen,G.rows=rows->awp (ITP P) P (some G) 0 c (z3n P fn rows.length) (zad fn (.yld G.l::stripL caps)) St.empty) (hok:zab 0 caps=true):Ends P U a (.iter rows):=fun Y v hI hv=>by
 obtain⟨F',f1,f2,f3,f4⟩:=h0 Y v hI hv;exact⟨F',f1,f2,f3,qgn hmix hne hf hb he h hok ((ze P).gv _ _ _ _ f1 (fun _ _ _=>rfl) (Szs.refl _) hI.gv) f4⟩
theorem qfy {a r:AV} (n:Nat)(h:zgf (frz U.boxes n) a=r):Ends P U a r:=fun Y v hI hv=>by
 subst h;refine⟨qeb Y,fun _ _ h=> .inl h,fun b o h=>h.imp id And.left,fun b o h=> ?_,zpe (Y:=⟨qeb Y,[],[],[],Y.w,Y.O,Y.C⟩) (ze P) (fun b o h=>Or.inl h) rfl (qdf (ze P) hI n) a v hv⟩;rcases h with h|⟨_,h⟩
 ·exact hI.Fcell b o h
 ·exact h
def quiet (o:Oper):Bool:=
 match o.op with
 | .alloc _| .box _ _| .store _ _ _=>false
 | .call c=>match c.callee with| .builtin .append=>false|_=>true
 |_=>true
abbrev CallP:=FuncId->List AV->Option AV
abbrev CallS:=FuncId->List AV->St->Option (AV×St)
abbrev Run:=Code->Nat->List AV->St->Option (AExit×List AV×St)
def zui (P:Program)(cp:CallP)(cs:CallS)(o:Oper)(S:List AV)(U:St):Option (AV×St):=
 match zda S o with
 |some (f,args)=>if zab 0 args=true then(match cp f (stripL args) with|some r=>some (r,U)|none=>none) else(match cs f args U with|some (r,U')=>if U'.out=U.out/\ U'.stop=U.stop then some (r,U') else none|none=>none)
 | none=>match zdb S o with
  |some _=>none
  | none=>match aop P (zbv S) U o with
   |some r=>some r
   |none=>zvc P (zbv S) U o
def zvx (P:Program)(cp:CallP)(cs:CallS)(ops:Array Oper):List Oper->List AV->St->Option (List AV×St)
 |[],S,U=>some (S,U)
 | o ::l,S,U=>match o.guard with
  | none=>match zui P cp cs o S U with
   |some (a,U')=>zvx P cp cs ops l (zi S o.dst a) U'
   |none=>none
  | some (k,b)=>match zdo ops S k with
   | some c=>if c=some b then(match zui P cp cs o S U with
    |some (a,U')=>zvx P cp cs ops l (zi S o.dst a) U'
    |none=>none) else zvx P cp cs ops l (zi S o.dst (.raw undef)) U
   |none=>none
def zod (P:Program)(cp:CallP)(o:Oper)(S:List AV)(U:St):Option AV:=
 match zda S o with
 |some (f,args)=>if zab 0 args=true then cp f (stripL args) else none
 |none=>qop P (zbv S) U o
def zpr (P:Program)(cp:CallP)(ops:Array Oper)(size:Nat)(U:St):List Oper->List AV->Option (List AV)
 |[],S=>some S
 | o ::l,S=>if(o.dst.all fun d=>decide (d<size))=true then(match o.guard with
  | none=>match zod P cp o S U with
   |some a=>zpr P cp ops size U l (zi S o.dst a)
   |none=>none
  | some (k,b)=>match zdo ops S k with
   | some c=>if c=some b then(match zod P cp o S U with
    |some a=>zpr P cp ops size U l (zi S o.dst a)
    |none=>none) else zpr P cp ops size U l (zi S o.dst (.raw undef))
   |none=>none) else none
def zjx (P:Program)(cp:CallP)(ops:Array Oper)(size:Nat)(U:St):List Oper->List AV->Pend->Option (List AV×Pend)
 |[],S,ps=>some (S,ps)
 | o ::l,S,ps=>if(o.dst.all fun d=>decide (d<size))=true/\ (ps.all fun p=>o.dst !=some p.1)=true then(match o.guard with
  | none=>match zod P cp o S U with
   |some a=>zjx P cp ops size U l (zi S o.dst a) ps
   | none=>match o.op,o.dst with
    | .alloc t,some d=>match zlw P t with
     |some z=>zjx P cp ops size U l (S.set d .top) (ps++[(d,t,z)])
     |none=>none
    |_,_=>none
  | some (k,b)=>match zdo ops S k with
   | some c=>if c=some b then(match zod P cp o S U with
    |some a=>zjx P cp ops size U l (zi S o.dst a) ps
    |none=>none) else zjx P cp ops size U l (zi S o.dst (.raw undef)) ps
   |none=>none) else none
def quietB (o:Oper):Bool:=match o.op with| .alloc _=>true|_=>quiet o
def findB (ops:Array Oper)(size:Nat):Option Nat:=
 let n:=(ops.toList.takeWhile quietB).length
 if chk ops size n=true then some n else none
def zrx (Ea:List AV->St->Option (AExit×List AV×St))(Eb:List AV->St->Option (AExit×List AV×St))(ps:Array Tmp)(S0:List AV)(n:Nat):List (List AV)->St->Option (AExit×List AV×St)
 |[],U=>some (.normal,S0,U)
 | x ::xs,U=>match Ea (zix S0 ps x) U with
  | some (.normal,S1,U1)=>(match Eb S1 U1 with
   | some (e,S2,U2)=>if zxs n U2=true then(match e with
    | .normal=>zrx Ea Eb ps S0 n xs (zem n U2)
    |e=>some (e,S0,zem n U2)) else none
   |none=>none)
  |_=>none
def zjn (P:Program)(Ω:CallP)(E:Run)(f:FuncId)(args:List AV):Option AV:=
 match Ω f args with
 |some r=>some r
 | none=>match P.funcs[f]? with
  | some fn=>match fn.body with
   | some c=>if(zad fn args).length=fn.ntmps then(match E c fn.ntmps (zad fn args) St.empty with
    |some (.exit _,_,_)=>none
    | some (_,S,U)=>match zar P fn U S with
     |some a=>if zbi 0 a=true then some (zcw a) else none
     |none=>none
    |none=>none) else none
   |none=>none
  |none=>none
def zpo (P:Program)(Ψ:CallS)(E:Run)(f:FuncId)(args:List AV)(U:St):Option (AV×St):=
 match Ψ f args U with
 |some r=>some r
 |none=>match P.funcs[f]? with
 | some fn=>match fn.body with
  | some c=>if(zad fn args).length=fn.ntmps then(match E c fn.ntmps (zad fn args) U with
   |some (.exit _,_,_)=>none
   | some (_,S,U1)=>match zar P fn U1 S with
    |some a=>if zbi U.boxes.length a=true/\ zxs U.boxes.length U1=true then some (a,zem U.boxes.length U1) else none
    |none=>none
   |none=>none) else none
  |none=>none
 |none=>none
def qim (P:Program)(cp:CallP)(cs:CallS)(ops:Array Oper)(sz:Nat)(S:List AV)(U:St)(n:Nat):Option (List AV×St):=
 if chk ops sz n=true then(match zpr P cp ops sz U (ops.toList.take n) S with
  |some S1=>zvx P cp cs ops (ops.toList.drop n) S1 U
  |none=>none) else none
def qde (P:Program)(cp:CallP)(cs:CallS)(ops:Array Oper)(sz:Nat)(S:List AV)(U:St):Option (List AV×St):=
 (List.range ((ops.toList.takeWhile quiet).length+1)).reverse.findSome? (qim P cp cs ops sz S U)
variable {IT:IterP} {S:List AV} {U:St} {ops:Array Oper} {n:Nat}
theorem zlo {P:Program} {o:Oper} {K K':AV->Prop} (h: ∀a,K a->K' a)(k:zhn IT P o S U K):zhn IT P o S U K':=by
 unfold zhn at k⊢;split
 ·rename_i hc;rw[hc] at k;obtain⟨r,k1,k2,k3⟩:=k;exact⟨r,k1,k2,h _ k3⟩
 ·rename_i hc;rw[hc] at k;obtain⟨a,k1,k2⟩:=k;exact⟨a,k1,h _ k2⟩
theorem zxq {P:Program} {K:List AV->Prop} {K':List AV->Pend->Prop} (h: ∀S,K S->K' S []): ∀(l:List Oper) (S:List AV),zfp IT P ops U K l S->zej IT P ops U K' l S []
 |[],S,k=>h S k
 | o::l,S,k=>by
  simp only[zfp] at k;simp only[zej];refine⟨k.1,rfl,.inr ?_⟩;have k:=k.2;split
  ·rename_i hg;rw[hg] at k;exact zlo (fun a=>zxq h l _) k
  ·rename_i kb b hg;rw[hg] at k;obtain⟨c,k1,k2⟩:=k;refine⟨c,k1,?_⟩;split
   ·rename_i hc;rw[if_pos hc] at k2;exact zlo (fun a=>zxq h l _) k2
   ·rename_i hc;rw[if_neg hc] at k2;exact zxq h l _ k2
theorem qiv {P:Program} {W:Owed} {Q:List AV->St->Prop} (n:Nat)(h1:chk ops S.length n=true)(h2:zst ops.toList=true)(h3:zfp IT P ops U (fun S'=>zca IT P W ops Q (ops.toList.drop n) S' U) (ops.toList.take n) S):qbo IT P W ops Q S U:=
 ⟨n,h1,h2,zxq (fun S' h=>by
  have e:zlp U []=U:=by simp[zlp]
  show zca IT P W ops Q (ops.toList.drop n) S' (zlp U []);rw[e];exact h) _ _ h3⟩
section
variable {P:Program} {cp:CallP} {cs:CallS}
def qbf (P:Program)(cp:CallP):Prop:= ∀f args r,cp f args=some r->Pure (ITP P) P f args r
def qbw (P:Program)(cs:CallS):Prop:= ∀f args U r U',cs f args U=some (r,U')->Snd (ITP P) P f args U r U'
theorem zhv (hcp:qbf P cp)(hcs:qbw P cs) {o:Oper} {S:List AV} {U U':St} {a:AV} (h:zui P cp cs o S U=some (a,U')) {K:AV->St->Prop} (hK:K a U'):zfo (ITP P) P none o S U K:=by
 unfold zui at h;unfold zfo;split at h
 ·rename_i f args hc;rw[hc];simp only;split at h
  ·rename_i hok;split at h<;>cases h
   rename_i hr;exact⟨a,U,.inr (.inl ⟨rfl,hok,hcp _ _ _ hr⟩),hK⟩
  ·split at h<;>try cases h
   rename_i hs;split at h<;>cases h
   rename_i hos;exact⟨a,U',.inl ⟨hcs _ _ _ _ _ hs,hos⟩,hK⟩
 ·rename_i hc;rw[hc];simp only;split at h<;>try cases h
  rename_i hy;rw[hy];split at h
  ·rename_i r hr;cases h;exact .inl ⟨a,U',.inl hr,hK⟩
  ·exact .inl ⟨a,U',.inr (.inr (.inl h)),hK⟩
theorem zhe (hcp:qbf P cp)(hcs:qbw P cs) {ops:Array Oper}: ∀(l:List Oper) (S:List AV) (U:St) (S':List AV) (U':St),zvx P cp cs ops l S U=some (S',U')->S'.length=S.length/\ ∀Q:List AV->St->Prop,Q S' U'->zca (ITP P) P none ops Q l S U
 |[],S,U,S',U',h=>by simp only[zvx,Option.some.injEq,Prod.mk.injEq] at h;obtain⟨rfl,rfl⟩:=h;exact⟨rfl,fun Q h=>h⟩
 | o ::l,S,U,S',U',h=>by
  simp only[zvx] at h;simp only[zca];cases hg:o.guard with
  | none=>
   rw[hg] at h;simp only at h⊢;split at h<;>try cases h
   rename_i a U1 hs;obtain⟨h1,h2⟩:=zhe hcp hcs l _ _ _ _ h;exact⟨by rw[h1,zau],fun Q hQ=>zhv hcp hcs hs (h2 Q hQ)⟩
  | some kb=>
   obtain⟨k,b⟩:=kb;rw[hg] at h;simp only at h⊢;split at h<;>try cases h
   rename_i c hc;split at h
   ·rename_i e;split at h<;>try cases h
    rename_i a U1 hs;obtain⟨h1,h2⟩:=zhe hcp hcs l _ _ _ _ h;exact⟨by rw[h1,zau],fun Q hQ=>⟨c,hc,by rw[if_pos e];exact zhv hcp hcs hs (h2 Q hQ)⟩⟩
   ·rename_i e;obtain⟨h1,h2⟩:=zhe hcp hcs l _ _ _ _ h;exact⟨by rw[h1,zau],fun Q hQ=>⟨c,hc,by rw[if_neg e];exact h2 Q hQ⟩⟩
theorem zgs (hcp:qbf P cp) {o:Oper} {S:List AV} {U:St} {a:AV} (h:zod P cp o S U=some a) {K:AV->Prop} (hK:K a):zhn (ITP P) P o S U K:=by
 unfold zod at h;unfold zhn;split at h
 ·rename_i f args hc;rw[hc];simp only;split at h<;>try cases h
  rename_i hok;exact⟨a,hok,hcp _ _ _ h,hK⟩
 ·rename_i hc;rw[hc];exact⟨a,.inl h,hK⟩
theorem zho (hcp:qbf P cp) {ops:Array Oper} {size:Nat} {U:St}: ∀(l:List Oper) (S S':List AV),zpr P cp ops size U l S=some S'->S.length=size->S'.length=size/\ ∀K:List AV->Prop,K S'->zfp (ITP P) P ops U K l S
 |[],S,S',h,hl=>by simp only[zpr,Option.some.injEq] at h;subst h;exact⟨hl,fun K h=>h⟩
 | o ::l,S,S',h,hl=>by
  simp only[zpr] at h;simp only[zfp];split at h<;>try cases h
  rename_i hd;cases hg:o.guard with
  | none=>
   rw[hg] at h;simp only at h⊢;split at h<;>try cases h
   rename_i a hs;obtain⟨h1,h2⟩:=zho hcp l _ _ h (by rw[zau];exact hl);exact⟨h1,fun K hK=>⟨by rw[hl];exact hd,zgs hcp hs (h2 K hK)⟩⟩
  | some kb=>
   obtain⟨k,b⟩:=kb;rw[hg] at h;simp only at h⊢;split at h<;>try cases h
   rename_i c hc;split at h
   ·rename_i e;split at h<;>try cases h
    rename_i a hs;obtain⟨h1,h2⟩:=zho hcp l _ _ h (by rw[zau];exact hl);exact⟨h1,fun K hK=>⟨by rw[hl];exact hd,c,hc,by rw[if_pos e];exact zgs hcp hs (h2 K hK)⟩⟩
   ·rename_i e;obtain⟨h1,h2⟩:=zho hcp l _ _ h (by rw[zau];exact hl);exact⟨h1,fun K hK=>⟨by rw[hl];exact hd,c,hc,by rw[if_neg e];exact h2 K hK⟩⟩
theorem zfk (hcp:qbf P cp) {ops:Array Oper} {size:Nat} {U:St}: ∀(l:List Oper) (S S':List AV) (ps ps':Pend),zjx P cp ops size U l S ps=some (S',ps')->S.length=size->S'.length=size/\ ∀K:List AV->Pend->Prop,K S' ps'->zej (ITP P) P ops U K l S ps
 |[],S,S',ps,ps',h,hl=>by simp only[zjx,Option.some.injEq,Prod.mk.injEq] at h;obtain⟨rfl,rfl⟩:=h;exact⟨hl,fun K h=>h⟩
 | o ::l,S,S',ps,ps',h,hl=>by
  simp only[zjx] at h;simp only[zej];split at h<;>try cases h
  rename_i hd;cases hg:o.guard with
  | none=>
   rw[hg] at h;simp only at h⊢;split at h
   ·rename_i a hs;obtain⟨h1,h2⟩:=zfk hcp l _ _ _ _ h (by rw[zau];exact hl);exact⟨h1,fun K hK=>⟨by rw[hl];exact hd.1,hd.2,.inr (zgs hcp hs (h2 K hK))⟩⟩
   ·split at h<;>try cases h
    rename_i t d ho hdst;split at h<;>try cases h
    rename_i z hz;obtain⟨h1,h2⟩:=zfk hcp l _ _ _ _ h (by rw[List.length_set];exact hl);exact⟨h1,fun K hK=>⟨by rw[hl];exact hd.1,hd.2,.inl ⟨trivial,t,d,z,ho,hdst,hz,h2 K hK⟩⟩⟩
  | some kb=>
   obtain⟨k,b⟩:=kb;rw[hg] at h;simp only at h⊢;split at h<;>try cases h
   rename_i c hc;split at h
   ·rename_i e;split at h<;>try cases h
    rename_i a hs;obtain⟨h1,h2⟩:=zfk hcp l _ _ _ _ h (by rw[zau];exact hl);exact⟨h1,fun K hK=>⟨by rw[hl];exact hd.1,hd.2,.inr ⟨c,hc,by rw[if_pos e];exact zgs hcp hs (h2 K hK)⟩⟩⟩
   ·rename_i e;obtain⟨h1,h2⟩:=zfk hcp l _ _ _ _ h (by rw[zau];exact hl);exact⟨h1,fun K hK=>⟨by rw[hl];exact hd.1,hd.2,.inr ⟨c,hc,by rw[if_neg e];exact h2 K hK⟩⟩⟩
theorem zpg: ∀(ps:Pend) (n:Nat) (S:List AV),(zno n ps S).length=S.length
 |[],n,S=>rfl
 |p::ps,n,S=>by rw[zno,zpg ps,List.length_set]
theorem zxy (S:List AV)(ps:Array Tmp)(x:List AV):(zix S ps x).length=S.length:=by
 unfold zix;generalize ps.toList.zip x=l
 induction l generalizing S with
 |nil=>rfl
 |cons p l ih=>rw[List.foldl_cons,ih];simp
theorem zni {asg body:Code} {Ea Eb:List AV->St->Option (AExit×List AV×St)} {ps:Array Tmp} {S0:List AV}
 (ha: ∀S U e S' U',S.length=S0.length->Ea S U=some (e,S',U')->S'.length=S0.length/\ ∀(k:Nat) (Q:AQ),Q e S' U'->awp (ITP P) P none k asg Q S U)
 (hb: ∀S U e S' U',S.length=S0.length->Eb S U=some (e,S',U')-> ∀(k:Nat) (Q:AQ),Q e S' U'->awp (ITP P) P none k body Q S U):
 ∀(xs:List (List AV)) (U:St) (e:AExit) (S':List AV) (U':St),zrx Ea Eb ps S0 n xs U=some (e,S',U')->S'=S0/\ ∀Q:AQ,Q e S' U'->zey (fun k=>awp (ITP P) P none k asg) (fun k=>awp (ITP P) P none k body) ps S0 Q n xs U
 |[],U,e,S',U',h=>by simp only[zrx,Option.some.injEq,Prod.mk.injEq] at h;obtain⟨rfl,rfl,rfl⟩:=h;exact⟨rfl,fun Q h=>h⟩
 | x::xs,U,e,S',U',h=>by
  simp only[zrx] at h;split at h<;>try cases h
  rename_i S1 U1 ha1;split at h<;>try cases h
  rename_i e2 S2 U2 hb2;split at h<;>try cases h
  rename_i hok2;obtain⟨a1,a3⟩:=ha _ _ _ _ _ (zxy _ _ _) ha1;simp only[zey];cases e2 with
  | normal=>
   simp only at h;obtain⟨h1,h2⟩:=zni ha hb xs _ _ _ _ h;exact⟨h1,fun Q hQ=>a3 _ _ (hb _ _ _ _ _ a1 hb2 _ _ ⟨hok2,h2 Q hQ⟩)⟩
  | exit id=>
   simp only[Option.some.injEq,Prod.mk.injEq] at h;obtain⟨rfl,rfl,rfl⟩:=h;exact⟨rfl,fun Q hQ=>a3 _ _ (hb _ _ _ _ _ a1 hb2 _ _ ⟨hok2,hQ⟩)⟩
  | ret=>
   simp only[Option.some.injEq,Prod.mk.injEq] at h;obtain⟨rfl,rfl,rfl⟩:=h;exact⟨rfl,fun Q hQ=>a3 _ _ (hb _ _ _ _ _ a1 hb2 _ _ ⟨hok2,hQ⟩)⟩
end
structure Good (P:Program)(Ω:CallP)(Ψ:CallS):Prop where
 mix:P.follows .mixedOrders=true
 ent: ∀(f:Nat) fn,P.funcs[f]? =some fn->fn.body.isSome=true->Ent P f
 oracle:qbf P Ω
 oracleS:qbw P Ψ
def awpT (P:Program)(c:Code)(Q:AQ)(S:List AV)(U:St):Prop:= ∀k,awp (ITP P) P none k c Q S U
theorem zcy {P:Program} {c:Code} {Q:AQ} {k:Nat} (h:awpT P c Q S U):awp (ITP P) P none k c Q S U:=h k
def EvOk (P:Program)(E:Run):Prop:= ∀c sz S U e S' U',E c sz S U=some (e,S',U')->S.length=sz->S'.length=sz/\ ∀Q:AQ,Q e S' U'->awpT P c Q S U
theorem zrg {P:Program} {Ω:CallP} {Ψ:CallS} (hG:Good P Ω Ψ) {E:Run} (hE:EvOk P E):qbf P (zjn P Ω E):=by
 intro f args r h;unfold zjn at h;split at h
 ·rename_i r' ho;cases h;exact hG.oracle _ _ _ ho
 ·split at h<;>try cases h
  rename_i fn hf;split at h<;>try cases h
  rename_i c hb;split at h<;>try cases h
  rename_i hl;have fin: ∀e S U,(e= .normal \/e= .ret)->E c fn.ntmps (zad fn args) St.empty=some (e,S,U)->(match zar P fn U S with|some a=>if zbi 0 a=true then some (zcw a) else none|none=>none)=some r->Pure (ITP P) P f args r:=fun e S U he h1 h2=>by
   split at h2<;>try cases h2
   rename_i a ha;split at h2<;>cases h2
   rename_i hok;obtain⟨_,h3⟩:=hE _ _ _ _ _ _ _ h1 hl;refine zfh hG.mix hf hb (hG.ent f fn hf (by rw[hb];rfl)) (zcy (h3 _ ?_));rcases he with rfl|rfl<;>exact⟨a,ha,ztt hok rfl⟩
  split at h
  ·cases h
  ·rename_i e S U hne he;refine fin e S U ?_ he h;cases e with
   |normal=>exact .inl rfl
   |ret=>exact .inr rfl
   |exit id=>exact absurd rfl (hne id)
  ·cases h
theorem zyh {P:Program} {Ω:CallP} {Ψ:CallS} (hG:Good P Ω Ψ) {E:Run} (hE:EvOk P E):qbw P (zpo P Ψ E):=by
 intro f args U r U' h;unfold zpo at h;split at h
 ·rename_i r0 hr0;cases h;exact hG.oracleS _ _ _ _ _ hr0
 split at h<;>try cases h
 rename_i fn hf;split at h<;>try cases h
 rename_i c hb;split at h<;>try cases h
 rename_i hl;have fin: ∀e S U1,(e= .normal \/e= .ret)->E c fn.ntmps (zad fn args) U=some (e,S,U1)->(match zar P fn U1 S with|some a=>if zbi U.boxes.length a=true/\ zxs U.boxes.length U1=true then some (a,zem U.boxes.length U1) else none|none=>none)=some (r,U')->Snd (ITP P) P f args U r U':=fun e S U1 he h1 h2=>by
  split at h2<;>try cases h2
  rename_i a ha;split at h2<;>cases h2
  rename_i hok;obtain⟨_,h3⟩:=hE _ _ _ _ _ _ _ h1 hl;refine qag hG.mix hf hb (hG.ent f fn hf (by rw[hb];rfl)) (zcy (h3 _ ?_));rcases he with rfl|rfl<;>exact⟨r,ha,qcv hok.1 hok.2 rfl rfl⟩
 split at h
 ·cases h
 ·rename_i e S U1 hne he;refine fin e S U1 ?_ he h;cases e with
  |normal=>exact .inl rfl
  |ret=>exact .inr rfl
  |exit id=>exact absurd rfl (hne id)
 ·cases h
theorem qeo {size:Nat} (h:findB ops size=some n):chk ops size n=true:=by
 unfold findB at h;simp only at h;split at h
 ·rename_i hc;cases h;exact hc
 ·cases h
theorem zyx {P:Program} {cp:CallP} {cs:CallS} {sz:Nat} {r:List AV×St} (h:qde P cp cs ops sz S U=some r):
 ∃n,chk ops sz n=true/\ ∃S1,zpr P cp ops sz U (ops.toList.take n) S=some S1/\ zvx P cp cs ops (ops.toList.drop n) S1 U=some r:=by
 obtain⟨n,_,h⟩:=List.exists_of_findSome?_eq_some h;unfold qim at h;split at h<;>try cases h
 rename_i hc;split at h<;>try cases h
 rename_i S1 hh;exact⟨n,hc,S1,hh,h⟩
variable {K K' Q Q':List AV->St->Prop} {o:Oper} {S S':List AV} {U U' U'':St} {ops:Array Oper} {n0:Nat} {y:Code} {c:Operand}
section
variable {IT:IterP} {P:Program} {W:Owed} {k0:Nat}
theorem zpb {Q Q':AQ} (hK: ∀S U,K S U->K' S U)(h: ∀e S U,Q e S U->Q' e S U): ∀e S U,ztf K Q e S U->ztf K' Q' e S U
 | .normal,S,U,hq=>hK S U hq
 | .exit _,S,U,hq=>h _ S U hq
 | .ret,S,U,hq=>h _ S U hq
theorem zle {K K':AV->St->Prop} (h: ∀a U,K a U->K' a U)(k:zfo IT P W o S U K):zfo IT P W o S U K':=by
 unfold zfo at k⊢;split
 ·rename_i hc;rw[hc] at k;obtain⟨r,U',k1,k2⟩:=k;exact⟨r,U',k1,h _ _ k2⟩
 ·rename_i hc;rw[hc] at k;simp only at k;split
  ·rename_i hy;rw[hy] at k;obtain⟨G,row,k0,k1,k2,k3,k4,k5,k6,k7,k8⟩:=k;exact⟨G,row,k0,k1,k2,k3,k4,k5,k6,h _ _ k7,h _ _ k8⟩
  ·rename_i hy;rw[hy] at k;rcases k with⟨a,U',k1,k2⟩|⟨n,neg,k1,k2,k3⟩
   ·exact .inl ⟨a,U',k1,h _ _ k2⟩
   ·exact .inr ⟨n,neg,k1,fun e=>h _ _ (k2 e),h _ _ k3⟩
theorem zkc (h: ∀S U,Q S U->Q' S U): ∀(l:List Oper) (S:List AV) (U:St),zca IT P W ops Q l S U->zca IT P W ops Q' l S U
 |[],S,U,k=>h S U k
 | o::l,S,U,k=>by
  simp only[zca] at k⊢;split
  ·rename_i hg;rw[hg] at k;exact zle (fun a U'=>zkc h l _ _) k
  ·rename_i kb b hg;rw[hg] at k;obtain⟨c,k1,k2⟩:=k;refine⟨c,k1,?_⟩;split
   ·rename_i hc;rw[if_pos hc] at k2;exact zle (fun a U'=>zkc h l _ _) k2
   ·rename_i hc;rw[if_neg hc] at k2;exact zkc h l _ _ k2
theorem zgc (h: ∀S U,Q S U->Q' S U): ∀(k:Nat) (listed:Array Bool) (S:List AV) (U:St),zqc IT P W ops Q k listed S U->zqc IT P W ops Q' k listed S U
 |0,_,S,U,k=>⟨k.1,h S U k.2⟩
 | n +1,listed,S,U,k=>by
  refine⟨fun he=>h _ _ (k.1 he),fun i hi=> ?_⟩;have k:=k.2 i hi;unfold zvo at k⊢;cases ho:ops[i]? with
  |none=>rw[ho] at k;exact zgc h n _ _ _ k
  | some o=>
   rw[ho] at k;simp only at k⊢;split
   ·rename_i hg;rw[hg] at k;exact zle (fun a U'=>zgc h n _ _ _) k
   ·rename_i kb b hg;rw[hg] at k;obtain⟨c,k1,k2⟩:=k;refine⟨c,k1,?_⟩;split
    ·rename_i hc;rw[if_pos hc] at k2;exact zle (fun a U'=>zgc h n _ _ _) k2
    ·rename_i hc;rw[if_neg hc] at k2;exact zgc h n _ _ _ k2
theorem zhi {K K':List AV->Pend->Prop} (h: ∀S ps,K S ps->K' S ps): ∀(l:List Oper) (S:List AV) (ps:Pend),zej IT P ops U K l S ps->zej IT P ops U K' l S ps
 |[],S,ps,k=>h S ps k
 | o ::l,S,ps,k=>by
  simp only[zej] at k⊢;refine⟨k.1,k.2.1,?_⟩;rcases k.2.2 with⟨hg,t,d,z,k1,k2,k3,k4⟩|k
  ·exact .inl ⟨hg,t,d,z,k1,k2,k3,zhi h l _ _ k4⟩
  ·right
   split
   ·rename_i hg;rw[hg] at k;exact zlo (fun a=>zhi h l _ _) k
   ·rename_i kb b hg;rw[hg] at k;obtain⟨c,k1,k2⟩:=k;refine⟨c,k1,?_⟩;split
    ·rename_i hc;rw[if_pos hc] at k2;exact zlo (fun a=>zhi h l _ _) k2
    ·rename_i hc;rw[if_neg hc] at k2;exact zhi h l _ _ k2
def WMono (F:AQ->List AV->St->Prop):Prop:= ∀ {Q Q':AQ},(∀e S U,Q e S U->Q' e S U)-> ∀S U,F Q S U->F Q' S U
theorem zpq {F:AQ->List AV->St->Prop} (hF:WMono F) {Q Q':AQ} (h: ∀e S U,Q e S U->Q' e S U): ∀(m:Nat) (S:List AV) (U:St),zpd F Q n0 m S U->zpd F Q' n0 m S U
 |0,S,U,k=>k
 |m+1,S,U,⟨S',U',k1,k2⟩=>⟨S',U',k1,hF (zpb (zpq hF h m) h) _ _ k2⟩
theorem zmi {Fa Fb:Nat->AQ->List AV->St->Prop} {ps:Array Tmp} (hFa: ∀k,WMono (Fa k))(hFb: ∀k,WMono (Fb k)) {Q Q':AQ} (h: ∀e S U,Q e S U->Q' e S U): ∀(xs:List (List AV)) (U:St),zey Fa Fb ps S Q n0 xs U->zey Fa Fb ps S Q' n0 xs U
 |[],U,k=>h _ _ _ k
 | x::xs,U,k=>by
  simp only[zey] at k⊢;refine hFa n0 ?_ _ _ k;intro e S1 U1 hq;cases e with
  | normal=>
   refine hFb _ ?_ _ _ hq;intro e2 S2 U2 hq2;cases e2 with
   |normal=>exact⟨hq2.1,zmi hFa hFb h xs _ hq2.2⟩
   |exit id=>exact⟨hq2.1,h _ _ _ hq2.2⟩
   |ret=>exact⟨hq2.1,h _ _ _ hq2.2⟩
  |exit id=>exact hq
  |ret=>exact hq
theorem zyd {m0 k0:Nat} (h: ∀S U,K S U->K' S U):z8k m0 k0 K S U->z8k m0 k0 K' S U:=
 Or.imp (h _ _) fun⟨m,n,fs,js,d,S',h1,h2,h3,h4,h5⟩=>⟨m,n,fs,js,d,S',h1,h2,h3,h4,h _ _ h5⟩
theorem zcb {k0:Nat}: ∀(c:Code) {Q Q':AQ},(∀e S U,Q e S U->Q' e S U)-> ∀(S:List AV) (U:St),awp IT P W k0 c Q S U->awp IT P W k0 c Q' S U
 | .skip,Q,Q',h,S,U,k=>h _ S U k
 | .seq x y,Q,Q',h,S,U,.inl k=> .inl (zcb x (zpb (fun S U ⟨S',U',k1,k2⟩=>⟨S',U',k1,zcb y h _ _ k2⟩) h) S U k)
 | .seq x y,Q,Q',h,S,U,.inr ⟨hW,S',U',k1,k2⟩=> .inr ⟨hW,S',U',k1,zcb y h _ _ k2⟩
 | .cond c x y,Q,Q',h,S,U,⟨t,k1,k2⟩=>⟨t,k1,by
  split
  ·rename_i ht;rw[if_pos ht] at k2;exact zcb x h _ _ k2
  ·rename_i ht;rw[if_neg ht] at k2;exact zcb y h _ _ k2⟩
 | .block id x,Q,Q',h,S,U,.inr ⟨hW,S',U',k1,k2⟩=> .inr ⟨hW,S',U',k1,h .normal _ _ k2⟩
 | .block id x,Q,Q',h,S,U,.inl k=> .inl<|zcb x (fun e S U hq=>by
  cases e with
  |normal=>exact zyd (h .normal) hq
  |ret=>exact h _ _ _ hq
  | exit j=>
   simp only[zid] at hq⊢;split
   ·rename_i hj;rw[if_pos hj] at hq;exact zyd (h .normal) hq
   ·rename_i hj;rw[if_neg hj] at hq;exact h _ _ _ hq) S U k
 | .loop x,Q,Q',h,S,U,⟨m,k⟩=>⟨m,zpq (fun hq=>zcb x hq) h m S U k⟩
 | .exit id,Q,Q',h,S,U,k=>h _ S U k
 | .ret,Q,Q',h,S,U,k=>h _ S U k
 | .region _ ops false,Q,Q',h,S,U,k=>zkc (h .normal) _ _ _ k
 | .region _ ops true,Q,Q',h,S,U,.inl k=>k.elim
 | .region _ ops true,Q,Q',h,S,U,.inr (.inl ⟨n,k1,k2,k3⟩)=> .inr (.inl ⟨n,k1,k2,zhi (fun S' ps=>zkc (h .normal) _ _ _) _ _ _ k3⟩)
 | .region _ ops true,Q,Q',h,S,U,.inr (.inr (.inl k))=> .inr (.inr (.inl (zgc (h .normal) _ _ _ _ k)))
 | .region _ ops true,Q,Q',h,S,U,.inr (.inr (.inr (.inl ⟨sg,vs,E,k1,k2,k3,k4,k5⟩)))=> .inr (.inr (.inr (.inl ⟨sg,vs,E,k1,k2,k3,k4,h .normal _ _ k5⟩)))
 | .region _ ops true,Q,Q',h,S,U,.inr (.inr (.inr (.inr ⟨k0,S',U',k1,k2⟩)))=> .inr (.inr (.inr (.inr ⟨k0,S',U',k1,h .normal _ _ k2⟩)))
 | .rangeFunc f ps asg body,Q,Q',h,S,U,.inl ⟨xs,k1,k0,k2,k3,k4⟩=> .inl ⟨xs,k1,k0,k2,k3,zmi (Fa:=fun k=>awp IT P W k asg) (Fb:=fun k=>awp IT P W k body) (fun k=>fun hq=>zcb asg hq) (fun k=>fun hq=>zcb body hq) h xs U k4⟩
 | .rangeFunc f ps asg body,Q,Q',h,S,U,.inr ⟨g,caps,js,hs,m,bs,bs',xs,S',U1,k1,k2,k3,k4,k5,k6,k7,k8,k9,q⟩=> .inr ⟨g,caps,js,hs,m,bs,bs',xs,S',U1,k1,k2,k3,k4,k5,k6,k7,k8,k9,
  zmi (Fa:=fun k=>awp IT P W k asg) (Fb:=fun k=>awp IT P W k body) (fun k=>fun hq=>zcb asg hq) (fun k=>fun hq=>zcb body hq) (fun e S1 U1 hq=>by cases e with|normal=>exact h .normal _ _ hq|exit id=>exact hq|ret=>exact hq) xs _ q⟩
 | .scope x,Q,Q',h,S,U,k=>zcb x h S U k
 | .label _,Q,Q',h,S,U,k=>h _ S U k
 | .goto _,_,_,_,_,_,k=>k.elim
 | .refuse _,_,_,_,_,_,k=>k.elim
theorem zm {x:Code} {Q:AQ} (h:awp IT P W k0 x (ztf (awp IT P W k0 y Q) Q) S U):awp IT P W k0 (.seq x y) Q S U:=
 .inl<|zcb x (zpb (fun S U k=>⟨S,U,Wk.refl _ _ _,k⟩) fun _ _ _ k=>k) S U h
def to (n0:Nat)(S':List AV)(U':St)(Q:AQ):AQ
 | .normal,S,U=>Wk n0 S U S' U'
 |e,S,U=>Q e S U
theorem zb {id:Nat} {Q:AQ} (h:zca IT P W ops (Q .normal) ops.toList S U):awp IT P W k0 (.region id ops false) Q S U:=h
theorem zdy {x:Code} {Q:AQ} (hc:zbv S c= .raw (.bool true))(h:awp IT P W k0 x Q S U):awp IT P W k0 (.cond c x y) Q S U:=⟨true,hc,h⟩
theorem zbz {x:Code} {Q:AQ} (hc:zbv S c= .raw (.bool false))(h:awp IT P W k0 y Q S U):awp IT P W k0 (.cond c x y) Q S U:=⟨false,hc,h⟩
theorem qds {id:Nat} {Q:AQ} (h:Q .normal S U):awp IT P W k0 (.label id) Q S U:=h
theorem z9k {x:Code} {Q:AQ} (h:awp IT P W k0 x Q S U):awp IT P W k0 (.scope x) Q S U:=h
theorem z3o {id:Nat} {x:Code} {Q:AQ} (h:awp IT P W k0 x (zid U.lens.length k0 id Q) S U):awp IT P W k0 (.block id x) Q S U:= .inl h
theorem zac {id:Nat} {x:Code} {Q:AQ} (h:awp IT P W k0 x (qiz id Q) S U):awp IT P W k0 (.block id x) Q S U:=
 .inl<|zcb x (fun e S1 U1 hq=>by
  cases e with
  |normal=>exact .inl hq
  |ret=>exact hq
  | exit j=>
   simp only[qiz,zid] at hq⊢;split
   ·rename_i hj;rw[if_pos hj] at hq;exact .inl hq
   ·rename_i hj;rw[if_neg hj] at hq;exact hq) S U h
theorem zay {l:List Oper} {a:AV} (hg:o.guard=none)(hc:zda S o=none)(hy:zdb S o=none)(h:aop P (zbv S) U o=some (a,U'))(hS:zi S o.dst a=S')
 (k:zca IT P W ops Q l S' U'):zca IT P W ops Q (o::l) S U:=by
 simp only[zca,hg,zfo,hc,hy];exact .inl ⟨a,U',.inl h,by rw[hS];exact k⟩
theorem znl {l:List Oper} (a:AV)(hg:o.guard=none)(hc:zda S o=none)(hy:zdb S o=none)(h:zpp P (zbv S) o a)(hS:zi S o.dst a=S')
 (k:zca IT P W ops Q l S' U):zca IT P W ops Q (o::l) S U:=by
 simp only[zca,hg,zfo,hc,hy];exact .inl ⟨a,U,.inr (.inl ⟨rfl,h⟩),by rw[hS];exact k⟩
theorem w_call {l:List Oper} {f:FuncId} {args:List AV} {r:AV} (hp:Pure IT P f (stripL args) r)(hg:o.guard=none)(hc:zda S o=some (f,args))(hok:zab 0 args=true)(hS:zi S o.dst r=S')
 (k:zca IT P W ops Q l S' U):zca IT P W ops Q (o::l) S U:=by
 simp only[zca,hg,zfo,hc];exact⟨r,U,.inr (.inl ⟨rfl,hok,hp⟩),by rw[hS];exact k⟩
theorem w_callf {l:List Oper} {f:FuncId} {args args':List AV} {r:AV} (n:Nat)(hp:Pure IT P f args' r)(hg:o.guard=none)(hc:zda S o=some (f,args))(ha:zcq (frz U.boxes n) args=args')(hraw:z1b r=true)(hS:zi S o.dst r=S')
 (k:zca IT P W ops Q l S' U):zca IT P W ops Q (o::l) S U:=by
 simp only[zca,hg,zfo,hc];exact⟨r,U,.inr (.inr (.inl ⟨rfl,hraw,n,by rw[ha];exact hp⟩)),by rw[hS];exact k⟩
theorem w_yield {l:List Oper} {n:Nat} {args row:List AV} {rows:List (List AV)} (hg:o.guard=none)(hc:zda S o=none)(hy:zdb S o=some (n,args)) {G:Gen} (hW:W=some G)(hGl:G.l=n)(hGr:G.rows=rows)(hr:rows[U.out]? =some row)(hs:stripL args=row)(hok:zab 0 args=true)(hni:zbx args=true)(hst:U.stop=false)
 (k1:zca IT P W ops Q l (zi S o.dst (.raw (.bool true))) {U with out:=U.out+1}) (k2:zca IT P W ops Q l (zi S o.dst (.raw (.bool false))) {U with stop:=true}):zca IT P W ops Q (o::l) S U:=by
 simp only[zca,hg,zfo,hc,hy];exact⟨G,row,hW,hGl,by rw[hGr];exact hr,hs,hok,hni,hst,k1,k2⟩
theorem zav {c:Code} {Q:AQ} (hS:S=S')(hσ:U=U')(h:awp IT P W k0 c Q S' U'):awp IT P W k0 c Q S U:=by subst hS hσ;exact h
theorem zdu {l:List Oper} {a:AV} (hg:o.guard=none)(hc:zda S o=none)(hy:zdb S o=none)(h:aop P (zbv S) U o=some (a,U'))(hS:zi S o.dst a=S')(hσ:U'=U'')
 (k:zca IT P W ops Q l S' U''):zca IT P W ops Q (o::l) S U:=by
 subst hσ;exact zay hg hc hy h hS k
theorem z7f {l:List Oper} {a:AV} (hg:o.guard=none)(hc:zda S o=none)(hy:zdb S o=none)(h:zvc P (zbv S) U o=some (a,U'))(hS:zi S o.dst a=S')(hσ:U'=U'')
 (k:zca IT P W ops Q l S' U''):zca IT P W ops Q (o::l) S U:=by
 subst hσ;simp only[zca,hg,zfo,hc,hy];exact .inl ⟨a,U',.inr (.inr (.inl h)),by rw[hS];exact k⟩
theorem w_nil {l:List Oper} {S1 S2:List AV} (n:Nat)(neg:Bool)(hg:o.guard=none)(hc:zda S o=none)(hy:zdb S o=none)(h:zxl P (zbv S) o n neg)
 (h1:zi S o.dst (.raw (.bool (!neg)))=S1) (h2:zi S o.dst (.raw (.bool neg))=S2) (k1:n=0->zca IT P W ops Q l S1 U) (k2:zca IT P W ops Q l S2 U):zca IT P W ops Q (o::l) S U:=by
 simp only[zca,hg,zfo,hc,hy];exact .inr ⟨n,neg,.inl h,fun e=>by rw[h1];exact k1 e,by rw[h2];exact k2⟩
theorem zgg {l:List Oper} {f:FuncId} {args:List AV} {r:AV} (hp:Snd IT P f args U r U')(hg:o.guard=none)(hc:zda S o=some (f,args))(ho:U'.out=U.out/\ U'.stop=U.stop)(hS:zi S o.dst r=S')
 (k:zca IT P W ops Q l S' U'):zca IT P W ops Q (o::l) S U:=by
 simp only[zca,hg,zfo,hc];exact⟨r,U',.inl ⟨hp,ho⟩,by rw[hS];exact k⟩
theorem zag {l:List Oper} {kb:Nat} {b:Bool} {c:Option Bool} (hg:o.guard=some (kb,b))(hk:zdo ops S kb=some c)(hcb:c≠some b)(hS:zi S o.dst (.raw undef)=S')(k:zca IT P W ops Q l S' U):zca IT P W ops Q (o::l) S U:=by
 simp only[zca,hg];exact⟨c,hk,by rw[if_neg hcb,hS];exact k⟩
theorem zaq {l:List Oper} {kb:Nat} {b:Bool} (hg:o.guard=some (kb,b))(hk:zdo ops S kb=some (some b))(k:zca IT P W ops Q ({o with guard:=none}::l) S U):zca IT P W ops Q (o::l) S U:=by
 simp only[zca,hg];refine⟨some b,hk,?_⟩;rw[if_pos rfl];have e:zfo IT P W {o with guard:=none} S U=zfo IT P W o S U:=rfl;simp only[zca] at k;rw[e] at k;exact k
end
def qfh (n:Nat)(l:List (Nat×AV)):List AV:=l.foldl (fun S p=>S.set p.1 p.2) (List.replicate n .top)
theorem z8z (s:Nat) {t:TypeId} {cs:List AV} (hb:U.boxes[s]? =some (t,cs))(h:zv U.lens.length (mvz s U.boxes.length) S=S')(hσ:U'=qis s t cs U):Wk n0 S U S' U':=
 .one<| .inr (.inr (.inr (.inr ⟨s,t,cs,hb,h▸Fg.refl _,hσ⟩)))
theorem zqp {x:Int} (h1: -9223372036854775808<=x)(h2:x<9223372036854775808):IntKind.i64.wrap x=x:=by
 simp only[IntKind.wrap,IntKind.bits,IntKind.signed];simp;omega
end Go.Ab
