import Derived.Test.YtnoccnalocdldaaDoorZdL
set_option linter.all false
namespace Go.Ab
open Go Go.RowKit Go.Fwd
def qaj (P:Program)(σ:St)(S:List AV):ResultVar→Option AV
 | .tmp t=>some ((S[t]?).getD (.raw undef))
 | .cell t ty=>zlb P σ ty ((S[t]?).getD (.raw undef))
def z2j (P:Program)(σ:St)(S:List AV):List ResultVar→Option (List AV)
 |[]=>some []
 |x::l=>match qaj P σ S x,z2j P σ S l with|some a,some r=>some (a::r)|_,_=>none
def zba (P:Program)(fn:Func)(σ:St)(S:List AV):Option AV:=
 match z2j P σ S fn.results.toList with
 |some [a]=>some a
 |some l=>some (.tup l)
 |none=>none
theorem z3l {IT:IterP} {P:Program} {X:Cx} {σ:St} {S:List AV} {tmps:Array Value} {x:ResultVar} {a:AV} (h:qaj P σ S x=some a)(hr:zmb IT X S tmps)(hI:Inv IT σ X):
 ∃v,((match x with| .tmp t=>pure (tmps.getD t undef)| .cell a t=>do loadVar t (←asAddr (tmps.getD a undef))):Sem Value).run P X.w= .ok v X.w∧Rep IT X a v:=by
 have hev: ∀t,Rep IT X ((S[t]?).getD (.raw undef)) (tmps.getD t undef):=fun t=>zdh (a:={tmps:=tmps,defers:=[]}) hr (.tmp t)
 cases x with
 | tmp t=>
  simp only[qaj,Option.some.injEq] at h;subst h
  exact⟨_,rfl,hev t⟩
 | cell t ty=>
  simp only[qaj] at h
  obtain⟨v,h1,h2⟩:=zsb (P:=P) h (hev t) hI
  refine⟨v,?_,h2⟩
  have hp: ∃ad,tmps.getD t undef= .pointer (some ad):=by
   have:=hev t
   generalize (S[t]?).getD (.raw undef)=y at h this
   cases y with
   |ptr s off=>rw[Rep] at this;obtain⟨b,_,e⟩:=this;exact⟨_,e⟩
   |iptr cs=>rw[Rep] at this;obtain⟨b,o,e,_⟩:=this;exact⟨_,e⟩
   |_=>cases h
  obtain⟨ad,e⟩:=hp
  rw[e] at h1
  simp only[Instr.loadAt,Instr.sureAddr,Sem.run_bind,Sem.run_pure,Result.andThen_ok] at h1
  simp only[e,asAddr,Sem.run_bind,Sem.run_pure,Result.andThen_ok,h1]
theorem zrt {IT:IterP} {P:Program} {X:Cx} {σ:St} {S:List AV} {tmps:Array Value} (hr:zmb IT X S tmps)(hI:Inv IT σ X): ∀(l:List ResultVar) (r:List AV),z2j P σ S l=some r→
 ∃vs,(l.mapM fun x=>((match x with| .tmp t=>pure (tmps.getD t undef)| .cell a t=>do loadVar t (←asAddr (tmps.getD a undef))):Sem Value)).run P X.w= .ok vs X.w∧zbk IT X r vs
 |[],r,h=>by simp[z2j] at h;subst h;exact⟨[],by simp,by rw[zbk]⟩
 | x::l,r,h=>by
  simp only[z2j] at h
  split at h<;>cases h
  rename_i a r' h1 h2
  obtain⟨v,e1,e2⟩:=z3l h1 hr hI
  obtain⟨vs,k1,k2⟩:=zrt hr hI l r' h2
  refine⟨v::vs,?_,by rw[zbk];exact⟨v,vs,rfl,e2,k2⟩⟩
  rw[List.mapM_cons]
  simp only[Sem.run_bind,e1,Result.andThen_ok,k1,Sem.run_pure]
theorem zmc {IT:IterP} {P:Program} {X:Cx} {σ:St} {S:List AV} {fn:Func} {tmps:Array Value} {a:AV} (h:zba P fn σ S=some a)(hr:zmb IT X S tmps)(hI:Inv IT σ X):
 ∃v,(results fn tmps).run P X.w= .ok v X.w∧Rep IT X a v:=by
 unfold zba at h
 have run: ∀r,z2j P σ S fn.results.toList=some r→ ∃vs,(results fn tmps).run P X.w= .ok (if h:vs.length=1 then vs[0] else .tuple vs.toArray) X.w∧zbk IT X r vs:=fun r hr'=>by
  obtain⟨vs,k1,k2⟩:=zrt hr hI _ r hr'
  refine⟨vs,?_,k2⟩
  unfold results
  rw[Array.mapM_eq_mapM_toList]
  simp only[Sem.run_bind,Sem.run_map,Sem.run_pure]
  exact congrArg (fun r:Result (List Value)=>(r.andThen (fun a w'=>Result.ok a.toArray w')).andThen fun a w'=>Result.ok (if h:a.size=1 then a[0] else Value.tuple a) w') k1
 split at h
 ·rename_i b hl
  cases h
  obtain⟨vs,k1,k2⟩:=run _ hl
  rw[zbk] at k2
  obtain⟨v,r,rfl,k3,k4⟩:=k2
  rw[zbk] at k4;subst k4
  exact⟨v,by simpa using k1,k3⟩
 ·rename_i l hne hl
  cases h
  obtain⟨vs,k1,k2⟩:=run _ hl
  have hlen:=zr k2
  refine⟨.tuple vs.toArray,?_,by rw[Rep];exact⟨vs,rfl,k2⟩⟩
  rw[k1,dif_neg]
  intro h1
  obtain⟨x,rfl⟩:=List.length_eq_one_iff.1 (hlen.trans h1)
  exact hne x rfl
 ·cases h
theorem zkq {F:Fence} {n:Nat} {P:Program} {fn:Func} {tmps:Array Value} {R:Ending→World→Prop} {B:Nat}: ∀(Ds:List Nat) (w:World),Ds.Nodup→(∀D∈Ds,B≤D∧w.heap[D]? =some (.deferred (some [])))→
 (∀W',Turn B w W'→ ∃v,(results fn tmps).run P W'= .ok v W'∧R (.returned v) W')→LeavesInM F n P fn tmps R (Ds.map fun D=>{target:= .collected D,args:= #[]}) .returning w
 | [],w,_,_,h=>by
  obtain⟨v,h1,h2⟩:=h w ⟨rfl,rfl,rfl,Nat.le_refl _,Nat.le_refl _,fun _ _ h _=>h⟩
  exact⟨_,h1,h2⟩
 | D::Ds,w,hnd,hD,h=>by
  rw[List.nodup_cons] at hnd
  obtain⟨hB,hd⟩:=hD D (by simp)
  have hT:=Turn.putObj (B:=B) (.deferred none) hB hd rfl
  refine⟨by simp,.inl ⟨D,_,rfl,run_takeDeferred hd,?_⟩⟩
  refine zkq Ds _ hnd.2 (fun D' h'=>⟨(hD D' (by simp[h'])).1,?_⟩) fun W' hT'=>h W' ?_
  ·exact(World.putObj_heap_other (by intro e;subst e;exact hnd.1 h')).trans (hD D' (by simp[h'])).2
  ·exact⟨hT'.os.trans hT.os,hT'.tape.trans hT.tape,hT'.output.trans hT.output,Nat.le_trans hT.size hT'.size,Nat.le_trans hT.drawn hT'.drawn,fun k o hk hc=>hT'.same k o (hT.same k o hk hc) hc⟩
def zat (fn:Func)(args:List AV):List AV:=args++List.replicate (fn.ntmps-args.length) (.raw undef)
def Ends (P:Program)(σ:St)(a r:AV):Prop:= ∀(Y:Cx) (v:Value),Inv (ITP P) σ Y→Rep (ITP P) Y a v→ ∃F':Nat→Nat→Prop,(∀b o,Y.F b o→F' b o)∧(∀b o,F' b o→Y.F b o∨b∈Y.κ)∧
 (∀b o,F' b o→ ∃v,Y.w.cell? ⟨b,o,none⟩=some v)∧Rep (ITP P) ⟨F',[],[],[],Y.w,Y.O,Y.C⟩ r v
theorem zun {P:Program} {σ:St} {a r:AV} (h1:zbp 0 a=true)(h2:zcv a=r):Ends P σ a r:=fun Y v hI hv=>by
 subst h2
 exact⟨Y.F,fun _ _ h=>h,fun _ _ h=> .inl h,hI.Fcell,zhh (X:=Y) (Y:=⟨Y.F,[],[],[],Y.w,Y.O,Y.C⟩) (zn P) rfl rfl a v (.inl h1) hv⟩
def zxk (P:Program)(fn:Func)(r:AV):AQ
 | .exit _,_,_=>False
 |_,S,σ=> ∃a,zba P fn σ S=some a∧Ends P σ a r
def z1y (P:Program)(n m:Nat)(σ:St)(a r:AV)(σ':St):Prop:= ∀(X Y:Cx) (v:Value),Ext X Y→X.κ.length=n→X.lens.length=m→Inv (ITP P) σ Y→Rep (ITP P) Y a v→ ∃X',X'.w=Y.w∧Ext X X'∧Inv (ITP P) σ' X'∧Rep (ITP P) X' r v
theorem zsf {P:Program} {n m:Nat} {σ σ':St} {a r:AV} (fs js:List Nat)(d:Nat)(hok:zdc σ n js=true)(hr:zhc m (kz σ.boxes m n fs js d) a=r)(hσ:zer σ m n fs js d=σ'):z1y P n m σ a r σ':=fun X Y v hE hn hm hI hv=>by
 subst hr hσ
 exact⟨zcz σ m n fs js Y,rfl,zrl hE hI hok (by omega) (by omega),zri (zn P) hI hok d,zjv (X:=Y) (Y:=zcz σ m n fs js Y) (zn P) (fun b o h=>Or.inl h) rfl zhj (znz (zn P) hI hok d) _ _ hv⟩
theorem qee {P:Program} {n m:Nat} {σ σ':St} {a r:AV} (h1:zbp n a=true)(h2:zwb n σ=true)(h3:a=r)(h4:zes n σ=σ'):z1y P n m σ a r σ':=fun X Y v hE hn hm hI hv=>by
 subst h3 h4
 have htr:=zvy (M:=none) (zn P) none (F:=Fence.wide.inRound 0) (B:=0) (S:=[]) (a:={tmps:= #[],defers:=[]}) ⟨hE,hI,by unfold zmb;rw[zbk],⟨Nat.zero_le _,fun h=>absurd h (zlz 0),fun _=>rfl⟩,trivial⟩ (Nat.le_of_eq hn) h2
 exact⟨{Y with κ:=Y.κ.take n},rfl,htr.ext,htr.inv,zrg (X:=Y) (Y:={Y with κ:=Y.κ.take n}) (zn P) rfl rfl rfl rfl rfl a v h1 hv⟩
def aendS (P:Program)(fn:Func)(n m:Nat)(r:AV)(σ':St):AQ
 | .exit _,_,_=>False
 |_,S,σ=> ∃a,zba P fn σ S=some a∧z1y P n m σ a r σ'
def z7h (P:Program)(fn:Func)(n:Nat):AQ
 | .exit _,_,_=>False
 |_,S,σ=>(∃a,zba P fn σ S=some a)∧(σ.stop=true∨σ.out=n)
theorem zlf {P:Program} (hmix:P.follows .mixedOrders=true) {f:FuncId} {fn:Func} {c:Code} {args:List AV} {σ:St} {Q:AQ} {X:Cx} {vs:List Value} {R:Ending→World→Prop} {M:Option Gen} (hG:zrp P X.w.heap.size M)(hf:P.funcs[f]? =some fn)(hb:fn.body=some c)
 {k0:Nat} (hk0:σ.boxes.length=k0) (h:awp (ITP P) P (zdn M) k0 c Q (zat fn args) σ) (hI:Inv (ITP P) σ X) (hM:FrM M σ X) (hr:zbk (ITP P) X args vs)
 (hQ: ∀e S σ' Y,Q e S σ'→Rel M X Y→Inv (ITP P) σ' Y→FrM M σ' Y→(e= .normal∨e= .ret)∧ ∃a,zba P fn σ' S=some a∧ ∀v,Rep (ITP P) Y a v→R (.returned v) Y.w):Calls P f vs.toArray X.w R:=by
 refine(callsIn_wide (n:=3)).1 (callsIn_of_wp_marks hf hb trivial ?_ rfl)
 have hlen:=zr hr
 have hreps:zmb (ITP P) X (zat fn args) (vs.toArray++Array.replicate (fn.ntmps-vs.toArray.size) undef):=by
  unfold zmb zat
  have e:(vs.toArray++Array.replicate (fn.ntmps-vs.toArray.size) undef).toList=vs++List.replicate (fn.ntmps-args.length) undef:=by simp[hlen]
  rw[e]
  refine zbn hr (zfb (by simp) fun i a v h1 h2=> ?_)
  have h1:=List.eq_of_mem_replicate (List.mem_of_getElem? h1)
  have h2:=List.eq_of_mem_replicate (List.mem_of_getElem? h2)
  subst h1 h2;rw[Rep]
 refine ztt hmix c (M:=M) (B:=X.w.heap.size) hG (zqn P) k0 Q _ σ X X {tmps:=vs.toArray++Array.replicate (fn.ntmps-vs.toArray.size) undef,defers:=[]} _ (Nat.le_of_eq (hI.κlen.trans hk0)) ⟨Nat.le_refl _,σ,hI⟩ h
  ⟨Rel.of (Ext.refl X),hI,hreps,⟨Nat.le_refl _,fun _=>⟨Nat.le_refl _,[],rfl,List.nodup_nil,by simp⟩,fun h=>absurd rfl h⟩,hM⟩ (.inl (.inl rfl)) ?_
 intro e S σ' Y a hq hn
 obtain⟨_,Ds,d1,d2,d3⟩:=hn.marks.2.1 rfl
 have key:(e= .normal∨e= .ret)∧LeavesInM Fence.wide 3 P fn a.tmps R a.defers .returning Y.w:=by
  obtain⟨he,_⟩:=hQ e S σ' Y hq hn.ext hn.inv hn.frn
  refine⟨he,?_⟩
  rw[d1]
  refine zkq (B:=X.w.heap.size) Ds Y.w d2 d3 fun W' hT=> ?_
  obtain⟨k1,k2,k3,_,k5⟩:=zli (N:=fun _=>False) (NB:=fun _=>False) (Bm:=X.w.heap.size) hG (Nat.le_refl _) (fun _ h=>h.elim) (RelB.of hn.ext) hn.inv hn.frn (zkg M Y) (Nat.le_refl _) (zir hn.inv (zkg M Y) hn.ext.size hT)
  obtain⟨_,x,hx,hv⟩:=hQ e S σ' _ hq (k1.to fun _ h=>h.elim) k2 k3
  obtain⟨v,r1,r2⟩:=zmc (P:=P) (fn:=fn) hx (show zmb (ITP P) {Y with w:=W'} S a.tmps from zbx (zn P) k5 _ _ hn.reps) k2
  exact⟨v,r1,hv v r2⟩
 obtain⟨he,hl⟩:=key
 rcases he with rfl|rfl<;>exact hl
theorem zik {P : Program} (hmix:P.follows .mixedOrders=true) {f:FuncId} {fn:Func} {c:Code} {args:List AV} {r:AV} (hf:P.funcs[f]? =some fn)(hb:fn.body=some c)(he:Ent P f)
    (h:awp (ITP P) P none 0 c (zxk P fn r) (zat fn args) St.empty):Pure (ITP P) P f args r:=by
  refine⟨he,fun X vs hI hr=>zlf (M:=none) hmix trivial hf hb (σ:=St.empty) (k0:=0) rfl h hI trivial hr ?_⟩
  intro e S σ' Y hq (hE:Ext X Y) hIY _
  have hκ:X.κ=[]:=by have:=hI.κlen;simpa[St.empty] using this
  have hl:X.lens=[]:=hI.lens
  have hβ:X.β=[]:=by have:=hI.βlen;rw[hl] at this;simpa using this
  have fin : ∀ a,zba P fn σ' S=some a→Ends P σ' a r→ ∃a,zba P fn σ' S=some a∧ ∀v,Rep (ITP P) Y a v→
      ∃v' X',Ending.returned v= .returned v'∧X'.w=Y.w∧Ext X X'∧Inv (ITP P) St.empty X'∧Rep (ITP P) X' r v':=fun a h1 h2=>by
    refine⟨a,h1,fun v hv=> ?_⟩
    obtain⟨F',f1,f2,f3,f4⟩:=h2 Y v hIY hv
    refine⟨v,⟨F',[],[],[],Y.w,Y.O,Y.C⟩,rfl,rfl,?_,?_,f4⟩
    · exact { os :=hE.os,tape:=hE.tape,output:=hE.output,size:=hE.size,drawn:=hE.drawn,F:=fun b o h=>f1 b o (hE.F b o h),cell:=hE.cell
              κ:=fun s b hs=>by rw[hκ] at hs;simp at hs
              lens:=fun s L hs=>by rw[hl] at hs;simp at hs
              blk:=fun s b hs=>by rw[hκ] at hs;simp at hs
              szs:=hE.szs
              frame:=hE.frame
              κnew:=fun b hb=>by simp at hb
              βnew:=fun r hr=>by simp at hr
              O:=hE.O
              C:=hE.C
              Fnew:=fun b o h=>(f2 b o h).elim (hE.Fnew b o) fun hm=>by
                rcases hE.κnew b hm with h|h
                · rw[hκ] at h;simp at h
                · exact .inr (.inl h)}
    · exact { lens:=rfl,elems:=rfl,κlen:=rfl,κnd:=fun s s' b h=>by simp at h,box:=fun s b t cs h=>by simp at h,κF:=fun s b t cs h=>by simp at h,βlen:=rfl,βnd:=List.nodup_nil,βκ:=fun r h=>by simp at h
              row:=fun s r L h=>by simp at h
              Ok :=fun b hb=>by
                obtain⟨k1,k2,k3,k4⟩:=hIY.Ok b hb
                exact⟨k1,by simp,by simp,fun o hf=>(f2 b o hf).elim (k4 o) fun hm=>absurd hm k2⟩
              Fcell:=f3
              gv:=(zn P).gv _ _ _ _ f1 (fun _ _ _=>rfl) (Szs.refl _) hIY.gv}
  cases e with
  |normal=>obtain⟨a,h1,h2⟩:=hq;exact⟨.inl rfl,fin a h1 h2⟩
  |ret=>obtain⟨a,h1,h2⟩:=hq;exact⟨.inr rfl,fin a h1 h2⟩
  |exit id=>exact hq.elim
theorem z9z {P:Program} (hmix:P.follows .mixedOrders=true) {f:FuncId} {fn:Func} {c:Code} {args:List AV} {σ σ':St} {r:AV} (hf:P.funcs[f]? =some fn)(hb:fn.body=some c)(he:Ent P f)
 (h:awp (ITP P) P none σ.boxes.length c (aendS P fn σ.boxes.length σ.lens.length r σ') (zat fn args) σ):Snd (ITP P) P f args σ r σ':=by
 refine⟨he,fun X vs hI hr=>zlf (M:=none) hmix trivial hf hb rfl h hI trivial hr ?_⟩
 intro e S σ1 Y hq (hE:Ext X Y) hIY _
 have hκn:=hI.κlen
 have fin: ∀a,zba P fn σ1 S=some a→z1y P σ.boxes.length σ.lens.length σ1 a r σ'→ ∃a,zba P fn σ1 S=some a∧ ∀v,Rep (ITP P) Y a v→
  ∃v' X',Ending.returned v= .returned v'∧X'.w=Y.w∧Ext X X'∧Inv (ITP P) σ' X'∧Rep (ITP P) X' r v':=fun a h1 h2=>⟨a,h1,fun v hv=>by
  obtain⟨X',k1,k2,k3,k4⟩:=h2 X Y v hE hκn (by rw[hI.lens]) hIY hv
  exact⟨v,X',rfl,k1,k2,k3,k4⟩⟩
 cases e with
 |normal=>obtain⟨a,h1,h2⟩:=hq;exact⟨.inl rfl,fin a h1 h2⟩
 |ret=>obtain⟨a,h1,h2⟩:=hq;exact⟨.inr rfl,fin a h1 h2⟩
 |exit id=>exact hq.elim
theorem qin {P:Program} (hmix:P.follows .mixedOrders=true) {g:FuncId} {fn:Func} {c:Code} {caps:List AV} {lb:List Value} {rows:List (List AV)} {F0:Nat→Nat→Prop} {w0:World} {O C} (hf:P.funcs[g]? =some fn)(hb:fn.body=some c)
    (h: ∀G:Gen,G.rows=rows→awp (ITP P) P (some G) 0 c (z7h P fn rows.length) (zat fn (.yld G.l::caps)) St.empty) (hr:zbk (ITP P) ⟨F0,[],[],[],w0,O,C⟩ caps lb) (hgv:(ITP P).gv F0 w0):IterX P g lb.toArray rows (fun _=>False) F0 w0:=by
  intro l W J Jx s0 hc hz _ hG hF0 hO hC hJ
  have hI:Inv (ITP P) St.empty ⟨F0,[],[],[],W,s0.O,s0.C⟩:=
    { lens:=rfl,elems:=rfl,κlen:=rfl,κnd:=fun s s' b h=>by simp at h,box:=fun s b t cs h=>by simp at h,κF:=fun s b t cs h=>by simp at h,βlen:=rfl,βnd:=List.nodup_nil,βκ:=fun r h=>by simp at h
      row:=fun s r L h=>by simp at h
      Ok:=fun b hb=>⟨hO b hb,by simp,by simp,fun o hf=>(hF0 b o hf).resolve_left (fun h=>h hb)⟩
      Fcell:=fun b o hf=>(hc b o hf).1
      gv:=(zn P).gv _ _ _ _ (fun _ _ h=>h) (fun b o hf=>(hc b o hf).2) hz hgv}
  have hr':zbk (ITP P) ⟨F0,[],[],[],W,s0.O,s0.C⟩ (.yld l::caps) (.func (.yield l) #[] #[]::lb):=
    ⟨_,lb,rfl,rfl,zbx (X:=⟨F0,[],[],[],w0,O,C⟩) (X':=⟨F0,[],[],[],W,s0.O,s0.C⟩) (zn P) ⟨fun _ _ h=>h,fun b o hf=>(hc b o hf).2,fun _ _ h=>h,fun s L h=>by simp at h,fun s b h=>by simp at h,hz⟩ _ _ hr⟩
  have hFr:FrM (some ⟨W.heap.size,F0,l,rows,J,Jx,fun _=>False⟩) St.empty ⟨F0,[],[],[],W,s0.O,s0.C⟩:=
    ⟨s0,fun _=>Iff.rfl,⟨fun _ _=>Iff.rfl,fun b o hc=> .inr ⟨hC b o hc,by simp,by simp⟩⟩,hJ,Nat.le_refl _,by simp,by simp,fun b o hf=> .inl hf⟩
  have e:(#[.func (.yield l) #[] #[]]++lb.toArray:Array Value)=(Value.func (.yield l) #[] #[]::lb).toArray:=by simp
  rw[e]
  refine zlf (M:=some ⟨W.heap.size,F0,l,rows,J,Jx,fun _=>False⟩) (X:=⟨F0,[],[],[],W,s0.O,s0.C⟩) hmix ⟨hG,Nat.le_refl _⟩ hf hb (k0:=0) rfl (h _ rfl) hI hFr hr' ?_
  intro e S σ' Y hq _ _ hF
  have fin:(∃a,zba P fn σ' S=some a)∧(σ'.stop=true∨σ'.out=rows.length)→ ∃a,zba P fn σ' S=some a∧ ∀v,Rep (ITP P) Y a v→(∃v',Ending.returned v= .returned v')∧ ∃s,(J rows.length s Y.w∨Jx s Y.w):=fun⟨⟨a,h1⟩,h2⟩=>by
    obtain⟨s,_,_,h3,_⟩:Fr _ σ' Y:=hF
    refine⟨a,h1,fun v _=>⟨⟨v,rfl⟩,s,?_⟩⟩
    by_cases hst:σ'.stop=true
    · rw[if_pos hst] at h3;exact .inr h3
    · rw[if_neg hst,h2.resolve_left hst] at h3;exact .inl h3
  cases e with
  |normal=>exact⟨.inl rfl,fin hq⟩
  |ret=>exact⟨.inr rfl,fin hq⟩
  |exit id=>exact hq.elim
mutual
def zmf:AV→Bool
 | .raw _=>true
 | .ptr _ _=>true
 | .bsl _ _ _ _ _=>true
 | .top=>true
 | .list _ cs st=>zgw cs&&decide (st≠ .none∨cs=[])&&(match st with| .own _=>false|_=>true)&&cs.isEmpty
 |_=>false
def zgw:List AV→Bool
 |[]=>true
 |a::l=>zmf a&&zgw l
end
theorem qgz {IT:IterP} {X Y:Cx} (hκ:Y.κ=X.κ)(hw:Y.w=X.w): ∀(a:AV) (v:Value),zmf a=true→Rep IT X a v→Rep IT Y a v
 | .raw _,_,_,h=>h
 | .ptr s off,v,_,⟨b,h,e⟩=>⟨b,by rw[hκ];exact h,e⟩
 | .bsl s off n sz f,v,_,h=>Bsl.mono (X:=X) (Y:=Y) (fun b h=>by rw[hκ];exact h) hw h
 | .top,_,_,_=>by rw[Rep];trivial
 | .list n cs st,v,hf,⟨a,cap,e,h1,_,h3⟩=>by
  simp only[zmf,Bool.and_eq_true,List.isEmpty_iff] at hf
  obtain⟨⟨_,hs⟩,rfl⟩:=hf
  exact⟨a,cap,e,h1,.inl rfl,by cases st with|none=>trivial|full=>exact h3|own s=>cases hs⟩
 | .agg _,_,h,_=>by simp[zmf] at h
 | .tup _,_,h,_=>by simp[zmf] at h
 | .iptr _,_,h,_=>by simp[zmf] at h
 | .clos _ _,_,h,_=>by simp[zmf] at h
 | .iter _,_,h,_=>by simp[zmf] at h
 | .yld _,_,h,_=>by simp[zmf] at h
 | .bad,_,h,_=>by simp[zmf] at h
theorem zyt {IT:IterP} {X Y:Cx} (hκ:Y.κ=X.κ)(hw:Y.w=X.w): ∀(l:List AV) (vs:List Value),zgw l=true→zbk IT X l vs→zbk IT Y l vs
 |[],_,_,h=>h
 | a::l,vs,hf,⟨v,r,e,h1,h2⟩=>by
  rw[zgw,Bool.and_eq_true] at hf
  exact⟨v,r,e,qgz hκ hw a v hf.1 h1,zyt hκ hw l r hf.2 h2⟩
theorem z1p {n0:Nat} {S S':List AV} {σ σ':St} (h:Wk1 n0 S σ S' σ'):σ'.out=σ.out∧σ'.stop=σ.stop:=by
 rcases h with⟨_,(rfl|⟨n,_,_,_,rfl⟩)⟩|⟨n,fs,js,d,_,_,_,rfl⟩|⟨s,t,cs,_,_,rfl⟩|⟨s,k,t,cs,_,_,rfl⟩|⟨s,t,cs,_,_,rfl⟩<;>exact⟨rfl,rfl⟩
theorem wk_out {n0:Nat} {S S':List AV} {σ σ':St} (h:Wk n0 S σ S' σ'):σ'.out=σ.out∧σ'.stop=σ.stop:=by
 induction h with
 |one h=>exact z1p h
 |step h _ ih=>exact⟨ih.1.trans (z1p h).1,ih.2.trans (z1p h).2⟩
def aendGS (P:Program)(fn:Func)(n n0:Nat)(bs':List (TypeId×List AV)):AQ
 | .exit _,_,_=>False
 |_,S,σ=>(∃a,zba P fn σ S=some a)∧(σ.stop=true∨(σ.out=n∧ ∃σ',Wk n0 [] σ [] σ'∧σ'.boxes=bs'∧(bs'.all fun b=>zgw b.2)=true))
theorem qgl {P:Program} (hmix:P.follows .mixedOrders=true) {g:FuncId} {fn:Func} {c:Code} {caps:List AV} {rows:List (List AV)} (hne:rows≠errRows)(hf:P.funcs[g]? =some fn)(hb:fn.body=some c)(he:Ent P g)
 (h: ∀G:Gen,G.rows=rows→awp (ITP P) P (some G) 0 c (z7h P fn rows.length) (zat fn (.yld G.l::stripL caps)) St.empty) (hok:zad 0 caps=true) {X:Cx} {v:Value} (hgv:(ITP P).gv X.F X.w) (hv:Rep (ITP P) X (.clos g caps) v):Rep (ITP P) X (.iter rows) v:=by
 obtain⟨vs,rfl,hr⟩:=hv
 exact .inr ⟨hne,g,vs.toArray,X.F,rfl,he,fun _ _ h=>h,qin hmix hf hb h (O:=X.O) (C:=X.C) (zeo (X:=X) (Y:=⟨X.F,[],[],[],X.w,X.O,X.C⟩) (zn P) rfl rfl caps vs (.inl hok) hr) hgv⟩
theorem z9x {P:Program} (hmix:P.follows .mixedOrders=true) {σ:St} {a:AV} {g:FuncId} {fn:Func} {c:Code} {caps:List AV} {rows:List (List AV)} (hne:rows≠errRows)(h0:Ends P σ a (.clos g caps))(hf:P.funcs[g]? =some fn)(hb:fn.body=some c)(he:Ent P g)
 (h: ∀G:Gen,G.rows=rows→awp (ITP P) P (some G) 0 c (z7h P fn rows.length) (zat fn (.yld G.l::stripL caps)) St.empty) (hok:zad 0 caps=true):Ends P σ a (.iter rows):=fun Y v hI hv=>by
 obtain⟨F',f1,f2,f3,f4⟩:=h0 Y v hI hv
 exact⟨F',f1,f2,f3,qgl hmix hne hf hb he h hok ((zn P).gv _ _ _ _ f1 (fun _ _ _=>rfl) (Szs.refl _) hI.gv) f4⟩
theorem qhr {P:Program} {σ:St} {a r:AV} (n:Nat)(h:zgb (frz σ.boxes n) a=r):Ends P σ a r:=fun Y v hI hv=>by
 subst h
 refine⟨z6d Y,fun _ _ h=> .inl h,fun b o h=>h.imp id And.left,fun b o h=> ?_,zpt (Y:=⟨z6d Y,[],[],[],Y.w,Y.O,Y.C⟩) (zn P) (fun b o h=>Or.inl h) rfl (z3x (zn P) hI n) a v hv⟩
 rcases h with h|⟨_,h⟩
 ·exact hI.Fcell b o h
 ·exact h
end Go.Ab
