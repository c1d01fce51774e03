import Derived.Test.YtnoccnalocdldaaDoorZdW
import Derived.Scope
import Derived.Lib.LaidTab
import Derived.Lib.ItoaNum
set_option linter.all false
namespace Go.Ab
open Go Go.RowKit Go.Fwd
inductive AExit where
 |normal|exit (id:Nat)|ret
def AExit.to:AExit→Exit
 | .normal=> .normal
 | .exit id=> .exit id
 | .ret=> .ret
abbrev AQ:=AExit→List AV→St→Prop
def zes (n:Nat)(σ:St):St:={σ with boxes:=σ.boxes.take n}
def zwb (n:Nat)(σ:St):Bool:=(σ.boxes.take n).all fun bx=>zad n bx.2
def keepS (ks:Option (List Nat))(i:Nat):Bool:=match ks with|none=>true|some l=>l.contains i
def z8r (ks:Option (List Nat))(n:Nat)(S:List AV):List AV:=S.mapIdx fun i a=>if keepS ks i=true∧zbp n a=true then a else .top
def Fg:List AV→List AV→Prop
 |[],[]=>True
 |a::l,b::m=>(b=a∨b= .top)∧Fg l m
 |_,_=>False
theorem Fg.refl: ∀S,Fg S S
 |[]=>trivial
 |a::l=>⟨.inl rfl,Fg.refl l⟩
def mvN (s n i:Nat):Nat:=if i=s then n else i
def mvz (s n:Nat):FZ:=(fun i off=> .ptr (mvN s n i) off,fun i off k sz=> .bsl (mvN s n i) off k sz false)
def qja (s:Nat)(t:TypeId)(cs:List AV)(σ:St):St:=
 {σ with boxes:=(σ.boxes.mapIdx fun i b=>if i=s then(t,[]) else(b.1,zaf σ.lens.length (mvz s σ.boxes.length) b.2))++[(t,zaf σ.lens.length (mvz s σ.boxes.length) cs)]}
def Wk1 (n0:Nat)(S:List AV)(σ:St)(S':List AV)(σ':St):Prop:=(Fg S S'∧(σ'=σ∨ ∃n,n0≤n∧zwb n σ=true∧zad n S'=true∧zes n σ=σ'))∨
 (∃n fs js d,n0≤n∧zdc σ n js=true∧Fg (zaf σ.lens.length (kz σ.boxes σ.lens.length n fs js d) S) S'∧zer σ σ.lens.length n fs js d=σ')∨
 (∃(s:Nat) (t:TypeId) (cs:List AV),σ.boxes[s]? =some (t,cs)∧Fg S S'∧σ'={σ with boxes:=σ.boxes++[(t,[])]})∨
 (∃(s k:Nat) (t:TypeId) (cs:List AV),σ.boxes[s]? =some (t,cs)∧Fg S S'∧σ'={σ with boxes:=σ.boxes.set s (t,cs.take k)})∨
 ∃(s:Nat) (t:TypeId) (cs:List AV),σ.boxes[s]? =some (t,cs)∧Fg (zaf σ.lens.length (mvz s σ.boxes.length) S) S'∧σ'=qja s t cs σ
inductive Wk (n0:Nat):List AV→St→List AV→St→Prop
 |one {S S':List AV} {σ σ':St} (h:Wk1 n0 S σ S' σ'):Wk n0 S σ S' σ'
 |step {S S1 S':List AV} {σ σ1 σ':St} (h:Wk1 n0 S σ S1 σ1) (k:Wk n0 S1 σ1 S' σ'):Wk n0 S σ S' σ'
theorem Wk.refl (n:Nat)(S:List AV)(σ:St):Wk n S σ S σ:= .one (.inl ⟨Fg.refl S,.inl rfl⟩)
def ztz (K:List AV→St→Prop)(Q:AQ):AQ
 | .normal,S,σ=>K S σ
 |e,S,σ=>Q e S σ
def qjv (id:Nat)(Q:AQ):AQ
 | .exit j,S,σ=>if j=id then Q .normal S σ else Q (.exit j) S σ
 |e,S,σ=>Q e S σ
def z6z (m0 k0:Nat)(K:List AV→St→Prop)(S:List AV)(σ:St):Prop:=
 K S σ∨ ∃(m n:Nat) (fs js:List Nat) (d:Nat) (S':List AV),m0≤m∧k0≤n∧zdc σ n js=true∧Fg (zaf m (kz σ.boxes m n fs js d) S) S'∧K S' (zer σ m n fs js d)
def zil (m0 k0 id:Nat)(Q:AQ):AQ
 | .normal,S,σ=>z6z m0 k0 (Q .normal) S σ
 | .exit j,S,σ=>if j=id then z6z m0 k0 (Q .normal) S σ else Q (.exit j) S σ
 | .ret,S,σ=>Q .ret S σ
def zpo (W:AQ→List AV→St→Prop)(Q:AQ)(n0:Nat):Nat→List AV→St→Prop
 |0,_,_=>False
 |m+1,S,σ=> ∃S' σ',Wk n0 S σ S' σ'∧W (ztz (zpo W Q n0 m) Q) S' σ'
def zlh (S:List AV)(ps:Array Tmp)(x:List AV):List AV:=(ps.toList.zip x).foldl (fun S p=>S.set p.1 p.2) S
def qjh (Q:AQ)(S0:List AV)(n:Nat)(next:St→Prop):AQ
 | .normal,_,σ=>zwb n σ=true∧next (zes n σ)
 |e,_,σ=>zwb n σ=true∧Q e S0 (zes n σ)
def zzl (K:List AV→St→Prop):AQ
 | .normal,S1,σ1=>K S1 σ1
 |_,_,_=>False
def zev (Wa Wb:Nat→AQ→List AV→St→Prop)(ps:Array Tmp)(S0:List AV)(Q:AQ)(n:Nat):List (List AV)→St→Prop
 |[],σ=>Q .normal S0 σ
 |x::xs,σ=>Wa n (zzl (fun S1 σ1=>Wb σ1.boxes.length (qjh Q S0 n (zev Wa Wb ps S0 Q n xs)) S1 σ1)) (zlh S0 ps x) σ
def zcn:Code→Bool
 | .rangeFunc _ _ _ _=>false
 | .seq x y=>zcn x&&zcn y
 | .cond _ x y=>zcn x&&zcn y
 | .block _ x=>zcn x
 | .loop x=>zcn x
 | .scope x=>zcn x
 |_=>true
def IterX (P:Program)(g:FuncId)(lb:Array Value)(rows:List (List AV))(N:Nat→Prop)(F0:Nat→Nat→Prop)(w0:World):Prop:=
 ∀ (l:Nat) (W:World) (J:Nat→Frn→World→Prop) (Jx:Frn→World→Prop) (s0:Frn),(∀b o,F0 b o→(∃v,W.cell? ⟨b,o,none⟩=some v)∧W.cell? ⟨b,o,none⟩=w0.cell? ⟨b,o,none⟩)→Szs w0 W→(∀k,N k→W.heap[k]? =w0.heap[k]? ∧ ¬s0.O k∧ ∀o,¬s0.C k o)→GenOk P ⟨W.heap.size,F0,l,rows,J,Jx,N⟩→
  (∀b o,F0 b o→ ¬s0.O b∨s0.C b o)→(∀b,s0.O b→ ∃cs t f,W.heap[b]? =some (.cells cs t f))→(∀b o,s0.C b o→b<W.heap.size)→J 0 s0 W→
  Calls P g (#[.func (.yield l) #[] #[]]++lb) W fun e W'=>(∃v,e= .returned v)∧ ∃s,(J rows.length s W'∨Jx s W')
def IterR (P:Program)(g:FuncId)(lb:Array Value)(rows:List (List AV))(N:Nat→Prop)(F0:Nat→Nat→Prop)(w0:World)(R:Frn→World→Prop):Prop:=
 ∀ (l:Nat) (W:World) (J:Nat→Frn→World→Prop) (Jx:Frn→World→Prop) (s0:Frn),(∀b o,F0 b o→(∃v,W.cell? ⟨b,o,none⟩=some v)∧W.cell? ⟨b,o,none⟩=w0.cell? ⟨b,o,none⟩)→Szs w0 W→w0.heap.size≤W.heap.size→(∀k,N k→W.heap[k]? =w0.heap[k]? ∧ ¬s0.O k∧ ∀o,¬s0.C k o)→GenOk P ⟨W.heap.size,F0,l,rows,J,Jx,N⟩→
  (∀b o,F0 b o→ ¬s0.O b∨s0.C b o)→(∀b,s0.O b→ ∃cs t f,W.heap[b]? =some (.cells cs t f))→(∀b o,s0.C b o→b<W.heap.size)→J 0 s0 W→
  Calls P g (#[.func (.yield l) #[] #[]]++lb) W fun e W'=>(∃v,e= .returned v)∧ ∃s,(J rows.length s W'∧R s W')∨Jx s W'
theorem IterX.toR {P:Program} {g:FuncId} {lb:Array Value} {rows:List (List AV)} {N:Nat→Prop} {F0:Nat→Nat→Prop} {w0:World} (h:IterX P g lb rows N F0 w0):IterR P g lb rows N F0 w0 (fun _ _=>True):=
 fun l W J Jx s0 h1 h2 _ h3 h4 h5 h6 h7 h8=>(h l W J Jx s0 h1 h2 h3 h4 h5 h6 h7 h8).mono fun _ _ ⟨hv,s,hs⟩=>⟨hv,s,hs.imp (fun h=>⟨h,trivial⟩) id⟩
structure gvBase (P:Program)(w:World):Prop where
 err: ∀n g,(n= "strconv.ErrSyntax" ∨n= "strconv.ErrRange")→P.globalNamed n=some g→ ∃tp p,w.var? P n=some #[.iface tp p]
 pow: ∀g,P.globalNamed "internal/strconv.uint64pow10" =some g→Lib.TabIs P w "internal/strconv.uint64pow10" .u64 Lib.pow10Tab
 max: ∀g,P.globalNamed "internal/bytealg.MaxLen" =some g→ ∃m,w.cell? ⟨g,0,none⟩=some (.int .i64 m)
def gvP (P:Program)(F:Nat→Nat→Prop)(w:World):Prop:= ∃w0:World,gvBase P w0∧Szs w0 w∧ ∀b o v,b<P.globals.size→w0.cell? ⟨b,o,none⟩=some v→F b o∧w.cell? ⟨b,o,none⟩=some v
def ITP (P:Program):IterP:=⟨fun v rows X=>(rows=errRows∧ ∃t p,v= .iface t p)∨rows≠errRows∧ ∃(g:Nat) (lb:Array Value) (F0:Nat→Nat→Prop),v= .func (.func g) #[] lb∧Ent P g∧(∀b o,F0 b o→X.F b o)∧IterX P g lb rows (fun _=>False) F0 X.w,gvP P⟩
def IterB (P:Program)(g:FuncId)(t:TypeId)(cs:List AV)(rows:List (List AV)):Prop:=
 ∀ (F0:Nat→Nat→Prop) (w0:World) (O:Nat→Prop) (C:Nat→Nat→Prop) (b:Nat) (vs zs:List Value),(ITP P).gv F0 w0→w0.heap[b]? =some (.cells (vs++zs).toArray t (0,0))→zbk (ITP P) ⟨F0,[],[],[],w0,O,C⟩ cs vs→(∀v∈vs,v.oneCell'=true)→(∀o,¬F0 b o)→(∀b o,F0 b o→ ∃v,w0.cell? ⟨b,o,none⟩=some v)→
  IterX P g #[.pointer (some ⟨b,0,none⟩)] rows (fun k=>k=b) F0 w0
def qdt (P:Program)(κ0:List Nat)(bs':List (TypeId×List AV))(n0:Nat)(s:Frn)(W:World):Prop:=
 ∃ κ':List Nat,κ'.length=bs'.length∧(∀i b:Nat,κ0[i]? =some b→κ'[i]? =some b)∧(∀i j b:Nat,κ'[i]? =some b→κ'[j]? =some b→i≠j→(∃t,bs'[i]? =some (t,[]))∨ ∃t,bs'[j]? =some (t,[]))∧
  (∀b∈κ',(b∈κ0∨n0≤b)∧ ¬s.O b)∧ ∀(i b:Nat) (t:TypeId) (cs:List AV),κ'[i]? =some b→bs'[i]? =some (t,cs)→
   (∃vs zs:List Value,W.heap[b]? =some (.cells (vs++zs).toArray t (0,0))∧zbk (ITP P) ⟨fun _ _=>False,κ',[],[],W,fun _=>False,fun _ _=>False⟩ cs vs∧ ∀v∈vs,v.oneCell'=true)∧(cs≠[]→ ∀o,¬s.C b o)
def z8h (P:Program)(g:FuncId)(caps:List AV)(bs:List (TypeId×List AV))(rows:List (List AV))(bs':List (TypeId×List AV)):Prop:=
 ∀ (F0:Nat→Nat→Prop) (w0:World) (O:Nat→Prop) (C:Nat→Nat→Prop) (κ0:List Nat) (lb:List Value),(ITP P).gv F0 w0→κ0.length=bs.length→κ0.Nodup→
  (∀(i b:Nat) (t:TypeId) (cs:List AV),κ0[i]? =some b→bs[i]? =some (t,cs)→ ∃vs zs:List Value,w0.heap[b]? =some (.cells (vs++zs).toArray t (0,0))∧zbk (ITP P) ⟨F0,κ0,[],[],w0,O,C⟩ cs vs∧ ∀v∈vs,v.oneCell'=true)→
  (∀b∈κ0,∀o,¬F0 b o)→zbk (ITP P) ⟨F0,κ0,[],[],w0,O,C⟩ caps lb→(∀b o,F0 b o→ ∃v,w0.cell? ⟨b,o,none⟩=some v)→
  IterR P g lb.toArray rows (fun k=>k∈κ0) F0 w0 (qdt P κ0 bs' w0.heap.size)
def fwN (js:List Nat)(n i:Nat):Nat:=js.getD i (n+(i-js.length))
def fwz (js:List Nat)(n:Nat):FZ:=(fun s off=> .ptr (fwN js n s) off,fun s off k sz=> .bsl (fwN js n s) off k sz false)
def bwz (js:List Nat):FZ:=(fun s off=>if js.contains s then .ptr (js.idxOf s) off else .top,fun s off k sz=>if js.contains s then .bsl (js.idxOf s) off k sz false else .top)
def gz (js:List Nat):FZ:=(fun s off=>if js.contains s then .top else .ptr s off,fun s off k sz=>if js.contains s then .top else .bsl s off k sz false)
def Hand (σ:St)(js hs:List Nat)(m:Nat)(bs:List (TypeId×List AV))(σ1:St):Prop:=
 js.Nodup∧js.length=bs.length∧(∀(i:Nat) (t:TypeId) (cs:List AV),bs[i]? =some (t,cs)→ ∃C,σ.boxes[fwN js 0 i]? =some (t,C)∧zaf 0 (bwz js) C=cs∧C≠[])∧
  (js.all fun j=>hs.contains j)=true∧(∀(i:Nat) (t:TypeId),σ.boxes[i]? =some (t,[])→hs.contains i=true)∧hs.contains m=false∧
  ∃(tm:TypeId) (Cm:List AV),σ.boxes[m]? =some (tm,Cm)∧σ1={σ with boxes:=σ.boxes.mapIdx fun i b=>if hs.contains i=true then(tm,[]) else(b.1,zaf σ.lens.length (gz hs) b.2)}
def zie (js hs:List Nat)(bs' bx:List (TypeId×List AV))(σ:St):St:=
 {σ with boxes:=(σ.boxes.mapIdx fun i b=>if js.contains i=true then((bs'[js.idxOf i]?).map fun c=>(c.1,zaf 0 (fwz js bx.length) c.2)).getD b else if hs.contains i=true then(bx[i]?).getD b else(b.1,zaf σ.lens.length (gz hs) b.2))++(bs'.drop js.length).map fun c=>(c.1,zaf 0 (fwz js bx.length) c.2)}
def z9e (Q:AQ)(S:List AV)(js hs:List Nat)(bs' bx:List (TypeId×List AV)):AQ
 | .normal,_,σ=>Q .normal S (zie js hs bs' bx σ)
 |_,_,_=>False
def FenceAt (B:Nat)(F:Fence)(w:World):Prop:=F=Fence.wide∨ ∃(l0:Nat) (r0:Loop),F=Fence.wide.inRound l0∧B≤l0∧w.heap[l0]? =some (.loop r0)
def qel (IT:IterP)(P:Program)(c:Code)(S:List AV)(σ:St)(S':List AV)(σ':St):Prop:=
 ∀ {F:Fence} {nn B:Nat} {X0 X:Cx} {a:Act},FenceOk F P→(B≤X0.w.heap.size∧ ∃σ0,Inv IT σ0 X0)→Now IT none F B X0 S σ X a→(FenceAt B F X0.w∨zcn c=true)→
  c.wpIn F nn P (fun e a' w'=>e= .normal∧ ∃X',X'.w=w'∧Now IT none F B X0 S' σ' X' a') a X.w
def awp (IT:IterP)(P:Program)(W:Owed):Nat→Code→AQ→List AV→St→Prop
 |_,.skip,Q=>Q .normal
 |k0,.seq x y,Q=>fun S σ=>awp IT P W k0 x (ztz (fun S1 σ1=> ∃S' σ',Wk k0 S1 σ1 S' σ'∧awp IT P W k0 y Q S' σ') Q) S σ∨(W=none∧ ∃(S':List AV) (σ':St),qel IT P x S σ S' σ'∧awp IT P W k0 y Q S' σ')
 |k0,.cond c x y,Q=>fun S σ=> ∃t,zcc S c= .raw (.bool t)∧(if t=true then awp IT P W k0 x Q S σ else awp IT P W k0 y Q S σ)
 |k0,.block id x,Q=>fun S σ=>awp IT P W k0 x (zil σ.lens.length k0 id Q) S σ∨(W=none∧ ∃(S':List AV) (σ':St),qel IT P (.block id x) S σ S' σ'∧Q .normal S' σ')
 |k0,.loop x,Q=>fun S σ=> ∃m,zpo (awp IT P W k0 x) Q k0 m S σ
 |_,.exit id,Q=>Q (.exit id)
 |_,.ret,Q=>Q .ret
 |_,.label _,Q=>Q .normal
 |k0,.scope x,Q=>awp IT P W k0 x Q
 |_,.region _ ops false,Q=>zcq IT P W ops (Q .normal) ops.toList
 |_,.region id ops true,Q=>fun S σ=>adraw IT P W ops (Q .normal) S σ∨qjg IT P W ops (Q .normal) S σ∨qiu IT P W ops (Q .normal) S σ∨qiy IT P ops (Q .normal) S σ∨(W=none∧ ∃(S':List AV) (σ':St),qel IT P (.region id ops true) S σ S' σ'∧Q .normal S' σ')
 | k0,.rangeFunc f ps asg body,Q=>fun S σ=>(∃xs,zcc S f= .iter xs∧Nat.ble ps.size 8=true∧(xs.all fun x=>decide (x.length=ps.size))=true∧zcn asg=true∧zev (fun k=>awp IT P W k asg) (fun k=>awp IT P W k body) ps S Q σ.boxes.length xs σ)∨
  (∃(g n t:Nat) (cs:List AV) (xs:List (List AV)) (S':List AV),zcc S f= .clos g [.ptr n 0]∧((σ.boxes[n]? =some (t,cs)∧cs≠[])∧σ.boxes.length=n+1)∧k0≤n∧((σ.boxes.take n).all fun b=> !b.2.isEmpty)=true∧zcn asg=true∧(xs.all fun x=>decide (x.length=ps.size))=true∧
   IterB P g t (stripL cs) xs∧Ent P g∧zwb n σ=true∧zad n S'=true∧Fg S S'∧zad 0 cs=true∧zev (fun k=>awp IT P W k asg) (fun k=>awp IT P W k body) ps S' Q n xs (zes n σ))∨
  ∃ (g:Nat) (caps:List AV) (js hs:List Nat) (m:Nat) (bs bs':List (TypeId×List AV)) (xs:List (List AV)) (S':List AV) (σ1:St),zcc S f= .clos g caps∧Hand σ js hs m bs σ1∧Fg (zaf σ.lens.length (gz hs) S) S'∧W=none∧zcn asg=true∧(xs.all fun x=>decide (x.length=ps.size))=true∧
   z8h P g (zaf 0 (bwz js) caps) bs xs bs'∧Ent P g∧(∀(i:Nat) (t:TypeId) (cs:List AV),bs[i]? =some (t,cs)→ ∃cs',bs'[i]? =some (t,cs'))∧
   zev (fun k=>awp IT P W k asg) (fun k=>awp IT P W k body) ps S' (z9e Q S js hs bs' σ.boxes) σ.boxes.length xs σ1
 |_,_,_=>fun _ _=>False
theorem zn (P:Program):ITMono (ITP P):=by
 refine⟨?_,fun F F' w w' hF hc hz ⟨w0,h1,h3,h2⟩=>⟨w0,h1,h3.trans hz,fun b o v hb hv=>⟨hF b o (h2 b o v hb hv).1,(hc b o (h2 b o v hb hv).1).trans (h2 b o v hb hv).2⟩⟩,fun v X h=>h.elim (fun h=>h.2) (fun h=>absurd rfl h.1)⟩
 rintro v rows X X' hF hc hz (h|⟨hne,g,lb,F0,h1,h2,h3,h4⟩)
 ·exact .inl h
 exact .inr ⟨hne,g,lb,F0,h1,h2,fun b o h=>hF b o (h3 b o h),fun l W J Jx s0 k1 k0 kN k2=>h4 l W J Jx s0 (fun b o h=>⟨(k1 b o h).1,(k1 b o h).2.trans (hc b o (h3 b o h))⟩) (hz.trans k0) (fun _ h=>h.elim) k2⟩
theorem qgc {M:Option Gen} {X0 X:Cx} {n:Nat} (h:Rel M X0 X)(hn:X0.κ.length≤n):Rel M X0 {X with κ:=X.κ.take n}:=by
 have hκ: ∀(s b:Nat),X0.κ[s]? =some b→(X.κ.take n)[s]? =some b:=fun s b hs=>by
  have:=(List.getElem?_eq_some_iff.1 hs).1
  rw[List.getElem?_take,if_pos (by omega)];exact h.sub.κ s b hs
 cases M with
 | none=>
  have h:Ext X0 X:=h
  exact {h with κ:=hκ,F:=h.F,cell:=h.cell,lens:=h.lens,blk:=h.blk,szs:=h.szs,κnew:=fun b hb=>h.κnew b (List.mem_of_mem_take hb):Ext X0 {X with κ:=X.κ.take n}}
 | some G=>
  have h:ExtG G.B X0 X:=h
  exact {h with κ:=hκ,F:=h.F,cell:=h.cell,lens:=h.lens,blk:=h.blk,szs:=h.szs,κnew:=fun b hb=>h.κnew b (List.mem_of_mem_take hb):ExtG G.B X0 {X with κ:=X.κ.take n}}
theorem z4t {M:Option Gen} {σ:St} {X:Cx} {n:Nat} (h:FrM M σ X):FrM M (zes n σ) {X with κ:=X.κ.take n}:=by
 cases M with
 |none=>trivial
 | some G=>
  obtain⟨s,h1,h2,h3,h4,h5,h6,h7⟩:=h
  exact⟨s,h1,⟨h2.1,fun b o hc=>(h2.2 b o hc).imp id fun⟨k1,k2,k3⟩=>⟨k1,fun hm=>k2 (List.mem_of_mem_take hm),k3⟩⟩,h3,h4,fun b hb=>h5 b (List.mem_of_mem_take hb),h6,h7⟩
theorem z5x {IT:IterP} (hIT:ITMono IT) {X:Cx} {σ:St} {n:Nat} (hI:Inv IT σ X)(hok:zwb n σ=true):Inv IT (zes n σ) {X with κ:=X.κ.take n}:=
  { hI with
    lens:=hI.lens
    elems:=hI.elems
    κlen:=by simp[zes,hI.κlen]
    κnd :=fun s s' b hs hs' hne=>by
      have cut: ∀(s:Nat),(X.κ.take n)[s]? =some b→s<n∧X.κ[s]? =some b:=fun s h=>by
        rw[List.getElem?_take] at h
        split at h
        · exact⟨‹_›,h⟩
        · cases h
      obtain⟨l1,h1⟩:=cut s hs
      obtain⟨l2,h2⟩:=cut s' hs'
      refine(hI.κnd s s' b h1 h2 hne).imp (fun⟨t,e⟩=>⟨t,?_⟩) (fun⟨t,e⟩=>⟨t,?_⟩)
      · show(σ.boxes.take n)[s]? =_
        rw[List.getElem?_take,if_pos l1];exact e
      · show(σ.boxes.take n)[s']? =_
        rw[List.getElem?_take,if_pos l2];exact e
    box :=fun s b t cs hs hb=>by
      have hs':s<n:=by
        have:=(List.getElem?_eq_some_iff.1 hs).1
        have h2:s<(X.κ.take n).length:=this
        simp at h2;omega
      have e1:X.κ[s]? =some b:=by have h2:(X.κ.take n)[s]? =some b:=hs;rwa[List.getElem?_take,if_pos hs'] at h2
      have e2:σ.boxes[s]? =some (t,cs):=by have h2:(σ.boxes.take n)[s]? =some (t,cs):=hb;rwa[List.getElem?_take,if_pos hs'] at h2
      obtain⟨vs,zs,u1,u2,u3⟩:=hI.box s b t cs e1 e2
      have hm:(t,cs)∈σ.boxes.take n:=List.mem_of_getElem? hb
      exact⟨vs,zs,u1,zkm (X:=X) (Y:={X with κ:=X.κ.take n}) hIT rfl rfl rfl rfl rfl cs vs (List.all_eq_true.1 hok _ hm) u2,u3⟩
    κF :=fun s b t cs hs hb=>by
      have hs':s<n:=by
        have:=(List.getElem?_eq_some_iff.1 hs).1
        have h2:s<(X.κ.take n).length:=this
        simp at h2;omega
      have e1:X.κ[s]? =some b:=by have h2:(X.κ.take n)[s]? =some b:=hs;rwa[List.getElem?_take,if_pos hs'] at h2
      have e2:σ.boxes[s]? =some (t,cs):=by have h2:(σ.boxes.take n)[s]? =some (t,cs):=hb;rwa[List.getElem?_take,if_pos hs'] at h2
      exact hI.κF s b t cs e1 e2
    βκ:=fun r hr hm=>hI.βκ r hr (List.mem_of_mem_take hm)
    Ok :=fun b ho=>by
      obtain⟨k1,k2,k3⟩:=hI.Ok b ho
      exact⟨k1,fun hm=>k2 (List.mem_of_mem_take hm),k3⟩}
theorem zvy {IT:IterP} {M:Option Gen} {F:Fence} {B:Nat} (hIT:ITMono IT) {X0 X:Cx} {S:List AV} {σ:St} {a:Act} {n:Nat} (ks:Option (List Nat))(h:Now IT M F B X0 S σ X a)(hn:X0.κ.length≤n)(hok:zwb n σ=true):Now IT M F B X0 (z8r ks n S) (zes n σ) {X with κ:=X.κ.take n} a where
 ext:=qgc h.ext hn
 inv:=z5x hIT h.inv hok
 reps:=zfb (by have:=zr h.reps;simpa[z8r] using this) fun i x v e1 e2=>by
  simp only[z8r,List.getElem?_mapIdx,Option.map_eq_some_iff] at e1
  obtain⟨y,hy,rfl⟩:=e1
  obtain⟨v',hv',hr⟩:=zeg h.reps i y hy
  rw[e2] at hv';cases hv'
  split
  ·rename_i ho
   exact zrg (X:=X) (Y:={X with κ:=X.κ.take n}) hIT rfl rfl rfl rfl rfl y v ho.2 hr
  ·rw[Rep];trivial
 marks:=h.marks
 frn:=z4t h.frn
theorem zgu {IT:IterP} {X:Cx}: ∀ {S S':List AV} {vs:List Value},Fg S S'→zbk IT X S vs→zbk IT X S' vs
 |[],[],vs,_,h=>h
 |a::l,b::m,vs,⟨h1,h2⟩,⟨v,r,e,k1,k2⟩=>⟨v,r,e,by rcases h1 with rfl|rfl<;>first|exact k1|trivial,zgu h2 k2⟩
 |[],_::_,_,h,_=>h.elim
 |_::_,[],_,h,_=>h.elim
theorem z6i (n:Nat)(S:List AV)(h:zad n S=true):z8r none n S=S:=by
 apply List.ext_getElem?
 intro i
 simp only[z8r,List.getElem?_mapIdx]
 cases hi:S[i]? with
 |none=>rfl
 | some a=>
  have:zbp n a=true:=by rw[zhi] at h;exact List.all_eq_true.1 h a (List.mem_of_getElem? hi)
  simp[keepS,this]
theorem z6h {X Y:Cx} (h:Sub X Y):X.lens.length≤Y.lens.length:=by
 rcases Nat.eq_zero_or_pos X.lens.length with h0|h0
 ·omega
 ·have hi:X.lens.length-1<X.lens.length:=by omega
  obtain⟨L',h1,_⟩:=h.lens (X.lens.length-1) _ (List.getElem?_eq_getElem hi)
  have:=(List.getElem?_eq_some_iff.1 h1).1
  omega
theorem qig {IT :IterP} {M:Option Gen} {σ:St} {X Y:Cx} (hE:Rel M X Y)(hI:Inv IT σ Y) {m n:Nat} {fs js:List Nat} (hok:zdc σ n js=true)(hn:X.κ.length≤n)(hm:X.lens.length≤m):Rel M X (zcz σ m n fs js Y):=by
  cases M with
  |none=>exact zrl (show Ext X Y from hE) hI hok hn hm
  | some G =>
    have hE:ExtG G.B X Y:=hE
    have hok':=hok
    simp only[zdc,Bool.and_eq_true,decide_eq_true_eq] at hok'
    have hl:=hI.κlen
    exact { os :=hE.os,tape:=hE.tape,output:=hE.output,size:=hE.size,drawn:=hE.drawn,cell:=hE.cell
            F:=fun b o h=> .inl (hE.F b o h)
            κ :=fun s b hs=>by
              have:=(List.getElem?_eq_some_iff.1 hs).1
              show(Y.κ.take n++js.map fun j=>Y.κ[j]?.getD 0)[s]? =some b
              rw[List.getElem?_append_left (by simp;omega),List.getElem?_take,if_pos (by omega)];exact hE.κ s b hs
            lens:=fun s L hs=>by
              have hsm:s<m:=by have:=(List.getElem?_eq_some_iff.1 hs).1;omega
              obtain⟨L',k1,k2,k3⟩:=hE.lens s L hs
              obtain⟨q1,q2⟩:=zhj (σ:=σ) (Y:=Y) (n:=n) (fs:=fs) (js:=js) s hsm
              exact⟨L',by rw[q1];exact k1,k2,fun e=>by rw[q2];exact k3 e⟩
            blk:=hE.blk
            szs:=hE.szs
            frame:=hE.frame
            κnew:=fun b hb=>hE.κnew b (z6k hI hok hb)
            βnew:=fun r hr=>hE.βnew r (List.mem_of_mem_take hr)
            Onew:=hE.Onew
            Cmono:=hE.Cmono
            Cnew:=hE.Cnew
            Fnew :=fun b o h=>by
              rcases keepF hI h with h|h
              · exact hE.Fnew b o h
              · rcases hE.κnew b h with h|h
                · exact .inr (.inr (.inr h))
                · exact .inr (.inl h)}
theorem z0h {IT:IterP} {M:Option Gen} {F:Fence} {B:Nat} (hIT:ITMono IT) {X0 X:Cx} {S:List AV} {σ:St} {a:Act} {n:Nat} (h:Now IT M F B X0 S σ X a) {m:Nat} (hm:X0.lens.length≤m)(hn:X0.κ.length≤n) {fs js:List Nat} {d:Nat} (hok:zdc σ n js=true):
 Now IT M F B X0 (zaf m (kz σ.boxes m n fs js d) S) (zer σ m n fs js d) (zcz σ m n fs js X) a where
 ext:=qig h.ext h.inv hok hn hm
 inv:=zri hIT h.inv hok d
 reps:=zde (X:=X) (Y:=zcz σ m n fs js X) hIT (fun b o h=>Or.inl h) rfl zhj (znz hIT h.inv hok d) _ _ h.reps
 marks:=h.marks
 frn :=by
  have hf:=h.frn
  cases M with
  |none=>trivial
  | some G=>
   obtain⟨s,f1,f2,f3,f4,f5,f6,f7⟩:Fr G σ X:=hf
   exact⟨s,f1,⟨f2.1,fun b o hc=>by
    rcases f2.2 b o hc with k|⟨k1,k2,k3⟩
    ·exact .inl (.inl k)
    ·exact .inr ⟨k1,fun hm=>k2 (z6k h.inv hok hm),fun r hr=>k3 r (List.mem_of_mem_take hr)⟩⟩,f3,f4,fun b hb=>f5 b (z6k h.inv hok hb),fun r hr=>f6 r (List.mem_of_mem_take hr),fun b o hF=>by
    rcases keepF h.inv hF with k|k
    ·exact f7 b o k
    ·exact .inr (f5 b k)⟩
theorem qhf {IT:IterP} {M:Option Gen} {F:Fence} {B:Nat} (hIT:ITMono IT) {X0 X:Cx} {S:List AV} {σ:St} {a:Act} {n:Nat} (h:Now IT M F B X0 S σ X a)(hn:X0.κ.length≤n) {fs js:List Nat} {d:Nat} (hok:zdc σ n js=true):
 Now IT M F B X0 (zaf σ.lens.length (kz σ.boxes σ.lens.length n fs js d) S) (zer σ σ.lens.length n fs js d) (zcz σ σ.lens.length n fs js X) a:=
 z0h hIT h (by rw[←h.inv.lens];exact z6h h.ext.sub) hn hok
theorem inv_cut {IT:IterP} {σ:St} {X:Cx} (hI:Inv IT σ X) {s k:Nat} {t:TypeId} {cs:List AV} (hb:σ.boxes[s]? =some (t,cs)):Inv IT {σ with boxes:=σ.boxes.set s (t,cs.take k)} X:=by
 have get: ∀(i:Nat) (t':TypeId) (c:List AV),(σ.boxes.set s (t,cs.take k))[i]? =some (t',c)→ ∃c',σ.boxes[i]? =some (t',c')∧(c=c'∨c=c'.take k):=fun i t' c h=>by
  rw[List.getElem?_set] at h
  split at h
  ·rename_i e;subst e
   split at h
   ·cases h;exact⟨cs,hb,.inr rfl⟩
   ·cases h
  ·exact⟨c,h,.inl rfl⟩
 have emp: ∀(i:Nat) (t':TypeId),σ.boxes[i]? =some (t',[])→(σ.boxes.set s (t,cs.take k))[i]? =some (t',[]):=fun i t' h=>by
  rw[List.getElem?_set]
  split
  ·rename_i e;subst e
   have hl:=(List.getElem?_eq_some_iff.1 hb).1
   rw[hb] at h;cases h
   rw[if_pos hl,List.take_nil]
  ·exact h
 refine {hI with lens:=hI.lens,elems:=hI.elems,κlen:=by rw[hI.κlen];simp,κnd:=fun a c b h1 h2 h3=>(hI.κnd a c b h1 h2 h3).imp (fun⟨t,e⟩=>⟨t,emp a t e⟩) (fun⟨t,e⟩=>⟨t,emp c t e⟩),box:=fun i b t' c h1 h2=> ?_,κF:=fun i b t' c h1 h2 hne o=> ?_}
 ·obtain⟨c',e1,e2⟩:=get i t' c h2
  obtain⟨us,zs,u1,u2,u3⟩:=hI.box i b t' c' h1 e1
  rcases e2 with rfl|rfl
  ·exact⟨us,zs,u1,u2,u3⟩
  ·refine⟨us.take k,us.drop k++zs,by rw[←List.append_assoc,List.take_append_drop];exact u1,?_,fun v hv=>u3 v (List.mem_of_mem_take hv)⟩
   have hl:=zr u2
   refine zfb (by simp[hl]) fun j a v h3 h4=> ?_
   rw[List.getElem?_take] at h3 h4
   split at h3
   ·rename_i hj
    rw[if_pos hj] at h4
    obtain⟨v',h5,h6⟩:=zeg u2 j a h3
    rw[h4] at h5;cases h5;exact h6
   ·cases h3
 ·obtain⟨c',e1,e2⟩:=get i t' c h2
  exact hI.κF i b t' c' h1 e1 (fun e=>hne (by rcases e2 with rfl|rfl<;>simp[e])) o
theorem qgd {IT:IterP} (hIT:ITMono IT) {σ:St} {X:Cx} (hI:Inv IT σ X) {s b0:Nat} {t:TypeId} {cs:List AV} (hb:σ.boxes[s]? =some (t,cs))(hs:X.κ[s]? =some b0):
 Ext X {X with κ:=X.κ++[b0]}∧Inv IT (qja s t cs σ) {X with κ:=X.κ++[b0]}∧ ∀(l:List AV) (vs:List Value),zbk IT X l vs→zbk IT {X with κ:=X.κ++[b0]} (zaf σ.lens.length (mvz s σ.boxes.length) l) vs:=by
 have hXl:=hI.κlen
 have hm0:b0∈X.κ:=List.mem_of_getElem? hs
 have hκo: ∀i b:Nat,X.κ[i]? =some b→(X.κ++[b0])[i]? =some b:=fun i b h=>by
  rw[List.getElem?_append_left (List.getElem?_eq_some_iff.1 h).1];exact h
 have hκi: ∀i b:Nat,(X.κ++[b0])[i]? =some b→(i<σ.boxes.length∧X.κ[i]? =some b)∨(i=σ.boxes.length∧b=b0):=fun i b h=>by
  rcases Nat.lt_or_ge i X.κ.length with hlt|hge
  ·rw[List.getElem?_append_left hlt] at h;exact .inl ⟨by omega,h⟩
  ·rw[List.getElem?_append_right hge] at h
   have h0:=(List.getElem?_eq_some_iff.1 h).1
   simp at h0
   have e:i-X.κ.length=0:=by omega
   rw[e] at h
   simp at h
   exact .inr ⟨by omega,h.symm⟩
 have hmm: ∀b∈X.κ++[b0],b∈X.κ:=fun b h=>by
  rcases List.mem_append.1 h with h|h
  ·exact h
  ·simp at h;subst h;exact hm0
 have hmv: ∀i b:Nat,X.κ[i]? =some b→(X.κ++[b0])[mvN s σ.boxes.length i]? =some b:=fun i b h=>by
  unfold mvN
  split
  ·rename_i e;subst e
   rw[hs] at h;cases h
   rw[←hXl,List.getElem?_append_right (Nat.le_refl _),Nat.sub_self];rfl
  ·exact hκo i b h
 have hg:(∀i off v,Rep IT X (.ptr i off) v→Rep IT {X with κ:=X.κ++[b0]} ((mvz s σ.boxes.length).1 i off) v)∧ ∀i off n sz f v,Rep IT X (.bsl i off n sz f) v→Rep IT {X with κ:=X.κ++[b0]} ((mvz s σ.boxes.length).2 i off n sz) v:=by
  refine⟨?_,?_⟩
  ·rintro i off v ⟨b,hb,rfl⟩
   exact⟨b,hmv i b hb,rfl⟩
  ·rintro i off n sz f v ⟨b,cap,cur,t,hb,rfl,hcap,hful,hrow,hfit⟩
   exact⟨b,cap,cur,t,hmv i b hb,rfl,hcap,(fun h=>by cases h),hrow,hfit⟩
 have hmL:=zde (X:=X) (Y:={X with κ:=X.κ++[b0]}) (m:=σ.lens.length) hIT (fun _ _ h=>h) rfl (fun i _=>⟨rfl,rfl⟩) hg
 have hnew: ∀(i:Nat) (t':TypeId) (c:List AV),(qja s t cs σ).boxes[i]? =some (t',c)→(i=s∧t'=t∧c=[])∨(i<σ.boxes.length∧i≠s∧ ∃c',σ.boxes[i]? =some (t',c')∧c=zaf σ.lens.length (mvz s σ.boxes.length) c')∨(i=σ.boxes.length∧t'=t∧c=zaf σ.lens.length (mvz s σ.boxes.length) cs):=fun i t' c h=>by
  have h:((σ.boxes.mapIdx fun i b=>if i=s then(t,[]) else(b.1,zaf σ.lens.length (mvz s σ.boxes.length) b.2))++[(t,zaf σ.lens.length (mvz s σ.boxes.length) cs)])[i]? =some (t',c):=h
  rcases Nat.lt_or_ge i σ.boxes.length with hlt|hge
  ·rw[List.getElem?_append_left (by simpa using hlt)] at h
   simp only[List.getElem?_mapIdx,List.getElem?_eq_getElem hlt,Option.map_some,Option.some.injEq] at h
   by_cases e:i=s
   ·rw[if_pos e] at h;cases h;exact .inl ⟨e,rfl,rfl⟩
   ·rw[if_neg e] at h;cases h;exact .inr (.inl ⟨hlt,e,_,List.getElem?_eq_getElem hlt,rfl⟩)
  ·rw[List.getElem?_append_right (by simpa using hge)] at h
   have h0:=(List.getElem?_eq_some_iff.1 h).1
   simp at h0
   have e:i-(σ.boxes.mapIdx fun i b=>if i=s then(t,[]) else(b.1,zaf σ.lens.length (mvz s σ.boxes.length) b.2)).length=0:=by simp;omega
   rw[e] at h
   simp at h
   exact .inr (.inr ⟨by omega,h.1.symm,h.2.symm⟩)
 have hsl:s<σ.boxes.length:=(List.getElem?_eq_some_iff.1 hb).1
 have ems:(qja s t cs σ).boxes[s]? =some (t,[]):=by
  show((σ.boxes.mapIdx fun i b=>if i=s then(t,[]) else(b.1,zaf σ.lens.length (mvz s σ.boxes.length) b.2))++[(t,zaf σ.lens.length (mvz s σ.boxes.length) cs)])[s]? =_
  rw[List.getElem?_append_left (by simpa using hsl)]
  simp[List.getElem?_mapIdx,hb]
 have emo: ∀(i:Nat) (t':TypeId),σ.boxes[i]? =some (t',[])→(qja s t cs σ).boxes[i]? =some (t',[]):=fun i t' h=>by
  by_cases e:i=s
  ·subst e;rw[hb] at h;cases h;exact ems
  ·show((σ.boxes.mapIdx fun i b=>if i=s then(t,[]) else(b.1,zaf σ.lens.length (mvz s σ.boxes.length) b.2))++[(t,zaf σ.lens.length (mvz s σ.boxes.length) cs)])[i]? =_
   rw[List.getElem?_append_left (by simpa using(List.getElem?_eq_some_iff.1 h).1)]
   simp[List.getElem?_mapIdx,h,e,zaf]
 have eml:cs=[]→(qja s t cs σ).boxes[σ.boxes.length]? =some (t,[]):=fun h=>by
  show((σ.boxes.mapIdx fun i b=>if i=s then(t,[]) else(b.1,zaf σ.lens.length (mvz s σ.boxes.length) b.2))++[(t,zaf σ.lens.length (mvz s σ.boxes.length) cs)])[_]? =_
  rw[List.getElem?_append_right (by simp)]
  simp[h,zaf]
 refine⟨?_,?_,hmL⟩
 ·exact {Ext.refl X with
   F:=fun _ _ h=>h,cell:=fun _ _ _=>rfl,lens:=fun s L h=>⟨L,h,Nat.le_refl _,fun _=>rfl⟩,szs:=Szs.refl _
   κ:=hκo
   blk:=fun _ _ _ cur _ _ h=>⟨cur,h,rfl⟩
   κnew:=fun b hb=> .inl (hmm b hb)
   Fnew:=fun _ _ h=> .inl h}
 ·refine {hI with lens:=hI.lens,elems:=hI.elems,κlen:=by show(X.κ++[b0]).length=(_++[_]:List _).length;simp[hXl],κnd:=fun i j b h1 h2 hne=> ?_,box:=fun i b t' c h1 h2=> ?_,κF:=fun i b t' c h1 h2 hne o=> ?_,βκ:=fun r hr hm=>hI.βκ r hr (hmm _ hm),Ok:=fun b hb=> ?_,Fcell:=hI.Fcell,gv:=hI.gv}
  ·rcases hκi i b h1 with⟨l1,k1⟩|⟨l1,rfl⟩<;>rcases hκi j b h2 with⟨l2,k2⟩|⟨l2,k2⟩
   ·exact(hI.κnd i j b k1 k2 hne).imp (fun⟨t',e⟩=>⟨t',emo i t' e⟩) (fun⟨t',e⟩=>⟨t',emo j t' e⟩)
   ·subst k2
    by_cases e:i=s
    ·subst e;exact .inl ⟨t,ems⟩
    ·rcases hI.κnd i s b k1 hs e with⟨t',e2⟩|⟨t',e2⟩
     ·exact .inl ⟨t',emo i t' e2⟩
     ·rw[hb] at e2;cases e2;rw[l2];exact .inr ⟨_,eml rfl⟩
   ·by_cases e:j=s
    ·subst e;exact .inr ⟨t,ems⟩
    ·rcases hI.κnd j s b k2 hs e with⟨t',e2⟩|⟨t',e2⟩
     ·exact .inr ⟨t',emo j t' e2⟩
     ·rw[hb] at e2;cases e2;rw[l1];exact .inl ⟨_,eml rfl⟩
   ·omega
  ·rcases hnew i t' c h2 with⟨rfl,rfl,rfl⟩|⟨l1,e,c',h3,rfl⟩|⟨rfl,rfl,rfl⟩
   ·rcases hκi i b h1 with⟨_,k1⟩|⟨l1,_⟩
    ·obtain⟨us,zs,u1,_⟩:=hI.box i b t' cs k1 hb
     exact⟨[],us++zs,by simpa using u1,rfl,fun v hv=>by cases hv⟩
    ·omega
   ·rcases hκi i b h1 with⟨_,k1⟩|⟨l2,_⟩
    ·obtain⟨us,zs,u1,u2,u3⟩:=hI.box i b t' c' k1 h3
     exact⟨us,zs,u1,hmL c' us u2,u3⟩
    ·omega
   ·rcases hκi _ b h1 with⟨l1,_⟩|⟨_,rfl⟩
    ·omega
    ·obtain⟨us,zs,u1,u2,u3⟩:=hI.box s b t' cs hs hb
     exact⟨us,zs,u1,hmL cs us u2,u3⟩
  ·rcases hnew i t' c h2 with⟨rfl,rfl,rfl⟩|⟨l1,e,c',h3,rfl⟩|⟨rfl,rfl,rfl⟩
   ·exact absurd rfl hne
   ·rcases hκi i b h1 with⟨_,k1⟩|⟨l2,_⟩
    ·exact hI.κF i b t' c' k1 h3 (fun e=>hne (by rw[e,zaf])) o
    ·omega
   ·rcases hκi _ b h1 with⟨l1,_⟩|⟨_,rfl⟩
    ·omega
    ·exact hI.κF s b t' cs hs hb (fun e=>hne (by rw[e,zaf])) o
  ·obtain⟨k1,k2,k3⟩:=hI.Ok b hb
   exact⟨k1,fun hm=>k2 (hmm b hm),k3⟩
theorem z8x {IT:IterP} {M:Option Gen} {F:Fence} {B:Nat} (hIT:ITMono IT) {X0 X:Cx} {S S':List AV} {σ σ':St} {a:Act} {n0:Nat} (h:Now IT M F B X0 S σ X a)(hn:X0.κ.length≤n0)(hw:Wk1 n0 S σ S' σ'): ∃X',X'.w=X.w∧Now IT M F B X0 S' σ' X' a:=by
 rcases hw with⟨hf,hw⟩|⟨n,fs,js,d,h1,hok,hf,rfl⟩|⟨s,t,cs,hb,hf,rfl⟩|⟨s,k,t,cs,hb,hf,rfl⟩|⟨s,t,cs,hb,hf,rfl⟩
 rotate_right
 ·obtain⟨b0,hs⟩: ∃b0,X.κ[s]? =some b0:=⟨_,List.getElem?_eq_getElem (by rw[h.inv.κlen];exact(List.getElem?_eq_some_iff.1 hb).1)⟩
  obtain⟨hE,hI,hr⟩:=qgd hIT h.inv hb hs
  refine⟨{X with κ:=X.κ++[b0]},rfl,h.ext.trans (Rel.of hE),hI,zgu hf (hr _ _ h.reps),h.marks,?_⟩
  have hfr:=h.frn
  cases M with
  |none=>trivial
  | some G=>
   obtain⟨s1,f1,f2,f3,f4,f5,f6,f7⟩:Fr G σ X:=hfr
   have hm: ∀c,c∈X.κ++[b0]→c∈X.κ:=fun c hc=>by
    rcases List.mem_append.1 hc with hc|hc
    ·exact hc
    ·simp at hc;subst hc;exact List.mem_of_getElem? hs
   exact⟨s1,f1,⟨f2.1,fun b o hc=>(f2.2 b o hc).imp id fun⟨k1,k2,k3⟩=>⟨k1,fun hm'=>k2 (hm _ hm'),k3⟩⟩,f3,f4,fun b hb=>f5 b (hm b hb),f6,f7⟩
 rotate_right
 ·exact⟨X,rfl,h.ext,inv_cut h.inv hb,zgu hf h.reps,h.marks,by
   have hfr:=h.frn
   cases M with
   |none=>trivial
   |some G=>exact hfr⟩
 rotate_left
 ·have hk:=qhf hIT h (Nat.le_trans hn h1) hok (fs:=fs) (d:=d)
  exact⟨zcz σ σ.lens.length n fs js X,rfl,hk.ext,hk.inv,zgu hf hk.reps,hk.marks,hk.frn⟩
 ·obtain⟨X',e1,e2,e3,e4,e5,e6,⟨b,e7,e8⟩,hE,hI⟩:=qeh hIT h.inv hb
  refine⟨X',e1,h.ext.trans (Rel.of hE),hI,zgu hf (zaw hIT hE _ _ h.reps),by rw[e1];exact h.marks,?_⟩
  have hfr:=h.frn
  cases M with
  |none=>trivial
  | some G=>
   obtain⟨s,f1,f2,f3,f4,f5,f6,f7⟩:Fr G σ X:=hfr
   have hm: ∀c,c∈X'.κ→c∈X.κ:=fun c hc=>by
    rw[e8] at hc
    rcases List.mem_append.1 hc with hc|hc
    ·exact hc
    ·simp at hc;subst hc;exact e7
   exact⟨s,by rw[e5];exact f1,⟨by rw[e6];exact f2.1,fun b o hc=>by
    rcases f2.2 b o hc with k|⟨k1,k2,k3⟩
    ·exact .inl (by rw[e2];exact k)
    ·exact .inr ⟨by rw[e1];exact k1,fun hm'=>k2 (hm _ hm'),by rw[e3];exact k3⟩⟩,by rw[e1];exact f3,by rw[e1];exact f4,fun b hb=>f5 b (hm b hb),by rw[e3];exact f6,by rw[e2];exact f7⟩
 have h':Now IT M F B X0 S' σ X a:=⟨h.ext,h.inv,zgu hf h.reps,h.marks,h.frn⟩
 rcases hw with rfl|⟨n,h1,h2,h3,rfl⟩
 ·exact⟨X,rfl,h'⟩
 ·have:=zvy hIT none h' (Nat.le_trans hn h1) h2
  rw[z6i n S' h3] at this
  exact⟨{X with κ:=X.κ.take n},rfl,this⟩
theorem z0w {IT:IterP} {M:Option Gen} {F:Fence} {B:Nat} (hIT:ITMono IT) {X0:Cx} {a:Act} {n0:Nat} (hn:X0.κ.length≤n0) {S S':List AV} {σ σ':St} (hw:Wk n0 S σ S' σ'): ∀ {X:Cx},Now IT M F B X0 S σ X a→ ∃X',X'.w=X.w∧Now IT M F B X0 S' σ' X' a:=by
 induction hw with
 |one h=>intro X hX;exact z8x hIT hX hn h
 | step h k ih=>
  intro X hX
  obtain⟨X1,e1,h1⟩:=z8x hIT hX hn h
  obtain⟨X2,e2,h2⟩:=ih h1
  exact⟨X2,e2.trans e1,h2⟩
theorem Rel.noncells {IT:IterP} {M:Option Gen} {σ:St} {X X':Cx} (h:Rel M X X')(hI:Inv IT σ X) {k:Nat} {o:Obj} (hB: ∀G,M=some G→G.B≤k)(hk:X.w.heap[k]? =some o)(ho:o.isCells=false):X'.w.heap[k]? =some o:=by
 cases M with
 |none=>exact Ext.noncells (show Ext X X' from h) hI hk ho
 | some G=>
  refine(show ExtG G.B X X' from h).frame k o hk (hB G rfl) (fun hm=> ?_) (fun r hr e=> ?_) (fun hO=> ?_)
  ·obtain⟨s,hs,rfl⟩:=List.mem_iff_getElem.1 hm
   have hl:=hI.κlen
   obtain⟨vs,zs,h1,_⟩:=hI.box s X.κ[s] (σ.boxes[s]'(by omega)).1 (σ.boxes[s]'(by omega)).2 (by simp[hs]) (by rw[List.getElem?_eq_getElem (by omega)])
   rw[hk] at h1;cases h1;cases ho
  ·obtain⟨s,hs,rfl⟩:=List.mem_iff_getElem.1 hr
   have hl:=hI.βlen
   obtain⟨cur,fz,h1,_⟩:=hI.row s X.β[s] (X.lens[s]'(by omega)) (by simp[hs]) (by rw[List.getElem?_eq_getElem (by omega)])
   rw[e,hk] at h1;cases h1;cases ho
  ·obtain⟨⟨cs0,t0,f0,h0⟩,_⟩:=hI.Ok k hO
   rw[hk] at h0;cases h0;cases ho
theorem FenceAt.ext {IT:IterP} {M:Option Gen} {B:Nat} {F:Fence} {σ:St} {X X':Cx} (hM: ∀G,M=some G→G.B≤B)(h:FenceAt B F X.w)(hE:Rel M X X')(hI:Inv IT σ X):FenceAt B F X'.w:=
 h.imp id fun⟨l0,r0,h1,h0,h2⟩=>⟨l0,r0,h1,h0,hE.noncells hI (fun G e=>Nat.le_trans (hM G e) h0) h2 rfl⟩
theorem zzx {P:Program} {B:Nat} {M:Option Gen} (h:zrp P B M): ∀G,M=some G→G.B≤B:=fun G e=>by subst e;exact h.2
def zqr (P:Program)(c:Code):Prop:= ∀ {M:Option Gen} {F:Fence} {nn B:Nat} (hG:zrp P B M) (hF:FenceOk F P) (k0:Nat) (Q:AQ) (S:List AV) (σ:St) (X0 X:Cx) (a:Act) (K:Exit→Act→World→Prop),X0.κ.length≤k0→(B≤X0.w.heap.size∧ ∃σ0,Inv (ITP P) σ0 X0)→awp (ITP P) P (zdn M) k0 c Q S σ→Now (ITP P) M F B X0 S σ X a→(FenceAt B F X0.w∨zcn c=true)→
 (∀e S σ X a,Q e S σ→Now (ITP P) M F B X0 S σ X a→K e.to a X.w)→c.wpIn F nn P K a X.w
theorem qcm {P:Program} (hIT:ITMono (ITP P)) {x:Code} (ih:zqr P x):zqr P (.loop x):=by
 intro M F nn B hG hF k0 Q S σ X0 X a K hk hI0 h hn hfe hK
 obtain⟨m,h⟩:=h
 refine wpIn_loop_rounds m ?_
 have key: ∀(m:Nat) (S:List AV) (σ:St) (X1:Cx) (a:Act),zpo (awp (ITP P) P (zdn M) k0 x) Q k0 m S σ→Now (ITP P) M F B X0 S σ X1 a→Code.roundsIn F nn P x K m a X1.w:=by
  intro m
  induction m with
  |zero=>intro S σ X1 a h;exact h.elim
  | succ m ihm=>
   intro S σ X1 a h hn1
   obtain⟨S',σ',hw,h⟩:=h
   obtain⟨X2,hw2,hn2⟩:=z0w hIT hk hw hn1
   rw[roundsIn_succ,←hw2]
   refine ih hG hF k0 _ S' σ' X0 X2 a _ hk hI0 h hn2 hfe ?_
   intro e S3 σ3 X3 a3 hq hn3
   cases e with
   |normal=>exact ihm S3 σ3 X3 a3 hq hn3
   |exit id=>exact hK _ _ _ _ _ hq hn3
   |ret=>exact hK _ _ _ _ _ hq hn3
 exact key m S σ X a h hn
theorem qev {P:Program} {x y:Code} (ihx:zqr P x)(ihy:zqr P y):zqr P (.seq x y):=by
 intro M F nn B hG hF k0 Q S σ X0 X a K hk hI0 h hn hfe hK
 refine wpIn_seq ?_
 have hfe1:FenceAt B F X0.w∨zcn x=true:=hfe.imp id fun h=>by simp only[zcn,Bool.and_eq_true] at h;exact h.1
 rcases h with h|⟨hW,S',σ',hs,h⟩
 rotate_left
 ·cases M with
  |some G=>cases hW
  | none=>
   refine wpIn_mono (hs hF hI0 hn hfe1) ?_
   rintro e a' w' ⟨rfl,X',rfl,hn'⟩
   exact ihy hG hF k0 _ S' σ' X0 X' a' _ hk hI0 h hn' (hfe.imp id fun h=>by simp only[zcn,Bool.and_eq_true] at h;exact h.2) hK
 refine ihx hG hF k0 _ S σ X0 X a _ hk hI0 h hn hfe1 ?_
 intro e S1 σ1 X1 a1 hq hn1
 cases e with
 | normal=>
  obtain⟨S2,σ2,hw,hq⟩:=hq
  obtain⟨X2,e2,hn2⟩:=z0w (zn P) hk hw hn1
  show y.wpIn F nn P K a1 X1.w
  rw[←e2]
  exact ihy hG hF k0 _ S2 σ2 X0 X2 a1 _ hk hI0 hq hn2 (hfe.imp id fun h=>by simp only[zcn,Bool.and_eq_true] at h;exact h.2) hK
 |exit id=>exact hK _ _ _ _ _ hq hn1
 |ret=>exact hK _ _ _ _ _ hq hn1
theorem qbg {P:Program} {c:Operand} {x y:Code} (ihx:zqr P x)(ihy:zqr P y):zqr P (.cond c x y):=by
 intro M F nn B hG hF k0 Q S σ X0 X a K hk hI0 h hn hfe hK
 obtain⟨t,hc,h⟩:=h
 have hv:=zdh hn.reps c
 rw[hc,Rep] at hv
 refine wpIn_cond hv ?_
 cases t with
 |true=>exact ihx hG hF k0 _ S σ X0 X a _ hk hI0 h hn (hfe.imp id fun h=>by simp only[zcn,Bool.and_eq_true] at h;exact h.1) hK
 |false=>exact ihy hG hF k0 _ S σ X0 X a _ hk hI0 h hn (hfe.imp id fun h=>by simp only[zcn,Bool.and_eq_true] at h;exact h.2) hK
theorem z6y {P:Program} {id:Nat} {x:Code} (ihx:zqr P x):zqr P (.block id x):=by
 intro M F nn B hG hF k0 Q S σ X0 X a K hk hI0 h hn hfe hK
 rcases h with h|⟨hW,S',σ',hs,h⟩
 rotate_left
 ·cases M with
  |some G=>cases hW
  | none=>
   refine wpIn_mono (hs hF hI0 hn hfe) ?_
   rintro e a' w' ⟨rfl,X',rfl,hn'⟩
   exact hK .normal _ _ _ _ h hn'
 refine wpIn_block ?_
 have hl:X0.lens.length≤σ.lens.length:=by rw[←hn.inv.lens];exact z6h hn.ext.sub
 have drop: ∀S1 σ1 X1 a1,z6z σ.lens.length k0 (Q .normal) S1 σ1→Now (ITP P) M F B X0 S1 σ1 X1 a1→K .normal a1 X1.w:=by
  rintro S1 σ1 X1 a1 (hq|⟨m,n,fs,js,d,S',hm,hn0,hok,hfg,hq⟩) hn1
  ·exact hK .normal _ _ _ _ hq hn1
  ·have hk1:=z0h (zn P) hn1 (Nat.le_trans hl hm) (Nat.le_trans hk hn0) hok (fs:=fs) (d:=d)
   exact hK .normal _ _ (zcz σ1 m n fs js X1) _ hq ⟨hk1.ext,hk1.inv,zgu hfg hk1.reps,hk1.marks,hk1.frn⟩
 refine ihx hG hF k0 _ S σ X0 X a _ hk hI0 h hn hfe ?_
 intro e S1 σ1 X1 a1 hq hn1
 cases e with
 |normal=>exact drop _ _ _ _ hq hn1
 | exit j=>
  simp only[zil] at hq
  simp only[AExit.to,Exit.inBlock]
  split at hq
  ·rename_i e;rw[if_pos e];exact drop _ _ _ _ hq hn1
  ·rename_i e;rw[if_neg e];exact hK (.exit j) _ _ _ _ hq hn1
 |ret=>exact hK _ _ _ _ _ hq hn1
section
variable {P:Program} {b:Frame} {a:Act} {k:List Item} {cs:List Frame} {w:World} {Q:Exit→Act→World→Prop} {F:Fence} {n:Nat}
theorem zgd {c:Code}:step P (lone (b.atR a (.code (.scope c)::k)) cs w)= .next (lone (b.atR a (.code c:: .inScope c::k)) cs w):=
 step_lone_go (by simp[stepG,stepG.exec,Frame.atR])
theorem zwu {c:Code}:step P (lone (b.atR a (.inScope c::k)) cs w)= .next (lone (b.atR a k) cs w):=
 step_lone_go (by simp[stepG,stepG.exec,Frame.atR])
theorem zml {c:Code} (h:c.wpIn F n P (Exit.noGoto Q) a w):(Code.scope c).wpIn F n P Q a w:=by
 intro b k cs hro hb hr
 have h0:(lone (b.atR a (.code (.scope c)::k)) cs w).fenced P F:=fenced_calm hb hr rfl
 obtain⟨e,a₁,w₁,hq,harr⟩:=h b (.inScope c::k) cs hro hb hr
 cases e with
 |normal=>exact⟨.normal,a₁,w₁,hq,.head h0 zgd (StepsIn.trans harr (.one (fenced_calm hb hr rfl) zwu))⟩
 | exit id=>
  have hx:exitTo id (.inScope c::k)=exitTo id k:=by simp[exitTo]
  exact⟨.exit id,a₁,w₁,hq,fun k' hk=> .head h0 zgd (harr.1 k' (by rw[hx];exact hk)),
   fun hr' hk=>let⟨k₁,h1,h2⟩:=harr.2 hr' (by rw[hx];exact hk);⟨k₁,h1,.head h0 zgd h2⟩⟩
 |goto l=>exact hq.elim
 |ret=>exact⟨_,a₁,w₁,hq,.of_steps (.one h0 zgd) harr⟩
 |panic ch=>exact⟨_,a₁,w₁,hq,.of_steps (.one h0 zgd) harr⟩
 |outgrown=>exact⟨_,a₁,w₁,hq,.of_steps (.one h0 zgd) harr⟩
end
theorem z7l {P:Program} {x:Code} (ih:zqr P x):zqr P (.scope x):=by
 intro M F nn B hG hF k0 Q S σ X0 X a K hk hI0 h hn hfe hK
 refine zml (ih hG hF k0 Q S σ X0 X a _ hk hI0 h hn hfe ?_)
 intro e S1 σ1 X1 a1 hq hn1
 cases e with
 |normal=>exact hK .normal _ _ _ _ hq hn1
 |exit id=>exact hK (.exit id) _ _ _ _ hq hn1
 |ret=>exact hK .ret _ _ _ _ hq hn1
end Go.Ab
