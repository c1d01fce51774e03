/-
  The abstract machine: code; that the model z3k the same.
-/
import Derived.Test.YtfkkellnlmjenaaGreatZdJ2
import Derived.Scope
import Derived.Lib.LaidTab
import Derived.Lib.ItoaNum
set_option linter.unusedSimpArgs false
set_option linter.unusedVariables false
namespace Go.Ab
open Go Go.RowKit Go.Fwd
def z0l (IT:IterP)(P:Program)(W:Owed)(ops:Array Oper)(K:List AV→St→Prop)(i:Nat)(S:List AV)(σ:St):Prop:=
 match ops[i]? with
 |none=>K S σ
 | some o=>match o.guard with
  |none=>zgp IT P W o S σ fun a σ'=>K (zh S o.dst a) σ'
  |some (k,b)=> ∃c,zgw ops S k=some c∧(if c=some b then zgp IT P W o S σ fun a σ'=>K (zh S o.dst a) σ' else K (zh S o.dst (.raw undef)) σ)
def zru (IT:IterP)(P:Program)(W:Owed)(ops:Array Oper)(Q:List AV→St→Prop):Nat→Array Bool→List AV→St→Prop
 |0,listed,S,σ=>Region.ready .any ops listed=[]∧Q S σ
 |k+1,listed,S,σ=>(Region.ready .any ops listed=[]→Q S σ)∧ ∀i∈Region.ready .any ops listed,z0l IT P W ops (fun S σ=>zru IT P W ops Q k (listed.setIfInBounds i true) S σ) i S σ
def qoj (IT:IterP)(P:Program)(W:Owed)(ops:Array Oper)(Q:List AV→St→Prop)(S:List AV)(σ:St):Prop:=zru IT P W ops Q ops.size (Array.replicate ops.size false) S σ
section
variable {IT:IterP} {P:Program} {M:Option Gen} {F:Fence} {nn B:Nat}
theorem zkc (hIT:ITMono IT)(hF:FenceOk F P)(hG:z4t P B M) {ops:Array Oper} {Q:List AV→St→Prop} {K:Exit→Act→World→Prop} {X0:Cx} (hQ: ∀S σ X a,Q S σ→Now IT M F B X0 S σ X a→K .normal a X.w):
 ∀(k:Nat) (listed:Array Bool) (S:List AV) (σ:St) (X:Cx) (a:Act),zru IT P (zej M) ops Q k listed S σ→Now IT M F B X0 S σ X a→wpAnyIn F nn P .any ops K k listed a X.w
 |0,listed,S,σ,X,a,h,hn=>⟨h.1,hQ _ _ _ _ h.2 hn⟩
 | k +1,listed,S,σ,X,a,h,hn=>by
  refine⟨fun he=>hQ _ _ _ _ (h.1 he) hn,fun i hi=> ?_⟩
  have h:=h.2 i hi
  unfold z0l at h
  unfold wpOpIn
  cases ho:ops[i]? with
  | none=>
   rw[ho] at h
   exact zkc hIT hF hG hQ k _ S σ X a h hn
  | some o=>
   rw[ho] at h
   simp only at h⊢
   cases hg:o.guard with
   | none=>
    rw[hg] at h
    rw[if_pos (by simp[Region.wanted,hg])]
    exact zkl hIT hF hG h hn fun x σ' X' a' hk hn'=>zkc hIT hF hG hQ k _ _ _ _ _ hk hn'
   | some kb=>
    obtain⟨j,b⟩:=kb
    rw[hg] at h
    obtain⟨c,hc,h⟩:=h
    have hy:=zrf hc hn.reps
    by_cases e:c=some b
    ·rw[if_pos e] at h
     rw[if_pos (by simp[Region.wanted,hg,hy,e])]
     exact zkl hIT hF hG h hn fun x σ' X' a' hk hn'=>zkc hIT hF hG hQ k _ _ _ _ _ hk hn'
    ·rw[if_neg e] at h
     rw[if_neg (by simp[Region.wanted,hg,hy,e])]
     exact⟨fun f _=>hF.fn f,zkc hIT hF hG hQ k _ _ _ _ _ h (zlo hG hIT hn (Ext.refl X) hn.inv ⟨rfl,rfl⟩ o.dst (by rw[Rep]))⟩
theorem z1y (hIT:ITMono IT)(hF:FenceOk F P)(hG:z4t P B M)(hmix:P.follows .mixedOrders=true) {id:Nat} {ops:Array Oper} {Q:List AV→St→Prop} {K:Exit→Act→World→Prop} {X0 X:Cx} {S:List AV} {σ:St} {a:Act}
 (hQ: ∀S σ X a,Q S σ→Now IT M F B X0 S σ X a→K .normal a X.w) (h:qoj IT P (zej M) ops Q S σ) (hn:Now IT M F B X0 S σ X a):(Code.region id ops true).wpIn F nn P K a X.w:=by
 refine wpIn_region_any hmix ?_
 obtain⟨hE,hI⟩:=zze hIT hn.inv
 have hrs:zrr IT {X with w:=X.w.drew} S a.tmps:=zba hIT hE _ _ hn.reps
 have hnow:Now IT M F B X0 S σ {X with w:=X.w.drew} a:=⟨hn.ext.trans (Rel.of hE),hI,hrs,hn.marks.ext hE hn.inv,FrM.ext hG hn.frn hE hn.inv rfl rfl⟩
 exact zkc (nn:=nn) hIT hF hG hQ ops.size _ S σ _ a h hnow
end
def eqV:Value→Value→Bool
 | .int k a,.int k' b=>decide (k=k')&&decide (a=b)
 | .bool a,.bool b=>a==b
 | .string a,.string b=>decide (a.data=b.data)
 | .pointer a,.pointer b=>decide (a=b)
 | .slice a n m,.slice a' n' m'=>decide (a=a')&&decide (n=n')&&decide (m=m')
 | .nilFunc,.nilFunc=>true
 | .nilIface,.nilIface=>true
 | .tuple a,.tuple b=>decide (a.size=0)&&decide (b.size=0)
 |_,_=>false
theorem eqV_ok {a b:Value} (h:eqV a b=true):a=b:=by
 unfold eqV at h
 split at h<;>(try simp only[Bool.and_eq_true,decide_eq_true_eq,beq_iff_eq] at h)
 ·rw[h.1,h.2]
 ·rw[h]
 ·rename_i a b;cases a;cases b;simp only at h;rw[h]
 ·rw[h]
 ·rw[h.1.1,h.1.2,h.2]
 ·rfl
 ·rfl
 ·rename_i a b;rw[Array.eq_empty_of_size_eq_zero h.1,Array.eq_empty_of_size_eq_zero h.2]
 ·cases h
mutual
def z6z:AV→AV→Bool
 | .raw a,.raw b=>eqV a b
 | .agg a,.agg b=>zlf a b
 | .tup a,.tup b=>zlf a b
 | .list n a st,.list m b st'=>decide (n=m)&&decide (st=st')&&zlf a b
 | .ptr s o,.ptr s' o'=>decide (s=s')&&decide (o=o')
 | .bsl s o n z f,.bsl s' o' n' z' f'=>decide (s=s')&&decide (o=o')&&decide (n=n')&&decide (z=z')&&decide (f=f')
 | .iptr a,.iptr b=>zlf a b
 | .clos f a,.clos g b=>decide (f=g)&&zlf a b
 | .top,.top=>true
 |_,_=>false
def zlf:List AV→List AV→Bool
 |[],[]=>true
 |a::l,b::m=>z6z a b&&zlf l m
 |_,_=>false
end
mutual
theorem qee: ∀a b,z6z a b=true→a=b
 | .raw a,b,h=>by cases b<;>simp only[z6z] at h<;>first|(cases h;done)|rw[eqV_ok h]
 | .agg a,b,h=>by cases b<;>simp only[z6z] at h<;>first|(cases h;done)|rw[zfh _ _ h]
 | .tup a,b,h=>by cases b<;>simp only[z6z] at h<;>first|(cases h;done)|rw[zfh _ _ h]
 | .iptr a,b,h=>by cases b<;>simp only[z6z] at h<;>first|(cases h;done)|rw[zfh _ _ h]
 | .clos f a,b,h=>by
  cases b<;>simp only[z6z] at h<;>first|(cases h;done)|skip
  rw[Bool.and_eq_true,decide_eq_true_eq] at h
  rw[h.1,zfh _ _ h.2]
 | .list n a st,b,h=>by
  cases b<;>simp only[z6z] at h<;>first|(cases h;done)|skip
  simp only[Bool.and_eq_true,decide_eq_true_eq] at h
  rw[h.1.1,h.1.2,zfh _ _ h.2]
 | .ptr _ _,b,h=>by
  cases b<;>simp only[z6z] at h<;>first|(cases h;done)|skip
  simp only[Bool.and_eq_true,decide_eq_true_eq] at h
  rw[h.1,h.2]
 | .bsl _ _ _ _ _,b,h=>by
  cases b<;>simp only[z6z] at h<;>first|(cases h;done)|skip
  simp only[Bool.and_eq_true,decide_eq_true_eq] at h
  obtain⟨⟨⟨⟨h1,h2⟩,h3⟩,h4⟩,h5⟩:=h
  rw[h1,h2,h3,h4,h5]
 | .top,b,h=>by cases b<;>simp only[z6z] at h<;>first|(cases h;done)|rfl
 | .iter _,b,h=>by cases b<;>simp only[z6z] at h<;>cases h
 | .yld _,b,h=>by cases b<;>simp only[z6z] at h<;>cases h
 | .bad,b,h=>by cases b<;>simp only[z6z] at h<;>cases h
theorem zfh: ∀a b,zlf a b=true→a=b
 |[],[],_=>rfl
 | a::l,b::m,h=>by
  simp only[zlf,Bool.and_eq_true] at h
  rw[qee a b h.1,zfh l m h.2]
 |[],_::_,h=>by simp only[zlf] at h;cases h
 |_::_,[],h=>by simp only[zlf] at h;cases h
end
def eqBx:List (TypeId×List AV)→List (TypeId×List AV)→Bool
 |[],[]=>true
 |a::l,b::m=>decide (a.1=b.1)&&zlf a.2 b.2&&eqBx l m
 |_,_=>false
theorem qer: ∀a b,eqBx a b=true→a=b
 |[],[],_=>rfl
 | a::l,b::m,h=>by
  simp only[eqBx,Bool.and_eq_true,decide_eq_true_eq] at h
  obtain⟨⟨h1,h2⟩,h3⟩:=h
  rw[qer l m h3]
  cases a;cases b
  simp only at h1 h2
  rw[h1,zfh _ _ h2]
 |[],_::_,h=>by simp only[eqBx] at h;cases h
 |_::_,[],h=>by simp only[eqBx] at h;cases h
def eqSt (a b:St):Bool:=eqBx a.boxes b.boxes&&decide (a.lens=b.lens)&&decide (a.elems=b.elems)&&decide (a.out=b.out)&&decide (a.stop=b.stop)
theorem z5i {a b:St} (h:eqSt a b=true):a=b:=by
 simp only[eqSt,Bool.and_eq_true,decide_eq_true_eq] at h
 obtain⟨⟨⟨⟨h1,h2⟩,h3⟩,h4⟩,h5⟩:=h
 cases a;cases b
 simp only at h1 h2 h3 h4 h5
 rw[qer _ _ h1,h2,h3,h4,h5]
inductive AExit where
 |normal|exit (id:Nat)|ret
def AExit.to:AExit→Exit
 | .normal=> .normal
 | .exit id=> .exit id
 | .ret=> .ret
abbrev AQ:=AExit→List AV→St→Prop
def zfs (n:Nat)(σ:St):St:={σ with boxes:=σ.boxes.take n}
def z0m (n:Nat)(σ:St):Bool:=(σ.boxes.take n).all fun bx=>zaa n bx.2
def keepS (ks:Option (List Nat))(i:Nat):Bool:=match ks with|none=>true|some l=>l.contains i
def qgz (ks:Option (List Nat))(n:Nat)(S:List AV):List AV:=S.mapIdx fun i a=>if keepS ks i=true∧zbk n a=true then a else .top
def Fg:List AV→List AV→Prop
 |[],[]=>True
 |a::l,b::m=>(b=a∨b= .top)∧Fg l m
 |_,_=>False
theorem Fg.refl: ∀S,Fg S S
 |[]=>trivial
 |a::l=>⟨.inl rfl,Fg.refl l⟩
def Wk1 (n0:Nat)(S:List AV)(σ:St)(S':List AV)(σ':St):Prop:=(Fg S S'∧(σ'=σ∨ ∃n,n0≤n∧z0m n σ=true∧zaa n S'=true∧zfs n σ=σ'))∨
 (∃n fs js d,n0≤n∧zfb σ n js=true∧Fg (zby σ.lens.length (kz σ.boxes σ.lens.length n fs js d) S) S'∧zmv σ σ.lens.length n fs js d=σ')∨
 ∃(s:Nat) (t:TypeId) (cs:List AV),σ.boxes[s]? =some (t,cs)∧Fg S S'∧σ'={σ with boxes:=σ.boxes++[(t,[])]}
inductive Wk (n0:Nat):List AV→St→List AV→St→Prop
 |one {S S':List AV} {σ σ':St} (h:Wk1 n0 S σ S' σ'):Wk n0 S σ S' σ'
 |step {S S1 S':List AV} {σ σ1 σ':St} (h:Wk1 n0 S σ S1 σ1) (k:Wk n0 S1 σ1 S' σ'):Wk n0 S σ S' σ'
theorem Wk.refl (n:Nat)(S:List AV)(σ:St):Wk n S σ S σ:= .one (.inl ⟨Fg.refl S,.inl rfl⟩)
def zvq (K:List AV→St→Prop)(Q:AQ):AQ
 | .normal,S,σ=>K S σ
 |e,S,σ=>Q e S σ
def zoe (id:Nat)(Q:AQ):AQ
 | .exit j,S,σ=>if j=id then Q .normal S σ else Q (.exit j) S σ
 |e,S,σ=>Q e S σ
def zqc (W:AQ→List AV→St→Prop)(Q:AQ)(n0:Nat):Nat→List AV→St→Prop
 |0,_,_=>False
 |m+1,S,σ=> ∃S' σ',Wk n0 S σ S' σ'∧W (zvq (zqc W Q n0 m) Q) S' σ'
def znd (S:List AV)(ps:Array Tmp)(x:List AV):List AV:=(ps.toList.zip x).foldl (fun S p=>S.set p.1 p.2) S
def qpf (Q:AQ)(S0:List AV)(n:Nat)(next:St→Prop):AQ
 | .normal,_,σ=>z0m n σ=true∧next (zfs n σ)
 |e,_,σ=>z0m n σ=true∧Q e S0 (zfs n σ)
def qhg (K:List AV→St→Prop):AQ
 | .normal,S1,σ1=>K S1 σ1
 |_,_,_=>False
def zgv (Wa Wb:Nat→AQ→List AV→St→Prop)(ps:Array Tmp)(S0:List AV)(Q:AQ)(n:Nat):List (List AV)→St→Prop
 |[],σ=>Q .normal S0 σ
 |x::xs,σ=>Wa n (qhg (fun S1 σ1=>Wb σ1.boxes.length (qpf Q S0 n (zgv Wa Wb ps S0 Q n xs)) S1 σ1)) (znd S0 ps x) σ
def zee:Code→Bool
 | .rangeFunc _ _ _ _=>false
 | .seq x y=>zee x&&zee y
 | .cond _ x y=>zee x&&zee y
 | .block _ x=>zee x
 | .loop x=>zee x
 | .scope x=>zee x
 |_=>true
def qkr (P:Program)(g:FuncId)(lb:Array Value)(rows:List (List AV))(N:Nat→Prop)(F0:Nat→Nat→Prop)(w0:World):Prop:=
 ∀ (l:Nat) (W:World) (J:Nat→Frn→World→Prop) (Jx:Frn→World→Prop) (s0:Frn),(∀b o,F0 b o→(∃v,W.cell? ⟨b,o,none⟩=some v)∧W.cell? ⟨b,o,none⟩=w0.cell? ⟨b,o,none⟩)→Szs w0 W→(∀k,N k→W.heap[k]? =w0.heap[k]? ∧ ¬s0.O k∧ ∀o,¬s0.C k o)→GenOk P ⟨W.heap.size,F0,l,rows,J,Jx,N⟩→
  (∀b o,F0 b o→ ¬s0.O b∨s0.C b o)→(∀b,s0.O b→ ∃cs t f,W.heap[b]? =some (.cells cs t f))→(∀b o,s0.C b o→b<W.heap.size)→J 0 s0 W→
  Calls P g (#[.func (.yield l) #[] #[]]++lb) W fun e W'=>(∃v,e= .returned v)∧ ∃s,(J rows.length s W'∨Jx s W')
structure gvBase (P:Program)(w:World):Prop where
 err: ∀n g,(n= "strconv.ErrSyntax" ∨n= "strconv.ErrRange")→P.globalNamed n=some g→ ∃tp p,w.var? P n=some #[.iface tp p]
 pow: ∀g,P.globalNamed "internal/strconv.uint64pow10" =some g→Lib.TabIs P w "internal/strconv.uint64pow10" .u64 Lib.pow10Tab
 max: ∀g,P.globalNamed "internal/bytealg.MaxLen" =some g→ ∃m,w.cell? ⟨g,0,none⟩=some (.int .i64 m)
def gvP (P:Program)(F:Nat→Nat→Prop)(w:World):Prop:= ∃w0:World,gvBase P w0∧Szs w0 w∧ ∀b o v,b<P.globals.size→w0.cell? ⟨b,o,none⟩=some v→F b o∧w.cell? ⟨b,o,none⟩=some v
def ITP (P:Program):IterP:=⟨fun v rows X=>(rows=errRows∧ ∃t p,v= .iface t p)∨rows≠errRows∧ ∃(g:Nat) (lb:Array Value) (F0:Nat→Nat→Prop),v= .func (.func g) #[] lb∧Ent P g∧(∀b o,F0 b o→X.F b o)∧qkr P g lb rows (fun _=>False) F0 X.w,gvP P⟩
def IterB (P:Program)(g:FuncId)(t:TypeId)(cs:List AV)(rows:List (List AV)):Prop:=
 ∀ (F0:Nat→Nat→Prop) (w0:World) (O:Nat→Prop) (C:Nat→Nat→Prop) (b:Nat) (vs zs:List Value),(ITP P).gv F0 w0→w0.heap[b]? =some (.cells (vs++zs).toArray t (0,0))→zbl (ITP P) ⟨F0,[],[],[],w0,O,C⟩ cs vs→(∀v∈vs,v.oneCell'=true)→(∀o,¬F0 b o)→(∀b o,F0 b o→ ∃v,w0.cell? ⟨b,o,none⟩=some v)→
  qkr P g #[.pointer (some ⟨b,0,none⟩)] rows (fun k=>k=b) F0 w0
def awp (IT:IterP)(P:Program)(W:Owed):Nat→Code→AQ→List AV→St→Prop
 |_,.skip,Q=>Q .normal
 |k0,.seq x y,Q=>fun S σ=>awp IT P W k0 x (zvq (fun S1 σ1=> ∃S' σ',Wk k0 S1 σ1 S' σ'∧awp IT P W k0 y Q S' σ') Q) S σ
 |k0,.cond c x y,Q=>fun S σ=> ∃t,zeg S c= .raw (.bool t)∧(if t=true then awp IT P W k0 x Q S σ else awp IT P W k0 y Q S σ)
 |k0,.block id x,Q=>awp IT P W k0 x (zoe id Q)
 |k0,.loop x,Q=>fun S σ=> ∃m,zqc (awp IT P W k0 x) Q k0 m S σ
 |_,.exit id,Q=>Q (.exit id)
 |_,.ret,Q=>Q .ret
 |_,.label _,Q=>Q .normal
 |k0,.scope x,Q=>awp IT P W k0 x Q
 |_,.region _ ops false,Q=>zcz IT P W ops (Q .normal) ops.toList
 |_,.region _ ops true,Q=>fun S σ=>adraw IT P W ops (Q .normal) S σ∨qnv IT P W ops (Q .normal) S σ∨qoj IT P W ops (Q .normal) S σ
 | k0,.rangeFunc f ps asg body,Q=>fun S σ=>(∃xs,zeg S f= .iter xs∧Nat.ble ps.size 8=true∧(xs.all fun x=>decide (x.length=ps.size))=true∧zee asg=true∧zgv (fun k=>awp IT P W k asg) (fun k=>awp IT P W k body) ps S Q σ.boxes.length xs σ)∨
  ∃ (g n t:Nat) (cs:List AV) (xs:List (List AV)) (S':List AV),zeg S f= .clos g [.ptr n 0]∧((σ.boxes[n]? =some (t,cs)∧cs≠[])∧σ.boxes.length=n+1)∧k0≤n∧((σ.boxes.take n).all fun b=> !b.2.isEmpty)=true∧zee asg=true∧(xs.all fun x=>decide (x.length=ps.size))=true∧
   IterB P g t (stripL cs) xs∧Ent P g∧z0m n σ=true∧zaa n S'=true∧Fg S S'∧zaa 0 cs=true∧zgv (fun k=>awp IT P W k asg) (fun k=>awp IT P W k body) ps S' Q n xs (zfs n σ)
 |_,_,_=>fun _ _=>False
theorem zat (P:Program):ITMono (ITP P):=by
 refine⟨?_,fun F F' w w' hF hc hz ⟨w0,h1,h3,h2⟩=>⟨w0,h1,h3.trans hz,fun b o v hb hv=>⟨hF b o (h2 b o v hb hv).1,(hc b o (h2 b o v hb hv).1).trans (h2 b o v hb hv).2⟩⟩,fun v X h=>h.elim (fun h=>h.2) (fun h=>absurd rfl h.1)⟩
 rintro v rows X X' hF hc hz (h|⟨hne,g,lb,F0,h1,h2,h3,h4⟩)
 ·exact .inl h
 exact .inr ⟨hne,g,lb,F0,h1,h2,fun b o h=>hF b o (h3 b o h),fun l W J Jx s0 k1 k0 kN k2=>h4 l W J Jx s0 (fun b o h=>⟨(k1 b o h).1,(k1 b o h).2.trans (hc b o (h3 b o h))⟩) (hz.trans k0) (fun _ h=>h.elim) k2⟩
theorem qmr {M:Option Gen} {X0 X:Cx} {n:Nat} (h:Rel M X0 X)(hn:X0.κ.length≤n):Rel M X0 {X with κ:=X.κ.take n}:=by
 have hκ: ∀(s b:Nat),X0.κ[s]? =some b→(X.κ.take n)[s]? =some b:=fun s b hs=>by
  have:=(List.getElem?_eq_some_iff.1 hs).1
  rw[List.getElem?_take,if_pos (by omega)];exact h.sub.κ s b hs
 cases M with
 | none=>
  have h:Ext X0 X:=h
  exact {h with κ:=hκ,F:=h.F,cell:=h.cell,lens:=h.lens,blk:=h.blk,szs:=h.szs,κnew:=fun b hb=>h.κnew b (List.mem_of_mem_take hb):Ext X0 {X with κ:=X.κ.take n}}
 | some G=>
  have h:ExtG G.B X0 X:=h
  exact {h with κ:=hκ,F:=h.F,cell:=h.cell,lens:=h.lens,blk:=h.blk,szs:=h.szs,κnew:=fun b hb=>h.κnew b (List.mem_of_mem_take hb):ExtG G.B X0 {X with κ:=X.κ.take n}}
theorem qjw {M:Option Gen} {σ:St} {X:Cx} {n:Nat} (h:FrM M σ X):FrM M (zfs n σ) {X with κ:=X.κ.take n}:=by
 cases M with
 |none=>trivial
 | some G=>
  obtain⟨s,h1,h2,h3,h4,h5,h6,h7⟩:=h
  exact⟨s,h1,⟨h2.1,fun b o hc=>(h2.2 b o hc).imp id fun⟨k1,k2,k3⟩=>⟨k1,fun hm=>k2 (List.mem_of_mem_take hm),k3⟩⟩,h3,h4,fun b hb=>h5 b (List.mem_of_mem_take hb),h6,h7⟩
theorem zsb {IT:IterP} {M:Option Gen} {F:Fence} {B:Nat} (hIT:ITMono IT) {X0 X:Cx} {S:List AV} {σ:St} {a:Act} {n:Nat} (ks:Option (List Nat))(h:Now IT M F B X0 S σ X a)(hn:X0.κ.length≤n)(hok:z0m n σ=true):Now IT M F B X0 (qgz ks n S) (zfs n σ) {X with κ:=X.κ.take n} a where
 ext:=qmr h.ext hn
 inv :={h.inv with
  lens:=h.inv.lens
  elems:=h.inv.elems
  κlen:=by simp[zfs,h.inv.κlen]
  κnd:=fun s s' b hs hs' hne=>by
   have cut: ∀(s:Nat),(X.κ.take n)[s]? =some b→s<n∧X.κ[s]? =some b:=fun s h=>by
    rw[List.getElem?_take] at h
    split at h
    ·exact⟨‹_›,h⟩
    ·cases h
   obtain⟨l1,h1⟩:=cut s hs
   obtain⟨l2,h2⟩:=cut s' hs'
   refine(h.inv.κnd s s' b h1 h2 hne).imp (fun⟨t,e⟩=>⟨t,?_⟩) (fun⟨t,e⟩=>⟨t,?_⟩)
   ·show(σ.boxes.take n)[s]? =_
    rw[List.getElem?_take,if_pos l1];exact e
   ·show(σ.boxes.take n)[s']? =_
    rw[List.getElem?_take,if_pos l2];exact e
  box:=fun s b t cs hs hb=>by
   have hs':s<n:=by
    have:=(List.getElem?_eq_some_iff.1 hs).1
    have h2:s<(X.κ.take n).length:=this
    simp at h2;omega
   have e1:X.κ[s]? =some b:=by have h2:(X.κ.take n)[s]? =some b:=hs;rwa[List.getElem?_take,if_pos hs'] at h2
   have e2:σ.boxes[s]? =some (t,cs):=by have h2:(σ.boxes.take n)[s]? =some (t,cs):=hb;rwa[List.getElem?_take,if_pos hs'] at h2
   obtain⟨vs,zs,u1,u2,u3⟩:=h.inv.box s b t cs e1 e2
   have hm:(t,cs)∈σ.boxes.take n:=List.mem_of_getElem? hb
   exact⟨vs,zs,u1,zlk (X:=X) (Y:={X with κ:=X.κ.take n}) hIT rfl rfl rfl rfl rfl cs vs (List.all_eq_true.1 hok _ hm) u2,u3⟩
  κF :=fun s b t cs hs hb=>by
   have hs':s<n:=by
    have:=(List.getElem?_eq_some_iff.1 hs).1
    have h2:s<(X.κ.take n).length:=this
    simp at h2;omega
   have e1:X.κ[s]? =some b:=by have h2:(X.κ.take n)[s]? =some b:=hs;rwa[List.getElem?_take,if_pos hs'] at h2
   have e2:σ.boxes[s]? =some (t,cs):=by have h2:(σ.boxes.take n)[s]? =some (t,cs):=hb;rwa[List.getElem?_take,if_pos hs'] at h2
   exact h.inv.κF s b t cs e1 e2
  βκ:=fun r hr hm=>h.inv.βκ r hr (List.mem_of_mem_take hm)
  Ok:=fun b ho=>by
   obtain⟨k1,k2,k3⟩:=h.inv.Ok b ho
   exact⟨k1,fun hm=>k2 (List.mem_of_mem_take hm),k3⟩}
 reps:=zhc (by have:=zad h.reps;simpa[qgz] using this) fun i x v e1 e2=>by
  simp only[qgz,List.getElem?_mapIdx,Option.map_eq_some_iff] at e1
  obtain⟨y,hy,rfl⟩:=e1
  obtain⟨v',hv',hr⟩:=zfi h.reps i y hy
  rw[e2] at hv';cases hv'
  split
  ·rename_i ho
   exact zrv (X:=X) (Y:={X with κ:=X.κ.take n}) hIT rfl rfl rfl rfl rfl y v ho.2 hr
  ·rw[Rep];trivial
 marks:=h.marks
 frn:=qjw h.frn
theorem zua {IT:IterP} {X:Cx}: ∀ {S S':List AV} {vs:List Value},Fg S S'→zbl IT X S vs→zbl IT X S' vs
 |[],[],vs,_,h=>h
 |a::l,b::m,vs,⟨h1,h2⟩,⟨v,r,e,k1,k2⟩=>⟨v,r,e,by rcases h1 with rfl|rfl<;>first|exact k1|trivial,zua h2 k2⟩
 |[],_::_,_,h,_=>h.elim
 |_::_,[],_,h,_=>h.elim
theorem z8f (n:Nat)(S:List AV)(h:zaa n S=true):qgz none n S=S:=by
 apply List.ext_getElem?
 intro i
 simp only[qgz,List.getElem?_mapIdx]
 cases hi:S[i]? with
 |none=>rfl
 | some a=>
  have:zbk n a=true:=by rw[ziq] at h;exact List.all_eq_true.1 h a (List.mem_of_getElem? hi)
  simp[keepS,this]
theorem qmp {X Y:Cx} (h:Sub X Y):X.lens.length≤Y.lens.length:=by
 rcases Nat.eq_zero_or_pos X.lens.length with h0|h0
 ·omega
 ·have hi:X.lens.length-1<X.lens.length:=by omega
  obtain⟨L',h1,_⟩:=h.lens (X.lens.length-1) _ (List.getElem?_eq_getElem hi)
  have:=(List.getElem?_eq_some_iff.1 h1).1
  omega
theorem qlq {IT :IterP} {M:Option Gen} {σ:St} {X Y:Cx} (hE:Rel M X Y)(hI:Inv IT σ Y) {m n:Nat} {fs js:List Nat} (hok:zfb σ n js=true)(hn:X.κ.length≤n)(hm:X.lens.length≤m):Rel M X (zdz σ m n fs js Y):=by
  cases M with
  |none=>exact z0b (show Ext X Y from hE) hI hok hn hm
  | some G =>
    have hE:ExtG G.B X Y:=hE
    have hok':=hok
    simp only[zfb,Bool.and_eq_true,decide_eq_true_eq] at hok'
    have hl:=hI.κlen
    exact { os :=hE.os,tape:=hE.tape,output:=hE.output,size:=hE.size,drawn:=hE.drawn,cell:=hE.cell
            F:=fun b o h=> .inl (hE.F b o h)
            κ :=fun s b hs=>by
              have:=(List.getElem?_eq_some_iff.1 hs).1
              show(Y.κ.take n++js.map fun j=>Y.κ[j]?.getD 0)[s]? =some b
              rw[List.getElem?_append_left (by simp;omega),List.getElem?_take,if_pos (by omega)];exact hE.κ s b hs
            lens:=fun s L hs=>by
              have hsm:s<m:=by have:=(List.getElem?_eq_some_iff.1 hs).1;omega
              obtain⟨L',k1,k2,k3⟩:=hE.lens s L hs
              obtain⟨q1,q2⟩:=zjx (σ:=σ) (Y:=Y) (n:=n) (fs:=fs) (js:=js) s hsm
              exact⟨L',by rw[q1];exact k1,k2,fun e=>by rw[q2];exact k3 e⟩
            blk:=hE.blk
            szs:=hE.szs
            frame:=hE.frame
            κnew:=fun b hb=>hE.κnew b (qbz hI hok hb)
            βnew:=fun r hr=>hE.βnew r (List.mem_of_mem_take hr)
            Onew:=hE.Onew
            Cmono:=hE.Cmono
            Cnew:=hE.Cnew
            Fnew :=fun b o h=>by
              rcases keepF hI h with h|h
              · exact hE.Fnew b o h
              · rcases hE.κnew b h with h|h
                · exact .inr (.inr (.inr h))
                · exact .inr (.inl h)}
theorem qmz {IT:IterP} {M:Option Gen} {F:Fence} {B:Nat} (hIT:ITMono IT) {X0 X:Cx} {S:List AV} {σ:St} {a:Act} {n:Nat} (h:Now IT M F B X0 S σ X a)(hn:X0.κ.length≤n) {fs js:List Nat} {d:Nat} (hok:zfb σ n js=true):
 Now IT M F B X0 (zby σ.lens.length (kz σ.boxes σ.lens.length n fs js d) S) (zmv σ σ.lens.length n fs js d) (zdz σ σ.lens.length n fs js X) a where
 ext:=qlq h.ext h.inv hok hn (by rw[←h.inv.lens];exact qmp h.ext.sub)
 inv:=zxv hIT h.inv hok d
 reps:=zfr (X:=X) (Y:=zdz σ σ.lens.length n fs js X) hIT (fun b o h=>Or.inl h) rfl zjx (zsl hIT h.inv hok d) _ _ h.reps
 marks:=h.marks
 frn :=by
  have hf:=h.frn
  cases M with
  |none=>trivial
  | some G=>
   obtain⟨s,f1,f2,f3,f4,f5,f6,f7⟩:Fr G σ X:=hf
   exact⟨s,f1,⟨f2.1,fun b o hc=>by
    rcases f2.2 b o hc with k|⟨k1,k2,k3⟩
    ·exact .inl (.inl k)
    ·exact .inr ⟨k1,fun hm=>k2 (qbz h.inv hok hm),fun r hr=>k3 r (List.mem_of_mem_take hr)⟩⟩,f3,f4,fun b hb=>f5 b (qbz h.inv hok hb),fun r hr=>f6 r (List.mem_of_mem_take hr),fun b o hF=>by
    rcases keepF h.inv hF with k|k
    ·exact f7 b o k
    ·exact .inr (f5 b k)⟩
theorem qjd {IT:IterP} {M:Option Gen} {F:Fence} {B:Nat} (hIT:ITMono IT) {X0 X:Cx} {S S':List AV} {σ σ':St} {a:Act} {n0:Nat} (h:Now IT M F B X0 S σ X a)(hn:X0.κ.length≤n0)(hw:Wk1 n0 S σ S' σ'): ∃X',X'.w=X.w∧Now IT M F B X0 S' σ' X' a:=by
 rcases hw with⟨hf,hw⟩|⟨n,fs,js,d,h1,hok,hf,rfl⟩|⟨s,t,cs,hb,hf,rfl⟩
 rotate_left
 ·have hk:=qmz hIT h (Nat.le_trans hn h1) hok (fs:=fs) (d:=d)
  exact⟨zdz σ σ.lens.length n fs js X,rfl,hk.ext,hk.inv,zua hf hk.reps,hk.marks,hk.frn⟩
 ·obtain⟨X',e1,e2,e3,e4,e5,e6,⟨b,e7,e8⟩,hE,hI⟩:=qgi hIT h.inv hb
  refine⟨X',e1,h.ext.trans (Rel.of hE),hI,zua hf (zba hIT hE _ _ h.reps),by rw[e1];exact h.marks,?_⟩
  have hfr:=h.frn
  cases M with
  |none=>trivial
  | some G=>
   obtain⟨s,f1,f2,f3,f4,f5,f6,f7⟩:Fr G σ X:=hfr
   have hm: ∀c,c∈X'.κ→c∈X.κ:=fun c hc=>by
    rw[e8] at hc
    rcases List.mem_append.1 hc with hc|hc
    ·exact hc
    ·simp at hc;subst hc;exact e7
   exact⟨s,by rw[e5];exact f1,⟨by rw[e6];exact f2.1,fun b o hc=>by
    rcases f2.2 b o hc with k|⟨k1,k2,k3⟩
    ·exact .inl (by rw[e2];exact k)
    ·exact .inr ⟨by rw[e1];exact k1,fun hm'=>k2 (hm _ hm'),by rw[e3];exact k3⟩⟩,by rw[e1];exact f3,by rw[e1];exact f4,fun b hb=>f5 b (hm b hb),by rw[e3];exact f6,by rw[e2];exact f7⟩
 have h':Now IT M F B X0 S' σ X a:=⟨h.ext,h.inv,zua hf h.reps,h.marks,h.frn⟩
 rcases hw with rfl|⟨n,h1,h2,h3,rfl⟩
 ·exact⟨X,rfl,h'⟩
 ·have:=zsb hIT none h' (Nat.le_trans hn h1) h2
  rw[z8f n S' h3] at this
  exact⟨{X with κ:=X.κ.take n},rfl,this⟩
theorem qor {IT:IterP} {M:Option Gen} {F:Fence} {B:Nat} (hIT:ITMono IT) {X0:Cx} {a:Act} {n0:Nat} (hn:X0.κ.length≤n0) {S S':List AV} {σ σ':St} (hw:Wk n0 S σ S' σ'): ∀ {X:Cx},Now IT M F B X0 S σ X a→ ∃X',X'.w=X.w∧Now IT M F B X0 S' σ' X' a:=by
 induction hw with
 |one h=>intro X hX;exact qjd hIT hX hn h
 | step h k ih=>
  intro X hX
  obtain⟨X1,e1,h1⟩:=qjd hIT hX hn h
  obtain⟨X2,e2,h2⟩:=ih h1
  exact⟨X2,e2.trans e1,h2⟩
def FenceAt (B:Nat)(F:Fence)(w:World):Prop:=F=Fence.wide∨ ∃(l0:Nat) (r0:Loop),F=Fence.wide.inRound l0∧B≤l0∧w.heap[l0]? =some (.loop r0)
theorem Rel.noncells {IT:IterP} {M:Option Gen} {σ:St} {X X':Cx} (h:Rel M X X')(hI:Inv IT σ X) {k:Nat} {o:Obj} (hB: ∀G,M=some G→G.B≤k)(hk:X.w.heap[k]? =some o)(ho:o.isCells=false):X'.w.heap[k]? =some o:=by
 cases M with
 |none=>exact Ext.noncells (show Ext X X' from h) hI hk ho
 | some G=>
  refine(show ExtG G.B X X' from h).frame k o hk (hB G rfl) (fun hm=> ?_) (fun r hr e=> ?_) (fun hO=> ?_)
  ·obtain⟨s,hs,rfl⟩:=List.mem_iff_getElem.1 hm
   have hl:=hI.κlen
   obtain⟨vs,zs,h1,_⟩:=hI.box s X.κ[s] (σ.boxes[s]'(by omega)).1 (σ.boxes[s]'(by omega)).2 (by simp[hs]) (by rw[List.getElem?_eq_getElem (by omega)])
   rw[hk] at h1;cases h1;cases ho
  ·obtain⟨s,hs,rfl⟩:=List.mem_iff_getElem.1 hr
   have hl:=hI.βlen
   obtain⟨cur,fz,h1,_⟩:=hI.row s X.β[s] (X.lens[s]'(by omega)) (by simp[hs]) (by rw[List.getElem?_eq_getElem (by omega)])
   rw[e,hk] at h1;cases h1;cases ho
  ·obtain⟨⟨cs0,t0,f0,h0⟩,_⟩:=hI.Ok k hO
   rw[hk] at h0;cases h0;cases ho
theorem FenceAt.ext {IT:IterP} {M:Option Gen} {B:Nat} {F:Fence} {σ:St} {X X':Cx} (hM: ∀G,M=some G→G.B≤B)(h:FenceAt B F X.w)(hE:Rel M X X')(hI:Inv IT σ X):FenceAt B F X'.w:=
 h.imp id fun⟨l0,r0,h1,h0,h2⟩=>⟨l0,r0,h1,h0,hE.noncells hI (fun G e=>Nat.le_trans (hM G e) h0) h2 rfl⟩
theorem z0t {P:Program} {B:Nat} {M:Option Gen} (h:z4t P B M): ∀G,M=some G→G.B≤B:=fun G e=>by subst e;exact h.2
def zxh (P:Program)(c:Code):Prop:= ∀ {M:Option Gen} {F:Fence} {nn B:Nat} (hG:z4t P B M) (hF:FenceOk F P) (k0:Nat) (Q:AQ) (S:List AV) (σ:St) (X0 X:Cx) (a:Act) (K:Exit→Act→World→Prop),X0.κ.length≤k0→(B≤X0.w.heap.size∧ ∃σ0,Inv (ITP P) σ0 X0)→awp (ITP P) P (zej M) k0 c Q S σ→Now (ITP P) M F B X0 S σ X a→(FenceAt B F X0.w∨zee c=true)→
 (∀e S σ X a,Q e S σ→Now (ITP P) M F B X0 S σ X a→K e.to a X.w)→c.wpIn F nn P K a X.w
theorem qhb {P:Program} (hIT:ITMono (ITP P)) {x:Code} (ih:zxh P x):zxh P (.loop x):=by
 intro M F nn B hG hF k0 Q S σ X0 X a K hk hI0 h hn hfe hK
 obtain⟨m,h⟩:=h
 refine wpIn_loop_rounds m ?_
 have key: ∀(m:Nat) (S:List AV) (σ:St) (X1:Cx) (a:Act),zqc (awp (ITP P) P (zej M) k0 x) Q k0 m S σ→Now (ITP P) M F B X0 S σ X1 a→Code.roundsIn F nn P x K m a X1.w:=by
  intro m
  induction m with
  |zero=>intro S σ X1 a h;exact h.elim
  | succ m ihm=>
   intro S σ X1 a h hn1
   obtain⟨S',σ',hw,h⟩:=h
   obtain⟨X2,hw2,hn2⟩:=qor hIT hk hw hn1
   rw[roundsIn_succ,←hw2]
   refine ih hG hF k0 _ S' σ' X0 X2 a _ hk hI0 h hn2 hfe ?_
   intro e S3 σ3 X3 a3 hq hn3
   cases e with
   |normal=>exact ihm S3 σ3 X3 a3 hq hn3
   |exit id=>exact hK _ _ _ _ _ hq hn3
   |ret=>exact hK _ _ _ _ _ hq hn3
 exact key m S σ X a h hn
theorem qkm {P:Program} {x y:Code} (ihx:zxh P x)(ihy:zxh P y):zxh P (.seq x y):=by
 intro M F nn B hG hF k0 Q S σ X0 X a K hk hI0 h hn hfe hK
 refine wpIn_seq ?_
 have hfe1:FenceAt B F X0.w∨zee x=true:=hfe.imp id fun h=>by simp only[zee,Bool.and_eq_true] at h;exact h.1
 refine ihx hG hF k0 _ S σ X0 X a _ hk hI0 h hn hfe1 ?_
 intro e S1 σ1 X1 a1 hq hn1
 cases e with
 | normal=>
  obtain⟨S2,σ2,hw,hq⟩:=hq
  obtain⟨X2,e2,hn2⟩:=qor (zat P) hk hw hn1
  show y.wpIn F nn P K a1 X1.w
  rw[←e2]
  exact ihy hG hF k0 _ S2 σ2 X0 X2 a1 _ hk hI0 hq hn2 (hfe.imp id fun h=>by simp only[zee,Bool.and_eq_true] at h;exact h.2) hK
 |exit id=>exact hK _ _ _ _ _ hq hn1
 |ret=>exact hK _ _ _ _ _ hq hn1
theorem qhn {P:Program} {c:Operand} {x y:Code} (ihx:zxh P x)(ihy:zxh P y):zxh P (.cond c x y):=by
 intro M F nn B hG hF k0 Q S σ X0 X a K hk hI0 h hn hfe hK
 obtain⟨t,hc,h⟩:=h
 have hv:=zma hn.reps c
 rw[hc,Rep] at hv
 refine wpIn_cond hv ?_
 cases t with
 |true=>exact ihx hG hF k0 _ S σ X0 X a _ hk hI0 h hn (hfe.imp id fun h=>by simp only[zee,Bool.and_eq_true] at h;exact h.1) hK
 |false=>exact ihy hG hF k0 _ S σ X0 X a _ hk hI0 h hn (hfe.imp id fun h=>by simp only[zee,Bool.and_eq_true] at h;exact h.2) hK
theorem qbi {P:Program} {id:Nat} {x:Code} (ihx:zxh P x):zxh P (.block id x):=by
 intro M F nn B hG hF k0 Q S σ X0 X a K hk hI0 h hn hfe hK
 refine wpIn_block ?_
 refine ihx hG hF k0 _ S σ X0 X a _ hk hI0 h hn hfe ?_
 intro e S1 σ1 X1 a1 hq hn1
 cases e with
 |normal=>exact hK _ _ _ _ _ hq hn1
 | exit j=>
  simp only[zoe] at hq
  simp only[AExit.to,Exit.inBlock]
  split at hq
  ·rename_i e;rw[if_pos e];exact hK .normal _ _ _ _ hq hn1
  ·rename_i e;rw[if_neg e];exact hK (.exit j) _ _ _ _ hq hn1
 |ret=>exact hK _ _ _ _ _ hq hn1
section
variable {P:Program} {b:Frame} {a:Act} {k:List Item} {cs:List Frame} {w:World} {Q:Exit→Act→World→Prop} {F:Fence} {n:Nat}
theorem zgz {c:Code}:step P (lone (b.atR a (.code (.scope c)::k)) cs w)= .next (lone (b.atR a (.code c:: .inScope c::k)) cs w):=
 step_lone_go (by simp[stepG,stepG.exec,Frame.atR])
theorem zxq {c:Code}:step P (lone (b.atR a (.inScope c::k)) cs w)= .next (lone (b.atR a k) cs w):=
 step_lone_go (by simp[stepG,stepG.exec,Frame.atR])
theorem zne {c:Code} (h:c.wpIn F n P (Exit.noGoto Q) a w):(Code.scope c).wpIn F n P Q a w:=by
 intro b k cs hro hb hr
 have h0:(lone (b.atR a (.code (.scope c)::k)) cs w).fenced P F:=fenced_calm hb hr rfl
 obtain⟨e,a₁,w₁,hq,harr⟩:=h b (.inScope c::k) cs hro hb hr
 cases e with
 |normal=>exact⟨.normal,a₁,w₁,hq,.head h0 zgz (StepsIn.trans harr (.one (fenced_calm hb hr rfl) zxq))⟩
 | exit id=>
  have hx:exitTo id (.inScope c::k)=exitTo id k:=by simp[exitTo]
  exact⟨.exit id,a₁,w₁,hq,fun k' hk=> .head h0 zgz (harr.1 k' (by rw[hx];exact hk)),
   fun hr' hk=>let⟨k₁,h1,h2⟩:=harr.2 hr' (by rw[hx];exact hk);⟨k₁,h1,.head h0 zgz h2⟩⟩
 |goto l=>exact hq.elim
 |ret=>exact⟨_,a₁,w₁,hq,.of_steps (.one h0 zgz) harr⟩
 |panic ch=>exact⟨_,a₁,w₁,hq,.of_steps (.one h0 zgz) harr⟩
 |outgrown=>exact⟨_,a₁,w₁,hq,.of_steps (.one h0 zgz) harr⟩
end
theorem qci {P:Program} {x:Code} (ih:zxh P x):zxh P (.scope x):=by
 intro M F nn B hG hF k0 Q S σ X0 X a K hk hI0 h hn hfe hK
 refine zne (ih hG hF k0 Q S σ X0 X a _ hk hI0 h hn hfe ?_)
 intro e S1 σ1 X1 a1 hq hn1
 cases e with
 |normal=>exact hK .normal _ _ _ _ hq hn1
 |exit id=>exact hK (.exit id) _ _ _ _ hq hn1
 |ret=>exact hK .ret _ _ _ _ hq hn1
end Go.Ab
