import Derived.Test.YtnoccnalocdldaaDoorZdJ2
set_option linter.all false
namespace Go.Ab
open Go Go.RowKit Go.Fwd
def zvu (IT:IterP)(P:Program)(W:Owed)(ops:Array Oper)(K:List AV→St→Prop)(i:Nat)(S:List AV)(σ:St):Prop:=
 match ops[i]? with
 |none=>K S σ
 | some o=>match o.guard with
  |none=>zfx IT P W o S σ fun a σ'=>K (zy S o.dst a) σ'
  |some (k,b)=> ∃c,zdp ops S k=some c∧(if c=some b then zfx IT P W o S σ fun a σ'=>K (zy S o.dst a) σ' else K (zy S o.dst (.raw undef)) σ)
def zqt (IT:IterP)(P:Program)(W:Owed)(ops:Array Oper)(Q:List AV→St→Prop):Nat→Array Bool→List AV→St→Prop
 |0,listed,S,σ=>Region.ready .any ops listed=[]∧Q S σ
 |k+1,listed,S,σ=>(Region.ready .any ops listed=[]→Q S σ)∧ ∀i∈Region.ready .any ops listed,zvu IT P W ops (fun S σ=>zqt IT P W ops Q k (listed.setIfInBounds i true) S σ) i S σ
def qiu (IT:IterP)(P:Program)(W:Owed)(ops:Array Oper)(Q:List AV→St→Prop)(S:List AV)(σ:St):Prop:=zqt IT P W ops Q ops.size (Array.replicate ops.size false) S σ
section
variable {IT:IterP} {P:Program} {M:Option Gen} {F:Fence} {nn B:Nat}
theorem zis (hIT:ITMono IT)(hF:FenceOk F P)(hG:zrp P B M) {ops:Array Oper} {Q:List AV→St→Prop} {K:Exit→Act→World→Prop} {X0:Cx} (hQ: ∀S σ X a,Q S σ→Now IT M F B X0 S σ X a→K .normal a X.w):
 ∀(k:Nat) (listed:Array Bool) (S:List AV) (σ:St) (X:Cx) (a:Act),zqt IT P (zdn M) ops Q k listed S σ→Now IT M F B X0 S σ X a→wpAnyIn F nn P .any ops K k listed a X.w
 |0,listed,S,σ,X,a,h,hn=>⟨h.1,hQ _ _ _ _ h.2 hn⟩
 | k +1,listed,S,σ,X,a,h,hn=>by
  refine⟨fun he=>hQ _ _ _ _ (h.1 he) hn,fun i hi=> ?_⟩
  have h:=h.2 i hi
  unfold zvu at h
  unfold wpOpIn
  cases ho:ops[i]? with
  | none=>
   rw[ho] at h
   exact zis hIT hF hG hQ k _ S σ X a h hn
  | some o=>
   rw[ho] at h
   simp only at h⊢
   cases hg:o.guard with
   | none=>
    rw[hg] at h
    rw[if_pos (by simp[Region.wanted,hg])]
    exact zjy hIT hF hG h hn fun x σ' X' a' hk hn'=>zis hIT hF hG hQ k _ _ _ _ _ hk hn'
   | some kb=>
    obtain⟨j,b⟩:=kb
    rw[hg] at h
    obtain⟨c,hc,h⟩:=h
    have hy:=zhx hc hn.reps
    by_cases e:c=some b
    ·rw[if_pos e] at h
     rw[if_pos (by simp[Region.wanted,hg,hy,e])]
     exact zjy hIT hF hG h hn fun x σ' X' a' hk hn'=>zis hIT hF hG hQ k _ _ _ _ _ hk hn'
    ·rw[if_neg e] at h
     rw[if_neg (by simp[Region.wanted,hg,hy,e])]
     exact⟨fun f _=>hF.fn f,zis hIT hF hG hQ k _ _ _ _ _ h (zcg hG hIT hn (Ext.refl X) hn.inv ⟨rfl,rfl⟩ o.dst (by rw[Rep]))⟩
theorem zyp (hIT:ITMono IT)(hF:FenceOk F P)(hG:zrp P B M)(hmix:P.follows .mixedOrders=true) {id:Nat} {ops:Array Oper} {Q:List AV→St→Prop} {K:Exit→Act→World→Prop} {X0 X:Cx} {S:List AV} {σ:St} {a:Act}
 (hQ: ∀S σ X a,Q S σ→Now IT M F B X0 S σ X a→K .normal a X.w) (h:qiu IT P (zdn M) ops Q S σ) (hn:Now IT M F B X0 S σ X a):(Code.region id ops true).wpIn F nn P K a X.w:=by
 refine wpIn_region_any hmix ?_
 obtain⟨hE,hI⟩:=zjn hIT hn.inv
 have hrs:zmb IT {X with w:=X.w.drew} S a.tmps:=zaw hIT hE _ _ hn.reps
 have hnow:Now IT M F B X0 S σ {X with w:=X.w.drew} a:=⟨hn.ext.trans (Rel.of hE),hI,hrs,hn.marks.ext hE hn.inv,FrM.ext hG hn.frn hE hn.inv rfl rfl⟩
 exact zis (nn:=nn) hIT hF hG hQ ops.size _ S σ _ a h hnow
end
def eqV:Value→Value→Bool
 | .int k a,.int k' b=>decide (k=k')&&decide (a=b)
 | .bool a,.bool b=>a==b
 | .string a,.string b=>decide (a.data=b.data)
 | .pointer a,.pointer b=>decide (a=b)
 | .slice a n m,.slice a' n' m'=>decide (a=a')&&decide (n=n')&&decide (m=m')
 | .nilFunc,.nilFunc=>true
 | .nilIface,.nilIface=>true
 | .tuple a,.tuple b=>decide (a.size=0)&&decide (b.size=0)
 |_,_=>false
theorem eqV_ok {a b:Value} (h:eqV a b=true):a=b:=by
 unfold eqV at h
 split at h<;>(try simp only[Bool.and_eq_true,decide_eq_true_eq,beq_iff_eq] at h)
 ·rw[h.1,h.2]
 ·rw[h]
 ·rename_i a b;cases a;cases b;simp only at h;rw[h]
 ·rw[h]
 ·rw[h.1.1,h.1.2,h.2]
 ·rfl
 ·rfl
 ·rename_i a b;rw[Array.eq_empty_of_size_eq_zero h.1,Array.eq_empty_of_size_eq_zero h.2]
 ·cases h
mutual
def z2k:AV→AV→Bool
 | .raw a,.raw b=>eqV a b
 | .agg a,.agg b=>zmi a b
 | .tup a,.tup b=>zmi a b
 | .list n a st,.list m b st'=>decide (n=m)&&decide (st=st')&&zmi a b
 | .ptr s o,.ptr s' o'=>decide (s=s')&&decide (o=o')
 | .bsl s o n z f,.bsl s' o' n' z' f'=>decide (s=s')&&decide (o=o')&&decide (n=n')&&decide (z=z')&&decide (f=f')
 | .iptr a,.iptr b=>zmi a b
 | .clos f a,.clos g b=>decide (f=g)&&zmi a b
 | .top,.top=>true
 |_,_=>false
def zmi:List AV→List AV→Bool
 |[],[]=>true
 |a::l,b::m=>z2k a b&&zmi l m
 |_,_=>false
end
mutual
theorem qdj: ∀a b,z2k a b=true→a=b
 | .raw a,b,h=>by cases b<;>simp only[z2k] at h<;>first|(cases h;done)|rw[eqV_ok h]
 | .agg a,b,h=>by cases b<;>simp only[z2k] at h<;>first|(cases h;done)|rw[zfp _ _ h]
 | .tup a,b,h=>by cases b<;>simp only[z2k] at h<;>first|(cases h;done)|rw[zfp _ _ h]
 | .iptr a,b,h=>by cases b<;>simp only[z2k] at h<;>first|(cases h;done)|rw[zfp _ _ h]
 | .clos f a,b,h=>by
  cases b<;>simp only[z2k] at h<;>first|(cases h;done)|skip
  rw[Bool.and_eq_true,decide_eq_true_eq] at h
  rw[h.1,zfp _ _ h.2]
 | .list n a st,b,h=>by
  cases b<;>simp only[z2k] at h<;>first|(cases h;done)|skip
  simp only[Bool.and_eq_true,decide_eq_true_eq] at h
  rw[h.1.1,h.1.2,zfp _ _ h.2]
 | .ptr _ _,b,h=>by
  cases b<;>simp only[z2k] at h<;>first|(cases h;done)|skip
  simp only[Bool.and_eq_true,decide_eq_true_eq] at h
  rw[h.1,h.2]
 | .bsl _ _ _ _ _,b,h=>by
  cases b<;>simp only[z2k] at h<;>first|(cases h;done)|skip
  simp only[Bool.and_eq_true,decide_eq_true_eq] at h
  obtain⟨⟨⟨⟨h1,h2⟩,h3⟩,h4⟩,h5⟩:=h
  rw[h1,h2,h3,h4,h5]
 | .top,b,h=>by cases b<;>simp only[z2k] at h<;>first|(cases h;done)|rfl
 | .iter _,b,h=>by cases b<;>simp only[z2k] at h<;>cases h
 | .yld _,b,h=>by cases b<;>simp only[z2k] at h<;>cases h
 | .bad,b,h=>by cases b<;>simp only[z2k] at h<;>cases h
theorem zfp: ∀a b,zmi a b=true→a=b
 |[],[],_=>rfl
 | a::l,b::m,h=>by
  simp only[zmi,Bool.and_eq_true] at h
  rw[qdj a b h.1,zfp l m h.2]
 |[],_::_,h=>by simp only[zmi] at h;cases h
 |_::_,[],h=>by simp only[zmi] at h;cases h
end
def eqBx:List (TypeId×List AV)→List (TypeId×List AV)→Bool
 |[],[]=>true
 |a::l,b::m=>decide (a.1=b.1)&&zmi a.2 b.2&&eqBx l m
 |_,_=>false
theorem z9w: ∀a b,eqBx a b=true→a=b
 |[],[],_=>rfl
 | a::l,b::m,h=>by
  simp only[eqBx,Bool.and_eq_true,decide_eq_true_eq] at h
  obtain⟨⟨h1,h2⟩,h3⟩:=h
  rw[z9w l m h3]
  cases a;cases b
  simp only at h1 h2
  rw[h1,zfp _ _ h2]
 |[],_::_,h=>by simp only[eqBx] at h;cases h
 |_::_,[],h=>by simp only[eqBx] at h;cases h
def eqSt (a b:St):Bool:=eqBx a.boxes b.boxes&&decide (a.lens=b.lens)&&decide (a.elems=b.elems)&&decide (a.out=b.out)&&decide (a.stop=b.stop)
theorem z3h {a b:St} (h:eqSt a b=true):a=b:=by
 simp only[eqSt,Bool.and_eq_true,decide_eq_true_eq] at h
 obtain⟨⟨⟨⟨h1,h2⟩,h3⟩,h4⟩,h5⟩:=h
 cases a;cases b
 simp only at h1 h2 h3 h4 h5
 rw[z9w _ _ h1,h2,h3,h4,h5]
def zgx:List Oper→List AV→List AV→List AV
 |o::l,v::vs,S=>zgx l vs (zy S o.dst v)
 |_,_,S=>S
def floB (ops:Array Oper)(size:Nat):Bool:=
 (List.range ops.size).all fun j=>match zbl ops j with
  |none=>true
  |some d=>decide (d<size)&&(List.range ops.size).all fun i=>(decide (i=j)||zbl ops i !=some d)&&(!(zgg ops i).contains d||zhg ops i j)
def ziz (d:Nat→Bool)(k:Nat):Nat→Bool:=fun j=>bif Nat.beq j k then true else d j
theorem zdu (d:Nat→Bool)(k:Nat):ziz d k k=true:=by simp[ziz]
theorem zbm {d:Nat→Bool} {k j:Nat} (h:j≠k):ziz d k j=d j:=by simp[ziz,h]
def zzk (IT:IterP)(P:Program)(o:Oper)(E:List AV)(σ:St)(a:AV)(σ':St):Prop:=
 (∃f args,zdj E o=some (f,args)∧σ'=σ∧zad 0 args=true∧Pure IT P f (stripL args) a)∨AopR P (zcc E) σ o a σ'
def flOne (IT:IterP)(P:Program)(ops:Array Oper)(E:List AV)(sg:(Nat→Bool)→St)(i:Nat)(o:Oper)(a:AV):Prop:=
 (match o.guard with
  |none=>True
  |some (k,b)=>zdp ops E k=some (some b))∧(∀d,d i=false→zzk IT P o E (sg d) a (sg (ziz d i)))∨
 (∃k b c,o.guard=some (k,b)∧zdp ops E k=some c∧c≠some b∧a= .raw undef∧ ∀d,sg (ziz d i)=sg d)
def zjq (IT:IterP)(P:Program)(ops:Array Oper)(E:List AV)(sg:(Nat→Bool)→St):Nat→List Oper→List AV→Prop
 |i,o::l,a::vs=>flOne IT P ops E sg i o a∧zjq IT P ops E sg (i+1) l vs
 |_,[],[]=>True
 |_,_,_=>False
def qiy (IT:IterP)(P:Program)(ops:Array Oper)(Q:List AV→St→Prop)(S:List AV)(σ:St):Prop:=
 ∃sg vs E,zgx ops.toList vs S=E∧(floB ops S.length&&zvp ops)=true∧sg (fun j=>Nat.ble ops.size j)=σ∧zjq IT P ops E sg 0 ops.toList vs∧Q E (sg fun _=>true)
section
variable {IT:IterP} {P:Program} {M:Option Gen} {F:Fence} {nn B:Nat}
theorem z5c {ops:Array Oper} {E:List AV} {sg:(Nat→Bool)→St}: ∀(l:List Oper) (vs:List AV) (k:Nat),zjq IT P ops E sg k l vs→l.length=vs.length∧ ∀j o,l[j]? =some o→ ∃a,vs[j]? =some a∧flOne IT P ops E sg (k+j) o a
 |[],[],k,_=>⟨rfl,fun j o h=>by simp at h⟩
 |[],_::_,_,h=>h.elim
 |_::_,[],_,h=>h.elim
 | o::l,a::vs,k,⟨h1,h2⟩=>by
  obtain⟨e,h3⟩:=z5c l vs (k+1) h2
  refine⟨by simp[e],fun j o' hj=> ?_⟩
  cases j with
  |zero=>simp at hj;subst hj;exact⟨a,rfl,h1⟩
  |succ j=>simp at hj;obtain⟨b,hb,hc⟩:=h3 j o' hj;exact⟨b,by simpa using hb,by rw[show k+(j+1)=k+1+j by omega];exact hc⟩
theorem zkb: ∀(l:List Oper) (vs S:List AV),(zgx l vs S).length=S.length
 |[],_,_=>by simp[zgx]
 |_::_,[],_=>by simp[zgx]
 |o::l,v::vs,S=>by rw[zgx,zkb l vs,zbc]
theorem z2n {S:List AV} {d:Option Tmp} {x:AV} {t:Tmp} (h:d≠some t):(zy S d x)[t]? =S[t]? :=by
 cases d with
 |none=>rfl
 |some d=>exact List.getElem?_set_ne (fun e=>h (by rw[e]))
theorem zhy {t:Tmp}: ∀(l:List Oper) (vs S:List AV),(∀o∈l,o.dst≠some t)→(zgx l vs S)[t]? =S[t]?
 |[],_,_,_=>by simp[zgx]
 |_::_,[],_,_=>by simp[zgx]
 |o::l,v::vs,S,h=>by rw[zgx,zhy l vs _ fun o' ho=>h o' (by simp[ho]),z2n (h o (by simp))]
theorem zmu {t:Tmp}: ∀(l:List Oper) (vs S:List AV) (j:Nat) (o:Oper) (a:AV),l[j]? =some o→vs[j]? =some a→o.dst=some t→t<S.length→(∀i o',l[i]? =some o'→o'.dst=some t→i=j)→(zgx l vs S)[t]? =some a
 |[],_,_,j,o,a,h,_,_,_,_=>by simp at h
 |_::_,[],_,j,o,a,_,h,_,_,_=>by simp at h
 | o1::l,v::vs,S,j,o,a,h1,h2,h3,h4,h5=>by
  rw[zgx]
  cases j with
  | zero=>
   simp at h1 h2;subst h1 h2
   rw[zhy l vs _ fun o' ho he=>by
    obtain⟨i,hi,rfl⟩:=List.mem_iff_getElem.1 ho
    have:=h5 (i+1) l[i] (by simp[hi]) he
    omega]
   rw[h3];exact List.getElem?_set_self h4
  | succ j=>
   exact zmu l vs _ j o a (by simpa using h1) (by simpa using h2) h3 (by rw[zbc];exact h4) fun i o' hi ho=>by
    have:=h5 (i+1) o' (by simpa using hi) ho
    omega
theorem zjc {ops:Array Oper} {size:Nat} (h:floB ops size=true) {j:Nat} {d:Tmp} (hd:zbl ops j=some d):
 d<size∧(∀i,zbl ops i=some d→i=j)∧ ∀i,d∈zgg ops i→zhg ops i j=true:=by
 have hlt: ∀ {i:Nat} {d:Tmp},zbl ops i=some d→i<ops.size:=fun {i d} h=>by
  unfold zbl at h
  rcases Nat.lt_or_ge i ops.size with h'|h'
  ·exact h'
  ·rw[Array.getElem?_eq_none h'] at h;cases h
 unfold floB at h
 have h1:=List.all_eq_true.1 h j (List.mem_range.2 (hlt hd))
 rw[hd] at h1
 simp only[Bool.and_eq_true,decide_eq_true_eq] at h1
 refine⟨h1.1,fun i hi=> ?_,fun i hi=> ?_⟩
 ·have h4:=List.all_eq_true.1 h1.2 i (List.mem_range.2 (hlt hi))
  simp only[Bool.and_eq_true,Bool.or_eq_true,decide_eq_true_eq] at h4
  rcases h4.1 with h5|h5
  ·exact h5
  ·rw[hi] at h5;simp at h5
 ·have hil:i<ops.size:=by
   unfold zgg at hi
   rcases Nat.lt_or_ge i ops.size with h'|h'
   ·exact h'
   ·rw[Array.getElem?_eq_none h'] at hi;cases hi
  have h4:=List.all_eq_true.1 h1.2 i (List.mem_range.2 hil)
  simp only[Bool.and_eq_true,Bool.or_eq_true] at h4
  rcases h4.2 with h5|h5
  ·rw[zqk hi] at h5;simp at h5
  ·exact h5
theorem zgh {t:Tmp}: ∀ {l:List Operand},Operand.tmp t∈l→t∈zef l
 | y::l,h=>by
  rcases List.mem_cons.1 h with rfl|h2
  ·simp[zef]
  ·have ih:=zgh h2
   cases y<;>simp only[zef]<;>first|exact List.mem_cons_of_mem _ ih|exact ih
theorem zyj (hIT:ITMono IT)(hF:FenceOk F P)(hG:zrp P B M) {o:Oper} {S E:List AV} {σ σ':St} {X0 X:Cx} {a:Act} {x:AV} {next:Act→World→Prop} {Q:Exit→Act→World→Prop} (h:zzk IT P o E σ x σ')(hn:Now IT M F B X0 S σ X a)
 (hρ: ∀y∈o.op.operands,Rep IT X (zcc E y) (a.eval y)) (hK: ∀X' a',Now IT M F B X0 (zy S o.dst x) σ' X' a'→next a' X'.w):o.wpIn F nn P a X.w next Q:=by
 rcases h with⟨f,args,hc,rfl,hok,h⟩|ha
 ·obtain⟨vs,hrun,hr⟩:=zgf (P:=P) hc hρ h.1
  unfold Oper.wpIn
  refine⟨fun f _=>hF.fn f,?_⟩
  rw[Oper.semAt_plain F _ _ (zmm hc),hrun]
  refine⟨fun hd=>(by rw[hF.depth] at hd;cases hd),hF.calls _ _ _ _ _ ?_⟩
  refine(zja hIT h rfl hok hn.inv hr).mono ?_
  rintro e w' ⟨v,X',rfl,rfl,h1,h2,h3,_⟩
  exact hK _ _ (zcg hG hIT hn h1 h2 ⟨rfl,rfl⟩ o.dst h3)
 ·obtain⟨v,X',h1,h2,h3,h4⟩:=zop hIT ha hρ hn.inv
  unfold Oper.wpIn
  refine⟨fun f _=>hF.fn f,?_⟩
  rw[Oper.semAt_plain F _ _ (zot ha)]
  rcases h1 with h1|⟨h1,rfl⟩
  ·rw[h1];exact hK _ _ (zcg hG hIT hn h2 h3 (zpn ha) o.dst h4)
  ·rw[h1];exact hK _ _ (zcg hG hIT hn h2 h3 (zpn ha) o.dst h4)
theorem zyw (hIT:ITMono IT)(hF:FenceOk F P)(hG:zrp P B M)(hmix:P.follows .mixedOrders=true) {id:Nat} {ops:Array Oper} {Q:List AV→St→Prop} {K:Exit→Act→World→Prop} {X0 X:Cx} {S:List AV} {σ:St} {a:Act}
 (hQ: ∀S σ X a,Q S σ→Now IT M F B X0 S σ X a→K .normal a X.w) (h:qiy IT P ops Q S σ) (hn:Now IT M F B X0 S σ X a):(Code.region id ops true).wpIn F nn P K a X.w:=by
 obtain⟨sg,vs,E,hE,hb,hσ,hall,hq⟩:=h
 rw[Bool.and_eq_true] at hb
 obtain⟨hfl,hback⟩:=hb
 obtain⟨hlen,hone⟩:=z5c _ _ _ hall
 have hat: ∀ {j:Nat} {o:Oper},ops[j]? =some o→ ∃a,vs[j]? =some a∧flOne IT P ops E sg j o a:=fun {j o} ho=>by
  obtain⟨a,h1,h2⟩:=hone j o (by rw[←ho,Array.getElem?_toList])
  rw[Nat.zero_add] at h2;exact⟨a,h1,h2⟩
 have hdst: ∀ {j:Nat} {o:Oper},ops[j]? =some o→zbl ops j=o.dst:=fun {j o} ho=>by rw[zbl,ho];rfl
 have hEl:E.length=S.length:=by rw[←hE,zkb]
 have hEd: ∀ {j:Nat} {o:Oper} {a:AV} {t:Tmp},ops[j]? =some o→vs[j]? =some a→o.dst=some t→E[t]? =some a:=fun {j o a t} ho ha ht=>by
  obtain⟨s1,s2,_⟩:=zjc hfl ((hdst ho).trans ht)
  rw[←hE]
  exact zmu _ _ _ j o a (by rw[←ho,Array.getElem?_toList]) ha ht s1 fun i o' hi ho'=>by
   rw[Array.getElem?_toList] at hi
   exact s2 i ((hdst hi).trans ho')
 have key: ∀(f:Nat) (listed:Array Bool) (S':List AV) (X:Cx) (a:Act),left ops.size listed=f→listed.size=ops.size→S'.length=E.length→
  (∀t,(∀j,zbl ops j=some t→listed.getD j true=true)→S'[t]? =E[t]?)→Now IT M F B X0 S' (sg fun j=>listed.getD j true) X a→wpAnyIn F nn P .any ops K f listed a X.w:=by
  intro f
  induction f with
  | zero=>
   intro listed S' X a h0 hs hl hk hn
   have hd:=zhm ops.size h0
   have hg: ∀j,listed.getD j true=true:=fun j=>by
    rcases Nat.lt_or_ge j ops.size with h'|h'
    ·exact hd j h'
    ·simp[Array.getElem?_eq_none (by rw[hs];exact h':listed.size≤j)]
   refine⟨List.eq_nil_iff_forall_not_mem.2 fun i hi=> ?_,hQ E _ X a hq ?_⟩
   ·obtain⟨h1,o,ho,_⟩:=mem_ready.1 hi
    rw[hg i] at h1;cases h1
   ·have e1:S'=E:=List.ext_getElem? fun t=>hk t fun j _=>hg j
    have e2:(fun j=>listed.getD j true)=fun _=>true:=funext hg
    rw[e1,e2] at hn;exact hn
  | succ f ih=>
   intro listed S' X a h0 hs hl hk hn
   obtain⟨i0,hi0,hu0,hb0⟩:=zln ops.size (by rw[h0];exact Nat.succ_ne_zero f)
   have hr0:i0∈Region.ready .any ops listed:=by
    refine mem_ready.2 ⟨hu0,ops[i0],by simp[hi0],fun e he hb=> ?_⟩
    have h1:=List.all_eq_true.1 hback i0 (List.mem_range.2 hi0)
    rw[Array.getElem?_eq_getElem hi0] at h1
    have h2:=Array.all_eq_true'.1 h1 e he
    have h3:e.on<i0:=by simpa[hb] using h2
    exact zmk (by omega) (hb0 _ h3)
   refine⟨fun he=>(by rw[he] at hr0;cases hr0),fun i hi=> ?_⟩
   obtain⟨hun,o,ho,hwait⟩:=mem_ready.1 hi
   have hlt:i<ops.size:=(Array.getElem?_eq_some_iff.1 ho).1
   obtain⟨x,hx,hone⟩:=hat ho
   have hset: ∀t∈zgg ops i,S'[t]? =E[t]? :=fun t ht=>hk t fun j hj=>by
    obtain⟨o',ho',e,he,hb,hon⟩:=zee ((zjc hfl hj).2.2 i ht)
    rw[ho] at ho';cases ho'
    rw[←hon];exact zpj (hwait e he hb)
   have hup:(fun j=>(listed.setIfInBounds i true).getD j true)=ziz (fun j=>listed.getD j true) i:=by
    funext j
    by_cases e:j=i
    ·subst e;rw[zdu];simp[hs,hlt]
    ·rw[zbm e,getD_set_ne true (Ne.symm e)]
   have next: ∀X' a',Now IT M F B X0 (zy S' o.dst x) (sg (ziz (fun j=>listed.getD j true) i)) X' a'→wpAnyIn F nn P .any ops K f (listed.setIfInBounds i true) a' X'.w:=fun X' a' hn'=>by
    refine ih _ (zy S' o.dst x) X' a' (by have:=zlv hun ops.size hlt;omega) (by simp[hs]) (by rw[zbc];exact hl) (fun t ht=> ?_) (by rw[hup];exact hn')
    by_cases e:o.dst=some t
    ·rw[hEd ho hx e,e]
     have:t<S'.length:=by rw[hl,hEl];exact(zjc hfl ((hdst ho).trans e)).1
     exact List.getElem?_set_self this
    ·rw[z2n e]
     refine hk t fun j hj=> ?_
     have:=ht j hj
     rwa[getD_set_ne true (fun eq=>e (by rw[←hdst ho,eq];exact hj))] at this
   have hop: ∀y∈o.op.operands,Rep IT X (zcc E y) (a.eval y):=fun y hy=>by
    have e:zcc E y=zcc S' y:=by
     cases y with
     | tmp t=>
      have:t∈zgg ops i:=by
       simp only[zgg,ho]
       exact List.mem_append.2 (.inl (zgh (by simpa using hy)))
      simp only[zcc,hset t this]
     |const=>rfl
     |func=>rfl
     |global=>rfl
    rw[e];exact zdh hn.reps y
   have hgd: ∀k b,o.guard=some (k,b)→zdp ops S' k=zdp ops E k:=fun k b hg=>by
    unfold zdp
    cases hd:(ops[k]?).bind (·.dst) with
    |none=>rfl
    | some d=>
     have:d∈zgg ops i:=by
      simp only[zgg,ho,hg]
      exact List.mem_append.2 (.inr (by rw[show zbl ops k=some d from hd];simp))
     simp only[hset d this]
   unfold wpOpIn
   rw[ho]
   simp only
   rcases hone with⟨hg,hst⟩|⟨k,b,c,hg,hc,hne,rfl,hsame⟩
   ·have hw:Region.wanted o (yielded ops a.tmps)=true:=by
     cases hgo:o.guard with
     |none=>simp[Region.wanted,hgo]
     | some kb=>
      obtain⟨k,b⟩:=kb
      rw[hgo] at hg
      have hy:=zhx ((hgd k b hgo).trans hg) hn.reps
      simp[Region.wanted,hgo,hy]
    rw[if_pos hw]
    exact zyj hIT hF hG (hst _ hun) hn hop next
   ·have hy:=zhx ((hgd k b hg).trans hc) hn.reps
    rw[if_neg (by simp[Region.wanted,hg,hy,hne])]
    refine⟨fun f _=>hF.fn f,next X _ ?_⟩
    rw[hsame]
    exact zcg hG hIT hn (Ext.refl X) hn.inv ⟨rfl,rfl⟩ o.dst (by rw[Rep])
 refine wpIn_region_any hmix ?_
 obtain⟨hEx,hI⟩:=zjn hIT hn.inv
 have hrs:zmb IT {X with w:=X.w.drew} S a.tmps:=zaw hIT hEx _ _ hn.reps
 have e0:(fun j=>(Array.replicate ops.size false).getD j true)=fun j=>Nat.ble ops.size j:=by
  funext j
  rcases Nat.lt_or_ge j ops.size with h'|h'
  ·have:Nat.ble ops.size j=false:=by
    cases h:Nat.ble ops.size j with
    |false=>rfl
    |true=>exact absurd (Nat.le_of_ble_eq_true h) (by omega)
   rw[this];simp[h']
  ·rw[Nat.ble_eq_true_of_le h'];simp[Nat.not_lt.2 h']
 have hnow:Now IT M F B X0 S (sg fun j=>(Array.replicate ops.size false).getD j true) {X with w:=X.w.drew} a:=by
  rw[e0,hσ]
  exact⟨hn.ext.trans (Rel.of hEx),hI,hrs,hn.marks.ext hEx hn.inv,FrM.ext hG hn.frn hEx hn.inv rfl rfl⟩
 have hleft: ∀m,m≤ops.size→left m (Array.replicate ops.size false)=m:=by
  intro m
  induction m with
  |zero=>intro _;rfl
  |succ m ih=>intro hm;simp[left,ih (by omega),show m<ops.size by omega]
 have:=key ops.size (Array.replicate ops.size false) S _ a (hleft _ (Nat.le_refl _)) (by simp) hEl.symm (fun t ht=> ?_) hnow
 ·exact this
 ·have hno: ∀o∈ops.toList,o.dst≠some t:=fun o ho he=>by
   obtain⟨j,hj,rfl⟩:=List.mem_iff_getElem.1 ho
   have hj':j<ops.size:=by simpa using hj
   have hjo:ops[j]? =some (ops.toList[j]):=by simp[hj']
   have:=ht j ((hdst hjo).trans he)
   simp[hj'] at this
  rw[←hE,zhy _ _ _ hno]
end
end Go.Ab
