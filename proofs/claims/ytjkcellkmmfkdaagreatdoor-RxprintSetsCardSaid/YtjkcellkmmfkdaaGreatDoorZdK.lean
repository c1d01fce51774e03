import Derived.Test.YtjkcellkmmfkdaaGreatDoorZdJ2
import Derived.Scope
import Derived.Lib.LaidTab
import Derived.Lib.ItoaNum
set_option linter.all false
open Bool (and_eq_true)
open Nat (le_refl le_trans lt_or_ge)
open List (mem_of_getElem? getElem?_eq_getElem getElem?_append_left mem_append all_eq_true getElem?_take mem_range mem_of_mem_take mem_iff_getElem)
namespace Go.Ab
open Go Go.RowKit Go.Fwd
def zvo (IT:IterP)(P:Program)(W:Owed)(ops:Array Oper)(K:List AV->St->Prop)(i:Nat)(S:List AV)(U:St):Prop:=
 match ops[i]? with
 |none=>K S U
 | some o=>match o.guard with
  |none=>zfo IT P W o S U fun a U'=>K (zi S o.dst a) U'
  |some (k,b)=> ∃c,zdo ops S k=some c/\ (if c=some b then zfo IT P W o S U fun a U'=>K (zi S o.dst a) U' else K (zi S o.dst (.raw undef)) U)
def zqc (IT:IterP)(P:Program)(W:Owed)(ops:Array Oper)(Q:List AV->St->Prop):Nat->Array Bool->List AV->St->Prop
 |0,listed,S,U=>Region.ready .any ops listed=[]/\ Q S U
 |k+1,listed,S,U=>(Region.ready .any ops listed=[]->Q S U)/\ ∀i∈Region.ready .any ops listed,zvo IT P W ops (fun S U=>zqc IT P W ops Q k (listed.setIfInBounds i true) S U) i S U
def qiy (IT:IterP)(P:Program)(W:Owed)(ops:Array Oper)(Q:List AV->St->Prop)(S:List AV)(U:St):Prop:=zqc IT P W ops Q ops.size (Array.replicate ops.size false) S U
section
variable {IT:IterP} {P:Program} {M:Option Gen} {F:Fence} {nn B:Nat}
theorem ziq (hIT:ITMono IT)(hF:FenceOk F P)(hG:zrn P B M) {ops:Array Oper} {Q:List AV->St->Prop} {K:Exit->Act->World->Prop} {X0:Cx} (hQ: ∀S U X a,Q S U->Now IT M F B X0 S U X a->K .normal a X.w):
 ∀(k:Nat) (listed:Array Bool) (S:List AV) (U:St) (X:Cx) (a:Act),zqc IT P (zdk M) ops Q k listed S U->Now IT M F B X0 S U X a->wpAnyIn F nn P .any ops K k listed a X.w
 |0,listed,S,U,X,a,h,hn=>⟨h.1,hQ _ _ _ _ h.2 hn⟩
 | k +1,listed,S,U,X,a,h,hn=>by
  refine⟨fun he=>hQ _ _ _ _ (h.1 he) hn,fun i hi=> ?_⟩;have h:=h.2 i hi;unfold zvo at h;unfold wpOpIn;cases ho:ops[i]? with
  | none=>
   rw[ho] at h;exact ziq hIT hF hG hQ k _ S U X a h hn
  | some o=>
   rw[ho] at h;simp only at h⊢;cases hg:o.guard with
   | none=>
    rw[hg] at h;rw[if_pos (by simp[Region.wanted,hg])];exact ziy hIT hF hG h hn fun x U' X' a' hk hn'=>ziq hIT hF hG hQ k _ _ _ _ _ hk hn'
   | some kb=>
    obtain⟨j,b⟩:=kb;rw[hg] at h;obtain⟨c,hc,h⟩:=h;have hy:=zhq hc hn.reps;by_cases e:c=some b
    ·rw[if_pos e] at h;rw[if_pos (by simp[Region.wanted,hg,hy,e])];exact ziy hIT hF hG h hn fun x U' X' a' hk hn'=>ziq hIT hF hG hQ k _ _ _ _ _ hk hn'
    ·rw[if_neg e] at h;rw[if_neg (by simp[Region.wanted,hg,hy,e])];exact⟨fun f _=>hF.fn f,ziq hIT hF hG hQ k _ _ _ _ _ h (zbu hG hIT hn (Ext.refl X) hn.inv ⟨rfl,rfl⟩ o.dst (by rw[Rep]))⟩
theorem z0x (hIT:ITMono IT)(hF:FenceOk F P)(hG:zrn P B M)(hmix:P.follows .mixedOrders=true) {id:Nat} {ops:Array Oper} {Q:List AV->St->Prop} {K:Exit->Act->World->Prop} {X0 X:Cx} {S:List AV} {U:St} {a:Act}
 (hQ: ∀S U X a,Q S U->Now IT M F B X0 S U X a->K .normal a X.w) (h:qiy IT P (zdk M) ops Q S U) (hn:Now IT M F B X0 S U X a):(Code.region id ops true).wpIn F nn P K a X.w:=by
 refine wpIn_region_any hmix ?_;obtain⟨hE,hI⟩:=zjm hIT hn.inv;have hrs:zlr IT {X with w:=X.w.drew} S a.tmps:=zao hIT hE _ _ hn.reps;have hnow:Now IT M F B X0 S U {X with w:=X.w.drew} a:=⟨hn.ext.trans (Rel.of hE),hI,hrs,hn.marks.ext hE hn.inv,FrM.ext hG hn.frn hE hn.inv rfl rfl⟩;exact ziq (nn:=nn) hIT hF hG hQ ops.size _ S U _ a h hnow
end
def eqV:Value->Value->Bool
 | .int k a,.int k' b=>decide (k=k')&&decide (a=b)
 | .bool a,.bool b=>a==b
 | .string a,.string b=>decide (a.data=b.data)
 | .pointer a,.pointer b=>decide (a=b)
 | .slice a n m,.slice a' n' m'=>decide (a=a')&&decide (n=n')&&decide (m=m')
 | .nilFunc,.nilFunc=>true
 | .nilIface,.nilIface=>true
 | .tuple a,.tuple b=>decide (a.size=0)&&decide (b.size=0)
 |_,_=>false
theorem eqV_ok {a b:Value} (h:eqV a b=true):a=b:=by
 unfold eqV at h;split at h<;>(try simp only[and_eq_true,decide_eq_true_eq,beq_iff_eq] at h)
 ·rw[h.1,h.2]
 ·rw[h]
 ·rename_i a b;cases a;cases b;simp only at h;rw[h]
 ·rw[h]
 ·rw[h.1.1,h.1.2,h.2]
 ·rfl
 ·rfl
 ·rename_i a b;rw[Array.eq_empty_of_size_eq_zero h.1,Array.eq_empty_of_size_eq_zero h.2]
 ·cases h
mutual
def z2b:AV->AV->Bool
 | .raw a,.raw b=>eqV a b
 | .agg a,.agg b=>zmg a b
 | .tup a,.tup b=>zmg a b
 | .list n a st,.list m b st'=>decide (n=m)&&decide (st=st')&&zmg a b
 | .ptr s o,.ptr s' o'=>decide (s=s')&&decide (o=o')
 | .bsl s o n z f,.bsl s' o' n' z' f'=>decide (s=s')&&decide (o=o')&&decide (n=n')&&decide (z=z')&&decide (f=f')
 | .iptr a,.iptr b=>zmg a b
 | .clos f a,.clos g b=>decide (f=g)&&zmg a b
 | .top,.top=>true
 |_,_=>false
def zmg:List AV->List AV->Bool
 |[],[]=>true
 |a::l,b::m=>z2b a b&&zmg l m
 |_,_=>false
end
mutual
theorem z9s: ∀a b,z2b a b=true->a=b
 | .raw a,b,h=>by cases b<;>simp only[z2b] at h<;>first|(cases h;done)|rw[eqV_ok h]
 | .agg a,b,h=>by cases b<;>simp only[z2b] at h<;>first|(cases h;done)|rw[zfl _ _ h]
 | .tup a,b,h=>by cases b<;>simp only[z2b] at h<;>first|(cases h;done)|rw[zfl _ _ h]
 | .iptr a,b,h=>by cases b<;>simp only[z2b] at h<;>first|(cases h;done)|rw[zfl _ _ h]
 | .clos f a,b,h=>by
  cases b<;>simp only[z2b] at h<;>first|(cases h;done)|skip
  rw[and_eq_true,decide_eq_true_eq] at h;rw[h.1,zfl _ _ h.2]
 | .list n a st,b,h=>by
  cases b<;>simp only[z2b] at h<;>first|(cases h;done)|skip
  simp only[and_eq_true,decide_eq_true_eq] at h;rw[h.1.1,h.1.2,zfl _ _ h.2]
 | .ptr _ _,b,h=>by
  cases b<;>simp only[z2b] at h<;>first|(cases h;done)|skip
  simp only[and_eq_true,decide_eq_true_eq] at h;rw[h.1,h.2]
 | .bsl _ _ _ _ _,b,h=>by
  cases b<;>simp only[z2b] at h<;>first|(cases h;done)|skip
  simp only[and_eq_true,decide_eq_true_eq] at h;obtain⟨⟨⟨⟨h1,h2⟩,h3⟩,h4⟩,h5⟩:=h;rw[h1,h2,h3,h4,h5]
 | .top,b,h=>by cases b<;>simp only[z2b] at h<;>first|(cases h;done)|rfl
 | .iter _,b,h=>by cases b<;>simp only[z2b] at h<;>cases h
 | .yld _,b,h=>by cases b<;>simp only[z2b] at h<;>cases h
 | .bad,b,h=>by cases b<;>simp only[z2b] at h<;>cases h
theorem zfl: ∀a b,zmg a b=true->a=b
 |[],[],_=>rfl
 | a::l,b::m,h=>by
  simp only[zmg,and_eq_true] at h;rw[z9s a b h.1,zfl l m h.2]
 |[],_::_,h=>by simp only[zmg] at h;cases h
 |_::_,[],h=>by simp only[zmg] at h;cases h
end
def eqBx:List (TypeId×List AV)->List (TypeId×List AV)->Bool
 |[],[]=>true
 |a::l,b::m=>decide (a.1=b.1)&&zmg a.2 b.2&&eqBx l m
 |_,_=>false
theorem qcq: ∀a b,eqBx a b=true->a=b
 |[],[],_=>rfl
 | a::l,b::m,h=>by
  simp only[eqBx,and_eq_true,decide_eq_true_eq] at h;obtain⟨⟨h1,h2⟩,h3⟩:=h;rw[qcq l m h3];cases a;cases b;simp only at h1 h2;rw[h1,zfl _ _ h2]
 |[],_::_,h=>by simp only[eqBx] at h;cases h
 |_::_,[],h=>by simp only[eqBx] at h;cases h
def eqSt (a b:St):Bool:=eqBx a.boxes b.boxes&&decide (a.lens=b.lens)&&decide (a.elems=b.elems)&&decide (a.out=b.out)&&decide (a.stop=b.stop)
theorem z3a {a b:St} (h:eqSt a b=true):a=b:=by
 simp only[eqSt,and_eq_true,decide_eq_true_eq] at h;obtain⟨⟨⟨⟨h1,h2⟩,h3⟩,h4⟩,h5⟩:=h;cases a;cases b;simp only at h1 h2 h3 h4 h5;rw[qcq _ _ h1,h2,h3,h4,h5]
variable {ops:Array Oper}
def zgb:List Oper->List AV->List AV->List AV
 |o::l,v::vs,S=>zgb l vs (zi S o.dst v)
 |_,_,S=>S
def qjl (ops:Array Oper)(size:Nat):Bool:=
 (List.range ops.size).all fun j=>match zbm ops j with
  |none=>true
  |some d=>decide (d<size)&&(List.range ops.size).all fun i=>(decide (i=j)||zbm ops i !=some d)&&(!(zfv ops i).contains d||zgq ops i j)
def zis (d:Nat->Bool)(k:Nat):Nat->Bool:=fun j=>bif Nat.beq j k then true else d j
theorem zde (d:Nat->Bool)(k:Nat):zis d k k=true:=by simp[zis]
theorem zba {d:Nat->Bool} {k j:Nat} (h:j≠k):zis d k j=d j:=by simp[zis,h]
def zyt (IT:IterP)(P:Program)(o:Oper)(E:List AV)(U:St)(a:AV)(U':St):Prop:=
 (∃f args,zda E o=some (f,args)/\ U'=U/\ zab 0 args=true/\ Pure IT P f (stripL args) a) \/AopR P (zbv E) U o a U'
def flOne (IT:IterP)(P:Program)(ops:Array Oper)(E:List AV)(sg:(Nat->Bool)->St)(i:Nat)(o:Oper)(a:AV):Prop:=
 (match o.guard with
  |none=>True
  |some (k,b)=>zdo ops E k=some (some b))/\ (∀d,d i=false->zyt IT P o E (sg d) a (sg (zis d i))) \/
 (∃k b c,o.guard=some (k,b)/\ zdo ops E k=some c/\ c≠some b/\ a= .raw undef/\ ∀d,sg (zis d i)=sg d)
def zjd (IT:IterP)(P:Program)(ops:Array Oper)(E:List AV)(sg:(Nat->Bool)->St):Nat->List Oper->List AV->Prop
 |i,o::l,a::vs=>flOne IT P ops E sg i o a/\ zjd IT P ops E sg (i+1) l vs
 |_,[],[]=>True
 |_,_,_=>False
def qjd (IT:IterP)(P:Program)(ops:Array Oper)(Q:List AV->St->Prop)(S:List AV)(U:St):Prop:=
 ∃sg vs E,zgb ops.toList vs S=E/\ (qjl ops S.length&&zvk ops)=true/\ sg (fun j=>Nat.ble ops.size j)=U/\ zjd IT P ops E sg 0 ops.toList vs/\ Q E (sg fun _=>true)
section
variable {IT:IterP} {P:Program} {M:Option Gen} {F:Fence} {nn B:Nat}
theorem z3x {E:List AV} {sg:(Nat->Bool)->St}: ∀(l:List Oper) (vs:List AV) (k:Nat),zjd IT P ops E sg k l vs->l.length=vs.length/\ ∀j o,l[j]? =some o-> ∃a,vs[j]? =some a/\ flOne IT P ops E sg (k+j) o a
 |[],[],k,_=>⟨rfl,fun j o h=>by simp at h⟩
 |[],_::_,_,h=>h.elim
 |_::_,[],_,h=>h.elim
 | o::l,a::vs,k,⟨h1,h2⟩=>by
  obtain⟨e,h3⟩:=z3x l vs (k+1) h2;refine⟨by simp[e],fun j o' hj=> ?_⟩;cases j with
  |zero=>simp at hj;subst hj;exact⟨a,rfl,h1⟩
  |succ j=>simp at hj;obtain⟨b,hb,hc⟩:=h3 j o' hj;exact⟨b,by simpa using hb,by rw[show k+(j+1)=k+1+j by omega];exact hc⟩
theorem zgr: ∀(l:List Oper) (vs S:List AV),(zgb l vs S).length=S.length
 |[],_,_=>by simp[zgb]
 |_::_,[],_=>by simp[zgb]
 |o::l,v::vs,S=>by rw[zgb,zgr l vs,zau]
theorem zwf {S:List AV} {d:Option Tmp} {x:AV} {t:Tmp} (h:d≠some t):(zi S d x)[t]? =S[t]? :=by
 cases d with
 |none=>rfl
 |some d=>exact List.getElem?_set_ne (fun e=>h (by rw[e]))
theorem zgh {t:Tmp}: ∀(l:List Oper) (vs S:List AV),(∀o∈l,o.dst≠some t)->(zgb l vs S)[t]? =S[t]?
 |[],_,_,_=>by simp[zgb]
 |_::_,[],_,_=>by simp[zgb]
 |o::l,v::vs,S,h=>by rw[zgb,zgh l vs _ fun o' ho=>h o' (by simp[ho]),zwf (h o (by simp))]
theorem zjk {t:Tmp}: ∀(l:List Oper) (vs S:List AV) (j:Nat) (o:Oper) (a:AV),l[j]? =some o->vs[j]? =some a->o.dst=some t->t<S.length->(∀i o',l[i]? =some o'->o'.dst=some t->i=j)->(zgb l vs S)[t]? =some a
 |[],_,_,j,o,a,h,_,_,_,_=>by simp at h
 |_::_,[],_,j,o,a,_,h,_,_,_=>by simp at h
 | o1::l,v::vs,S,j,o,a,h1,h2,h3,h4,h5=>by
  rw[zgb];cases j with
  | zero=>
   simp at h1 h2;subst h1 h2;rw[zgh l vs _ fun o' ho he=>by
    obtain⟨i,hi,rfl⟩:=mem_iff_getElem.1 ho;have:=h5 (i+1) l[i] (by simp[hi]) he;omega]
   rw[h3];exact List.getElem?_set_self h4
  | succ j=>
   exact zjk l vs _ j o a (by simpa using h1) (by simpa using h2) h3 (by rw[zau];exact h4) fun i o' hi ho=>by
    have:=h5 (i+1) o' (by simpa using hi) ho;omega
theorem zen {size:Nat} (h:qjl ops size=true) {j:Nat} {d:Tmp} (hd:zbm ops j=some d):
 d<size/\ (∀i,zbm ops i=some d->i=j)/\ ∀i,d∈zfv ops i->zgq ops i j=true:=by
 have hlt: ∀ {i:Nat} {d:Tmp},zbm ops i=some d->i<ops.size:=fun {i d} h=>by
  unfold zbm at h;rcases lt_or_ge i ops.size with h'|h'
  ·exact h'
  ·rw[Array.getElem?_eq_none h'] at h;cases h
 unfold qjl at h;have h1:=all_eq_true.1 h j (mem_range.2 (hlt hd));rw[hd] at h1;simp only[and_eq_true,decide_eq_true_eq] at h1;refine⟨h1.1,fun i hi=> ?_,fun i hi=> ?_⟩
 ·have h4:=all_eq_true.1 h1.2 i (mem_range.2 (hlt hi));simp only[and_eq_true,Bool.or_eq_true,decide_eq_true_eq] at h4;rcases h4.1 with h5|h5
  ·exact h5
  ·rw[hi] at h5;simp at h5
 ·have hil:i<ops.size:=by
   unfold zfv at hi;rcases lt_or_ge i ops.size with h'|h'
   ·exact h'
   ·rw[Array.getElem?_eq_none h'] at hi;cases hi
  have h4:=all_eq_true.1 h1.2 i (mem_range.2 hil);simp only[and_eq_true,Bool.or_eq_true] at h4;rcases h4.2 with h5|h5
  ·rw[zpx hi] at h5;simp at h5
  ·exact h5
theorem zes {t:Tmp}: ∀ {l:List Operand},Operand.tmp t∈l->t∈zgn l
 | y::l,h=>by
  rcases List.mem_cons.1 h with rfl|h2
  ·simp[zgn]
  ·have ih:=zes h2;cases y<;>simp only[zgn]<;>first|exact List.mem_cons_of_mem _ ih|exact ih
theorem zzl (hIT:ITMono IT)(hF:FenceOk F P)(hG:zrn P B M) {o:Oper} {S E:List AV} {U U':St} {X0 X:Cx} {a:Act} {x:AV} {next:Act->World->Prop} {Q:Exit->Act->World->Prop} (h:zyt IT P o E U x U')(hn:Now IT M F B X0 S U X a)
 (hρ: ∀y∈o.op.operands,Rep IT X (zbv E y) (a.eval y)) (hK: ∀X' a',Now IT M F B X0 (zi S o.dst x) U' X' a'->next a' X'.w):o.wpIn F nn P a X.w next Q:=by
 rcases h with⟨f,args,hc,rfl,hok,h⟩|ha
 ·obtain⟨vs,hrun,hr⟩:=zjh (P:=P) hc hρ h.1;unfold Oper.wpIn;refine⟨fun f _=>hF.fn f,?_⟩;rw[Oper.semAt_plain F _ _ (zmb hc),hrun];refine⟨fun hd=>(by rw[hF.depth] at hd;cases hd),hF.calls _ _ _ _ _ ?_⟩;refine(zjy hIT h rfl hok hn.inv hr).mono ?_;rintro e w' ⟨v,X',rfl,rfl,h1,h2,h3,_⟩;exact hK _ _ (zbu hG hIT hn h1 h2 ⟨rfl,rfl⟩ o.dst h3)
 ·obtain⟨v,X',h1,h2,h3,h4⟩:=zom hIT ha hρ hn.inv;unfold Oper.wpIn;refine⟨fun f _=>hF.fn f,?_⟩;rw[Oper.semAt_plain F _ _ (zoo ha)];rcases h1 with h1|⟨h1,rfl⟩
  ·rw[h1];exact hK _ _ (zbu hG hIT hn h2 h3 (zol ha) o.dst h4)
  ·rw[h1];exact hK _ _ (zbu hG hIT hn h2 h3 (zol ha) o.dst h4)
theorem zyi (hIT:ITMono IT)(hF:FenceOk F P)(hG:zrn P B M)(hmix:P.follows .mixedOrders=true) {id:Nat} {ops:Array Oper} {Q:List AV->St->Prop} {K:Exit->Act->World->Prop} {X0 X:Cx} {S:List AV} {U:St} {a:Act}
 (hQ: ∀S U X a,Q S U->Now IT M F B X0 S U X a->K .normal a X.w) (h:qjd IT P ops Q S U) (hn:Now IT M F B X0 S U X a):(Code.region id ops true).wpIn F nn P K a X.w:=by
 obtain⟨sg,vs,E,hE,hb,hσ,hall,hq⟩:=h;rw[and_eq_true] at hb;obtain⟨hfl,hback⟩:=hb;obtain⟨hlen,hone⟩:=z3x _ _ _ hall;have hat: ∀ {j:Nat} {o:Oper},ops[j]? =some o-> ∃a,vs[j]? =some a/\ flOne IT P ops E sg j o a:=fun {j o} ho=>by
  obtain⟨a,h1,h2⟩:=hone j o (by rw[<-ho,Array.getElem?_toList]);rw[Nat.zero_add] at h2;exact⟨a,h1,h2⟩
 have hdst: ∀ {j:Nat} {o:Oper},ops[j]? =some o->zbm ops j=o.dst:=fun {j o} ho=>by rw[zbm,ho];rfl
 have hEl:E.length=S.length:=by rw[<-hE,zgr]
 have hEd: ∀ {j:Nat} {o:Oper} {a:AV} {t:Tmp},ops[j]? =some o->vs[j]? =some a->o.dst=some t->E[t]? =some a:=fun {j o a t} ho ha ht=>by
  obtain⟨s1,s2,_⟩:=zen hfl ((hdst ho).trans ht);rw[<-hE];exact zjk _ _ _ j o a (by rw[<-ho,Array.getElem?_toList]) ha ht s1 fun i o' hi ho'=>by
   rw[Array.getElem?_toList] at hi;exact s2 i ((hdst hi).trans ho')
 have key: ∀(f:Nat) (listed:Array Bool) (S':List AV) (X:Cx) (a:Act),left ops.size listed=f->listed.size=ops.size->S'.length=E.length->
  (∀t,(∀j,zbm ops j=some t->listed.getD j true=true)->S'[t]? =E[t]?)->Now IT M F B X0 S' (sg fun j=>listed.getD j true) X a->wpAnyIn F nn P .any ops K f listed a X.w:=by
  intro f;induction f with
  | zero=>
   intro listed S' X a h0 hs hl hk hn;have hd:=zit ops.size h0;have hg: ∀j,listed.getD j true=true:=fun j=>by
    rcases lt_or_ge j ops.size with h'|h'
    ·exact hd j h'
    ·simp[Array.getElem?_eq_none (by rw[hs];exact h':listed.size<=j)]
   refine⟨List.eq_nil_iff_forall_not_mem.2 fun i hi=> ?_,hQ E _ X a hq ?_⟩
   ·obtain⟨h1,o,ho,_⟩:=mem_ready.1 hi;rw[hg i] at h1;cases h1
   ·have e1:S'=E:=List.ext_getElem? fun t=>hk t fun j _=>hg j;have e2:(fun j=>listed.getD j true)=fun _=>true:=funext hg;rw[e1,e2] at hn;exact hn
  | succ f ih=>
   intro listed S' X a h0 hs hl hk hn;obtain⟨i0,hi0,hu0,hb0⟩:=zmz ops.size (by rw[h0];exact Nat.succ_ne_zero f);have hr0:i0∈Region.ready .any ops listed:=by
    refine mem_ready.2 ⟨hu0,ops[i0],by simp[hi0],fun e he hb=> ?_⟩;have h1:=all_eq_true.1 hback i0 (mem_range.2 hi0);rw[Array.getElem?_eq_getElem hi0] at h1;have h2:=Array.all_eq_true'.1 h1 e he;have h3:e.on<i0:=by simpa[hb] using h2
    exact zsy (by omega) (hb0 _ h3)
   refine⟨fun he=>(by rw[he] at hr0;cases hr0),fun i hi=> ?_⟩;obtain⟨hun,o,ho,hwait⟩:=mem_ready.1 hi;have hlt:i<ops.size:=(Array.getElem?_eq_some_iff.1 ho).1;obtain⟨x,hx,hone⟩:=hat ho;have hset: ∀t∈zfv ops i,S'[t]? =E[t]? :=fun t ht=>hk t fun j hj=>by
    obtain⟨o',ho',e,he,hb,hon⟩:=zdt ((zen hfl hj).2.2 i ht);rw[ho] at ho';cases ho';rw[<-hon];exact zsb (hwait e he hb)
   have hup:(fun j=>(listed.setIfInBounds i true).getD j true)=zis (fun j=>listed.getD j true) i:=by
    funext j
    by_cases e:j=i
    ·subst e;rw[zde];simp[hs,hlt]
    ·rw[zba e,getD_set_ne true (Ne.symm e)]
   have next: ∀X' a',Now IT M F B X0 (zi S' o.dst x) (sg (zis (fun j=>listed.getD j true) i)) X' a'->wpAnyIn F nn P .any ops K f (listed.setIfInBounds i true) a' X'.w:=fun X' a' hn'=>by
    refine ih _ (zi S' o.dst x) X' a' (by have:=zmt hun ops.size hlt;omega) (by simp[hs]) (by rw[zau];exact hl) (fun t ht=> ?_) (by rw[hup];exact hn');by_cases e:o.dst=some t
    ·rw[hEd ho hx e,e];have:t<S'.length:=by rw[hl,hEl];exact(zen hfl ((hdst ho).trans e)).1
     exact List.getElem?_set_self this
    ·rw[zwf e];refine hk t fun j hj=> ?_;have:=ht j hj;rwa[getD_set_ne true (fun eq=>e (by rw[<-hdst ho,eq];exact hj))] at this
   have hop: ∀y∈o.op.operands,Rep IT X (zbv E y) (a.eval y):=fun y hy=>by
    have e:zbv E y=zbv S' y:=by
     cases y with
     | tmp t=>
      have:t∈zfv ops i:=by
       simp only[zfv,ho];exact mem_append.2 (.inl (zes (by simpa using hy)))
      simp only[zbv,hset t this]
     |const=>rfl
     |func=>rfl
     |global=>rfl
    rw[e];exact zcz hn.reps y
   have hgd: ∀k b,o.guard=some (k,b)->zdo ops S' k=zdo ops E k:=fun k b hg=>by
    unfold zdo
    cases hd:(ops[k]?).bind (·.dst) with
    |none=>rfl
    | some d=>
     have:d∈zfv ops i:=by
      simp only[zfv,ho,hg];exact mem_append.2 (.inr (by rw[show zbm ops k=some d from hd];simp))
     simp only[hset d this]
   unfold wpOpIn;rw[ho];simp only;rcases hone with⟨hg,hst⟩|⟨k,b,c,hg,hc,hne,rfl,hsame⟩
   ·have hw:Region.wanted o (yielded ops a.tmps)=true:=by
     cases hgo:o.guard with
     |none=>simp[Region.wanted,hgo]
     | some kb=>
      obtain⟨k,b⟩:=kb;rw[hgo] at hg;have hy:=zhq ((hgd k b hgo).trans hg) hn.reps;simp[Region.wanted,hgo,hy]
    rw[if_pos hw];exact zzl hIT hF hG (hst _ hun) hn hop next
   ·have hy:=zhq ((hgd k b hg).trans hc) hn.reps;rw[if_neg (by simp[Region.wanted,hg,hy,hne])];refine⟨fun f _=>hF.fn f,next X _ ?_⟩;rw[hsame];exact zbu hG hIT hn (Ext.refl X) hn.inv ⟨rfl,rfl⟩ o.dst (by rw[Rep])
 refine wpIn_region_any hmix ?_;obtain⟨hEx,hI⟩:=zjm hIT hn.inv;have hrs:zlr IT {X with w:=X.w.drew} S a.tmps:=zao hIT hEx _ _ hn.reps;have e0:(fun j=>(Array.replicate ops.size false).getD j true)=fun j=>Nat.ble ops.size j:=by
  funext j
  rcases lt_or_ge j ops.size with h'|h'
  ·have:Nat.ble ops.size j=false:=by
    cases h:Nat.ble ops.size j with
    |false=>rfl
    |true=>exact absurd (Nat.le_of_ble_eq_true h) (by omega)
   rw[this];simp[h']
  ·rw[Nat.ble_eq_true_of_le h'];simp[Nat.not_lt.2 h']
 have hnow:Now IT M F B X0 S (sg fun j=>(Array.replicate ops.size false).getD j true) {X with w:=X.w.drew} a:=by
  rw[e0,hσ];exact⟨hn.ext.trans (Rel.of hEx),hI,hrs,hn.marks.ext hEx hn.inv,FrM.ext hG hn.frn hEx hn.inv rfl rfl⟩
 have hleft: ∀m,m<=ops.size->left m (Array.replicate ops.size false)=m:=by
  intro m;induction m with
  |zero=>intro _;rfl
  |succ m ih=>intro hm;simp[left,ih (by omega),show m<ops.size by omega]
 have:=key ops.size (Array.replicate ops.size false) S _ a (hleft _ (le_refl _)) (by simp) hEl.symm (fun t ht=> ?_) hnow
 ·exact this
 ·have hno: ∀o∈ops.toList,o.dst≠some t:=fun o ho he=>by
   obtain⟨j,hj,rfl⟩:=mem_iff_getElem.1 ho;have hj':j<ops.size:=by simpa using hj
   have hjo:ops[j]? =some (ops.toList[j]):=by simp[hj']
   have:=ht j ((hdst hjo).trans he);simp[hj'] at this
  rw[<-hE,zgh _ _ _ hno]
end
variable {M:Option Gen} {X Y X':Cx} {U:St} {IT:IterP} {y c:Code}
inductive AExit where
 |normal|exit (id:Nat)|ret
def AExit.to:AExit->Exit
 | .normal=> .normal
 | .exit id=> .exit id
 | .ret=> .ret
abbrev AQ:=AExit->List AV->St->Prop
def zem (n:Nat)(U:St):St:={U with boxes:=U.boxes.take n}
def zxs (n:Nat)(U:St):Bool:=(U.boxes.take n).all fun bx=>zab n bx.2
def keepS (ks:Option (List Nat))(i:Nat):Bool:=match ks with|none=>true|some l=>l.contains i
def qcg (ks:Option (List Nat))(n:Nat)(S:List AV):List AV:=S.mapIdx fun i a=>if keepS ks i=true/\ zbi n a=true then a else .top
def Fg:List AV->List AV->Prop
 |[],[]=>True
 |a::l,b::m=>(b=a \/b= .top)/\ Fg l m
 |_,_=>False
theorem Fg.refl: ∀S,Fg S S
 |[]=>trivial
 |a::l=>⟨.inl rfl,Fg.refl l⟩
def mvN (s n i:Nat):Nat:=if i=s then n else i
def mvz (s n:Nat):FZ:=(fun i off=> .ptr (mvN s n i) off,fun i off k sz=> .bsl (mvN s n i) off k sz false)
def qis (s:Nat)(t:TypeId)(cs:List AV)(U:St):St:=
 {U with boxes:=(U.boxes.mapIdx fun i b=>if i=s then(t,[]) else(b.1,zv U.lens.length (mvz s U.boxes.length) b.2))++[(t,zv U.lens.length (mvz s U.boxes.length) cs)]}
def Wk1 (n0:Nat)(S:List AV)(U:St)(S':List AV)(U':St):Prop:=(Fg S S'/\ (U'=U \/ ∃n,n0<=n/\ zxs n U=true/\ zab n S'=true/\ zem n U=U')) \/
 (∃n fs js d,n0<=n/\ zcs U n js=true/\ Fg (zv U.lens.length (kz U.boxes U.lens.length n fs js d) S) S'/\ zed U U.lens.length n fs js d=U') \/
 (∃(s:Nat) (t:TypeId) (cs:List AV),U.boxes[s]? =some (t,cs)/\ Fg S S'/\ U'={U with boxes:=U.boxes++[(t,[])]}) \/
 (∃(s k:Nat) (t:TypeId) (cs:List AV),U.boxes[s]? =some (t,cs)/\ Fg S S'/\ U'={U with boxes:=U.boxes.set s (t,cs.take k)}) \/
 ∃(s:Nat) (t:TypeId) (cs:List AV),U.boxes[s]? =some (t,cs)/\ Fg (zv U.lens.length (mvz s U.boxes.length) S) S'/\ U'=qis s t cs U
inductive Wk (n0:Nat):List AV->St->List AV->St->Prop
 |one {S S':List AV} {U U':St} (h:Wk1 n0 S U S' U'):Wk n0 S U S' U'
 |step {S S1 S':List AV} {U U1 U':St} (h:Wk1 n0 S U S1 U1) (k:Wk n0 S1 U1 S' U'):Wk n0 S U S' U'
theorem Wk.refl (n:Nat)(S:List AV)(U:St):Wk n S U S U:= .one (.inl ⟨Fg.refl S,.inl rfl⟩)
def ztf (K:List AV->St->Prop)(Q:AQ):AQ
 | .normal,S,U=>K S U
 |e,S,U=>Q e S U
def qiz (id:Nat)(Q:AQ):AQ
 | .exit j,S,U=>if j=id then Q .normal S U else Q (.exit j) S U
 |e,S,U=>Q e S U
def z8k (m0 k0:Nat)(K:List AV->St->Prop)(S:List AV)(U:St):Prop:=
 K S U \/ ∃(m n:Nat) (fs js:List Nat) (d:Nat) (S':List AV),m0<=m/\ k0<=n/\ zcs U n js=true/\ Fg (zv m (kz U.boxes m n fs js d) S) S'/\ K S' (zed U m n fs js d)
def zid (m0 k0 id:Nat)(Q:AQ):AQ
 | .normal,S,U=>z8k m0 k0 (Q .normal) S U
 | .exit j,S,U=>if j=id then z8k m0 k0 (Q .normal) S U else Q (.exit j) S U
 | .ret,S,U=>Q .ret S U
def zpd (W:AQ->List AV->St->Prop)(Q:AQ)(n0:Nat):Nat->List AV->St->Prop
 |0,_,_=>False
 |m+1,S,U=> ∃S' U',Wk n0 S U S' U'/\ W (ztf (zpd W Q n0 m) Q) S' U'
def zix (S:List AV)(ps:Array Tmp)(x:List AV):List AV:=(ps.toList.zip x).foldl (fun S p=>S.set p.1 p.2) S
def qjf (Q:AQ)(S0:List AV)(n:Nat)(next:St->Prop):AQ
 | .normal,_,U=>zxs n U=true/\ next (zem n U)
 |e,_,U=>zxs n U=true/\ Q e S0 (zem n U)
def z0a (K:List AV->St->Prop):AQ
 | .normal,S1,U1=>K S1 U1
 |_,_,_=>False
def zey (Wa Wb:Nat->AQ->List AV->St->Prop)(ps:Array Tmp)(S0:List AV)(Q:AQ)(n:Nat):List (List AV)->St->Prop
 |[],U=>Q .normal S0 U
 |x::xs,U=>Wa n (z0a (fun S1 U1=>Wb U1.boxes.length (qjf Q S0 n (zey Wa Wb ps S0 Q n xs)) S1 U1)) (zix S0 ps x) U
def zcg:Code->Bool
 | .rangeFunc _ _ _ _=>false
 | .seq x y=>zcg x&&zcg y
 | .cond _ x y=>zcg x&&zcg y
 | .block _ x=>zcg x
 | .loop x=>zcg x
 | .scope x=>zcg x
 |_=>true
def IterX (P:Program)(g:FuncId)(lb:Array Value)(rows:List (List AV))(N:Nat->Prop)(F0:Nat->Nat->Prop)(w0:World):Prop:=
 ∀ (l:Nat) (W:World) (J:Nat->Frn->World->Prop) (Jx:Frn->World->Prop) (s0:Frn),(∀b o,F0 b o->(∃v,W.cell? ⟨b,o,none⟩=some v)/\ W.cell? ⟨b,o,none⟩=w0.cell? ⟨b,o,none⟩)->Szs w0 W->(∀k,N k->W.heap[k]? =w0.heap[k]? /\ ¬s0.O k/\ ∀o,¬s0.C k o)->GenOk P ⟨W.heap.size,F0,l,rows,J,Jx,N⟩->
  (∀b o,F0 b o-> ¬s0.O b \/s0.C b o)->(∀b,s0.O b-> ∃cs t f,W.heap[b]? =some (.cells cs t f))->(∀b o,s0.C b o->b<W.heap.size)->J 0 s0 W->
  Calls P g (#[.func (.yield l) #[] #[]]++lb) W fun e W'=>(∃v,e= .returned v)/\ ∃s,(J rows.length s W' \/Jx s W')
def IterR (P:Program)(g:FuncId)(lb:Array Value)(rows:List (List AV))(N:Nat->Prop)(F0:Nat->Nat->Prop)(w0:World)(R:Frn->World->Prop):Prop:=
 ∀ (l:Nat) (W:World) (J:Nat->Frn->World->Prop) (Jx:Frn->World->Prop) (s0:Frn),(∀b o,F0 b o->(∃v,W.cell? ⟨b,o,none⟩=some v)/\ W.cell? ⟨b,o,none⟩=w0.cell? ⟨b,o,none⟩)->Szs w0 W->w0.heap.size<=W.heap.size->(∀k,N k->W.heap[k]? =w0.heap[k]? /\ ¬s0.O k/\ ∀o,¬s0.C k o)->GenOk P ⟨W.heap.size,F0,l,rows,J,Jx,N⟩->
  (∀b o,F0 b o-> ¬s0.O b \/s0.C b o)->(∀b,s0.O b-> ∃cs t f,W.heap[b]? =some (.cells cs t f))->(∀b o,s0.C b o->b<W.heap.size)->J 0 s0 W->
  Calls P g (#[.func (.yield l) #[] #[]]++lb) W fun e W'=>(∃v,e= .returned v)/\ ∃s,(J rows.length s W'/\ R s W') \/Jx s W'
theorem IterX.toR {P:Program} {g:FuncId} {lb:Array Value} {rows:List (List AV)} {N:Nat->Prop} {F0:Nat->Nat->Prop} {w0:World} (h:IterX P g lb rows N F0 w0):IterR P g lb rows N F0 w0 (fun _ _=>True):=
 fun l W J Jx s0 h1 h2 _ h3 h4 h5 h6 h7 h8=>(h l W J Jx s0 h1 h2 h3 h4 h5 h6 h7 h8).mono fun _ _ ⟨hv,s,hs⟩=>⟨hv,s,hs.imp (fun h=>⟨h,trivial⟩) id⟩
structure gvBase (P:Program)(w:World):Prop where
 err: ∀n g,(n= "strconv.ErrSyntax" \/n= "strconv.ErrRange")->P.globalNamed n=some g-> ∃tp p,w.var? P n=some #[.iface tp p]
 pow: ∀g,P.globalNamed "internal/strconv.uint64pow10" =some g->Lib.TabIs P w "internal/strconv.uint64pow10" .u64 Lib.pow10Tab
 max: ∀g,P.globalNamed "internal/bytealg.MaxLen" =some g-> ∃m,w.cell? ⟨g,0,none⟩=some (.int .i64 m)
def gvP (P:Program)(F:Nat->Nat->Prop)(w:World):Prop:= ∃w0:World,gvBase P w0/\ Szs w0 w/\ ∀b o v,b<P.globals.size->w0.cell? ⟨b,o,none⟩=some v->F b o/\ w.cell? ⟨b,o,none⟩=some v
def ITP (P:Program):IterP:=⟨fun v rows X=>(rows=errRows/\ ∃t p,v= .iface t p) \/rows≠errRows/\ ∃(g:Nat) (lb:Array Value) (F0:Nat->Nat->Prop),v= .func (.func g) #[] lb/\ Ent P g/\ (∀b o,F0 b o->X.F b o)/\ IterX P g lb rows (fun _=>False) F0 X.w,gvP P⟩
def qbd (P:Program)(κ0:List Nat)(bs':List (TypeId×List AV))(n0:Nat)(s:Frn)(W:World):Prop:=
 ∃ κ':List Nat,κ'.length=bs'.length/\ (∀i b:Nat,κ0[i]? =some b->κ'[i]? =some b)/\ (∀i j b:Nat,κ'[i]? =some b->κ'[j]? =some b->i≠j->(∃t,bs'[i]? =some (t,[])) \/ ∃t,bs'[j]? =some (t,[]))/\
  (∀b∈κ',(b∈κ0 \/n0<=b)/\ ¬s.O b)/\ ∀(i b:Nat) (t:TypeId) (cs:List AV),κ'[i]? =some b->bs'[i]? =some (t,cs)->
   (∃vs zs:List Value,W.heap[b]? =some (.cells (vs++zs).toArray t (0,0))/\ zbe (ITP P) ⟨fun _ _=>False,κ',[],[],W,fun _=>False,fun _ _=>False⟩ cs vs/\ ∀v∈vs,v.oneCell'=true)/\ (cs≠[]-> ∀o,¬s.C b o)
def z7u (P:Program)(g:FuncId)(caps:List AV)(bs:List (TypeId×List AV))(rows:List (List AV))(bs':List (TypeId×List AV)):Prop:=
 ∀ (F0:Nat->Nat->Prop) (w0:World) (O:Nat->Prop) (C:Nat->Nat->Prop) (κ0:List Nat) (lb:List Value),(ITP P).gv F0 w0->κ0.length=bs.length->κ0.Nodup->
  (∀(i b:Nat) (t:TypeId) (cs:List AV),κ0[i]? =some b->bs[i]? =some (t,cs)-> ∃vs zs:List Value,w0.heap[b]? =some (.cells (vs++zs).toArray t (0,0))/\ zbe (ITP P) ⟨F0,κ0,[],[],w0,O,C⟩ cs vs/\ ∀v∈vs,v.oneCell'=true)->
  (∀b∈κ0,∀o,¬F0 b o)->zbe (ITP P) ⟨F0,κ0,[],[],w0,O,C⟩ caps lb->(∀b o,F0 b o-> ∃v,w0.cell? ⟨b,o,none⟩=some v)->
  IterR P g lb.toArray rows (fun k=>k∈κ0) F0 w0 (qbd P κ0 bs' w0.heap.size)
def fwN (js:List Nat)(n i:Nat):Nat:=js.getD i (n+(i-js.length))
def fwz (js:List Nat)(n:Nat):FZ:=(fun s off=> .ptr (fwN js n s) off,fun s off k sz=> .bsl (fwN js n s) off k sz false)
def bwz (js:List Nat):FZ:=(fun s off=>if js.contains s then .ptr (js.idxOf s) off else .top,fun s off k sz=>if js.contains s then .bsl (js.idxOf s) off k sz false else .top)
def gz (js:List Nat):FZ:=(fun s off=>if js.contains s then .top else .ptr s off,fun s off k sz=>if js.contains s then .top else .bsl s off k sz false)
def Hand (U:St)(js hs:List Nat)(m:Nat)(bs:List (TypeId×List AV))(U1:St):Prop:=
 js.Nodup/\ js.length=bs.length/\ (∀(i:Nat) (t:TypeId) (cs:List AV),bs[i]? =some (t,cs)-> ∃C,U.boxes[fwN js 0 i]? =some (t,C)/\ zv 0 (bwz js) C=cs/\ C≠[])/\
  (js.all fun j=>hs.contains j)=true/\ (∀(i:Nat) (t:TypeId),U.boxes[i]? =some (t,[])->hs.contains i=true)/\ hs.contains m=false/\
  ∃(tm:TypeId) (Cm:List AV),U.boxes[m]? =some (tm,Cm)/\ U1={U with boxes:=U.boxes.mapIdx fun i b=>if hs.contains i=true then(tm,[]) else(b.1,zv U.lens.length (gz hs) b.2)}
def zhu (js hs:List Nat)(bs' bx:List (TypeId×List AV))(U:St):St:=
 {U with boxes:=(U.boxes.mapIdx fun i b=>if js.contains i=true then((bs'[js.idxOf i]?).map fun c=>(c.1,zv 0 (fwz js bx.length) c.2)).getD b else if hs.contains i=true then(bx[i]?).getD b else(b.1,zv U.lens.length (gz hs) b.2))++(bs'.drop js.length).map fun c=>(c.1,zv 0 (fwz js bx.length) c.2)}
def qbq (Q:AQ)(S:List AV)(js hs:List Nat)(bs' bx:List (TypeId×List AV)):AQ
 | .normal,_,U=>Q .normal S (zhu js hs bs' bx U)
 |_,_,_=>False
def FenceAt (B:Nat)(F:Fence)(w:World):Prop:=F=Fence.wide \/ ∃(l0:Nat) (r0:Loop),F=Fence.wide.inRound l0/\ B<=l0/\ w.heap[l0]? =some (.loop r0)
def qee (IT:IterP)(P:Program)(c:Code)(S:List AV)(U:St)(S':List AV)(U':St):Prop:=
 ∀ {F:Fence} {nn B:Nat} {X0 X:Cx} {a:Act},FenceOk F P->(B<=X0.w.heap.size/\ ∃U0,Inv IT U0 X0)->Now IT none F B X0 S U X a->(FenceAt B F X0.w \/zcg c=true)->
  c.wpIn F nn P (fun e a' w'=>e= .normal/\ ∃X',X'.w=w'/\ Now IT none F B X0 S' U' X' a') a X.w
def awp (IT:IterP)(P:Program)(W:Owed):Nat->Code->AQ->List AV->St->Prop
 |_,.skip,Q=>Q .normal
 |k0,.seq x y,Q=>fun S U=>awp IT P W k0 x (ztf (fun S1 U1=> ∃S' U',Wk k0 S1 U1 S' U'/\ awp IT P W k0 y Q S' U') Q) S U \/(W=none/\ ∃(S':List AV) (U':St),qee IT P x S U S' U'/\ awp IT P W k0 y Q S' U')
 |k0,.cond c x y,Q=>fun S U=> ∃t,zbv S c= .raw (.bool t)/\ (if t=true then awp IT P W k0 x Q S U else awp IT P W k0 y Q S U)
 |k0,.block id x,Q=>fun S U=>awp IT P W k0 x (zid U.lens.length k0 id Q) S U \/(W=none/\ ∃(S':List AV) (U':St),qee IT P (.block id x) S U S' U'/\ Q .normal S' U')
 |k0,.loop x,Q=>fun S U=> ∃m,zpd (awp IT P W k0 x) Q k0 m S U
 |_,.exit id,Q=>Q (.exit id)
 |_,.ret,Q=>Q .ret
 |_,.label _,Q=>Q .normal
 |k0,.scope x,Q=>awp IT P W k0 x Q
 |_,.region _ ops false,Q=>zca IT P W ops (Q .normal) ops.toList
 |_,.region id ops true,Q=>fun S U=>False \/qbo IT P W ops (Q .normal) S U \/qiy IT P W ops (Q .normal) S U \/qjd IT P ops (Q .normal) S U \/(W=none/\ ∃(S':List AV) (U':St),qee IT P (.region id ops true) S U S' U'/\ Q .normal S' U')
 | k0,.rangeFunc f ps asg body,Q=>fun S U=>(∃xs,zbv S f= .iter xs/\ Nat.ble ps.size 8=true/\ (xs.all fun x=>decide (x.length=ps.size))=true/\ zcg asg=true/\ zey (fun k=>awp IT P W k asg) (fun k=>awp IT P W k body) ps S Q U.boxes.length xs U) \/
  ∃ (g:Nat) (caps:List AV) (js hs:List Nat) (m:Nat) (bs bs':List (TypeId×List AV)) (xs:List (List AV)) (S':List AV) (U1:St),zbv S f= .clos g caps/\ Hand U js hs m bs U1/\ Fg (zv U.lens.length (gz hs) S) S'/\ W=none/\ zcg asg=true/\ (xs.all fun x=>decide (x.length=ps.size))=true/\
   z7u P g (zv 0 (bwz js) caps) bs xs bs'/\ Ent P g/\ (∀(i:Nat) (t:TypeId) (cs:List AV),bs[i]? =some (t,cs)-> ∃cs',bs'[i]? =some (t,cs'))/\
   zey (fun k=>awp IT P W k asg) (fun k=>awp IT P W k body) ps S' (qbq Q S js hs bs' U.boxes) U.boxes.length xs U1
 |_,_,_=>fun _ _=>False
theorem ze (P:Program):ITMono (ITP P):=by
 refine⟨?_,fun F F' w w' hF hc hz ⟨w0,h1,h3,h2⟩=>⟨w0,h1,h3.trans hz,fun b o v hb hv=>⟨hF b o (h2 b o v hb hv).1,(hc b o (h2 b o v hb hv).1).trans (h2 b o v hb hv).2⟩⟩,fun v X h=>h.elim (fun h=>h.2) (fun h=>absurd rfl h.1)⟩;rintro v rows X X' hF hc hz (h|⟨hne,g,lb,F0,h1,h2,h3,h4⟩)
 ·exact .inl h
 exact .inr ⟨hne,g,lb,F0,h1,h2,fun b o h=>hF b o (h3 b o h),fun l W J Jx s0 k1 k0 kN k2=>h4 l W J Jx s0 (fun b o h=>⟨(k1 b o h).1,(k1 b o h).2.trans (hc b o (h3 b o h))⟩) (hz.trans k0) (fun _ h=>h.elim) k2⟩
theorem qhc {X0:Cx} {n:Nat} (h:Rel M X0 X)(hn:X0.κ.length<=n):Rel M X0 {X with κ:=X.κ.take n}:=by
 have hκ: ∀(s b:Nat),X0.κ[s]? =some b->(X.κ.take n)[s]? =some b:=fun s b hs=>by
  have:=(List.getElem?_eq_some_iff.1 hs).1;rw[getElem?_take,if_pos (by omega)];exact h.sub.κ s b hs
 cases M with
 | none=>
  have h:Ext X0 X:=h;exact {h with κ:=hκ,F:=h.F,cell:=h.cell,lens:=h.lens,blk:=h.blk,szs:=h.szs,κnew:=fun b hb=>h.κnew b (mem_of_mem_take hb):Ext X0 {X with κ:=X.κ.take n}}
 | some G=>
  have h:ExtG G.B X0 X:=h;exact {h with κ:=hκ,F:=h.F,cell:=h.cell,lens:=h.lens,blk:=h.blk,szs:=h.szs,κnew:=fun b hb=>h.κnew b (mem_of_mem_take hb):ExtG G.B X0 {X with κ:=X.κ.take n}}
theorem z3z {n:Nat} (h:FrM M U X):FrM M (zem n U) {X with κ:=X.κ.take n}:=by
 cases M with
 |none=>trivial
 | some G=>
  obtain⟨s,h1,h2,h3,h4,h5,h6,h7⟩:=h;exact⟨s,h1,⟨h2.1,fun b o hc=>(h2.2 b o hc).imp id fun⟨k1,k2,k3⟩=>⟨k1,fun hm=>k2 (mem_of_mem_take hm),k3⟩⟩,h3,h4,fun b hb=>h5 b (mem_of_mem_take hb),h6,h7⟩
theorem z5v (hIT:ITMono IT) {X:Cx} {U:St} {n:Nat} (hI:Inv IT U X)(hok:zxs n U=true):Inv IT (zem n U) {X with κ:=X.κ.take n}:=
  { hI with
    lens:=hI.lens
    elems:=hI.elems
    κlen:=by simp[zem,hI.κlen]
    κnd :=fun s s' b hs hs' hne=>by
      have cut: ∀(s:Nat),(X.κ.take n)[s]? =some b->s<n/\ X.κ[s]? =some b:=fun s h=>by
        rw[getElem?_take] at h;split at h
        . exact⟨‹_›,h⟩
        . cases h
      obtain⟨l1,h1⟩:=cut s hs;obtain⟨l2,h2⟩:=cut s' hs';refine(hI.κnd s s' b h1 h2 hne).imp (fun⟨t,e⟩=>⟨t,?_⟩) (fun⟨t,e⟩=>⟨t,?_⟩)
      . show(U.boxes.take n)[s]? =_
        rw[getElem?_take,if_pos l1];exact e
      . show(U.boxes.take n)[s']? =_
        rw[getElem?_take,if_pos l2];exact e
    box :=fun s b t cs hs hb=>by
      have hs':s<n:=by
        have:=(List.getElem?_eq_some_iff.1 hs).1;have h2:s<(X.κ.take n).length:=this;simp at h2;omega
      have e1:X.κ[s]? =some b:=by have h2:(X.κ.take n)[s]? =some b:=hs;rwa[getElem?_take,if_pos hs'] at h2
      have e2:U.boxes[s]? =some (t,cs):=by have h2:(U.boxes.take n)[s]? =some (t,cs):=hb;rwa[getElem?_take,if_pos hs'] at h2
      obtain⟨vs,zs,u1,u2,u3⟩:=hI.box s b t cs e1 e2;have hm:(t,cs)∈U.boxes.take n:=mem_of_getElem? hb;exact⟨vs,zs,u1,zkm (X:=X) (Y:={X with κ:=X.κ.take n}) hIT rfl rfl rfl rfl rfl cs vs (all_eq_true.1 hok _ hm) u2,u3⟩
    κF :=fun s b t cs hs hb=>by
      have hs':s<n:=by
        have:=(List.getElem?_eq_some_iff.1 hs).1;have h2:s<(X.κ.take n).length:=this;simp at h2;omega
      have e1:X.κ[s]? =some b:=by have h2:(X.κ.take n)[s]? =some b:=hs;rwa[getElem?_take,if_pos hs'] at h2
      have e2:U.boxes[s]? =some (t,cs):=by have h2:(U.boxes.take n)[s]? =some (t,cs):=hb;rwa[getElem?_take,if_pos hs'] at h2
      exact hI.κF s b t cs e1 e2
    βκ:=fun r hr hm=>hI.βκ r hr (mem_of_mem_take hm)
    Ok :=fun b ho=>by
      obtain⟨k1,k2,k3⟩:=hI.Ok b ho;exact⟨k1,fun hm=>k2 (mem_of_mem_take hm),k3⟩}
theorem z6c {F:Fence} {B:Nat} (hIT:ITMono IT) {X0 X:Cx} {S:List AV} {U:St} {a:Act} {n:Nat} (ks:Option (List Nat))(h:Now IT M F B X0 S U X a)(hn:X0.κ.length<=n)(hok:zxs n U=true):Now IT M F B X0 (qcg ks n S) (zem n U) {X with κ:=X.κ.take n} a where
 ext:=qhc h.ext hn
 inv:=z5v hIT h.inv hok
 reps:=zfg (by have:=zq h.reps;simpa[qcg] using this) fun i x v e1 e2=>by
  simp only[qcg,List.getElem?_mapIdx,Option.map_eq_some_iff] at e1;obtain⟨y,hy,rfl⟩:=e1;obtain⟨v',hv',hr⟩:=zdx h.reps i y hy;rw[e2] at hv';cases hv';split
  ·rename_i ho;exact zqi (X:=X) (Y:={X with κ:=X.κ.take n}) hIT rfl rfl rfl rfl rfl y v ho.2 hr
  ·rw[Rep];trivial
 marks:=h.marks
 frn:=z3z h.frn
theorem zha: ∀ {S S':List AV} {vs:List Value},Fg S S'->zbe IT X S vs->zbe IT X S' vs
 |[],[],vs,_,h=>h
 |a::l,b::m,vs,⟨h1,h2⟩,⟨v,r,e,k1,k2⟩=>⟨v,r,e,by rcases h1 with rfl|rfl<;>first|exact k1|trivial,zha h2 k2⟩
 |[],_::_,_,h,_=>h.elim
 |_::_,[],_,h,_=>h.elim
theorem qhz (n:Nat)(S:List AV)(h:zab n S=true):qcg none n S=S:=by
 apply List.ext_getElem?;intro i;simp only[qcg,List.getElem?_mapIdx];cases hi:S[i]? with
 |none=>rfl
 | some a=>
  have:zbi n a=true:=by rw[zsc] at h;exact all_eq_true.1 h a (mem_of_getElem? hi)
  simp[keepS,this]
theorem z3w (h:Sub X Y):X.lens.length<=Y.lens.length:=by
 rcases Nat.eq_zero_or_pos X.lens.length with h0|h0
 ·omega
 ·have hi:X.lens.length-1<X.lens.length:=by omega
  obtain⟨L',h1,_⟩:=h.lens (X.lens.length-1) _ (getElem?_eq_getElem hi);have:=(List.getElem?_eq_some_iff.1 h1).1;omega
theorem qgd (hE :Rel M X Y)(hI:Inv IT U Y) {m n:Nat} {fs js:List Nat} (hok:zcs U n js=true)(hn:X.κ.length<=n)(hm:X.lens.length<=m):Rel M X (zct U m n fs js Y):=by
  cases M with
  |none=>exact zqg (show Ext X Y from hE) hI hok hn hm
  | some G =>
    have hE:ExtG G.B X Y:=hE;have hok':=hok;simp only[zcs,and_eq_true,decide_eq_true_eq] at hok';have hl:=hI.κlen
    exact { os :=hE.os,tape:=hE.tape,output:=hE.output,size:=hE.size,drawn:=hE.drawn,cell:=hE.cell
            F:=fun b o h=> .inl (hE.F b o h)
            κ :=fun s b hs=>by
              have:=(List.getElem?_eq_some_iff.1 hs).1
              show(Y.κ.take n++js.map fun j=>Y.κ[j]?.getD 0)[s]? =some b
              rw[getElem?_append_left (by simp;omega),getElem?_take,if_pos (by omega)];exact hE.κ s b hs
            lens:=fun s L hs=>by
              have hsm:s<m:=by have:=(List.getElem?_eq_some_iff.1 hs).1;omega
              obtain⟨L',k1,k2,k3⟩:=hE.lens s L hs;obtain⟨q1,q2⟩:=zhd (U:=U) (Y:=Y) (n:=n) (fs:=fs) (js:=js) s hsm;exact⟨L',by rw[q1];exact k1,k2,fun e=>by rw[q2];exact k3 e⟩
            blk:=hE.blk
            szs:=hE.szs
            frame:=hE.frame
            κnew:=fun b hb=>hE.κnew b (z7j hI hok hb)
            βnew:=fun r hr=>hE.βnew r (mem_of_mem_take hr)
            Onew:=hE.Onew
            Cmono:=hE.Cmono
            Cnew:=hE.Cnew
            Fnew :=fun b o h=>by
              rcases keepF hI h with h|h
              . exact hE.Fnew b o h
              . rcases hE.κnew b h with h|h
                . exact .inr (.inr (.inr h))
                . exact .inr (.inl h)}
theorem zyk {F:Fence} {B:Nat} (hIT:ITMono IT) {X0 X:Cx} {S:List AV} {U:St} {a:Act} {n:Nat} (h:Now IT M F B X0 S U X a) {m:Nat} (hm:X0.lens.length<=m)(hn:X0.κ.length<=n) {fs js:List Nat} {d:Nat} (hok:zcs U n js=true):
 Now IT M F B X0 (zv m (kz U.boxes m n fs js d) S) (zed U m n fs js d) (zct U m n fs js X) a where
 ext:=qgd h.ext h.inv hok hn hm
 inv:=zqj hIT h.inv hok d
 reps:=zcx (X:=X) (Y:=zct U m n fs js X) hIT (fun b o h=>Or.inl h) rfl zhd (znu hIT h.inv hok d) _ _ h.reps
 marks:=h.marks
 frn :=by
  have hf:=h.frn;cases M with
  |none=>trivial
  | some G=>
   obtain⟨s,f1,f2,f3,f4,f5,f6,f7⟩:Fr G U X:=hf;exact⟨s,f1,⟨f2.1,fun b o hc=>by
    rcases f2.2 b o hc with k|⟨k1,k2,k3⟩
    ·exact .inl (.inl k)
    ·exact .inr ⟨k1,fun hm=>k2 (z7j h.inv hok hm),fun r hr=>k3 r (mem_of_mem_take hr)⟩⟩,f3,f4,fun b hb=>f5 b (z7j h.inv hok hb),fun r hr=>f6 r (mem_of_mem_take hr),fun b o hF=>by
    rcases keepF h.inv hF with k|k
    ·exact f7 b o k
    ·exact .inr (f5 b k)⟩
theorem qew {F:Fence} {B:Nat} (hIT:ITMono IT) {X0 X:Cx} {S:List AV} {U:St} {a:Act} {n:Nat} (h:Now IT M F B X0 S U X a)(hn:X0.κ.length<=n) {fs js:List Nat} {d:Nat} (hok:zcs U n js=true):
 Now IT M F B X0 (zv U.lens.length (kz U.boxes U.lens.length n fs js d) S) (zed U U.lens.length n fs js d) (zct U U.lens.length n fs js X) a:=
 zyk hIT h (by rw[<-h.inv.lens];exact z3w h.ext.sub) hn hok
theorem inv_cut (hI:Inv IT U X) {s k:Nat} {t:TypeId} {cs:List AV} (hb:U.boxes[s]? =some (t,cs)):Inv IT {U with boxes:=U.boxes.set s (t,cs.take k)} X:=by
 have get: ∀(i:Nat) (t':TypeId) (c:List AV),(U.boxes.set s (t,cs.take k))[i]? =some (t',c)-> ∃c',U.boxes[i]? =some (t',c')/\ (c=c' \/c=c'.take k):=fun i t' c h=>by
  rw[List.getElem?_set] at h;split at h
  ·rename_i e;subst e;split at h
   ·cases h;exact⟨cs,hb,.inr rfl⟩
   ·cases h
  ·exact⟨c,h,.inl rfl⟩
 have emp: ∀(i:Nat) (t':TypeId),U.boxes[i]? =some (t',[])->(U.boxes.set s (t,cs.take k))[i]? =some (t',[]):=fun i t' h=>by
  rw[List.getElem?_set];split
  ·rename_i e;subst e;have hl:=(List.getElem?_eq_some_iff.1 hb).1;rw[hb] at h;cases h;rw[if_pos hl,List.take_nil]
  ·exact h
 refine {hI with lens:=hI.lens,elems:=hI.elems,κlen:=by rw[hI.κlen];simp,κnd:=fun a c b h1 h2 h3=>(hI.κnd a c b h1 h2 h3).imp (fun⟨t,e⟩=>⟨t,emp a t e⟩) (fun⟨t,e⟩=>⟨t,emp c t e⟩),box:=fun i b t' c h1 h2=> ?_,κF:=fun i b t' c h1 h2 hne o=> ?_}
 ·obtain⟨c',e1,e2⟩:=get i t' c h2;obtain⟨us,zs,u1,u2,u3⟩:=hI.box i b t' c' h1 e1;rcases e2 with rfl|rfl
  ·exact⟨us,zs,u1,u2,u3⟩
  ·refine⟨us.take k,us.drop k++zs,by rw[<-List.append_assoc,List.take_append_drop];exact u1,?_,fun v hv=>u3 v (mem_of_mem_take hv)⟩;have hl:=zq u2;refine zfg (by simp[hl]) fun j a v h3 h4=> ?_;rw[getElem?_take] at h3 h4;split at h3
   ·rename_i hj;rw[if_pos hj] at h4;obtain⟨v',h5,h6⟩:=zdx u2 j a h3;rw[h4] at h5;cases h5;exact h6
   ·cases h3
 ·obtain⟨c',e1,e2⟩:=get i t' c h2;exact hI.κF i b t' c' h1 e1 (fun e=>hne (by rcases e2 with rfl|rfl<;>simp[e])) o
theorem qid (hIT:ITMono IT) {U:St} {X:Cx} (hI:Inv IT U X) {s b0:Nat} {t:TypeId} {cs:List AV} (hb:U.boxes[s]? =some (t,cs))(hs:X.κ[s]? =some b0):
 Ext X {X with κ:=X.κ++[b0]}/\ Inv IT (qis s t cs U) {X with κ:=X.κ++[b0]}/\ ∀(l:List AV) (vs:List Value),zbe IT X l vs->zbe IT {X with κ:=X.κ++[b0]} (zv U.lens.length (mvz s U.boxes.length) l) vs:=by
 have hXl:=hI.κlen;have hm0:b0∈X.κ:=mem_of_getElem? hs;have hκo: ∀i b:Nat,X.κ[i]? =some b->(X.κ++[b0])[i]? =some b:=fun i b h=>by
  rw[getElem?_append_left (List.getElem?_eq_some_iff.1 h).1];exact h
 have hκi: ∀i b:Nat,(X.κ++[b0])[i]? =some b->(i<U.boxes.length/\ X.κ[i]? =some b) \/(i=U.boxes.length/\ b=b0):=fun i b h=>by
  rcases lt_or_ge i X.κ.length with hlt|hge
  ·rw[getElem?_append_left hlt] at h;exact .inl ⟨by omega,h⟩
  ·rw[List.getElem?_append_right hge] at h;have h0:=(List.getElem?_eq_some_iff.1 h).1;simp at h0;have e:i-X.κ.length=0:=by omega
   rw[e] at h;simp at h;exact .inr ⟨by omega,h.symm⟩
 have hmm: ∀b∈X.κ++[b0],b∈X.κ:=fun b h=>by
  rcases mem_append.1 h with h|h
  ·exact h
  ·simp at h;subst h;exact hm0
 have hmv: ∀i b:Nat,X.κ[i]? =some b->(X.κ++[b0])[mvN s U.boxes.length i]? =some b:=fun i b h=>by
  unfold mvN;split
  ·rename_i e;subst e;rw[hs] at h;cases h;rw[<-hXl,List.getElem?_append_right (le_refl _),Nat.sub_self];rfl
  ·exact hκo i b h
 have hg:(∀i off v,Rep IT X (.ptr i off) v->Rep IT {X with κ:=X.κ++[b0]} ((mvz s U.boxes.length).1 i off) v)/\ ∀i off n sz f v,Rep IT X (.bsl i off n sz f) v->Rep IT {X with κ:=X.κ++[b0]} ((mvz s U.boxes.length).2 i off n sz) v:=by
  refine⟨?_,?_⟩
  ·rintro i off v ⟨b,hb,rfl⟩;exact⟨b,hmv i b hb,rfl⟩
  ·rintro i off n sz f v ⟨b,cap,cur,t,hb,rfl,hcap,hful,hrow,hfit⟩;exact⟨b,cap,cur,t,hmv i b hb,rfl,hcap,(fun h=>by cases h),hrow,hfit⟩
 have hmL:=zcx (X:=X) (Y:={X with κ:=X.κ++[b0]}) (m:=U.lens.length) hIT (fun _ _ h=>h) rfl (fun i _=>⟨rfl,rfl⟩) hg;have hnew: ∀(i:Nat) (t':TypeId) (c:List AV),(qis s t cs U).boxes[i]? =some (t',c)->(i=s/\ t'=t/\ c=[]) \/(i<U.boxes.length/\ i≠s/\ ∃c',U.boxes[i]? =some (t',c')/\ c=zv U.lens.length (mvz s U.boxes.length) c') \/(i=U.boxes.length/\ t'=t/\ c=zv U.lens.length (mvz s U.boxes.length) cs):=fun i t' c h=>by
  have h:((U.boxes.mapIdx fun i b=>if i=s then(t,[]) else(b.1,zv U.lens.length (mvz s U.boxes.length) b.2))++[(t,zv U.lens.length (mvz s U.boxes.length) cs)])[i]? =some (t',c):=h;rcases lt_or_ge i U.boxes.length with hlt|hge
  ·rw[getElem?_append_left (by simpa using hlt)] at h;simp only[List.getElem?_mapIdx,getElem?_eq_getElem hlt,Option.map_some,Option.some.injEq] at h;by_cases e:i=s
   ·rw[if_pos e] at h;cases h;exact .inl ⟨e,rfl,rfl⟩
   ·rw[if_neg e] at h;cases h;exact .inr (.inl ⟨hlt,e,_,getElem?_eq_getElem hlt,rfl⟩)
  ·rw[List.getElem?_append_right (by simpa using hge)] at h;have h0:=(List.getElem?_eq_some_iff.1 h).1;simp at h0;have e:i-(U.boxes.mapIdx fun i b=>if i=s then(t,[]) else(b.1,zv U.lens.length (mvz s U.boxes.length) b.2)).length=0:=by simp;omega
   rw[e] at h;simp at h;exact .inr (.inr ⟨by omega,h.1.symm,h.2.symm⟩)
 have hsl:s<U.boxes.length:=(List.getElem?_eq_some_iff.1 hb).1;have ems:(qis s t cs U).boxes[s]? =some (t,[]):=by
  show((U.boxes.mapIdx fun i b=>if i=s then(t,[]) else(b.1,zv U.lens.length (mvz s U.boxes.length) b.2))++[(t,zv U.lens.length (mvz s U.boxes.length) cs)])[s]? =_
  rw[getElem?_append_left (by simpa using hsl)];simp[List.getElem?_mapIdx,hb]
 have emo: ∀(i:Nat) (t':TypeId),U.boxes[i]? =some (t',[])->(qis s t cs U).boxes[i]? =some (t',[]):=fun i t' h=>by
  by_cases e:i=s
  ·subst e;rw[hb] at h;cases h;exact ems
  ·show((U.boxes.mapIdx fun i b=>if i=s then(t,[]) else(b.1,zv U.lens.length (mvz s U.boxes.length) b.2))++[(t,zv U.lens.length (mvz s U.boxes.length) cs)])[i]? =_
   rw[getElem?_append_left (by simpa using(List.getElem?_eq_some_iff.1 h).1)];simp[List.getElem?_mapIdx,h,e,zv]
 have eml:cs=[]->(qis s t cs U).boxes[U.boxes.length]? =some (t,[]):=fun h=>by
  show((U.boxes.mapIdx fun i b=>if i=s then(t,[]) else(b.1,zv U.lens.length (mvz s U.boxes.length) b.2))++[(t,zv U.lens.length (mvz s U.boxes.length) cs)])[_]? =_
  rw[List.getElem?_append_right (by simp)];simp[h,zv]
 refine⟨?_,?_,hmL⟩
 ·exact {Ext.refl X with
   F:=fun _ _ h=>h,cell:=fun _ _ _=>rfl,lens:=fun s L h=>⟨L,h,le_refl _,fun _=>rfl⟩,szs:=Szs.refl _
   κ:=hκo
   blk:=fun _ _ _ cur _ _ h=>⟨cur,h,rfl⟩
   κnew:=fun b hb=> .inl (hmm b hb)
   Fnew:=fun _ _ h=> .inl h}
 ·refine {hI with lens:=hI.lens,elems:=hI.elems,κlen:=by show(X.κ++[b0]).length=(_++[_]:List _).length;simp[hXl],κnd:=fun i j b h1 h2 hne=> ?_,box:=fun i b t' c h1 h2=> ?_,κF:=fun i b t' c h1 h2 hne o=> ?_,βκ:=fun r hr hm=>hI.βκ r hr (hmm _ hm),Ok:=fun b hb=> ?_,Fcell:=hI.Fcell,gv:=hI.gv}
  ·rcases hκi i b h1 with⟨l1,k1⟩|⟨l1,rfl⟩<;>rcases hκi j b h2 with⟨l2,k2⟩|⟨l2,k2⟩
   ·exact(hI.κnd i j b k1 k2 hne).imp (fun⟨t',e⟩=>⟨t',emo i t' e⟩) (fun⟨t',e⟩=>⟨t',emo j t' e⟩)
   ·subst k2;by_cases e:i=s
    ·subst e;exact .inl ⟨t,ems⟩
    ·rcases hI.κnd i s b k1 hs e with⟨t',e2⟩|⟨t',e2⟩
     ·exact .inl ⟨t',emo i t' e2⟩
     ·rw[hb] at e2;cases e2;rw[l2];exact .inr ⟨_,eml rfl⟩
   ·by_cases e:j=s
    ·subst e;exact .inr ⟨t,ems⟩
    ·rcases hI.κnd j s b k2 hs e with⟨t',e2⟩|⟨t',e2⟩
     ·exact .inr ⟨t',emo j t' e2⟩
     ·rw[hb] at e2;cases e2;rw[l1];exact .inl ⟨_,eml rfl⟩
   ·omega
  ·rcases hnew i t' c h2 with⟨rfl,rfl,rfl⟩|⟨l1,e,c',h3,rfl⟩|⟨rfl,rfl,rfl⟩
   ·rcases hκi i b h1 with⟨_,k1⟩|⟨l1,_⟩
    ·obtain⟨us,zs,u1,_⟩:=hI.box i b t' cs k1 hb;exact⟨[],us++zs,by simpa using u1,rfl,fun v hv=>by cases hv⟩
    ·omega
   ·rcases hκi i b h1 with⟨_,k1⟩|⟨l2,_⟩
    ·obtain⟨us,zs,u1,u2,u3⟩:=hI.box i b t' c' k1 h3;exact⟨us,zs,u1,hmL c' us u2,u3⟩
    ·omega
   ·rcases hκi _ b h1 with⟨l1,_⟩|⟨_,rfl⟩
    ·omega
    ·obtain⟨us,zs,u1,u2,u3⟩:=hI.box s b t' cs hs hb;exact⟨us,zs,u1,hmL cs us u2,u3⟩
  ·rcases hnew i t' c h2 with⟨rfl,rfl,rfl⟩|⟨l1,e,c',h3,rfl⟩|⟨rfl,rfl,rfl⟩
   ·exact absurd rfl hne
   ·rcases hκi i b h1 with⟨_,k1⟩|⟨l2,_⟩
    ·exact hI.κF i b t' c' k1 h3 (fun e=>hne (by rw[e,zv])) o
    ·omega
   ·rcases hκi _ b h1 with⟨l1,_⟩|⟨_,rfl⟩
    ·omega
    ·exact hI.κF s b t' cs hs hb (fun e=>hne (by rw[e,zv])) o
  ·obtain⟨k1,k2,k3⟩:=hI.Ok b hb;exact⟨k1,fun hm=>k2 (hmm b hm),k3⟩
theorem qco {F:Fence} {B:Nat} (hIT:ITMono IT) {X0 X:Cx} {S S':List AV} {U U':St} {a:Act} {n0:Nat} (h:Now IT M F B X0 S U X a)(hn:X0.κ.length<=n0)(hw:Wk1 n0 S U S' U'): ∃X',X'.w=X.w/\ Now IT M F B X0 S' U' X' a:=by
 rcases hw with⟨hf,hw⟩|⟨n,fs,js,d,h1,hok,hf,rfl⟩|⟨s,t,cs,hb,hf,rfl⟩|⟨s,k,t,cs,hb,hf,rfl⟩|⟨s,t,cs,hb,hf,rfl⟩
 rotate_right
 ·obtain⟨b0,hs⟩: ∃b0,X.κ[s]? =some b0:=⟨_,getElem?_eq_getElem (by rw[h.inv.κlen];exact(List.getElem?_eq_some_iff.1 hb).1)⟩;obtain⟨hE,hI,hr⟩:=qid hIT h.inv hb hs;refine⟨{X with κ:=X.κ++[b0]},rfl,h.ext.trans (Rel.of hE),hI,zha hf (hr _ _ h.reps),h.marks,?_⟩;have hfr:=h.frn;cases M with
  |none=>trivial
  | some G=>
   obtain⟨s1,f1,f2,f3,f4,f5,f6,f7⟩:Fr G U X:=hfr;have hm: ∀c,c∈X.κ++[b0]->c∈X.κ:=fun c hc=>by
    rcases mem_append.1 hc with hc|hc
    ·exact hc
    ·simp at hc;subst hc;exact mem_of_getElem? hs
   exact⟨s1,f1,⟨f2.1,fun b o hc=>(f2.2 b o hc).imp id fun⟨k1,k2,k3⟩=>⟨k1,fun hm'=>k2 (hm _ hm'),k3⟩⟩,f3,f4,fun b hb=>f5 b (hm b hb),f6,f7⟩
 rotate_right
 ·exact⟨X,rfl,h.ext,inv_cut h.inv hb,zha hf h.reps,h.marks,by
   have hfr:=h.frn;cases M with
   |none=>trivial
   |some G=>exact hfr⟩
 rotate_left
 ·have hk:=qew hIT h (le_trans hn h1) hok (fs:=fs) (d:=d);exact⟨zct U U.lens.length n fs js X,rfl,hk.ext,hk.inv,zha hf hk.reps,hk.marks,hk.frn⟩
 ·obtain⟨X',e1,e2,e3,e4,e5,e6,⟨b,e7,e8⟩,hE,hI⟩:=qdx hIT h.inv hb;refine⟨X',e1,h.ext.trans (Rel.of hE),hI,zha hf (zao hIT hE _ _ h.reps),by rw[e1];exact h.marks,?_⟩;have hfr:=h.frn;cases M with
  |none=>trivial
  | some G=>
   obtain⟨s,f1,f2,f3,f4,f5,f6,f7⟩:Fr G U X:=hfr;have hm: ∀c,c∈X'.κ->c∈X.κ:=fun c hc=>by
    rw[e8] at hc;rcases mem_append.1 hc with hc|hc
    ·exact hc
    ·simp at hc;subst hc;exact e7
   exact⟨s,by rw[e5];exact f1,⟨by rw[e6];exact f2.1,fun b o hc=>by
    rcases f2.2 b o hc with k|⟨k1,k2,k3⟩
    ·exact .inl (by rw[e2];exact k)
    ·exact .inr ⟨by rw[e1];exact k1,fun hm'=>k2 (hm _ hm'),by rw[e3];exact k3⟩⟩,by rw[e1];exact f3,by rw[e1];exact f4,fun b hb=>f5 b (hm b hb),by rw[e3];exact f6,by rw[e2];exact f7⟩
 have h':Now IT M F B X0 S' U X a:=⟨h.ext,h.inv,zha hf h.reps,h.marks,h.frn⟩;rcases hw with rfl|⟨n,h1,h2,h3,rfl⟩
 ·exact⟨X,rfl,h'⟩
 ·have:=z6c hIT none h' (le_trans hn h1) h2;rw[qhz n S' h3] at this;exact⟨{X with κ:=X.κ.take n},rfl,this⟩
theorem zzi {F:Fence} {B:Nat} (hIT:ITMono IT) {X0:Cx} {a:Act} {n0:Nat} (hn:X0.κ.length<=n0) {S S':List AV} {U U':St} (hw:Wk n0 S U S' U'): ∀ {X:Cx},Now IT M F B X0 S U X a-> ∃X',X'.w=X.w/\ Now IT M F B X0 S' U' X' a:=by
 induction hw with
 |one h=>intro X hX;exact qco hIT hX hn h
 | step h k ih=>
  intro X hX;obtain⟨X1,e1,h1⟩:=qco hIT hX hn h;obtain⟨X2,e2,h2⟩:=ih h1;exact⟨X2,e2.trans e1,h2⟩
theorem Rel.noncells (h:Rel M X X')(hI:Inv IT U X) {k:Nat} {o:Obj} (hB: ∀G,M=some G->G.B<=k)(hk:X.w.heap[k]? =some o)(ho:o.isCells=false):X'.w.heap[k]? =some o:=by
 cases M with
 |none=>exact Ext.noncells (show Ext X X' from h) hI hk ho
 | some G=>
  refine(show ExtG G.B X X' from h).frame k o hk (hB G rfl) (fun hm=> ?_) (fun r hr e=> ?_) (fun hO=> ?_)
  ·obtain⟨s,hs,rfl⟩:=mem_iff_getElem.1 hm;have hl:=hI.κlen;obtain⟨vs,zs,h1,_⟩:=hI.box s X.κ[s] (U.boxes[s]'(by omega)).1 (U.boxes[s]'(by omega)).2 (by simp[hs]) (by rw[getElem?_eq_getElem (by omega)]);rw[hk] at h1;cases h1;cases ho
  ·obtain⟨s,hs,rfl⟩:=mem_iff_getElem.1 hr;have hl:=hI.βlen;obtain⟨cur,fz,h1,_⟩:=hI.row s X.β[s] (X.lens[s]'(by omega)) (by simp[hs]) (by rw[getElem?_eq_getElem (by omega)]);rw[e,hk] at h1;cases h1;cases ho
  ·obtain⟨⟨cs0,t0,f0,h0⟩,_⟩:=hI.Ok k hO;rw[hk] at h0;cases h0;cases ho
theorem FenceAt.ext {B:Nat} {F:Fence} (hM: ∀G,M=some G->G.B<=B)(h:FenceAt B F X.w)(hE:Rel M X X')(hI:Inv IT U X):FenceAt B F X'.w:=
 h.imp id fun⟨l0,r0,h1,h0,h2⟩=>⟨l0,r0,h1,h0,hE.noncells hI (fun G e=>le_trans (hM G e) h0) h2 rfl⟩
theorem z0v {P:Program} {B:Nat} (h:zrn P B M): ∀G,M=some G->G.B<=B:=fun G e=>by subst e;exact h.2
def zqe (P:Program)(c:Code):Prop:= ∀ {M:Option Gen} {F:Fence} {nn B:Nat} (hG:zrn P B M) (hF:FenceOk F P) (k0:Nat) (Q:AQ) (S:List AV) (U:St) (X0 X:Cx) (a:Act) (K:Exit->Act->World->Prop),X0.κ.length<=k0->(B<=X0.w.heap.size/\ ∃U0,Inv (ITP P) U0 X0)->awp (ITP P) P (zdk M) k0 c Q S U->Now (ITP P) M F B X0 S U X a->(FenceAt B F X0.w \/zcg c=true)->
 (∀e S U X a,Q e S U->Now (ITP P) M F B X0 S U X a->K e.to a X.w)->c.wpIn F nn P K a X.w
theorem qbc {P:Program} (hIT:ITMono (ITP P)) {x:Code} (ih:zqe P x):zqe P (.loop x):=by
 intro M F nn B hG hF k0 Q S U X0 X a K hk hI0 h hn hfe hK;obtain⟨m,h⟩:=h;refine wpIn_loop_rounds m ?_;have key: ∀(m:Nat) (S:List AV) (U:St) (X1:Cx) (a:Act),zpd (awp (ITP P) P (zdk M) k0 x) Q k0 m S U->Now (ITP P) M F B X0 S U X1 a->Code.roundsIn F nn P x K m a X1.w:=by
  intro m;induction m with
  |zero=>intro S U X1 a h;exact h.elim
  | succ m ihm=>
   intro S U X1 a h hn1;obtain⟨S',U',hw,h⟩:=h;obtain⟨X2,hw2,hn2⟩:=zzi hIT hk hw hn1;rw[roundsIn_succ, <-hw2];refine ih hG hF k0 _ S' U' X0 X2 a _ hk hI0 h hn2 hfe ?_;intro e S3 U3 X3 a3 hq hn3;cases e with
   |normal=>exact ihm S3 U3 X3 a3 hq hn3
   |exit id=>exact hK _ _ _ _ _ hq hn3
   |ret=>exact hK _ _ _ _ _ hq hn3
 exact key m S U X a h hn
theorem qgb {P:Program} {x:Code} (ihx:zqe P x)(ihy:zqe P y):zqe P (.seq x y):=by
 intro M F nn B hG hF k0 Q S U X0 X a K hk hI0 h hn hfe hK;refine wpIn_seq ?_;have hfe1:FenceAt B F X0.w \/zcg x=true:=hfe.imp id fun h=>by simp only[zcg,and_eq_true] at h;exact h.1
 rcases h with h|⟨hW,S',U',hs,h⟩
 rotate_left
 ·cases M with
  |some G=>cases hW
  | none=>
   refine wpIn_mono (hs hF hI0 hn hfe1) ?_;rintro e a' w' ⟨rfl,X',rfl,hn'⟩;exact ihy hG hF k0 _ S' U' X0 X' a' _ hk hI0 h hn' (hfe.imp id fun h=>by simp only[zcg,and_eq_true] at h;exact h.2) hK
 refine ihx hG hF k0 _ S U X0 X a _ hk hI0 h hn hfe1 ?_;intro e S1 U1 X1 a1 hq hn1;cases e with
 | normal=>
  obtain⟨S2,U2,hw,hq⟩:=hq;obtain⟨X2,e2,hn2⟩:=zzi (ze P) hk hw hn1;show y.wpIn F nn P K a1 X1.w;rw[<-e2];exact ihy hG hF k0 _ S2 U2 X0 X2 a1 _ hk hI0 hq hn2 (hfe.imp id fun h=>by simp only[zcg,and_eq_true] at h;exact h.2) hK
 |exit id=>exact hK _ _ _ _ _ hq hn1
 |ret=>exact hK _ _ _ _ _ hq hn1
theorem qcn {P:Program} {c:Operand} {x:Code} (ihx:zqe P x)(ihy:zqe P y):zqe P (.cond c x y):=by
 intro M F nn B hG hF k0 Q S U X0 X a K hk hI0 h hn hfe hK;obtain⟨t,hc,h⟩:=h;have hv:=zcz hn.reps c;rw[hc,Rep] at hv;refine wpIn_cond hv ?_;cases t with
 |true=>exact ihx hG hF k0 _ S U X0 X a _ hk hI0 h hn (hfe.imp id fun h=>by simp only[zcg,and_eq_true] at h;exact h.1) hK
 |false=>exact ihy hG hF k0 _ S U X0 X a _ hk hI0 h hn (hfe.imp id fun h=>by simp only[zcg,and_eq_true] at h;exact h.2) hK
theorem z8e {P:Program} {id:Nat} {x:Code} (ihx:zqe P x):zqe P (.block id x):=by
 intro M F nn B hG hF k0 Q S U X0 X a K hk hI0 h hn hfe hK;rcases h with h|⟨hW,S',U',hs,h⟩
 rotate_left
 ·cases M with
  |some G=>cases hW
  | none=>
   refine wpIn_mono (hs hF hI0 hn hfe) ?_;rintro e a' w' ⟨rfl,X',rfl,hn'⟩;exact hK .normal _ _ _ _ h hn'
 refine wpIn_block ?_;have hl:X0.lens.length<=U.lens.length:=by rw[<-hn.inv.lens];exact z3w hn.ext.sub
 have drop: ∀S1 U1 X1 a1,z8k U.lens.length k0 (Q .normal) S1 U1->Now (ITP P) M F B X0 S1 U1 X1 a1->K .normal a1 X1.w:=by
  rintro S1 U1 X1 a1 (hq|⟨m,n,fs,js,d,S',hm,hn0,hok,hfg,hq⟩) hn1
  ·exact hK .normal _ _ _ _ hq hn1
  ·have hk1:=zyk (ze P) hn1 (le_trans hl hm) (le_trans hk hn0) hok (fs:=fs) (d:=d);exact hK .normal _ _ (zct U1 m n fs js X1) _ hq ⟨hk1.ext,hk1.inv,zha hfg hk1.reps,hk1.marks,hk1.frn⟩
 refine ihx hG hF k0 _ S U X0 X a _ hk hI0 h hn hfe ?_;intro e S1 U1 X1 a1 hq hn1;cases e with
 |normal=>exact drop _ _ _ _ hq hn1
 | exit j=>
  simp only[zid] at hq;simp only[AExit.to,Exit.inBlock];split at hq
  ·rename_i e;rw[if_pos e];exact drop _ _ _ _ hq hn1
  ·rename_i e;rw[if_neg e];exact hK (.exit j) _ _ _ _ hq hn1
 |ret=>exact hK _ _ _ _ _ hq hn1
section
variable {P:Program} {b:Frame} {a:Act} {k:List Item} {cs:List Frame} {w:World} {Q:Exit->Act->World->Prop} {F:Fence} {n:Nat}
theorem stepR_scope:step P (lone (b.atR a (.code (.scope c)::k)) cs w)= .next (lone (b.atR a (.code c:: .inScope c::k)) cs w):=
 step_lone_go (by simp[stepG,stepG.exec,Frame.atR])
theorem stepR_inScope:step P (lone (b.atR a (.inScope c::k)) cs w)= .next (lone (b.atR a k) cs w):=
 step_lone_go (by simp[stepG,stepG.exec,Frame.atR])
theorem wpIn_scope_straight (h:c.wpIn F n P (Exit.noGoto Q) a w):(Code.scope c).wpIn F n P Q a w:=by
 intro b k cs hro hb hr;have h0:(lone (b.atR a (.code (.scope c)::k)) cs w).fenced P F:=fenced_calm hb hr rfl;obtain⟨e,a₁,w₁,hq,harr⟩:=h b (.inScope c::k) cs hro hb hr;cases e with
 |normal=>exact⟨.normal,a₁,w₁,hq,.head h0 stepR_scope (StepsIn.trans harr (.one (fenced_calm hb hr rfl) stepR_inScope))⟩
 | exit id=>
  have hx:exitTo id (.inScope c::k)=exitTo id k:=by simp[exitTo]
  exact⟨.exit id,a₁,w₁,hq,fun k' hk=> .head h0 stepR_scope (harr.1 k' (by rw[hx];exact hk)),
   fun hr' hk=>let⟨k₁,h1,h2⟩:=harr.2 hr' (by rw[hx];exact hk);⟨k₁,h1,.head h0 stepR_scope h2⟩⟩
 |goto l=>exact hq.elim
 |ret=>exact⟨_,a₁,w₁,hq,.of_steps (.one h0 stepR_scope) harr⟩
 |panic ch=>exact⟨_,a₁,w₁,hq,.of_steps (.one h0 stepR_scope) harr⟩
 |outgrown=>exact⟨_,a₁,w₁,hq,.of_steps (.one h0 stepR_scope) harr⟩
end
theorem z6w {P:Program} {x:Code} (ih:zqe P x):zqe P (.scope x):=by
 intro M F nn B hG hF k0 Q S U X0 X a K hk hI0 h hn hfe hK;refine wpIn_scope_straight (ih hG hF k0 Q S U X0 X a _ hk hI0 h hn hfe ?_);intro e S1 U1 X1 a1 hq hn1;cases e with
 |normal=>exact hK .normal _ _ _ _ hq hn1
 |exit id=>exact hK (.exit id) _ _ _ _ hq hn1
 |ret=>exact hK .ret _ _ _ _ hq hn1
end Go.Ab
