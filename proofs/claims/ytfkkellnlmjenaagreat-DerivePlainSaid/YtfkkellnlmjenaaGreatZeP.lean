/-
  Trees of rx: words, plain laws.
-/
import Derived.Test.YtfkkellnlmjenaaGreatZdSh
set_option linter.unusedSimpArgs false
set_option linter.unusedVariables false
namespace Go.Ab
open Go Go.RowKit Go.Fwd
abbrev BS:=BitVec 256
def W64 (S:BS)(i:Nat):BitVec 64:=S.extractLsb' (64*i) 64
def wd (S:BS)(i:Nat):Int:=((W64 S i).toNat:Int)
inductive Tr where
 |mk (k:Nat) (s:BS) (mn mx:Int) (l:List Tr)
def Tr.k:Tr→Nat| .mk k _ _ _ _=>k
def Tr.s:Tr→BS| .mk _ s _ _ _=>s
def Tr.mn:Tr→Int| .mk _ _ m _ _=>m
def Tr.mx:Tr→Int| .mk _ _ _ m _=>m
def Tr.l:Tr→List Tr| .mk _ _ _ _ l=>l
theorem Tr.eta (t:Tr):t= .mk t.k t.s t.mn t.mx t.l:=by cases t;rfl
theorem Tr.sizeOf_l {t x:Tr} (h:x∈t.l):SizeOf.sizeOf x<SizeOf.sizeOf t:=by
 cases t with
 |mk k s mn mx l=>simp only[Tr.l] at h;have:=List.sizeOf_lt_of_mem h;simp;omega
mutual
def cells:Tr→List AV
 | .mk k s mn mx l=>[.raw (.int .u8 k),.raw (.int .u64 (wd s 0)),.raw (.int .u64 (wd s 1)),.raw (.int .u64 (wd s 2)),.raw (.int .u64 (wd s 3)),.raw (.int .i64 mn),.raw (.int .i64 mx),.list l.length (cellsL l) .none]
def cellsL:List Tr→List AV
 |[]=>[]
 |t::l=>cells t++cellsL l
end
def enc (t:Tr):AV:= .agg (cells t)
theorem z1z (t:Tr):(cells t).length=8:=by cases t;simp[cells]
theorem qmk (t:Tr):cells t=[.raw (.int .u8 t.k),.raw (.int .u64 (wd t.s 0)),.raw (.int .u64 (wd t.s 1)),.raw (.int .u64 (wd t.s 2)),.raw (.int .u64 (wd t.s 3)),.raw (.int .i64 t.mn),.raw (.int .i64 t.mx),.list t.l.length (cellsL t.l) .none]:=by cases t;simp[cells,Tr.k,Tr.s,Tr.mn,Tr.mx,Tr.l]
theorem zpb: ∀l,(cellsL l).length=l.length*8
 |[]=>by simp[cellsL]
 |t::l=>by rw[cellsL,List.length_append,z1z,zpb l,List.length_cons];omega
theorem ztu {l:List Tr} (h:l≠[]):cellsL l≠[]:=by
 intro e
 have:=zpb l
 rw[e] at this
 simp at this
 exact h (List.length_eq_zero_iff.1 (by omega))
mutual
theorem z1j (n:Nat): ∀t,zu n (cells t)=true
 | .mk k s mn mx l=>by simp[cells,zu,zbf,znv n l]
theorem znv (n:Nat): ∀l,zu n (cellsL l)=true
 |[]=>by simp[cellsL,zu]
 | t::l=>by
  rw[cellsL,ziw,List.all_append,←ziw,←ziw,z1j n t,znv n l];rfl
end
mutual
theorem zqy: ∀t,zcf (cells t)=true
 | .mk k s mn mx l=>by simp[cells,zcf,zle,znp l]
theorem znp: ∀l,zcf (cellsL l)=true
 |[]=>by simp[cellsL,zcf]
 | t::l=>by
  have h: ∀l m:List AV,zcf (l++m)=(zcf l&&zcf m):=fun l m=>by
   induction l with
   |nil=>simp[zcf]
   |cons a l ih=>rw[List.cons_append,zcf,zcf,ih,Bool.and_assoc]
  rw[cellsL,h,zqy t,znp l];rfl
end
mutual
theorem z6u: ∀t,stripL (cells t)=cells t
 | .mk k s mn mx l=>by simp[cells,stripL,zcz,zjh l]
theorem zjh: ∀l,stripL (cellsL l)=cellsL l
 |[]=>by simp[cellsL,stripL]
 | t::l=>by
  rw[cellsL,zmb,List.map_append,←zmb,←zmb,z6u t,zjh l]
end
mutual
theorem z4d (g:FZ): ∀t,zbk g (cells t)=cells t
 | .mk k s mn mx l=>by simp[cells,zbk,zfp,zom g l]
theorem zom (g:FZ): ∀l,zbk g (cellsL l)=cellsL l
 |[]=>by simp[cellsL,zbk]
 | t::l=>by
  have h: ∀l m:List AV,zbk g (l++m)=zbk g l++zbk g m:=fun l m=>by
   induction l with
   |nil=>simp[zbk]
   |cons a l ih=>rw[List.cons_append,zbk,zbk,ih,List.cons_append]
  rw[cellsL,h,z4d g t,zom g l]
end
mutual
theorem z2q: ∀t,cloL (cells t)=true
 | .mk k s mn mx l=>by simp[cells,cloL,clo,zya l]
theorem zya: ∀l,cloL (cellsL l)=true
 |[]=>by simp[cellsL,cloL]
 |t::l=>by rw[cellsL,zff,z2q t,zya l];rfl
end
theorem qcw (t:Tr):zle (enc t)=true:=by rw[enc,zle];exact zqy t
mutual
def pre:Tr→List Tr
 | .mk k s mn mx l=> .mk k s mn mx l::zae l
def zae:List Tr→List Tr
 |[]=>[]
 |t::l=>pre t++zae l
end
theorem zcq (t:Tr):pre t=t::zae t.l:=by cases t;simp[pre,Tr.l]
theorem zmx: ∀(ts:List Tr) (i:Nat) (hi:i<ts.length),(zae (ts.take (i+1))).length=(zae (ts.take i)).length+(pre ts[i]).length
 |[],i,hi=>by simp at hi
 |t::ts,0,hi=>by simp[zae]
 | t::ts,i+1,hi=>by
  simp only[List.take_succ_cons,zae,List.length_append,List.getElem_cons_succ,zmx ts i (by simpa using hi)]
  omega
theorem zyh (k:Nat)(s:BS)(mn mx:Int)(ts:List Tr):(pre (.mk k s mn mx ts)).length=1+(zae ts).length:=by simp[pre];omega
theorem qju: ∀ts:List Tr,ts.length≤(zae ts).length
 |[]=>by simp[zae]
 | t::ts=>by
  have:=qju ts
  cases t with
  |mk k s mn mx l=>simp[zae,pre];omega
theorem zhe: ∀ {ts:List Tr} {x:Tr},x∈ts→(pre x).length≤(zae ts).length
 |[],x,h=>by simp at h
 | t::ts,x,h=>by
  simp only[zae,List.length_append]
  rcases List.mem_cons.1 h with rfl|h
  ·omega
  ·have:=zhe h;omega
def zdj (qbz most:Int):Bool:= !(decide (qbz<0)||decide (qbz>16)||decide (qbz=1)&&decide (most=1))&&(decide (most= -1)||decide (most≥1)&&decide (most≤16)&&decide (most≥qbz))
def qks (s:BS):AV:= .agg [.raw (.int .u64 (wd s 0)),.raw (.int .u64 (wd s 1)),.raw (.int .u64 (wd s 2)),.raw (.int .u64 (wd s 3))]
theorem wd_inj {A B:BS} (h: ∀i,i<4→wd A i=wd B i):A=B:=by
 apply BitVec.eq_of_getLsbD_eq
 intro j hj
 have h4:j/64<4:=by omega
 have h2:=h (j/64) h4
 have h3:W64 A (j/64)=W64 B (j/64):=by
  apply BitVec.eq_of_toNat_eq
  unfold wd at h2
  omega
 have h5:=congrArg (fun x:BitVec 64=>x.getLsbD (j%64)) h3
 have hlt:j%64<64:=Nat.mod_lt _ (by decide)
 simp only[W64,BitVec.getLsbD_extractLsb',hlt,decide_true,Bool.true_and] at h5
 rwa[show 64*(j/64)+j%64=j by omega] at h5
theorem qoq (S T:BS):(wd S 0==wd T 0&&wd S 1==wd T 1&&wd S 2==wd T 2&&wd S 3==wd T 3)=decide (S=T):=by
 by_cases h:S=T
 ·subst h;simp
 ·simp only[h,decide_false]
  cases hb:(wd S 0==wd T 0&&wd S 1==wd T 1&&wd S 2==wd T 2&&wd S 3==wd T 3) with
  |false=>rfl
  | true=>
   simp only[Bool.and_eq_true,beq_iff_eq] at hb
   refine absurd (wd_inj fun i hi=> ?_) h
   match i,hi with
   |0,_=>exact hb.1.1.1
   |1,_=>exact hb.1.1.2
   |2,_=>exact hb.1.2
   |3,_=>exact hb.2
def zvc (t:Tr)(k:Nat):Bool:=t.l.any fun y=>decide (y.k=k)
def oddT (t:Tr):Bool:=((t.k:Int) !=2&&decide (t.s≠0#256))||((t.k:Int) !=5&&(t.mn !=0||t.mx !=0))||(decide ((t.k:Int)<3)&&decide ((t.l.length:Int)>0))
def zdr (t:Tr):Bool:= !oddT t&&(bif (t.k:Int)==1 then true else bif (t.k:Int)==2 then decide (t.s≠0#256) else bif (t.k:Int)==3 then decide ((t.l.length:Int)>1)&& !zvc t 1&& !zvc t 3
 else bif (t.k:Int)==4 then decide ((t.l.length:Int)>1)&& !zvc t 4 else bif (t.k:Int)==5 then(t.l.length:Int)==1&&zdj t.mn t.mx&& !zvc t 1 else(t.k:Int)==6&&(t.l.length:Int)==1)
theorem zju (k:Nat)(s:BS)(mn mx:Int)(ts:List Tr):oddT (.mk k s mn mx ts)=(((k:Int) !=2&&decide (s≠0#256))||((k:Int) !=5&&(mn !=0||mx !=0))||(decide ((k:Int)<3)&&decide ((ts.length:Int)>0))):=rfl
theorem zdq (k:Nat)(s:BS)(mn mx:Int)(ts:List Tr):zdr (.mk k s mn mx ts)=(!oddT (.mk k s mn mx ts)&&(bif (k:Int)==1 then true else bif (k:Int)==2 then decide (s≠0#256) else bif (k:Int)==3 then decide ((ts.length:Int)>1)&& !zvc (.mk k s mn mx ts) 1&& !zvc (.mk k s mn mx ts) 3
 else bif (k:Int)==4 then decide ((ts.length:Int)>1)&& !zvc (.mk k s mn mx ts) 4 else bif (k:Int)==5 then(ts.length:Int)==1&&zdj mn mx&& !zvc (.mk k s mn mx ts) 1 else(k:Int)==6&&(ts.length:Int)==1)):=rfl
def zbj (t:Tr):Bool:=decide ((pre t).length≤10000)
def zch (t:Tr):Bool:=zbj t&&(pre t).all zdr
def ztc (t:Tr):Int:=if zbj t=true then(pre t).length else 10001
def ztv (t:Tr):Int:=if zbj t=true then(pre t).countP (fun x=>decide (x.k=6)) else 10001
mutual
def zdf:Tr→Int
 | .mk k s mn mx ts=>min (if k=5 then((if k=2 then 1 else 0)+zcy ts)*min (if mx= -1 then max (max mn 0) 1 else max (max mn 0) mx) 10001 else(if k=2 then 1 else 0)+zcy ts) 10001
def zcy:List Tr→Int
 |[]=>0
 |t::l=>zdf t+zcy l
end
theorem zjl: ∀(t:Tr),t.l.length<(pre t).length
 | .mk k s mn mx ts=>by
  have: ∀l:List Tr,l.length≤(zae l).length:=fun l=>by
   induction l with
   |nil=>simp[zae]
   |cons a l ih=>rw[zae,List.length_append,List.length_cons];rw[zcq];simp;omega
  simp[pre,Tr.l];have:=this ts;omega
theorem zwf {t x:Tr} (h:x∈pre t):(pre x).length≤(pre t).length:=by
 have key: ∀n,(∀t:Tr,SizeOf.sizeOf t≤n→ ∀x∈pre t,(pre x).length≤(pre t).length):=by
  intro n
  induction n with
  |zero=>intro t ht;cases t;simp at ht
  | succ n ih=>
   intro t ht x hx
   rw[zcq] at hx
   rcases List.mem_cons.1 hx with rfl|hx
   ·exact Nat.le_refl _
   ·have hl: ∀l:List Tr,(∀y∈l,SizeOf.sizeOf y≤n)→ ∀x∈zae l,(pre x).length≤(zae l).length:=by
     intro l
     induction l with
     |nil=>intro _ x hx;simp[zae] at hx
     | cons a l ihl=>
      intro hs x hx
      rw[zae] at hx⊢
      rw[List.length_append]
      rcases List.mem_append.1 hx with hx|hx
      ·have:=ih a (hs a (by simp)) x hx;omega
      ·have:=ihl (fun y hy=>hs y (by simp[hy])) x hx;omega
    have:=hl t.l (fun y hy=>by have:=Tr.sizeOf_l hy;omega) x hx
    rw[zcq t,List.length_cons];omega
 exact key _ t (Nat.le_refl _) x h
theorem qfg (l:List Tr)(i:Nat)(hi:i<l.length):zcy (l.take (i+1))=zcy (l.take i)+zdf l[i]:=by
 have happ: ∀a b,zcy (a++b)=zcy a+zcy b:=fun a b=>by
  induction a with
  |nil=>simp[zcy]
  |cons x a ih=>rw[List.cons_append,zcy,zcy,ih,Int.add_assoc]
 rw[List.take_succ_eq_append_getElem hi,happ];simp[zcy]
theorem qff: ∀t,zdf t≤10001
 | .mk k s mn mx ts=>by rw[zdf];exact Int.min_le_right _ _
mutual
theorem zcu: ∀t,0≤zdf t
 | .mk k s mn mx ts=>by
  have hl:=zck ts
  rw[zdf]
  have h0:0≤(if k=2 then 1 else 0)+zcy ts:=by split<;>omega
  split
  ·have:0≤((if k=2 then 1 else 0)+zcy ts)*min (if mx= -1 then max (max mn 0) 1 else max (max mn 0) mx) 10001:=Int.mul_nonneg h0 (by split<;>omega)
   omega
  ·omega
theorem zck: ∀l,0≤zcy l
 |[]=>by simp[zcy]
 |t::l=>by have h1:=zcu t;have h2:=zck l;rw[zcy];omega
end
theorem z7p: ∀l,zcy l≤10001*l.length
 |[]=>by simp[zcy]
 |t::l=>by have h1:=qff t;have h2:=z7p l;rw[zcy,List.length_cons];omega
def z3z (p:Tr→Tr→Bool):List Tr→List Tr→Bool
 |[],[]=>true
 |x::a,y::b=>p x y&&z3z p a b
 |_,_=>false
theorem zso (p:Tr→Tr→Bool): ∀a b:List Tr,z3z p a b=true↔a.length=b.length∧ ∀(i:Nat) (h1:i<a.length) (h2:i<b.length),p a[i] b[i]=true
 |[],[]=>by simp[z3z]
 |x::a,[]=>by simp[z3z]
 |[],y::b=>by simp[z3z]
 | x::a,y::b=>by
  rw[z3z,Bool.and_eq_true,zso p a b]
  constructor
  ·rintro⟨h1,h2,h3⟩
   refine⟨by simp[h2],fun i k1 k2=> ?_⟩
   cases i with
   |zero=>exact h1
   |succ i=>simpa using h3 i (by simpa using k1) (by simpa using k2)
  ·rintro⟨h1,h2⟩
   exact⟨h2 0 (by simp) (by simp),by simpa using h1,fun i k1 k2=>h2 (i+1) (by simpa using k1) (by simpa using k2)⟩
theorem qlb {p:Tr→Tr→Bool} {a b:List Tr} (h:a.length≠b.length):z3z p a b=false:=by
 rw[Bool.eq_false_iff,ne_eq,zso]
 exact fun h3=>h h3.1
mutual
def zfo:Tr→Tr→Bool
 | .mk k s mn mx l,.mk k' s' mn' mx' l'=>(k:Int)==k'&&decide (s=s')&&mn==mn'&&mx==mx'&&zkn l l'
def zkn:List Tr→List Tr→Bool
 |[],[]=>true
 |x::a,y::b=>zfo x y&&zkn a b
 |_,_=>false
end
theorem z3x: ∀a b,zkn a b=z3z zfo a b
 |[],[]=>by simp[zkn,z3z]
 |x::a,[]=>by simp[zkn,z3z]
 |[],y::b=>by simp[zkn,z3z]
 |x::a,y::b=>by rw[zkn,z3z,z3x a b]
mutual
theorem zlh: ∀a b,zfo a b=true↔a=b
 | .mk k s mn mx l,.mk k' s' mn' mx' l'=>by
  rw[zfo]
  simp only[Bool.and_eq_true,z1h l l',Tr.mk.injEq,beq_iff_eq,decide_eq_true_eq]
  constructor
  ·rintro⟨⟨⟨⟨h1,h2⟩,h3⟩,h4⟩,h5⟩;exact⟨by omega,h2,h3,h4,h5⟩
  ·rintro⟨h1,h2,h3,h4,h5⟩;exact⟨⟨⟨⟨by omega,h2⟩,h3⟩,h4⟩,h5⟩
theorem z1h: ∀a b,zkn a b=true↔a=b
 |[],[]=>by simp[zkn]
 |x::a,[]=>by simp[zkn]
 |[],y::b=>by simp[zkn]
 |x::a,y::b=>by rw[zkn,Bool.and_eq_true,zlh x y,z1h a b];simp
end
def zkm (a b:Tr):Bool:=zbj a&&zbj b&&zfo a b
theorem qlw (k:Nat)(s:BS)(mn mx:Int)(ts:List Tr)(k2:Nat)(s2:BS)(mn2 mx2:Int)(us:List Tr):zfo (.mk k s mn mx ts) (.mk k2 s2 mn2 mx2 us)=((k:Int)==k2&&decide (s=s2)&&mn==mn2&&mx==mx2&&z3z zfo ts us):=by rw[zfo,z3x]
def noneT:Tr:= .mk 0 0#256 0 0 []
def emptyT:Tr:= .mk 1 0#256 0 0 []
def zms (t:Tr):Bool:=zfo t noneT||zch t
def zhl (t:Tr):Tr:=if zch t=true then t else noneT
def zje (t:Tr):Tr:=if zbj t=true then t else noneT
theorem zey {t:Tr} (h:zch t=true):(pre t).length≤10000:=by rw[zch,Bool.and_eq_true] at h;simpa[zbj] using h.1
def zjd (kind without:Nat)(l:List Tr):List Tr:=l.flatMap fun x=>bif (x.k:Int)==kind then x.l else bif (x.k:Int)==without then[] else[x]
def zpx (kind:Nat)(l:List Tr)(none:Tr):Tr:=bif (l.length:Int)==0 then none else bif (l.length:Int)==1 then zhl (l.headD none) else zhl (Tr.mk kind 0#256 0 0 l)
def zfc (l:List Tr):Tr:=if(l.any fun x=>(x.k:Int)==0|| !zch x)=true then noneT else zpx 3 (zjd 3 1 l) emptyT
def orT (l:List Tr):Tr:=if(l.any fun x=> !zms x)=true then noneT else zpx 4 (zjd 4 0 l) noneT
theorem zbg: ∀a b,zae (a++b)=zae a++zae b
 |[],b=>by simp[zae]
 |x::a,b=>by rw[List.cons_append,zae,zae,zbg a b,List.append_assoc]
theorem zan: ∀l:List Tr,l.length≤(zae l).length
 |[]=>by simp[zae]
 |x::l=>by have:=zan l;rw[zae,List.length_append,List.length_cons,zcq];simp;omega
theorem zlj (t:Tr):(zae t.l).length<(pre t).length:=by rw[zcq];simp
theorem zme (kind without:Nat): ∀l:List Tr,(zae (zjd kind without l)).length≤(zae l).length
 |[]=>by simp[zjd,zae]
 | x::l=>by
  have h:=zme kind without l
  have hx:=zlj x
  rw[zjd,List.flatMap_cons,zbg,List.length_append,zae,List.length_append]
  have h2:(zae (bif (x.k:Int)==kind then x.l else bif (x.k:Int)==without then[] else[x])).length≤(pre x).length:=by
   cases (x.k:Int)==kind<;>cases (x.k:Int)==without<;>simp[zae]<;>omega
  rw[zjd] at h
  omega
theorem zbq {x:Tr}: ∀ {l:List Tr},x∈l→(pre x).length≤(zae l).length
 | y::l,h=>by
  rw[zae,List.length_append]
  rcases List.mem_cons.1 h with rfl|h
  ·omega
  ·have:=zbq h;omega
def zdp (t:Tr)(lo hi:Int):Tr:=
 bif !zms t||(!(lo==0&&hi==0)&& !(lo==1&&hi==1)&& !zdj lo hi) then noneT
 else bif (t.k:Int)==0&&decide (lo>0) then noneT
 else bif (lo==0&&hi==0)||(t.k:Int)==0||(t.k:Int)==1 then emptyT
 else bif lo==1&&hi==1 then t else zhl (.mk 5 0#256 lo hi [t])
theorem zzv (k:Nat)(s:BS)(mn mx:Int)(t:Tr):(pre (.mk k s mn mx [t])).length=1+(pre t).length:=by simp[pre,zae];omega
def zar (kind:Nat)(l:List Tr):List Tr:=l.flatMap fun x=>bif (x.k:Int)==kind then x.l else bif (kind:Int)==3&&(x.k:Int)==1 then[] else[x]
def zmw (kind:Nat)(l:List Tr):Tr:=bif (l.length:Int)==0 then emptyT else bif (l.length:Int)==1 then l.headD emptyT else .mk kind 0#256 0 0 l
def zft (kind:Nat)(a b:Tr):Tr:=zmw kind (zar kind [a,b])
theorem zez (kind:Nat): ∀l:List Tr,(zae (zar kind l)).length≤(zae l).length
 |[]=>by simp[zar,zae]
 | x::l=>by
  have h:=zez kind l
  have hx:=zlj x
  rw[zar,List.flatMap_cons,zbg,List.length_append,zae,List.length_append]
  have h2:(zae (bif (x.k:Int)==kind then x.l else bif (kind:Int)==3&&(x.k:Int)==1 then[] else[x])).length≤(pre x).length:=by
   cases (x.k:Int)==kind<;>cases (kind:Int)==3&&(x.k:Int)==1<;>simp[zae]<;>omega
  rw[zar] at h
  omega
theorem qdg (kind:Nat)(l:List Tr)(i:Nat)(hi:i<l.length):zar kind (l.take (i+1))=zar kind (l.take i)++(bif (l[i].k:Int)==kind then l[i].l else bif (kind:Int)==3&&(l[i].k:Int)==1 then[] else[l[i]]):=by
 rw[List.take_succ_eq_append_getElem hi,zar,List.flatMap_append];simp[zar]
theorem zwd (kind:Nat)(l:List Tr)(i:Nat):(zar kind (l.take i)).length≤(zae l).length:=by
 refine Nat.le_trans (zan _) (Nat.le_trans (zez _ _) ?_)
 conv=>rhs;rw[←List.take_append_drop i l]
 rw[zbg,List.length_append];omega
def bsOf (l:List Nat):BS:=l.foldl (fun s b=>s|||(1#256<<<b)) 0#256
def z9p (l:List Nat):Tr:= .mk 2 (bsOf l) 0 0 []
def zwj:Nat→List Nat
 |0=>[97]|1=>[98]|2=>[97,98]|3=>[97]|4=>[98]|5=>[99]|6=>[97,98,99]|7=>[98,99]|8=>[10]|9=>[0,255]|10=>[97]|_=>[98]
abbrev Sm:=Nat×Nat×Nat
abbrev MSt:=List Tr×Int×Int
def kI (x:Sm):Int:=((x.1%12:Nat):Int)
def zfq (p:List Tr)(i:Nat):Tr:=p[p.length-i]?.getD emptyT
def cA (p:List Tr)(x:Sm):Bool:=decide (kI x<7)&&decide ((p.length:Int)>1)
def cB (p:List Tr)(x:Sm):Bool:=decide (kI x<9)&&decide ((p.length:Int)>1)
def cC (p:List Tr)(g:Int)(x:Sm):Bool:=kI x==9&&decide ((p.length:Int)>0)&&decide (g<9)
def cD (p:List Tr)(x:Sm):Bool:=decide (kI x>9)&&decide ((p.length:Int)>0)&&((zfq p 1).k:Int) !=1
def loM (x:Sm):Int:=((x.2.1%3:Nat):Int)
def m4 (x:Sm):Int:=((x.2.2%4:Nat):Int)
def badM (x:Sm):Bool:=decide (m4 x<loM x)||m4 x==0||loM x==1&&m4 x==1
def moM (x:Sm):Int:=bif badM x then-1 else m4 x
def tmM (x:Sm):Int:=max (max (loM x) (moM x)) 1
def zru (st:MSt)(x:Sm):MSt:=
 bif decide (kI x<4) then(st.1++[z9p (zwj (x.2.1%12))],st.2.1,st.2.2)
 else bif kI x==4 then(st.1++[emptyT],st.2.1,st.2.2)
 else bif cA st.1 x then(st.1.take (st.1.length-2)++[zft 3 (zfq st.1 2) (zfq st.1 1)],st.2.1,st.2.2)
 else bif cB st.1 x then(st.1.take (st.1.length-2)++[zft 4 (zfq st.1 2) (zfq st.1 1)],st.2.1,st.2.2)
 else bif cC st.1 st.2.2 x then(st.1.set (st.1.length-1) (.mk 6 0#256 0 0 [zfq st.1 1]),st.2.1,st.2.2+1)
 else bif cD st.1 x then(bif decide (st.2.1*tmM x≤16) then(st.1.set (st.1.length-1) (.mk 5 0#256 (loM x) (moM x) [zfq st.1 1]),st.2.1*tmM x,st.2.2) else st)
 else st
def MM (l:List Sm)(i:Nat):MSt:=(l.take i).foldl zru ([],1,0)
def qpm (p:List Tr):Tr:=match p with
 |[]=>z9p [97]
 |x::r=>r.foldl (zft 4) x
def zub (l:List Sm):Tr:=qpm (MM (l.take 25) 25).1
theorem z6l (l:List Sm)(i:Nat)(hi:i<l.length):MM l (i+1)=zru (MM l i) l[i]:=by
 rw[MM,List.take_succ_eq_append_getElem hi,List.foldl_append];rfl
theorem zmp (kind:Nat)(a b:Tr):(pre (zft kind a b)).length≤(pre a).length+(pre b).length+1:=by
 have h:=zez kind [a,b]
 simp only[zae,List.append_nil,List.length_append] at h
 rw[zft,zmw]
 obtain⟨l,hl⟩: ∃l,zar kind [a,b]=l:=⟨_,rfl⟩
 rw[hl] at h⊢
 match l,h with
 |[],_=>simp[emptyT,pre,zae]
 |[x],h=>simp[zae] at h⊢;omega
 | x::y::l,h=>
  have e1:(((x::y::l).length:Int)==0)=false:=by simp;omega
  have e2:(((x::y::l).length:Int)==1)=false:=by simp;omega
  rw[e1,e2]
  simp only[cond_false,pre,List.length_cons]
  omega
theorem zjf {p:List Tr} {i:Nat} (h0:0<i)(h:i≤p.length):zfq p i=p[p.length-i]'(by omega):=by
 rw[zfq,List.getElem?_eq_getElem (by omega)];rfl
theorem zoc {p:List Tr} (h:2≤p.length):(zae (p.take (p.length-2))).length+(pre (zfq p 2)).length+(pre (zfq p 1)).length=(zae p).length:=by
 rw[zjf (by omega) h,zjf (by omega) (by omega)]
 conv=>rhs;rw[←List.take_append_drop (p.length-2) p]
 rw[zbg,List.length_append,List.drop_eq_getElem_cons (by omega),show p.length-2+1=p.length-1 by omega,List.drop_eq_getElem_cons (by omega),show p.length-1+1=p.length by omega,List.drop_length]
 simp[zae];omega
theorem qbm {p:List Tr} {y:Tr} (h:0<p.length):(zae (p.set (p.length-1) y)).length+(pre (zfq p 1)).length=(zae p).length+(pre y).length:=by
 rw[zjf (by omega) h]
 rw[List.set_eq_take_append_cons_drop,if_pos (by omega),show p.length-1+1=p.length by omega,List.drop_length,zbg,List.length_append]
 conv=>rhs;rw[←List.take_append_drop (p.length-1) p]
 rw[zbg,List.length_append,List.drop_eq_getElem_cons (by omega),show p.length-1+1=p.length by omega,List.drop_length]
 simp[zae];omega
theorem qjz (x:Sm):1≤tmM x∧tmM x≤3:=by
 have h1:x.2.1%3<3:=Nat.mod_lt _ (by decide)
 have h2:x.2.2%4<4:=Nat.mod_lt _ (by decide)
 unfold tmM moM
 have h3:loM x≤2:=by unfold loM;omega
 have h4:m4 x≤3:=by unfold m4;omega
 cases badM x<;>simp only[cond_true,cond_false]<;>omega
theorem qih (st:MSt)(x:Sm)(i:Nat)(h:(zae st.1).length≤i∧0≤st.2.2∧st.2.2≤9∧1≤st.2.1∧st.2.1≤16):
 (zae (zru st x).1).length≤i+1∧0≤(zru st x).2.2∧(zru st x).2.2≤9∧1≤(zru st x).2.1∧(zru st x).2.1≤16:=by
 obtain⟨h1,h2,h3,h4,h5⟩:=h
 unfold zru
 cases decide (kI x<4)
 ·cases kI x==4
  ·cases hA:cA st.1 x
   ·cases hB:cB st.1 x
    ·cases hC:cC st.1 st.2.2 x
     ·cases hD:cD st.1 x
      ·simp only[cond_false];omega
      ·simp only[cond_false,cond_true]
       cases hT:decide (st.2.1*tmM x≤16)
       ·simp only[cond_false];omega
       ·simp only[cond_true]
        have hp:0<st.1.length:=by
         unfold cD at hD
         simp only[Bool.and_eq_true,decide_eq_true_eq] at hD;omega
        have e:=qbm (p:=st.1) (y:= .mk 5 0#256 (loM x) (moM x) [zfq st.1 1]) hp
        rw[zzv] at e
        have:=(qjz x).1
        have h6:1≤st.2.1*tmM x:=by
         have:=Int.mul_le_mul h4 this (by omega) (by omega);omega
        simp only[decide_eq_true_eq] at hT
        exact⟨by omega,by omega,by omega,h6,hT⟩
     ·simp only[cond_false,cond_true]
      unfold cC at hC
      simp only[Bool.and_eq_true,decide_eq_true_eq] at hC
      have e:=qbm (p:=st.1) (y:= .mk 6 0#256 0 0 [zfq st.1 1]) (by omega)
      rw[zzv] at e
      omega
    ·simp only[cond_false,cond_true]
     unfold cB at hB
     simp only[Bool.and_eq_true,decide_eq_true_eq] at hB
     have e:=zoc (p:=st.1) (by omega)
     have e2:=zmp 4 (zfq st.1 2) (zfq st.1 1)
     rw[zbg,List.length_append]
     simp only[zae,List.append_nil];omega
   ·simp only[cond_false,cond_true]
    unfold cA at hA
    simp only[Bool.and_eq_true,decide_eq_true_eq] at hA
    have e:=zoc (p:=st.1) (by omega)
    have e2:=zmp 3 (zfq st.1 2) (zfq st.1 1)
    rw[zbg,List.length_append]
    simp only[zae,List.append_nil];omega
  ·simp only[cond_false,cond_true]
   rw[zbg,List.length_append]
   simp[zae,emptyT,pre];omega
 ·simp only[cond_true]
  rw[zbg,List.length_append]
  simp[zae,z9p,pre];omega
theorem invM (l:List Sm): ∀i,i≤l.length→(zae (MM l i).1).length≤i∧0≤(MM l i).2.2∧(MM l i).2.2≤9∧1≤(MM l i).2.1∧(MM l i).2.1≤16
 |0,_=>by simp[MM,zae]
 | i+1,h=>by
  rw[z6l l i (by omega)]
  exact qih _ _ i (invM l i (by omega))
def smc (x:Sm):List AV:=[.raw (.int .u8 x.1),.raw (.int .u8 x.2.1),.raw (.int .u8 x.2.2)]
def qpe:List Sm→List AV
 |[]=>[]
 |x::l=>smc x++qpe l
def qkw (p:List Tr)(i:Nat):Tr:=match p with
 |[]=>emptyT
 |x::r=>(r.take i).foldl (zft 4) x
theorem z3a {p:List Tr} {i:Nat} (h:i+1<p.length):qkw p (i+1)=zft 4 (qkw p i) p[i+1]:=by
 cases p with
 |nil=>simp at h
 | cons x r=>
  have hi:i<r.length:=by simpa using h
  simp only[qkw,List.take_succ_eq_append_getElem hi,List.foldl_append,List.foldl_cons,List.foldl_nil,List.getElem_cons_succ]
theorem qki {p:List Tr} (hp:p≠[]): ∀i,i<p.length→(pre (qkw p i)).length≤(zae (p.take (i+1))).length+i
 | 0,_=>by
  cases p with
  |nil=>exact absurd rfl hp
  |cons x r=>simp[qkw,zae]
 | i+1,h=>by
  rw[z3a h]
  have h1:=zmp 4 (qkw p i) p[i+1]
  have h2:=qki hp i (by omega)
  rw[List.take_succ_eq_append_getElem h,zbg,List.length_append]
  simp only[zae,List.append_nil];omega
theorem zro (p:List Tr)(i:Nat):(zae (p.take i)).length≤(zae p).length:=by
 conv=>rhs;rw[←List.take_append_drop i p]
 rw[zbg,List.length_append];omega
theorem qlo {p:List Tr} (hp:p≠[]):qkw p (p.length-1)=qpm p:=by
 cases p with
 |nil=>exact absurd rfl hp
 |cons x r=>simp[qkw,qpm]
def CR (t:Tr):Prop:=(pre t).all zdr=true
def CRL (l:List Tr):Prop:=(zae l).all zdr=true
theorem zct:CRL []:=by simp[CRL,zae]
theorem zaq (t:Tr)(l:List Tr):CRL (t::l)↔CR t∧CRL l:=by simp[CRL,CR,zae]
theorem zdm (a b:List Tr):CRL (a++b)↔CRL a∧CRL b:=by simp[CRL,zbg]
theorem zdi: ∀l:List Tr,CRL l↔ ∀t∈l,CR t
 |[]=>by simp[zct]
 |t::l=>by rw[zaq,zdi l];simp
theorem zbc (t:Tr):CR t↔zdr t=true∧CRL t.l:=by rw[CR,zcq,List.all_cons,Bool.and_eq_true];rfl
theorem zhj {t:Tr} {k:Nat}:zvc t k=false↔ ∀y∈t.l,y.k≠k:=by simp[zvc]
theorem qie {l:List Tr} (h:1<l.length)(h1: ∀t∈l,t.k≠1∧t.k≠3):zdr (.mk 3 0#256 0 0 l)=true:=by
 have e1:zvc (.mk 3 0#256 0 0 l) 1=false:=zhj.2 fun y hy=>(h1 y hy).1
 have e3:zvc (.mk 3 0#256 0 0 l) 3=false:=zhj.2 fun y hy=>(h1 y hy).2
 simp[zdq,zju,e1,e3];omega
theorem qjc {l:List Tr} (h:1<l.length)(h1: ∀t∈l,t.k≠4):zdr (.mk 4 0#256 0 0 l)=true:=by
 have e1:zvc (.mk 4 0#256 0 0 l) 4=false:=zhj.2 fun y hy=>h1 y hy
 simp[zdq,zju,e1];omega
theorem zua {t:Tr} {lo hi:Int} (h:t.k≠1)(hb:zdj lo hi=true):zdr (.mk 5 0#256 lo hi [t])=true:=by
 have e1:zvc (.mk 5 0#256 lo hi [t]) 1=false:=zhj.2 fun y hy=>by simp[Tr.l] at hy;subst hy;exact h
 simp[zdq,zju,e1,hb]
theorem qht (t:Tr):zdr (.mk 6 0#256 0 0 [t])=true:=by simp[zdq,zju]
theorem zev:zdr emptyT=true:=by simp[emptyT,zdq,zju]
theorem zib {t:Tr} (h:zdr t=true):t.k=1∨t.k=2∨t.k=3∨t.k=4∨t.k=5∨t.k=6:=by
 cases t with
 | mk k s mn mx l=>
  rw[zdq] at h
  simp only[Tr.k]
  by_cases h1:k=1; · exact .inl h1
  by_cases h2:k=2; · exact .inr (.inl h2)
  by_cases h3:k=3; · exact .inr (.inr (.inl h3))
  by_cases h4:k=4; · exact .inr (.inr (.inr (.inl h4)))
  by_cases h5:k=5; · exact .inr (.inr (.inr (.inr (.inl h5))))
  by_cases h6:k=6; · exact .inr (.inr (.inr (.inr (.inr h6))))
  exfalso
  have e: ∀n:Nat,k≠n→((k:Int)==n)=false:=fun n hn=>by simp;omega
  rw[show((k:Int)==1)=false from e 1 h1,show((k:Int)==2)=false from e 2 h2,show((k:Int)==3)=false from e 3 h3,show((k:Int)==4)=false from e 4 h4,show((k:Int)==5)=false from e 5 h5,show((k:Int)==6)=false from e 6 h6] at h
  simp at h
theorem zer {t:Tr} (h:zdr t=true)(hk:t.k=3):1<t.l.length∧ ∀y∈t.l,y.k≠1∧y.k≠3:=by
 cases t with
 | mk k s mn mx l=>
  simp only[Tr.k] at hk;subst hk
  rw[zdq] at h
  simp only[Bool.and_eq_true,Bool.not_eq_true'] at h
  have h2:=h.2
  simp only[show((((3:Nat):Int))==1)=false from rfl,show((((3:Nat):Int))==2)=false from rfl,show((((3:Nat):Int))==3)=true from rfl,cond_false,cond_true,Bool.and_eq_true,Bool.not_eq_true',decide_eq_true_eq] at h2
  exact⟨by simp only[Tr.l];omega,fun y hy=>⟨zhj.1 h2.1.2 y hy,zhj.1 h2.2 y hy⟩⟩
theorem zgo {t:Tr} (h:zdr t=true)(hk:t.k=4):1<t.l.length∧ ∀y∈t.l,y.k≠4:=by
 cases t with
 | mk k s mn mx l=>
  simp only[Tr.k] at hk;subst hk
  rw[zdq] at h
  simp only[Bool.and_eq_true,Bool.not_eq_true'] at h
  have h2:=h.2
  simp only[show((((4:Nat):Int))==1)=false from rfl,show((((4:Nat):Int))==2)=false from rfl,show((((4:Nat):Int))==3)=false from rfl,show((((4:Nat):Int))==4)=true from rfl,cond_false,cond_true,Bool.and_eq_true,Bool.not_eq_true',decide_eq_true_eq] at h2
  exact⟨by simp only[Tr.l];omega,fun y hy=>zhj.1 h2.2 y hy⟩
theorem zlo (t:Tr)(h5:t.k≠5)(h2:t.k≠2):zdf t=min (zcy t.l) 10001:=by
 cases t with
 |mk k s mn mx l=>simp only[Tr.k] at h5 h2;simp[zdf,h5,h2,Tr.l]
theorem zcv: ∀a b,zcy (a++b)=zcy a+zcy b
 |[],b=>by simp[zcy]
 |x::a,b=>by rw[List.cons_append,zcy,zcy,zcv a b];omega
theorem qle {l:List Tr} {x:Tr} (h:x∈l):zdf x≤zcy l:=by
 induction l with
 |nil=>cases h
 | cons y l ih=>
  rw[zcy]
  have h1:=zcu y
  have h2:=zck l
  rcases List.mem_cons.1 h with rfl|h
  ·omega
  ·have:=ih h;omega
theorem zmd:zdf emptyT=0:=by simp[emptyT,zdf,zcy];rfl
theorem z8r (l:List Nat):zdf (z9p l)=1:=by simp[z9p,zdf,zcy];rfl
def grT (t:Tr):Nat:=(pre t).countP fun x=>decide (x.k=6)
def grL (l:List Tr):Nat:=(zae l).countP fun x=>decide (x.k=6)
theorem zfe:grL []=0:=by simp[grL,zae]
theorem zda (t:Tr)(l:List Tr):grL (t::l)=grT t+grL l:=by simp[grL,grT,zae]
theorem zei (a b:List Tr):grL (a++b)=grL a+grL b:=by simp[grL,zbg]
theorem qqi (t:Tr):grT t=grL t.l+(if t.k=6 then 1 else 0):=by rw[grT,zcq,List.countP_cons];simp[grL]
theorem qkh (k:Nat)(s:BS)(mn mx:Int)(l:List Tr):grT (.mk k s mn mx l)=grL l+(if k=6 then 1 else 0):=qqi _
theorem z4f:grT emptyT=0:=by simp[emptyT,grT,pre,zae,Tr.k]
theorem qjf (l:List Nat):grT (z9p l)=0:=by simp[z9p,grT,pre,zae,Tr.k]
theorem zhz (kind:Nat):zar kind []=[]:=rfl
theorem zbv (kind:Nat)(x:Tr)(l:List Tr):zar kind (x::l)=(bif (x.k:Int)==kind then x.l else bif (kind:Int)==3&&(x.k:Int)==1 then[] else[x])++zar kind l:=by simp[zar]
theorem zlq (kind:Nat)(a b:List Tr):zar kind (a++b)=zar kind a++zar kind b:=by simp[zar]
def G3 (l:List Tr):Prop:=CRL l∧ ∀y∈l,y.k≠1∧y.k≠3
def G4 (l:List Tr):Prop:=CRL l∧ ∀y∈l,y.k≠4
theorem ziq: ∀ {l:List Tr},CRL l→G3 (zar 3 l)
 |[],_=>⟨zct,by simp[zar]⟩
 | x ::l,h=>by
  rw[zaq] at h
  obtain⟨g1,g2⟩:=ziq h.2
  have hx:=(zbc x).1 h.1
  rw[zbv]
  by_cases h3:x.k=3
  ·have e:((x.k:Int)==((3:Nat):Int))=true:=by simp[h3]
   rw[e,cond_true]
   refine⟨(zdm _ _).2 ⟨hx.2,g1⟩,fun y hy=> ?_⟩
   rcases List.mem_append.1 hy with hy|hy
   ·exact(zer hx.1 h3).2 y hy
   ·exact g2 y hy
  ·have e:((x.k:Int)==((3:Nat):Int))=false:=by simp;omega
   rw[e,cond_false]
   by_cases h1:x.k=1
   ·have e1:((((3:Nat):Int)==3)&&((x.k:Int)==1))=true:=by simp[h1]
    rw[e1,cond_true,List.nil_append];exact⟨g1,g2⟩
   ·have e1:((((3:Nat):Int)==3)&&((x.k:Int)==1))=false:=by simp;omega
    rw[e1,cond_false,List.singleton_append]
    refine⟨(zaq _ _).2 ⟨h.1,g1⟩,fun y hy=> ?_⟩
    rcases List.mem_cons.1 hy with rfl|hy
    ·exact⟨h1,h3⟩
    ·exact g2 y hy
theorem zlz: ∀ {l:List Tr},CRL l→G4 (zar 4 l)
 |[],_=>⟨zct,by simp[zar]⟩
 | x::l,h=>by
  rw[zaq] at h
  obtain⟨g1,g2⟩:=zlz h.2
  have hx:=(zbc x).1 h.1
  rw[zbv]
  by_cases h3:x.k=4
  ·have e:((x.k:Int)==((4:Nat):Int))=true:=by simp[h3]
   rw[e,cond_true]
   refine⟨(zdm _ _).2 ⟨hx.2,g1⟩,fun y hy=> ?_⟩
   rcases List.mem_append.1 hy with hy|hy
   ·exact(zgo hx.1 h3).2 y hy
   ·exact g2 y hy
  ·have e:((x.k:Int)==((4:Nat):Int))=false:=by simp;omega
   have e1:((((4:Nat):Int)==3)&&((x.k:Int)==1))=false:=by simp
   rw[e,cond_false,e1,cond_false,List.singleton_append]
   refine⟨(zaq _ _).2 ⟨h.1,g1⟩,fun y hy=> ?_⟩
   rcases List.mem_cons.1 hy with rfl|hy
   ·exact h3
   ·exact g2 y hy
theorem zga (kind:Nat)(x:Tr):zmw kind [x]=x:=rfl
theorem zen (kind:Nat)(x y:Tr)(l:List Tr):zmw kind (x::y::l)= .mk kind 0#256 0 0 (x::y::l):=by
 have e1:(((x::y::l).length:Int)==0)=false:=by simp;omega
 have e2:(((x::y::l).length:Int)==1)=false:=by simp;omega
 rw[zmw,e1,e2];rfl
theorem zmc: ∀ {l:List Tr},G3 l→CR (zmw 3 l)
 |[],_=>(zbc _).2 ⟨zev,zct⟩
 |[x],h=>(zdi _).1 h.1 x (by simp)
 |x::y::l,h=>by rw[zen];exact(zbc _).2 ⟨qie (by simp) h.2,h.1⟩
theorem z0n: ∀ {l:List Tr},G4 l→CR (zmw 4 l)
 |[],_=>(zbc _).2 ⟨zev,zct⟩
 |[x],h=>(zdi _).1 h.1 x (by simp)
 |x::y::l,h=>by rw[zen];exact(zbc _).2 ⟨qjc (by simp) h.2,h.1⟩
theorem qgg {a b:Tr} (ha:CR a)(hb:CR b):CR (zft 3 a b):=zmc (ziq ((zdi _).2 (by simp[ha,hb])))
theorem z2i {a b:Tr} (ha:CR a)(hb:CR b):CR (zft 4 a b):=z0n (zlz ((zdi _).2 (by simp[ha,hb])))
theorem z1g (kind:Nat)(hk:kind=3∨kind=4): ∀l:List Tr,zcy l≤10000→zcy (zar kind l)≤zcy l
 |[],_=>by simp[zar,zcy]
 | x ::l,h=>by
  rw[zcy] at h
  have h1:=zcu x
  have h2:=zck l
  have ih:=z1g kind hk l (by omega)
  rw[zbv,zcv,zcy]
  have:zcy (bif (x.k:Int)==kind then x.l else bif (kind:Int)==3&&(x.k:Int)==1 then[] else[x])≤zdf x:=by
   cases e:(x.k:Int)==kind
   ·rw[cond_false]
    cases (kind:Int)==3&&(x.k:Int)==1
    ·simp[zcy]
    ·simp[zcy];omega
   ·rw[cond_true]
    have e':x.k=kind:=by simp at e;omega
    have:=zlo x (by omega) (by omega)
    omega
  omega
theorem qmy (kind:Nat)(hk:kind=3∨kind=4): ∀l:List Tr,zdf (zmw kind l)≤zcy l
 |[]=>by rw[show zmw kind []=emptyT from rfl,zmd];simp[zcy]
 |[x]=>by rw[zga];simp[zcy]
 | x::y::l=>by
  rw[zen,zlo _ (by simp only[Tr.k];omega) (by simp only[Tr.k];omega)]
  simp only[Tr.l];omega
theorem zvk (kind:Nat)(hk:kind=3∨kind=4) {a b:Tr} (h:zdf a+zdf b≤10000):zdf (zft kind a b)≤zdf a+zdf b:=by
 have h0:zcy [a,b]=zdf a+zdf b:=by simp[zcy]
 have h1:=z1g kind hk [a,b] (by omega)
 have h2:=qmy kind hk (zar kind [a,b])
 rw[zft];omega
theorem z9q (kind:Nat)(hk:kind=3∨kind=4): ∀l:List Tr,CRL l→grL (zar kind l)≤grL l
 |[],_=>by simp[zar]
 | x ::l,h=>by
  rw[zaq] at h
  have ih:=z9q kind hk l h.2
  rw[zbv,zei,zda]
  have:grL (bif (x.k:Int)==kind then x.l else bif (kind:Int)==3&&(x.k:Int)==1 then[] else[x])≤grT x:=by
   cases e:(x.k:Int)==kind
   ·rw[cond_false]
    cases (kind:Int)==3&&(x.k:Int)==1
    ·rw[cond_false,zda,zfe];omega
    ·rw[cond_true,zfe];omega
   ·rw[cond_true]
    have:=qqi x;omega
  omega
theorem endJ_gr (kind:Nat)(hk:kind=3∨kind=4): ∀l:List Tr,grT (zmw kind l)≤grL l
 |[]=>by rw[show zmw kind []=emptyT from rfl,z4f];omega
 |[x]=>by rw[zga,zda];omega
 | x::y::l=>by
  rw[zen,qkh,if_neg (by omega)];omega
theorem zze (kind:Nat)(hk:kind=3∨kind=4) {a b:Tr} (ha:CR a)(hb:CR b):grT (zft kind a b)≤grT a+grT b:=by
 have h1:=z9q kind hk [a,b] ((zdi _).2 (by simp[ha,hb]))
 have h2:=endJ_gr kind hk (zar kind [a,b])
 simp only[zda,zfe] at h1
 rw[zft];omega
structure OkM (st:MSt)(i:Nat):Prop where
 cr:CRL st.1
 pos:zcy st.1≤(i:Int)*st.2.1
 gr:(grL st.1:Int)≤st.2.2
theorem zxs {p:List Tr} (h:0<p.length):p=p.take (p.length-1)++[zfq p 1]:=by
 rw[zjf (by omega) (by omega)]
 conv=>lhs;rw[←List.take_append_drop (p.length-1) p]
 rw[List.drop_eq_getElem_cons (by omega),List.drop_of_length_le (by omega)]
theorem z4b {p:List Tr} (h:2≤p.length):p=p.take (p.length-2)++[zfq p 2,zfq p 1]:=by
 rw[zjf (i:=2) (by omega) (by omega),zjf (i:=1) (by omega) (by omega)]
 conv=>lhs;rw[←List.take_append_drop (p.length-2) p]
 rw[List.drop_eq_getElem_cons (by omega),List.drop_eq_getElem_cons (by omega),List.drop_of_length_le (by omega)]
 simp only[show p.length-2+1=p.length-1 by omega]
theorem qav {p:List Tr} (h:0<p.length)(y:Tr):p.set (p.length-1) y=p.take (p.length-1)++[y]:=by
 rw[List.set_eq_take_append_cons_drop,if_pos (by omega),List.drop_of_length_le (by omega)]
theorem qha: ∀j,j<12→zdr (z9p (zwj j))=true:=by decide+kernel
theorem qpz {j:Nat} (h:j<12):CR (z9p (zwj j)):=(zbc _).2 ⟨qha j h,zct⟩
theorem qfe (x:Sm):zdj (loM x) (moM x)=true:=by
 have h1:x.2.1%3<3:=Nat.mod_lt _ (by decide)
 have h2:x.2.2%4<4:=Nat.mod_lt _ (by decide)
 unfold moM badM loM m4
 generalize x.2.1%3=a at*
 generalize x.2.2%4=b at*
 have key: ∀a,a<3→ ∀b,b<4→zdj ((a:Nat):Int) (bif decide (((b:Nat):Int)<(a:Int))||(b:Int)==0||(a:Int)==1&&(b:Int)==1 then-1 else(b:Int))=true:=by decide
 exact key a h1 b h2
theorem z8j (x:Sm)(t:Tr):zdf (.mk 5 0#256 (loM x) (moM x) [t])≤zdf t*tmM x:=by
 have h1:x.2.1%3<3:=Nat.mod_lt _ (by decide)
 have h2:x.2.2%4<4:=Nat.mod_lt _ (by decide)
 have h0:=zcu t
 have hlo:0≤loM x:=by unfold loM;omega
 have hf:min (if moM x= -1 then max (max (loM x) 0) 1 else max (max (loM x) 0) (moM x)) 10001≤tmM x:=by
  unfold tmM
  split
  ·rename_i e;rw[e];omega
  ·omega
 have hm:=Int.mul_le_mul_of_nonneg_left hf h0
 simp only[zdf,zcy,if_true,if_neg (show ¬(5=2) by decide),Int.add_zero,Int.zero_add]
 omega
theorem qnq {st:MSt} {i:Nat} (x:Sm)(h:OkM st i)(hi:i≤25)(hv:0≤st.2.2∧st.2.2≤9∧1≤st.2.1∧st.2.1≤16):OkM (zru st x) (i+1):=by
 obtain⟨c,p,g⟩:=h
 obtain⟨v1,v2,v3,v4⟩:=hv
 have e0:((i+1:Nat):Int)*st.2.1=(i:Int)*st.2.1+st.2.1:=by rw[Int.natCast_add,Int.add_mul];simp
 have e400:(i:Int)*st.2.1≤400:=by
  have:=Int.mul_le_mul (show(i:Int)≤25 by omega) v4 (by omega) (by omega)
  omega
 have c0:=(zdi _).1 c
 unfold zru
 cases decide (kI x<4)
 ·cases kI x==4
  ·cases hA:cA st.1 x
   ·cases hB:cB st.1 x
    ·cases hC:cC st.1 st.2.2 x
     ·cases hD:cD st.1 x
      ·simp only[cond_false];exact⟨c,by omega,g⟩
      ·simp only[cond_false,cond_true]
       cases hT:decide (st.2.1*tmM x≤16)
       ·simp only[cond_false];exact⟨c,by omega,g⟩
       ·simp only[cond_true]
        unfold cD at hD
        simp only[Bool.and_eq_true,decide_eq_true_eq,bne_iff_ne,ne_eq] at hD
        have hp:0<st.1.length:=by omega
        have es:=zxs hp
        rw[qav hp]
        rw[es,zdm,zaq] at c
        rw[es,zcv] at p
        rw[es,zei,zda,zfe] at g
        simp only[zcy,Int.add_zero] at p
        refine⟨(zdm _ _).2 ⟨c.1,(zaq _ _).2 ⟨(zbc _).2 ⟨zua (by omega) (qfe x),(zaq _ _).2 ⟨c.2.1,zct⟩⟩,zct⟩⟩,?_,?_⟩
        ·have h1:=z8j x (zfq st.1 1)
         have h2:=zck (st.1.take (st.1.length-1))
         have h3:=(qjz x).1
         rw[zcv]
         simp only[zcy,Int.add_zero]
         have h4:=Int.mul_le_mul_of_nonneg_right p (show 0≤tmM x by omega)
         have h5:=Int.mul_le_mul_of_nonneg_left h3 h2
         rw[Int.add_mul] at h4
         have e1:((i+1:Nat):Int)*(st.2.1*tmM x)=(i:Int)*st.2.1*tmM x+st.2.1*tmM x:=by
          rw[Int.natCast_add,Int.add_mul,Int.mul_assoc];simp
         have h6:0≤st.2.1*tmM x:=Int.mul_nonneg (by omega) (by omega)
         rw[e1];omega
        ·dsimp only;rw[zei,zda,zfe,qkh,zda,zfe,if_neg (by decide)];omega
     ·simp only[cond_false,cond_true]
      unfold cC at hC
      simp only[Bool.and_eq_true,decide_eq_true_eq] at hC
      have hp:0<st.1.length:=by omega
      have es:=zxs hp
      rw[qav hp]
      rw[es,zdm,zaq] at c
      rw[es,zcv] at p
      rw[es,zei,zda,zfe] at g
      simp only[zcy,Int.add_zero] at p
      refine⟨(zdm _ _).2 ⟨c.1,(zaq _ _).2 ⟨(zbc _).2 ⟨qht _,(zaq _ _).2 ⟨c.2.1,zct⟩⟩,zct⟩⟩,?_,?_⟩
      ·rw[zcv,zcy,zlo _ (by simp only[Tr.k];omega) (by simp only[Tr.k];omega)]
       simp only[Tr.l,zcy,Int.add_zero];omega
      ·dsimp only;rw[zei,zda,zfe,qkh,zda,zfe,if_pos rfl];omega
    ·simp only[cond_false,cond_true]
     unfold cB at hB
     simp only[Bool.and_eq_true,decide_eq_true_eq] at hB
     have hp:2≤st.1.length:=by omega
     have es:=z4b hp
     rw[es,zdm,zaq,zaq] at c
     rw[es,zcv] at p
     rw[es,zei,zda,zda,zfe] at g
     simp only[zcy,Int.add_zero] at p
     have n0:=zck (st.1.take (st.1.length-2))
     refine⟨(zdm _ _).2 ⟨c.1,(zaq _ _).2 ⟨z2i c.2.1 c.2.2.1,zct⟩⟩,?_,?_⟩
     ·have:=zvk 4 (.inr rfl) (a:=zfq st.1 2) (b:=zfq st.1 1) (by omega)
      rw[zcv];simp only[zcy,Int.add_zero];omega
     ·dsimp only;have:=zze 4 (.inr rfl) c.2.1 c.2.2.1
      rw[zei,zda,zfe];omega
   ·simp only[cond_false,cond_true]
    unfold cA at hA
    simp only[Bool.and_eq_true,decide_eq_true_eq] at hA
    have hp:2≤st.1.length:=by omega
    have es:=z4b hp
    rw[es,zdm,zaq,zaq] at c
    rw[es,zcv] at p
    rw[es,zei,zda,zda,zfe] at g
    simp only[zcy,Int.add_zero] at p
    have n0:=zck (st.1.take (st.1.length-2))
    refine⟨(zdm _ _).2 ⟨c.1,(zaq _ _).2 ⟨qgg c.2.1 c.2.2.1,zct⟩⟩,?_,?_⟩
    ·have:=zvk 3 (.inl rfl) (a:=zfq st.1 2) (b:=zfq st.1 1) (by omega)
     rw[zcv];simp only[zcy,Int.add_zero];omega
    ·dsimp only;have:=zze 3 (.inl rfl) c.2.1 c.2.2.1
     rw[zei,zda,zfe];omega
  ·simp only[cond_false,cond_true]
   refine⟨(zdm _ _).2 ⟨c,(zaq _ _).2 ⟨(zbc _).2 ⟨zev,zct⟩,zct⟩⟩,?_,?_⟩
   ·rw[zcv];simp only[zcy,zmd];omega
   ·dsimp only;rw[zei,zda,zfe,z4f];omega
 ·simp only[cond_true]
  refine⟨(zdm _ _).2 ⟨c,(zaq _ _).2 ⟨qpz (Nat.mod_lt _ (by decide)),zct⟩⟩,?_,?_⟩
  ·rw[zcv];simp only[zcy,z8r];omega
  ·dsimp only;rw[zei,zda,zfe,qjf];omega
theorem okM (l:List Sm)(hl:l.length≤25): ∀i,i≤l.length→OkM (MM l i) i
 |0,_=>⟨by simp[MM];exact zct,by simp[MM,zcy],by simp[MM,zfe]⟩
 | i+1,h=>by
  rw[z6l l i (by omega)]
  have:=invM l i (by omega)
  exact qnq _ (okM l hl i (by omega)) (by omega) ⟨this.2.1,this.2.2.1,this.2.2.2.1,this.2.2.2.2⟩
theorem qeu: ∀(r:List Tr) (x:Tr),CR x→CRL r→zdf x+zcy r≤400→
 CR (r.foldl (zft 4) x)∧zdf (r.foldl (zft 4) x)≤zdf x+zcy r∧grT (r.foldl (zft 4) x)≤grT x+grL r∧(pre (r.foldl (zft 4) x)).length≤(pre x).length+(zae r).length+r.length
 |[],x,h,_,_=>by simp[zcy,zfe,zae,h]
 | y::r,x,h,hr,hp=>by
  rw[zaq] at hr
  rw[zcy] at hp
  have n1:=zck r
  have j1:=zvk 4 (.inr rfl) (a:=x) (b:=y) (by omega)
  have j2:=zze 4 (.inr rfl) h hr.1
  have j3:=zmp 4 x y
  obtain⟨k1,k2,k3,k4⟩:=qeu r (zft 4 x y) (z2i h hr.1) hr.2 (by omega)
  rw[List.foldl_cons,zcy,zda,zae,List.length_append,List.length_cons]
  exact⟨k1,by omega,by omega,by omega⟩
theorem made_ok (l:List Sm):CR (zub l)∧zdf (zub l)≤400∧grT (zub l)≤9∧(pre (zub l)).length≤50:=by
 obtain⟨m,hm⟩: ∃m,l.take 25=m:=⟨_,rfl⟩
 have hlen:m.length≤25:=by rw[←hm,List.length_take];omega
 rw[zub,hm]
 have e:MM m 25=MM m m.length:=by rw[MM,MM,List.take_of_length_le hlen,List.take_length]
 rw[e]
 have o:=okM m hlen m.length (Nat.le_refl _)
 have v:=invM m m.length (Nat.le_refl _)
 obtain⟨c,p,g⟩:=o
 have p400:zcy (MM m m.length).1≤400:=by
  have:=Int.mul_le_mul (show(m.length:Int)≤25 by omega) v.2.2.2.2 (by omega) (by omega)
  omega
 match h:(MM m m.length).1 with
 |[]=>exact⟨qpz (j:=0) (by decide),by rw[qpm,z8r];omega,by rw[qpm,qjf];omega,by simp[qpm,z9p,pre,zae]⟩
 | x::r=>
  rw[h] at c p400 g v
  rw[zaq] at c
  rw[zcy] at p400
  rw[zda] at g
  have hv:=v.1
  rw[zae,List.length_append] at hv
  obtain⟨k1,k2,k3,k4⟩:=qeu r x c.1 c.2 (by omega)
  have hr:=zan r
  rw[qpm]
  exact⟨k1,by omega,by omega,by omega⟩
theorem zij {t:Tr} (h:CR t)(hl:(pre t).length≤10000):zch t=true:=by
 rw[zch,zbj,Bool.and_eq_true];exact⟨by simpa using hl,h⟩
def z6a (lo hi:Int):Bool:=(decide (lo≥0)&&decide (lo≤16))&&(hi== -1||(decide (hi≥lo)&&decide (hi≤16)))
theorem zgu (lo hi:Int):z6a lo hi=true↔0≤lo∧lo≤16∧(hi= -1∨(lo≤hi∧hi≤16)):=by simp[z6a];omega
theorem zdn (lo hi:Int):zdj lo hi=true↔(0≤lo∧lo≤16∧ ¬(lo=1∧hi=1))∧(hi= -1∨(1≤hi∧hi≤16∧lo≤hi)):=by simp[zdj];omega
structure MT (t:Tr):Prop where
 cr:CR t
 pos:zdf t≤400
 gr:grT t≤9
 len:(pre t).length≤50
theorem MT.clean {t:Tr} (h:MT t):zch t=true:=zij h.cr (by have:=h.len;omega)
theorem MT.light {t:Tr} (h:MT t):zbj t=true:=by have:=h.len;simp[zbj];omega
theorem MT.good {t:Tr} (h:MT t):zms t=true:=by rw[zms,h.clean,Bool.or_true]
theorem MT.k0 {t:Tr} (h:MT t):t.k≠0:=by have:=zib ((zbc t).1 h.cr).1;omega
theorem qei {t:Tr} (h:zbj t=true):zkm t t=true:=by rw[zkm,h,(zlh t t).2 rfl];rfl
theorem flatT3 (l:List Tr):zjd 3 1 l=zar 3 l:=by
 unfold zjd zar
 congr 1
theorem qqc: ∀ {l:List Tr},(∀t∈l,t.k≠0)→zjd 4 0 l=zar 4 l
 |[],_=>rfl
 | x::l,h=>by
  have ih:=qqc (l:=l) fun t ht=>h t (List.mem_cons_of_mem _ ht)
  have e0:((x.k:Int)==((0:Nat):Int))=false:=by have:=h x (by simp);simp;omega
  rw[zbv,←ih,zjd,List.flatMap_cons,←zjd,e0]
  rfl
def CS (n:Nat)(t:Tr):Prop:=CR t∧(pre t).length≤n
theorem MT.cs {t:Tr} (h:MT t):CS 50 t:=⟨h.cr,h.len⟩
theorem CR.k0 {t:Tr} (h:CR t):t.k≠0:=by have:=zib ((zbc t).1 h).1;omega
theorem qew {t:Tr} (h:CR t)(hk:t.k=1):t=emptyT:=by
 have hr:=((zbc t).1 h).1
 cases t with
 | mk k s mn mx l=>
  simp only[Tr.k] at hk;subst hk
  rw[zdq,zju] at hr
  simp only[Bool.and_eq_true,Bool.not_eq_true',Bool.or_eq_false_iff] at hr
  obtain⟨⟨⟨h1,h2⟩,h3⟩,_⟩:=hr
  simp at h1 h2 h3
  have hl:l=[]:=by cases l with|nil=>rfl|cons x l=>simp at h3
  rw[h1,h2.1,h2.2,hl];rfl
theorem eta_of {t:Tr} {kind:Nat} (h:CR t)(hk:t.k=kind)(h2:kind=3∨kind=4):t= .mk kind 0#256 0 0 t.l:=by
 have hr:=((zbc t).1 h).1
 cases t with
 | mk k s mn mx l=>
  simp only[Tr.k] at hk;subst hk
  rw[zdq,zju] at hr
  simp only[Bool.and_eq_true,Bool.not_eq_true',Bool.or_eq_false_iff] at hr
  obtain⟨⟨⟨h1,h3⟩,_⟩,_⟩:=hr
  have e2:((k:Int) !=2)=true:=by simp;omega
  have e5:((k:Int) !=5)=true:=by simp;omega
  rw[e2,Bool.true_and] at h1
  rw[e5,Bool.true_and] at h3
  simp at h1 h3
  rw[h1,h3.1,h3.2];rfl
theorem zhm (kind:Nat): ∀l:List Tr,(pre (zmw kind l)).length≤(zae l).length+1
 |[]=>by rw[show zmw kind []=emptyT from rfl];simp[emptyT,pre,zae]
 |[x]=>by rw[zga];simp[zae]
 |x::y::l=>by rw[zen,pre,List.length_cons];omega
theorem zkh {t:Tr} (h:zch t=true):zhl t=t:=by rw[zhl,if_pos h]
theorem z9n {l:List Tr} (h:CRL l)(hl:l≠[]):zar 4 l≠[]:=by
 cases l with
 |nil=>exact absurd rfl hl
 | cons x l=>
  rw[zaq] at h
  rw[zbv]
  by_cases h4:x.k=4
  ·have e:((x.k:Int)==((4:Nat):Int))=true:=by simp[h4]
   rw[e,cond_true]
   have hlen:=(zgo ((zbc x).1 h.1).1 h4).1
   intro hn
   have h1:=(List.append_eq_nil_iff.1 hn).1
   rw[h1] at hlen
   simp at hlen
  ·have e:((x.k:Int)==((4:Nat):Int))=false:=by simp;omega
   have e1:((((4:Nat):Int)==3)&&((x.k:Int)==1))=false:=by simp
   rw[e,cond_false,e1,cond_false]
   simp
theorem or_eq {l:List Tr} (h:CRL l)(hne:l≠[])(hl:(zae l).length≤1000):orT l=zmw 4 (zar 4 l):=by
 have hc:=(zdi l).1 h
 have hln: ∀t∈l,(pre t).length≤1000:=fun t ht=>by
  have: ∀(l:List Tr),t∈l→(pre t).length≤(zae l).length:=by
   intro l
   induction l with
   |nil=>intro h;cases h
   | cons y l ih=>
    intro h
    rw[zae,List.length_append]
    rcases List.mem_cons.1 h with rfl|h
    ·omega
    ·have:=ih h;omega
  have:=this l ht;omega
 have ha:(l.any fun x=> !zms x)=false:=by
  rw[List.any_eq_false]
  intro x hx
  have h1:=zij (hc x hx) (by have:=hln x hx;omega)
  rw[zms,h1];simp
 rw[orT,ha,if_neg (by decide),qqc fun t ht=>(hc t ht).k0]
 have g:=zlz h
 have hn:=z9n h hne
 have hfl:=zez 4 l
 have hend:=zhm 4 (zar 4 l)
 have hcr:=z0n g
 revert hend hcr hn
 generalize zar 4 l=m at g hfl
 intro hn hend hcr
 match m,g,hend,hcr,hn with
 |[],_,_,_,hn=>exact absurd rfl hn
 | [x],_,hend,hcr,_=>
  rw[zga] at hend hcr⊢
  show zhl x=x
  exact zkh (zij hcr (by omega))
 | x::y::m,_,hend,hcr,_=>
  rw[zen] at hend hcr⊢
  have e1:(((x::y::m).length:Int)==0)=false:=by simp;omega
  have e2:(((x::y::m).length:Int)==1)=false:=by simp;omega
  rw[zpx,e1,e2]
  exact zkh (zij hcr (by omega))
theorem z4y: ∀ {m:List Tr},G3 m→zar 3 [zmw 3 m]=m
 |[],_=>rfl
 | [x],h=>by
  have hx:=h.2 x (by simp)
  rw[zga,zbv,zhz]
  have e:((x.k:Int)==((3:Nat):Int))=false:=by simp;omega
  have e1:((((3:Nat):Int)==3)&&((x.k:Int)==1))=false:=by simp;omega
  rw[e,cond_false,e1];rfl
 |x::y::m,_=>by rw[zen,zbv,zhz,List.append_nil];rfl
theorem ztn {t:Tr} (h:CR t):zmw 3 (zar 3 [t])=t:=by
 rw[zbv,zhz,List.append_nil]
 by_cases h3:t.k=3
 ·have e:((t.k:Int)==((3:Nat):Int))=true:=by simp[h3]
  rw[e,cond_true]
  have hl:=(zer ((zbc t).1 h).1 h3).1
  have he:=eta_of h h3 (.inl rfl)
  match hm:t.l,hl with
  |x::y::m,_=>rw[zen,←hm];exact he.symm
  |[],hl=>simp at hl
  |[x],hl=>simp at hl
 ·have e:((t.k:Int)==((3:Nat):Int))=false:=by simp;omega
  rw[e,cond_false]
  by_cases h1:t.k=1
  ·rw[qew h h1];rfl
  ·have e1:((((3:Nat):Int)==3)&&((t.k:Int)==1))=false:=by simp;omega
   rw[e1];rfl
def qln (c:Int):List AV:=[.raw (.int .u8 c)]
theorem z8b: ∀j:Nat,j<256→zyj .u8 (j:Int) 6=((j/64:Nat):Int)∧z3m .u8 (j:Int) 63=((j%64:Nat):Int)∧IntKind.u8.wrap (j:Int)=(j:Int):=by decide+kernel
theorem z1v {n:Nat} (h:n<2^64):IntKind.u64.wrap (n:Int)=(n:Int):=by
 simp only[IntKind.wrap,IntKind.bits,IntKind.signed]
 simp;omega
theorem zzt (w:BitVec 64):IntKind.u64.wrap ((w.toNat:Nat):Int)=((w.toNat:Nat):Int):=z1v w.isLt
theorem zpl (x:BitVec 64):BitVec.ofInt 64 ((x.toNat:Nat):Int)=x:=by
 apply BitVec.eq_of_toNat_eq;simp
theorem orI64 (x y:BitVec 64):orI .u64 (x.toNat:Int) (y.toNat:Int)=((x|||y).toNat:Int):=by
 show IntKind.u64.wrap (((BitVec.ofInt 64 (x.toNat:Int)|||BitVec.ofInt 64 (y.toNat:Int)).toNat:Nat):Int)=_
 rw[zpl,zpl];exact zzt _
theorem qgh (x y:BitVec 64):zpy .u64 (x.toNat:Int) (y.toNat:Int)=((x&&& ~~~ y).toNat:Int):=by
 show IntKind.u64.wrap (((BitVec.ofInt 64 (x.toNat:Int)&&& ~~~ BitVec.ofInt 64 (y.toNat:Int)).toNat:Nat):Int)=_
 rw[zpl,zpl];exact zzt _
theorem wd_or (a b:BS)(i:Nat):orI .u64 (wd a i) (wd b i)=wd (a|||b) i:=by
 unfold wd
 rw[orI64]
 have:W64 a i|||W64 b i=W64 (a|||b) i:=by
  apply BitVec.eq_of_getLsbD_eq
  intro j hj
  simp only[W64,BitVec.getLsbD_or,BitVec.getLsbD_extractLsb',hj,decide_true,Bool.true_and]
 rw[this]
theorem zzc (a b:BS)(i:Nat)(hi:i<4):zpy .u64 (wd a i) (wd b i)=wd (a&&& ~~~ b) i:=by
 unfold wd
 rw[qgh]
 have:W64 a i&&& ~~~ W64 b i=W64 (a&&& ~~~ b) i:=by
  apply BitVec.eq_of_getLsbD_eq
  intro j hj
  simp only[W64,BitVec.getLsbD_and,BitVec.getLsbD_not,BitVec.getLsbD_extractLsb',hj,decide_true,Bool.true_and]
  have:64*i+j<256:=by omega
  simp[this]
 rw[this]
theorem qmm (w:BitVec 64)(r:Nat)(hr:r<64):(z3m .u64 (zyj .u64 ((w.toNat:Nat):Int) (r:Int)) 1==1)=w.getLsbD r:=by
 have hw:=w.isLt
 have h1:zyj .u64 ((w.toNat:Nat):Int) (r:Int)=((w.toNat/2^r:Nat):Int):=by
  unfold zyj
  rw[show min (r:Int).toNat IntKind.u64.bits=r from by simp[IntKind.bits];omega]
  rw[Int.fdiv_eq_ediv_of_nonneg _ (by exact_mod_cast Nat.zero_le _)]
  norm_cast
 rw[h1]
 have h2:w.toNat/2^r<2^64:=Nat.lt_of_le_of_lt (Nat.div_le_self _ _) hw
 show(IntKind.u64.wrap (((BitVec.ofInt 64 ((w.toNat/2^r:Nat):Int)&&&BitVec.ofInt 64 1).toNat:Nat):Int)==1)=_
 have h3:(BitVec.ofInt 64 ((w.toNat/2^r:Nat):Int)&&&BitVec.ofInt 64 1).toNat=w.toNat/2^r%2:=by
  rw[BitVec.toNat_and]
  have e1:(BitVec.ofInt 64 ((w.toNat/2^r:Nat):Int)).toNat=w.toNat/2^r:=by
   rw[BitVec.ofInt_natCast,BitVec.toNat_ofNat];exact Nat.mod_eq_of_lt h2
  have e2:(BitVec.ofInt 64 1).toNat=1:=rfl
  rw[e1,e2,Nat.and_one_is_mod]
 rw[h3]
 have h4:w.toNat/2^r%2<2:=Nat.mod_lt _ (by decide)
 have h5:IntKind.u64.wrap ((w.toNat/2^r%2:Nat):Int)=((w.toNat/2^r%2:Nat):Int):=z1v (Nat.lt_trans h4 (by decide))
 rw[h5,BitVec.getLsbD,Nat.testBit_eq_decide_div_mod_eq]
 generalize w.toNat/2^r%2=m
 rw[Bool.eq_iff_iff];simp only[beq_iff_eq,decide_eq_true_eq];omega
def elN (s:BS)(i:Nat):List Nat:=(List.range i).filter fun j=>s.getLsbD j
def els (s:BS):List Int:=(elN s 256).map fun(j:Nat)=>(j:Int)
theorem qbc (s:BS)(i:Nat):elN s (i+1)=elN s i++(if s.getLsbD i=true then[i] else[]):=by
 rw[elN,List.range_succ,List.filter_append];simp[elN,List.filter_cons]
theorem qjw (s:BS) {i:Nat} (h:s.getLsbD i=true): ∀k,i<k→(elN s k)[(elN s i).length]? =some i
 |0,hk=>by omega
 | k+1,hk=>by
  rw[qbc]
  by_cases e:i=k
  ·subst e;rw[if_pos h];simp
  ·have ih:=qjw s h k (by omega)
   rw[List.getElem?_append_left (List.getElem?_eq_some_iff.1 ih).1];exact ih
def znn (x y:Int):Int:=if x<y then-1 else if x>y then 1 else 0
def zxf (p q:Nat→Bool):List Nat→Int
 |[]=>0
 |j::l=>if p j=q j then zxf p q l else if p j=true then-1 else 1
def zxv (s t:BS):Int:=zxf s.getLsbD t.getLsbD (List.range 256)
theorem ztd (p q:Nat→Bool): ∀l,zxf p q l= -zxf q p l
 |[]=>rfl
 | j::l=>by
  rw[zxf,zxf]
  by_cases h:p j=q j
  ·rw[if_pos h,if_pos h.symm,ztd p q l]
  ·rw[if_neg h,if_neg (Ne.symm h)]
   cases hp:p j<;>cases hq:q j<;>simp_all
theorem zyd (p q:Nat→Bool): ∀l,zxf p q l= -1∨zxf p q l=0∨zxf p q l=1
 |[]=> .inr (.inl rfl)
 | j::l=>by
  rw[zxf]
  split
  ·exact zyd p q l
  ·split
   ·exact .inl rfl
   ·exact .inr (.inr rfl)
theorem z2e (p q:Nat→Bool): ∀l,zxf p q l=0↔ ∀j∈l,p j=q j
 |[]=>by simp[zxf]
 | j::l=>by
  rw[zxf]
  by_cases h:p j=q j
  ·rw[if_pos h,z2e p q l];simp[h]
  ·rw[if_neg h]
   constructor
   ·intro e;split at e<;>simp at e
   ·intro e;exact absurd (e j (by simp)) h
theorem zqd (p q r:Nat→Bool): ∀l,zxf p q l≤0→zxf q r l≤0→zxf p r l≤0
 |[],_,_=>by simp[zxf]
 | j::l,h1,h2=>by
  rw[zxf] at h1 h2⊢
  have ih:=zqd p q r l
  cases hp:p j<;>cases hq:q j<;>cases hr:r j<;>simp[hp,hq,hr] at h1 h2⊢ <;>first|exact ih h1 h2|skip
theorem z3h (s t:BS):zxv s t=0↔s=t:=by
 rw[zxv,z2e]
 constructor
 ·intro h;apply BitVec.eq_of_getLsbD_eq;intro j hj;exact h j (List.mem_range.2 hj)
 ·rintro rfl j _;rfl
theorem zxy (p q:Nat→Bool)(d:Nat→Bool)(l:List Nat)(hd: ∀j∈l,d j=(p j !=q j)):zxf p q l=(match l.filter d with|[]=>0|c::_=>if p c=true then-1 else 1):=by
 induction l with
 |nil=>rfl
 | cons j l ih=>
  have h:=hd j (by simp)
  rw[zxf,List.filter_cons]
  by_cases e:p j=q j
  ·rw[if_pos e,if_neg (by rw[h,e];simp)]
   exact ih fun k hk=>hd k (by simp[hk])
  ·have hb:d j=true:=by rw[h];simpa using e
   rw[if_neg e,hb];rfl
def zfa (c d:Int):Int:=if c≠0 then c else d
def z6o (mx:Int):Int:=if mx= -1 then 9223372036854775807 else mx
mutual
def zjc:Tr→Tr→Int
 | .mk k s mn mx l,.mk k' s' mn' mx' l'=>if k≠k' then znn k k' else if k=2 then zxv s s' else if k=5 then zfa (zfa (znn mn mn') (znn (z6o mx) (z6o mx'))) (zkk l l') else if k=0∨k=1 then 0 else zkk l l'
def zkk:List Tr→List Tr→Int
 |[],[]=>0
 |[],_::_=> -1
 |_::_,[]=>1
 |x::a,y::b=>zfa (zjc x y) (zkk a b)
end
theorem zvv (x y:Int):znn x y= -znn y x:=by unfold znn;split<;>split<;>(try split)<;>omega
theorem zpq (x y:Int):znn x y= -1∨znn x y=0∨znn x y=1:=by unfold znn;split<;>(try split)<;>simp
theorem zuz (x y:Int):znn x y=0↔x=y:=by unfold znn;split<;>(try split)<;>omega
theorem zvz (x y:Int):znn x y≤0↔x≤y:=by unfold znn;split<;>(try split)<;>omega
theorem zni {c d:Int} (h:c= -1∨c=0∨c=1)(k:d= -1∨d=0∨d=1):zfa c d= -1∨zfa c d=0∨zfa c d=1:=by unfold zfa;split<;>assumption
theorem zqa {c d c' d':Int} (h:c= -c')(k:d= -d'):zfa c d= -zfa c' d':=by unfold zfa;split<;>split<;>omega
theorem zqh {c d:Int}:zfa c d=0↔c=0∧d=0:=by unfold zfa;split<;>omega
theorem zvy {m m' m'' d d' d'':Int} (h:d≤0→d'≤0→d''≤0):zfa (znn m m') d≤0→zfa (znn m' m'') d'≤0→zfa (znn m m'') d''≤0:=by
 unfold zfa znn
 repeat' split
 all_goals first|omega|(intro h1 h2;first|omega|exact h h1 h2)
theorem z6f {xy yx yz zy xz zx d d' d'':Int} (a1:xy= -yx)(a2:yz= -zy)(a3:xz= -zx)(t1:xy≤0→yz≤0→xz≤0)(t2:yz≤0→zx≤0→yx≤0)(t3:zx≤0→xy≤0→zy≤0)(h:d≤0→d'≤0→d''≤0):
 zfa xy d≤0→zfa yz d'≤0→zfa xz d''≤0:=by
 unfold zfa
 intro h1 h2
 split at h1<;>split at h2<;>split<;>first|omega|exact h h1 h2
def SetG (S:Tr→Prop):Prop:=(∀x y,S x→S y→zjc x y= -zjc y x)∧(∀x y z,S x→S y→S z→zjc x y≤0→zjc y z≤0→zjc x z≤0)
theorem z1y {S:Tr→Prop} (g:SetG S): ∀a b,(∀x∈a,S x)→(∀x∈b,S x)→zkk a b= -zkk b a
 |[],[],_,_=>by simp[zkk]
 |[],_::_,_,_=>by simp[zkk]
 |_::_,[],_,_=>by simp[zkk]
 | x::a,y::b,ha,hb=>by
  rw[zkk,zkk]
  exact zqa (g.1 x y (ha x (by simp)) (hb y (by simp))) (z1y g a b (fun z hz=>ha z (by simp[hz])) (fun z hz=>hb z (by simp[hz])))
theorem zye {S:Tr→Prop} (g:SetG S): ∀a b c,(∀x∈a,S x)→(∀x∈b,S x)→(∀x∈c,S x)→zkk a b≤0→zkk b c≤0→zkk a c≤0
 |[],b,[],_,_,_=>by intros;simp[zkk]
 |[],b,_::_,_,_,_=>by intros;simp[zkk]
 |x::a,[],c,_,_,_=>by intro h;simp[zkk] at h
 |x::a,y::b,[],_,_,_=>by intro _ h;simp[zkk] at h
 | x::a,y::b,z::c,ha,hb,hc=>by
  rw[zkk,zkk,zkk]
  have sx:=ha x (by simp);have sy:=hb y (by simp);have sz:=hc z (by simp)
  exact z6f (g.1 x y sx sy) (g.1 y z sy sz) (g.1 x z sx sz) (g.2 x y z sx sy sz) (fun h1 h2=>g.2 y z x sy sz sx h1 h2) (fun h1 h2=>g.2 z x y sz sx sy h1 h2)
   (zye g a b c (fun w hw=>ha w (by simp[hw])) (fun w hw=>hb w (by simp[hw])) (fun w hw=>hc w (by simp[hw])))
theorem z8n: ∀n,SetG fun t=>(pre t).length≤n
 |0=>⟨fun x y h=>by have h:(pre x).length≤0:=h;rw[zcq] at h;simp at h,fun x y z h=>by have h:(pre x).length≤0:=h;rw[zcq] at h;simp at h⟩
 | n + 1 =>by
  have g:=z8n n
  have sub: ∀t:Tr,(pre t).length≤n+1→ ∀x∈t.l,(pre x).length≤n:=fun t h x hx=>by
   have h1:=zbq hx
   rw[zcq] at h;simp at h;omega
  constructor
  ·rintro⟨k,s,mn,mx,l⟩ ⟨k',s',mn',mx',l'⟩ h1 h2
   have s1:=sub _ h1
   have s2:=sub _ h2
   simp only[Tr.l] at s1 s2
   have hl:=z1y g l l' s1 s2
   rw[zjc,zjc]
   by_cases e:k=k'
   ·subst e
    simp only[ne_eq,not_true_eq_false,if_false]
    split
    ·exact ztd _ _ _
    split
    ·exact zqa (zqa (zvv _ _) (zvv _ _)) hl
    split
    ·rfl
    ·exact hl
   ·rw[if_pos e,if_pos (Ne.symm e)];exact zvv _ _
  ·rintro⟨k,s,mn,mx,l⟩ ⟨k',s',mn',mx',l'⟩ ⟨k'',s'',mn'',mx'',l''⟩ h1 h2 h3
   have s1:=sub _ h1
   have s2:=sub _ h2
   have s3:=sub _ h3
   simp only[Tr.l] at s1 s2 s3
   have hl:=zye g l l' l'' s1 s2 s3
   rw[zjc,zjc,zjc]
   by_cases e:k=k'
   ·subst e
    by_cases e2:k=k''
    ·subst e2
     simp only[ne_eq,not_true_eq_false,if_false]
     split
     ·exact zqd _ _ _ _
     split
     ·rename_i h5
      have key: ∀(a b c a' b' c':Int) (d d' d'':Int),(d≤0→d'≤0→d''≤0)→zfa (zfa (znn a b) (znn a' b')) d≤0→zfa (zfa (znn b c) (znn b' c')) d'≤0→zfa (zfa (znn a c) (znn a' c')) d''≤0:=by
       intro a b c a' b' c' d d' d'' h
       have asc: ∀x y z:Int,zfa (zfa x y) z=zfa x (zfa y z):=fun x y z=>by
        unfold zfa
        by_cases hx:x=0
        ·simp[hx]
        ·simp[hx]
       rw[asc,asc,asc]
       exact zvy (zvy h)
      exact key _ _ _ _ _ _ _ _ _ hl
     split
     ·intros;omega
     ·exact hl
    ·intro _ h
     rw[if_pos (by simpa using e2)] at h⊢
     rw[zvz] at h⊢;exact h
   ·rw[if_pos (show k≠k' from e)]
    intro h
    rw[zvz] at h
    by_cases e2:k'=k''
    ·subst e2
     intro _
     rw[if_pos (show k≠k' from e)]
     rw[zvz];exact h
    ·rw[if_pos (show k'≠k'' from e2)]
     intro h'
     rw[zvz] at h'
     rw[if_pos (show k≠k'' by omega),zvz];omega
theorem zgn (x y:Tr):zjc x y= -zjc y x:=(z8n (max (pre x).length (pre y).length)).1 x y (Nat.le_max_left _ _) (Nat.le_max_right _ _)
theorem zgy (x y z:Tr):zjc x y≤0→zjc y z≤0→zjc x z≤0:=(z8n ((pre x).length+(pre y).length+(pre z).length)).2 x y z (by omega) (by omega) (by omega)
theorem qai (x:Tr):zjc x x=0:=by have:=zgn x x;omega
mutual
theorem qbw: ∀x y,zjc x y= -1∨zjc x y=0∨zjc x y=1
 | .mk k s mn mx l,.mk k' s' mn' mx' l'=>by
  rw[zjc]
  have hl:=zxc l l'
  split
  ·exact zpq _ _
  split
  ·exact zyd _ _ _
  split
  ·exact zni (zni (zpq _ _) (zpq _ _)) hl
  split
  ·exact .inr (.inl rfl)
  ·exact hl
theorem zxc: ∀a b,zkk a b= -1∨zkk a b=0∨zkk a b=1
 |[],[]=>by simp[zkk]
 |[],_::_=>by simp[zkk]
 |_::_,[]=>by simp[zkk]
 |x::a,y::b=>by rw[zkk];exact zni (qbw x y) (zxc a b)
end
theorem zyi {k:Nat} {s:BS} {mn mx:Int} {l:List Tr} (h:zdr (.mk k s mn mx l)=true):(k≠2→s=0#256)∧(k≠5→mn=0∧mx=0)∧(k<3→l=[])∧(k=5→mx= -1∨(1≤mx∧mx≤16)):=by
 have hk:=zib h
 simp only[Tr.k] at hk
 rw[zdq,Bool.and_eq_true,zju] at h
 obtain⟨h1,h2⟩:=h
 simp only[Bool.not_eq_true',Bool.or_eq_false_iff,Bool.and_eq_false_iff] at h1
 obtain⟨⟨a,b⟩,c⟩:=h1
 refine⟨fun h=> ?_,fun h=> ?_,fun h=> ?_,fun h=> ?_⟩
 ·rcases a with a|a
  ·simp at a;omega
  ·simpa using a
 ·rcases b with b|b
  ·simp at b;omega
  ·simp at b;exact b
 ·rcases c with c|c
  ·simp at c;omega
  ·cases l with
   |nil=>rfl
   |cons x l=>simp at c
 ·subst h
  simp[zdj] at h2
  have:=h2.1.2
  omega
mutual
theorem z8c: ∀x y,CR x→CR y→zjc x y=0→x=y
 | .mk k s mn mx l,.mk k' s' mn' mx' l',hx,hy,h=>by
  rw[zbc] at hx hy
  simp only[Tr.l] at hx hy
  obtain⟨a1,a2,a3,a4⟩:=zyi hx.1
  obtain⟨b1,b2,b3,b4⟩:=zyi hy.1
  have hk:=zib hx.1
  simp only[Tr.k] at hk
  rw[zjc] at h
  by_cases e:k=k'
  ·subst e
   simp only[ne_eq,not_true_eq_false,if_false] at h
   split at h
   ·rename_i h2
    rw[(z3h s s').1 h,(a2 (by omega)).1,(a2 (by omega)).2,(b2 (by omega)).1,(b2 (by omega)).2,a3 (by omega),b3 (by omega)]
   split at h
   ·rename_i h2 h5
    rw[zqh,zqh,zuz,zuz] at h
    have a5:=a4 h5
    have b5:=b4 h5
    have hm:mx=mx':=by
     have:=h.1.2
     unfold z6o at this
     split at this<;>split at this<;>omega
    rw[a1 h2,b1 h2,h.1.1,hm,z7t l l' hx.2 hy.2 h.2]
   split at h
   ·rename_i h2 h5 h0
    rw[a1 h2,b1 h2,(a2 h5).1,(a2 h5).2,(b2 h5).1,(b2 h5).2,a3 (by omega),b3 (by omega)]
   ·rename_i h2 h5 h0
    rw[a1 h2,b1 h2,(a2 h5).1,(a2 h5).2,(b2 h5).1,(b2 h5).2,z7t l l' hx.2 hy.2 h]
  ·rw[if_pos e,zuz] at h;omega
theorem z7t: ∀a b,CRL a→CRL b→zkk a b=0→a=b
 |[],[],_,_,_=>rfl
 |[],_::_,_,_,h=>by simp[zkk] at h
 |_::_,[],_,_,h=>by simp[zkk] at h
 | x::a,y::b,ha,hb,h=>by
  rw[zaq] at ha hb
  rw[zkk,zqh] at h
  rw[z8c x y ha.1 hb.1 h.1,z7t a b ha.2 hb.2 h.2]
end
def z4k (t:Tr):List AV:=[.raw (.int .u8 t.k),.raw (.int .u64 (wd t.s 0)),.raw (.int .u64 (wd t.s 1)),.raw (.int .u64 (wd t.s 2)),.raw (.int .u64 (wd t.s 3)),.raw (.int .i64 t.mn),.raw (.int .i64 t.mx),.list t.l.length (cellsL t.l) .none]
theorem ztr (t:Tr):cells t=z4k t:=qmk t
instance:Enc Tr where
 inh:=noneT
 cells:=z4k
 cellsL:=cellsL
 sz:=8
 pos:=by decide
 nil:=by simp[cellsL]
 cons a l:=by rw[cellsL,ztr]
 len _:=rfl
 clo t:=by rw[←ztr];exact z2q t
theorem enc_eq (t:Tr):enc t= .agg (Enc.cells t):=by rw[enc,ztr];rfl
theorem qbt {E:Int} (g:0≤E)(s:BS)(mn mx:Int)(l:List Tr):AV.agg (Enc.cells (Tr.mk (Int.toNat E) s mn mx l))= .agg [.raw (.int .u8 E),.raw (.int .u64 (wd s 0)),.raw (.int .u64 (wd s 1)),.raw (.int .u64 (wd s 2)),.raw (.int .u64 (wd s 3)),.raw (.int .i64 mn),.raw (.int .i64 mx),.list l.length (cellsL l) .none]:=by
 show AV.agg (z4k _)=_
 simp only[z4k,Tr.k,Tr.s,Tr.mn,Tr.mx,Tr.l,Int.toNat_of_nonneg g]
def zcd (t:Tr)(st:Room):AV:= .agg [.raw (.int .u8 t.k),.raw (.int .u64 (wd t.s 0)),.raw (.int .u64 (wd t.s 1)),.raw (.int .u64 (wd t.s 2)),.raw (.int .u64 (wd t.s 3)),.raw (.int .i64 t.mn),.raw (.int .i64 t.mx),.list t.l.length (cellsL t.l) st]
theorem zj (t:Tr)(st:Room):zcz (zcd t st)= .agg (Enc.cells t):=by
 simp only[zcd,zcz,stripL,zjh];rfl
def qqf (s:BS):List AV:=[.raw (.int .u64 (wd s 0)),.raw (.int .u64 (wd s 1)),.raw (.int .u64 (wd s 2)),.raw (.int .u64 (wd s 3))]
instance:Enc BS where
 inh:=0#256
 cells:=qqf
 cellsL l:=l.flatMap qqf
 sz:=4
 pos:=by decide
 nil:=rfl
 cons _ _:=rfl
 len _:=rfl
 clo _:=rfl
instance:Enc Sm where
 inh:=(0,0,0)
 cells:=smc
 cellsL:=qpe
 sz:=3
 pos:=by decide
 nil:=by simp[qpe]
 cons _ _:=by simp[qpe]
 len _:=rfl
 clo _:=rfl
structure Rgx where
 b:Bool
 e:Bool
 t:Tr
def qpt (r:Rgx):List AV:= .raw (.bool r.b):: .raw (.bool r.e)::z4k r.t
instance:Enc Rgx where
 inh:=⟨false,false,noneT⟩
 cells:=qpt
 cellsL l:=l.flatMap qpt
 sz:=10
 pos:=by decide
 nil:=rfl
 cons _ _:=rfl
 len _:=rfl
 clo r:=by have:=Enc.clo r.t;exact this
def zre (t:Tr):List AV:=[.agg (Enc.cells t)]
theorem zgl {t:Tr} (h:(pre t).length≤10000):zbj t=true:=by simpa[zbj] using h
theorem zof {α:Type} [Enc α] {l:List α} {i:Nat} (h:i<l.length):ix l (i:Int)=l[i]:=by simp[ix,h]
def qnj (k:Int)(s:BS)(mn mx:Int)(l:List Tr)(st:Room):AV:= .agg [.raw (.int .u8 k),.raw (.int .u64 (wd s 0)),.raw (.int .u64 (wd s 1)),.raw (.int .u64 (wd s 2)),.raw (.int .u64 (wd s 3)),.raw (.int .i64 mn),.raw (.int .i64 mx),.list l.length (cellsL l) st]
theorem zsy {k:Int} (g:0≤k)(s:BS)(mn mx:Int)(l:List Tr)(st:Room):zcz (qnj k s mn mx l st)= .agg (Enc.cells (Tr.mk k.toNat s mn mx l)):=by
 rw[qbt g];simp only[qnj,zcz,stripL,zjh]
end Go.Ab
