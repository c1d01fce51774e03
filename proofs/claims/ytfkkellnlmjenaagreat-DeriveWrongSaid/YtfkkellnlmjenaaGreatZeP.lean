/-
  Trees of rx: words, plain laws.
-/
import Derived.Test.YtfkkellnlmjenaaGreatZdSh
set_option linter.unusedSimpArgs false
set_option linter.unusedVariables false
namespace Go.Ab
open Go Go.RowKit Go.Fwd
abbrev BS:=BitVec 256
def W64 (S:BS)(i:Nat):BitVec 64:=S.extractLsb' (64*i) 64
def wd (S:BS)(i:Nat):Int:=((W64 S i).toNat:Int)
inductive Tr where
 |mk (k:Nat) (s:BS) (mn mx:Int) (l:List Tr)
def Tr.k:Tr→Nat| .mk k _ _ _ _=>k
def Tr.s:Tr→BS| .mk _ s _ _ _=>s
def Tr.mn:Tr→Int| .mk _ _ m _ _=>m
def Tr.mx:Tr→Int| .mk _ _ _ m _=>m
def Tr.l:Tr→List Tr| .mk _ _ _ _ l=>l
theorem Tr.eta (t:Tr):t= .mk t.k t.s t.mn t.mx t.l:=by cases t;rfl
theorem Tr.sizeOf_l {t x:Tr} (h:x∈t.l):SizeOf.sizeOf x<SizeOf.sizeOf t:=by
 cases t with
 |mk k s mn mx l=>simp only[Tr.l] at h;have:=List.sizeOf_lt_of_mem h;simp;omega
mutual
def cells:Tr→List AV
 | .mk k s mn mx l=>[.raw (.int .u8 k),.raw (.int .u64 (wd s 0)),.raw (.int .u64 (wd s 1)),.raw (.int .u64 (wd s 2)),.raw (.int .u64 (wd s 3)),.raw (.int .i64 mn),.raw (.int .i64 mx),.list l.length (cellsL l) .none]
def cellsL:List Tr→List AV
 |[]=>[]
 |t::l=>cells t++cellsL l
end
def enc (t:Tr):AV:= .agg (cells t)
theorem z3w (t:Tr):(cells t).length=8:=by cases t;simp[cells]
theorem qkf (t:Tr):cells t=[.raw (.int .u8 t.k),.raw (.int .u64 (wd t.s 0)),.raw (.int .u64 (wd t.s 1)),.raw (.int .u64 (wd t.s 2)),.raw (.int .u64 (wd t.s 3)),.raw (.int .i64 t.mn),.raw (.int .i64 t.mx),.list t.l.length (cellsL t.l) .none]:=by cases t;simp[cells,Tr.k,Tr.s,Tr.mn,Tr.mx,Tr.l]
theorem znp: ∀l,(cellsL l).length=l.length*8
 |[]=>by simp[cellsL]
 |t::l=>by rw[cellsL,List.length_append,z3w,znp l,List.length_cons];omega
theorem zup {l:List Tr} (h:l≠[]):cellsL l≠[]:=by
 intro e
 have:=znp l
 rw[e] at this
 simp at this
 exact h (List.length_eq_zero_iff.1 (by omega))
mutual
theorem z1c (n:Nat): ∀t,zaa n (cells t)=true
 | .mk k s mn mx l=>by simp[cells,zaa,zbk,zoy n l]
theorem zoy (n:Nat): ∀l,zaa n (cellsL l)=true
 |[]=>by simp[cellsL,zaa]
 | t::l=>by
  rw[cellsL,ziq,List.all_append,←ziq,←ziq,z1c n t,zoy n l];rfl
end
mutual
theorem zre: ∀t,zco (cells t)=true
 | .mk k s mn mx l=>by simp[cells,zco,zkz,zoa l]
theorem zoa: ∀l,zco (cellsL l)=true
 |[]=>by simp[cellsL,zco]
 | t::l=>by
  have h: ∀l m:List AV,zco (l++m)=(zco l&&zco m):=fun l m=>by
   induction l with
   |nil=>simp[zco]
   |cons a l ih=>rw[List.cons_append,zco,zco,ih,Bool.and_assoc]
  rw[cellsL,h,zre t,zoa l];rfl
end
mutual
theorem z5f: ∀t,stripL (cells t)=cells t
 | .mk k s mn mx l=>by simp[cells,stripL,zcv,ziy l]
theorem ziy: ∀l,stripL (cellsL l)=cellsL l
 |[]=>by simp[cellsL,stripL]
 | t::l=>by
  rw[cellsL,zmd,List.map_append,←zmd,←zmd,z5f t,ziy l]
end
mutual
theorem z2v (g:FZ): ∀t,zbp g (cells t)=cells t
 | .mk k s mn mx l=>by simp[cells,zbp,zfl,znt g l]
theorem znt (g:FZ): ∀l,zbp g (cellsL l)=cellsL l
 |[]=>by simp[cellsL,zbp]
 | t::l=>by
  have h: ∀l m:List AV,zbp g (l++m)=zbp g l++zbp g m:=fun l m=>by
   induction l with
   |nil=>simp[zbp]
   |cons a l ih=>rw[List.cons_append,zbp,zbp,ih,List.cons_append]
  rw[cellsL,h,z2v g t,znt g l]
end
mutual
theorem z3u: ∀t,cloL (cells t)=true
 | .mk k s mn mx l=>by simp[cells,cloL,clo,zwu l]
theorem zwu: ∀l,cloL (cellsL l)=true
 |[]=>by simp[cellsL,cloL]
 |t::l=>by rw[cellsL,zfc,z3u t,zwu l];rfl
end
theorem qbx (t:Tr):zkz (enc t)=true:=by rw[enc,zkz];exact zre t
mutual
def pre:Tr→List Tr
 | .mk k s mn mx l=> .mk k s mn mx l::zap l
def zap:List Tr→List Tr
 |[]=>[]
 |t::l=>pre t++zap l
end
theorem zcw (t:Tr):pre t=t::zap t.l:=by cases t;simp[pre,Tr.l]
theorem zmt: ∀(ts:List Tr) (i:Nat) (hi:i<ts.length),(zap (ts.take (i+1))).length=(zap (ts.take i)).length+(pre ts[i]).length
 |[],i,hi=>by simp at hi
 |t::ts,0,hi=>by simp[zap]
 | t::ts,i+1,hi=>by
  simp only[List.take_succ_cons,zap,List.length_append,List.getElem_cons_succ,zmt ts i (by simpa using hi)]
  omega
theorem zyf (k:Nat)(s:BS)(mn mx:Int)(ts:List Tr):(pre (.mk k s mn mx ts)).length=1+(zap ts).length:=by simp[pre];omega
theorem qja: ∀ts:List Tr,ts.length≤(zap ts).length
 |[]=>by simp[zap]
 | t::ts=>by
  have:=qja ts
  cases t with
  |mk k s mn mx l=>simp[zap,pre];omega
theorem zhb: ∀ {ts:List Tr} {x:Tr},x∈ts→(pre x).length≤(zap ts).length
 |[],x,h=>by simp at h
 | t::ts,x,h=>by
  simp only[zap,List.length_append]
  rcases List.mem_cons.1 h with rfl|h
  ·omega
  ·have:=zhb h;omega
def zdv (qca most:Int):Bool:= !(decide (qca<0)||decide (qca>16)||decide (qca=1)&&decide (most=1))&&(decide (most= -1)||decide (most≥1)&&decide (most≤16)&&decide (most≥qca))
def qjn (s:BS):AV:= .agg [.raw (.int .u64 (wd s 0)),.raw (.int .u64 (wd s 1)),.raw (.int .u64 (wd s 2)),.raw (.int .u64 (wd s 3))]
theorem wd_inj {A B:BS} (h: ∀i,i<4→wd A i=wd B i):A=B:=by
 apply BitVec.eq_of_getLsbD_eq
 intro j hj
 have h4:j/64<4:=by omega
 have h2:=h (j/64) h4
 have h3:W64 A (j/64)=W64 B (j/64):=by
  apply BitVec.eq_of_toNat_eq
  unfold wd at h2
  omega
 have h5:=congrArg (fun x:BitVec 64=>x.getLsbD (j%64)) h3
 have hlt:j%64<64:=Nat.mod_lt _ (by decide)
 simp only[W64,BitVec.getLsbD_extractLsb',hlt,decide_true,Bool.true_and] at h5
 rwa[show 64*(j/64)+j%64=j by omega] at h5
theorem qom (S T:BS):(wd S 0==wd T 0&&wd S 1==wd T 1&&wd S 2==wd T 2&&wd S 3==wd T 3)=decide (S=T):=by
 by_cases h:S=T
 ·subst h;simp
 ·simp only[h,decide_false]
  cases hb:(wd S 0==wd T 0&&wd S 1==wd T 1&&wd S 2==wd T 2&&wd S 3==wd T 3) with
  |false=>rfl
  | true=>
   simp only[Bool.and_eq_true,beq_iff_eq] at hb
   refine absurd (wd_inj fun i hi=> ?_) h
   match i,hi with
   |0,_=>exact hb.1.1.1
   |1,_=>exact hb.1.1.2
   |2,_=>exact hb.1.2
   |3,_=>exact hb.2
def zug (t:Tr)(k:Nat):Bool:=t.l.any fun y=>decide (y.k=k)
def oddT (t:Tr):Bool:=((t.k:Int) !=2&&decide (t.s≠0#256))||((t.k:Int) !=5&&(t.mn !=0||t.mx !=0))||(decide ((t.k:Int)<3)&&decide ((t.l.length:Int)>0))
def zds (t:Tr):Bool:= !oddT t&&(bif (t.k:Int)==1 then true else bif (t.k:Int)==2 then decide (t.s≠0#256) else bif (t.k:Int)==3 then decide ((t.l.length:Int)>1)&& !zug t 1&& !zug t 3
 else bif (t.k:Int)==4 then decide ((t.l.length:Int)>1)&& !zug t 4 else bif (t.k:Int)==5 then(t.l.length:Int)==1&&zdv t.mn t.mx&& !zug t 1 else(t.k:Int)==6&&(t.l.length:Int)==1)
theorem zlg (k:Nat)(s:BS)(mn mx:Int)(ts:List Tr):oddT (.mk k s mn mx ts)=(((k:Int) !=2&&decide (s≠0#256))||((k:Int) !=5&&(mn !=0||mx !=0))||(decide ((k:Int)<3)&&decide ((ts.length:Int)>0))):=rfl
theorem zdt (k:Nat)(s:BS)(mn mx:Int)(ts:List Tr):zds (.mk k s mn mx ts)=(!oddT (.mk k s mn mx ts)&&(bif (k:Int)==1 then true else bif (k:Int)==2 then decide (s≠0#256) else bif (k:Int)==3 then decide ((ts.length:Int)>1)&& !zug (.mk k s mn mx ts) 1&& !zug (.mk k s mn mx ts) 3
 else bif (k:Int)==4 then decide ((ts.length:Int)>1)&& !zug (.mk k s mn mx ts) 4 else bif (k:Int)==5 then(ts.length:Int)==1&&zdv mn mx&& !zug (.mk k s mn mx ts) 1 else(k:Int)==6&&(ts.length:Int)==1)):=rfl
def zcj (t:Tr):Bool:=decide ((pre t).length≤10000)
def zcd (t:Tr):Bool:=zcj t&&(pre t).all zds
def z9p (t:Tr):Int:=if zcj t=true then(pre t).length else 10001
def zuo (t:Tr):Int:=if zcj t=true then(pre t).countP (fun x=>decide (x.k=6)) else 10001
mutual
def zkv:Tr→Int
 | .mk k s mn mx ts=>min (if k=5 then((if k=2 then 1 else 0)+zfe ts)*min (if mx= -1 then max (max mn 0) 1 else max (max mn 0) mx) 10001 else(if k=2 then 1 else 0)+zfe ts) 10001
def zfe:List Tr→Int
 |[]=>0
 |t::l=>zkv t+zfe l
end
theorem zjg: ∀(t:Tr),t.l.length<(pre t).length
 | .mk k s mn mx ts=>by
  have: ∀l:List Tr,l.length≤(zap l).length:=fun l=>by
   induction l with
   |nil=>simp[zap]
   |cons a l ih=>rw[zap,List.length_append,List.length_cons];rw[zcw];simp;omega
  simp[pre,Tr.l];have:=this ts;omega
theorem zvt {t x:Tr} (h:x∈pre t):(pre x).length≤(pre t).length:=by
 have key: ∀n,(∀t:Tr,SizeOf.sizeOf t≤n→ ∀x∈pre t,(pre x).length≤(pre t).length):=by
  intro n
  induction n with
  |zero=>intro t ht;cases t;simp at ht
  | succ n ih=>
   intro t ht x hx
   rw[zcw] at hx
   rcases List.mem_cons.1 hx with rfl|hx
   ·exact Nat.le_refl _
   ·have hl: ∀l:List Tr,(∀y∈l,SizeOf.sizeOf y≤n)→ ∀x∈zap l,(pre x).length≤(zap l).length:=by
     intro l
     induction l with
     |nil=>intro _ x hx;simp[zap] at hx
     | cons a l ihl=>
      intro hs x hx
      rw[zap] at hx⊢
      rw[List.length_append]
      rcases List.mem_append.1 hx with hx|hx
      ·have:=ih a (hs a (by simp)) x hx;omega
      ·have:=ihl (fun y hy=>hs y (by simp[hy])) x hx;omega
    have:=hl t.l (fun y hy=>by have:=Tr.sizeOf_l hy;omega) x hx
    rw[zcw t,List.length_cons];omega
 exact key _ t (Nat.le_refl _) x h
theorem qhv (l:List Tr)(i:Nat)(hi:i<l.length):zfe (l.take (i+1))=zfe (l.take i)+zkv l[i]:=by
 have happ: ∀a b,zfe (a++b)=zfe a+zfe b:=fun a b=>by
  induction a with
  |nil=>simp[zfe]
  |cons x a ih=>rw[List.cons_append,zfe,zfe,ih,Int.add_assoc]
 rw[List.take_succ_eq_append_getElem hi,happ];simp[zfe]
theorem qhl: ∀t,zkv t≤10001
 | .mk k s mn mx ts=>by rw[zkv];exact Int.min_le_right _ _
mutual
theorem zkp: ∀t,0≤zkv t
 | .mk k s mn mx ts=>by
  have hl:=zem ts
  rw[zkv]
  have h0:0≤(if k=2 then 1 else 0)+zfe ts:=by split<;>omega
  split
  ·have:0≤((if k=2 then 1 else 0)+zfe ts)*min (if mx= -1 then max (max mn 0) 1 else max (max mn 0) mx) 10001:=Int.mul_nonneg h0 (by split<;>omega)
   omega
  ·omega
theorem zem: ∀l,0≤zfe l
 |[]=>by simp[zfe]
 |t::l=>by have h1:=zkp t;have h2:=zem l;rw[zfe];omega
end
theorem z5l: ∀l,zfe l≤10001*l.length
 |[]=>by simp[zfe]
 |t::l=>by have h1:=qhl t;have h2:=z5l l;rw[zfe,List.length_cons];omega
def z3f (p:Tr→Tr→Bool):List Tr→List Tr→Bool
 |[],[]=>true
 |x::a,y::b=>p x y&&z3f p a b
 |_,_=>false
theorem zsm (p:Tr→Tr→Bool): ∀a b:List Tr,z3f p a b=true↔a.length=b.length∧ ∀(i:Nat) (h1:i<a.length) (h2:i<b.length),p a[i] b[i]=true
 |[],[]=>by simp[z3f]
 |x::a,[]=>by simp[z3f]
 |[],y::b=>by simp[z3f]
 | x::a,y::b=>by
  rw[z3f,Bool.and_eq_true,zsm p a b]
  constructor
  ·rintro⟨h1,h2,h3⟩
   refine⟨by simp[h2],fun i k1 k2=> ?_⟩
   cases i with
   |zero=>exact h1
   |succ i=>simpa using h3 i (by simpa using k1) (by simpa using k2)
  ·rintro⟨h1,h2⟩
   exact⟨h2 0 (by simp) (by simp),by simpa using h1,fun i k1 k2=>h2 (i+1) (by simpa using k1) (by simpa using k2)⟩
theorem qms {p:Tr→Tr→Bool} {a b:List Tr} (h:a.length≠b.length):z3f p a b=false:=by
 rw[Bool.eq_false_iff,ne_eq,zsm]
 exact fun h3=>h h3.1
mutual
def zfo:Tr→Tr→Bool
 | .mk k s mn mx l,.mk k' s' mn' mx' l'=>(k:Int)==k'&&decide (s=s')&&mn==mn'&&mx==mx'&&zkt l l'
def zkt:List Tr→List Tr→Bool
 |[],[]=>true
 |x::a,y::b=>zfo x y&&zkt a b
 |_,_=>false
end
theorem z4y: ∀a b,zkt a b=z3f zfo a b
 |[],[]=>by simp[zkt,z3f]
 |x::a,[]=>by simp[zkt,z3f]
 |[],y::b=>by simp[zkt,z3f]
 |x::a,y::b=>by rw[zkt,z3f,z4y a b]
mutual
theorem z3p: ∀a b,zfo a b=true↔a=b
 | .mk k s mn mx l,.mk k' s' mn' mx' l'=>by
  rw[zfo]
  simp only[Bool.and_eq_true,z0r l l',Tr.mk.injEq,beq_iff_eq,decide_eq_true_eq]
  constructor
  ·rintro⟨⟨⟨⟨h1,h2⟩,h3⟩,h4⟩,h5⟩;exact⟨by omega,h2,h3,h4,h5⟩
  ·rintro⟨h1,h2,h3,h4,h5⟩;exact⟨⟨⟨⟨by omega,h2⟩,h3⟩,h4⟩,h5⟩
theorem z0r: ∀a b,zkt a b=true↔a=b
 |[],[]=>by simp[zkt]
 |x::a,[]=>by simp[zkt]
 |[],y::b=>by simp[zkt]
 |x::a,y::b=>by rw[zkt,Bool.and_eq_true,z3p x y,z0r a b];simp
end
def zrq (a b:Tr):Bool:=zcj a&&zcj b&&zfo a b
theorem qmy (k:Nat)(s:BS)(mn mx:Int)(ts:List Tr)(k2:Nat)(s2:BS)(mn2 mx2:Int)(us:List Tr):zfo (.mk k s mn mx ts) (.mk k2 s2 mn2 mx2 us)=((k:Int)==k2&&decide (s=s2)&&mn==mn2&&mx==mx2&&z3f zfo ts us):=by rw[zfo,z4y]
def noneT:Tr:= .mk 0 0#256 0 0 []
def emptyT:Tr:= .mk 1 0#256 0 0 []
def zmq (t:Tr):Bool:=zfo t noneT||zcd t
def zhf (t:Tr):Tr:=if zcd t=true then t else noneT
def zvs (t:Tr):Tr:=if zcj t=true then t else noneT
theorem zeq {t:Tr} (h:zcd t=true):(pre t).length≤10000:=by rw[zcd,Bool.and_eq_true] at h;simpa[zcj] using h.1
def ziv (kind without:Nat)(l:List Tr):List Tr:=l.flatMap fun x=>bif (x.k:Int)==kind then x.l else bif (x.k:Int)==without then[] else[x]
def zps (kind:Nat)(l:List Tr)(none:Tr):Tr:=bif (l.length:Int)==0 then none else bif (l.length:Int)==1 then zhf (l.headD none) else zhf (Tr.mk kind 0#256 0 0 l)
def zlc (l:List Tr):Tr:=if(l.any fun x=>(x.k:Int)==0|| !zcd x)=true then noneT else zps 3 (ziv 3 1 l) emptyT
def orT (l:List Tr):Tr:=if(l.any fun x=> !zmq x)=true then noneT else zps 4 (ziv 4 0 l) noneT
theorem zch: ∀a b,zap (a++b)=zap a++zap b
 |[],b=>by simp[zap]
 |x::a,b=>by rw[List.cons_append,zap,zap,zch a b,List.append_assoc]
theorem zaq: ∀l:List Tr,l.length≤(zap l).length
 |[]=>by simp[zap]
 |x::l=>by have:=zaq l;rw[zap,List.length_append,List.length_cons,zcw];simp;omega
theorem zll (t:Tr):(zap t.l).length<(pre t).length:=by rw[zcw];simp
theorem zmc (kind without:Nat): ∀l:List Tr,(zap (ziv kind without l)).length≤(zap l).length
 |[]=>by simp[ziv,zap]
 | x::l=>by
  have h:=zmc kind without l
  have hx:=zll x
  rw[ziv,List.flatMap_cons,zch,List.length_append,zap,List.length_append]
  have h2:(zap (bif (x.k:Int)==kind then x.l else bif (x.k:Int)==without then[] else[x])).length≤(pre x).length:=by
   cases (x.k:Int)==kind<;>cases (x.k:Int)==without<;>simp[zap]<;>omega
  rw[ziv] at h
  omega
theorem zck {x:Tr}: ∀ {l:List Tr},x∈l→(pre x).length≤(zap l).length
 | y::l,h=>by
  rw[zap,List.length_append]
  rcases List.mem_cons.1 h with rfl|h
  ·omega
  ·have:=zck h;omega
def zis (t:Tr)(lo hi:Int):Tr:=
 bif !zmq t||(!(lo==0&&hi==0)&& !(lo==1&&hi==1)&& !zdv lo hi) then noneT
 else bif (t.k:Int)==0&&decide (lo>0) then noneT
 else bif (lo==0&&hi==0)||(t.k:Int)==0||(t.k:Int)==1 then emptyT
 else bif lo==1&&hi==1 then t else zhf (.mk 5 0#256 lo hi [t])
theorem z0c (k:Nat)(s:BS)(mn mx:Int)(t:Tr):(pre (.mk k s mn mx [t])).length=1+(pre t).length:=by simp[pre,zap];omega
def zcc (kind:Nat)(l:List Tr):List Tr:=l.flatMap fun x=>bif (x.k:Int)==kind then x.l else bif (kind:Int)==3&&(x.k:Int)==1 then[] else[x]
def zrn (kind:Nat)(l:List Tr):Tr:=bif (l.length:Int)==0 then emptyT else bif (l.length:Int)==1 then l.headD emptyT else .mk kind 0#256 0 0 l
def zfq (kind:Nat)(a b:Tr):Tr:=zrn kind (zcc kind [a,b])
theorem zgb (kind:Nat): ∀l:List Tr,(zap (zcc kind l)).length≤(zap l).length
 |[]=>by simp[zcc,zap]
 | x::l=>by
  have h:=zgb kind l
  have hx:=zll x
  rw[zcc,List.flatMap_cons,zch,List.length_append,zap,List.length_append]
  have h2:(zap (bif (x.k:Int)==kind then x.l else bif (kind:Int)==3&&(x.k:Int)==1 then[] else[x])).length≤(pre x).length:=by
   cases (x.k:Int)==kind<;>cases (kind:Int)==3&&(x.k:Int)==1<;>simp[zap]<;>omega
  rw[zcc] at h
  omega
theorem qcp (kind:Nat)(l:List Tr)(i:Nat)(hi:i<l.length):zcc kind (l.take (i+1))=zcc kind (l.take i)++(bif (l[i].k:Int)==kind then l[i].l else bif (kind:Int)==3&&(l[i].k:Int)==1 then[] else[l[i]]):=by
 rw[List.take_succ_eq_append_getElem hi,zcc,List.flatMap_append];simp[zcc]
theorem zvu (kind:Nat)(l:List Tr)(i:Nat):(zcc kind (l.take i)).length≤(zap l).length:=by
 refine Nat.le_trans (zaq _) (Nat.le_trans (zgb _ _) ?_)
 conv=>rhs;rw[←List.take_append_drop i l]
 rw[zch,List.length_append];omega
def bsOf (l:List Nat):BS:=l.foldl (fun s b=>s|||(1#256<<<b)) 0#256
def qap (l:List Nat):Tr:= .mk 2 (bsOf l) 0 0 []
def zxg:Nat→List Nat
 |0=>[97]|1=>[98]|2=>[97,98]|3=>[97]|4=>[98]|5=>[99]|6=>[97,98,99]|7=>[98,99]|8=>[10]|9=>[0,255]|10=>[97]|_=>[98]
abbrev Sm:=Nat×Nat×Nat
abbrev MSt:=List Tr×Int×Int
def kI (x:Sm):Int:=((x.1%12:Nat):Int)
def zfm (p:List Tr)(i:Nat):Tr:=p[p.length-i]?.getD emptyT
def cA (p:List Tr)(x:Sm):Bool:=decide (kI x<7)&&decide ((p.length:Int)>1)
def cB (p:List Tr)(x:Sm):Bool:=decide (kI x<9)&&decide ((p.length:Int)>1)
def cC (p:List Tr)(g:Int)(x:Sm):Bool:=kI x==9&&decide ((p.length:Int)>0)&&decide (g<9)
def cD (p:List Tr)(x:Sm):Bool:=decide (kI x>9)&&decide ((p.length:Int)>0)&&((zfm p 1).k:Int) !=1
def loM (x:Sm):Int:=((x.2.1%3:Nat):Int)
def m4 (x:Sm):Int:=((x.2.2%4:Nat):Int)
def badM (x:Sm):Bool:=decide (m4 x<loM x)||m4 x==0||loM x==1&&m4 x==1
def moM (x:Sm):Int:=bif badM x then-1 else m4 x
def tmM (x:Sm):Int:=max (max (loM x) (moM x)) 1
def zrm (st:MSt)(x:Sm):MSt:=
 bif decide (kI x<4) then(st.1++[qap (zxg (x.2.1%12))],st.2.1,st.2.2)
 else bif kI x==4 then(st.1++[emptyT],st.2.1,st.2.2)
 else bif cA st.1 x then(st.1.take (st.1.length-2)++[zfq 3 (zfm st.1 2) (zfm st.1 1)],st.2.1,st.2.2)
 else bif cB st.1 x then(st.1.take (st.1.length-2)++[zfq 4 (zfm st.1 2) (zfm st.1 1)],st.2.1,st.2.2)
 else bif cC st.1 st.2.2 x then(st.1.set (st.1.length-1) (.mk 6 0#256 0 0 [zfm st.1 1]),st.2.1,st.2.2+1)
 else bif cD st.1 x then(bif decide (st.2.1*tmM x≤16) then(st.1.set (st.1.length-1) (.mk 5 0#256 (loM x) (moM x) [zfm st.1 1]),st.2.1*tmM x,st.2.2) else st)
 else st
def MM (l:List Sm)(i:Nat):MSt:=(l.take i).foldl zrm ([],1,0)
def qos (p:List Tr):Tr:=match p with
 |[]=>qap [97]
 |x::r=>r.foldl (zfq 4) x
def zuw (l:List Sm):Tr:=qos (MM (l.take 25) 25).1
theorem z7e (l:List Sm)(i:Nat)(hi:i<l.length):MM l (i+1)=zrm (MM l i) l[i]:=by
 rw[MM,List.take_succ_eq_append_getElem hi,List.foldl_append];rfl
theorem zlx (kind:Nat)(a b:Tr):(pre (zfq kind a b)).length≤(pre a).length+(pre b).length+1:=by
 have h:=zgb kind [a,b]
 simp only[zap,List.append_nil,List.length_append] at h
 rw[zfq,zrn]
 obtain⟨l,hl⟩: ∃l,zcc kind [a,b]=l:=⟨_,rfl⟩
 rw[hl] at h⊢
 match l,h with
 |[],_=>simp[emptyT,pre,zap]
 |[x],h=>simp[zap] at h⊢;omega
 | x::y::l,h=>
  have e1:(((x::y::l).length:Int)==0)=false:=by simp;omega
  have e2:(((x::y::l).length:Int)==1)=false:=by simp;omega
  rw[e1,e2]
  simp only[cond_false,pre,List.length_cons]
  omega
theorem zix {p:List Tr} {i:Nat} (h0:0<i)(h:i≤p.length):zfm p i=p[p.length-i]'(by omega):=by
 rw[zfm,List.getElem?_eq_getElem (by omega)];rfl
theorem zpd {p:List Tr} (h:2≤p.length):(zap (p.take (p.length-2))).length+(pre (zfm p 2)).length+(pre (zfm p 1)).length=(zap p).length:=by
 rw[zix (by omega) h,zix (by omega) (by omega)]
 conv=>rhs;rw[←List.take_append_drop (p.length-2) p]
 rw[zch,List.length_append,List.drop_eq_getElem_cons (by omega),show p.length-2+1=p.length-1 by omega,List.drop_eq_getElem_cons (by omega),show p.length-1+1=p.length by omega,List.drop_length]
 simp[zap];omega
theorem qae {p:List Tr} {y:Tr} (h:0<p.length):(zap (p.set (p.length-1) y)).length+(pre (zfm p 1)).length=(zap p).length+(pre y).length:=by
 rw[zix (by omega) h]
 rw[List.set_eq_take_append_cons_drop,if_pos (by omega),show p.length-1+1=p.length by omega,List.drop_length,zch,List.length_append]
 conv=>rhs;rw[←List.take_append_drop (p.length-1) p]
 rw[zch,List.length_append,List.drop_eq_getElem_cons (by omega),show p.length-1+1=p.length by omega,List.drop_length]
 simp[zap];omega
theorem qfr (x:Sm):1≤tmM x∧tmM x≤3:=by
 have h1:x.2.1%3<3:=Nat.mod_lt _ (by decide)
 have h2:x.2.2%4<4:=Nat.mod_lt _ (by decide)
 unfold tmM moM
 have h3:loM x≤2:=by unfold loM;omega
 have h4:m4 x≤3:=by unfold m4;omega
 cases badM x<;>simp only[cond_true,cond_false]<;>omega
theorem qik (st:MSt)(x:Sm)(i:Nat)(h:(zap st.1).length≤i∧0≤st.2.2∧st.2.2≤9∧1≤st.2.1∧st.2.1≤16):
 (zap (zrm st x).1).length≤i+1∧0≤(zrm st x).2.2∧(zrm st x).2.2≤9∧1≤(zrm st x).2.1∧(zrm st x).2.1≤16:=by
 obtain⟨h1,h2,h3,h4,h5⟩:=h
 unfold zrm
 cases decide (kI x<4)
 ·cases kI x==4
  ·cases hA:cA st.1 x
   ·cases hB:cB st.1 x
    ·cases hC:cC st.1 st.2.2 x
     ·cases hD:cD st.1 x
      ·simp only[cond_false];omega
      ·simp only[cond_false,cond_true]
       cases hT:decide (st.2.1*tmM x≤16)
       ·simp only[cond_false];omega
       ·simp only[cond_true]
        have hp:0<st.1.length:=by
         unfold cD at hD
         simp only[Bool.and_eq_true,decide_eq_true_eq] at hD;omega
        have e:=qae (p:=st.1) (y:= .mk 5 0#256 (loM x) (moM x) [zfm st.1 1]) hp
        rw[z0c] at e
        have:=(qfr x).1
        have h6:1≤st.2.1*tmM x:=by
         have:=Int.mul_le_mul h4 this (by omega) (by omega);omega
        simp only[decide_eq_true_eq] at hT
        exact⟨by omega,by omega,by omega,h6,hT⟩
     ·simp only[cond_false,cond_true]
      unfold cC at hC
      simp only[Bool.and_eq_true,decide_eq_true_eq] at hC
      have e:=qae (p:=st.1) (y:= .mk 6 0#256 0 0 [zfm st.1 1]) (by omega)
      rw[z0c] at e
      omega
    ·simp only[cond_false,cond_true]
     unfold cB at hB
     simp only[Bool.and_eq_true,decide_eq_true_eq] at hB
     have e:=zpd (p:=st.1) (by omega)
     have e2:=zlx 4 (zfm st.1 2) (zfm st.1 1)
     rw[zch,List.length_append]
     simp only[zap,List.append_nil];omega
   ·simp only[cond_false,cond_true]
    unfold cA at hA
    simp only[Bool.and_eq_true,decide_eq_true_eq] at hA
    have e:=zpd (p:=st.1) (by omega)
    have e2:=zlx 3 (zfm st.1 2) (zfm st.1 1)
    rw[zch,List.length_append]
    simp only[zap,List.append_nil];omega
  ·simp only[cond_false,cond_true]
   rw[zch,List.length_append]
   simp[zap,emptyT,pre];omega
 ·simp only[cond_true]
  rw[zch,List.length_append]
  simp[zap,qap,pre];omega
theorem invM (l:List Sm): ∀i,i≤l.length→(zap (MM l i).1).length≤i∧0≤(MM l i).2.2∧(MM l i).2.2≤9∧1≤(MM l i).2.1∧(MM l i).2.1≤16
 |0,_=>by simp[MM,zap]
 | i+1,h=>by
  rw[z7e l i (by omega)]
  exact qik _ _ i (invM l i (by omega))
def smc (x:Sm):List AV:=[.raw (.int .u8 x.1),.raw (.int .u8 x.2.1),.raw (.int .u8 x.2.2)]
def qnu:List Sm→List AV
 |[]=>[]
 |x::l=>smc x++qnu l
def qjq (p:List Tr)(i:Nat):Tr:=match p with
 |[]=>emptyT
 |x::r=>(r.take i).foldl (zfq 4) x
theorem z4n {p:List Tr} {i:Nat} (h:i+1<p.length):qjq p (i+1)=zfq 4 (qjq p i) p[i+1]:=by
 cases p with
 |nil=>simp at h
 | cons x r=>
  have hi:i<r.length:=by simpa using h
  simp only[qjq,List.take_succ_eq_append_getElem hi,List.foldl_append,List.foldl_cons,List.foldl_nil,List.getElem_cons_succ]
theorem qdd {p:List Tr} (hp:p≠[]): ∀i,i<p.length→(pre (qjq p i)).length≤(zap (p.take (i+1))).length+i
 | 0,_=>by
  cases p with
  |nil=>exact absurd rfl hp
  |cons x r=>simp[qjq,zap]
 | i+1,h=>by
  rw[z4n h]
  have h1:=zlx 4 (qjq p i) p[i+1]
  have h2:=qdd hp i (by omega)
  rw[List.take_succ_eq_append_getElem h,zch,List.length_append]
  simp only[zap,List.append_nil];omega
theorem zrb (p:List Tr)(i:Nat):(zap (p.take i)).length≤(zap p).length:=by
 conv=>rhs;rw[←List.take_append_drop i p]
 rw[zch,List.length_append];omega
theorem qmw {p:List Tr} (hp:p≠[]):qjq p (p.length-1)=qos p:=by
 cases p with
 |nil=>exact absurd rfl hp
 |cons x r=>simp[qjq,qos]
def CR (t:Tr):Prop:=(pre t).all zds=true
def CRL (l:List Tr):Prop:=(zap l).all zds=true
theorem zdf:CRL []:=by simp[CRL,zap]
theorem zbb (t:Tr)(l:List Tr):CRL (t::l)↔CR t∧CRL l:=by simp[CRL,CR,zap]
theorem zdm (a b:List Tr):CRL (a++b)↔CRL a∧CRL b:=by simp[CRL,zch]
theorem zeo: ∀l:List Tr,CRL l↔ ∀t∈l,CR t
 |[]=>by simp[zdf]
 |t::l=>by rw[zbb,zeo l];simp
theorem zcn (t:Tr):CR t↔zds t=true∧CRL t.l:=by rw[CR,zcw,List.all_cons,Bool.and_eq_true];rfl
theorem zgx {t:Tr} {k:Nat}:zug t k=false↔ ∀y∈t.l,y.k≠k:=by simp[zug]
theorem qfw {l:List Tr} (h:1<l.length)(h1: ∀t∈l,t.k≠1∧t.k≠3):zds (.mk 3 0#256 0 0 l)=true:=by
 have e1:zug (.mk 3 0#256 0 0 l) 1=false:=zgx.2 fun y hy=>(h1 y hy).1
 have e3:zug (.mk 3 0#256 0 0 l) 3=false:=zgx.2 fun y hy=>(h1 y hy).2
 simp[zdt,zlg,e1,e3];omega
theorem qih {l:List Tr} (h:1<l.length)(h1: ∀t∈l,t.k≠4):zds (.mk 4 0#256 0 0 l)=true:=by
 have e1:zug (.mk 4 0#256 0 0 l) 4=false:=zgx.2 fun y hy=>h1 y hy
 simp[zdt,zlg,e1];omega
theorem zti {t:Tr} {lo hi:Int} (h:t.k≠1)(hb:zdv lo hi=true):zds (.mk 5 0#256 lo hi [t])=true:=by
 have e1:zug (.mk 5 0#256 lo hi [t]) 1=false:=zgx.2 fun y hy=>by simp[Tr.l] at hy;subst hy;exact h
 simp[zdt,zlg,e1,hb]
theorem qft (t:Tr):zds (.mk 6 0#256 0 0 [t])=true:=by simp[zdt,zlg]
theorem zfx:zds emptyT=true:=by simp[emptyT,zdt,zlg]
theorem zkn {t:Tr} (h:zds t=true):t.k=1∨t.k=2∨t.k=3∨t.k=4∨t.k=5∨t.k=6:=by
 cases t with
 | mk k s mn mx l=>
  rw[zdt] at h
  simp only[Tr.k]
  by_cases h1:k=1; · exact .inl h1
  by_cases h2:k=2; · exact .inr (.inl h2)
  by_cases h3:k=3; · exact .inr (.inr (.inl h3))
  by_cases h4:k=4; · exact .inr (.inr (.inr (.inl h4)))
  by_cases h5:k=5; · exact .inr (.inr (.inr (.inr (.inl h5))))
  by_cases h6:k=6; · exact .inr (.inr (.inr (.inr (.inr h6))))
  exfalso
  have e: ∀n:Nat,k≠n→((k:Int)==n)=false:=fun n hn=>by simp;omega
  rw[show((k:Int)==1)=false from e 1 h1,show((k:Int)==2)=false from e 2 h2,show((k:Int)==3)=false from e 3 h3,show((k:Int)==4)=false from e 4 h4,show((k:Int)==5)=false from e 5 h5,show((k:Int)==6)=false from e 6 h6] at h
  simp at h
theorem zgl {t:Tr} (h:zds t=true)(hk:t.k=3):1<t.l.length∧ ∀y∈t.l,y.k≠1∧y.k≠3:=by
 cases t with
 | mk k s mn mx l=>
  simp only[Tr.k] at hk;subst hk
  rw[zdt] at h
  simp only[Bool.and_eq_true,Bool.not_eq_true'] at h
  have h2:=h.2
  simp only[show((((3:Nat):Int))==1)=false from rfl,show((((3:Nat):Int))==2)=false from rfl,show((((3:Nat):Int))==3)=true from rfl,cond_false,cond_true,Bool.and_eq_true,Bool.not_eq_true',decide_eq_true_eq] at h2
  exact⟨by simp only[Tr.l];omega,fun y hy=>⟨zgx.1 h2.1.2 y hy,zgx.1 h2.2 y hy⟩⟩
theorem zko {t:Tr} (h:zds t=true)(hk:t.k=4):1<t.l.length∧ ∀y∈t.l,y.k≠4:=by
 cases t with
 | mk k s mn mx l=>
  simp only[Tr.k] at hk;subst hk
  rw[zdt] at h
  simp only[Bool.and_eq_true,Bool.not_eq_true'] at h
  have h2:=h.2
  simp only[show((((4:Nat):Int))==1)=false from rfl,show((((4:Nat):Int))==2)=false from rfl,show((((4:Nat):Int))==3)=false from rfl,show((((4:Nat):Int))==4)=true from rfl,cond_false,cond_true,Bool.and_eq_true,Bool.not_eq_true',decide_eq_true_eq] at h2
  exact⟨by simp only[Tr.l];omega,fun y hy=>zgx.1 h2.2 y hy⟩
theorem z5q (t:Tr)(h5:t.k≠5)(h2:t.k≠2):zkv t=min (zfe t.l) 10001:=by
 cases t with
 |mk k s mn mx l=>simp only[Tr.k] at h5 h2;simp[zkv,h5,h2,Tr.l]
theorem zde: ∀a b,zfe (a++b)=zfe a+zfe b
 |[],b=>by simp[zfe]
 |x::a,b=>by rw[List.cons_append,zfe,zfe,zde a b];omega
theorem zwe:zkv emptyT=0:=by simp[emptyT,zkv,zfe];rfl
theorem z8z (l:List Nat):zkv (qap l)=1:=by simp[qap,zkv,zfe];rfl
def grT (t:Tr):Nat:=(pre t).countP fun x=>decide (x.k=6)
def grL (l:List Tr):Nat:=(zap l).countP fun x=>decide (x.k=6)
theorem zfa:grL []=0:=by simp[grL,zap]
theorem zda (t:Tr)(l:List Tr):grL (t::l)=grT t+grL l:=by simp[grL,grT,zap]
theorem zed (a b:List Tr):grL (a++b)=grL a+grL b:=by simp[grL,zch]
theorem qof (t:Tr):grT t=grL t.l+(if t.k=6 then 1 else 0):=by rw[grT,zcw,List.countP_cons];simp[grL]
theorem qeb (k:Nat)(s:BS)(mn mx:Int)(l:List Tr):grT (.mk k s mn mx l)=grL l+(if k=6 then 1 else 0):=qof _
theorem z2d:grT emptyT=0:=by simp[emptyT,grT,pre,zap,Tr.k]
theorem qho (l:List Nat):grT (qap l)=0:=by simp[qap,grT,pre,zap,Tr.k]
theorem zir (kind:Nat):zcc kind []=[]:=rfl
theorem zdb (kind:Nat)(x:Tr)(l:List Tr):zcc kind (x::l)=(bif (x.k:Int)==kind then x.l else bif (kind:Int)==3&&(x.k:Int)==1 then[] else[x])++zcc kind l:=by simp[zcc]
theorem zqu (kind:Nat)(a b:List Tr):zcc kind (a++b)=zcc kind a++zcc kind b:=by simp[zcc]
def G3 (l:List Tr):Prop:=CRL l∧ ∀y∈l,y.k≠1∧y.k≠3
def G4 (l:List Tr):Prop:=CRL l∧ ∀y∈l,y.k≠4
theorem zjw: ∀ {l:List Tr},CRL l→G3 (zcc 3 l)
 |[],_=>⟨zdf,by simp[zcc]⟩
 | x ::l,h=>by
  rw[zbb] at h
  obtain⟨g1,g2⟩:=zjw h.2
  have hx:=(zcn x).1 h.1
  rw[zdb]
  by_cases h3:x.k=3
  ·have e:((x.k:Int)==((3:Nat):Int))=true:=by simp[h3]
   rw[e,cond_true]
   refine⟨(zdm _ _).2 ⟨hx.2,g1⟩,fun y hy=> ?_⟩
   rcases List.mem_append.1 hy with hy|hy
   ·exact(zgl hx.1 h3).2 y hy
   ·exact g2 y hy
  ·have e:((x.k:Int)==((3:Nat):Int))=false:=by simp;omega
   rw[e,cond_false]
   by_cases h1:x.k=1
   ·have e1:((((3:Nat):Int)==3)&&((x.k:Int)==1))=true:=by simp[h1]
    rw[e1,cond_true,List.nil_append];exact⟨g1,g2⟩
   ·have e1:((((3:Nat):Int)==3)&&((x.k:Int)==1))=false:=by simp;omega
    rw[e1,cond_false,List.singleton_append]
    refine⟨(zbb _ _).2 ⟨h.1,g1⟩,fun y hy=> ?_⟩
    rcases List.mem_cons.1 hy with rfl|hy
    ·exact⟨h1,h3⟩
    ·exact g2 y hy
theorem zmm: ∀ {l:List Tr},CRL l→G4 (zcc 4 l)
 |[],_=>⟨zdf,by simp[zcc]⟩
 | x::l,h=>by
  rw[zbb] at h
  obtain⟨g1,g2⟩:=zmm h.2
  have hx:=(zcn x).1 h.1
  rw[zdb]
  by_cases h3:x.k=4
  ·have e:((x.k:Int)==((4:Nat):Int))=true:=by simp[h3]
   rw[e,cond_true]
   refine⟨(zdm _ _).2 ⟨hx.2,g1⟩,fun y hy=> ?_⟩
   rcases List.mem_append.1 hy with hy|hy
   ·exact(zko hx.1 h3).2 y hy
   ·exact g2 y hy
  ·have e:((x.k:Int)==((4:Nat):Int))=false:=by simp;omega
   have e1:((((4:Nat):Int)==3)&&((x.k:Int)==1))=false:=by simp
   rw[e,cond_false,e1,cond_false,List.singleton_append]
   refine⟨(zbb _ _).2 ⟨h.1,g1⟩,fun y hy=> ?_⟩
   rcases List.mem_cons.1 hy with rfl|hy
   ·exact h3
   ·exact g2 y hy
theorem zja (kind:Nat)(x:Tr):zrn kind [x]=x:=rfl
theorem zhh (kind:Nat)(x y:Tr)(l:List Tr):zrn kind (x::y::l)= .mk kind 0#256 0 0 (x::y::l):=by
 have e1:(((x::y::l).length:Int)==0)=false:=by simp;omega
 have e2:(((x::y::l).length:Int)==1)=false:=by simp;omega
 rw[zrn,e1,e2];rfl
theorem zot: ∀ {l:List Tr},G3 l→CR (zrn 3 l)
 |[],_=>(zcn _).2 ⟨zfx,zdf⟩
 |[x],h=>(zeo _).1 h.1 x (by simp)
 |x::y::l,h=>by rw[zhh];exact(zcn _).2 ⟨qfw (by simp) h.2,h.1⟩
theorem zyk: ∀ {l:List Tr},G4 l→CR (zrn 4 l)
 |[],_=>(zcn _).2 ⟨zfx,zdf⟩
 |[x],h=>(zeo _).1 h.1 x (by simp)
 |x::y::l,h=>by rw[zhh];exact(zcn _).2 ⟨qih (by simp) h.2,h.1⟩
theorem qea {a b:Tr} (ha:CR a)(hb:CR b):CR (zfq 3 a b):=zot (zjw ((zeo _).2 (by simp[ha,hb])))
theorem z1m {a b:Tr} (ha:CR a)(hb:CR b):CR (zfq 4 a b):=zyk (zmm ((zeo _).2 (by simp[ha,hb])))
theorem z1o (kind:Nat)(hk:kind=3∨kind=4): ∀l:List Tr,zfe l≤10000→zfe (zcc kind l)≤zfe l
 |[],_=>by simp[zcc,zfe]
 | x ::l,h=>by
  rw[zfe] at h
  have h1:=zkp x
  have h2:=zem l
  have ih:=z1o kind hk l (by omega)
  rw[zdb,zde,zfe]
  have:zfe (bif (x.k:Int)==kind then x.l else bif (kind:Int)==3&&(x.k:Int)==1 then[] else[x])≤zkv x:=by
   cases e:(x.k:Int)==kind
   ·rw[cond_false]
    cases (kind:Int)==3&&(x.k:Int)==1
    ·simp[zfe]
    ·simp[zfe];omega
   ·rw[cond_true]
    have e':x.k=kind:=by simp at e;omega
    have:=z5q x (by omega) (by omega)
    omega
  omega
theorem qnh (kind:Nat)(hk:kind=3∨kind=4): ∀l:List Tr,zkv (zrn kind l)≤zfe l
 |[]=>by rw[show zrn kind []=emptyT from rfl,zwe];simp[zfe]
 |[x]=>by rw[zja];simp[zfe]
 | x::y::l=>by
  rw[zhh,z5q _ (by simp only[Tr.k];omega) (by simp only[Tr.k];omega)]
  simp only[Tr.l];omega
theorem ztj (kind:Nat)(hk:kind=3∨kind=4) {a b:Tr} (h:zkv a+zkv b≤10000):zkv (zfq kind a b)≤zkv a+zkv b:=by
 have h0:zfe [a,b]=zkv a+zkv b:=by simp[zfe]
 have h1:=z1o kind hk [a,b] (by omega)
 have h2:=qnh kind hk (zcc kind [a,b])
 rw[zfq];omega
theorem z7x (kind:Nat)(hk:kind=3∨kind=4): ∀l:List Tr,CRL l→grL (zcc kind l)≤grL l
 |[],_=>by simp[zcc]
 | x ::l,h=>by
  rw[zbb] at h
  have ih:=z7x kind hk l h.2
  rw[zdb,zed,zda]
  have:grL (bif (x.k:Int)==kind then x.l else bif (kind:Int)==3&&(x.k:Int)==1 then[] else[x])≤grT x:=by
   cases e:(x.k:Int)==kind
   ·rw[cond_false]
    cases (kind:Int)==3&&(x.k:Int)==1
    ·rw[cond_false,zda,zfa];omega
    ·rw[cond_true,zfa];omega
   ·rw[cond_true]
    have:=qof x;omega
  omega
theorem endJ_gr (kind:Nat)(hk:kind=3∨kind=4): ∀l:List Tr,grT (zrn kind l)≤grL l
 |[]=>by rw[show zrn kind []=emptyT from rfl,z2d];omega
 |[x]=>by rw[zja,zda];omega
 | x::y::l=>by
  rw[zhh,qeb,if_neg (by omega)];omega
theorem zye (kind:Nat)(hk:kind=3∨kind=4) {a b:Tr} (ha:CR a)(hb:CR b):grT (zfq kind a b)≤grT a+grT b:=by
 have h1:=z7x kind hk [a,b] ((zeo _).2 (by simp[ha,hb]))
 have h2:=endJ_gr kind hk (zcc kind [a,b])
 simp only[zda,zfa] at h1
 rw[zfq];omega
structure OkM (st:MSt)(i:Nat):Prop where
 cr:CRL st.1
 pos:zfe st.1≤(i:Int)*st.2.1
 gr:(grL st.1:Int)≤st.2.2
theorem zwr {p:List Tr} (h:0<p.length):p=p.take (p.length-1)++[zfm p 1]:=by
 rw[zix (by omega) (by omega)]
 conv=>lhs;rw[←List.take_append_drop (p.length-1) p]
 rw[List.drop_eq_getElem_cons (by omega),List.drop_of_length_le (by omega)]
theorem z0s {p:List Tr} (h:2≤p.length):p=p.take (p.length-2)++[zfm p 2,zfm p 1]:=by
 rw[zix (i:=2) (by omega) (by omega),zix (i:=1) (by omega) (by omega)]
 conv=>lhs;rw[←List.take_append_drop (p.length-2) p]
 rw[List.drop_eq_getElem_cons (by omega),List.drop_eq_getElem_cons (by omega),List.drop_of_length_le (by omega)]
 simp only[show p.length-2+1=p.length-1 by omega]
theorem z9u {p:List Tr} (h:0<p.length)(y:Tr):p.set (p.length-1) y=p.take (p.length-1)++[y]:=by
 rw[List.set_eq_take_append_cons_drop,if_pos (by omega),List.drop_of_length_le (by omega)]
theorem qdg: ∀j,j<12→zds (qap (zxg j))=true:=by decide+kernel
theorem qod {j:Nat} (h:j<12):CR (qap (zxg j)):=(zcn _).2 ⟨qdg j h,zdf⟩
theorem qin (x:Sm):zdv (loM x) (moM x)=true:=by
 have h1:x.2.1%3<3:=Nat.mod_lt _ (by decide)
 have h2:x.2.2%4<4:=Nat.mod_lt _ (by decide)
 unfold moM badM loM m4
 generalize x.2.1%3=a at*
 generalize x.2.2%4=b at*
 have key: ∀a,a<3→ ∀b,b<4→zdv ((a:Nat):Int) (bif decide (((b:Nat):Int)<(a:Int))||(b:Int)==0||(a:Int)==1&&(b:Int)==1 then-1 else(b:Int))=true:=by decide
 exact key a h1 b h2
theorem z7b (x:Sm)(t:Tr):zkv (.mk 5 0#256 (loM x) (moM x) [t])≤zkv t*tmM x:=by
 have h1:x.2.1%3<3:=Nat.mod_lt _ (by decide)
 have h2:x.2.2%4<4:=Nat.mod_lt _ (by decide)
 have h0:=zkp t
 have hlo:0≤loM x:=by unfold loM;omega
 have hf:min (if moM x= -1 then max (max (loM x) 0) 1 else max (max (loM x) 0) (moM x)) 10001≤tmM x:=by
  unfold tmM
  split
  ·rename_i e;rw[e];omega
  ·omega
 have hm:=Int.mul_le_mul_of_nonneg_left hf h0
 simp only[zkv,zfe,if_true,if_neg (show ¬(5=2) by decide),Int.add_zero,Int.zero_add]
 omega
theorem qks {st:MSt} {i:Nat} (x:Sm)(h:OkM st i)(hi:i≤25)(hv:0≤st.2.2∧st.2.2≤9∧1≤st.2.1∧st.2.1≤16):OkM (zrm st x) (i+1):=by
 obtain⟨c,p,g⟩:=h
 obtain⟨v1,v2,v3,v4⟩:=hv
 have e0:((i+1:Nat):Int)*st.2.1=(i:Int)*st.2.1+st.2.1:=by rw[Int.natCast_add,Int.add_mul];simp
 have e400:(i:Int)*st.2.1≤400:=by
  have:=Int.mul_le_mul (show(i:Int)≤25 by omega) v4 (by omega) (by omega)
  omega
 have c0:=(zeo _).1 c
 unfold zrm
 cases decide (kI x<4)
 ·cases kI x==4
  ·cases hA:cA st.1 x
   ·cases hB:cB st.1 x
    ·cases hC:cC st.1 st.2.2 x
     ·cases hD:cD st.1 x
      ·simp only[cond_false];exact⟨c,by omega,g⟩
      ·simp only[cond_false,cond_true]
       cases hT:decide (st.2.1*tmM x≤16)
       ·simp only[cond_false];exact⟨c,by omega,g⟩
       ·simp only[cond_true]
        unfold cD at hD
        simp only[Bool.and_eq_true,decide_eq_true_eq,bne_iff_ne,ne_eq] at hD
        have hp:0<st.1.length:=by omega
        have es:=zwr hp
        rw[z9u hp]
        rw[es,zdm,zbb] at c
        rw[es,zde] at p
        rw[es,zed,zda,zfa] at g
        simp only[zfe,Int.add_zero] at p
        refine⟨(zdm _ _).2 ⟨c.1,(zbb _ _).2 ⟨(zcn _).2 ⟨zti (by omega) (qin x),(zbb _ _).2 ⟨c.2.1,zdf⟩⟩,zdf⟩⟩,?_,?_⟩
        ·have h1:=z7b x (zfm st.1 1)
         have h2:=zem (st.1.take (st.1.length-1))
         have h3:=(qfr x).1
         rw[zde]
         simp only[zfe,Int.add_zero]
         have h4:=Int.mul_le_mul_of_nonneg_right p (show 0≤tmM x by omega)
         have h5:=Int.mul_le_mul_of_nonneg_left h3 h2
         rw[Int.add_mul] at h4
         have e1:((i+1:Nat):Int)*(st.2.1*tmM x)=(i:Int)*st.2.1*tmM x+st.2.1*tmM x:=by
          rw[Int.natCast_add,Int.add_mul,Int.mul_assoc];simp
         have h6:0≤st.2.1*tmM x:=Int.mul_nonneg (by omega) (by omega)
         rw[e1];omega
        ·dsimp only;rw[zed,zda,zfa,qeb,zda,zfa,if_neg (by decide)];omega
     ·simp only[cond_false,cond_true]
      unfold cC at hC
      simp only[Bool.and_eq_true,decide_eq_true_eq] at hC
      have hp:0<st.1.length:=by omega
      have es:=zwr hp
      rw[z9u hp]
      rw[es,zdm,zbb] at c
      rw[es,zde] at p
      rw[es,zed,zda,zfa] at g
      simp only[zfe,Int.add_zero] at p
      refine⟨(zdm _ _).2 ⟨c.1,(zbb _ _).2 ⟨(zcn _).2 ⟨qft _,(zbb _ _).2 ⟨c.2.1,zdf⟩⟩,zdf⟩⟩,?_,?_⟩
      ·rw[zde,zfe,z5q _ (by simp only[Tr.k];omega) (by simp only[Tr.k];omega)]
       simp only[Tr.l,zfe,Int.add_zero];omega
      ·dsimp only;rw[zed,zda,zfa,qeb,zda,zfa,if_pos rfl];omega
    ·simp only[cond_false,cond_true]
     unfold cB at hB
     simp only[Bool.and_eq_true,decide_eq_true_eq] at hB
     have hp:2≤st.1.length:=by omega
     have es:=z0s hp
     rw[es,zdm,zbb,zbb] at c
     rw[es,zde] at p
     rw[es,zed,zda,zda,zfa] at g
     simp only[zfe,Int.add_zero] at p
     have n0:=zem (st.1.take (st.1.length-2))
     refine⟨(zdm _ _).2 ⟨c.1,(zbb _ _).2 ⟨z1m c.2.1 c.2.2.1,zdf⟩⟩,?_,?_⟩
     ·have:=ztj 4 (.inr rfl) (a:=zfm st.1 2) (b:=zfm st.1 1) (by omega)
      rw[zde];simp only[zfe,Int.add_zero];omega
     ·dsimp only;have:=zye 4 (.inr rfl) c.2.1 c.2.2.1
      rw[zed,zda,zfa];omega
   ·simp only[cond_false,cond_true]
    unfold cA at hA
    simp only[Bool.and_eq_true,decide_eq_true_eq] at hA
    have hp:2≤st.1.length:=by omega
    have es:=z0s hp
    rw[es,zdm,zbb,zbb] at c
    rw[es,zde] at p
    rw[es,zed,zda,zda,zfa] at g
    simp only[zfe,Int.add_zero] at p
    have n0:=zem (st.1.take (st.1.length-2))
    refine⟨(zdm _ _).2 ⟨c.1,(zbb _ _).2 ⟨qea c.2.1 c.2.2.1,zdf⟩⟩,?_,?_⟩
    ·have:=ztj 3 (.inl rfl) (a:=zfm st.1 2) (b:=zfm st.1 1) (by omega)
     rw[zde];simp only[zfe,Int.add_zero];omega
    ·dsimp only;have:=zye 3 (.inl rfl) c.2.1 c.2.2.1
     rw[zed,zda,zfa];omega
  ·simp only[cond_false,cond_true]
   refine⟨(zdm _ _).2 ⟨c,(zbb _ _).2 ⟨(zcn _).2 ⟨zfx,zdf⟩,zdf⟩⟩,?_,?_⟩
   ·rw[zde];simp only[zfe,zwe];omega
   ·dsimp only;rw[zed,zda,zfa,z2d];omega
 ·simp only[cond_true]
  refine⟨(zdm _ _).2 ⟨c,(zbb _ _).2 ⟨qod (Nat.mod_lt _ (by decide)),zdf⟩⟩,?_,?_⟩
  ·rw[zde];simp only[zfe,z8z];omega
  ·dsimp only;rw[zed,zda,zfa,qho];omega
theorem okM (l:List Sm)(hl:l.length≤25): ∀i,i≤l.length→OkM (MM l i) i
 |0,_=>⟨by simp[MM];exact zdf,by simp[MM,zfe],by simp[MM,zfa]⟩
 | i+1,h=>by
  rw[z7e l i (by omega)]
  have:=invM l i (by omega)
  exact qks _ (okM l hl i (by omega)) (by omega) ⟨this.2.1,this.2.2.1,this.2.2.2.1,this.2.2.2.2⟩
theorem qdr: ∀(r:List Tr) (x:Tr),CR x→CRL r→zkv x+zfe r≤400→
 CR (r.foldl (zfq 4) x)∧zkv (r.foldl (zfq 4) x)≤zkv x+zfe r∧grT (r.foldl (zfq 4) x)≤grT x+grL r∧(pre (r.foldl (zfq 4) x)).length≤(pre x).length+(zap r).length+r.length
 |[],x,h,_,_=>by simp[zfe,zfa,zap,h]
 | y::r,x,h,hr,hp=>by
  rw[zbb] at hr
  rw[zfe] at hp
  have n1:=zem r
  have j1:=ztj 4 (.inr rfl) (a:=x) (b:=y) (by omega)
  have j2:=zye 4 (.inr rfl) h hr.1
  have j3:=zlx 4 x y
  obtain⟨k1,k2,k3,k4⟩:=qdr r (zfq 4 x y) (z1m h hr.1) hr.2 (by omega)
  rw[List.foldl_cons,zfe,zda,zap,List.length_append,List.length_cons]
  exact⟨k1,by omega,by omega,by omega⟩
theorem made_ok (l:List Sm):CR (zuw l)∧zkv (zuw l)≤400∧grT (zuw l)≤9∧(pre (zuw l)).length≤50:=by
 obtain⟨m,hm⟩: ∃m,l.take 25=m:=⟨_,rfl⟩
 have hlen:m.length≤25:=by rw[←hm,List.length_take];omega
 rw[zuw,hm]
 have e:MM m 25=MM m m.length:=by rw[MM,MM,List.take_of_length_le hlen,List.take_length]
 rw[e]
 have o:=okM m hlen m.length (Nat.le_refl _)
 have v:=invM m m.length (Nat.le_refl _)
 obtain⟨c,p,g⟩:=o
 have p400:zfe (MM m m.length).1≤400:=by
  have:=Int.mul_le_mul (show(m.length:Int)≤25 by omega) v.2.2.2.2 (by omega) (by omega)
  omega
 match h:(MM m m.length).1 with
 |[]=>exact⟨qod (j:=0) (by decide),by rw[qos,z8z];omega,by rw[qos,qho];omega,by simp[qos,qap,pre,zap]⟩
 | x::r=>
  rw[h] at c p400 g v
  rw[zbb] at c
  rw[zfe] at p400
  rw[zda] at g
  have hv:=v.1
  rw[zap,List.length_append] at hv
  obtain⟨k1,k2,k3,k4⟩:=qdr r x c.1 c.2 (by omega)
  have hr:=zaq r
  rw[qos]
  exact⟨k1,by omega,by omega,by omega⟩
theorem zhw {t:Tr} (h:CR t)(hl:(pre t).length≤10000):zcd t=true:=by
 rw[zcd,zcj,Bool.and_eq_true];exact⟨by simpa using hl,h⟩
def qlh (lo hi:Int):Bool:=(decide (lo≥0)&&decide (lo≤16))&&(hi== -1||(decide (hi≥lo)&&decide (hi≤16)))
theorem zlh (lo hi:Int):qlh lo hi=true↔0≤lo∧lo≤16∧(hi= -1∨(lo≤hi∧hi≤16)):=by simp[qlh];omega
theorem zib (lo hi:Int):zdv lo hi=true↔(0≤lo∧lo≤16∧ ¬(lo=1∧hi=1))∧(hi= -1∨(1≤hi∧hi≤16∧lo≤hi)):=by simp[zdv];omega
structure MT (t:Tr):Prop where
 cr:CR t
 pos:zkv t≤400
 gr:grT t≤9
 len:(pre t).length≤50
theorem MT.clean {t:Tr} (h:MT t):zcd t=true:=zhw h.cr (by have:=h.len;omega)
theorem MT.good {t:Tr} (h:MT t):zmq t=true:=by rw[zmq,h.clean,Bool.or_true]
theorem MT.k0 {t:Tr} (h:MT t):t.k≠0:=by have:=zkn ((zcn t).1 h.cr).1;omega
theorem flatT3 (l:List Tr):ziv 3 1 l=zcc 3 l:=by
 unfold ziv zcc
 congr 1
theorem qns: ∀ {l:List Tr},(∀t∈l,t.k≠0)→ziv 4 0 l=zcc 4 l
 |[],_=>rfl
 | x::l,h=>by
  have ih:=qns (l:=l) fun t ht=>h t (List.mem_cons_of_mem _ ht)
  have e0:((x.k:Int)==((0:Nat):Int))=false:=by have:=h x (by simp);simp;omega
  rw[zdb,←ih,ziv,List.flatMap_cons,←ziv,e0]
  rfl
def CS (n:Nat)(t:Tr):Prop:=CR t∧(pre t).length≤n
theorem MT.cs {t:Tr} (h:MT t):CS 50 t:=⟨h.cr,h.len⟩
theorem CR.k0 {t:Tr} (h:CR t):t.k≠0:=by have:=zkn ((zcn t).1 h).1;omega
theorem qob {t:Tr} (h:CR t)(hk:t.k=1):t=emptyT:=by
 have hr:=((zcn t).1 h).1
 cases t with
 | mk k s mn mx l=>
  simp only[Tr.k] at hk;subst hk
  rw[zdt,zlg] at hr
  simp only[Bool.and_eq_true,Bool.not_eq_true',Bool.or_eq_false_iff] at hr
  obtain⟨⟨⟨h1,h2⟩,h3⟩,_⟩:=hr
  simp at h1 h2 h3
  have hl:l=[]:=by cases l with|nil=>rfl|cons x l=>simp at h3
  rw[h1,h2.1,h2.2,hl];rfl
theorem eta_of {t:Tr} {kind:Nat} (h:CR t)(hk:t.k=kind)(h2:kind=3∨kind=4):t= .mk kind 0#256 0 0 t.l:=by
 have hr:=((zcn t).1 h).1
 cases t with
 | mk k s mn mx l=>
  simp only[Tr.k] at hk;subst hk
  rw[zdt,zlg] at hr
  simp only[Bool.and_eq_true,Bool.not_eq_true',Bool.or_eq_false_iff] at hr
  obtain⟨⟨⟨h1,h3⟩,_⟩,_⟩:=hr
  have e2:((k:Int) !=2)=true:=by simp;omega
  have e5:((k:Int) !=5)=true:=by simp;omega
  rw[e2,Bool.true_and] at h1
  rw[e5,Bool.true_and] at h3
  simp at h1 h3
  rw[h1,h3.1,h3.2];rfl
theorem zmi (kind:Nat): ∀l:List Tr,(pre (zrn kind l)).length≤(zap l).length+1
 |[]=>by rw[show zrn kind []=emptyT from rfl];simp[emptyT,pre,zap]
 |[x]=>by rw[zja];simp[zap]
 |x::y::l=>by rw[zhh,pre,List.length_cons];omega
theorem zkb {t:Tr} (h:zcd t=true):zhf t=t:=by rw[zhf,if_pos h]
theorem qkj {l:List Tr} (h:CRL l)(hl:l≠[]):zcc 4 l≠[]:=by
 cases l with
 |nil=>exact absurd rfl hl
 | cons x l=>
  rw[zbb] at h
  rw[zdb]
  by_cases h4:x.k=4
  ·have e:((x.k:Int)==((4:Nat):Int))=true:=by simp[h4]
   rw[e,cond_true]
   have hlen:=(zko ((zcn x).1 h.1).1 h4).1
   intro hn
   have h1:=(List.append_eq_nil_iff.1 hn).1
   rw[h1] at hlen
   simp at hlen
  ·have e:((x.k:Int)==((4:Nat):Int))=false:=by simp;omega
   have e1:((((4:Nat):Int)==3)&&((x.k:Int)==1))=false:=by simp
   rw[e,cond_false,e1,cond_false]
   simp
theorem or_eq {l:List Tr} (h:CRL l)(hne:l≠[])(hl:(zap l).length≤1000):orT l=zrn 4 (zcc 4 l):=by
 have hc:=(zeo l).1 h
 have hln: ∀t∈l,(pre t).length≤1000:=fun t ht=>by
  have: ∀(l:List Tr),t∈l→(pre t).length≤(zap l).length:=by
   intro l
   induction l with
   |nil=>intro h;cases h
   | cons y l ih=>
    intro h
    rw[zap,List.length_append]
    rcases List.mem_cons.1 h with rfl|h
    ·omega
    ·have:=ih h;omega
  have:=this l ht;omega
 have ha:(l.any fun x=> !zmq x)=false:=by
  rw[List.any_eq_false]
  intro x hx
  have h1:=zhw (hc x hx) (by have:=hln x hx;omega)
  rw[zmq,h1];simp
 rw[orT,ha,if_neg (by decide),qns fun t ht=>(hc t ht).k0]
 have g:=zmm h
 have hn:=qkj h hne
 have hfl:=zgb 4 l
 have hend:=zmi 4 (zcc 4 l)
 have hcr:=zyk g
 revert hend hcr hn
 generalize zcc 4 l=m at g hfl
 intro hn hend hcr
 match m,g,hend,hcr,hn with
 |[],_,_,_,hn=>exact absurd rfl hn
 | [x],_,hend,hcr,_=>
  rw[zja] at hend hcr⊢
  show zhf x=x
  exact zkb (zhw hcr (by omega))
 | x::y::m,_,hend,hcr,_=>
  rw[zhh] at hend hcr⊢
  have e1:(((x::y::m).length:Int)==0)=false:=by simp;omega
  have e2:(((x::y::m).length:Int)==1)=false:=by simp;omega
  rw[zps,e1,e2]
  exact zkb (zhw hcr (by omega))
theorem qiw: ∀ {m:List Tr},G3 m→zcc 3 [zrn 3 m]=m
 |[],_=>rfl
 | [x],h=>by
  have hx:=h.2 x (by simp)
  rw[zja,zdb,zir]
  have e:((x.k:Int)==((3:Nat):Int))=false:=by simp;omega
  have e1:((((3:Nat):Int)==3)&&((x.k:Int)==1))=false:=by simp;omega
  rw[e,cond_false,e1];rfl
 |x::y::m,_=>by rw[zhh,zdb,zir,List.append_nil];rfl
theorem qje {t:Tr} (h:CR t):zrn 3 (zcc 3 [t])=t:=by
 rw[zdb,zir,List.append_nil]
 by_cases h3:t.k=3
 ·have e:((t.k:Int)==((3:Nat):Int))=true:=by simp[h3]
  rw[e,cond_true]
  have hl:=(zgl ((zcn t).1 h).1 h3).1
  have he:=eta_of h h3 (.inl rfl)
  match hm:t.l,hl with
  |x::y::m,_=>rw[zhh,←hm];exact he.symm
  |[],hl=>simp at hl
  |[x],hl=>simp at hl
 ·have e:((t.k:Int)==((3:Nat):Int))=false:=by simp;omega
  rw[e,cond_false]
  by_cases h1:t.k=1
  ·rw[qob h h1];rfl
  ·have e1:((((3:Nat):Int)==3)&&((t.k:Int)==1))=false:=by simp;omega
   rw[e1];rfl
def qmk (c:Int):List AV:=[.raw (.int .u8 c)]
theorem z6f: ∀j:Nat,j<256→zzw .u8 (j:Int) 6=((j/64:Nat):Int)∧z4j .u8 (j:Int) 63=((j%64:Nat):Int)∧IntKind.u8.wrap (j:Int)=(j:Int):=by decide+kernel
theorem z0n {n:Nat} (h:n<2^64):IntKind.u64.wrap (n:Int)=(n:Int):=by
 simp only[IntKind.wrap,IntKind.bits,IntKind.signed]
 simp;omega
theorem zzl (w:BitVec 64):IntKind.u64.wrap ((w.toNat:Nat):Int)=((w.toNat:Nat):Int):=z0n w.isLt
theorem zpp (x:BitVec 64):BitVec.ofInt 64 ((x.toNat:Nat):Int)=x:=by
 apply BitVec.eq_of_toNat_eq;simp
theorem orI64 (x y:BitVec 64):orI .u64 (x.toNat:Int) (y.toNat:Int)=((x|||y).toNat:Int):=by
 show IntKind.u64.wrap (((BitVec.ofInt 64 (x.toNat:Int)|||BitVec.ofInt 64 (y.toNat:Int)).toNat:Nat):Int)=_
 rw[zpp,zpp];exact zzl _
theorem qfm (x y:BitVec 64):zpy .u64 (x.toNat:Int) (y.toNat:Int)=((x&&& ~~~ y).toNat:Int):=by
 show IntKind.u64.wrap (((BitVec.ofInt 64 (x.toNat:Int)&&& ~~~ BitVec.ofInt 64 (y.toNat:Int)).toNat:Nat):Int)=_
 rw[zpp,zpp];exact zzl _
theorem wd_or (a b:BS)(i:Nat):orI .u64 (wd a i) (wd b i)=wd (a|||b) i:=by
 unfold wd
 rw[orI64]
 have:W64 a i|||W64 b i=W64 (a|||b) i:=by
  apply BitVec.eq_of_getLsbD_eq
  intro j hj
  simp only[W64,BitVec.getLsbD_or,BitVec.getLsbD_extractLsb',hj,decide_true,Bool.true_and]
 rw[this]
theorem zyb (a b:BS)(i:Nat)(hi:i<4):zpy .u64 (wd a i) (wd b i)=wd (a&&& ~~~ b) i:=by
 unfold wd
 rw[qfm]
 have:W64 a i&&& ~~~ W64 b i=W64 (a&&& ~~~ b) i:=by
  apply BitVec.eq_of_getLsbD_eq
  intro j hj
  simp only[W64,BitVec.getLsbD_and,BitVec.getLsbD_not,BitVec.getLsbD_extractLsb',hj,decide_true,Bool.true_and]
  have:64*i+j<256:=by omega
  simp[this]
 rw[this]
theorem qkg (w:BitVec 64)(r:Nat)(hr:r<64):(z4j .u64 (zzw .u64 ((w.toNat:Nat):Int) (r:Int)) 1==1)=w.getLsbD r:=by
 have hw:=w.isLt
 have h1:zzw .u64 ((w.toNat:Nat):Int) (r:Int)=((w.toNat/2^r:Nat):Int):=by
  unfold zzw
  rw[show min (r:Int).toNat IntKind.u64.bits=r from by simp[IntKind.bits];omega]
  rw[Int.fdiv_eq_ediv_of_nonneg _ (by exact_mod_cast Nat.zero_le _)]
  norm_cast
 rw[h1]
 have h2:w.toNat/2^r<2^64:=Nat.lt_of_le_of_lt (Nat.div_le_self _ _) hw
 show(IntKind.u64.wrap (((BitVec.ofInt 64 ((w.toNat/2^r:Nat):Int)&&&BitVec.ofInt 64 1).toNat:Nat):Int)==1)=_
 have h3:(BitVec.ofInt 64 ((w.toNat/2^r:Nat):Int)&&&BitVec.ofInt 64 1).toNat=w.toNat/2^r%2:=by
  rw[BitVec.toNat_and]
  have e1:(BitVec.ofInt 64 ((w.toNat/2^r:Nat):Int)).toNat=w.toNat/2^r:=by
   rw[BitVec.ofInt_natCast,BitVec.toNat_ofNat];exact Nat.mod_eq_of_lt h2
  have e2:(BitVec.ofInt 64 1).toNat=1:=rfl
  rw[e1,e2,Nat.and_one_is_mod]
 rw[h3]
 have h4:w.toNat/2^r%2<2:=Nat.mod_lt _ (by decide)
 have h5:IntKind.u64.wrap ((w.toNat/2^r%2:Nat):Int)=((w.toNat/2^r%2:Nat):Int):=z0n (Nat.lt_trans h4 (by decide))
 rw[h5,BitVec.getLsbD,Nat.testBit_eq_decide_div_mod_eq]
 generalize w.toNat/2^r%2=m
 rw[Bool.eq_iff_iff];simp only[beq_iff_eq,decide_eq_true_eq];omega
def elN (s:BS)(i:Nat):List Nat:=(List.range i).filter fun j=>s.getLsbD j
def els (s:BS):List Int:=(elN s 256).map fun(j:Nat)=>(j:Int)
theorem z9l (s:BS)(i:Nat):elN s (i+1)=elN s i++(if s.getLsbD i=true then[i] else[]):=by
 rw[elN,List.range_succ,List.filter_append];simp[elN,List.filter_cons]
theorem qdx (s:BS) {i:Nat} (h:s.getLsbD i=true): ∀k,i<k→(elN s k)[(elN s i).length]? =some i
 |0,hk=>by omega
 | k+1,hk=>by
  rw[z9l]
  by_cases e:i=k
  ·subst e;rw[if_pos h];simp
  ·have ih:=qdx s h k (by omega)
   rw[List.getElem?_append_left (List.getElem?_eq_some_iff.1 ih).1];exact ih
def znh (x y:Int):Int:=if x<y then-1 else if x>y then 1 else 0
def zxm (p q:Nat→Bool):List Nat→Int
 |[]=>0
 |j::l=>if p j=q j then zxm p q l else if p j=true then-1 else 1
def zws (s t:BS):Int:=zxm s.getLsbD t.getLsbD (List.range 256)
theorem zvb (p q:Nat→Bool): ∀l,zxm p q l= -zxm q p l
 |[]=>rfl
 | j::l=>by
  rw[zxm,zxm]
  by_cases h:p j=q j
  ·rw[if_pos h,if_pos h.symm,zvb p q l]
  ·rw[if_neg h,if_neg (Ne.symm h)]
   cases hp:p j<;>cases hq:q j<;>simp_all
theorem zxk (p q:Nat→Bool): ∀l,zxm p q l= -1∨zxm p q l=0∨zxm p q l=1
 |[]=> .inr (.inl rfl)
 | j::l=>by
  rw[zxm]
  split
  ·exact zxk p q l
  ·split
   ·exact .inl rfl
   ·exact .inr (.inr rfl)
theorem z0u (p q:Nat→Bool): ∀l,zxm p q l=0↔ ∀j∈l,p j=q j
 |[]=>by simp[zxm]
 | j::l=>by
  rw[zxm]
  by_cases h:p j=q j
  ·rw[if_pos h,z0u p q l];simp[h]
  ·rw[if_neg h]
   constructor
   ·intro e;split at e<;>simp at e
   ·intro e;exact absurd (e j (by simp)) h
theorem zqn (p q r:Nat→Bool): ∀l,zxm p q l≤0→zxm q r l≤0→zxm p r l≤0
 |[],_,_=>by simp[zxm]
 | j::l,h1,h2=>by
  rw[zxm] at h1 h2⊢
  have ih:=zqn p q r l
  cases hp:p j<;>cases hq:q j<;>cases hr:r j<;>simp[hp,hq,hr] at h1 h2⊢ <;>first|exact ih h1 h2|skip
theorem z4o (s t:BS):zws s t=0↔s=t:=by
 rw[zws,z0u]
 constructor
 ·intro h;apply BitVec.eq_of_getLsbD_eq;intro j hj;exact h j (List.mem_range.2 hj)
 ·rintro rfl j _;rfl
theorem zxi (p q:Nat→Bool)(d:Nat→Bool)(l:List Nat)(hd: ∀j∈l,d j=(p j !=q j)):zxm p q l=(match l.filter d with|[]=>0|c::_=>if p c=true then-1 else 1):=by
 induction l with
 |nil=>rfl
 | cons j l ih=>
  have h:=hd j (by simp)
  rw[zxm,List.filter_cons]
  by_cases e:p j=q j
  ·rw[if_pos e,if_neg (by rw[h,e];simp)]
   exact ih fun k hk=>hd k (by simp[hk])
  ·have hb:d j=true:=by rw[h];simpa using e
   rw[if_neg e,hb];rfl
def zes (c d:Int):Int:=if c≠0 then c else d
def z6i (mx:Int):Int:=if mx= -1 then 9223372036854775807 else mx
mutual
def zla:Tr→Tr→Int
 | .mk k s mn mx l,.mk k' s' mn' mx' l'=>if k≠k' then znh k k' else if k=2 then zws s s' else if k=5 then zes (zes (znh mn mn') (znh (z6i mx) (z6i mx'))) (zkf l l') else if k=0∨k=1 then 0 else zkf l l'
def zkf:List Tr→List Tr→Int
 |[],[]=>0
 |[],_::_=> -1
 |_::_,[]=>1
 |x::a,y::b=>zes (zla x y) (zkf a b)
end
theorem zsq (x y:Int):znh x y= -znh y x:=by unfold znh;split<;>split<;>(try split)<;>omega
theorem zqa (x y:Int):znh x y= -1∨znh x y=0∨znh x y=1:=by unfold znh;split<;>(try split)<;>simp
theorem zuv (x y:Int):znh x y=0↔x=y:=by unfold znh;split<;>(try split)<;>omega
theorem zsz (x y:Int):znh x y≤0↔x≤y:=by unfold znh;split<;>(try split)<;>omega
theorem znc {c d:Int} (h:c= -1∨c=0∨c=1)(k:d= -1∨d=0∨d=1):zes c d= -1∨zes c d=0∨zes c d=1:=by unfold zes;split<;>assumption
theorem zqk {c d c' d':Int} (h:c= -c')(k:d= -d'):zes c d= -zes c' d':=by unfold zes;split<;>split<;>omega
theorem zqo {c d:Int}:zes c d=0↔c=0∧d=0:=by unfold zes;split<;>omega
theorem ztt {m m' m'' d d' d'':Int} (h:d≤0→d'≤0→d''≤0):zes (znh m m') d≤0→zes (znh m' m'') d'≤0→zes (znh m m'') d''≤0:=by
 unfold zes znh
 repeat' split
 all_goals first|omega|(intro h1 h2;first|omega|exact h h1 h2)
theorem z6w {xy yx yz zy xz zx d d' d'':Int} (a1:xy= -yx)(a2:yz= -zy)(a3:xz= -zx)(t1:xy≤0→yz≤0→xz≤0)(t2:yz≤0→zx≤0→yx≤0)(t3:zx≤0→xy≤0→zy≤0)(h:d≤0→d'≤0→d''≤0):
 zes xy d≤0→zes yz d'≤0→zes xz d''≤0:=by
 unfold zes
 intro h1 h2
 split at h1<;>split at h2<;>split<;>first|omega|exact h h1 h2
def SetG (S:Tr→Prop):Prop:=(∀x y,S x→S y→zla x y= -zla y x)∧(∀x y z,S x→S y→S z→zla x y≤0→zla y z≤0→zla x z≤0)
theorem z3v {S:Tr→Prop} (g:SetG S): ∀a b,(∀x∈a,S x)→(∀x∈b,S x)→zkf a b= -zkf b a
 |[],[],_,_=>by simp[zkf]
 |[],_::_,_,_=>by simp[zkf]
 |_::_,[],_,_=>by simp[zkf]
 | x::a,y::b,ha,hb=>by
  rw[zkf,zkf]
  exact zqk (g.1 x y (ha x (by simp)) (hb y (by simp))) (z3v g a b (fun z hz=>ha z (by simp[hz])) (fun z hz=>hb z (by simp[hz])))
theorem zwh {S:Tr→Prop} (g:SetG S): ∀a b c,(∀x∈a,S x)→(∀x∈b,S x)→(∀x∈c,S x)→zkf a b≤0→zkf b c≤0→zkf a c≤0
 |[],b,[],_,_,_=>by intros;simp[zkf]
 |[],b,_::_,_,_,_=>by intros;simp[zkf]
 |x::a,[],c,_,_,_=>by intro h;simp[zkf] at h
 |x::a,y::b,[],_,_,_=>by intro _ h;simp[zkf] at h
 | x::a,y::b,z::c,ha,hb,hc=>by
  rw[zkf,zkf,zkf]
  have sx:=ha x (by simp);have sy:=hb y (by simp);have sz:=hc z (by simp)
  exact z6w (g.1 x y sx sy) (g.1 y z sy sz) (g.1 x z sx sz) (g.2 x y z sx sy sz) (fun h1 h2=>g.2 y z x sy sz sx h1 h2) (fun h1 h2=>g.2 z x y sz sx sy h1 h2)
   (zwh g a b c (fun w hw=>ha w (by simp[hw])) (fun w hw=>hb w (by simp[hw])) (fun w hw=>hc w (by simp[hw])))
theorem z7h: ∀n,SetG fun t=>(pre t).length≤n
 |0=>⟨fun x y h=>by have h:(pre x).length≤0:=h;rw[zcw] at h;simp at h,fun x y z h=>by have h:(pre x).length≤0:=h;rw[zcw] at h;simp at h⟩
 | n + 1 =>by
  have g:=z7h n
  have sub: ∀t:Tr,(pre t).length≤n+1→ ∀x∈t.l,(pre x).length≤n:=fun t h x hx=>by
   have h1:=zck hx
   rw[zcw] at h;simp at h;omega
  constructor
  ·rintro⟨k,s,mn,mx,l⟩ ⟨k',s',mn',mx',l'⟩ h1 h2
   have s1:=sub _ h1
   have s2:=sub _ h2
   simp only[Tr.l] at s1 s2
   have hl:=z3v g l l' s1 s2
   rw[zla,zla]
   by_cases e:k=k'
   ·subst e
    simp only[ne_eq,not_true_eq_false,if_false]
    split
    ·exact zvb _ _ _
    split
    ·exact zqk (zqk (zsq _ _) (zsq _ _)) hl
    split
    ·rfl
    ·exact hl
   ·rw[if_pos e,if_pos (Ne.symm e)];exact zsq _ _
  ·rintro⟨k,s,mn,mx,l⟩ ⟨k',s',mn',mx',l'⟩ ⟨k'',s'',mn'',mx'',l''⟩ h1 h2 h3
   have s1:=sub _ h1
   have s2:=sub _ h2
   have s3:=sub _ h3
   simp only[Tr.l] at s1 s2 s3
   have hl:=zwh g l l' l'' s1 s2 s3
   rw[zla,zla,zla]
   by_cases e:k=k'
   ·subst e
    by_cases e2:k=k''
    ·subst e2
     simp only[ne_eq,not_true_eq_false,if_false]
     split
     ·exact zqn _ _ _ _
     split
     ·rename_i h5
      have key: ∀(a b c a' b' c':Int) (d d' d'':Int),(d≤0→d'≤0→d''≤0)→zes (zes (znh a b) (znh a' b')) d≤0→zes (zes (znh b c) (znh b' c')) d'≤0→zes (zes (znh a c) (znh a' c')) d''≤0:=by
       intro a b c a' b' c' d d' d'' h
       have asc: ∀x y z:Int,zes (zes x y) z=zes x (zes y z):=fun x y z=>by
        unfold zes
        by_cases hx:x=0
        ·simp[hx]
        ·simp[hx]
       rw[asc,asc,asc]
       exact ztt (ztt h)
      exact key _ _ _ _ _ _ _ _ _ hl
     split
     ·intros;omega
     ·exact hl
    ·intro _ h
     rw[if_pos (by simpa using e2)] at h⊢
     rw[zsz] at h⊢;exact h
   ·rw[if_pos (show k≠k' from e)]
    intro h
    rw[zsz] at h
    by_cases e2:k'=k''
    ·subst e2
     intro _
     rw[if_pos (show k≠k' from e)]
     rw[zsz];exact h
    ·rw[if_pos (show k'≠k'' from e2)]
     intro h'
     rw[zsz] at h'
     rw[if_pos (show k≠k'' by omega),zsz];omega
theorem zhg (x y:Tr):zla x y= -zla y x:=(z7h (max (pre x).length (pre y).length)).1 x y (Nat.le_max_left _ _) (Nat.le_max_right _ _)
theorem zhp (x y z:Tr):zla x y≤0→zla y z≤0→zla x z≤0:=(z7h ((pre x).length+(pre y).length+(pre z).length)).2 x y z (by omega) (by omega) (by omega)
theorem qmn (x:Tr):zla x x=0:=by have:=zhg x x;omega
mutual
theorem qbe: ∀x y,zla x y= -1∨zla x y=0∨zla x y=1
 | .mk k s mn mx l,.mk k' s' mn' mx' l'=>by
  rw[zla]
  have hl:=zwk l l'
  split
  ·exact zqa _ _
  split
  ·exact zxk _ _ _
  split
  ·exact znc (znc (zqa _ _) (zqa _ _)) hl
  split
  ·exact .inr (.inl rfl)
  ·exact hl
theorem zwk: ∀a b,zkf a b= -1∨zkf a b=0∨zkf a b=1
 |[],[]=>by simp[zkf]
 |[],_::_=>by simp[zkf]
 |_::_,[]=>by simp[zkf]
 |x::a,y::b=>by rw[zkf];exact znc (qbe x y) (zwk a b)
end
theorem zzu {k:Nat} {s:BS} {mn mx:Int} {l:List Tr} (h:zds (.mk k s mn mx l)=true):(k≠2→s=0#256)∧(k≠5→mn=0∧mx=0)∧(k<3→l=[])∧(k=5→mx= -1∨(1≤mx∧mx≤16)):=by
 have hk:=zkn h
 simp only[Tr.k] at hk
 rw[zdt,Bool.and_eq_true,zlg] at h
 obtain⟨h1,h2⟩:=h
 simp only[Bool.not_eq_true',Bool.or_eq_false_iff,Bool.and_eq_false_iff] at h1
 obtain⟨⟨a,b⟩,c⟩:=h1
 refine⟨fun h=> ?_,fun h=> ?_,fun h=> ?_,fun h=> ?_⟩
 ·rcases a with a|a
  ·simp at a;omega
  ·simpa using a
 ·rcases b with b|b
  ·simp at b;omega
  ·simp at b;exact b
 ·rcases c with c|c
  ·simp at c;omega
  ·cases l with
   |nil=>rfl
   |cons x l=>simp at c
 ·subst h
  simp[zdv] at h2
  have:=h2.1.2
  omega
mutual
theorem qex: ∀x y,CR x→CR y→zla x y=0→x=y
 | .mk k s mn mx l,.mk k' s' mn' mx' l',hx,hy,h=>by
  rw[zcn] at hx hy
  simp only[Tr.l] at hx hy
  obtain⟨a1,a2,a3,a4⟩:=zzu hx.1
  obtain⟨b1,b2,b3,b4⟩:=zzu hy.1
  have hk:=zkn hx.1
  simp only[Tr.k] at hk
  rw[zla] at h
  by_cases e:k=k'
  ·subst e
   simp only[ne_eq,not_true_eq_false,if_false] at h
   split at h
   ·rename_i h2
    rw[(z4o s s').1 h,(a2 (by omega)).1,(a2 (by omega)).2,(b2 (by omega)).1,(b2 (by omega)).2,a3 (by omega),b3 (by omega)]
   split at h
   ·rename_i h2 h5
    rw[zqo,zqo,zuv,zuv] at h
    have a5:=a4 h5
    have b5:=b4 h5
    have hm:mx=mx':=by
     have:=h.1.2
     unfold z6i at this
     split at this<;>split at this<;>omega
    rw[a1 h2,b1 h2,h.1.1,hm,z5t l l' hx.2 hy.2 h.2]
   split at h
   ·rename_i h2 h5 h0
    rw[a1 h2,b1 h2,(a2 h5).1,(a2 h5).2,(b2 h5).1,(b2 h5).2,a3 (by omega),b3 (by omega)]
   ·rename_i h2 h5 h0
    rw[a1 h2,b1 h2,(a2 h5).1,(a2 h5).2,(b2 h5).1,(b2 h5).2,z5t l l' hx.2 hy.2 h]
  ·rw[if_pos e,zuv] at h;omega
theorem z5t: ∀a b,CRL a→CRL b→zkf a b=0→a=b
 |[],[],_,_,_=>rfl
 |[],_::_,_,_,h=>by simp[zkf] at h
 |_::_,[],_,_,h=>by simp[zkf] at h
 | x::a,y::b,ha,hb,h=>by
  rw[zbb] at ha hb
  rw[zkf,zqo] at h
  rw[qex x y ha.1 hb.1 h.1,z5t a b ha.2 hb.2 h.2]
end
def z3z (t:Tr):List AV:=[.raw (.int .u8 t.k),.raw (.int .u64 (wd t.s 0)),.raw (.int .u64 (wd t.s 1)),.raw (.int .u64 (wd t.s 2)),.raw (.int .u64 (wd t.s 3)),.raw (.int .i64 t.mn),.raw (.int .i64 t.mx),.list t.l.length (cellsL t.l) .none]
theorem zuf (t:Tr):cells t=z3z t:=qkf t
instance:Enc Tr where
 inh:=noneT
 cells:=z3z
 cellsL:=cellsL
 sz:=8
 pos:=by decide
 nil:=by simp[cellsL]
 cons a l:=by rw[cellsL,zuf]
 len _:=rfl
 clo t:=by rw[←zuf];exact z3u t
theorem enc_eq (t:Tr):enc t= .agg (Enc.cells t):=by rw[enc,zuf];rfl
theorem qcg {E:Int} (g:0≤E)(s:BS)(mn mx:Int)(l:List Tr):AV.agg (Enc.cells (Tr.mk (Int.toNat E) s mn mx l))= .agg [.raw (.int .u8 E),.raw (.int .u64 (wd s 0)),.raw (.int .u64 (wd s 1)),.raw (.int .u64 (wd s 2)),.raw (.int .u64 (wd s 3)),.raw (.int .i64 mn),.raw (.int .i64 mx),.list l.length (cellsL l) .none]:=by
 show AV.agg (z3z _)=_
 simp only[z3z,Tr.k,Tr.s,Tr.mn,Tr.mx,Tr.l,Int.toNat_of_nonneg g]
def zca (t:Tr)(st:Room):AV:= .agg [.raw (.int .u8 t.k),.raw (.int .u64 (wd t.s 0)),.raw (.int .u64 (wd t.s 1)),.raw (.int .u64 (wd t.s 2)),.raw (.int .u64 (wd t.s 3)),.raw (.int .i64 t.mn),.raw (.int .i64 t.mx),.list t.l.length (cellsL t.l) st]
theorem zj (t:Tr)(st:Room):zcv (zca t st)= .agg (Enc.cells t):=by
 simp only[zca,zcv,stripL,ziy];rfl
def qnq (s:BS):List AV:=[.raw (.int .u64 (wd s 0)),.raw (.int .u64 (wd s 1)),.raw (.int .u64 (wd s 2)),.raw (.int .u64 (wd s 3))]
instance:Enc BS where
 inh:=0#256
 cells:=qnq
 cellsL l:=l.flatMap qnq
 sz:=4
 pos:=by decide
 nil:=rfl
 cons _ _:=rfl
 len _:=rfl
 clo _:=rfl
instance:Enc Sm where
 inh:=(0,0,0)
 cells:=smc
 cellsL:=qnu
 sz:=3
 pos:=by decide
 nil:=by simp[qnu]
 cons _ _:=by simp[qnu]
 len _:=rfl
 clo _:=rfl
structure Rgx where
 b:Bool
 e:Bool
 t:Tr
def qnx (r:Rgx):List AV:= .raw (.bool r.b):: .raw (.bool r.e)::z3z r.t
instance:Enc Rgx where
 inh:=⟨false,false,noneT⟩
 cells:=qnx
 cellsL l:=l.flatMap qnx
 sz:=10
 pos:=by decide
 nil:=rfl
 cons _ _:=rfl
 len _:=rfl
 clo r:=by have:=Enc.clo r.t;exact this
def zqw (t:Tr):List AV:=[.agg (Enc.cells t)]
theorem zoi {t:Tr} (h:(pre t).length≤10000):zcj t=true:=by simpa[zcj] using h
theorem zlu {α:Type} [Enc α] {l:List α} {i:Nat} (h:i<l.length):ix l (i:Int)=l[i]:=by simp[ix,h]
def qlo (k:Int)(s:BS)(mn mx:Int)(l:List Tr)(st:Room):AV:= .agg [.raw (.int .u8 k),.raw (.int .u64 (wd s 0)),.raw (.int .u64 (wd s 1)),.raw (.int .u64 (wd s 2)),.raw (.int .u64 (wd s 3)),.raw (.int .i64 mn),.raw (.int .i64 mx),.list l.length (cellsL l) st]
theorem ztn {k:Int} (g:0≤k)(s:BS)(mn mx:Int)(l:List Tr)(st:Room):zcv (qlo k s mn mx l st)= .agg (Enc.cells (Tr.mk k.toNat s mn mx l)):=by
 rw[qcg g];simp only[qlo,zcv,stripL,ziy]
end Go.Ab
