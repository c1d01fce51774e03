import Derived.Test.YtjkcellkmmfkdaaGreatDoorZdSh
import Derived.Shelf.Strings.Trim
import Derived.Shelf.Small.Strs
import Derived.Shelf.Small.Wraps
import Derived.Shelf.Strings.Search1
import Derived.Shelf.Strings.Prefix
import Derived.Test.YtjkcellkmmfkdaaGreatDoorProg
import Derived.Test.YtjkcellkmmfkdaaGreatDoorRows
set_option linter.all false
open Bool (and_eq_true)
open List (length_cons length_append all_eq_true cons_append mem_cons)
open Go.Proofs.Tryz (prog)
namespace Go.Ab
open Go Go.RowKit Go.Fwd
abbrev BS:=BitVec 256
def W64 (S:BS)(i:Nat):BitVec 64:=S.extractLsb' (64*i) 64
def wd (S:BS)(i:Nat):Int:=((W64 S i).toNat:Int)
inductive Tr where
 |mk (k:Nat) (s:BS) (mn mx:Int) (l:List Tr)
def Tr.k:Tr->Nat| .mk k _ _ _ _=>k
def Tr.s:Tr->BS| .mk _ s _ _ _=>s
def Tr.mn:Tr->Int| .mk _ _ m _ _=>m
def Tr.mx:Tr->Int| .mk _ _ _ m _=>m
def Tr.l:Tr->List Tr| .mk _ _ _ _ l=>l
theorem Tr.eta (t:Tr):t= .mk t.k t.s t.mn t.mx t.l:=by cases t;rfl
theorem Tr.sizeOf_l {t x:Tr} (h:x∈t.l):SizeOf.sizeOf x<SizeOf.sizeOf t:=by
 cases t with
 |mk k s mn mx l=>simp only[Tr.l] at h;have:=List.sizeOf_lt_of_mem h;simp;omega
mutual
def cells:Tr->List AV
 | .mk k s mn mx l=>[.raw (.int .u8 k),.raw (.int .u64 (wd s 0)),.raw (.int .u64 (wd s 1)),.raw (.int .u64 (wd s 2)),.raw (.int .u64 (wd s 3)),.raw (.int .i64 mn),.raw (.int .i64 mx),.list l.length (cellsL l) .none]
def cellsL:List Tr->List AV
 |[]=>[]
 |t::l=>cells t++cellsL l
end
def enc (t:Tr):AV:= .agg (cells t)
theorem qkr (t:Tr):cells t=[.raw (.int .u8 t.k),.raw (.int .u64 (wd t.s 0)),.raw (.int .u64 (wd t.s 1)),.raw (.int .u64 (wd t.s 2)),.raw (.int .u64 (wd t.s 3)),.raw (.int .i64 t.mn),.raw (.int .i64 t.mx),.list t.l.length (cellsL t.l) .none]:=by cases t;simp[cells,Tr.k,Tr.s,Tr.mn,Tr.mx,Tr.l]
mutual
theorem zrl: ∀t,zcc (cells t)=true
 | .mk k s mn mx l=>by simp[cells,zcc,zkz,zpu l]
theorem zpu: ∀l,zcc (cellsL l)=true
 |[]=>by simp[cellsL,zcc]
 | t::l=>by
  have h: ∀l m:List AV,zcc (l++m)=(zcc l&&zcc m):=fun l m=>by
   induction l with
   |nil=>simp[zcc]
   |cons a l ih=>rw[cons_append,zcc,zcc,ih,Bool.and_assoc]
  rw[cellsL,h,zrl t,zpu l];rfl
end
mutual
theorem z5x: ∀t,stripL (cells t)=cells t
 | .mk k s mn mx l=>by simp[cells,stripL,zcz,ziy l]
theorem ziy: ∀l,stripL (cellsL l)=cellsL l
 |[]=>by simp[cellsL,stripL]
 | t::l=>by
  rw[cellsL,zms,List.map_append, <-zms, <-zms,z5x t,ziy l]
end
mutual
theorem z2n: ∀t,cloL (cells t)=true
 | .mk k s mn mx l=>by simp[cells,cloL,clo,zwe l]
theorem zwe: ∀l,cloL (cellsL l)=true
 |[]=>by simp[cellsL,cloL]
 |t::l=>by rw[cellsL,zfk,z2n t,zwe l];rfl
end
theorem qcx (t:Tr):zkz (enc t)=true:=by rw[enc,zkz];exact zrl t
mutual
def pre:Tr->List Tr
 | .mk k s mn mx l=> .mk k s mn mx l::zck l
def zck:List Tr->List Tr
 |[]=>[]
 |t::l=>pre t++zck l
end
theorem zgh (t:Tr):pre t=t::zck t.l:=by cases t;simp[pre,Tr.l]
theorem zni: ∀(ts:List Tr) (i:Nat) (hi:i<ts.length),(zck (ts.take (i+1))).length=(zck (ts.take i)).length+(pre ts[i]).length
 |[],i,hi=>by simp at hi
 |t::ts,0,hi=>by simp[zck]
 | t::ts,i+1,hi=>by
  simp only[List.take_succ_cons,zck,length_append,List.getElem_cons_succ,zni ts i (by simpa using hi)];omega
theorem z6u: ∀ts:List Tr,ts.length<=(zck ts).length
 |[]=>by simp[zck]
 | t::ts=>by
  have:=z6u ts;cases t with
  |mk k s mn mx l=>simp[zck,pre];omega
theorem zmx: ∀ {ts:List Tr} {x:Tr},x∈ts->(pre x).length<=(zck ts).length
 |[],x,h=>by simp at h
 | t::ts,x,h=>by
  simp only[zck,length_append];rcases mem_cons.1 h with rfl|h
  ·omega
  ·have:=zmx h;omega
def zew (least most:Int):Bool:= !(decide (least<0)||decide (least>16)||decide (least=1)&&decide (most=1))&&(decide (most= -1)||decide (most>=1)&&decide (most<=16)&&decide (most>=least))
def qje (s:BS):AV:= .agg [.raw (.int .u64 (wd s 0)),.raw (.int .u64 (wd s 1)),.raw (.int .u64 (wd s 2)),.raw (.int .u64 (wd s 3))]
theorem wd_inj {A B:BS} (h: ∀i,i<4->wd A i=wd B i):A=B:=by
 apply BitVec.eq_of_getLsbD_eq;intro j hj;have h4:j/64<4:=by omega
 have h2:=h (j/64) h4;have h3:W64 A (j/64)=W64 B (j/64):=by
  apply BitVec.eq_of_toNat_eq;unfold wd at h2;omega
 have h5:=congrArg (fun x:BitVec 64=>x.getLsbD (j%64)) h3;have hlt:j%64<64:=Nat.mod_lt _ (by decide);simp only[W64,BitVec.getLsbD_extractLsb',hlt,decide_true,Bool.true_and] at h5;rwa[show 64*(j/64)+j%64=j by omega] at h5
theorem qfb (S T:BS):(wd S 0==wd T 0&&wd S 1==wd T 1&&wd S 2==wd T 2&&wd S 3==wd T 3)=decide (S=T):=by
 by_cases h:S=T
 ·subst h;simp
 ·simp only[h,decide_false];cases hb:(wd S 0==wd T 0&&wd S 1==wd T 1&&wd S 2==wd T 2&&wd S 3==wd T 3) with
  |false=>rfl
  | true=>
   simp only[and_eq_true,beq_iff_eq] at hb;refine absurd (wd_inj fun i hi=> ?_) h
   match i,hi with
   |0,_=>exact hb.1.1.1
   |1,_=>exact hb.1.1.2
   |2,_=>exact hb.1.2
   |3,_=>exact hb.2
def zvz (t:Tr)(k:Nat):Bool:=t.l.any fun y=>decide (y.k=k)
def oddT (t:Tr):Bool:=((t.k:Int) !=2&&decide (t.s≠0#256))||((t.k:Int) !=5&&(t.mn !=0||t.mx !=0))||(decide ((t.k:Int)<3)&&decide ((t.l.length:Int)>0))
def zcn (t:Tr):Bool:= !oddT t&&(bif (t.k:Int)==1 then true else bif (t.k:Int)==2 then decide (t.s≠0#256) else bif (t.k:Int)==3 then decide ((t.l.length:Int)>1)&& !zvz t 1&& !zvz t 3
 else bif (t.k:Int)==4 then decide ((t.l.length:Int)>1)&& !zvz t 4 else bif (t.k:Int)==5 then(t.l.length:Int)==1&&zew t.mn t.mx&& !zvz t 1 else(t.k:Int)==6&&(t.l.length:Int)==1)
theorem zny (k:Nat)(s:BS)(mn mx:Int)(ts:List Tr):oddT (.mk k s mn mx ts)=(((k:Int) !=2&&decide (s≠0#256))||((k:Int) !=5&&(mn !=0||mx !=0))||(decide ((k:Int)<3)&&decide ((ts.length:Int)>0))):=rfl
theorem zdc (k:Nat)(s:BS)(mn mx:Int)(ts:List Tr):zcn (.mk k s mn mx ts)=(!oddT (.mk k s mn mx ts)&&(bif (k:Int)==1 then true else bif (k:Int)==2 then decide (s≠0#256) else bif (k:Int)==3 then decide ((ts.length:Int)>1)&& !zvz (.mk k s mn mx ts) 1&& !zvz (.mk k s mn mx ts) 3
 else bif (k:Int)==4 then decide ((ts.length:Int)>1)&& !zvz (.mk k s mn mx ts) 4 else bif (k:Int)==5 then(ts.length:Int)==1&&zew mn mx&& !zvz (.mk k s mn mx ts) 1 else(k:Int)==6&&(ts.length:Int)==1)):=rfl
def zcw (t:Tr):Bool:=decide ((pre t).length<=10000)
def zdj (t:Tr):Bool:=zcw t&&(pre t).all zcn
def zrw (t:Tr):Int:=if zcw t=true then(pre t).length else 10001
def zmg (t:Tr):Int:=if zcw t=true then(pre t).countP (fun x=>decide (x.k=6)) else 10001
mutual
def zzu:Tr->Int
 | .mk k s mn mx ts=>min (if k=5 then((if k=2 then 1 else 0)+zod ts)*min (if mx= -1 then max (max mn 0) 1 else max (max mn 0) mx) 10001 else(if k=2 then 1 else 0)+zod ts) 10001
def zod:List Tr->Int
 |[]=>0
 |t::l=>zzu t+zod l
end
def zht (t:Tr):Int:=if zcw t=true then zzu t else 10001
theorem zru: ∀(t:Tr),t.l.length<(pre t).length
 | .mk k s mn mx ts=>by
  have: ∀l:List Tr,l.length<=(zck l).length:=fun l=>by
   induction l with
   |nil=>simp[zck]
   |cons a l ih=>rw[zck,length_append,length_cons];rw[zgh];simp;omega
  simp[pre,Tr.l];have:=this ts;omega
theorem zwc {t x:Tr} (h:x∈pre t):(pre x).length<=(pre t).length:=by
 have key: ∀n,(∀t:Tr,SizeOf.sizeOf t<=n-> ∀x∈pre t,(pre x).length<=(pre t).length):=by
  intro n;induction n with
  |zero=>intro t ht;cases t;simp at ht
  | succ n ih=>
   intro t ht x hx;rw[zgh] at hx;rcases mem_cons.1 hx with rfl|hx
   ·exact Nat.le_refl _
   ·have hl: ∀l:List Tr,(∀y∈l,SizeOf.sizeOf y<=n)-> ∀x∈zck l,(pre x).length<=(zck l).length:=by
     intro l;induction l with
     |nil=>intro _ x hx;simp[zck] at hx
     | cons a l ihl=>
      intro hs x hx;rw[zck] at hx⊢;rw[length_append];rcases List.mem_append.1 hx with hx|hx
      ·have:=ih a (hs a (by simp)) x hx;omega
      ·have:=ihl (fun y hy=>hs y (by simp[hy])) x hx;omega
    have:=hl t.l (fun y hy=>by have:=Tr.sizeOf_l hy;omega) x hx;rw[zgh t,length_cons];omega
 exact key _ t (Nat.le_refl _) x h
theorem qit (l:List Tr)(i:Nat)(hi:i<l.length):zod (l.take (i+1))=zod (l.take i)+zzu l[i]:=by
 have happ: ∀a b,zod (a++b)=zod a+zod b:=fun a b=>by
  induction a with
  |nil=>simp[zod]
  |cons x a ih=>rw[cons_append,zod,zod,ih,Int.add_assoc]
 rw[List.take_succ_eq_append_getElem hi,happ];simp[zod]
theorem qet: ∀t,zzu t<=10001
 | .mk k s mn mx ts=>by rw[zzu];exact Int.min_le_right _ _
mutual
theorem zth: ∀t,0<=zzu t
 | .mk k s mn mx ts=>by
  have hl:=zkp ts;rw[zzu];have h0:0<=(if k=2 then 1 else 0)+zod ts:=by split<;>omega
  split
  ·have:0<=((if k=2 then 1 else 0)+zod ts)*min (if mx= -1 then max (max mn 0) 1 else max (max mn 0) mx) 10001:=Int.mul_nonneg h0 (by split<;>omega);omega
  ·omega
theorem zkp: ∀l,0<=zod l
 |[]=>by simp[zod]
 |t::l=>by have h1:=zth t;have h2:=zkp l;rw[zod];omega
end
theorem z6m: ∀l,zod l<=10001*l.length
 |[]=>by simp[zod]
 |t::l=>by have h1:=qet t;have h2:=z6m l;rw[zod,length_cons];omega
mutual
def znt:Tr->Tr->Bool
 | .mk k s mn mx l,.mk k' s' mn' mx' l'=>(k:Int)==k'&&decide (s=s')&&mn==mn'&&mx==mx'&&zpc l l'
def zpc:List Tr->List Tr->Bool
 |[],[]=>true
 |x::a,y::b=>znt x y&&zpc a b
 |_,_=>false
end
mutual
theorem z2v: ∀a b,znt a b=true↔a=b
 | .mk k s mn mx l,.mk k' s' mn' mx' l'=>by
  rw[znt];simp only[and_eq_true,z4n l l',Tr.mk.injEq,beq_iff_eq,decide_eq_true_eq];constructor
  ·rintro⟨⟨⟨⟨h1,h2⟩,h3⟩,h4⟩,h5⟩;exact⟨by omega,h2,h3,h4,h5⟩
  ·rintro⟨h1,h2,h3,h4,h5⟩;exact⟨⟨⟨⟨by omega,h2⟩,h3⟩,h4⟩,h5⟩
theorem z4n: ∀a b,zpc a b=true↔a=b
 |[],[]=>by simp[zpc]
 |x::a,[]=>by simp[zpc]
 |[],y::b=>by simp[zpc]
 |x::a,y::b=>by rw[zpc,and_eq_true,z2v x y,z4n a b];simp
end
def qbj (a b:Tr):Bool:=zcw a&&zcw b&&znt a b
def zax:Tr:= .mk 0 0#256 0 0 []
def emptyT:Tr:= .mk 1 0#256 0 0 []
def zpq (t:Tr):Bool:=znt t zax||zdj t
def zdy (t:Tr):Tr:=if zdj t=true then t else zax
theorem zje {t:Tr} (h:zdj t=true):(pre t).length<=10000:=by rw[zdj,and_eq_true] at h;simpa[zcw] using h.1
theorem wd_zero (i:Nat):wd 0#256 i=0:=by simp[wd,W64]
def zgb (kind without:Nat)(l:List Tr):List Tr:=l.flatMap fun x=>bif (x.k:Int)==kind then x.l else bif (x.k:Int)==without then[] else[x]
def zha (kind:Nat)(l:List Tr)(none:Tr):Tr:=bif (l.length:Int)==0 then none else bif (l.length:Int)==1 then zdy (l.headD none) else zdy (Tr.mk kind 0#256 0 0 l)
def z0u (l:List Tr):Tr:=if(l.any fun x=>(x.k:Int)==0|| !zdj x)=true then zax else zha 3 (zgb 3 1 l) emptyT
def orT (l:List Tr):Tr:=if(l.any fun x=> !zpq x)=true then zax else zha 4 (zgb 4 0 l) zax
theorem znr: ∀a b,zck (a++b)=zck a++zck b
 |[],b=>by simp[zck]
 |x::a,b=>by rw[cons_append,zck,zck,znr a b,List.append_assoc]
theorem zdo: ∀l:List Tr,l.length<=(zck l).length
 |[]=>by simp[zck]
 |x::l=>by have:=zdo l;rw[zck,length_append,length_cons,zgh];simp;omega
theorem z1l (t:Tr):(zck t.l).length<(pre t).length:=by rw[zgh];simp
theorem zmi (kind without:Nat): ∀l:List Tr,(zck (zgb kind without l)).length<=(zck l).length
 |[]=>by simp[zgb,zck]
 | x::l=>by
  have h:=zmi kind without l;have hx:=z1l x;rw[zgb,List.flatMap_cons,znr,length_append,zck,length_append];have h2:(zck (bif (x.k:Int)==kind then x.l else bif (x.k:Int)==without then[] else[x])).length<=(pre x).length:=by
   cases (x.k:Int)==kind<;>cases (x.k:Int)==without<;>simp[zck]<;>omega
  rw[zgb] at h;omega
theorem zgj {x:Tr}: ∀ {l:List Tr},x∈l->(pre x).length<=(zck l).length
 | y::l,h=>by
  rw[zck,length_append];rcases mem_cons.1 h with rfl|h
  ·omega
  ·have:=zgj h;omega
def zet (t:Tr)(lo hi:Int):Tr:=
 bif !zpq t||(!(lo==0&&hi==0)&& !(lo==1&&hi==1)&& !zew lo hi) then zax
 else bif (t.k:Int)==0&&decide (lo>0) then zax
 else bif (lo==0&&hi==0)||(t.k:Int)==0||(t.k:Int)==1 then emptyT
 else bif lo==1&&hi==1 then t else zdy (.mk 5 0#256 lo hi [t])
def zfx (t:Tr):Tr:=zdy (.mk 6 0#256 0 0 [t])
def ofT (s:BS):Tr:=if s=0#256 then zax else .mk 2 s 0 0 []
def zrp (t:Tr):Int:=bif !zdj t then 80 else bif decide (zrw t>120) then 81 else bif decide (zht t>400) then 82 else bif decide (zmg t>9) then 83 else 0
theorem qif (k:Nat)(s:BS)(mn mx:Int)(t:Tr):(pre (.mk k s mn mx [t])).length=1+(pre t).length:=by simp[pre,zck];omega
abbrev Sm:=Nat×Nat×Nat
abbrev MSt:=List Tr×Int×Int
def m4 (x:Sm):Int:=((x.2.2%4:Nat):Int)
def smc (x:Sm):List AV:=[.raw (.int .u8 x.1),.raw (.int .u8 x.2.1),.raw (.int .u8 x.2.2)]
def smcL:List Sm->List AV
 |[]=>[]
 |x::l=>smc x++smcL l
theorem z1z (p:List Tr)(i:Nat):(zck (p.take i)).length<=(zck p).length:=by
 conv=>rhs;rw[<-List.take_append_drop i p]
 rw[znr,length_append];omega
def CR (t:Tr):Prop:=(pre t).all zcn=true
def CRL (l:List Tr):Prop:=(zck l).all zcn=true
theorem CRL_nil:CRL []:=by simp[CRL,zck]
theorem qmz (t:Tr)(l:List Tr):CRL (t::l)↔CR t/\ CRL l:=by simp[CRL,CR,zck]
theorem qio: ∀l:List Tr,CRL l↔ ∀t∈l,CR t
 |[]=>by simp[CRL_nil]
 |t::l=>by rw[qmz,qio l];simp
theorem ztf (t:Tr):CR t↔zcn t=true/\ CRL t.l:=by rw[CR,zgh,List.all_cons,and_eq_true];rfl
theorem zhs {t:Tr} {k:Nat}:zvz t k=false↔ ∀y∈t.l,y.k≠k:=by simp[zvz]
theorem qic {l:List Tr} (h:1<l.length)(h1: ∀t∈l,t.k≠1/\ t.k≠3):zcn (.mk 3 0#256 0 0 l)=true:=by
 have e1:zvz (.mk 3 0#256 0 0 l) 1=false:=zhs.2 fun y hy=>(h1 y hy).1;have e3:zvz (.mk 3 0#256 0 0 l) 3=false:=zhs.2 fun y hy=>(h1 y hy).2;simp[zdc,zny,e1,e3];omega
theorem znz {t:Tr} (h:zcn t=true):t.k=1 \/t.k=2 \/t.k=3 \/t.k=4 \/t.k=5 \/t.k=6:=by
 cases t with
 | mk k s mn mx l=>
  rw[zdc] at h;simp only[Tr.k];by_cases h1:k=1; · exact .inl h1
  by_cases h2:k=2; · exact .inr (.inl h2)
  by_cases h3:k=3; · exact .inr (.inr (.inl h3))
  by_cases h4:k=4; · exact .inr (.inr (.inr (.inl h4)))
  by_cases h5:k=5; · exact .inr (.inr (.inr (.inr (.inl h5))))
  by_cases h6:k=6; · exact .inr (.inr (.inr (.inr (.inr h6))))
  exfalso
  have e: ∀n:Nat,k≠n->((k:Int)==n)=false:=fun n hn=>by simp;omega
  rw[show((k:Int)==1)=false from e 1 h1,show((k:Int)==2)=false from e 2 h2,show((k:Int)==3)=false from e 3 h3,show((k:Int)==4)=false from e 4 h4,show((k:Int)==5)=false from e 5 h5,show((k:Int)==6)=false from e 6 h6] at h;simp at h
theorem zot {t:Tr} (h:zcn t=true)(hk:t.k=3):1<t.l.length/\ ∀y∈t.l,y.k≠1/\ y.k≠3:=by
 cases t with
 | mk k s mn mx l=>
  simp only[Tr.k] at hk;subst hk;rw[zdc] at h;simp only[and_eq_true,Bool.not_eq_true'] at h;have h2:=h.2;simp only[show((((3:Nat):Int))==1)=false from rfl,show((((3:Nat):Int))==2)=false from rfl,show((((3:Nat):Int))==3)=true from rfl,cond_false,cond_true,and_eq_true,Bool.not_eq_true',decide_eq_true_eq] at h2;exact⟨by simp only[Tr.l];omega,fun y hy=>⟨zhs.1 h2.1.2 y hy,zhs.1 h2.2 y hy⟩⟩
theorem zpk {t:Tr} (h:zcn t=true)(hk:t.k=4):1<t.l.length/\ ∀y∈t.l,y.k≠4:=by
 cases t with
 | mk k s mn mx l=>
  simp only[Tr.k] at hk;subst hk;rw[zdc] at h;simp only[and_eq_true,Bool.not_eq_true'] at h;have h2:=h.2;simp only[show((((4:Nat):Int))==1)=false from rfl,show((((4:Nat):Int))==2)=false from rfl,show((((4:Nat):Int))==3)=false from rfl,show((((4:Nat):Int))==4)=true from rfl,cond_false,cond_true,and_eq_true,Bool.not_eq_true',decide_eq_true_eq] at h2;exact⟨by simp only[Tr.l];omega,fun y hy=>zhs.1 h2.2 y hy⟩
def grT (t:Tr):Nat:=(pre t).countP fun x=>decide (x.k=6)
def grL (l:List Tr):Nat:=(zck l).countP fun x=>decide (x.k=6)
structure OkM (st:MSt)(i:Nat):Prop where
 cr:CRL st.1
 pos:zod st.1<=(i:Int)*st.2.1
 gr:(grL st.1:Int)<=st.2.2
theorem qjr {t:Tr} (h:CR t)(hl:(pre t).length<=10000):zdj t=true:=by
 rw[zdj,zcw,and_eq_true];exact⟨by simpa using hl,h⟩
structure MT (t:Tr):Prop where
 cr:CR t
 pos:zzu t<=400
 gr:grT t<=9
 len:(pre t).length<=50
theorem MT.clean {t:Tr} (h:MT t):zdj t=true:=qjr h.cr (by have:=h.len;omega)
theorem MT.good {t:Tr} (h:MT t):zpq t=true:=by rw[zpq,h.clean,Bool.or_true]
theorem MT.k0 {t:Tr} (h:MT t):t.k≠0:=by have:=znz ((ztf t).1 h.cr).1;omega
theorem qff {t:Tr} (h:zcw t=true):qbj t t=true:=by rw[qbj,h,(z2v t t).2 rfl];rfl
def CS (n:Nat)(t:Tr):Prop:=CR t/\ (pre t).length<=n
theorem MT.cs {t:Tr} (h:MT t):CS 50 t:=⟨h.cr,h.len⟩
theorem CR.k0 {t:Tr} (h:CR t):t.k≠0:=by have:=znz ((ztf t).1 h).1;omega
def qbp (c:Int):List AV:=[.raw (.int .u8 c)]
theorem z4u: ∀j:Nat,j<256->zge .u8 (j:Int) 6=((j/64:Nat):Int)/\ znf .u8 (j:Int) 63=((j%64:Nat):Int)/\ IntKind.u8.wrap (j:Int)=(j:Int):=by decide+kernel
theorem z2x {n:Nat} (h:n<2^64):IntKind.u64.wrap (n:Int)=(n:Int):=by
 simp only[IntKind.wrap,IntKind.bits,IntKind.signed];simp;omega
theorem wrap_u64 (w:BitVec 64):IntKind.u64.wrap ((w.toNat:Nat):Int)=((w.toNat:Nat):Int):=z2x w.isLt
theorem z5h (x:BitVec 64):BitVec.ofInt 64 ((x.toNat:Nat):Int)=x:=by
 apply BitVec.eq_of_toNat_eq;simp
theorem orI64 (x y:BitVec 64):orI .u64 (x.toNat:Int) (y.toNat:Int)=((x|||y).toNat:Int):=by
 show IntKind.u64.wrap (((BitVec.ofInt 64 (x.toNat:Int)|||BitVec.ofInt 64 (y.toNat:Int)).toNat:Nat):Int)=_;rw[z5h,z5h];exact wrap_u64 _
theorem qgc (a b:BS)(i:Nat):orI .u64 (wd a i) (wd b i)=wd (a|||b) i:=by
 unfold wd;rw[orI64];have:W64 a i|||W64 b i=W64 (a|||b) i:=by
  apply BitVec.eq_of_getLsbD_eq;intro j hj;simp only[W64,BitVec.getLsbD_or,BitVec.getLsbD_extractLsb',hj,decide_true,Bool.true_and]
 rw[this]
theorem qmj (w:BitVec 64)(r:Nat)(hr:r<64):(znf .u64 (zge .u64 ((w.toNat:Nat):Int) (r:Int)) 1==1)=w.getLsbD r:=by
 have hw:=w.isLt;have h1:zge .u64 ((w.toNat:Nat):Int) (r:Int)=((w.toNat/2^r:Nat):Int):=by
  unfold zge;rw[show min (r:Int).toNat IntKind.u64.bits=r from by simp[IntKind.bits];omega];rw[Int.fdiv_eq_ediv_of_nonneg _ (by exact_mod_cast Nat.zero_le _)]
  norm_cast
 rw[h1];have h2:w.toNat/2^r<2^64:=Nat.lt_of_le_of_lt (Nat.div_le_self _ _) hw
 show(IntKind.u64.wrap (((BitVec.ofInt 64 ((w.toNat/2^r:Nat):Int)&&&BitVec.ofInt 64 1).toNat:Nat):Int)==1)=_
 have h3:(BitVec.ofInt 64 ((w.toNat/2^r:Nat):Int)&&&BitVec.ofInt 64 1).toNat=w.toNat/2^r%2:=by
  rw[BitVec.toNat_and];have e1:(BitVec.ofInt 64 ((w.toNat/2^r:Nat):Int)).toNat=w.toNat/2^r:=by
   rw[BitVec.ofInt_natCast,BitVec.toNat_ofNat];exact Nat.mod_eq_of_lt h2
  have e2:(BitVec.ofInt 64 1).toNat=1:=rfl;rw[e1,e2,Nat.and_one_is_mod]
 rw[h3];have h4:w.toNat/2^r%2<2:=Nat.mod_lt _ (by decide);have h5:IntKind.u64.wrap ((w.toNat/2^r%2:Nat):Int)=((w.toNat/2^r%2:Nat):Int):=z2x (Nat.lt_trans h4 (by decide));rw[h5,BitVec.getLsbD,Nat.testBit_eq_decide_div_mod_eq];generalize w.toNat/2^r%2=m
 rw[Bool.eq_iff_iff];simp only[beq_iff_eq,decide_eq_true_eq];omega
def elN (s:BS)(i:Nat):List Nat:=(List.range i).filter fun j=>s.getLsbD j
def els (s:BS):List Int:=(elN s 256).map fun(j:Nat)=>(j:Int)
theorem z9r (s:BS)(i:Nat):elN s (i+1)=elN s i++(if s.getLsbD i=true then[i] else[]):=by
 rw[elN,List.range_succ,List.filter_append];simp[elN,List.filter_cons]
theorem qdl (s:BS) {i:Nat} (h:s.getLsbD i=true): ∀k,i<k->(elN s k)[(elN s i).length]? =some i
 |0,hk=>by omega
 | k+1,hk=>by
  rw[z9r];by_cases e:i=k
  ·subst e;rw[if_pos h];simp
  ·have ih:=qdl s h k (by omega);rw[List.getElem?_append_left (List.getElem?_eq_some_iff.1 ih).1];exact ih
def z1s (t:Tr):List AV:=[.raw (.int .u8 t.k),.raw (.int .u64 (wd t.s 0)),.raw (.int .u64 (wd t.s 1)),.raw (.int .u64 (wd t.s 2)),.raw (.int .u64 (wd t.s 3)),.raw (.int .i64 t.mn),.raw (.int .i64 t.mx),.list t.l.length (cellsL t.l) .none]
theorem zuo (t:Tr):cells t=z1s t:=qkr t
instance:Enc Tr where
 inh:=zax
 cells:=z1s
 cellsL:=cellsL
 sz:=8
 pos:=by decide
 nil:=by simp[cellsL]
 cons a l:=by rw[cellsL,zuo]
 len _:=rfl
 clo t:=by rw[<-zuo];exact z2n t
theorem enc_eq (t:Tr):enc t= .agg (Enc.cells t):=by rw[enc,zuo];rfl
theorem qbk {E:Int} (g:0<=E)(s:BS)(mn mx:Int)(l:List Tr):AV.agg (Enc.cells (Tr.mk (Int.toNat E) s mn mx l))= .agg [.raw (.int .u8 E),.raw (.int .u64 (wd s 0)),.raw (.int .u64 (wd s 1)),.raw (.int .u64 (wd s 2)),.raw (.int .u64 (wd s 3)),.raw (.int .i64 mn),.raw (.int .i64 mx),.list l.length (cellsL l) .none]:=by
 show AV.agg (z1s _)=_;simp only[z1s,Tr.k,Tr.s,Tr.mn,Tr.mx,Tr.l,Int.toNat_of_nonneg g]
def qhu (t:Tr)(st:Room):AV:= .agg [.raw (.int .u8 t.k),.raw (.int .u64 (wd t.s 0)),.raw (.int .u64 (wd t.s 1)),.raw (.int .u64 (wd t.s 2)),.raw (.int .u64 (wd t.s 3)),.raw (.int .i64 t.mn),.raw (.int .i64 t.mx),.list t.l.length (cellsL t.l) st]
theorem zto (t:Tr)(st:Room):zcz (qhu t st)= .agg (Enc.cells t):=by
 simp only[qhu,zcz,stripL,ziy];rfl
def qon (s:BS):List AV:=[.raw (.int .u64 (wd s 0)),.raw (.int .u64 (wd s 1)),.raw (.int .u64 (wd s 2)),.raw (.int .u64 (wd s 3))]
instance:Enc BS where
 inh:=0#256
 cells:=qon
 cellsL l:=l.flatMap qon
 sz:=4
 pos:=by decide
 nil:=rfl
 cons _ _:=rfl
 len _:=rfl
 clo _:=rfl
instance:Enc Sm where
 inh:=(0,0,0)
 cells:=smc
 cellsL:=smcL
 sz:=3
 pos:=by decide
 nil:=by simp[smcL]
 cons _ _:=by simp[smcL]
 len _:=rfl
 clo _:=rfl
structure Rgx where
 b:Bool
 e:Bool
 t:Tr
def qom (r:Rgx):List AV:= .raw (.bool r.b):: .raw (.bool r.e)::z1s r.t
instance:Enc Rgx where
 inh:=⟨false,false,zax⟩
 cells:=qom
 cellsL l:=l.flatMap qom
 sz:=10
 pos:=by decide
 nil:=rfl
 cons _ _:=rfl
 len _:=rfl
 clo r:=by have:=Enc.clo r.t;exact this
def znp (t:Tr):List AV:=[.agg (Enc.cells t)]
theorem z8v {α:Type} [Enc α] {l:List α} {i:Nat} (h:i<l.length):ix l (i:Int)=l[i]:=by simp[ix,h]
def nodeK (k:Int)(s:BS)(mn mx:Int)(l:List Tr)(st:Room):AV:= .agg [.raw (.int .u8 k),.raw (.int .u64 (wd s 0)),.raw (.int .u64 (wd s 1)),.raw (.int .u64 (wd s 2)),.raw (.int .u64 (wd s 3)),.raw (.int .i64 mn),.raw (.int .i64 mx),.list l.length (cellsL l) st]
theorem z6b {k:Int} (g:0<=k)(s:BS)(mn mx:Int)(l:List Tr)(st:Room):zcz (nodeK k s mn mx l st)= .agg (Enc.cells (Tr.mk k.toNat s mn mx l)):=by
 rw[qbk g];simp only[nodeK,zcz,stripL,ziy]
abbrev DSt:=Array Bool×List AV×St
def zqw (P:Program)(Ψ:CallS)(cp:CallP)(cs:CallS)(o:Oper)(S:List AV)(U:St):Option (AV×St):=
 match zct S o with
 | some (f,args)=>(match Ψ f args U with
  |some (r,U')=>if U'.out=U.out/\ U'.stop=U.stop then some (r,U') else none
  |none=>zwz P cp cs o S U)
 |none=>zwz P cp cs o S U
theorem zho {P:Program} {cp:CallP} {cs Ψ:CallS} (hΨ:qgm P Ψ)(hcp:qdd P cp)(hcs:qgm P cs) {o:Oper} {S:List AV} {U U':St} {a:AV} (h:zqw P Ψ cp cs o S U=some (a,U')) {K:AV->St->Prop} (hK:K a U'):zfq (ITP P) P none o S U K:=by
 unfold zqw at h;split at h
 ·rename_i f args hc;split at h
  ·rename_i r τ hr;split at h
   ·rename_i hos;cases h;unfold zfq;rw[hc];exact⟨a,U',.inl ⟨hΨ _ _ _ _ _ hr,hos⟩,hK⟩
   ·cases h
  ·exact zjb hcp hcs h hK
 ·exact zjb hcp hcs h hK
def zoh (P:Program)(Ψ:CallS)(cp:CallP)(cs:CallS)(ops:Array Oper):List Oper->List AV->St->Option (List AV×St)
 |[],S,U=>some (S,U)
 | o ::l,S,U=>match o.guard with
  | none=>match zqw P Ψ cp cs o S U with
   |some (a,U')=>zoh P Ψ cp cs ops l (zad S o.dst a) U'
   |none=>none
  | some (k,b)=>match zdx ops S k with
   | some c=>if c=some b then(match zqw P Ψ cp cs o S U with
    |some (a,U')=>zoh P Ψ cp cs ops l (zad S o.dst a) U'
    |none=>none) else zoh P Ψ cp cs ops l (zad S o.dst (.raw undef)) U
   |none=>none
theorem zfp {P:Program} {cp:CallP} {cs Ψ:CallS} (hΨ:qgm P Ψ)(hcp:qdd P cp)(hcs:qgm P cs) {ops:Array Oper}: ∀(l:List Oper) (S:List AV) (U:St) (S':List AV) (U':St),zoh P Ψ cp cs ops l S U=some (S',U')->S'.length=S.length/\ ∀Q:List AV->St->Prop,Q S' U'->zcb (ITP P) P none ops Q l S U
 |[],S,U,S',U',h=>by simp only[zoh,Option.some.injEq,Prod.mk.injEq] at h;obtain⟨rfl,rfl⟩:=h;exact⟨rfl,fun Q h=>h⟩
 | o ::l,S,U,S',U',h=>by
  simp only[zoh] at h;simp only[zcb];cases hg:o.guard with
  | none=>
   rw[hg] at h;simp only at h⊢;split at h<;>try cases h
   rename_i a U1 hs;obtain⟨h1,h2⟩:=zfp hΨ hcp hcs l _ _ _ _ h;exact⟨by rw[h1,zay],fun Q hQ=>zho hΨ hcp hcs hs (h2 Q hQ)⟩
  | some kb=>
   obtain⟨k,b⟩:=kb;rw[hg] at h;simp only at h⊢;split at h<;>try cases h
   rename_i c hc;split at h
   ·rename_i e;split at h<;>try cases h
    rename_i a U1 hs;obtain⟨h1,h2⟩:=zfp hΨ hcp hcs l _ _ _ _ h;exact⟨by rw[h1,zay],fun Q hQ=>⟨c,hc,by rw[if_pos e];exact zho hΨ hcp hcs hs (h2 Q hQ)⟩⟩
   ·rename_i e;obtain⟨h1,h2⟩:=zfp hΨ hcp hcs l _ _ _ _ h;exact⟨by rw[h1,zay],fun Q hQ=>⟨c,hc,by rw[if_neg e];exact h2 Q hQ⟩⟩
def evAt (P:Program)(Ψ:CallS)(cp:CallP)(cs:CallS)(ops:Array Oper)(x:DSt)(i:Nat):Option DSt:=
 match ops[i]? with
 |none=>some (x.1.setIfInBounds i true,x.2.1,x.2.2)
 | some o=>match o.guard with
  | none=>(match zqw P Ψ cp cs o x.2.1 x.2.2 with
   |some (a,U')=>some (x.1.setIfInBounds i true,zad x.2.1 o.dst a,U')
   |none=>none)
  | some (j,b)=>(match zdx ops x.2.1 j with
   | some c=>if c=some b then(match zqw P Ψ cp cs o x.2.1 x.2.2 with
    |some (a,U')=>some (x.1.setIfInBounds i true,zad x.2.1 o.dst a,U')
    |none=>none) else some (x.1.setIfInBounds i true,zad x.2.1 o.dst (.raw undef),x.2.2)
   |none=>none)
def qnt (l:List Bool):List DSt->Option DSt
 |[]=>none
 |y::L=>if y.1.toList==l then some y else qnt l L
def ddup:List DSt->List DSt->Option (List DSt)
 |[],H=>some H
 | y::G,H=>match qnt y.1.toList H with
  |some z=>if znu y.2.1 z.2.1&&eqSt y.2.2 z.2.2 then ddup G H else none
  |none=>ddup G (y::H)
def mapO {α β:Type} (f:α->Option β):List α->Option (List β)
 |[]=>some []
 | x::l=>match f x,mapO f l with
  |some y,some m=>some (y::m)
  |_,_=>none
theorem zyw {α β:Type} {f:α->Option β}: ∀ {l:List α} {m:List β},mapO f l=some m-> ∀x∈l,∃y∈m,f x=some y
 |[],_,_,x,hx=>nomatch hx
 | a::l,m,h,x,hx=>by
  simp only[mapO] at h;split at h<;>cases h
  rename_i y m2 h1 h2;rcases mem_cons.1 hx with rfl|hx
  ·exact⟨y,List.mem_cons_self ..,h1⟩
  ·obtain⟨z,hz,hf⟩:=zyw h2 x hx;exact⟨z,List.mem_cons_of_mem _ hz,hf⟩
def succ1 (P:Program)(Ψ:CallS)(cp:CallP)(cs:CallS)(ops:Array Oper)(x:DSt):Option (List DSt):=mapO (evAt P Ψ cp cs ops x) (Region.ready .any ops x.1)
def evD (P:Program)(Ψ:CallS)(cp:CallP)(cs:CallS)(ops:Array Oper)(r:List AV×St):Nat->List DSt->Bool
 |0,F=>F.all fun x=>(Region.ready .any ops x.1).isEmpty&&znu x.2.1 r.1&&eqSt x.2.2 r.2
 | k+1,F=>(F.all fun x=> !(Region.ready .any ops x.1).isEmpty||(znu x.2.1 r.1&&eqSt x.2.2 r.2))&&(match mapO (succ1 P Ψ cp cs ops) F with
  |none=>false
  | some G=>match ddup G.flatten [] with
   |none=>false
   |some H=>evD P Ψ cp cs ops r k H)
theorem z3e {l:List Bool}: ∀ {L:List DSt} {z:DSt},qnt l L=some z->z∈L/\ z.1.toList=l
 |[],_,h=>nomatch h
 | y::L,z,h=>by
  rw[qnt] at h;split at h
  ·rename_i e;cases h;exact⟨List.mem_cons_self ..,by simpa using e⟩
  ·obtain⟨h1,h2⟩:=z3e h;exact⟨List.mem_cons_of_mem _ h1,h2⟩
theorem zzv: ∀ {G H K:List DSt},ddup G H=some K->(∀y∈G,y∈K)/\ ∀y∈H,y∈K
 |[],H,K,h=>by simp only[ddup,Option.some.injEq] at h;subst h;exact⟨fun y hy=>(nomatch hy),fun y hy=>hy⟩
 | y ::G,H,K,h=>by
  rw[ddup] at h;split at h
  ·rename_i z hz;split at h
   ·rename_i e;simp only[and_eq_true] at e;obtain⟨h1,h2⟩:=zzv h;obtain⟨m1,m2⟩:=z3e hz;have:y=z:=by
     obtain⟨⟨y1⟩,y2,y3⟩:=y;obtain⟨⟨z1⟩,z2,z3⟩:=z;simp only at m2 e;rw[m2,zgc _ _ e.1,z6t e.2]
    exact⟨fun x hx=>(mem_cons.1 hx).elim (fun e=>by rw[e,this];exact h2 _ m1) (h1 x),h2⟩
   ·cases h
  ·obtain⟨h1,h2⟩:=zzv h;exact⟨fun x hx=>(mem_cons.1 hx).elim (fun e=>by rw[e];exact h2 _ (List.mem_cons_self ..)) (h1 x),fun x hx=>h2 x (List.mem_cons_of_mem _ hx)⟩
variable {P:Program} {cp:CallP} {cs Ψ:CallS}
theorem z0w (hΨ:qgm P Ψ)(hcp:qdd P cp)(hcs:qgm P cs) {ops:Array Oper} {r:List AV×St} {Q:List AV->St->Prop} (hQ:Q r.1 r.2):
 ∀(k:Nat) (F:List DSt),evD P Ψ cp cs ops r k F=true-> ∀x∈F,zse (ITP P) P none ops Q k x.1 x.2.1 x.2.2
 | 0,F,h,x,hx=>by
  have h:=all_eq_true.1 h x hx;simp only[and_eq_true,List.isEmpty_iff] at h;refine⟨h.1.1,?_⟩;rw[zgc _ _ h.1.2,z6t h.2];exact hQ
 | k + 1,F,h,x,hx=>by
  simp only[evD,and_eq_true] at h;have h1:=all_eq_true.1 h.1 x hx;have h2:=h.2;split at h2
  ·cases h2
  rename_i G hG;split at h2
  ·cases h2
  rename_i H hH;obtain⟨d1,_⟩:=zzv hH;have ih:=z0w hΨ hcp hcs hQ k H h2;refine⟨fun he=> ?_,fun i hi=> ?_⟩
  ·rw[he] at h1;simp only[List.isEmpty_nil,Bool.not_true,Bool.false_or,and_eq_true] at h1;rw[zgc _ _ h1.1,z6t h1.2];exact hQ
  ·obtain⟨m,hm,hs⟩:=zyw hG x hx;obtain⟨y,hy,he⟩:=zyw hs i hi;have hyK:=ih y (d1 y (List.mem_flatten.2 ⟨m,hm,hy⟩));unfold evAt at he;unfold zyk;cases ho:ops[i]? with
   |none=>rw[ho] at he;cases he;exact hyK
   | some o=>
    rw[ho] at he;simp only at he⊢;cases hg:o.guard with
    | none=>
     rw[hg] at he;simp only at he⊢;split at he
     ·rename_i a U1 hs1;cases he;exact zho hΨ hcp hcs hs1 hyK
     ·cases he
    | some kb=>
     obtain⟨j,b⟩:=kb;rw[hg] at he;simp only at he⊢;split at he
     ·rename_i c hc;refine⟨c,hc,?_⟩;split at he
      ·rename_i e;rw[if_pos e];split at he
       ·rename_i a U1 hs1;cases he;exact zho hΨ hcp hcs hs1 hyK
       ·cases he
      ·rename_i e;rw[if_neg e];cases he;exact hyK
     ·cases he
def evQ (H:Bool)(P:Program)(Ω:CallP)(Ψ:CallS):Nat->Run
 |0,_,_,_,_=>none
 | k + 1,c,sz,S,U=>match c with
  | .skip=>some (.normal,S,U)
  | .seq x y=>match evQ H P Ω Ψ k x sz S U with
   |some (.normal,S1,U1)=>evQ H P Ω Ψ k y sz S1 U1
   |r=>r
  | .cond c x y=>match zbw S c with
   | .raw (.bool t)=>if t=true then evQ H P Ω Ψ k x sz S U else evQ H P Ω Ψ k y sz S U
   |_=>none
  | .block id x=>match evQ H P Ω Ψ k x sz S U with
   |some (.exit j,S1,U1)=>if j=id then some (.normal,S1,U1) else some (.exit j,S1,U1)
   |r=>r
  | .exit id=>some (.exit id,S,U)
  | .label _=>some (.normal,S,U)
  | .scope x=>evQ H P Ω Ψ k x sz S U
  | .ret=>some (.ret,S,U)
  | .loop x=>match evQ H P Ω Ψ k x sz S U with
   |some (.normal,S1,U1)=>evQ H P Ω Ψ k (.loop x) sz S1 U1
   |r=>r
  | .region _ ops false=>match zoh P Ψ (zjl P Ω (evQ H P Ω Ψ k)) (zro P Ψ (evQ H P Ω Ψ k)) ops ops.toList S U with
   |some (S1,U1)=>some (.normal,S1,U1)
   |none=>none
  | .region _ ops true=>if zvh ops.toList=true then(match(if H=true then qhx P (zjl P Ω (evQ H P Ω Ψ k)) (zro P Ψ (evQ H P Ω Ψ k)) ops sz S U else none) with
   |some (S2,U2)=>some (.normal,S2,U2)
   | none=>match(if H=true then findB ops sz else none) with
    | some n=>(match zld P (zjl P Ω (evQ H P Ω Ψ k)) ops sz U (ops.toList.take n) S [] with
     | some (S1,ps)=>match zyx P (zjl P Ω (evQ H P Ω Ψ k)) (zro P Ψ (evQ H P Ω Ψ k)) ops (ops.toList.drop n) (zpd U.boxes.length ps S1) (zna U ps) with
      |some (S2,U2)=>some (.normal,S2,U2)
      |none=>none
     |none=>none)
    | none=>match zoh P Ψ (zjl P Ω (evQ H P Ω Ψ k)) (zro P Ψ (evQ H P Ω Ψ k)) ops ops.toList S U with
     |some r=>if evD P Ψ (zjl P Ω (evQ H P Ω Ψ k)) (zro P Ψ (evQ H P Ω Ψ k)) ops r ops.size [(Array.replicate ops.size false,S,U)]=true then some (.normal,r.1,r.2) else none
     |none=>none) else none
  | .rangeFunc f ps asg body=>match zbw S f with
   | .iter xs=>if Nat.ble ps.size 8=true/\ (xs.all fun x=>decide (x.length=ps.size))=true/\ zcj asg=true then zuk (evQ H P Ω Ψ k asg sz) (evQ H P Ω Ψ k body sz) ps S U.boxes.length xs U else none
   |_=>none
  |_=>none
theorem ztn {H:Bool} {P:Program} {Ω:CallP} {Ψ:CallS} (hG:Good P Ω Ψ): ∀k,EvOk P (evQ H P Ω Ψ k)
 |0=>fun c sz S U e S' U' h=>by simp[evQ] at h
 | k + 1=>by
  have ih:=ztn (H:=H) hG k;have hcp:=ztt hG ih;have hcs:=z1m hG ih;intro c sz S U e S' U' h hl;cases c with
  |skip=>simp only[evQ,Option.some.injEq,Prod.mk.injEq] at h;obtain⟨rfl,rfl,rfl⟩:=h;exact⟨hl,fun Q h j=>h⟩
  |label id=>simp only[evQ,Option.some.injEq,Prod.mk.injEq] at h;obtain⟨rfl,rfl,rfl⟩:=h;exact⟨hl,fun Q h j=>h⟩
  |scope x=>simp only[evQ] at h;obtain⟨l1,h1⟩:=ih _ _ _ _ _ _ _ h hl;exact⟨l1,fun Q hQ j=>show awp (ITP P) P none j x Q S U from zdd (h1 Q hQ)⟩
  |exit id=>simp only[evQ,Option.some.injEq,Prod.mk.injEq] at h;obtain⟨rfl,rfl,rfl⟩:=h;exact⟨hl,fun Q h j=>h⟩
  |ret=>simp only[evQ,Option.some.injEq,Prod.mk.injEq] at h;obtain⟨rfl,rfl,rfl⟩:=h;exact⟨hl,fun Q h j=>h⟩
  | seq x y=>
   simp only[evQ] at h;split at h
   ·rename_i S1 U1 hx;obtain⟨l1,h1⟩:=ih _ _ _ _ _ _ _ hx hl;obtain⟨l2,h2⟩:=ih _ _ _ _ _ _ _ h l1;exact⟨l2,fun Q hQ j=>show awp (ITP P) P none j x (zvt _ Q) S U \/_ from .inl (zdd (h1 _ ⟨S1,U1,Wk.refl _ _ _,zdd (h2 Q hQ)⟩))⟩
   ·rename_i hne;obtain⟨l1,h1⟩:=ih _ _ _ _ _ _ _ h hl;refine⟨l1,fun Q hQ j=>show awp (ITP P) P none j x (zvt _ Q) S U \/_ from .inl (zdd (h1 _ ?_))⟩;cases e with
    |normal=>exact absurd h (hne S' U')
    |exit id=>exact hQ
    |ret=>exact hQ
  | cond c x y=>
   simp only[evQ] at h;split at h<;>try cases h
   rename_i t ht;cases t with
   |true=>obtain⟨l1,h1⟩:=ih _ _ _ _ _ _ _ h hl;exact⟨l1,fun Q hQ j=>⟨true,ht,zdd (h1 Q hQ)⟩⟩
   |false=>obtain⟨l1,h1⟩:=ih _ _ _ _ _ _ _ h hl;exact⟨l1,fun Q hQ j=>⟨false,ht,zdd (h1 Q hQ)⟩⟩
  | block id x=>
   simp only[evQ] at h;split at h
   ·rename_i j S1 U1 hx;obtain⟨l1,h1⟩:=ih _ _ _ _ _ _ _ hx hl;split at h
    ·rename_i hj;simp only[Option.some.injEq,Prod.mk.injEq] at h;obtain⟨rfl,rfl,rfl⟩:=h;exact⟨l1,fun Q hQ j=>show awp (ITP P) P none j x (zjk U.lens.length j id Q) S U \/_ from .inl (zdd (h1 _ (by simp only[zjk];rw[if_pos hj];exact .inl hQ)))⟩
    ·rename_i hj;simp only[Option.some.injEq,Prod.mk.injEq] at h;obtain⟨rfl,rfl,rfl⟩:=h;exact⟨l1,fun Q hQ j=>show awp (ITP P) P none j x (zjk U.lens.length j id Q) S U \/_ from .inl (zdd (h1 _ (by simp only[zjk];rw[if_neg hj];exact hQ)))⟩
   ·rename_i hne;obtain⟨l1,h1⟩:=ih _ _ _ _ _ _ _ h hl;refine⟨l1,fun Q hQ j=>show awp (ITP P) P none j x (zjk U.lens.length j id Q) S U \/_ from .inl (zdd (h1 _ ?_))⟩;cases e with
    |normal=>exact .inl hQ
    |exit j=>exact absurd h (hne j S' U')
    |ret=>exact hQ
  | loop x=>
   simp only[evQ] at h;split at h
   ·rename_i S1 U1 hx;obtain⟨l1,h1⟩:=ih _ _ _ _ _ _ _ hx hl;obtain⟨l2,h2⟩:=ih _ _ _ _ _ _ _ h l1;refine⟨l2,fun Q hQ j=> ?_⟩;obtain⟨m,hm⟩:=h2 Q hQ j;exact⟨m+1,S,U,Wk.refl _ _ _,zdd (k:=j) (h1 _ hm)⟩
   ·rename_i hne;obtain⟨l1,h1⟩:=ih _ _ _ _ _ _ _ h hl;refine⟨l1,fun Q hQ j=>⟨1,S,U,Wk.refl _ _ _,zdd (k:=j) (h1 _ ?_)⟩⟩;cases e with
    |normal=>exact absurd h (hne S' U')
    |exit id=>exact hQ
    |ret=>exact hQ
  | region id ops draw=>
   cases draw with
   | false=>
    simp only[evQ] at h;split at h<;>try cases h
    rename_i ho;obtain⟨l1,h1⟩:=zfp hG.oracleS hcp hcs _ _ _ _ _ ho;exact⟨l1.trans hl,fun Q hQ j=>h1 _ hQ⟩
   | true=>
    simp only[evQ] at h;split at h
    rotate_left
    ·cases h
    rename_i hnd;split at h
    ·rename_i S2 U2 hd;cases h;split at hd
     rotate_left
     ·cases hd
     obtain⟨n,hc,S1,hh,ho⟩:=z2e hd;obtain⟨l1,h1⟩:=ziu hcp _ _ _ hh hl;obtain⟨l2,h2⟩:=zid hcp hcs _ _ _ _ _ ho;exact⟨l2.trans l1,fun Q hQ j=> .inr (.inl (qov n (by rw[hl];exact hc) hnd (h1 _ (h2 _ hQ))))⟩
    ·split at h
     ·rename_i n hn;split at hn
      rotate_left
      ·cases hn
      split at h<;>try cases h
      rename_i S1 ps hh;split at h<;>try cases h
      rename_i ho;obtain⟨l1,h1⟩:=zga hcp _ _ _ _ _ hh hl;obtain⟨l2,h2⟩:=zid hcp hcs _ _ _ _ _ ho;exact⟨l2.trans ((zrg _ _ _).trans l1),fun Q hQ j=> .inr (.inl ⟨n,by rw[hl];exact qjs hn,hnd,h1 _ (h2 _ hQ)⟩)⟩
     ·split at h
      rotate_left
      ·cases h
      rename_i r ho;split at h
      rotate_left
      ·cases h
      rename_i ha;cases h;obtain⟨l2,h2⟩:=zfp hG.oracleS hcp hcs _ _ _ r.1 r.2 ho;exact⟨l2.trans hl,fun Q hQ j=> .inr (.inr (.inl (z0w hG.oracleS hcp hcs hQ _ _ ha _ (List.mem_cons_self ..))))⟩
  | rangeFunc f ps asg body=>
   simp only[evQ] at h;split at h<;>try(cases h;done)
   rename_i xs hf;split at h
   rotate_left
   ·cases h
   rename_i hc;obtain⟨h1,h2⟩:=zox (P:=P) (asg:=asg) (body:=body) (S0:=S) (fun S1 U1 e1 S1' U1' hl1 h1=>by obtain⟨k1,k2⟩:=ih _ _ _ _ _ _ _ h1 (hl1.trans hl);exact⟨k1.trans hl.symm,fun k Q hQ=>zdd (k2 Q hQ)⟩) (fun S1 U1 e1 S1' U1' hl1 h1 k Q hQ=>zdd ((ih _ _ _ _ _ _ _ h1 (hl1.trans hl)).2 Q hQ)) xs U e S' U' h;exact⟨by rw[h1];exact hl,fun Q hQ j=> .inl ⟨xs,hf,hc.1,hc.2.1,hc.2.2,h2 Q hQ⟩⟩
  |_=>simp[evQ] at h
theorem zfc (H:Bool) {P:Program} {Ω:CallP} {Ψ:CallS} (hG:Good P Ω Ψ)(k:Nat) {f:FuncId} {args:List AV} {r:AV} (h:zjl P Ω (evQ H P Ω Ψ k) f args=some r):Pure (ITP P) P f args r:=ztt hG (ztn (H:=H) hG k) f args r h
end Go.Ab
namespace Go.Proofs
open Go.Shelf
def Tryz.lays162_ren:Go.Shelf.Ren:=⟨fun|162=>105|232=>149|227=>150|234=>151|236=>152|228=>178|271=>179|151=>180|120=>195|197=>196|152=>197|260=>205|137=>158|119=>206|224=>207|225=>208|217=>186|266=>199|n=>n,fun|9=>9|4=>4|3=>3|5=>5|117=>194|116=>193|0=>0|124=>197|21=>21|105=>217|46=>83|119=>248|139=>251|138=>250|n=>n,fun|3=>2|4=>3|n=>n⟩
theorem Tryz.lays162:Go.Proofs.Lays.n162 prog Tryz.lays162_ren:={
 mixed:=by kernel_rfl
 f119:=Tryz.func206.trans (congrArg some (by kernel_rfl))
 f120:=Tryz.func195.trans (congrArg some (by kernel_rfl))
 f137:=Tryz.func158.trans (congrArg some (by kernel_rfl))
 f151:=Tryz.func180.trans (congrArg some (by kernel_rfl))
 f152:=Tryz.func197.trans (congrArg some (by kernel_rfl))
 f162:=Tryz.func105.trans (congrArg some (by kernel_rfl))
 f197:=Tryz.func196.trans (congrArg some (by kernel_rfl))
 f217:=Tryz.func186.trans (congrArg some (by kernel_rfl))
 f224:=Tryz.func207.trans (congrArg some (by kernel_rfl))
 f225:=Tryz.func208.trans (congrArg some (by kernel_rfl))
 f227:=Tryz.func150.trans (congrArg some (by kernel_rfl))
 f228:=Tryz.func178.trans (congrArg some (by kernel_rfl))
 f232:=Tryz.func149.trans (congrArg some (by kernel_rfl))
 f234:=Tryz.func151.trans (congrArg some (by kernel_rfl))
 f236:=Tryz.func152.trans (congrArg some (by kernel_rfl))
 f260:=Tryz.func205.trans (congrArg some (by kernel_rfl))
 f266:=Tryz.func199.trans (congrArg some (by kernel_rfl))
 f271:=Tryz.func179.trans (congrArg some (by kernel_rfl))
 t0:=Tryz.underlying0
 a0:=Tryz.isAgg0
 z0:=Tryz.sizeOf0
 v0:=Tryz.zeroValue0
 t3:=Tryz.underlying3
 a3:=Tryz.isAgg3
 z3:=Tryz.sizeOf3
 v3:=Tryz.zeroValue3
 t4:=Tryz.underlying4
 a4:=Tryz.isAgg4
 z4:=Tryz.sizeOf4
 v4:=Tryz.zeroValue4
 t5:=Tryz.underlying5
 a5:=Tryz.isAgg5
 z5:=Tryz.sizeOf5
 v5:=Tryz.zeroValue5
 t9:=Tryz.underlying9
 a9:=Tryz.isAgg9
 z9:=Tryz.sizeOf9
 v9:=Tryz.zeroValue9
 t21:=Tryz.underlying21
 a21:=Tryz.isAgg21
 z21:=Tryz.sizeOf21
 v21:=Tryz.zeroValue21
 t46:=Tryz.underlying83
 a46:=Tryz.isAgg83
 z46:=Tryz.sizeOf83
 v46:=Tryz.zeroValue83
 t105:=Tryz.underlying217
 a105:=Tryz.isAgg217
 z105:=Tryz.sizeOf217
 v105:=Tryz.zeroValue217
 t116:=Tryz.underlying193
 a116:=Tryz.isAgg193
 z116:=Tryz.sizeOf193
 t117:=Tryz.underlying194
 a117:=Tryz.isAgg194
 z117:=Tryz.sizeOf194
 v117:=Tryz.zeroValue194
 t119:=Tryz.underlying248
 a119:=Tryz.isAgg248
 z119:=Tryz.sizeOf248
 t124:=Tryz.underlying197
 a124:=Tryz.isAgg197
 z124:=Tryz.sizeOf197
 v124:=Tryz.zeroValue197
 t138:=Tryz.underlying250
 a138:=Tryz.isAgg250
 z138:=Tryz.sizeOf250
 v138:=Tryz.zeroValue250
 t139:=Tryz.underlying251
 a139:=Tryz.isAgg251
 z139:=Tryz.sizeOf251
 v139:=Tryz.zeroValue251
 g3:=by kernel_rfl
 g4:=by kernel_rfl}
open Go.RowKit in
theorem Tryz.strings_TrimRight_one (s:ByteArray)(c:UInt8)(hc:c.toNat<128)(w:World)(hs:s.size<=9223372036854775807):
 Calls prog 105 #[.string s,.string ⟨#[c]⟩] w fun e w'=>e= .returned (.string ⟨(Lib.trimRightB s.data.toList c).toArray⟩)/\ w'=w:=Any.strings_TrimRight_one Tryz.lays162 s c hc w hs
def Tryz.lays137_ren:Go.Shelf.Ren:=⟨fun|137=>158|217=>186|266=>199|n=>n,fun|9=>9|5=>5|3=>3|n=>n,fun|n=>n⟩
theorem Tryz.lays137:Go.Proofs.Lays.n137 prog Tryz.lays137_ren:={
 mixed:=by kernel_rfl
 f137:=Tryz.func158.trans (congrArg some (by kernel_rfl))
 f217:=Tryz.func186.trans (congrArg some (by kernel_rfl))
 f266:=Tryz.func199.trans (congrArg some (by kernel_rfl))
 t3:=Tryz.underlying3
 a3:=Tryz.isAgg3
 z3:=Tryz.sizeOf3
 v3:=Tryz.zeroValue3
 t5:=Tryz.underlying5
 a5:=Tryz.isAgg5
 z5:=Tryz.sizeOf5
 v5:=Tryz.zeroValue5
 t9:=Tryz.underlying9
 a9:=Tryz.isAgg9
 z9:=Tryz.sizeOf9
 v9:=Tryz.zeroValue9}
open Go.RowKit in
theorem Tryz.strings_IndexByte (s:ByteArray)(c:Int)(w:World):
 Calls prog 158 #[.string s,.int .u8 c] w fun e w'=>e= .returned (.int .i64 (Lib.indexByte s.data.toList c.toNat.toUInt8))/\ w'=w:=Any.strings_IndexByte Tryz.lays137 s c w
def Tryz.lays103_ren:Go.Shelf.Ren:=⟨fun|103=>57|210=>103|206=>63|n=>n,fun|9=>9|4=>4|24=>105|3=>3|n=>n,fun|n=>n⟩
theorem Tryz.lays103:Go.Proofs.Lays.n103 prog Tryz.lays103_ren:={
 mixed:=by kernel_rfl
 f103:=Tryz.func57.trans (congrArg some (by kernel_rfl))
 f206:=Tryz.func63.trans (congrArg some (by kernel_rfl))
 f210:=Tryz.func103.trans (congrArg some (by kernel_rfl))
 t3:=Tryz.underlying3
 a3:=Tryz.isAgg3
 z3:=Tryz.sizeOf3
 v3:=Tryz.zeroValue3
 t4:=Tryz.underlying4
 a4:=Tryz.isAgg4
 z4:=Tryz.sizeOf4
 v4:=Tryz.zeroValue4
 t9:=Tryz.underlying9
 a9:=Tryz.isAgg9
 z9:=Tryz.sizeOf9
 v9:=Tryz.zeroValue9
 t24:=Tryz.underlying105
 a24:=Tryz.isAgg105
 z24:=Tryz.sizeOf105
 v24:=Tryz.zeroValue105}
open Go.RowKit in
theorem Tryz.strings_CutPrefix (s p:ByteArray)(w:World):
 Calls prog 57 #[.string s,.string p] w fun e w'=>e= .returned (.tuple #[.string ⟨(Lib.trimPrefix s.data.toList p.data.toList).toArray⟩,.bool (Lib.hasPrefix s.data.toList p.data.toList)])/\ w'=w:=Any.strings_CutPrefix Tryz.lays103 s p w
def Tryz.lays104_ren:Go.Shelf.Ren:=⟨fun|104=>104|211=>148|207=>177|n=>n,fun|9=>9|4=>4|24=>105|3=>3|n=>n,fun|n=>n⟩
theorem Tryz.lays104:Go.Proofs.Lays.n104 prog Tryz.lays104_ren:={
 mixed:=by kernel_rfl
 f104:=Tryz.func104.trans (congrArg some (by kernel_rfl))
 f207:=Tryz.func177.trans (congrArg some (by kernel_rfl))
 f211:=Tryz.func148.trans (congrArg some (by kernel_rfl))
 t3:=Tryz.underlying3
 a3:=Tryz.isAgg3
 z3:=Tryz.sizeOf3
 v3:=Tryz.zeroValue3
 t4:=Tryz.underlying4
 a4:=Tryz.isAgg4
 z4:=Tryz.sizeOf4
 v4:=Tryz.zeroValue4
 t9:=Tryz.underlying9
 a9:=Tryz.isAgg9
 z9:=Tryz.sizeOf9
 v9:=Tryz.zeroValue9
 t24:=Tryz.underlying105
 a24:=Tryz.isAgg105
 z24:=Tryz.sizeOf105
 v24:=Tryz.zeroValue105}
open Go.RowKit in
theorem Tryz.strings_CutSuffix (s p:ByteArray)(w:World)(hs:s.size<=9223372036854775807):
 Calls prog 104 #[.string s,.string p] w fun e w'=>e= .returned (.tuple #[.string ⟨(Lib.trimSuffix s.data.toList p.data.toList).toArray⟩,.bool (Lib.hasSuffix s.data.toList p.data.toList)])/\ w'=w:=Any.strings_CutSuffix Tryz.lays104 s p w hs
def Tryz.lays99_ren:Go.Shelf.Ren:=⟨fun|99=>28|206=>63|n=>n,fun|9=>9|4=>4|3=>3|n=>n,fun|n=>n⟩
theorem Tryz.lays99:Go.Proofs.Lays.n99 prog Tryz.lays99_ren:={
 mixed:=by kernel_rfl
 f99:=Tryz.func28.trans (congrArg some (by kernel_rfl))
 f206:=Tryz.func63.trans (congrArg some (by kernel_rfl))
 t3:=Tryz.underlying3
 a3:=Tryz.isAgg3
 z3:=Tryz.sizeOf3
 v3:=Tryz.zeroValue3
 t4:=Tryz.underlying4
 a4:=Tryz.isAgg4
 z4:=Tryz.sizeOf4
 v4:=Tryz.zeroValue4
 t9:=Tryz.underlying9
 a9:=Tryz.isAgg9
 z9:=Tryz.sizeOf9
 v9:=Tryz.zeroValue9}
open Go.RowKit Go.Lib in
theorem Tryz.strings_HasPrefix (s p:ByteArray)(w:World):
 Calls prog 28 #[.string s,.string p] w fun e w'=>e= .returned (.bool (Lib.hasPrefix s.data.toList p.data.toList))/\ w'=w:=Any.strings_HasPrefix Tryz.lays99 s p w
end Go.Proofs
namespace Go.Ab
open Go Go.RowKit Go.Fwd Go.Proofs
variable {ρ:Operand->AV} {o:Oper} {y:Operand}
theorem mix:prog.follows .mixedOrders=true:=by kernel_rfl
theorem ents (f:Nat)(fn:Func)(hf:prog.funcs[f]? =some fn)(hb:fn.body.isSome=true):Ent prog f:=by
 obtain⟨c,hc⟩:=Option.isSome_iff_exists.1 hb;have hall:(prog.funcs.toList.all fun fn=> !(fn.name== "runtime.NumGoroutine"))=true:=by kernel_rfl
 have:=all_eq_true.1 hall fn (Array.mem_toList_iff.2 (Array.mem_of_getElem? hf));exact enters_of hf (by simpa using this) hc
def noP:CallP:=fun _ _=>none
def noS:CallS:=fun _ _ _=>none
theorem goodN:Good prog noP noS:=⟨mix,ents,(fun _ _ _ h=>nomatch h),(fun _ _ _ _ _ h=>nomatch h)⟩
theorem undS:prog.underlying 24=some (.array 4 22):=by kernel_rfl
theorem undW:prog.underlying 22=some (.int .u64):=by kernel_rfl
theorem sizeW (w:World):(sizeOf 22).run prog w= .ok 1 w:=by kernel_rfl
theorem aggW (w:World):(isAgg 22).run prog w= .ok false w:=by kernel_rfl
theorem eqInS' (d:Nat)(a0 a1 a2 a3 b0 b1 b2 b3:Int)(w:World):(Op.equalIn (d+1+1) 24 (.agg #[.int .u64 a0,.int .u64 a1,.int .u64 a2,.int .u64 a3]) (.agg #[.int .u64 b0,.int .u64 b1,.int .u64 b2,.int .u64 b3])).run prog w=
 .ok (a0==b0&&a1==b1&&a2==b2&&a3==b3) w:=by
 rw[Op.equalIn];simp only[Sem.run_bind,run_underlying undS,Result.andThen_ok,sizeW];have hq: ∀(a b:Int) (w:World),(Op.equalIn (d+1) 22 (.int .u64 a) (.int .u64 b)).run prog w= .ok (a==b) w:=fun a b w=>run_equalIn_int w d 22 .u64 .u64 a b undW;have hr:List.range' 0 4=[0,1,2,3]:=rfl;simp[part,hr,aggW,Sem.run_bind,hq,Result.andThen];by_cases h0:a0=b0<;>by_cases h1:a1=b1<;>by_cases h2:a2=b2<;>by_cases h3:a3=b3<;>simp[h0,h1,h2,h3,hq,Result.andThen]
theorem eqInS (a0 a1 a2 a3 b0 b1 b2 b3:Int)(w:World):(Op.equalIn 10000 24 (.agg #[.int .u64 a0,.int .u64 a1,.int .u64 a2,.int .u64 a3]) (.agg #[.int .u64 b0,.int .u64 b1,.int .u64 b2,.int .u64 b3])).run prog w=
 .ok (a0==b0&&a1==b1&&a2==b2&&a3==b3) w:=eqInS' 9998 _ _ _ _ _ _ _ _ w
theorem qpn:prog.eqGuardType prog.depth 24=false:=by kernel_rfl
theorem qfn {x:Operand} {c} (s t:BS)(ho:o.op= .binOp .eql 24 x y c)(hx:ρ x=qje s)(hy:ρ y=qje t):zrq prog ρ o (.raw (.bool (decide (s=t)))):=by
 refine⟨?_,by rw[ho];intros;simp,by rw[ho];intros;simp,.bool (decide (s=t)),fun w=> ?_,rfl,rfl⟩
 ·rw[ho];simp[Op.operands,hx,hy,qje,zdr,zer,zkf]
 ·have h1:zch ρ x= .agg #[.int .u64 (wd s 0),.int .u64 (wd s 1),.int .u64 (wd s 2),.int .u64 (wd s 3)]:=by simp[zch,hx,qje,zdr,zer,zkf]
  have h2:zch ρ y= .agg #[.int .u64 (wd t 0),.int .u64 (wd t 1),.int .u64 (wd t 2),.int .u64 (wd t 3)]:=by simp[zch,hy,qje,zdr,zer,zkf]
  have h3:=eqInS (wd s 0) (wd s 1) (wd s 2) (wd s 3) (wd t 0) (wd t 1) (wd t 2) (wd t 3) w;rw[qfb] at h3;simp[execOp,ho,h1,h2,eqGuard,binOp,Op.equal,Op.maxDepth,program,Sem.run,qpn,h3]
theorem qal {x:Operand} {c} (s t:BS)(ho:o.op= .binOp .neq 24 x y c)(hx:ρ x=qje s)(hy:ρ y=qje t):zrq prog ρ o (.raw (.bool (decide (s≠t)))):=by
 refine⟨?_,by rw[ho];intros;simp,by rw[ho];intros;simp,.bool (decide (s≠t)),fun w=> ?_,rfl,rfl⟩
 ·rw[ho];simp[Op.operands,hx,hy,qje,zdr,zer,zkf]
 ·have h1:zch ρ x= .agg #[.int .u64 (wd s 0),.int .u64 (wd s 1),.int .u64 (wd s 2),.int .u64 (wd s 3)]:=by simp[zch,hx,qje,zdr,zer,zkf]
  have h2:zch ρ y= .agg #[.int .u64 (wd t 0),.int .u64 (wd t 1),.int .u64 (wd t 2),.int .u64 (wd t 3)]:=by simp[zch,hy,qje,zdr,zer,zkf]
  have h3:=eqInS (wd s 0) (wd s 1) (wd s 2) (wd s 3) (wd t 0) (wd t 1) (wd t 2) (wd t 3) w;rw[qfb] at h3;simp[execOp,ho,h1,h2,eqGuard,binOp,Op.equal,Op.maxDepth,program,Sem.run,qpn,h3]
theorem zmk {x:Operand} {c} (s t:BS)(ho:o.op= .binOp .eql 24 x y c)(hx:ρ x= .agg (Enc.cells s))(hy:ρ y= .agg (Enc.cells t)):zrq prog ρ o (.raw (.bool (decide (s=t)))):=qfn s t ho hx hy
theorem zug {x:Operand} {c} (s t:BS)(ho:o.op= .binOp .neq 24 x y c)(hx:ρ x= .agg (Enc.cells s))(hy:ρ y= .agg (Enc.cells t)):zrq prog ρ o (.raw (.bool (decide (s≠t)))):=qal s t ho hx hy
theorem or_run (a b:BS):Pure (ITP prog) prog 67 [.agg (Enc.cells a),.agg (Enc.cells b)] (.agg [.raw (.int .u64 (orI .u64 (wd a 0) (wd b 0))),.raw (.int .u64 (orI .u64 (wd a 1) (wd b 1))),.raw (.int .u64 (orI .u64 (wd a 2) (wd b 2))),.raw (.int .u64 (orI .u64 (wd a 3) (wd b 3)))]):=zfc true goodN 100 (by kernel_rfl)
theorem qld (a b:BS):Pure (ITP prog) prog 67 [.agg (Enc.cells a),.agg (Enc.cells b)] (.agg (Enc.cells (a|||b))):=by
 have:=or_run a b;simp only[qgc] at this;exact this
end Go.Ab
namespace Go.Ab
open Go Go.RowKit Go.Fwd
end Go.Ab
namespace Go.Ab
open Go Go.RowKit Go.Fwd
section
variable {P:Program} {ρ:Operand->AV} {U:St} {o:Oper}
theorem ztc {x:Operand} {s t:TypeId} {k:IntKind} {n:Int} (g: -9223372036854775808<=n/\ n<9223372036854775808)(ho:o.op= .convert s t x)(hx:ρ x= .raw (.int k n))(hs:val? P (Next.value<$>convert s t (.int k n))=some (.value (.int .i64 (IntKind.i64.wrap n)))):qop P ρ U o=some (.raw (.int .i64 n)):=by
 have h:=zsu g.1 g.2;rw[h] at hs;simp[qop,zfi,ho,Op.operands,hx,zdr,execOp,zch,hs,zpv];exact⟨rfl,rfl⟩
end
section
variable {P:Program} {ρ:Operand->AV} {U:St} {o:Oper}
end
end Go.Ab
namespace Go.Ab
open Go Go.RowKit Go.Fwd Go.Proofs
structure Bd where
 lo:Int
 mo:Int
 deriving DecidableEq
def qgi (e:Bd):List AV:=[.raw (.int .i64 e.lo),.raw (.int .i64 e.mo)]
instance:Enc Bd where
 inh:=⟨0,0⟩
 cells:=qgi
 cellsL l:=l.flatMap qgi
 sz:=2
 pos:=by decide
 nil:=rfl
 cons _ _:=rfl
 len _:=rfl
 clo _:=rfl
set_option maxRecDepth 100000 in
theorem z6p {ρ:Operand->AV} {U:St} {o:Oper} {x:Operand} {b:Nat} {t:TypeId} {i:Int} (s:BS)(hi:0<=i/\ i<4)(ho:o.op= .load 22 x)(hx:ρ x= .ptr b (0+i.toNat*1))(hb:U.boxes[b]? =some (t,Enc.cells s)):qop prog ρ U o=some (.raw (.int .u64 (wd s i.toNat))):=by
 have key: ∀j:Nat,j<4->rd prog 22 ((Enc.cells s).drop (0+j*1))=some (.raw (.int .u64 (wd s j))):=by
  intro j hj
  match j,hj with
  |0,_=>rfl
  |1,_=>rfl
  |2,_=>rfl
  |3,_=>rfl
 simp only[qop,ho,zzk,hx,hb];exact key i.toNat (by omega)
variable {P:Program}
theorem zjn {f:FuncId} {args:List AV} {r:AV} (vs:List Value)(he:Ent P f)(ha: ∀X us,zbf (ITP P) X args us->us=vs)
 (h: ∀X,Inv (ITP P) St.empty X->Calls P f vs.toArray X.w fun e w'=> ∃u,e= .returned u/\ w'=X.w/\ ∀Y,Rep (ITP P) Y r u):Pure (ITP P) P f args r:=by
 refine⟨he,fun X us hI hr=> ?_⟩;rw[ha X us hr];refine(h X hI).mono ?_;rintro e w' ⟨u,rfl,rfl,hu⟩;exact⟨u,X,rfl,rfl,Ext.refl X,hI,hu _⟩
theorem qey {X:Cx} {u v:Value} {us:List Value} (h:zbf (ITP P) X [.raw u,.raw v] us):us=[u,v]:=by
 obtain⟨a,l,rfl,ha,b,l',rfl,hb,hl⟩:=h;have ha:a=u:=ha;have hb:b=v:=hb;have hl:l'=[]:=hl;rw[ha,hb,hl]
theorem ent158:Ent prog 158:=enters_of Tryz.func158 (by kernel_rfl) rfl
theorem ent28:Ent prog 28:=enters_of Tryz.func28 (by kernel_rfl) rfl
theorem ent57:Ent prog 57:=enters_of Tryz.func57 (by kernel_rfl) rfl
theorem ent104:Ent prog 104:=enters_of Tryz.func104 (by kernel_rfl) rfl
theorem ent105:Ent prog 105:=enters_of Tryz.func105 (by kernel_rfl) rfl
theorem z9t (l:List UInt8)(c:UInt8):Pure (ITP prog) prog 158 [.raw (.string (bs l)),.raw (.int .u8 ((c.toNat:Nat):Int))] (.raw (.int .i64 (Lib.indexByte l c))):=by
 have h:Pure (ITP prog) prog 158 [.raw (.string (bs l)),.raw (.int .u8 ((c.toNat:Nat):Int))] (.raw (.int .i64 (Lib.indexByte l ((c.toNat:Nat):Int).toNat.toUInt8))):=
  zjn [.string (bs l),.int .u8 _] ent158 (fun X us h=>qey h) fun X hI=>(Tryz.strings_IndexByte (bs l) _ X.w).mono fun e w' ⟨h1,h2⟩=>⟨_,h1,h2,fun Y=>rfl⟩
 rwa[show((c.toNat:Nat):Int).toNat.toUInt8=c by simp] at h
def zkt (e:Int):UInt8:=UInt8.ofNat e.toNat
theorem u8c {e:Int} (g:0<=e/\ e<256):((zkt e).toNat:Int)=e:=by
 unfold zkt;have h:e.toNat<256:=by omega
 rw[show(UInt8.ofNat e.toNat).toNat=e.toNat by simp;omega];omega
theorem zuf (l:List UInt8) {e:Int} (h:0<=e/\ e<256):Pure (ITP prog) prog 158 [.raw (.string (bs l)),.raw (.int .u8 e)] (.raw (.int .i64 (Lib.indexByte l (zkt e)))):=by
 have:=z9t l (zkt e);rwa[u8c h] at this
theorem zts (l p:List UInt8):Pure (ITP prog) prog 28 [.raw (.string (bs l)),.raw (.string (bs p))] (.raw (.bool (Lib.hasPrefix l p))):=
 zjn [.string (bs l),.string (bs p)] ent28 (fun X us h=>qey h) fun X hI=>(Tryz.strings_HasPrefix (bs l) (bs p) X.w).mono fun e w' ⟨h1,h2⟩=>⟨_,h1,h2,fun Y=>rfl⟩
theorem qez (l p:List UInt8):Pure (ITP prog) prog 57 [.raw (.string (bs l)),.raw (.string (bs p))] (.tup [.raw (.string (bs (Lib.trimPrefix l p,Lib.hasPrefix l p).1)),.raw (.bool (Lib.trimPrefix l p,Lib.hasPrefix l p).2)]):=
 zjn [.string (bs l),.string (bs p)] ent57 (fun X us h=>qey h) fun X hI=>(Tryz.strings_CutPrefix (bs l) (bs p) X.w).mono fun e w' ⟨h1,h2⟩=>⟨_,h1,h2,fun Y=>⟨_,rfl,_,_,rfl,rfl,_,_,rfl,rfl,rfl⟩⟩
theorem qeh (l p:List UInt8)(h:l.length<=9223372036854775807):Pure (ITP prog) prog 104 [.raw (.string (bs l)),.raw (.string (bs p))] (.tup [.raw (.string (bs (Lib.trimSuffix l p,Lib.hasSuffix l p).1)),.raw (.bool (Lib.trimSuffix l p,Lib.hasSuffix l p).2)]):=
 zjn [.string (bs l),.string (bs p)] ent104 (fun X us h=>qey h) fun X hI=>(Tryz.strings_CutSuffix (bs l) (bs p) X.w h).mono fun e w' ⟨h1,h2⟩=>⟨_,h1,h2,fun Y=>⟨_,rfl,_,_,rfl,rfl,_,_,rfl,rfl,rfl⟩⟩
theorem qbs (l:List UInt8)(c:UInt8)(hc:c.toNat<128)(h:l.length<=9223372036854775807):Pure (ITP prog) prog 105 [.raw (.string (bs l)),.raw (.string (bs [c]))] (.raw (.string (bs (Lib.trimRightB l c)))):=
 zjn [.string (bs l),.string (bs [c])] ent105 (fun X us h=>qey h) fun X hI=>(Tryz.strings_TrimRight_one (bs l) c hc X.w h).mono fun e w' ⟨h1,h2⟩=>⟨_,h1,h2,fun Y=>rfl⟩
end Go.Ab
