import Derived.Test.YtnoccnalocdldaaGreatDoorZdQr
import Derived.Shelf.Strings.Trim
import Derived.Shelf.Small.Strs
import Derived.Shelf.Small.Wraps
import Derived.Shelf.Strings.Search1
import Derived.Shelf.Strings.Prefix
import Derived.Test.YtnoccnalocdldaaGreatDoorProg
import Derived.Test.YtnoccnalocdldaaGreatDoorRows
import Derived.Shelf.Spec.SlicesInsert
import Derived.Lib.AppendZerosOnto
import Derived.Laws.CopyRow
set_option linter.all false
set_option maxRecDepth 100000
set_option maxHeartbeats 4000000
open Sum (inl inr)
open Int (toNat)
open Bool (and_eq_true)
open List (length length_cons length_append mem_append all_eq_true cons_append mem_cons append_nil drop_eq_getElem_cons take_append_drop)
open Go.Proofs.Tryz (prog)
namespace Go.Ab
open Go Go.RowKit Go.Fwd
abbrev BS:=BitVec 256
def W64 (S:BS)(i:Nat):BitVec 64:=S.extractLsb' (64*i) 64
def wd (S:BS)(i:Nat):Int:=((W64 S i).toNat:Int)
inductive Tr where
 |mk (k:Nat) (s:BS) (mn mx:Int) (l:List Tr)
def Tr.k:Tr->Nat| .mk k _ _ _ _=>k
def Tr.s:Tr->BS| .mk _ s _ _ _=>s
def Tr.mn:Tr->Int| .mk _ _ m _ _=>m
def Tr.mx:Tr->Int| .mk _ _ _ m _=>m
def Tr.l:Tr->List Tr| .mk _ _ _ _ l=>l
theorem Tr.eta (t:Tr):t= .mk t.k t.s t.mn t.mx t.l:=by cases t;rfl
theorem Tr.sizeOf_l {t x:Tr} (h:x∈t.l):SizeOf.sizeOf x<SizeOf.sizeOf t:=by
 cases t with
 |mk k s mn mx l=>simp only[Tr.l] at h;have:=List.sizeOf_lt_of_mem h;simp;omega
mutual
def cells:Tr->List AV
 | .mk k s mn mx l=>[.raw (.int .u8 k),.raw (.int .u64 (wd s 0)),.raw (.int .u64 (wd s 1)),.raw (.int .u64 (wd s 2)),.raw (.int .u64 (wd s 3)),.raw (.int .i64 mn),.raw (.int .i64 mx),.list l.length (cellsL l) .none]
def cellsL:List Tr->List AV
 |[]=>[]
 |t::l=>cells t++cellsL l
end
def enc (t:Tr):AV:= .agg (cells t)
theorem qlr (t:Tr):cells t=[.raw (.int .u8 t.k),.raw (.int .u64 (wd t.s 0)),.raw (.int .u64 (wd t.s 1)),.raw (.int .u64 (wd t.s 2)),.raw (.int .u64 (wd t.s 3)),.raw (.int .i64 t.mn),.raw (.int .i64 t.mx),.list t.l.length (cellsL t.l) .none]:=by cases t;simp[cells,Tr.k,Tr.s,Tr.mn,Tr.mx,Tr.l]
mutual
theorem zse: ∀t,zcd (cells t)=true
 | .mk k s mn mx l=>by simp[cells,zcd,zlt,zqq l]
theorem zqq: ∀l,zcd (cellsL l)=true
 |[]=>by simp[cellsL,zcd]
 | t::l=>by
  have h: ∀l m:List AV,zcd (l++m)=(zcd l&&zcd m):=fun l m=>by
   induction l with
   |nil=>simp[zcd]
   |cons a l ih=>rw[cons_append,zcd,zcd,ih,Bool.and_assoc]
  rw[cellsL,h,zse t,zqq l];rfl
end
mutual
theorem z5u: ∀t,stripL (cells t)=cells t
 | .mk k s mn mx l=>by simp[cells,stripL,zcy,zjp l]
theorem zjp: ∀l,stripL (cellsL l)=cellsL l
 |[]=>by simp[cellsL,stripL]
 | t::l=>by
  rw[cellsL,znk,List.map_append, <-znk, <-znk,z5u t,zjp l]
end
mutual
theorem z2r: ∀t,cloL (cells t)=true
 | .mk k s mn mx l=>by simp[cells,cloL,clo,zwl l]
theorem zwl: ∀l,cloL (cellsL l)=true
 |[]=>by simp[cellsL,cloL]
 |t::l=>by rw[cellsL,zee,z2r t,zwl l];rfl
end
theorem qcz (t:Tr):zlt (enc t)=true:=by rw[enc,zlt];exact zse t
mutual
def pre:Tr->List Tr
 | .mk k s mn mx l=> .mk k s mn mx l::zbe l
def zbe:List Tr->List Tr
 |[]=>[]
 |t::l=>pre t++zbe l
end
theorem zea (t:Tr):pre t=t::zbe t.l:=by cases t;simp[pre,Tr.l]
theorem zoc: ∀(ts:List Tr) (i:Nat) (hi:i<ts.length),(zbe (ts.take (i+1))).length=(zbe (ts.take i)).length+(pre ts[i]).length
 |[],i,hi=>by simp at hi
 |t::ts,0,hi=>by simp[zbe]
 | t::ts,i+1,hi=>by
  simp only[List.take_succ_cons,zbe,length_append,List.getElem_cons_succ,zoc ts i (by simpa using hi)];omega
theorem z6u (k:Nat)(s:BS)(mn mx:Int)(ts:List Tr):(pre (.mk k s mn mx ts)).length=1+(zbe ts).length:=by simp[pre];omega
theorem z6r: ∀ts:List Tr,ts.length<=(zbe ts).length
 |[]=>by simp[zbe]
 | t::ts=>by
  have:=z6r ts;cases t with
  |mk k s mn mx l=>simp[zbe,pre];omega
theorem znp: ∀ {ts:List Tr} {x:Tr},x∈ts->(pre x).length<=(zbe ts).length
 |[],x,h=>by simp at h
 | t::ts,x,h=>by
  simp only[zbe,length_append];rcases mem_cons.1 h with rfl|h
  ·omega
  ·have:=znp h;omega
def zel (least most:Int):Bool:= !(decide (least<0)||decide (least>16)||decide (least=1)&&decide (most=1))&&(decide (most= -1)||decide (most>=1)&&decide (most<=16)&&decide (most>=least))
def qkd (s:BS):AV:= .agg [.raw (.int .u64 (wd s 0)),.raw (.int .u64 (wd s 1)),.raw (.int .u64 (wd s 2)),.raw (.int .u64 (wd s 3))]
theorem wd_inj {A B:BS} (h: ∀i,i<4->wd A i=wd B i):A=B:=by
 apply BitVec.eq_of_getLsbD_eq;intro j hj;have h4:j/64<4:=by omega
 have h2:=h (j/64) h4;have h3:W64 A (j/64)=W64 B (j/64):=by
  apply BitVec.eq_of_toNat_eq;unfold wd at h2;omega
 have h5:=congrArg (fun x:BitVec 64=>x.getLsbD (j%64)) h3;have hlt:j%64<64:=Nat.mod_lt _ (by decide);simp only[W64,BitVec.getLsbD_extractLsb',hlt,decide_true,Bool.true_and] at h5;rwa[show 64*(j/64)+j%64=j by omega] at h5
theorem qfv (S T:BS):(wd S 0==wd T 0&&wd S 1==wd T 1&&wd S 2==wd T 2&&wd S 3==wd T 3)=decide (S=T):=by
 by_cases h:S=T
 ·subst h;simp
 ·simp only[h,decide_false];cases hb:(wd S 0==wd T 0&&wd S 1==wd T 1&&wd S 2==wd T 2&&wd S 3==wd T 3) with
  |false=>rfl
  | true=>
   simp only[and_eq_true,beq_iff_eq] at hb;refine absurd (wd_inj fun i hi=> ?_) h
   match i,hi with
   |0,_=>exact hb.1.1.1
   |1,_=>exact hb.1.1.2
   |2,_=>exact hb.1.2
   |3,_=>exact hb.2
def zwd (t:Tr)(k:Nat):Bool:=t.l.any fun y=>decide (y.k=k)
def oddT (t:Tr):Bool:=((t.k:Int) !=2&&decide (t.s≠0#256))||((t.k:Int) !=5&&(t.mn !=0||t.mx !=0))||(decide ((t.k:Int)<3)&&decide ((t.l.length:Int)>0))
def zcq (t:Tr):Bool:= !oddT t&&(bif (t.k:Int)==1 then true else bif (t.k:Int)==2 then decide (t.s≠0#256) else bif (t.k:Int)==3 then decide ((t.l.length:Int)>1)&& !zwd t 1&& !zwd t 3
 else bif (t.k:Int)==4 then decide ((t.l.length:Int)>1)&& !zwd t 4 else bif (t.k:Int)==5 then(t.l.length:Int)==1&&zel t.mn t.mx&& !zwd t 1 else(t.k:Int)==6&&(t.l.length:Int)==1)
theorem ziy (k:Nat)(s:BS)(mn mx:Int)(ts:List Tr):oddT (.mk k s mn mx ts)=(((k:Int) !=2&&decide (s≠0#256))||((k:Int) !=5&&(mn !=0||mx !=0))||(decide ((k:Int)<3)&&decide ((ts.length:Int)>0))):=rfl
theorem zck (k:Nat)(s:BS)(mn mx:Int)(ts:List Tr):zcq (.mk k s mn mx ts)=(!oddT (.mk k s mn mx ts)&&(bif (k:Int)==1 then true else bif (k:Int)==2 then decide (s≠0#256) else bif (k:Int)==3 then decide ((ts.length:Int)>1)&& !zwd (.mk k s mn mx ts) 1&& !zwd (.mk k s mn mx ts) 3
 else bif (k:Int)==4 then decide ((ts.length:Int)>1)&& !zwd (.mk k s mn mx ts) 4 else bif (k:Int)==5 then(ts.length:Int)==1&&zel mn mx&& !zwd (.mk k s mn mx ts) 1 else(k:Int)==6&&(ts.length:Int)==1)):=rfl
def zhf (t:Tr):Bool:=decide ((pre t).length<=10000)
def zev (t:Tr):Bool:=zhf t&&(pre t).all zcq
def qiz (t:Tr):Int:=if zhf t=true then(pre t).length else 10001
def z7a (t:Tr):Int:=if zhf t=true then(pre t).countP (fun x=>decide (x.k=6)) else 10001
mutual
def zlv:Tr->Int
 | .mk k s mn mx ts=>min (if k=5 then((if k=2 then 1 else 0)+zey ts)*min (if mx= -1 then max (max mn 0) 1 else max (max mn 0) mx) 10001 else(if k=2 then 1 else 0)+zey ts) 10001
def zey:List Tr->Int
 |[]=>0
 |t::l=>zlv t+zey l
end
theorem zmw: ∀(t:Tr),t.l.length<(pre t).length
 | .mk k s mn mx ts=>by
  have: ∀l:List Tr,l.length<=(zbe l).length:=fun l=>by
   induction l with
   |nil=>simp[zbe]
   |cons a l ih=>rw[zbe,length_append,length_cons];rw[zea];simp;omega
  simp[pre,Tr.l];have:=this ts;omega
theorem zwj {t x:Tr} (h:x∈pre t):(pre x).length<=(pre t).length:=by
 have key: ∀n,(∀t:Tr,SizeOf.sizeOf t<=n-> ∀x∈pre t,(pre x).length<=(pre t).length):=by
  intro n;induction n with
  |zero=>intro t ht;cases t;simp at ht
  | succ n ih=>
   intro t ht x hx;rw[zea] at hx;rcases mem_cons.1 hx with rfl|hx
   ·exact Nat.le_refl _
   ·have hl: ∀l:List Tr,(∀y∈l,SizeOf.sizeOf y<=n)-> ∀x∈zbe l,(pre x).length<=(zbe l).length:=by
     intro l;induction l with
     |nil=>intro _ x hx;simp[zbe] at hx
     | cons a l ihl=>
      intro hs x hx;rw[zbe] at hx⊢;rw[length_append];rcases mem_append.1 hx with hx|hx
      ·have:=ih a (hs a (by simp)) x hx;omega
      ·have:=ihl (fun y hy=>hs y (by simp[hy])) x hx;omega
    have:=hl t.l (fun y hy=>by have:=Tr.sizeOf_l hy;omega) x hx;rw[zea t,length_cons];omega
 exact key _ t (Nat.le_refl _) x h
theorem qji (l:List Tr)(i:Nat)(hi:i<l.length):zey (l.take (i+1))=zey (l.take i)+zlv l[i]:=by
 have happ: ∀a b,zey (a++b)=zey a+zey b:=fun a b=>by
  induction a with
  |nil=>simp[zey]
  |cons x a ih=>rw[cons_append,zey,zey,ih,Int.add_assoc]
 rw[List.take_succ_eq_append_getElem hi,happ];simp[zey]
theorem qfi: ∀t,zlv t<=10001
 | .mk k s mn mx ts=>by rw[zlv];exact Int.min_le_right _ _
mutual
theorem zks: ∀t,0<=zlv t
 | .mk k s mn mx ts=>by
  have hl:=zed ts;rw[zlv];have h0:0<=(if k=2 then 1 else 0)+zey ts:=by split<;>omega
  split
  ·have:0<=((if k=2 then 1 else 0)+zey ts)*min (if mx= -1 then max (max mn 0) 1 else max (max mn 0) mx) 10001:=Int.mul_nonneg h0 (by split<;>omega);omega
  ·omega
theorem zed: ∀l,0<=zey l
 |[]=>by simp[zey]
 |t::l=>by have h1:=zks t;have h2:=zed l;rw[zey];omega
end
theorem z6g: ∀l,zey l<=10001*l.length
 |[]=>by simp[zey]
 |t::l=>by have h1:=qfi t;have h2:=z6g l;rw[zey,length_cons];omega
def z3f (p:Tr->Tr->Bool):List Tr->List Tr->Bool
 |[],[]=>true
 |x::a,y::b=>p x y&&z3f p a b
 |_,_=>false
theorem ztp (p:Tr->Tr->Bool): ∀a b:List Tr,z3f p a b=true↔a.length=b.length/\ ∀(i:Nat) (h1:i<a.length) (h2:i<b.length),p a[i] b[i]=true
 |[],[]=>by simp[z3f]
 |x::a,[]=>by simp[z3f]
 |[],y::b=>by simp[z3f]
 | x::a,y::b=>by
  rw[z3f,and_eq_true,ztp p a b];constructor
  ·rintro⟨h1,h2,h3⟩;refine⟨by simp[h2],fun i k1 k2=> ?_⟩;cases i with
   |zero=>exact h1
   |succ i=>simpa using h3 i (by simpa using k1) (by simpa using k2)
  ·rintro⟨h1,h2⟩;exact⟨h2 0 (by simp) (by simp),by simpa using h1,fun i k1 k2=>h2 (i+1) (by simpa using k1) (by simpa using k2)⟩
theorem qnz {p:Tr->Tr->Bool} {a b:List Tr} (h:a.length≠b.length):z3f p a b=false:=by
 rw[Bool.eq_false_iff,ne_eq,ztp];exact fun h3=>h h3.1
mutual
def zgv:Tr->Tr->Bool
 | .mk k s mn mx l,.mk k' s' mn' mx' l'=>(k:Int)==k'&&decide (s=s')&&mn==mn'&&mx==mx'&&zqc l l'
def zqc:List Tr->List Tr->Bool
 |[],[]=>true
 |x::a,y::b=>zgv x y&&zqc a b
 |_,_=>false
end
theorem z1d: ∀a b,zqc a b=z3f zgv a b
 |[],[]=>by simp[zqc,z3f]
 |x::a,[]=>by simp[zqc,z3f]
 |[],y::b=>by simp[zqc,z3f]
 |x::a,y::b=>by rw[zqc,z3f,z1d a b]
theorem qms (k:Nat)(s:BS)(mn mx:Int)(ts:List Tr)(k2:Nat)(s2:BS)(mn2 mx2:Int)(us:List Tr):zgv (.mk k s mn mx ts) (.mk k2 s2 mn2 mx2 us)=((k:Int)==k2&&decide (s=s2)&&mn==mn2&&mx==mx2&&z3f zgv ts us):=by rw[zgv,z1d]
def noneT:Tr:= .mk 0 0#256 0 0 []
def emptyT:Tr:= .mk 1 0#256 0 0 []
def znx (t:Tr):Bool:=zgv t noneT||zev t
def zen (t:Tr):Tr:=if zev t=true then t else noneT
theorem zny {t:Tr} (h:zev t=true):(pre t).length<=10000:=by rw[zev,and_eq_true] at h;simpa[zhf] using h.1
theorem wd_zero (i:Nat):wd 0#256 i=0:=by simp[wd,W64]
def zgn (kind without:Nat)(l:List Tr):List Tr:=l.flatMap fun x=>bif (x.k:Int)==kind then x.l else bif (x.k:Int)==without then[] else[x]
def zkx (kind:Nat)(l:List Tr)(none:Tr):Tr:=bif (l.length:Int)==0 then none else bif (l.length:Int)==1 then zen (l.headD none) else zen (Tr.mk kind 0#256 0 0 l)
def zsq (l:List Tr):Tr:=if(l.any fun x=>(x.k:Int)==0|| !zev x)=true then noneT else zkx 3 (zgn 3 1 l) emptyT
def orT (l:List Tr):Tr:=if(l.any fun x=> !znx x)=true then noneT else zkx 4 (zgn 4 0 l) noneT
theorem zbx: ∀a b,zbe (a++b)=zbe a++zbe b
 |[],b=>by simp[zbe]
 |x::a,b=>by rw[cons_append,zbe,zbe,zbx a b,List.append_assoc]
theorem zaw: ∀l:List Tr,l.length<=(zbe l).length
 |[]=>by simp[zbe]
 |x::l=>by have:=zaw l;rw[zbe,length_append,length_cons,zea];simp;omega
theorem zio (t:Tr):(zbe t.l).length<(pre t).length:=by rw[zea];simp
theorem znc (kind without:Nat): ∀l:List Tr,(zbe (zgn kind without l)).length<=(zbe l).length
 |[]=>by simp[zgn,zbe]
 | x::l=>by
  have h:=znc kind without l;have hx:=zio x;rw[zgn,List.flatMap_cons,zbx,length_append,zbe,length_append];have h2:(zbe (bif (x.k:Int)==kind then x.l else bif (x.k:Int)==without then[] else[x])).length<=(pre x).length:=by
   cases (x.k:Int)==kind<;>cases (x.k:Int)==without<;>simp[zbe]<;>omega
  rw[zgn] at h;omega
theorem zcn {x:Tr}: ∀ {l:List Tr},x∈l->(pre x).length<=(zbe l).length
 | y::l,h=>by
  rw[zbe,length_append];rcases mem_cons.1 h with rfl|h
  ·omega
  ·have:=zcn h;omega
def zfr (t:Tr)(lo hi:Int):Tr:=
 bif !znx t||(!(lo==0&&hi==0)&& !(lo==1&&hi==1)&& !zel lo hi) then noneT
 else bif (t.k:Int)==0&&decide (lo>0) then noneT
 else bif (lo==0&&hi==0)||(t.k:Int)==0||(t.k:Int)==1 then emptyT
 else bif lo==1&&hi==1 then t else zen (.mk 5 0#256 lo hi [t])
def zgj (t:Tr):Tr:=zen (.mk 6 0#256 0 0 [t])
def ofT (s:BS):Tr:=if s=0#256 then noneT else .mk 2 s 0 0 []
theorem z0e (k:Nat)(s:BS)(mn mx:Int)(t:Tr):(pre (.mk k s mn mx [t])).length=1+(pre t).length:=by simp[pre,zbe];omega
def zfg (kind:Nat)(l:List Tr):List Tr:=l.flatMap fun x=>bif (x.k:Int)==kind then x.l else bif (kind:Int)==3&&(x.k:Int)==1 then[] else[x]
def qdi (kind:Nat)(l:List Tr):Tr:=bif (l.length:Int)==0 then emptyT else bif (l.length:Int)==1 then l.headD emptyT else .mk kind 0#256 0 0 l
def zff (kind:Nat)(a b:Tr):Tr:=qdi kind (zfg kind [a,b])
theorem zqz (kind:Nat): ∀l:List Tr,(zbe (zfg kind l)).length<=(zbe l).length
 |[]=>by simp[zfg,zbe]
 | x::l=>by
  have h:=zqz kind l;have hx:=zio x;rw[zfg,List.flatMap_cons,zbx,length_append,zbe,length_append];have h2:(zbe (bif (x.k:Int)==kind then x.l else bif (kind:Int)==3&&(x.k:Int)==1 then[] else[x])).length<=(pre x).length:=by
   cases (x.k:Int)==kind<;>cases (kind:Int)==3&&(x.k:Int)==1<;>simp[zbe]<;>omega
  rw[zfg] at h;omega
theorem qco (kind:Nat)(l:List Tr)(i:Nat)(hi:i<l.length):zfg kind (l.take (i+1))=zfg kind (l.take i)++(bif (l[i].k:Int)==kind then l[i].l else bif (kind:Int)==3&&(l[i].k:Int)==1 then[] else[l[i]]):=by
 rw[List.take_succ_eq_append_getElem hi,zfg,List.flatMap_append];simp[zfg]
theorem zwf (kind:Nat)(l:List Tr)(i:Nat):(zfg kind (l.take i)).length<=(zbe l).length:=by
 refine Nat.le_trans (zaw _) (Nat.le_trans (zqz _ _) ?_);conv=>rhs;rw[<-take_append_drop i l]
 rw[zbx,length_append];omega
def bsOf (l:List Nat):BS:=l.foldl (fun s b=>s|||(1#256<<<b)) 0#256
def z8g (l:List Nat):Tr:= .mk 2 (bsOf l) 0 0 []
def zxk:Nat->List Nat
 |0=>[97]|1=>[98]|2=>[97,98]|3=>[97]|4=>[98]|5=>[99]|6=>[97,98,99]|7=>[98,99]|8=>[10]|9=>[0,255]|10=>[97]|_=>[98]
abbrev Sm:=Nat×Nat×Nat
abbrev MSt:=List Tr×Int×Int
def kI (x:Sm):Int:=((x.1%12:Nat):Int)
def zfd (p:List Tr)(i:Nat):Tr:=p[p.length-i]?.getD emptyT
def cA (p:List Tr)(x:Sm):Bool:=decide (kI x<7)&&decide ((p.length:Int)>1)
def cB (p:List Tr)(x:Sm):Bool:=decide (kI x<9)&&decide ((p.length:Int)>1)
def cC (p:List Tr)(g:Int)(x:Sm):Bool:=kI x==9&&decide ((p.length:Int)>0)&&decide (g<9)
def cD (p:List Tr)(x:Sm):Bool:=decide (kI x>9)&&decide ((p.length:Int)>0)&&((zfd p 1).k:Int) !=1
def loM (x:Sm):Int:=((x.2.1%3:Nat):Int)
def m4 (x:Sm):Int:=((x.2.2%4:Nat):Int)
def badM (x:Sm):Bool:=decide (m4 x<loM x)||m4 x==0||loM x==1&&m4 x==1
def moM (x:Sm):Int:=bif badM x then-1 else m4 x
def tmM (x:Sm):Int:=max (max (loM x) (moM x)) 1
def zte (st:MSt)(x:Sm):MSt:=
 bif decide (kI x<4) then(st.1++[z8g (zxk (x.2.1%12))],st.2.1,st.2.2)
 else bif kI x==4 then(st.1++[emptyT],st.2.1,st.2.2)
 else bif cA st.1 x then(st.1.take (st.1.length-2)++[zff 3 (zfd st.1 2) (zfd st.1 1)],st.2.1,st.2.2)
 else bif cB st.1 x then(st.1.take (st.1.length-2)++[zff 4 (zfd st.1 2) (zfd st.1 1)],st.2.1,st.2.2)
 else bif cC st.1 st.2.2 x then(st.1.set (st.1.length-1) (.mk 6 0#256 0 0 [zfd st.1 1]),st.2.1,st.2.2+1)
 else bif cD st.1 x then(bif decide (st.2.1*tmM x<=16) then(st.1.set (st.1.length-1) (.mk 5 0#256 (loM x) (moM x) [zfd st.1 1]),st.2.1*tmM x,st.2.2) else st)
 else st
def MM (l:List Sm)(i:Nat):MSt:=(l.take i).foldl zte ([],1,0)
def qqc (p:List Tr):Tr:=match p with
 |[]=>z8g [97]
 |x::r=>r.foldl (zff 4) x
def zta (l:List Sm):Tr:=qqc (MM (l.take 25) 25).1
theorem z7g (l:List Sm)(i:Nat)(hi:i<l.length):MM l (i+1)=zte (MM l i) l[i]:=by
 rw[MM,List.take_succ_eq_append_getElem hi,List.foldl_append];rfl
theorem znu (kind:Nat)(a b:Tr):(pre (zff kind a b)).length<=(pre a).length+(pre b).length+1:=by
 have h:=zqz kind [a,b];simp only[zbe,append_nil,length_append] at h;rw[zff,qdi];obtain⟨l,hl⟩: ∃l,zfg kind [a,b]=l:=⟨_,rfl⟩;rw[hl] at h⊢
 match l,h with
 |[],_=>simp[emptyT,pre,zbe]
 |[x],h=>simp[zbe] at h⊢;omega
 | x::y::l,h=>
  have e1:(((x::y::l).length:Int)==0)=false:=by simp;omega
  have e2:(((x::y::l).length:Int)==1)=false:=by simp;omega
  rw[e1,e2];simp only[cond_false,pre,length_cons];omega
theorem zjl {p:List Tr} {i:Nat} (h0:0<i)(h:i<=p.length):zfd p i=p[p.length-i]'(by omega):=by
 rw[zfd,List.getElem?_eq_getElem (by omega)];rfl
theorem zpi {p:List Tr} (h:2<=p.length):(zbe (p.take (p.length-2))).length+(pre (zfd p 2)).length+(pre (zfd p 1)).length=(zbe p).length:=by
 rw[zjl (by omega) h,zjl (by omega) (by omega)];conv=>rhs;rw[<-take_append_drop (p.length-2) p]
 rw[zbx,length_append,drop_eq_getElem_cons (by omega),show p.length-2+1=p.length-1 by omega,drop_eq_getElem_cons (by omega),show p.length-1+1=p.length by omega,List.drop_length];simp[zbe];omega
theorem z8t {p:List Tr} {y:Tr} (h:0<p.length):(zbe (p.set (p.length-1) y)).length+(pre (zfd p 1)).length=(zbe p).length+(pre y).length:=by
 rw[zjl (by omega) h];rw[List.set_eq_take_append_cons_drop,if_pos (by omega),show p.length-1+1=p.length by omega,List.drop_length,zbx,length_append];conv=>rhs;rw[<-take_append_drop (p.length-1) p]
 rw[zbx,length_append,drop_eq_getElem_cons (by omega),show p.length-1+1=p.length by omega,List.drop_length];simp[zbe];omega
theorem qek (x:Sm):1<=tmM x/\ tmM x<=3:=by
 have h1:x.2.1%3<3:=Nat.mod_lt _ (by decide);have h2:x.2.2%4<4:=Nat.mod_lt _ (by decide);unfold tmM moM;have h3:loM x<=2:=by unfold loM;omega
 have h4:m4 x<=3:=by unfold m4;omega
 cases badM x<;>simp only[cond_true,cond_false]<;>omega
theorem qhu (st:MSt)(x:Sm)(i:Nat)(h:(zbe st.1).length<=i/\ 0<=st.2.2/\ st.2.2<=9/\ 1<=st.2.1/\ st.2.1<=16):
 (zbe (zte st x).1).length<=i+1/\ 0<=(zte st x).2.2/\ (zte st x).2.2<=9/\ 1<=(zte st x).2.1/\ (zte st x).2.1<=16:=by
 obtain⟨h1,h2,h3,h4,h5⟩:=h;unfold zte;cases decide (kI x<4)
 ·cases kI x==4
  ·cases hA:cA st.1 x
   ·cases hB:cB st.1 x
    ·cases hC:cC st.1 st.2.2 x
     ·cases hD:cD st.1 x
      ·simp only[cond_false];omega
      ·simp only[cond_false,cond_true];cases hT:decide (st.2.1*tmM x<=16)
       ·simp only[cond_false];omega
       ·simp only[cond_true];have hp:0<st.1.length:=by
         unfold cD at hD;simp only[and_eq_true,decide_eq_true_eq] at hD;omega
        have e:=z8t (p:=st.1) (y:= .mk 5 0#256 (loM x) (moM x) [zfd st.1 1]) hp;rw[z0e] at e;have:=(qek x).1;have h6:1<=st.2.1*tmM x:=by
         have:=Int.mul_le_mul h4 this (by omega) (by omega);omega
        simp only[decide_eq_true_eq] at hT;exact⟨by omega,by omega,by omega,h6,hT⟩
     ·simp only[cond_false,cond_true];unfold cC at hC;simp only[and_eq_true,decide_eq_true_eq] at hC;have e:=z8t (p:=st.1) (y:= .mk 6 0#256 0 0 [zfd st.1 1]) (by omega);rw[z0e] at e;omega
    ·simp only[cond_false,cond_true];unfold cB at hB;simp only[and_eq_true,decide_eq_true_eq] at hB;have e:=zpi (p:=st.1) (by omega);have e2:=znu 4 (zfd st.1 2) (zfd st.1 1);rw[zbx,length_append];simp only[zbe,append_nil];omega
   ·simp only[cond_false,cond_true];unfold cA at hA;simp only[and_eq_true,decide_eq_true_eq] at hA;have e:=zpi (p:=st.1) (by omega);have e2:=znu 3 (zfd st.1 2) (zfd st.1 1);rw[zbx,length_append];simp only[zbe,append_nil];omega
  ·simp only[cond_false,cond_true];rw[zbx,length_append];simp[zbe,emptyT,pre];omega
 ·simp only[cond_true];rw[zbx,length_append];simp[zbe,z8g,pre];omega
theorem invM (l:List Sm): ∀i,i<=l.length->(zbe (MM l i).1).length<=i/\ 0<=(MM l i).2.2/\ (MM l i).2.2<=9/\ 1<=(MM l i).2.1/\ (MM l i).2.1<=16
 |0,_=>by simp[MM,zbe]
 | i+1,h=>by
  rw[z7g l i (by omega)];exact qhu _ _ i (invM l i (by omega))
def smc (x:Sm):List AV:=[.raw (.int .u8 x.1),.raw (.int .u8 x.2.1),.raw (.int .u8 x.2.2)]
def qpu:List Sm->List AV
 |[]=>[]
 |x::l=>smc x++qpu l
def qkg (p:List Tr)(i:Nat):Tr:=match p with
 |[]=>emptyT
 |x::r=>(r.take i).foldl (zff 4) x
theorem z3i {p:List Tr} {i:Nat} (h:i+1<p.length):qkg p (i+1)=zff 4 (qkg p i) p[i+1]:=by
 cases p with
 |nil=>simp at h
 | cons x r=>
  have hi:i<r.length:=by simpa using h
  simp only[qkg,List.take_succ_eq_append_getElem hi,List.foldl_append,List.foldl_cons,List.foldl_nil,List.getElem_cons_succ]
theorem qhm {p:List Tr} (hp:p≠[]): ∀i,i<p.length->(pre (qkg p i)).length<=(zbe (p.take (i+1))).length+i
 | 0,_=>by
  cases p with
  |nil=>exact absurd rfl hp
  |cons x r=>simp[qkg,zbe]
 | i+1,h=>by
  rw[z3i h];have h1:=znu 4 (qkg p i) p[i+1];have h2:=qhm hp i (by omega);rw[List.take_succ_eq_append_getElem h,zbx,length_append];simp only[zbe,append_nil];omega
theorem zsg (p:List Tr)(i:Nat):(zbe (p.take i)).length<=(zbe p).length:=by
 conv=>rhs;rw[<-take_append_drop i p]
 rw[zbx,length_append];omega
theorem qln {p:List Tr} (hp:p≠[]):qkg p (p.length-1)=qqc p:=by
 cases p with
 |nil=>exact absurd rfl hp
 |cons x r=>simp[qkg,qqc]
def CR (t:Tr):Prop:=(pre t).all zcq=true
def CRL (l:List Tr):Prop:=(zbe l).all zcq=true
theorem zfb:CRL []:=by simp[CRL,zbe]
theorem zch (t:Tr)(l:List Tr):CRL (t::l)↔CR t/\ CRL l:=by simp[CRL,CR,zbe]
theorem zdm (a b:List Tr):CRL (a++b)↔CRL a/\ CRL b:=by simp[CRL,zbx]
theorem zmx: ∀l:List Tr,CRL l↔ ∀t∈l,CR t
 |[]=>by simp[zfb]
 |t::l=>by rw[zch,zmx l];simp
theorem zjg (t:Tr):CR t↔zcq t=true/\ CRL t.l:=by rw[CR,zea,List.all_cons,and_eq_true];rfl
theorem zfu {t:Tr} {k:Nat}:zwd t k=false↔ ∀y∈t.l,y.k≠k:=by simp[zwd]
theorem qiv {l:List Tr} (h:1<l.length)(h1: ∀t∈l,t.k≠1/\ t.k≠3):zcq (.mk 3 0#256 0 0 l)=true:=by
 have e1:zwd (.mk 3 0#256 0 0 l) 1=false:=zfu.2 fun y hy=>(h1 y hy).1;have e3:zwd (.mk 3 0#256 0 0 l) 3=false:=zfu.2 fun y hy=>(h1 y hy).2;simp[zck,ziy,e1,e3];omega
theorem qjb {l:List Tr} (h:1<l.length)(h1: ∀t∈l,t.k≠4):zcq (.mk 4 0#256 0 0 l)=true:=by
 have e1:zwd (.mk 4 0#256 0 0 l) 4=false:=zfu.2 fun y hy=>h1 y hy;simp[zck,ziy,e1];omega
theorem qhb {t:Tr} {lo hi:Int} (h:t.k≠1)(hb:zel lo hi=true):zcq (.mk 5 0#256 lo hi [t])=true:=by
 have e1:zwd (.mk 5 0#256 lo hi [t]) 1=false:=zfu.2 fun y hy=>by simp[Tr.l] at hy;subst hy;exact h
 simp[zck,ziy,e1,hb]
theorem qip (t:Tr):zcq (.mk 6 0#256 0 0 [t])=true:=by simp[zck,ziy]
theorem zos:zcq emptyT=true:=by simp[emptyT,zck,ziy]
theorem z0g {t:Tr} (h:zcq t=true):t.k=1 \/t.k=2 \/t.k=3 \/t.k=4 \/t.k=5 \/t.k=6:=by
 cases t with
 | mk k s mn mx l=>
  rw[zck] at h;simp only[Tr.k];by_cases h1:k=1; · exact .inl h1
  by_cases h2:k=2; · exact .inr (.inl h2)
  by_cases h3:k=3; · exact .inr (.inr (.inl h3))
  by_cases h4:k=4; · exact .inr (.inr (.inr (.inl h4)))
  by_cases h5:k=5; · exact .inr (.inr (.inr (.inr (.inl h5))))
  by_cases h6:k=6; · exact .inr (.inr (.inr (.inr (.inr h6))))
  exfalso
  have e: ∀n:Nat,k≠n->((k:Int)==n)=false:=fun n hn=>by simp;omega
  rw[show((k:Int)==1)=false from e 1 h1,show((k:Int)==2)=false from e 2 h2,show((k:Int)==3)=false from e 3 h3,show((k:Int)==4)=false from e 4 h4,show((k:Int)==5)=false from e 5 h5,show((k:Int)==6)=false from e 6 h6] at h;simp at h
theorem zkz {t:Tr} (h:zcq t=true)(hk:t.k=3):1<t.l.length/\ ∀y∈t.l,y.k≠1/\ y.k≠3:=by
 cases t with
 | mk k s mn mx l=>
  simp only[Tr.k] at hk;subst hk;rw[zck] at h;simp only[and_eq_true,Bool.not_eq_true'] at h;have h2:=h.2;simp only[show((((3:Nat):Int))==1)=false from rfl,show((((3:Nat):Int))==2)=false from rfl,show((((3:Nat):Int))==3)=true from rfl,cond_false,cond_true,and_eq_true,Bool.not_eq_true',decide_eq_true_eq] at h2;exact⟨by simp only[Tr.l];omega,fun y hy=>⟨zfu.1 h2.1.2 y hy,zfu.1 h2.2 y hy⟩⟩
theorem zlk {t:Tr} (h:zcq t=true)(hk:t.k=4):1<t.l.length/\ ∀y∈t.l,y.k≠4:=by
 cases t with
 | mk k s mn mx l=>
  simp only[Tr.k] at hk;subst hk;rw[zck] at h;simp only[and_eq_true,Bool.not_eq_true'] at h;have h2:=h.2;simp only[show((((4:Nat):Int))==1)=false from rfl,show((((4:Nat):Int))==2)=false from rfl,show((((4:Nat):Int))==3)=false from rfl,show((((4:Nat):Int))==4)=true from rfl,cond_false,cond_true,and_eq_true,Bool.not_eq_true',decide_eq_true_eq] at h2;exact⟨by simp only[Tr.l];omega,fun y hy=>zfu.1 h2.2 y hy⟩
theorem z5w (t:Tr)(h5:t.k≠5)(h2:t.k≠2):zlv t=min (zey t.l) 10001:=by
 cases t with
 |mk k s mn mx l=>simp only[Tr.k] at h5 h2;simp[zlv,h5,h2,Tr.l]
theorem zcw: ∀a b,zey (a++b)=zey a+zey b
 |[],b=>by simp[zey]
 |x::a,b=>by rw[cons_append,zey,zey,zcw a b];omega
theorem zwr:zlv emptyT=0:=by simp[emptyT,zlv,zey];rfl
theorem qae (l:List Nat):zlv (z8g l)=1:=by simp[z8g,zlv,zey];rfl
def grT (t:Tr):Nat:=(pre t).countP fun x=>decide (x.k=6)
def grL (l:List Tr):Nat:=(zbe l).countP fun x=>decide (x.k=6)
theorem zet:grL []=0:=by simp[grL,zbe]
theorem zcu (t:Tr)(l:List Tr):grL (t::l)=grT t+grL l:=by simp[grL,grT,zbe]
theorem zdw (a b:List Tr):grL (a++b)=grL a+grL b:=by simp[grL,zbx]
theorem qql (t:Tr):grT t=grL t.l+(if t.k=6 then 1 else 0):=by rw[grT,zea,List.countP_cons];simp[grL]
theorem qgh (k:Nat)(s:BS)(mn mx:Int)(l:List Tr):grT (.mk k s mn mx l)=grL l+(if k=6 then 1 else 0):=qql _
theorem z2l:grT emptyT=0:=by simp[emptyT,grT,pre,zbe,Tr.k]
theorem qen (l:List Nat):grT (z8g l)=0:=by simp[z8g,grT,pre,zbe,Tr.k]
theorem znl (kind:Nat)(x:Tr)(l:List Tr):zfg kind (x::l)=(bif (x.k:Int)==kind then x.l else bif (kind:Int)==3&&(x.k:Int)==1 then[] else[x])++zfg kind l:=by simp[zfg]
def G3 (l:List Tr):Prop:=CRL l/\ ∀y∈l,y.k≠1/\ y.k≠3
def G4 (l:List Tr):Prop:=CRL l/\ ∀y∈l,y.k≠4
theorem zwq: ∀ {l:List Tr},CRL l->G3 (zfg 3 l)
 |[],_=>⟨zfb,by simp[zfg]⟩
 | x ::l,h=>by
  rw[zch] at h;obtain⟨g1,g2⟩:=zwq h.2;have hx:=(zjg x).1 h.1;rw[znl];by_cases h3:x.k=3
  ·have e:((x.k:Int)==((3:Nat):Int))=true:=by simp[h3]
   rw[e,cond_true];refine⟨(zdm _ _).2 ⟨hx.2,g1⟩,fun y hy=> ?_⟩;rcases mem_append.1 hy with hy|hy
   ·exact(zkz hx.1 h3).2 y hy
   ·exact g2 y hy
  ·have e:((x.k:Int)==((3:Nat):Int))=false:=by simp;omega
   rw[e,cond_false];by_cases h1:x.k=1
   ·have e1:((((3:Nat):Int)==3)&&((x.k:Int)==1))=true:=by simp[h1]
    rw[e1,cond_true,List.nil_append];exact⟨g1,g2⟩
   ·have e1:((((3:Nat):Int)==3)&&((x.k:Int)==1))=false:=by simp;omega
    rw[e1,cond_false,List.singleton_append];refine⟨(zch _ _).2 ⟨h.1,g1⟩,fun y hy=> ?_⟩;rcases mem_cons.1 hy with rfl|hy
    ·exact⟨h1,h3⟩
    ·exact g2 y hy
theorem zwp: ∀ {l:List Tr},CRL l->G4 (zfg 4 l)
 |[],_=>⟨zfb,by simp[zfg]⟩
 | x::l,h=>by
  rw[zch] at h;obtain⟨g1,g2⟩:=zwp h.2;have hx:=(zjg x).1 h.1;rw[znl];by_cases h3:x.k=4
  ·have e:((x.k:Int)==((4:Nat):Int))=true:=by simp[h3]
   rw[e,cond_true];refine⟨(zdm _ _).2 ⟨hx.2,g1⟩,fun y hy=> ?_⟩;rcases mem_append.1 hy with hy|hy
   ·exact(zlk hx.1 h3).2 y hy
   ·exact g2 y hy
  ·have e:((x.k:Int)==((4:Nat):Int))=false:=by simp;omega
   have e1:((((4:Nat):Int)==3)&&((x.k:Int)==1))=false:=by simp
   rw[e,cond_false,e1,cond_false,List.singleton_append];refine⟨(zch _ _).2 ⟨h.1,g1⟩,fun y hy=> ?_⟩;rcases mem_cons.1 hy with rfl|hy
   ·exact h3
   ·exact g2 y hy
theorem z9y (kind:Nat)(x:Tr):qdi kind [x]=x:=rfl
theorem ztl (kind:Nat)(x y:Tr)(l:List Tr):qdi kind (x::y::l)= .mk kind 0#256 0 0 (x::y::l):=by
 have e1:(((x::y::l).length:Int)==0)=false:=by simp;omega
 have e2:(((x::y::l).length:Int)==1)=false:=by simp;omega
 rw[qdi,e1,e2];rfl
theorem qmt: ∀ {l:List Tr},G3 l->CR (qdi 3 l)
 |[],_=>(zjg _).2 ⟨zos,zfb⟩
 |[x],h=>(zmx _).1 h.1 x (by simp)
 |x::y::l,h=>by rw[ztl];exact(zjg _).2 ⟨qiv (by simp) h.2,h.1⟩
theorem qnm: ∀ {l:List Tr},G4 l->CR (qdi 4 l)
 |[],_=>(zjg _).2 ⟨zos,zfb⟩
 |[x],h=>(zmx _).1 h.1 x (by simp)
 |x::y::l,h=>by rw[ztl];exact(zjg _).2 ⟨qjb (by simp) h.2,h.1⟩
theorem qjv {a b:Tr} (ha:CR a)(hb:CR b):CR (zff 3 a b):=qmt (zwq ((zmx _).2 (by simp[ha,hb])))
theorem z1k {a b:Tr} (ha:CR a)(hb:CR b):CR (zff 4 a b):=qnm (zwp ((zmx _).2 (by simp[ha,hb])))
theorem z3d (kind:Nat)(hk:kind=3 \/kind=4): ∀l:List Tr,zey l<=10000->zey (zfg kind l)<=zey l
 |[],_=>by simp[zfg,zey]
 | x ::l,h=>by
  rw[zey] at h;have h1:=zks x;have h2:=zed l;have ih:=z3d kind hk l (by omega);rw[znl,zcw,zey];have:zey (bif (x.k:Int)==kind then x.l else bif (kind:Int)==3&&(x.k:Int)==1 then[] else[x])<=zlv x:=by
   cases e:(x.k:Int)==kind
   ·rw[cond_false];cases (kind:Int)==3&&(x.k:Int)==1
    ·simp[zey]
    ·simp[zey];omega
   ·rw[cond_true];have e':x.k=kind:=by simp at e;omega
    have:=z5w x (by omega) (by omega);omega
  omega
theorem qof (kind:Nat)(hk:kind=3 \/kind=4): ∀l:List Tr,zlv (qdi kind l)<=zey l
 |[]=>by rw[show qdi kind []=emptyT from rfl,zwr];simp[zey]
 |[x]=>by rw[z9y];simp[zey]
 | x::y::l=>by
  rw[ztl,z5w _ (by simp only[Tr.k];omega) (by simp only[Tr.k];omega)];simp only[Tr.l];omega
theorem zud (kind:Nat)(hk:kind=3 \/kind=4) {a b:Tr} (h:zlv a+zlv b<=10000):zlv (zff kind a b)<=zlv a+zlv b:=by
 have h0:zey [a,b]=zlv a+zlv b:=by simp[zey]
 have h1:=z3d kind hk [a,b] (by omega);have h2:=qof kind hk (zfg kind [a,b]);rw[zff];omega
theorem z7h (kind:Nat)(hk:kind=3 \/kind=4): ∀l:List Tr,CRL l->grL (zfg kind l)<=grL l
 |[],_=>by simp[zfg]
 | x ::l,h=>by
  rw[zch] at h;have ih:=z7h kind hk l h.2;rw[znl,zdw,zcu];have:grL (bif (x.k:Int)==kind then x.l else bif (kind:Int)==3&&(x.k:Int)==1 then[] else[x])<=grT x:=by
   cases e:(x.k:Int)==kind
   ·rw[cond_false];cases (kind:Int)==3&&(x.k:Int)==1
    ·rw[cond_false,zcu,zet];omega
    ·rw[cond_true,zet];omega
   ·rw[cond_true];have:=qql x;omega
  omega
theorem endJ_gr (kind:Nat)(hk:kind=3 \/kind=4): ∀l:List Tr,grT (qdi kind l)<=grL l
 |[]=>by rw[show qdi kind []=emptyT from rfl,z2l];omega
 |[x]=>by rw[z9y,zcu];omega
 | x::y::l=>by
  rw[ztl,qgh,if_neg (by omega)];omega
theorem zyr (kind:Nat)(hk:kind=3 \/kind=4) {a b:Tr} (ha:CR a)(hb:CR b):grT (zff kind a b)<=grT a+grT b:=by
 have h1:=z7h kind hk [a,b] ((zmx _).2 (by simp[ha,hb]));have h2:=endJ_gr kind hk (zfg kind [a,b]);simp only[zcu,zet] at h1;rw[zff];omega
structure OkM (st:MSt)(i:Nat):Prop where
 cr:CRL st.1
 pos:zey st.1<=(i:Int)*st.2.1
 gr:(grL st.1:Int)<=st.2.2
theorem zwn {p:List Tr} (h:0<p.length):p=p.take (p.length-1)++[zfd p 1]:=by
 rw[zjl (by omega) (by omega)];conv=>lhs;rw[<-take_append_drop (p.length-1) p]
 rw[drop_eq_getElem_cons (by omega),List.drop_of_length_le (by omega)]
theorem z1a {p:List Tr} (h:2<=p.length):p=p.take (p.length-2)++[zfd p 2,zfd p 1]:=by
 rw[zjl (i:=2) (by omega) (by omega),zjl (i:=1) (by omega) (by omega)];conv=>lhs;rw[<-take_append_drop (p.length-2) p]
 rw[drop_eq_getElem_cons (by omega),drop_eq_getElem_cons (by omega),List.drop_of_length_le (by omega)];simp only[show p.length-2+1=p.length-1 by omega]
theorem z7r {p:List Tr} (h:0<p.length)(y:Tr):p.set (p.length-1) y=p.take (p.length-1)++[y]:=by
 rw[List.set_eq_take_append_cons_drop,if_pos (by omega),List.drop_of_length_le (by omega)]
theorem qej: ∀j,j<12->zcq (z8g (zxk j))=true:=by decide+kernel
theorem qpg {j:Nat} (h:j<12):CR (z8g (zxk j)):=(zjg _).2 ⟨qej j h,zfb⟩
theorem qex (x:Sm):zel (loM x) (moM x)=true:=by
 have h1:x.2.1%3<3:=Nat.mod_lt _ (by decide);have h2:x.2.2%4<4:=Nat.mod_lt _ (by decide);unfold moM badM loM m4;generalize x.2.1%3=a at*
 generalize x.2.2%4=b at*
 have key: ∀a,a<3-> ∀b,b<4->zel ((a:Nat):Int) (bif decide (((b:Nat):Int)<(a:Int))||(b:Int)==0||(a:Int)==1&&(b:Int)==1 then-1 else(b:Int))=true:=by decide
 exact key a h1 b h2
theorem z6l (x:Sm)(t:Tr):zlv (.mk 5 0#256 (loM x) (moM x) [t])<=zlv t*tmM x:=by
 have h1:x.2.1%3<3:=Nat.mod_lt _ (by decide);have h2:x.2.2%4<4:=Nat.mod_lt _ (by decide);have h0:=zks t;have hlo:0<=loM x:=by unfold loM;omega
 have hf:min (if moM x= -1 then max (max (loM x) 0) 1 else max (max (loM x) 0) (moM x)) 10001<=tmM x:=by
  unfold tmM;split
  ·rename_i e;rw[e];omega
  ·omega
 have hm:=Int.mul_le_mul_of_nonneg_left hf h0;simp only[zlv,zey,if_true,if_neg (show ¬(5=2) by decide),Int.add_zero,Int.zero_add];omega
theorem qov {st:MSt} {i:Nat} (x:Sm)(h:OkM st i)(hi:i<=25)(hv:0<=st.2.2/\ st.2.2<=9/\ 1<=st.2.1/\ st.2.1<=16):OkM (zte st x) (i+1):=by
 obtain⟨c,p,g⟩:=h;obtain⟨v1,v2,v3,v4⟩:=hv;have e0:((i+1:Nat):Int)*st.2.1=(i:Int)*st.2.1+st.2.1:=by rw[Int.natCast_add,Int.add_mul];simp
 have e400:(i:Int)*st.2.1<=400:=by
  have:=Int.mul_le_mul (show(i:Int)<=25 by omega) v4 (by omega) (by omega);omega
 have c0:=(zmx _).1 c;unfold zte;cases decide (kI x<4)
 ·cases kI x==4
  ·cases hA:cA st.1 x
   ·cases hB:cB st.1 x
    ·cases hC:cC st.1 st.2.2 x
     ·cases hD:cD st.1 x
      ·simp only[cond_false];exact⟨c,by omega,g⟩
      ·simp only[cond_false,cond_true];cases hT:decide (st.2.1*tmM x<=16)
       ·simp only[cond_false];exact⟨c,by omega,g⟩
       ·simp only[cond_true];unfold cD at hD;simp only[and_eq_true,decide_eq_true_eq,bne_iff_ne,ne_eq] at hD;have hp:0<st.1.length:=by omega
        have es:=zwn hp;rw[z7r hp];rw[es,zdm,zch] at c;rw[es,zcw] at p;rw[es,zdw,zcu,zet] at g;simp only[zey,Int.add_zero] at p;refine⟨(zdm _ _).2 ⟨c.1,(zch _ _).2 ⟨(zjg _).2 ⟨qhb (by omega) (qex x),(zch _ _).2 ⟨c.2.1,zfb⟩⟩,zfb⟩⟩,?_,?_⟩
        ·have h1:=z6l x (zfd st.1 1);have h2:=zed (st.1.take (st.1.length-1));have h3:=(qek x).1;rw[zcw];simp only[zey,Int.add_zero];have h4:=Int.mul_le_mul_of_nonneg_right p (show 0<=tmM x by omega);have h5:=Int.mul_le_mul_of_nonneg_left h3 h2;rw[Int.add_mul] at h4;have e1:((i+1:Nat):Int)*(st.2.1*tmM x)=(i:Int)*st.2.1*tmM x+st.2.1*tmM x:=by
          rw[Int.natCast_add,Int.add_mul,Int.mul_assoc];simp
         have h6:0<=st.2.1*tmM x:=Int.mul_nonneg (by omega) (by omega);rw[e1];omega
        ·dsimp only;rw[zdw,zcu,zet,qgh,zcu,zet,if_neg (by decide)];omega
     ·simp only[cond_false,cond_true];unfold cC at hC;simp only[and_eq_true,decide_eq_true_eq] at hC;have hp:0<st.1.length:=by omega
      have es:=zwn hp;rw[z7r hp];rw[es,zdm,zch] at c;rw[es,zcw] at p;rw[es,zdw,zcu,zet] at g;simp only[zey,Int.add_zero] at p;refine⟨(zdm _ _).2 ⟨c.1,(zch _ _).2 ⟨(zjg _).2 ⟨qip _,(zch _ _).2 ⟨c.2.1,zfb⟩⟩,zfb⟩⟩,?_,?_⟩
      ·rw[zcw,zey,z5w _ (by simp only[Tr.k];omega) (by simp only[Tr.k];omega)];simp only[Tr.l,zey,Int.add_zero];omega
      ·dsimp only;rw[zdw,zcu,zet,qgh,zcu,zet,if_pos rfl];omega
    ·simp only[cond_false,cond_true];unfold cB at hB;simp only[and_eq_true,decide_eq_true_eq] at hB;have hp:2<=st.1.length:=by omega
     have es:=z1a hp;rw[es,zdm,zch,zch] at c;rw[es,zcw] at p;rw[es,zdw,zcu,zcu,zet] at g;simp only[zey,Int.add_zero] at p;have n0:=zed (st.1.take (st.1.length-2));refine⟨(zdm _ _).2 ⟨c.1,(zch _ _).2 ⟨z1k c.2.1 c.2.2.1,zfb⟩⟩,?_,?_⟩
     ·have:=zud 4 (.inr rfl) (a:=zfd st.1 2) (b:=zfd st.1 1) (by omega);rw[zcw];simp only[zey,Int.add_zero];omega
     ·dsimp only;have:=zyr 4 (.inr rfl) c.2.1 c.2.2.1
      rw[zdw,zcu,zet];omega
   ·simp only[cond_false,cond_true];unfold cA at hA;simp only[and_eq_true,decide_eq_true_eq] at hA;have hp:2<=st.1.length:=by omega
    have es:=z1a hp;rw[es,zdm,zch,zch] at c;rw[es,zcw] at p;rw[es,zdw,zcu,zcu,zet] at g;simp only[zey,Int.add_zero] at p;have n0:=zed (st.1.take (st.1.length-2));refine⟨(zdm _ _).2 ⟨c.1,(zch _ _).2 ⟨qjv c.2.1 c.2.2.1,zfb⟩⟩,?_,?_⟩
    ·have:=zud 3 (.inl rfl) (a:=zfd st.1 2) (b:=zfd st.1 1) (by omega);rw[zcw];simp only[zey,Int.add_zero];omega
    ·dsimp only;have:=zyr 3 (.inl rfl) c.2.1 c.2.2.1
     rw[zdw,zcu,zet];omega
  ·simp only[cond_false,cond_true];refine⟨(zdm _ _).2 ⟨c,(zch _ _).2 ⟨(zjg _).2 ⟨zos,zfb⟩,zfb⟩⟩,?_,?_⟩
   ·rw[zcw];simp only[zey,zwr];omega
   ·dsimp only;rw[zdw,zcu,zet,z2l];omega
 ·simp only[cond_true];refine⟨(zdm _ _).2 ⟨c,(zch _ _).2 ⟨qpg (Nat.mod_lt _ (by decide)),zfb⟩⟩,?_,?_⟩
  ·rw[zcw];simp only[zey,qae];omega
  ·dsimp only;rw[zdw,zcu,zet,qen];omega
theorem okM (l:List Sm)(hl:l.length<=25): ∀i,i<=l.length->OkM (MM l i) i
 |0,_=>⟨by simp[MM];exact zfb,by simp[MM,zey],by simp[MM,zet]⟩
 | i+1,h=>by
  rw[z7g l i (by omega)];have:=invM l i (by omega);exact qov _ (okM l hl i (by omega)) (by omega) ⟨this.2.1,this.2.2.1,this.2.2.2.1,this.2.2.2.2⟩
theorem qjq: ∀(r:List Tr) (x:Tr),CR x->CRL r->zlv x+zey r<=400->
 CR (r.foldl (zff 4) x)/\ zlv (r.foldl (zff 4) x)<=zlv x+zey r/\ grT (r.foldl (zff 4) x)<=grT x+grL r/\ (pre (r.foldl (zff 4) x)).length<=(pre x).length+(zbe r).length+r.length
 |[],x,h,_,_=>by simp[zey,zet,zbe,h]
 | y::r,x,h,hr,hp=>by
  rw[zch] at hr;rw[zey] at hp;have n1:=zed r;have j1:=zud 4 (.inr rfl) (a:=x) (b:=y) (by omega);have j2:=zyr 4 (.inr rfl) h hr.1;have j3:=znu 4 x y;obtain⟨k1,k2,k3,k4⟩:=qjq r (zff 4 x y) (z1k h hr.1) hr.2 (by omega);rw[List.foldl_cons,zey,zcu,zbe,length_append,length_cons];exact⟨k1,by omega,by omega,by omega⟩
theorem made_ok (l:List Sm):CR (zta l)/\ zlv (zta l)<=400/\ grT (zta l)<=9/\ (pre (zta l)).length<=50:=by
 obtain⟨m,hm⟩: ∃m,l.take 25=m:=⟨_,rfl⟩;have hlen:m.length<=25:=by rw[<-hm,List.length_take];omega
 rw[zta,hm];have e:MM m 25=MM m m.length:=by rw[MM,MM,List.take_of_length_le hlen,List.take_length]
 rw[e];have o:=okM m hlen m.length (Nat.le_refl _);have v:=invM m m.length (Nat.le_refl _);obtain⟨c,p,g⟩:=o;have p400:zey (MM m m.length).1<=400:=by
  have:=Int.mul_le_mul (show(m.length:Int)<=25 by omega) v.2.2.2.2 (by omega) (by omega);omega
 match h:(MM m m.length).1 with
 |[]=>exact⟨qpg (j:=0) (by decide),by rw[qqc,qae];omega,by rw[qqc,qen];omega,by simp[qqc,z8g,pre,zbe]⟩
 | x::r=>
  rw[h] at c p400 g v;rw[zch] at c;rw[zey] at p400;rw[zcu] at g;have hv:=v.1;rw[zbe,length_append] at hv;obtain⟨k1,k2,k3,k4⟩:=qjq r x c.1 c.2 (by omega);have hr:=zaw r;rw[qqc];exact⟨k1,by omega,by omega,by omega⟩
theorem qkt {t:Tr} (h:CR t)(hl:(pre t).length<=10000):zev t=true:=by
 rw[zev,zhf,and_eq_true];exact⟨by simpa using hl,h⟩
structure MT (t:Tr):Prop where
 cr:CR t
 pos:zlv t<=400
 gr:grT t<=9
 len:(pre t).length<=50
theorem MT.clean {t:Tr} (h:MT t):zev t=true:=qkt h.cr (by have:=h.len;omega)
theorem MT.good {t:Tr} (h:MT t):znx t=true:=by rw[znx,h.clean,Bool.or_true]
theorem MT.k0 {t:Tr} (h:MT t):t.k≠0:=by have:=z0g ((zjg t).1 h.cr).1;omega
def CS (n:Nat)(t:Tr):Prop:=CR t/\ (pre t).length<=n
theorem MT.cs {t:Tr} (h:MT t):CS 50 t:=⟨h.cr,h.len⟩
theorem CR.k0 {t:Tr} (h:CR t):t.k≠0:=by have:=z0g ((zjg t).1 h).1;omega
def qjy (c:Int):List AV:=[.raw (.int .u8 c)]
theorem zyg: ∀j:Nat,j<256->zga .u8 (j:Int) 6=((j/64:Nat):Int)/\ zly .u8 (j:Int) 63=((j%64:Nat):Int)/\ IntKind.u8.wrap (j:Int)=(j:Int):=by decide+kernel
theorem z3c {n:Nat} (h:n<2^64):IntKind.u64.wrap (n:Int)=(n:Int):=by
 simp only[IntKind.wrap,IntKind.bits,IntKind.signed];simp;omega
theorem z9g (w:BitVec 64):IntKind.u64.wrap ((w.toNat:Nat):Int)=((w.toNat:Nat):Int):=z3c w.isLt
theorem z5j (x:BitVec 64):BitVec.ofInt 64 ((x.toNat:Nat):Int)=x:=by
 apply BitVec.eq_of_toNat_eq;simp
theorem orI64 (x y:BitVec 64):orI .u64 (x.toNat:Int) (y.toNat:Int)=((x|||y).toNat:Int):=by
 show IntKind.u64.wrap (((BitVec.ofInt 64 (x.toNat:Int)|||BitVec.ofInt 64 (y.toNat:Int)).toNat:Nat):Int)=_;rw[z5j,z5j];exact z9g _
theorem qgy (a b:BS)(i:Nat):orI .u64 (wd a i) (wd b i)=wd (a|||b) i:=by
 unfold wd;rw[orI64];have:W64 a i|||W64 b i=W64 (a|||b) i:=by
  apply BitVec.eq_of_getLsbD_eq;intro j hj;simp only[W64,BitVec.getLsbD_or,BitVec.getLsbD_extractLsb',hj,decide_true,Bool.true_and]
 rw[this]
theorem z9k (w:BitVec 64)(r:Nat)(hr:r<64):(zly .u64 (zga .u64 ((w.toNat:Nat):Int) (r:Int)) 1==1)=w.getLsbD r:=by
 have hw:=w.isLt;have h1:zga .u64 ((w.toNat:Nat):Int) (r:Int)=((w.toNat/2^r:Nat):Int):=by
  unfold zga;rw[show min (r:Int).toNat IntKind.u64.bits=r from by simp[IntKind.bits];omega];rw[Int.fdiv_eq_ediv_of_nonneg _ (by exact_mod_cast Nat.zero_le _)]
  norm_cast
 rw[h1];have h2:w.toNat/2^r<2^64:=Nat.lt_of_le_of_lt (Nat.div_le_self _ _) hw
 show(IntKind.u64.wrap (((BitVec.ofInt 64 ((w.toNat/2^r:Nat):Int)&&&BitVec.ofInt 64 1).toNat:Nat):Int)==1)=_
 have h3:(BitVec.ofInt 64 ((w.toNat/2^r:Nat):Int)&&&BitVec.ofInt 64 1).toNat=w.toNat/2^r%2:=by
  rw[BitVec.toNat_and];have e1:(BitVec.ofInt 64 ((w.toNat/2^r:Nat):Int)).toNat=w.toNat/2^r:=by
   rw[BitVec.ofInt_natCast,BitVec.toNat_ofNat];exact Nat.mod_eq_of_lt h2
  have e2:(BitVec.ofInt 64 1).toNat=1:=rfl;rw[e1,e2,Nat.and_one_is_mod]
 rw[h3];have h4:w.toNat/2^r%2<2:=Nat.mod_lt _ (by decide);have h5:IntKind.u64.wrap ((w.toNat/2^r%2:Nat):Int)=((w.toNat/2^r%2:Nat):Int):=z3c (Nat.lt_trans h4 (by decide));rw[h5,BitVec.getLsbD,Nat.testBit_eq_decide_div_mod_eq];generalize w.toNat/2^r%2=m
 rw[Bool.eq_iff_iff];simp only[beq_iff_eq,decide_eq_true_eq];omega
def elN (s:BS)(i:Nat):List Nat:=(List.range i).filter fun j=>s.getLsbD j
def els (s:BS):List Int:=(elN s 256).map fun(j:Nat)=>(j:Int)
theorem z0j (s:BS)(i:Nat):elN s (i+1)=elN s i++(if s.getLsbD i=true then[i] else[]):=by
 rw[elN,List.range_succ,List.filter_append];simp[elN,List.filter_cons]
theorem qdp (s:BS) {i:Nat} (h:s.getLsbD i=true): ∀k,i<k->(elN s k)[(elN s i).length]? =some i
 |0,hk=>by omega
 | k+1,hk=>by
  rw[z0j];by_cases e:i=k
  ·subst e;rw[if_pos h];simp
  ·have ih:=qdp s h k (by omega);rw[List.getElem?_append_left (List.getElem?_eq_some_iff.1 ih).1];exact ih
def z1z (t:Tr):List AV:=[.raw (.int .u8 t.k),.raw (.int .u64 (wd t.s 0)),.raw (.int .u64 (wd t.s 1)),.raw (.int .u64 (wd t.s 2)),.raw (.int .u64 (wd t.s 3)),.raw (.int .i64 t.mn),.raw (.int .i64 t.mx),.list t.l.length (cellsL t.l) .none]
theorem zuy (t:Tr):cells t=z1z t:=qlr t
instance:Enc Tr where
 inh:=noneT
 cells:=z1z
 cellsL:=cellsL
 sz:=8
 pos:=by decide
 nil:=by simp[cellsL]
 cons a l:=by rw[cellsL,zuy]
 len _:=rfl
 clo t:=by rw[<-zuy];exact z2r t
theorem enc_eq (t:Tr):enc t= .agg (Enc.cells t):=by rw[enc,zuy];rfl
theorem qbf {E:Int} (g:0<=E)(s:BS)(mn mx:Int)(l:List Tr):AV.agg (Enc.cells (Tr.mk (toNat E) s mn mx l))= .agg [.raw (.int .u8 E),.raw (.int .u64 (wd s 0)),.raw (.int .u64 (wd s 1)),.raw (.int .u64 (wd s 2)),.raw (.int .u64 (wd s 3)),.raw (.int .i64 mn),.raw (.int .i64 mx),.list l.length (cellsL l) .none]:=by
 show AV.agg (z1z _)=_;simp only[z1z,Tr.k,Tr.s,Tr.mn,Tr.mx,Tr.l,Int.toNat_of_nonneg g]
def qnh (t:Tr)(st:Room):AV:= .agg [.raw (.int .u8 t.k),.raw (.int .u64 (wd t.s 0)),.raw (.int .u64 (wd t.s 1)),.raw (.int .u64 (wd t.s 2)),.raw (.int .u64 (wd t.s 3)),.raw (.int .i64 t.mn),.raw (.int .i64 t.mx),.list t.l.length (cellsL t.l) st]
theorem z5g (t:Tr)(st:Room):zcy (qnh t st)= .agg (Enc.cells t):=by
 simp only[qnh,zcy,stripL,zjp];rfl
def qpj (s:BS):List AV:=[.raw (.int .u64 (wd s 0)),.raw (.int .u64 (wd s 1)),.raw (.int .u64 (wd s 2)),.raw (.int .u64 (wd s 3))]
instance:Enc BS where
 inh:=0#256
 cells:=qpj
 cellsL l:=l.flatMap qpj
 sz:=4
 pos:=by decide
 nil:=rfl
 cons _ _:=rfl
 len _:=rfl
 clo _:=rfl
instance:Enc Sm where
 inh:=(0,0,0)
 cells:=smc
 cellsL:=qpu
 sz:=3
 pos:=by decide
 nil:=by simp[qpu]
 cons _ _:=by simp[qpu]
 len _:=rfl
 clo _:=rfl
structure Rgx where
 b:Bool
 e:Bool
 t:Tr
def qpi (r:Rgx):List AV:= .raw (.bool r.b):: .raw (.bool r.e)::z1z r.t
instance:Enc Rgx where
 inh:=⟨false,false,noneT⟩
 cells:=qpi
 cellsL l:=l.flatMap qpi
 sz:=10
 pos:=by decide
 nil:=rfl
 cons _ _:=rfl
 len _:=rfl
 clo r:=by have:=Enc.clo r.t;exact this
def zoh (t:Tr):List AV:=[.agg (Enc.cells t)]
theorem qlb (t:Tr):t∈pre t:=by rw[zea];simp
theorem zus {α:Type} [Enc α] {l:List α} {i:Nat} (h:i<l.length):ix l (i:Int)=l[i]:=by simp[ix,h]
def qoh (k:Int)(s:BS)(mn mx:Int)(l:List Tr)(st:Room):AV:= .agg [.raw (.int .u8 k),.raw (.int .u64 (wd s 0)),.raw (.int .u64 (wd s 1)),.raw (.int .u64 (wd s 2)),.raw (.int .u64 (wd s 3)),.raw (.int .i64 mn),.raw (.int .i64 mx),.list l.length (cellsL l) st]
theorem zuu {k:Int} (g:0<=k)(s:BS)(mn mx:Int)(l:List Tr)(st:Room):zcy (qoh k s mn mx l st)= .agg (Enc.cells (Tr.mk k.toNat s mn mx l)):=by
 rw[qbf g];simp only[qoh,zcy,stripL,zjp]
abbrev DSt:=Array Bool×List AV×St
def zrs (P:Program)(Ψ:CallS)(cp:CallP)(cs:CallS)(o:Oper)(S:List AV)(U:St):Option (AV×St):=
 match zcz S o with
 | some (f,args)=>(match Ψ f args U with
  |some (r,U')=>if U'.out=U.out/\ U'.stop=U.stop then some (r,U') else none
  |none=>zxg P cp cs o S U)
 |none=>zxg P cp cs o S U
theorem zib {P:Program} {cp:CallP} {cs Ψ:CallS} (hΨ:qkb P Ψ)(hcp:qjz P cp)(hcs:qkb P cs) {o:Oper} {S:List AV} {U U':St} {a:AV} (h:zrs P Ψ cp cs o S U=some (a,U')) {K:AV->St->Prop} (hK:K a U'):zfh (ITP P) P none o S U K:=by
 unfold zrs at h;split at h
 ·rename_i f args hc;split at h
  ·rename_i r τ hr;split at h
   ·rename_i hos;cases h;unfold zfh;rw[hc];exact⟨a,U',.inl ⟨hΨ _ _ _ _ _ hr,hos⟩,hK⟩
   ·cases h
  ·exact zjs hcp hcs h hK
 ·exact zjs hcp hcs h hK
def zpc (P:Program)(Ψ:CallS)(cp:CallP)(cs:CallS)(ops:Array Oper):List Oper->List AV->St->Option (List AV×St)
 |[],S,U=>some (S,U)
 | o ::l,S,U=>match o.guard with
  | none=>match zrs P Ψ cp cs o S U with
   |some (a,U')=>zpc P Ψ cp cs ops l (zaf S o.dst a) U'
   |none=>none
  | some (k,b)=>match zdv ops S k with
   | some c=>if c=some b then(match zrs P Ψ cp cs o S U with
    |some (a,U')=>zpc P Ψ cp cs ops l (zaf S o.dst a) U'
    |none=>none) else zpc P Ψ cp cs ops l (zaf S o.dst (.raw undef)) U
   |none=>none
theorem zfx {P:Program} {cp:CallP} {cs Ψ:CallS} (hΨ:qkb P Ψ)(hcp:qjz P cp)(hcs:qkb P cs) {ops:Array Oper}: ∀(l:List Oper) (S:List AV) (U:St) (S':List AV) (U':St),zpc P Ψ cp cs ops l S U=some (S',U')->S'.length=S.length/\ ∀Q:List AV->St->Prop,Q S' U'->zca (ITP P) P none ops Q l S U
 |[],S,U,S',U',h=>by simp only[zpc,Option.some.injEq,Prod.mk.injEq] at h;obtain⟨rfl,rfl⟩:=h;exact⟨rfl,fun Q h=>h⟩
 | o ::l,S,U,S',U',h=>by
  simp only[zpc] at h;simp only[zca];cases hg:o.guard with
  | none=>
   rw[hg] at h;simp only at h⊢;split at h<;>try cases h
   rename_i a U1 hs;obtain⟨h1,h2⟩:=zfx hΨ hcp hcs l _ _ _ _ h;exact⟨by rw[h1,zbd],fun Q hQ=>zib hΨ hcp hcs hs (h2 Q hQ)⟩
  | some kb=>
   obtain⟨k,b⟩:=kb;rw[hg] at h;simp only at h⊢;split at h<;>try cases h
   rename_i c hc;split at h
   ·rename_i e;split at h<;>try cases h
    rename_i a U1 hs;obtain⟨h1,h2⟩:=zfx hΨ hcp hcs l _ _ _ _ h;exact⟨by rw[h1,zbd],fun Q hQ=>⟨c,hc,by rw[if_pos e];exact zib hΨ hcp hcs hs (h2 Q hQ)⟩⟩
   ·rename_i e;obtain⟨h1,h2⟩:=zfx hΨ hcp hcs l _ _ _ _ h;exact⟨by rw[h1,zbd],fun Q hQ=>⟨c,hc,by rw[if_neg e];exact h2 Q hQ⟩⟩
def evAt (P:Program)(Ψ:CallS)(cp:CallP)(cs:CallS)(ops:Array Oper)(x:DSt)(i:Nat):Option DSt:=
 match ops[i]? with
 |none=>some (x.1.setIfInBounds i true,x.2.1,x.2.2)
 | some o=>match o.guard with
  | none=>(match zrs P Ψ cp cs o x.2.1 x.2.2 with
   |some (a,U')=>some (x.1.setIfInBounds i true,zaf x.2.1 o.dst a,U')
   |none=>none)
  | some (j,b)=>(match zdv ops x.2.1 j with
   | some c=>if c=some b then(match zrs P Ψ cp cs o x.2.1 x.2.2 with
    |some (a,U')=>some (x.1.setIfInBounds i true,zaf x.2.1 o.dst a,U')
    |none=>none) else some (x.1.setIfInBounds i true,zaf x.2.1 o.dst (.raw undef),x.2.2)
   |none=>none)
def qon (l:List Bool):List DSt->Option DSt
 |[]=>none
 |y::L=>if y.1.toList==l then some y else qon l L
def ddup:List DSt->List DSt->Option (List DSt)
 |[],H=>some H
 | y::G,H=>match qon y.1.toList H with
  |some z=>if zom y.2.1 z.2.1&&eqSt y.2.2 z.2.2 then ddup G H else none
  |none=>ddup G (y::H)
def mapO {α β:Type} (f:α->Option β):List α->Option (List β)
 |[]=>some []
 | x::l=>match f x,mapO f l with
  |some y,some m=>some (y::m)
  |_,_=>none
theorem zzc {α β:Type} {f:α->Option β}: ∀ {l:List α} {m:List β},mapO f l=some m-> ∀x∈l,∃y∈m,f x=some y
 |[],_,_,x,hx=>nomatch hx
 | a::l,m,h,x,hx=>by
  simp only[mapO] at h;split at h<;>cases h
  rename_i y m2 h1 h2;rcases mem_cons.1 hx with rfl|hx
  ·exact⟨y,List.mem_cons_self ..,h1⟩
  ·obtain⟨z,hz,hf⟩:=zzc h2 x hx;exact⟨z,List.mem_cons_of_mem _ hz,hf⟩
def succ1 (P:Program)(Ψ:CallS)(cp:CallP)(cs:CallS)(ops:Array Oper)(x:DSt):Option (List DSt):=mapO (evAt P Ψ cp cs ops x) (Region.ready .any ops x.1)
def evD (P:Program)(Ψ:CallS)(cp:CallP)(cs:CallS)(ops:Array Oper)(r:List AV×St):Nat->List DSt->Bool
 |0,F=>F.all fun x=>(Region.ready .any ops x.1).isEmpty&&zom x.2.1 r.1&&eqSt x.2.2 r.2
 | k+1,F=>(F.all fun x=> !(Region.ready .any ops x.1).isEmpty||(zom x.2.1 r.1&&eqSt x.2.2 r.2))&&(match mapO (succ1 P Ψ cp cs ops) F with
  |none=>false
  | some G=>match ddup G.flatten [] with
   |none=>false
   |some H=>evD P Ψ cp cs ops r k H)
theorem z3j {l:List Bool}: ∀ {L:List DSt} {z:DSt},qon l L=some z->z∈L/\ z.1.toList=l
 |[],_,h=>nomatch h
 | y::L,z,h=>by
  rw[qon] at h;split at h
  ·rename_i e;cases h;exact⟨List.mem_cons_self ..,by simpa using e⟩
  ·obtain⟨h1,h2⟩:=z3j h;exact⟨List.mem_cons_of_mem _ h1,h2⟩
theorem z0d: ∀ {G H K:List DSt},ddup G H=some K->(∀y∈G,y∈K)/\ ∀y∈H,y∈K
 |[],H,K,h=>by simp only[ddup,Option.some.injEq] at h;subst h;exact⟨fun y hy=>(nomatch hy),fun y hy=>hy⟩
 | y ::G,H,K,h=>by
  rw[ddup] at h;split at h
  ·rename_i z hz;split at h
   ·rename_i e;simp only[and_eq_true] at e;obtain⟨h1,h2⟩:=z0d h;obtain⟨m1,m2⟩:=z3j hz;have:y=z:=by
     obtain⟨⟨y1⟩,y2,y3⟩:=y;obtain⟨⟨z1⟩,z2,z3⟩:=z;simp only at m2 e;rw[m2,zgo _ _ e.1,z6q e.2]
    exact⟨fun x hx=>(mem_cons.1 hx).elim (fun e=>by rw[e,this];exact h2 _ m1) (h1 x),h2⟩
   ·cases h
  ·obtain⟨h1,h2⟩:=z0d h;exact⟨fun x hx=>(mem_cons.1 hx).elim (fun e=>by rw[e];exact h2 _ (List.mem_cons_self ..)) (h1 x),fun x hx=>h2 x (List.mem_cons_of_mem _ hx)⟩
variable {P:Program} {cp:CallP} {cs Ψ:CallS}
theorem z1c (hΨ:qkb P Ψ)(hcp:qjz P cp)(hcs:qkb P cs) {ops:Array Oper} {r:List AV×St} {Q:List AV->St->Prop} (hQ:Q r.1 r.2):
 ∀(k:Nat) (F:List DSt),evD P Ψ cp cs ops r k F=true-> ∀x∈F,zpo (ITP P) P none ops Q k x.1 x.2.1 x.2.2
 | 0,F,h,x,hx=>by
  have h:=all_eq_true.1 h x hx;simp only[and_eq_true,List.isEmpty_iff] at h;refine⟨h.1.1,?_⟩;rw[zgo _ _ h.1.2,z6q h.2];exact hQ
 | k + 1,F,h,x,hx=>by
  simp only[evD,and_eq_true] at h;have h1:=all_eq_true.1 h.1 x hx;have h2:=h.2;split at h2
  ·cases h2
  rename_i G hG;split at h2
  ·cases h2
  rename_i H hH;obtain⟨d1,_⟩:=z0d hH;have ih:=z1c hΨ hcp hcs hQ k H h2;refine⟨fun he=> ?_,fun i hi=> ?_⟩
  ·rw[he] at h1;simp only[List.isEmpty_nil,Bool.not_true,Bool.false_or,and_eq_true] at h1;rw[zgo _ _ h1.1,z6q h1.2];exact hQ
  ·obtain⟨m,hm,hs⟩:=zzc hG x hx;obtain⟨y,hy,he⟩:=zzc hs i hi;have hyK:=ih y (d1 y (List.mem_flatten.2 ⟨m,hm,hy⟩));unfold evAt at he;unfold zpk;cases ho:ops[i]? with
   |none=>rw[ho] at he;cases he;exact hyK
   | some o=>
    rw[ho] at he;simp only at he⊢;cases hg:o.guard with
    | none=>
     rw[hg] at he;simp only at he⊢;split at he
     ·rename_i a U1 hs1;cases he;exact zib hΨ hcp hcs hs1 hyK
     ·cases he
    | some kb=>
     obtain⟨j,b⟩:=kb;rw[hg] at he;simp only at he⊢;split at he
     ·rename_i c hc;refine⟨c,hc,?_⟩;split at he
      ·rename_i e;rw[if_pos e];split at he
       ·rename_i a U1 hs1;cases he;exact zib hΨ hcp hcs hs1 hyK
       ·cases he
      ·rename_i e;rw[if_neg e];cases he;exact hyK
     ·cases he
def evQ (H:Bool)(P:Program)(Ω:CallP)(Ψ:CallS):Nat->Run
 |0,_,_,_,_=>none
 | k + 1,c,sz,S,U=>match c with
  | .skip=>some (.normal,S,U)
  | .seq x y=>match evQ H P Ω Ψ k x sz S U with
   |some (.normal,S1,U1)=>evQ H P Ω Ψ k y sz S1 U1
   |r=>r
  | .cond c x y=>match zby S c with
   | .raw (.bool t)=>if t=true then evQ H P Ω Ψ k x sz S U else evQ H P Ω Ψ k y sz S U
   |_=>none
  | .block id x=>match evQ H P Ω Ψ k x sz S U with
   |some (.exit j,S1,U1)=>if j=id then some (.normal,S1,U1) else some (.exit j,S1,U1)
   |r=>r
  | .exit id=>some (.exit id,S,U)
  | .label _=>some (.normal,S,U)
  | .scope x=>evQ H P Ω Ψ k x sz S U
  | .ret=>some (.ret,S,U)
  | .loop x=>match evQ H P Ω Ψ k x sz S U with
   |some (.normal,S1,U1)=>evQ H P Ω Ψ k (.loop x) sz S1 U1
   |r=>r
  | .region _ ops false=>match zpc P Ψ (zlo P Ω (evQ H P Ω Ψ k)) (zsi P Ψ (evQ H P Ω Ψ k)) ops ops.toList S U with
   |some (S1,U1)=>some (.normal,S1,U1)
   |none=>none
  | .region _ ops true=>if zvr ops.toList=true then(match(if H=true then qiq P (zlo P Ω (evQ H P Ω Ψ k)) (zsi P Ψ (evQ H P Ω Ψ k)) ops sz S U else none) with
   |some (S2,U2)=>some (.normal,S2,U2)
   | none=>match(if H=true then findB ops sz else none) with
    | some n=>(match zma P (zlo P Ω (evQ H P Ω Ψ k)) ops sz U (ops.toList.take n) S [] with
     | some (S1,ps)=>match zze P (zlo P Ω (evQ H P Ω Ψ k)) (zsi P Ψ (evQ H P Ω Ψ k)) ops (ops.toList.drop n) (zoq U.boxes.length ps S1) (znv U ps) with
      |some (S2,U2)=>some (.normal,S2,U2)
      |none=>none
     |none=>none)
    | none=>match zpc P Ψ (zlo P Ω (evQ H P Ω Ψ k)) (zsi P Ψ (evQ H P Ω Ψ k)) ops ops.toList S U with
     |some r=>if evD P Ψ (zlo P Ω (evQ H P Ω Ψ k)) (zsi P Ψ (evQ H P Ω Ψ k)) ops r ops.size [(Array.replicate ops.size false,S,U)]=true then some (.normal,r.1,r.2) else none
     |none=>none) else none
  | .rangeFunc f ps asg body=>match zby S f with
   | .iter xs=>if Nat.ble ps.size 8=true/\ (xs.all fun x=>decide (x.length=ps.size))=true/\ zco asg=true then zuw (evQ H P Ω Ψ k asg sz) (evQ H P Ω Ψ k body sz) ps S U.boxes.length xs U else none
   |_=>none
  |_=>none
theorem zub {H:Bool} {P:Program} {Ω:CallP} {Ψ:CallS} (hG:Good P Ω Ψ): ∀k,EvOk P (evQ H P Ω Ψ k)
 |0=>fun c sz S U e S' U' h=>by simp[evQ] at h
 | k + 1=>by
  have ih:=zub (H:=H) hG k;have hcp:=zuh hG ih;have hcs:=z1v hG ih;intro c sz S U e S' U' h hl;cases c with
  |skip=>simp only[evQ,Option.some.injEq,Prod.mk.injEq] at h;obtain⟨rfl,rfl,rfl⟩:=h;exact⟨hl,fun Q h j=>h⟩
  |label id=>simp only[evQ,Option.some.injEq,Prod.mk.injEq] at h;obtain⟨rfl,rfl,rfl⟩:=h;exact⟨hl,fun Q h j=>h⟩
  |scope x=>simp only[evQ] at h;obtain⟨l1,h1⟩:=ih _ _ _ _ _ _ _ h hl;exact⟨l1,fun Q hQ j=>show awp (ITP P) P none j x Q S U from zdk (h1 Q hQ)⟩
  |exit id=>simp only[evQ,Option.some.injEq,Prod.mk.injEq] at h;obtain⟨rfl,rfl,rfl⟩:=h;exact⟨hl,fun Q h j=>h⟩
  |ret=>simp only[evQ,Option.some.injEq,Prod.mk.injEq] at h;obtain⟨rfl,rfl,rfl⟩:=h;exact⟨hl,fun Q h j=>h⟩
  | seq x y=>
   simp only[evQ] at h;split at h
   ·rename_i S1 U1 hx;obtain⟨l1,h1⟩:=ih _ _ _ _ _ _ _ hx hl;obtain⟨l2,h2⟩:=ih _ _ _ _ _ _ _ h l1;exact⟨l2,fun Q hQ j=>show awp (ITP P) P none j x (zue _ Q) S U \/_ from .inl (zdk (h1 _ ⟨S1,U1,Wk.refl _ _ _,zdk (h2 Q hQ)⟩))⟩
   ·rename_i hne;obtain⟨l1,h1⟩:=ih _ _ _ _ _ _ _ h hl;refine⟨l1,fun Q hQ j=>show awp (ITP P) P none j x (zue _ Q) S U \/_ from .inl (zdk (h1 _ ?_))⟩;cases e with
    |normal=>exact absurd h (hne S' U')
    |exit id=>exact hQ
    |ret=>exact hQ
  | cond c x y=>
   simp only[evQ] at h;split at h<;>try cases h
   rename_i t ht;cases t with
   |true=>obtain⟨l1,h1⟩:=ih _ _ _ _ _ _ _ h hl;exact⟨l1,fun Q hQ j=>⟨true,ht,zdk (h1 Q hQ)⟩⟩
   |false=>obtain⟨l1,h1⟩:=ih _ _ _ _ _ _ _ h hl;exact⟨l1,fun Q hQ j=>⟨false,ht,zdk (h1 Q hQ)⟩⟩
  | block id x=>
   simp only[evQ] at h;split at h
   ·rename_i j S1 U1 hx;obtain⟨l1,h1⟩:=ih _ _ _ _ _ _ _ hx hl;split at h
    ·rename_i hj;simp only[Option.some.injEq,Prod.mk.injEq] at h;obtain⟨rfl,rfl,rfl⟩:=h;exact⟨l1,fun Q hQ j=>show awp (ITP P) P none j x (zjy U.lens.length j id Q) S U \/_ from .inl (zdk (h1 _ (by simp only[zjy];rw[if_pos hj];exact .inl hQ)))⟩
    ·rename_i hj;simp only[Option.some.injEq,Prod.mk.injEq] at h;obtain⟨rfl,rfl,rfl⟩:=h;exact⟨l1,fun Q hQ j=>show awp (ITP P) P none j x (zjy U.lens.length j id Q) S U \/_ from .inl (zdk (h1 _ (by simp only[zjy];rw[if_neg hj];exact hQ)))⟩
   ·rename_i hne;obtain⟨l1,h1⟩:=ih _ _ _ _ _ _ _ h hl;refine⟨l1,fun Q hQ j=>show awp (ITP P) P none j x (zjy U.lens.length j id Q) S U \/_ from .inl (zdk (h1 _ ?_))⟩;cases e with
    |normal=>exact .inl hQ
    |exit j=>exact absurd h (hne j S' U')
    |ret=>exact hQ
  | loop x=>
   simp only[evQ] at h;split at h
   ·rename_i S1 U1 hx;obtain⟨l1,h1⟩:=ih _ _ _ _ _ _ _ hx hl;obtain⟨l2,h2⟩:=ih _ _ _ _ _ _ _ h l1;refine⟨l2,fun Q hQ j=> ?_⟩;obtain⟨m,hm⟩:=h2 Q hQ j;exact⟨m+1,S,U,Wk.refl _ _ _,zdk (k:=j) (h1 _ hm)⟩
   ·rename_i hne;obtain⟨l1,h1⟩:=ih _ _ _ _ _ _ _ h hl;refine⟨l1,fun Q hQ j=>⟨1,S,U,Wk.refl _ _ _,zdk (k:=j) (h1 _ ?_)⟩⟩;cases e with
    |normal=>exact absurd h (hne S' U')
    |exit id=>exact hQ
    |ret=>exact hQ
  | region id ops draw=>
   cases draw with
   | false=>
    simp only[evQ] at h;split at h<;>try cases h
    rename_i ho;obtain⟨l1,h1⟩:=zfx hG.oracleS hcp hcs _ _ _ _ _ ho;exact⟨l1.trans hl,fun Q hQ j=>h1 _ hQ⟩
   | true=>
    simp only[evQ] at h;split at h
    rotate_left
    ·cases h
    rename_i hnd;split at h
    ·rename_i S2 U2 hd;cases h;split at hd
     rotate_left
     ·cases hd
     obtain⟨n,hc,S1,hh,ho⟩:=z2k hd;obtain⟨l1,h1⟩:=zji hcp _ _ _ hh hl;obtain⟨l2,h2⟩:=ziu hcp hcs _ _ _ _ _ ho;exact⟨l2.trans l1,fun Q hQ j=> .inr (.inl (qpp n (by rw[hl];exact hc) hnd (h1 _ (h2 _ hQ))))⟩
    ·split at h
     ·rename_i n hn;split at hn
      rotate_left
      ·cases hn
      split at h<;>try cases h
      rename_i S1 ps hh;split at h<;>try cases h
      rename_i ho;obtain⟨l1,h1⟩:=zgl hcp _ _ _ _ _ hh hl;obtain⟨l2,h2⟩:=ziu hcp hcs _ _ _ _ _ ho;exact⟨l2.trans ((zry _ _ _).trans l1),fun Q hQ j=> .inr (.inl ⟨n,by rw[hl];exact qkv hn,hnd,h1 _ (h2 _ hQ)⟩)⟩
     ·split at h
      rotate_left
      ·cases h
      rename_i r ho;split at h
      rotate_left
      ·cases h
      rename_i ha;cases h;obtain⟨l2,h2⟩:=zfx hG.oracleS hcp hcs _ _ _ r.1 r.2 ho;exact⟨l2.trans hl,fun Q hQ j=> .inr (.inr (.inl (z1c hG.oracleS hcp hcs hQ _ _ ha _ (List.mem_cons_self ..))))⟩
  | rangeFunc f ps asg body=>
   simp only[evQ] at h;split at h<;>try(cases h;done)
   rename_i xs hf;split at h
   rotate_left
   ·cases h
   rename_i hc;obtain⟨h1,h2⟩:=zpt (P:=P) (asg:=asg) (body:=body) (S0:=S) (fun S1 U1 e1 S1' U1' hl1 h1=>by obtain⟨k1,k2⟩:=ih _ _ _ _ _ _ _ h1 (hl1.trans hl);exact⟨k1.trans hl.symm,fun k Q hQ=>zdk (k2 Q hQ)⟩) (fun S1 U1 e1 S1' U1' hl1 h1 k Q hQ=>zdk ((ih _ _ _ _ _ _ _ h1 (hl1.trans hl)).2 Q hQ)) xs U e S' U' h;exact⟨by rw[h1];exact hl,fun Q hQ j=> .inl ⟨xs,hf,hc.1,hc.2.1,hc.2.2,h2 Q hQ⟩⟩
  |_=>simp[evQ] at h
theorem zde (H:Bool) {P:Program} {Ω:CallP} {Ψ:CallS} (hG:Good P Ω Ψ)(k:Nat) {f:FuncId} {args:List AV} {r:AV} (h:zlo P Ω (evQ H P Ω Ψ k) f args=some r):Pure (ITP P) P f args r:=zuh hG (zub (H:=H) hG k) f args r h
end Go.Ab
namespace Go.Proofs
open Go.Shelf
def Tryz.lays162_ren:Go.Shelf.Ren:=⟨fun|162=>61|232=>93|227=>94|234=>95|236=>96|228=>126|271=>127|151=>128|120=>155|197=>156|152=>157|260=>160|137=>130|119=>161|224=>162|225=>163|217=>158|266=>164|n=>n,fun|9=>9|4=>4|3=>3|5=>5|117=>140|116=>139|0=>0|124=>143|21=>21|105=>172|46=>96|119=>196|139=>199|138=>198|n=>n,fun|3=>1|4=>2|n=>n⟩
theorem Tryz.lays162:Go.Proofs.Lays.n162 prog Tryz.lays162_ren:={
 mixed:=by kernel_rfl
 f119:=Tryz.func161.trans (congrArg some (by kernel_rfl))
 f120:=Tryz.func155.trans (congrArg some (by kernel_rfl))
 f137:=Tryz.func130.trans (congrArg some (by kernel_rfl))
 f151:=Tryz.func128.trans (congrArg some (by kernel_rfl))
 f152:=Tryz.func157.trans (congrArg some (by kernel_rfl))
 f162:=Tryz.func61.trans (congrArg some (by kernel_rfl))
 f197:=Tryz.func156.trans (congrArg some (by kernel_rfl))
 f217:=Tryz.func158.trans (congrArg some (by kernel_rfl))
 f224:=Tryz.func162.trans (congrArg some (by kernel_rfl))
 f225:=Tryz.func163.trans (congrArg some (by kernel_rfl))
 f227:=Tryz.func94.trans (congrArg some (by kernel_rfl))
 f228:=Tryz.func126.trans (congrArg some (by kernel_rfl))
 f232:=Tryz.func93.trans (congrArg some (by kernel_rfl))
 f234:=Tryz.func95.trans (congrArg some (by kernel_rfl))
 f236:=Tryz.func96.trans (congrArg some (by kernel_rfl))
 f260:=Tryz.func160.trans (congrArg some (by kernel_rfl))
 f266:=Tryz.func164.trans (congrArg some (by kernel_rfl))
 f271:=Tryz.func127.trans (congrArg some (by kernel_rfl))
 t0:=Tryz.underlying0
 a0:=Tryz.isAgg0
 z0:=Tryz.sizeOf0
 v0:=Tryz.zeroValue0
 t3:=Tryz.underlying3
 a3:=Tryz.isAgg3
 z3:=Tryz.sizeOf3
 v3:=Tryz.zeroValue3
 t4:=Tryz.underlying4
 a4:=Tryz.isAgg4
 z4:=Tryz.sizeOf4
 v4:=Tryz.zeroValue4
 t5:=Tryz.underlying5
 a5:=Tryz.isAgg5
 z5:=Tryz.sizeOf5
 v5:=Tryz.zeroValue5
 t9:=Tryz.underlying9
 a9:=Tryz.isAgg9
 z9:=Tryz.sizeOf9
 v9:=Tryz.zeroValue9
 t21:=Tryz.underlying21
 a21:=Tryz.isAgg21
 z21:=Tryz.sizeOf21
 v21:=Tryz.zeroValue21
 t46:=Tryz.underlying96
 a46:=Tryz.isAgg96
 z46:=Tryz.sizeOf96
 v46:=Tryz.zeroValue96
 t105:=Tryz.underlying172
 a105:=Tryz.isAgg172
 z105:=Tryz.sizeOf172
 v105:=Tryz.zeroValue172
 t116:=Tryz.underlying139
 a116:=Tryz.isAgg139
 z116:=Tryz.sizeOf139
 t117:=Tryz.underlying140
 a117:=Tryz.isAgg140
 z117:=Tryz.sizeOf140
 v117:=Tryz.zeroValue140
 t119:=Tryz.underlying196
 a119:=Tryz.isAgg196
 z119:=Tryz.sizeOf196
 t124:=Tryz.underlying143
 a124:=Tryz.isAgg143
 z124:=Tryz.sizeOf143
 v124:=Tryz.zeroValue143
 t138:=Tryz.underlying198
 a138:=Tryz.isAgg198
 z138:=Tryz.sizeOf198
 v138:=Tryz.zeroValue198
 t139:=Tryz.underlying199
 a139:=Tryz.isAgg199
 z139:=Tryz.sizeOf199
 v139:=Tryz.zeroValue199
 g3:=by kernel_rfl
 g4:=by kernel_rfl}
open Go.RowKit in
theorem Tryz.strings_TrimRight_one (s:ByteArray)(c:UInt8)(hc:c.toNat<128)(w:World)(hs:s.size<=9223372036854775807):
 Calls prog 61 #[.string s,.string ⟨#[c]⟩] w fun e w'=>e= .returned (.string ⟨(Lib.trimRightB s.data.toList c).toArray⟩)/\ w'=w:=Any.strings_TrimRight_one Tryz.lays162 s c hc w hs
def Tryz.lays137_ren:Go.Shelf.Ren:=⟨fun|137=>130|217=>158|266=>164|n=>n,fun|9=>9|5=>5|3=>3|n=>n,fun|n=>n⟩
theorem Tryz.lays137:Go.Proofs.Lays.n137 prog Tryz.lays137_ren:={
 mixed:=by kernel_rfl
 f137:=Tryz.func130.trans (congrArg some (by kernel_rfl))
 f217:=Tryz.func158.trans (congrArg some (by kernel_rfl))
 f266:=Tryz.func164.trans (congrArg some (by kernel_rfl))
 t3:=Tryz.underlying3
 a3:=Tryz.isAgg3
 z3:=Tryz.sizeOf3
 v3:=Tryz.zeroValue3
 t5:=Tryz.underlying5
 a5:=Tryz.isAgg5
 z5:=Tryz.sizeOf5
 v5:=Tryz.zeroValue5
 t9:=Tryz.underlying9
 a9:=Tryz.isAgg9
 z9:=Tryz.sizeOf9
 v9:=Tryz.zeroValue9}
open Go.RowKit in
theorem Tryz.strings_IndexByte (s:ByteArray)(c:Int)(w:World):
 Calls prog 130 #[.string s,.int .u8 c] w fun e w'=>e= .returned (.int .i64 (Lib.indexByte s.data.toList c.toNat.toUInt8))/\ w'=w:=Any.strings_IndexByte Tryz.lays137 s c w
def Tryz.lays103_ren:Go.Shelf.Ren:=⟨fun|103=>32|210=>59|206=>91|n=>n,fun|9=>9|4=>4|24=>64|3=>3|n=>n,fun|n=>n⟩
theorem Tryz.lays103:Go.Proofs.Lays.n103 prog Tryz.lays103_ren:={
 mixed:=by kernel_rfl
 f103:=Tryz.func32.trans (congrArg some (by kernel_rfl))
 f206:=Tryz.func91.trans (congrArg some (by kernel_rfl))
 f210:=Tryz.func59.trans (congrArg some (by kernel_rfl))
 t3:=Tryz.underlying3
 a3:=Tryz.isAgg3
 z3:=Tryz.sizeOf3
 v3:=Tryz.zeroValue3
 t4:=Tryz.underlying4
 a4:=Tryz.isAgg4
 z4:=Tryz.sizeOf4
 v4:=Tryz.zeroValue4
 t9:=Tryz.underlying9
 a9:=Tryz.isAgg9
 z9:=Tryz.sizeOf9
 v9:=Tryz.zeroValue9
 t24:=Tryz.underlying64
 a24:=Tryz.isAgg64
 z24:=Tryz.sizeOf64
 v24:=Tryz.zeroValue64}
open Go.RowKit in
theorem Tryz.strings_CutPrefix (s p:ByteArray)(w:World):
 Calls prog 32 #[.string s,.string p] w fun e w'=>e= .returned (.tuple #[.string ⟨(Lib.trimPrefix s.data.toList p.data.toList).toArray⟩,.bool (Lib.hasPrefix s.data.toList p.data.toList)])/\ w'=w:=Any.strings_CutPrefix Tryz.lays103 s p w
def Tryz.lays104_ren:Go.Shelf.Ren:=⟨fun|104=>60|211=>92|207=>125|n=>n,fun|9=>9|4=>4|24=>64|3=>3|n=>n,fun|n=>n⟩
theorem Tryz.lays104:Go.Proofs.Lays.n104 prog Tryz.lays104_ren:={
 mixed:=by kernel_rfl
 f104:=Tryz.func60.trans (congrArg some (by kernel_rfl))
 f207:=Tryz.func125.trans (congrArg some (by kernel_rfl))
 f211:=Tryz.func92.trans (congrArg some (by kernel_rfl))
 t3:=Tryz.underlying3
 a3:=Tryz.isAgg3
 z3:=Tryz.sizeOf3
 v3:=Tryz.zeroValue3
 t4:=Tryz.underlying4
 a4:=Tryz.isAgg4
 z4:=Tryz.sizeOf4
 v4:=Tryz.zeroValue4
 t9:=Tryz.underlying9
 a9:=Tryz.isAgg9
 z9:=Tryz.sizeOf9
 v9:=Tryz.zeroValue9
 t24:=Tryz.underlying64
 a24:=Tryz.isAgg64
 z24:=Tryz.sizeOf64
 v24:=Tryz.zeroValue64}
open Go.RowKit in
theorem Tryz.strings_CutSuffix (s p:ByteArray)(w:World)(hs:s.size<=9223372036854775807):
 Calls prog 60 #[.string s,.string p] w fun e w'=>e= .returned (.tuple #[.string ⟨(Lib.trimSuffix s.data.toList p.data.toList).toArray⟩,.bool (Lib.hasSuffix s.data.toList p.data.toList)])/\ w'=w:=Any.strings_CutSuffix Tryz.lays104 s p w hs
def Tryz.lays99_ren:Go.Shelf.Ren:=⟨fun|99=>73|206=>91|n=>n,fun|9=>9|4=>4|3=>3|n=>n,fun|n=>n⟩
theorem Tryz.lays99:Go.Proofs.Lays.n99 prog Tryz.lays99_ren:={
 mixed:=by kernel_rfl
 f99:=Tryz.func73.trans (congrArg some (by kernel_rfl))
 f206:=Tryz.func91.trans (congrArg some (by kernel_rfl))
 t3:=Tryz.underlying3
 a3:=Tryz.isAgg3
 z3:=Tryz.sizeOf3
 v3:=Tryz.zeroValue3
 t4:=Tryz.underlying4
 a4:=Tryz.isAgg4
 z4:=Tryz.sizeOf4
 v4:=Tryz.zeroValue4
 t9:=Tryz.underlying9
 a9:=Tryz.isAgg9
 z9:=Tryz.sizeOf9
 v9:=Tryz.zeroValue9}
open Go.RowKit Go.Lib in
theorem Tryz.strings_HasPrefix (s p:ByteArray)(w:World):
 Calls prog 73 #[.string s,.string p] w fun e w'=>e= .returned (.bool (Lib.hasPrefix s.data.toList p.data.toList))/\ w'=w:=Any.strings_HasPrefix Tryz.lays99 s p w
end Go.Proofs
namespace Go.Ab
open Go Go.RowKit Go.Fwd Go.Proofs
variable {ρ:Operand->AV} {o:Oper} {y:Operand}
theorem mix:prog.follows .mixedOrders=true:=by kernel_rfl
theorem ents (f:Nat)(fn:Func)(hf:prog.funcs[f]? =some fn)(hb:fn.body.isSome=true):Ent prog f:=by
 obtain⟨c,hc⟩:=Option.isSome_iff_exists.1 hb;have hall:(prog.funcs.toList.all fun fn=> !(fn.name== "runtime.NumGoroutine"))=true:=by kernel_rfl
 have:=all_eq_true.1 hall fn (Array.mem_toList_iff.2 (Array.mem_of_getElem? hf));exact enters_of hf (by simpa using this) hc
def noP:CallP:=fun _ _=>none
def noS:CallS:=fun _ _ _=>none
theorem goodN:Good prog noP noS:=⟨mix,ents,(fun _ _ _ h=>nomatch h),(fun _ _ _ _ _ h=>nomatch h)⟩
theorem undS:prog.underlying 26=some (.array 4 24):=by kernel_rfl
theorem undW:prog.underlying 24=some (.int .u64):=by kernel_rfl
theorem sizeW (w:World):(sizeOf 24).run prog w= .ok 1 w:=by kernel_rfl
theorem aggW (w:World):(isAgg 24).run prog w= .ok false w:=by kernel_rfl
theorem eqInS' (d:Nat)(a0 a1 a2 a3 b0 b1 b2 b3:Int)(w:World):(Op.equalIn (d+1+1) 26 (.agg #[.int .u64 a0,.int .u64 a1,.int .u64 a2,.int .u64 a3]) (.agg #[.int .u64 b0,.int .u64 b1,.int .u64 b2,.int .u64 b3])).run prog w=
 .ok (a0==b0&&a1==b1&&a2==b2&&a3==b3) w:=by
 rw[Op.equalIn];simp only[Sem.run_bind,run_underlying undS,Result.andThen_ok,sizeW];have hq: ∀(a b:Int) (w:World),(Op.equalIn (d+1) 24 (.int .u64 a) (.int .u64 b)).run prog w= .ok (a==b) w:=fun a b w=>run_equalIn_int w d 24 .u64 .u64 a b undW;have hr:List.range' 0 4=[0,1,2,3]:=rfl;simp[part,hr,aggW,Sem.run_bind,hq,Result.andThen];by_cases h0:a0=b0<;>by_cases h1:a1=b1<;>by_cases h2:a2=b2<;>by_cases h3:a3=b3<;>simp[h0,h1,h2,h3,hq,Result.andThen]
theorem eqInS (a0 a1 a2 a3 b0 b1 b2 b3:Int)(w:World):(Op.equalIn 10000 26 (.agg #[.int .u64 a0,.int .u64 a1,.int .u64 a2,.int .u64 a3]) (.agg #[.int .u64 b0,.int .u64 b1,.int .u64 b2,.int .u64 b3])).run prog w=
 .ok (a0==b0&&a1==b1&&a2==b2&&a3==b3) w:=eqInS' 9998 _ _ _ _ _ _ _ _ w
theorem qqn:prog.eqGuardType prog.depth 26=false:=by kernel_rfl
theorem qgj {x:Operand} {c} (s t:BS)(ho:o.op= .binOp .eql 26 x y c)(hx:ρ x=qkd s)(hy:ρ y=qkd t):zpr prog ρ o (.raw (.bool (decide (s=t)))):=by
 refine⟨?_,by rw[ho];intros;simp,by rw[ho];intros;simp,.bool (decide (s=t)),fun w=> ?_,rfl,rfl⟩
 ·rw[ho];simp[Op.operands,hx,hy,qkd,zdq,zeb,zkv]
 ·have h1:zbw ρ x= .agg #[.int .u64 (wd s 0),.int .u64 (wd s 1),.int .u64 (wd s 2),.int .u64 (wd s 3)]:=by simp[zbw,hx,qkd,zdq,zeb,zkv]
  have h2:zbw ρ y= .agg #[.int .u64 (wd t 0),.int .u64 (wd t 1),.int .u64 (wd t 2),.int .u64 (wd t 3)]:=by simp[zbw,hy,qkd,zdq,zeb,zkv]
  have h3:=eqInS (wd s 0) (wd s 1) (wd s 2) (wd s 3) (wd t 0) (wd t 1) (wd t 2) (wd t 3) w;rw[qfv] at h3;simp[execOp,ho,h1,h2,eqGuard,binOp,Op.equal,Op.maxDepth,program,Sem.run,qqn,h3]
theorem qan {x:Operand} {c} (s t:BS)(ho:o.op= .binOp .neq 26 x y c)(hx:ρ x=qkd s)(hy:ρ y=qkd t):zpr prog ρ o (.raw (.bool (decide (s≠t)))):=by
 refine⟨?_,by rw[ho];intros;simp,by rw[ho];intros;simp,.bool (decide (s≠t)),fun w=> ?_,rfl,rfl⟩
 ·rw[ho];simp[Op.operands,hx,hy,qkd,zdq,zeb,zkv]
 ·have h1:zbw ρ x= .agg #[.int .u64 (wd s 0),.int .u64 (wd s 1),.int .u64 (wd s 2),.int .u64 (wd s 3)]:=by simp[zbw,hx,qkd,zdq,zeb,zkv]
  have h2:zbw ρ y= .agg #[.int .u64 (wd t 0),.int .u64 (wd t 1),.int .u64 (wd t 2),.int .u64 (wd t 3)]:=by simp[zbw,hy,qkd,zdq,zeb,zkv]
  have h3:=eqInS (wd s 0) (wd s 1) (wd s 2) (wd s 3) (wd t 0) (wd t 1) (wd t 2) (wd t 3) w;rw[qfv] at h3;simp[execOp,ho,h1,h2,eqGuard,binOp,Op.equal,Op.maxDepth,program,Sem.run,qqn,h3]
theorem zyl {x:Operand} {c} (s t:BS)(ho:o.op= .binOp .eql 26 x y c)(hx:ρ x= .agg (Enc.cells s))(hy:ρ y= .agg (Enc.cells t)):zpr prog ρ o (.raw (.bool (decide (s=t)))):=qgj s t ho hx hy
theorem z2g {x:Operand} {c} (s t:BS)(ho:o.op= .binOp .neq 26 x y c)(hx:ρ x= .agg (Enc.cells s))(hy:ρ y= .agg (Enc.cells t)):zpr prog ρ o (.raw (.bool (decide (s≠t)))):=qan s t ho hx hy
theorem or_run (a b:BS):Pure (ITP prog) prog 77 [.agg (Enc.cells a),.agg (Enc.cells b)] (.agg [.raw (.int .u64 (orI .u64 (wd a 0) (wd b 0))),.raw (.int .u64 (orI .u64 (wd a 1) (wd b 1))),.raw (.int .u64 (orI .u64 (wd a 2) (wd b 2))),.raw (.int .u64 (orI .u64 (wd a 3) (wd b 3)))]):=zde true goodN 100 (by kernel_rfl)
theorem qmg (a b:BS):Pure (ITP prog) prog 77 [.agg (Enc.cells a),.agg (Enc.cells b)] (.agg (Enc.cells (a|||b))):=by
 have:=or_run a b;simp only[qgy] at this;exact this
end Go.Ab
namespace Go.Ab
open Go Go.RowKit Go.Fwd
def z6j (n:Nat)(i j:Int)(st:Room):Room:=if i.toNat=0/\ j.toNat=n then st else if j.toNat=n/\ st= .full then .full else .none
theorem qmh {α:Type} (l:List α) {i j:Int} (g:0<=i/\ i<=j/\ j<=(l.length:Int)):(sub l i j).length=j.toNat-i.toNat:=by
 simp only[sub,List.length_take,List.length_drop];omega
theorem qir {α:Type} [Enc α] (l:List α) {i j:Int} (g:0<=i/\ i<=j/\ j<=(l.length:Int)):((Enc.cellsL l).drop (i.toNat*Enc.sz α)).take ((j.toNat-i.toNat)*Enc.sz α)=Enc.cellsL (sub l i j):=by
 rw[Enc.drop,Enc.take];rfl
section
variable {P:Program} {ρ:Operand->AV} {U:St} {o:Oper}
theorem qjj {α:Type} [Enc α] (l:List α)(n:Nat)(st:Room):zcy (.list n (Enc.cellsL l) st)= .list n (Enc.cellsL l) .none:=by
 rw[zcy,Enc.stripL]
theorem q_sub_H {α:Type} [Enc α] {l:List α} {x y:Operand} {t e:TypeId} {st:Room} {j:Int} (g:0<=0/\ 0<=j/\ j<=(l.length:Int))(ho:o.op= .slice t x none (some y) none)(hx:ρ x= .list l.length (Enc.cellsL l) st)(hy:ρ y= .raw (.int .i64 j))(hu:P.underlying t=some (.slice e))(hs:zcl P e=some (Enc.sz α)):
 qop P ρ U o=some (.list (sub l 0 j).length (Enc.cellsL (sub l 0 j)) (z6j l.length 0 j st)):=by
 have hg:(0:Int)<=0/\ 0<=j/\ j<=(l.length:Int):=⟨Int.le_refl 0,g.2⟩;have h1:zlm P t (ρ x) none (some (ρ y)) none=some (.list (sub l 0 j).length (Enc.cellsL (sub l 0 j)) (z6j l.length 0 j st)):=by
  have hj:=g.2;rw[qmh l hg, <-qir l hg,hx,hy];simp[zlm,hu,hs,zek,zim,Enc.lenL,z6j,hj]
 simp only[qop,ho,Option.map,h1]
theorem zju {x:Operand} {s t:TypeId} {k:IntKind} {n:Int} (g: -9223372036854775808<=n/\ n<9223372036854775808)(ho:o.op= .convert s t x)(hx:ρ x= .raw (.int k n))(hs:val? P (Next.value<$>convert s t (.int k n))=some (.value (.int .i64 (IntKind.i64.wrap n)))):qop P ρ U o=some (.raw (.int .i64 n)):=by
 have h:=zqe g.1 g.2;rw[h] at hs;simp[qop,zfz,ho,Op.operands,hx,zdq,execOp,zbw,hs,zqr];exact⟨rfl,rfl⟩
end
section
variable {P:Program} {ρ:Operand->AV} {U:St} {o:Oper}
end
end Go.Ab
namespace Go.Ab
open Go Go.RowKit Go.Fwd Go.Proofs
structure Bd where
 lo:Int
 mo:Int
 deriving DecidableEq
def qhe (e:Bd):List AV:=[.raw (.int .i64 e.lo),.raw (.int .i64 e.mo)]
instance:Enc Bd where
 inh:=⟨0,0⟩
 cells:=qhe
 cellsL l:=l.flatMap qhe
 sz:=2
 pos:=by decide
 nil:=rfl
 cons _ _:=rfl
 len _:=rfl
 clo _:=rfl
theorem z0b {ρ:Operand->AV} {U:St} {o:Oper} {x:Operand} {b:Nat} {t:TypeId} {i:Int} (s:BS)(hi:0<=i/\ i<4)(ho:o.op= .load 24 x)(hx:ρ x= .ptr b (0+i.toNat*1))(hb:U.boxes[b]? =some (t,Enc.cells s)):qop prog ρ U o=some (.raw (.int .u64 (wd s i.toNat))):=by
 have key: ∀j:Nat,j<4->rd prog 24 ((Enc.cells s).drop (0+j*1))=some (.raw (.int .u64 (wd s j))):=by
  intro j hj
  match j,hj with
  |0,_=>rfl
  |1,_=>rfl
  |2,_=>rfl
  |3,_=>rfl
 simp only[qop,ho,zlu,hx,hb];exact key i.toNat (by omega)
variable {P:Program}
theorem zmk {f:FuncId} {args:List AV} {r:AV} (vs:List Value)(he:Ent P f)(ha: ∀X us,zbh (ITP P) X args us->us=vs)
 (h: ∀X,Inv (ITP P) St.empty X->Calls P f vs.toArray X.w fun e w'=> ∃u,e= .returned u/\ w'=X.w/\ ∀Y,Rep (ITP P) Y r u):Pure (ITP P) P f args r:=by
 refine⟨he,fun X us hI hr=> ?_⟩;rw[ha X us hr];refine(h X hI).mono ?_;rintro e w' ⟨u,rfl,rfl,hu⟩;exact⟨u,X,rfl,rfl,Ext.refl X,hI,hu _⟩
theorem qfr {X:Cx} {u v:Value} {us:List Value} (h:zbh (ITP P) X [.raw u,.raw v] us):us=[u,v]:=by
 obtain⟨a,l,rfl,ha,b,l',rfl,hb,hl⟩:=h;have ha:a=u:=ha;have hb:b=v:=hb;have hl:l'=[]:=hl;rw[ha,hb,hl]
theorem ent130:Ent prog 130:=enters_of Tryz.func130 (by kernel_rfl) rfl
theorem ent73:Ent prog 73:=enters_of Tryz.func73 (by kernel_rfl) rfl
theorem ent32:Ent prog 32:=enters_of Tryz.func32 (by kernel_rfl) rfl
theorem ent60:Ent prog 60:=enters_of Tryz.func60 (by kernel_rfl) rfl
theorem ent61:Ent prog 61:=enters_of Tryz.func61 (by kernel_rfl) rfl
theorem z9w (l:List UInt8)(c:UInt8):Pure (ITP prog) prog 130 [.raw (.string (bs l)),.raw (.int .u8 ((c.toNat:Nat):Int))] (.raw (.int .i64 (Lib.indexByte l c))):=by
 have h:Pure (ITP prog) prog 130 [.raw (.string (bs l)),.raw (.int .u8 ((c.toNat:Nat):Int))] (.raw (.int .i64 (Lib.indexByte l ((c.toNat:Nat):Int).toNat.toUInt8))):=
  zmk [.string (bs l),.int .u8 _] ent130 (fun X us h=>qfr h) fun X hI=>(Tryz.strings_IndexByte (bs l) _ X.w).mono fun e w' ⟨h1,h2⟩=>⟨_,h1,h2,fun Y=>rfl⟩
 rwa[show((c.toNat:Nat):Int).toNat.toUInt8=c by simp] at h
def zwk (e:Int):UInt8:=UInt8.ofNat e.toNat
theorem u8c {e:Int} (g:0<=e/\ e<256):((zwk e).toNat:Int)=e:=by
 unfold zwk;have h:e.toNat<256:=by omega
 rw[show(UInt8.ofNat e.toNat).toNat=e.toNat by simp;omega];omega
theorem z2e (l:List UInt8) {e:Int} (h:0<=e/\ e<256):Pure (ITP prog) prog 130 [.raw (.string (bs l)),.raw (.int .u8 e)] (.raw (.int .i64 (Lib.indexByte l (zwk e)))):=by
 have:=z9w l (zwk e);rwa[u8c h] at this
theorem zug (l p:List UInt8):Pure (ITP prog) prog 73 [.raw (.string (bs l)),.raw (.string (bs p))] (.raw (.bool (Lib.hasPrefix l p))):=
 zmk [.string (bs l),.string (bs p)] ent73 (fun X us h=>qfr h) fun X hI=>(Tryz.strings_HasPrefix (bs l) (bs p) X.w).mono fun e w' ⟨h1,h2⟩=>⟨_,h1,h2,fun Y=>rfl⟩
theorem qft (l p:List UInt8):Pure (ITP prog) prog 32 [.raw (.string (bs l)),.raw (.string (bs p))] (.tup [.raw (.string (bs (Lib.trimPrefix l p,Lib.hasPrefix l p).1)),.raw (.bool (Lib.trimPrefix l p,Lib.hasPrefix l p).2)]):=
 zmk [.string (bs l),.string (bs p)] ent32 (fun X us h=>qfr h) fun X hI=>(Tryz.strings_CutPrefix (bs l) (bs p) X.w).mono fun e w' ⟨h1,h2⟩=>⟨_,h1,h2,fun Y=>⟨_,rfl,_,_,rfl,rfl,_,_,rfl,rfl,rfl⟩⟩
theorem qes (l p:List UInt8)(h:l.length<=9223372036854775807):Pure (ITP prog) prog 60 [.raw (.string (bs l)),.raw (.string (bs p))] (.tup [.raw (.string (bs (Lib.trimSuffix l p,Lib.hasSuffix l p).1)),.raw (.bool (Lib.trimSuffix l p,Lib.hasSuffix l p).2)]):=
 zmk [.string (bs l),.string (bs p)] ent60 (fun X us h=>qfr h) fun X hI=>(Tryz.strings_CutSuffix (bs l) (bs p) X.w h).mono fun e w' ⟨h1,h2⟩=>⟨_,h1,h2,fun Y=>⟨_,rfl,_,_,rfl,rfl,_,_,rfl,rfl,rfl⟩⟩
theorem qbm (l:List UInt8)(c:UInt8)(hc:c.toNat<128)(h:l.length<=9223372036854775807):Pure (ITP prog) prog 61 [.raw (.string (bs l)),.raw (.string (bs [c]))] (.raw (.string (bs (Lib.trimRightB l c)))):=
 zmk [.string (bs l),.string (bs [c])] ent61 (fun X us h=>qfr h) fun X hI=>(Tryz.strings_TrimRight_one (bs l) c hc X.w h).mono fun e w' ⟨h1,h2⟩=>⟨_,h1,h2,fun Y=>rfl⟩
end Go.Ab
namespace Go.Ab
open Go Go.RowKit Go.Fwd
end Go.Ab
namespace Go.Ab
open Go Go.RowKit Go.Fwd Go.Proofs
variable {y:Code} {Q:AQ} {S:List AV} {U:St}
structure InsLaw (P:Program)(f:FuncId)(S e:TypeId)(sz by':Nat):Prop where
 room: ∀(b n c i vb voff m vc:Nat) (R V:List Value) (t0:TypeId) (tA:TypeId) (kA:Nat) (w:World) (hi:i<n) (hm:0<m) (hroom:n+m<=c) (hc63:n+m<=4611686018427387904) (hvb:vb≠b)
  (hrow:w.heap[b]? =some (.cells R.toArray t0 (0,0))) (hR:c*sz<=R.length) (hone: ∀v∈R.take (n*sz),v.oneCell'=true) (hVl:V.length=m*sz) (hV: ∀j v,V[j]? =some v->w.cell? ⟨vb,voff+j,none⟩=some v) (h1v: ∀v∈V,v.oneCell'=true)
  (hsa:w.shape? vb=some (tA,kA)) (hkA:kA≠0),
  Calls P f #[.slice (some ⟨b,0,none⟩) n c,.int .i64 i,.slice (some ⟨vb,voff,none⟩) m vc] w fun e w'=>
   e= .returned (.slice (some ⟨b,0,none⟩) (n+m) c)/\ w'=w.drew.setRow b (R.take (i*sz)++V++(R.drop (i*sz)).take ((n-i)*sz)++R.drop ((n+m)*sz)).toArray
 stop: ∀(base:Option Addr) (n c m vc:Nat) (va:Option Addr) (r:Value) (w w1:World) (hm:0<m) (hnc:n<=c) (hc63:n+m<=4611686018427387904) (hnil:base=none->c=0)
  (hrun:(Builtin.append_ #[S,S] S #[.slice base n c,.slice va m vc]).run P w= .ok r w1),
  Calls P f #[.slice base n c,.int .i64 n,.slice va m vc] w fun e w'=>e= .returned r/\ w'=w1
 grow: ∀(b n c i vb voff m vc:Nat) (R V:List Value) (t0:TypeId) (tA:TypeId) (kA:Nat) (w:World) (hi:i<n) (hm:0<m) (hnc:n<=c) (hroom:c<n+m) (hbig:(n+m)*by'<=140737488355328) (hvb:vb<w.heap.size)
  (hrow:w.heap[b]? =some (.cells R.toArray t0 (0,0))) (hR:c*sz<=R.length) (hone: ∀v∈R.take (n*sz),v.oneCell'=true) (hVl:V.length=m*sz) (hV: ∀j v,V[j]? =some v->w.cell? ⟨vb,voff+j,none⟩=some v) (h1v: ∀v∈V,v.oneCell'=true),
  Calls P f #[.slice (some ⟨b,0,none⟩) n c,.int .i64 i,.slice (some ⟨vb,voff,none⟩) m vc] w fun e' w'=>
   ∃G Z,n+m<=G/\ e'= .returned (.slice (some ⟨w.heap.size,0,none⟩) (n+m) G)/\ Z.length+(n+m)*sz=G*sz/\ w'=w.drew.drew.alloc (.cells (R.take (i*sz)++V++(R.drop (i*sz)).take ((n-i)*sz)++Z:List Value).toArray e)
theorem z0m {w:World} {b o:Nat} {v:Value} (h:w.cell? ⟨b,o,none⟩=some v): ∃t k,w.shape? b=some (t,k)/\ k≠0/\ b<w.heap.size:=by
 unfold World.cell? at h;unfold World.shape?;split at h
 ·rename_i c t f hq;simp only[hq];refine⟨t,c.size,rfl,?_,(Array.getElem?_eq_some_iff.1 hq).1⟩;have:=(Array.getElem?_eq_some_iff.1 h).1;omega
 ·cases h
section
variable {α:Type} [Enc α]
theorem Enc.ins (l r:List α)(k:Nat):(Enc.cellsL l).take (k*Enc.sz α)++Enc.cellsL r++(Enc.cellsL l).drop (k*Enc.sz α)=Enc.cellsL (l.take k++r++l.drop k):=by
 rw[Enc.take,Enc.drop,Enc.app,Enc.app]
end
theorem qdd {IT:IterP} (hIT:ITMono IT) {U:St} {X:Cx} (hI:Inv IT U X) {s b:Nat} {t:TypeId} {cs:List AV} (hs:X.κ[s]? =some b)(hb:U.boxes[s]? =some (t,cs)):
 ∃X',X'.w=X.w/\ Ext X X'/\ Inv IT {U with boxes:=U.boxes.set s (t,[])} X'/\ At IT X' cs b 0:=by
 have hbm:b∈X.κ:=List.mem_of_getElem? hs;obtain⟨us,zs,k1,k2,k3⟩:=hI.box s b t cs hs hb;have hul:=zp k2
 have hE:Ext X {X with F:=fun b' o=>X.F b' o \/(b'=b/\ o<us.length)}:={Ext.refl X with
  F:=fun _ _ h=> .inl h
  cell:=fun _ _ _=>rfl
  Fnew:=fun b' o h=>h.elim .inl fun h=> .inr (.inr (.inr (h.1▸hbm)))}
 have hK:=zts hI hb;refine⟨{X with F:=fun b' o=>X.F b' o \/(b'=b/\ o<us.length)},rfl,hE,?_,?_⟩
 ·refine {lens:=hK.lens,elems:=hK.elems,κlen:=hK.κlen,κnd:=hK.κnd,box:= ?_,κF:= ?_,βlen:=hK.βlen,βnd:=hK.βnd,βκ:=hK.βκ,row:= ?_,Ok:= ?_,Fcell:= ?_}
  ·intro s' b' t' cs' hs' hb';obtain⟨vs',zs',u1,u2,u3⟩:=hK.box s' b' t' cs' hs' hb';exact⟨vs',zs',u1,zas hIT hE _ _ u2,u3⟩
  ·intro s' b' t' cs' hs' hb' hc o hf;rcases hf with hf|⟨rfl,hlt⟩
   ·exact hK.κF s' b' t' cs' hs' hb' hc o hf
   ·have hne:cs≠[]:=fun e=>by rw[e] at hul;simp at hul;omega
    have hs0:s<U.boxes.length:=(List.getElem?_eq_some_iff.1 hb).1;by_cases e:s=s'
    ·subst e;have hb'':(U.boxes.set s (t,[]))[s]? =some (t',cs'):=hb';rw[List.getElem?_set_self hs0] at hb'';cases hb'';exact hc rfl
    ·have hb'':(U.boxes.set s (t,[]))[s']? =some (t',cs'):=hb';rw[List.getElem?_set_ne e] at hb'';rcases hI.κnd s s' b' hs hs' e with⟨t0,h0⟩|⟨t0,h0⟩
     ·rw[hb] at h0;exact hne (congrArg Prod.snd (Option.some.inj h0))
     ·rw[hb''] at h0;exact hc (congrArg Prod.snd (Option.some.inj h0))
  ·intro s' r L hr hL;obtain⟨cur,fz,c1,c2,c3,c4,c5,c6,c7⟩:=hI.row s' r L hr hL;refine⟨cur,fz,c1,c2,c3,c4,c5,fun o hf=> ?_,c7⟩;rcases hf with hf|⟨e,_⟩
   ·exact c6 o hf
   ·exact absurd (e▸hbm) (hI.βκ r (List.mem_of_getElem? hr))
  ·intro b' ho;obtain⟨h1,h2,h3,h4⟩:=hI.Ok b' ho;exact⟨h1,h2,h3,fun o hf=>hf.elim (h4 o) fun h=>absurd (h.1▸hbm) h2⟩
  ·intro b' o hf;rcases hf with hf|⟨rfl,hlt⟩
   ·exact hI.Fcell b' o hf
   ·refine⟨us[o],?_⟩;show X.w.cell? _=_;rw[cell_of_row _ _ _ _ _ _ k1,List.getElem?_toArray,List.getElem?_append_left hlt];exact List.getElem?_eq_getElem hlt
 ·refine z1n (fun j hj=> .inr ⟨rfl,by omega⟩) k3 (zas hIT hE _ _ k2) fun j u hu=> ?_;show X.w.cell? _=_;have hj:=(List.getElem?_eq_some_iff.1 hu).1;rw[cell_of_row _ _ _ _ _ _ k1,Nat.zero_add,List.getElem?_toArray,List.getElem?_append_left hj];exact hu
theorem snd_frz {IT:IterP} (hIT:ITMono IT) {α:Type} [Enc α] {P:Program} {f:FuncId} {ar ar':List AV} {r:AV} {U:St} {s:Nat} {t:TypeId} {l:List α} {fl:Bool} (h:Pure IT P f (.list (length l) (Enc.cellsL l) .none   ::ar') r)(has:stripL ar=ar')(hok:zad 0 ar=true)(hb:U.boxes[s]? =some (t,Enc.cellsL l)):
 Snd IT P f (.bsl s 0 (length l) (Enc.sz α) fl::ar) U r {U with boxes:=U.boxes.set s (t,[])}:=by
 refine⟨h.1,fun X vs hI hr=> ?_⟩;rw[zbh] at hr;obtain⟨v0,vr,rfl,hv0,hrr⟩:=hr;have hv0:Bsl X s 0 l.length (Enc.sz α) fl v0:=hv0;obtain⟨b,c,cur,t1,hκ,rfl,hcap,_,hrow,hfit⟩:=hv0;obtain⟨X',x1,x2,x3,x4⟩:=qdd hIT hI hκ hb;have hr':zbh IT X' (.list (length l) (Enc.cellsL l) .none::ar) (.slice (some ⟨b,0,none⟩) l.length c::vr):=by
  rw[zbh];refine⟨_,vr,rfl,?_,zas hIT x2 _ _ hrr⟩;rw[Rep];exact⟨_,_,rfl,⟨hcap,fun h=>by cases h⟩,.inr ⟨_,_,rfl,x4⟩,trivial⟩
 have hl:=zmc hIT h (args:= .list (length l) (Enc.cellsL l) .none::ar) (by rw[Go.Ab.stripL,zcy,Enc.stripL,has]) (by rw[za (zbj (Enc.cloL l)) hok]) x3 hr';rw[x1] at hl;refine hl.mono ?_;rintro e w' ⟨v,Y,h1,h2,h3,h4,h5,_⟩;exact⟨v,Y,h1,h2,x2.trans h3,h4,h5⟩
section
variable {IT:IterP} {P:Program} {W:Owed} {k0:Nat}
theorem zgq {x:Code} (h:awp IT P W k0 x (zue (fun S U=> ∃S' U',Wk k0 S U S' U'/\ awp IT P W k0 y Q S' U') Q) S U):awp IT P W k0 (.seq x y) Q S U:= .inl h
theorem w_semB {id:Nat} {x:Code} (S':List AV)(U':St)(hs:qke IT P (.block id x) S U S' U')(h:Q .normal S' U'):awp IT P none k0 (.block id x) Q S U:= .inr ⟨rfl,S',U',hs,h⟩
theorem qok {x:Code} (S':List AV)(U':St)(hs:qke IT P x S U S' U')(h:awp IT P none k0 y Q S' U'):awp IT P none k0 (.seq x y) Q S U:= .inr ⟨rfl,S',U',hs,h⟩
theorem at_wk {S':List AV} {U':St} (hw:Wk k0 S U S' U')(h:awp IT P W k0 y Q S' U'): ∃S' U',Wk k0 S U S' U'/\ awp IT P W k0 y Q S' U':=⟨S',U',hw,h⟩
end
end Go.Ab
namespace Go.Ab
open Go Go.RowKit Go.Fwd
variable {y:Code}
abbrev zN:List AV:=[.u 0,.raw (.int .u64 0),.raw (.int .u64 0),.raw (.int .u64 0),.raw (.int .u64 0),.i 0,.i 0,.list 0 [] .full]
section
variable {IT:IterP} {P:Program} {W:Owed} {ops:Array Oper} {Q:List AV->St->Prop} {o:Oper} {l:List Oper} {S S':List AV} {U U':St} {k0:Nat}
theorem zeq {t t0:TypeId} {x y:Operand} {s:Nat} {v:AV} {c0:List AV} {bs bs':List (TypeId×List AV)} (n:Nat)(cs:List AV)(k:zca IT P W ops Q l S' (.B bs'))(hσ:U= .B bs:=by exact rfl)(hg:o.guard=none:=by exact rfl)(ho:o.op= .store t x y:=by exact rfl)(hx:zby S x= .ptr s 0:=by exact rfl)(hv:zby S y=v:=by exact rfl)(hb:bs[s]? =some (t0,c0):=by exact rfl)(hn:zcl P t=some n:=by exact rfl)(hl:c0.length=n:=by exact rfl)(hc:zht v=true:=by exact rfl)(hcs:cellsOf v=cs:=by exact rfl)(hvl:cs.length=n:=by exact rfl)(h0:0<n:=by decide)
 (hS:zaf S o.dst (.raw undef)=S':=by dsimp only[zaf,List.set]) (hs:bs.set s (t0,cs)=bs':=by dsimp only[List.set]):zca IT P W ops Q (o::l) S U:=by
 subst hσ hs hcs;exact zho hg (by simp[zcz,ho]) (by simp[zdc,ho]) (zeh ho hx hv hb hn hl hc hvl h0) hS rfl k
theorem zda {a:AV} {t:TypeId} {bs bs':List (TypeId×List AV)} (cs:List AV)(k:zca IT P W ops Q l S' (.B bs'))(hσ:U= .B bs:=by exact rfl)(hg:o.guard=none:=by exact rfl)(hc:zcz S o=none:=by exact rfl)(hy:zdc S o=none:=by exact rfl)(h:aop P (zby S) (.B bs) o=some (.ptr bs.length 0,.B (bs++[(t,cs)])):=by exact rfl)
 (ha:AV.ptr bs.length 0=a:=by dsimp only[List.length_cons,List.length_nil,Nat.zero_add,Nat.reduceAdd]) (hS:zaf S o.dst a=S':=by dsimp only[zaf,List.set]) (hs:bs++[(t,cs)]=bs':=by dsimp only[List.cons_append,List.nil_append]):zca IT P W ops Q (o::l) S U:=by
 subst hσ hs ha;exact zho hg hc hy h hS rfl k
theorem wmk (m:List Bool)(n:Nat)(fs js:List Nat)(d:Nat)(hn:k0<=n)(hσ:zeo U U.lens.length n fs js d=U')(hok:zcx U n js=true:=by exact rfl)(h:fgM m (zx U.lens.length (kz U.boxes U.lens.length n fs js d) S)=S':=by
 try dsimp only[zau,zbo,List.foldl,List.set,bz,bzc,Nat.reduceMod,Nat.reduceDiv,Nat.reduceBEq,Nat.reduceAdd]
 repeat(first|exact zik|refine zfe rfl ?_|refine zfe (zah _ _ _ rfl) ?_|refine zfe (zah _ _ _ (zkr (Enc.cloL _))) ?_|apply zvv)):Wk k0 S U S' U':=zqx m n fs js d hn hok h hσ
def qfj (n:Nat)(l:List (Nat×AV)):List AV:=l.foldl (fun S p=>S.set p.1 p.2) (List.replicate n (.raw undef))
theorem qqm {Q:AQ} (n:Nat)(L:List (Nat×AV))(hw:Wk k0 S U (qfj n L) U')(h:awp IT P W k0 y Q S' U')(e:qfj n L=S':=by dsimp only[qfj,List.foldl,List.replicate,List.set]): ∃S' U',Wk k0 S U S' U'/\ awp IT P W k0 y Q S' U':=by
 subst e;exact⟨_,U',hw,h⟩
theorem zhv {Q:AQ} (n:Nat)(L:List (Nat×AV))(hw:Wk k0 S U (qlo n L) U')(h:awp IT P W k0 y Q S' U')(e:qlo n L=S':=by dsimp only[qlo,List.foldl,List.replicate,List.set]): ∃S' U',Wk k0 S U S' U'/\ awp IT P W k0 y Q S' U':=by
 subst e;exact⟨_,U',hw,h⟩
end
def fO:Option AV->Option AV
 |some (.raw (.int k n))=>some (.raw (.int k n))
 |some (.raw (.bool b))=>some (.raw (.bool b))
 |some (.raw (.string s))=>some (.raw (.string s))
 |some (.ptr s 0)=>some (.ptr s 0)
 |some (.ptr s 1)=>some (.ptr s 1)
 |some (.ptr s 2)=>some (.ptr s 2)
 |some (.ptr s 3)=>some (.ptr s 3)
 |some (.ptr s 4)=>some (.ptr s 4)
 |some (.ptr s 5)=>some (.ptr s 5)
 |some (.ptr s 6)=>some (.ptr s 6)
 |some (.ptr s 7)=>some (.ptr s 7)
 |some (.ptr s n)=>some (.ptr s n)
 |some a=>some a
 |none=>none
def nfV (P:Program)(ρ:Operand->AV)(U:St)(o:Oper):Option AV:=
 match o.op with
 | .binOp b _ x y _=>match ρ x,ρ y with
  | .raw (.int _ m),.raw (.int _ n)=>match b with
   | .eql=>some (.raw (.bool (m==n)))
   | .neq=>some (.raw (.bool (m !=n)))
   | .lss=>some (.raw (.bool (decide (m<n))))
   | .leq=>some (.raw (.bool (decide (m<=n))))
   | .gtr=>some (.raw (.bool (decide (m>n))))
   | .geq=>some (.raw (.bool (decide (m>=n))))
   |_=>none
  |_,_=>none
 | .unOp .not _ x=>match ρ x with
  | .raw (.bool b)=>some (.raw (.bool (!b)))
  |_=>none
 | .assign x=>fO (some (ρ x))
 | .move x=>fO (some (ρ x))
 | .nilCheck x=>fO (some (ρ x))
 | .pick c a b=>match ρ c with
  | .raw (.bool true)=>fO (some (ρ a))
  | .raw (.bool false)=>fO (some (ρ b))
  |_=>none
 | .fieldAddr t x f=>fO (znd P t f (ρ x))
 | .load t x=>match ρ x with
  | .ptr s off=>match U.boxes[s]?,zcl P t with
   |some (_,cs),some 1=>fO cs[off]?
   |some (_,cs),_=>if off==0 then some (.agg cs) else none
   |none,_=>none
  | .iptr cs=>match zcl P t with
   |some 1=>fO cs[0]?
   |_=>none
  |_=>none
 | .call c=>match c.callee with
  | .builtin .len=>match c.args.toList with
   | [x]=>match ρ x with
    | .list n _ _=>some (.raw (.int .i64 n))
    |_=>none
   |_=>none
  |_=>none
 |_=>none
structure Do (n:Nat)(A:Prop):Prop where
 h:A
theorem d0 {A:Prop} (k:A):Do 0 A:=⟨k⟩
section
variable {IT:IterP} {P:Program} {W:Owed} {ops:Array Oper} {Q:List AV->St->Prop} {o:Oper} {l:List Oper} {S S':List AV} {U U':St} {k0:Nat} {a:AV} {n i:Nat} {K:List AV->Prop}
theorem d_mv {k:Nat} (kk:Do n (zca IT P W ops Q l S' U))(ho:mvOf o.op=some k:=by exact rfl)(hg:gst ops S o=some true:=by exact rfl)(hv:S[k]? =some a:=by exact rfl)(hS:zaf S o.dst a=S':=by dsimp only[zaf,List.set]):Do (n+1) (zca IT P W ops Q (o::l) S U):=by
 obtain⟨q1,q2,q3⟩:=ztt (P:=P) (U:=U) ho hv;subst hS;refine⟨zrf hg ?_⟩;simp only[zfh,q1,q2];exact .inl ⟨_,_,.inl (zba q3),kk.h⟩
theorem d_ex {k:Nat} {vs:List AV} (kk:Do n (zca IT P W ops Q l S' U))(ho:exOf o.op=some (k,i):=by exact rfl)(hg:gst ops S o=some true:=by exact rfl)(hv:S[k]? =some (.tup vs):=by exact rfl)(hi:vs[i]? =some a:=by exact rfl)(hS:zaf S o.dst a=S':=by dsimp only[zaf,List.set]):Do (n+1) (zca IT P W ops Q (o::l) S U):=by
 obtain⟨q1,q2,q3⟩:=z0h (P:=P) (U:=U) ho hv hi;subst hS;refine⟨zrf hg ?_⟩;simp only[zfh,q1,q2];exact .inl ⟨_,_,.inl (zba q3),kk.h⟩
theorem d_po (kk:Do n (zca IT P W ops Q l S' U))(hg:gst ops S o=some false:=by exact rfl)(hS:zaf S o.dst (.raw undef)=S':=by dsimp only[zaf,List.set]):Do (n+1) (zca IT P W ops Q (o::l) S U):=by
 rcases zzl hg with⟨_,e⟩|⟨k,b,d,hg,hd,_,h2⟩
 ·cases e
 ·exact⟨qdm hg hd (h2 rfl) hS kk.h⟩
theorem d_op (kk:Do n (zca IT P W ops Q l S' U))(hs:nfV P (zby S) U o=some a:=by exact rfl)(hg:gst ops S o=some true:=by exact rfl)(hc:zcz S o=none:=by exact rfl)(hy:zdc S o=none:=by exact rfl)(h:aop P (zby S) U o=some (a,U):=by exact rfl)(hS:zaf S o.dst a=S':=by dsimp only[zaf,List.set]):Do (n+1) (zca IT P W ops Q (o::l) S U):=by
 subst hS;refine⟨zrf hg ?_⟩;simp only[zfh,hc,hy];exact .inl ⟨_,_,.inl h,kk.h⟩
theorem qgc (hg:gst ops S o=some true)(kk:zep IT P ops U K ({o with guard:=none}::l) S):zep IT P ops U K (o::l) S:=by
 rcases zzl hg with⟨h,_⟩|⟨k,b,d,hg,hd,h1,_⟩
 ·have:({o with guard:=none}:Oper)=o:=by cases o;simp only at h;subst h;rfl
  rwa[this] at kk
 ·exact zhp hg (by rw[hd,h1 rfl]) kk
theorem dh_mv {k:Nat} (kk:Do n (zep IT P ops U K l S'))(ho:mvOf o.op=some k:=by exact rfl)(hd:(o.dst.all fun d=>decide (d<S.length))=true:=by exact rfl)(hg:gst ops S o=some true:=by exact rfl)(hv:S[k]? =some a:=by exact rfl)(hS:zaf S o.dst a=S':=by dsimp only[zaf,List.set]):Do (n+1) (zep IT P ops U K (o::l) S):=
 ⟨qgc hg (zgr (o:={o with guard:=none}) kk.h ho hd rfl hv hS)⟩
theorem dh_op (kk:Do n (zep IT P ops U K l S'))(hs:nfV P (zby S) U o=some a:=by exact rfl)(hd:(o.dst.all fun d=>decide (d<S.length))=true:=by exact rfl)(hg:gst ops S o=some true:=by exact rfl)(hc:zcz S o=none:=by exact rfl)(h:qop P (zby S) U o=some a:=by exact rfl)(hS:zaf S o.dst a=S':=by dsimp only[zaf,List.set]):Do (n+1) (zep IT P ops U K (o::l) S):=
 ⟨qgc hg (qkr (o:={o with guard:=none}) hd rfl hc h hS kk.h)⟩
theorem d_sr {id:Nat} {x y:Code} {Q:AQ} (h:Do n (zca IT P W ops (zue (awp IT P W k0 y Q) Q .normal) ops.toList S U))(hx:x= .region id ops false:=by exact rfl):Do (n+1) (awp IT P W k0 (.seq x y) Q S U):=by
 subst hx;exact⟨zi (zb h.h)⟩
end
theorem wq {A B:Prop} (n:Nat)(k:B)(h:B->Do n A:=by
 intro k;repeat(first|refine d_mv ?_|refine d_po ?_|refine d_bo ?_|refine d_op ?_|refine d_ex ?_|refine d_sr ?_|refine d_rg ?_|refine dh_mv ?_|refine dh_po ?_|refine dh_bo ?_|refine dh_op ?_)
 exact d0 k):A:=(h k).h
variable {n:Nat} {j:Int}
section
variable {P:Program} {ρ:Operand->AV} {U:St} {o:Oper} {α:Type} [Enc α]
theorem q_bslL {t e:TypeId} {x i:Operand} {s:Nat} {f:Bool} {k:IntKind} (g:0<=j/\ j<n)(ho:o.op= .slice t x (some i) none none)(hx:ρ x= .bsl s 0 n (Enc.sz α) f)(hi:ρ i= .raw (.int k j))(hu:P.underlying t=some (.slice e))(hs:zcl P e=some (Enc.sz α)):
 qop P ρ U o=some (.bsl s (j.toNat*Enc.sz α) (n-j.toNat) (Enc.sz α) f):=by
 have h4:zek n (some (.raw (.int k j))) none none=some (j.toNat,n,false):=by
  have c:0<=j/\ j<=(n:Int):=by omega
  simp only[zek,zim,if_pos c]
 have hlt:j.toNat<n:=by omega
 simp only[qop,ho,hx,hi,Option.map_some,Option.map_none,zlm,hu,hs,h4,if_true,if_pos hlt,Nat.zero_add];simp
theorem q_bslH {t e:TypeId} {x i:Operand} {s:Nat} {f:Bool} {k:IntKind} (g:0<j/\ j<=n)(ho:o.op= .slice t x none (some i) none)(hx:ρ x= .bsl s 0 n (Enc.sz α) f)(hi:ρ i= .raw (.int k j))(hu:P.underlying t=some (.slice e))(hs:zcl P e=some (Enc.sz α)):
 qop P ρ U o=some (.bsl s 0 j.toNat (Enc.sz α) (f&&(j.toNat==n))):=by
 have h4:zek n none (some (.raw (.int k j))) none=some (0,j.toNat,false):=by
  have c:0<=j/\ j<=(n:Int):=by omega
  simp only[zek,zim,if_pos c]
 have hlt:0<j.toNat:=by omega
 simp only[qop,ho,hx,hi,Option.map_some,Option.map_none,zlm,hu,hs,h4,if_true,if_pos hlt,Nat.zero_add,Nat.zero_mul,Nat.sub_zero];simp
end
theorem qmr {IT:IterP} {P:Program} {W:Owed} {k0:Nat} {id:Nat} {ops:Array Oper} {Q:AQ} {S:List AV} {U:St} (S1:List AV)(U1:St)(h:zpo IT P W ops (fun S U=>S=S1/\ U=U1) ops.size (Array.replicate ops.size false) S U)(hrest:Q .normal S1 U1):awp IT P W k0 (.region id ops true) Q S U:=
 .inr (.inr (.inl (zhe (fun S U hw=>by obtain⟨rfl,rfl⟩:=hw;exact hrest) _ _ _ _ h)))
theorem zwa {IT:IterP} {P:Program} {W:Owed} {ops:Array Oper} {Q:List AV->St->Prop} {o:Oper} {l:List Oper} {S S':List AV} {U:St} (t:Tr)(k:zca IT P W ops Q l S' U)(hg:o.guard=none:=by exact rfl)(hc:zcz S o=none:=by exact rfl)(hy:zdc S o=none:=by exact rfl)(h:qop P (zby S) U o=some (qnh t .full):=by kernel_rfl)(hS:zaf S o.dst (.agg (Enc.cells t))=S':=by dsimp only[zaf,List.set]):zca IT P W ops Q (o::l) S U:=
 w_qs (.agg (Enc.cells t)) (a0:=qnh t .full) hg hc hy h (z5g _ _) hS k
end Go.Ab
namespace Go.Ab
open Go Go.RowKit Go.Fwd Go.Proofs
def zka (lo:Int)(hi:Int):Option Bool:=
 (zct (τ:=Unit) (bif (decide (lo<0)) then(some (inr false)) else(bif (decide (lo>16)) then(some (inr false)) else(bif (lo==1) then(bif (hi==1) then(some (inr false)) else(some (inl ()))) else(some (inl ()))))) (fun j1=>(bif (hi==(-1)) then(some true) else(bif (decide (hi>=1)) then(bif (decide (hi<=16)) then(some (decide (hi>=lo))) else(some false)) else(some false)))))
theorem ent47:Ent prog 47:=enters_of Tryz.func47 (by kernel_rfl) rfl
theorem zxa (lo:Int)(hi:Int)(r:Bool)(h:zka lo hi=some r):Pure (ITP prog) prog 47 [.raw (.int .i64 lo),.raw (.int .i64 hi)] (.raw (.bool r)):=by
 unfold zka at h;refine zbg 32 mix Tryz.func47 ent47 ?_;refine zae [.v (.b false)] ?_;refine zal h (bz 0 34 17179869180) (fun j1=>[]) (fun j1=>(.B [])) ?_ ?_;intro or1 h hr1;refine zae [.m _,.v (.b (decide (lo<0)))] ?_;refine zab h (fun hc1 h=> ?_) (fun hc1 h=> ?_);refine zap hc1 ?_;refine w_r [.p,.p,.v (.b true),.m _,.p] ?_;refine w_r [.p,.p,.p,.p,.p] ?_;refine w_r [.v (.b true)] ?_;refine zdx rfl ?_;refine zae [.v (.b false)] ?_;replace h:=zax h hr1;exact zbc h;refine zap hc1 ?_;refine w_r [.m _,.v (.b (decide (lo>16))),.v (.b (decide (lo>16)))] ?_;refine zab h (fun hc2 h=> ?_) (fun hc2 h=> ?_);refine zap hc2 ?_;refine w_r [.p,.p,.p,.p,.p] ?_;refine w_r [.p,.v (.b true)] ?_;refine zdx rfl ?_;refine zae [.v (.b false)] ?_;replace h:=zax h hr1;exact zbc h;refine zap hc2 ?_;refine w_r [.m _,.v (.b (lo==1))] ?_;refine zan rfl rfl ?_;refine zab h (fun hc3 h=> ?_) (fun hc3 h=> ?_);refine zap hc3 ?_;refine w_r [.m _,.v (.b (hi==1)),.v (.b (hi==1)),.v (.b (hi==1))] ?_;refine zbr h (fun hc4 h=> ?_) (fun hc4 h=> ?_);refine zae [.v (.b false)] ?_;replace h:=zax h hr1;exact zbc h;refine zc (o:=or1) () h ?_;exact zaz (bl 34 3);refine zap hc3 ?_;refine w_r [.p,.p,.v (.b false),.v (.b false)] ?_;refine zcc rfl ?_;refine zc (o:=or1) () h ?_;exact zaz (bl 34 3);intro j1 h;refine zdf ?_;refine zae [.m _,.v (.b (hi==(-1)))] ?_;refine zab h (fun hc5 h=> ?_) (fun hc5 h=> ?_);refine zap hc5 ?_;iterate 2 refine w_r [.p,.p,.p,.p,.p] ?_
 refine w_r [.p,.v (.b true),.m _] ?_;exact zbc h;refine zap hc5 ?_;refine w_r [.m _,.v (.b (decide (hi>=1)))] ?_;refine zan rfl rfl ?_;refine zab h (fun hc6 h=> ?_) (fun hc6 h=> ?_);refine zap hc6 ?_;refine w_r [.m _,.v (.b (decide (hi<=16))),.v (.b (decide (hi<=16)))] ?_;refine zan rfl rfl ?_;refine zab h (fun hc7 h=> ?_) (fun hc7 h=> ?_);refine zap hc7 ?_;refine w_r [.m _,.m _,.v (.b (decide (hi>=lo))),.v (.b (decide (hi>=lo))),.v (.b (decide (hi>=lo)))] ?_;refine w_r [.m _] ?_;exact zbc h;refine zap hc7 ?_;refine w_r [.p,.p,.p,.v (.b false),.v (.b false)] ?_;refine w_r [.m _] ?_;exact zbc h;refine zap hc6 ?_;refine w_r [.p,.p,.v (.b false),.m _,.p] ?_;refine w_r [.p,.p,.v (.b false),.v (.b false),.m _] ?_;exact zbc h
def z0o (t:Tr):Option Tr:=
 (some (Tr.mk 6 (0#256) 0 0 [t]))
theorem ent29:Ent prog 29:=enters_of Tryz.func29 (by kernel_rfl) rfl
theorem qeu (t:Tr)(r:Tr)(h:z0o t=some r):Pure (ITP prog) prog 29 [.A (t:Tr)] (.A (r:Tr)):=by
 unfold z0o at h;refine zbg 5 mix Tryz.func29 ent29 ?_;refine zi (zb ?_);refine zda (Enc.cells (t:Tr)) ?_;refine zda zN ?_;refine zae [.v (.A (t:Tr))] ?_;refine w_o (a:= .F ([t]:List Tr)) (h:=zba (zhz (α:=Tr) (l:=[t]) (cs:=Enc.cells (t:Tr)++[]) rfl (by rw[Enc.cons,Enc.nil]))) ?_;refine zwa (Tr.mk 6 (0#256) 0 0 [t]) ?_;refine zeq 8 (Enc.cells ((Tr.mk 6 (0#256) 0 0 [t]):Tr)) ?_;exact zbu (fun(r:Tr)=> .A (r:Tr)) h (.A ((Tr.mk 6 (0#256) 0 0 [t]):Tr))
def qfd (t:Tr)(lo:Int)(hi:Int):Option Tr:=
 (some (Tr.mk 5 (0#256) lo hi [t]))
theorem ent30:Ent prog 30:=enters_of Tryz.func30 (by kernel_rfl) rfl
theorem rep8_sh (t:Tr)(lo:Int)(hi:Int)(r:Tr)(h:qfd t lo hi=some r):Pure (ITP prog) prog 30 [.A (t:Tr),.raw (.int .i64 lo),.raw (.int .i64 hi)] (.A (r:Tr)):=by
 unfold qfd at h;refine zbg 9 mix Tryz.func30 ent30 ?_;refine zi (zb ?_);refine zda (Enc.cells (t:Tr)) ?_;refine zda zN ?_;refine zae [.m _,.m _,.v (.A (t:Tr))] ?_;refine w_o (a:= .F ([t]:List Tr)) (h:=zba (zhz (α:=Tr) (l:=[t]) (cs:=Enc.cells (t:Tr)++[]) rfl (by rw[Enc.cons,Enc.nil]))) ?_;refine zwa (Tr.mk 5 (0#256) lo hi [t]) ?_;refine zeq 8 (Enc.cells ((Tr.mk 5 (0#256) lo hi [t]):Tr)) ?_;exact zbu (fun(r:Tr)=> .A (r:Tr)) h (.A ((Tr.mk 5 (0#256) lo hi [t]):Tr))
def qac (s:BS):Option Tr:=
 (bif (decide (s=(0#256))) then(some noneT) else(some (Tr.mk 2 s 0 0 [])))
theorem ent132:Ent prog 132:=enters_of Tryz.func132 (by kernel_rfl) rfl
theorem rxof_sh (s:BS)(r:Tr)(h:qac s=some r):Pure (ITP prog) prog 132 [.A (s:BS)] (.A (r:Tr)):=by
 unfold qac at h;refine zbg 8 mix Tryz.func132 ent132 ?_;refine zi (zb ?_);refine zda (Enc.cells (s:BS)) ?_;refine zda zN ?_;refine zi ?_;refine zae [.v (.A (s:BS)),.v (.A (0#256:BS))] ?_;refine qbz (.b (decide (s=(0#256)))) rfl rfl rfl (zyl s (0#256) rfl rfl rfl) (by dsimp only[zaf,List.set]) ?_;refine zbr h (fun hc1 h=> ?_) (fun hc1 h=> ?_);refine zi (zb ?_);refine zwa noneT ?_;refine zeq 8 (Enc.cells (noneT:Tr)) ?_;exact zbu (fun(r:Tr)=> .A (r:Tr)) h (.A (noneT:Tr));refine zae [.v (.A (s:BS))] ?_;refine zwa (Tr.mk 2 s 0 0 []) ?_;refine zeq 8 (Enc.cells ((Tr.mk 2 s 0 0 []):Tr)) ?_;exact zbu (fun(r:Tr)=> .A (r:Tr)) h (.A ((Tr.mk 2 s 0 0 []):Tr))
def zpf (s:BS)(c:Int):Option Bool:=
 (chk (0<=(zga .u8 c 6)/\ (zga .u8 c 6)<4) (chk (0<=(zly .u8 c 63)) (some ((zly .u64 (zga .u64 (wd s (toNat (zga .u8 c 6))) (zly .u8 c 63)) 1)==1))))
theorem ent149:Ent prog 149:=enters_of Tryz.func149 (by kernel_rfl) rfl
theorem zvi (s:BS)(c:Int)(r:Bool)(h:zpf s c=some r):Pure (ITP prog) prog 149 [.A (s:BS),.raw (.int .u8 c)] (.raw (.bool r)):=by
 unfold zpf at h;refine zbg 12 mix Tryz.func149 ent149 ?_;refine zi (zb ?_);refine zda (Enc.cells (s:BS)) ?_;refine w_o (a:= .b false) ?_;refine zae [.m _] ?_;refine w_o (a:= .u (zga .u8 c 6)) (h:=zba (qdu (by decide) rfl rfl rfl)) ?_;obtain⟨g1,h⟩:=ze h;refine w_o (a:= .ptr 0 (0+toNat (zga .u8 c 6)*1)) (h:=zba (zsk g1 rfl rfl rfl rfl rfl)) ?_;refine w_o (a:= .raw (.int .u64 (wd s (toNat (zga .u8 c 6))))) (h:=zba (z0b s (by omega) rfl rfl rfl)) ?_;refine w_r [.m _,.v (.u (zly .u8 c 63))] ?_;obtain⟨g2,h⟩:=ze h;refine w_o (a:= .raw (.int .u64 (zga .u64 (wd s (toNat (zga .u8 c 6))) (zly .u8 c 63)))) (h:=zba (qdu g2 rfl rfl rfl)) ?_;refine w_r [.v (.raw (.int .u64 (zly .u64 (zga .u64 (wd s (toNat (zga .u8 c 6))) (zly .u8 c 63)) 1))),.v (.b ((zly .u64 (zga .u64 (wd s (toNat (zga .u8 c 6))) (zly .u8 c 63)) 1)==1)),.m _] ?_;exact zbc h
end Go.Ab
