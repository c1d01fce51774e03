import Derived.Test.YtnoccnalocdldaaGreatDoorZdQq
import Derived.Shelf.Strings.Trim
import Derived.Shelf.Small.Strs
import Derived.Shelf.Small.Wraps
import Derived.Shelf.Strings.Search1
import Derived.Shelf.Strings.Prefix
import Derived.Test.YtnoccnalocdldaaGreatDoorProg
import Derived.Test.YtnoccnalocdldaaGreatDoorRows
import Derived.Shelf.Spec.SlicesInsert
import Derived.Lib.AppendZerosOnto
import Derived.Laws.CopyRow
set_option linter.all false
set_option maxRecDepth 100000
set_option maxHeartbeats 4000000
open Sum (inl inr)
open Int (toNat)
open Bool (and_eq_true)
open Nat (le_refl zero_add)
open Option (map_some getD_some)
open List (length length_cons length_append length_nil mem_append all_eq_true foldl cons_append nil_append mem_cons append_nil drop_eq_getElem_cons take_append_drop)
open Go.Proofs.Tryz (prog)
namespace Go.Ab
open Go Go.RowKit Go.Fwd
abbrev BS:=BitVec 256
def W64 (S:BS)(i:Nat):BitVec 64:=S.extractLsb' (64*i) 64
def wd (S:BS)(i:Nat):Int:=((W64 S i).toNat:Int)
inductive Tr where
 |mk (k:Nat) (s:BS) (mn mx:Int) (l:List Tr)
def Tr.k:Tr->Nat| .mk k _ _ _ _=>k
def Tr.s:Tr->BS| .mk _ s _ _ _=>s
def Tr.mn:Tr->Int| .mk _ _ m _ _=>m
def Tr.mx:Tr->Int| .mk _ _ _ m _=>m
def Tr.l:Tr->List Tr| .mk _ _ _ _ l=>l
theorem Tr.eta (t:Tr):t= .mk t.k t.s t.mn t.mx t.l:=by cases t;rfl
theorem Tr.sizeOf_l {t x:Tr} (h:x∈t.l):SizeOf.sizeOf x<SizeOf.sizeOf t:=by
 cases t with
 |mk k s mn mx l=>simp only[Tr.l] at h;have:=List.sizeOf_lt_of_mem h;simp;omega
mutual
def cells:Tr->List AV
 | .mk k s mn mx l=>[.raw (.int .u8 k),.raw (.int .u64 (wd s 0)),.raw (.int .u64 (wd s 1)),.raw (.int .u64 (wd s 2)),.raw (.int .u64 (wd s 3)),.raw (.int .i64 mn),.raw (.int .i64 mx),.list l.length (cellsL l) .none]
def cellsL:List Tr->List AV
 |[]=>[]
 |t::l=>cells t++cellsL l
end
def enc (t:Tr):AV:= .agg (cells t)
theorem qmi (t:Tr):cells t=[.raw (.int .u8 t.k),.raw (.int .u64 (wd t.s 0)),.raw (.int .u64 (wd t.s 1)),.raw (.int .u64 (wd t.s 2)),.raw (.int .u64 (wd t.s 3)),.raw (.int .i64 t.mn),.raw (.int .i64 t.mx),.list t.l.length (cellsL t.l) .none]:=by cases t;simp[cells,Tr.k,Tr.s,Tr.mn,Tr.mx,Tr.l]
mutual
theorem zsc: ∀t,zci (cells t)=true
 | .mk k s mn mx l=>by simp[cells,zci,zlt,zqs l]
theorem zqs: ∀l,zci (cellsL l)=true
 |[]=>by simp[cellsL,zci]
 | t::l=>by
  have h: ∀l m:List AV,zci (l++m)=(zci l&&zci m):=fun l m=>by
   induction l with
   |nil=>simp[zci]
   |cons a l ih=>rw[cons_append,zci,zci,ih,Bool.and_assoc]
  rw[cellsL,h,zsc t,zqs l];rfl
end
mutual
theorem z5w: ∀t,stripL (cells t)=cells t
 | .mk k s mn mx l=>by simp[cells,stripL,zcw,zjl l]
theorem zjl: ∀l,stripL (cellsL l)=cellsL l
 |[]=>by simp[cellsL,stripL]
 | t::l=>by
  rw[cellsL,zni,List.map_append, <-zni, <-zni,z5w t,zjl l]
end
mutual
theorem z2r: ∀t,cloL (cells t)=true
 | .mk k s mn mx l=>by simp[cells,cloL,clo,zwj l]
theorem zwj: ∀l,cloL (cellsL l)=true
 |[]=>by simp[cellsL,cloL]
 |t::l=>by rw[cellsL,zek,z2r t,zwj l];rfl
end
theorem qde (t:Tr):zlt (enc t)=true:=by rw[enc,zlt];exact zsc t
mutual
def pre:Tr->List Tr
 | .mk k s mn mx l=> .mk k s mn mx l::zbj l
def zbj:List Tr->List Tr
 |[]=>[]
 |t::l=>pre t++zbj l
end
theorem zef (t:Tr):pre t=t::zbj t.l:=by cases t;simp[pre,Tr.l]
theorem zod: ∀(ts:List Tr) (i:Nat) (hi:i<ts.length),(zbj (ts.take (i+1))).length=(zbj (ts.take i)).length+(pre ts[i]).length
 |[],i,hi=>by simp at hi
 |t::ts,0,hi=>by simp[zbj]
 | t::ts,i+1,hi=>by
  simp only[List.take_succ_cons,zbj,length_append,List.getElem_cons_succ,zod ts i (by simpa using hi)];omega
theorem z6w (k:Nat)(s:BS)(mn mx:Int)(ts:List Tr):(pre (.mk k s mn mx ts)).length=1+(zbj ts).length:=by simp[pre];omega
theorem z6t: ∀ts:List Tr,ts.length<=(zbj ts).length
 |[]=>by simp[zbj]
 | t::ts=>by
  have:=z6t ts;cases t with
  |mk k s mn mx l=>simp[zbj,pre];omega
theorem znp: ∀ {ts:List Tr} {x:Tr},x∈ts->(pre x).length<=(zbj ts).length
 |[],x,h=>by simp at h
 | t::ts,x,h=>by
  simp only[zbj,length_append];rcases mem_cons.1 h with rfl|h
  ·omega
  ·have:=znp h;omega
def zei (least most:Int):Bool:= !(decide (least<0)||decide (least>16)||decide (least=1)&&decide (most=1))&&(decide (most= -1)||decide (most>=1)&&decide (most<=16)&&decide (most>=least))
def qku (s:BS):AV:= .agg [.raw (.int .u64 (wd s 0)),.raw (.int .u64 (wd s 1)),.raw (.int .u64 (wd s 2)),.raw (.int .u64 (wd s 3))]
theorem wd_inj {A B:BS} (h: ∀i,i<4->wd A i=wd B i):A=B:=by
 apply BitVec.eq_of_getLsbD_eq;intro j hj;have h4:j/64<4:=by omega
 have h2:=h (j/64) h4;have h3:W64 A (j/64)=W64 B (j/64):=by
  apply BitVec.eq_of_toNat_eq;unfold wd at h2;omega
 have h5:=congrArg (fun x:BitVec 64=>x.getLsbD (j%64)) h3;have hlt:j%64<64:=Nat.mod_lt _ (by decide);simp only[W64,BitVec.getLsbD_extractLsb',hlt,decide_true,Bool.true_and] at h5;rwa[show 64*(j/64)+j%64=j by omega] at h5
theorem qgj (S T:BS):(wd S 0==wd T 0&&wd S 1==wd T 1&&wd S 2==wd T 2&&wd S 3==wd T 3)=decide (S=T):=by
 by_cases h:S=T
 ·subst h;simp
 ·simp only[h,decide_false];cases hb:(wd S 0==wd T 0&&wd S 1==wd T 1&&wd S 2==wd T 2&&wd S 3==wd T 3) with
  |false=>rfl
  | true=>
   simp only[and_eq_true,beq_iff_eq] at hb;refine absurd (wd_inj fun i hi=> ?_) h
   match i,hi with
   |0,_=>exact hb.1.1.1
   |1,_=>exact hb.1.1.2
   |2,_=>exact hb.1.2
   |3,_=>exact hb.2
def zwc (t:Tr)(k:Nat):Bool:=t.l.any fun y=>decide (y.k=k)
def oddT (t:Tr):Bool:=((t.k:Int) !=2&&decide (t.s≠0#256))||((t.k:Int) !=5&&(t.mn !=0||t.mx !=0))||(decide ((t.k:Int)<3)&&decide ((t.l.length:Int)>0))
def zcn (t:Tr):Bool:= !oddT t&&(bif (t.k:Int)==1 then true else bif (t.k:Int)==2 then decide (t.s≠0#256) else bif (t.k:Int)==3 then decide ((t.l.length:Int)>1)&& !zwc t 1&& !zwc t 3
 else bif (t.k:Int)==4 then decide ((t.l.length:Int)>1)&& !zwc t 4 else bif (t.k:Int)==5 then(t.l.length:Int)==1&&zei t.mn t.mx&& !zwc t 1 else(t.k:Int)==6&&(t.l.length:Int)==1)
theorem zis (k:Nat)(s:BS)(mn mx:Int)(ts:List Tr):oddT (.mk k s mn mx ts)=(((k:Int) !=2&&decide (s≠0#256))||((k:Int) !=5&&(mn !=0||mx !=0))||(decide ((k:Int)<3)&&decide ((ts.length:Int)>0))):=rfl
theorem zco (k:Nat)(s:BS)(mn mx:Int)(ts:List Tr):zcn (.mk k s mn mx ts)=(!oddT (.mk k s mn mx ts)&&(bif (k:Int)==1 then true else bif (k:Int)==2 then decide (s≠0#256) else bif (k:Int)==3 then decide ((ts.length:Int)>1)&& !zwc (.mk k s mn mx ts) 1&& !zwc (.mk k s mn mx ts) 3
 else bif (k:Int)==4 then decide ((ts.length:Int)>1)&& !zwc (.mk k s mn mx ts) 4 else bif (k:Int)==5 then(ts.length:Int)==1&&zei mn mx&& !zwc (.mk k s mn mx ts) 1 else(k:Int)==6&&(ts.length:Int)==1)):=rfl
def zfv (t:Tr):Bool:=decide ((pre t).length<=10000)
def zda (t:Tr):Bool:=zfv t&&(pre t).all zcn
def zsq (t:Tr):Int:=if zfv t=true then(pre t).length else 10001
def zvq (t:Tr):Int:=if zfv t=true then(pre t).countP (fun x=>decide (x.k=6)) else 10001
mutual
def zlr:Tr->Int
 | .mk k s mn mx ts=>min (if k=5 then((if k=2 then 1 else 0)+zfa ts)*min (if mx= -1 then max (max mn 0) 1 else max (max mn 0) mx) 10001 else(if k=2 then 1 else 0)+zfa ts) 10001
def zfa:List Tr->Int
 |[]=>0
 |t::l=>zlr t+zfa l
end
def znl (t:Tr):Int:=if zfv t=true then zlr t else 10001
theorem zmu: ∀(t:Tr),t.l.length<(pre t).length
 | .mk k s mn mx ts=>by
  have: ∀l:List Tr,l.length<=(zbj l).length:=fun l=>by
   induction l with
   |nil=>simp[zbj]
   |cons a l ih=>rw[zbj,length_append,length_cons];rw[zef];simp;omega
  simp[pre,Tr.l];have:=this ts;omega
theorem zwh {t x:Tr} (h:x∈pre t):(pre x).length<=(pre t).length:=by
 have key: ∀n,(∀t:Tr,SizeOf.sizeOf t<=n-> ∀x∈pre t,(pre x).length<=(pre t).length):=by
  intro n;induction n with
  |zero=>intro t ht;cases t;simp at ht
  | succ n ih=>
   intro t ht x hx;rw[zef] at hx;rcases mem_cons.1 hx with rfl|hx
   ·exact le_refl _
   ·have hl: ∀l:List Tr,(∀y∈l,SizeOf.sizeOf y<=n)-> ∀x∈zbj l,(pre x).length<=(zbj l).length:=by
     intro l;induction l with
     |nil=>intro _ x hx;simp[zbj] at hx
     | cons a l ihl=>
      intro hs x hx;rw[zbj] at hx⊢;rw[length_append];rcases mem_append.1 hx with hx|hx
      ·have:=ih a (hs a (by simp)) x hx;omega
      ·have:=ihl (fun y hy=>hs y (by simp[hy])) x hx;omega
    have:=hl t.l (fun y hy=>by have:=Tr.sizeOf_l hy;omega) x hx;rw[zef t,length_cons];omega
 exact key _ t (le_refl _) x h
theorem qjx (l:List Tr)(i:Nat)(hi:i<l.length):zfa (l.take (i+1))=zfa (l.take i)+zlr l[i]:=by
 have happ: ∀a b,zfa (a++b)=zfa a+zfa b:=fun a b=>by
  induction a with
  |nil=>simp[zfa]
  |cons x a ih=>rw[cons_append,zfa,zfa,ih,Int.add_assoc]
 rw[List.take_succ_eq_append_getElem hi,happ];simp[zfa]
theorem qfw: ∀t,zlr t<=10001
 | .mk k s mn mx ts=>by rw[zlr];exact Int.min_le_right _ _
mutual
theorem zkt: ∀t,0<=zlr t
 | .mk k s mn mx ts=>by
  have hl:=zej ts;rw[zlr];have h0:0<=(if k=2 then 1 else 0)+zfa ts:=by split<;>omega
  split
  ·have:0<=((if k=2 then 1 else 0)+zfa ts)*min (if mx= -1 then max (max mn 0) 1 else max (max mn 0) mx) 10001:=Int.mul_nonneg h0 (by split<;>omega);omega
  ·omega
theorem zej: ∀l,0<=zfa l
 |[]=>by simp[zfa]
 |t::l=>by have h1:=zkt t;have h2:=zej l;rw[zfa];omega
end
theorem z6j: ∀l,zfa l<=10001*l.length
 |[]=>by simp[zfa]
 |t::l=>by have h1:=qfw t;have h2:=z6j l;rw[zfa,length_cons];omega
def z3h (p:Tr->Tr->Bool):List Tr->List Tr->Bool
 |[],[]=>true
 |x::a,y::b=>p x y&&z3h p a b
 |_,_=>false
theorem ztp (p:Tr->Tr->Bool): ∀a b:List Tr,z3h p a b=true↔a.length=b.length/\ ∀(i:Nat) (h1:i<a.length) (h2:i<b.length),p a[i] b[i]=true
 |[],[]=>by simp[z3h]
 |x::a,[]=>by simp[z3h]
 |[],y::b=>by simp[z3h]
 | x::a,y::b=>by
  rw[z3h,and_eq_true,ztp p a b];constructor
  ·rintro⟨h1,h2,h3⟩;refine⟨by simp[h2],fun i k1 k2=> ?_⟩;cases i with
   |zero=>exact h1
   |succ i=>simpa using h3 i (by simpa using k1) (by simpa using k2)
  ·rintro⟨h1,h2⟩;exact⟨h2 0 (by simp) (by simp),by simpa using h1,fun i k1 k2=>h2 (i+1) (by simpa using k1) (by simpa using k2)⟩
theorem qor {p:Tr->Tr->Bool} {a b:List Tr} (h:a.length≠b.length):z3h p a b=false:=by
 rw[Bool.eq_false_iff,ne_eq,ztp];exact fun h3=>h h3.1
mutual
def zgf:Tr->Tr->Bool
 | .mk k s mn mx l,.mk k' s' mn' mx' l'=>(k:Int)==k'&&decide (s=s')&&mn==mn'&&mx==mx'&&zll l l'
def zll:List Tr->List Tr->Bool
 |[],[]=>true
 |x::a,y::b=>zgf x y&&zll a b
 |_,_=>false
end
theorem z0z: ∀a b,zll a b=z3h zgf a b
 |[],[]=>by simp[zll,z3h]
 |x::a,[]=>by simp[zll,z3h]
 |[],y::b=>by simp[zll,z3h]
 |x::a,y::b=>by rw[zll,z3h,z0z a b]
mutual
theorem z3a: ∀a b,zgf a b=true↔a=b
 | .mk k s mn mx l,.mk k' s' mn' mx' l'=>by
  rw[zgf];simp only[and_eq_true,z4q l l',Tr.mk.injEq,beq_iff_eq,decide_eq_true_eq];constructor
  ·rintro⟨⟨⟨⟨h1,h2⟩,h3⟩,h4⟩,h5⟩;exact⟨by omega,h2,h3,h4,h5⟩
  ·rintro⟨h1,h2,h3,h4,h5⟩;exact⟨⟨⟨⟨by omega,h2⟩,h3⟩,h4⟩,h5⟩
theorem z4q: ∀a b,zll a b=true↔a=b
 |[],[]=>by simp[zll]
 |x::a,[]=>by simp[zll]
 |[],y::b=>by simp[zll]
 |x::a,y::b=>by rw[zll,and_eq_true,z3a x y,z4q a b];simp
end
theorem qnj (k:Nat)(s:BS)(mn mx:Int)(ts:List Tr)(k2:Nat)(s2:BS)(mn2 mx2:Int)(us:List Tr):zgf (.mk k s mn mx ts) (.mk k2 s2 mn2 mx2 us)=((k:Int)==k2&&decide (s=s2)&&mn==mn2&&mx==mx2&&z3h zgf ts us):=by rw[zgf,z0z]
def zaw:Tr:= .mk 0 0#256 0 0 []
def emptyT:Tr:= .mk 1 0#256 0 0 []
def zmy (t:Tr):Bool:=zgf t zaw||zda t
def zdb (t:Tr):Tr:=if zda t=true then t else zaw
theorem zfg {t:Tr} (h:zda t=true):(pre t).length<=10000:=by rw[zda,and_eq_true] at h;simpa[zfv] using h.1
theorem wd_zero (i:Nat):wd 0#256 i=0:=by simp[wd,W64]
def zer (kind without:Nat)(l:List Tr):List Tr:=l.flatMap fun x=>bif (x.k:Int)==kind then x.l else bif (x.k:Int)==without then[] else[x]
def zjt (kind:Nat)(l:List Tr)(none:Tr):Tr:=bif (l.length:Int)==0 then none else bif (l.length:Int)==1 then zdb (l.headD none) else zdb (Tr.mk kind 0#256 0 0 l)
def zny (l:List Tr):Tr:=if(l.any fun x=>(x.k:Int)==0|| !zda x)=true then zaw else zjt 3 (zer 3 1 l) emptyT
def orT (l:List Tr):Tr:=if(l.any fun x=> !zmy x)=true then zaw else zjt 4 (zer 4 0 l) zaw
theorem zcc: ∀a b,zbj (a++b)=zbj a++zbj b
 |[],b=>by simp[zbj]
 |x::a,b=>by rw[cons_append,zbj,zbj,zcc a b,List.append_assoc]
theorem zay: ∀l:List Tr,l.length<=(zbj l).length
 |[]=>by simp[zbj]
 |x::l=>by have:=zay l;rw[zbj,length_append,length_cons,zef];simp;omega
theorem zii (t:Tr):(zbj t.l).length<(pre t).length:=by rw[zef];simp
theorem zna (kind without:Nat): ∀l:List Tr,(zbj (zer kind without l)).length<=(zbj l).length
 |[]=>by simp[zer,zbj]
 | x::l=>by
  have h:=zna kind without l;have hx:=zii x;rw[zer,List.flatMap_cons,zcc,length_append,zbj,length_append];have h2:(zbj (bif (x.k:Int)==kind then x.l else bif (x.k:Int)==without then[] else[x])).length<=(pre x).length:=by
   cases (x.k:Int)==kind<;>cases (x.k:Int)==without<;>simp[zbj]<;>omega
  rw[zer] at h;omega
theorem zcr {x:Tr}: ∀ {l:List Tr},x∈l->(pre x).length<=(zbj l).length
 | y::l,h=>by
  rw[zbj,length_append];rcases mem_cons.1 h with rfl|h
  ·omega
  ·have:=zcr h;omega
def zde (t:Tr)(lo hi:Int):Tr:=
 bif !zmy t||(!(lo==0&&hi==0)&& !(lo==1&&hi==1)&& !zei lo hi) then zaw
 else bif (t.k:Int)==0&&decide (lo>0) then zaw
 else bif (lo==0&&hi==0)||(t.k:Int)==0||(t.k:Int)==1 then emptyT
 else bif lo==1&&hi==1 then t else zdb (.mk 5 0#256 lo hi [t])
def zhw (t:Tr):Tr:=zdb (.mk 6 0#256 0 0 [t])
def ofT (s:BS):Tr:=if s=0#256 then zaw else .mk 2 s 0 0 []
def zjz (t:Tr):Int:=bif !zda t then 80 else bif decide (zsq t>120) then 81 else bif decide (znl t>400) then 82 else bif decide (zvq t>9) then 83 else 0
theorem z0a (k:Nat)(s:BS)(mn mx:Int)(t:Tr):(pre (.mk k s mn mx [t])).length=1+(pre t).length:=by simp[pre,zbj];omega
def zfi (kind:Nat)(l:List Tr):List Tr:=l.flatMap fun x=>bif (x.k:Int)==kind then x.l else bif (kind:Int)==3&&(x.k:Int)==1 then[] else[x]
def qdq (kind:Nat)(l:List Tr):Tr:=bif (l.length:Int)==0 then emptyT else bif (l.length:Int)==1 then l.headD emptyT else .mk kind 0#256 0 0 l
def zfh (kind:Nat)(a b:Tr):Tr:=qdq kind (zfi kind [a,b])
theorem zqz (kind:Nat): ∀l:List Tr,(zbj (zfi kind l)).length<=(zbj l).length
 |[]=>by simp[zfi,zbj]
 | x::l=>by
  have h:=zqz kind l;have hx:=zii x;rw[zfi,List.flatMap_cons,zcc,length_append,zbj,length_append];have h2:(zbj (bif (x.k:Int)==kind then x.l else bif (kind:Int)==3&&(x.k:Int)==1 then[] else[x])).length<=(pre x).length:=by
   cases (x.k:Int)==kind<;>cases (kind:Int)==3&&(x.k:Int)==1<;>simp[zbj]<;>omega
  rw[zfi] at h;omega
theorem qct (kind:Nat)(l:List Tr)(i:Nat)(hi:i<l.length):zfi kind (l.take (i+1))=zfi kind (l.take i)++(bif (l[i].k:Int)==kind then l[i].l else bif (kind:Int)==3&&(l[i].k:Int)==1 then[] else[l[i]]):=by
 rw[List.take_succ_eq_append_getElem hi,zfi,List.flatMap_append];simp[zfi]
theorem zwd (kind:Nat)(l:List Tr)(i:Nat):(zfi kind (l.take i)).length<=(zbj l).length:=by
 refine Nat.le_trans (zay _) (Nat.le_trans (zqz _ _) ?_);conv=>rhs;rw[<-take_append_drop i l]
 rw[zcc,length_append];omega
def bsOf (l:List Nat):BS:=l.foldl (fun s b=>s|||(1#256<<<b)) 0#256
def z8m (l:List Nat):Tr:= .mk 2 (bsOf l) 0 0 []
def zxi:Nat->List Nat
 |0=>[97]|1=>[98]|2=>[97,98]|3=>[97]|4=>[98]|5=>[99]|6=>[97,98,99]|7=>[98,99]|8=>[10]|9=>[0,255]|10=>[97]|_=>[98]
abbrev Sm:=Nat×Nat×Nat
abbrev MSt:=List Tr×Int×Int
def kI (x:Sm):Int:=((x.1%12:Nat):Int)
def zfe (p:List Tr)(i:Nat):Tr:=p[p.length-i]?.getD emptyT
def cA (p:List Tr)(x:Sm):Bool:=decide (kI x<7)&&decide ((p.length:Int)>1)
def cB (p:List Tr)(x:Sm):Bool:=decide (kI x<9)&&decide ((p.length:Int)>1)
def cC (p:List Tr)(g:Int)(x:Sm):Bool:=kI x==9&&decide ((p.length:Int)>0)&&decide (g<9)
def cD (p:List Tr)(x:Sm):Bool:=decide (kI x>9)&&decide ((p.length:Int)>0)&&((zfe p 1).k:Int) !=1
def loM (x:Sm):Int:=((x.2.1%3:Nat):Int)
def m4 (x:Sm):Int:=((x.2.2%4:Nat):Int)
def badM (x:Sm):Bool:=decide (m4 x<loM x)||m4 x==0||loM x==1&&m4 x==1
def moM (x:Sm):Int:=bif badM x then-1 else m4 x
def tmM (x:Sm):Int:=max (max (loM x) (moM x)) 1
def ztf (st:MSt)(x:Sm):MSt:=
 bif decide (kI x<4) then(st.1++[z8m (zxi (x.2.1%12))],st.2.1,st.2.2)
 else bif kI x==4 then(st.1++[emptyT],st.2.1,st.2.2)
 else bif cA st.1 x then(st.1.take (st.1.length-2)++[zfh 3 (zfe st.1 2) (zfe st.1 1)],st.2.1,st.2.2)
 else bif cB st.1 x then(st.1.take (st.1.length-2)++[zfh 4 (zfe st.1 2) (zfe st.1 1)],st.2.1,st.2.2)
 else bif cC st.1 st.2.2 x then(st.1.set (st.1.length-1) (.mk 6 0#256 0 0 [zfe st.1 1]),st.2.1,st.2.2+1)
 else bif cD st.1 x then(bif decide (st.2.1*tmM x<=16) then(st.1.set (st.1.length-1) (.mk 5 0#256 (loM x) (moM x) [zfe st.1 1]),st.2.1*tmM x,st.2.2) else st)
 else st
def MM (l:List Sm)(i:Nat):MSt:=(l.take i).foldl ztf ([],1,0)
def qqw (p:List Tr):Tr:=match p with
 |[]=>z8m [97]
 |x::r=>r.foldl (zfh 4) x
def zta (l:List Sm):Tr:=qqw (MM (l.take 25) 25).1
theorem z7i (l:List Sm)(i:Nat)(hi:i<l.length):MM l (i+1)=ztf (MM l i) l[i]:=by
 rw[MM,List.take_succ_eq_append_getElem hi,List.foldl_append];rfl
theorem znv (kind:Nat)(a b:Tr):(pre (zfh kind a b)).length<=(pre a).length+(pre b).length+1:=by
 have h:=zqz kind [a,b];simp only[zbj,append_nil,length_append] at h;rw[zfh,qdq];obtain⟨l,hl⟩: ∃l,zfi kind [a,b]=l:=⟨_,rfl⟩;rw[hl] at h⊢
 match l,h with
 |[],_=>simp[emptyT,pre,zbj]
 |[x],h=>simp[zbj] at h⊢;omega
 | x::y::l,h=>
  have e1:(((x::y::l).length:Int)==0)=false:=by simp;omega
  have e2:(((x::y::l).length:Int)==1)=false:=by simp;omega
  rw[e1,e2];simp only[cond_false,pre,length_cons];omega
theorem zjh {p:List Tr} {i:Nat} (h0:0<i)(h:i<=p.length):zfe p i=p[p.length-i]'(by omega):=by
 rw[zfe,List.getElem?_eq_getElem (by omega)];rfl
theorem zpk {p:List Tr} (h:2<=p.length):(zbj (p.take (p.length-2))).length+(pre (zfe p 2)).length+(pre (zfe p 1)).length=(zbj p).length:=by
 rw[zjh (by omega) h,zjh (by omega) (by omega)];conv=>rhs;rw[<-take_append_drop (p.length-2) p]
 rw[zcc,length_append,drop_eq_getElem_cons (by omega),show p.length-2+1=p.length-1 by omega,drop_eq_getElem_cons (by omega),show p.length-1+1=p.length by omega,List.drop_length];simp[zbj];omega
theorem z8y {p:List Tr} {y:Tr} (h:0<p.length):(zbj (p.set (p.length-1) y)).length+(pre (zfe p 1)).length=(zbj p).length+(pre y).length:=by
 rw[zjh (by omega) h];rw[List.set_eq_take_append_cons_drop,if_pos (by omega),show p.length-1+1=p.length by omega,List.drop_length,zcc,length_append];conv=>rhs;rw[<-take_append_drop (p.length-1) p]
 rw[zcc,length_append,drop_eq_getElem_cons (by omega),show p.length-1+1=p.length by omega,List.drop_length];simp[zbj];omega
theorem qev (x:Sm):1<=tmM x/\ tmM x<=3:=by
 have h1:x.2.1%3<3:=Nat.mod_lt _ (by decide);have h2:x.2.2%4<4:=Nat.mod_lt _ (by decide);unfold tmM moM;have h3:loM x<=2:=by unfold loM;omega
 have h4:m4 x<=3:=by unfold m4;omega
 cases badM x<;>simp only[cond_true,cond_false]<;>omega
theorem qii (st:MSt)(x:Sm)(i:Nat)(h:(zbj st.1).length<=i/\ 0<=st.2.2/\ st.2.2<=9/\ 1<=st.2.1/\ st.2.1<=16):
 (zbj (ztf st x).1).length<=i+1/\ 0<=(ztf st x).2.2/\ (ztf st x).2.2<=9/\ 1<=(ztf st x).2.1/\ (ztf st x).2.1<=16:=by
 obtain⟨h1,h2,h3,h4,h5⟩:=h;unfold ztf;cases decide (kI x<4)
 ·cases kI x==4
  ·cases hA:cA st.1 x
   ·cases hB:cB st.1 x
    ·cases hC:cC st.1 st.2.2 x
     ·cases hD:cD st.1 x
      ·simp only[cond_false];omega
      ·simp only[cond_false,cond_true];cases hT:decide (st.2.1*tmM x<=16)
       ·simp only[cond_false];omega
       ·simp only[cond_true];have hp:0<st.1.length:=by
         unfold cD at hD;simp only[and_eq_true,decide_eq_true_eq] at hD;omega
        have e:=z8y (p:=st.1) (y:= .mk 5 0#256 (loM x) (moM x) [zfe st.1 1]) hp;rw[z0a] at e;have:=(qev x).1;have h6:1<=st.2.1*tmM x:=by
         have:=Int.mul_le_mul h4 this (by omega) (by omega);omega
        simp only[decide_eq_true_eq] at hT;exact⟨by omega,by omega,by omega,h6,hT⟩
     ·simp only[cond_false,cond_true];unfold cC at hC;simp only[and_eq_true,decide_eq_true_eq] at hC;have e:=z8y (p:=st.1) (y:= .mk 6 0#256 0 0 [zfe st.1 1]) (by omega);rw[z0a] at e;omega
    ·simp only[cond_false,cond_true];unfold cB at hB;simp only[and_eq_true,decide_eq_true_eq] at hB;have e:=zpk (p:=st.1) (by omega);have e2:=znv 4 (zfe st.1 2) (zfe st.1 1);rw[zcc,length_append];simp only[zbj,append_nil];omega
   ·simp only[cond_false,cond_true];unfold cA at hA;simp only[and_eq_true,decide_eq_true_eq] at hA;have e:=zpk (p:=st.1) (by omega);have e2:=znv 3 (zfe st.1 2) (zfe st.1 1);rw[zcc,length_append];simp only[zbj,append_nil];omega
  ·simp only[cond_false,cond_true];rw[zcc,length_append];simp[zbj,emptyT,pre];omega
 ·simp only[cond_true];rw[zcc,length_append];simp[zbj,z8m,pre];omega
theorem invM (l:List Sm): ∀i,i<=l.length->(zbj (MM l i).1).length<=i/\ 0<=(MM l i).2.2/\ (MM l i).2.2<=9/\ 1<=(MM l i).2.1/\ (MM l i).2.1<=16
 |0,_=>by simp[MM,zbj]
 | i+1,h=>by
  rw[z7i l i (by omega)];exact qii _ _ i (invM l i (by omega))
def smc (x:Sm):List AV:=[.raw (.int .u8 x.1),.raw (.int .u8 x.2.1),.raw (.int .u8 x.2.2)]
def qqp:List Sm->List AV
 |[]=>[]
 |x::l=>smc x++qqp l
def qkx (p:List Tr)(i:Nat):Tr:=match p with
 |[]=>emptyT
 |x::r=>(r.take i).foldl (zfh 4) x
theorem z3j {p:List Tr} {i:Nat} (h:i+1<p.length):qkx p (i+1)=zfh 4 (qkx p i) p[i+1]:=by
 cases p with
 |nil=>simp at h
 | cons x r=>
  have hi:i<r.length:=by simpa using h
  simp only[qkx,List.take_succ_eq_append_getElem hi,List.foldl_append,List.foldl_cons,List.foldl_nil,List.getElem_cons_succ]
theorem qhz {p:List Tr} (hp:p≠[]): ∀i,i<p.length->(pre (qkx p i)).length<=(zbj (p.take (i+1))).length+i
 | 0,_=>by
  cases p with
  |nil=>exact absurd rfl hp
  |cons x r=>simp[qkx,zbj]
 | i+1,h=>by
  rw[z3j h];have h1:=znv 4 (qkx p i) p[i+1];have h2:=qhz hp i (by omega);rw[List.take_succ_eq_append_getElem h,zcc,length_append];simp only[zbj,append_nil];omega
theorem zsf (p:List Tr)(i:Nat):(zbj (p.take i)).length<=(zbj p).length:=by
 conv=>rhs;rw[<-take_append_drop i p]
 rw[zcc,length_append];omega
theorem qmd {p:List Tr} (hp:p≠[]):qkx p (p.length-1)=qqw p:=by
 cases p with
 |nil=>exact absurd rfl hp
 |cons x r=>simp[qkx,qqw]
def CR (t:Tr):Prop:=(pre t).all zcn=true
def CRL (l:List Tr):Prop:=(zbj l).all zcn=true
theorem zfc:CRL []:=by simp[CRL,zbj]
theorem zck (t:Tr)(l:List Tr):CRL (t::l)↔CR t/\ CRL l:=by simp[CRL,CR,zbj]
theorem zdr (a b:List Tr):CRL (a++b)↔CRL a/\ CRL b:=by simp[CRL,zcc]
theorem zmv: ∀l:List Tr,CRL l↔ ∀t∈l,CR t
 |[]=>by simp[zfc]
 |t::l=>by rw[zck,zmv l];simp
theorem zjc (t:Tr):CR t↔zcn t=true/\ CRL t.l:=by rw[CR,zef,List.all_cons,and_eq_true];rfl
theorem zfx {t:Tr} {k:Nat}:zwc t k=false↔ ∀y∈t.l,y.k≠k:=by simp[zwc]
theorem qjk {l:List Tr} (h:1<l.length)(h1: ∀t∈l,t.k≠1/\ t.k≠3):zcn (.mk 3 0#256 0 0 l)=true:=by
 have e1:zwc (.mk 3 0#256 0 0 l) 1=false:=zfx.2 fun y hy=>(h1 y hy).1;have e3:zwc (.mk 3 0#256 0 0 l) 3=false:=zfx.2 fun y hy=>(h1 y hy).2;simp[zco,zis,e1,e3];omega
theorem qjq {l:List Tr} (h:1<l.length)(h1: ∀t∈l,t.k≠4):zcn (.mk 4 0#256 0 0 l)=true:=by
 have e1:zwc (.mk 4 0#256 0 0 l) 4=false:=zfx.2 fun y hy=>h1 y hy;simp[zco,zis,e1];omega
theorem qho {t:Tr} {lo hi:Int} (h:t.k≠1)(hb:zei lo hi=true):zcn (.mk 5 0#256 lo hi [t])=true:=by
 have e1:zwc (.mk 5 0#256 lo hi [t]) 1=false:=zfx.2 fun y hy=>by simp[Tr.l] at hy;subst hy;exact h
 simp[zco,zis,e1,hb]
theorem qje (t:Tr):zcn (.mk 6 0#256 0 0 [t])=true:=by simp[zco,zis]
theorem ziu:zcn emptyT=true:=by simp[emptyT,zco,zis]
theorem zvi {t:Tr} (h:zcn t=true):t.k=1 \/t.k=2 \/t.k=3 \/t.k=4 \/t.k=5 \/t.k=6:=by
 cases t with
 | mk k s mn mx l=>
  rw[zco] at h;simp only[Tr.k];by_cases h1:k=1; · exact .inl h1
  by_cases h2:k=2; · exact .inr (.inl h2)
  by_cases h3:k=3; · exact .inr (.inr (.inl h3))
  by_cases h4:k=4; · exact .inr (.inr (.inr (.inl h4)))
  by_cases h5:k=5; · exact .inr (.inr (.inr (.inr (.inl h5))))
  by_cases h6:k=6; · exact .inr (.inr (.inr (.inr (.inr h6))))
  exfalso
  have e: ∀n:Nat,k≠n->((k:Int)==n)=false:=fun n hn=>by simp;omega
  rw[show((k:Int)==1)=false from e 1 h1,show((k:Int)==2)=false from e 2 h2,show((k:Int)==3)=false from e 3 h3,show((k:Int)==4)=false from e 4 h4,show((k:Int)==5)=false from e 5 h5,show((k:Int)==6)=false from e 6 h6] at h;simp at h
theorem zlb {t:Tr} (h:zcn t=true)(hk:t.k=3):1<t.l.length/\ ∀y∈t.l,y.k≠1/\ y.k≠3:=by
 cases t with
 | mk k s mn mx l=>
  simp only[Tr.k] at hk;subst hk;rw[zco] at h;simp only[and_eq_true,Bool.not_eq_true'] at h;have h2:=h.2;simp only[show((((3:Nat):Int))==1)=false from rfl,show((((3:Nat):Int))==2)=false from rfl,show((((3:Nat):Int))==3)=true from rfl,cond_false,cond_true,and_eq_true,Bool.not_eq_true',decide_eq_true_eq] at h2;exact⟨by simp only[Tr.l];omega,fun y hy=>⟨zfx.1 h2.1.2 y hy,zfx.1 h2.2 y hy⟩⟩
theorem zhz {t:Tr} (h:zcn t=true)(hk:t.k=4):1<t.l.length/\ ∀y∈t.l,y.k≠4:=by
 cases t with
 | mk k s mn mx l=>
  simp only[Tr.k] at hk;subst hk;rw[zco] at h;simp only[and_eq_true,Bool.not_eq_true'] at h;have h2:=h.2;simp only[show((((4:Nat):Int))==1)=false from rfl,show((((4:Nat):Int))==2)=false from rfl,show((((4:Nat):Int))==3)=false from rfl,show((((4:Nat):Int))==4)=true from rfl,cond_false,cond_true,and_eq_true,Bool.not_eq_true',decide_eq_true_eq] at h2;exact⟨by simp only[Tr.l];omega,fun y hy=>zfx.1 h2.2 y hy⟩
theorem z5y (t:Tr)(h5:t.k≠5)(h2:t.k≠2):zlr t=min (zfa t.l) 10001:=by
 cases t with
 |mk k s mn mx l=>simp only[Tr.k] at h5 h2;simp[zlr,h5,h2,Tr.l]
theorem zdc: ∀a b,zfa (a++b)=zfa a+zfa b
 |[],b=>by simp[zfa]
 |x::a,b=>by rw[cons_append,zfa,zfa,zdc a b];omega
theorem zwp:zlr emptyT=0:=by simp[emptyT,zlr,zfa];rfl
theorem qai (l:List Nat):zlr (z8m l)=1:=by simp[z8m,zlr,zfa];rfl
def grT (t:Tr):Nat:=(pre t).countP fun x=>decide (x.k=6)
def grL (l:List Tr):Nat:=(zbj l).countP fun x=>decide (x.k=6)
theorem zex:grL []=0:=by simp[grL,zbj]
theorem zcz (t:Tr)(l:List Tr):grL (t::l)=grT t+grL l:=by simp[grL,grT,zbj]
theorem zeb (a b:List Tr):grL (a++b)=grL a+grL b:=by simp[grL,zcc]
theorem qrf (t:Tr):grT t=grL t.l+(if t.k=6 then 1 else 0):=by rw[grT,zef,List.countP_cons];simp[grL]
theorem qgt (k:Nat)(s:BS)(mn mx:Int)(l:List Tr):grT (.mk k s mn mx l)=grL l+(if k=6 then 1 else 0):=qrf _
theorem z2k:grT emptyT=0:=by simp[emptyT,grT,pre,zbj,Tr.k]
theorem qey (l:List Nat):grT (z8m l)=0:=by simp[z8m,grT,pre,zbj,Tr.k]
theorem znk (kind:Nat)(x:Tr)(l:List Tr):zfi kind (x::l)=(bif (x.k:Int)==kind then x.l else bif (kind:Int)==3&&(x.k:Int)==1 then[] else[x])++zfi kind l:=by simp[zfi]
def G3 (l:List Tr):Prop:=CRL l/\ ∀y∈l,y.k≠1/\ y.k≠3
def G4 (l:List Tr):Prop:=CRL l/\ ∀y∈l,y.k≠4
theorem zwo: ∀ {l:List Tr},CRL l->G3 (zfi 3 l)
 |[],_=>⟨zfc,by simp[zfi]⟩
 | x ::l,h=>by
  rw[zck] at h;obtain⟨g1,g2⟩:=zwo h.2;have hx:=(zjc x).1 h.1;rw[znk];by_cases h3:x.k=3
  ·have e:((x.k:Int)==((3:Nat):Int))=true:=by simp[h3]
   rw[e,cond_true];refine⟨(zdr _ _).2 ⟨hx.2,g1⟩,fun y hy=> ?_⟩;rcases mem_append.1 hy with hy|hy
   ·exact(zlb hx.1 h3).2 y hy
   ·exact g2 y hy
  ·have e:((x.k:Int)==((3:Nat):Int))=false:=by simp;omega
   rw[e,cond_false];by_cases h1:x.k=1
   ·have e1:((((3:Nat):Int)==3)&&((x.k:Int)==1))=true:=by simp[h1]
    rw[e1,cond_true,nil_append];exact⟨g1,g2⟩
   ·have e1:((((3:Nat):Int)==3)&&((x.k:Int)==1))=false:=by simp;omega
    rw[e1,cond_false,List.singleton_append];refine⟨(zck _ _).2 ⟨h.1,g1⟩,fun y hy=> ?_⟩;rcases mem_cons.1 hy with rfl|hy
    ·exact⟨h1,h3⟩
    ·exact g2 y hy
theorem zwn: ∀ {l:List Tr},CRL l->G4 (zfi 4 l)
 |[],_=>⟨zfc,by simp[zfi]⟩
 | x::l,h=>by
  rw[zck] at h;obtain⟨g1,g2⟩:=zwn h.2;have hx:=(zjc x).1 h.1;rw[znk];by_cases h3:x.k=4
  ·have e:((x.k:Int)==((4:Nat):Int))=true:=by simp[h3]
   rw[e,cond_true];refine⟨(zdr _ _).2 ⟨hx.2,g1⟩,fun y hy=> ?_⟩;rcases mem_append.1 hy with hy|hy
   ·exact(zhz hx.1 h3).2 y hy
   ·exact g2 y hy
  ·have e:((x.k:Int)==((4:Nat):Int))=false:=by simp;omega
   have e1:((((4:Nat):Int)==3)&&((x.k:Int)==1))=false:=by simp
   rw[e,cond_false,e1,cond_false,List.singleton_append];refine⟨(zck _ _).2 ⟨h.1,g1⟩,fun y hy=> ?_⟩;rcases mem_cons.1 hy with rfl|hy
   ·exact h3
   ·exact g2 y hy
theorem qad (kind:Nat)(x:Tr):qdq kind [x]=x:=rfl
theorem ztl (kind:Nat)(x y:Tr)(l:List Tr):qdq kind (x::y::l)= .mk kind 0#256 0 0 (x::y::l):=by
 have e1:(((x::y::l).length:Int)==0)=false:=by simp;omega
 have e2:(((x::y::l).length:Int)==1)=false:=by simp;omega
 rw[qdq,e1,e2];rfl
theorem qnk: ∀ {l:List Tr},G3 l->CR (qdq 3 l)
 |[],_=>(zjc _).2 ⟨ziu,zfc⟩
 |[x],h=>(zmv _).1 h.1 x (by simp)
 |x::y::l,h=>by rw[ztl];exact(zjc _).2 ⟨qjk (by simp) h.2,h.1⟩
theorem qod: ∀ {l:List Tr},G4 l->CR (qdq 4 l)
 |[],_=>(zjc _).2 ⟨ziu,zfc⟩
 |[x],h=>(zmv _).1 h.1 x (by simp)
 |x::y::l,h=>by rw[ztl];exact(zjc _).2 ⟨qjq (by simp) h.2,h.1⟩
theorem qkm {a b:Tr} (ha:CR a)(hb:CR b):CR (zfh 3 a b):=qnk (zwo ((zmv _).2 (by simp[ha,hb])))
theorem z1g {a b:Tr} (ha:CR a)(hb:CR b):CR (zfh 4 a b):=qod (zwn ((zmv _).2 (by simp[ha,hb])))
theorem z3f (kind:Nat)(hk:kind=3 \/kind=4): ∀l:List Tr,zfa l<=10000->zfa (zfi kind l)<=zfa l
 |[],_=>by simp[zfi,zfa]
 | x ::l,h=>by
  rw[zfa] at h;have h1:=zkt x;have h2:=zej l;have ih:=z3f kind hk l (by omega);rw[znk,zdc,zfa];have:zfa (bif (x.k:Int)==kind then x.l else bif (kind:Int)==3&&(x.k:Int)==1 then[] else[x])<=zlr x:=by
   cases e:(x.k:Int)==kind
   ·rw[cond_false];cases (kind:Int)==3&&(x.k:Int)==1
    ·simp[zfa]
    ·simp[zfa];omega
   ·rw[cond_true];have e':x.k=kind:=by simp at e;omega
    have:=z5y x (by omega) (by omega);omega
  omega
theorem qox (kind:Nat)(hk:kind=3 \/kind=4): ∀l:List Tr,zlr (qdq kind l)<=zfa l
 |[]=>by rw[show qdq kind []=emptyT from rfl,zwp];simp[zfa]
 |[x]=>by rw[qad];simp[zfa]
 | x::y::l=>by
  rw[ztl,z5y _ (by simp only[Tr.k];omega) (by simp only[Tr.k];omega)];simp only[Tr.l];omega
theorem zud (kind:Nat)(hk:kind=3 \/kind=4) {a b:Tr} (h:zlr a+zlr b<=10000):zlr (zfh kind a b)<=zlr a+zlr b:=by
 have h0:zfa [a,b]=zlr a+zlr b:=by simp[zfa]
 have h1:=z3f kind hk [a,b] (by omega);have h2:=qox kind hk (zfi kind [a,b]);rw[zfh];omega
theorem z7j (kind:Nat)(hk:kind=3 \/kind=4): ∀l:List Tr,CRL l->grL (zfi kind l)<=grL l
 |[],_=>by simp[zfi]
 | x ::l,h=>by
  rw[zck] at h;have ih:=z7j kind hk l h.2;rw[znk,zeb,zcz];have:grL (bif (x.k:Int)==kind then x.l else bif (kind:Int)==3&&(x.k:Int)==1 then[] else[x])<=grT x:=by
   cases e:(x.k:Int)==kind
   ·rw[cond_false];cases (kind:Int)==3&&(x.k:Int)==1
    ·rw[cond_false,zcz,zex];omega
    ·rw[cond_true,zex];omega
   ·rw[cond_true];have:=qrf x;omega
  omega
theorem endJ_gr (kind:Nat)(hk:kind=3 \/kind=4): ∀l:List Tr,grT (qdq kind l)<=grL l
 |[]=>by rw[show qdq kind []=emptyT from rfl,z2k];omega
 |[x]=>by rw[qad,zcz];omega
 | x::y::l=>by
  rw[ztl,qgt,if_neg (by omega)];omega
theorem zyp (kind:Nat)(hk:kind=3 \/kind=4) {a b:Tr} (ha:CR a)(hb:CR b):grT (zfh kind a b)<=grT a+grT b:=by
 have h1:=z7j kind hk [a,b] ((zmv _).2 (by simp[ha,hb]));have h2:=endJ_gr kind hk (zfi kind [a,b]);simp only[zcz,zex] at h1;rw[zfh];omega
structure OkM (st:MSt)(i:Nat):Prop where
 cr:CRL st.1
 pos:zfa st.1<=(i:Int)*st.2.1
 gr:(grL st.1:Int)<=st.2.2
theorem zwl {p:List Tr} (h:0<p.length):p=p.take (p.length-1)++[zfe p 1]:=by
 rw[zjh (by omega) (by omega)];conv=>lhs;rw[<-take_append_drop (p.length-1) p]
 rw[drop_eq_getElem_cons (by omega),List.drop_of_length_le (by omega)]
theorem z0w {p:List Tr} (h:2<=p.length):p=p.take (p.length-2)++[zfe p 2,zfe p 1]:=by
 rw[zjh (i:=2) (by omega) (by omega),zjh (i:=1) (by omega) (by omega)];conv=>lhs;rw[<-take_append_drop (p.length-2) p]
 rw[drop_eq_getElem_cons (by omega),drop_eq_getElem_cons (by omega),List.drop_of_length_le (by omega)];simp only[show p.length-2+1=p.length-1 by omega]
theorem z7u {p:List Tr} (h:0<p.length)(y:Tr):p.set (p.length-1) y=p.take (p.length-1)++[y]:=by
 rw[List.set_eq_take_append_cons_drop,if_pos (by omega),List.drop_of_length_le (by omega)]
theorem qeu: ∀j,j<12->zcn (z8m (zxi j))=true:=by decide+kernel
theorem qqa {j:Nat} (h:j<12):CR (z8m (zxi j)):=(zjc _).2 ⟨qeu j h,zfc⟩
theorem qfk (x:Sm):zei (loM x) (moM x)=true:=by
 have h1:x.2.1%3<3:=Nat.mod_lt _ (by decide);have h2:x.2.2%4<4:=Nat.mod_lt _ (by decide);unfold moM badM loM m4;generalize x.2.1%3=a at*
 generalize x.2.2%4=b at*
 have key: ∀a,a<3-> ∀b,b<4->zei ((a:Nat):Int) (bif decide (((b:Nat):Int)<(a:Int))||(b:Int)==0||(a:Int)==1&&(b:Int)==1 then-1 else(b:Int))=true:=by decide
 exact key a h1 b h2
theorem z6o (x:Sm)(t:Tr):zlr (.mk 5 0#256 (loM x) (moM x) [t])<=zlr t*tmM x:=by
 have h1:x.2.1%3<3:=Nat.mod_lt _ (by decide);have h2:x.2.2%4<4:=Nat.mod_lt _ (by decide);have h0:=zkt t;have hlo:0<=loM x:=by unfold loM;omega
 have hf:min (if moM x= -1 then max (max (loM x) 0) 1 else max (max (loM x) 0) (moM x)) 10001<=tmM x:=by
  unfold tmM;split
  ·rename_i e;rw[e];omega
  ·omega
 have hm:=Int.mul_le_mul_of_nonneg_left hf h0;simp only[zlr,zfa,if_true,if_neg (show ¬(5=2) by decide),Int.add_zero,Int.zero_add];omega
theorem qpo {st:MSt} {i:Nat} (x:Sm)(h:OkM st i)(hi:i<=25)(hv:0<=st.2.2/\ st.2.2<=9/\ 1<=st.2.1/\ st.2.1<=16):OkM (ztf st x) (i+1):=by
 obtain⟨c,p,g⟩:=h;obtain⟨v1,v2,v3,v4⟩:=hv;have e0:((i+1:Nat):Int)*st.2.1=(i:Int)*st.2.1+st.2.1:=by rw[Int.natCast_add,Int.add_mul];simp
 have e400:(i:Int)*st.2.1<=400:=by
  have:=Int.mul_le_mul (show(i:Int)<=25 by omega) v4 (by omega) (by omega);omega
 have c0:=(zmv _).1 c;unfold ztf;cases decide (kI x<4)
 ·cases kI x==4
  ·cases hA:cA st.1 x
   ·cases hB:cB st.1 x
    ·cases hC:cC st.1 st.2.2 x
     ·cases hD:cD st.1 x
      ·simp only[cond_false];exact⟨c,by omega,g⟩
      ·simp only[cond_false,cond_true];cases hT:decide (st.2.1*tmM x<=16)
       ·simp only[cond_false];exact⟨c,by omega,g⟩
       ·simp only[cond_true];unfold cD at hD;simp only[and_eq_true,decide_eq_true_eq,bne_iff_ne,ne_eq] at hD;have hp:0<st.1.length:=by omega
        have es:=zwl hp;rw[z7u hp];rw[es,zdr,zck] at c;rw[es,zdc] at p;rw[es,zeb,zcz,zex] at g;simp only[zfa,Int.add_zero] at p;refine⟨(zdr _ _).2 ⟨c.1,(zck _ _).2 ⟨(zjc _).2 ⟨qho (by omega) (qfk x),(zck _ _).2 ⟨c.2.1,zfc⟩⟩,zfc⟩⟩,?_,?_⟩
        ·have h1:=z6o x (zfe st.1 1);have h2:=zej (st.1.take (st.1.length-1));have h3:=(qev x).1;rw[zdc];simp only[zfa,Int.add_zero];have h4:=Int.mul_le_mul_of_nonneg_right p (show 0<=tmM x by omega);have h5:=Int.mul_le_mul_of_nonneg_left h3 h2;rw[Int.add_mul] at h4;have e1:((i+1:Nat):Int)*(st.2.1*tmM x)=(i:Int)*st.2.1*tmM x+st.2.1*tmM x:=by
          rw[Int.natCast_add,Int.add_mul,Int.mul_assoc];simp
         have h6:0<=st.2.1*tmM x:=Int.mul_nonneg (by omega) (by omega);rw[e1];omega
        ·dsimp only;rw[zeb,zcz,zex,qgt,zcz,zex,if_neg (by decide)];omega
     ·simp only[cond_false,cond_true];unfold cC at hC;simp only[and_eq_true,decide_eq_true_eq] at hC;have hp:0<st.1.length:=by omega
      have es:=zwl hp;rw[z7u hp];rw[es,zdr,zck] at c;rw[es,zdc] at p;rw[es,zeb,zcz,zex] at g;simp only[zfa,Int.add_zero] at p;refine⟨(zdr _ _).2 ⟨c.1,(zck _ _).2 ⟨(zjc _).2 ⟨qje _,(zck _ _).2 ⟨c.2.1,zfc⟩⟩,zfc⟩⟩,?_,?_⟩
      ·rw[zdc,zfa,z5y _ (by simp only[Tr.k];omega) (by simp only[Tr.k];omega)];simp only[Tr.l,zfa,Int.add_zero];omega
      ·dsimp only;rw[zeb,zcz,zex,qgt,zcz,zex,if_pos rfl];omega
    ·simp only[cond_false,cond_true];unfold cB at hB;simp only[and_eq_true,decide_eq_true_eq] at hB;have hp:2<=st.1.length:=by omega
     have es:=z0w hp;rw[es,zdr,zck,zck] at c;rw[es,zdc] at p;rw[es,zeb,zcz,zcz,zex] at g;simp only[zfa,Int.add_zero] at p;have n0:=zej (st.1.take (st.1.length-2));refine⟨(zdr _ _).2 ⟨c.1,(zck _ _).2 ⟨z1g c.2.1 c.2.2.1,zfc⟩⟩,?_,?_⟩
     ·have:=zud 4 (.inr rfl) (a:=zfe st.1 2) (b:=zfe st.1 1) (by omega);rw[zdc];simp only[zfa,Int.add_zero];omega
     ·dsimp only;have:=zyp 4 (.inr rfl) c.2.1 c.2.2.1
      rw[zeb,zcz,zex];omega
   ·simp only[cond_false,cond_true];unfold cA at hA;simp only[and_eq_true,decide_eq_true_eq] at hA;have hp:2<=st.1.length:=by omega
    have es:=z0w hp;rw[es,zdr,zck,zck] at c;rw[es,zdc] at p;rw[es,zeb,zcz,zcz,zex] at g;simp only[zfa,Int.add_zero] at p;have n0:=zej (st.1.take (st.1.length-2));refine⟨(zdr _ _).2 ⟨c.1,(zck _ _).2 ⟨qkm c.2.1 c.2.2.1,zfc⟩⟩,?_,?_⟩
    ·have:=zud 3 (.inl rfl) (a:=zfe st.1 2) (b:=zfe st.1 1) (by omega);rw[zdc];simp only[zfa,Int.add_zero];omega
    ·dsimp only;have:=zyp 3 (.inl rfl) c.2.1 c.2.2.1
     rw[zeb,zcz,zex];omega
  ·simp only[cond_false,cond_true];refine⟨(zdr _ _).2 ⟨c,(zck _ _).2 ⟨(zjc _).2 ⟨ziu,zfc⟩,zfc⟩⟩,?_,?_⟩
   ·rw[zdc];simp only[zfa,zwp];omega
   ·dsimp only;rw[zeb,zcz,zex,z2k];omega
 ·simp only[cond_true];refine⟨(zdr _ _).2 ⟨c,(zck _ _).2 ⟨qqa (Nat.mod_lt _ (by decide)),zfc⟩⟩,?_,?_⟩
  ·rw[zdc];simp only[zfa,qai];omega
  ·dsimp only;rw[zeb,zcz,zex,qey];omega
theorem okM (l:List Sm)(hl:l.length<=25): ∀i,i<=l.length->OkM (MM l i) i
 |0,_=>⟨by simp[MM];exact zfc,by simp[MM,zfa],by simp[MM,zex]⟩
 | i+1,h=>by
  rw[z7i l i (by omega)];have:=invM l i (by omega);exact qpo _ (okM l hl i (by omega)) (by omega) ⟨this.2.1,this.2.2.1,this.2.2.2.1,this.2.2.2.2⟩
theorem qkg: ∀(r:List Tr) (x:Tr),CR x->CRL r->zlr x+zfa r<=400->
 CR (r.foldl (zfh 4) x)/\ zlr (r.foldl (zfh 4) x)<=zlr x+zfa r/\ grT (r.foldl (zfh 4) x)<=grT x+grL r/\ (pre (r.foldl (zfh 4) x)).length<=(pre x).length+(zbj r).length+r.length
 |[],x,h,_,_=>by simp[zfa,zex,zbj,h]
 | y::r,x,h,hr,hp=>by
  rw[zck] at hr;rw[zfa] at hp;have n1:=zej r;have j1:=zud 4 (.inr rfl) (a:=x) (b:=y) (by omega);have j2:=zyp 4 (.inr rfl) h hr.1;have j3:=znv 4 x y;obtain⟨k1,k2,k3,k4⟩:=qkg r (zfh 4 x y) (z1g h hr.1) hr.2 (by omega);rw[List.foldl_cons,zfa,zcz,zbj,length_append,length_cons];exact⟨k1,by omega,by omega,by omega⟩
theorem made_ok (l:List Sm):CR (zta l)/\ zlr (zta l)<=400/\ grT (zta l)<=9/\ (pre (zta l)).length<=50:=by
 obtain⟨m,hm⟩: ∃m,l.take 25=m:=⟨_,rfl⟩;have hlen:m.length<=25:=by rw[<-hm,List.length_take];omega
 rw[zta,hm];have e:MM m 25=MM m m.length:=by rw[MM,MM,List.take_of_length_le hlen,List.take_length]
 rw[e];have o:=okM m hlen m.length (le_refl _);have v:=invM m m.length (le_refl _);obtain⟨c,p,g⟩:=o;have p400:zfa (MM m m.length).1<=400:=by
  have:=Int.mul_le_mul (show(m.length:Int)<=25 by omega) v.2.2.2.2 (by omega) (by omega);omega
 match h:(MM m m.length).1 with
 |[]=>exact⟨qqa (j:=0) (by decide),by rw[qqw,qai];omega,by rw[qqw,qey];omega,by simp[qqw,z8m,pre,zbj]⟩
 | x::r=>
  rw[h] at c p400 g v;rw[zck] at c;rw[zfa] at p400;rw[zcz] at g;have hv:=v.1;rw[zbj,length_append] at hv;obtain⟨k1,k2,k3,k4⟩:=qkg r x c.1 c.2 (by omega);have hr:=zay r;rw[qqw];exact⟨k1,by omega,by omega,by omega⟩
theorem qli {t:Tr} (h:CR t)(hl:(pre t).length<=10000):zda t=true:=by
 rw[zda,zfv,and_eq_true];exact⟨by simpa using hl,h⟩
structure MT (t:Tr):Prop where
 cr:CR t
 pos:zlr t<=400
 gr:grT t<=9
 len:(pre t).length<=50
theorem MT.clean {t:Tr} (h:MT t):zda t=true:=qli h.cr (by have:=h.len;omega)
theorem MT.good {t:Tr} (h:MT t):zmy t=true:=by rw[zmy,h.clean,Bool.or_true]
theorem MT.k0 {t:Tr} (h:MT t):t.k≠0:=by have:=zvi ((zjc t).1 h.cr).1;omega
def CS (n:Nat)(t:Tr):Prop:=CR t/\ (pre t).length<=n
theorem MT.cs {t:Tr} (h:MT t):CS 50 t:=⟨h.cr,h.len⟩
theorem CR.k0 {t:Tr} (h:CR t):t.k≠0:=by have:=zvi ((zjc t).1 h).1;omega
def qkp (c:Int):List AV:=[.raw (.int .u8 c)]
theorem zyd: ∀j:Nat,j<256->zgc .u8 (j:Int) 6=((j/64:Nat):Int)/\ zlx .u8 (j:Int) 63=((j%64:Nat):Int)/\ IntKind.u8.wrap (j:Int)=(j:Int):=by decide+kernel
theorem z3e {n:Nat} (h:n<2^64):IntKind.u64.wrap (n:Int)=(n:Int):=by
 simp only[IntKind.wrap,IntKind.bits,IntKind.signed];simp;omega
theorem z9m (w:BitVec 64):IntKind.u64.wrap ((w.toNat:Nat):Int)=((w.toNat:Nat):Int):=z3e w.isLt
theorem z5j (x:BitVec 64):BitVec.ofInt 64 ((x.toNat:Nat):Int)=x:=by
 apply BitVec.eq_of_toNat_eq;simp
theorem orI64 (x y:BitVec 64):orI .u64 (x.toNat:Int) (y.toNat:Int)=((x|||y).toNat:Int):=by
 show IntKind.u64.wrap (((BitVec.ofInt 64 (x.toNat:Int)|||BitVec.ofInt 64 (y.toNat:Int)).toNat:Nat):Int)=_;rw[z5j,z5j];exact z9m _
theorem qhl (a b:BS)(i:Nat):orI .u64 (wd a i) (wd b i)=wd (a|||b) i:=by
 unfold wd;rw[orI64];have:W64 a i|||W64 b i=W64 (a|||b) i:=by
  apply BitVec.eq_of_getLsbD_eq;intro j hj;simp only[W64,BitVec.getLsbD_or,BitVec.getLsbD_extractLsb',hj,decide_true,Bool.true_and]
 rw[this]
theorem z9q (w:BitVec 64)(r:Nat)(hr:r<64):(zlx .u64 (zgc .u64 ((w.toNat:Nat):Int) (r:Int)) 1==1)=w.getLsbD r:=by
 have hw:=w.isLt;have h1:zgc .u64 ((w.toNat:Nat):Int) (r:Int)=((w.toNat/2^r:Nat):Int):=by
  unfold zgc;rw[show min (r:Int).toNat IntKind.u64.bits=r from by simp[IntKind.bits];omega];rw[Int.fdiv_eq_ediv_of_nonneg _ (by exact_mod_cast Nat.zero_le _)]
  norm_cast
 rw[h1];have h2:w.toNat/2^r<2^64:=Nat.lt_of_le_of_lt (Nat.div_le_self _ _) hw
 show(IntKind.u64.wrap (((BitVec.ofInt 64 ((w.toNat/2^r:Nat):Int)&&&BitVec.ofInt 64 1).toNat:Nat):Int)==1)=_
 have h3:(BitVec.ofInt 64 ((w.toNat/2^r:Nat):Int)&&&BitVec.ofInt 64 1).toNat=w.toNat/2^r%2:=by
  rw[BitVec.toNat_and];have e1:(BitVec.ofInt 64 ((w.toNat/2^r:Nat):Int)).toNat=w.toNat/2^r:=by
   rw[BitVec.ofInt_natCast,BitVec.toNat_ofNat];exact Nat.mod_eq_of_lt h2
  have e2:(BitVec.ofInt 64 1).toNat=1:=rfl;rw[e1,e2,Nat.and_one_is_mod]
 rw[h3];have h4:w.toNat/2^r%2<2:=Nat.mod_lt _ (by decide);have h5:IntKind.u64.wrap ((w.toNat/2^r%2:Nat):Int)=((w.toNat/2^r%2:Nat):Int):=z3e (Nat.lt_trans h4 (by decide));rw[h5,BitVec.getLsbD,Nat.testBit_eq_decide_div_mod_eq];generalize w.toNat/2^r%2=m
 rw[Bool.eq_iff_iff];simp only[beq_iff_eq,decide_eq_true_eq];omega
def elN (s:BS)(i:Nat):List Nat:=(List.range i).filter fun j=>s.getLsbD j
def els (s:BS):List Int:=(elN s 256).map fun(j:Nat)=>(j:Int)
theorem z0e (s:BS)(i:Nat):elN s (i+1)=elN s i++(if s.getLsbD i=true then[i] else[]):=by
 rw[elN,List.range_succ,List.filter_append];simp[elN,List.filter_cons]
theorem qdy (s:BS) {i:Nat} (h:s.getLsbD i=true): ∀k,i<k->(elN s k)[(elN s i).length]? =some i
 |0,hk=>by omega
 | k+1,hk=>by
  rw[z0e];by_cases e:i=k
  ·subst e;rw[if_pos h];simp
  ·have ih:=qdy s h k (by omega);rw[List.getElem?_append_left (List.getElem?_eq_some_iff.1 ih).1];exact ih
def z1x (t:Tr):List AV:=[.raw (.int .u8 t.k),.raw (.int .u64 (wd t.s 0)),.raw (.int .u64 (wd t.s 1)),.raw (.int .u64 (wd t.s 2)),.raw (.int .u64 (wd t.s 3)),.raw (.int .i64 t.mn),.raw (.int .i64 t.mx),.list t.l.length (cellsL t.l) .none]
theorem zux (t:Tr):cells t=z1x t:=qmi t
instance:Enc Tr where
 inh:=zaw
 cells:=z1x
 cellsL:=cellsL
 sz:=8
 pos:=by decide
 nil:=by simp[cellsL]
 cons a l:=by rw[cellsL,zux]
 len _:=rfl
 clo t:=by rw[<-zux];exact z2r t
theorem enc_eq (t:Tr):enc t= .agg (Enc.cells t):=by rw[enc,zux];rfl
theorem qbi {E:Int} (g:0<=E)(s:BS)(mn mx:Int)(l:List Tr):AV.agg (Enc.cells (Tr.mk (toNat E) s mn mx l))= .agg [.raw (.int .u8 E),.raw (.int .u64 (wd s 0)),.raw (.int .u64 (wd s 1)),.raw (.int .u64 (wd s 2)),.raw (.int .u64 (wd s 3)),.raw (.int .i64 mn),.raw (.int .i64 mx),.list l.length (cellsL l) .none]:=by
 show AV.agg (z1x _)=_;simp only[z1x,Tr.k,Tr.s,Tr.mn,Tr.mx,Tr.l,Int.toNat_of_nonneg g]
def qny (t:Tr)(st:Room):AV:= .agg [.raw (.int .u8 t.k),.raw (.int .u64 (wd t.s 0)),.raw (.int .u64 (wd t.s 1)),.raw (.int .u64 (wd t.s 2)),.raw (.int .u64 (wd t.s 3)),.raw (.int .i64 t.mn),.raw (.int .i64 t.mx),.list t.l.length (cellsL t.l) st]
theorem z5h (t:Tr)(st:Room):zcw (qny t st)= .agg (Enc.cells t):=by
 simp only[qny,zcw,stripL,zjl];rfl
def qqd (s:BS):List AV:=[.raw (.int .u64 (wd s 0)),.raw (.int .u64 (wd s 1)),.raw (.int .u64 (wd s 2)),.raw (.int .u64 (wd s 3))]
instance:Enc BS where
 inh:=0#256
 cells:=qqd
 cellsL l:=l.flatMap qqd
 sz:=4
 pos:=by decide
 nil:=rfl
 cons _ _:=rfl
 len _:=rfl
 clo _:=rfl
instance:Enc Sm where
 inh:=(0,0,0)
 cells:=smc
 cellsL:=qqp
 sz:=3
 pos:=by decide
 nil:=by simp[qqp]
 cons _ _:=by simp[qqp]
 len _:=rfl
 clo _:=rfl
structure Rgx where
 b:Bool
 e:Bool
 t:Tr
def qqc (r:Rgx):List AV:= .raw (.bool r.b):: .raw (.bool r.e)::z1x r.t
instance:Enc Rgx where
 inh:=⟨false,false,zaw⟩
 cells:=qqc
 cellsL l:=l.flatMap qqc
 sz:=10
 pos:=by decide
 nil:=rfl
 cons _ _:=rfl
 len _:=rfl
 clo r:=by have:=Enc.clo r.t;exact this
def zoi (t:Tr):List AV:=[.agg (Enc.cells t)]
theorem qlq (t:Tr):t∈pre t:=by rw[zef];simp
theorem qem {t:Tr} (h:zda t=false):zjz t=80:=by rw[zjz,h];rfl
theorem zur {α:Type} [Enc α] {l:List α} {i:Nat} (h:i<l.length):ix l (i:Int)=l[i]:=by simp[ix,h]
def qoz (k:Int)(s:BS)(mn mx:Int)(l:List Tr)(st:Room):AV:= .agg [.raw (.int .u8 k),.raw (.int .u64 (wd s 0)),.raw (.int .u64 (wd s 1)),.raw (.int .u64 (wd s 2)),.raw (.int .u64 (wd s 3)),.raw (.int .i64 mn),.raw (.int .i64 mx),.list l.length (cellsL l) st]
theorem zut {k:Int} (g:0<=k)(s:BS)(mn mx:Int)(l:List Tr)(st:Room):zcw (qoz k s mn mx l st)= .agg (Enc.cells (Tr.mk k.toNat s mn mx l)):=by
 rw[qbi g];simp only[qoz,zcw,stripL,zjl]
abbrev DSt:=Array Bool×List AV×St
def zrp (P:Program)(Ψ:CallS)(cp:CallP)(cs:CallS)(o:Oper)(S:List AV)(U:St):Option (AV×St):=
 match zcx S o with
 | some (f,args)=>(match Ψ f args U with
  |some (r,U')=>if U'.out=U.out/\ U'.stop=U.stop then some (r,U') else none
  |none=>zxe P cp cs o S U)
 |none=>zxe P cp cs o S U
theorem zia {P:Program} {cp:CallP} {cs Ψ:CallS} (hΨ:qks P Ψ)(hcp:qkq P cp)(hcs:qks P cs) {o:Oper} {S:List AV} {U U':St} {a:AV} (h:zrp P Ψ cp cs o S U=some (a,U')) {K:AV->St->Prop} (hK:K a U'):zfd (ITP P) P none o S U K:=by
 unfold zrp at h;split at h
 ·rename_i f args hc;split at h
  ·rename_i r τ hr;split at h
   ·rename_i hos;cases h;unfold zfd;rw[hc];exact⟨a,U',.inl ⟨hΨ _ _ _ _ _ hr,hos⟩,hK⟩
   ·cases h
  ·exact zjp hcp hcs h hK
 ·exact zjp hcp hcs h hK
def zpe (P:Program)(Ψ:CallS)(cp:CallP)(cs:CallS)(ops:Array Oper):List Oper->List AV->St->Option (List AV×St)
 |[],S,U=>some (S,U)
 | o ::l,S,U=>match o.guard with
  | none=>match zrp P Ψ cp cs o S U with
   |some (a,U')=>zpe P Ψ cp cs ops l (zah S o.dst a) U'
   |none=>none
  | some (k,b)=>match zea ops S k with
   | some c=>if c=some b then(match zrp P Ψ cp cs o S U with
    |some (a,U')=>zpe P Ψ cp cs ops l (zah S o.dst a) U'
    |none=>none) else zpe P Ψ cp cs ops l (zah S o.dst (.raw undef)) U
   |none=>none
theorem zga {P:Program} {cp:CallP} {cs Ψ:CallS} (hΨ:qks P Ψ)(hcp:qkq P cp)(hcs:qks P cs) {ops:Array Oper}: ∀(l:List Oper) (S:List AV) (U:St) (S':List AV) (U':St),zpe P Ψ cp cs ops l S U=some (S',U')->S'.length=S.length/\ ∀Q:List AV->St->Prop,Q S' U'->zcb (ITP P) P none ops Q l S U
 |[],S,U,S',U',h=>by simp only[zpe,Option.some.injEq,Prod.mk.injEq] at h;obtain⟨rfl,rfl⟩:=h;exact⟨rfl,fun Q h=>h⟩
 | o ::l,S,U,S',U',h=>by
  simp only[zpe] at h;simp only[zcb];cases hg:o.guard with
  | none=>
   rw[hg] at h;simp only at h⊢;split at h<;>try cases h
   rename_i a U1 hs;obtain⟨h1,h2⟩:=zga hΨ hcp hcs l _ _ _ _ h;exact⟨by rw[h1,zbh],fun Q hQ=>zia hΨ hcp hcs hs (h2 Q hQ)⟩
  | some kb=>
   obtain⟨k,b⟩:=kb;rw[hg] at h;simp only at h⊢;split at h<;>try cases h
   rename_i c hc;split at h
   ·rename_i e;split at h<;>try cases h
    rename_i a U1 hs;obtain⟨h1,h2⟩:=zga hΨ hcp hcs l _ _ _ _ h;exact⟨by rw[h1,zbh],fun Q hQ=>⟨c,hc,by rw[if_pos e];exact zia hΨ hcp hcs hs (h2 Q hQ)⟩⟩
   ·rename_i e;obtain⟨h1,h2⟩:=zga hΨ hcp hcs l _ _ _ _ h;exact⟨by rw[h1,zbh],fun Q hQ=>⟨c,hc,by rw[if_neg e];exact h2 Q hQ⟩⟩
def evAt (P:Program)(Ψ:CallS)(cp:CallP)(cs:CallS)(ops:Array Oper)(x:DSt)(i:Nat):Option DSt:=
 match ops[i]? with
 |none=>some (x.1.setIfInBounds i true,x.2.1,x.2.2)
 | some o=>match o.guard with
  | none=>(match zrp P Ψ cp cs o x.2.1 x.2.2 with
   |some (a,U')=>some (x.1.setIfInBounds i true,zah x.2.1 o.dst a,U')
   |none=>none)
  | some (j,b)=>(match zea ops x.2.1 j with
   | some c=>if c=some b then(match zrp P Ψ cp cs o x.2.1 x.2.2 with
    |some (a,U')=>some (x.1.setIfInBounds i true,zah x.2.1 o.dst a,U')
    |none=>none) else some (x.1.setIfInBounds i true,zah x.2.1 o.dst (.raw undef),x.2.2)
   |none=>none)
def qpg (l:List Bool):List DSt->Option DSt
 |[]=>none
 |y::L=>if y.1.toList==l then some y else qpg l L
def ddup:List DSt->List DSt->Option (List DSt)
 |[],H=>some H
 | y::G,H=>match qpg y.1.toList H with
  |some z=>if zon y.2.1 z.2.1&&eqSt y.2.2 z.2.2 then ddup G H else none
  |none=>ddup G (y::H)
def mapO {α β:Type} (f:α->Option β):List α->Option (List β)
 |[]=>some []
 | x::l=>match f x,mapO f l with
  |some y,some m=>some (y::m)
  |_,_=>none
theorem zyz {α β:Type} {f:α->Option β}: ∀ {l:List α} {m:List β},mapO f l=some m-> ∀x∈l,∃y∈m,f x=some y
 |[],_,_,x,hx=>nomatch hx
 | a::l,m,h,x,hx=>by
  simp only[mapO] at h;split at h<;>cases h
  rename_i y m2 h1 h2;rcases mem_cons.1 hx with rfl|hx
  ·exact⟨y,List.mem_cons_self ..,h1⟩
  ·obtain⟨z,hz,hf⟩:=zyz h2 x hx;exact⟨z,List.mem_cons_of_mem _ hz,hf⟩
def succ1 (P:Program)(Ψ:CallS)(cp:CallP)(cs:CallS)(ops:Array Oper)(x:DSt):Option (List DSt):=mapO (evAt P Ψ cp cs ops x) (Region.ready .any ops x.1)
def evD (P:Program)(Ψ:CallS)(cp:CallP)(cs:CallS)(ops:Array Oper)(r:List AV×St):Nat->List DSt->Bool
 |0,F=>F.all fun x=>(Region.ready .any ops x.1).isEmpty&&zon x.2.1 r.1&&eqSt x.2.2 r.2
 | k+1,F=>(F.all fun x=> !(Region.ready .any ops x.1).isEmpty||(zon x.2.1 r.1&&eqSt x.2.2 r.2))&&(match mapO (succ1 P Ψ cp cs ops) F with
  |none=>false
  | some G=>match ddup G.flatten [] with
   |none=>false
   |some H=>evD P Ψ cp cs ops r k H)
theorem z3k {l:List Bool}: ∀ {L:List DSt} {z:DSt},qpg l L=some z->z∈L/\ z.1.toList=l
 |[],_,h=>nomatch h
 | y::L,z,h=>by
  rw[qpg] at h;split at h
  ·rename_i e;cases h;exact⟨List.mem_cons_self ..,by simpa using e⟩
  ·obtain⟨h1,h2⟩:=z3k h;exact⟨List.mem_cons_of_mem _ h1,h2⟩
theorem zzz: ∀ {G H K:List DSt},ddup G H=some K->(∀y∈G,y∈K)/\ ∀y∈H,y∈K
 |[],H,K,h=>by simp only[ddup,Option.some.injEq] at h;subst h;exact⟨fun y hy=>(nomatch hy),fun y hy=>hy⟩
 | y ::G,H,K,h=>by
  rw[ddup] at h;split at h
  ·rename_i z hz;split at h
   ·rename_i e;simp only[and_eq_true] at e;obtain⟨h1,h2⟩:=zzz h;obtain⟨m1,m2⟩:=z3k hz;have:y=z:=by
     obtain⟨⟨y1⟩,y2,y3⟩:=y;obtain⟨⟨z1⟩,z2,z3⟩:=z;simp only at m2 e;rw[m2,zgo _ _ e.1,z6s e.2]
    exact⟨fun x hx=>(mem_cons.1 hx).elim (fun e=>by rw[e,this];exact h2 _ m1) (h1 x),h2⟩
   ·cases h
  ·obtain⟨h1,h2⟩:=zzz h;exact⟨fun x hx=>(mem_cons.1 hx).elim (fun e=>by rw[e];exact h2 _ (List.mem_cons_self ..)) (h1 x),fun x hx=>h2 x (List.mem_cons_of_mem _ hx)⟩
variable {P:Program} {cp:CallP} {cs Ψ:CallS}
theorem z0y (hΨ:qks P Ψ)(hcp:qkq P cp)(hcs:qks P cs) {ops:Array Oper} {r:List AV×St} {Q:List AV->St->Prop} (hQ:Q r.1 r.2):
 ∀(k:Nat) (F:List DSt),evD P Ψ cp cs ops r k F=true-> ∀x∈F,zpq (ITP P) P none ops Q k x.1 x.2.1 x.2.2
 | 0,F,h,x,hx=>by
  have h:=all_eq_true.1 h x hx;simp only[and_eq_true,List.isEmpty_iff] at h;refine⟨h.1.1,?_⟩;rw[zgo _ _ h.1.2,z6s h.2];exact hQ
 | k + 1,F,h,x,hx=>by
  simp only[evD,and_eq_true] at h;have h1:=all_eq_true.1 h.1 x hx;have h2:=h.2;split at h2
  ·cases h2
  rename_i G hG;split at h2
  ·cases h2
  rename_i H hH;obtain⟨d1,_⟩:=zzz hH;have ih:=z0y hΨ hcp hcs hQ k H h2;refine⟨fun he=> ?_,fun i hi=> ?_⟩
  ·rw[he] at h1;simp only[List.isEmpty_nil,Bool.not_true,Bool.false_or,and_eq_true] at h1;rw[zgo _ _ h1.1,z6s h1.2];exact hQ
  ·obtain⟨m,hm,hs⟩:=zyz hG x hx;obtain⟨y,hy,he⟩:=zyz hs i hi;have hyK:=ih y (d1 y (List.mem_flatten.2 ⟨m,hm,hy⟩));unfold evAt at he;unfold zpm;cases ho:ops[i]? with
   |none=>rw[ho] at he;cases he;exact hyK
   | some o=>
    rw[ho] at he;simp only at he⊢;cases hg:o.guard with
    | none=>
     rw[hg] at he;simp only at he⊢;split at he
     ·rename_i a U1 hs1;cases he;exact zia hΨ hcp hcs hs1 hyK
     ·cases he
    | some kb=>
     obtain⟨j,b⟩:=kb;rw[hg] at he;simp only at he⊢;split at he
     ·rename_i c hc;refine⟨c,hc,?_⟩;split at he
      ·rename_i e;rw[if_pos e];split at he
       ·rename_i a U1 hs1;cases he;exact zia hΨ hcp hcs hs1 hyK
       ·cases he
      ·rename_i e;rw[if_neg e];cases he;exact hyK
     ·cases he
def evQ (H:Bool)(P:Program)(Ω:CallP)(Ψ:CallS):Nat->Run
 |0,_,_,_,_=>none
 | k + 1,c,sz,S,U=>match c with
  | .skip=>some (.normal,S,U)
  | .seq x y=>match evQ H P Ω Ψ k x sz S U with
   |some (.normal,S1,U1)=>evQ H P Ω Ψ k y sz S1 U1
   |r=>r
  | .cond c x y=>match zbz S c with
   | .raw (.bool t)=>if t=true then evQ H P Ω Ψ k x sz S U else evQ H P Ω Ψ k y sz S U
   |_=>none
  | .block id x=>match evQ H P Ω Ψ k x sz S U with
   |some (.exit j,S1,U1)=>if j=id then some (.normal,S1,U1) else some (.exit j,S1,U1)
   |r=>r
  | .exit id=>some (.exit id,S,U)
  | .label _=>some (.normal,S,U)
  | .scope x=>evQ H P Ω Ψ k x sz S U
  | .ret=>some (.ret,S,U)
  | .loop x=>match evQ H P Ω Ψ k x sz S U with
   |some (.normal,S1,U1)=>evQ H P Ω Ψ k (.loop x) sz S1 U1
   |r=>r
  | .region _ ops false=>match zpe P Ψ (zlo P Ω (evQ H P Ω Ψ k)) (zsh P Ψ (evQ H P Ω Ψ k)) ops ops.toList S U with
   |some (S1,U1)=>some (.normal,S1,U1)
   |none=>none
  | .region _ ops true=>if zvn ops.toList=true then(match(if H=true then qjf P (zlo P Ω (evQ H P Ω Ψ k)) (zsh P Ψ (evQ H P Ω Ψ k)) ops sz S U else none) with
   |some (S2,U2)=>some (.normal,S2,U2)
   | none=>match(if H=true then findB ops sz else none) with
    | some n=>(match zly P (zlo P Ω (evQ H P Ω Ψ k)) ops sz U (ops.toList.take n) S [] with
     | some (S1,ps)=>match zzb P (zlo P Ω (evQ H P Ω Ψ k)) (zsh P Ψ (evQ H P Ω Ψ k)) ops (ops.toList.drop n) (zor U.boxes.length ps S1) (znw U ps) with
      |some (S2,U2)=>some (.normal,S2,U2)
      |none=>none
     |none=>none)
    | none=>match zpe P Ψ (zlo P Ω (evQ H P Ω Ψ k)) (zsh P Ψ (evQ H P Ω Ψ k)) ops ops.toList S U with
     |some r=>if evD P Ψ (zlo P Ω (evQ H P Ω Ψ k)) (zsh P Ψ (evQ H P Ω Ψ k)) ops r ops.size [(Array.replicate ops.size false,S,U)]=true then some (.normal,r.1,r.2) else none
     |none=>none) else none
  | .rangeFunc f ps asg body=>match zbz S f with
   | .iter xs=>if Nat.ble ps.size 8=true/\ (xs.all fun x=>decide (x.length=ps.size))=true/\ zcs asg=true then zuv (evQ H P Ω Ψ k asg sz) (evQ H P Ω Ψ k body sz) ps S U.boxes.length xs U else none
   |_=>none
  |_=>none
theorem zub {H:Bool} {P:Program} {Ω:CallP} {Ψ:CallS} (hG:Good P Ω Ψ): ∀k,EvOk P (evQ H P Ω Ψ k)
 |0=>fun c sz S U e S' U' h=>by simp[evQ] at h
 | k + 1=>by
  have ih:=zub (H:=H) hG k;have hcp:=zuh hG ih;have hcs:=z1s hG ih;intro c sz S U e S' U' h hl;cases c with
  |skip=>simp only[evQ,Option.some.injEq,Prod.mk.injEq] at h;obtain⟨rfl,rfl,rfl⟩:=h;exact⟨hl,fun Q h j=>h⟩
  |label id=>simp only[evQ,Option.some.injEq,Prod.mk.injEq] at h;obtain⟨rfl,rfl,rfl⟩:=h;exact⟨hl,fun Q h j=>h⟩
  |scope x=>simp only[evQ] at h;obtain⟨l1,h1⟩:=ih _ _ _ _ _ _ _ h hl;exact⟨l1,fun Q hQ j=>show awp (ITP P) P none j x Q S U from zdq (h1 Q hQ)⟩
  |exit id=>simp only[evQ,Option.some.injEq,Prod.mk.injEq] at h;obtain⟨rfl,rfl,rfl⟩:=h;exact⟨hl,fun Q h j=>h⟩
  |ret=>simp only[evQ,Option.some.injEq,Prod.mk.injEq] at h;obtain⟨rfl,rfl,rfl⟩:=h;exact⟨hl,fun Q h j=>h⟩
  | seq x y=>
   simp only[evQ] at h;split at h
   ·rename_i S1 U1 hx;obtain⟨l1,h1⟩:=ih _ _ _ _ _ _ _ hx hl;obtain⟨l2,h2⟩:=ih _ _ _ _ _ _ _ h l1;exact⟨l2,fun Q hQ j=>show awp (ITP P) P none j x (zue _ Q) S U \/_ from .inl (zdq (h1 _ ⟨S1,U1,Wk.refl _ _ _,zdq (h2 Q hQ)⟩))⟩
   ·rename_i hne;obtain⟨l1,h1⟩:=ih _ _ _ _ _ _ _ h hl;refine⟨l1,fun Q hQ j=>show awp (ITP P) P none j x (zue _ Q) S U \/_ from .inl (zdq (h1 _ ?_))⟩;cases e with
    |normal=>exact absurd h (hne S' U')
    |exit id=>exact hQ
    |ret=>exact hQ
  | cond c x y=>
   simp only[evQ] at h;split at h<;>try cases h
   rename_i t ht;cases t with
   |true=>obtain⟨l1,h1⟩:=ih _ _ _ _ _ _ _ h hl;exact⟨l1,fun Q hQ j=>⟨true,ht,zdq (h1 Q hQ)⟩⟩
   |false=>obtain⟨l1,h1⟩:=ih _ _ _ _ _ _ _ h hl;exact⟨l1,fun Q hQ j=>⟨false,ht,zdq (h1 Q hQ)⟩⟩
  | block id x=>
   simp only[evQ] at h;split at h
   ·rename_i j S1 U1 hx;obtain⟨l1,h1⟩:=ih _ _ _ _ _ _ _ hx hl;split at h
    ·rename_i hj;simp only[Option.some.injEq,Prod.mk.injEq] at h;obtain⟨rfl,rfl,rfl⟩:=h;exact⟨l1,fun Q hQ j=>show awp (ITP P) P none j x (zjx U.lens.length j id Q) S U \/_ from .inl (zdq (h1 _ (by simp only[zjx];rw[if_pos hj];exact .inl hQ)))⟩
    ·rename_i hj;simp only[Option.some.injEq,Prod.mk.injEq] at h;obtain⟨rfl,rfl,rfl⟩:=h;exact⟨l1,fun Q hQ j=>show awp (ITP P) P none j x (zjx U.lens.length j id Q) S U \/_ from .inl (zdq (h1 _ (by simp only[zjx];rw[if_neg hj];exact hQ)))⟩
   ·rename_i hne;obtain⟨l1,h1⟩:=ih _ _ _ _ _ _ _ h hl;refine⟨l1,fun Q hQ j=>show awp (ITP P) P none j x (zjx U.lens.length j id Q) S U \/_ from .inl (zdq (h1 _ ?_))⟩;cases e with
    |normal=>exact .inl hQ
    |exit j=>exact absurd h (hne j S' U')
    |ret=>exact hQ
  | loop x=>
   simp only[evQ] at h;split at h
   ·rename_i S1 U1 hx;obtain⟨l1,h1⟩:=ih _ _ _ _ _ _ _ hx hl;obtain⟨l2,h2⟩:=ih _ _ _ _ _ _ _ h l1;refine⟨l2,fun Q hQ j=> ?_⟩;obtain⟨m,hm⟩:=h2 Q hQ j;exact⟨m+1,S,U,Wk.refl _ _ _,zdq (k:=j) (h1 _ hm)⟩
   ·rename_i hne;obtain⟨l1,h1⟩:=ih _ _ _ _ _ _ _ h hl;refine⟨l1,fun Q hQ j=>⟨1,S,U,Wk.refl _ _ _,zdq (k:=j) (h1 _ ?_)⟩⟩;cases e with
    |normal=>exact absurd h (hne S' U')
    |exit id=>exact hQ
    |ret=>exact hQ
  | region id ops draw=>
   cases draw with
   | false=>
    simp only[evQ] at h;split at h<;>try cases h
    rename_i ho;obtain⟨l1,h1⟩:=zga hG.oracleS hcp hcs _ _ _ _ _ ho;exact⟨l1.trans hl,fun Q hQ j=>h1 _ hQ⟩
   | true=>
    simp only[evQ] at h;split at h
    rotate_left
    ·cases h
    rename_i hnd;split at h
    ·rename_i S2 U2 hd;cases h;split at hd
     rotate_left
     ·cases hd
     obtain⟨n,hc,S1,hh,ho⟩:=z2j hd;obtain⟨l1,h1⟩:=zje hcp _ _ _ hh hl;obtain⟨l2,h2⟩:=zin hcp hcs _ _ _ _ _ ho;exact⟨l2.trans l1,fun Q hQ j=> .inr (.inl (qqk n (by rw[hl];exact hc) hnd (h1 _ (h2 _ hQ))))⟩
    ·split at h
     ·rename_i n hn;split at hn
      rotate_left
      ·cases hn
      split at h<;>try cases h
      rename_i S1 ps hh;split at h<;>try cases h
      rename_i ho;obtain⟨l1,h1⟩:=zgm hcp _ _ _ _ _ hh hl;obtain⟨l2,h2⟩:=zin hcp hcs _ _ _ _ _ ho;exact⟨l2.trans ((zrw _ _ _).trans l1),fun Q hQ j=> .inr (.inl ⟨n,by rw[hl];exact qlk hn,hnd,h1 _ (h2 _ hQ)⟩)⟩
     ·split at h
      rotate_left
      ·cases h
      rename_i r ho;split at h
      rotate_left
      ·cases h
      rename_i ha;cases h;obtain⟨l2,h2⟩:=zga hG.oracleS hcp hcs _ _ _ r.1 r.2 ho;exact⟨l2.trans hl,fun Q hQ j=> .inr (.inr (.inl (z0y hG.oracleS hcp hcs hQ _ _ ha _ (List.mem_cons_self ..))))⟩
  | rangeFunc f ps asg body=>
   simp only[evQ] at h;split at h<;>try(cases h;done)
   rename_i xs hf;split at h
   rotate_left
   ·cases h
   rename_i hc;obtain⟨h1,h2⟩:=zpw (P:=P) (asg:=asg) (body:=body) (S0:=S) (fun S1 U1 e1 S1' U1' hl1 h1=>by obtain⟨k1,k2⟩:=ih _ _ _ _ _ _ _ h1 (hl1.trans hl);exact⟨k1.trans hl.symm,fun k Q hQ=>zdq (k2 Q hQ)⟩) (fun S1 U1 e1 S1' U1' hl1 h1 k Q hQ=>zdq ((ih _ _ _ _ _ _ _ h1 (hl1.trans hl)).2 Q hQ)) xs U e S' U' h;exact⟨by rw[h1];exact hl,fun Q hQ j=> .inl ⟨xs,hf,hc.1,hc.2.1,hc.2.2,h2 Q hQ⟩⟩
  |_=>simp[evQ] at h
theorem zdm (H:Bool) {P:Program} {Ω:CallP} {Ψ:CallS} (hG:Good P Ω Ψ)(k:Nat) {f:FuncId} {args:List AV} {r:AV} (h:zlo P Ω (evQ H P Ω Ψ k) f args=some r):Pure (ITP P) P f args r:=zuh hG (zub (H:=H) hG k) f args r h
end Go.Ab
namespace Go.Proofs
open Go.Shelf
def Tryz.lays162_ren:Go.Shelf.Ren:=⟨fun|162=>61|232=>93|227=>94|234=>95|236=>96|228=>126|271=>127|151=>128|120=>155|197=>156|152=>157|260=>160|137=>130|119=>161|224=>162|225=>163|217=>158|266=>164|n=>n,fun|9=>9|4=>4|3=>3|5=>5|117=>140|116=>139|0=>0|124=>143|21=>21|105=>172|46=>96|119=>196|139=>199|138=>198|n=>n,fun|3=>1|4=>2|n=>n⟩
theorem Tryz.lays162:Go.Proofs.Lays.n162 prog Tryz.lays162_ren:={
 mixed:=by kernel_rfl
 f119:=Tryz.func161.trans (congrArg some (by kernel_rfl))
 f120:=Tryz.func155.trans (congrArg some (by kernel_rfl))
 f137:=Tryz.func130.trans (congrArg some (by kernel_rfl))
 f151:=Tryz.func128.trans (congrArg some (by kernel_rfl))
 f152:=Tryz.func157.trans (congrArg some (by kernel_rfl))
 f162:=Tryz.func61.trans (congrArg some (by kernel_rfl))
 f197:=Tryz.func156.trans (congrArg some (by kernel_rfl))
 f217:=Tryz.func158.trans (congrArg some (by kernel_rfl))
 f224:=Tryz.func162.trans (congrArg some (by kernel_rfl))
 f225:=Tryz.func163.trans (congrArg some (by kernel_rfl))
 f227:=Tryz.func94.trans (congrArg some (by kernel_rfl))
 f228:=Tryz.func126.trans (congrArg some (by kernel_rfl))
 f232:=Tryz.func93.trans (congrArg some (by kernel_rfl))
 f234:=Tryz.func95.trans (congrArg some (by kernel_rfl))
 f236:=Tryz.func96.trans (congrArg some (by kernel_rfl))
 f260:=Tryz.func160.trans (congrArg some (by kernel_rfl))
 f266:=Tryz.func164.trans (congrArg some (by kernel_rfl))
 f271:=Tryz.func127.trans (congrArg some (by kernel_rfl))
 t0:=Tryz.underlying0
 a0:=Tryz.isAgg0
 z0:=Tryz.sizeOf0
 v0:=Tryz.zeroValue0
 t3:=Tryz.underlying3
 a3:=Tryz.isAgg3
 z3:=Tryz.sizeOf3
 v3:=Tryz.zeroValue3
 t4:=Tryz.underlying4
 a4:=Tryz.isAgg4
 z4:=Tryz.sizeOf4
 v4:=Tryz.zeroValue4
 t5:=Tryz.underlying5
 a5:=Tryz.isAgg5
 z5:=Tryz.sizeOf5
 v5:=Tryz.zeroValue5
 t9:=Tryz.underlying9
 a9:=Tryz.isAgg9
 z9:=Tryz.sizeOf9
 v9:=Tryz.zeroValue9
 t21:=Tryz.underlying21
 a21:=Tryz.isAgg21
 z21:=Tryz.sizeOf21
 v21:=Tryz.zeroValue21
 t46:=Tryz.underlying96
 a46:=Tryz.isAgg96
 z46:=Tryz.sizeOf96
 v46:=Tryz.zeroValue96
 t105:=Tryz.underlying172
 a105:=Tryz.isAgg172
 z105:=Tryz.sizeOf172
 v105:=Tryz.zeroValue172
 t116:=Tryz.underlying139
 a116:=Tryz.isAgg139
 z116:=Tryz.sizeOf139
 t117:=Tryz.underlying140
 a117:=Tryz.isAgg140
 z117:=Tryz.sizeOf140
 v117:=Tryz.zeroValue140
 t119:=Tryz.underlying196
 a119:=Tryz.isAgg196
 z119:=Tryz.sizeOf196
 t124:=Tryz.underlying143
 a124:=Tryz.isAgg143
 z124:=Tryz.sizeOf143
 v124:=Tryz.zeroValue143
 t138:=Tryz.underlying198
 a138:=Tryz.isAgg198
 z138:=Tryz.sizeOf198
 v138:=Tryz.zeroValue198
 t139:=Tryz.underlying199
 a139:=Tryz.isAgg199
 z139:=Tryz.sizeOf199
 v139:=Tryz.zeroValue199
 g3:=by kernel_rfl
 g4:=by kernel_rfl}
open Go.RowKit in
theorem Tryz.strings_TrimRight_one (s:ByteArray)(c:UInt8)(hc:c.toNat<128)(w:World)(hs:s.size<=9223372036854775807):
 Calls prog 61 #[.string s,.string ⟨#[c]⟩] w fun e w'=>e= .returned (.string ⟨(Lib.trimRightB s.data.toList c).toArray⟩)/\ w'=w:=Any.strings_TrimRight_one Tryz.lays162 s c hc w hs
def Tryz.lays137_ren:Go.Shelf.Ren:=⟨fun|137=>130|217=>158|266=>164|n=>n,fun|9=>9|5=>5|3=>3|n=>n,fun|n=>n⟩
theorem Tryz.lays137:Go.Proofs.Lays.n137 prog Tryz.lays137_ren:={
 mixed:=by kernel_rfl
 f137:=Tryz.func130.trans (congrArg some (by kernel_rfl))
 f217:=Tryz.func158.trans (congrArg some (by kernel_rfl))
 f266:=Tryz.func164.trans (congrArg some (by kernel_rfl))
 t3:=Tryz.underlying3
 a3:=Tryz.isAgg3
 z3:=Tryz.sizeOf3
 v3:=Tryz.zeroValue3
 t5:=Tryz.underlying5
 a5:=Tryz.isAgg5
 z5:=Tryz.sizeOf5
 v5:=Tryz.zeroValue5
 t9:=Tryz.underlying9
 a9:=Tryz.isAgg9
 z9:=Tryz.sizeOf9
 v9:=Tryz.zeroValue9}
open Go.RowKit in
theorem Tryz.strings_IndexByte (s:ByteArray)(c:Int)(w:World):
 Calls prog 130 #[.string s,.int .u8 c] w fun e w'=>e= .returned (.int .i64 (Lib.indexByte s.data.toList c.toNat.toUInt8))/\ w'=w:=Any.strings_IndexByte Tryz.lays137 s c w
def Tryz.lays103_ren:Go.Shelf.Ren:=⟨fun|103=>32|210=>59|206=>91|n=>n,fun|9=>9|4=>4|24=>64|3=>3|n=>n,fun|n=>n⟩
theorem Tryz.lays103:Go.Proofs.Lays.n103 prog Tryz.lays103_ren:={
 mixed:=by kernel_rfl
 f103:=Tryz.func32.trans (congrArg some (by kernel_rfl))
 f206:=Tryz.func91.trans (congrArg some (by kernel_rfl))
 f210:=Tryz.func59.trans (congrArg some (by kernel_rfl))
 t3:=Tryz.underlying3
 a3:=Tryz.isAgg3
 z3:=Tryz.sizeOf3
 v3:=Tryz.zeroValue3
 t4:=Tryz.underlying4
 a4:=Tryz.isAgg4
 z4:=Tryz.sizeOf4
 v4:=Tryz.zeroValue4
 t9:=Tryz.underlying9
 a9:=Tryz.isAgg9
 z9:=Tryz.sizeOf9
 v9:=Tryz.zeroValue9
 t24:=Tryz.underlying64
 a24:=Tryz.isAgg64
 z24:=Tryz.sizeOf64
 v24:=Tryz.zeroValue64}
open Go.RowKit in
theorem Tryz.strings_CutPrefix (s p:ByteArray)(w:World):
 Calls prog 32 #[.string s,.string p] w fun e w'=>e= .returned (.tuple #[.string ⟨(Lib.trimPrefix s.data.toList p.data.toList).toArray⟩,.bool (Lib.hasPrefix s.data.toList p.data.toList)])/\ w'=w:=Any.strings_CutPrefix Tryz.lays103 s p w
def Tryz.lays104_ren:Go.Shelf.Ren:=⟨fun|104=>60|211=>92|207=>125|n=>n,fun|9=>9|4=>4|24=>64|3=>3|n=>n,fun|n=>n⟩
theorem Tryz.lays104:Go.Proofs.Lays.n104 prog Tryz.lays104_ren:={
 mixed:=by kernel_rfl
 f104:=Tryz.func60.trans (congrArg some (by kernel_rfl))
 f207:=Tryz.func125.trans (congrArg some (by kernel_rfl))
 f211:=Tryz.func92.trans (congrArg some (by kernel_rfl))
 t3:=Tryz.underlying3
 a3:=Tryz.isAgg3
 z3:=Tryz.sizeOf3
 v3:=Tryz.zeroValue3
 t4:=Tryz.underlying4
 a4:=Tryz.isAgg4
 z4:=Tryz.sizeOf4
 v4:=Tryz.zeroValue4
 t9:=Tryz.underlying9
 a9:=Tryz.isAgg9
 z9:=Tryz.sizeOf9
 v9:=Tryz.zeroValue9
 t24:=Tryz.underlying64
 a24:=Tryz.isAgg64
 z24:=Tryz.sizeOf64
 v24:=Tryz.zeroValue64}
open Go.RowKit in
theorem Tryz.strings_CutSuffix (s p:ByteArray)(w:World)(hs:s.size<=9223372036854775807):
 Calls prog 60 #[.string s,.string p] w fun e w'=>e= .returned (.tuple #[.string ⟨(Lib.trimSuffix s.data.toList p.data.toList).toArray⟩,.bool (Lib.hasSuffix s.data.toList p.data.toList)])/\ w'=w:=Any.strings_CutSuffix Tryz.lays104 s p w hs
def Tryz.lays99_ren:Go.Shelf.Ren:=⟨fun|99=>73|206=>91|n=>n,fun|9=>9|4=>4|3=>3|n=>n,fun|n=>n⟩
theorem Tryz.lays99:Go.Proofs.Lays.n99 prog Tryz.lays99_ren:={
 mixed:=by kernel_rfl
 f99:=Tryz.func73.trans (congrArg some (by kernel_rfl))
 f206:=Tryz.func91.trans (congrArg some (by kernel_rfl))
 t3:=Tryz.underlying3
 a3:=Tryz.isAgg3
 z3:=Tryz.sizeOf3
 v3:=Tryz.zeroValue3
 t4:=Tryz.underlying4
 a4:=Tryz.isAgg4
 z4:=Tryz.sizeOf4
 v4:=Tryz.zeroValue4
 t9:=Tryz.underlying9
 a9:=Tryz.isAgg9
 z9:=Tryz.sizeOf9
 v9:=Tryz.zeroValue9}
open Go.RowKit Go.Lib in
theorem Tryz.strings_HasPrefix (s p:ByteArray)(w:World):
 Calls prog 73 #[.string s,.string p] w fun e w'=>e= .returned (.bool (Lib.hasPrefix s.data.toList p.data.toList))/\ w'=w:=Any.strings_HasPrefix Tryz.lays99 s p w
end Go.Proofs
namespace Go.Ab
open Go Go.RowKit Go.Fwd Go.Proofs
variable {ρ:Operand->AV} {o:Oper} {y:Operand}
theorem mix:prog.follows .mixedOrders=true:=by kernel_rfl
theorem ents (f:Nat)(fn:Func)(hf:prog.funcs[f]? =some fn)(hb:fn.body.isSome=true):Ent prog f:=by
 obtain⟨c,hc⟩:=Option.isSome_iff_exists.1 hb;have hall:(prog.funcs.toList.all fun fn=> !(fn.name== "runtime.NumGoroutine"))=true:=by kernel_rfl
 have:=all_eq_true.1 hall fn (Array.mem_toList_iff.2 (Array.mem_of_getElem? hf));exact enters_of hf (by simpa using this) hc
def noP:CallP:=fun _ _=>none
def noS:CallS:=fun _ _ _=>none
theorem goodN:Good prog noP noS:=⟨mix,ents,(fun _ _ _ h=>nomatch h),(fun _ _ _ _ _ h=>nomatch h)⟩
theorem undS:prog.underlying 26=some (.array 4 24):=by kernel_rfl
theorem undW:prog.underlying 24=some (.int .u64):=by kernel_rfl
theorem sizeW (w:World):(sizeOf 24).run prog w= .ok 1 w:=by kernel_rfl
theorem aggW (w:World):(isAgg 24).run prog w= .ok false w:=by kernel_rfl
theorem eqInS' (d:Nat)(a0 a1 a2 a3 b0 b1 b2 b3:Int)(w:World):(Op.equalIn (d+1+1) 26 (.agg #[.int .u64 a0,.int .u64 a1,.int .u64 a2,.int .u64 a3]) (.agg #[.int .u64 b0,.int .u64 b1,.int .u64 b2,.int .u64 b3])).run prog w=
 .ok (a0==b0&&a1==b1&&a2==b2&&a3==b3) w:=by
 rw[Op.equalIn];simp only[Sem.run_bind,run_underlying undS,Result.andThen_ok,sizeW];have hq: ∀(a b:Int) (w:World),(Op.equalIn (d+1) 24 (.int .u64 a) (.int .u64 b)).run prog w= .ok (a==b) w:=fun a b w=>run_equalIn_int w d 24 .u64 .u64 a b undW;have hr:List.range' 0 4=[0,1,2,3]:=rfl;simp[part,hr,aggW,Sem.run_bind,hq,Result.andThen];by_cases h0:a0=b0<;>by_cases h1:a1=b1<;>by_cases h2:a2=b2<;>by_cases h3:a3=b3<;>simp[h0,h1,h2,h3,hq,Result.andThen]
theorem eqInS (a0 a1 a2 a3 b0 b1 b2 b3:Int)(w:World):(Op.equalIn 10000 26 (.agg #[.int .u64 a0,.int .u64 a1,.int .u64 a2,.int .u64 a3]) (.agg #[.int .u64 b0,.int .u64 b1,.int .u64 b2,.int .u64 b3])).run prog w=
 .ok (a0==b0&&a1==b1&&a2==b2&&a3==b3) w:=eqInS' 9998 _ _ _ _ _ _ _ _ w
theorem qrh:prog.eqGuardType prog.depth 26=false:=by kernel_rfl
theorem qgv {x:Operand} {c} (s t:BS)(ho:o.op= .binOp .eql 26 x y c)(hx:ρ x=qku s)(hy:ρ y=qku t):zpt prog ρ o (.raw (.bool (decide (s=t)))):=by
 refine⟨?_,by rw[ho];intros;simp,by rw[ho];intros;simp,.bool (decide (s=t)),fun w=> ?_,rfl,rfl⟩
 ·rw[ho];simp[Op.operands,hx,hy,qku,zdv,zeg,zkw]
 ·have h1:zca ρ x= .agg #[.int .u64 (wd s 0),.int .u64 (wd s 1),.int .u64 (wd s 2),.int .u64 (wd s 3)]:=by simp[zca,hx,qku,zdv,zeg,zkw]
  have h2:zca ρ y= .agg #[.int .u64 (wd t 0),.int .u64 (wd t 1),.int .u64 (wd t 2),.int .u64 (wd t 3)]:=by simp[zca,hy,qku,zdv,zeg,zkw]
  have h3:=eqInS (wd s 0) (wd s 1) (wd s 2) (wd s 3) (wd t 0) (wd t 1) (wd t 2) (wd t 3) w;rw[qgj] at h3;simp[execOp,ho,h1,h2,eqGuard,binOp,Op.equal,Op.maxDepth,program,Sem.run,qrh,h3]
theorem qar {x:Operand} {c} (s t:BS)(ho:o.op= .binOp .neq 26 x y c)(hx:ρ x=qku s)(hy:ρ y=qku t):zpt prog ρ o (.raw (.bool (decide (s≠t)))):=by
 refine⟨?_,by rw[ho];intros;simp,by rw[ho];intros;simp,.bool (decide (s≠t)),fun w=> ?_,rfl,rfl⟩
 ·rw[ho];simp[Op.operands,hx,hy,qku,zdv,zeg,zkw]
 ·have h1:zca ρ x= .agg #[.int .u64 (wd s 0),.int .u64 (wd s 1),.int .u64 (wd s 2),.int .u64 (wd s 3)]:=by simp[zca,hx,qku,zdv,zeg,zkw]
  have h2:zca ρ y= .agg #[.int .u64 (wd t 0),.int .u64 (wd t 1),.int .u64 (wd t 2),.int .u64 (wd t 3)]:=by simp[zca,hy,qku,zdv,zeg,zkw]
  have h3:=eqInS (wd s 0) (wd s 1) (wd s 2) (wd s 3) (wd t 0) (wd t 1) (wd t 2) (wd t 3) w;rw[qgj] at h3;simp[execOp,ho,h1,h2,eqGuard,binOp,Op.equal,Op.maxDepth,program,Sem.run,qrh,h3]
theorem zyi {x:Operand} {c} (s t:BS)(ho:o.op= .binOp .eql 26 x y c)(hx:ρ x= .agg (Enc.cells s))(hy:ρ y= .agg (Enc.cells t)):zpt prog ρ o (.raw (.bool (decide (s=t)))):=qgv s t ho hx hy
theorem z2f {x:Operand} {c} (s t:BS)(ho:o.op= .binOp .neq 26 x y c)(hx:ρ x= .agg (Enc.cells s))(hy:ρ y= .agg (Enc.cells t)):zpt prog ρ o (.raw (.bool (decide (s≠t)))):=qar s t ho hx hy
theorem or_run (a b:BS):Pure (ITP prog) prog 77 [.agg (Enc.cells a),.agg (Enc.cells b)] (.agg [.raw (.int .u64 (orI .u64 (wd a 0) (wd b 0))),.raw (.int .u64 (orI .u64 (wd a 1) (wd b 1))),.raw (.int .u64 (orI .u64 (wd a 2) (wd b 2))),.raw (.int .u64 (orI .u64 (wd a 3) (wd b 3)))]):=zdm true goodN 100 (by kernel_rfl)
theorem qmw (a b:BS):Pure (ITP prog) prog 77 [.agg (Enc.cells a),.agg (Enc.cells b)] (.agg (Enc.cells (a|||b))):=by
 have:=or_run a b;simp only[qhl] at this;exact this
end Go.Ab
namespace Go.Ab
open Go Go.RowKit Go.Fwd
def z6m (n:Nat)(i j:Int)(st:Room):Room:=if i.toNat=0/\ j.toNat=n then st else if j.toNat=n/\ st= .full then .full else .none
theorem qmx {α:Type} (l:List α) {i j:Int} (g:0<=i/\ i<=j/\ j<=(l.length:Int)):(sub l i j).length=j.toNat-i.toNat:=by
 simp only[sub,List.length_take,List.length_drop];omega
theorem qjg {α:Type} [Enc α] (l:List α) {i j:Int} (g:0<=i/\ i<=j/\ j<=(l.length:Int)):((Enc.cellsL l).drop (i.toNat*Enc.sz α)).take ((j.toNat-i.toNat)*Enc.sz α)=Enc.cellsL (sub l i j):=by
 rw[Enc.drop,Enc.take];rfl
section
variable {P:Program} {ρ:Operand->AV} {U:St} {o:Oper}
theorem qjy {α:Type} [Enc α] (l:List α)(n:Nat)(st:Room):zcw (.list n (Enc.cellsL l) st)= .list n (Enc.cellsL l) .none:=by
 rw[zcw,Enc.stripL]
theorem q_sub_H {α:Type} [Enc α] {l:List α} {x y:Operand} {t e:TypeId} {st:Room} {j:Int} (g:0<=0/\ 0<=j/\ j<=(l.length:Int))(ho:o.op= .slice t x none (some y) none)(hx:ρ x= .list l.length (Enc.cellsL l) st)(hy:ρ y= .raw (.int .i64 j))(hu:P.underlying t=some (.slice e))(hs:zcp P e=some (Enc.sz α)):
 qop P ρ U o=some (.list (sub l 0 j).length (Enc.cellsL (sub l 0 j)) (z6m l.length 0 j st)):=by
 have hg:(0:Int)<=0/\ 0<=j/\ j<=(l.length:Int):=⟨Int.le_refl 0,g.2⟩;have h1:zln P t (ρ x) none (some (ρ y)) none=some (.list (sub l 0 j).length (Enc.cellsL (sub l 0 j)) (z6m l.length 0 j st)):=by
  have hj:=g.2;rw[qmx l hg, <-qjg l hg,hx,hy];simp[zln,hu,hs,zep,zig,Enc.lenL,z6m,hj]
 simp only[qop,ho,Option.map,h1]
theorem zgz {x:Operand} {s t:TypeId} {k:IntKind} {n:Int} (g: -9223372036854775808<=n/\ n<9223372036854775808)(ho:o.op= .convert s t x)(hx:ρ x= .raw (.int k n))(hs:val? P (Next.value<$>convert s t (.int k n))=some (.value (.int .i64 (IntKind.i64.wrap n)))):qop P ρ U o=some (.raw (.int .i64 n)):=by
 have h:=zqh g.1 g.2;rw[h] at hs;simp[qop,zgb,ho,Op.operands,hx,zdv,execOp,zca,hs,zkr];exact⟨rfl,rfl⟩
theorem ztw: ∀l:List UInt8,ztc (Enc.cellsL l)=some l
 |[]=>rfl
 | a::l=>by
  show ztc (.raw (.int .u8 ((a.toNat:Nat):Int))::Enc.cellsL l)=_;have h:=a.toNat_lt;simp[ztc,ztw l];omega
theorem q_bstr {l:List UInt8} {x:Operand} {s t e:TypeId} {st:Room} (ho:o.op= .convert s t x)(hx:ρ x= .list l.length (Enc.cellsL l) st)(hs:P.underlying s=some (.slice e)/\ P.underlying e=some (.int .u8))(ht:P.underlying t=some .string):qop P ρ U o=some (.raw (.string (bs l))):=by
 have h:zkr P s t (ρ x)=some (.raw (.string (bs l))):=by
  rw[hx];simp only[zkr,hs.1,hs.2,ht,ztw,if_true];rfl
 simp only[qop,ho,h]
end
section
variable {P:Program} {ρ:Operand->AV} {U:St} {o:Oper}
end
end Go.Ab
namespace Go.Ab
open Go Go.RowKit Go.Fwd Go.Proofs
structure Bd where
 lo:Int
 mo:Int
 deriving DecidableEq
def qhr (e:Bd):List AV:=[.raw (.int .i64 e.lo),.raw (.int .i64 e.mo)]
instance:Enc Bd where
 inh:=⟨0,0⟩
 cells:=qhr
 cellsL l:=l.flatMap qhr
 sz:=2
 pos:=by decide
 nil:=rfl
 cons _ _:=rfl
 len _:=rfl
 clo _:=rfl
theorem zzx {ρ:Operand->AV} {U:St} {o:Oper} {x:Operand} {b:Nat} {t:TypeId} {i:Int} (s:BS)(hi:0<=i/\ i<4)(ho:o.op= .load 24 x)(hx:ρ x= .ptr b (0+i.toNat*1))(hb:U.boxes[b]? =some (t,Enc.cells s)):qop prog ρ U o=some (.raw (.int .u64 (wd s i.toNat))):=by
 have key: ∀j:Nat,j<4->rd prog 24 ((Enc.cells s).drop (0+j*1))=some (.raw (.int .u64 (wd s j))):=by
  intro j hj
  match j,hj with
  |0,_=>rfl
  |1,_=>rfl
  |2,_=>rfl
  |3,_=>rfl
 simp only[qop,ho,zlv,hx,hb];exact key i.toNat (by omega)
variable {P:Program}
theorem zmj {f:FuncId} {args:List AV} {r:AV} (vs:List Value)(he:Ent P f)(ha: ∀X us,zbo (ITP P) X args us->us=vs)
 (h: ∀X,Inv (ITP P) St.empty X->Calls P f vs.toArray X.w fun e w'=> ∃u,e= .returned u/\ w'=X.w/\ ∀Y,Rep (ITP P) Y r u):Pure (ITP P) P f args r:=by
 refine⟨he,fun X us hI hr=> ?_⟩;rw[ha X us hr];refine(h X hI).mono ?_;rintro e w' ⟨u,rfl,rfl,hu⟩;exact⟨u,X,rfl,rfl,Ext.refl X,hI,hu _⟩
theorem qgf {X:Cx} {u v:Value} {us:List Value} (h:zbo (ITP P) X [.raw u,.raw v] us):us=[u,v]:=by
 obtain⟨a,l,rfl,ha,b,l',rfl,hb,hl⟩:=h;have ha:a=u:=ha;have hb:b=v:=hb;have hl:l'=[]:=hl;rw[ha,hb,hl]
theorem ent130:Ent prog 130:=enters_of Tryz.func130 (by kernel_rfl) rfl
theorem ent73:Ent prog 73:=enters_of Tryz.func73 (by kernel_rfl) rfl
theorem ent32:Ent prog 32:=enters_of Tryz.func32 (by kernel_rfl) rfl
theorem ent60:Ent prog 60:=enters_of Tryz.func60 (by kernel_rfl) rfl
theorem ent61:Ent prog 61:=enters_of Tryz.func61 (by kernel_rfl) rfl
theorem qab (l:List UInt8)(c:UInt8):Pure (ITP prog) prog 130 [.raw (.string (bs l)),.raw (.int .u8 ((c.toNat:Nat):Int))] (.raw (.int .i64 (Lib.indexByte l c))):=by
 have h:Pure (ITP prog) prog 130 [.raw (.string (bs l)),.raw (.int .u8 ((c.toNat:Nat):Int))] (.raw (.int .i64 (Lib.indexByte l ((c.toNat:Nat):Int).toNat.toUInt8))):=
  zmj [.string (bs l),.int .u8 _] ent130 (fun X us h=>qgf h) fun X hI=>(Tryz.strings_IndexByte (bs l) _ X.w).mono fun e w' ⟨h1,h2⟩=>⟨_,h1,h2,fun Y=>rfl⟩
 rwa[show((c.toNat:Nat):Int).toNat.toUInt8=c by simp] at h
def zpa (e:Int):UInt8:=UInt8.ofNat e.toNat
theorem u8c {e:Int} (g:0<=e/\ e<256):((zpa e).toNat:Int)=e:=by
 unfold zpa;have h:e.toNat<256:=by omega
 rw[show(UInt8.ofNat e.toNat).toNat=e.toNat by simp;omega];omega
theorem z2d (l:List UInt8) {e:Int} (h:0<=e/\ e<256):Pure (ITP prog) prog 130 [.raw (.string (bs l)),.raw (.int .u8 e)] (.raw (.int .i64 (Lib.indexByte l (zpa e)))):=by
 have:=qab l (zpa e);rwa[u8c h] at this
theorem zug (l p:List UInt8):Pure (ITP prog) prog 73 [.raw (.string (bs l)),.raw (.string (bs p))] (.raw (.bool (Lib.hasPrefix l p))):=
 zmj [.string (bs l),.string (bs p)] ent73 (fun X us h=>qgf h) fun X hI=>(Tryz.strings_HasPrefix (bs l) (bs p) X.w).mono fun e w' ⟨h1,h2⟩=>⟨_,h1,h2,fun Y=>rfl⟩
theorem qgh (l p:List UInt8):Pure (ITP prog) prog 32 [.raw (.string (bs l)),.raw (.string (bs p))] (.tup [.raw (.string (bs (Lib.trimPrefix l p,Lib.hasPrefix l p).1)),.raw (.bool (Lib.trimPrefix l p,Lib.hasPrefix l p).2)]):=
 zmj [.string (bs l),.string (bs p)] ent32 (fun X us h=>qgf h) fun X hI=>(Tryz.strings_CutPrefix (bs l) (bs p) X.w).mono fun e w' ⟨h1,h2⟩=>⟨_,h1,h2,fun Y=>⟨_,rfl,_,_,rfl,rfl,_,_,rfl,rfl,rfl⟩⟩
theorem qfe (l p:List UInt8)(h:l.length<=9223372036854775807):Pure (ITP prog) prog 60 [.raw (.string (bs l)),.raw (.string (bs p))] (.tup [.raw (.string (bs (Lib.trimSuffix l p,Lib.hasSuffix l p).1)),.raw (.bool (Lib.trimSuffix l p,Lib.hasSuffix l p).2)]):=
 zmj [.string (bs l),.string (bs p)] ent60 (fun X us h=>qgf h) fun X hI=>(Tryz.strings_CutSuffix (bs l) (bs p) X.w h).mono fun e w' ⟨h1,h2⟩=>⟨_,h1,h2,fun Y=>⟨_,rfl,_,_,rfl,rfl,_,_,rfl,rfl,rfl⟩⟩
theorem qbp (l:List UInt8)(c:UInt8)(hc:c.toNat<128)(h:l.length<=9223372036854775807):Pure (ITP prog) prog 61 [.raw (.string (bs l)),.raw (.string (bs [c]))] (.raw (.string (bs (Lib.trimRightB l c)))):=
 zmj [.string (bs l),.string (bs [c])] ent61 (fun X us h=>qgf h) fun X hI=>(Tryz.strings_TrimRight_one (bs l) c hc X.w h).mono fun e w' ⟨h1,h2⟩=>⟨_,h1,h2,fun Y=>rfl⟩
end Go.Ab
namespace Go.Ab
open Go Go.RowKit Go.Fwd
section
variable {P:Program} {ρ:Operand->AV} {U:St} {o:Oper}
theorem bs_get (l:List UInt8)(i:Nat):(bs l)[i]? =l[i]? :=by
 simp only[bs];by_cases h:i<l.length
 ·rw[List.getElem?_eq_getElem h];have h2:i<(ByteArray.mk l.toArray).size:=h;rw[getElem?_pos (ByteArray.mk l.toArray) i h2];rfl
 ·rw[List.getElem?_eq_none (by omega)];have h2: ¬i<(ByteArray.mk l.toArray).size:=h;rw[getElem?_neg (ByteArray.mk l.toArray) i h2]
theorem zwr (l:List UInt8)(i j:Nat):(bs l).extract i j=bs ((l.drop i).take (j-i)):=by
 apply ByteArray.ext;rw[ByteArray.data_extract];simp[bs,List.extract_eq_take_drop]
theorem z4v {v:Value} (h1:o.op.operands.toList.all (fun x=>(zdv (ρ x)).isSome)=true)(h2: ∀cs b,o.op≠ .select cs b)(h3:val? P (execOp (zca ρ) o)=some (.value v))(h4:zog v=true):zgb P ρ o=some (zja v):=by
 unfold zgb;rw[if_pos h1];split
 ·rename_i cs b ho;exact absurd ho (h2 cs b)
 ·rw[h3];simp only[h4,if_true]
theorem zeo {t:TypeId} {x i:Operand} {l:List UInt8} {k:IntKind} {n:Int} (g:0<=n/\ n<l.length)(ho:o.op= .index t x i)(hx:ρ x= .raw (.string (bs l)))(hi:ρ i= .raw (.int k n))(hu:P.underlying t=some .string):
 qop P ρ U o=some (.raw (.int .u8 (((ix l n).toNat:Nat):Int))):=by
 have hn:n.toNat<l.length:=by omega
 have h3:val? P (execOp (zca ρ) o)=some (.value (.int .u8 (((ix l n).toNat:Nat):Int))):=by
  have hg:(bs l)[n.toNat]? =some (ix l n):=by
   rw[bs_get,List.getElem?_eq_getElem hn];simp[ix,hn]
  simp only[execOp,ho,zca,hx,hi,zdv,getD_some,Instr.index,asIntOf,underlying];simp only[program,Bind.bind,Pure.pure,Functor.map,Sem.bind,val?,hu,if_pos g.1,hg]
 have h1:o.op.operands.toList.all (fun x=>(zdv (ρ x)).isSome)=true:=by rw[ho];simp[Op.operands,hx,hi,zdv]
 have h4:=z4v h1 (by rw[ho];intros;simp) h3 rfl;simp only[qop,ho,hx,hi,h4];first|rfl|(simp;rfl)
theorem zok {t:TypeId} {x y:Operand} {l:List UInt8} {i:Int} (g:0<=i/\ i<=(l.length:Int)/\ (l.length:Int)<=(l.length:Int))(ho:o.op= .slice t x (some y) none none)(hx:ρ x= .raw (.string (bs l)))(hy:ρ y= .raw (.int .i64 i))(hu:P.underlying t=some .string):
 qop P ρ U o=some (.raw (.string (bs (sub l i l.length)))):=by
 have hsz:(bs l).size=l.length:=rfl;have c2:0<=i/\ i<=((bs l).size:Int):=by rw[hsz];omega
 have h3:val? P (execOp (zca ρ) o)=some (.value (.string (bs (sub l i l.length)))):=by
  have he:sub l i l.length=(l.drop i.toNat).take (l.length-i.toNat):=rfl;rw[he, <-zwr];simp only[execOp,ho,zca,hx,hy,zdv,getD_some,map_some,Option.map_none,Instr.sliceAt,Instr.slice,Instr.sliceBounds,Instr.sliceBound,asIntOf,underlying];simp[program,Bind.bind,Pure.pure,Functor.map,Sem.bind,val?,hu,if_pos c2];try rfl
 have h1:o.op.operands.toList.all (fun x=>(zdv (ρ x)).isSome)=true:=by rw[ho];simp[Op.operands,hx,hy,zdv]
 have h4:=z4v h1 (by rw[ho];intros;simp) h3 rfl;simp only[qop,ho,hx,hy,h4,map_some,Option.map_none,zln,hu];try rfl
theorem q_ssl_H {t:TypeId} {x z:Operand} {l:List UInt8} {j:Int} (g:0<=0/\ 0<=j/\ j<=(l.length:Int))(ho:o.op= .slice t x none (some z) none)(hx:ρ x= .raw (.string (bs l)))(hz:ρ z= .raw (.int .i64 j))(hu:P.underlying t=some .string):
 qop P ρ U o=some (.raw (.string (bs (sub l 0 j)))):=by
 have hsz:(bs l).size=l.length:=rfl;have c1:0<=j/\ j<=((bs l).size:Int):=by rw[hsz];omega
 have h3:val? P (execOp (zca ρ) o)=some (.value (.string (bs (sub l 0 j)))):=by
  have he:sub l 0 j=(l.drop 0).take (j.toNat-0):=rfl;rw[he, <-zwr];simp only[execOp,ho,zca,hx,hz,zdv,getD_some,map_some,Option.map_none,Instr.sliceAt,Instr.slice,Instr.sliceBounds,Instr.sliceBound,asIntOf,underlying];simp[program,Bind.bind,Pure.pure,Functor.map,Sem.bind,val?,hu,if_pos c1];try rfl
 have h1:o.op.operands.toList.all (fun x=>(zdv (ρ x)).isSome)=true:=by rw[ho];simp[Op.operands,hx,hz,zdv]
 have h4:=z4v h1 (by rw[ho];intros;simp) h3 rfl;simp only[qop,ho,hx,hz,h4,map_some,Option.map_none,zln,hu];try rfl
end
variable {c:Bool} {y:Operand} {n:Int} {args':List AV}
inductive RV where
 |v (a:AV)|m (a:AV)|x (a:AV)|p
def RV.val:RV->AV
 | .v a=>a
 | .m a=>a
 | .x a=>a
 | .p=> .raw undef
def gst (ops:Array Oper)(S:List AV)(o:Oper):Option Bool:=match o.guard with
 |none=>some true
 | some (k,b)=>match zea ops S k with
  |some (some c)=>some (c==b)
  |some none=>some false
  |none=>none
def oneV (P:Program)(ops:Array Oper)(U:St)(S:List AV)(o:Oper):RV->Option (AV×St)
 | .v _=>match gst ops S o,zcx S o,zdh S o with
  |some true,none,none=>aop P (zbz S) U o
  |_,_,_=>none
 | .m _=>match gst ops S o with
  | some true=>match mvOf o.op with
   | some k=>match S[k]? with
    |some a=>some (a,U)
    |none=>none
   |none=>none
  |_=>none
 | .x _=>match gst ops S o with
  | some true=>match exOf o.op with
   | some (k,i)=>match S[k]? with
    | some (.tup vs)=>match vs[i]? with
     |some a=>some (a,U)
     |none=>none
    |_=>none
   |none=>none
  |_=>none
 | .p=>match gst ops S o with
  |some false=>some (.raw undef,U)
  |_=>none
def outV (P:Program)(ops:Array Oper)(U:St):List RV->List Oper->List AV->List (Option (AV×St))
 |x::vs,o::l,S=>oneV P ops U S o x::outV P ops U vs l (zah S o.dst x.val)
 |_::_,[],_=>[none]
 |[],_,_=>[]
def putV:List RV->List Oper->List AV->List AV
 |x::vs,o::l,S=>putV vs l (zah S o.dst x.val)
 |_,_,S=>S
def z5d:List RV->List Oper->List Oper
 |_::vs,_::l=>z5d vs l
 |_,l=>l
def expV (U:St):List RV->List (Option (AV×St))
 |x::vs=>some (x.val,U)::expV U vs
 |[]=>[]
section
variable {IT:IterP} {P:Program} {W:Owed} {ops:Array Oper} {Q:List AV->St->Prop} {o:Oper} {l L l':List Oper} {S S':List AV} {U U' U'':St} {a:AV} {k0:Nat}
theorem zvd (h:gst ops S o=some c):o.guard=none/\ c=true \/ ∃k b d,o.guard=some (k,b)/\ zea ops S k=some d/\ (c=true->d=some b)/\ (c=false->d≠some b):=by
 unfold gst at h;split at h
 ·exact .inl ⟨‹_›,(Option.some.inj h).symm⟩
 ·rename_i k b hg;split at h
  ·rename_i d hd;cases h;refine .inr ⟨k,b,_,hg,hd,fun e=> ?_,fun e=> ?_⟩
   ·rw[beq_iff_eq] at e;rw[e]
   ·intro e';cases e';simp at e
  ·rename_i hd;cases h;exact .inr ⟨k,b,_,hg,hd,nofun,nofun⟩
  ·cases h
theorem zol (h:gst ops S o=some true)(k:zfd IT P W o S U fun a U'=>zcb IT P W ops Q l (zah S o.dst a) U'):zcb IT P W ops Q (o::l) S U:=by
 rcases zvd h with⟨hg,_⟩|⟨kk,b,d,hg,hd,h1,_⟩
 ·simp only[zcb,hg];exact k
 ·simp only[zcb,hg];exact⟨d,hd,by rw[h1 rfl,if_pos rfl];exact k⟩
theorem w_one {x:RV} (h:oneV P ops U S o x=some (x.val,U))(k:zcb IT P W ops Q l (zah S o.dst x.val) U):zcb IT P W ops Q (o::l) S U:=by
 cases x with
 | v a=>
  simp only[oneV] at h;split at h
  ·rename_i h1 h2 h3;refine zol h1 ?_;simp only[zfd,h2,h3];exact .inl ⟨_,_,.inl h,k⟩
  ·cases h
 | m a=>
  simp only[oneV] at h;split at h
  ·rename_i h1;split at h
   ·rename_i kk h2;split at h
    ·rename_i b h3;obtain⟨q1,q2,q3⟩:=ztt (P:=P) (U:=U) h2 h3;have e:b=a:=congrArg Prod.fst (Option.some.inj h);subst e;refine zol h1 ?_;simp only[zfd,q1,q2];exact .inl ⟨_,_,.inl (zaz q3),k⟩
    ·cases h
   ·cases h
  ·cases h
 | x a =>
  simp only[oneV] at h;split at h
  ·rename_i h1;split at h
   ·rename_i kk i h2;split at h
    ·rename_i vs h3;split at h
     ·rename_i b h4;obtain⟨q1,q2,q3⟩:=z0c (P:=P) (U:=U) h2 h3 h4;have e:b=a:=congrArg Prod.fst (Option.some.inj h);subst e;refine zol h1 ?_;simp only[zfd,q1,q2];exact .inl ⟨_,_,.inl (zaz q3),k⟩
     ·cases h
    ·cases h
   ·cases h
  ·cases h
 | p=>
  simp only[oneV] at h;split at h
  ·rename_i h1;rcases zvd h1 with⟨_,e⟩|⟨kk,b,d,hg,hd,_,h2⟩
   ·cases e
   ·exact qdv hg hd (h2 rfl) rfl k
  ·cases h
theorem w_r (vs:List RV)(k:zcb IT P W ops Q l' S' U)(h:outV P ops U vs l S=expV U vs:=by exact rfl)(hl:z5d vs l=l':=by dsimp only[z5d,List.toList_toArray,List.drop])(hS:putV vs l S=S':=by dsimp only[putV,RV.val,zah,List.set,List.toList_toArray,List.drop]):zcb IT P W ops Q l S U:=by
 subst hl hS;induction vs generalizing l S with
 |nil=>simpa[putV,z5d] using k
 | cons x vs ih=>
  cases l with
  |nil=>simp[outV,expV] at h
  | cons o l=>
   simp only[outV,expV,List.cons.injEq] at h;exact w_one h.1 (ih h.2 (by simpa[putV,z5d] using k))
theorem zbb {id:Nat} {x y:Code} {Q:AQ} (vs:List RV)(k:zcb IT P W ops (zue (awp IT P W k0 y Q) Q .normal) l' S' U)(hx:x= .region id ops false:=by exact rfl)(h:outV P ops U vs ops.toList S=expV U vs:=by exact rfl)(hl:z5d vs ops.toList=l':=by dsimp only[z5d,List.toList_toArray])(hS:putV vs ops.toList S=S':=by dsimp only[putV,RV.val,zah,List.set,List.toList_toArray]):awp IT P W k0 (.seq x y) Q S U:=by
 subst hx;exact zj (zb (w_r vs k h hl hS))
theorem zai {t b:Bool} (e:t=b)(k:zcb IT P W ops Q l S' U)(hg:o.guard=none:=by exact rfl)(hc:zcx S o=none:=by exact rfl)(hy:zdh S o=none:=by exact rfl)(h:qop P (zbz S) U o=some (.raw (.bool t)):=by exact rfl)(hS:zah S o.dst (.raw (.bool b))=S':=by dsimp only[zah,List.set]):zcb IT P W ops Q (o::l) S U:=
 zoy hg hc hy (zaz (zhj h e)) hS k
theorem zgu {x:Operand} {t:TypeId} {c} {m:Int} (g: -9223372036854775808<=m+n/\ m+n<9223372036854775808)(k:zcb IT P W ops Q l S' U)(hg:o.guard=none:=by exact rfl)(ho:o.op= .binOp .add t x y c:=by exact rfl)(hx:zbz S x= .raw (.int .i64 m):=by exact rfl)(hv:zbz S y= .raw (.int .i64 n):=by exact rfl)(hS:zah S o.dst (.raw (.int .i64 (m+n)))=S':=by dsimp only[zah,List.set]):zcb IT P W ops Q (o::l) S U:=
 zoy hg (by simp[zcx,ho]) (by simp[zdh,ho]) (zaz (qnt ho hx hv rfl g.1 g.2)) hS k
theorem qkw {x:Operand} {t:TypeId} {c} {m:Int} (g: -9223372036854775808<=m-n/\ m-n<9223372036854775808)(k:zcb IT P W ops Q l S' U)(hg:o.guard=none:=by exact rfl)(ho:o.op= .binOp .sub t x y c:=by exact rfl)(hx:zbz S x= .raw (.int .i64 m):=by exact rfl)(hv:zbz S y= .raw (.int .i64 n):=by exact rfl)(hS:zah S o.dst (.raw (.int .i64 (m-n)))=S':=by dsimp only[zah,List.set]):zcb IT P W ops Q (o::l) S U:=
 zoy hg (by simp[zcx,ho]) (by simp[zdh,ho]) (zaz (zju ho hx hv rfl g.1 g.2)) hS k
theorem z4u {α:Type} [Enc α] {t e:TypeId} {x i:Operand} {u:α} {xs:List α} {st:Room} {kd:IntKind} {n:Int} (hu:ix xs n=u)(g:0<=n/\ n<xs.length)(k:zcb IT P W ops Q l S' U)(hg:o.guard=none:=by exact rfl)(ho:o.op= .indexAddr t x i:=by exact rfl)(hx:zbz S x= .list xs.length (Enc.cellsL xs) st:=by exact rfl)(hi:zbz S i= .raw (.int kd n):=by exact rfl)(ht:P.underlying t=some (.slice e):=by exact rfl)(hs:zcp P e=some (Enc.sz α):=by exact rfl)
 (hS:zah S o.dst (.iptr (Enc.cells u++Enc.cellsL (xs.drop (n.toNat+1))))=S':=by dsimp only[zah,List.set]):zcb IT P W ops Q (o::l) S U:=by
 subst hu;exact zoy hg (by simp[zcx,ho]) (by simp[zdh,ho]) (zaz (qco g ho hx hi ht hs)) hS k
theorem zoa {t:TypeId} {x:Operand} {s:Nat} {v:AV} {bx:TypeId×List AV} (n:Nat)(U'':St)(k:zcb IT P W ops Q l S' U'')(hg:o.guard=none:=by exact rfl)(ho:o.op= .store t x y:=by exact rfl)(hx:zbz S x= .ptr s 0:=by exact rfl)(hv:zbz S y=v:=by exact rfl)(hb:U.boxes[s]? =some bx:=by exact rfl)(hn:zcp P t=some n:=by exact rfl)(hl:bx.2.length=n:=by exact rfl)(hc:zhs v=true:=by exact rfl)(hvl:(cellsOf v).length=n:=by exact rfl)(h0:0<n:=by decide)
 (hS:zah S o.dst (.raw undef)=S':=by dsimp only[zah,List.set]) (hσ:{U with boxes:=U.boxes.set s (bx.1,cellsOf v)}=U'':=by exact rfl):zcb IT P W ops Q (o::l) S U:=
 zhn hg (by simp[zcx,ho]) (by simp[zdh,ho]) (zen ho hx hv hb hn hl hc hvl h0) hS hσ k
theorem zch {f:FuncId} {args:List AV} {r:AV} (hp:Pure IT P f args' r)(k:zcb IT P W ops Q l S' U)(hg:o.guard=none:=by exact rfl)(hc:zcx S o=some (f,args):=by exact rfl)
 (hs:stripL args=args':=by repeat(first|exact rfl|refine zv (by first|exact zcq (zae (Enc.clo _))|exact zmn (Enc.cloL _)|exact zvw (Enc.cloL _) Enc.z|exact rfl) ?_))
 (hok:zaf 0 args=true:=by repeat(first|exact rfl|refine za (by first|exact zas _ _ (zae (Enc.clo _))|exact zbc (Enc.cloL _)|exact zdn (Enc.cloL _)|exact rfl) ?_)) (hS:zah S o.dst r=S':=by dsimp only[zah,List.set]):zcb IT P W ops Q (o::l) S U:=
 zlg hp hg hc hs hok hS k
theorem h_ix {α:Type} [Enc α] {K:List AV->Prop} {t e:TypeId} {x i:Operand} {u:α} {xs:List α} {st:Room} {kd:IntKind} {n:Int} (hu:ix xs n=u)(g:0<=n/\ n<xs.length)(k:zed IT P ops U K l S')(hd:(o.dst.all fun d=>decide (d<S.length))=true:=by exact rfl)(hg:o.guard=none:=by exact rfl)(ho:o.op= .indexAddr t x i:=by exact rfl)(hx:zbz S x= .list xs.length (Enc.cellsL xs) st:=by exact rfl)(hi:zbz S i= .raw (.int kd n):=by exact rfl)(ht:P.underlying t=some (.slice e):=by exact rfl)(hs:zcp P e=some (Enc.sz α):=by exact rfl)
 (hS:zah S o.dst (.iptr (Enc.cells u++Enc.cellsL (xs.drop (n.toNat+1))))=S':=by dsimp only[zah,List.set]):zed IT P ops U K (o::l) S:=by
 subst hu;exact qko hd hg (by simp[zcx,ho]) (qco g ho hx hi ht hs) hS k
theorem qcf {K:List AV->Prop} {f:FuncId} {args:List AV} {r:AV} (hp:Pure IT P f args' r)(k:zed IT P ops U K l S')(hd:(o.dst.all fun d=>decide (d<S.length))=true:=by exact rfl)(hg:o.guard=none:=by exact rfl)(hc:zcx S o=some (f,args):=by exact rfl)
 (hs:stripL args=args':=by repeat(first|exact rfl|refine zv (by first|exact zcq (zae (Enc.clo _))|exact zmn (Enc.cloL _)|exact zvw (Enc.cloL _) Enc.z|exact rfl) ?_))
 (hok:zaf 0 args=true:=by repeat(first|exact rfl|refine za (by first|exact zas _ _ (zae (Enc.clo _))|exact zbc (Enc.cloL _)|exact zdn (Enc.cloL _)|exact rfl) ?_)) (hS:zah S o.dst r=S':=by dsimp only[zah,List.set]):zed IT P ops U K (o::l) S:=
 qqt hp hd hg hc hs hok hS k
end
theorem strip_t {vs us:List AV} (h:stripL vs=us):zcw (.tup vs)= .tup us:=by rw[zcw,h]
theorem strip_a {vs us:List AV} (h:stripL vs=us):zcw (.agg vs)= .agg us:=by rw[zcw,h]
theorem qpm {k:Nat} {vs:List AV} (h:zaf k vs=true):zbp k (.tup vs)=true:=h
theorem zbx {P:Program} {fn:Func} {S:List AV} {U:St} {R:Type} {y r:R} (E:R->AV)(hr:some y=some r)(a:AV)(h:zav P fn U S=some a:=by exact rfl)
 (hok:zbp 0 a=true:=by first|exact zas _ _ (zae (Enc.clo _))|exact zbc (Enc.cloL _)|exact zdn (Enc.cloL _)|((first|refine qpm ?_|refine okTrim_a ?_);repeat(first|exact rfl|refine za (by first|exact zas _ _ (zae (Enc.clo _))|exact zbc (Enc.cloL _)|exact zdn (Enc.cloL _)|exact rfl) ?_)))
 (hs:zcw a=E y:=by first|exact zmn (Enc.cloL _)|exact zvw (Enc.cloL _) Enc.z|exact zcq (zae (Enc.clo _))|((first|refine strip_t ?_|refine strip_a ?_);repeat(first|exact rfl|refine zv (by first|exact zcq (zae (Enc.clo _))|exact zmn (Enc.cloL _)|exact zvw (Enc.cloL _) Enc.z|exact rfl) ?_))):zwg P fn (E r) .ret S U:=
 zdz E hr h hok hs
theorem zbn {IT:IterP} {P:Program} {W:Owed} {k0:Nat} {α:Type} {A B:Option α} {r:α} {d:Operand} {x y:Code} {Q:AQ} {S:List AV} {U:St} (h:(bif c then A else B)=some r)(kt:c=true->A=some r->awp IT P W k0 x Q S U)(kf:c=false->B=some r->awp IT P W k0 y Q S U)(hc:zbz S d= .raw (.bool c):=by exact rfl):awp IT P W k0 (.cond d x y) Q S U:=
 zz h (fun e h=>zfn e hc (kt e h)) (fun e h=>zfs e hc (kf e h))
@[reducible] def AV.L {α:Type} [Enc α] (l:List α):AV:= .list l.length (Enc.cellsL l) .none
@[reducible] def AV.F {α:Type} [Enc α] (l:List α):AV:= .list l.length (Enc.cellsL l) .full
@[reducible] def AV.O {α:Type} [Enc α] (l:List α):AV:=zbt l.length (Enc.cellsL l)
@[reducible] def AV.A {α:Type} [Enc α] (x:α):AV:= .agg (Enc.cells x)
@[reducible] def St.B (l:List (TypeId×List AV)):St:=⟨l,[],[],0,false⟩
theorem zbl {P:Program} {f:FuncId} {fn:Func} {c:Code} {args S':List AV} {r:AV} (n:Nat)(hmix:P.follows .mixedOrders=true)(hf:P.funcs[f]? =some fn)(he:Ent P f)(h:awp (ITP P) P none 0 c (zwg P fn r) S' (St.B []))(hb:fn.body=some c:=by exact rfl)(hn:Nat.sub fn.ntmps args.length=n:=by exact rfl)(hS:args++List.replicate n (.raw undef)=S':=by dsimp only[List.replicate,List.cons_append,List.nil_append]):Pure (ITP P) P f args r:=
 zjw hmix hf hb he (by unfold zaq;rw[show fn.ntmps-args.length=n from hn,hS];exact h)
end Go.Ab
namespace Go.Ab
open Go Go.RowKit Go.Fwd Go.Proofs
variable {y:Code} {Q:AQ} {S:List AV} {U:St}
structure InsLaw (P:Program)(f:FuncId)(S e:TypeId)(sz by':Nat):Prop where
 room: ∀(b n c i vb voff m vc:Nat) (R V:List Value) (t0:TypeId) (tA:TypeId) (kA:Nat) (w:World) (hi:i<n) (hm:0<m) (hroom:n+m<=c) (hc63:n+m<=4611686018427387904) (hvb:vb≠b)
  (hrow:w.heap[b]? =some (.cells R.toArray t0 (0,0))) (hR:c*sz<=R.length) (hone: ∀v∈R.take (n*sz),v.oneCell'=true) (hVl:V.length=m*sz) (hV: ∀j v,V[j]? =some v->w.cell? ⟨vb,voff+j,none⟩=some v) (h1v: ∀v∈V,v.oneCell'=true)
  (hsa:w.shape? vb=some (tA,kA)) (hkA:kA≠0),
  Calls P f #[.slice (some ⟨b,0,none⟩) n c,.int .i64 i,.slice (some ⟨vb,voff,none⟩) m vc] w fun e w'=>
   e= .returned (.slice (some ⟨b,0,none⟩) (n+m) c)/\ w'=w.drew.setRow b (R.take (i*sz)++V++(R.drop (i*sz)).take ((n-i)*sz)++R.drop ((n+m)*sz)).toArray
 stop: ∀(base:Option Addr) (n c m vc:Nat) (va:Option Addr) (r:Value) (w w1:World) (hm:0<m) (hnc:n<=c) (hc63:n+m<=4611686018427387904) (hnil:base=none->c=0)
  (hrun:(Builtin.append_ #[S,S] S #[.slice base n c,.slice va m vc]).run P w= .ok r w1),
  Calls P f #[.slice base n c,.int .i64 n,.slice va m vc] w fun e w'=>e= .returned r/\ w'=w1
 grow: ∀(b n c i vb voff m vc:Nat) (R V:List Value) (t0:TypeId) (tA:TypeId) (kA:Nat) (w:World) (hi:i<n) (hm:0<m) (hnc:n<=c) (hroom:c<n+m) (hbig:(n+m)*by'<=140737488355328) (hvb:vb<w.heap.size)
  (hrow:w.heap[b]? =some (.cells R.toArray t0 (0,0))) (hR:c*sz<=R.length) (hone: ∀v∈R.take (n*sz),v.oneCell'=true) (hVl:V.length=m*sz) (hV: ∀j v,V[j]? =some v->w.cell? ⟨vb,voff+j,none⟩=some v) (h1v: ∀v∈V,v.oneCell'=true),
  Calls P f #[.slice (some ⟨b,0,none⟩) n c,.int .i64 i,.slice (some ⟨vb,voff,none⟩) m vc] w fun e' w'=>
   ∃G Z,n+m<=G/\ e'= .returned (.slice (some ⟨w.heap.size,0,none⟩) (n+m) G)/\ Z.length+(n+m)*sz=G*sz/\ w'=w.drew.drew.alloc (.cells (R.take (i*sz)++V++(R.drop (i*sz)).take ((n-i)*sz)++Z:List Value).toArray e)
theorem z0h {w:World} {b o:Nat} {v:Value} (h:w.cell? ⟨b,o,none⟩=some v): ∃t k,w.shape? b=some (t,k)/\ k≠0/\ b<w.heap.size:=by
 unfold World.cell? at h;unfold World.shape?;split at h
 ·rename_i c t f hq;simp only[hq];refine⟨t,c.size,rfl,?_,(Array.getElem?_eq_some_iff.1 hq).1⟩;have:=(Array.getElem?_eq_some_iff.1 h).1;omega
 ·cases h
section
variable {α:Type} [Enc α]
theorem Enc.ins (l r:List α)(k:Nat):(Enc.cellsL l).take (k*Enc.sz α)++Enc.cellsL r++(Enc.cellsL l).drop (k*Enc.sz α)=Enc.cellsL (l.take k++r++l.drop k):=by
 rw[Enc.take,Enc.drop,Enc.app,Enc.app]
end
theorem qdj {IT:IterP} (hIT:ITMono IT) {U:St} {X:Cx} (hI:Inv IT U X) {s b:Nat} {t:TypeId} {cs:List AV} (hs:X.κ[s]? =some b)(hb:U.boxes[s]? =some (t,cs)):
 ∃X',X'.w=X.w/\ Ext X X'/\ Inv IT {U with boxes:=U.boxes.set s (t,[])} X'/\ At IT X' cs b 0:=by
 have hbm:b∈X.κ:=List.mem_of_getElem? hs;obtain⟨us,zs,k1,k2,k3⟩:=hI.box s b t cs hs hb;have hul:=zu k2
 have hE:Ext X {X with F:=fun b' o=>X.F b' o \/(b'=b/\ o<us.length)}:={Ext.refl X with
  F:=fun _ _ h=> .inl h
  cell:=fun _ _ _=>rfl
  Fnew:=fun b' o h=>h.elim .inl fun h=> .inr (.inr (.inr (h.1▸hbm)))}
 have hK:=zts hI hb;refine⟨{X with F:=fun b' o=>X.F b' o \/(b'=b/\ o<us.length)},rfl,hE,?_,?_⟩
 ·refine {lens:=hK.lens,elems:=hK.elems,κlen:=hK.κlen,κnd:=hK.κnd,box:= ?_,κF:= ?_,βlen:=hK.βlen,βnd:=hK.βnd,βκ:=hK.βκ,row:= ?_,Ok:= ?_,Fcell:= ?_}
  ·intro s' b' t' cs' hs' hb';obtain⟨vs',zs',u1,u2,u3⟩:=hK.box s' b' t' cs' hs' hb';exact⟨vs',zs',u1,zau hIT hE _ _ u2,u3⟩
  ·intro s' b' t' cs' hs' hb' hc o hf;rcases hf with hf|⟨rfl,hlt⟩
   ·exact hK.κF s' b' t' cs' hs' hb' hc o hf
   ·have hne:cs≠[]:=fun e=>by rw[e] at hul;simp at hul;omega
    have hs0:s<U.boxes.length:=(List.getElem?_eq_some_iff.1 hb).1;by_cases e:s=s'
    ·subst e;have hb'':(U.boxes.set s (t,[]))[s]? =some (t',cs'):=hb';rw[List.getElem?_set_self hs0] at hb'';cases hb'';exact hc rfl
    ·have hb'':(U.boxes.set s (t,[]))[s']? =some (t',cs'):=hb';rw[List.getElem?_set_ne e] at hb'';rcases hI.κnd s s' b' hs hs' e with⟨t0,h0⟩|⟨t0,h0⟩
     ·rw[hb] at h0;exact hne (congrArg Prod.snd (Option.some.inj h0))
     ·rw[hb''] at h0;exact hc (congrArg Prod.snd (Option.some.inj h0))
  ·intro s' r L hr hL;obtain⟨cur,fz,c1,c2,c3,c4,c5,c6,c7⟩:=hI.row s' r L hr hL;refine⟨cur,fz,c1,c2,c3,c4,c5,fun o hf=> ?_,c7⟩;rcases hf with hf|⟨e,_⟩
   ·exact c6 o hf
   ·exact absurd (e▸hbm) (hI.βκ r (List.mem_of_getElem? hr))
  ·intro b' ho;obtain⟨h1,h2,h3,h4⟩:=hI.Ok b' ho;exact⟨h1,h2,h3,fun o hf=>hf.elim (h4 o) fun h=>absurd (h.1▸hbm) h2⟩
  ·intro b' o hf;rcases hf with hf|⟨rfl,hlt⟩
   ·exact hI.Fcell b' o hf
   ·refine⟨us[o],?_⟩;show X.w.cell? _=_;rw[cell_of_row _ _ _ _ _ _ k1,List.getElem?_toArray,List.getElem?_append_left hlt];exact List.getElem?_eq_getElem hlt
 ·refine z1j (fun j hj=> .inr ⟨rfl,by omega⟩) k3 (zau hIT hE _ _ k2) fun j u hu=> ?_;show X.w.cell? _=_;have hj:=(List.getElem?_eq_some_iff.1 hu).1;rw[cell_of_row _ _ _ _ _ _ k1,zero_add,List.getElem?_toArray,List.getElem?_append_left hj];exact hu
theorem snd_frz {IT:IterP} (hIT:ITMono IT) {α:Type} [Enc α] {P:Program} {f:FuncId} {ar ar':List AV} {r:AV} {U:St} {s:Nat} {t:TypeId} {l:List α} {fl:Bool} (h:Pure IT P f (.list (length l) (Enc.cellsL l) .none   ::ar') r)(has:stripL ar=ar')(hok:zaf 0 ar=true)(hb:U.boxes[s]? =some (t,Enc.cellsL l)):
 Snd IT P f (.bsl s 0 (length l) (Enc.sz α) fl::ar) U r {U with boxes:=U.boxes.set s (t,[])}:=by
 refine⟨h.1,fun X vs hI hr=> ?_⟩;rw[zbo] at hr;obtain⟨v0,vr,rfl,hv0,hrr⟩:=hr;have hv0:Bsl X s 0 l.length (Enc.sz α) fl v0:=hv0;obtain⟨b,c,cur,t1,hκ,rfl,hcap,_,hrow,hfit⟩:=hv0;obtain⟨X',x1,x2,x3,x4⟩:=qdj hIT hI hκ hb;have hr':zbo IT X' (.list (length l) (Enc.cellsL l) .none::ar) (.slice (some ⟨b,0,none⟩) l.length c::vr):=by
  rw[zbo];refine⟨_,vr,rfl,?_,zau hIT x2 _ _ hrr⟩;rw[Rep];exact⟨_,_,rfl,⟨hcap,fun h=>by cases h⟩,.inr ⟨_,_,rfl,x4⟩,trivial⟩
 have hl:=zma hIT h (args:= .list (length l) (Enc.cellsL l) .none::ar) (by rw[Go.Ab.stripL,zcw,Enc.stripL,has]) (by rw[za (zbc (Enc.cloL l)) hok]) x3 hr';rw[x1] at hl;refine hl.mono ?_;rintro e w' ⟨v,Y,h1,h2,h3,h4,h5,_⟩;exact⟨v,Y,h1,h2,x2.trans h3,h4,h5⟩
section
variable {IT:IterP} {P:Program} {W:Owed} {k0:Nat}
theorem zgq {x:Code} (h:awp IT P W k0 x (zue (fun S U=> ∃S' U',Wk k0 S U S' U'/\ awp IT P W k0 y Q S' U') Q) S U):awp IT P W k0 (.seq x y) Q S U:= .inl h
theorem w_semB {id:Nat} {x:Code} (S':List AV)(U':St)(hs:qkv IT P (.block id x) S U S' U')(h:Q .normal S' U'):awp IT P none k0 (.block id x) Q S U:= .inr ⟨rfl,S',U',hs,h⟩
theorem qpc {x:Code} (S':List AV)(U':St)(hs:qkv IT P x S U S' U')(h:awp IT P none k0 y Q S' U'):awp IT P none k0 (.seq x y) Q S U:= .inr ⟨rfl,S',U',hs,h⟩
theorem at_wk {S':List AV} {U':St} (hw:Wk k0 S U S' U')(h:awp IT P W k0 y Q S' U'): ∃S' U',Wk k0 S U S' U'/\ awp IT P W k0 y Q S' U':=⟨S',U',hw,h⟩
end
end Go.Ab
namespace Go.Ab
open Go Go.RowKit Go.Fwd
variable {y:Code}
abbrev zN:List AV:=[.u 0,.raw (.int .u64 0),.raw (.int .u64 0),.raw (.int .u64 0),.raw (.int .u64 0),.i 0,.i 0,.list 0 [] .full]
section
variable {IT:IterP} {P:Program} {W:Owed} {ops:Array Oper} {Q:List AV->St->Prop} {o:Oper} {l:List Oper} {S S':List AV} {U U':St} {k0:Nat}
theorem zes {t t0:TypeId} {x y:Operand} {s:Nat} {v:AV} {c0:List AV} {bs bs':List (TypeId×List AV)} (n:Nat)(cs:List AV)(k:zcb IT P W ops Q l S' (.B bs'))(hσ:U= .B bs:=by exact rfl)(hg:o.guard=none:=by exact rfl)(ho:o.op= .store t x y:=by exact rfl)(hx:zbz S x= .ptr s 0:=by exact rfl)(hv:zbz S y=v:=by exact rfl)(hb:bs[s]? =some (t0,c0):=by exact rfl)(hn:zcp P t=some n:=by exact rfl)(hl:c0.length=n:=by exact rfl)(hc:zhs v=true:=by exact rfl)(hcs:cellsOf v=cs:=by exact rfl)(hvl:cs.length=n:=by exact rfl)(h0:0<n:=by decide)
 (hS:zah S o.dst (.raw undef)=S':=by dsimp only[zah,List.set]) (hs:bs.set s (t0,cs)=bs':=by dsimp only[List.set]):zcb IT P W ops Q (o::l) S U:=by
 subst hσ hs hcs;exact zhn hg (by simp[zcx,ho]) (by simp[zdh,ho]) (zen ho hx hv hb hn hl hc hvl h0) hS rfl k
theorem zdf {a:AV} {t:TypeId} {bs bs':List (TypeId×List AV)} (cs:List AV)(k:zcb IT P W ops Q l S' (.B bs'))(hσ:U= .B bs:=by exact rfl)(hg:o.guard=none:=by exact rfl)(hc:zcx S o=none:=by exact rfl)(hy:zdh S o=none:=by exact rfl)(h:aop P (zbz S) (.B bs) o=some (.ptr bs.length 0,.B (bs++[(t,cs)])):=by exact rfl)
 (ha:AV.ptr bs.length 0=a:=by dsimp only[List.length_cons,List.length_nil,Nat.zero_add,Nat.reduceAdd]) (hS:zah S o.dst a=S':=by dsimp only[zah,List.set]) (hs:bs++[(t,cs)]=bs':=by dsimp only[List.cons_append,List.nil_append]):zcb IT P W ops Q (o::l) S U:=by
 subst hσ hs ha;exact zhn hg hc hy h hS rfl k
theorem wmk (m:List Bool)(n:Nat)(fs js:List Nat)(d:Nat)(hn:k0<=n)(hσ:zeu U U.lens.length n fs js d=U')(hok:zdd U n js=true:=by exact rfl)(h:fgM m (zac U.lens.length (kz U.boxes U.lens.length n fs js d) S)=S':=by
 try dsimp only[zap,zbi,List.foldl,List.set,bz,bzc,Nat.reduceMod,Nat.reduceDiv,Nat.reduceBEq,Nat.reduceAdd]
 repeat(first|exact zif|refine zff rfl ?_|refine zff (zaj _ _ _ rfl) ?_|refine zff (zaj _ _ _ (zks (Enc.cloL _))) ?_|apply zvu)):Wk k0 S U S' U':=zqx m n fs js d hn hok h hσ
def qfx (n:Nat)(l:List (Nat×AV)):List AV:=l.foldl (fun S p=>S.set p.1 p.2) (List.replicate n (.raw undef))
theorem qrg {Q:AQ} (n:Nat)(L:List (Nat×AV))(hw:Wk k0 S U (qfx n L) U')(h:awp IT P W k0 y Q S' U')(e:qfx n L=S':=by dsimp only[qfx,List.foldl,List.replicate,List.set]): ∃S' U',Wk k0 S U S' U'/\ awp IT P W k0 y Q S' U':=by
 subst e;exact⟨_,U',hw,h⟩
theorem zht {Q:AQ} (n:Nat)(L:List (Nat×AV))(hw:Wk k0 S U (qme n L) U')(h:awp IT P W k0 y Q S' U')(e:qme n L=S':=by dsimp only[qme,List.foldl,List.replicate,List.set]): ∃S' U',Wk k0 S U S' U'/\ awp IT P W k0 y Q S' U':=by
 subst e;exact⟨_,U',hw,h⟩
end
def fV:AV->AV
 | .raw (.int k n)=> .raw (.int k n)
 | .raw (.bool b)=> .raw (.bool b)
 | .raw (.string s)=> .raw (.string s)
 | .ptr s n=> .ptr s n
 |a=>a
def fN:Nat->Nat
 |0=>0|1=>1|2=>2|3=>3|4=>4|5=>5|6=>6|7=>7|n=>n
def fO:Option AV->Option AV
 |some (.raw (.int k n))=>some (.raw (.int k n))
 |some (.raw (.bool b))=>some (.raw (.bool b))
 |some (.raw (.string s))=>some (.raw (.string s))
 |some (.ptr s 0)=>some (.ptr s 0)
 |some (.ptr s 1)=>some (.ptr s 1)
 |some (.ptr s 2)=>some (.ptr s 2)
 |some (.ptr s 3)=>some (.ptr s 3)
 |some (.ptr s 4)=>some (.ptr s 4)
 |some (.ptr s 5)=>some (.ptr s 5)
 |some (.ptr s 6)=>some (.ptr s 6)
 |some (.ptr s 7)=>some (.ptr s 7)
 |some (.ptr s n)=>some (.ptr s n)
 |some a=>some a
 |none=>none
def nfV (P:Program)(ρ:Operand->AV)(U:St)(o:Oper):Option AV:=
 match o.op with
 | .binOp b _ x y _=>match ρ x,ρ y with
  | .raw (.int _ m),.raw (.int _ n)=>match b with
   | .eql=>some (.raw (.bool (m==n)))
   | .neq=>some (.raw (.bool (m !=n)))
   | .lss=>some (.raw (.bool (decide (m<n))))
   | .leq=>some (.raw (.bool (decide (m<=n))))
   | .gtr=>some (.raw (.bool (decide (m>n))))
   | .geq=>some (.raw (.bool (decide (m>=n))))
   |_=>none
  |_,_=>none
 | .unOp .not _ x=>match ρ x with
  | .raw (.bool b)=>some (.raw (.bool (!b)))
  |_=>none
 | .assign x=>fO (some (ρ x))
 | .move x=>fO (some (ρ x))
 | .nilCheck x=>fO (some (ρ x))
 | .pick c a b=>match ρ c with
  | .raw (.bool true)=>fO (some (ρ a))
  | .raw (.bool false)=>fO (some (ρ b))
  |_=>none
 | .fieldAddr t x f=>fO (znb P t f (ρ x))
 | .load t x=>match ρ x with
  | .ptr s off=>match U.boxes[s]?,zcp P t with
   |some (_,cs),some 1=>fO cs[off]?
   |some (_,cs),_=>if off==0 then some (.agg cs) else none
   |none,_=>none
  | .iptr cs=>match zcp P t with
   |some 1=>fO cs[0]?
   |_=>none
  |_=>none
 | .call c=>match c.callee with
  | .builtin .len=>match c.args.toList with
   | [x]=>match ρ x with
    | .list n _ _=>some (.raw (.int .i64 n))
    |_=>none
   |_=>none
  |_=>none
 |_=>none
structure Do (n:Nat)(A:Prop):Prop where
 h:A
theorem d0 {A:Prop} (k:A):Do 0 A:=⟨k⟩
section
variable {IT:IterP} {P:Program} {W:Owed} {ops:Array Oper} {Q:List AV->St->Prop} {o:Oper} {l:List Oper} {S S':List AV} {U U':St} {k0:Nat} {a:AV} {n i:Nat} {K:List AV->Prop}
theorem d_mv {k:Nat} (kk:Do n (zcb IT P W ops Q l S' U))(ho:mvOf o.op=some k:=by exact rfl)(hg:gst ops S o=some true:=by exact rfl)(hv:S[k]? =some a:=by exact rfl)(hS:zah S o.dst a=S':=by dsimp only[zah,List.set]):Do (n+1) (zcb IT P W ops Q (o::l) S U):=by
 obtain⟨q1,q2,q3⟩:=ztt (P:=P) (U:=U) ho hv;subst hS;refine⟨zol hg ?_⟩;simp only[zfd,q1,q2];exact .inl ⟨_,_,.inl (zaz q3),kk.h⟩
theorem d_ex {k:Nat} {vs:List AV} (kk:Do n (zcb IT P W ops Q l S' U))(ho:exOf o.op=some (k,i):=by exact rfl)(hg:gst ops S o=some true:=by exact rfl)(hv:S[k]? =some (.tup vs):=by exact rfl)(hi:vs[i]? =some a:=by exact rfl)(hS:zah S o.dst a=S':=by dsimp only[zah,List.set]):Do (n+1) (zcb IT P W ops Q (o::l) S U):=by
 obtain⟨q1,q2,q3⟩:=z0c (P:=P) (U:=U) ho hv hi;subst hS;refine⟨zol hg ?_⟩;simp only[zfd,q1,q2];exact .inl ⟨_,_,.inl (zaz q3),kk.h⟩
theorem d_po (kk:Do n (zcb IT P W ops Q l S' U))(hg:gst ops S o=some false:=by exact rfl)(hS:zah S o.dst (.raw undef)=S':=by dsimp only[zah,List.set]):Do (n+1) (zcb IT P W ops Q (o::l) S U):=by
 rcases zvd hg with⟨_,e⟩|⟨k,b,d,hg,hd,_,h2⟩
 ·cases e
 ·exact⟨qdv hg hd (h2 rfl) hS kk.h⟩
theorem d_op (kk:Do n (zcb IT P W ops Q l S' U))(hs:nfV P (zbz S) U o=some a:=by exact rfl)(hg:gst ops S o=some true:=by exact rfl)(hc:zcx S o=none:=by exact rfl)(hy:zdh S o=none:=by exact rfl)(h:aop P (zbz S) U o=some (a,U):=by exact rfl)(hS:zah S o.dst a=S':=by dsimp only[zah,List.set]):Do (n+1) (zcb IT P W ops Q (o::l) S U):=by
 subst hS;refine⟨zol hg ?_⟩;simp only[zfd,hc,hy];exact .inl ⟨_,_,.inl h,kk.h⟩
theorem d_bo {t b:Bool} (kk:Do n (zcb IT P W ops Q l S' U))(hs:nfV P (zbz S) U o=some (.raw (.bool t)):=by exact rfl)(e:t=b:=by assumption)(hg:gst ops S o=some true:=by exact rfl)(hc:zcx S o=none:=by exact rfl)(hy:zdh S o=none:=by exact rfl)(h:aop P (zbz S) U o=some (.raw (.bool t),U):=by exact rfl)(hS:zah S o.dst (.raw (.bool b))=S':=by dsimp only[zah,List.set]):Do (n+1) (zcb IT P W ops Q (o::l) S U):=by
 subst hS e;refine⟨zol hg ?_⟩;simp only[zfd,hc,hy];exact .inl ⟨_,_,.inl h,kk.h⟩
theorem z5q (hg:gst ops S o=some true)(kk:zed IT P ops U K ({o with guard:=none}::l) S):zed IT P ops U K (o::l) S:=by
 rcases zvd hg with⟨h,_⟩|⟨k,b,d,hg,hd,h1,_⟩
 ·have:({o with guard:=none}:Oper)=o:=by cases o;simp only at h;subst h;rfl
  rwa[this] at kk
 ·exact zlk hg (by rw[hd,h1 rfl]) kk
theorem dh_mv {k:Nat} (kk:Do n (zed IT P ops U K l S'))(ho:mvOf o.op=some k:=by exact rfl)(hd:(o.dst.all fun d=>decide (d<S.length))=true:=by exact rfl)(hg:gst ops S o=some true:=by exact rfl)(hv:S[k]? =some a:=by exact rfl)(hS:zah S o.dst a=S':=by dsimp only[zah,List.set]):Do (n+1) (zed IT P ops U K (o::l) S):=
 ⟨z5q hg (zhv (o:={o with guard:=none}) kk.h ho hd rfl hv hS)⟩
theorem dh_po (kk:Do n (zed IT P ops U K l S'))(hd:(o.dst.all fun d=>decide (d<S.length))=true:=by exact rfl)(hg:gst ops S o=some false:=by exact rfl)(hS:zah S o.dst (.raw undef)=S':=by dsimp only[zah,List.set]):Do (n+1) (zed IT P ops U K (o::l) S):=by
 rcases zvd hg with⟨_,e⟩|⟨k,b,d,hg,hd',_,h2⟩
 ·cases e
 ·exact⟨qpr hd hg hd' (h2 rfl) hS kk.h⟩
theorem dh_op (kk:Do n (zed IT P ops U K l S'))(hs:nfV P (zbz S) U o=some a:=by exact rfl)(hd:(o.dst.all fun d=>decide (d<S.length))=true:=by exact rfl)(hg:gst ops S o=some true:=by exact rfl)(hc:zcx S o=none:=by exact rfl)(h:qop P (zbz S) U o=some a:=by exact rfl)(hS:zah S o.dst a=S':=by dsimp only[zah,List.set]):Do (n+1) (zed IT P ops U K (o::l) S):=
 ⟨z5q hg (qko (o:={o with guard:=none}) hd rfl hc h hS kk.h)⟩
theorem dh_bo {t b:Bool} (kk:Do n (zed IT P ops U K l S'))(hs:nfV P (zbz S) U o=some (.raw (.bool t)):=by exact rfl)(e:t=b:=by assumption)(hd:(o.dst.all fun d=>decide (d<S.length))=true:=by exact rfl)(hg:gst ops S o=some true:=by exact rfl)(hc:zcx S o=none:=by exact rfl)(h:qop P (zbz S) U o=some (.raw (.bool t)):=by exact rfl)(hS:zah S o.dst (.raw (.bool b))=S':=by dsimp only[zah,List.set]):Do (n+1) (zed IT P ops U K (o::l) S):=by
 subst e;exact⟨z5q hg (qko (o:={o with guard:=none}) hd rfl hc h hS kk.h)⟩
theorem d_sr {id:Nat} {x y:Code} {Q:AQ} (h:Do n (zcb IT P W ops (zue (awp IT P W k0 y Q) Q .normal) ops.toList S U))(hx:x= .region id ops false:=by exact rfl):Do (n+1) (awp IT P W k0 (.seq x y) Q S U):=by
 subst hx;exact⟨zj (zb h.h)⟩
theorem d_rg {id:Nat} {Q:AQ} (h:Do n (zcb IT P W ops (Q .normal) ops.toList S U)):Do (n+1) (awp IT P W k0 (.region id ops false) Q S U):=⟨zb h.h⟩
end
theorem wq {A B:Prop} (n:Nat)(k:B)(h:B->Do n A:=by
 intro k;repeat(first|refine d_mv ?_|refine d_po ?_|refine d_bo ?_|refine d_op ?_|refine d_ex ?_|refine d_sr ?_|refine d_rg ?_|refine dh_mv ?_|refine dh_po ?_|refine dh_bo ?_|refine dh_op ?_)
 exact d0 k):A:=(h k).h
variable {n:Nat} {j:Int}
section
variable {P:Program} {ρ:Operand->AV} {U:St} {o:Oper} {α:Type} [Enc α]
theorem q_bslL {t e:TypeId} {x i:Operand} {s:Nat} {f:Bool} {k:IntKind} (g:0<=j/\ j<n)(ho:o.op= .slice t x (some i) none none)(hx:ρ x= .bsl s 0 n (Enc.sz α) f)(hi:ρ i= .raw (.int k j))(hu:P.underlying t=some (.slice e))(hs:zcp P e=some (Enc.sz α)):
 qop P ρ U o=some (.bsl s (j.toNat*Enc.sz α) (n-j.toNat) (Enc.sz α) f):=by
 have h4:zep n (some (.raw (.int k j))) none none=some (j.toNat,n,false):=by
  have c:0<=j/\ j<=(n:Int):=by omega
  simp only[zep,zig,if_pos c]
 have hlt:j.toNat<n:=by omega
 simp only[qop,ho,hx,hi,map_some,Option.map_none,zln,hu,hs,h4,if_true,if_pos hlt,zero_add];simp
theorem q_bslH {t e:TypeId} {x i:Operand} {s:Nat} {f:Bool} {k:IntKind} (g:0<j/\ j<=n)(ho:o.op= .slice t x none (some i) none)(hx:ρ x= .bsl s 0 n (Enc.sz α) f)(hi:ρ i= .raw (.int k j))(hu:P.underlying t=some (.slice e))(hs:zcp P e=some (Enc.sz α)):
 qop P ρ U o=some (.bsl s 0 j.toNat (Enc.sz α) (f&&(j.toNat==n))):=by
 have h4:zep n none (some (.raw (.int k j))) none=some (0,j.toNat,false):=by
  have c:0<=j/\ j<=(n:Int):=by omega
  simp only[zep,zig,if_pos c]
 have hlt:0<j.toNat:=by omega
 simp only[qop,ho,hx,hi,map_some,Option.map_none,zln,hu,hs,h4,if_true,if_pos hlt,zero_add,Nat.zero_mul,Nat.sub_zero];simp
end
theorem qni {IT:IterP} {P:Program} {W:Owed} {k0:Nat} {id:Nat} {ops:Array Oper} {Q:AQ} {S:List AV} {U:St} (S1:List AV)(U1:St)(h:zpq IT P W ops (fun S U=>S=S1/\ U=U1) ops.size (Array.replicate ops.size false) S U)(hrest:Q .normal S1 U1):awp IT P W k0 (.region id ops true) Q S U:=
 .inr (.inr (.inl (zhc (fun S U hw=>by obtain⟨rfl,rfl⟩:=hw;exact hrest) _ _ _ _ h)))
theorem zvz {IT:IterP} {P:Program} {W:Owed} {ops:Array Oper} {Q:List AV->St->Prop} {o:Oper} {l:List Oper} {S S':List AV} {U:St} (t:Tr)(k:zcb IT P W ops Q l S' U)(hg:o.guard=none:=by exact rfl)(hc:zcx S o=none:=by exact rfl)(hy:zdh S o=none:=by exact rfl)(h:qop P (zbz S) U o=some (qny t .full):=by kernel_rfl)(hS:zah S o.dst (.agg (Enc.cells t))=S':=by dsimp only[zah,List.set]):zcb IT P W ops Q (o::l) S U:=
 qol (.agg (Enc.cells t)) (a0:=qny t .full) hg hc hy h (z5h _ _) hS k
end Go.Ab
namespace Go.Ab
open Go Go.RowKit Go.Fwd Go.Proofs
def zka (lo:Int)(hi:Int):Option Bool:=
 (zcu (τ:=Unit) (bif (decide (lo<0)) then(some (inr false)) else(bif (decide (lo>16)) then(some (inr false)) else(bif (lo==1) then(bif (hi==1) then(some (inr false)) else(some (inl ()))) else(some (inl ()))))) (fun j1=>(bif (hi==(-1)) then(some true) else(bif (decide (hi>=1)) then(bif (decide (hi<=16)) then(some (decide (hi>=lo))) else(some false)) else(some false)))))
theorem ent47:Ent prog 47:=enters_of Tryz.func47 (by kernel_rfl) rfl
theorem zwy (lo:Int)(hi:Int)(r:Bool)(h:zka lo hi=some r):Pure (ITP prog) prog 47 [.raw (.int .i64 lo),.raw (.int .i64 hi)] (.raw (.bool r)):=by
 unfold zka at h;refine zbl 32 mix Tryz.func47 ent47 ?_;refine zbb [.v (.b false)] ?_;refine zan h (bz 0 34 17179869180) (fun j1=>[]) (fun j1=>(.B [])) ?_ ?_;intro or1 h hr1;refine zbb [.m _,.v (.b (decide (lo<0)))] ?_;refine zz h (fun hc1 h=> ?_) (fun hc1 h=> ?_);refine zai hc1 ?_;refine w_r [.p,.p,.v (.b true),.m _,.p] ?_;refine w_r [.p,.p,.p,.p,.p] ?_;refine w_r [.v (.b true)] ?_;refine zbd rfl ?_;refine zbb [.v (.b false)] ?_;replace h:=zi h hr1;exact zal h;refine zai hc1 ?_;refine w_r [.m _,.v (.b (decide (lo>16))),.v (.b (decide (lo>16)))] ?_;refine zz h (fun hc2 h=> ?_) (fun hc2 h=> ?_);refine zai hc2 ?_;refine w_r [.p,.p,.p,.p,.p] ?_;refine w_r [.p,.v (.b true)] ?_;refine zbd rfl ?_;refine zbb [.v (.b false)] ?_;replace h:=zi h hr1;exact zal h;refine zai hc2 ?_;refine w_r [.m _,.v (.b (lo==1))] ?_;refine zao rfl rfl ?_;refine zz h (fun hc3 h=> ?_) (fun hc3 h=> ?_);refine zai hc3 ?_;refine w_r [.m _,.v (.b (hi==1)),.v (.b (hi==1)),.v (.b (hi==1))] ?_;refine zbn h (fun hc4 h=> ?_) (fun hc4 h=> ?_);refine zbb [.v (.b false)] ?_;replace h:=zi h hr1;exact zal h;refine zc (o:=or1) () h ?_;exact zbe (bl 34 3);refine zai hc3 ?_;refine w_r [.p,.p,.v (.b false),.v (.b false)] ?_;refine zcd rfl ?_;refine zc (o:=or1) () h ?_;exact zbe (bl 34 3);intro j1 h;refine zdi ?_;refine zbb [.m _,.v (.b (hi==(-1)))] ?_;refine zz h (fun hc5 h=> ?_) (fun hc5 h=> ?_);refine zai hc5 ?_;iterate 2 refine w_r [.p,.p,.p,.p,.p] ?_
 refine w_r [.p,.v (.b true),.m _] ?_;exact zal h;refine zai hc5 ?_;refine w_r [.m _,.v (.b (decide (hi>=1)))] ?_;refine zao rfl rfl ?_;refine zz h (fun hc6 h=> ?_) (fun hc6 h=> ?_);refine zai hc6 ?_;refine w_r [.m _,.v (.b (decide (hi<=16))),.v (.b (decide (hi<=16)))] ?_;refine zao rfl rfl ?_;refine zz h (fun hc7 h=> ?_) (fun hc7 h=> ?_);refine zai hc7 ?_;refine w_r [.m _,.m _,.v (.b (decide (hi>=lo))),.v (.b (decide (hi>=lo))),.v (.b (decide (hi>=lo)))] ?_;refine w_r [.m _] ?_;exact zal h;refine zai hc7 ?_;refine w_r [.p,.p,.p,.v (.b false),.v (.b false)] ?_;refine w_r [.m _] ?_;exact zal h;refine zai hc6 ?_;refine w_r [.p,.p,.v (.b false),.m _,.p] ?_;refine w_r [.p,.p,.v (.b false),.v (.b false),.m _] ?_;exact zal h
def z0j (t:Tr):Option Tr:=
 (some (Tr.mk 6 (0#256) 0 0 [t]))
theorem ent29:Ent prog 29:=enters_of Tryz.func29 (by kernel_rfl) rfl
theorem qfg (t:Tr)(r:Tr)(h:z0j t=some r):Pure (ITP prog) prog 29 [.A (t:Tr)] (.A (r:Tr)):=by
 unfold z0j at h;refine zbl 5 mix Tryz.func29 ent29 ?_;refine zj (zb ?_);refine zdf (Enc.cells (t:Tr)) ?_;refine zdf zN ?_;refine zbb [.v (.A (t:Tr))] ?_;refine w_o (a:= .F ([t]:List Tr)) (h:=zaz (zho (α:=Tr) (l:=[t]) (cs:=Enc.cells (t:Tr)++[]) rfl (by rw[Enc.cons,Enc.nil]))) ?_;refine zvz (Tr.mk 6 (0#256) 0 0 [t]) ?_;refine zes 8 (Enc.cells ((Tr.mk 6 (0#256) 0 0 [t]):Tr)) ?_;exact zbx (fun(r:Tr)=> .A (r:Tr)) h (.A ((Tr.mk 6 (0#256) 0 0 [t]):Tr))
def qfr (t:Tr)(lo:Int)(hi:Int):Option Tr:=
 (some (Tr.mk 5 (0#256) lo hi [t]))
theorem ent30:Ent prog 30:=enters_of Tryz.func30 (by kernel_rfl) rfl
theorem rep8_sh (t:Tr)(lo:Int)(hi:Int)(r:Tr)(h:qfr t lo hi=some r):Pure (ITP prog) prog 30 [.A (t:Tr),.raw (.int .i64 lo),.raw (.int .i64 hi)] (.A (r:Tr)):=by
 unfold qfr at h;refine zbl 9 mix Tryz.func30 ent30 ?_;refine zj (zb ?_);refine zdf (Enc.cells (t:Tr)) ?_;refine zdf zN ?_;refine zbb [.m _,.m _,.v (.A (t:Tr))] ?_;refine w_o (a:= .F ([t]:List Tr)) (h:=zaz (zho (α:=Tr) (l:=[t]) (cs:=Enc.cells (t:Tr)++[]) rfl (by rw[Enc.cons,Enc.nil]))) ?_;refine zvz (Tr.mk 5 (0#256) lo hi [t]) ?_;refine zes 8 (Enc.cells ((Tr.mk 5 (0#256) lo hi [t]):Tr)) ?_;exact zbx (fun(r:Tr)=> .A (r:Tr)) h (.A ((Tr.mk 5 (0#256) lo hi [t]):Tr))
def qag (s:BS):Option Tr:=
 (bif (decide (s=(0#256))) then(some zaw) else(some (Tr.mk 2 s 0 0 [])))
theorem ent132:Ent prog 132:=enters_of Tryz.func132 (by kernel_rfl) rfl
theorem rxof_sh (s:BS)(r:Tr)(h:qag s=some r):Pure (ITP prog) prog 132 [.A (s:BS)] (.A (r:Tr)):=by
 unfold qag at h;refine zbl 8 mix Tryz.func132 ent132 ?_;refine zj (zb ?_);refine zdf (Enc.cells (s:BS)) ?_;refine zdf zN ?_;refine zj ?_;refine zbb [.v (.A (s:BS)),.v (.A (0#256:BS))] ?_;refine qcd (.b (decide (s=(0#256)))) rfl rfl rfl (zyi s (0#256) rfl rfl rfl) (by dsimp only[zah,List.set]) ?_;refine zbn h (fun hc1 h=> ?_) (fun hc1 h=> ?_);refine zj (zb ?_);refine zvz zaw ?_;refine zes 8 (Enc.cells (zaw:Tr)) ?_;exact zbx (fun(r:Tr)=> .A (r:Tr)) h (.A (zaw:Tr));refine zbb [.v (.A (s:BS))] ?_;refine zvz (Tr.mk 2 s 0 0 []) ?_;refine zes 8 (Enc.cells ((Tr.mk 2 s 0 0 []):Tr)) ?_;exact zbx (fun(r:Tr)=> .A (r:Tr)) h (.A ((Tr.mk 2 s 0 0 []):Tr))
def zph (s:BS)(c:Int):Option Bool:=
 (chk (0<=(zgc .u8 c 6)/\ (zgc .u8 c 6)<4) (chk (0<=(zlx .u8 c 63)) (some ((zlx .u64 (zgc .u64 (wd s (toNat (zgc .u8 c 6))) (zlx .u8 c 63)) 1)==1))))
theorem ent149:Ent prog 149:=enters_of Tryz.func149 (by kernel_rfl) rfl
theorem zvf (s:BS)(c:Int)(r:Bool)(h:zph s c=some r):Pure (ITP prog) prog 149 [.A (s:BS),.raw (.int .u8 c)] (.raw (.bool r)):=by
 unfold zph at h;refine zbl 12 mix Tryz.func149 ent149 ?_;refine zj (zb ?_);refine zdf (Enc.cells (s:BS)) ?_;refine w_o (a:= .b false) ?_;refine zbb [.m _] ?_;refine w_o (a:= .u (zgc .u8 c 6)) (h:=zaz (qee (by decide) rfl rfl rfl)) ?_;obtain⟨g1,h⟩:=ze h;refine w_o (a:= .ptr 0 (0+toNat (zgc .u8 c 6)*1)) (h:=zaz (zsj g1 rfl rfl rfl rfl rfl)) ?_;refine w_o (a:= .raw (.int .u64 (wd s (toNat (zgc .u8 c 6))))) (h:=zaz (zzx s (by omega) rfl rfl rfl)) ?_;refine w_r [.m _,.v (.u (zlx .u8 c 63))] ?_;obtain⟨g2,h⟩:=ze h;refine w_o (a:= .raw (.int .u64 (zgc .u64 (wd s (toNat (zgc .u8 c 6))) (zlx .u8 c 63)))) (h:=zaz (qee g2 rfl rfl rfl)) ?_;refine w_r [.v (.raw (.int .u64 (zlx .u64 (zgc .u64 (wd s (toNat (zgc .u8 c 6))) (zlx .u8 c 63)) 1))),.v (.b ((zlx .u64 (zgc .u64 (wd s (toNat (zgc .u8 c 6))) (zlx .u8 c 63)) 1)==1)),.m _] ?_;exact zal h
end Go.Ab
namespace Go.Ab
open Go Go.RowKit Go.Fwd Go.Proofs
theorem qno {l:List AV} (h:cloL l=true):clo (.iptr l)=true:=h
def F_ixf (fuel:Nat)(p:Tr->Option Bool)(l:(List Tr)):Option Int:=
 (zcu (τ:=Unit) (zax (β:=Int) (fun s1=>(bif (decide (s1<(length l:Int))) then(chk (0<=s1/\ s1<(length l:Int)) (zba (ix l s1) (fun x1=>(zag (p x1) (fun x2=>(bif x2 then(some (inr (inr s1))) else(chk (I64 (s1+1)) (some (inl ((s1+1))))))))))) else(some (inr (inl ()))))) fuel (0)) (fun j1=>(some (-1))))
theorem ent159:Ent prog 159:=enters_of Tryz.func159 (by kernel_rfl) rfl
def F_ixc (fuel:Nat)(p:Tr->Option Bool)(l:(List Tr)):Option Int:=
 (zcu (τ:=Unit) (zax (β:=Int) (fun s1=>(bif (decide (s1<(length l:Int))) then(chk (0<=s1/\ s1<(length l:Int)) (zba (ix l s1) (fun x1=>(zag (p x1) (fun x2=>(bif x2 then(some (inr (inr s1))) else(chk (I64 (s1+1)) (some (inl ((s1+1))))))))))) else(some (inr (inl ()))))) fuel (0)) (fun j1=>(some (-1))))
theorem ixc_sh (fuel:Nat)(p:Tr->Option Bool)(l:(List Tr))(r:Int)(g:FuncId)(c:AV)(hok:clo c=true)(hp: ∀x y,p x=some y->Pure (ITP prog) prog g [.A x,c] (.raw (.bool y)))(h:F_ixc fuel p l=some r):Pure (ITP prog) prog 159 [.L (l:List Tr),.clos g [c]] (.raw (.int .i64 r)):=by
 unfold F_ixc at h;refine zbl 17 mix Tryz.func159 ent159 ?_;refine wq 2 ?_;refine zan h (bz 0 19 524287) (fun j1=>[]) (fun j1=>(.B [])) ?_ ?_;intro or1 h hr1;refine wq 4 ?_;refine zx ?_;refine zcf h (bz 0 19 524156) (fun s1=>[(8,.i s1)]) (fun s1=>(.B [])) ?_ ?_;exact zbe (bl 19 387);intro s1 p1 h;refine zdi ?_;refine wq 2 ?_;refine zj ?_;refine zbn h (fun hc1 h=> ?_) (fun hc1 h=> ?_);refine zj ?_;refine zx ?_;refine wq 7 ?_;obtain⟨g1,h⟩:=ze h;obtain⟨x1,hx1,h⟩:=zk h;refine z4u hx1 g1 ?_;refine w_o (a:= .A (x1:Tr)) ?_;obtain⟨x2,hx2,h⟩:=zr h;refine zlg (args':=[.A (x1:Tr),c]) (r:= .b x2) (hp x1 x2 hx2) rfl rfl (zv (zcq (zae (Enc.clo _))) (zv (zcq hok) rfl)) (za (zas _ _ (zae (Enc.clo _))) (za (zas _ _ hok) rfl)) (by dsimp only[zah,List.set]) ?_;refine zbn h (fun hc2 h=> ?_) (fun hc2 h=> ?_);refine wq 3 ?_;refine zg h (fun h=> ?_);replace h:=zi h hr1;exact zkj h;refine zb (k0:=0) (id:=6) ?_;obtain⟨g2,h⟩:=ze h;refine zgu g2 ?_;refine zar ?_;refine zbf (p:=p1) ((s1+1)) h ?_;exact zbe (bl 19 387);refine zg h (fun h=> ?_);refine zc (o:=or1) () h ?_;exact zbe (bl 19 0);intro j1 h;refine zdi ?_;refine wq 2 ?_;exact zkj h
def F_ctf (fuel:Nat)(p:Tr->Option Bool)(l:(List Tr)):Option Bool:=
 (zag (F_ixf fuel p l) (fun x1=>(some (decide (x1>=0)))))
theorem ent134:Ent prog 134:=enters_of Tryz.func134 (by kernel_rfl) rfl
def qog (fuel:Nat)(p:Tr->Option Bool)(l:(List Tr)):Option Bool:=
 (zag (F_ixc fuel p l) (fun x1=>(some (decide (x1>=0)))))
theorem ctc_sh (fuel:Nat)(p:Tr->Option Bool)(l:(List Tr))(r:Bool)(g:FuncId)(c:AV)(hok:clo c=true)(hp: ∀x y,p x=some y->Pure (ITP prog) prog g [.A x,c] (.raw (.bool y)))(h:qog fuel p l=some r):Pure (ITP prog) prog 134 [.L (l:List Tr),.clos g [c]] (.raw (.bool r)):=by
 unfold qog at h;refine zbl 7 mix Tryz.func134 ent134 ?_;refine wq 5 ?_;obtain⟨x1,hx1,h⟩:=zr h;refine zlg (args':=[.L (l:List Tr),.clos g [c]]) (r:= .i x1) (ixc_sh fuel p l x1 g c hok hp hx1) rfl rfl (zv (zmn (Enc.cloL _)) (zv (show AV.clos _ (stripL _)=_ from congrArg (AV.clos _) (zv (zcq hok) rfl)) rfl)) (za (zbc (Enc.cloL _)) (za (show zaf _ _=true from(za (zas _ _ hok) rfl)) rfl)) (by dsimp only[zah,List.set]) ?_;refine wq 2 ?_;exact zal h
def z5z (fuel:Nat)(p:Tr->Tr->Option Bool)(a:(List Tr))(b:(List Tr)):Option Bool:=
 (bif ((length a:Int) !=(length b:Int)) then(some false) else(zcu (τ:=Unit) (zax (β:=Int) (fun s1=>(bif (decide (s1<(length a:Int))) then(chk (0<=s1/\ s1<(length a:Int)) (zba (ix a s1) (fun x1=>(chk (0<=s1/\ s1<(length b:Int)) (zba (ix b s1) (fun x2=>(zag (p x1 x2) (fun x3=>(bif (!x3) then(some (inr (inr false))) else(chk (I64 (s1+1)) (some (inl ((s1+1)))))))))))))) else(some (inr (inl ()))))) fuel (0)) (fun j1=>(some true))))
theorem ent102:Ent prog 102:=enters_of Tryz.func102 (by kernel_rfl) rfl
theorem eqf_sh (fuel:Nat)(p:Tr->Tr->Option Bool)(a:(List Tr))(b:(List Tr))(r:Bool)(g:FuncId)(hp: ∀x y z,p x y=some z->Pure (ITP prog) prog g [.A x,.A y] (.raw (.bool z)))(h:z5z fuel p a b=some r):Pure (ITP prog) prog 102 [.L (a:List Tr),.L (b:List Tr),.clos g []] (.raw (.bool r)):=by
 unfold z5z at h;refine zbl 29 mix Tryz.func102 ent102 ?_;refine wq 2 ?_;refine zj ?_;refine wq 6 ?_;refine zbn h (fun hc1 h=> ?_) (fun hc1 h=> ?_);refine wq 2 ?_;exact zal h;refine zan h (bz 0 32 4294967295) (fun j1=>[]) (fun j1=>(.B [])) ?_ ?_;intro or1 h hr1;refine wq 4 ?_;refine zx ?_;refine zcf h (bz 0 32 4294868985) (fun s1=>[(17,.i s1)]) (fun s1=>(.B [])) ?_ ?_;exact zbe (bl 32 229382);intro s1 p1 h;refine zdi ?_;refine wq 2 ?_;refine zj ?_;refine zbn h (fun hc2 h=> ?_) (fun hc2 h=> ?_);refine zj ?_;refine zx ?_;refine wq 2 ?_;obtain⟨g1,h⟩:=ze h;obtain⟨x1,hx1,h⟩:=zk h;refine z4u hx1 g1 ?_;refine w_o (a:= .A (x1:Tr)) ?_;refine zdf zN ?_;refine zar ?_;refine zes 8 (Enc.cells (x1:Tr)) ?_;refine wq 3 ?_;obtain⟨g2,h⟩:=ze h;obtain⟨x2,hx2,h⟩:=zk h;refine z4u hx2 g2 ?_;refine w_o (a:= .A (x2:Tr)) ?_;refine zdf zN ?_;refine zes 8 (Enc.cells (x2:Tr)) ?_;refine wq 4 ?_;obtain⟨x3,hx3,h⟩:=zr h;refine zch (r:= .b x3) (hp x1 x2 x3 hx3) ?_;refine wq 1 ?_;refine zbn h (fun hc3 h=> ?_) (fun hc3 h=> ?_);refine wq 2 ?_;refine zg h (fun h=> ?_);replace h:=zi h hr1;exact zal h;refine zb (k0:=0) (id:=9) ?_;obtain⟨g3,h⟩:=ze h;refine zgu g3 ?_;refine zar ?_;refine zbf (p:=p1) ((s1+1)) h ?_;exact zce (bl 32 229382) 0 (by kernel_rfl) (Nat.le_of_ble_eq_true rfl) (zbg rfl) (by dsimp only[zap,zbi,foldl,List.set,bz,bzc,Nat.reduceMod,Nat.reduceDiv,Nat.reduceBEq,Nat.reduceAdd];exact(za rfl (za (zbc (Enc.cloL _)) (za (show zaf _ _=true from rfl) (za rfl (za rfl (za rfl (za rfl (za rfl (za rfl (za rfl (za rfl (za rfl (za rfl (za rfl (za rfl (za (zbc (Enc.cloL _)) (by kernel_rfl)))))))))))))))))) (by kernel_rfl);refine zg h (fun h=> ?_);refine zc (o:=or1) () h ?_;exact zbe (bl 32 0);intro j1 h;refine zdi ?_;refine wq 2 ?_;exact zal h
def z1n (x:Tr)(k:Int):Option Bool:=
 (some (((x.k:Nat):Int)==k))
theorem ent135:Ent prog 135:=enters_of Tryz.func135 (by kernel_rfl) rfl
theorem has1_sh (x:Tr)(k:Int)(r:Bool)(h:z1n x k=some r):Pure (ITP prog) prog 135 [.A (x:Tr),.iptr [.raw (.int .u8 k)]] (.raw (.bool r)):=by
 unfold z1n at h;refine zbl 6 mix Tryz.func135 ent135 ?_;refine wq 1 ?_;refine zdf (Enc.cells (x:Tr)) ?_;refine wq 7 ?_;exact zal h
def zvy (fuel:Nat)(t:Tr)(k:Int):Option Bool:=
 (zag (qog fuel (fun x=>z1n x k) t.l) (fun x1=>(some x1)))
theorem ent101:Ent prog 101:=enters_of Tryz.func101 (by kernel_rfl) rfl
theorem qan (fuel:Nat)(t:Tr)(k:Int)(r:Bool)(h:zvy fuel t k=some r):Pure (ITP prog) prog 101 [.A (t:Tr),.raw (.int .u8 k)] (.raw (.bool r)):=by
 unfold zvy at h;refine zbl 7 mix Tryz.func101 ent101 ?_;refine wq 1 ?_;refine zdf (Enc.cells (t:Tr)) ?_;refine zdf [.u k] ?_;refine wq 3 ?_;refine w_r [.v (.L (t.l:List Tr))] ?_;refine w_r [.v (.clos 135 [.ptr 1 0])] ?_;obtain⟨x1,hx1,h⟩:=zr h;refine w_callf 1 (args':=[.L (t.l:List Tr),.clos 135 [.iptr [.u k]]]) (r:= .b x1) (ctc_sh fuel (fun x=>z1n x k) t.l x1 135 (.iptr [.u k]) (qno (zps rfl rfl)) (fun x y h=>has1_sh x k y h) hx1) rfl rfl (zqi (z7b (zks (Enc.cloL _))) (zqi rfl z4b)) rfl (by dsimp only[zah,List.set]) ?_;refine zar ?_;exact zal h
def zyo (fuel:Nat)(t:Tr):Option Bool:=
 (zcu (τ:=Unit) (bif (((t.k:Nat):Int) !=2) then(bif (decide (t.s≠(0#256))) then(some (inr false)) else(bif (((t.k:Nat):Int) !=5) then(bif (t.mn !=0) then(some (inr false)) else(bif (t.mx !=0) then(some (inr false)) else(bif (decide (((t.k:Nat):Int)<3)) then(bif (decide ((length t.l:Int)>0)) then(some (inr false)) else(some (inl ()))) else(some (inl ()))))) else(bif (decide (((t.k:Nat):Int)<3)) then(bif (decide ((length t.l:Int)>0)) then(some (inr false)) else(some (inl ()))) else(some (inl ()))))) else(bif (((t.k:Nat):Int) !=5) then(bif (t.mn !=0) then(some (inr false)) else(bif (t.mx !=0) then(some (inr false)) else(bif (decide (((t.k:Nat):Int)<3)) then(bif (decide ((length t.l:Int)>0)) then(some (inr false)) else(some (inl ()))) else(some (inl ()))))) else(bif (decide (((t.k:Nat):Int)<3)) then(bif (decide ((length t.l:Int)>0)) then(some (inr false)) else(some (inl ()))) else(some (inl ()))))) (fun j1=>(bif (((t.k:Nat):Int)==1) then(some true) else(bif (((t.k:Nat):Int)==2) then(some (decide (t.s≠(0#256)))) else(bif (((t.k:Nat):Int)==3) then(bif (decide ((length t.l:Int)>1)) then(zag (zvy fuel t 1) (fun x1=>(bif (!x1) then(zag (zvy fuel t 3) (fun x2=>(some (!x2)))) else(some false)))) else(some false)) else(bif (((t.k:Nat):Int)==4) then(bif (decide ((length t.l:Int)>1)) then(zag (zvy fuel t 4) (fun x3=>(some (!x3)))) else(some false)) else(bif (((t.k:Nat):Int)==5) then(bif ((length t.l:Int)==1) then(zag (zka t.mn t.mx) (fun x4=>(bif x4 then(zag (zvy fuel t 1) (fun x5=>(some (!x5)))) else(some false)))) else(some false)) else(bif (((t.k:Nat):Int)==6) then(some ((length t.l:Int)==1)) else(some false)))))))))
theorem ent66:Ent prog 66:=enters_of Tryz.func66 (by kernel_rfl) rfl
theorem qou (fuel:Nat)(t:Tr)(r:Bool)(h:zyo fuel t=some r):Pure (ITP prog) prog 66 [.A (t:Tr)] (.raw (.bool r)):=by
 unfold zyo at h;refine zbl 101 mix Tryz.func66 ent66 ?_;refine wq 1 ?_;refine zdf (Enc.cells (t:Tr)) ?_;refine wq 1 ?_;refine zan h (bz 0 102 5070602400912917605986812821501) (fun j1=>[]) (fun j1=>(.B [(29,(Enc.cells (t:Tr)))])) ?_ ?_;intro or1 h hr1;refine wq 4 ?_;refine zz h (fun hc1 h=> ?_) (fun hc1 h=> ?_);refine zai hc1 ?_;refine w_r [.v (.ptr 0 1)] ?_;refine w_r [.v (.A (t.s:BS))] ?_;refine w_r [.v (.A (0#256:BS))] ?_;refine zao rfl rfl ?_;refine qcd (.b (decide (t.s≠(0#256)))) rfl rfl rfl (z2f t.s (0#256) rfl rfl rfl) (by dsimp only[zah,List.set]) ?_;refine wq 1 ?_;refine zz h (fun hc2 h=> ?_) (fun hc2 h=> ?_);refine zai hc2 ?_;refine wq 25 ?_;refine zbd rfl ?_;refine wq 2 ?_;replace h:=zi h hr1;exact zal h;refine zai hc2 ?_;refine wq 3 ?_;refine zao rfl rfl ?_;refine zz h (fun hc3 h=> ?_) (fun hc3 h=> ?_);refine zai hc3 ?_;refine wq 3 ?_;refine zao rfl rfl ?_;refine zz h (fun hc4 h=> ?_) (fun hc4 h=> ?_);refine zai hc4 ?_;refine wq 17 ?_;refine zbd rfl ?_;refine wq 2 ?_;replace h:=zi h hr1;exact zal h;refine zai hc4 ?_;refine wq 6 ?_;refine zz h (fun hc5 h=> ?_) (fun hc5 h=> ?_);refine zai hc5 ?_;refine wq 10 ?_;refine zbd rfl ?_;refine wq 2 ?_;replace h:=zi h hr1;exact zal h;refine zai hc5 ?_;refine wq 3 ?_;refine zao rfl rfl ?_;refine zz h (fun hc6 h=> ?_) (fun hc6 h=> ?_);refine zai hc6 ?_;refine wq 1 ?_;refine w_r [.v (.L (t.l:List Tr))] ?_;refine wq 4 ?_;refine zbn h (fun hc7 h=> ?_) (fun hc7 h=> ?_);refine wq 2 ?_;replace h:=zi h hr1;exact zal h;refine zc (o:=or1) () h ?_;exact zbe (bl 102 2);refine zai hc6 ?_;refine wq 6 ?_;refine zcd rfl ?_;refine zc (o:=or1) () h ?_;exact zbe (bl 102 2);refine zai hc3 ?_;refine wq 14 ?_;refine zao rfl rfl ?_;refine zz h (fun hc8 h=> ?_) (fun hc8 h=> ?_);refine zai hc8 ?_;refine wq 1 ?_;refine w_r [.v (.L (t.l:List Tr))] ?_;refine wq 4 ?_;refine zbn h (fun hc9 h=> ?_) (fun hc9 h=> ?_);refine wq 2 ?_;replace h:=zi h hr1;exact zal h;refine zc (o:=or1) () h ?_;exact zbe (bl 102 2);refine zai hc8 ?_;refine wq 6 ?_;refine zcd rfl ?_;refine zc (o:=or1) () h ?_;exact zbe (bl 102 2);refine zai hc1 ?_;refine wq 9 ?_;refine zao rfl rfl ?_;refine zz h (fun hc10 h=> ?_) (fun hc10 h=> ?_);refine zai hc10 ?_;refine wq 3 ?_;refine zao rfl rfl ?_;refine zz h (fun hc11 h=> ?_) (fun hc11 h=> ?_);refine zai hc11 ?_;refine wq 17 ?_;refine zbd rfl ?_;refine wq 2 ?_;replace h:=zi h hr1;exact zal h;refine zai hc11 ?_;refine wq 6 ?_;refine zz h (fun hc12 h=> ?_) (fun hc12 h=> ?_);refine zai hc12 ?_;refine wq 10 ?_;refine zbd rfl ?_;refine wq 2 ?_;replace h:=zi h hr1;exact zal h;refine zai hc12 ?_;refine wq 3 ?_;refine zao rfl rfl ?_;refine zz h (fun hc13 h=> ?_) (fun hc13 h=> ?_);refine zai hc13 ?_;refine wq 1 ?_;refine w_r [.v (.L (t.l:List Tr))] ?_;refine wq 4 ?_;refine zbn h (fun hc14 h=> ?_) (fun hc14 h=> ?_);refine wq 2 ?_;replace h:=zi h hr1;exact zal h;refine zc (o:=or1) () h ?_;exact zbe (bl 102 2);refine zai hc13 ?_;refine wq 6 ?_;refine zcd rfl ?_;refine zc (o:=or1) () h ?_;exact zbe (bl 102 2);refine zai hc10 ?_;refine wq 14 ?_;refine zao rfl rfl ?_;refine zz h (fun hc15 h=> ?_) (fun hc15 h=> ?_);refine zai hc15 ?_;refine wq 1 ?_;refine w_r [.v (.L (t.l:List Tr))] ?_;refine wq 4 ?_;refine zbn h (fun hc16 h=> ?_) (fun hc16 h=> ?_);refine wq 2 ?_;replace h:=zi h hr1;exact zal h;refine zc (o:=or1) () h ?_;exact zbe (bl 102 2);refine zai hc15 ?_;refine wq 6 ?_;refine zcd rfl ?_;refine zc (o:=or1) () h ?_;exact zbe (bl 102 2);intro j1 h;refine zdi ?_;refine zj ?_;refine wq 3 ?_;refine zx ?_;refine wq 3 ?_;refine zbn h (fun hc17 h=> ?_) (fun hc17 h=> ?_);refine wq 2 ?_;exact zal h;refine wq 3 ?_;refine zbn h (fun hc18 h=> ?_) (fun hc18 h=> ?_);refine zj (zb ?_);refine w_r [.v (.ptr 0 1)] ?_;refine w_r [.v (.A (t.s:BS))] ?_;refine w_r [.v (.A (0#256:BS))] ?_;refine qcd (.b (decide (t.s≠(0#256)))) rfl rfl rfl (z2f t.s (0#256) rfl rfl rfl) (by dsimp only[zah,List.set]) ?_;refine zar ?_;exact zal h;refine wq 3 ?_;refine zbn h (fun hc19 h=> ?_) (fun hc19 h=> ?_);refine wq 2 ?_;refine w_r [.v (.L (t.l:List Tr))] ?_;refine wq 2 ?_;refine zz h (fun hc20 h=> ?_) (fun hc20 h=> ?_);refine zai hc20 ?_;refine wq 1 ?_;refine zao rfl rfl ?_;obtain⟨x1,hx1,h⟩:=zr h;refine zch (qan fuel t 1 x1 hx1) ?_;refine wq 2 ?_;refine zz h (fun hc21 h=> ?_) (fun hc21 h=> ?_);refine zai hc21 ?_;refine wq 1 ?_;refine zao rfl rfl ?_;obtain⟨x2,hx2,h⟩:=zr h;refine zch (qan fuel t 3 x2 hx2) ?_;refine wq 3 ?_;exact zal h;refine zai hc21 ?_;refine wq 5 ?_;exact zal h;refine zai hc20 ?_;refine wq 10 ?_;exact zal h;refine wq 3 ?_;refine zbn h (fun hc22 h=> ?_) (fun hc22 h=> ?_);refine wq 2 ?_;refine w_r [.v (.L (t.l:List Tr))] ?_;refine wq 2 ?_;refine zz h (fun hc23 h=> ?_) (fun hc23 h=> ?_);refine zai hc23 ?_;refine wq 1 ?_;refine zao rfl rfl ?_;obtain⟨x3,hx3,h⟩:=zr h;refine zch (qan fuel t 4 x3 hx3) ?_;refine wq 3 ?_;exact zal h;refine zai hc23 ?_;refine wq 5 ?_;exact zal h;refine wq 3 ?_;refine zbn h (fun hc24 h=> ?_) (fun hc24 h=> ?_);refine wq 2 ?_;refine w_r [.v (.L (t.l:List Tr))] ?_;refine wq 2 ?_;refine zz h (fun hc25 h=> ?_) (fun hc25 h=> ?_);refine zai hc25 ?_;refine wq 4 ?_;refine zao rfl rfl ?_;obtain⟨x4,hx4,h⟩:=zr h;refine zch (zwy t.mn t.mx x4 hx4) ?_;refine wq 1 ?_;refine zz h (fun hc26 h=> ?_) (fun hc26 h=> ?_);refine zai hc26 ?_;refine wq 1 ?_;refine zao rfl rfl ?_;obtain⟨x5,hx5,h⟩:=zr h;refine zch (qan fuel t 1 x5 hx5) ?_;refine wq 3 ?_;exact zal h;refine zai hc26 ?_;refine wq 5 ?_;exact zal h;refine zai hc25 ?_;refine wq 12 ?_;exact zal h;refine wq 4 ?_;refine zz h (fun hc27 h=> ?_) (fun hc27 h=> ?_);refine zai hc27 ?_;refine wq 1 ?_;refine w_r [.v (.L (t.l:List Tr))] ?_;refine wq 4 ?_;exact zal h;refine zai hc27 ?_;refine wq 6 ?_;exact zal h
end Go.Ab
namespace Go.Ab
open Go Go.RowKit Go.Fwd Go.Proofs
theorem zyb {t:Tr} {l:List AV} (h:zci l=true):zci (.agg (Enc.cells t)::l)=true:=by
 rw[zci,h,Bool.and_true];have:=qde t;rw[enc_eq] at this;exact this
theorem rowT_ne (l:List Tr):List.map zoi l≠errRows:=by
 cases l with
 |nil=>simp[errRows]
 |cons a l=>simp[errRows,zoi,List.replicate]
theorem rowB_ne (l:List Int):List.map qkp l≠errRows:=by
 cases l with
 |nil=>simp[errRows]
 |cons a l=>simp[errRows,qkp,List.replicate]
noncomputable def z1y (fuel:Nat)(s:BS)(rows:List Int):Option Nat:=
 (zax (β:=Int×Nat) (fun s1=>(bif (decide (s1.1<256)) then(zcu (τ:=Nat) (zag (zph s (IntKind.u8.wrap s1.1)) (fun x1=>(bif x1 then(qdm (rows[s1.2]? =some (IntKind.u8.wrap s1.1)) (some (inl ((s1.2+1))))) else(some (inl (s1.2)))))) (fun j1=>(chk (I64 (s1.1+1)) (some (inl ((s1.1+1),j1)))))) else(some (inr s1.2)))) fuel (0,0))
theorem ent148:Ent prog 148:=enters_of Tryz.func148 (by kernel_rfl) rfl
theorem all1_sh (fuel:Nat)(s:BS)(rows:List Int)(h:z1y fuel s rows=some rows.length)(c:Code)(hc:Tryz.f148.body=some c)(G:Gen)(hGr:G.rows=rows.map qkp)(l:Nat)(hGl:G.l=l):awp (ITP prog) prog (some G) 0 c (qdh prog Tryz.f148 rows.length) (zaq Tryz.f148 [.yld l,.iptr (Enc.cells (s:BS))]) St.empty:=by
 cases hc;unfold z1y at h;refine zbv (by dsimp only[zaq,Tryz.f148,length_cons,length_nil,zero_add,Nat.reduceAdd,Nat.reduceSub,List.replicate,cons_append,nil_append]) (by dsimp only[St.empty]) ?_;refine zbb [.v (.i 0)] ?_;refine zx ?_;refine zcf h (bz 0 19 524284) (fun s1=>[(4,.i s1.1)]) (fun s1=>⟨[],[],[],s1.2,false⟩) ?_ ?_;exact zbe (bl 19 19);intro s1 p1 h;refine zdi ?_;refine zbb [.v (.b (decide (s1.1<256)))] ?_;refine zj ?_;refine zbn h (fun hc1 h=> ?_) (fun hc1 h=> ?_);refine zan h (bz 0 18 262120) (fun j1=>[]) (fun j1=>⟨[],[],[],j1,false⟩) ?_ ?_;intro or1 h hr1;refine zx ?_;refine zbb [.m _,.m _] ?_;refine zbb [.v (.A (s:BS)),.m _,.v (.u (IntKind.u8.wrap s1.1))] ?_;obtain⟨x1,hx1,h⟩:=zr h;refine zch (zvf s (IntKind.u8.wrap s1.1) x1 hx1) ?_;refine zz h (fun hc2 h=> ?_) (fun hc2 h=> ?_);refine zai hc2 ?_;refine w_r [.m _,.m _,.v (.u (IntKind.u8.wrap s1.1))] ?_;refine zao rfl rfl ?_;obtain⟨g1,h⟩:=z8l h;refine ztu (row:=qkp) (x:=(IntKind.u8.wrap s1.1)) (U1:=⟨[],[],[],(s1.2+1),false⟩) (U2:=⟨[],[],[],s1.2,true⟩) g1 (zv rfl rfl) (by kernel_rfl) (qlh rfl) rfl hGl hGr rfl rfl rfl rfl (by dsimp only[zah,List.set]) (by dsimp only[zah,List.set]) rfl rfl ?_ ?_;refine w_r [.v (.b false),.v (.b false)] ?_;refine zcd rfl ?_;refine zc (o:=or1) ((s1.2+1)) h ?_;exact zbe (bl 19 262167);refine w_r [.v (.b true),.v (.b true)] ?_;refine zbd rfl ?_;refine .inr ?_;exact⟨⟨.tup [],rfl⟩,.inl rfl⟩;refine zai hc2 ?_;refine w_r [.p,.p,.p,.p,.p] ?_;refine w_r [.v (.b false)] ?_;refine zcd rfl ?_;refine zc (o:=or1) (s1.2) h ?_;exact zbe (bl 19 262167);intro j1 h;refine zdi ?_;refine zb (k0:=0) (id:=4) ?_;obtain⟨g2,h⟩:=ze h;refine zgu g2 ?_;refine zar ?_;refine zbf (p:=p1) ((s1.1+1),j1) h ?_;exact zbe (bl 19 19);refine zg h (fun h=> ?_);exact⟨⟨.tup [],rfl⟩,.inr (Option.some.inj h)⟩
theorem ent114:Ent prog 114:=enters_of Tryz.func114 (by kernel_rfl) rfl
theorem all_sh (fuel:Nat)(s:BS)(rows:List Int)(h:z1y fuel s rows=some rows.length):Pure (ITP prog) prog 114 [.A (s:BS)] (.iter (rows.map qkp)):=by
 obtain⟨d,hd⟩: ∃d,Tryz.f114.body=some d:=⟨_,rfl⟩;refine zjw mix Tryz.func114 hd ent114 ?_;cases hd;refine zbv (by dsimp only[zaq,Tryz.f114,length_cons,length_nil,zero_add,Nat.reduceAdd,Nat.reduceSub,List.replicate,cons_append,nil_append]) (by dsimp only[St.empty]) ?_;refine zj (zb ?_);refine zdf (Enc.cells (s:BS)) ?_;refine w_o (a:= .raw Value.nilFunc) ?_;refine zbb [.v (.clos 148 [.ptr 0 0]),.m _] ?_;exact z1a 1 (row:=qkp) (caps:=[.iptr (Enc.cells (s:BS))]) mix rfl (congrArg (fun z=>AV.clos 148 [.iptr z]) (zeh _ _ (Enc.clo _))) Tryz.func148 rfl ent148 (by first|rfl|simp[cloL,clo,Enc.clo,zek,Enc.cloL]) (rowB_ne _) (fun G hGr=>all1_sh fuel s rows h _ rfl G hGr _ rfl)
noncomputable def zpp (fuel:Nat)(n:Nat)(t:Tr)(rows:List Tr):Option Nat:=
 (qdm (rows[0]? =some t) (zax (β:=Int×Nat) (fun s1=>(bif (decide (s1.1<(length t.l:Int))) then(zcu (τ:=Nat) (chk (0<=s1.1/\ s1.1<(length t.l:Int)) (zba (ix t.l s1.1) (fun x1=>(chk ((pre x1).length<n) (zba (pre x1) (fun x2=>(zcu (zem (β:=Nat) (fun s2 w1=>(qdm (rows[s2]? =some w1) (some (inl ((s2+1)))))) x2 (s1.2)) (fun s2=>(some (inl (s2))))))))))) (fun j1=>(chk (I64 (s1.1+1)) (some (inl ((s1.1+1),j1)))))) else(some (inr s1.2)))) fuel (0,(0+1))))
theorem ent100:Ent prog 100:=enters_of Tryz.func100 (by kernel_rfl) rfl
theorem qgk (fuel:Nat)(n:Nat)(t:Tr)(rows:List Tr)(ih: ∀x:Tr,(pre x).length<n->Pure (ITP prog) prog 65 [.A x] (.iter (List.map zoi (pre x))))(h:zpp fuel n t rows=some rows.length)(c:Code)(hc:Tryz.f100.body=some c)(G:Gen)(hGr:G.rows=rows.map zoi)(l:Nat)(hGl:G.l=l):awp (ITP prog) prog (some G) 0 c (qdh prog Tryz.f100 rows.length) (zaq Tryz.f100 [.yld l,.iptr (Enc.cells (t:Tr))]) St.empty:=by
 cases hc;unfold zpp at h;refine zbv (by dsimp only[zaq,Tryz.f100,length_cons,length_nil,zero_add,Nat.reduceAdd,Nat.reduceSub,List.replicate,cons_append,nil_append]) (by dsimp only[St.empty]) ?_;refine zj (zb ?_);refine zdf [.yld l] ?_;refine zj ?_;refine zbb [.v (.yld l),.v (.A (t:Tr))] ?_;obtain⟨g1,h⟩:=z8l h;refine ztu (row:=zoi) (x:=t) (U1:=⟨[(71,[.yld l])],[],[],(0+1),false⟩) (U2:=⟨[(71,[.yld l])],[],[],0,true⟩) g1 (zv (zcq (zae (Enc.clo _))) rfl) (za (zas _ _ (zae (Enc.clo _))) rfl) (zyb rfl) rfl hGl hGr rfl rfl rfl rfl (by dsimp only[zah,List.set]) (by dsimp only[zah,List.set]) rfl rfl ?_ ?_;refine w_o (a:= .b false) ?_;refine zcd rfl ?_;refine zbb [.v (.iptr (List.drop 7 (Enc.cells (t:Tr)))),.v (.L (t.l:List Tr)),.v (.i (length t.l:Int)),.v (.i 0)] ?_;refine zx ?_;refine zcf h (bz 0 25 33548283) (fun s1=>[(13,.i s1.1)]) (fun s1=>⟨[(71,[.yld l])],[],[],s1.2,false⟩) ?_ ?_;exact zbe (bl 25 14340);intro s1 p1 h;refine zdi ?_;refine zbb [.v (.b (decide (s1.1<(length t.l:Int))))] ?_;refine zj ?_;refine zbn h (fun hc1 h=> ?_) (fun hc1 h=> ?_);refine zan h (bz 0 24 16760880) (fun j1=>[]) (fun j1=>⟨[(71,[.yld l])],[],[],j1,false⟩) ?_ ?_;intro or1 h hr1;refine zx ?_;refine zj (zb ?_);obtain⟨g2,h⟩:=ze h;obtain⟨x1,hx1,h⟩:=zk h;refine z4u hx1 g2 ?_;refine w_o (a:= .A (x1:Tr)) ?_;refine zqo (a:= .ptr 1 0) (U'':=⟨[(71,[.yld l]),(29,zN)],[],[],s1.2,false⟩) ?_;refine zoa 8 ⟨[(71,[.yld l]),(29,(Enc.cells (x1:Tr)))],[],[],s1.2,false⟩ ?_;refine zbb [.v (.A (x1:Tr))] ?_;obtain⟨g3,h⟩:=ze h;obtain⟨x2,hx2,h⟩:=zk h;refine zch (args':=[.A (x1:Tr)]) (r:= .iter (List.map zoi x2)) (by rw[<-hx2];exact(ih x1 g3)) ?_;refine zx ?_;refine znt h zoi (fun s2=>⟨[(71,[.yld l]),(29,(Enc.cells (x1:Tr)))],[],[],s2,false⟩) rfl (fun _=>rfl) rfl rfl ?_ ?_;intro s2 w1 p2 h;refine zbv (by dsimp only[zlz,List.zip,List.zipWith,foldl,List.set,Array.toList,zoi]) rfl ?_;refine zb (k0:=0) (id:=6) ?_;refine zqo (a:= .ptr 2 0) (U'':=⟨[(71,[.yld l]),(29,(Enc.cells (x1:Tr))),(29,zN)],[],[],s2,false⟩) ?_;refine zoa 8 ⟨[(71,[.yld l]),(29,(Enc.cells (x1:Tr))),(29,(Enc.cells (w1:Tr)))],[],[],s2,false⟩ ?_;refine zx ?_;refine zbb [.v (.yld l),.v (.A (w1:Tr))] ?_;obtain⟨g4,h⟩:=z8l h;refine ztu (row:=zoi) (x:=w1) (U1:=⟨[(71,[.yld l]),(29,(Enc.cells (x1:Tr))),(29,(Enc.cells (w1:Tr)))],[],[],(s2+1),false⟩) (U2:=⟨[(71,[.yld l]),(29,(Enc.cells (x1:Tr))),(29,(Enc.cells (w1:Tr)))],[],[],s2,true⟩) g4 (zv (zcq (zae (Enc.clo _))) rfl) (za (zas _ _ (zae (Enc.clo _))) rfl) (zyb rfl) rfl hGl hGr rfl rfl rfl rfl (by dsimp only[zah,List.set]) (by dsimp only[zah,List.set]) rfl rfl ?_ ?_;refine w_o (a:= .b false) ?_;refine zcd rfl ?_;exact zfy (p:=p2) ((s2+1)) h (zbg (zy (by kernel_rfl) (zy (zn _ _ (Enc.clo _)) rfl))) (by kernel_rfl);refine w_o (a:= .b true) ?_;refine zbd rfl ?_;refine .inr ⟨(zbg (zy (by kernel_rfl) (zy (zn _ _ (Enc.clo _)) rfl))),?_⟩;refine .inr ?_;exact⟨⟨.tup [],rfl⟩,.inl rfl⟩;intro s2 h;refine zc (o:=or1) (s2) h ?_;exact zce (bl 25 16793551) 1 (by kernel_rfl) (Nat.le_of_ble_eq_true rfl) (zbg (zy (by kernel_rfl) rfl)) (by dsimp only[zap,zbi,foldl,List.set,bz,bzc,Nat.reduceMod,Nat.reduceDiv,Nat.reduceBEq,Nat.reduceAdd];exact(za rfl (za rfl (za (by decide) (za rfl (za rfl (za rfl (za rfl (za rfl (za rfl (za rfl (za rfl (za (zbc (Enc.cloL _)) (by kernel_rfl)))))))))))))) (by kernel_rfl);intro j1 h;refine zdi ?_;refine zb (k0:=0) (id:=8) ?_;obtain⟨g5,h⟩:=ze h;refine zgu g5 ?_;refine zar ?_;refine zbf (p:=p1) ((s1.1+1),j1) h ?_;exact zbe (bl 25 14340);refine zg h (fun h=> ?_);exact⟨⟨.tup [],rfl⟩,.inr (Option.some.inj h)⟩;refine w_o (a:= .b true) ?_;refine zbd rfl ?_;exact⟨⟨.tup [],rfl⟩,.inl rfl⟩
theorem ent65:Ent prog 65:=enters_of Tryz.func65 (by kernel_rfl) rfl
theorem qle (fuel:Nat)(n:Nat)(t:Tr)(rows:List Tr)(ih: ∀x:Tr,(pre x).length<n->Pure (ITP prog) prog 65 [.A x] (.iter (List.map zoi (pre x))))  (h:zpp fuel n t rows=some rows.length):Pure (ITP prog) prog 65 [.A (t:Tr)] (.iter (rows.map zoi)):=by
 obtain⟨d,hd⟩: ∃d,Tryz.f65.body=some d:=⟨_,rfl⟩;refine zjw mix Tryz.func65 hd ent65 ?_;cases hd;refine zbv (by dsimp only[zaq,Tryz.f65,length_cons,length_nil,zero_add,Nat.reduceAdd,Nat.reduceSub,List.replicate,cons_append,nil_append]) (by dsimp only[St.empty]) ?_;refine zj (zb ?_);refine zdf (Enc.cells (t:Tr)) ?_;refine w_o (a:= .raw Value.nilFunc) ?_;refine zbb [.v (.clos 100 [.ptr 0 0]),.m _] ?_;exact z1a 1 (row:=zoi) (caps:=[.iptr (Enc.cells (t:Tr))]) mix rfl (congrArg (fun z=>AV.clos 100 [.iptr z]) (zeh _ _ (Enc.clo _))) Tryz.func100 rfl ent100 (by first|rfl|simp[cloL,clo,Enc.clo,zek,Enc.cloL]) (rowT_ne _) (fun G hGr=>qgk fuel n t rows ih h _ rfl G hGr _ rfl)
theorem zgt {α:Type} [Enc α] {l:List α} {i:Nat} (h:i<l.length):ix l (i:Int)=l[i]:=by simp[ix,h]
theorem qln (p:Tr->Option Bool)(q:Tr->Bool)(l:List Tr)(hl:l.length<2^62)(hp: ∀x∈l,p x=some (q x)) {body:Int->Option (Int ⊕ (Unit ⊕ Int))}
 (hb:body=fun s1=>(bif (decide (s1<(length l:Int))) then(chk (0<=s1/\ s1<(length l:Int)) (zba (ix l s1) (fun x1=>(zag (p x1) (fun x2=>(bif x2 then(some (inr (inr s1))) else(chk (I64 (s1+1)) (some (inl ((s1+1))))))))))) else(some (inr (inl ()))))):
 ∀(k i n:Nat),i+k=l.length->k<n-> ∃o:Unit ⊕ Int,zax body n (i:Int)=some o/\ ((o= .inl ()/\ (l.drop i).any q=false) \/(∃j:Int,o= .inr j/\ 0<=j/\ (l.drop i).any q=true)):=by
 intro k;induction k with
 | zero=>
  intro i n hi hn
  match n,hn with
  | n+1,_=>
   refine⟨.inl (),?_,.inl ⟨rfl,?_⟩⟩
   ·rw[zax,hb];simp only;rw[show decide ((i:Int)<(l.length:Int))=false from by simp;omega];rfl
   ·rw[List.drop_of_length_le (by omega)];rfl
 | succ k ih=>
  intro i n hi hn
  match n,hn with
  | n+1,hn=>
   have hil:i<l.length:=by omega
   have hx:=hp l[i] (List.getElem_mem hil);have hd:l.drop i=l[i]::l.drop (i+1):=drop_eq_getElem_cons hil;have hb1:body (i:Int)=bif q l[i] then some (inr (inr (i:Int))) else some (inl (((i+1:Nat):Int))):=by
    rw[hb];simp only;rw[show decide ((i:Int)<(l.length:Int))=true from by simp;omega];show chk _ _=_;rw[zew (by omega),zba,zgt hil,hx,bindE_some];rw[zew (by omega),show((i+1:Nat):Int)=(i:Int)+1 from by omega]
   cases hq:q l[i] with
   | true=>
    refine⟨.inr (i:Int),?_,.inr ⟨_,rfl,by omega,?_⟩⟩
    ·rw[zax,hb1,hq];rfl
    ·rw[hd,List.any_cons,hq];rfl
   | false=>
    obtain⟨o,h1,h2⟩:=ih (i+1) n (by omega) (by omega);refine⟨o,?_,?_⟩
    ·rw[zax,hb1,hq];exact h1
    ·rw[hd,List.any_cons,hq,Bool.false_or];exact h2
theorem ctf_eq {fuel:Nat} {p:Tr->Option Bool} (q:Tr->Bool) {l:List Tr} (hf:l.length<fuel)(hl:l.length<2^62)(hp: ∀x∈l,p x=some (q x)):F_ctf fuel p l=some (l.any q):=by
 unfold F_ctf F_ixf;obtain⟨o,h1,h2⟩:=qln p q l hl hp rfl l.length 0 fuel (by omega) hf;rw[show((0:Nat):Int)=0 from rfl] at h1;rw[h1];rw[List.drop_zero] at h2;rcases h2 with⟨rfl,h⟩|⟨j,rfl,hj,h⟩
 ·rw[h];rfl
 ·rw[h];show zag (some j) _=_
  rw[bindE_some];simp[hj]
theorem ctc_eq {fuel:Nat} {p:Tr->Option Bool} (q:Tr->Bool) {l:List Tr} (hf:l.length<fuel)(hl:l.length<2^62)(hp: ∀x∈l,p x=some (q x)):qog fuel p l=some (l.any q):=ctf_eq q hf hl hp
theorem z5c {fuel:Nat} {t:Tr} (hf:t.l.length<fuel)(hl:t.l.length<2^62)(k:Nat):zvy fuel t k=some (zwc t k):=by
 unfold zvy;rw[ctc_eq (fun x=>decide (x.k=k)) hf hl]
 ·rfl
 ·intro x hx;unfold z1n;congr 1
  rw[Bool.eq_iff_iff];simp;omega
theorem zxs (lo hi:Int):zka lo hi=some (zei lo hi):=by
 unfold zka zei;have k1: ∀n m:Int,(n==m)=decide (n=m):=fun n m=>rfl;simp only[k1];have key: ∀a b c d e f g h:Bool,(zcu (τ:=Unit) (bif a then(some (inr false)) else(bif b then(some (inr false)) else(bif c then(bif d then(some (inr false)) else(some (inl ()))) else(some (inl ()))))) (fun _=>(bif e then(some true) else(bif f then(bif g then(some h) else(some false)) else(some false)))))=some (!(a||b||c&&d)&&(e||f&&g&&h)):=by decide
 exact key _ _ _ _ _ _ _ _
theorem qmg {fuel:Nat} {t:Tr} (hf:t.l.length<fuel)(hl:t.l.length<2^62):zyo fuel t=some (zcn t):=by
 have e1:zvy fuel t 1=some (zwc t 1):=z5c hf hl 1;have e3:zvy fuel t 3=some (zwc t 3):=z5c hf hl 3;have e4:zvy fuel t 4=some (zwc t 4):=z5c hf hl 4;have eb:=zxs t.mn t.mx;unfold zyo;have hodd: ∀a b c d e f g:Bool,(bif a then(bif b then(some (inr false)) else(bif c then(bif d then(some (inr false)) else(bif e then(some (inr false)) else(bif f then(bif g then(some (inr false)) else(some (inl ()))) else(some (inl ()))))) else(bif f then(bif g then(some (inr false)) else(some (inl ()))) else(some (inl ()))))) else(bif c then(bif d then(some (inr false)) else(bif e then(some (inr false)) else(bif f then(bif g then(some (inr false)) else(some (inl ()))) else(some (inl ()))))) else(bif f then(bif g then(some (inr false)) else(some (inl ()))) else(some (inl ())))):Option (Unit ⊕ Bool))=bif (a&&b)||(c&&(d||e))||(f&&g) then some (.inr false) else some (.inl ()):=by decide
 rw[hodd];show zcu (bif oddT t then _ else _) _=some (zcn t);rw[zcn];cases oddT t with
 |true=>rfl
 | false=>
  show(bif _ then _ else _)=_
  rw[Bool.not_false,Bool.true_and];cases (t.k:Int)==1 with
  |true=>rfl
  | false=>
   show(bif _ then _ else _)=some (bif _ then _ else _)
   cases (t.k:Int)==2 with
   |true=>rfl
   | false=>
    show(bif _ then _ else _)=some (bif _ then _ else _)
    rw[e1,e3,e4,eb];cases (t.k:Int)==3 with
    | true=>
     show(bif _ then _ else _)=some _
     cases decide ((t.l.length:Int)>1)<;>cases zwc t 1<;>cases zwc t 3<;>rfl
    | false=>
     show(bif _ then _ else _)=some (bif _ then _ else _)
     cases (t.k:Int)==4 with
     | true=>
      show(bif _ then _ else _)=some _
      cases decide ((t.l.length:Int)>1)<;>cases zwc t 4<;>rfl
     | false=>
      show(bif _ then _ else _)=some (bif _ then _ else _)
      cases (t.k:Int)==5 with
      | true=>
       show(bif _ then _ else _)=some _
       cases (t.l.length:Int)==1<;>cases zei t.mn t.mx<;>cases zwc t 1<;>rfl
      | false=>
       show(bif _ then _ else _)=some _
       cases (t.k:Int)==6<;>cases (t.l.length:Int)==1<;>rfl
theorem z7c (t:Tr):t.l.length<(pre t).length:=by have:=zmu t;have:=z6t t.l;omega
theorem k_right (t:Tr)(h:(pre t).length<2^61):Pure (ITP prog) prog 66 [.agg (Enc.cells t)] (.raw (.bool (zcn t))):=by
 have:=z7c t;exact qou (t.l.length+1) t _ (qmg (by omega) (by omega))
theorem z8u: ∀(l:List Tr) (i:Nat) (hi:i<l.length) (j:Nat),j<(pre l[i]).length->(zbj l)[(zbj (l.take i)).length+j]? =(pre l[i])[j]?
 |[],i,hi,_,_=>by simp at hi
 | t::l,0,hi,j,hj=>by
  simp only[List.take_zero,zbj,length_nil,zero_add,List.getElem_cons_zero];simp only[List.getElem_cons_zero] at hj;rw[List.getElem?_append_left hj]
 | t::l,i+1,hi,j,hj=>by
  simp only[List.take_succ_cons,zbj,length_append,List.getElem_cons_succ];simp only[List.getElem_cons_succ] at hj;rw[List.getElem?_append_right (by omega),show(pre t).length+(zbj (l.take i)).length+j-(pre t).length=(zbj (l.take i)).length+j by omega];exact z8u l i (by simpa using hi) j hj
theorem qid {fuel n:Nat} (t:Tr)(hf:t.l.length<fuel)(hn:(pre t).length<=n)(hl:(pre t).length<2^61):zpp fuel n t (pre t)=some (pre t).length:=by
 have hlen:=z7c t;unfold zpp;refine qiu (by rw[zef];rfl) ?_;refine zhl t.l.length (fun i=>((i:Int),1+(zbj (t.l.take i)).length)) rfl (fun i hi=> ?_) ?_ hf
 ·refine zdw (by simp;omega) ?_;refine zak (1+(zbj (t.l.take (i+1))).length) ?_ ?_
  ·refine zf (by simp only;omega) (zm fun x1 e1=> ?_);simp only at e1;rw[zgt hi] at e1;have hm:x1∈t.l:=e1▸List.getElem_mem hi;have hx:=znp hm;have hp:(pre t).length=1+(zbj t.l).length:=by rw[zef,length_cons];omega
   refine zf (by omega) (zm fun x2 e2=> ?_);subst e2;refine zak (1+(zbj (t.l.take (i+1))).length) ?_ rfl;have hsucc:(zbj (t.l.take (i+1))).length=(zbj (t.l.take i)).length+(pre x1).length:=by rw[<-e1];exact zod t.l i hi
   have key: ∀ {ρ:Type} (l:List Tr) (j:Nat),(∀m,m<l.length->(pre t)[j+m]? =l[m]?)->zem (β:=Nat) (ρ:=ρ) (fun s2 w1=>(qdm ((pre t)[s2]? =some w1) (some (inl ((s2+1)))))) l j=some (.inl (j+l.length)):=by
    intro ρ l;induction l with
    |nil=>intro j _;rfl
    | cons y l ih=>
     intro j hj;have h0:(pre t)[j]? =some y:=by simpa using hj 0 (by simp)
     have hb:qdm ((pre t)[j]? =some y) (some (inl (j+1)))=(some (inl (j+1)):Option (Nat ⊕ ρ)):=qiu h0 rfl;simp only[zem,hb];rw[ih (j+1) (fun m hm=>by have:=hj (m+1) (by simp;omega);rw[show j+1+m=j+(m+1) by omega,this];rfl)];simp;omega
   rw[hsucc, <-Nat.add_assoc];refine key (pre x1) (1+(zbj (t.l.take i)).length) (fun m hm=> ?_);subst e1;rw[zef t,show 1+(zbj (t.l.take i)).length+m=(zbj (t.l.take i)).length+m+1 by omega,List.getElem?_cons_succ];exact z8u t.l i hi m hm
  ·refine zf (by simp only;omega) ?_;simp only;rfl
 ·refine zdo (by simp) ?_;have hp:(pre t).length=1+(zbj t.l).length:=by rw[zef,length_cons];omega
  simp only[List.take_length];rw[hp]
theorem z1i: ∀(n:Nat) (t:Tr),(pre t).length<n->n<=2^61->Pure (ITP prog) prog 65 [.agg (Enc.cells t)] (.iter (List.map zoi (pre t)))
 |0,t,h,_=>absurd h (Nat.not_lt_zero _)
 |n+1,t,h,hn=>qle (t.l.length+1) n t (pre t) (fun x hx=>z1i n x hx (by omega)) (qid t (by omega) (by omega) (by omega))
theorem zyu (t:Tr)(h:(pre t).length<2^61):Pure (ITP prog) prog 65 [.agg (Enc.cells t)] (.iter (List.map zoi (pre t))):=z1i (2^61) t h (le_refl _)
theorem hasS_eq (s:BS)(j:Nat)(hj:j<256):zph s (j:Int)=some (s.getLsbD j):=by
 obtain⟨h1,h2,_⟩:=zyd j hj;unfold zph;rw[h1,h2];refine zf (by omega) (zf (by omega) ?_);congr 1
 have:=z9q (W64 s (j/64)) (j%64) (Nat.mod_lt _ (by decide));rw[show wd s (toNat ((j/64:Nat):Int))=((W64 s (j/64)).toNat:Int) from rfl,this];simp only[W64,BitVec.getLsbD_extractLsb',Nat.mod_lt _ (show 0<64 by decide),decide_true,Bool.true_and];rw[show 64*(j/64)+j%64=j by omega]
theorem all1_eq (s:BS):z1y 257 s (els s)=some (els s).length:=by
 unfold z1y;refine zhl 256 (fun i=>((i:Int),(elN s i).length)) rfl (fun i hi=> ?_) ?_ (by decide)
 ·refine zdw (by simp;omega) ?_;refine zak (elN s (i+1)).length ?_ ?_
  ·refine zaa (s.getLsbD i) ?_ ?_
   ·simp only[(zyd i hi).2.2];exact hasS_eq s i hi
   ·rw[z0e];refine z7g (fun hb=> ?_) (fun hb=> ?_)
    ·refine qiu ?_ ?_
     ·simp only[(zyd i hi).2.2,els,List.getElem?_map,qdy s hb 256 hi,map_some]
     ·rw[if_pos hb];simp
    ·rw[if_neg (by rw[hb];decide)];simp
  ·refine zf (by simp only;omega) ?_;simp
 ·refine zdo (by simp) ?_;simp[els]
theorem k_all (s:BS):Pure (ITP prog) prog 114 [.agg (Enc.cells s)] (.iter (List.map qkp (els s))):=all_sh 257 s _ (all1_eq s)
end Go.Ab
