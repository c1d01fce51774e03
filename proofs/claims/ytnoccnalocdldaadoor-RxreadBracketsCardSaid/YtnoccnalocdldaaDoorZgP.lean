import Derived.Test.YtnoccnalocdldaaDoorZdSh
set_option linter.all false
namespace Go.Ab
open Go Go.RowKit Go.Fwd
abbrev BS:=BitVec 256
def W64 (S:BS)(i:Nat):BitVec 64:=S.extractLsb' (64*i) 64
def wd (S:BS)(i:Nat):Int:=((W64 S i).toNat:Int)
inductive Tr where
 |mk (k:Nat) (s:BS) (mn mx:Int) (l:List Tr)
def Tr.k:Tr→Nat| .mk k _ _ _ _=>k
def Tr.s:Tr→BS| .mk _ s _ _ _=>s
def Tr.mn:Tr→Int| .mk _ _ m _ _=>m
def Tr.mx:Tr→Int| .mk _ _ _ m _=>m
def Tr.l:Tr→List Tr| .mk _ _ _ _ l=>l
theorem Tr.eta (t:Tr):t= .mk t.k t.s t.mn t.mx t.l:=by cases t;rfl
theorem Tr.sizeOf_l {t x:Tr} (h:x∈t.l):SizeOf.sizeOf x<SizeOf.sizeOf t:=by
 cases t with
 |mk k s mn mx l=>simp only[Tr.l] at h;have:=List.sizeOf_lt_of_mem h;simp;omega
mutual
def cells:Tr→List AV
 | .mk k s mn mx l=>[.raw (.int .u8 k),.raw (.int .u64 (wd s 0)),.raw (.int .u64 (wd s 1)),.raw (.int .u64 (wd s 2)),.raw (.int .u64 (wd s 3)),.raw (.int .i64 mn),.raw (.int .i64 mx),.list l.length (cellsL l) .none]
def cellsL:List Tr→List AV
 |[]=>[]
 |t::l=>cells t++cellsL l
end
def enc (t:Tr):AV:= .agg (cells t)
theorem qet (t:Tr):cells t=[.raw (.int .u8 t.k),.raw (.int .u64 (wd t.s 0)),.raw (.int .u64 (wd t.s 1)),.raw (.int .u64 (wd t.s 2)),.raw (.int .u64 (wd t.s 3)),.raw (.int .i64 t.mn),.raw (.int .i64 t.mx),.list t.l.length (cellsL t.l) .none]:=by cases t;simp[cells,Tr.k,Tr.s,Tr.mn,Tr.mx,Tr.l]
mutual
theorem zyk (n:Nat): ∀t,zad n (cells t)=true
 | .mk k s mn mx l=>by simp[cells,zad,zbp,znv n l]
theorem znv (n:Nat): ∀l,zad n (cellsL l)=true
 |[]=>by simp[cellsL,zad]
 | t::l=>by
  rw[cellsL,zhi,List.all_append,←zhi,←zhi,zyk n t,znv n l];rfl
end
mutual
theorem zqp: ∀t,zcj (cells t)=true
 | .mk k s mn mx l=>by simp[cells,zcj,zke,zok l]
theorem zok: ∀l,zcj (cellsL l)=true
 |[]=>by simp[cellsL,zcj]
 | t::l=>by
  have h: ∀l m:List AV,zcj (l++m)=(zcj l&&zcj m):=fun l m=>by
   induction l with
   |nil=>simp[zcj]
   |cons a l ih=>rw[List.cons_append,zcj,zcj,ih,Bool.and_assoc]
  rw[cellsL,h,zqp t,zok l];rfl
end
mutual
theorem z1q: ∀t,stripL (cells t)=cells t
 | .mk k s mn mx l=>by simp[cells,stripL,zcv,zif l]
theorem zif: ∀l,stripL (cellsL l)=cellsL l
 |[]=>by simp[cellsL,stripL]
 | t::l=>by
  rw[cellsL,zlp,List.map_append,←zlp,←zlp,z1q t,zif l]
end
mutual
theorem z0i (g:FZ): ∀t,zbr g (cells t)=cells t
 | .mk k s mn mx l=>by simp[cells,zbr,zgb,znw g l]
theorem znw (g:FZ): ∀l,zbr g (cellsL l)=cellsL l
 |[]=>by simp[cellsL,zbr]
 | t::l=>by
  have h: ∀l m:List AV,zbr g (l++m)=zbr g l++zbr g m:=fun l m=>by
   induction l with
   |nil=>simp[zbr]
   |cons a l ih=>rw[List.cons_append,zbr,zbr,ih,List.cons_append]
  rw[cellsL,h,z0i g t,znw g l]
end
mutual
theorem z1c: ∀t,cloL (cells t)=true
 | .mk k s mn mx l=>by simp[cells,cloL,clo,zue l]
theorem zue: ∀l,cloL (cellsL l)=true
 |[]=>by simp[cellsL,cloL]
 |t::l=>by rw[cellsL,zdw,z1c t,zue l];rfl
end
theorem z8b (t:Tr):zke (enc t)=true:=by rw[enc,zke];exact zqp t
mutual
def pre:Tr→List Tr
 | .mk k s mn mx l=> .mk k s mn mx l::zda l
def zda:List Tr→List Tr
 |[]=>[]
 |t::l=>pre t++zda l
end
theorem zfl (t:Tr):pre t=t::zda t.l:=by cases t;simp[pre,Tr.l]
theorem zmd: ∀(ts:List Tr) (i:Nat) (hi:i<ts.length),(zda (ts.take (i+1))).length=(zda (ts.take i)).length+(pre ts[i]).length
 |[],i,hi=>by simp at hi
 |t::ts,0,hi=>by simp[zda]
 | t::ts,i+1,hi=>by
  simp only[List.take_succ_cons,zda,List.length_append,List.getElem_cons_succ,zmd ts i (by simpa using hi)]
  omega
theorem qdv (k:Nat)(s:BS)(mn mx:Int)(ts:List Tr):(pre (.mk k s mn mx ts)).length=1+(zda ts).length:=by simp[pre];omega
theorem qby: ∀ts:List Tr,ts.length≤(zda ts).length
 |[]=>by simp[zda]
 | t::ts=>by
  have:=qby ts
  cases t with
  |mk k s mn mx l=>simp[zda,pre];omega
theorem zlu: ∀ {ts:List Tr} {x:Tr},x∈ts→(pre x).length≤(zda ts).length
 |[],x,h=>by simp at h
 | t::ts,x,h=>by
  simp only[zda,List.length_append]
  rcases List.mem_cons.1 h with rfl|h
  ·omega
  ·have:=zlu h;omega
def zkv (least most:Int):Bool:= !(decide (least<0)||decide (least>16)||decide (least=1)&&decide (most=1))&&(decide (most= -1)||decide (most≥1)&&decide (most≤16)&&decide (most≥least))
def z2b (s:BS):AV:= .agg [.raw (.int .u64 (wd s 0)),.raw (.int .u64 (wd s 1)),.raw (.int .u64 (wd s 2)),.raw (.int .u64 (wd s 3))]
theorem qjd {A B:BS} (h: ∀i,i<4→wd A i=wd B i):A=B:=by
 apply BitVec.eq_of_getLsbD_eq
 intro j hj
 have h4:j/64<4:=by omega
 have h2:=h (j/64) h4
 have h3:W64 A (j/64)=W64 B (j/64):=by
  apply BitVec.eq_of_toNat_eq
  unfold wd at h2
  omega
 have h5:=congrArg (fun x:BitVec 64=>x.getLsbD (j%64)) h3
 have hlt:j%64<64:=Nat.mod_lt _ (by decide)
 simp only[W64,BitVec.getLsbD_extractLsb',hlt,decide_true,Bool.true_and] at h5
 rwa[show 64*(j/64)+j%64=j by omega] at h5
theorem z4q (S T:BS):(wd S 0==wd T 0&&wd S 1==wd T 1&&wd S 2==wd T 2&&wd S 3==wd T 3)=decide (S=T):=by
 by_cases h:S=T
 ·subst h;simp
 ·simp only[h,decide_false]
  cases hb:(wd S 0==wd T 0&&wd S 1==wd T 1&&wd S 2==wd T 2&&wd S 3==wd T 3) with
  |false=>rfl
  | true=>
   simp only[Bool.and_eq_true,beq_iff_eq] at hb
   refine absurd (qjd fun i hi=> ?_) h
   match i,hi with
   |0,_=>exact hb.1.1.1
   |1,_=>exact hb.1.1.2
   |2,_=>exact hb.1.2
   |3,_=>exact hb.2
def z1m (t:Tr)(k:Nat):Bool:=t.l.any fun y=>decide (y.k=k)
def oddT (t:Tr):Bool:=((t.k:Int) !=2&&decide (t.s≠0#256))||((t.k:Int) !=5&&(t.mn !=0||t.mx !=0))||(decide ((t.k:Int)<3)&&decide ((t.l.length:Int)>0))
def zeu (t:Tr):Bool:= !oddT t&&(bif (t.k:Int)==1 then true else bif (t.k:Int)==2 then decide (t.s≠0#256) else bif (t.k:Int)==3 then decide ((t.l.length:Int)>1)&& !z1m t 1&& !z1m t 3
 else bif (t.k:Int)==4 then decide ((t.l.length:Int)>1)&& !z1m t 4 else bif (t.k:Int)==5 then(t.l.length:Int)==1&&zkv t.mn t.mx&& !z1m t 1 else(t.k:Int)==6&&(t.l.length:Int)==1)
theorem qak (k:Nat)(s:BS)(mn mx:Int)(ts:List Tr):oddT (.mk k s mn mx ts)=(((k:Int) !=2&&decide (s≠0#256))||((k:Int) !=5&&(mn !=0||mx !=0))||(decide ((k:Int)<3)&&decide ((ts.length:Int)>0))):=rfl
theorem zrv (k:Nat)(s:BS)(mn mx:Int)(ts:List Tr):zeu (.mk k s mn mx ts)=(!oddT (.mk k s mn mx ts)&&(bif (k:Int)==1 then true else bif (k:Int)==2 then decide (s≠0#256) else bif (k:Int)==3 then decide ((ts.length:Int)>1)&& !z1m (.mk k s mn mx ts) 1&& !z1m (.mk k s mn mx ts) 3
 else bif (k:Int)==4 then decide ((ts.length:Int)>1)&& !z1m (.mk k s mn mx ts) 4 else bif (k:Int)==5 then(ts.length:Int)==1&&zkv mn mx&& !z1m (.mk k s mn mx ts) 1 else(k:Int)==6&&(ts.length:Int)==1)):=rfl
def zgk (t:Tr):Bool:=decide ((pre t).length≤10000)
def zga (t:Tr):Bool:=zgk t&&(pre t).all zeu
def z4w (t:Tr):Int:=if zgk t=true then(pre t).length else 10001
def zvl (t:Tr):Int:=if zgk t=true then(pre t).countP (fun x=>decide (x.k=6)) else 10001
mutual
def z3g:Tr→Int
 | .mk k s mn mx ts=>min (if k=5 then((if k=2 then 1 else 0)+zoo ts)*min (if mx= -1 then max (max mn 0) 1 else max (max mn 0) mx) 10001 else(if k=2 then 1 else 0)+zoo ts) 10001
def zoo:List Tr→Int
 |[]=>0
 |t::l=>z3g t+zoo l
end
theorem zpz: ∀(t:Tr),t.l.length<(pre t).length
 | .mk k s mn mx ts=>by
  have: ∀l:List Tr,l.length≤(zda l).length:=fun l=>by
   induction l with
   |nil=>simp[zda]
   |cons a l ih=>rw[zda,List.length_append,List.length_cons];rw[zfl];simp;omega
  simp[pre,Tr.l];have:=this ts;omega
theorem ztv {t x:Tr} (h:x∈pre t):(pre x).length≤(pre t).length:=by
 have key: ∀n,(∀t:Tr,SizeOf.sizeOf t≤n→ ∀x∈pre t,(pre x).length≤(pre t).length):=by
  intro n
  induction n with
  |zero=>intro t ht;cases t;simp at ht
  | succ n ih=>
   intro t ht x hx
   rw[zfl] at hx
   rcases List.mem_cons.1 hx with rfl|hx
   ·exact Nat.le_refl _
   ·have hl: ∀l:List Tr,(∀y∈l,SizeOf.sizeOf y≤n)→ ∀x∈zda l,(pre x).length≤(zda l).length:=by
     intro l
     induction l with
     |nil=>intro _ x hx;simp[zda] at hx
     | cons a l ihl=>
      intro hs x hx
      rw[zda] at hx⊢
      rw[List.length_append]
      rcases List.mem_append.1 hx with hx|hx
      ·have:=ih a (hs a (by simp)) x hx;omega
      ·have:=ihl (fun y hy=>hs y (by simp[hy])) x hx;omega
    have:=hl t.l (fun y hy=>by have:=Tr.sizeOf_l hy;omega) x hx
    rw[zfl t,List.length_cons];omega
 exact key _ t (Nat.le_refl _) x h
theorem qbb (l:List Tr)(i:Nat)(hi:i<l.length):zoo (l.take (i+1))=zoo (l.take i)+z3g l[i]:=by
 have happ: ∀a b,zoo (a++b)=zoo a+zoo b:=fun a b=>by
  induction a with
  |nil=>simp[zoo]
  |cons x a ih=>rw[List.cons_append,zoo,zoo,ih,Int.add_assoc]
 rw[List.take_succ_eq_append_getElem hi,happ];simp[zoo]
theorem qam: ∀t,z3g t≤10001
 | .mk k s mn mx ts=>by rw[z3g];exact Int.min_le_right _ _
mutual
theorem zsw: ∀t,0≤z3g t
 | .mk k s mn mx ts=>by
  have hl:=zjp ts
  rw[z3g]
  have h0:0≤(if k=2 then 1 else 0)+zoo ts:=by split<;>omega
  split
  ·have:0≤((if k=2 then 1 else 0)+zoo ts)*min (if mx= -1 then max (max mn 0) 1 else max (max mn 0) mx) 10001:=Int.mul_nonneg h0 (by split<;>omega)
   omega
  ·omega
theorem zjp: ∀l,0≤zoo l
 |[]=>by simp[zoo]
 |t::l=>by have h1:=zsw t;have h2:=zjp l;rw[zoo];omega
end
theorem z3s: ∀l,zoo l≤10001*l.length
 |[]=>by simp[zoo]
 |t::l=>by have h1:=qam t;have h2:=z3s l;rw[zoo,List.length_cons];omega
def zzn (p:Tr→Tr→Bool):List Tr→List Tr→Bool
 |[],[]=>true
 |x::a,y::b=>p x y&&zzn p a b
 |_,_=>false
theorem zrk (p:Tr→Tr→Bool): ∀a b:List Tr,zzn p a b=true↔a.length=b.length∧ ∀(i:Nat) (h1:i<a.length) (h2:i<b.length),p a[i] b[i]=true
 |[],[]=>by simp[zzn]
 |x::a,[]=>by simp[zzn]
 |[],y::b=>by simp[zzn]
 | x::a,y::b=>by
  rw[zzn,Bool.and_eq_true,zrk p a b]
  constructor
  ·rintro⟨h1,h2,h3⟩
   refine⟨by simp[h2],fun i k1 k2=> ?_⟩
   cases i with
   |zero=>exact h1
   |succ i=>simpa using h3 i (by simpa using k1) (by simpa using k2)
  ·rintro⟨h1,h2⟩
   exact⟨h2 0 (by simp) (by simp),by simpa using h1,fun i k1 k2=>h2 (i+1) (by simpa using k1) (by simpa using k2)⟩
theorem qhj {p:Tr→Tr→Bool} {a b:List Tr} (h:a.length≠b.length):zzn p a b=false:=by
 rw[Bool.eq_false_iff,ne_eq,zrk]
 exact fun h3=>h h3.1
mutual
def zfq:Tr→Tr→Bool
 | .mk k s mn mx l,.mk k' s' mn' mx' l'=>(k:Int)==k'&&decide (s=s')&&mn==mn'&&mx==mx'&&zka l l'
def zka:List Tr→List Tr→Bool
 |[],[]=>true
 |x::a,y::b=>zfq x y&&zka a b
 |_,_=>false
end
theorem zyi: ∀a b,zka a b=zzn zfq a b
 |[],[]=>by simp[zka,zzn]
 |x::a,[]=>by simp[zka,zzn]
 |[],y::b=>by simp[zka,zzn]
 |x::a,y::b=>by rw[zka,zzn,zyi a b]
mutual
theorem z8s: ∀a b,zfq a b=true↔a=b
 | .mk k s mn mx l,.mk k' s' mn' mx' l'=>by
  rw[zfq]
  simp only[Bool.and_eq_true,z1e l l',Tr.mk.injEq,beq_iff_eq,decide_eq_true_eq]
  constructor
  ·rintro⟨⟨⟨⟨h1,h2⟩,h3⟩,h4⟩,h5⟩;exact⟨by omega,h2,h3,h4,h5⟩
  ·rintro⟨h1,h2,h3,h4,h5⟩;exact⟨⟨⟨⟨by omega,h2⟩,h3⟩,h4⟩,h5⟩
theorem z1e: ∀a b,zka a b=true↔a=b
 |[],[]=>by simp[zka]
 |x::a,[]=>by simp[zka]
 |[],y::b=>by simp[zka]
 |x::a,y::b=>by rw[zka,Bool.and_eq_true,z8s x y,z1e a b];simp
end
theorem qhl (k:Nat)(s:BS)(mn mx:Int)(ts:List Tr)(k2:Nat)(s2:BS)(mn2 mx2:Int)(us:List Tr):zfq (.mk k s mn mx ts) (.mk k2 s2 mn2 mx2 us)=((k:Int)==k2&&decide (s=s2)&&mn==mn2&&mx==mx2&&zzn zfq ts us):=by rw[zfq,zyi]
def zz:Tr:= .mk 0 0#256 0 0 []
def z5r:Tr:= .mk 1 0#256 0 0 []
def zsa (t:Tr):Bool:=zfq t zz||zga t
def zex (t:Tr):Tr:=if zga t=true then t else zz
theorem ztu {t:Tr} (h:zga t=true):(pre t).length≤10000:=by rw[zga,Bool.and_eq_true] at h;simpa[zgk] using h.1
theorem wd_zero (i:Nat):wd 0#256 i=0:=by simp[wd,W64]
def zle (kind without:Nat)(l:List Tr):List Tr:=l.flatMap fun x=>bif (x.k:Int)==kind then x.l else bif (x.k:Int)==without then[] else[x]
def zwh (kind:Nat)(l:List Tr)(none:Tr):Tr:=bif (l.length:Int)==0 then none else bif (l.length:Int)==1 then zex (l.headD none) else zex (Tr.mk kind 0#256 0 0 l)
def seqT (l:List Tr):Tr:=if(l.any fun x=>(x.k:Int)==0|| !zga x)=true then zz else zwh 3 (zle 3 1 l) z5r
def orT (l:List Tr):Tr:=if(l.any fun x=> !zsa x)=true then zz else zwh 4 (zle 4 0 l) zz
theorem zmq: ∀a b,zda (a++b)=zda a++zda b
 |[],b=>by simp[zda]
 |x::a,b=>by rw[List.cons_append,zda,zda,zmq a b,List.append_assoc]
theorem zci: ∀l:List Tr,l.length≤(zda l).length
 |[]=>by simp[zda]
 |x::l=>by have:=zci l;rw[zda,List.length_append,List.length_cons,zfl];simp;omega
theorem qdc (t:Tr):(zda t.l).length<(pre t).length:=by rw[zfl];simp
theorem zlm (kind without:Nat): ∀l:List Tr,(zda (zle kind without l)).length≤(zda l).length
 |[]=>by simp[zle,zda]
 | x::l=>by
  have h:=zlm kind without l
  have hx:=qdc x
  rw[zle,List.flatMap_cons,zmq,List.length_append,zda,List.length_append]
  have h2:(zda (bif (x.k:Int)==kind then x.l else bif (x.k:Int)==without then[] else[x])).length≤(pre x).length:=by
   cases (x.k:Int)==kind<;>cases (x.k:Int)==without<;>simp[zda]<;>omega
  rw[zle] at h
  omega
theorem zfc {x:Tr}: ∀ {l:List Tr},x∈l→(pre x).length≤(zda l).length
 | y::l,h=>by
  rw[zda,List.length_append]
  rcases List.mem_cons.1 h with rfl|h
  ·omega
  ·have:=zfc h;omega
def zvg (t:Tr)(lo hi:Int):Tr:=
 bif !zsa t||(!(lo==0&&hi==0)&& !(lo==1&&hi==1)&& !zkv lo hi) then zz
 else bif (t.k:Int)==0&&decide (lo>0) then zz
 else bif (lo==0&&hi==0)||(t.k:Int)==0||(t.k:Int)==1 then z5r
 else bif lo==1&&hi==1 then t else zex (.mk 5 0#256 lo hi [t])
def zra (t:Tr):Tr:=zex (.mk 6 0#256 0 0 [t])
def ofT (s:BS):Tr:=if s=0#256 then zz else .mk 2 s 0 0 []
theorem qbl (k:Nat)(s:BS)(mn mx:Int)(t:Tr):(pre (.mk k s mn mx [t])).length=1+(pre t).length:=by simp[pre,zda];omega
abbrev Sm:=Nat×Nat×Nat
abbrev MSt:=List Tr×Int×Int
def m4 (x:Sm):Int:=((x.2.2%4:Nat):Int)
def smc (x:Sm):List AV:=[.raw (.int .u8 x.1),.raw (.int .u8 x.2.1),.raw (.int .u8 x.2.2)]
def smcL:List Sm→List AV
 |[]=>[]
 |x::l=>smc x++smcL l
theorem zzc (p:List Tr)(i:Nat):(zda (p.take i)).length≤(zda p).length:=by
 conv=>rhs;rw[←List.take_append_drop i p]
 rw[zmq,List.length_append];omega
def CR (t:Tr):Prop:=(pre t).all zeu=true
def CRL (l:List Tr):Prop:=(zda l).all zeu=true
theorem qgm (t:Tr)(l:List Tr):CRL (t::l)↔CR t∧CRL l:=by simp[CRL,CR,zda]
theorem qdl (t:Tr):CR t↔zeu t=true∧CRL t.l:=by rw[CR,zfl,List.all_cons,Bool.and_eq_true];rfl
theorem zvr {t:Tr} (h:zeu t=true):t.k=1∨t.k=2∨t.k=3∨t.k=4∨t.k=5∨t.k=6:=by
 cases t with
 | mk k s mn mx l=>
  rw[zrv] at h
  simp only[Tr.k]
  by_cases h1:k=1; · exact .inl h1
  by_cases h2:k=2; · exact .inr (.inl h2)
  by_cases h3:k=3; · exact .inr (.inr (.inl h3))
  by_cases h4:k=4; · exact .inr (.inr (.inr (.inl h4)))
  by_cases h5:k=5; · exact .inr (.inr (.inr (.inr (.inl h5))))
  by_cases h6:k=6; · exact .inr (.inr (.inr (.inr (.inr h6))))
  exfalso
  have e: ∀n:Nat,k≠n→((k:Int)==n)=false:=fun n hn=>by simp;omega
  rw[show((k:Int)==1)=false from e 1 h1,show((k:Int)==2)=false from e 2 h2,show((k:Int)==3)=false from e 3 h3,show((k:Int)==4)=false from e 4 h4,show((k:Int)==5)=false from e 5 h5,show((k:Int)==6)=false from e 6 h6] at h
  simp at h
def grT (t:Tr):Nat:=(pre t).countP fun x=>decide (x.k=6)
def grL (l:List Tr):Nat:=(zda l).countP fun x=>decide (x.k=6)
structure OkM (st:MSt)(i:Nat):Prop where
 cr:CRL st.1
 pos:zoo st.1≤(i:Int)*st.2.1
 gr:(grL st.1:Int)≤st.2.2
structure MT (t:Tr):Prop where
 cr:CR t
 pos:z3g t≤400
 gr:grT t≤9
 len:(pre t).length≤50
theorem MT.k0 {t:Tr} (h:MT t):t.k≠0:=by have:=zvr ((qdl t).1 h.cr).1;omega
def CS (n:Nat)(t:Tr):Prop:=CR t∧(pre t).length≤n
theorem MT.cs {t:Tr} (h:MT t):CS 50 t:=⟨h.cr,h.len⟩
theorem CR.k0 {t:Tr} (h:CR t):t.k≠0:=by have:=zvr ((qdl t).1 h).1;omega
def qem (c:Int):List AV:=[.raw (.int .u8 c)]
theorem z2p: ∀j:Nat,j<256→zge .u8 (j:Int) 6=((j/64:Nat):Int)∧zmx .u8 (j:Int) 63=((j%64:Nat):Int)∧IntKind.u8.wrap (j:Int)=(j:Int):=by decide+kernel
theorem z0f {n:Nat} (h:n<2^64):IntKind.u64.wrap (n:Int)=(n:Int):=by
 simp only[IntKind.wrap,IntKind.bits,IntKind.signed]
 simp;omega
theorem z5z (w:BitVec 64):IntKind.u64.wrap ((w.toNat:Nat):Int)=((w.toNat:Nat):Int):=z0f w.isLt
theorem z3w (x:BitVec 64):BitVec.ofInt 64 ((x.toNat:Nat):Int)=x:=by
 apply BitVec.eq_of_toNat_eq;simp
theorem orI64 (x y:BitVec 64):orI .u64 (x.toNat:Int) (y.toNat:Int)=((x|||y).toNat:Int):=by
 show IntKind.u64.wrap (((BitVec.ofInt 64 (x.toNat:Int)|||BitVec.ofInt 64 (y.toNat:Int)).toNat:Nat):Int)=_
 rw[z3w,z3w];exact z5z _
theorem qcr (a b:BS)(i:Nat):orI .u64 (wd a i) (wd b i)=wd (a|||b) i:=by
 unfold wd
 rw[orI64]
 have:W64 a i|||W64 b i=W64 (a|||b) i:=by
  apply BitVec.eq_of_getLsbD_eq
  intro j hj
  simp only[W64,BitVec.getLsbD_or,BitVec.getLsbD_extractLsb',hj,decide_true,Bool.true_and]
 rw[this]
theorem qfu (w:BitVec 64)(r:Nat)(hr:r<64):(zmx .u64 (zge .u64 ((w.toNat:Nat):Int) (r:Int)) 1==1)=w.getLsbD r:=by
 have hw:=w.isLt
 have h1:zge .u64 ((w.toNat:Nat):Int) (r:Int)=((w.toNat/2^r:Nat):Int):=by
  unfold zge
  rw[show min (r:Int).toNat IntKind.u64.bits=r from by simp[IntKind.bits];omega]
  rw[Int.fdiv_eq_ediv_of_nonneg _ (by exact_mod_cast Nat.zero_le _)]
  norm_cast
 rw[h1]
 have h2:w.toNat/2^r<2^64:=Nat.lt_of_le_of_lt (Nat.div_le_self _ _) hw
 show(IntKind.u64.wrap (((BitVec.ofInt 64 ((w.toNat/2^r:Nat):Int)&&&BitVec.ofInt 64 1).toNat:Nat):Int)==1)=_
 have h3:(BitVec.ofInt 64 ((w.toNat/2^r:Nat):Int)&&&BitVec.ofInt 64 1).toNat=w.toNat/2^r%2:=by
  rw[BitVec.toNat_and]
  have e1:(BitVec.ofInt 64 ((w.toNat/2^r:Nat):Int)).toNat=w.toNat/2^r:=by
   rw[BitVec.ofInt_natCast,BitVec.toNat_ofNat];exact Nat.mod_eq_of_lt h2
  have e2:(BitVec.ofInt 64 1).toNat=1:=rfl
  rw[e1,e2,Nat.and_one_is_mod]
 rw[h3]
 have h4:w.toNat/2^r%2<2:=Nat.mod_lt _ (by decide)
 have h5:IntKind.u64.wrap ((w.toNat/2^r%2:Nat):Int)=((w.toNat/2^r%2:Nat):Int):=z0f (Nat.lt_trans h4 (by decide))
 rw[h5,BitVec.getLsbD,Nat.testBit_eq_decide_div_mod_eq]
 generalize w.toNat/2^r%2=m
 rw[Bool.eq_iff_iff];simp only[beq_iff_eq,decide_eq_true_eq];omega
def elN (s:BS)(i:Nat):List Nat:=(List.range i).filter fun j=>s.getLsbD j
def els (s:BS):List Int:=(elN s 256).map fun(j:Nat)=>(j:Int)
theorem z5g (s:BS)(i:Nat):elN s (i+1)=elN s i++(if s.getLsbD i=true then[i] else[]):=by
 rw[elN,List.range_succ,List.filter_append];simp[elN,List.filter_cons]
theorem qai (s:BS) {i:Nat} (h:s.getLsbD i=true): ∀k,i<k→(elN s k)[(elN s i).length]? =some i
 |0,hk=>by omega
 | k+1,hk=>by
  rw[z5g]
  by_cases e:i=k
  ·subst e;rw[if_pos h];simp
  ·have ih:=qai s h k (by omega)
   rw[List.getElem?_append_left (List.getElem?_eq_some_iff.1 ih).1];exact ih
def qhn (x y:Int):Int:=if x<y then-1 else if x>y then 1 else 0
def qfy (p q:Nat→Bool):List Nat→Int
 |[]=>0
 |j::l=>if p j=q j then qfy p q l else if p j=true then-1 else 1
def cmpS (s t:BS):Int:=qfy s.getLsbD t.getLsbD (List.range 256)
theorem zum (p q:Nat→Bool): ∀l,qfy p q l= -1∨qfy p q l=0∨qfy p q l=1
 |[]=> .inr (.inl rfl)
 | j::l=>by
  rw[qfy]
  split
  ·exact zum p q l
  ·split
   ·exact .inl rfl
   ·exact .inr (.inr rfl)
theorem z0y (p q:Nat→Bool): ∀l,qfy p q l=0↔ ∀j∈l,p j=q j
 |[]=>by simp[qfy]
 | j::l=>by
  rw[qfy]
  by_cases h:p j=q j
  ·rw[if_pos h,z0y p q l];simp[h]
  ·rw[if_neg h]
   constructor
   ·intro e;split at e<;>simp at e
   ·intro e;exact absurd (e j (by simp)) h
theorem qbq (s t:BS):cmpS s t=0↔s=t:=by
 rw[cmpS,z0y]
 constructor
 ·intro h;apply BitVec.eq_of_getLsbD_eq;intro j hj;exact h j (List.mem_range.2 hj)
 ·rintro rfl j _;rfl
def zwd (c d:Int):Int:=if c≠0 then c else d
def mostN (mx:Int):Int:=if mx= -1 then 9223372036854775807 else mx
mutual
def cmpT:Tr→Tr→Int
 | .mk k s mn mx l,.mk k' s' mn' mx' l'=>if k≠k' then qhn k k' else if k=2 then cmpS s s' else if k=5 then zwd (zwd (qhn mn mn') (qhn (mostN mx) (mostN mx'))) (z4b l l') else if k=0∨k=1 then 0 else z4b l l'
def z4b:List Tr→List Tr→Int
 |[],[]=>0
 |[],_::_=> -1
 |_::_,[]=>1
 |x::a,y::b=>zwd (cmpT x y) (z4b a b)
end
theorem zoq (x y:Int):qhn x y= -1∨qhn x y=0∨qhn x y=1:=by unfold qhn;split<;>(try split)<;>simp
theorem zsg (x y:Int):qhn x y=0↔x=y:=by unfold qhn;split<;>(try split)<;>omega
theorem zms {c d:Int} (h:c= -1∨c=0∨c=1)(k:d= -1∨d=0∨d=1):zwd c d= -1∨zwd c d=0∨zwd c d=1:=by unfold zwd;split<;>assumption
theorem zpl {c d:Int}:zwd c d=0↔c=0∧d=0:=by unfold zwd;split<;>omega
mutual
theorem z7j: ∀x y,cmpT x y= -1∨cmpT x y=0∨cmpT x y=1
 | .mk k s mn mx l,.mk k' s' mn' mx' l'=>by
  rw[cmpT]
  have hl:=zuh l l'
  split
  ·exact zoq _ _
  split
  ·exact zum _ _ _
  split
  ·exact zms (zms (zoq _ _) (zoq _ _)) hl
  split
  ·exact .inr (.inl rfl)
  ·exact hl
theorem zuh: ∀a b,z4b a b= -1∨z4b a b=0∨z4b a b=1
 |[],[]=>by simp[z4b]
 |[],_::_=>by simp[z4b]
 |_::_,[]=>by simp[z4b]
 |x::a,y::b=>by rw[z4b];exact zms (z7j x y) (zuh a b)
end
theorem qdo {k:Nat} {s:BS} {mn mx:Int} {l:List Tr} (h:zeu (.mk k s mn mx l)=true):(k≠2→s=0#256)∧(k≠5→mn=0∧mx=0)∧(k<3→l=[])∧(k=5→mx= -1∨(1≤mx∧mx≤16)):=by
 have hk:=zvr h
 simp only[Tr.k] at hk
 rw[zrv,Bool.and_eq_true,qak] at h
 obtain⟨h1,h2⟩:=h
 simp only[Bool.not_eq_true',Bool.or_eq_false_iff,Bool.and_eq_false_iff] at h1
 obtain⟨⟨a,b⟩,c⟩:=h1
 refine⟨fun h=> ?_,fun h=> ?_,fun h=> ?_,fun h=> ?_⟩
 ·rcases a with a|a
  ·simp at a;omega
  ·simpa using a
 ·rcases b with b|b
  ·simp at b;omega
  ·simp at b;exact b
 ·rcases c with c|c
  ·simp at c;omega
  ·cases l with
   |nil=>rfl
   |cons x l=>simp at c
 ·subst h
  simp[zkv] at h2
  have:=h2.1.2
  omega
mutual
theorem cmpT_eq: ∀x y,CR x→CR y→cmpT x y=0→x=y
 | .mk k s mn mx l,.mk k' s' mn' mx' l',hx,hy,h=>by
  rw[qdl] at hx hy
  simp only[Tr.l] at hx hy
  obtain⟨a1,a2,a3,a4⟩:=qdo hx.1
  obtain⟨b1,b2,b3,b4⟩:=qdo hy.1
  have hk:=zvr hx.1
  simp only[Tr.k] at hk
  rw[cmpT] at h
  by_cases e:k=k'
  ·subst e
   simp only[ne_eq,not_true_eq_false,if_false] at h
   split at h
   ·rename_i h2
    rw[(qbq s s').1 h,(a2 (by omega)).1,(a2 (by omega)).2,(b2 (by omega)).1,(b2 (by omega)).2,a3 (by omega),b3 (by omega)]
   split at h
   ·rename_i h2 h5
    rw[zpl,zpl,zsg,zsg] at h
    have a5:=a4 h5
    have b5:=b4 h5
    have hm:mx=mx':=by
     have:=h.1.2
     unfold mostN at this
     split at this<;>split at this<;>omega
    rw[a1 h2,b1 h2,h.1.1,hm,z2o l l' hx.2 hy.2 h.2]
   split at h
   ·rename_i h2 h5 h0
    rw[a1 h2,b1 h2,(a2 h5).1,(a2 h5).2,(b2 h5).1,(b2 h5).2,a3 (by omega),b3 (by omega)]
   ·rename_i h2 h5 h0
    rw[a1 h2,b1 h2,(a2 h5).1,(a2 h5).2,(b2 h5).1,(b2 h5).2,z2o l l' hx.2 hy.2 h]
  ·rw[if_pos e,zsg] at h;omega
theorem z2o: ∀a b,CRL a→CRL b→z4b a b=0→a=b
 |[],[],_,_,_=>rfl
 |[],_::_,_,_,h=>by simp[z4b] at h
 |_::_,[],_,_,h=>by simp[z4b] at h
 | x::a,y::b,ha,hb,h=>by
  rw[qgm] at ha hb
  rw[z4b,zpl] at h
  rw[cmpT_eq x y ha.1 hb.1 h.1,z2o a b ha.2 hb.2 h.2]
end
def zzd (t:Tr):List AV:=[.raw (.int .u8 t.k),.raw (.int .u64 (wd t.s 0)),.raw (.int .u64 (wd t.s 1)),.raw (.int .u64 (wd t.s 2)),.raw (.int .u64 (wd t.s 3)),.raw (.int .i64 t.mn),.raw (.int .i64 t.mx),.list t.l.length (cellsL t.l) .none]
theorem ztg (t:Tr):cells t=zzd t:=qet t
instance:Enc Tr where
 inh:=zz
 cells:=zzd
 cellsL:=cellsL
 sz:=8
 pos:=by decide
 nil:=by simp[cellsL]
 cons a l:=by rw[cellsL,ztg]
 len _:=rfl
 clo t:=by rw[←ztg];exact z1c t
theorem enc_eq (t:Tr):enc t= .agg (Enc.cells t):=by rw[enc,ztg];rfl
theorem z8m {E:Int} (g:0≤E)(s:BS)(mn mx:Int)(l:List Tr):AV.agg (Enc.cells (Tr.mk (Int.toNat E) s mn mx l))= .agg [.raw (.int .u8 E),.raw (.int .u64 (wd s 0)),.raw (.int .u64 (wd s 1)),.raw (.int .u64 (wd s 2)),.raw (.int .u64 (wd s 3)),.raw (.int .i64 mn),.raw (.int .i64 mx),.list l.length (cellsL l) .none]:=by
 show AV.agg (zzd _)=_
 simp only[zzd,Tr.k,Tr.s,Tr.mn,Tr.mx,Tr.l,Int.toNat_of_nonneg g]
def zce (t:Tr)(st:Room):AV:= .agg [.raw (.int .u8 t.k),.raw (.int .u64 (wd t.s 0)),.raw (.int .u64 (wd t.s 1)),.raw (.int .u64 (wd t.s 2)),.raw (.int .u64 (wd t.s 3)),.raw (.int .i64 t.mn),.raw (.int .i64 t.mx),.list t.l.length (cellsL t.l) st]
theorem zo (t:Tr)(st:Room):zcv (zce t st)= .agg (Enc.cells t):=by
 simp only[zce,zcv,stripL,zif];rfl
def qjt (s:BS):List AV:=[.raw (.int .u64 (wd s 0)),.raw (.int .u64 (wd s 1)),.raw (.int .u64 (wd s 2)),.raw (.int .u64 (wd s 3))]
instance:Enc BS where
 inh:=0#256
 cells:=qjt
 cellsL l:=l.flatMap qjt
 sz:=4
 pos:=by decide
 nil:=rfl
 cons _ _:=rfl
 len _:=rfl
 clo _:=rfl
instance:Enc Sm where
 inh:=(0,0,0)
 cells:=smc
 cellsL:=smcL
 sz:=3
 pos:=by decide
 nil:=by simp[smcL]
 cons _ _:=by simp[smcL]
 len _:=rfl
 clo _:=rfl
structure Rgx where
 b:Bool
 e:Bool
 t:Tr
def qjr (r:Rgx):List AV:= .raw (.bool r.b):: .raw (.bool r.e)::zzd r.t
instance:Enc Rgx where
 inh:=⟨false,false,zz⟩
 cells:=qjr
 cellsL l:=l.flatMap qjr
 sz:=10
 pos:=by decide
 nil:=rfl
 cons _ _:=rfl
 len _:=rfl
 clo r:=by have:=Enc.clo r.t;exact this
def zmr (t:Tr):List AV:=[.agg (Enc.cells t)]
theorem qey (t:Tr):t∈pre t:=by rw[zfl];simp
theorem zzp {α:Type} [Enc α] {l:List α} {i:Nat} (h:i<l.length):ix l (i:Int)=l[i]:=by simp[ix,h]
def nodeK (k:Int)(s:BS)(mn mx:Int)(l:List Tr)(st:Room):AV:= .agg [.raw (.int .u8 k),.raw (.int .u64 (wd s 0)),.raw (.int .u64 (wd s 1)),.raw (.int .u64 (wd s 2)),.raw (.int .u64 (wd s 3)),.raw (.int .i64 mn),.raw (.int .i64 mx),.list l.length (cellsL l) st]
theorem z3k {k:Int} (g:0≤k)(s:BS)(mn mx:Int)(l:List Tr)(st:Room):zcv (nodeK k s mn mx l st)= .agg (Enc.cells (Tr.mk k.toNat s mn mx l)):=by
 rw[z8m g];simp only[nodeK,zcv,stripL,zif]
end Go.Ab
