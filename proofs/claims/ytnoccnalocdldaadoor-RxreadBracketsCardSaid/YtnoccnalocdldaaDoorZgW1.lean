import Derived.Test.YtnoccnalocdldaaDoorZgLs
set_option linter.all false
namespace Go.Ab
open Go Go.RowKit Go.Fwd
def bl:Nat→Nat→List Bool
 |0,_=>[]
 |n+1,m=>(m%2==1)::bl n (m/2)
section
variable {IT:IterP} {P:Program} {W:Owed} {ops ops0:Array Oper} {Q:List AV→St→Prop} {K:List AV→Prop} {o:Oper} {l:List Oper} {S S':List AV} {σ σ' σ'':St} {a:AV} {kb:Nat} {b:Bool} {c:Option Bool}
theorem w_o (k:zcq IT P W ops Q l S' σ')(hg:o.guard=none:=by exact rfl)(hc:zdj S o=none:=by exact rfl)(hy:zdt S o=none:=by exact rfl)(h:aop P (zcc S) σ o=some (a,σ'):=by exact rfl)(hS:zy S o.dst a=S':=by dsimp only[zy,List.set]):zcq IT P W ops Q (o::l) S σ:=
 zhw hg hc hy h hS k
theorem zcb (k:zcq IT P W ops Q l S' σ'')(hg:o.guard=none:=by exact rfl)(hc:zdj S o=none:=by exact rfl)(hy:zdt S o=none:=by exact rfl)(h:aop P (zcc S) σ o=some (a,σ'):=by exact rfl)(hS:zy S o.dst a=S':=by dsimp only[zy,List.set])(hσ:σ'=σ'':=by exact rfl):zcq IT P W ops Q (o::l) S σ:=
 zfs hg hc hy h hS hσ k
theorem zyc (k:zcq IT P W ops Q l S' σ)(hg:o.guard=some (kb,b):=by exact rfl)(hk:zdp ops S kb=some c:=by exact rfl)(hcb:c≠some b:=by decide)(hS:zy S o.dst (.raw undef)=S':=by dsimp only[zy,List.set]):zcq IT P W ops Q (o::l) S σ:=
 z1h hg hk hcb hS k
theorem h_o (k:zen IT P ops σ K l S')(hd:(o.dst.all fun d=>decide (d<S.length))=true:=by exact rfl)(hg:o.guard=none:=by exact rfl)(hc:zdj S o=none:=by exact rfl)(h:qop P (zcc S) σ o=some a:=by exact rfl)(hS:zy S o.dst a=S':=by dsimp only[zy,List.set]):zen IT P ops σ K (o::l) S:=
 qjl hd hg hc h hS k
theorem zkl (k:zen IT P ops σ K l S')(hd:(o.dst.all fun d=>decide (d<S.length))=true:=by exact rfl)(hg:o.guard=some (kb,b):=by exact rfl)(hk:zdp ops S kb=some c:=by exact rfl)(hcb:c≠some b:=by decide)(hS:zy S o.dst (.raw undef)=S':=by dsimp only[zy,List.set]):zen IT P ops σ K (o::l) S:=
 h_pass hd hg hk hcb hS k
end
theorem zpv {IT:IterP} {P:Program} {W:Owed} {ops ops0:Array Oper} {K:List AV→St→Prop} {i:Nat} {o:Oper} {S:List AV} {σ:St} (hops:ops=ops0)(ho:ops0.toList[i]? =some o)(h:zcq IT P W ops K [o] S σ):zvu IT P W ops K i S σ:=
 aopAt_s hops (by rw[←ho,Array.getElem?_toList]) h
def upS:List (Option (Nat×AV))→List Bool→List (Nat×AV)
 |some q::ps,true::bs=>q::upS ps bs
 |none::ps,true::bs=>upS ps bs
 |_::ps,false::bs=>upS ps bs
 |_,_=>[]
def aN (IT:IterP)(P:Program)(W:Owed)(ops:Array Oper)(FIN:List AV→St→Prop)(S0:List AV)(ps:List (Option (Nat×AV)))(n k m:Nat)(σ:St):Prop:=
 zqt IT P W ops FIN k ⟨bl n m⟩ (zbg S0 (upS ps (bl n m))) σ
section
variable {IT:IterP} {P:Program} {W:Owed} {ops ops0:Array Oper} {FIN:List AV→St→Prop} {S0 L S:List AV} {ps PL:List (Option (Nat×AV))} {n k m m':Nat} {σ:St}
theorem aN_n (hops:ops=ops0)(hS:S0=L)(hps:ps=PL)(is:List Nat)
 (h: ∀i∈is,zvu IT P W ops (fun S σ=>zqt IT P W ops FIN k ⟨(bl n m).set i true⟩ S σ) i S σ)
 (hr:Region.ready .any ops0 ⟨bl n m⟩=is:=by kernel_rfl) (hne:is≠[]:=by decide) (e:zbg L (upS PL (bl n m))=S:=by dsimp only[zbg,List.foldl,List.set,upS,bl,Nat.reduceMod,Nat.reduceDiv,Nat.reduceBEq]):aN IT P W ops FIN S0 ps n (k+1) m σ:=by
 subst hS hps e
 exact aany_n hops is hr hne h
theorem aN_0 (hops:ops=ops0)(hS:S0=L)(hps:ps=PL)(h:FIN S σ)(hr:Region.ready .any ops0 ⟨bl n m⟩=[]:=by kernel_rfl)(e:zbg L (upS PL (bl n m))=S:=by dsimp only[zbg,List.foldl,List.set,upS,bl,Nat.reduceMod,Nat.reduceDiv,Nat.reduceBEq]):aN IT P W ops FIN S0 ps n 0 m σ:=by
 subst hS hps e
 exact aany_0 hops hr h
theorem zf {i:Nat} (h:aN IT P W ops FIN S0 ps n k m' σ)(hS:S0=L)(hps:ps=PL)(hb:(bl n m).set i true=bl n m':=by kernel_rfl)(e:zbg L (upS PL (bl n m'))=S:=by kernel_rfl):zqt IT P W ops FIN k ⟨(bl n m).set i true⟩ S σ:=by
 subst hS hps e
 rw[hb];exact h
theorem zxq {k':Nat} {l:Array Bool} (h:aN IT P W ops FIN S0 ps n k 0 σ)(hps:ps=PL)(hk:k=k':=by kernel_rfl)(hb:(⟨bl n 0⟩:Array Bool)=l:=by kernel_rfl)(e:upS PL (bl n 0)=[]:=by kernel_rfl):zqt IT P W ops FIN k' l S0 σ:=by
 subst hps hk hb
 have h':zqt IT P W ops FIN k ⟨bl n 0⟩ (zbg S0 (upS ps (bl n 0))) σ:=h
 rw[e] at h';exact h'
end
@[reducible] def AV.i (x:Int):AV:= .raw (.int .i64 x)
@[reducible] def AV.u (x:Int):AV:= .raw (.int .u8 x)
@[reducible] def AV.b (x:Bool):AV:= .raw (.bool x)
@[reducible] def AV.s (x:List UInt8):AV:= .raw (.string (bs x))
def mvOf:Op→Option Nat
 | .move (.tmp k)=>some k
 | .assign (.tmp k)=>some k
 |_=>none
section
variable {IT:IterP} {P:Program} {W:Owed} {ops ops0:Array Oper} {Q:List AV→St→Prop} {K:List AV→Prop} {o:Oper} {l:List Oper} {S S':List AV} {σ σ' σ'':St} {a:AV} {k:Nat}
theorem zvn (ho:mvOf o.op=some k)(hv:S[k]? =some a):zdj S o=none∧zdt S o=none∧qop P (zcc S) σ o=some a:=by
 have h:o.op= .move (.tmp k)∨o.op= .assign (.tmp k):=by
  unfold mvOf at ho
  split at ho<;>cases ho
  ·rename_i h;exact .inl h
  ·rename_i h;exact .inr h
 rcases h with h|h<;>simp[zdj,zdt,qop,h,zcc,hv]
theorem zac (kk:zcq IT P W ops Q l S' σ)(ho:mvOf o.op=some k:=by exact rfl)(hg:o.guard=none:=by exact rfl)(hv:S[k]? =some a:=by exact rfl)(hS:zy S o.dst a=S':=by dsimp only[zy,List.set]):zcq IT P W ops Q (o::l) S σ:=by
 obtain⟨h1,h2,h3⟩:=zvn (P:=P) (σ:=σ) ho hv
 exact zhw hg h1 h2 (zbb h3) hS kk
theorem zjj (kk:zen IT P ops σ K l S')(ho:mvOf o.op=some k:=by exact rfl)(hd:(o.dst.all fun d=>decide (d<S.length))=true:=by exact rfl)(hg:o.guard=none:=by exact rfl)(hv:S[k]? =some a:=by exact rfl)(hS:zy S o.dst a=S':=by dsimp only[zy,List.set]):zen IT P ops σ K (o::l) S:=by
 obtain⟨h1,h2,h3⟩:=zvn (P:=P) (σ:=σ) ho hv
 exact qjl hd hg h1 h3 hS kk
def exOf:Op→Option (Nat×Nat)
 | .extract (.tmp k) i=>some (k,i)
 |_=>none
theorem zvt {i:Nat} {vs:List AV} (ho:exOf o.op=some (k,i))(hv:S[k]? =some (.tup vs))(hi:vs[i]? =some a):zdj S o=none∧zdt S o=none∧qop P (zcc S) σ o=some a:=by
 have h:o.op= .extract (.tmp k) i:=by
  unfold exOf at ho
  split at ho<;>cases ho
  rename_i h;exact h
 simp[zdj,zdt,qop,h,zcc,hv,hi]
theorem qej {i:Nat} {vs:List AV} (kk:zcq IT P W ops Q l S' σ)(ho:exOf o.op=some (k,i):=by exact rfl)(hg:o.guard=none:=by exact rfl)(hv:S[k]? =some (.tup vs):=by exact rfl)(hi:vs[i]? =some a:=by exact rfl)(hS:zy S o.dst a=S':=by dsimp only[zy,List.set]):zcq IT P W ops Q (o::l) S σ:=by
 obtain⟨h1,h2,h3⟩:=zvt (P:=P) (σ:=σ) ho hv hi
 exact zhw hg h1 h2 (zbb h3) hS kk
theorem h_ex {i:Nat} {vs:List AV} (kk:zen IT P ops σ K l S')(ho:exOf o.op=some (k,i):=by exact rfl)(hd:(o.dst.all fun d=>decide (d<S.length))=true:=by exact rfl)(hg:o.guard=none:=by exact rfl)(hv:S[k]? =some (.tup vs):=by exact rfl)(hi:vs[i]? =some a:=by exact rfl)(hS:zy S o.dst a=S':=by dsimp only[zy,List.set]):zen IT P ops σ K (o::l) S:=by
 obtain⟨h1,h2,h3⟩:=zvt (P:=P) (σ:=σ) ho hv hi
 exact qjl hd hg h1 h3 hS kk
end
section
variable {P:Program} {fn:Func} {S:List AV} {σ:St}
theorem zbe {y r:Bool} (hr:some y=some r)(h:zba P fn σ S=some (.raw (.bool y)):=by exact rfl):zxk P fn (.raw (.bool r)) .ret S σ:=zdy (fun(r:Bool)=>(.raw (.bool r):AV)) hr h rfl rfl
theorem zjd {k:IntKind} {y r:Int} (hr:some y=some r)(h:zba P fn σ S=some (.raw (.int k y)):=by exact rfl):zxk P fn (.raw (.int k r)) .ret S σ:=zdy (fun(r:Int)=>(.raw (.int k r):AV)) hr h rfl rfl
end
section
variable {IT:IterP} {P:Program} {W:Owed} {ops ops0:Array Oper} {FIN:List AV→St→Prop} {S0 L S:List AV} {ps PL:List (Option (Nat×AV))} {n k m m':Nat} {σ:St} {o o' o'':Oper}
theorem zkk (hops:ops=ops0)(hS:S0=L)(hps:ps=PL)(i:Nat)(h:zcq IT P W ops (fun S σ=>zqt IT P W ops FIN k ⟨(bl n m).set i true⟩ S σ) [o] S σ)
 (ho:ops0.toList[i]? =some o:=by exact rfl) (hr:Region.ready .any ops0 ⟨bl n m⟩=[i]:=by kernel_rfl) (e:zbg L (upS PL (bl n m))=S:=by dsimp only[zbg,List.foldl,List.set,upS,bl,Nat.reduceMod,Nat.reduceDiv,Nat.reduceBEq]):aN IT P W ops FIN S0 ps n (k+1) m σ:=
 aN_n hops hS hps [i] (all_cons (zpv hops ho h) all_nil) hr (by simp) e
theorem zei (hops:ops=ops0)(hS:S0=L)(hps:ps=PL)(i j:Nat)(h:zcq IT P W ops (fun S σ=>zqt IT P W ops FIN k ⟨(bl n m).set i true⟩ S σ) [o] S σ)(h':zcq IT P W ops (fun S σ=>zqt IT P W ops FIN k ⟨(bl n m).set j true⟩ S σ) [o'] S σ)
 (ho:ops0.toList[i]? =some o:=by exact rfl) (ho':ops0.toList[j]? =some o':=by exact rfl) (hr:Region.ready .any ops0 ⟨bl n m⟩=[i,j]:=by kernel_rfl) (e:zbg L (upS PL (bl n m))=S:=by dsimp only[zbg,List.foldl,List.set,upS,bl,Nat.reduceMod,Nat.reduceDiv,Nat.reduceBEq]):aN IT P W ops FIN S0 ps n (k+1) m σ:=
 aN_n hops hS hps [i,j] (all_cons (zpv hops ho h) (all_cons (zpv hops ho' h') all_nil)) hr (by simp) e
theorem zhu (hops:ops=ops0)(hS:S0=L)(hps:ps=PL)(i j q:Nat)(h:zcq IT P W ops (fun S σ=>zqt IT P W ops FIN k ⟨(bl n m).set i true⟩ S σ) [o] S σ)(h':zcq IT P W ops (fun S σ=>zqt IT P W ops FIN k ⟨(bl n m).set j true⟩ S σ) [o'] S σ)(h'':zcq IT P W ops (fun S σ=>zqt IT P W ops FIN k ⟨(bl n m).set q true⟩ S σ) [o''] S σ)
 (ho:ops0.toList[i]? =some o:=by exact rfl) (ho':ops0.toList[j]? =some o':=by exact rfl) (ho'':ops0.toList[q]? =some o'':=by exact rfl) (hr:Region.ready .any ops0 ⟨bl n m⟩=[i,j,q]:=by kernel_rfl) (e:zbg L (upS PL (bl n m))=S:=by dsimp only[zbg,List.foldl,List.set,upS,bl,Nat.reduceMod,Nat.reduceDiv,Nat.reduceBEq]):aN IT P W ops FIN S0 ps n (k+1) m σ:=
 aN_n hops hS hps [i,j,q] (all_cons (zpv hops ho h) (all_cons (zpv hops ho' h') (all_cons (zpv hops ho'' h'') all_nil))) hr (by simp) e
end
def bzc:Bool→Nat→List Nat→List Nat
 |true,i,l=>i::l
 |false,_,l=>l
def bz:Nat→Nat→Nat→List Nat
 |_,0,_=>[]
 |i,n+1,m=>bzc (m%2==1) i (bz (i+1) n (m/2))
section
variable {IT:IterP} {P:Program} {W:Owed} {k0:Nat} {ops:Array Oper} {Q:List AV→St→Prop} {o:Oper} {l:List Oper} {S S':List AV} {σ σ':St} {f:FuncId} {args args':List AV} {r:AV}
theorem zet {c:Code} {Q:AQ} (h:awp IT P W k0 c Q S' σ)(hS:S=S':=by dsimp only[zbg,zbz,List.foldl,List.set,bz,bzc,Nat.reduceMod,Nat.reduceDiv,Nat.reduceBEq,Nat.reduceAdd]):awp IT P W k0 c Q S σ:=zbj hS rfl h
theorem zcs {n0:Nat} (m:List Bool)(h:fgM m S=S':=by kernel_rfl)(hσ:σ'=σ:=by kernel_rfl):Wk n0 S σ S' σ':=zdq m h hσ
end
inductive RV where
 |v (a:AV)|m (a:AV)|x (a:AV)|p
def RV.val:RV→AV
 | .v a=>a
 | .m a=>a
 | .x a=>a
 | .p=> .raw undef
def gst (ops:Array Oper)(S:List AV)(o:Oper):Option Bool:=match o.guard with
 |none=>some true
 | some (k,b)=>match zdp ops S k with
  |some (some c)=>some (c==b)
  |some none=>some false
  |none=>none
def oneV (P:Program)(ops:Array Oper)(σ:St)(S:List AV)(o:Oper):RV→Option (AV×St)
 | .v _=>match gst ops S o,zdj S o,zdt S o with
  |some true,none,none=>aop P (zcc S) σ o
  |_,_,_=>none
 | .m _=>match gst ops S o with
  | some true=>match mvOf o.op with
   | some k=>match S[k]? with
    |some a=>some (a,σ)
    |none=>none
   |none=>none
  |_=>none
 | .x _=>match gst ops S o with
  | some true=>match exOf o.op with
   | some (k,i)=>match S[k]? with
    | some (.tup vs)=>match vs[i]? with
     |some a=>some (a,σ)
     |none=>none
    |_=>none
   |none=>none
  |_=>none
 | .p=>match gst ops S o with
  |some false=>some (.raw undef,σ)
  |_=>none
def outV (P:Program)(ops:Array Oper)(σ:St):List RV→List Oper→List AV→List (Option (AV×St))
 |x::vs,o::l,S=>oneV P ops σ S o x::outV P ops σ vs l (zy S o.dst x.val)
 |_::_,[],_=>[none]
 |[],_,_=>[]
def putV:List RV→List Oper→List AV→List AV
 |x::vs,o::l,S=>putV vs l (zy S o.dst x.val)
 |_,_,S=>S
def z2y:List RV→List Oper→List Oper
 |_::vs,_::l=>z2y vs l
 |_,l=>l
def expV (σ:St):List RV→List (Option (AV×St))
 |x::vs=>some (x.val,σ)::expV σ vs
 |[]=>[]
section
variable {IT:IterP} {P:Program} {W:Owed} {ops:Array Oper} {Q:List AV→St→Prop} {o:Oper} {l L l':List Oper} {S S':List AV} {σ σ' σ'':St} {a:AV} {k0:Nat}
theorem qbp {c:Bool} (h:gst ops S o=some c):o.guard=none∧c=true∨ ∃k b d,o.guard=some (k,b)∧zdp ops S k=some d∧(c=true→d=some b)∧(c=false→d≠some b):=by
 unfold gst at h
 split at h
 ·exact .inl ⟨‹_›,(Option.some.inj h).symm⟩
 ·rename_i k b hg
  split at h
  ·rename_i d hd
   cases h
   refine .inr ⟨k,b,_,hg,hd,fun e=> ?_,fun e=> ?_⟩
   ·rw[beq_iff_eq] at e;rw[e]
   ·intro e';cases e';simp at e
  ·rename_i hd;cases h;exact .inr ⟨k,b,_,hg,hd,nofun,nofun⟩
  ·cases h
theorem z1s (h:gst ops S o=some true)(k:zfx IT P W o S σ fun a σ'=>zcq IT P W ops Q l (zy S o.dst a) σ'):zcq IT P W ops Q (o::l) S σ:=by
 rcases qbp h with⟨hg,_⟩|⟨kk,b,d,hg,hd,h1,_⟩
 ·simp only[zcq,hg];exact k
 ·simp only[zcq,hg];exact⟨d,hd,by rw[h1 rfl,if_pos rfl];exact k⟩
theorem w_one {x:RV} (h:oneV P ops σ S o x=some (x.val,σ))(k:zcq IT P W ops Q l (zy S o.dst x.val) σ):zcq IT P W ops Q (o::l) S σ:=by
 cases x with
 | v a=>
  simp only[oneV] at h
  split at h
  ·rename_i h1 h2 h3
   refine z1s h1 ?_
   simp only[zfx,h2,h3]
   exact .inl ⟨_,_,.inl h,k⟩
  ·cases h
 | m a=>
  simp only[oneV] at h
  split at h
  ·rename_i h1
   split at h
   ·rename_i kk h2
    split at h
    ·rename_i b h3
     obtain⟨q1,q2,q3⟩:=zvn (P:=P) (σ:=σ) h2 h3
     have e:b=a:=congrArg Prod.fst (Option.some.inj h)
     subst e
     refine z1s h1 ?_
     simp only[zfx,q1,q2]
     exact .inl ⟨_,_,.inl (zbb q3),k⟩
    ·cases h
   ·cases h
  ·cases h
 | x a =>
  simp only[oneV] at h
  split at h
  ·rename_i h1
   split at h
   ·rename_i kk i h2
    split at h
    ·rename_i vs h3
     split at h
     ·rename_i b h4
      obtain⟨q1,q2,q3⟩:=zvt (P:=P) (σ:=σ) h2 h3 h4
      have e:b=a:=congrArg Prod.fst (Option.some.inj h)
      subst e
      refine z1s h1 ?_
      simp only[zfx,q1,q2]
      exact .inl ⟨_,_,.inl (zbb q3),k⟩
     ·cases h
    ·cases h
   ·cases h
  ·cases h
 | p=>
  simp only[oneV] at h
  split at h
  ·rename_i h1
   rcases qbp h1 with⟨_,e⟩|⟨kk,b,d,hg,hd,_,h2⟩
   ·cases e
   ·exact z1h hg hd (h2 rfl) rfl k
  ·cases h
theorem w_r (vs:List RV)(k:zcq IT P W ops Q l' S' σ)(h:outV P ops σ vs l S=expV σ vs:=by exact rfl)(hl:z2y vs l=l':=by dsimp only[z2y,List.toList_toArray,List.drop])(hS:putV vs l S=S':=by dsimp only[putV,RV.val,zy,List.set,List.toList_toArray,List.drop]):zcq IT P W ops Q l S σ:=by
 subst hl hS
 induction vs generalizing l S with
 |nil=>simpa[putV,z2y] using k
 | cons x vs ih=>
  cases l with
  |nil=>simp[outV,expV] at h
  | cons o l=>
   simp only[outV,expV,List.cons.injEq] at h
   exact w_one h.1 (ih h.2 (by simpa[putV,z2y] using k))
theorem zx {id:Nat} {x y:Code} {Q:AQ} (vs:List RV)(k:zcq IT P W ops (ztz (awp IT P W k0 y Q) Q .normal) l' S' σ)(hx:x= .region id ops false:=by exact rfl)(h:outV P ops σ vs ops.toList S=expV σ vs:=by exact rfl)(hl:z2y vs ops.toList=l':=by dsimp only[z2y,List.toList_toArray])(hS:putV vs ops.toList S=S':=by dsimp only[putV,RV.val,zy,List.set,List.toList_toArray]):awp IT P W k0 (.seq x y) Q S σ:=by
 subst hx
 exact zi (zc (w_r vs k h hl hS))
theorem zak {t b:Bool} (e:t=b)(k:zcq IT P W ops Q l S' σ)(hg:o.guard=none:=by exact rfl)(hc:zdj S o=none:=by exact rfl)(hy:zdt S o=none:=by exact rfl)(h:qop P (zcc S) σ o=some (.raw (.bool t)):=by exact rfl)(hS:zy S o.dst (.raw (.bool b))=S':=by dsimp only[zy,List.set]):zcq IT P W ops Q (o::l) S σ:=
 zhw hg hc hy (zbb (zeh h e)) hS k
theorem zio {x y:Operand} {t:TypeId} {c} {m n:Int} (g: -9223372036854775808≤m+n∧m+n<9223372036854775808)(k:zcq IT P W ops Q l S' σ)(hg:o.guard=none:=by exact rfl)(ho:o.op= .binOp .add t x y c:=by exact rfl)(hx:zcc S x= .raw (.int .i64 m):=by exact rfl)(hv:zcc S y= .raw (.int .i64 n):=by exact rfl)(hS:zy S o.dst (.raw (.int .i64 (m+n)))=S':=by dsimp only[zy,List.set]):zcq IT P W ops Q (o::l) S σ:=
 zhw hg (by simp[zdj,ho]) (by simp[zdt,ho]) (zbb (znj ho hx hv rfl g.1 g.2)) hS k
theorem w_sb {x y:Operand} {t:TypeId} {c} {m n:Int} (g: -9223372036854775808≤m-n∧m-n<9223372036854775808)(k:zcq IT P W ops Q l S' σ)(hg:o.guard=none:=by exact rfl)(ho:o.op= .binOp .sub t x y c:=by exact rfl)(hx:zcc S x= .raw (.int .i64 m):=by exact rfl)(hv:zcc S y= .raw (.int .i64 n):=by exact rfl)(hS:zy S o.dst (.raw (.int .i64 (m-n)))=S':=by dsimp only[zy,List.set]):zcq IT P W ops Q (o::l) S σ:=
 zhw hg (by simp[zdj,ho]) (by simp[zdt,ho]) (zbb (znp ho hx hv rfl g.1 g.2)) hS k
theorem z6x {α:Type} [Enc α] {t e:TypeId} {x i:Operand} {u:α} {xs:List α} {st:Room} {kd:IntKind} {n:Int} (hu:ix xs n=u)(g:0≤n∧n<xs.length)(k:zcq IT P W ops Q l S' σ)(hg:o.guard=none:=by exact rfl)(ho:o.op= .indexAddr t x i:=by exact rfl)(hx:zcc S x= .list xs.length (Enc.cellsL xs) st:=by exact rfl)(hi:zcc S i= .raw (.int kd n):=by exact rfl)(ht:P.underlying t=some (.slice e):=by exact rfl)(hs:zdk P e=some (Enc.sz α):=by exact rfl)
 (hS:zy S o.dst (.iptr (Enc.cells u++Enc.cellsL (xs.drop (n.toNat+1))))=S':=by dsimp only[zy,List.set]):zcq IT P W ops Q (o::l) S σ:=by
 subst hu
 exact zhw hg (by simp[zdj,ho]) (by simp[zdt,ho]) (zbb (qhs g ho hx hi ht hs)) hS k
theorem zco {t:TypeId} {x y:Operand} {s:Nat} {v:AV} {bx:TypeId×List AV} (n:Nat)(σ'':St)(k:zcq IT P W ops Q l S' σ'')(hg:o.guard=none:=by exact rfl)(ho:o.op= .store t x y:=by exact rfl)(hx:zcc S x= .ptr s 0:=by exact rfl)(hv:zcc S y=v:=by exact rfl)(hb:σ.boxes[s]? =some bx:=by exact rfl)(hn:zdk P t=some n:=by exact rfl)(hl:bx.2.length=n:=by exact rfl)(hc:zhn v=true:=by exact rfl)(hvl:(cellsOf v).length=n:=by exact rfl)(h0:0<n:=by decide)
 (hS:zy S o.dst (.raw undef)=S':=by dsimp only[zy,List.set]) (hσ:{σ with boxes:=σ.boxes.set s (bx.1,cellsOf v)}=σ'':=by exact rfl):zcq IT P W ops Q (o::l) S σ:=
 zfs hg (by simp[zdj,ho]) (by simp[zdt,ho]) (zaz ho hx hv hb hn hl hc hvl h0) hS hσ k
theorem zdb {f:FuncId} {args args':List AV} {r:AV} (hp:Pure IT P f args' r)(k:zcq IT P W ops Q l S' σ)(hg:o.guard=none:=by exact rfl)(hc:zdj S o=some (f,args):=by exact rfl)
 (hs:stripL args=args':=by repeat(first|exact rfl|refine zh (by first|exact zbu (zab (Enc.clo _))|exact zjw (Enc.cloL _)|exact zps (Enc.cloL _) Enc.z|exact rfl) ?_))
 (hok:zad 0 args=true:=by repeat(first|exact rfl|refine za (by first|exact zam _ _ (zab (Enc.clo _))|exact zcl (Enc.cloL _)|exact zed (Enc.cloL _)|exact rfl) ?_)) (hS:zy S o.dst r=S':=by dsimp only[zy,List.set]):zcq IT P W ops Q (o::l) S σ:=
 zct hp hg hc hs hok hS k
theorem h_ix {α:Type} [Enc α] {K:List AV→Prop} {t e:TypeId} {x i:Operand} {u:α} {xs:List α} {st:Room} {kd:IntKind} {n:Int} (hu:ix xs n=u)(g:0≤n∧n<xs.length)(k:zen IT P ops σ K l S')(hd:(o.dst.all fun d=>decide (d<S.length))=true:=by exact rfl)(hg:o.guard=none:=by exact rfl)(ho:o.op= .indexAddr t x i:=by exact rfl)(hx:zcc S x= .list xs.length (Enc.cellsL xs) st:=by exact rfl)(hi:zcc S i= .raw (.int kd n):=by exact rfl)(ht:P.underlying t=some (.slice e):=by exact rfl)(hs:zdk P e=some (Enc.sz α):=by exact rfl)
 (hS:zy S o.dst (.iptr (Enc.cells u++Enc.cellsL (xs.drop (n.toNat+1))))=S':=by dsimp only[zy,List.set]):zen IT P ops σ K (o::l) S:=by
 subst hu
 exact qjl hd hg (by simp[zdj,ho]) (qhs g ho hx hi ht hs) hS k
theorem h_ck {K:List AV→Prop} {f:FuncId} {args args':List AV} {r:AV} (hp:Pure IT P f args' r)(k:zen IT P ops σ K l S')(hd:(o.dst.all fun d=>decide (d<S.length))=true:=by exact rfl)(hg:o.guard=none:=by exact rfl)(hc:zdj S o=some (f,args):=by exact rfl)
 (hs:stripL args=args':=by repeat(first|exact rfl|refine zh (by first|exact zbu (zab (Enc.clo _))|exact zjw (Enc.cloL _)|exact zps (Enc.cloL _) Enc.z|exact rfl) ?_))
 (hok:zad 0 args=true:=by repeat(first|exact rfl|refine za (by first|exact zam _ _ (zab (Enc.clo _))|exact zcl (Enc.cloL _)|exact zed (Enc.cloL _)|exact rfl) ?_)) (hS:zy S o.dst r=S':=by dsimp only[zy,List.set]):zen IT P ops σ K (o::l) S:=
 qeb hp hd hg hc hs hok hS k
end
theorem strip_t {vs us:List AV} (h:stripL vs=us):zcv (.tup vs)= .tup us:=by rw[zcv,h]
theorem strip_a {vs us:List AV} (h:stripL vs=us):zcv (.agg vs)= .agg us:=by rw[zcv,h]
theorem qim {k:Nat} {vs:List AV} (h:zad k vs=true):zbp k (.tup vs)=true:=h
theorem qhq {k:Nat} {vs:List AV} (h:zad k vs=true):zbp k (.agg vs)=true:=h
theorem zaq {P:Program} {fn:Func} {S:List AV} {σ:St} {R:Type} {y r:R} (E:R→AV)(hr:some y=some r)(a:AV)(h:zba P fn σ S=some a:=by exact rfl)
 (hok:zbp 0 a=true:=by first|exact zam _ _ (zab (Enc.clo _))|exact zcl (Enc.cloL _)|exact zed (Enc.cloL _)|((first|refine qim ?_|refine qhq ?_);repeat(first|exact rfl|refine za (by first|exact zam _ _ (zab (Enc.clo _))|exact zcl (Enc.cloL _)|exact zed (Enc.cloL _)|exact rfl) ?_)))
 (hs:zcv a=E y:=by first|exact zjw (Enc.cloL _)|exact zps (Enc.cloL _) Enc.z|exact zbu (zab (Enc.clo _))|((first|refine strip_t ?_|refine strip_a ?_);repeat(first|exact rfl|refine zh (by first|exact zbu (zab (Enc.clo _))|exact zjw (Enc.cloL _)|exact zps (Enc.cloL _) Enc.z|exact rfl) ?_))):zxk P fn (E r) .ret S σ:=
 zdy E hr h hok hs
theorem zcd {IT:IterP} {P:Program} {W:Owed} {k0:Nat} {α:Type} {c:Bool} {A B:Option α} {r:α} {d:Operand} {x y:Code} {Q:AQ} {S:List AV} {σ:St} (h:(bif c then A else B)=some r)(kt:c=true→A=some r→awp IT P W k0 x Q S σ)(kf:c=false→B=some r→awp IT P W k0 y Q S σ)(hc:zcc S d= .raw (.bool c):=by exact rfl):awp IT P W k0 (.cond d x y) Q S σ:=
 zaa h (fun e h=>zbw e hc (kt e h)) (fun e h=>zbv e hc (kf e h))
@[reducible] def AV.L {α:Type} [Enc α] (l:List α):AV:= .list l.length (Enc.cellsL l) .none
@[reducible] def AV.F {α:Type} [Enc α] (l:List α):AV:= .list l.length (Enc.cellsL l) .full
@[reducible] def AV.O {α:Type} [Enc α] (l:List α):AV:=zch l.length (Enc.cellsL l)
@[reducible] def AV.A {α:Type} [Enc α] (x:α):AV:= .agg (Enc.cells x)
@[reducible] def St.B (l:List (TypeId×List AV)):St:=⟨l,[],[],0,false⟩
theorem zby {P:Program} {f:FuncId} {fn:Func} {c:Code} {args S':List AV} {r:AV} (n:Nat)(hmix:P.follows .mixedOrders=true)(hf:P.funcs[f]? =some fn)(he:Ent P f)(h:awp (ITP P) P none 0 c (zxk P fn r) S' (St.B []))(hb:fn.body=some c:=by exact rfl)(hn:Nat.sub fn.ntmps args.length=n:=by exact rfl)(hS:args++List.replicate n (.raw undef)=S':=by dsimp only[List.replicate,List.cons_append,List.nil_append]):Pure (ITP P) P f args r:=
 zik hmix hf hb he (by unfold zat;rw[show fn.ntmps-args.length=n from hn,hS];exact h)
section
variable {P:Program} {ρ:Operand→AV} {σ:St} {o:Oper} {α:Type} [Enc α]
theorem q_bslH {t e:TypeId} {x i:Operand} {s n:Nat} {f:Bool} {k:IntKind} {j:Int} (g:0<j∧j≤n)(ho:o.op= .slice t x none (some i) none)(hx:ρ x= .bsl s 0 n (Enc.sz α) f)(hi:ρ i= .raw (.int k j))(hu:P.underlying t=some (.slice e))(hs:zdk P e=some (Enc.sz α)):
 qop P ρ σ o=some (.bsl s 0 j.toNat (Enc.sz α) (f&&(j.toNat==n))):=by
 have h4:zin n none (some (.raw (.int k j))) none=some (0,j.toNat,false):=by
  have c:0≤j∧j≤(n:Int):=by omega
  simp only[zin,zkw,if_pos c]
 have hlt:0<j.toNat:=by omega
 simp only[qop,ho,hx,hi,Option.map_some,Option.map_none,zqi,hu,hs,h4,if_true,if_pos hlt,Nat.zero_add,Nat.zero_mul,Nat.sub_zero]
 simp
end
theorem qhy {IT:IterP} {P:Program} {W:Owed} {k0:Nat} {id:Nat} {ops:Array Oper} {Q:AQ} {S:List AV} {σ:St} (S1:List AV)(σ1:St)(h:zqt IT P W ops (fun S σ=>S=S1∧σ=σ1) ops.size (Array.replicate ops.size false) S σ)(hrest:Q .normal S1 σ1):awp IT P W k0 (.region id ops true) Q S σ:=
 .inr (.inr (.inl (zgq (fun S σ hw=>by obtain⟨rfl,rfl⟩:=hw;exact hrest) _ _ _ _ h)))
end Go.Ab
namespace Go.Ab
open Go Go.RowKit Go.Fwd Go.Proofs
theorem xorM64 (x:BitVec 64):zvz .u64 18446744073709551615 (x.toNat:Int)=((~~~ x).toNat:Int):=by
 show IntKind.u64.wrap (((BitVec.ofInt 64 (18446744073709551615:Int)^^^BitVec.ofInt 64 (x.toNat:Int)).toNat:Nat):Int)=_
 rw[z3w]
 have:BitVec.ofInt 64 (18446744073709551615:Int)^^^x= ~~~ x:=by
  rw[show BitVec.ofInt 64 (18446744073709551615:Int)=BitVec.allOnes 64 by decide,BitVec.allOnes_xor]
 rw[this];exact z5z _
theorem zsu (a:BS)(i:Nat)(hi:i<4):zvz .u64 18446744073709551615 (wd a i)=wd (~~~ a) i:=by
 unfold wd
 rw[xorM64]
 have: ~~~ W64 a i=W64 (~~~ a) i:=by
  apply BitVec.eq_of_getLsbD_eq
  intro j hj
  simp only[W64,BitVec.getLsbD_not,BitVec.getLsbD_extractLsb',hj,decide_true,Bool.true_and]
  have:64*i+j<256:=by omega
  simp[this]
 rw[this]
theorem not_run (a:BS):Pure (ITP Tryd.prog) Tryd.prog 17 [.agg (Enc.cells a)] (.agg [.raw (.int .u64 (zvz .u64 18446744073709551615 (wd a 0))),.raw (.int .u64 (zvz .u64 18446744073709551615 (wd a 1))),.raw (.int .u64 (zvz .u64 18446744073709551615 (wd a 2))),.raw (.int .u64 (zvz .u64 18446744073709551615 (wd a 3)))]):=zcy true goodN 100 (by kernel_rfl)
theorem k_not (a:BS):Pure (ITP Tryd.prog) Tryd.prog 17 [.agg (Enc.cells a)] (.agg (Enc.cells (~~~ a))):=by
 have:=not_run a
 rw[zsu _ 0 (by decide),zsu _ 1 (by decide),zsu _ 2 (by decide),zsu _ 3 (by decide)] at this;exact this
def stW (s:BS)(i:Nat)(v:Int):BS:=BitVec.ofNat 256 ((if 0=i then v else wd s 0).toNat+2^64*(if 1=i then v else wd s 1).toNat+2^128*(if 2=i then v else wd s 2).toNat+2^192*(if 3=i then v else wd s 3).toNat)
theorem zzw (s:BS)(i:Nat):0≤wd s i∧wd s i<2^64:=by
 unfold wd
 have:=(W64 s i).isLt
 omega
theorem qfe (n i:Nat)(hi:i<4):wd (BitVec.ofNat 256 n) i=((n/2^(64*i)%2^64:Nat):Int):=by
 unfold wd W64
 rw[BitVec.extractLsb'_toNat,BitVec.toNat_ofNat,Nat.shiftRight_eq_div_pow]
 congr 1
 have h:(2:Nat)^256=2^(64*i)*2^(256-64*i):=by rw[←Nat.pow_add];congr 1;omega
 have h2:(2:Nat)^(256-64*i)=2^64*2^(192-64*i):=by rw[←Nat.pow_add];congr 1;omega
 rw[h,Nat.mod_mul_right_div_self,h2,Nat.mod_mul_right_mod]
theorem zmp (s:BS)(i:Nat)(v:Int)(hv:0≤v∧v<2^64)(j:Nat)(hj:j<4):wd (stW s i v) j=if j=i then v else wd s j:=by
 unfold stW
 rw[qfe _ _ hj]
 have a0:0≤(if 0=i then v else wd s 0)∧(if 0=i then v else wd s 0)<2^64:=by split;exact hv;exact zzw s 0
 have a1:0≤(if 1=i then v else wd s 1)∧(if 1=i then v else wd s 1)<2^64:=by split;exact hv;exact zzw s 1
 have a2:0≤(if 2=i then v else wd s 2)∧(if 2=i then v else wd s 2)<2^64:=by split;exact hv;exact zzw s 2
 have a3:0≤(if 3=i then v else wd s 3)∧(if 3=i then v else wd s 3)<2^64:=by split;exact hv;exact zzw s 3
 have key: ∀x0 x1 x2 x3:Int,0≤x0∧x0<2^64→0≤x1∧x1<2^64→0≤x2∧x2<2^64→0≤x3∧x3<2^64→ ∀n:Nat,n=x0.toNat+18446744073709551616*x1.toNat+340282366920938463463374607431768211456*x2.toNat+6277101735386680763835789423207666416102355444464034512896*x3.toNat→
  ((n%18446744073709551616:Nat):Int)=x0∧((n/18446744073709551616%18446744073709551616:Nat):Int)=x1∧((n/340282366920938463463374607431768211456%18446744073709551616:Nat):Int)=x2∧((n/6277101735386680763835789423207666416102355444464034512896%18446744073709551616:Nat):Int)=x3:=by
  intro x0 x1 x2 x3 h0 h1 h2 h3 n hn
  obtain⟨y0,rfl⟩:=Int.eq_ofNat_of_zero_le h0.1
  obtain⟨y1,rfl⟩:=Int.eq_ofNat_of_zero_le h1.1
  obtain⟨y2,rfl⟩:=Int.eq_ofNat_of_zero_le h2.1
  obtain⟨y3,rfl⟩:=Int.eq_ofNat_of_zero_le h3.1
  simp only[Int.toNat_natCast] at hn
  subst hn
  refine⟨?_,?_,?_,?_⟩<;>congr 1<;>omega
 obtain⟨k0,k1,k2,k3⟩:=key _ _ _ _ a0 a1 a2 a3 _ rfl
 match j,hj with
 |0,_=>rw[Nat.mul_zero,Nat.pow_zero,Nat.div_one];exact k0
 |1,_=>exact k1
 |2,_=>exact k2
 |3,_=>exact k3
set_option maxRecDepth 100000 in
theorem znb {ρ:Operand→AV} {σ:St} {o:Oper} {x y:Operand} {b:Nat} {tt:TypeId} {i v:Int} (s:BS)(h:0≤i∧i<4)(hv:0≤v∧v<2^64)(ho:o.op= .store 24 x y)(hx:ρ x= .ptr b (0+i.toNat*1))(hy:ρ y= .raw (.int .u64 v))(hb:σ.boxes[b]? =some (tt,Enc.cells s)):
 aop Tryd.prog ρ σ o=some (.raw undef,{σ with boxes:=σ.boxes.set b (tt,Enc.cells (stW s i.toNat v))}):=by
 have hl:(Enc.cells s).length=4:=Enc.len s
 rw[zcr (n:=1) ho hx hy hb (by kernel_rfl) ⟨rfl,rfl,by simp only[hl];omega,by decide⟩]
 have e:(Enc.cells s).take (0+i.toNat*1)++cellsOf (.raw (.int .u64 v))++(Enc.cells s).drop (0+i.toNat*1+1)=Enc.cells (stW s i.toNat v):=by
  have hj:i.toNat<4:=by omega
  generalize i.toNat=j at hj
  show _=[_,_,_,_]
  rw[zmp s j v hv 0 (by decide),zmp s j v hv 1 (by decide),zmp s j v hv 2 (by decide),zmp s j v hv 3 (by decide)]
  match j,hj with
  |0,_=>rfl
  |1,_=>rfl
  |2,_=>rfl
  |3,_=>rfl
 simp only[e]
end Go.Ab
set_option maxRecDepth 100000
set_option maxHeartbeats 4000000
namespace Go.Ab
open Go Go.RowKit Go.Fwd Go.Proofs
def zfo (lo:Int)(hi:Int):Option Bool:=
 (zdr (τ:=Unit) (bif (decide (lo<0)) then(some (Sum.inr false)) else(bif (decide (lo>16)) then(some (Sum.inr false)) else(bif (lo==1) then(bif (hi==1) then(some (Sum.inr false)) else(some (Sum.inl ()))) else(some (Sum.inl ()))))) (fun j1=>(bif (hi==(-1)) then(some true) else(bif (decide (hi≥1)) then(bif (decide (hi≤16)) then(some (decide (hi≥lo))) else(some false)) else(some false)))))
theorem ent83:Ent Tryd.prog 83:=enters_of Tryd.func83 (by kernel_rfl) rfl
theorem zit (lo:Int)(hi:Int)(r:Bool)(h:zfo lo hi=some r):Pure (ITP Tryd.prog) Tryd.prog 83 [.raw (.int .i64 lo),.raw (.int .i64 hi)] (.raw (.bool r)):=by
 unfold zfo at h
 refine zby 32 mix Tryd.func83 ent83 ?_
 refine zx [.v (.b false)] ?_
 refine zbh h (bz 0 34 17179869180) (fun j1=>[]) (fun j1=>(.B [])) ?_ ?_
 intro or1 h hr1
 refine zx [.m _,.v (.b (decide (lo<0)))] ?_
 refine zaa h (fun hc1 h=> ?_) (fun hc1 h=> ?_)
 refine zak hc1 ?_
 refine w_r [.p,.p,.v (.b true),.m _,.p] ?_
 refine w_r [.p,.p,.p,.p,.p] ?_
 refine w_r [.v (.b true)] ?_
 refine zbf rfl ?_
 refine zx [.v (.b false)] ?_
 replace h:=zq h hr1
 exact zbe h
 refine zak hc1 ?_
 refine w_r [.m _,.v (.b (decide (lo>16))),.v (.b (decide (lo>16)))] ?_
 refine zaa h (fun hc2 h=> ?_) (fun hc2 h=> ?_)
 refine zak hc2 ?_
 refine w_r [.p,.p,.p,.p,.p] ?_
 refine w_r [.p,.v (.b true)] ?_
 refine zbf rfl ?_
 refine zx [.v (.b false)] ?_
 replace h:=zq h hr1
 exact zbe h
 refine zak hc2 ?_
 refine w_r [.m _,.v (.b (lo==1))] ?_
 refine zan rfl rfl ?_
 refine zaa h (fun hc3 h=> ?_) (fun hc3 h=> ?_)
 refine zak hc3 ?_
 refine w_r [.m _,.v (.b (hi==1)),.v (.b (hi==1)),.v (.b (hi==1))] ?_
 refine zcd h (fun hc4 h=> ?_) (fun hc4 h=> ?_)
 refine zx [.v (.b false)] ?_
 replace h:=zq h hr1
 exact zbe h
 refine zg (o:=or1) () h ?_
 exact zcs (bl 34 3)
 refine zak hc3 ?_
 refine w_r [.p,.p,.v (.b false),.v (.b false)] ?_
 refine zax rfl ?_
 refine zg (o:=or1) () h ?_
 exact zcs (bl 34 3)
 intro j1 h
 refine zet ?_
 refine zx [.m _,.v (.b (hi==(-1)))] ?_
 refine zaa h (fun hc5 h=> ?_) (fun hc5 h=> ?_)
 refine zak hc5 ?_
 refine w_r [.p,.p,.p,.p,.p] ?_
 refine w_r [.p,.p,.p,.p,.p] ?_
 refine w_r [.p,.v (.b true),.m _] ?_
 exact zbe h
 refine zak hc5 ?_
 refine w_r [.m _,.v (.b (decide (hi≥1)))] ?_
 refine zan rfl rfl ?_
 refine zaa h (fun hc6 h=> ?_) (fun hc6 h=> ?_)
 refine zak hc6 ?_
 refine w_r [.m _,.v (.b (decide (hi≤16))),.v (.b (decide (hi≤16)))] ?_
 refine zan rfl rfl ?_
 refine zaa h (fun hc7 h=> ?_) (fun hc7 h=> ?_)
 refine zak hc7 ?_
 refine w_r [.m _,.m _,.v (.b (decide (hi≥lo))),.v (.b (decide (hi≥lo))),.v (.b (decide (hi≥lo)))] ?_
 refine w_r [.m _] ?_
 exact zbe h
 refine zak hc7 ?_
 refine w_r [.p,.p,.p,.v (.b false),.v (.b false)] ?_
 refine w_r [.m _] ?_
 exact zbe h
 refine zak hc6 ?_
 refine w_r [.p,.p,.v (.b false),.m _,.p] ?_
 refine w_r [.p,.p,.v (.b false),.v (.b false),.m _] ?_
 exact zbe h
def z5j (s:BS):Option Tr:=
 (bif (decide (s=(0#256))) then(some zz) else(some (Tr.mk 2 s 0 0 [])))
theorem ent76:Ent Tryd.prog 76:=enters_of Tryd.func76 (by kernel_rfl) rfl
theorem rxof_sh (s:BS)(r:Tr)(h:z5j s=some r):Pure (ITP Tryd.prog) Tryd.prog 76 [.A (s:BS)] (.A (r:Tr)):=by
 unfold z5j at h
 refine zby 8 mix Tryd.func76 ent76 ?_
 refine zi (zc ?_)
 refine zcb (a:= .ptr 0 0) (σ'':=(.B [(27,(Enc.cells (s:BS)))])) ?_
 refine zcb (a:= .ptr 1 0) (σ'':=(.B [(27,(Enc.cells (s:BS))),(33,[.u 0,.raw (.int .u64 0),.raw (.int .u64 0),.raw (.int .u64 0),.raw (.int .u64 0),.i 0,.i 0,.list 0 [] .full])])) ?_
 refine zi ?_
 refine zx [.v (.A (s:BS)),.v (.A (0#256:BS))] ?_
 refine zua (.b (decide (s=(0#256)))) rfl rfl rfl (zni s (0#256) rfl rfl rfl) (by dsimp only[zy,List.set]) ?_
 refine zcd h (fun hc1 h=> ?_) (fun hc1 h=> ?_)
 refine zi (zc ?_)
 refine zey (.A (zz:Tr)) (a0:=(zce zz .full)) rfl rfl rfl (by kernel_rfl) (zo _ _) (by dsimp only[zy,List.set]) ?_
 refine zco 8 (.B [(27,(Enc.cells (s:BS))),(33,(Enc.cells (zz:Tr)))]) ?_
 exact zaq (fun(r:Tr)=> .A (r:Tr)) h (.A (zz:Tr))
 refine zx [.v (.A (s:BS))] ?_
 refine zey (.A ((Tr.mk 2 s 0 0 []):Tr)) (a0:=(zce (Tr.mk 2 s 0 0 []) .full)) rfl rfl rfl (by kernel_rfl) (zo _ _) (by dsimp only[zy,List.set]) ?_
 refine zco 8 (.B [(27,(Enc.cells (s:BS))),(33,(Enc.cells ((Tr.mk 2 s 0 0 []):Tr)))]) ?_
 exact zaq (fun(r:Tr)=> .A (r:Tr)) h (.A ((Tr.mk 2 s 0 0 []):Tr))
def znc (s:BS)(c:Int):Option Bool:=
 (chk (0≤(zge .u8 c 6)∧(zge .u8 c 6)<4) (chk (0≤(zmx .u8 c 63)) (some ((zmx .u64 (zge .u64 (wd s (Int.toNat (zge .u8 c 6))) (zmx .u8 c 63)) 1)==1))))
theorem ent50:Ent Tryd.prog 50:=enters_of Tryd.func50 (by kernel_rfl) rfl
theorem zsp (s:BS)(c:Int)(r:Bool)(h:znc s c=some r):Pure (ITP Tryd.prog) Tryd.prog 50 [.A (s:BS),.raw (.int .u8 c)] (.raw (.bool r)):=by
 unfold znc at h
 refine zby 12 mix Tryd.func50 ent50 ?_
 refine zi (zc ?_)
 refine zcb (a:= .ptr 0 0) (σ'':=(.B [(27,(Enc.cells (s:BS)))])) ?_
 refine w_o (a:= .b false) ?_
 refine zx [.m _] ?_
 refine w_o (a:= .u (zge .u8 c 6)) (h:=zbb (qii (by decide) rfl rfl rfl)) ?_
 obtain⟨g1,h⟩:=zp h
 refine w_o (a:= .ptr 0 (0+Int.toNat (zge .u8 c 6)*1)) (h:=zbb (zko g1 rfl rfl rfl rfl rfl)) ?_
 refine w_o (a:= .raw (.int .u64 (wd s (Int.toNat (zge .u8 c 6))))) (h:=zbb (zom s (by omega) rfl rfl rfl)) ?_
 refine w_r [.m _,.v (.u (zmx .u8 c 63))] ?_
 obtain⟨g2,h⟩:=zp h
 refine w_o (a:= .raw (.int .u64 (zge .u64 (wd s (Int.toNat (zge .u8 c 6))) (zmx .u8 c 63)))) (h:=zbb (qii g2 rfl rfl rfl)) ?_
 refine w_r [.v (.raw (.int .u64 (zmx .u64 (zge .u64 (wd s (Int.toNat (zge .u8 c 6))) (zmx .u8 c 63)) 1))),.v (.b ((zmx .u64 (zge .u64 (wd s (Int.toNat (zge .u8 c 6))) (zmx .u8 c 63)) 1)==1)),.m _] ?_
 exact zbe h
end Go.Ab
