/-
  Runs of operations in one step; calls, ends and single steps whose side conditions are found by themselves.
-/
import Derived.Test.YtfkkellnlmjenaaGreatZdCq
set_option linter.unusedSimpArgs false
set_option linter.unusedVariables false
namespace Go.Ab
open Go Go.RowKit Go.Fwd
def bl:Nat→Nat→List Bool
 |0,_=>[]
 |n+1,m=>(m%2==1)::bl n (m/2)
section
variable {IT:IterP} {P:Program} {W:Owed} {ops ops0:Array Oper} {Q:List AV→St→Prop} {K:List AV→Prop} {o:Oper} {l:List Oper} {S S':List AV} {σ σ' σ'':St} {a:AV} {kb:Nat} {b:Bool} {c:Option Bool}
theorem w_o (k:zcz IT P W ops Q l S' σ')(hg:o.guard=none:=by exact rfl)(hc:zdo S o=none:=by exact rfl)(hy:zei S o=none:=by exact rfl)(h:aop P (zeg S) σ o=some (a,σ'):=by exact rfl)(hS:zh S o.dst a=S':=by dsimp only[zh,List.set]):zcz IT P W ops Q (o::l) S σ:=
 zbm hg hc hy h hS k
theorem zbz (k:zcz IT P W ops Q l S' σ'')(hg:o.guard=none:=by exact rfl)(hc:zdo S o=none:=by exact rfl)(hy:zei S o=none:=by exact rfl)(h:aop P (zeg S) σ o=some (a,σ'):=by exact rfl)(hS:zh S o.dst a=S':=by dsimp only[zh,List.set])(hσ:σ'=σ'':=by exact rfl):zcz IT P W ops Q (o::l) S σ:=
 zfp hg hc hy h hS hσ k
theorem zge (k:zcz IT P W ops Q l S' σ)(hg:o.guard=some (kb,b):=by exact rfl)(hk:zgw ops S kb=some c:=by exact rfl)(hcb:c≠some b:=by decide)(hS:zh S o.dst (.raw undef)=S':=by dsimp only[zh,List.set]):zcz IT P W ops Q (o::l) S σ:=
 zv hg hk hcb hS k
theorem h_o (k:ahead IT P ops σ K l S')(hd:(o.dst.all fun d=>decide (d<S.length))=true:=by exact rfl)(hg:o.guard=none:=by exact rfl)(hc:zdo S o=none:=by exact rfl)(h:qop P (zeg S) σ o=some a:=by exact rfl)(hS:zh S o.dst a=S':=by dsimp only[zh,List.set]):ahead IT P ops σ K (o::l) S:=
 z6r hd hg hc h hS k
end
theorem zpx {IT:IterP} {P:Program} {W:Owed} {ops ops0:Array Oper} {K:List AV→St→Prop} {i:Nat} {o:Oper} {S:List AV} {σ:St} (hops:ops=ops0)(ho:ops0.toList[i]? =some o)(h:zcz IT P W ops K [o] S σ):z0l IT P W ops K i S σ:=
 aopAt_s hops (by rw[←ho,Array.getElem?_toList]) h
def upS:List (Option (Nat×AV))→List Bool→List (Nat×AV)
 |some q::ps,true::bs=>q::upS ps bs
 |none::ps,true::bs=>upS ps bs
 |_::ps,false::bs=>upS ps bs
 |_,_=>[]
def aN (IT:IterP)(P:Program)(W:Owed)(ops:Array Oper)(FIN:List AV→St→Prop)(S0:List AV)(ps:List (Option (Nat×AV)))(n k m:Nat)(σ:St):Prop:=
 zru IT P W ops FIN k ⟨bl n m⟩ (zac S0 (upS ps (bl n m))) σ
section
variable {IT:IterP} {P:Program} {W:Owed} {ops ops0:Array Oper} {FIN:List AV→St→Prop} {S0 L S:List AV} {ps PL:List (Option (Nat×AV))} {n k m m':Nat} {σ:St}
theorem aN_n (hops:ops=ops0)(hS:S0=L)(hps:ps=PL)(is:List Nat)
 (h: ∀i∈is,z0l IT P W ops (fun S σ=>zru IT P W ops FIN k ⟨(bl n m).set i true⟩ S σ) i S σ)
 (hr:Region.ready .any ops0 ⟨bl n m⟩=is:=by kernel_rfl) (hne:is≠[]:=by decide) (e:zac L (upS PL (bl n m))=S:=by dsimp only[zac,List.foldl,List.set,upS,bl,Nat.reduceMod,Nat.reduceDiv,Nat.reduceBEq]):aN IT P W ops FIN S0 ps n (k+1) m σ:=by
 subst hS hps e
 exact aany_n hops is hr hne h
theorem aN_0 (hops:ops=ops0)(hS:S0=L)(hps:ps=PL)(h:FIN S σ)(hr:Region.ready .any ops0 ⟨bl n m⟩=[]:=by kernel_rfl)(e:zac L (upS PL (bl n m))=S:=by dsimp only[zac,List.foldl,List.set,upS,bl,Nat.reduceMod,Nat.reduceDiv,Nat.reduceBEq]):aN IT P W ops FIN S0 ps n 0 m σ:=by
 subst hS hps e
 exact aany_0 hops hr h
theorem zar {i:Nat} (h:aN IT P W ops FIN S0 ps n k m' σ)(hS:S0=L)(hps:ps=PL)(hb:(bl n m).set i true=bl n m':=by kernel_rfl)(e:zac L (upS PL (bl n m'))=S:=by kernel_rfl):zru IT P W ops FIN k ⟨(bl n m).set i true⟩ S σ:=by
 subst hS hps e
 rw[hb];exact h
theorem znj {k':Nat} {l:Array Bool} (h:aN IT P W ops FIN S0 ps n k 0 σ)(hps:ps=PL)(hk:k=k':=by kernel_rfl)(hb:(⟨bl n 0⟩:Array Bool)=l:=by kernel_rfl)(e:upS PL (bl n 0)=[]:=by kernel_rfl):zru IT P W ops FIN k' l S0 σ:=by
 subst hps hk hb
 have h':zru IT P W ops FIN k ⟨bl n 0⟩ (zac S0 (upS ps (bl n 0))) σ:=h
 rw[e] at h';exact h'
end
@[reducible] def AV.i (x:Int):AV:= .raw (.int .i64 x)
@[reducible] def AV.u (x:Int):AV:= .raw (.int .u8 x)
@[reducible] def AV.b (x:Bool):AV:= .raw (.bool x)
@[reducible] def AV.s (x:List UInt8):AV:= .raw (.string (bs x))
def mvOf:Op→Option Nat
 | .move (.tmp k)=>some k
 | .assign (.tmp k)=>some k
 |_=>none
section
variable {IT:IterP} {P:Program} {W:Owed} {ops ops0:Array Oper} {Q:List AV→St→Prop} {K:List AV→Prop} {o:Oper} {l:List Oper} {S S':List AV} {σ σ' σ'':St} {a:AV} {k:Nat}
theorem zxz (ho:mvOf o.op=some k)(hv:S[k]? =some a):zdo S o=none∧zei S o=none∧qop P (zeg S) σ o=some a:=by
 have h:o.op= .move (.tmp k)∨o.op= .assign (.tmp k):=by
  unfold mvOf at ho
  split at ho<;>cases ho
  ·rename_i h;exact .inl h
  ·rename_i h;exact .inr h
 rcases h with h|h<;>simp[zdo,zei,qop,h,zeg,hv]
theorem zab (kk:zcz IT P W ops Q l S' σ)(ho:mvOf o.op=some k:=by exact rfl)(hg:o.guard=none:=by exact rfl)(hv:S[k]? =some a:=by exact rfl)(hS:zh S o.dst a=S':=by dsimp only[zh,List.set]):zcz IT P W ops Q (o::l) S σ:=by
 obtain⟨h1,h2,h3⟩:=zxz (P:=P) (σ:=σ) ho hv
 exact zbm hg h1 h2 (zbh h3) hS kk
theorem zhd (kk:ahead IT P ops σ K l S')(ho:mvOf o.op=some k:=by exact rfl)(hd:(o.dst.all fun d=>decide (d<S.length))=true:=by exact rfl)(hg:o.guard=none:=by exact rfl)(hv:S[k]? =some a:=by exact rfl)(hS:zh S o.dst a=S':=by dsimp only[zh,List.set]):ahead IT P ops σ K (o::l) S:=by
 obtain⟨h1,h2,h3⟩:=zxz (P:=P) (σ:=σ) ho hv
 exact z6r hd hg h1 h3 hS kk
def exOf:Op→Option (Nat×Nat)
 | .extract (.tmp k) i=>some (k,i)
 |_=>none
theorem zyc {i:Nat} {vs:List AV} (ho:exOf o.op=some (k,i))(hv:S[k]? =some (.tup vs))(hi:vs[i]? =some a):zdo S o=none∧zei S o=none∧qop P (zeg S) σ o=some a:=by
 have h:o.op= .extract (.tmp k) i:=by
  unfold exOf at ho
  split at ho<;>cases ho
  rename_i h;exact h
 simp[zdo,zei,qop,h,zeg,hv,hi]
theorem zol {i:Nat} {vs:List AV} (kk:zcz IT P W ops Q l S' σ)(ho:exOf o.op=some (k,i):=by exact rfl)(hg:o.guard=none:=by exact rfl)(hv:S[k]? =some (.tup vs):=by exact rfl)(hi:vs[i]? =some a:=by exact rfl)(hS:zh S o.dst a=S':=by dsimp only[zh,List.set]):zcz IT P W ops Q (o::l) S σ:=by
 obtain⟨h1,h2,h3⟩:=zyc (P:=P) (σ:=σ) ho hv hi
 exact zbm hg h1 h2 (zbh h3) hS kk
theorem h_ex {i:Nat} {vs:List AV} (kk:ahead IT P ops σ K l S')(ho:exOf o.op=some (k,i):=by exact rfl)(hd:(o.dst.all fun d=>decide (d<S.length))=true:=by exact rfl)(hg:o.guard=none:=by exact rfl)(hv:S[k]? =some (.tup vs):=by exact rfl)(hi:vs[i]? =some a:=by exact rfl)(hS:zh S o.dst a=S':=by dsimp only[zh,List.set]):ahead IT P ops σ K (o::l) S:=by
 obtain⟨h1,h2,h3⟩:=zyc (P:=P) (σ:=σ) ho hv hi
 exact z6r hd hg h1 h3 hS kk
end
section
variable {P:Program} {fn:Func} {S:List AV} {σ:St}
theorem zbg {y r:Bool} (hr:some y=some r)(h:zbo P fn σ S=some (.raw (.bool y)):=by exact rfl):zyx P fn (.raw (.bool r)) .ret S σ:=zdi (fun(r:Bool)=>(.raw (.bool r):AV)) hr h rfl rfl
theorem zdr {k:IntKind} {y r:Int} (hr:some y=some r)(h:zbo P fn σ S=some (.raw (.int k y)):=by exact rfl):zyx P fn (.raw (.int k r)) .ret S σ:=zdi (fun(r:Int)=>(.raw (.int k r):AV)) hr h rfl rfl
end
section
variable {IT:IterP} {P:Program} {W:Owed} {ops ops0:Array Oper} {FIN:List AV→St→Prop} {S0 L S:List AV} {ps PL:List (Option (Nat×AV))} {n k m m':Nat} {σ:St} {o o' o'':Oper}
theorem zjh (hops:ops=ops0)(hS:S0=L)(hps:ps=PL)(i:Nat)(h:zcz IT P W ops (fun S σ=>zru IT P W ops FIN k ⟨(bl n m).set i true⟩ S σ) [o] S σ)
 (ho:ops0.toList[i]? =some o:=by exact rfl) (hr:Region.ready .any ops0 ⟨bl n m⟩=[i]:=by kernel_rfl) (e:zac L (upS PL (bl n m))=S:=by dsimp only[zac,List.foldl,List.set,upS,bl,Nat.reduceMod,Nat.reduceDiv,Nat.reduceBEq]):aN IT P W ops FIN S0 ps n (k+1) m σ:=
 aN_n hops hS hps [i] (all_cons (zpx hops ho h) z5h) hr (by simp) e
theorem zqq (hops:ops=ops0)(hS:S0=L)(hps:ps=PL)(i j:Nat)(h:zcz IT P W ops (fun S σ=>zru IT P W ops FIN k ⟨(bl n m).set i true⟩ S σ) [o] S σ)(h':zcz IT P W ops (fun S σ=>zru IT P W ops FIN k ⟨(bl n m).set j true⟩ S σ) [o'] S σ)
 (ho:ops0.toList[i]? =some o:=by exact rfl) (ho':ops0.toList[j]? =some o':=by exact rfl) (hr:Region.ready .any ops0 ⟨bl n m⟩=[i,j]:=by kernel_rfl) (e:zac L (upS PL (bl n m))=S:=by dsimp only[zac,List.foldl,List.set,upS,bl,Nat.reduceMod,Nat.reduceDiv,Nat.reduceBEq]):aN IT P W ops FIN S0 ps n (k+1) m σ:=
 aN_n hops hS hps [i,j] (all_cons (zpx hops ho h) (all_cons (zpx hops ho' h') z5h)) hr (by simp) e
theorem aN_3 (hops:ops=ops0)(hS:S0=L)(hps:ps=PL)(i j q:Nat)(h:zcz IT P W ops (fun S σ=>zru IT P W ops FIN k ⟨(bl n m).set i true⟩ S σ) [o] S σ)(h':zcz IT P W ops (fun S σ=>zru IT P W ops FIN k ⟨(bl n m).set j true⟩ S σ) [o'] S σ)(h'':zcz IT P W ops (fun S σ=>zru IT P W ops FIN k ⟨(bl n m).set q true⟩ S σ) [o''] S σ)
 (ho:ops0.toList[i]? =some o:=by exact rfl) (ho':ops0.toList[j]? =some o':=by exact rfl) (ho'':ops0.toList[q]? =some o'':=by exact rfl) (hr:Region.ready .any ops0 ⟨bl n m⟩=[i,j,q]:=by kernel_rfl) (e:zac L (upS PL (bl n m))=S:=by dsimp only[zac,List.foldl,List.set,upS,bl,Nat.reduceMod,Nat.reduceDiv,Nat.reduceBEq]):aN IT P W ops FIN S0 ps n (k+1) m σ:=
 aN_n hops hS hps [i,j,q] (all_cons (zpx hops ho h) (all_cons (zpx hops ho' h') (all_cons (zpx hops ho'' h'') z5h))) hr (by simp) e
end
def bzc:Bool→Nat→List Nat→List Nat
 |true,i,l=>i::l
 |false,_,l=>l
def bz:Nat→Nat→Nat→List Nat
 |_,0,_=>[]
 |i,n+1,m=>bzc (m%2==1) i (bz (i+1) n (m/2))
section
variable {IT:IterP} {P:Program} {W:Owed} {k0:Nat} {ops:Array Oper} {Q:List AV→St→Prop} {o:Oper} {l:List Oper} {S S':List AV} {σ σ':St} {f:FuncId} {args args':List AV} {r:AV}
theorem zfj {c:Code} {Q:AQ} (h:awp IT P W k0 c Q S' σ)(hS:S=S':=by dsimp only[zac,zag,List.foldl,List.set,bz,bzc,Nat.reduceMod,Nat.reduceDiv,Nat.reduceBEq,Nat.reduceAdd]):awp IT P W k0 c Q S σ:=zah hS rfl h
theorem zdl {n0:Nat} (m:List Bool)(h:fgM m S=S':=by kernel_rfl)(hσ:σ'=σ:=by kernel_rfl):Wk n0 S σ S' σ':=zct m h hσ
end
section
variable {P:Program} {ρ:Operand→AV} {σ:St} {o:Oper}
theorem bs_get (l:List UInt8)(i:Nat):(bs l)[i]? =l[i]? :=by
 simp only[bs]
 by_cases h:i<l.length
 ·rw[List.getElem?_eq_getElem h]
  have h2:i<(ByteArray.mk l.toArray).size:=h
  rw[getElem?_pos (ByteArray.mk l.toArray) i h2]
  rfl
 ·rw[List.getElem?_eq_none (by omega)]
  have h2: ¬i<(ByteArray.mk l.toArray).size:=h
  rw[getElem?_neg (ByteArray.mk l.toArray) i h2]
theorem raw_val {v:Value} (h1:o.op.operands.toList.all (fun x=>(zgg (ρ x)).isSome)=true)(h2: ∀cs b,o.op≠ .select cs b)(h3:val? P (execOp (zdh ρ) o)=some (.value v))(h4:zna v=true):zhu P ρ o=some (zjm v):=by
 unfold zhu
 rw[if_pos h1]
 split
 ·rename_i cs b ho;exact absurd ho (h2 cs b)
 ·rw[h3];simp only[h4,if_true]
theorem q_sidx {t:TypeId} {x i:Operand} {l:List UInt8} {k:IntKind} {n:Int} (g:0≤n∧n<l.length)(ho:o.op= .index t x i)(hx:ρ x= .raw (.string (bs l)))(hi:ρ i= .raw (.int k n))(hu:P.underlying t=some .string):
 qop P ρ σ o=some (.raw (.int .u8 (((ix l n).toNat:Nat):Int))):=by
 have hn:n.toNat<l.length:=by omega
 have h3:val? P (execOp (zdh ρ) o)=some (.value (.int .u8 (((ix l n).toNat:Nat):Int))):=by
  have hg:(bs l)[n.toNat]? =some (ix l n):=by
   rw[bs_get,List.getElem?_eq_getElem hn];simp[ix,hn]
  simp only[execOp,ho,zdh,hx,hi,zgg,Option.getD_some,Instr.index,asIntOf,underlying]
  simp only[program,Bind.bind,Pure.pure,Functor.map,Sem.bind,val?,hu,if_pos g.1,hg]
 have h1:o.op.operands.toList.all (fun x=>(zgg (ρ x)).isSome)=true:=by rw[ho];simp[Op.operands,hx,hi,zgg]
 have h4:=raw_val h1 (by rw[ho];intros;simp) h3 rfl
 simp only[qop,ho,hx,hi,h4]
 first|rfl|(simp;rfl)
end
inductive RV where
 |v (a:AV)|m (a:AV)|x (a:AV)|p
def RV.val:RV→AV
 | .v a=>a
 | .m a=>a
 | .x a=>a
 | .p=> .raw undef
def gst (ops:Array Oper)(S:List AV)(o:Oper):Option Bool:=match o.guard with
 |none=>some true
 | some (k,b)=>match zgw ops S k with
  |some (some c)=>some (c==b)
  |some none=>some false
  |none=>none
def oneV (P:Program)(ops:Array Oper)(σ:St)(S:List AV)(o:Oper):RV→Option (AV×St)
 | .v _=>match gst ops S o,zdo S o,zei S o with
  |some true,none,none=>aop P (zeg S) σ o
  |_,_,_=>none
 | .m _=>match gst ops S o with
  | some true=>match mvOf o.op with
   | some k=>match S[k]? with
    |some a=>some (a,σ)
    |none=>none
   |none=>none
  |_=>none
 | .x _=>match gst ops S o with
  | some true=>match exOf o.op with
   | some (k,i)=>match S[k]? with
    | some (.tup vs)=>match vs[i]? with
     |some a=>some (a,σ)
     |none=>none
    |_=>none
   |none=>none
  |_=>none
 | .p=>match gst ops S o with
  |some false=>some (.raw undef,σ)
  |_=>none
def outV (P:Program)(ops:Array Oper)(σ:St):List RV→List Oper→List AV→List (Option (AV×St))
 |x::vs,o::l,S=>oneV P ops σ S o x::outV P ops σ vs l (zh S o.dst x.val)
 |_::_,[],_=>[none]
 |[],_,_=>[]
def putV:List RV→List Oper→List AV→List AV
 |x::vs,o::l,S=>putV vs l (zh S o.dst x.val)
 |_,_,S=>S
def z7u:List RV→List Oper→List Oper
 |_::vs,_::l=>z7u vs l
 |_,l=>l
def expV (σ:St):List RV→List (Option (AV×St))
 |x::vs=>some (x.val,σ)::expV σ vs
 |[]=>[]
section
variable {IT:IterP} {P:Program} {W:Owed} {ops:Array Oper} {Q:List AV→St→Prop} {o:Oper} {l L l':List Oper} {S S':List AV} {σ σ' σ'':St} {a:AV} {k0:Nat}
theorem qix {c:Bool} (h:gst ops S o=some c):o.guard=none∧c=true∨ ∃k b d,o.guard=some (k,b)∧zgw ops S k=some d∧(c=true→d=some b)∧(c=false→d≠some b):=by
 unfold gst at h
 split at h
 ·exact .inl ⟨‹_›,(Option.some.inj h).symm⟩
 ·rename_i k b hg
  split at h
  ·rename_i d hd
   cases h
   refine .inr ⟨k,b,_,hg,hd,fun e=> ?_,fun e=> ?_⟩
   ·rw[beq_iff_eq] at e;rw[e]
   ·intro e';cases e';simp at e
  ·rename_i hd;cases h;exact .inr ⟨k,b,_,hg,hd,nofun,nofun⟩
  ·cases h
theorem z5w (h:gst ops S o=some true)(k:zgp IT P W o S σ fun a σ'=>zcz IT P W ops Q l (zh S o.dst a) σ'):zcz IT P W ops Q (o::l) S σ:=by
 rcases qix h with⟨hg,_⟩|⟨kk,b,d,hg,hd,h1,_⟩
 ·simp only[zcz,hg];exact k
 ·simp only[zcz,hg];exact⟨d,hd,by rw[h1 rfl,if_pos rfl];exact k⟩
theorem w_one {x:RV} (h:oneV P ops σ S o x=some (x.val,σ))(k:zcz IT P W ops Q l (zh S o.dst x.val) σ):zcz IT P W ops Q (o::l) S σ:=by
 cases x with
 | v a=>
  simp only[oneV] at h
  split at h
  ·rename_i h1 h2 h3
   refine z5w h1 ?_
   simp only[zgp,h2,h3]
   exact .inl ⟨_,_,.inl h,k⟩
  ·cases h
 | m a=>
  simp only[oneV] at h
  split at h
  ·rename_i h1
   split at h
   ·rename_i kk h2
    split at h
    ·rename_i b h3
     obtain⟨q1,q2,q3⟩:=zxz (P:=P) (σ:=σ) h2 h3
     have e:b=a:=congrArg Prod.fst (Option.some.inj h)
     subst e
     refine z5w h1 ?_
     simp only[zgp,q1,q2]
     exact .inl ⟨_,_,.inl (zbh q3),k⟩
    ·cases h
   ·cases h
  ·cases h
 | x a =>
  simp only[oneV] at h
  split at h
  ·rename_i h1
   split at h
   ·rename_i kk i h2
    split at h
    ·rename_i vs h3
     split at h
     ·rename_i b h4
      obtain⟨q1,q2,q3⟩:=zyc (P:=P) (σ:=σ) h2 h3 h4
      have e:b=a:=congrArg Prod.fst (Option.some.inj h)
      subst e
      refine z5w h1 ?_
      simp only[zgp,q1,q2]
      exact .inl ⟨_,_,.inl (zbh q3),k⟩
     ·cases h
    ·cases h
   ·cases h
  ·cases h
 | p=>
  simp only[oneV] at h
  split at h
  ·rename_i h1
   rcases qix h1 with⟨_,e⟩|⟨kk,b,d,hg,hd,_,h2⟩
   ·cases e
   ·exact zv hg hd (h2 rfl) rfl k
  ·cases h
theorem w_r (vs:List RV)(k:zcz IT P W ops Q l' S' σ)(h:outV P ops σ vs l S=expV σ vs:=by exact rfl)(hl:z7u vs l=l':=by dsimp only[z7u,List.toList_toArray,List.drop])(hS:putV vs l S=S':=by dsimp only[putV,RV.val,zh,List.set,List.toList_toArray,List.drop]):zcz IT P W ops Q l S σ:=by
 subst hl hS
 induction vs generalizing l S with
 |nil=>simpa[putV,z7u] using k
 | cons x vs ih=>
  cases l with
  |nil=>simp[outV,expV] at h
  | cons o l=>
   simp only[outV,expV,List.cons.injEq] at h
   exact w_one h.1 (ih h.2 (by simpa[putV,z7u] using k))
theorem zr {id:Nat} {x y:Code} {Q:AQ} (vs:List RV)(k:zcz IT P W ops (zvq (awp IT P W k0 y Q) Q .normal) l' S' σ)(hx:x= .region id ops false:=by exact rfl)(h:outV P ops σ vs ops.toList S=expV σ vs:=by exact rfl)(hl:z7u vs ops.toList=l':=by dsimp only[z7u,List.toList_toArray])(hS:putV vs ops.toList S=S':=by dsimp only[putV,RV.val,zh,List.set,List.toList_toArray]):awp IT P W k0 (.seq x y) Q S σ:=by
 subst hx
 exact zf (zb (w_r vs k h hl hS))
theorem zbj {t b:Bool} (e:t=b)(k:zcz IT P W ops Q l S' σ)(hg:o.guard=none:=by exact rfl)(hc:zdo S o=none:=by exact rfl)(hy:zei S o=none:=by exact rfl)(h:qop P (zeg S) σ o=some (.raw (.bool t)):=by exact rfl)(hS:zh S o.dst (.raw (.bool b))=S':=by dsimp only[zh,List.set]):zcz IT P W ops Q (o::l) S σ:=
 zbm hg hc hy (zbh (zcg h e)) hS k
theorem zpe {x y:Operand} {t:TypeId} {c} {m n:Int} (g: -9223372036854775808≤m+n∧m+n<9223372036854775808)(k:zcz IT P W ops Q l S' σ)(hg:o.guard=none:=by exact rfl)(ho:o.op= .binOp .add t x y c:=by exact rfl)(hx:zeg S x= .raw (.int .i64 m):=by exact rfl)(hv:zeg S y= .raw (.int .i64 n):=by exact rfl)(hS:zh S o.dst (.raw (.int .i64 (m+n)))=S':=by dsimp only[zh,List.set]):zcz IT P W ops Q (o::l) S σ:=
 zbm hg (by simp[zdo,ho]) (by simp[zei,ho]) (zbh (zld ho hx hv rfl g.1 g.2)) hS k
theorem w_sb {x y:Operand} {t:TypeId} {c} {m n:Int} (g: -9223372036854775808≤m-n∧m-n<9223372036854775808)(k:zcz IT P W ops Q l S' σ)(hg:o.guard=none:=by exact rfl)(ho:o.op= .binOp .sub t x y c:=by exact rfl)(hx:zeg S x= .raw (.int .i64 m):=by exact rfl)(hv:zeg S y= .raw (.int .i64 n):=by exact rfl)(hS:zh S o.dst (.raw (.int .i64 (m-n)))=S':=by dsimp only[zh,List.set]):zcz IT P W ops Q (o::l) S σ:=
 zbm hg (by simp[zdo,ho]) (by simp[zei,ho]) (zbh (zgr ho hx hv rfl g.1 g.2)) hS k
theorem zvo {α:Type} [Enc α] {t e:TypeId} {x i:Operand} {u:α} {xs:List α} {st:Room} {kd:IntKind} {n:Int} (hu:ix xs n=u)(g:0≤n∧n<xs.length)(k:zcz IT P W ops Q l S' σ)(hg:o.guard=none:=by exact rfl)(ho:o.op= .indexAddr t x i:=by exact rfl)(hx:zeg S x= .list xs.length (Enc.cellsL xs) st:=by exact rfl)(hi:zeg S i= .raw (.int kd n):=by exact rfl)(ht:P.underlying t=some (.slice e):=by exact rfl)(hs:zdq P e=some (Enc.sz α):=by exact rfl)
 (hS:zh S o.dst (.iptr (Enc.cells u++Enc.cellsL (xs.drop (n.toNat+1))))=S':=by dsimp only[zh,List.set]):zcz IT P W ops Q (o::l) S σ:=by
 subst hu
 exact zbm hg (by simp[zdo,ho]) (by simp[zei,ho]) (zbh (ztq g ho hx hi ht hs)) hS k
theorem zcx {t:TypeId} {x y:Operand} {s:Nat} {v:AV} {bx:TypeId×List AV} (n:Nat)(σ'':St)(k:zcz IT P W ops Q l S' σ'')(hg:o.guard=none:=by exact rfl)(ho:o.op= .store t x y:=by exact rfl)(hx:zeg S x= .ptr s 0:=by exact rfl)(hv:zeg S y=v:=by exact rfl)(hb:σ.boxes[s]? =some bx:=by exact rfl)(hn:zdq P t=some n:=by exact rfl)(hl:bx.2.length=n:=by exact rfl)(hc:zkx v=true:=by exact rfl)(hvl:(cellsOf v).length=n:=by exact rfl)(h0:0<n:=by decide)
 (hS:zh S o.dst (.raw undef)=S':=by dsimp only[zh,List.set]) (hσ:{σ with boxes:=σ.boxes.set s (bx.1,cellsOf v)}=σ'':=by exact rfl):zcz IT P W ops Q (o::l) S σ:=
 zfp hg (by simp[zdo,ho]) (by simp[zei,ho]) (zaz ho hx hv hb hn hl hc hvl h0) hS hσ k
theorem zcq {f:FuncId} {args args':List AV} {r:AV} (hp:Pure IT P f args' r)(k:zcz IT P W ops Q l S' σ)(hg:o.guard=none:=by exact rfl)(hc:zdo S o=some (f,args):=by exact rfl)
 (hs:stripL args=args':=by repeat(first|exact rfl|refine zd (by first|exact zaj (zl (Enc.clo _))|exact zet (Enc.cloL _)|exact zvm (Enc.cloL _) Enc.z|exact rfl) ?_))
 (hok:zaa 0 args=true:=by repeat(first|exact rfl|refine za (by first|exact zn _ _ (zl (Enc.clo _))|exact zan (Enc.cloL _)|exact zcf (Enc.cloL _)|exact rfl) ?_)) (hS:zh S o.dst r=S':=by dsimp only[zh,List.set]):zcz IT P W ops Q (o::l) S σ:=
 zbr hp hg hc hs hok hS k
theorem h_ix {α:Type} [Enc α] {K:List AV→Prop} {t e:TypeId} {x i:Operand} {u:α} {xs:List α} {st:Room} {kd:IntKind} {n:Int} (hu:ix xs n=u)(g:0≤n∧n<xs.length)(k:ahead IT P ops σ K l S')(hd:(o.dst.all fun d=>decide (d<S.length))=true:=by exact rfl)(hg:o.guard=none:=by exact rfl)(ho:o.op= .indexAddr t x i:=by exact rfl)(hx:zeg S x= .list xs.length (Enc.cellsL xs) st:=by exact rfl)(hi:zeg S i= .raw (.int kd n):=by exact rfl)(ht:P.underlying t=some (.slice e):=by exact rfl)(hs:zdq P e=some (Enc.sz α):=by exact rfl)
 (hS:zh S o.dst (.iptr (Enc.cells u++Enc.cellsL (xs.drop (n.toNat+1))))=S':=by dsimp only[zh,List.set]):ahead IT P ops σ K (o::l) S:=by
 subst hu
 exact z6r hd hg (by simp[zdo,ho]) (ztq g ho hx hi ht hs) hS k
theorem qni {K:List AV→Prop} {f:FuncId} {args args':List AV} {r:AV} (hp:Pure IT P f args' r)(k:ahead IT P ops σ K l S')(hd:(o.dst.all fun d=>decide (d<S.length))=true:=by exact rfl)(hg:o.guard=none:=by exact rfl)(hc:zdo S o=some (f,args):=by exact rfl)
 (hs:stripL args=args':=by repeat(first|exact rfl|refine zd (by first|exact zaj (zl (Enc.clo _))|exact zet (Enc.cloL _)|exact zvm (Enc.cloL _) Enc.z|exact rfl) ?_))
 (hok:zaa 0 args=true:=by repeat(first|exact rfl|refine za (by first|exact zn _ _ (zl (Enc.clo _))|exact zan (Enc.cloL _)|exact zcf (Enc.cloL _)|exact rfl) ?_)) (hS:zh S o.dst r=S':=by dsimp only[zh,List.set]):ahead IT P ops σ K (o::l) S:=
 zjn hp hd hg hc hs hok hS k
end
theorem strip_t {vs us:List AV} (h:stripL vs=us):zcv (.tup vs)= .tup us:=by rw[zcv,h]
theorem strip_a {vs us:List AV} (h:stripL vs=us):zcv (.agg vs)= .agg us:=by rw[zcv,h]
theorem qlf {k:Nat} {vs:List AV} (h:zaa k vs=true):zbk k (.tup vs)=true:=h
theorem qnk {k:Nat} {vs:List AV} (h:zaa k vs=true):zbk k (.agg vs)=true:=h
theorem zax {P:Program} {fn:Func} {S:List AV} {σ:St} {R:Type} {y r:R} (E:R→AV)(hr:some y=some r)(a:AV)(h:zbo P fn σ S=some a:=by exact rfl)
 (hok:zbk 0 a=true:=by first|exact zn _ _ (zl (Enc.clo _))|exact zan (Enc.cloL _)|exact zcf (Enc.cloL _)|((first|refine qlf ?_|refine qnk ?_);repeat(first|exact rfl|refine za (by first|exact zn _ _ (zl (Enc.clo _))|exact zan (Enc.cloL _)|exact zcf (Enc.cloL _)|exact rfl) ?_)))
 (hs:zcv a=E y:=by first|exact zet (Enc.cloL _)|exact zvm (Enc.cloL _) Enc.z|exact zaj (zl (Enc.clo _))|((first|refine strip_t ?_|refine strip_a ?_);repeat(first|exact rfl|refine zd (by first|exact zaj (zl (Enc.clo _))|exact zet (Enc.cloL _)|exact zvm (Enc.cloL _) Enc.z|exact rfl) ?_))):zyx P fn (E r) .ret S σ:=
 zdi E hr h hok hs
theorem zci {IT:IterP} {P:Program} {W:Owed} {k0:Nat} {α:Type} {c:Bool} {A B:Option α} {r:α} {d:Operand} {x y:Code} {Q:AQ} {S:List AV} {σ:St} (h:(bif c then A else B)=some r)(kt:c=true→A=some r→awp IT P W k0 x Q S σ)(kf:c=false→B=some r→awp IT P W k0 y Q S σ)(hc:zeg S d= .raw (.bool c):=by exact rfl):awp IT P W k0 (.cond d x y) Q S σ:=
 zae h (fun e h=>zbw e hc (kt e h)) (fun e h=>zbt e hc (kf e h))
@[reducible] def AV.L {α:Type} [Enc α] (l:List α):AV:= .list l.length (Enc.cellsL l) .none
@[reducible] def AV.F {α:Type} [Enc α] (l:List α):AV:= .list l.length (Enc.cellsL l) .full
@[reducible] def AV.O {α:Type} [Enc α] (l:List α):AV:=zcm l.length (Enc.cellsL l)
@[reducible] def AV.A {α:Type} [Enc α] (x:α):AV:= .agg (Enc.cells x)
@[reducible] def St.B (l:List (TypeId×List AV)):St:=⟨l,[],[],0,false⟩
theorem zbd {P:Program} {f:FuncId} {fn:Func} {c:Code} {args S':List AV} {r:AV} (n:Nat)(hmix:P.follows .mixedOrders=true)(hf:P.funcs[f]? =some fn)(he:Ent P f)(h:awp (ITP P) P none 0 c (zyx P fn r) S' (St.B []))(hb:fn.body=some c:=by exact rfl)(hn:Nat.sub fn.ntmps args.length=n:=by exact rfl)(hS:args++List.replicate n (.raw undef)=S':=by dsimp only[List.replicate,List.cons_append,List.nil_append]):Pure (ITP P) P f args r:=
 zgk hmix hf hb he (by unfold zbf;rw[show fn.ntmps-args.length=n from hn,hS];exact h)
end Go.Ab
