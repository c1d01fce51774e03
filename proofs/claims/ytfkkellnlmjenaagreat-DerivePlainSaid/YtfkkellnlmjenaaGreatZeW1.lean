/-
  rx, rxnorm: functions without loops.
-/
import Derived.Test.YtfkkellnlmjenaaGreatZdQq
set_option linter.unusedSimpArgs false
set_option linter.unusedVariables false
namespace Go.Ab
open Go Go.RowKit Go.Fwd
section
variable {P:Program} {ρ:Operand→AV} {σ:St} {o:Oper}
theorem bs_get (l:List UInt8)(i:Nat):(bs l)[i]? =l[i]? :=by
 simp only[bs]
 by_cases h:i<l.length
 ·rw[List.getElem?_eq_getElem h]
  have h2:i<(ByteArray.mk l.toArray).size:=h
  rw[getElem?_pos (ByteArray.mk l.toArray) i h2]
  rfl
 ·rw[List.getElem?_eq_none (by omega)]
  have h2: ¬i<(ByteArray.mk l.toArray).size:=h
  rw[getElem?_neg (ByteArray.mk l.toArray) i h2]
theorem raw_val {v:Value} (h1:o.op.operands.toList.all (fun x=>(zgi (ρ x)).isSome)=true)(h2: ∀cs b,o.op≠ .select cs b)(h3:val? P (execOp (zde ρ) o)=some (.value v))(h4:znj v=true):zif P ρ o=some (zjr v):=by
 unfold zif
 rw[if_pos h1]
 split
 ·rename_i cs b ho;exact absurd ho (h2 cs b)
 ·rw[h3];simp only[h4,if_true]
theorem q_sidx {t:TypeId} {x i:Operand} {l:List UInt8} {k:IntKind} {n:Int} (g:0≤n∧n<l.length)(ho:o.op= .index t x i)(hx:ρ x= .raw (.string (bs l)))(hi:ρ i= .raw (.int k n))(hu:P.underlying t=some .string):
 qop P ρ σ o=some (.raw (.int .u8 (((ix l n).toNat:Nat):Int))):=by
 have hn:n.toNat<l.length:=by omega
 have h3:val? P (execOp (zde ρ) o)=some (.value (.int .u8 (((ix l n).toNat:Nat):Int))):=by
  have hg:(bs l)[n.toNat]? =some (ix l n):=by
   rw[bs_get,List.getElem?_eq_getElem hn];simp[ix,hn]
  simp only[execOp,ho,zde,hx,hi,zgi,Option.getD_some,Instr.index,asIntOf,underlying]
  simp only[program,Bind.bind,Pure.pure,Functor.map,Sem.bind,val?,hu,if_pos g.1,hg]
 have h1:o.op.operands.toList.all (fun x=>(zgi (ρ x)).isSome)=true:=by rw[ho];simp[Op.operands,hx,hi,zgi]
 have h4:=raw_val h1 (by rw[ho];intros;simp) h3 rfl
 simp only[qop,ho,hx,hi,h4]
 first|rfl|(simp;rfl)
end
inductive RV where
 |v (a:AV)|m (a:AV)|x (a:AV)|p
def RV.val:RV→AV
 | .v a=>a
 | .m a=>a
 | .x a=>a
 | .p=> .raw undef
def gst (ops:Array Oper)(S:List AV)(o:Oper):Option Bool:=match o.guard with
 |none=>some true
 | some (k,b)=>match zfx ops S k with
  |some (some c)=>some (c==b)
  |some none=>some false
  |none=>none
def oneV (P:Program)(ops:Array Oper)(σ:St)(S:List AV)(o:Oper):RV→Option (AV×St)
 | .v _=>match gst ops S o,zee S o,zek S o with
  |some true,none,none=>aop P (zes S) σ o
  |_,_,_=>none
 | .m _=>match gst ops S o with
  | some true=>match mvOf o.op with
   | some k=>match S[k]? with
    |some a=>some (a,σ)
    |none=>none
   |none=>none
  |_=>none
 | .x _=>match gst ops S o with
  | some true=>match exOf o.op with
   | some (k,i)=>match S[k]? with
    | some (.tup vs)=>match vs[i]? with
     |some a=>some (a,σ)
     |none=>none
    |_=>none
   |none=>none
  |_=>none
 | .p=>match gst ops S o with
  |some false=>some (.raw undef,σ)
  |_=>none
def outV (P:Program)(ops:Array Oper)(σ:St):List RV→List Oper→List AV→List (Option (AV×St))
 |x::vs,o::l,S=>oneV P ops σ S o x::outV P ops σ vs l (zab S o.dst x.val)
 |_::_,[],_=>[none]
 |[],_,_=>[]
def putV:List RV→List Oper→List AV→List AV
 |x::vs,o::l,S=>putV vs l (zab S o.dst x.val)
 |_,_,S=>S
def z6x:List RV→List Oper→List Oper
 |_::vs,_::l=>z6x vs l
 |_,l=>l
def expV (σ:St):List RV→List (Option (AV×St))
 |x::vs=>some (x.val,σ)::expV σ vs
 |[]=>[]
section
variable {IT:IterP} {P:Program} {W:Owed} {ops:Array Oper} {Q:List AV→St→Prop} {o:Oper} {l L l':List Oper} {S S':List AV} {σ σ' σ'':St} {a:AV} {k0:Nat}
theorem qis {c:Bool} (h:gst ops S o=some c):o.guard=none∧c=true∨ ∃k b d,o.guard=some (k,b)∧zfx ops S k=some d∧(c=true→d=some b)∧(c=false→d≠some b):=by
 unfold gst at h
 split at h
 ·exact .inl ⟨‹_›,(Option.some.inj h).symm⟩
 ·rename_i k b hg
  split at h
  ·rename_i d hd
   cases h
   refine .inr ⟨k,b,_,hg,hd,fun e=> ?_,fun e=> ?_⟩
   ·rw[beq_iff_eq] at e;rw[e]
   ·intro e';cases e';simp at e
  ·rename_i hd;cases h;exact .inr ⟨k,b,_,hg,hd,nofun,nofun⟩
  ·cases h
theorem z7n (h:gst ops S o=some true)(k:zgm IT P W o S σ fun a σ'=>zdd IT P W ops Q l (zab S o.dst a) σ'):zdd IT P W ops Q (o::l) S σ:=by
 rcases qis h with⟨hg,_⟩|⟨kk,b,d,hg,hd,h1,_⟩
 ·simp only[zdd,hg];exact k
 ·simp only[zdd,hg];exact⟨d,hd,by rw[h1 rfl,if_pos rfl];exact k⟩
theorem w_one {x:RV} (h:oneV P ops σ S o x=some (x.val,σ))(k:zdd IT P W ops Q l (zab S o.dst x.val) σ):zdd IT P W ops Q (o::l) S σ:=by
 cases x with
 | v a=>
  simp only[oneV] at h
  split at h
  ·rename_i h1 h2 h3
   refine z7n h1 ?_
   simp only[zgm,h2,h3]
   exact .inl ⟨_,_,.inl h,k⟩
  ·cases h
 | m a=>
  simp only[oneV] at h
  split at h
  ·rename_i h1
   split at h
   ·rename_i kk h2
    split at h
    ·rename_i b h3
     obtain⟨q1,q2,q3⟩:=zzb (P:=P) (σ:=σ) h2 h3
     have e:b=a:=congrArg Prod.fst (Option.some.inj h)
     subst e
     refine z7n h1 ?_
     simp only[zgm,q1,q2]
     exact .inl ⟨_,_,.inl (zbu q3),k⟩
    ·cases h
   ·cases h
  ·cases h
 | x a =>
  simp only[oneV] at h
  split at h
  ·rename_i h1
   split at h
   ·rename_i kk i h2
    split at h
    ·rename_i vs h3
     split at h
     ·rename_i b h4
      obtain⟨q1,q2,q3⟩:=z9l (P:=P) (σ:=σ) h2 h3 h4
      have e:b=a:=congrArg Prod.fst (Option.some.inj h)
      subst e
      refine z7n h1 ?_
      simp only[zgm,q1,q2]
      exact .inl ⟨_,_,.inl (zbu q3),k⟩
     ·cases h
    ·cases h
   ·cases h
  ·cases h
 | p=>
  simp only[oneV] at h
  split at h
  ·rename_i h1
   rcases qis h1 with⟨_,e⟩|⟨kk,b,d,hg,hd,_,h2⟩
   ·cases e
   ·exact qpy hg hd (h2 rfl) rfl k
  ·cases h
theorem w_r (vs:List RV)(k:zdd IT P W ops Q l' S' σ)(h:outV P ops σ vs l S=expV σ vs:=by exact rfl)(hl:z6x vs l=l':=by dsimp only[z6x,List.toList_toArray,List.drop])(hS:putV vs l S=S':=by dsimp only[putV,RV.val,zab,List.set,List.toList_toArray,List.drop]):zdd IT P W ops Q l S σ:=by
 subst hl hS
 induction vs generalizing l S with
 |nil=>simpa[putV,z6x] using k
 | cons x vs ih=>
  cases l with
  |nil=>simp[outV,expV] at h
  | cons o l=>
   simp only[outV,expV,List.cons.injEq] at h
   exact w_one h.1 (ih h.2 (by simpa[putV,z6x] using k))
theorem zo {id:Nat} {x y:Code} {Q:AQ} (vs:List RV)(k:zdd IT P W ops (zwe (awp IT P W k0 y Q) Q .normal) l' S' σ)(hx:x= .region id ops false:=by exact rfl)(h:outV P ops σ vs ops.toList S=expV σ vs:=by exact rfl)(hl:z6x vs ops.toList=l':=by dsimp only[z6x,List.toList_toArray])(hS:putV vs ops.toList S=S':=by dsimp only[putV,RV.val,zab,List.set,List.toList_toArray]):awp IT P W k0 (.seq x y) Q S σ:=by
 subst hx
 exact zf (zb (w_r vs k h hl hS))
theorem zbe {t b:Bool} (e:t=b)(k:zdd IT P W ops Q l S' σ)(hg:o.guard=none:=by exact rfl)(hc:zee S o=none:=by exact rfl)(hy:zek S o=none:=by exact rfl)(h:qop P (zes S) σ o=some (.raw (.bool t)):=by exact rfl)(hS:zab S o.dst (.raw (.bool b))=S':=by dsimp only[zab,List.set]):zdd IT P W ops Q (o::l) S σ:=
 zwa hg hc hy (zbu (zcj h e)) hS k
theorem zql {x y:Operand} {t:TypeId} {c} {m n:Int} (g: -9223372036854775808≤m+n∧m+n<9223372036854775808)(k:zdd IT P W ops Q l S' σ)(hg:o.guard=none:=by exact rfl)(ho:o.op= .binOp .add t x y c:=by exact rfl)(hx:zes S x= .raw (.int .i64 m):=by exact rfl)(hv:zes S y= .raw (.int .i64 n):=by exact rfl)(hS:zab S o.dst (.raw (.int .i64 (m+n)))=S':=by dsimp only[zab,List.set]):zdd IT P W ops Q (o::l) S σ:=
 zwa hg (by simp[zee,ho]) (by simp[zek,ho]) (zbu (zmr ho hx hv rfl g.1 g.2)) hS k
theorem w_sb {x y:Operand} {t:TypeId} {c} {m n:Int} (g: -9223372036854775808≤m-n∧m-n<9223372036854775808)(k:zdd IT P W ops Q l S' σ)(hg:o.guard=none:=by exact rfl)(ho:o.op= .binOp .sub t x y c:=by exact rfl)(hx:zes S x= .raw (.int .i64 m):=by exact rfl)(hv:zes S y= .raw (.int .i64 n):=by exact rfl)(hS:zab S o.dst (.raw (.int .i64 (m-n)))=S':=by dsimp only[zab,List.set]):zdd IT P W ops Q (o::l) S σ:=
 zwa hg (by simp[zee,ho]) (by simp[zek,ho]) (zbu (zgz ho hx hv rfl g.1 g.2)) hS k
theorem zwc {α:Type} [Enc α] {t e:TypeId} {x i:Operand} {u:α} {xs:List α} {st:Room} {kd:IntKind} {n:Int} (hu:ix xs n=u)(g:0≤n∧n<xs.length)(k:zdd IT P W ops Q l S' σ)(hg:o.guard=none:=by exact rfl)(ho:o.op= .indexAddr t x i:=by exact rfl)(hx:zes S x= .list xs.length (Enc.cellsL xs) st:=by exact rfl)(hi:zes S i= .raw (.int kd n):=by exact rfl)(ht:P.underlying t=some (.slice e):=by exact rfl)(hs:zds P e=some (Enc.sz α):=by exact rfl)
 (hS:zab S o.dst (.iptr (Enc.cells u++Enc.cellsL (xs.drop (n.toNat+1))))=S':=by dsimp only[zab,List.set]):zdd IT P W ops Q (o::l) S σ:=by
 subst hu
 exact zwa hg (by simp[zee,ho]) (by simp[zek,ho]) (zbu (z3w g ho hx hi ht hs)) hS k
theorem zcs {t:TypeId} {x y:Operand} {s:Nat} {v:AV} {bx:TypeId×List AV} (n:Nat)(σ'':St)(k:zdd IT P W ops Q l S' σ'')(hg:o.guard=none:=by exact rfl)(ho:o.op= .store t x y:=by exact rfl)(hx:zes S x= .ptr s 0:=by exact rfl)(hv:zes S y=v:=by exact rfl)(hb:σ.boxes[s]? =some bx:=by exact rfl)(hn:zds P t=some n:=by exact rfl)(hl:bx.2.length=n:=by exact rfl)(hc:zlc v=true:=by exact rfl)(hvl:(cellsOf v).length=n:=by exact rfl)(h0:0<n:=by decide)
 (hS:zab S o.dst (.raw undef)=S':=by dsimp only[zab,List.set]) (hσ:{σ with boxes:=σ.boxes.set s (bx.1,cellsOf v)}=σ'':=by exact rfl):zdd IT P W ops Q (o::l) S σ:=
 znz hg (by simp[zee,ho]) (by simp[zek,ho]) (zby ho hx hv hb hn hl hc hvl h0) hS hσ k
theorem zce {f:FuncId} {args args':List AV} {r:AV} (hp:Pure IT P f args' r)(k:zdd IT P W ops Q l S' σ)(hg:o.guard=none:=by exact rfl)(hc:zee S o=some (f,args):=by exact rfl)
 (hs:stripL args=args':=by repeat(first|exact rfl|refine ze (by first|exact zaz (zp (Enc.clo _))|exact zge (Enc.cloL _)|exact z0u (Enc.cloL _) Enc.z|exact rfl) ?_))
 (hok:zu 0 args=true:=by repeat(first|exact rfl|refine za (by first|exact zq _ _ (zp (Enc.clo _))|exact zao (Enc.cloL _)|exact zca (Enc.cloL _)|exact rfl) ?_)) (hS:zab S o.dst r=S':=by dsimp only[zab,List.set]):zdd IT P W ops Q (o::l) S σ:=
 zdk hp hg hc hs hok hS k
theorem h_ix {α:Type} [Enc α] {K:List AV→Prop} {t e:TypeId} {x i:Operand} {u:α} {xs:List α} {st:Room} {kd:IntKind} {n:Int} (hu:ix xs n=u)(g:0≤n∧n<xs.length)(k:ahead IT P ops σ K l S')(hd:(o.dst.all fun d=>decide (d<S.length))=true:=by exact rfl)(hg:o.guard=none:=by exact rfl)(ho:o.op= .indexAddr t x i:=by exact rfl)(hx:zes S x= .list xs.length (Enc.cellsL xs) st:=by exact rfl)(hi:zes S i= .raw (.int kd n):=by exact rfl)(ht:P.underlying t=some (.slice e):=by exact rfl)(hs:zds P e=some (Enc.sz α):=by exact rfl)
 (hS:zab S o.dst (.iptr (Enc.cells u++Enc.cellsL (xs.drop (n.toNat+1))))=S':=by dsimp only[zab,List.set]):ahead IT P ops σ K (o::l) S:=by
 subst hu
 exact h_op hd hg (by simp[zee,ho]) (z3w g ho hx hi ht hs) hS k
theorem z3g {K:List AV→Prop} {f:FuncId} {args args':List AV} {r:AV} (hp:Pure IT P f args' r)(k:ahead IT P ops σ K l S')(hd:(o.dst.all fun d=>decide (d<S.length))=true:=by exact rfl)(hg:o.guard=none:=by exact rfl)(hc:zee S o=some (f,args):=by exact rfl)
 (hs:stripL args=args':=by repeat(first|exact rfl|refine ze (by first|exact zaz (zp (Enc.clo _))|exact zge (Enc.cloL _)|exact z0u (Enc.cloL _) Enc.z|exact rfl) ?_))
 (hok:zu 0 args=true:=by repeat(first|exact rfl|refine za (by first|exact zq _ _ (zp (Enc.clo _))|exact zao (Enc.cloL _)|exact zca (Enc.cloL _)|exact rfl) ?_)) (hS:zab S o.dst r=S':=by dsimp only[zab,List.set]):ahead IT P ops σ K (o::l) S:=
 zot hp hd hg hc hs hok hS k
end
theorem strip_t {vs us:List AV} (h:stripL vs=us):zcz (.tup vs)= .tup us:=by rw[zcz,h]
theorem strip_a {vs us:List AV} (h:stripL vs=us):zcz (.agg vs)= .agg us:=by rw[zcz,h]
theorem qni {k:Nat} {vs:List AV} (h:zu k vs=true):zbf k (.tup vs)=true:=h
theorem qml {k:Nat} {vs:List AV} (h:zu k vs=true):zbf k (.agg vs)=true:=h
theorem zax {P:Program} {fn:Func} {S:List AV} {σ:St} {R:Type} {y r:R} (E:R→AV)(hr:some y=some r)(a:AV)(h:zbm P fn σ S=some a:=by exact rfl)
 (hok:zbf 0 a=true:=by first|exact zq _ _ (zp (Enc.clo _))|exact zao (Enc.cloL _)|exact zca (Enc.cloL _)|((first|refine qni ?_|refine qml ?_);repeat(first|exact rfl|refine za (by first|exact zq _ _ (zp (Enc.clo _))|exact zao (Enc.cloL _)|exact zca (Enc.cloL _)|exact rfl) ?_)))
 (hs:zcz a=E y:=by first|exact zge (Enc.cloL _)|exact z0u (Enc.cloL _) Enc.z|exact zaz (zp (Enc.clo _))|((first|refine strip_t ?_|refine strip_a ?_);repeat(first|exact rfl|refine ze (by first|exact zaz (zp (Enc.clo _))|exact zge (Enc.cloL _)|exact z0u (Enc.cloL _) Enc.z|exact rfl) ?_))):zyy P fn (E r) .ret S σ:=
 zex E hr h hok hs
theorem zbz {IT:IterP} {P:Program} {W:Owed} {k0:Nat} {α:Type} {c:Bool} {A B:Option α} {r:α} {d:Operand} {x y:Code} {Q:AQ} {S:List AV} {σ:St} (h:(bif c then A else B)=some r)(kt:c=true→A=some r→awp IT P W k0 x Q S σ)(kf:c=false→B=some r→awp IT P W k0 y Q S σ)(hc:zes S d= .raw (.bool c):=by exact rfl):awp IT P W k0 (.cond d x y) Q S σ:=
 zac h (fun e h=>zcm e hc (kt e h)) (fun e h=>zci e hc (kf e h))
@[reducible] def AV.L {α:Type} [Enc α] (l:List α):AV:= .list l.length (Enc.cellsL l) .none
@[reducible] def AV.F {α:Type} [Enc α] (l:List α):AV:= .list l.length (Enc.cellsL l) .full
@[reducible] def AV.O {α:Type} [Enc α] (l:List α):AV:=zfs l.length (Enc.cellsL l)
@[reducible] def AV.A {α:Type} [Enc α] (x:α):AV:= .agg (Enc.cells x)
@[reducible] def St.B (l:List (TypeId×List AV)):St:=⟨l,[],[],0,false⟩
theorem zav {P:Program} {f:FuncId} {fn:Func} {c:Code} {args S':List AV} {r:AV} (n:Nat)(hmix:P.follows .mixedOrders=true)(hf:P.funcs[f]? =some fn)(he:Ent P f)(h:awp (ITP P) P none 0 c (zyy P fn r) S' (St.B []))(hb:fn.body=some c:=by exact rfl)(hn:Nat.sub fn.ntmps args.length=n:=by exact rfl)(hS:args++List.replicate n (.raw undef)=S':=by dsimp only[List.replicate,List.cons_append,List.nil_append]):Pure (ITP P) P f args r:=
 zjp hmix hf hb he (by unfold zbi;rw[show fn.ntmps-args.length=n from hn,hS];exact h)
end Go.Ab
set_option maxRecDepth 100000
set_option maxHeartbeats 4000000
namespace Go.Ab
open Go Go.RowKit Go.Fwd Go.Proofs
def zpf (x:Int):Option Bool:=
 (some (x !=x))
theorem ent150:Ent Tryz.prog 150:=enters_of Tryz.func150 (by kernel_rfl) rfl
theorem z1k (x:Int)(r:Bool)(h:zpf x=some r):Pure (ITP Tryz.prog) Tryz.prog 150 [.raw (.int .u8 x)] (.raw (.bool r)):=by
 unfold zpf at h
 refine zav 5 mix Tryz.func150 ent150 ?_
 refine zo [.v (.b false)] ?_
 refine zo [.m _,.m _,.v (.b (x !=x)),.m _] ?_
 exact zbb h
def ztm (x:Int):Option Bool:=
 (some (x !=x))
theorem ent151:Ent Tryz.prog 151:=enters_of Tryz.func151 (by kernel_rfl) rfl
theorem qau (x:Int)(r:Bool)(h:ztm x=some r):Pure (ITP Tryz.prog) Tryz.prog 151 [.raw (.int .i64 x)] (.raw (.bool r)):=by
 unfold ztm at h
 refine zav 5 mix Tryz.func151 ent151 ?_
 refine zo [.v (.b false)] ?_
 refine zo [.m _,.m _,.v (.b (x !=x)),.m _] ?_
 exact zbb h
def z1l (x:Int)(y:Int):Option Int:=
 (zau (zpf x) (fun x1=>(zau (zpf y) (fun x2=>(bif x1 then(bif x2 then(some 0) else(some (-1))) else(bif x2 then(some 1) else(bif (decide (x<y)) then(some (-1)) else(bif (decide (x>y)) then(some 1) else(some 0)))))))))
theorem ent107:Ent Tryz.prog 107:=enters_of Tryz.func107 (by kernel_rfl) rfl
theorem cmp8_sh (x:Int)(y:Int)(r:Int)(h:z1l x y=some r):Pure (ITP Tryz.prog) Tryz.prog 107 [.raw (.int .u8 x),.raw (.int .u8 y)] (.raw (.int .i64 r)):=by
 unfold z1l at h
 refine zav 18 mix Tryz.func107 ent107 ?_
 refine zo [.v (.i 0)] ?_
 refine zo [.m _] ?_
 obtain⟨x1,hx1,h⟩:=zt h
 refine zce (z1k x x1 hx1) ?_
 refine zaj ?_
 refine zo [.m _] ?_
 obtain⟨x2,hx2,h⟩:=zt h
 refine zce (z1k y x2 hx2) ?_
 refine zaj ?_
 refine zf ?_
 refine zo [.m _] ?_
 refine zbz h (fun hc1 h=> ?_) (fun hc1 h=> ?_)
 refine zf ?_
 refine zo [.m _] ?_
 refine zbz h (fun hc2 h=> ?_) (fun hc2 h=> ?_)
 refine zo [.v (.i 0)] ?_
 exact zdv h
 refine zo [.v (.i (-1))] ?_
 exact zdv h
 refine zf ?_
 refine zo [.m _] ?_
 refine zbz h (fun hc3 h=> ?_) (fun hc3 h=> ?_)
 refine zo [.v (.i 1)] ?_
 exact zdv h
 refine zf ?_
 refine zo [.m _,.m _,.v (.b (decide (x<y)))] ?_
 refine zbz h (fun hc4 h=> ?_) (fun hc4 h=> ?_)
 refine zo [.v (.i (-1))] ?_
 exact zdv h
 refine zf ?_
 refine zo [.m _,.m _,.v (.b (decide (x>y)))] ?_
 refine zbz h (fun hc5 h=> ?_) (fun hc5 h=> ?_)
 refine zo [.v (.i 1)] ?_
 exact zdv h
 refine zo [.v (.i 0)] ?_
 exact zdv h
def zpm (x:Int)(y:Int):Option Int:=
 (zau (ztm x) (fun x1=>(zau (ztm y) (fun x2=>(bif x1 then(bif x2 then(some 0) else(some (-1))) else(bif x2 then(some 1) else(bif (decide (x<y)) then(some (-1)) else(bif (decide (x>y)) then(some 1) else(some 0)))))))))
theorem ent110:Ent Tryz.prog 110:=enters_of Tryz.func110 (by kernel_rfl) rfl
theorem z9o (x:Int)(y:Int)(r:Int)(h:zpm x y=some r):Pure (ITP Tryz.prog) Tryz.prog 110 [.raw (.int .i64 x),.raw (.int .i64 y)] (.raw (.int .i64 r)):=by
 unfold zpm at h
 refine zav 18 mix Tryz.func110 ent110 ?_
 refine zo [.v (.i 0)] ?_
 refine zo [.m _] ?_
 obtain⟨x1,hx1,h⟩:=zt h
 refine zce (qau x x1 hx1) ?_
 refine zaj ?_
 refine zo [.m _] ?_
 obtain⟨x2,hx2,h⟩:=zt h
 refine zce (qau y x2 hx2) ?_
 refine zaj ?_
 refine zf ?_
 refine zo [.m _] ?_
 refine zbz h (fun hc1 h=> ?_) (fun hc1 h=> ?_)
 refine zf ?_
 refine zo [.m _] ?_
 refine zbz h (fun hc2 h=> ?_) (fun hc2 h=> ?_)
 refine zo [.v (.i 0)] ?_
 exact zdv h
 refine zo [.v (.i (-1))] ?_
 exact zdv h
 refine zf ?_
 refine zo [.m _] ?_
 refine zbz h (fun hc3 h=> ?_) (fun hc3 h=> ?_)
 refine zo [.v (.i 1)] ?_
 exact zdv h
 refine zf ?_
 refine zo [.m _,.m _,.v (.b (decide (x<y)))] ?_
 refine zbz h (fun hc4 h=> ?_) (fun hc4 h=> ?_)
 refine zo [.v (.i (-1))] ?_
 exact zdv h
 refine zf ?_
 refine zo [.m _,.m _,.v (.b (decide (x>y)))] ?_
 refine zbz h (fun hc5 h=> ?_) (fun hc5 h=> ?_)
 refine zo [.v (.i 1)] ?_
 exact zdv h
 refine zo [.v (.i 0)] ?_
 exact zdv h
def zwv (t:Tr):Option Int:=
 (bif (t.mx==(-1)) then(some 9223372036854775807) else(some t.mx))
theorem ent111:Ent Tryz.prog 111:=enters_of Tryz.func111 (by kernel_rfl) rfl
theorem qit (t:Tr)(r:Int)(h:zwv t=some r):Pure (ITP Tryz.prog) Tryz.prog 111 [.A (t:Tr)] (.raw (.int .i64 r)):=by
 unfold zwv at h
 refine zav 7 mix Tryz.func111 ent111 ?_
 refine zf (zb ?_)
 refine zbs (a:= .ptr 0 0) (σ'':=(.B [(29,(Enc.cells (t:Tr)))])) ?_
 refine w_o (a:= .i 0) ?_
 refine zf ?_
 refine zo [.v (.ptr 0 6),.v (.i t.mx),.v (.b (t.mx==(-1)))] ?_
 refine zbz h (fun hc1 h=> ?_) (fun hc1 h=> ?_)
 refine zo [.v (.i 9223372036854775807)] ?_
 exact zdv h
 refine zo [.v (.ptr 0 6),.v (.i t.mx),.m _] ?_
 exact zdv h
def zuv (fuel:Nat)(l:(List Int)):Option Int:=
 (zeb (τ:=Unit) (zcc (β:=Int) (fun s1=>(bif (decide (s1<(List.length l:Int))) then(chk (0≤s1∧s1<(List.length l:Int)) (bif ((ix l s1) !=0) then(some (Sum.inr (Sum.inr (ix l s1)))) else(chk (-9223372036854775808≤(s1+1)∧(s1+1)<9223372036854775808) (some (Sum.inl ((s1+1))))))) else(some (Sum.inr (Sum.inl ()))))) fuel (0)) (fun j1=>(some 0)))
theorem ent109:Ent Tryz.prog 109:=enters_of Tryz.func109 (by kernel_rfl) rfl
theorem qlz (fuel:Nat)(l:(List Int))(r:Int)(h:zuv fuel l=some r):Pure (ITP Tryz.prog) Tryz.prog 109 [.L (l:List Int)] (.raw (.int .i64 r)):=by
 unfold zuv at h
 refine zav 17 mix Tryz.func109 ent109 ?_
 refine zo [.v (.i 0)] ?_
 refine zo [.v (.i 0)] ?_
 refine zas h (bz 0 18 262135) (fun j1=>[]) (fun j1=>(.B [])) ?_ ?_
 intro or1 h hr1
 refine zo [.m _,.v (.i (List.length l:Int)),.v (.i 0)] ?_
 refine zn ?_
 refine zcb h (bz 0 18 261943) (fun s1=>[(8,.i s1)]) (fun s1=>(.B [])) ?_ ?_
 exact zdo (bl 18 456)
 intro s1 p1 h
 refine zfu ?_
 refine zo [.v (.b (decide (s1<(List.length l:Int))))] ?_
 refine zf ?_
 refine zbz h (fun hc1 h=> ?_) (fun hc1 h=> ?_)
 refine zf ?_
 refine zn ?_
 refine zf (zb ?_)
 obtain⟨g1,h⟩:=zh h
 refine w_o (a:= .iptr (Enc.cells (ix l s1)++Enc.cellsL (List.drop (Int.toNat s1+1) l))) (h:=zbu (z3w (α:=Int) (l:=l) g1 rfl rfl rfl rfl rfl)) ?_
 refine w_r [.v (.i (ix l s1)),.m _] ?_
 refine zo [.m _,.m _,.v (.b ((ix l s1) !=0))] ?_
 refine zbz h (fun hc2 h=> ?_) (fun hc2 h=> ?_)
 refine zo [.m _,.m _] ?_
 refine zaa h (fun h=> ?_)
 replace h:=zw h hr1
 exact zdv h
 refine zb (k0:=0) (id:=7) ?_
 obtain⟨g2,h⟩:=zh h
 refine zql g2 ?_
 refine zaj ?_
 refine zat (p:=p1) ((s1+1)) h ?_
 exact zdo (bl 18 456)
 refine zaa h (fun h=> ?_)
 refine zg (o:=or1) () h ?_
 exact zdo (bl 18 8)
 intro j1 h
 refine zfu ?_
 refine zo [.m _,.m _] ?_
 exact zdv h
def zgt (lo:Int)(hi:Int):Option Bool:=
 (zeb (τ:=Unit) (bif (decide (lo<0)) then(some (Sum.inr false)) else(bif (decide (lo>16)) then(some (Sum.inr false)) else(bif (lo==1) then(bif (hi==1) then(some (Sum.inr false)) else(some (Sum.inl ()))) else(some (Sum.inl ()))))) (fun j1=>(bif (hi==(-1)) then(some true) else(bif (decide (hi≥1)) then(bif (decide (hi≤16)) then(some (decide (hi≥lo))) else(some false)) else(some false)))))
theorem ent104:Ent Tryz.prog 104:=enters_of Tryz.func104 (by kernel_rfl) rfl
theorem zjv (lo:Int)(hi:Int)(r:Bool)(h:zgt lo hi=some r):Pure (ITP Tryz.prog) Tryz.prog 104 [.raw (.int .i64 lo),.raw (.int .i64 hi)] (.raw (.bool r)):=by
 unfold zgt at h
 refine zav 32 mix Tryz.func104 ent104 ?_
 refine zo [.v (.b false)] ?_
 refine zas h (bz 0 34 17179869180) (fun j1=>[]) (fun j1=>(.B [])) ?_ ?_
 intro or1 h hr1
 refine zo [.m _,.v (.b (decide (lo<0)))] ?_
 refine zac h (fun hc1 h=> ?_) (fun hc1 h=> ?_)
 refine zbe hc1 ?_
 refine w_r [.p,.p,.v (.b true),.m _,.p] ?_
 refine w_r [.p,.p,.p,.p,.p] ?_
 refine w_r [.v (.b true)] ?_
 refine zbx rfl ?_
 refine zo [.v (.b false)] ?_
 replace h:=zw h hr1
 exact zbb h
 refine zbe hc1 ?_
 refine w_r [.m _,.v (.b (decide (lo>16))),.v (.b (decide (lo>16)))] ?_
 refine zac h (fun hc2 h=> ?_) (fun hc2 h=> ?_)
 refine zbe hc2 ?_
 refine w_r [.p,.p,.p,.p,.p] ?_
 refine w_r [.p,.v (.b true)] ?_
 refine zbx rfl ?_
 refine zo [.v (.b false)] ?_
 replace h:=zw h hr1
 exact zbb h
 refine zbe hc2 ?_
 refine w_r [.m _,.v (.b (lo==1))] ?_
 refine zak rfl rfl ?_
 refine zac h (fun hc3 h=> ?_) (fun hc3 h=> ?_)
 refine zbe hc3 ?_
 refine w_r [.m _,.v (.b (hi==1)),.v (.b (hi==1)),.v (.b (hi==1))] ?_
 refine zbz h (fun hc4 h=> ?_) (fun hc4 h=> ?_)
 refine zo [.v (.b false)] ?_
 replace h:=zw h hr1
 exact zbb h
 refine zg (o:=or1) () h ?_
 exact zdo (bl 34 3)
 refine zbe hc3 ?_
 refine w_r [.p,.p,.v (.b false),.v (.b false)] ?_
 refine zcg rfl ?_
 refine zg (o:=or1) () h ?_
 exact zdo (bl 34 3)
 intro j1 h
 refine zfu ?_
 refine zo [.m _,.v (.b (hi==(-1)))] ?_
 refine zac h (fun hc5 h=> ?_) (fun hc5 h=> ?_)
 refine zbe hc5 ?_
 refine w_r [.p,.p,.p,.p,.p] ?_
 refine w_r [.p,.p,.p,.p,.p] ?_
 refine w_r [.p,.v (.b true),.m _] ?_
 exact zbb h
 refine zbe hc5 ?_
 refine w_r [.m _,.v (.b (decide (hi≥1)))] ?_
 refine zak rfl rfl ?_
 refine zac h (fun hc6 h=> ?_) (fun hc6 h=> ?_)
 refine zbe hc6 ?_
 refine w_r [.m _,.v (.b (decide (hi≤16))),.v (.b (decide (hi≤16)))] ?_
 refine zak rfl rfl ?_
 refine zac h (fun hc7 h=> ?_) (fun hc7 h=> ?_)
 refine zbe hc7 ?_
 refine w_r [.m _,.m _,.v (.b (decide (hi≥lo))),.v (.b (decide (hi≥lo))),.v (.b (decide (hi≥lo)))] ?_
 refine w_r [.m _] ?_
 exact zbb h
 refine zbe hc7 ?_
 refine w_r [.p,.p,.p,.v (.b false),.v (.b false)] ?_
 refine w_r [.m _] ?_
 exact zbb h
 refine zbe hc6 ?_
 refine w_r [.p,.p,.v (.b false),.m _,.p] ?_
 refine w_r [.p,.p,.v (.b false),.v (.b false),.m _] ?_
 exact zbb h
def zzj (t:Tr):Option Tr:=
 (some (Tr.mk 6 (0#256) 0 0 [t]))
theorem ent50:Ent Tryz.prog 50:=enters_of Tryz.func50 (by kernel_rfl) rfl
theorem qkq (t:Tr)(r:Tr)(h:zzj t=some r):Pure (ITP Tryz.prog) Tryz.prog 50 [.A (t:Tr)] (.A (r:Tr)):=by
 unfold zzj at h
 refine zav 5 mix Tryz.func50 ent50 ?_
 refine zf (zb ?_)
 refine zbs (a:= .ptr 0 0) (σ'':=(.B [(29,(Enc.cells (t:Tr)))])) ?_
 refine zbs (a:= .ptr 1 0) (σ'':=(.B [(29,(Enc.cells (t:Tr))),(29,[.u 0,.raw (.int .u64 0),.raw (.int .u64 0),.raw (.int .u64 0),.raw (.int .u64 0),.i 0,.i 0,.list 0 [] .full])])) ?_
 refine zo [.v (.A (t:Tr))] ?_
 refine w_o (a:= .F ([t]:List Tr)) (h:=zbu (zhc (α:=Tr) (l:=[t]) (cs:=Enc.cells (t:Tr)++[]) rfl (by rw[Enc.cons,Enc.nil]))) ?_
 refine zeq (.A ((Tr.mk 6 (0#256) 0 0 [t]):Tr)) (a0:=(zcd (Tr.mk 6 (0#256) 0 0 [t]) .full)) rfl rfl rfl (by kernel_rfl) (zj _ _) (by dsimp only[zab,List.set]) ?_
 refine zcs 8 (.B [(29,(Enc.cells (t:Tr))),(29,(Enc.cells ((Tr.mk 6 (0#256) 0 0 [t]):Tr)))]) ?_
 exact zax (fun(r:Tr)=> .A (r:Tr)) h (.A ((Tr.mk 6 (0#256) 0 0 [t]):Tr))
def qhn (t:Tr)(lo:Int)(hi:Int):Option Tr:=
 (some (Tr.mk 5 (0#256) lo hi [t]))
theorem ent51:Ent Tryz.prog 51:=enters_of Tryz.func51 (by kernel_rfl) rfl
theorem rep8_sh (t:Tr)(lo:Int)(hi:Int)(r:Tr)(h:qhn t lo hi=some r):Pure (ITP Tryz.prog) Tryz.prog 51 [.A (t:Tr),.raw (.int .i64 lo),.raw (.int .i64 hi)] (.A (r:Tr)):=by
 unfold qhn at h
 refine zav 9 mix Tryz.func51 ent51 ?_
 refine zf (zb ?_)
 refine zbs (a:= .ptr 0 0) (σ'':=(.B [(29,(Enc.cells (t:Tr)))])) ?_
 refine zbs (a:= .ptr 1 0) (σ'':=(.B [(29,(Enc.cells (t:Tr))),(29,[.u 0,.raw (.int .u64 0),.raw (.int .u64 0),.raw (.int .u64 0),.raw (.int .u64 0),.i 0,.i 0,.list 0 [] .full])])) ?_
 refine zo [.m _,.m _,.v (.A (t:Tr))] ?_
 refine w_o (a:= .F ([t]:List Tr)) (h:=zbu (zhc (α:=Tr) (l:=[t]) (cs:=Enc.cells (t:Tr)++[]) rfl (by rw[Enc.cons,Enc.nil]))) ?_
 refine zeq (.A ((Tr.mk 5 (0#256) lo hi [t]):Tr)) (a0:=(zcd (Tr.mk 5 (0#256) lo hi [t]) .full)) rfl rfl rfl (by kernel_rfl) (zj _ _) (by dsimp only[zab,List.set]) ?_
 refine zcs 8 (.B [(29,(Enc.cells (t:Tr))),(29,(Enc.cells ((Tr.mk 5 (0#256) lo hi [t]):Tr)))]) ?_
 exact zax (fun(r:Tr)=> .A (r:Tr)) h (.A ((Tr.mk 5 (0#256) lo hi [t]):Tr))
def zun (s:BS)(c:Int):Option Bool:=
 (chk (0≤(zyj .u8 c 6)∧(zyj .u8 c 6)<4) (chk (0≤(z3m .u8 c 63)) (some ((z3m .u64 (zyj .u64 (wd s (Int.toNat (zyj .u8 c 6))) (z3m .u8 c 63)) 1)==1))))
theorem ent16:Ent Tryz.prog 16:=enters_of Tryz.func16 (by kernel_rfl) rfl
theorem z7f (s:BS)(c:Int)(r:Bool)(h:zun s c=some r):Pure (ITP Tryz.prog) Tryz.prog 16 [.A (s:BS),.raw (.int .u8 c)] (.raw (.bool r)):=by
 unfold zun at h
 refine zav 12 mix Tryz.func16 ent16 ?_
 refine zf (zb ?_)
 refine zbs (a:= .ptr 0 0) (σ'':=(.B [(26,(Enc.cells (s:BS)))])) ?_
 refine w_o (a:= .b false) ?_
 refine zo [.m _] ?_
 refine w_o (a:= .u (zyj .u8 c 6)) (h:=zbu (q_shr (by decide) rfl rfl rfl)) ?_
 obtain⟨g1,h⟩:=zh h
 refine w_o (a:= .ptr 0 (0+Int.toNat (zyj .u8 c 6)*1)) (h:=zbu (qkg g1 rfl rfl rfl rfl rfl)) ?_
 refine w_o (a:= .raw (.int .u64 (wd s (Int.toNat (zyj .u8 c 6))))) (h:=zbu (qjy s (by omega) rfl rfl rfl)) ?_
 refine w_r [.m _,.v (.u (z3m .u8 c 63))] ?_
 obtain⟨g2,h⟩:=zh h
 refine w_o (a:= .raw (.int .u64 (zyj .u64 (wd s (Int.toNat (zyj .u8 c 6))) (z3m .u8 c 63)))) (h:=zbu (q_shr g2 rfl rfl rfl)) ?_
 refine w_r [.v (.raw (.int .u64 (z3m .u64 (zyj .u64 (wd s (Int.toNat (zyj .u8 c 6))) (z3m .u8 c 63)) 1))),.v (.b ((z3m .u64 (zyj .u64 (wd s (Int.toNat (zyj .u8 c 6))) (z3m .u8 c 63)) 1)==1)),.m _] ?_
 exact zbb h
end Go.Ab
