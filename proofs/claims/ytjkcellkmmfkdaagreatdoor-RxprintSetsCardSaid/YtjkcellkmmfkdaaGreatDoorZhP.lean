import Derived.Test.YtjkcellkmmfkdaaGreatDoorZdP
set_option linter.all false
open Sum (inl inr)
open Nat (le_refl)
open List (length_cons length_append mem_of_getElem? getElem?_append_left mem_append cons_append mem_cons getElem?_append_right getElem?_map)
namespace Go.Ab
open Go Go.RowKit Go.Fwd
variable {ops:Array Oper} {S S' args':List AV} {n0:Nat} {U':St} {Q:AQ} {K:List AV->Prop} {n:Int} {y:Operand} {c:Call} {k':IntKind}
section
variable {IT:IterP} {P:Program} {W:Owed} {k0:Nat}
theorem zbt {Q:List AV->St->Prop} {o:Oper} {l:List Oper} {U:St} {f:FuncId} {args:List AV} {r:AV} (hp:Pure IT P f args' r)(hg:o.guard=none)(hc:zda S o=some (f,args))(hs:stripL args=args')(hok:zab 0 args=true)(hS:zi S o.dst r=S')
 (k:zca IT P W ops Q l S' U):zca IT P W ops Q (o::l) S U:=w_call (by rw[hs];exact hp) hg hc hok hS k
def zbg (S:List AV)(l:List (Nat×AV)):List AV:=l.foldl (fun S p=>S.set p.1 p.2) S
def zcl (S:List AV)(l:List Nat):List AV:=l.foldl (fun S p=>S.set p .top) S
def fgM:List Bool->List AV->List AV
 |b::m,a::l=>(bif b then a else .top)::fgM m l
 |[],l=>l
 |_,[]=>[]
theorem zlz: ∀(m:List Bool) (S:List AV),Fg S (fgM m S)
 |b::m,a::l=>⟨by cases b<;>simp,zlz m l⟩
 |[],l=>Fg.refl l
 |_::_,[]=>trivial
theorem zhm {U:St} (m:List Bool)(h:fgM m S=S')(hσ:U'=U):Wk n0 S U S' U':= .one<| .inl ⟨h▸zlz m S,.inl hσ⟩
theorem zfx {U:St} (m:List Bool)(n:Nat)(h:fgM m S=S')(hn:n0<=n)(h1:zxs n U=true)(h2:zab n S'=true)(h3:zem n U=U'):Wk n0 S U S' U':= .one<| .inl ⟨h▸zlz m S,.inr ⟨n,hn,h1,h2,h3⟩⟩
theorem zqz {U:St} (m:List Bool)(n:Nat)(fs js:List Nat)(d:Nat)(hn:n0<=n)(hok:zcs U n js=true)(h:fgM m (zv U.lens.length (kz U.boxes U.lens.length n fs js d) S)=S')(hσ:zed U U.lens.length n fs js d=U'):Wk n0 S U S' U':=
 .one<| .inr (.inl ⟨n,fs,js,d,hn,hok,h▸zlz m _,hσ⟩)
theorem qgr {U:St} (m:List Bool)(s:Nat) {t:TypeId} {cs:List AV} (hb:U.boxes[s]? =some (t,cs))(h:fgM m S=S')(hσ:U'={U with boxes:=U.boxes++[(t,[])]}):Wk n0 S U S' U':=
 .one<| .inr (.inr (.inl ⟨s,t,cs,hb,h▸zlz m _,hσ⟩))
theorem zkk {id:Nat} {U:St} (n:Nat)(h1:chk ops S.length n=true)(h2:zst ops.toList=true)(h3:zfp IT P ops U (fun S'=>zca IT P W ops (Q .normal) (ops.toList.drop n) S' U) (ops.toList.take n) S):awp IT P W k0 (.region id ops true) Q S U:= .inr (.inl (qiv n h1 h2 h3))
theorem w_drawB {id:Nat} {U:St} (n:Nat)(h1:chk ops S.length n=true)(h2:zst ops.toList=true)(h3:zej IT P ops U (fun S' ps=>zca IT P W ops (Q .normal) (ops.toList.drop n) (zno U.boxes.length ps S') (zlp U ps)) (ops.toList.take n) S []):awp IT P W k0 (.region id ops true) Q S U:= .inr (.inl ⟨n,h1,h2,h3⟩)
theorem hB_new {U:St} {K:List AV->Pend->Prop} {o:Oper} {l:List Oper} {ps:Pend} {t:TypeId} {d:Tmp} (z:Value)(ho:o.op= .alloc t)(hdst:o.dst=some d)(hd:(o.dst.all fun d=>decide (d<S.length))=true)(hp:(ps.all fun p=>o.dst !=some p.1)=true)(hg:o.guard=none)(hz:zlw P t=some z)(hS:S.set d .top=S')(k:zej IT P ops U K l S' (ps++[(d,t,z)])):zej IT P ops U K (o::l) S ps:=⟨hd,hp,.inl ⟨hg,t,d,z,ho,hdst,hz,by rw[hS];exact k⟩⟩
theorem hB_op {U:St} {K:List AV->Pend->Prop} {o:Oper} {l:List Oper} {ps:Pend} {a:AV} (hd:(o.dst.all fun d=>decide (d<S.length))=true)(hp:(ps.all fun p=>o.dst !=some p.1)=true)(hg:o.guard=none)(hc:zda S o=none)(h:qop P (zbv S) U o=some a)(hS:zi S o.dst a=S')(k:zej IT P ops U K l S' ps):zej IT P ops U K (o::l) S ps:=by
 refine⟨hd,hp,.inr ?_⟩;simp only[hg,zhn,hc];exact⟨a,.inl h,by rw[hS];exact k⟩
theorem zpa {U:St} {K:List AV->Pend->Prop} {o:Oper} {l:List Oper} {ps:Pend} {f:FuncId} {args:List AV} {r:AV} (hpu:Pure IT P f args' r)(hd:(o.dst.all fun d=>decide (d<S.length))=true)(hp:(ps.all fun p=>o.dst !=some p.1)=true)(hg:o.guard=none)(hc:zda S o=some (f,args))(hs:stripL args=args')(hok:zab 0 args=true)(hS:zi S o.dst r=S')(k:zej IT P ops U K l S' ps):zej IT P ops U K (o::l) S ps:=by
 refine⟨hd,hp,.inr ?_⟩;simp only[hg,zhn,hc];exact⟨r,hok,by rw[hs];exact hpu,by rw[hS];exact k⟩
theorem zlq {U:St} (h:K S):zfp IT P ops U K [] S:=h
theorem z8q {U:St} {o:Oper} {l:List Oper} {a:AV} (hd:(o.dst.all fun d=>decide (d<S.length))=true)(hg:o.guard=none)(hc:zda S o=none)(h:qop P (zbv S) U o=some a)(hS:zi S o.dst a=S')(k:zfp IT P ops U K l S'):zfp IT P ops U K (o::l) S:=by
 refine⟨hd,?_⟩;simp only[hg,zhn,hc];exact⟨a,.inl h,by rw[hS];exact k⟩
theorem zuh {U:St} {o:Oper} {l:List Oper} {f:FuncId} {args:List AV} {r:AV} (hp:Pure IT P f args' r)(hd:(o.dst.all fun d=>decide (d<S.length))=true)(hg:o.guard=none)(hc:zda S o=some (f,args))(hs:stripL args=args')(hok:zab 0 args=true)(hS:zi S o.dst r=S')(k:zfp IT P ops U K l S'):zfp IT P ops U K (o::l) S:=by
 refine⟨hd,?_⟩;simp only[hg,zhn,hc];exact⟨r,hok,by rw[hs];exact hp,by rw[hS];exact k⟩
theorem z8v {U:St} {o:Oper} {l:List Oper} {kb:Nat} {b:Bool} {c:Option Bool} (hd:(o.dst.all fun d=>decide (d<S.length))=true)(hg:o.guard=some (kb,b))(hk:zdo ops S kb=some c)(hcb:c≠some b)(hS:zi S o.dst (.raw undef)=S')(k:zfp IT P ops U K l S'):zfp IT P ops U K (o::l) S:=by
 refine⟨hd,?_⟩;simp only[hg];exact⟨c,hk,by rw[if_neg hcb,hS];exact k⟩
theorem zio {U:St} {o:Oper} {l:List Oper} {kb:Nat} {b:Bool} (hg:o.guard=some (kb,b))(hk:zdo ops S kb=some (some b))(k:zfp IT P ops U K ({o with guard:=none}::l) S):zfp IT P ops U K (o::l) S:=by
 refine⟨k.1,?_⟩;simp only[hg];refine⟨some b,hk,?_⟩;rw[if_pos rfl];have e:zhn IT P {o with guard:=none} S U=zhn IT P o S U:=rfl;have k:=k.2;simp only at k;rw[e] at k;exact k
end
theorem qhi {P:Program} {fn:Func} {U:St} {a r:AV} (h:zar P fn U S=some a)(hok:zbi 0 a=true)(hs:zcw a=r):ztl P fn r .ret S U:=⟨a,h,ztt hok hs⟩
theorem zvz {P:Program} {fn:Func} {U:St} {n m:Nat} {a r:AV} (fs js:List Nat)(d:Nat)(h:zar P fn U S=some a)(hok:zcs U n js=true)(hr:zgv m (kz U.boxes m n fs js d) a=r)(hσ:zed U m n fs js d=U'):aendS P fn n m r U' .ret S U:=⟨a,h,ztb fs js d hok hr hσ⟩
section
variable {P:Program} {ρ:Operand->AV} {U:St} {o:Oper}
theorem q_index {t e:TypeId} {x i:Operand} {sz len:Nat} {cs:List AV} {st:Room} {k:IntKind} (ho:o.op= .indexAddr t x i)(hx:ρ x= .list len cs st)(hi:ρ i= .raw (.int k n))(hu:P.underlying t=some (.slice e))(hs:zfa P e=some sz)(hb:0<=n/\ n<len/\ cs≠[]):
 qop P ρ U o=some (.iptr (cs.drop (n.toNat*sz))):=by
 simp only[qop,ho,hx,hi,zgy,hu,hs,if_pos hb]
theorem qge {t e:TypeId} {x i:Operand} {s off len sz sz':Nat} {f:Bool} {k:IntKind} (ho:o.op= .indexAddr t x i)(hx:ρ x= .bsl s off len sz' f)(hi:ρ i= .raw (.int k n))(hu:P.underlying t=some (.slice e))(hs:zfa P e=some sz)(hb:0<=n/\ n<len):
 qop P ρ U o=some (.ptr s (off+n.toNat*sz)):=by
 simp only[qop,ho,hx,hi,zgy,hu,hs,if_pos hb]
theorem zbf {a:AV} (h:qop P ρ U o=some a):aop P ρ U o=some (a,U):=by simp only[aop,h]
theorem qji {t:TypeId} {x:Operand} {a:AV} (p:AV)(ho:o.op= .load t x)(hx:ρ x=p)(ha:zzt P U t p=some a):qop P ρ U o=some a:=by
 simp only[qop,ho,hx,ha]
theorem zcr {t:TypeId} {x:Operand} {s off n:Nat} {v:AV} {bx:TypeId×List AV} (ho:o.op= .store t x y)(hx:ρ x= .ptr s off)(hy:ρ y=v)(hb:U.boxes[s]? =some bx)(hn:zfa P t=some n)(hc:zif v=true/\ (cellsOf v).length=n/\ off+n<=bx.2.length/\ 0<n):
 aop P ρ U o=some (.raw undef,{U with boxes:=U.boxes.set s (bx.1,bx.2.take off++cellsOf v++bx.2.drop (off+n))}):=by
 simp only[aop,qop,ho,znx,hx,hy,hb,hn,if_pos hc]
theorem zcd {t:TypeId} {x:Operand} {s n:Nat} {v:AV} {bx:TypeId×List AV} (ho:o.op= .store t x y)(hx:ρ x= .ptr s 0)(hy:ρ y=v)(hb:U.boxes[s]? =some bx)(hn:zfa P t=some n)(hl:bx.2.length=n)(hc:zif v=true)(hv:(cellsOf v).length=n)(h0:0<n):
 aop P ρ U o=some (.raw undef,{U with boxes:=U.boxes.set s (bx.1,cellsOf v)}):=by
 rw[zcr (n:=n) ho hx hy hb hn ⟨hc,hv,by omega,h0⟩];rw[List.drop_of_length_le (by omega)];simp
theorem z2r {x:Operand} {t:TypeId} {c} {m r:Int} (ho:o.op= .binOp .add t x y c)(hx:ρ x= .raw (.int .i64 m))(hy:ρ y= .raw (.int .i64 n))(hr:m+n=r)(h1: -9223372036854775808<=r)(h2:r<9223372036854775808):qop P ρ U o=some (.raw (.int .i64 r)):=by
 subst hr;have h:=zqp h1 h2;simp[qop,zfd,ho,Op.operands,hx,hy,zdm,execOp,zce,eqGuard,binOp,Op.intArith,h];rfl
theorem zpy {x:Operand} {t:TypeId} {c} {m r:Int} (ho:o.op= .binOp .sub t x y c)(hx:ρ x= .raw (.int .i64 m))(hy:ρ y= .raw (.int .i64 n))(hr:m-n=r)(h1: -9223372036854775808<=r)(h2:r<9223372036854775808):qop P ρ U o=some (.raw (.int .i64 r)):=by
 subst hr;have h:=zqp h1 h2;simp[qop,zfd,ho,Op.operands,hx,hy,zdm,execOp,zce,eqGuard,binOp,Op.intArith,h];rfl
theorem q_mul {x:Operand} {t:TypeId} {c} {m r:Int} (ho:o.op= .binOp .mul t x y c)(hx:ρ x= .raw (.int .i64 m))(hy:ρ y= .raw (.int .i64 n))(hr:m*n=r)(h1: -9223372036854775808<=r)(h2:r<9223372036854775808):qop P ρ U o=some (.raw (.int .i64 r)):=by
 subst hr;have h:=zqp h1 h2;simp[qop,zfd,ho,Op.operands,hx,hy,zdm,execOp,zce,eqGuard,binOp,Op.intArith,h];rfl
theorem q_max {x:Operand} {k:IntKind} {m:Int} (ho:o.op= .call c)(hc:c.callee= .builtin .max)(ha:c.args= #[x,y])(hx:ρ x= .raw (.int k m))(hy:ρ y= .raw (.int k' n)):qop P ρ U o=some (.raw (.int k (max m n))):=by
 have e:(if n>m then n else m)=max m n:=by split<;>omega
 simp[qop,zfd,ho,hc,ha,Op.operands,Call.operands,hx,hy,zdm,execOp,zce,resolve,invoke,builtin,Builtin.max_,Builtin.max2,val?,zoe,zkn,zjr,e];simp[Pure.pure,Bind.bind,Sem.bind,val?,zoe,zkn,zjr]
theorem q_min {x:Operand} {k:IntKind} {m:Int} (ho:o.op= .call c)(hc:c.callee= .builtin .min)(ha:c.args= #[x,y])(hx:ρ x= .raw (.int k m))(hy:ρ y= .raw (.int k' n)):qop P ρ U o=some (.raw (.int k (min m n))):=by
 have e:(if n<m then n else m)=min m n:=by split<;>omega
 simp[qop,zfd,ho,hc,ha,Op.operands,Call.operands,hx,hy,zdm,execOp,zce,resolve,invoke,builtin,Builtin.min_,Builtin.min2,val?,zoe,zkn,zjr,e];simp[Pure.pure,Bind.bind,Sem.bind,val?,zoe,zkn,zjr]
theorem zdf {t b:Bool} (h:qop P ρ U o=some (.raw (.bool t)))(e:t=b):qop P ρ U o=some (.raw (.bool b)):=by rw[h,e]
end
section
variable {IT:IterP} {P:Program} {W:Owed} {k0:Nat}
theorem zsg {U:St} {sz m:Nat} {t tx:TypeId} {ds:List AV} {st:Room} (h:t=tx/\ ds.length=m*sz/\ 0<sz):qae P U sz t tx (.list m ds st)=some (m,ds):=by simp only[qae,if_pos h]
theorem z4t {ρ:Operand->AV} {U:St} {o:Oper} {c:Call} {x y:Operand} {t tx e:TypeId} {i:TypeInfo} {z:Value} {n m sz:Nat} {cs ds:List AV} (ho:o.op= .call c)(hc:c.callee= .builtin .append)(ha:c.args.toList=[x,y])(ht:c.argTypes.toList=[t,tx])
 (hx:ρ x= .list n cs .full) (hu:P.underlying t=some (.slice e)) (hi:P.info? e=some i) (hz:i.zero=some z) (hsz:i.size=sz) (hs:qae P U sz t tx (ρ y)=some (m,ds)) (h1:0<sz/\ z.cells.size=sz/\ 0<m) (h2:cs.length=n*sz/\ n+m<=maxLen/\ (n+m)*i.bytes<=140737488355328):
 zvc P ρ U o=some (.bsl U.boxes.length 0 (n+m) sz false,{U with boxes:=U.boxes++[(e,cs++ds)]}):=by
 subst hsz;have hnn:zta (ρ x)=false:=by rw[hx];rfl
 have hnn2:zta (.list n cs .full)=false:=rfl;simp only[zvc,ho,hc,ha,ht,hnn,hnn2,Bool.false_eq_true,if_false,zoz,hu,hi,hz,hs,if_pos h1,hx,if_pos h2]
end
def shz (n:Nat):FZ:=(fun s off=> .ptr (n+s) off,fun s off k sz=> .bsl (n+s) off k sz false)
def zgj (n:Nat)(bs:List (TypeId×List AV)):List (TypeId×List AV):=bs.map fun b=>(b.1,zv 0 (shz n) b.2)
theorem z4i {IT:IterP} (hIT:ITMono IT) {P:Program} {f:FuncId} {args args':List AV} {r:AV} {bs:List (TypeId×List AV)} (h:Snd IT P f args' St.empty r ⟨bs,[],[],0,false⟩)(hargs:stripL args=args')(hok:zab 0 args=true)(U:St):
 Snd IT P f args U (zgv 0 (shz U.boxes.length) r) {U with boxes:=U.boxes++zgj U.boxes.length bs}:=by
 refine⟨h.1,fun X vs hI hr=> ?_⟩;subst hargs;have h0:zbe IT ⟨X.F,[],[],[],X.w,fun _=>False,fun _ _=>False⟩ (stripL args) vs:=zew (X:=X) (Y:=⟨X.F,[],[],[],X.w,fun _=>False,fun _ _=>False⟩) hIT rfl rfl args vs (.inl hok) hr;refine(h.2 ⟨X.F,[],[],[],X.w,fun _=>False,fun _ _=>False⟩ vs (zsn hI) h0).mono ?_;rintro e w' ⟨v,Y,rfl,rfl,hE,hIY,hv⟩;have hκl:Y.κ.length=bs.length:=hIY.κlen;have hXl:=hI.κlen;have hl:Y.lens=[]:=hIY.lens;have hnew: ∀b∈Y.κ,X.w.heap.size<=b:=fun b hb=>by
  rcases hE.κnew b hb with h|h
  ·simp at h
  ·exact h
 have hblk: ∀b,b<X.w.heap.size->Y.w.heap[b]? =X.w.heap[b]? :=fun b hb=>hE.frame b hb (by simp) (by simp);have hFn: ∀b i,Y.F b i->X.F b i \/X.w.heap.size<=b:=fun b i hf=>by
  rcases hE.Fnew b i hf with h|h|⟨q,hq,_⟩|h
  ·exact .inl h
  ·exact .inr h
  ·simp at hq
  ·simp at h
 have hX:Ext X ⟨Y.F,X.κ++Y.κ,X.β,X.lens,Y.w,X.O,X.C⟩:={
  os:=hE.os,tape:=hE.tape,output:=hE.output,size:=hE.size,drawn:=hE.drawn,F:=hE.F,cell:=hE.cell
  κ :=fun s b hs=>by
   show(X.κ++Y.κ)[s]? =some b
   rw[getElem?_append_left (List.getElem?_eq_some_iff.1 hs).1];exact hs
  lens:=fun s L h=>⟨L,h,le_refl _,fun _=>rfl⟩
  blk:=fun s b hs cur t f h=>⟨cur,(hblk b (hI.κlt (mem_of_getElem? hs))).trans h,rfl⟩
  szs:=Szs.old hblk
  frame:=fun b hb _ _=>hblk b hb
  κnew:=fun b hb=>by
   rcases mem_append.1 hb with hb|hb
   ·exact .inl hb
   ·exact .inr (hnew b hb)
  βnew:=fun r h=> .inl ⟨r,h,rfl⟩
  O:=rfl
  C:=rfl
  Fnew:=fun b i hf=>(hFn b i hf).imp id .inl}
 have hnk: ∀s b,Y.κ[s]? =some b->(X.κ++Y.κ)[U.boxes.length+s]? =some b:=fun s b hs=>by
  rw[getElem?_append_right (by omega),show U.boxes.length+s-X.κ.length=s by omega];exact hs
 have hg:(∀s off v,Rep IT Y (.ptr s off) v->Rep IT ⟨Y.F,X.κ++Y.κ,X.β,X.lens,Y.w,X.O,X.C⟩ ((shz U.boxes.length).1 s off) v)/\
  ∀s off n sz f v,Rep IT Y (.bsl s off n sz f) v->Rep IT ⟨Y.F,X.κ++Y.κ,X.β,X.lens,Y.w,X.O,X.C⟩ ((shz U.boxes.length).2 s off n sz) v:=by
  refine⟨?_,?_⟩
  ·rintro s off v ⟨b,hb,rfl⟩;exact⟨b,hnk s b hb,rfl⟩
  ·rintro s off n sz f v ⟨b,cap,cur,t,hb,rfl,hcap,hful,hrow⟩;exact⟨b,cap,cur,t,hnk s b hb,rfl,hcap,(fun h=>by cases h),hrow⟩
 have hrep:=zjg (X:=Y) (Y:=⟨Y.F,X.κ++Y.κ,X.β,X.lens,Y.w,X.O,X.C⟩) (m:=0) hIT (fun _ _ h=>h) rfl (fun s hs=>by omega) hg;have hrepL:=zcx (X:=Y) (Y:=⟨Y.F,X.κ++Y.κ,X.β,X.lens,Y.w,X.O,X.C⟩) (m:=0) hIT (fun _ _ h=>h) rfl (fun s hs=>by omega) hg;refine⟨v,⟨Y.F,X.κ++Y.κ,X.β,X.lens,Y.w,X.O,X.C⟩,rfl,rfl,hX,?_,hrep r v hv⟩;have old: ∀(s b:Nat),(X.κ++Y.κ)[s]? =some b->(X.κ[s]? =some b/\ s<U.boxes.length) \/(U.boxes.length<=s/\ Y.κ[s-U.boxes.length]? =some b):=fun s b h=>by
  rcases Nat.lt_or_ge s X.κ.length with hlt|hge
  ·rw[getElem?_append_left hlt] at h;exact .inl ⟨h,by omega⟩
  ·rw[getElem?_append_right hge,hXl] at h;exact .inr ⟨by omega,h⟩
 have upO: ∀s:Nat,s<U.boxes.length->(∃t:TypeId,U.boxes[s]? =some (t,[]))-> ∃t:TypeId,(U.boxes++zgj U.boxes.length bs)[s]? =some (t,[]):=fun s hs ⟨t,h⟩=>⟨t,by rw[getElem?_append_left hs];exact h⟩;have upN: ∀s:Nat,U.boxes.length<=s->(∃t:TypeId,bs[s-U.boxes.length]? =some (t,[]))-> ∃t:TypeId,(U.boxes++zgj U.boxes.length bs)[s]? =some (t,[]):=fun s hs ⟨t,h⟩=>⟨t,by
  rw[getElem?_append_right hs,zgj,getElem?_map,h];simp[zv]⟩
 refine {lens:=hI.lens,elems:=hI.elems,κlen:= ?_,κnd:= ?_,box:= ?_,κF:= ?_,βlen:=hI.βlen,βnd:=hI.βnd,βκ:= ?_,row:= ?_,Ok:= ?_,Fcell:=hIY.Fcell}
 ·show(X.κ++Y.κ).length=(U.boxes++zgj U.boxes.length bs).length
  simp[zgj];omega
 ·intro s s' b k1 k2 hne;rcases old s b k1 with⟨a1,b1⟩|⟨a1,b1⟩<;>rcases old s' b k2 with⟨a2,b2⟩|⟨a2,b2⟩
  ·exact(hI.κnd s s' b a1 a2 hne).imp (upO s b1) (upO s' b2)
  ·have:=hI.κlt (mem_of_getElem? a1);have:=hnew b (mem_of_getElem? b2);omega
  ·have:=hI.κlt (mem_of_getElem? a2);have:=hnew b (mem_of_getElem? b1);omega
  ·exact(hIY.κnd _ _ b b1 b2 (by omega)).imp (upN s a1) (upN s' a2)
 ·intro s b t cs hs hb;have hb:(U.boxes++zgj U.boxes.length bs)[s]? =some (t,cs):=hb;rcases old s b hs with⟨a1,b1⟩|⟨a1,b1⟩
  ·rw[getElem?_append_left b1] at hb;obtain⟨us,zs,u1,u2,u3⟩:=hI.box s b t cs a1 hb;exact⟨us,zs,(hblk b (hI.κlt (mem_of_getElem? a1))).trans u1,zao hIT hX _ _ u2,u3⟩
  ·rw[getElem?_append_right a1,zgj,getElem?_map] at hb;cases hbs:bs[s-U.boxes.length]? with
   |none=>rw[hbs] at hb;cases hb
   | some bx=>
    rw[hbs] at hb;simp only[Option.map_some,Option.some.injEq,Prod.mk.injEq] at hb;obtain⟨rfl,rfl⟩:=hb;obtain⟨us,zs,u1,u2,u3⟩:=hIY.box _ b bx.1 bx.2 b1 hbs;exact⟨us,zs,u1,hrepL _ _ u2,u3⟩
 ·intro s b t cs hs hb hne o hf;have hb:(U.boxes++zgj U.boxes.length bs)[s]? =some (t,cs):=hb;rcases old s b hs with⟨a1,b1⟩|⟨a1,b1⟩
  ·rw[getElem?_append_left b1] at hb;rcases hFn b o hf with h|h
   ·exact hI.κF s b t cs a1 hb hne o h
   ·have:=hI.κlt (mem_of_getElem? a1);omega
  ·rw[getElem?_append_right a1,zgj,getElem?_map] at hb;cases hbs:bs[s-U.boxes.length]? with
   |none=>rw[hbs] at hb;cases hb
   | some bx=>
    rw[hbs] at hb;simp only[Option.map_some,Option.some.injEq,Prod.mk.injEq] at hb;obtain⟨rfl,rfl⟩:=hb;refine hIY.κF _ b bx.1 bx.2 b1 hbs (fun e=>hne ?_) o hf;rw[e,zv]
 ·intro r hr' hm;rcases mem_append.1 hm with hm|hm
  ·exact hI.βκ r hr' hm
  ·have:=hI.βlt hr';have:=hnew _ hm;omega
 ·intro s q L hq hL;obtain⟨cur,fz,c1,c2,c3,c4,c5,c6,c7⟩:=hI.row s q L hq hL;have hlt:=hI.βlt (mem_of_getElem? hq);refine⟨cur,fz,(hblk _ hlt).trans c1,c2,c3,c4,c5,fun o hf=> ?_,c7⟩;rcases hFn _ o hf with h|h
  ·exact c6 o h
  ·omega
 ·intro b ho;obtain⟨⟨cs0,t0,f0,h0⟩,h2,h3,h4⟩:=hI.Ok b ho;have hlt:=hI.Olt ho;refine⟨⟨cs0,t0,f0,(hblk b hlt).trans h0⟩,fun hm=> ?_,h3,fun o hf=>(hFn b o hf).elim (h4 o) fun h=>by omega⟩;rcases mem_append.1 hm with hm|hm
  ·exact h2 hm
  ·have:=hnew _ hm;omega
def zck (n:Nat)(cs:List AV):AV:=if n=0 then .list 0 [] .full else .list n cs (.own 0)
def zcn (bs:List (TypeId×List AV))(e n sz:Nat):St:=⟨bs,if n=0 then[] else[n*sz],if n=0 then[] else[e],0,false⟩
theorem z7t {P:Program} {t e:TypeId} {i:TypeInfo} {z:Value} {n m sz:Nat} {cs ds:List AV} {st:Room} {bs:List (TypeId×List AV)} (hu:P.underlying t=some (.slice e))(hi:P.info? e=some i)(hz:i.zero=some z)(hsz:i.size=sz)(hzs:z.cells.size=sz)(h0:0<sz)
 (hcs:cs.length=n*sz) (hds:ds.length=m*sz) (hmax:n+m<=maxLen) (hb:(n+m)*i.bytes<=140737488355328):
 zfe P (zcn bs e n sz) t (zck n cs) (.list m ds st)=some (zck (n+m) (cs++ds),zcn bs e (n+m) sz):=by
 subst hsz;rcases Nat.eq_zero_or_pos m with rfl|hm
 ·have hd:ds=[]:=List.length_eq_zero_iff.1 (by omega);subst hd;rcases Nat.eq_zero_or_pos n with rfl|hn
  ·have hc:cs=[]:=List.length_eq_zero_iff.1 (by omega);subst hc;simp[zfe,zck,zcn,hu,hi,hz]
  ·have hn':n≠0:=by omega
   simp[zfe,zck,zcn,hu,hi,hz,hn']
 ·have hm':m≠0:=by omega
  have hnm:n+m≠0:=by omega
  rcases Nat.eq_zero_or_pos n with rfl|hn
  ·have hc:cs=[]:=List.length_eq_zero_iff.1 (by omega);subst hc;simp only[Nat.zero_add] at hmax hb;simp[zfe,zck,zcn,hu,hi,hz,hm',hds,hm,hzs,h0,hmax,hb]
  ·have hn':n≠0:=by omega
   simp[zfe,zck,zcn,hu,hi,hz,hm',hn',hds,hcs,hm,hzs,h0,hmax,hb,hn]
theorem zzy {P:Program} {ρ:Operand->AV} {U U':St} {o:Oper} {c:Call} {x y:Operand} {t:TypeId} {a:AV} (ho:o.op= .call c)(hc:c.callee= .builtin .append)(ha:c.args.toList=[x,y])(ht:c.argTypes.toList=[t,t])(h:zfe P U t (ρ x) (ρ y)=some (a,U')):aop P ρ U o=some (a,U'):=by
 simp[aop,qop,ho,hc,ha,ht,h]
theorem qbb {n:Nat} {cs:List AV} (hc:cloL cs=true)(h:n=0->cs=[]):zcw (zck n cs)= .list n cs .none:=by
 unfold zck;split
 ·rename_i h0;rw[h h0,h0];rfl
 ·rw[zcw,zdj cs hc]
theorem zei {k n:Nat} {cs:List AV} (hc:cloL cs=true):zbi k (zck n cs)=true:=by
 unfold zck;split
 ·rfl
 ·rw[zbi,zaf k cs hc]
variable {c:Bool} {G:Prop} {y:Code} {Q:AQ} {S S0 S1 S':List AV} {U1:St} {n0 n:Nat} {ops:Array Oper} {k':IntKind}
class Enc (α:Type) where
 inh:α
 cells:α->List AV
 cellsL:List α->List AV
 sz:Nat
 pos:0<sz
 nil:cellsL []=[]
 cons: ∀a l,cellsL (a::l)=cells a++cellsL l
 len: ∀a,(cells a).length=sz
 clo: ∀a,cloL (cells a)=true
section
variable {α:Type} [Enc α]
theorem Enc.cloL: ∀l:List α,Go.Ab.cloL (Enc.cellsL l)=true
 |[]=>by rw[Enc.nil];rfl
 |a::l=>by rw[Enc.cons,zeu,Enc.clo,Enc.cloL l];rfl
theorem Enc.lenL: ∀l:List α,(Enc.cellsL l).length=l.length*Enc.sz α
 |[]=>by rw[Enc.nil];simp
 |a::l=>by rw[Enc.cons,length_append,Enc.len,Enc.lenL l,length_cons,Nat.succ_mul,Nat.add_comm]
theorem Enc.app: ∀a b:List α,Enc.cellsL (a++b)=Enc.cellsL a++Enc.cellsL b
 |[],b=>by rw[Enc.nil];rfl
 |x::a,b=>by rw[cons_append,Enc.cons,Enc.cons,Enc.app a b,List.append_assoc]
theorem Enc.drop: ∀(l:List α) (i:Nat),(Enc.cellsL l).drop (i*Enc.sz α)=Enc.cellsL (l.drop i)
 |l,0=>by simp
 |[],i+1=>by simp[Enc.nil]
 | t::l,i+1=>by
  rw[Enc.cons,List.drop_succ_cons, <-Enc.drop l i,List.drop_append,Enc.len];have h:(i+1)*Enc.sz α=i*Enc.sz α+Enc.sz α:=Nat.succ_mul _ _;have:(i+1)*Enc.sz α-Enc.sz α=i*Enc.sz α:=by omega
  rw[this,List.drop_of_length_le (by rw[Enc.len];omega),List.nil_append]
theorem Enc.take (l:List α)(i:Nat):(Enc.cellsL l).take (i*Enc.sz α)=Enc.cellsL (l.take i):=by
 rcases Nat.le_or_ge i l.length with h|h
 ·have h1:=Enc.app (l.take i) (l.drop i);rw[List.take_append_drop] at h1;rw[h1,List.take_append_of_le_length (by rw[Enc.lenL,List.length_take,Nat.min_eq_left h];exact le_refl _)];exact List.take_of_length_le (by rw[Enc.lenL,List.length_take,Nat.min_eq_left h];exact le_refl _)
 ·rw[List.take_of_length_le h,List.take_of_length_le (by rw[Enc.lenL];exact Nat.mul_le_mul_right _ h)]
def ix (l:List α)(i:Int):α:=l.getD i.toNat Enc.inh
theorem Enc.at {l:List α} {i:Int} (h:0<=i/\ i<l.length):(Enc.cellsL l).drop (i.toNat*Enc.sz α)=Enc.cells (ix l i)++Enc.cellsL (l.drop (i.toNat+1)):=by
 have hi:i.toNat<l.length:=by omega
 rw[Enc.drop,List.drop_eq_getElem_cons hi,Enc.cons];simp[ix,hi]
theorem Enc.ne {l:List α} {i:Int} (h:0<=i/\ i<l.length):Enc.cellsL l≠[]:=by
 intro e;have:=Enc.lenL l;rw[e] at this;have h1:0<l.length:=by omega
 have h2:=Nat.mul_pos h1 (Enc.pos (α:=α));simp only[List.length_nil] at this;omega
end
def bs (l:List UInt8):ByteArray:=⟨l.toArray⟩
instance:Enc Int:=⟨0,fun x=>[.raw (.int .i64 x)],fun l=>l.map fun x=> .raw (.int .i64 x),1,by decide,rfl,fun _ _=>rfl,fun _=>rfl,fun _=>rfl⟩
instance:Enc UInt8:=⟨0,fun x=>[.raw (.int .u8 ((x.toNat:Nat):Int))],fun l=>l.map fun x=> .raw (.int .u8 ((x.toNat:Nat):Int)),1,by decide,rfl,fun _ _=>rfl,fun _=>rfl,fun _=>rfl⟩
instance:Enc (List UInt8):=⟨[],fun x=>[.raw (.string (bs x))],fun l=>l.map fun x=> .raw (.string (bs x)),1,by decide,rfl,fun _ _=>rfl,fun _=>rfl,fun _=>rfl⟩
instance:Enc Bool:=⟨false,fun x=>[.raw (.bool x)],fun l=>l.map fun x=> .raw (.bool x),1,by decide,rfl,fun _ _=>rfl,fun _=>rfl,fun _=>rfl⟩
section
variable {α β τ ρ:Type}
def chk (p:Prop) [Decidable p] (k:Option α):Option α:=if p then k else none
theorem zt {p:Prop} [Decidable p] {k:Option α} {r:α} (h:chk p k=some r):p/\ k=some r:=by
 unfold chk at h;split at h
 ·exact⟨‹_›,h⟩
 ·cases h
theorem zbs {p:Prop} [Decidable p] {k:Option α} (h:p):chk p k=k:=if_pos h
def zbl (e:α)(k:α->Option β):Option β:=k e
theorem zu {e:α} {k:α->Option β} {r:β} (h:zbl e k=some r): ∃x,e=x/\ k x=some r:=⟨e,rfl,h⟩
def zaa (x:Option α)(k:α->Option β):Option β:=match x with|some a=>k a|none=>none
theorem zr {x:Option α} {k:α->Option β} {r:β} (h:zaa x k=some r): ∃a,x=some a/\ k a=some r:=by
 cases x with
 |none=>cases h
 |some a=>exact⟨a,rfl,h⟩
@[simp] theorem bindE_some (a:α) (k:α->Option β):zaa (some a) k=k a:=rfl
theorem zah {A B:Option α} {r:α} (h:(bif c then A else B)=some r)(kt:c=true->A=some r->G)(kf:c=false->B=some r->G):G:=by
 cases c with
 |true=>exact kt rfl h
 |false=>exact kf rfl h
def zdg (x:Option (τ ⊕ ρ))(k:τ->Option ρ):Option ρ:=match x with|some (.inl t)=>k t|some (.inr y)=>some y|none=>none
@[simp] theorem cutE_inl (t:τ) (k:τ->Option ρ):zdg (some (.inl t)) k=k t:=rfl
@[simp] theorem cutE_inr (y:ρ) (k:τ->Option ρ):zdg (some (.inr y)) k=some y:=rfl
theorem zax {y r:ρ} {o:τ ⊕ ρ} (h:some (inr y)=some o)(hr: ∀y,o= .inr y->y=r):some y=some r:=by
 rw[hr y (Option.some.inj h).symm]
def zcf (body:β->Option (β ⊕ ρ)):Nat->β->Option ρ
 |0,_=>none
 |n+1,s=>match body s with|some (.inl s')=>zcf body n s'|some (.inr y)=>some y|none=>none
def zcu (body:β->α->Option (β ⊕ ρ)):List α->β->Option (β ⊕ ρ)
 |[],s=>some (.inl s)
 |x::xs,s=>match body s x with|some (.inl s')=>zcu body xs s'|some (.inr y)=>some (.inr y)|none=>none
end
section
variable {IT:IterP} {P:Program} {W:Owed} {k0:Nat}
theorem zaz {x:Code} {U:St} {τ ρ:Type} {FX:Option (τ ⊕ ρ)} {K:τ->Option ρ} {r:ρ} (h:zdg FX K=some r)(tops:List Nat)(upd:τ->List (Nat×AV))(D:τ->St)
 (hx: ∀o,FX=some o->(∀y,o= .inr y->y=r)->awp IT P W k0 x (ztf (fun S1 U1=> ∃t,o= .inl t/\ Wk k0 S1 U1 (zbg (zcl S tops) (upd t)) (D t)) Q) S U)
 (hk: ∀t,K t=some r->awp IT P W k0 y Q (zbg (zcl S tops) (upd t)) (D t)):awp IT P W k0 (.seq x y) Q S U:=by
 cases FX with
 |none=>cases h
 | some o=>
  refine .inl (zcb x ?_ _ _ (hx o rfl fun y e=>by subst e;exact Option.some.inj h));intro e S1 U1 hq;cases e with
  | normal=>
   obtain⟨t,rfl,hw⟩:=hq;exact⟨_,_,hw,hk t h⟩
  |exit id=>exact hq
  |ret=>exact hq
theorem zc {τ ρ:Type} {o:τ ⊕ ρ} {tops:List Nat} {upd:τ->List (Nat×AV)} {D:τ->St} (t:τ)(h:some (inl t)=some o)(hw:Wk n0 S1 U1 (zbg (zcl S0 tops) (upd t)) (D t)):
 ∃t,o= .inl t/\ Wk n0 S1 U1 (zbg (zcl S0 tops) (upd t)) (D t):=⟨t,(Option.some.inj h).symm,hw⟩
def loopQ {β ρ:Type} (n0:Nat)(T:β->List AV)(D:β->St)(p:β ⊕ ρ)(o:ρ)(Q:AQ):AQ
 | .normal,S,U=> ∃s,p= .inl s/\ Wk n0 S U (T s) (D s)
 |e,S,U=>(∃y,p= .inr y/\ (some y=some o->Q e S U)) \/Q e S U
theorem zec {x:Code} {U:St} {β ρ:Type} {body:β->Option (β ⊕ ρ)} {s0:β} {o:ρ} (h:zcf body n s0=some o)(tops:List Nat)(upd:β->List (Nat×AV))(D:β->St)
 (h0:Wk k0 S U (zbg (zcl S tops) (upd s0)) (D s0))
 (hs: ∀s p,body s=some p->awp IT P W k0 x (loopQ k0 (fun s=>zbg (zcl S tops) (upd s)) D p o Q) (zbg (zcl S tops) (upd s)) (D s)):awp IT P W k0 (.loop x) Q S U:=by
 have key: ∀(n:Nat) (s0:β) S1 U1,zcf body n s0=some o->Wk k0 S1 U1 (zbg (zcl S tops) (upd s0)) (D s0)->zpd (awp IT P W k0 x) Q k0 n S1 U1:=by
  intro n;induction n with
  |zero=>intro s0 S1 U1 h;cases h
  | succ n ih=>
   intro s0 S1 U1 h hw;rw[zcf] at h;cases hb:body s0 with
   |none=>rw[hb] at h;cases h
   | some p=>
    rw[hb] at h;refine⟨_,_,hw,zcb x ?_ _ _ (hs s0 p hb)⟩;intro e S2 U2 hq;cases e with
    | normal=>
     obtain⟨s,rfl,hw2⟩:=hq;exact ih s S2 U2 h hw2
    | exit id=>
     rcases hq with⟨y,rfl,hq⟩|hq
     ·exact hq h
     ·exact hq
    | ret=>
     rcases hq with⟨y,rfl,hq⟩|hq
     ·exact hq h
     ·exact hq
 exact⟨n,key n s0 S U h h0⟩
theorem zcj {β ρ:Type} {p:β ⊕ ρ} {tops:List Nat} {upd:β->List (Nat×AV)} {D:β->St} (s:β)(h:some (inl s)=some p)(hw:Wk n0 S1 U1 (zbg (zcl S0 tops) (upd s)) (D s)):
 ∃s,p= .inl s/\ Wk n0 S1 U1 (zbg (zcl S0 tops) (upd s)) (D s):=⟨s,(Option.some.inj h).symm,hw⟩
theorem zak {β ρ:Type} {p:β ⊕ ρ} {o y:ρ} {H:Prop} (h:some (inr y)=some p)(k:some y=some o->G):(∃y,p= .inr y/\ (some y=some o->G)) \/H:= .inl ⟨y,(Option.some.inj h).symm,k⟩
def z5d {β ρ:Type} (S0:List AV)(n0:Nat)(D:β->St)(p:β ⊕ ρ)(r:ρ)(Q:AQ):AQ
 | .normal,_,U=> ∃s,p= .inl s/\ zxs n0 U=true/\ zem n0 U=D s
 |e,_,U=>(∃y,p= .inr y/\ (some y=some r->zxs n0 U=true/\ Q e S0 (zem n0 U))) \/(zxs n0 U=true/\ Q e S0 (zem n0 U))
theorem zyz {ps:Array Tmp} {asg body:Code} {α β ρ:Type} {FB:β->α->Option (β ⊕ ρ)} {K:β->Option ρ} {r:ρ} (row:α->List AV)(D:β->St)
 (hs: ∀s x p,FB s x=some p->awp IT P W n0 asg (z0a (fun S1 U1=>awp IT P W U1.boxes.length body (z5d S n0 D p r Q) S1 U1)) (zix S ps (row x)) (D s))
 (he: ∀s,K s=some r->Q .normal S (D s)): ∀(xs:List α) (s0:β),zdg (zcu FB xs s0) K=some r->zey (fun k=>awp IT P W k asg) (fun k=>awp IT P W k body) ps S Q n0 (xs.map row) (D s0):=by
 intro xs;induction xs with
 |nil=>intro s0 h;exact he s0 h
 | cons x xs ih=>
  intro s0 h;rw[zcu] at h;cases hb:FB s0 x with
  |none=>rw[hb] at h;cases h
  | some p=>
   rw[hb] at h;simp only[List.map_cons,zey];refine zcb asg ?_ _ _ (hs s0 x p hb);intro e S1 U1 hq;cases e with
   | normal=>
    refine zcb body ?_ _ _ hq;intro e2 S2 U2 hq2;cases e2 with
    |normal=>obtain⟨s,rfl,q1,q2⟩:=hq2;exact⟨q1,by rw[q2];exact ih s h⟩
    |exit id=>
    rcases hq2 with⟨y,rfl,hq2⟩|hq2
    ·exact hq2 h
    ·exact hq2
    |ret=>
    rcases hq2 with⟨y,rfl,hq2⟩|hq2
    ·exact hq2 h
    ·exact hq2
   |exit id=>exact hq.elim
   |ret=>exact hq.elim
theorem zhw {f:Operand} {ps:Array Tmp} {asg body:Code} {U:St} {α β ρ:Type} {FB:β->α->Option (β ⊕ ρ)} {xs:List α} {s0:β} {K:β->Option ρ} {r:ρ} (h:zdg (zcu FB xs s0) K=some r)(row:α->List AV)(D:β->St)
 (hf:zbv S f= .iter (xs.map row)) (hl: ∀x,(row x).length=ps.size) (hna:zcg asg=true) (h0:U=D s0)
 (hs: ∀s x p,FB s x=some p->awp IT P W U.boxes.length asg (z0a (fun S1 U1=>awp IT P W U1.boxes.length body (z5d S U.boxes.length D p r Q) S1 U1)) (zix S ps (row x)) (D s))
 (he: ∀s,K s=some r->Q .normal S (D s)) (hps:Nat.ble ps.size 8=true:=by exact rfl):awp IT P W k0 (.rangeFunc f ps asg body) Q S U:=by
 refine .inl ⟨xs.map row,hf,hps,by simp[List.all_map];intro x _;exact hl x,hna,?_⟩;rw[h0];rw[h0] at hs;exact zyz row D hs he xs s0 h
theorem z5m {f:Operand} {ps:Array Tmp} {asg body:Code} {U:St} {α β ρ:Type} {FB:β->α->Option (β ⊕ ρ)} {xs:List α} {s0:β} {K:β->Option ρ} {r:ρ} (h:zdg (zcu FB xs s0) K=some r)(row:α->List AV)(D:β->St)(js hs:List Nat)(m:Nat) {g:Nat} {caps caps0:List AV} {bs bs':List (TypeId×List AV)}
 (hW:W=none) (hit:z7u P g caps0 bs (xs.map row) bs') (hent:Ent P g) (hf:zbv S f= .clos g caps) (hcaps:zv 0 (bwz js) caps=caps0) (hH:Hand U js hs m bs U1) (hfg:Fg (zv U.lens.length (gz hs) S) S') (hbk: ∀(i:Nat) (t:TypeId) (cs:List AV),bs[i]? =some (t,cs)-> ∃cs',bs'[i]? =some (t,cs'))
 (hl: ∀x,(row x).length=ps.size) (hna:zcg asg=true) (h0:U1=D s0)
 (zhn: ∀s x p,FB s x=some p->awp IT P W U.boxes.length asg (z0a (fun S1 U1=>awp IT P W U1.boxes.length body (z5d S' U.boxes.length D p r (qbq Q S js hs bs' U.boxes)) S1 U1)) (zix S' ps (row x)) (D s))
 (he: ∀s,K s=some r->Q .normal S (zhu js hs bs' U.boxes (D s))):awp IT P W k0 (.rangeFunc f ps asg body) Q S U:=
 .inr (⟨g,caps,js,hs,m,bs,bs',xs.map row,S',U1,hf,hH,hfg,hW,hna,by simp[List.all_map];intro x _;exact hl x,by rw[hcaps];exact hit,hent,hbk,by rw[h0];exact zyz row D zhn he xs s0 h⟩)
theorem zeh {β ρ:Type} {p:β ⊕ ρ} {D:β->St} (s:β)(h:some (inl s)=some p)(h1:zxs n0 U1=true)(h2:zem n0 U1=D s): ∃s,p= .inl s/\ zxs n0 U1=true/\ zem n0 U1=D s:=⟨s,(Option.some.inj h).symm,h1,h2⟩
theorem zet {c:Operand} {x:Code} {U:St} {t:Bool} (ht:t=true)(hc:zbv S c= .raw (.bool t))(k:awp IT P W k0 x Q S U):awp IT P W k0 (.cond c x y) Q S U:=⟨true,by rw[hc,ht],by rw[if_pos rfl];exact k⟩
theorem zev {c:Operand} {x:Code} {U:St} {t:Bool} (ht:t=false)(hc:zbv S c= .raw (.bool t))(k:awp IT P W k0 y Q S U):awp IT P W k0 (.cond c x y) Q S U:=⟨false,by rw[hc,ht],by rw[if_neg (by decide)];exact k⟩
theorem w_qs {Q:List AV->St->Prop} {o:Oper} {l:List Oper} {U:St} (a:AV) {a0:AV} (hg:o.guard=none)(hc:zda S o=none)(hy:zdb S o=none)(h:qop P (zbv S) U o=some a0)(ha:zcw a0=a)(hS:zi S o.dst a=S')
 (k:zca IT P W ops Q l S' U):zca IT P W ops Q (o::l) S U:=by
 simp only[zca,hg,zfo,hc,hy];exact .inl ⟨a,U,.inr (.inr (.inr (.inl ⟨a0,zbf h,ha.symm⟩))),by rw[hS];exact k⟩
end
section
variable {P:Program} {ρ:Operand->AV} {U:St} {o:Oper}
theorem q_idx {α:Type} [Enc α] {t e:TypeId} {x i:Operand} {l:List α} {st:Room} {k:IntKind} {n:Int} (hb:0<=n/\ n<l.length)(ho:o.op= .indexAddr t x i)(hx:ρ x= .list l.length (Enc.cellsL l) st)(hi:ρ i= .raw (.int k n))(hu:P.underlying t=some (.slice e))(hs:zfa P e=some (Enc.sz α)):
 qop P ρ U o=some (.iptr (Enc.cells (ix l n)++Enc.cellsL (l.drop (n.toNat+1)))):=by
 rw[q_index ho hx hi hu hs ⟨hb.1,hb.2,Enc.ne hb⟩,Enc.at hb]
end
theorem zbd {a:AV} (h:clo a=true):zcw a=a:=zzk a h
theorem zhz {cs:List AV} {st:Room} (h:cloL cs=true):zcw (.list n cs st)= .list n cs .none:=by rw[zcw,zdj cs h]
theorem zsz {cs:List AV} (h:cloL cs=true)(h0:n=0->cs=[]):zcw (zck n cs)= .list n cs .none:=qbb h h0
theorem zg {a b:AV} {l m:List AV} (h:zcw a=b)(k:stripL l=m):stripL (a::l)=b::m:=by rw[stripL,h,k]
theorem zbw {k:Nat} {cs:List AV} {st:Room} (h:cloL cs=true):zbi k (.list n cs st)=true:=by rw[zbi,zaf k cs h]
theorem za {k:Nat} {a:AV} {l:List AV} (h:zbi k a=true)(m:zab k l=true):zab k (a::l)=true:=by rw[zab,h,m];rfl
theorem znc {a:AV} {l:List AV} (h:clo a=true)(m:cloL l=true):cloL (a::l)=true:=by rw[cloL,h,m];rfl
theorem zp {cs:List AV} (h:cloL cs=true):clo (.agg cs)=true:=h
theorem z3p {cs:List AV} (h:cloL cs=true):clo (.list n cs .none)=true:=by simp[clo,h]
theorem Enc.z {α:Type} [Enc α] {l:List α}:l.length=0->Enc.cellsL l=[]:=fun h=>by rw[List.length_eq_zero_iff.1 h,Enc.nil]
theorem Enc.stripL {α:Type} [Enc α] (l:List α):Go.Ab.stripL (Enc.cellsL l)=Enc.cellsL l:=zdj _ (Enc.cloL l)
section
variable {P:Program} {ρ:Operand->AV} {U:St} {o:Oper}
theorem zic {α:Type} [Enc α] {l:List α} {cs:List AV} {st:Room} (h:qop P ρ U o=some (.list l.length cs st))(hc:Enc.cellsL l=cs):qop P ρ U o=some (.list l.length (Enc.cellsL l) st):=by rw[hc];exact h
def sub {α:Type} (l:List α)(i j:Int):List α:=(l.drop i.toNat).take (j.toNat-i.toNat)
theorem q_lenO {α:Type} [Enc α] {c:Call} {x:Operand} {t:TypeId} {l:List α} (ho:o.op= .call c)(hc:c.callee= .builtin .len)(ha:c.args.toList=[x])(hx:ρ x=zck l.length (Enc.cellsL l))(ht:c.argTypes.toList=[t]) {e:TypeId} (hu:P.underlying t=some (.slice e)):qop P ρ U o=some (.raw (.int .i64 (l.length:Int))):=by
 have:qef P t (zck l.length (Enc.cellsL l))=some (.raw (.int .i64 (l.length:Int))):=by
  unfold zck;split
  ·rename_i h0;simp[qef,hu,h0]
  ·simp[qef,hu]
 simp[qop,ho,hc,ha,ht,hx,this]
theorem zmj {α:Type} [Enc α] {t e:TypeId} {i:TypeInfo} {z:Value} {st:Room} {bs:List (TypeId×List AV)} {a b:List α} {by':Nat} (hb:(a.length+b.length)*by'<=140737488355328)(hu:P.underlying t=some (.slice e))(hi:P.info? e=some i)(hz:i.zero=some z)(hsz:i.size=Enc.sz α)(hzs:z.cells.size=Enc.sz α)(hby:i.bytes=by'/\ 0<by'):
 zfe P (zcn bs e a.length (Enc.sz α)) t (zck a.length (Enc.cellsL a)) (.list b.length (Enc.cellsL b) st)=some (zck (a++b).length (Enc.cellsL (a++b)),zcn bs e (a++b).length (Enc.sz α)):=by
 have hm:a.length+b.length<=maxLen:=by
  have h1:a.length+b.length<=(a.length+b.length)*by':=Nat.le_mul_of_pos_right _ hby.2
  have h2:140737488355328<=maxLen:=by decide
  omega
 rw[z7t hu hi hz hsz hzs Enc.pos (Enc.lenL a) (Enc.lenL b) hm (by rw[hby.1];exact hb),length_append,Enc.app]
end
section
variable {IT:IterP} {P:Program} {W:Owed} {k0:Nat}
theorem qhn {Q:List AV->St->Prop} {l:List Oper} {U U':St} {ps:Pend} (hn:U.boxes.length=n)(hσ:zlp U ps=U')(hS:zno n ps S=S')(k:zca IT P W ops Q l S' U'):
 zej IT P ops U (fun S' ps=>zca IT P W ops Q l (zno U.boxes.length ps S') (zlp U ps)) [] S ps:=by
 show zca IT P W ops Q l (zno U.boxes.length ps S) (zlp U ps);rw[hn,hσ,hS];exact k
end
theorem zan {b:TypeId×List AV} {l:List (TypeId×List AV)} (h:zab n b.2=true)(k:(l.all fun bx=>zab n bx.2)=true):((b::l).all fun bx=>zab n bx.2)=true:=by rw[List.all_cons,h,k];rfl
theorem zcm {U:St} (h:((U.boxes.take n).all fun bx=>zab n bx.2)=true):zxs n U=true:=h
theorem zdl {P:Program} {fn:Func} {U:St} {a:AV} {R:Type} {y r:R} (E:R->AV)(hr:some y=some r)(h:zar P fn U S=some a)(hok:zbi 0 a=true)(hs:zcw a=E y):ztl P fn (E r) .ret S U:=by
 cases hr;exact qhi h hok hs
def zlu (k:IntKind)(x y:Int):Int:=k.wrap ((BitVec.ofInt k.bits x&&&BitVec.ofInt k.bits y).toNat:Int)
def orI (k:IntKind)(x y:Int):Int:=k.wrap ((BitVec.ofInt k.bits x|||BitVec.ofInt k.bits y).toNat:Int)
def xorI (k:IntKind)(x y:Int):Int:=k.wrap ((BitVec.ofInt k.bits x^^^BitVec.ofInt k.bits y).toNat:Int)
def zfq (k:IntKind)(x y:Int):Int:=x.fdiv (2^min y.toNat k.bits)
def zor (k:IntKind)(x y:Int):Int:=k.wrap (x*2^min y.toNat k.bits)
section
variable {P:Program} {ρ:Operand->AV} {U:St} {o:Oper}
theorem qem {x y:Operand} {t:TypeId} {c} {k:IntKind} {m n:Int} (g:0<=n)(ho:o.op= .binOp .shr t x y c)(hx:ρ x= .raw (.int k m))(hy:ρ y= .raw (.int k' n)):qop P ρ U o=some (.raw (.int k (zfq k m n))):=by
 have h: ¬n<0:=by omega
 simp[qop,zfd,ho,Op.operands,hx,hy,zdm,execOp,zce,eqGuard,binOp,Op.shift,h,zfq];rfl
theorem q_shl {x y:Operand} {t:TypeId} {c} {k:IntKind} {m n:Int} (g:0<=n)(ho:o.op= .binOp .shl t x y c)(hx:ρ x= .raw (.int k m))(hy:ρ y= .raw (.int k' n)):qop P ρ U o=some (.raw (.int k (zor k m n))):=by
 have h: ¬n<0:=by omega
 simp[qop,zfd,ho,Op.operands,hx,hy,zdm,execOp,zce,eqGuard,binOp,Op.shift,h,zor];rfl
theorem zza {t e:TypeId} {x i:Operand} {len s off sz:Nat} {k:IntKind} {n:Int} (hb:0<=n/\ n<len)(ho:o.op= .indexAddr t x i)(hx:ρ x= .ptr s off)(hi:ρ i= .raw (.int k n))(hu:P.underlying t=some (.array len e))(hs:zfa P e=some sz):
 qop P ρ U o=some (.ptr s (off+n.toNat*sz)):=by
 simp only[qop,ho,hx,hi,zgy,hu,hs,if_pos hb,z8b]
end
open Classical in
noncomputable def z6n {α:Type} (p:Prop)(k:Option α):Option α:=if p then k else none
theorem zyl {α:Type} {p:Prop} {k:Option α} {r:α} (h:z6n p k=some r):p/\ k=some r:=by
 unfold z6n at h;split at h
 ·exact⟨‹_›,h⟩
 ·cases h
theorem z5g {α:Type} {p:Prop} {k r:Option α} (h:p)(hk:k=r):z6n p k=r:=by unfold z6n;rw[if_pos h];exact hk
theorem znt {IT:IterP} {P:Program} {W:Owed} {α:Type} {row:α->List AV} {rows:List α} {x:α} {Q:List AV->St->Prop} {o:Oper} {l:List Oper} {S2:List AV} {U U2:St} {args:List AV} (hr:rows[U.out]? =some x)(hs:stripL args=row x)(hok:zab 0 args=true)(hni:zbx args=true) {G:Gen} (hW:W=some G)(hGl:G.l=n)(hGr:G.rows=rows.map row)(hg:o.guard=none)(hc:zda S o=none)(hy:zdb S o=some (n,args))(hst:U.stop=false)
 (h1:zi S o.dst (.raw (.bool true))=S1) (h2:zi S o.dst (.raw (.bool false))=S2) (e1:{U with out:=U.out+1}=U1) (e2:{U with stop:=true}=U2) (k1:zca IT P W ops Q l S1 U1) (k2:zca IT P W ops Q l S2 U2):zca IT P W ops Q (o::l) S U:=
 w_yield hg hc hy hW hGl hGr (by rw[getElem?_map,hr];rfl) hs hok hni hst (by rw[h1,e1];exact k1) (by rw[h2,e2];exact k2)
theorem z3y {v:Value} {l:List AV} (h:zbx l=true):zbx (.raw v::l)=true:=by simp[zbx,zjt,h]
theorem zqy (n:Nat) {P:Program} (hmix:P.follows .mixedOrders=true) {U:St} {a:AV} {g:FuncId} {fn f:Func} {c:Code} {caps:List AV} {S:List AV} {α:Type} {row:α->List AV} {rows:List α} (hr:zar P f U S=some a)(hm:zgf (frz U.boxes n) a= .clos g caps)(hf:P.funcs[g]? =some fn)(hb:fn.body=some c)(he:Ent P g)
 (hcl:cloL caps=true) (hne:rows.map row≠errRows) (h: ∀G:Gen,G.rows=rows.map row->awp (ITP P) P (some G) 0 c (z3n P fn rows.length) (zad fn (.yld G.l::caps)) St.empty):ztl P f (.iter (rows.map row)) .ret S U:=
 ⟨a,hr,qab (caps:=caps) hmix hne (qfy n hm) hf hb he (fun G hGr=>by rw[zdj _ hcl,List.length_map];exact h G hGr) (zaf 0 _ hcl)⟩
section
variable {α β τ ρ:Type}
theorem zal {p:Prop} [Decidable p] {k:Option α} {r:Option α} (h:p)(hk:k=r):chk p k=r:=by rw[zbs h];exact hk
theorem zaj {e:α} {k:α->Option β} {r:Option β} (h: ∀x,e=x->k x=r):zbl e k=r:=h e rfl
theorem ziw {A B:α} {r:α} (h:c=true)(k:A=r):(bif c then A else B)=r:=by rw[h];exact k
theorem zhf {A B:α} {r:α} (h:c=false)(k:B=r):(bif c then A else B)=r:=by rw[h];exact k
theorem bif_i {A B:α} {r:α} (kt:c=true->A=r)(kf:c=false->B=r):(bif c then A else B)=r:=by
 cases c with
 |true=>exact kt rfl
 |false=>exact kf rfl
theorem zai {x:Option α} {k:α->Option β} {r:Option β} (a:α)(h:x=some a)(hk:k a=r):zaa x k=r:=by rw[h];exact hk
theorem zbj {x:Option (τ ⊕ ρ)} {k:τ->Option ρ} {r:Option ρ} (t:τ)(h:x=some (.inl t))(hk:k t=r):zdg x k=r:=by rw[h];exact hk
theorem qbs {x:Option (τ ⊕ ρ)} {k:τ->Option ρ} {r:Option ρ} (y:ρ)(h:x=some (.inr y))(hk:some y=r):zdg x k=r:=by rw[h];exact hk
theorem zof {body:β->Option (β ⊕ ρ)} {s0:β} {o:ρ} (N:Nat)(f:Nat->β)(h0:s0=f 0)(hs: ∀i,i<N->body (f i)=some (.inl (f (i+1))))(he:body (f N)=some (.inr o))(hn:N<n):zcf body n s0=some o:=by
 have key: ∀k i n,i+k=N->k<n->zcf body n (f i)=some o:=by
  intro k;induction k with
  | zero=>
   intro i n hi hn;obtain rfl:i=N:=by omega
   match n,hn with
   |n+1,_=>rw[zcf,he]
  | succ k ih=>
   intro i n hi hn
   match n,hn with
   |n+1,_=>rw[zcf,hs i (by omega)];exact ih (i+1) n (by omega) (by omega)
 rw[h0];exact key N 0 n (by omega) hn
theorem loopC_i {τ:Type} {body:β->Option (β ⊕ (τ ⊕ ρ))} {K:τ->Option ρ} (N:Nat)(T:Nat->β)(R:Nat->Option ρ)(hn:N<n)(hs: ∀i,i<=N->(i<N/\ body (T i)=some (.inl (T (i+1)))/\ R i=R (i+1)) \/(∃y,body (T i)=some (.inr y)/\ zdg (some y) K=R i)):zdg (zcf body n (T 0)) K=R 0:=by
 have key: ∀k i n,i+k=N->k<n->zdg (zcf body n (T i)) K=R i:=by
  intro k;induction k with
  | zero=>
   intro i n hi hn;obtain rfl:i=N:=by omega
   match n,hn with
   | n+1,_=>
    rcases hs i (le_refl _) with⟨h,_⟩|⟨y,h1,h2⟩
    ·omega
    ·rw[zcf,h1];exact h2
  | succ k ih=>
   intro i n hi hn
   match n,hn with
   | n+1,_=>
    rcases hs i (by omega) with⟨_,h1,h2⟩|⟨y,h1,h2⟩
    ·rw[zcf,h1,h2];exact ih (i+1) n (by omega) (by omega)
    ·rw[zcf,h1];exact h2
 exact key N 0 n (by omega) hn
end
abbrev BS:=BitVec 256
def W64 (S:BS)(i:Nat):BitVec 64:=S.extractLsb' (64*i) 64
def wd (S:BS)(i:Nat):Int:=((W64 S i).toNat:Int)
inductive Tr where
 |mk (k:Nat) (s:BS) (mn mx:Int) (l:List Tr)
def Tr.k:Tr->Nat| .mk k _ _ _ _=>k
def Tr.s:Tr->BS| .mk _ s _ _ _=>s
def Tr.mn:Tr->Int| .mk _ _ m _ _=>m
def Tr.mx:Tr->Int| .mk _ _ _ m _=>m
def Tr.l:Tr->List Tr| .mk _ _ _ _ l=>l
theorem Tr.eta (t:Tr):t= .mk t.k t.s t.mn t.mx t.l:=by cases t;rfl
theorem Tr.sizeOf_l {t x:Tr} (h:x∈t.l):SizeOf.sizeOf x<SizeOf.sizeOf t:=by
 cases t with
 |mk k s mn mx l=>simp only[Tr.l] at h;have:=List.sizeOf_lt_of_mem h;simp;omega
mutual
def cells:Tr->List AV
 | .mk k s mn mx l=>[.raw (.int .u8 k),.raw (.int .u64 (wd s 0)),.raw (.int .u64 (wd s 1)),.raw (.int .u64 (wd s 2)),.raw (.int .u64 (wd s 3)),.raw (.int .i64 mn),.raw (.int .i64 mx),.list l.length (cellsL l) .none]
def cellsL:List Tr->List AV
 |[]=>[]
 |t::l=>cells t++cellsL l
end
def enc (t:Tr):AV:= .agg (cells t)
theorem qfm (t:Tr):cells t=[.raw (.int .u8 t.k),.raw (.int .u64 (wd t.s 0)),.raw (.int .u64 (wd t.s 1)),.raw (.int .u64 (wd t.s 2)),.raw (.int .u64 (wd t.s 3)),.raw (.int .i64 t.mn),.raw (.int .i64 t.mx),.list t.l.length (cellsL t.l) .none]:=by cases t;simp[cells,Tr.k,Tr.s,Tr.mn,Tr.mx,Tr.l]
mutual
theorem zpl: ∀t,zbx (cells t)=true
 | .mk k s mn mx l=>by simp[cells,zbx,zjt,zoa l]
theorem zoa: ∀l,zbx (cellsL l)=true
 |[]=>by simp[cellsL,zbx]
 | t::l=>by
  have h: ∀l m:List AV,zbx (l++m)=(zbx l&&zbx m):=fun l m=>by
   induction l with
   |nil=>simp[zbx]
   |cons a l ih=>rw[cons_append,zbx,zbx,ih,Bool.and_assoc]
  rw[cellsL,h,zpl t,zoa l];rfl
end
mutual
theorem z2e: ∀t,stripL (cells t)=cells t
 | .mk k s mn mx l=>by simp[cells,stripL,zcw,zht l]
theorem zht: ∀l,stripL (cellsL l)=cellsL l
 |[]=>by simp[cellsL,stripL]
 | t::l=>by
  rw[cellsL,zlg,List.map_append, <-zlg, <-zlg,z2e t,zht l]
end
mutual
theorem zzg: ∀t,cloL (cells t)=true
 | .mk k s mn mx l=>by simp[cells,cloL,clo,ztp l]
theorem ztp: ∀l,cloL (cellsL l)=true
 |[]=>by simp[cellsL,cloL]
 |t::l=>by rw[cellsL,zeu,zzg t,ztp l];rfl
end
theorem z8l (t:Tr):zjt (enc t)=true:=by rw[enc,zjt];exact zpl t
mutual
def pre:Tr->List Tr
 | .mk k s mn mx l=> .mk k s mn mx l::zdn l
def zdn:List Tr->List Tr
 |[]=>[]
 |t::l=>pre t++zdn l
end
theorem ziv (t:Tr):pre t=t::zdn t.l:=by cases t;simp[pre,Tr.l]
theorem zlx: ∀(ts:List Tr) (i:Nat) (hi:i<ts.length),(zdn (ts.take (i+1))).length=(zdn (ts.take i)).length+(pre ts[i]).length
 |[],i,hi=>by simp at hi
 |t::ts,0,hi=>by simp[zdn]
 | t::ts,i+1,hi=>by
  simp only[List.take_succ_cons,zdn,length_append,List.getElem_cons_succ,zlx ts i (by simpa using hi)];omega
theorem qdq: ∀ts:List Tr,ts.length<=(zdn ts).length
 |[]=>by simp[zdn]
 | t::ts=>by
  have:=qdq ts;cases t with
  |mk k s mn mx l=>simp[zdn,pre];omega
theorem zln: ∀ {ts:List Tr} {x:Tr},x∈ts->(pre x).length<=(zdn ts).length
 |[],x,h=>by simp at h
 | t::ts,x,h=>by
  simp only[zdn,length_append];rcases mem_cons.1 h with rfl|h
  ·omega
  ·have:=zln h;omega
def zmh (least most:Int):Bool:= !(decide (least<0)||decide (least>16)||decide (least=1)&&decide (most=1))&&(decide (most= -1)||decide (most>=1)&&decide (most<=16)&&decide (most>=least))
def qec (s:BS):AV:= .agg [.raw (.int .u64 (wd s 0)),.raw (.int .u64 (wd s 1)),.raw (.int .u64 (wd s 2)),.raw (.int .u64 (wd s 3))]
theorem wd_inj {A B:BS} (h: ∀i,i<4->wd A i=wd B i):A=B:=by
 apply BitVec.eq_of_getLsbD_eq;intro j hj;have h4:j/64<4:=by omega
 have h2:=h (j/64) h4;have h3:W64 A (j/64)=W64 B (j/64):=by
  apply BitVec.eq_of_toNat_eq;unfold wd at h2;omega
 have h5:=congrArg (fun x:BitVec 64=>x.getLsbD (j%64)) h3;have hlt:j%64<64:=Nat.mod_lt _ (by decide);simp only[W64,BitVec.getLsbD_extractLsb',hlt,decide_true,Bool.true_and] at h5;rwa[show 64*(j/64)+j%64=j by omega] at h5
theorem qaq (S T:BS):(wd S 0==wd T 0&&wd S 1==wd T 1&&wd S 2==wd T 2&&wd S 3==wd T 3)=decide (S=T):=by
 by_cases h:S=T
 ·subst h;simp
 ·simp only[h,decide_false];cases hb:(wd S 0==wd T 0&&wd S 1==wd T 1&&wd S 2==wd T 2&&wd S 3==wd T 3) with
  |false=>rfl
  | true=>
   simp only[Bool.and_eq_true,beq_iff_eq] at hb;refine absurd (wd_inj fun i hi=> ?_) h
   match i,hi with
   |0,_=>exact hb.1.1.1
   |1,_=>exact hb.1.1.2
   |2,_=>exact hb.1.2
   |3,_=>exact hb.2
def z1e (t:Tr)(k:Nat):Bool:=t.l.any fun y=>decide (y.k=k)
def oddT (t:Tr):Bool:=((t.k:Int) !=2&&decide (t.s≠0#256))||((t.k:Int) !=5&&(t.mn !=0||t.mx !=0))||(decide ((t.k:Int)<3)&&decide ((t.l.length:Int)>0))
def zex (t:Tr):Bool:= !oddT t&&(bif (t.k:Int)==1 then true else bif (t.k:Int)==2 then decide (t.s≠0#256) else bif (t.k:Int)==3 then decide ((t.l.length:Int)>1)&& !z1e t 1&& !z1e t 3
 else bif (t.k:Int)==4 then decide ((t.l.length:Int)>1)&& !z1e t 4 else bif (t.k:Int)==5 then(t.l.length:Int)==1&&zmh t.mn t.mx&& !z1e t 1 else(t.k:Int)==6&&(t.l.length:Int)==1)
theorem oddT_mk (k:Nat)(s:BS)(mn mx:Int)(ts:List Tr):oddT (.mk k s mn mx ts)=(((k:Int) !=2&&decide (s≠0#256))||((k:Int) !=5&&(mn !=0||mx !=0))||(decide ((k:Int)<3)&&decide ((ts.length:Int)>0))):=rfl
theorem z0k (k:Nat)(s:BS)(mn mx:Int)(ts:List Tr):zex (.mk k s mn mx ts)=(!oddT (.mk k s mn mx ts)&&(bif (k:Int)==1 then true else bif (k:Int)==2 then decide (s≠0#256) else bif (k:Int)==3 then decide ((ts.length:Int)>1)&& !z1e (.mk k s mn mx ts) 1&& !z1e (.mk k s mn mx ts) 3
 else bif (k:Int)==4 then decide ((ts.length:Int)>1)&& !z1e (.mk k s mn mx ts) 4 else bif (k:Int)==5 then(ts.length:Int)==1&&zmh mn mx&& !z1e (.mk k s mn mx ts) 1 else(k:Int)==6&&(ts.length:Int)==1)):=rfl
def zgd (t:Tr):Bool:=decide ((pre t).length<=10000)
def zff (t:Tr):Bool:=zgd t&&(pre t).all zex
def z5q (t:Tr):Int:=if zgd t=true then(pre t).length else 10001
def zxi (t:Tr):Int:=if zgd t=true then(pre t).countP (fun x=>decide (x.k=6)) else 10001
mutual
def z2w:Tr->Int
 | .mk k s mn mx ts=>min (if k=5 then((if k=2 then 1 else 0)+zpc ts)*min (if mx= -1 then max (max mn 0) 1 else max (max mn 0) mx) 10001 else(if k=2 then 1 else 0)+zpc ts) 10001
def zpc:List Tr->Int
 |[]=>0
 |t::l=>z2w t+zpc l
end
theorem z0j: ∀(t:Tr),t.l.length<(pre t).length
 | .mk k s mn mx ts=>by
  have: ∀l:List Tr,l.length<=(zdn l).length:=fun l=>by
   induction l with
   |nil=>simp[zdn]
   |cons a l ih=>rw[zdn,length_append,length_cons];rw[ziv];simp;omega
  simp[pre,Tr.l];have:=this ts;omega
theorem ztm {t x:Tr} (h:x∈pre t):(pre x).length<=(pre t).length:=by
 have key: ∀n,(∀t:Tr,SizeOf.sizeOf t<=n-> ∀x∈pre t,(pre x).length<=(pre t).length):=by
  intro n;induction n with
  |zero=>intro t ht;cases t;simp at ht
  | succ n ih=>
   intro t ht x hx;rw[ziv] at hx;rcases mem_cons.1 hx with rfl|hx
   ·exact le_refl _
   ·have hl: ∀l:List Tr,(∀y∈l,SizeOf.sizeOf y<=n)-> ∀x∈zdn l,(pre x).length<=(zdn l).length:=by
     intro l;induction l with
     |nil=>intro _ x hx;simp[zdn] at hx
     | cons a l ihl=>
      intro hs x hx;rw[zdn] at hx⊢;rw[length_append];rcases mem_append.1 hx with hx|hx
      ·have:=ih a (hs a (by simp)) x hx;omega
      ·have:=ihl (fun y hy=>hs y (by simp[hy])) x hx;omega
    have:=hl t.l (fun y hy=>by have:=Tr.sizeOf_l hy;omega) x hx;rw[ziv t,length_cons];omega
 exact key _ t (le_refl _) x h
theorem qdv (l:List Tr)(i:Nat)(hi:i<l.length):zpc (l.take (i+1))=zpc (l.take i)+z2w l[i]:=by
 have happ: ∀a b,zpc (a++b)=zpc a+zpc b:=fun a b=>by
  induction a with
  |nil=>simp[zpc]
  |cons x a ih=>rw[cons_append,zpc,zpc,ih,Int.add_assoc]
 rw[List.take_succ_eq_append_getElem hi,happ];simp[zpc]
theorem qah: ∀t,z2w t<=10001
 | .mk k s mn mx ts=>by rw[z2w];exact Int.min_le_right _ _
mutual
theorem zqx: ∀t,0<=z2w t
 | .mk k s mn mx ts=>by
  have hl:=zji ts;rw[z2w];have h0:0<=(if k=2 then 1 else 0)+zpc ts:=by split<;>omega
  split
  ·have:0<=((if k=2 then 1 else 0)+zpc ts)*min (if mx= -1 then max (max mn 0) 1 else max (max mn 0) mx) 10001:=Int.mul_nonneg h0 (by split<;>omega);omega
  ·omega
theorem zji: ∀l,0<=zpc l
 |[]=>by simp[zpc]
 |t::l=>by have h1:=zqx t;have h2:=zji l;rw[zpc];omega
end
theorem z2s: ∀l,zpc l<=10001*l.length
 |[]=>by simp[zpc]
 |t::l=>by have h1:=qah t;have h2:=z2s l;rw[zpc,length_cons];omega
mutual
def zro:Tr->Tr->Bool
 | .mk k s mn mx l,.mk k' s' mn' mx' l'=>(k:Int)==k'&&decide (s=s')&&mn==mn'&&mx==mx'&&zwo l l'
def zwo:List Tr->List Tr->Bool
 |[],[]=>true
 |x::a,y::b=>zro x y&&zwo a b
 |_,_=>false
end
def zbc:Tr:= .mk 0 0#256 0 0 []
def z5a:Tr:= .mk 1 0#256 0 0 []
def zsx (t:Tr):Bool:=zro t zbc||zff t
def zep (t:Tr):Tr:=if zff t=true then t else zbc
theorem zte {t:Tr} (h:zff t=true):(pre t).length<=10000:=by rw[zff,Bool.and_eq_true] at h;simpa[zgd] using h.1
theorem wd_zero (i:Nat):wd 0#256 i=0:=by simp[wd,W64]
def zku (kind without:Nat)(l:List Tr):List Tr:=l.flatMap fun x=>bif (x.k:Int)==kind then x.l else bif (x.k:Int)==without then[] else[x]
def zvn (kind:Nat)(l:List Tr)(none:Tr):Tr:=bif (l.length:Int)==0 then none else bif (l.length:Int)==1 then zep (l.headD none) else zep (Tr.mk kind 0#256 0 0 l)
def seqT (l:List Tr):Tr:=if(l.any fun x=>(x.k:Int)==0|| !zff x)=true then zbc else zvn 3 (zku 3 1 l) z5a
def orT (l:List Tr):Tr:=if(l.any fun x=> !zsx x)=true then zbc else zvn 4 (zku 4 0 l) zbc
theorem zme: ∀a b,zdn (a++b)=zdn a++zdn b
 |[],b=>by simp[zdn]
 |x::a,b=>by rw[cons_append,zdn,zdn,zme a b,List.append_assoc]
theorem zdh: ∀l:List Tr,l.length<=(zdn l).length
 |[]=>by simp[zdn]
 |x::l=>by have:=zdh l;rw[zdn,length_append,length_cons,ziv];simp;omega
theorem z9z (t:Tr):(zdn t.l).length<(pre t).length:=by rw[ziv];simp
theorem zkz (kind without:Nat): ∀l:List Tr,(zdn (zku kind without l)).length<=(zdn l).length
 |[]=>by simp[zku,zdn]
 | x::l=>by
  have h:=zkz kind without l;have hx:=z9z x;rw[zku,List.flatMap_cons,zme,length_append,zdn,length_append];have h2:(zdn (bif (x.k:Int)==kind then x.l else bif (x.k:Int)==without then[] else[x])).length<=(pre x).length:=by
   cases (x.k:Int)==kind<;>cases (x.k:Int)==without<;>simp[zdn]<;>omega
  rw[zku] at h;omega
theorem zml {x:Tr}: ∀ {l:List Tr},x∈l->(pre x).length<=(zdn l).length
 | y::l,h=>by
  rw[zdn,length_append];rcases mem_cons.1 h with rfl|h
  ·omega
  ·have:=zml h;omega
def zto (t:Tr)(lo hi:Int):Tr:=
 bif !zsx t||(!(lo==0&&hi==0)&& !(lo==1&&hi==1)&& !zmh lo hi) then zbc
 else bif (t.k:Int)==0&&decide (lo>0) then zbc
 else bif (lo==0&&hi==0)||(t.k:Int)==0||(t.k:Int)==1 then z5a
 else bif lo==1&&hi==1 then t else zep (.mk 5 0#256 lo hi [t])
def znh (t:Tr):Tr:=zep (.mk 6 0#256 0 0 [t])
def ofT (s:BS):Tr:=if s=0#256 then zbc else .mk 2 s 0 0 []
theorem qdj (k:Nat)(s:BS)(mn mx:Int)(t:Tr):(pre (.mk k s mn mx [t])).length=1+(pre t).length:=by simp[pre,zdn];omega
abbrev Sm:=Nat×Nat×Nat
abbrev MSt:=List Tr×Int×Int
def m4 (x:Sm):Int:=((x.2.2%4:Nat):Int)
def smc (x:Sm):List AV:=[.raw (.int .u8 x.1),.raw (.int .u8 x.2.1),.raw (.int .u8 x.2.2)]
def smcL:List Sm->List AV
 |[]=>[]
 |x::l=>smc x++smcL l
theorem zys (p:List Tr)(i:Nat):(zdn (p.take i)).length<=(zdn p).length:=by
 conv=>rhs;rw[<-List.take_append_drop i p]
 rw[zme,length_append];omega
def CR (t:Tr):Prop:=(pre t).all zex=true
def CRL (l:List Tr):Prop:=(zdn l).all zex=true
theorem qii (t:Tr):CR t↔zex t=true/\ CRL t.l:=by rw[CR,ziv,List.all_cons,Bool.and_eq_true];rfl
theorem qdo {t:Tr} (h:zex t=true):t.k=1 \/t.k=2 \/t.k=3 \/t.k=4 \/t.k=5 \/t.k=6:=by
 cases t with
 | mk k s mn mx l=>
  rw[z0k] at h;simp only[Tr.k];by_cases h1:k=1; · exact .inl h1
  by_cases h2:k=2; · exact .inr (.inl h2)
  by_cases h3:k=3; · exact .inr (.inr (.inl h3))
  by_cases h4:k=4; · exact .inr (.inr (.inr (.inl h4)))
  by_cases h5:k=5; · exact .inr (.inr (.inr (.inr (.inl h5))))
  by_cases h6:k=6; · exact .inr (.inr (.inr (.inr (.inr h6))))
  exfalso
  have e: ∀n:Nat,k≠n->((k:Int)==n)=false:=fun n hn=>by simp;omega
  rw[show((k:Int)==1)=false from e 1 h1,show((k:Int)==2)=false from e 2 h2,show((k:Int)==3)=false from e 3 h3,show((k:Int)==4)=false from e 4 h4,show((k:Int)==5)=false from e 5 h5,show((k:Int)==6)=false from e 6 h6] at h;simp at h
def grT (t:Tr):Nat:=(pre t).countP fun x=>decide (x.k=6)
def grL (l:List Tr):Nat:=(zdn l).countP fun x=>decide (x.k=6)
structure OkM (st:MSt)(i:Nat):Prop where
 cr:CRL st.1
 pos:zpc st.1<=(i:Int)*st.2.1
 gr:(grL st.1:Int)<=st.2.2
structure MT (t:Tr):Prop where
 cr:CR t
 pos:z2w t<=400
 gr:grT t<=9
 len:(pre t).length<=50
theorem MT.k0 {t:Tr} (h:MT t):t.k≠0:=by have:=qdo ((qii t).1 h.cr).1;omega
def CS (n:Nat)(t:Tr):Prop:=CR t/\ (pre t).length<=n
theorem MT.cs {t:Tr} (h:MT t):CS 50 t:=⟨h.cr,h.len⟩
theorem CR.k0 {t:Tr} (h:CR t):t.k≠0:=by have:=qdo ((qii t).1 h).1;omega
def z7h (c:Int):List AV:=[.raw (.int .u8 c)]
theorem z1h: ∀j:Nat,j<256->zfq .u8 (j:Int) 6=((j/64:Nat):Int)/\ zlu .u8 (j:Int) 63=((j%64:Nat):Int)/\ IntKind.u8.wrap (j:Int)=(j:Int):=by decide+kernel
theorem zzn {n:Nat} (h:n<2^64):IntKind.u64.wrap (n:Int)=(n:Int):=by
 simp only[IntKind.wrap,IntKind.bits,IntKind.signed];simp;omega
theorem wrap_u64 (w:BitVec 64):IntKind.u64.wrap ((w.toNat:Nat):Int)=((w.toNat:Nat):Int):=zzn w.isLt
theorem z1s (x:BitVec 64):BitVec.ofInt 64 ((x.toNat:Nat):Int)=x:=by
 apply BitVec.eq_of_toNat_eq;simp
theorem orI64 (x y:BitVec 64):orI .u64 (x.toNat:Int) (y.toNat:Int)=((x|||y).toNat:Int):=by
 show IntKind.u64.wrap (((BitVec.ofInt 64 (x.toNat:Int)|||BitVec.ofInt 64 (y.toNat:Int)).toNat:Nat):Int)=_;rw[z1s,z1s];exact wrap_u64 _
theorem qbm (a b:BS)(i:Nat):orI .u64 (wd a i) (wd b i)=wd (a|||b) i:=by
 unfold wd;rw[orI64];have:W64 a i|||W64 b i=W64 (a|||b) i:=by
  apply BitVec.eq_of_getLsbD_eq;intro j hj;simp only[W64,BitVec.getLsbD_or,BitVec.getLsbD_extractLsb',hj,decide_true,Bool.true_and]
 rw[this]
theorem qgx (w:BitVec 64)(r:Nat)(hr:r<64):(zlu .u64 (zfq .u64 ((w.toNat:Nat):Int) (r:Int)) 1==1)=w.getLsbD r:=by
 have hw:=w.isLt;have h1:zfq .u64 ((w.toNat:Nat):Int) (r:Int)=((w.toNat/2^r:Nat):Int):=by
  unfold zfq;rw[show min (r:Int).toNat IntKind.u64.bits=r from by simp[IntKind.bits];omega];rw[Int.fdiv_eq_ediv_of_nonneg _ (by exact_mod_cast Nat.zero_le _)]
  norm_cast
 rw[h1];have h2:w.toNat/2^r<2^64:=Nat.lt_of_le_of_lt (Nat.div_le_self _ _) hw
 show(IntKind.u64.wrap (((BitVec.ofInt 64 ((w.toNat/2^r:Nat):Int)&&&BitVec.ofInt 64 1).toNat:Nat):Int)==1)=_
 have h3:(BitVec.ofInt 64 ((w.toNat/2^r:Nat):Int)&&&BitVec.ofInt 64 1).toNat=w.toNat/2^r%2:=by
  rw[BitVec.toNat_and];have e1:(BitVec.ofInt 64 ((w.toNat/2^r:Nat):Int)).toNat=w.toNat/2^r:=by
   rw[BitVec.ofInt_natCast,BitVec.toNat_ofNat];exact Nat.mod_eq_of_lt h2
  have e2:(BitVec.ofInt 64 1).toNat=1:=rfl;rw[e1,e2,Nat.and_one_is_mod]
 rw[h3];have h4:w.toNat/2^r%2<2:=Nat.mod_lt _ (by decide);have h5:IntKind.u64.wrap ((w.toNat/2^r%2:Nat):Int)=((w.toNat/2^r%2:Nat):Int):=zzn (Nat.lt_trans h4 (by decide));rw[h5,BitVec.getLsbD,Nat.testBit_eq_decide_div_mod_eq];generalize w.toNat/2^r%2=m
 rw[Bool.eq_iff_iff];simp only[beq_iff_eq,decide_eq_true_eq];omega
def elN (s:BS)(i:Nat):List Nat:=(List.range i).filter fun j=>s.getLsbD j
def els (s:BS):List Int:=(elN s 256).map fun(j:Nat)=>(j:Int)
theorem z5o (s:BS)(i:Nat):elN s (i+1)=elN s i++(if s.getLsbD i=true then[i] else[]):=by
 rw[elN,List.range_succ,List.filter_append];simp[elN,List.filter_cons]
theorem z9a (s:BS) {i:Nat} (h:s.getLsbD i=true): ∀k,i<k->(elN s k)[(elN s i).length]? =some i
 |0,hk=>by omega
 | k+1,hk=>by
  rw[z5o];by_cases e:i=k
  ·subst e;rw[if_pos h];simp
  ·have ih:=z9a s h k (by omega);rw[getElem?_append_left (List.getElem?_eq_some_iff.1 ih).1];exact ih
def zym (t:Tr):List AV:=[.raw (.int .u8 t.k),.raw (.int .u64 (wd t.s 0)),.raw (.int .u64 (wd t.s 1)),.raw (.int .u64 (wd t.s 2)),.raw (.int .u64 (wd t.s 3)),.raw (.int .i64 t.mn),.raw (.int .i64 t.mx),.list t.l.length (cellsL t.l) .none]
theorem zsa (t:Tr):cells t=zym t:=qfm t
instance:Enc Tr where
 inh:=zbc
 cells:=zym
 cellsL:=cellsL
 sz:=8
 pos:=by decide
 nil:=by simp[cellsL]
 cons a l:=by rw[cellsL,zsa]
 len _:=rfl
 clo t:=by rw[<-zsa];exact zzg t
theorem enc_eq (t:Tr):enc t= .agg (Enc.cells t):=by rw[enc,zsa];rfl
theorem z7e {E:Int} (g:0<=E)(s:BS)(mn mx:Int)(l:List Tr):AV.agg (Enc.cells (Tr.mk (Int.toNat E) s mn mx l))= .agg [.raw (.int .u8 E),.raw (.int .u64 (wd s 0)),.raw (.int .u64 (wd s 1)),.raw (.int .u64 (wd s 2)),.raw (.int .u64 (wd s 3)),.raw (.int .i64 mn),.raw (.int .i64 mx),.list l.length (cellsL l) .none]:=by
 show AV.agg (zym _)=_;simp only[zym,Tr.k,Tr.s,Tr.mn,Tr.mx,Tr.l,Int.toNat_of_nonneg g]
def qgy (t:Tr)(st:Room):AV:= .agg [.raw (.int .u8 t.k),.raw (.int .u64 (wd t.s 0)),.raw (.int .u64 (wd t.s 1)),.raw (.int .u64 (wd t.s 2)),.raw (.int .u64 (wd t.s 3)),.raw (.int .i64 t.mn),.raw (.int .i64 t.mx),.list t.l.length (cellsL t.l) st]
theorem z1q (t:Tr)(st:Room):zcw (qgy t st)= .agg (Enc.cells t):=by
 simp only[qgy,zcw,stripL,zht];rfl
def qip (s:BS):List AV:=[.raw (.int .u64 (wd s 0)),.raw (.int .u64 (wd s 1)),.raw (.int .u64 (wd s 2)),.raw (.int .u64 (wd s 3))]
instance:Enc BS where
 inh:=0#256
 cells:=qip
 cellsL l:=l.flatMap qip
 sz:=4
 pos:=by decide
 nil:=rfl
 cons _ _:=rfl
 len _:=rfl
 clo _:=rfl
instance:Enc Sm where
 inh:=(0,0,0)
 cells:=smc
 cellsL:=smcL
 sz:=3
 pos:=by decide
 nil:=by simp[smcL]
 cons _ _:=by simp[smcL]
 len _:=rfl
 clo _:=rfl
structure Rgx where
 b:Bool
 e:Bool
 t:Tr
def qio (r:Rgx):List AV:= .raw (.bool r.b):: .raw (.bool r.e)::zym r.t
instance:Enc Rgx where
 inh:=⟨false,false,zbc⟩
 cells:=qio
 cellsL l:=l.flatMap qio
 sz:=10
 pos:=by decide
 nil:=rfl
 cons _ _:=rfl
 len _:=rfl
 clo r:=by have:=Enc.clo r.t;exact this
def zmc (t:Tr):List AV:=[.agg (Enc.cells t)]
theorem z4w {α:Type} [Enc α] {l:List α} {i:Nat} (h:i<l.length):ix l (i:Int)=l[i]:=by simp[ix,h]
def nodeK (k:Int)(s:BS)(mn mx:Int)(l:List Tr)(st:Room):AV:= .agg [.raw (.int .u8 k),.raw (.int .u64 (wd s 0)),.raw (.int .u64 (wd s 1)),.raw (.int .u64 (wd s 2)),.raw (.int .u64 (wd s 3)),.raw (.int .i64 mn),.raw (.int .i64 mx),.list l.length (cellsL l) st]
theorem z2j {k:Int} (g:0<=k)(s:BS)(mn mx:Int)(l:List Tr)(st:Room):zcw (nodeK k s mn mx l st)= .agg (Enc.cells (Tr.mk k.toNat s mn mx l)):=by
 rw[z7e g];simp only[nodeK,zcw,stripL,zht]
end Go.Ab
