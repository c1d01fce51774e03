import Derived.Test.YtnoccnalocdldaaGreatDoorZdP
set_option linter.all false
open Sum (inl inr)
open Nat (le_refl zero_add)
open Option (map_some getD_some)
open List (mem_of_getElem? getElem?_append_left mem_append getElem?_append_right getElem?_map map_cons take_of_length_le)
namespace Go.Ab
open Go Go.RowKit Go.Fwd
variable {ops:Array Oper} {S S' args':List AV} {n0:Nat} {U':St} {Q:AQ} {K:List AV->Prop} {n:Int} {y:Operand} {c:Call} {k':IntKind}
section
variable {IT:IterP} {P:Program} {W:Owed} {k0:Nat}
theorem zlf {Q:List AV->St->Prop} {o:Oper} {l:List Oper} {U:St} {f:FuncId} {args:List AV} {r:AV} (hp:Pure IT P f args' r)(hg:o.guard=none)(hc:zcz S o=some (f,args))(hs:stripL args=args')(hok:zad 0 args=true)(hS:zaf S o.dst r=S')
 (k:zca IT P W ops Q l S' U):zca IT P W ops Q (o::l) S U:=w_call (by rw[hs];exact hp) hg hc hok hS k
def zau (S:List AV)(l:List (Nat×AV)):List AV:=l.foldl (fun S p=>S.set p.1 p.2) S
def zbo (S:List AV)(l:List Nat):List AV:=l.foldl (fun S p=>S.set p .top) S
def fgM:List Bool->List AV->List AV
 |b::m,a::l=>(bif b then a else .top)::fgM m l
 |[],l=>l
 |_,[]=>[]
theorem zqb: ∀(m:List Bool) (S:List AV),Fg S (fgM m S)
 |b::m,a::l=>⟨by cases b<;>simp,zqb m l⟩
 |[],l=>Fg.refl l
 |_::_,[]=>trivial
theorem zpj {U:St} (m:List Bool)(h:fgM m S=S')(hσ:U'=U):Wk n0 S U S' U':= .one<| .inl ⟨h▸zqb m S,.inl hσ⟩
theorem zdj {U:St} (m:List Bool)(n:Nat)(h:fgM m S=S')(hn:n0<=n)(h1:z0z n U=true)(h2:zad n S'=true)(h3:zfi n U=U'):Wk n0 S U S' U':= .one<| .inl ⟨h▸zqb m S,.inr ⟨n,hn,h1,h2,h3⟩⟩
theorem zqx {U:St} (m:List Bool)(n:Nat)(fs js:List Nat)(d:Nat)(hn:n0<=n)(hok:zcx U n js=true)(h:fgM m (zx U.lens.length (kz U.boxes U.lens.length n fs js d) S)=S')(hσ:zeo U U.lens.length n fs js d=U'):Wk n0 S U S' U':=
 .one<| .inr (.inl ⟨n,fs,js,d,hn,hok,h▸zqb m _,hσ⟩)
theorem z9h {U:St} (m:List Bool)(s:Nat) {t:TypeId} {cs:List AV} (hb:U.boxes[s]? =some (t,cs))(h:fgM m S=S')(hσ:U'={U with boxes:=U.boxes++[(t,[])]}):Wk n0 S U S' U':=
 .one<| .inr (.inr (.inl ⟨s,t,cs,hb,h▸zqb m _,hσ⟩))
theorem zhg {id:Nat} {U:St} (n:Nat)(h1:chk ops S.length n=true)(h2:zvr ops.toList=true)(h3:zep IT P ops U (fun S'=>zca IT P W ops (Q .normal) (ops.toList.drop n) S' U) (ops.toList.take n) S):awp IT P W k0 (.region id ops true) Q S U:= .inr (.inl (qpp n h1 h2 h3))
theorem qfu {id:Nat} {U:St} (n:Nat)(h1:chk ops S.length n=true)(h2:zvr ops.toList=true)(h3:zfa IT P ops U (fun S' ps=>zca IT P W ops (Q .normal) (ops.toList.drop n) (zoq U.boxes.length ps S') (znv U ps)) (ops.toList.take n) S []):awp IT P W k0 (.region id ops true) Q S U:= .inr (.inl ⟨n,h1,h2,h3⟩)
theorem qpl {U:St} {K:List AV->Pend->Prop} {o:Oper} {l:List Oper} {ps:Pend} {t:TypeId} {d:Tmp} (z:Value)(ho:o.op= .alloc t)(hdst:o.dst=some d)(hd:(o.dst.all fun d=>decide (d<S.length))=true)(hp:(ps.all fun p=>o.dst !=some p.1)=true)(hg:o.guard=none)(hz:ziv P t=some z)(hS:S.set d .top=S')(k:zfa IT P ops U K l S' (ps++[(d,t,z)])):zfa IT P ops U K (o::l) S ps:=⟨hd,hp,.inl ⟨hg,t,d,z,ho,hdst,hz,by rw[hS];exact k⟩⟩
theorem zsz {U:St} {K:List AV->Pend->Prop} {o:Oper} {l:List Oper} {ps:Pend} {a:AV} (hd:(o.dst.all fun d=>decide (d<S.length))=true)(hp:(ps.all fun p=>o.dst !=some p.1)=true)(hg:o.guard=none)(hc:zcz S o=none)(h:qop P (zby S) U o=some a)(hS:zaf S o.dst a=S')(k:zfa IT P ops U K l S' ps):zfa IT P ops U K (o::l) S ps:=by
 refine⟨hd,hp,.inr ?_⟩;simp only[hg,zjf,hc];exact⟨a,.inl h,by rw[hS];exact k⟩
theorem zor {U:St} {K:List AV->Pend->Prop} {o:Oper} {l:List Oper} {ps:Pend} {f:FuncId} {args:List AV} {r:AV} (hpu:Pure IT P f args' r)(hd:(o.dst.all fun d=>decide (d<S.length))=true)(hp:(ps.all fun p=>o.dst !=some p.1)=true)(hg:o.guard=none)(hc:zcz S o=some (f,args))(hs:stripL args=args')(hok:zad 0 args=true)(hS:zaf S o.dst r=S')(k:zfa IT P ops U K l S' ps):zfa IT P ops U K (o::l) S ps:=by
 refine⟨hd,hp,.inr ?_⟩;simp only[hg,zjf,hc];exact⟨r,hok,by rw[hs];exact hpu,by rw[hS];exact k⟩
theorem ziw {U:St} (h:K S):zep IT P ops U K [] S:=h
theorem qkr {U:St} {o:Oper} {l:List Oper} {a:AV} (hd:(o.dst.all fun d=>decide (d<S.length))=true)(hg:o.guard=none)(hc:zcz S o=none)(h:qop P (zby S) U o=some a)(hS:zaf S o.dst a=S')(k:zep IT P ops U K l S'):zep IT P ops U K (o::l) S:=by
 refine⟨hd,?_⟩;simp only[hg,zjf,hc];exact⟨a,.inl h,by rw[hS];exact k⟩
theorem qpy {U:St} {o:Oper} {l:List Oper} {f:FuncId} {args:List AV} {r:AV} (hp:Pure IT P f args' r)(hd:(o.dst.all fun d=>decide (d<S.length))=true)(hg:o.guard=none)(hc:zcz S o=some (f,args))(hs:stripL args=args')(hok:zad 0 args=true)(hS:zaf S o.dst r=S')(k:zep IT P ops U K l S'):zep IT P ops U K (o::l) S:=by
 refine⟨hd,?_⟩;simp only[hg,zjf,hc];exact⟨r,hok,by rw[hs];exact hp,by rw[hS];exact k⟩
theorem h_pass {U:St} {o:Oper} {l:List Oper} {kb:Nat} {b:Bool} {c:Option Bool} (hd:(o.dst.all fun d=>decide (d<S.length))=true)(hg:o.guard=some (kb,b))(hk:zdv ops S kb=some c)(hcb:c≠some b)(hS:zaf S o.dst (.raw undef)=S')(k:zep IT P ops U K l S'):zep IT P ops U K (o::l) S:=by
 refine⟨hd,?_⟩;simp only[hg];exact⟨c,hk,by rw[if_neg hcb,hS];exact k⟩
theorem zhp {U:St} {o:Oper} {l:List Oper} {kb:Nat} {b:Bool} (hg:o.guard=some (kb,b))(hk:zdv ops S kb=some (some b))(k:zep IT P ops U K ({o with guard:=none}::l) S):zep IT P ops U K (o::l) S:=by
 refine⟨k.1,?_⟩;simp only[hg];refine⟨some b,hk,?_⟩;rw[if_pos rfl];have e:zjf IT P {o with guard:=none} S U=zjf IT P o S U:=rfl;have k:=k.2;simp only at k;rw[e] at k;exact k
end
theorem z9t {P:Program} {fn:Func} {U:St} {a r:AV} (h:zat P fn U S=some a)(hok:zbi 0 a=true)(hs:zcy a=r):zwi P fn r .ret S U:=⟨a,h,zwu hok hs⟩
theorem zzg {P:Program} {fn:Func} {U:St} {n m:Nat} {a r:AV} (fs js:List Nat)(d:Nat)(h:zat P fn U S=some a)(hok:zcx U n js=true)(hr:zid m (kz U.boxes m n fs js d) a=r)(hσ:zeo U m n fs js d=U'):aendS P fn n m r U' .ret S U:=⟨a,h,zvy fs js d hok hr hσ⟩
section
variable {P:Program} {ρ:Operand->AV} {U:St} {o:Oper}
theorem q_index {t e:TypeId} {x i:Operand} {sz len:Nat} {cs:List AV} {st:Room} {k:IntKind} (ho:o.op= .indexAddr t x i)(hx:ρ x= .list len cs st)(hi:ρ i= .raw (.int k n))(hu:P.underlying t=some (.slice e))(hs:zcl P e=some sz)(hb:0<=n/\ n<len/\ cs≠[]):
 qop P ρ U o=some (.iptr (cs.drop (n.toNat*sz))):=by
 simp only[qop,ho,hx,hi,zih,hu,hs,if_pos hb]
theorem z8u {t e:TypeId} {x i:Operand} {s off len sz sz':Nat} {f:Bool} {k:IntKind} (ho:o.op= .indexAddr t x i)(hx:ρ x= .bsl s off len sz' f)(hi:ρ i= .raw (.int k n))(hu:P.underlying t=some (.slice e))(hs:zcl P e=some sz)(hb:0<=n/\ n<len):
 qop P ρ U o=some (.ptr s (off+n.toNat*sz)):=by
 simp only[qop,ho,hx,hi,zih,hu,hs,if_pos hb]
theorem zba {a:AV} (h:qop P ρ U o=some a):aop P ρ U o=some (a,U):=by simp only[aop,h]
theorem qqj {t:TypeId} {x:Operand} {a:AV} (p:AV)(ho:o.op= .load t x)(hx:ρ x=p)(ha:zlu P U t p=some a):qop P ρ U o=some a:=by
 simp only[qop,ho,hx,ha]
theorem zcr {t:TypeId} {x:Operand} {s off n:Nat} {v:AV} {bx:TypeId×List AV} (ho:o.op= .store t x y)(hx:ρ x= .ptr s off)(hy:ρ y=v)(hb:U.boxes[s]? =some bx)(hn:zcl P t=some n)(hc:zht v=true/\ (cellsOf v).length=n/\ off+n<=bx.2.length/\ 0<n):
 aop P ρ U o=some (.raw undef,{U with boxes:=U.boxes.set s (bx.1,bx.2.take off++cellsOf v++bx.2.drop (off+n))}):=by
 simp only[aop,qop,ho,zqo,hx,hy,hb,hn,if_pos hc]
theorem zeh {t:TypeId} {x:Operand} {s n:Nat} {v:AV} {bx:TypeId×List AV} (ho:o.op= .store t x y)(hx:ρ x= .ptr s 0)(hy:ρ y=v)(hb:U.boxes[s]? =some bx)(hn:zcl P t=some n)(hl:bx.2.length=n)(hc:zht v=true)(hv:(cellsOf v).length=n)(h0:0<n):
 aop P ρ U o=some (.raw undef,{U with boxes:=U.boxes.set s (bx.1,cellsOf v)}):=by
 rw[zcr (n:=n) ho hx hy hb hn ⟨hc,hv,by omega,h0⟩];rw[List.drop_of_length_le (by omega)];simp
theorem qnc {x:Operand} {t:TypeId} {c} {m r:Int} (ho:o.op= .binOp .add t x y c)(hx:ρ x= .raw (.int .i64 m))(hy:ρ y= .raw (.int .i64 n))(hr:m+n=r)(h1: -9223372036854775808<=r)(h2:r<9223372036854775808):qop P ρ U o=some (.raw (.int .i64 r)):=by
 subst hr;have h:=zqe h1 h2;simp[qop,zfz,ho,Op.operands,hx,hy,zdq,execOp,zbw,eqGuard,binOp,Op.intArith,h];rfl
theorem zjw {x:Operand} {t:TypeId} {c} {m r:Int} (ho:o.op= .binOp .sub t x y c)(hx:ρ x= .raw (.int .i64 m))(hy:ρ y= .raw (.int .i64 n))(hr:m-n=r)(h1: -9223372036854775808<=r)(h2:r<9223372036854775808):qop P ρ U o=some (.raw (.int .i64 r)):=by
 subst hr;have h:=zqe h1 h2;simp[qop,zfz,ho,Op.operands,hx,hy,zdq,execOp,zbw,eqGuard,binOp,Op.intArith,h];rfl
theorem qns {x:Operand} {t:TypeId} {c} {m r:Int} (ho:o.op= .binOp .mul t x y c)(hx:ρ x= .raw (.int .i64 m))(hy:ρ y= .raw (.int .i64 n))(hr:m*n=r)(h1: -9223372036854775808<=r)(h2:r<9223372036854775808):qop P ρ U o=some (.raw (.int .i64 r)):=by
 subst hr;have h:=zqe h1 h2;simp[qop,zfz,ho,Op.operands,hx,hy,zdq,execOp,zbw,eqGuard,binOp,Op.intArith,h];rfl
theorem q_max {x:Operand} {k:IntKind} {m:Int} (ho:o.op= .call c)(hc:c.callee= .builtin .max)(ha:c.args= #[x,y])(hx:ρ x= .raw (.int k m))(hy:ρ y= .raw (.int k' n)):qop P ρ U o=some (.raw (.int k (max m n))):=by
 have e:(if n>m then n else m)=max m n:=by split<;>omega
 simp[qop,zfz,ho,hc,ha,Op.operands,Call.operands,hx,hy,zdq,execOp,zbw,resolve,invoke,builtin,Builtin.max_,Builtin.max2,val?,zof,zje,zjt,e];simp[Pure.pure,Bind.bind,Sem.bind,val?,zof,zje,zjt]
theorem q_min {x:Operand} {k:IntKind} {m:Int} (ho:o.op= .call c)(hc:c.callee= .builtin .min)(ha:c.args= #[x,y])(hx:ρ x= .raw (.int k m))(hy:ρ y= .raw (.int k' n)):qop P ρ U o=some (.raw (.int k (min m n))):=by
 have e:(if n<m then n else m)=min m n:=by split<;>omega
 simp[qop,zfz,ho,hc,ha,Op.operands,Call.operands,hx,hy,zdq,execOp,zbw,resolve,invoke,builtin,Builtin.min_,Builtin.min2,val?,zof,zje,zjt,e];simp[Pure.pure,Bind.bind,Sem.bind,val?,zof,zje,zjt]
theorem zhl {t b:Bool} (h:qop P ρ U o=some (.raw (.bool t)))(e:t=b):qop P ρ U o=some (.raw (.bool b)):=by rw[h,e]
end
section
variable {IT:IterP} {P:Program} {W:Owed} {k0:Nat}
theorem zpw {U:St} {sz m:Nat} {t tx:TypeId} {ds:List AV} {st:Room} (h:t=tx/\ ds.length=m*sz/\ 0<sz):qdh P U sz t tx (.list m ds st)=some (m,ds):=by simp only[qdh,if_pos h]
theorem z8n {ρ:Operand->AV} {U:St} {o:Oper} {c:Call} {x y:Operand} {t tx e:TypeId} {i:TypeInfo} {z:Value} {n m sz:Nat} {cs ds:List AV} (ho:o.op= .call c)(hc:c.callee= .builtin .append)(ha:c.args.toList=[x,y])(ht:c.argTypes.toList=[t,tx])
 (hx:ρ x= .list n cs .full) (hu:P.underlying t=some (.slice e)) (hi:P.info? e=some i) (hz:i.zero=some z) (hsz:i.size=sz) (hs:qdh P U sz t tx (ρ y)=some (m,ds)) (h1:0<sz/\ z.cells.size=sz/\ 0<m) (h2:cs.length=n*sz/\ n+m<=maxLen/\ (n+m)*i.bytes<=140737488355328):
 zwb P ρ U o=some (.bsl U.boxes.length 0 (n+m) sz false,{U with boxes:=U.boxes++[(e,cs++ds)]}):=by
 subst hsz;have hnn:zsu (ρ x)=false:=by rw[hx];rfl
 have hnn2:zsu (.list n cs .full)=false:=rfl;simp only[zwb,ho,hc,ha,ht,hnn,hnn2,Bool.false_eq_true,if_false,zpz,hu,hi,hz,hs,if_pos h1,hx,if_pos h2]
end
def shz (n:Nat):FZ:=(fun s off=> .ptr (n+s) off,fun s off k sz=> .bsl (n+s) off k sz false)
def zhn (n:Nat)(bs:List (TypeId×List AV)):List (TypeId×List AV):=bs.map fun b=>(b.1,zx 0 (shz n) b.2)
theorem z8e {IT:IterP} (hIT:ITMono IT) {P:Program} {f:FuncId} {args args':List AV} {r:AV} {bs:List (TypeId×List AV)} (h:Snd IT P f args' St.empty r ⟨bs,[],[],0,false⟩)(hargs:stripL args=args')(hok:zad 0 args=true)(U:St):
 Snd IT P f args U (zid 0 (shz U.boxes.length) r) {U with boxes:=U.boxes++zhn U.boxes.length bs}:=by
 refine⟨h.1,fun X vs hI hr=> ?_⟩;subst hargs;have h0:zbh IT ⟨X.F,[],[],[],X.w,fun _=>False,fun _ _=>False⟩ (stripL args) vs:=zfq (X:=X) (Y:=⟨X.F,[],[],[],X.w,fun _=>False,fun _ _=>False⟩) hIT rfl rfl args vs (.inl hok) hr;refine(h.2 ⟨X.F,[],[],[],X.w,fun _=>False,fun _ _=>False⟩ vs (zvn hI) h0).mono ?_;rintro e w' ⟨v,Y,rfl,rfl,hE,hIY,hv⟩;have hκl:Y.κ.length=bs.length:=hIY.κlen;have hXl:=hI.κlen;have hl:Y.lens=[]:=hIY.lens;have hnew: ∀b∈Y.κ,X.w.heap.size<=b:=fun b hb=>by
  rcases hE.κnew b hb with h|h
  ·simp at h
  ·exact h
 have hblk: ∀b,b<X.w.heap.size->Y.w.heap[b]? =X.w.heap[b]? :=fun b hb=>hE.frame b hb (by simp) (by simp);have hFn: ∀b i,Y.F b i->X.F b i \/X.w.heap.size<=b:=fun b i hf=>by
  rcases hE.Fnew b i hf with h|h|⟨q,hq,_⟩|h
  ·exact .inl h
  ·exact .inr h
  ·simp at hq
  ·simp at h
 have hX:Ext X ⟨Y.F,X.κ++Y.κ,X.β,X.lens,Y.w,X.O,X.C⟩:={
  os:=hE.os,tape:=hE.tape,output:=hE.output,size:=hE.size,drawn:=hE.drawn,F:=hE.F,cell:=hE.cell
  κ :=fun s b hs=>by
   show(X.κ++Y.κ)[s]? =some b
   rw[getElem?_append_left (List.getElem?_eq_some_iff.1 hs).1];exact hs
  lens:=fun s L h=>⟨L,h,le_refl _,fun _=>rfl⟩
  blk:=fun s b hs cur t f h=>⟨cur,(hblk b (hI.κlt (mem_of_getElem? hs))).trans h,rfl⟩
  szs:=Szs.old hblk
  frame:=fun b hb _ _=>hblk b hb
  κnew:=fun b hb=>by
   rcases mem_append.1 hb with hb|hb
   ·exact .inl hb
   ·exact .inr (hnew b hb)
  βnew:=fun r h=> .inl ⟨r,h,rfl⟩
  O:=rfl
  C:=rfl
  Fnew:=fun b i hf=>(hFn b i hf).imp id .inl}
 have hnk: ∀s b,Y.κ[s]? =some b->(X.κ++Y.κ)[U.boxes.length+s]? =some b:=fun s b hs=>by
  rw[getElem?_append_right (by omega),show U.boxes.length+s-X.κ.length=s by omega];exact hs
 have hg:(∀s off v,Rep IT Y (.ptr s off) v->Rep IT ⟨Y.F,X.κ++Y.κ,X.β,X.lens,Y.w,X.O,X.C⟩ ((shz U.boxes.length).1 s off) v)/\
  ∀s off n sz f v,Rep IT Y (.bsl s off n sz f) v->Rep IT ⟨Y.F,X.κ++Y.κ,X.β,X.lens,Y.w,X.O,X.C⟩ ((shz U.boxes.length).2 s off n sz) v:=by
  refine⟨?_,?_⟩
  ·rintro s off v ⟨b,hb,rfl⟩;exact⟨b,hnk s b hb,rfl⟩
  ·rintro s off n sz f v ⟨b,cap,cur,t,hb,rfl,hcap,hful,hrow⟩;exact⟨b,cap,cur,t,hnk s b hb,rfl,hcap,(fun h=>by cases h),hrow⟩
 have hrep:=zlg (X:=Y) (Y:=⟨Y.F,X.κ++Y.κ,X.β,X.lens,Y.w,X.O,X.C⟩) (m:=0) hIT (fun _ _ h=>h) rfl (fun s hs=>by omega) hg;have hrepL:=zdi (X:=Y) (Y:=⟨Y.F,X.κ++Y.κ,X.β,X.lens,Y.w,X.O,X.C⟩) (m:=0) hIT (fun _ _ h=>h) rfl (fun s hs=>by omega) hg;refine⟨v,⟨Y.F,X.κ++Y.κ,X.β,X.lens,Y.w,X.O,X.C⟩,rfl,rfl,hX,?_,hrep r v hv⟩;have old: ∀(s b:Nat),(X.κ++Y.κ)[s]? =some b->(X.κ[s]? =some b/\ s<U.boxes.length) \/(U.boxes.length<=s/\ Y.κ[s-U.boxes.length]? =some b):=fun s b h=>by
  rcases Nat.lt_or_ge s X.κ.length with hlt|hge
  ·rw[getElem?_append_left hlt] at h;exact .inl ⟨h,by omega⟩
  ·rw[getElem?_append_right hge,hXl] at h;exact .inr ⟨by omega,h⟩
 have upO: ∀s:Nat,s<U.boxes.length->(∃t:TypeId,U.boxes[s]? =some (t,[]))-> ∃t:TypeId,(U.boxes++zhn U.boxes.length bs)[s]? =some (t,[]):=fun s hs ⟨t,h⟩=>⟨t,by rw[getElem?_append_left hs];exact h⟩;have upN: ∀s:Nat,U.boxes.length<=s->(∃t:TypeId,bs[s-U.boxes.length]? =some (t,[]))-> ∃t:TypeId,(U.boxes++zhn U.boxes.length bs)[s]? =some (t,[]):=fun s hs ⟨t,h⟩=>⟨t,by
  rw[getElem?_append_right hs,zhn,getElem?_map,h];simp[zx]⟩
 refine {lens:=hI.lens,elems:=hI.elems,κlen:= ?_,κnd:= ?_,box:= ?_,κF:= ?_,βlen:=hI.βlen,βnd:=hI.βnd,βκ:= ?_,row:= ?_,Ok:= ?_,Fcell:=hIY.Fcell}
 ·show(X.κ++Y.κ).length=(U.boxes++zhn U.boxes.length bs).length
  simp[zhn];omega
 ·intro s s' b k1 k2 hne;rcases old s b k1 with⟨a1,b1⟩|⟨a1,b1⟩<;>rcases old s' b k2 with⟨a2,b2⟩|⟨a2,b2⟩
  ·exact(hI.κnd s s' b a1 a2 hne).imp (upO s b1) (upO s' b2)
  ·have:=hI.κlt (mem_of_getElem? a1);have:=hnew b (mem_of_getElem? b2);omega
  ·have:=hI.κlt (mem_of_getElem? a2);have:=hnew b (mem_of_getElem? b1);omega
  ·exact(hIY.κnd _ _ b b1 b2 (by omega)).imp (upN s a1) (upN s' a2)
 ·intro s b t cs hs hb;have hb:(U.boxes++zhn U.boxes.length bs)[s]? =some (t,cs):=hb;rcases old s b hs with⟨a1,b1⟩|⟨a1,b1⟩
  ·rw[getElem?_append_left b1] at hb;obtain⟨us,zs,u1,u2,u3⟩:=hI.box s b t cs a1 hb;exact⟨us,zs,(hblk b (hI.κlt (mem_of_getElem? a1))).trans u1,zas hIT hX _ _ u2,u3⟩
  ·rw[getElem?_append_right a1,zhn,getElem?_map] at hb;cases hbs:bs[s-U.boxes.length]? with
   |none=>rw[hbs] at hb;cases hb
   | some bx=>
    rw[hbs] at hb;simp only[map_some,Option.some.injEq,Prod.mk.injEq] at hb;obtain⟨rfl,rfl⟩:=hb;obtain⟨us,zs,u1,u2,u3⟩:=hIY.box _ b bx.1 bx.2 b1 hbs;exact⟨us,zs,u1,hrepL _ _ u2,u3⟩
 ·intro s b t cs hs hb hne o hf;have hb:(U.boxes++zhn U.boxes.length bs)[s]? =some (t,cs):=hb;rcases old s b hs with⟨a1,b1⟩|⟨a1,b1⟩
  ·rw[getElem?_append_left b1] at hb;rcases hFn b o hf with h|h
   ·exact hI.κF s b t cs a1 hb hne o h
   ·have:=hI.κlt (mem_of_getElem? a1);omega
  ·rw[getElem?_append_right a1,zhn,getElem?_map] at hb;cases hbs:bs[s-U.boxes.length]? with
   |none=>rw[hbs] at hb;cases hb
   | some bx=>
    rw[hbs] at hb;simp only[map_some,Option.some.injEq,Prod.mk.injEq] at hb;obtain⟨rfl,rfl⟩:=hb;refine hIY.κF _ b bx.1 bx.2 b1 hbs (fun e=>hne ?_) o hf;rw[e,zx]
 ·intro r hr' hm;rcases mem_append.1 hm with hm|hm
  ·exact hI.βκ r hr' hm
  ·have:=hI.βlt hr';have:=hnew _ hm;omega
 ·intro s q L hq hL;obtain⟨cur,fz,c1,c2,c3,c4,c5,c6,c7⟩:=hI.row s q L hq hL;have hlt:=hI.βlt (mem_of_getElem? hq);refine⟨cur,fz,(hblk _ hlt).trans c1,c2,c3,c4,c5,fun o hf=> ?_,c7⟩;rcases hFn _ o hf with h|h
  ·exact c6 o h
  ·omega
 ·intro b ho;obtain⟨⟨cs0,t0,f0,h0⟩,h2,h3,h4⟩:=hI.Ok b ho;have hlt:=hI.Olt ho;refine⟨⟨cs0,t0,f0,(hblk b hlt).trans h0⟩,fun hm=> ?_,h3,fun o hf=>(hFn b o hf).elim (h4 o) fun h=>by omega⟩;rcases mem_append.1 hm with hm|hm
  ·exact h2 hm
  ·have:=hnew _ hm;omega
def zbn (n:Nat)(cs:List AV):AV:=if n=0 then .list 0 [] .full else .list n cs (.own 0)
def zbp (bs:List (TypeId×List AV))(e n sz:Nat):St:=⟨bs,if n=0 then[] else[n*sz],if n=0 then[] else[e],0,false⟩
theorem qby {P:Program} {t e:TypeId} {i:TypeInfo} {z:Value} {n m sz:Nat} {cs ds:List AV} {st:Room} {bs:List (TypeId×List AV)} (hu:P.underlying t=some (.slice e))(hi:P.info? e=some i)(hz:i.zero=some z)(hsz:i.size=sz)(hzs:z.cells.size=sz)(h0:0<sz)
 (hcs:cs.length=n*sz) (hds:ds.length=m*sz) (hmax:n+m<=maxLen) (hb:(n+m)*i.bytes<=140737488355328):
 zgg P (zbp bs e n sz) t (zbn n cs) (.list m ds st)=some (zbn (n+m) (cs++ds),zbp bs e (n+m) sz):=by
 subst hsz;rcases Nat.eq_zero_or_pos m with rfl|hm
 ·have hd:ds=[]:=List.length_eq_zero_iff.1 (by omega);subst hd;rcases Nat.eq_zero_or_pos n with rfl|hn
  ·have hc:cs=[]:=List.length_eq_zero_iff.1 (by omega);subst hc;simp[zgg,zbn,zbp,hu,hi,hz]
  ·have hn':n≠0:=by omega
   simp[zgg,zbn,zbp,hu,hi,hz,hn']
 ·have hm':m≠0:=by omega
  have hnm:n+m≠0:=by omega
  rcases Nat.eq_zero_or_pos n with rfl|hn
  ·have hc:cs=[]:=List.length_eq_zero_iff.1 (by omega);subst hc;simp only[zero_add] at hmax hb;simp[zgg,zbn,zbp,hu,hi,hz,hm',hds,hm,hzs,h0,hmax,hb]
  ·have hn':n≠0:=by omega
   simp[zgg,zbn,zbp,hu,hi,hz,hm',hn',hds,hcs,hm,hzs,h0,hmax,hb,hn]
theorem zkj {P:Program} {ρ:Operand->AV} {U U':St} {o:Oper} {c:Call} {x y:Operand} {t:TypeId} {a:AV} (ho:o.op= .call c)(hc:c.callee= .builtin .append)(ha:c.args.toList=[x,y])(ht:c.argTypes.toList=[t,t])(h:zgg P U t (ρ x) (ρ y)=some (a,U')):aop P ρ U o=some (a,U'):=by
 simp[aop,qop,ho,hc,ha,ht,h]
theorem qgl {n:Nat} {cs:List AV} (hc:cloL cs=true)(h:n=0->cs=[]):zcy (zbn n cs)= .list n cs .none:=by
 unfold zbn;split
 ·rename_i h0;rw[h h0,h0];rfl
 ·rw[zcy,zdl cs hc]
theorem zdg {k n:Nat} {cs:List AV} (hc:cloL cs=true):zbi k (zbn n cs)=true:=by
 unfold zbn;split
 ·rfl
 ·rw[zbi,zo k cs hc]
variable {c:Bool} {G:Prop} {y:Code} {Q:AQ} {S S0 S1 S':List AV} {U1:St} {n0 n:Nat} {ops:Array Oper} {k':IntKind}
class Enc (α:Type) where
 inh:α
 cells:α->List AV
 cellsL:List α->List AV
 sz:Nat
 pos:0<sz
 nil:cellsL []=[]
 cons: ∀a l,cellsL (a::l)=cells a++cellsL l
 len: ∀a,(cells a).length=sz
 clo: ∀a,cloL (cells a)=true
section
variable {α:Type} [Enc α]
theorem Enc.cloL: ∀l:List α,Go.Ab.cloL (Enc.cellsL l)=true
 |[]=>by rw[Enc.nil];rfl
 |a::l=>by rw[Enc.cons,zee,Enc.clo,Enc.cloL l];rfl
theorem Enc.lenL: ∀l:List α,(Enc.cellsL l).length=l.length*Enc.sz α
 |[]=>by rw[Enc.nil];simp
 |a::l=>by rw[Enc.cons,List.length_append,Enc.len,Enc.lenL l,List.length_cons,Nat.succ_mul,Nat.add_comm]
theorem Enc.app: ∀a b:List α,Enc.cellsL (a++b)=Enc.cellsL a++Enc.cellsL b
 |[],b=>by rw[Enc.nil];rfl
 |x::a,b=>by rw[List.cons_append,Enc.cons,Enc.cons,Enc.app a b,List.append_assoc]
theorem Enc.drop: ∀(l:List α) (i:Nat),(Enc.cellsL l).drop (i*Enc.sz α)=Enc.cellsL (l.drop i)
 |l,0=>by simp
 |[],i+1=>by simp[Enc.nil]
 | t::l,i+1=>by
  rw[Enc.cons,List.drop_succ_cons, <-Enc.drop l i,List.drop_append,Enc.len];have h:(i+1)*Enc.sz α=i*Enc.sz α+Enc.sz α:=Nat.succ_mul _ _;have:(i+1)*Enc.sz α-Enc.sz α=i*Enc.sz α:=by omega
  rw[this,List.drop_of_length_le (by rw[Enc.len];omega),List.nil_append]
theorem Enc.take (l:List α)(i:Nat):(Enc.cellsL l).take (i*Enc.sz α)=Enc.cellsL (l.take i):=by
 rcases Nat.le_or_ge i l.length with h|h
 ·have h1:=Enc.app (l.take i) (l.drop i);rw[List.take_append_drop] at h1;rw[h1,List.take_append_of_le_length (by rw[Enc.lenL,List.length_take,Nat.min_eq_left h];exact le_refl _)];exact take_of_length_le (by rw[Enc.lenL,List.length_take,Nat.min_eq_left h];exact le_refl _)
 ·rw[take_of_length_le h,take_of_length_le (by rw[Enc.lenL];exact Nat.mul_le_mul_right _ h)]
def ix (l:List α)(i:Int):α:=l.getD i.toNat Enc.inh
theorem Enc.at {l:List α} {i:Int} (h:0<=i/\ i<l.length):(Enc.cellsL l).drop (i.toNat*Enc.sz α)=Enc.cells (ix l i)++Enc.cellsL (l.drop (i.toNat+1)):=by
 have hi:i.toNat<l.length:=by omega
 rw[Enc.drop,List.drop_eq_getElem_cons hi,Enc.cons];simp[ix,hi]
theorem Enc.ne {l:List α} {i:Int} (h:0<=i/\ i<l.length):Enc.cellsL l≠[]:=by
 intro e;have:=Enc.lenL l;rw[e] at this;have h1:0<l.length:=by omega
 have h2:=Nat.mul_pos h1 (Enc.pos (α:=α));simp only[List.length_nil] at this;omega
end
def bs (l:List UInt8):ByteArray:=⟨l.toArray⟩
instance:Enc Int:=⟨0,fun x=>[.raw (.int .i64 x)],fun l=>l.map fun x=> .raw (.int .i64 x),1,by decide,rfl,fun _ _=>rfl,fun _=>rfl,fun _=>rfl⟩
instance:Enc UInt8:=⟨0,fun x=>[.raw (.int .u8 ((x.toNat:Nat):Int))],fun l=>l.map fun x=> .raw (.int .u8 ((x.toNat:Nat):Int)),1,by decide,rfl,fun _ _=>rfl,fun _=>rfl,fun _=>rfl⟩
instance:Enc (List UInt8):=⟨[],fun x=>[.raw (.string (bs x))],fun l=>l.map fun x=> .raw (.string (bs x)),1,by decide,rfl,fun _ _=>rfl,fun _=>rfl,fun _=>rfl⟩
instance:Enc Bool:=⟨false,fun x=>[.raw (.bool x)],fun l=>l.map fun x=> .raw (.bool x),1,by decide,rfl,fun _ _=>rfl,fun _=>rfl,fun _=>rfl⟩
section
variable {α β τ ρ:Type}
def chk (p:Prop) [Decidable p] (k:Option α):Option α:=if p then k else none
theorem ze {p:Prop} [Decidable p] {k:Option α} {r:α} (h:chk p k=some r):p/\ k=some r:=by
 unfold chk at h;split at h
 ·exact⟨‹_›,h⟩
 ·cases h
theorem zes {p:Prop} [Decidable p] {k:Option α} (h:p):chk p k=k:=if_pos h
def zay (e:α)(k:α->Option β):Option β:=k e
theorem zh {e:α} {k:α->Option β} {r:β} (h:zay e k=some r): ∃x,e=x/\ k x=some r:=⟨e,rfl,h⟩
def zai (x:Option α)(k:α->Option β):Option β:=match x with|some a=>k a|none=>none
theorem zr {x:Option α} {k:α->Option β} {r:β} (h:zai x k=some r): ∃a,x=some a/\ k a=some r:=by
 cases x with
 |none=>cases h
 |some a=>exact⟨a,rfl,h⟩
@[simp] theorem bindE_some (a:α) (k:α->Option β):zai (some a) k=k a:=rfl
theorem zab {A B:Option α} {r:α} (h:(bif c then A else B)=some r)(kt:c=true->A=some r->G)(kf:c=false->B=some r->G):G:=by
 cases c with
 |true=>exact kt rfl h
 |false=>exact kf rfl h
def zct (x:Option (τ ⊕ ρ))(k:τ->Option ρ):Option ρ:=match x with|some (.inl t)=>k t|some (.inr y)=>some y|none=>none
@[simp] theorem cutE_inl (t:τ) (k:τ->Option ρ):zct (some (.inl t)) k=k t:=rfl
@[simp] theorem cutE_inr (y:ρ) (k:τ->Option ρ):zct (some (.inr y)) k=some y:=rfl
theorem zax {y r:ρ} {o:τ ⊕ ρ} (h:some (inr y)=some o)(hr: ∀y,o= .inr y->y=r):some y=some r:=by
 rw[hr y (Option.some.inj h).symm]
def zav (body:β->Option (β ⊕ ρ)):Nat->β->Option ρ
 |0,_=>none
 |n+1,s=>match body s with|some (.inl s')=>zav body n s'|some (.inr y)=>some y|none=>none
def zeg (body:β->α->Option (β ⊕ ρ)):List α->β->Option (β ⊕ ρ)
 |[],s=>some (.inl s)
 |x::xs,s=>match body s x with|some (.inl s')=>zeg body xs s'|some (.inr y)=>some (.inr y)|none=>none
end
section
variable {IT:IterP} {P:Program} {W:Owed} {k0:Nat}
theorem zal {x:Code} {U:St} {τ ρ:Type} {FX:Option (τ ⊕ ρ)} {K:τ->Option ρ} {r:ρ} (h:zct FX K=some r)(tops:List Nat)(upd:τ->List (Nat×AV))(D:τ->St)
 (hx: ∀o,FX=some o->(∀y,o= .inr y->y=r)->awp IT P W k0 x (zue (fun S1 U1=> ∃t,o= .inl t/\ Wk k0 S1 U1 (zau (zbo S tops) (upd t)) (D t)) Q) S U)
 (hk: ∀t,K t=some r->awp IT P W k0 y Q (zau (zbo S tops) (upd t)) (D t)):awp IT P W k0 (.seq x y) Q S U:=by
 cases FX with
 |none=>cases h
 | some o=>
  refine .inl (zci x ?_ _ _ (hx o rfl fun y e=>by subst e;exact Option.some.inj h));intro e S1 U1 hq;cases e with
  | normal=>
   obtain⟨t,rfl,hw⟩:=hq;exact⟨_,_,hw,hk t h⟩
  |exit id=>exact hq
  |ret=>exact hq
theorem zc {τ ρ:Type} {o:τ ⊕ ρ} {tops:List Nat} {upd:τ->List (Nat×AV)} {D:τ->St} (t:τ)(h:some (inl t)=some o)(hw:Wk n0 S1 U1 (zau (zbo S0 tops) (upd t)) (D t)):
 ∃t,o= .inl t/\ Wk n0 S1 U1 (zau (zbo S0 tops) (upd t)) (D t):=⟨t,(Option.some.inj h).symm,hw⟩
def loopQ {β ρ:Type} (n0:Nat)(T:β->List AV)(D:β->St)(p:β ⊕ ρ)(o:ρ)(Q:AQ):AQ
 | .normal,S,U=> ∃s,p= .inl s/\ Wk n0 S U (T s) (D s)
 |e,S,U=>(∃y,p= .inr y/\ (some y=some o->Q e S U)) \/Q e S U
theorem zcf {x:Code} {U:St} {β ρ:Type} {body:β->Option (β ⊕ ρ)} {s0:β} {o:ρ} (h:zav body n s0=some o)(tops:List Nat)(upd:β->List (Nat×AV))(D:β->St)
 (h0:Wk k0 S U (zau (zbo S tops) (upd s0)) (D s0))
 (hs: ∀s p,body s=some p->awp IT P W k0 x (loopQ k0 (fun s=>zau (zbo S tops) (upd s)) D p o Q) (zau (zbo S tops) (upd s)) (D s)):awp IT P W k0 (.loop x) Q S U:=by
 have key: ∀(n:Nat) (s0:β) S1 U1,zav body n s0=some o->Wk k0 S1 U1 (zau (zbo S tops) (upd s0)) (D s0)->zrv (awp IT P W k0 x) Q k0 n S1 U1:=by
  intro n;induction n with
  |zero=>intro s0 S1 U1 h;cases h
  | succ n ih=>
   intro s0 S1 U1 h hw;rw[zav] at h;cases hb:body s0 with
   |none=>rw[hb] at h;cases h
   | some p=>
    rw[hb] at h;refine⟨_,_,hw,zci x ?_ _ _ (hs s0 p hb)⟩;intro e S2 U2 hq;cases e with
    | normal=>
     obtain⟨s,rfl,hw2⟩:=hq;exact ih s S2 U2 h hw2
    | exit id=>
     rcases hq with⟨y,rfl,hq⟩|hq
     ·exact hq h
     ·exact hq
    | ret=>
     rcases hq with⟨y,rfl,hq⟩|hq
     ·exact hq h
     ·exact hq
 exact⟨n,key n s0 S U h h0⟩
theorem zbb {β ρ:Type} {p:β ⊕ ρ} {tops:List Nat} {upd:β->List (Nat×AV)} {D:β->St} (s:β)(h:some (inl s)=some p)(hw:Wk n0 S1 U1 (zau (zbo S0 tops) (upd s)) (D s)):
 ∃s,p= .inl s/\ Wk n0 S1 U1 (zau (zbo S0 tops) (upd s)) (D s):=⟨s,(Option.some.inj h).symm,hw⟩
theorem zy {β ρ:Type} {p:β ⊕ ρ} {o y:ρ} {H:Prop} (h:some (inr y)=some p)(k:some y=some o->G):(∃y,p= .inr y/\ (some y=some o->G)) \/H:= .inl ⟨y,(Option.some.inj h).symm,k⟩
def z9b {β ρ:Type} (S0:List AV)(n0:Nat)(D:β->St)(p:β ⊕ ρ)(r:ρ)(Q:AQ):AQ
 | .normal,_,U=> ∃s,p= .inl s/\ z0z n0 U=true/\ zfi n0 U=D s
 |e,_,U=>(∃y,p= .inr y/\ (some y=some r->z0z n0 U=true/\ Q e S0 (zfi n0 U))) \/(z0z n0 U=true/\ Q e S0 (zfi n0 U))
theorem z2n {ps:Array Tmp} {asg body:Code} {α β ρ:Type} {FB:β->α->Option (β ⊕ ρ)} {K:β->Option ρ} {r:ρ} (row:α->List AV)(D:β->St)
 (hs: ∀s x p,FB s x=some p->awp IT P W n0 asg (z3n (fun S1 U1=>awp IT P W U1.boxes.length body (z9b S n0 D p r Q) S1 U1)) (zmb S ps (row x)) (D s))
 (he: ∀s,K s=some r->Q .normal S (D s)): ∀(xs:List α) (s0:β),zct (zeg FB xs s0) K=some r->zfs (fun k=>awp IT P W k asg) (fun k=>awp IT P W k body) ps S Q n0 (xs.map row) (D s0):=by
 intro xs;induction xs with
 |nil=>intro s0 h;exact he s0 h
 | cons x xs ih=>
  intro s0 h;rw[zeg] at h;cases hb:FB s0 x with
  |none=>rw[hb] at h;cases h
  | some p=>
   rw[hb] at h;simp only[map_cons,zfs];refine zci asg ?_ _ _ (hs s0 x p hb);intro e S1 U1 hq;cases e with
   | normal=>
    refine zci body ?_ _ _ hq;intro e2 S2 U2 hq2;cases e2 with
    |normal=>obtain⟨s,rfl,q1,q2⟩:=hq2;exact⟨q1,by rw[q2];exact ih s h⟩
    |exit id=>
    rcases hq2 with⟨y,rfl,hq2⟩|hq2
    ·exact hq2 h
    ·exact hq2
    |ret=>
    rcases hq2 with⟨y,rfl,hq2⟩|hq2
    ·exact hq2 h
    ·exact hq2
   |exit id=>exact hq.elim
   |ret=>exact hq.elim
theorem zns {f:Operand} {ps:Array Tmp} {asg body:Code} {U:St} {α β ρ:Type} {FB:β->α->Option (β ⊕ ρ)} {xs:List α} {s0:β} {K:β->Option ρ} {r:ρ} (h:zct (zeg FB xs s0) K=some r)(row:α->List AV)(D:β->St)
 (hf:zby S f= .iter (xs.map row)) (hl: ∀x,(row x).length=ps.size) (hna:zco asg=true) (h0:U=D s0)
 (hs: ∀s x p,FB s x=some p->awp IT P W U.boxes.length asg (z3n (fun S1 U1=>awp IT P W U1.boxes.length body (z9b S U.boxes.length D p r Q) S1 U1)) (zmb S ps (row x)) (D s))
 (he: ∀s,K s=some r->Q .normal S (D s)) (hps:Nat.ble ps.size 8=true:=by exact rfl):awp IT P W k0 (.rangeFunc f ps asg body) Q S U:=by
 refine .inl ⟨xs.map row,hf,hps,by simp[List.all_map];intro x _;exact hl x,hna,?_⟩;rw[h0];rw[h0] at hs;exact z2n row D hs he xs s0 h
theorem z9u {f:Operand} {ps:Array Tmp} {asg body:Code} {U:St} {α β ρ:Type} {FB:β->α->Option (β ⊕ ρ)} {xs:List α} {s0:β} {K:β->Option ρ} {r:ρ} (h:zct (zeg FB xs s0) K=some r)(row:α->List AV)(D:β->St)(js hs:List Nat)(m:Nat) {g:Nat} {caps caps0:List AV} {bs bs':List (TypeId×List AV)}
 (hW:W=none) (hit:qcc P g caps0 bs (xs.map row) bs') (hent:Ent P g) (hf:zby S f= .clos g caps) (hcaps:zx 0 (bwz js) caps=caps0) (hH:Hand U js hs m bs U1) (hfg:Fg (zx U.lens.length (gz hs) S) S') (hbk: ∀(i:Nat) (t:TypeId) (cs:List AV),bs[i]? =some (t,cs)-> ∃cs',bs'[i]? =some (t,cs'))
 (hl: ∀x,(row x).length=ps.size) (hna:zco asg=true) (h0:U1=D s0)
 (zjf: ∀s x p,FB s x=some p->awp IT P W U.boxes.length asg (z3n (fun S1 U1=>awp IT P W U1.boxes.length body (z9b S' U.boxes.length D p r (qhc Q S js hs bs' U.boxes)) S1 U1)) (zmb S' ps (row x)) (D s))
 (he: ∀s,K s=some r->Q .normal S (zjq js hs bs' U.boxes (D s))):awp IT P W k0 (.rangeFunc f ps asg body) Q S U:=
 .inr (⟨g,caps,js,hs,m,bs,bs',xs.map row,S',U1,hf,hH,hfg,hW,hna,by simp[List.all_map];intro x _;exact hl x,by rw[hcaps];exact hit,hent,hbk,by rw[h0];exact z2n row D zjf he xs s0 h⟩)
theorem zfv {β ρ:Type} {p:β ⊕ ρ} {D:β->St} (s:β)(h:some (inl s)=some p)(h1:z0z n0 U1=true)(h2:zfi n0 U1=D s): ∃s,p= .inl s/\ z0z n0 U1=true/\ zfi n0 U1=D s:=⟨s,(Option.some.inj h).symm,h1,h2⟩
theorem zfl {c:Operand} {x:Code} {U:St} {t:Bool} (ht:t=true)(hc:zby S c= .raw (.bool t))(k:awp IT P W k0 x Q S U):awp IT P W k0 (.cond c x y) Q S U:=⟨true,by rw[hc,ht],by rw[if_pos rfl];exact k⟩
theorem zfp {c:Operand} {x:Code} {U:St} {t:Bool} (ht:t=false)(hc:zby S c= .raw (.bool t))(k:awp IT P W k0 y Q S U):awp IT P W k0 (.cond c x y) Q S U:=⟨false,by rw[hc,ht],by rw[if_neg (by decide)];exact k⟩
theorem w_qs {Q:List AV->St->Prop} {o:Oper} {l:List Oper} {U:St} (a:AV) {a0:AV} (hg:o.guard=none)(hc:zcz S o=none)(hy:zdc S o=none)(h:qop P (zby S) U o=some a0)(ha:zcy a0=a)(hS:zaf S o.dst a=S')
 (k:zca IT P W ops Q l S' U):zca IT P W ops Q (o::l) S U:=by
 simp only[zca,hg,zfh,hc,hy];exact .inl ⟨a,U,.inr (.inr (.inr (.inl ⟨a0,zba h,ha.symm⟩))),by rw[hS];exact k⟩
end
section
variable {P:Program} {ρ:Operand->AV} {U:St} {o:Oper}
theorem qck {α:Type} [Enc α] {t e:TypeId} {x i:Operand} {l:List α} {st:Room} {k:IntKind} {n:Int} (hb:0<=n/\ n<l.length)(ho:o.op= .indexAddr t x i)(hx:ρ x= .list l.length (Enc.cellsL l) st)(hi:ρ i= .raw (.int k n))(hu:P.underlying t=some (.slice e))(hs:zcl P e=some (Enc.sz α)):
 qop P ρ U o=some (.iptr (Enc.cells (ix l n)++Enc.cellsL (l.drop (n.toNat+1)))):=by
 rw[q_index ho hx hi hu hs ⟨hb.1,hb.2,Enc.ne hb⟩,Enc.at hb]
end
theorem zcm {a:AV} (h:clo a=true):zcy a=a:=z2y a h
theorem zmo {cs:List AV} {st:Room} (h:cloL cs=true):zcy (.list n cs st)= .list n cs .none:=by rw[zcy,zdl cs h]
theorem zvx {cs:List AV} (h:cloL cs=true)(h0:n=0->cs=[]):zcy (zbn n cs)= .list n cs .none:=qgl h h0
theorem zq {a b:AV} {l m:List AV} (h:zcy a=b)(k:stripL l=m):stripL (a::l)=b::m:=by rw[stripL,h,k]
theorem zbj {k:Nat} {cs:List AV} {st:Room} (h:cloL cs=true):zbi k (.list n cs st)=true:=by rw[zbi,zo k cs h]
theorem za {k:Nat} {a:AV} {l:List AV} (h:zbi k a=true)(m:zad k l=true):zad k (a::l)=true:=by rw[zad,h,m];rfl
theorem zpq {a:AV} {l:List AV} (h:clo a=true)(m:cloL l=true):cloL (a::l)=true:=by rw[cloL,h,m];rfl
theorem zac {cs:List AV} (h:cloL cs=true):clo (.agg cs)=true:=h
theorem zkr {cs:List AV} (h:cloL cs=true):clo (.list n cs .none)=true:=by simp[clo,h]
theorem Enc.z {α:Type} [Enc α] {l:List α}:l.length=0->Enc.cellsL l=[]:=fun h=>by rw[List.length_eq_zero_iff.1 h,Enc.nil]
theorem Enc.stripL {α:Type} [Enc α] (l:List α):Go.Ab.stripL (Enc.cellsL l)=Enc.cellsL l:=zdl _ (Enc.cloL l)
section
variable {P:Program} {ρ:Operand->AV} {U:St} {o:Oper}
theorem zhz {α:Type} [Enc α] {l:List α} {cs:List AV} {st:Room} (h:qop P ρ U o=some (.list l.length cs st))(hc:Enc.cellsL l=cs):qop P ρ U o=some (.list l.length (Enc.cellsL l) st):=by rw[hc];exact h
def sub {α:Type} (l:List α)(i j:Int):List α:=(l.drop i.toNat).take (j.toNat-i.toNat)
theorem qqk {α:Type} [Enc α] {c:Call} {x:Operand} {t:TypeId} {l:List α} (ho:o.op= .call c)(hc:c.callee= .builtin .len)(ha:c.args.toList=[x])(hx:ρ x=zbn l.length (Enc.cellsL l))(ht:c.argTypes.toList=[t]) {e:TypeId} (hu:P.underlying t=some (.slice e)):qop P ρ U o=some (.raw (.int .i64 (l.length:Int))):=by
 have:qdj P t (zbn l.length (Enc.cellsL l))=some (.raw (.int .i64 (l.length:Int))):=by
  unfold zbn;split
  ·rename_i h0;simp[qdj,hu,h0]
  ·simp[qdj,hu]
 simp[qop,ho,hc,ha,ht,hx,this]
theorem zfn {α:Type} [Enc α] {t e:TypeId} {i:TypeInfo} {z:Value} {st:Room} {bs:List (TypeId×List AV)} {a b:List α} {by':Nat} (hb:(a.length+b.length)*by'<=140737488355328)(hu:P.underlying t=some (.slice e))(hi:P.info? e=some i)(hz:i.zero=some z)(hsz:i.size=Enc.sz α)(hzs:z.cells.size=Enc.sz α)(hby:i.bytes=by'/\ 0<by'):
 zgg P (zbp bs e a.length (Enc.sz α)) t (zbn a.length (Enc.cellsL a)) (.list b.length (Enc.cellsL b) st)=some (zbn (a++b).length (Enc.cellsL (a++b)),zbp bs e (a++b).length (Enc.sz α)):=by
 have hm:a.length+b.length<=maxLen:=by
  have h1:a.length+b.length<=(a.length+b.length)*by':=Nat.le_mul_of_pos_right _ hby.2
  have h2:140737488355328<=maxLen:=by decide
  omega
 rw[qby hu hi hz hsz hzs Enc.pos (Enc.lenL a) (Enc.lenL b) hm (by rw[hby.1];exact hb),List.length_append,Enc.app]
end
section
variable {IT:IterP} {P:Program} {W:Owed} {k0:Nat}
theorem z9x {Q:List AV->St->Prop} {l:List Oper} {U U':St} {ps:Pend} (hn:U.boxes.length=n)(hσ:znv U ps=U')(hS:zoq n ps S=S')(k:zca IT P W ops Q l S' U'):
 zfa IT P ops U (fun S' ps=>zca IT P W ops Q l (zoq U.boxes.length ps S') (znv U ps)) [] S ps:=by
 show zca IT P W ops Q l (zoq U.boxes.length ps S) (znv U ps);rw[hn,hσ,hS];exact k
end
theorem zz {b:TypeId×List AV} {l:List (TypeId×List AV)} (h:zad n b.2=true)(k:(l.all fun bx=>zad n bx.2)=true):((b::l).all fun bx=>zad n bx.2)=true:=by rw[List.all_cons,h,k];rfl
theorem zbs {U:St} (h:((U.boxes.take n).all fun bx=>zad n bx.2)=true):z0z n U=true:=h
theorem zdu {P:Program} {fn:Func} {U:St} {a:AV} {R:Type} {y r:R} (E:R->AV)(hr:some y=some r)(h:zat P fn U S=some a)(hok:zbi 0 a=true)(hs:zcy a=E y):zwi P fn (E r) .ret S U:=by
 cases hr;exact z9t h hok hs
def zly (k:IntKind)(x y:Int):Int:=k.wrap ((BitVec.ofInt k.bits x&&&BitVec.ofInt k.bits y).toNat:Int)
def orI (k:IntKind)(x y:Int):Int:=k.wrap ((BitVec.ofInt k.bits x|||BitVec.ofInt k.bits y).toNat:Int)
def xorI (k:IntKind)(x y:Int):Int:=k.wrap ((BitVec.ofInt k.bits x^^^BitVec.ofInt k.bits y).toNat:Int)
def zga (k:IntKind)(x y:Int):Int:=x.fdiv (2^min y.toNat k.bits)
def zri (k:IntKind)(x y:Int):Int:=k.wrap (x*2^min y.toNat k.bits)
section
variable {P:Program} {ρ:Operand->AV} {U:St} {o:Oper}
theorem qdu {x y:Operand} {t:TypeId} {c} {k:IntKind} {m n:Int} (g:0<=n)(ho:o.op= .binOp .shr t x y c)(hx:ρ x= .raw (.int k m))(hy:ρ y= .raw (.int k' n)):qop P ρ U o=some (.raw (.int k (zga k m n))):=by
 have h: ¬n<0:=by omega
 simp[qop,zfz,ho,Op.operands,hx,hy,zdq,execOp,zbw,eqGuard,binOp,Op.shift,h,zga];rfl
theorem q_shl {x y:Operand} {t:TypeId} {c} {k:IntKind} {m n:Int} (g:0<=n)(ho:o.op= .binOp .shl t x y c)(hx:ρ x= .raw (.int k m))(hy:ρ y= .raw (.int k' n)):qop P ρ U o=some (.raw (.int k (zri k m n))):=by
 have h: ¬n<0:=by omega
 simp[qop,zfz,ho,Op.operands,hx,hy,zdq,execOp,zbw,eqGuard,binOp,Op.shift,h,zri];rfl
theorem zsk {t e:TypeId} {x i:Operand} {len s off sz:Nat} {k:IntKind} {n:Int} (hb:0<=n/\ n<len)(ho:o.op= .indexAddr t x i)(hx:ρ x= .ptr s off)(hi:ρ i= .raw (.int k n))(hu:P.underlying t=some (.array len e))(hs:zcl P e=some sz):
 qop P ρ U o=some (.ptr s (off+n.toNat*sz)):=by
 simp only[qop,ho,hx,hi,zih,hu,hs,if_pos hb,qcj]
end
open Classical in
noncomputable def qdg {α:Type} (p:Prop)(k:Option α):Option α:=if p then k else none
theorem z8f {α:Type} {p:Prop} {k:Option α} {r:α} (h:qdg p k=some r):p/\ k=some r:=by
 unfold qdg at h;split at h
 ·exact⟨‹_›,h⟩
 ·cases h
theorem qig {α:Type} {p:Prop} {k r:Option α} (h:p)(hk:k=r):qdg p k=r:=by unfold qdg;rw[if_pos h];exact hk
theorem ztu {IT:IterP} {P:Program} {W:Owed} {α:Type} {row:α->List AV} {rows:List α} {x:α} {Q:List AV->St->Prop} {o:Oper} {l:List Oper} {S2:List AV} {U U2:St} {args:List AV} (hr:rows[U.out]? =some x)(hs:stripL args=row x)(hok:zad 0 args=true)(hni:zcd args=true) {G:Gen} (hW:W=some G)(hGl:G.l=n)(hGr:G.rows=rows.map row)(hg:o.guard=none)(hc:zcz S o=none)(hy:zdc S o=some (n,args))(hst:U.stop=false)
 (h1:zaf S o.dst (.raw (.bool true))=S1) (h2:zaf S o.dst (.raw (.bool false))=S2) (e1:{U with out:=U.out+1}=U1) (e2:{U with stop:=true}=U2) (k1:zca IT P W ops Q l S1 U1) (k2:zca IT P W ops Q l S2 U2):zca IT P W ops Q (o::l) S U:=
 w_yield hg hc hy hW hGl hGr (by rw[getElem?_map,hr];rfl) hs hok hni hst (by rw[h1,e1];exact k1) (by rw[h2,e2];exact k2)
theorem qks {v:Value} {l:List AV} (h:zcd l=true):zcd (.raw v::l)=true:=by simp[zcd,zlt,h]
theorem z1e (n:Nat) {P:Program} (hmix:P.follows .mixedOrders=true) {U:St} {a:AV} {g:FuncId} {fn f:Func} {c:Code} {caps:List AV} {S:List AV} {α:Type} {row:α->List AV} {rows:List α} (hr:zat P f U S=some a)(hm:zhh (frz U.boxes n) a= .clos g caps)(hf:P.funcs[g]? =some fn)(hb:fn.body=some c)(he:Ent P g)
 (hcl:cloL caps=true) (hne:rows.map row≠errRows) (h: ∀G:Gen,G.rows=rows.map row->awp (ITP P) P (some G) 0 c (qdc P fn rows.length) (zam fn (.yld G.l::caps)) St.empty):zwi P f (.iter (rows.map row)) .ret S U:=
 ⟨a,hr,qff (caps:=caps) hmix hne (qmi n hm) hf hb he (fun G hGr=>by rw[zdl _ hcl,List.length_map];exact h G hGr) (zo 0 _ hcl)⟩
section
variable {α β τ ρ:Type}
theorem zf {p:Prop} [Decidable p] {k:Option α} {r:Option α} (h:p)(hk:k=r):chk p k=r:=by rw[zes h];exact hk
theorem zj {e:α} {k:α->Option β} {r:Option β} (h: ∀x,e=x->k x=r):zay e k=r:=h e rfl
theorem zdr {A B:α} {r:α} (h:c=true)(k:A=r):(bif c then A else B)=r:=by rw[h];exact k
theorem zdh {A B:α} {r:α} (h:c=false)(k:B=r):(bif c then A else B)=r:=by rw[h];exact k
theorem z7e {A B:α} {r:α} (kt:c=true->A=r)(kf:c=false->B=r):(bif c then A else B)=r:=by
 cases c with
 |true=>exact kt rfl
 |false=>exact kf rfl
theorem zu {x:Option α} {k:α->Option β} {r:Option β} (a:α)(h:x=some a)(hk:k a=r):zai x k=r:=by rw[h];exact hk
theorem zaj {x:Option (τ ⊕ ρ)} {k:τ->Option ρ} {r:Option ρ} (t:τ)(h:x=some (.inl t))(hk:k t=r):zct x k=r:=by rw[h];exact hk
theorem zlq {x:Option (τ ⊕ ρ)} {k:τ->Option ρ} {r:Option ρ} (y:ρ)(h:x=some (.inr y))(hk:some y=r):zct x k=r:=by rw[h];exact hk
theorem zii {body:β->Option (β ⊕ ρ)} {s0:β} {o:ρ} (N:Nat)(f:Nat->β)(h0:s0=f 0)(hs: ∀i,i<N->body (f i)=some (.inl (f (i+1))))(he:body (f N)=some (.inr o))(hn:N<n):zav body n s0=some o:=by
 have key: ∀k i n,i+k=N->k<n->zav body n (f i)=some o:=by
  intro k;induction k with
  | zero=>
   intro i n hi hn;obtain rfl:i=N:=by omega
   match n,hn with
   |n+1,_=>rw[zav,he]
  | succ k ih=>
   intro i n hi hn
   match n,hn with
   |n+1,_=>rw[zav,hs i (by omega)];exact ih (i+1) n (by omega) (by omega)
 rw[h0];exact key N 0 n (by omega) hn
theorem loopC_i {τ:Type} {body:β->Option (β ⊕ (τ ⊕ ρ))} {K:τ->Option ρ} (N:Nat)(T:Nat->β)(R:Nat->Option ρ)(hn:N<n)(hs: ∀i,i<=N->(i<N/\ body (T i)=some (.inl (T (i+1)))/\ R i=R (i+1)) \/(∃y,body (T i)=some (.inr y)/\ zct (some y) K=R i)):zct (zav body n (T 0)) K=R 0:=by
 have key: ∀k i n,i+k=N->k<n->zct (zav body n (T i)) K=R i:=by
  intro k;induction k with
  | zero=>
   intro i n hi hn;obtain rfl:i=N:=by omega
   match n,hn with
   | n+1,_=>
    rcases hs i (le_refl _) with⟨h,_⟩|⟨y,h1,h2⟩
    ·omega
    ·rw[zav,h1];exact h2
  | succ k ih=>
   intro i n hi hn
   match n,hn with
   | n+1,_=>
    rcases hs i (by omega) with⟨_,h1,h2⟩|⟨y,h1,h2⟩
    ·rw[zav,h1,h2];exact ih (i+1) n (by omega) (by omega)
    ·rw[zav,h1];exact h2
 exact key N 0 n (by omega) hn
end
variable {ops:Array Oper} {S S' l':List AV} {n d:Nat} {y:Operand}
section
variable {IT:IterP} {P:Program} {W:Owed} {k0:Nat}
theorem qlu {id:Nat} {y:Code} {Q:AQ} {U:St} (S1:List AV)(U1:St)(h:zpo IT P W ops (fun S U=>Wk k0 S U S1 U1) ops.size (Array.replicate ops.size false) S U)(hrest:awp IT P W k0 y Q S1 U1):awp IT P W k0 (.seq (.region id ops true) y) Q S U:=
 .inl (.inr (.inr (.inl (zhe (fun S U hw=>⟨S1,U1,hw,hrest⟩) _ _ _ _ h))))
theorem zrj {ops0:Array Oper} {FIN0:List AV->St->Prop} {k:Nat} {l:Array Bool} {U:St} (h: ∀ops,ops=ops0-> ∀FIN:List AV->St->Prop,(∀S U,FIN0 S U->FIN S U)-> ∀S0,S0=S->zpo IT P W ops FIN k l S0 U):zpo IT P W ops0 FIN0 k l S U:=h ops0 rfl FIN0 (fun _ _ h=>h) S rfl
theorem aopAt_s {ops0:Array Oper} {K:List AV->St->Prop} {i:Nat} {o:Oper} {U:St} (hops:ops=ops0)(ho:ops0[i]? =some o)(h:zca IT P W ops K [o] S U):zpk IT P W ops K i S U:=by
 subst hops;unfold zpk;rw[ho];simp only[zca] at h;exact h
theorem aany_n {ops0:Array Oper} {FIN:List AV->St->Prop} {k:Nat} {bs:List Bool} {U:St} (hops:ops=ops0)(is:List Nat)(hr:Region.ready .any ops0 ⟨bs⟩=is)(hne:is≠[])(h: ∀i∈is,zpk IT P W ops (fun S U=>zpo IT P W ops FIN k ⟨bs.set i true⟩ S U) i S U):zpo IT P W ops FIN (k+1) ⟨bs⟩ S U:=by
 subst hops;refine⟨fun e=>absurd (hr.symm.trans e) hne,fun i hi=> ?_⟩;have h1:=h i (hr▸hi);have e:(⟨bs⟩:Array Bool).setIfInBounds i true=⟨bs.set i true⟩:=by
  apply Array.ext';simp
 rw[e];exact h1
theorem aany_0 {ops0:Array Oper} {FIN:List AV->St->Prop} {bs:List Bool} {U:St} (hops:ops=ops0)(hr:Region.ready .any ops0 ⟨bs⟩=[])(h:FIN S U):zpo IT P W ops FIN 0 ⟨bs⟩ S U:=by
 subst hops;exact⟨hr,h⟩
theorem all_nil {p:Nat->Prop}: ∀i∈([]:List Nat),p i:=fun i h=>by cases h
theorem all_cons {p:Nat->Prop} {a:Nat} {l:List Nat} (h:p a)(t: ∀i∈l,p i): ∀i∈a::l,p i:=fun i hi=>by
 rcases List.mem_cons.1 hi with rfl|hi
 ·exact h
 ·exact t i hi
end
section
variable {P:Program} {ρ:Operand->AV} {U:St} {o:Oper} {α:Type} [Enc α]
theorem Enc.atK {l:List α} {i:Int} (g:0<=i/\ i<l.length)(k:Nat):(Enc.cellsL l).drop (0+i.toNat*Enc.sz α+k)=(Enc.cells (ix l i)++Enc.cellsL (l.drop (i.toNat+1))).drop k:=by
 rw[zero_add, <-List.drop_drop,Enc.at g]
theorem zhk {t e:TypeId} {x i:Operand} {s:Nat} {f:Bool} {k:IntKind} {j:Int} (g:0<=j/\ j<n)(ho:o.op= .indexAddr t x i)(hx:ρ x= .bsl s 0 n (Enc.sz α) f)(hi:ρ i= .raw (.int k j))(hu:P.underlying t=some (.slice e))(hs:zcl P e=some (Enc.sz α)):
 qop P ρ U o=some (.ptr s (0+j.toNat*Enc.sz α)):=z8u ho hx hi hu hs g
theorem zgh {l:List α} {i:Int} {k s:Nat} {te t:TypeId} {x:Operand} {a:AV} (g:0<=i/\ i<l.length)(ho:o.op= .load t x)(hx:ρ x= .ptr s (0+i.toNat*Enc.sz α+k))(hb:U.boxes[s]? =some (te,Enc.cellsL l))(hr:rd P t ((Enc.cells (ix l i)++Enc.cellsL (l.drop (i.toNat+1))).drop k)=some a):
 qop P ρ U o=some a:=by
 rw[<-Enc.atK g] at hr;simp only[qop,ho,hx,zlu,hb,hr]
theorem Enc.putK {l:List α} {i:Int} {x:α} {k:Nat} {cs:List AV} (g:0<=i/\ i<l.length)(hl:cs.length=n)(hk:k+n<=Enc.sz α)(hx:Enc.cells x=(Enc.cells (ix l i)).take k++cs++(Enc.cells (ix l i)).drop (k+n)):
 (Enc.cellsL l).take (0+i.toNat*Enc.sz α+k)++cs++(Enc.cellsL l).drop (0+i.toNat*Enc.sz α+k+n)=Enc.cellsL (l.set i.toNat x):=by
 have hi:i.toNat<l.length:=by omega
 have hset:l.set i.toNat x=l.take i.toNat++[x]++l.drop (i.toNat+1):=by
  rw[List.set_eq_take_append_cons_drop,if_pos hi];simp
 have hlen:=Enc.len (ix l i);have e1:(Enc.cellsL l).drop (i.toNat*Enc.sz α)=Enc.cells (ix l i)++Enc.cellsL (l.drop (i.toNat+1)):=Enc.at g;have e2:(Enc.cellsL l).take (0+i.toNat*Enc.sz α+k)=Enc.cellsL (l.take i.toNat)++(Enc.cells (ix l i)).take k:=by
  rw[zero_add,List.take_add,Enc.take,e1,List.take_append_of_le_length (by omega)]
 have e3:(Enc.cellsL l).drop (0+i.toNat*Enc.sz α+k+n)=(Enc.cells (ix l i)).drop (k+n)++Enc.cellsL (l.drop (i.toNat+1)):=by
  rw[zero_add,Nat.add_assoc, <-List.drop_drop,e1,List.drop_append_of_le_length (by omega)]
 rw[e2,e3,hset,Enc.app,Enc.app,Enc.cons,Enc.nil,hx];simp
theorem zum {l:List α} {i:Int} {k s:Nat} {te t:TypeId} {x:Operand} {v:AV} (x':α)(g:0<=i/\ i<l.length)(ho:o.op= .store t x y)(hx:ρ x= .ptr s (0+i.toNat*Enc.sz α+k))(hy:ρ y=v)(hb:U.boxes[s]? =some (te,Enc.cellsL l))(hn:zcl P t=some n)(hc:zht v=true)(hl:(cellsOf v).length=n)(h0:0<n)(hk:k+n<=Enc.sz α)
 (hx':Enc.cells x'=(Enc.cells (ix l i)).take k++cellsOf v++(Enc.cells (ix l i)).drop (k+n)):aop P ρ U o=some (.raw undef,{U with boxes:=U.boxes.set s (te,Enc.cellsL (l.set i.toNat x'))}):=by
 have hfit:0+i.toNat*Enc.sz α+k+n<=(Enc.cellsL l).length:=by
  rw[Enc.lenL];have h1:i.toNat+1<=l.length:=by omega
  have h2:=Nat.mul_le_mul_right (Enc.sz α) h1;rw[Nat.succ_mul] at h2;omega
 rw[zcr (n:=n) ho hx hy hb hn ⟨hc,hl,hfit,h0⟩,Enc.putK g hl hk hx']
theorem z7d {c:Call} {x:Operand} {t e:TypeId} {i:TypeInfo} {z:Value} {s by':Nat} {l r:List α} {st:Room} (hn:l.length=n/\ 0<n/\ 0<r.length/\ (n+r.length)*by'<=140737488355328)(ho:o.op= .call c)(hc:c.callee= .builtin .append)(ha:c.args.toList=[x,y])(ht:c.argTypes.toList=[t,t])
 (hx:ρ x= .bsl s 0 n (Enc.sz α) false) (hy:ρ y= .list r.length (Enc.cellsL r) st) (hb:U.boxes[s]? =some (e,Enc.cellsL l)) (hu:P.underlying t=some (.slice e)) (hi:P.info? e=some i) (hz:i.zero=some z) (hsz:i.size=Enc.sz α) (hzs:z.cells.size=Enc.sz α) (hby:i.bytes=by'/\ 0<by'):
 zwb P ρ U o=some (.bsl U.boxes.length 0 (n+r.length) (Enc.sz α) false,{U with boxes:=U.boxes.set s (e,[])++[(e,Enc.cellsL (l++r))]}):=by
 obtain⟨h1,h2,h3,h4⟩:=hn;have hp:=Enc.pos (α:=α);have hsrc:qdh P U i.size t t (ρ y)=some (r.length,Enc.cellsL r):=by rw[hy];exact zpw ⟨rfl,by rw[Enc.lenL,hsz],by omega⟩
 have hmax:n+r.length<=maxLen:=by
  have h5:n+r.length<=(n+r.length)*by':=Nat.le_mul_of_pos_right _ hby.2
  have h6:140737488355328<=maxLen:=by decide
  omega
 have hcond:Enc.sz α=i.size/\ n+r.length<=maxLen/\ (n+r.length)*i.bytes<=140737488355328/\ 0+n*Enc.sz α<=(Enc.cellsL l).length:=⟨hsz.symm,hmax,by rw[hby.1];exact h4,by rw[Enc.lenL,h1];omega⟩;have hcond2:(0:Nat)=0/\ n*Enc.sz α=(Enc.cellsL l).length/\ e=e/\ 0<n:=⟨rfl,by rw[Enc.lenL,h1],rfl,h2⟩;have hcond0:0<i.size/\ z.cells.size=i.size/\ 0<r.length:=⟨by omega,by omega,h3⟩;have key:zpz P U t t (ρ x) (ρ y)=some (.bsl U.boxes.length 0 (n+r.length) (Enc.sz α) false,{U with boxes:=U.boxes.set s (e,[])++[(e,Enc.cellsL (l++r))]}):=by
  rw[zpz];simp only[hu,hi,hz,hsrc,if_pos hcond0,hx,hb,if_pos hcond,Bool.false_eq_true,if_false,Enc.app];rw[if_pos ⟨trivial,hcond2.2.1,trivial,h2⟩]
 have hnn:zsu (ρ x)=false:=by rw[hx];rfl
 simp only[zwb,ho,hc,ha,ht,key,hnn,Bool.false_eq_true,if_false]
end
section
variable {m:Nat} {g:FZ}
theorem zik:fgM [] (zx m g [])=[]:=by rw[zx];rfl
theorem zfe {a b:AV} {ms:List Bool} (h:zid m g a=b)(r:fgM ms (zx m g S)=S'):fgM (true::ms) (zx m g (a::S))=b::S':=by
 rw[zx];show(bif true then zid m g a else .top)::_=_;rw[r,h];rfl
theorem zvv {a:AV} {ms:List Bool} (r:fgM ms (zx m g S)=S'):fgM (false::ms) (zx m g (a::S))= .top::S':=by
 rw[zx];show(bif false then zid m g a else .top)::_=_;rw[r];rfl
theorem zk:zx m g []=[]:=by rw[zx]
theorem zak {a b:AV} {l:List AV} (h:zid m g a=b)(r:zx m g l=l'):zx m g (a::l)=b::l':=by rw[zx,h,r]
theorem z4a:zdb g []=[]:=by rw[zdb]
theorem zqf {a b:AV} {l:List AV} (h:zhh g a=b)(r:zdb g l=l'):zdb g (a::l)=b::l':=by rw[zdb,h,r]
theorem z6z {a:AV} (h:clo a=true):zhh g a=a:=by
 have:=zec g [a] (by rw[cloL,h];rfl);rw[zdb] at this;exact(List.cons.inj this).1
theorem kz_bsl {α:Type} [Enc α] {bs:List (TypeId×List AV)} {js:List Nat} {d s n:Nat} {f:Bool} {t:TypeId} {l:List α} (hn:l.length=n)(hb:bs[s]? =some (t,Enc.cellsL l))(hp:zgb 0 [] js s=none):zid m (kz bs m 0 [] js (d+1)) (.bsl s 0 n (Enc.sz α) f)= .list l.length (Enc.cellsL l) .none:=by
 subst hn;rw[zid];simp only[kz,hp,hb,map_some,getD_some,List.drop_zero,zaa _ _ _ (Enc.cloL l)];rw[take_of_length_le (by rw[Enc.lenL];exact le_refl _)]
theorem zv {bs:List (TypeId×List AV)} {fs js0:List Nat}:(([]:List Nat).map fun j=>((bs[j]?).map fun b=>(b.1,zx m (kz bs m n fs js0 d) b.2)).getD (0,[.bad]))=[]:=rfl
theorem zd {bs:List (TypeId×List AV)} {j:Nat} {fs js js0:List Nat} {t:TypeId} {cs cs':List AV} {r:List (TypeId×List AV)} (hb:bs[j]? =some (t,cs))(hc:zx m (kz bs m n fs js0 d) cs=cs')(hr:(js.map fun j=>((bs[j]?).map fun b=>(b.1,zx m (kz bs m n fs js0 d) b.2)).getD (0,[.bad]))=r):
 ((j::js).map fun j=>((bs[j]?).map fun b=>(b.1,zx m (kz bs m n fs js0 d) b.2)).getD (0,[.bad]))=(t,cs')::r:=by
 rw[map_cons,hr,hb];simp only[map_some,getD_some,hc]
theorem zer {U U':St} {js:List Nat} {bs':List (TypeId×List AV)} (h:(js.map fun j=>((U.boxes[j]?).map fun b=>(b.1,zx m (kz U.boxes m 0 [] js d) b.2)).getD (0,[.bad]))=bs')(h2:{U with boxes:=bs',lens:=U.lens.take m,elems:=U.elems.take m}=U'):zeo U m 0 [] js d=U':=by
 subst h2;unfold zeo zce;rw[h];rfl
end
def bl:Nat->Nat->List Bool
 |0,_=>[]
 |n+1,m=>(m%2==1)::bl n (m/2)
section
variable {IT:IterP} {P:Program} {W:Owed} {ops ops0:Array Oper} {Q:List AV->St->Prop} {K:List AV->Prop} {o:Oper} {l:List Oper} {S S':List AV} {U U' U'':St} {a:AV} {kb:Nat} {b:Bool} {c:Option Bool}
theorem w_o (k:zca IT P W ops Q l S' U')(hg:o.guard=none:=by exact rfl)(hc:zcz S o=none:=by exact rfl)(hy:zdc S o=none:=by exact rfl)(h:aop P (zby S) U o=some (a,U'):=by exact rfl)(hS:zaf S o.dst a=S':=by dsimp only[zaf,List.set]):zca IT P W ops Q (o::l) S U:=
 zow hg hc hy h hS k
theorem zqm (k:zca IT P W ops Q l S' U'')(hg:o.guard=none:=by exact rfl)(hc:zcz S o=none:=by exact rfl)(hy:zdc S o=none:=by exact rfl)(h:aop P (zby S) U o=some (a,U'):=by exact rfl)(hS:zaf S o.dst a=S':=by dsimp only[zaf,List.set])(hσ:U'=U'':=by exact rfl):zca IT P W ops Q (o::l) S U:=
 zho hg hc hy h hS hσ k
theorem qka (k:zca IT P W ops Q l S' U)(hg:o.guard=some (kb,b):=by exact rfl)(hk:zdv ops S kb=some c:=by exact rfl)(hcb:c≠some b:=by decide)(hS:zaf S o.dst (.raw undef)=S':=by dsimp only[zaf,List.set]):zca IT P W ops Q (o::l) S U:=
 qdm hg hk hcb hS k
theorem h_o (k:zep IT P ops U K l S')(hd:(o.dst.all fun d=>decide (d<S.length))=true:=by exact rfl)(hg:o.guard=none:=by exact rfl)(hc:zcz S o=none:=by exact rfl)(h:qop P (zby S) U o=some a:=by exact rfl)(hS:zaf S o.dst a=S':=by dsimp only[zaf,List.set]):zep IT P ops U K (o::l) S:=
 qkr hd hg hc h hS k
theorem zlz (k:zep IT P ops U K l S')(hd:(o.dst.all fun d=>decide (d<S.length))=true:=by exact rfl)(hg:o.guard=some (kb,b):=by exact rfl)(hk:zdv ops S kb=some c:=by exact rfl)(hcb:c≠some b:=by decide)(hS:zaf S o.dst (.raw undef)=S':=by dsimp only[zaf,List.set]):zep IT P ops U K (o::l) S:=
 h_pass hd hg hk hcb hS k
end
theorem zqw {IT:IterP} {P:Program} {W:Owed} {ops ops0:Array Oper} {K:List AV->St->Prop} {i:Nat} {o:Oper} {S:List AV} {U:St} (hops:ops=ops0)(ho:ops0.toList[i]? =some o)(h:zca IT P W ops K [o] S U):zpk IT P W ops K i S U:=
 aopAt_s hops (by rw[<-ho,Array.getElem?_toList]) h
def upS:List (Option (Nat×AV))->List Bool->List (Nat×AV)
 |some q::ps,true::bs=>q::upS ps bs
 |none::ps,true::bs=>upS ps bs
 |_::ps,false::bs=>upS ps bs
 |_,_=>[]
def aN (IT:IterP)(P:Program)(W:Owed)(ops:Array Oper)(FIN:List AV->St->Prop)(S0:List AV)(ps:List (Option (Nat×AV)))(n k m:Nat)(U:St):Prop:=
 zpo IT P W ops FIN k ⟨bl n m⟩ (zau S0 (upS ps (bl n m))) U
section
variable {IT:IterP} {P:Program} {W:Owed} {ops ops0:Array Oper} {FIN:List AV->St->Prop} {S0 L S:List AV} {ps PL:List (Option (Nat×AV))} {n k m m':Nat} {U:St}
theorem aN_n (hops:ops=ops0)(hS:S0=L)(hps:ps=PL)(is:List Nat)
 (h: ∀i∈is,zpk IT P W ops (fun S U=>zpo IT P W ops FIN k ⟨(bl n m).set i true⟩ S U) i S U)
 (hr:Region.ready .any ops0 ⟨bl n m⟩=is:=by kernel_rfl) (hne:is≠[]:=by decide) (e:zau L (upS PL (bl n m))=S:=by dsimp only[zau,List.foldl,List.set,upS,bl,Nat.reduceMod,Nat.reduceDiv,Nat.reduceBEq]):aN IT P W ops FIN S0 ps n (k+1) m U:=by
 subst hS hps e;exact aany_n hops is hr hne h
theorem aN_0 (hops:ops=ops0)(hS:S0=L)(hps:ps=PL)(h:FIN S U)(hr:Region.ready .any ops0 ⟨bl n m⟩=[]:=by kernel_rfl)(e:zau L (upS PL (bl n m))=S:=by dsimp only[zau,List.foldl,List.set,upS,bl,Nat.reduceMod,Nat.reduceDiv,Nat.reduceBEq]):aN IT P W ops FIN S0 ps n 0 m U:=by
 subst hS hps e;exact aany_0 hops hr h
theorem zfo {i:Nat} (h:aN IT P W ops FIN S0 ps n k m' U)(hS:S0=L)(hps:ps=PL)(hb:(bl n m).set i true=bl n m':=by kernel_rfl)(e:zau L (upS PL (bl n m'))=S:=by kernel_rfl):zpo IT P W ops FIN k ⟨(bl n m).set i true⟩ S U:=by
 subst hS hps e;rw[hb];exact h
theorem zye {k':Nat} {l:Array Bool} (h:aN IT P W ops FIN S0 ps n k 0 U)(hps:ps=PL)(hk:k=k':=by kernel_rfl)(hb:(⟨bl n 0⟩:Array Bool)=l:=by kernel_rfl)(e:upS PL (bl n 0)=[]:=by kernel_rfl):zpo IT P W ops FIN k' l S0 U:=by
 subst hps hk hb;have h':zpo IT P W ops FIN k ⟨bl n 0⟩ (zau S0 (upS ps (bl n 0))) U:=h;rw[e] at h';exact h'
end
@[reducible] def AV.i (x:Int):AV:= .raw (.int .i64 x)
@[reducible] def AV.u (x:Int):AV:= .raw (.int .u8 x)
@[reducible] def AV.b (x:Bool):AV:= .raw (.bool x)
@[reducible] def AV.s (x:List UInt8):AV:= .raw (.string (bs x))
def mvOf:Op->Option Nat
 | .move (.tmp k)=>some k
 | .assign (.tmp k)=>some k
 |_=>none
section
variable {IT:IterP} {P:Program} {W:Owed} {ops ops0:Array Oper} {Q:List AV->St->Prop} {K:List AV->Prop} {o:Oper} {l:List Oper} {S S':List AV} {U U' U'':St} {a:AV} {k:Nat}
theorem ztt (ho:mvOf o.op=some k)(hv:S[k]? =some a):zcz S o=none/\ zdc S o=none/\ qop P (zby S) U o=some a:=by
 have h:o.op= .move (.tmp k) \/o.op= .assign (.tmp k):=by
  unfold mvOf at ho;split at ho<;>cases ho
  ·rename_i h;exact .inl h
  ·rename_i h;exact .inr h
 rcases h with h|h<;>simp[zcz,zdc,qop,h,zby,hv]
theorem zao (kk:zca IT P W ops Q l S' U)(ho:mvOf o.op=some k:=by exact rfl)(hg:o.guard=none:=by exact rfl)(hv:S[k]? =some a:=by exact rfl)(hS:zaf S o.dst a=S':=by dsimp only[zaf,List.set]):zca IT P W ops Q (o::l) S U:=by
 obtain⟨h1,h2,h3⟩:=ztt (P:=P) (U:=U) ho hv;exact zow hg h1 h2 (zba h3) hS kk
theorem zgr (kk:zep IT P ops U K l S')(ho:mvOf o.op=some k:=by exact rfl)(hd:(o.dst.all fun d=>decide (d<S.length))=true:=by exact rfl)(hg:o.guard=none:=by exact rfl)(hv:S[k]? =some a:=by exact rfl)(hS:zaf S o.dst a=S':=by dsimp only[zaf,List.set]):zep IT P ops U K (o::l) S:=by
 obtain⟨h1,h2,h3⟩:=ztt (P:=P) (U:=U) ho hv;exact qkr hd hg h1 h3 hS kk
def exOf:Op->Option (Nat×Nat)
 | .extract (.tmp k) i=>some (k,i)
 |_=>none
theorem z0h {i:Nat} {vs:List AV} (ho:exOf o.op=some (k,i))(hv:S[k]? =some (.tup vs))(hi:vs[i]? =some a):zcz S o=none/\ zdc S o=none/\ qop P (zby S) U o=some a:=by
 have h:o.op= .extract (.tmp k) i:=by
  unfold exOf at ho;split at ho<;>cases ho
  rename_i h;exact h
 simp[zcz,zdc,qop,h,zby,hv,hi]
theorem h_ex {i:Nat} {vs:List AV} (kk:zep IT P ops U K l S')(ho:exOf o.op=some (k,i):=by exact rfl)(hd:(o.dst.all fun d=>decide (d<S.length))=true:=by exact rfl)(hg:o.guard=none:=by exact rfl)(hv:S[k]? =some (.tup vs):=by exact rfl)(hi:vs[i]? =some a:=by exact rfl)(hS:zaf S o.dst a=S':=by dsimp only[zaf,List.set]):zep IT P ops U K (o::l) S:=by
 obtain⟨h1,h2,h3⟩:=z0h (P:=P) (U:=U) ho hv hi;exact qkr hd hg h1 h3 hS kk
end
section
variable {P:Program} {fn:Func} {S:List AV} {U:St}
theorem zbc {y r:Bool} (hr:some y=some r)(h:zat P fn U S=some (.raw (.bool y)):=by exact rfl):zwi P fn (.raw (.bool r)) .ret S U:=zdu (fun(r:Bool)=>(.raw (.bool r):AV)) hr h rfl rfl
theorem zki {k:IntKind} {y r:Int} (hr:some y=some r)(h:zat P fn U S=some (.raw (.int k y)):=by exact rfl):zwi P fn (.raw (.int k r)) .ret S U:=zdu (fun(r:Int)=>(.raw (.int k r):AV)) hr h rfl rfl
theorem qnj {y r:List UInt8} (hr:some y=some r)(h:zat P fn U S=some (.raw (.string (bs y))):=by exact rfl):zwi P fn (.raw (.string (bs r))) .ret S U:=zdu (fun(r:List UInt8)=>(.raw (.string (bs r)):AV)) hr h rfl rfl
end
section
variable {IT:IterP} {P:Program} {W:Owed} {ops ops0:Array Oper} {FIN:List AV->St->Prop} {S0 L S:List AV} {ps PL:List (Option (Nat×AV))} {n k m m':Nat} {U:St} {o o' o'':Oper}
theorem qki (hops:ops=ops0)(hS:S0=L)(hps:ps=PL)(i:Nat)(h:zca IT P W ops (fun S U=>zpo IT P W ops FIN k ⟨(bl n m).set i true⟩ S U) [o] S U)
 (ho:ops0.toList[i]? =some o:=by exact rfl) (hr:Region.ready .any ops0 ⟨bl n m⟩=[i]:=by kernel_rfl) (e:zau L (upS PL (bl n m))=S:=by dsimp only[zau,List.foldl,List.set,upS,bl,Nat.reduceMod,Nat.reduceDiv,Nat.reduceBEq]):aN IT P W ops FIN S0 ps n (k+1) m U:=
 aN_n hops hS hps [i] (all_cons (zqw hops ho h) all_nil) hr (by simp) e
theorem aN_2 (hops:ops=ops0)(hS:S0=L)(hps:ps=PL)(i j:Nat)(h:zca IT P W ops (fun S U=>zpo IT P W ops FIN k ⟨(bl n m).set i true⟩ S U) [o] S U)(h':zca IT P W ops (fun S U=>zpo IT P W ops FIN k ⟨(bl n m).set j true⟩ S U) [o'] S U)
 (ho:ops0.toList[i]? =some o:=by exact rfl) (ho':ops0.toList[j]? =some o':=by exact rfl) (hr:Region.ready .any ops0 ⟨bl n m⟩=[i,j]:=by kernel_rfl) (e:zau L (upS PL (bl n m))=S:=by dsimp only[zau,List.foldl,List.set,upS,bl,Nat.reduceMod,Nat.reduceDiv,Nat.reduceBEq]):aN IT P W ops FIN S0 ps n (k+1) m U:=
 aN_n hops hS hps [i,j] (all_cons (zqw hops ho h) (all_cons (zqw hops ho' h') all_nil)) hr (by simp) e
theorem aN_3 (hops:ops=ops0)(hS:S0=L)(hps:ps=PL)(i j q:Nat)(h:zca IT P W ops (fun S U=>zpo IT P W ops FIN k ⟨(bl n m).set i true⟩ S U) [o] S U)(h':zca IT P W ops (fun S U=>zpo IT P W ops FIN k ⟨(bl n m).set j true⟩ S U) [o'] S U)(h'':zca IT P W ops (fun S U=>zpo IT P W ops FIN k ⟨(bl n m).set q true⟩ S U) [o''] S U)
 (ho:ops0.toList[i]? =some o:=by exact rfl) (ho':ops0.toList[j]? =some o':=by exact rfl) (ho'':ops0.toList[q]? =some o'':=by exact rfl) (hr:Region.ready .any ops0 ⟨bl n m⟩=[i,j,q]:=by kernel_rfl) (e:zau L (upS PL (bl n m))=S:=by dsimp only[zau,List.foldl,List.set,upS,bl,Nat.reduceMod,Nat.reduceDiv,Nat.reduceBEq]):aN IT P W ops FIN S0 ps n (k+1) m U:=
 aN_n hops hS hps [i,j,q] (all_cons (zqw hops ho h) (all_cons (zqw hops ho' h') (all_cons (zqw hops ho'' h'') all_nil))) hr (by simp) e
end
def bzc:Bool->Nat->List Nat->List Nat
 |true,i,l=>i::l
 |false,_,l=>l
def bz:Nat->Nat->Nat->List Nat
 |_,0,_=>[]
 |i,n+1,m=>bzc (m%2==1) i (bz (i+1) n (m/2))
section
variable {IT:IterP} {P:Program} {W:Owed} {k0:Nat} {ops:Array Oper} {Q:List AV->St->Prop} {o:Oper} {l:List Oper} {S S':List AV} {U U':St} {f:FuncId} {args args':List AV} {r:AV}
theorem zdf {c:Code} {Q:AQ} (h:awp IT P W k0 c Q S' U)(hS:S=S':=by dsimp only[zau,zbo,List.foldl,List.set,bz,bzc,Nat.reduceMod,Nat.reduceDiv,Nat.reduceBEq,Nat.reduceAdd]):awp IT P W k0 c Q S U:=zbq hS rfl h
theorem zaz {n0:Nat} (m:List Bool)(h:fgM m S=S':=by kernel_rfl)(hσ:U'=U:=by kernel_rfl):Wk n0 S U S' U':=zpj m h hσ
end
section
variable {P:Program} {ρ:Operand->AV} {U:St} {o:Oper}
theorem bs_get (l:List UInt8)(i:Nat):(bs l)[i]? =l[i]? :=by
 simp only[bs];by_cases h:i<l.length
 ·rw[List.getElem?_eq_getElem h];have h2:i<(ByteArray.mk l.toArray).size:=h;rw[getElem?_pos (ByteArray.mk l.toArray) i h2];rfl
 ·rw[List.getElem?_eq_none (by omega)];have h2: ¬i<(ByteArray.mk l.toArray).size:=h;rw[getElem?_neg (ByteArray.mk l.toArray) i h2]
theorem zwt (l:List UInt8)(i j:Nat):(bs l).extract i j=bs ((l.drop i).take (j-i)):=by
 apply ByteArray.ext;rw[ByteArray.data_extract];simp[bs,List.extract_eq_take_drop]
theorem z4u {v:Value} (h1:o.op.operands.toList.all (fun x=>(zdq (ρ x)).isSome)=true)(h2: ∀cs b,o.op≠ .select cs b)(h3:val? P (execOp (zbw ρ) o)=some (.value v))(h4:zof v=true):zfz P ρ o=some (zje v):=by
 unfold zfz;rw[if_pos h1];split
 ·rename_i cs b ho;exact absurd ho (h2 cs b)
 ·rw[h3];simp only[h4,if_true]
theorem zej {t:TypeId} {x i:Operand} {l:List UInt8} {k:IntKind} {n:Int} (g:0<=n/\ n<l.length)(ho:o.op= .index t x i)(hx:ρ x= .raw (.string (bs l)))(hi:ρ i= .raw (.int k n))(hu:P.underlying t=some .string):
 qop P ρ U o=some (.raw (.int .u8 (((ix l n).toNat:Nat):Int))):=by
 have hn:n.toNat<l.length:=by omega
 have h3:val? P (execOp (zbw ρ) o)=some (.value (.int .u8 (((ix l n).toNat:Nat):Int))):=by
  have hg:(bs l)[n.toNat]? =some (ix l n):=by
   rw[bs_get,List.getElem?_eq_getElem hn];simp[ix,hn]
  simp only[execOp,ho,zbw,hx,hi,zdq,getD_some,Instr.index,asIntOf,underlying];simp only[program,Bind.bind,Pure.pure,Functor.map,Sem.bind,val?,hu,if_pos g.1,hg]
 have h1:o.op.operands.toList.all (fun x=>(zdq (ρ x)).isSome)=true:=by rw[ho];simp[Op.operands,hx,hi,zdq]
 have h4:=z4u h1 (by rw[ho];intros;simp) h3 rfl;simp only[qop,ho,hx,hi,h4];first|rfl|(simp;rfl)
theorem zok {t:TypeId} {x y:Operand} {l:List UInt8} {i:Int} (g:0<=i/\ i<=(l.length:Int)/\ (l.length:Int)<=(l.length:Int))(ho:o.op= .slice t x (some y) none none)(hx:ρ x= .raw (.string (bs l)))(hy:ρ y= .raw (.int .i64 i))(hu:P.underlying t=some .string):
 qop P ρ U o=some (.raw (.string (bs (sub l i l.length)))):=by
 have hsz:(bs l).size=l.length:=rfl;have c2:0<=i/\ i<=((bs l).size:Int):=by rw[hsz];omega
 have h3:val? P (execOp (zbw ρ) o)=some (.value (.string (bs (sub l i l.length)))):=by
  have he:sub l i l.length=(l.drop i.toNat).take (l.length-i.toNat):=rfl;rw[he, <-zwt];simp only[execOp,ho,zbw,hx,hy,zdq,getD_some,map_some,Option.map_none,Instr.sliceAt,Instr.slice,Instr.sliceBounds,Instr.sliceBound,asIntOf,underlying];simp[program,Bind.bind,Pure.pure,Functor.map,Sem.bind,val?,hu,if_pos c2];try rfl
 have h1:o.op.operands.toList.all (fun x=>(zdq (ρ x)).isSome)=true:=by rw[ho];simp[Op.operands,hx,hy,zdq]
 have h4:=z4u h1 (by rw[ho];intros;simp) h3 rfl;simp only[qop,ho,hx,hy,h4,map_some,Option.map_none,zlm,hu];try rfl
theorem q_ssl_H {t:TypeId} {x z:Operand} {l:List UInt8} {j:Int} (g:0<=0/\ 0<=j/\ j<=(l.length:Int))(ho:o.op= .slice t x none (some z) none)(hx:ρ x= .raw (.string (bs l)))(hz:ρ z= .raw (.int .i64 j))(hu:P.underlying t=some .string):
 qop P ρ U o=some (.raw (.string (bs (sub l 0 j)))):=by
 have hsz:(bs l).size=l.length:=rfl;have c1:0<=j/\ j<=((bs l).size:Int):=by rw[hsz];omega
 have h3:val? P (execOp (zbw ρ) o)=some (.value (.string (bs (sub l 0 j)))):=by
  have he:sub l 0 j=(l.drop 0).take (j.toNat-0):=rfl;rw[he, <-zwt];simp only[execOp,ho,zbw,hx,hz,zdq,getD_some,map_some,Option.map_none,Instr.sliceAt,Instr.slice,Instr.sliceBounds,Instr.sliceBound,asIntOf,underlying];simp[program,Bind.bind,Pure.pure,Functor.map,Sem.bind,val?,hu,if_pos c1];try rfl
 have h1:o.op.operands.toList.all (fun x=>(zdq (ρ x)).isSome)=true:=by rw[ho];simp[Op.operands,hx,hz,zdq]
 have h4:=z4u h1 (by rw[ho];intros;simp) h3 rfl;simp only[qop,ho,hx,hz,h4,map_some,Option.map_none,zlm,hu];try rfl
end
variable {c:Bool} {y:Operand} {n:Int} {args':List AV}
inductive RV where
 |v (a:AV)|m (a:AV)|x (a:AV)|p
def RV.val:RV->AV
 | .v a=>a
 | .m a=>a
 | .x a=>a
 | .p=> .raw undef
def gst (ops:Array Oper)(S:List AV)(o:Oper):Option Bool:=match o.guard with
 |none=>some true
 | some (k,b)=>match zdv ops S k with
  |some (some c)=>some (c==b)
  |some none=>some false
  |none=>none
def oneV (P:Program)(ops:Array Oper)(U:St)(S:List AV)(o:Oper):RV->Option (AV×St)
 | .v _=>match gst ops S o,zcz S o,zdc S o with
  |some true,none,none=>aop P (zby S) U o
  |_,_,_=>none
 | .m _=>match gst ops S o with
  | some true=>match mvOf o.op with
   | some k=>match S[k]? with
    |some a=>some (a,U)
    |none=>none
   |none=>none
  |_=>none
 | .x _=>match gst ops S o with
  | some true=>match exOf o.op with
   | some (k,i)=>match S[k]? with
    | some (.tup vs)=>match vs[i]? with
     |some a=>some (a,U)
     |none=>none
    |_=>none
   |none=>none
  |_=>none
 | .p=>match gst ops S o with
  |some false=>some (.raw undef,U)
  |_=>none
def outV (P:Program)(ops:Array Oper)(U:St):List RV->List Oper->List AV->List (Option (AV×St))
 |x::vs,o::l,S=>oneV P ops U S o x::outV P ops U vs l (zaf S o.dst x.val)
 |_::_,[],_=>[none]
 |[],_,_=>[]
def putV:List RV->List Oper->List AV->List AV
 |x::vs,o::l,S=>putV vs l (zaf S o.dst x.val)
 |_,_,S=>S
def z5c:List RV->List Oper->List Oper
 |_::vs,_::l=>z5c vs l
 |_,l=>l
def expV (U:St):List RV->List (Option (AV×St))
 |x::vs=>some (x.val,U)::expV U vs
 |[]=>[]
section
variable {IT:IterP} {P:Program} {W:Owed} {ops:Array Oper} {Q:List AV->St->Prop} {o:Oper} {l L l':List Oper} {S S':List AV} {U U' U'':St} {a:AV} {k0:Nat}
theorem zzl (h:gst ops S o=some c):o.guard=none/\ c=true \/ ∃k b d,o.guard=some (k,b)/\ zdv ops S k=some d/\ (c=true->d=some b)/\ (c=false->d≠some b):=by
 unfold gst at h;split at h
 ·exact .inl ⟨‹_›,(Option.some.inj h).symm⟩
 ·rename_i k b hg;split at h
  ·rename_i d hd;cases h;refine .inr ⟨k,b,_,hg,hd,fun e=> ?_,fun e=> ?_⟩
   ·rw[beq_iff_eq] at e;rw[e]
   ·intro e';cases e';simp at e
  ·rename_i hd;cases h;exact .inr ⟨k,b,_,hg,hd,nofun,nofun⟩
  ·cases h
theorem zrf (h:gst ops S o=some true)(k:zfh IT P W o S U fun a U'=>zca IT P W ops Q l (zaf S o.dst a) U'):zca IT P W ops Q (o::l) S U:=by
 rcases zzl h with⟨hg,_⟩|⟨kk,b,d,hg,hd,h1,_⟩
 ·simp only[zca,hg];exact k
 ·simp only[zca,hg];exact⟨d,hd,by rw[h1 rfl,if_pos rfl];exact k⟩
theorem w_one {x:RV} (h:oneV P ops U S o x=some (x.val,U))(k:zca IT P W ops Q l (zaf S o.dst x.val) U):zca IT P W ops Q (o::l) S U:=by
 cases x with
 | v a=>
  simp only[oneV] at h;split at h
  ·rename_i h1 h2 h3;refine zrf h1 ?_;simp only[zfh,h2,h3];exact .inl ⟨_,_,.inl h,k⟩
  ·cases h
 | m a=>
  simp only[oneV] at h;split at h
  ·rename_i h1;split at h
   ·rename_i kk h2;split at h
    ·rename_i b h3;obtain⟨q1,q2,q3⟩:=ztt (P:=P) (U:=U) h2 h3;have e:b=a:=congrArg Prod.fst (Option.some.inj h);subst e;refine zrf h1 ?_;simp only[zfh,q1,q2];exact .inl ⟨_,_,.inl (zba q3),k⟩
    ·cases h
   ·cases h
  ·cases h
 | x a =>
  simp only[oneV] at h;split at h
  ·rename_i h1;split at h
   ·rename_i kk i h2;split at h
    ·rename_i vs h3;split at h
     ·rename_i b h4;obtain⟨q1,q2,q3⟩:=z0h (P:=P) (U:=U) h2 h3 h4;have e:b=a:=congrArg Prod.fst (Option.some.inj h);subst e;refine zrf h1 ?_;simp only[zfh,q1,q2];exact .inl ⟨_,_,.inl (zba q3),k⟩
     ·cases h
    ·cases h
   ·cases h
  ·cases h
 | p=>
  simp only[oneV] at h;split at h
  ·rename_i h1;rcases zzl h1 with⟨_,e⟩|⟨kk,b,d,hg,hd,_,h2⟩
   ·cases e
   ·exact qdm hg hd (h2 rfl) rfl k
  ·cases h
theorem w_r (vs:List RV)(k:zca IT P W ops Q l' S' U)(h:outV P ops U vs l S=expV U vs:=by exact rfl)(hl:z5c vs l=l':=by dsimp only[z5c,List.toList_toArray,List.drop])(hS:putV vs l S=S':=by dsimp only[putV,RV.val,zaf,List.set,List.toList_toArray,List.drop]):zca IT P W ops Q l S U:=by
 subst hl hS;induction vs generalizing l S with
 |nil=>simpa[putV,z5c] using k
 | cons x vs ih=>
  cases l with
  |nil=>simp[outV,expV] at h
  | cons o l=>
   simp only[outV,expV,List.cons.injEq] at h;exact w_one h.1 (ih h.2 (by simpa[putV,z5c] using k))
theorem zae {id:Nat} {x y:Code} {Q:AQ} (vs:List RV)(k:zca IT P W ops (zue (awp IT P W k0 y Q) Q .normal) l' S' U)(hx:x= .region id ops false:=by exact rfl)(h:outV P ops U vs ops.toList S=expV U vs:=by exact rfl)(hl:z5c vs ops.toList=l':=by dsimp only[z5c,List.toList_toArray])(hS:putV vs ops.toList S=S':=by dsimp only[putV,RV.val,zaf,List.set,List.toList_toArray]):awp IT P W k0 (.seq x y) Q S U:=by
 subst hx;exact zi (zb (w_r vs k h hl hS))
theorem zap {t b:Bool} (e:t=b)(k:zca IT P W ops Q l S' U)(hg:o.guard=none:=by exact rfl)(hc:zcz S o=none:=by exact rfl)(hy:zdc S o=none:=by exact rfl)(h:qop P (zby S) U o=some (.raw (.bool t)):=by exact rfl)(hS:zaf S o.dst (.raw (.bool b))=S':=by dsimp only[zaf,List.set]):zca IT P W ops Q (o::l) S U:=
 zow hg hc hy (zba (zhl h e)) hS k
theorem zhd {x:Operand} {t:TypeId} {c} {m:Int} (g: -9223372036854775808<=m+n/\ m+n<9223372036854775808)(k:zca IT P W ops Q l S' U)(hg:o.guard=none:=by exact rfl)(ho:o.op= .binOp .add t x y c:=by exact rfl)(hx:zby S x= .raw (.int .i64 m):=by exact rfl)(hv:zby S y= .raw (.int .i64 n):=by exact rfl)(hS:zaf S o.dst (.raw (.int .i64 (m+n)))=S':=by dsimp only[zaf,List.set]):zca IT P W ops Q (o::l) S U:=
 zow hg (by simp[zcz,ho]) (by simp[zdc,ho]) (zba (qnc ho hx hv rfl g.1 g.2)) hS k
theorem qkf {x:Operand} {t:TypeId} {c} {m:Int} (g: -9223372036854775808<=m-n/\ m-n<9223372036854775808)(k:zca IT P W ops Q l S' U)(hg:o.guard=none:=by exact rfl)(ho:o.op= .binOp .sub t x y c:=by exact rfl)(hx:zby S x= .raw (.int .i64 m):=by exact rfl)(hv:zby S y= .raw (.int .i64 n):=by exact rfl)(hS:zaf S o.dst (.raw (.int .i64 (m-n)))=S':=by dsimp only[zaf,List.set]):zca IT P W ops Q (o::l) S U:=
 zow hg (by simp[zcz,ho]) (by simp[zdc,ho]) (zba (zjw ho hx hv rfl g.1 g.2)) hS k
theorem z4t {α:Type} [Enc α] {t e:TypeId} {x i:Operand} {u:α} {xs:List α} {st:Room} {kd:IntKind} {n:Int} (hu:ix xs n=u)(g:0<=n/\ n<xs.length)(k:zca IT P W ops Q l S' U)(hg:o.guard=none:=by exact rfl)(ho:o.op= .indexAddr t x i:=by exact rfl)(hx:zby S x= .list xs.length (Enc.cellsL xs) st:=by exact rfl)(hi:zby S i= .raw (.int kd n):=by exact rfl)(ht:P.underlying t=some (.slice e):=by exact rfl)(hs:zcl P e=some (Enc.sz α):=by exact rfl)
 (hS:zaf S o.dst (.iptr (Enc.cells u++Enc.cellsL (xs.drop (n.toNat+1))))=S':=by dsimp only[zaf,List.set]):zca IT P W ops Q (o::l) S U:=by
 subst hu;exact zow hg (by simp[zcz,ho]) (by simp[zdc,ho]) (zba (qck g ho hx hi ht hs)) hS k
theorem zoa {t:TypeId} {x:Operand} {s:Nat} {v:AV} {bx:TypeId×List AV} (n:Nat)(U'':St)(k:zca IT P W ops Q l S' U'')(hg:o.guard=none:=by exact rfl)(ho:o.op= .store t x y:=by exact rfl)(hx:zby S x= .ptr s 0:=by exact rfl)(hv:zby S y=v:=by exact rfl)(hb:U.boxes[s]? =some bx:=by exact rfl)(hn:zcl P t=some n:=by exact rfl)(hl:bx.2.length=n:=by exact rfl)(hc:zht v=true:=by exact rfl)(hvl:(cellsOf v).length=n:=by exact rfl)(h0:0<n:=by decide)
 (hS:zaf S o.dst (.raw undef)=S':=by dsimp only[zaf,List.set]) (hσ:{U with boxes:=U.boxes.set s (bx.1,cellsOf v)}=U'':=by exact rfl):zca IT P W ops Q (o::l) S U:=
 zho hg (by simp[zcz,ho]) (by simp[zdc,ho]) (zeh ho hx hv hb hn hl hc hvl h0) hS hσ k
theorem zcp {f:FuncId} {args:List AV} {r:AV} (hp:Pure IT P f args' r)(k:zca IT P W ops Q l S' U)(hg:o.guard=none:=by exact rfl)(hc:zcz S o=some (f,args):=by exact rfl)
 (hs:stripL args=args':=by repeat(first|exact rfl|refine zq (by first|exact zcm (zac (Enc.clo _))|exact zmo (Enc.cloL _)|exact zvx (Enc.cloL _) Enc.z|exact rfl) ?_))
 (hok:zad 0 args=true:=by repeat(first|exact rfl|refine za (by first|exact zaq _ _ (zac (Enc.clo _))|exact zbj (Enc.cloL _)|exact zdg (Enc.cloL _)|exact rfl) ?_)) (hS:zaf S o.dst r=S':=by dsimp only[zaf,List.set]):zca IT P W ops Q (o::l) S U:=
 zlf hp hg hc hs hok hS k
theorem h_ix {α:Type} [Enc α] {K:List AV->Prop} {t e:TypeId} {x i:Operand} {u:α} {xs:List α} {st:Room} {kd:IntKind} {n:Int} (hu:ix xs n=u)(g:0<=n/\ n<xs.length)(k:zep IT P ops U K l S')(hd:(o.dst.all fun d=>decide (d<S.length))=true:=by exact rfl)(hg:o.guard=none:=by exact rfl)(ho:o.op= .indexAddr t x i:=by exact rfl)(hx:zby S x= .list xs.length (Enc.cellsL xs) st:=by exact rfl)(hi:zby S i= .raw (.int kd n):=by exact rfl)(ht:P.underlying t=some (.slice e):=by exact rfl)(hs:zcl P e=some (Enc.sz α):=by exact rfl)
 (hS:zaf S o.dst (.iptr (Enc.cells u++Enc.cellsL (xs.drop (n.toNat+1))))=S':=by dsimp only[zaf,List.set]):zep IT P ops U K (o::l) S:=by
 subst hu;exact qkr hd hg (by simp[zcz,ho]) (qck g ho hx hi ht hs) hS k
theorem qcb {K:List AV->Prop} {f:FuncId} {args:List AV} {r:AV} (hp:Pure IT P f args' r)(k:zep IT P ops U K l S')(hd:(o.dst.all fun d=>decide (d<S.length))=true:=by exact rfl)(hg:o.guard=none:=by exact rfl)(hc:zcz S o=some (f,args):=by exact rfl)
 (hs:stripL args=args':=by repeat(first|exact rfl|refine zq (by first|exact zcm (zac (Enc.clo _))|exact zmo (Enc.cloL _)|exact zvx (Enc.cloL _) Enc.z|exact rfl) ?_))
 (hok:zad 0 args=true:=by repeat(first|exact rfl|refine za (by first|exact zaq _ _ (zac (Enc.clo _))|exact zbj (Enc.cloL _)|exact zdg (Enc.cloL _)|exact rfl) ?_)) (hS:zaf S o.dst r=S':=by dsimp only[zaf,List.set]):zep IT P ops U K (o::l) S:=
 qpy hp hd hg hc hs hok hS k
end
theorem strip_t {vs us:List AV} (h:stripL vs=us):zcy (.tup vs)= .tup us:=by rw[zcy,h]
theorem strip_a {vs us:List AV} (h:stripL vs=us):zcy (.agg vs)= .agg us:=by rw[zcy,h]
theorem qot {k:Nat} {vs:List AV} (h:zad k vs=true):zbi k (.tup vs)=true:=h
theorem zbu {P:Program} {fn:Func} {S:List AV} {U:St} {R:Type} {y r:R} (E:R->AV)(hr:some y=some r)(a:AV)(h:zat P fn U S=some a:=by exact rfl)
 (hok:zbi 0 a=true:=by first|exact zaq _ _ (zac (Enc.clo _))|exact zbj (Enc.cloL _)|exact zdg (Enc.cloL _)|((first|refine qot ?_|refine okTrim_a ?_);repeat(first|exact rfl|refine za (by first|exact zaq _ _ (zac (Enc.clo _))|exact zbj (Enc.cloL _)|exact zdg (Enc.cloL _)|exact rfl) ?_)))
 (hs:zcy a=E y:=by first|exact zmo (Enc.cloL _)|exact zvx (Enc.cloL _) Enc.z|exact zcm (zac (Enc.clo _))|((first|refine strip_t ?_|refine strip_a ?_);repeat(first|exact rfl|refine zq (by first|exact zcm (zac (Enc.clo _))|exact zmo (Enc.cloL _)|exact zvx (Enc.cloL _) Enc.z|exact rfl) ?_))):zwi P fn (E r) .ret S U:=
 zdu E hr h hok hs
theorem zbr {IT:IterP} {P:Program} {W:Owed} {k0:Nat} {α:Type} {A B:Option α} {r:α} {d:Operand} {x y:Code} {Q:AQ} {S:List AV} {U:St} (h:(bif c then A else B)=some r)(kt:c=true->A=some r->awp IT P W k0 x Q S U)(kf:c=false->B=some r->awp IT P W k0 y Q S U)(hc:zby S d= .raw (.bool c):=by exact rfl):awp IT P W k0 (.cond d x y) Q S U:=
 zab h (fun e h=>zfl e hc (kt e h)) (fun e h=>zfp e hc (kf e h))
@[reducible] def AV.L {α:Type} [Enc α] (l:List α):AV:= .list l.length (Enc.cellsL l) .none
@[reducible] def AV.F {α:Type} [Enc α] (l:List α):AV:= .list l.length (Enc.cellsL l) .full
@[reducible] def AV.O {α:Type} [Enc α] (l:List α):AV:=zbn l.length (Enc.cellsL l)
@[reducible] def AV.A {α:Type} [Enc α] (x:α):AV:= .agg (Enc.cells x)
@[reducible] def St.B (l:List (TypeId×List AV)):St:=⟨l,[],[],0,false⟩
theorem zbg {P:Program} {f:FuncId} {fn:Func} {c:Code} {args S':List AV} {r:AV} (n:Nat)(hmix:P.follows .mixedOrders=true)(hf:P.funcs[f]? =some fn)(he:Ent P f)(h:awp (ITP P) P none 0 c (zwi P fn r) S' (St.B []))(hb:fn.body=some c:=by exact rfl)(hn:Nat.sub fn.ntmps args.length=n:=by exact rfl)(hS:args++List.replicate n (.raw undef)=S':=by dsimp only[List.replicate,List.cons_append,List.nil_append]):Pure (ITP P) P f args r:=
 zjx hmix hf hb he (by unfold zam;rw[show fn.ntmps-args.length=n from hn,hS];exact h)
end Go.Ab
