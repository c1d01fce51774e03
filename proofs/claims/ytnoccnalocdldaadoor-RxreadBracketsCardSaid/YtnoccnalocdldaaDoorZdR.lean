import Derived.Test.YtnoccnalocdldaaDoorZdP
set_option linter.all false
namespace Go.Ab
open Go Go.RowKit Go.Fwd
section
variable {IT:IterP} {P:Program} {W:Owed} {k0:Nat}
theorem zct {ops:Array Oper} {Q:List AV→St→Prop} {o:Oper} {l:List Oper} {S S':List AV} {σ:St} {f:FuncId} {args args':List AV} {r:AV} (hp:Pure IT P f args' r)(hg:o.guard=none)(hc:zdj S o=some (f,args))(hs:stripL args=args')(hok:zad 0 args=true)(hS:zy S o.dst r=S')
 (k:zcq IT P W ops Q l S' σ):zcq IT P W ops Q (o::l) S σ:=w_call (by rw[hs];exact hp) hg hc hok hS k
def zbg (S:List AV)(l:List (Nat×AV)):List AV:=l.foldl (fun S p=>S.set p.1 p.2) S
def zbz (S:List AV)(l:List Nat):List AV:=l.foldl (fun S p=>S.set p .top) S
def fgM:List Bool→List AV→List AV
 |b::m,a::l=>(bif b then a else .top)::fgM m l
 |[],l=>l
 |_,[]=>[]
theorem znt: ∀(m:List Bool) (S:List AV),Fg S (fgM m S)
 |b::m,a::l=>⟨by cases b<;>simp,znt m l⟩
 |[],l=>Fg.refl l
 |_::_,[]=>trivial
theorem zdq {n0:Nat} {S S':List AV} {σ σ':St} (m:List Bool)(h:fgM m S=S')(hσ:σ'=σ):Wk n0 S σ S' σ':= .one<| .inl ⟨h▸znt m S,.inl hσ⟩
theorem zfa {n0:Nat} {S S':List AV} {σ σ':St} (m:List Bool)(n:Nat)(h:fgM m S=S')(hn:n0≤n)(h1:zwb n σ=true)(h2:zad n S'=true)(h3:zes n σ=σ'):Wk n0 S σ S' σ':= .one<| .inl ⟨h▸znt m S,.inr ⟨n,hn,h1,h2,h3⟩⟩
theorem zdo {n0:Nat} {S S':List AV} {σ σ':St} (m:List Bool)(n:Nat)(fs js:List Nat)(d:Nat)(hn:n0≤n)(hok:zdc σ n js=true)(h:fgM m (zaf σ.lens.length (kz σ.boxes σ.lens.length n fs js d) S)=S')(hσ:zer σ σ.lens.length n fs js d=σ'):Wk n0 S σ S' σ':=
 .one<| .inr (.inl ⟨n,fs,js,d,hn,hok,h▸znt m _,hσ⟩)
theorem qht {n0:Nat} {S S':List AV} {σ σ':St} (m:List Bool)(s:Nat) {t:TypeId} {cs:List AV} (hb:σ.boxes[s]? =some (t,cs))(h:fgM m S=S')(hσ:σ'={σ with boxes:=σ.boxes++[(t,[])]}):Wk n0 S σ S' σ':=
 .one<| .inr (.inr (.inl ⟨s,t,cs,hb,h▸znt m _,hσ⟩))
theorem zid {id:Nat} {ops:Array Oper} {Q:AQ} {S:List AV} {σ:St} (n:Nat)(h1:chk ops S.length n=true)(h2:zth ops.toList=true)(h3:zen IT P ops σ (fun S'=>zcq IT P W ops (Q .normal) (ops.toList.drop n) S' σ) (ops.toList.take n) S):awp IT P W k0 (.region id ops true) Q S σ:= .inl ⟨n,h1,h2,h3⟩
theorem qeg {id:Nat} {ops:Array Oper} {Q:AQ} {S:List AV} {σ:St} (n:Nat)(h1:chk ops S.length n=true)(h2:zth ops.toList=true)(h3:zfe IT P ops σ (fun S' ps=>zcq IT P W ops (Q .normal) (ops.toList.drop n) (zmh σ.boxes.length ps S') (zpq σ ps)) (ops.toList.take n) S []):awp IT P W k0 (.region id ops true) Q S σ:= .inr (.inl ⟨n,h1,h2,h3⟩)
theorem qjn {ops:Array Oper} {σ:St} {K:List AV→Pend→Prop} {o:Oper} {l:List Oper} {S S':List AV} {ps:Pend} {t:TypeId} {d:Tmp} (z:Value)(ho:o.op= .alloc t)(hdst:o.dst=some d)(hd:(o.dst.all fun d=>decide (d<S.length))=true)(hp:(ps.all fun p=>o.dst !=some p.1)=true)(hg:o.guard=none)(hz:zho P t=some z)(hS:S.set d .top=S')(k:zfe IT P ops σ K l S' (ps++[(d,t,z)])):zfe IT P ops σ K (o::l) S ps:=⟨hd,hp,.inl ⟨hg,t,d,z,ho,hdst,hz,by rw[hS];exact k⟩⟩
theorem zqy {ops:Array Oper} {σ:St} {K:List AV→Pend→Prop} {o:Oper} {l:List Oper} {S S':List AV} {ps:Pend} {a:AV} (hd:(o.dst.all fun d=>decide (d<S.length))=true)(hp:(ps.all fun p=>o.dst !=some p.1)=true)(hg:o.guard=none)(hc:zdj S o=none)(h:qop P (zcc S) σ o=some a)(hS:zy S o.dst a=S')(k:zfe IT P ops σ K l S' ps):zfe IT P ops σ K (o::l) S ps:=by
 refine⟨hd,hp,.inr ?_⟩
 simp only[hg,zhv,hc]
 exact⟨a,.inl h,by rw[hS];exact k⟩
theorem zmn {ops:Array Oper} {σ:St} {K:List AV→Pend→Prop} {o:Oper} {l:List Oper} {S S':List AV} {ps:Pend} {f:FuncId} {args args':List AV} {r:AV} (hpu:Pure IT P f args' r)(hd:(o.dst.all fun d=>decide (d<S.length))=true)(hp:(ps.all fun p=>o.dst !=some p.1)=true)(hg:o.guard=none)(hc:zdj S o=some (f,args))(hs:stripL args=args')(hok:zad 0 args=true)(hS:zy S o.dst r=S')(k:zfe IT P ops σ K l S' ps):zfe IT P ops σ K (o::l) S ps:=by
 refine⟨hd,hp,.inr ?_⟩
 simp only[hg,zhv,hc]
 exact⟨r,hok,by rw[hs];exact hpu,by rw[hS];exact k⟩
theorem ziy {ops:Array Oper} {σ:St} {K:List AV→Prop} {S:List AV} (h:K S):zen IT P ops σ K [] S:=h
theorem qjl {ops:Array Oper} {σ:St} {K:List AV→Prop} {o:Oper} {l:List Oper} {S S':List AV} {a:AV} (hd:(o.dst.all fun d=>decide (d<S.length))=true)(hg:o.guard=none)(hc:zdj S o=none)(h:qop P (zcc S) σ o=some a)(hS:zy S o.dst a=S')(k:zen IT P ops σ K l S'):zen IT P ops σ K (o::l) S:=by
 refine⟨hd,?_⟩
 simp only[hg]
 refine .inl ?_
 simp only[zhv,hc]
 exact⟨a,.inl h,by rw[hS];exact k⟩
theorem h_opS {ops:Array Oper} {σ:St} {K:List AV→Prop} {o:Oper} {l:List Oper} {S S':List AV} {a a0:AV} (hd:(o.dst.all fun d=>decide (d<S.length))=true)(hg:o.guard=none)(hc:zdj S o=none)(h:qop P (zcc S) σ o=some a0)(ha:zcv a0=a)(hS:zy S o.dst a=S')(k:zen IT P ops σ K l S'):zen IT P ops σ K (o::l) S:=by
 refine⟨hd,?_⟩
 simp only[hg]
 refine .inl ?_
 simp only[zhv,hc]
 exact⟨a,.inr (.inr ⟨a0,h,ha.symm⟩),by rw[hS];exact k⟩
theorem qeb {ops:Array Oper} {σ:St} {K:List AV→Prop} {o:Oper} {l:List Oper} {S S':List AV} {f:FuncId} {args args':List AV} {r:AV} (hp:Pure IT P f args' r)(hd:(o.dst.all fun d=>decide (d<S.length))=true)(hg:o.guard=none)(hc:zdj S o=some (f,args))(hs:stripL args=args')(hok:zad 0 args=true)(hS:zy S o.dst r=S')(k:zen IT P ops σ K l S'):zen IT P ops σ K (o::l) S:=by
 refine⟨hd,?_⟩
 simp only[hg]
 refine .inl ?_
 simp only[zhv,hc]
 exact⟨r,hok,by rw[hs];exact hp,by rw[hS];exact k⟩
theorem h_pass {ops:Array Oper} {σ:St} {K:List AV→Prop} {o:Oper} {l:List Oper} {S S':List AV} {kb:Nat} {b:Bool} {c:Option Bool} (hd:(o.dst.all fun d=>decide (d<S.length))=true)(hg:o.guard=some (kb,b))(hk:zdp ops S kb=some c)(hcb:c≠some b)(hS:zy S o.dst (.raw undef)=S')(k:zen IT P ops σ K l S'):zen IT P ops σ K (o::l) S:=by
 refine⟨hd,?_⟩
 simp only[hg]
 exact⟨c,hk,by rw[if_neg hcb,hS];exact k⟩
theorem zgz {ops:Array Oper} {σ:St} {K:List AV→Prop} {o:Oper} {l:List Oper} {S:List AV} {kb:Nat} {b:Bool} (hg:o.guard=some (kb,b))(hk:zdp ops S kb=some (some b))(k:zen IT P ops σ K ({o with guard:=none}::l) S):zen IT P ops σ K (o::l) S:=by
 refine⟨k.1,?_⟩
 simp only[hg]
 refine⟨some b,hk,?_⟩
 rw[if_pos rfl]
 have e:zrr IT P {o with guard:=none} S σ=zrr IT P o S σ:=rfl
 have k:=k.2
 simp only at k
 rw[e] at k
 exact k
end
theorem z5h {P:Program} {fn:Func} {S:List AV} {σ:St} {a r:AV} (h:zba P fn σ S=some a)(hok:zbp 0 a=true)(hs:zcv a=r):zxk P fn r .ret S σ:=⟨a,h,zun hok hs⟩
theorem zwm {P:Program} {fn:Func} {S:List AV} {σ σ':St} {n m:Nat} {a r:AV} (fs js:List Nat)(d:Nat)(h:zba P fn σ S=some a)(hok:zdc σ n js=true)(hr:zhc m (kz σ.boxes m n fs js d) a=r)(hσ:zer σ m n fs js d=σ'):aendS P fn n m r σ' .ret S σ:=⟨a,h,zsf fs js d hok hr hσ⟩
section
variable {P:Program} {ρ:Operand→AV} {σ:St} {o:Oper}
theorem q_index {t e:TypeId} {x i:Operand} {sz len:Nat} {cs:List AV} {st:Room} {k:IntKind} {n:Int} (ho:o.op= .indexAddr t x i)(hx:ρ x= .list len cs st)(hi:ρ i= .raw (.int k n))(hu:P.underlying t=some (.slice e))(hs:zdk P e=some sz)(hb:0≤n∧n<len∧cs≠[]):
 qop P ρ σ o=some (.iptr (cs.drop (n.toNat*sz))):=by
 simp only[qop,ho,hx,hi,zhd,hu,hs,if_pos hb]
theorem qfa {t e:TypeId} {x i:Operand} {s off len sz sz':Nat} {f:Bool} {k:IntKind} {n:Int} (ho:o.op= .indexAddr t x i)(hx:ρ x= .bsl s off len sz' f)(hi:ρ i= .raw (.int k n))(hu:P.underlying t=some (.slice e))(hs:zdk P e=some sz)(hb:0≤n∧n<len):
 qop P ρ σ o=some (.ptr s (off+n.toNat*sz)):=by
 simp only[qop,ho,hx,hi,zhd,hu,hs,if_pos hb]
theorem zbb {a:AV} (h:qop P ρ σ o=some a):aop P ρ σ o=some (a,σ):=by simp only[aop,h]
theorem qju {t:TypeId} {x:Operand} {a:AV} (p:AV)(ho:o.op= .load t x)(hx:ρ x=p)(ha:zlb P σ t p=some a):qop P ρ σ o=some a:=by
 simp only[qop,ho,hx,ha]
theorem zcr {t:TypeId} {x y:Operand} {s off n:Nat} {v:AV} {bx:TypeId×List AV} (ho:o.op= .store t x y)(hx:ρ x= .ptr s off)(hy:ρ y=v)(hb:σ.boxes[s]? =some bx)(hn:zdk P t=some n)(hc:zhn v=true∧(cellsOf v).length=n∧off+n≤bx.2.length∧0<n):
 aop P ρ σ o=some (.raw undef,{σ with boxes:=σ.boxes.set s (bx.1,bx.2.take off++cellsOf v++bx.2.drop (off+n))}):=by
 simp only[aop,qop,ho,zof,hx,hy,hb,hn,if_pos hc]
theorem zaz {t:TypeId} {x y:Operand} {s n:Nat} {v:AV} {bx:TypeId×List AV} (ho:o.op= .store t x y)(hx:ρ x= .ptr s 0)(hy:ρ y=v)(hb:σ.boxes[s]? =some bx)(hn:zdk P t=some n)(hl:bx.2.length=n)(hc:zhn v=true)(hv:(cellsOf v).length=n)(h0:0<n):
 aop P ρ σ o=some (.raw undef,{σ with boxes:=σ.boxes.set s (bx.1,cellsOf v)}):=by
 rw[zcr (n:=n) ho hx hy hb hn ⟨hc,hv,by omega,h0⟩]
 rw[List.drop_of_length_le (by omega)]
 simp
theorem znj {x y:Operand} {t:TypeId} {c} {m n r:Int} (ho:o.op= .binOp .add t x y c)(hx:ρ x= .raw (.int .i64 m))(hy:ρ y= .raw (.int .i64 n))(hr:m+n=r)(h1: -9223372036854775808≤r)(h2:r<9223372036854775808):qop P ρ σ o=some (.raw (.int .i64 r)):=by
 subst hr
 have h:=zlk h1 h2
 simp[qop,zfj,ho,Op.operands,hx,hy,zdi,execOp,zbt,eqGuard,binOp,Op.intArith,h]
 rfl
theorem znp {x y:Operand} {t:TypeId} {c} {m n r:Int} (ho:o.op= .binOp .sub t x y c)(hx:ρ x= .raw (.int .i64 m))(hy:ρ y= .raw (.int .i64 n))(hr:m-n=r)(h1: -9223372036854775808≤r)(h2:r<9223372036854775808):qop P ρ σ o=some (.raw (.int .i64 r)):=by
 subst hr
 have h:=zlk h1 h2
 simp[qop,zfj,ho,Op.operands,hx,hy,zdi,execOp,zbt,eqGuard,binOp,Op.intArith,h]
 rfl
theorem q_mul {x y:Operand} {t:TypeId} {c} {m n r:Int} (ho:o.op= .binOp .mul t x y c)(hx:ρ x= .raw (.int .i64 m))(hy:ρ y= .raw (.int .i64 n))(hr:m*n=r)(h1: -9223372036854775808≤r)(h2:r<9223372036854775808):qop P ρ σ o=some (.raw (.int .i64 r)):=by
 subst hr
 have h:=zlk h1 h2
 simp[qop,zfj,ho,Op.operands,hx,hy,zdi,execOp,zbt,eqGuard,binOp,Op.intArith,h]
 rfl
theorem q_max {c:Call} {x y:Operand} {k k':IntKind} {m n:Int} (ho:o.op= .call c)(hc:c.callee= .builtin .max)(ha:c.args= #[x,y])(hx:ρ x= .raw (.int k m))(hy:ρ y= .raw (.int k' n)):qop P ρ σ o=some (.raw (.int k (max m n))):=by
 have e:(if n>m then n else m)=max m n:=by split<;>omega
 simp[qop,zfj,ho,hc,ha,Op.operands,Call.operands,hx,hy,zdi,execOp,zbt,resolve,invoke,builtin,Builtin.max_,Builtin.max2,val?,zpp,ziu,zih,e]
 simp[Pure.pure,Bind.bind,Sem.bind,val?,zpp,ziu,zih]
theorem qhg {c:Call} {x y:Operand} {k k':IntKind} {m n:Int} (ho:o.op= .call c)(hc:c.callee= .builtin .min)(ha:c.args= #[x,y])(hx:ρ x= .raw (.int k m))(hy:ρ y= .raw (.int k' n)):qop P ρ σ o=some (.raw (.int k (min m n))):=by
 have e:(if n<m then n else m)=min m n:=by split<;>omega
 simp[qop,zfj,ho,hc,ha,Op.operands,Call.operands,hx,hy,zdi,execOp,zbt,resolve,invoke,builtin,Builtin.min_,Builtin.min2,val?,zpp,ziu,zih,e]
 simp[Pure.pure,Bind.bind,Sem.bind,val?,zpp,ziu,zih]
theorem zeh {t b:Bool} (h:qop P ρ σ o=some (.raw (.bool t)))(e:t=b):qop P ρ σ o=some (.raw (.bool b)):=by rw[h,e]
end
section
variable {IT:IterP} {P:Program} {W:Owed} {k0:Nat}
theorem zto {σ:St} {sz m:Nat} {t tx:TypeId} {ds:List AV} {st:Room} (h:t=tx∧ds.length=m*sz∧0<sz):z8z P σ sz t tx (.list m ds st)=some (m,ds):=by simp only[z8z,if_pos h]
theorem z5v {ρ:Operand→AV} {σ:St} {o:Oper} {c:Call} {x y:Operand} {t tx e:TypeId} {i:TypeInfo} {z:Value} {n m sz:Nat} {cs ds:List AV} (ho:o.op= .call c)(hc:c.callee= .builtin .append)(ha:c.args.toList=[x,y])(ht:c.argTypes.toList=[t,tx])
 (hx:ρ x= .list n cs .full) (hu:P.underlying t=some (.slice e)) (hi:P.info? e=some i) (hz:i.zero=some z) (hsz:i.size=sz) (hs:z8z P σ sz t tx (ρ y)=some (m,ds)) (h1:0<sz∧z.cells.size=sz∧0<m) (h2:cs.length=n*sz∧n+m≤maxLen∧(n+m)*i.bytes≤140737488355328):
 zvw P ρ σ o=some (.bsl σ.boxes.length 0 (n+m) sz false,{σ with boxes:=σ.boxes++[(e,cs++ds)]}):=by
 subst hsz
 have hnn:ztb (ρ x)=false:=by rw[hx];rfl
 have hnn2:ztb (.list n cs .full)=false:=rfl
 simp only[zvw,ho,hc,ha,ht,hnn,hnn2,Bool.false_eq_true,if_false,zov,hu,hi,hz,hs,if_pos h1,hx,if_pos h2]
end
def shz (n:Nat):FZ:=(fun s off=> .ptr (n+s) off,fun s off k sz=> .bsl (n+s) off k sz false)
def zgv (n:Nat)(bs:List (TypeId×List AV)):List (TypeId×List AV):=bs.map fun b=>(b.1,zaf 0 (shz n) b.2)
theorem z6f {IT:IterP} (hIT:ITMono IT) {P:Program} {f:FuncId} {args args':List AV} {r:AV} {bs:List (TypeId×List AV)} (h:Snd IT P f args' St.empty r ⟨bs,[],[],0,false⟩)(hargs:stripL args=args')(hok:zad 0 args=true)(σ:St):
 Snd IT P f args σ (zhc 0 (shz σ.boxes.length) r) {σ with boxes:=σ.boxes++zgv σ.boxes.length bs}:=by
 refine⟨h.1,fun X vs hI hr=> ?_⟩
 subst hargs
 have h0:zbk IT ⟨X.F,[],[],[],X.w,fun _=>False,fun _ _=>False⟩ (stripL args) vs:=zeo (X:=X) (Y:=⟨X.F,[],[],[],X.w,fun _=>False,fun _ _=>False⟩) hIT rfl rfl args vs (.inl hok) hr
 refine(h.2 ⟨X.F,[],[],[],X.w,fun _=>False,fun _ _=>False⟩ vs (zoe hI) h0).mono ?_
 rintro e w' ⟨v,Y,rfl,rfl,hE,hIY,hv⟩
 have hκl:Y.κ.length=bs.length:=hIY.κlen
 have hXl:=hI.κlen
 have hl:Y.lens=[]:=hIY.lens
 have hnew: ∀b∈Y.κ,X.w.heap.size≤b:=fun b hb=>by
  rcases hE.κnew b hb with h|h
  ·simp at h
  ·exact h
 have hblk: ∀b,b<X.w.heap.size→Y.w.heap[b]? =X.w.heap[b]? :=fun b hb=>hE.frame b hb (by simp) (by simp)
 have hFn: ∀b i,Y.F b i→X.F b i∨X.w.heap.size≤b:=fun b i hf=>by
  rcases hE.Fnew b i hf with h|h|⟨q,hq,_⟩|h
  ·exact .inl h
  ·exact .inr h
  ·simp at hq
  ·simp at h
 have hX:Ext X ⟨Y.F,X.κ++Y.κ,X.β,X.lens,Y.w,X.O,X.C⟩:={
  os:=hE.os,tape:=hE.tape,output:=hE.output,size:=hE.size,drawn:=hE.drawn,F:=hE.F,cell:=hE.cell
  κ :=fun s b hs=>by
   show(X.κ++Y.κ)[s]? =some b
   rw[List.getElem?_append_left (List.getElem?_eq_some_iff.1 hs).1];exact hs
  lens:=fun s L h=>⟨L,h,Nat.le_refl _,fun _=>rfl⟩
  blk:=fun s b hs cur t f h=>⟨cur,(hblk b (hI.κlt (List.mem_of_getElem? hs))).trans h,rfl⟩
  szs:=Szs.old hblk
  frame:=fun b hb _ _=>hblk b hb
  κnew:=fun b hb=>by
   rcases List.mem_append.1 hb with hb|hb
   ·exact .inl hb
   ·exact .inr (hnew b hb)
  βnew:=fun r h=> .inl ⟨r,h,rfl⟩
  O:=rfl
  C:=rfl
  Fnew:=fun b i hf=>(hFn b i hf).imp id .inl}
 have hnk: ∀s b,Y.κ[s]? =some b→(X.κ++Y.κ)[σ.boxes.length+s]? =some b:=fun s b hs=>by
  rw[List.getElem?_append_right (by omega),show σ.boxes.length+s-X.κ.length=s by omega];exact hs
 have hg:(∀s off v,Rep IT Y (.ptr s off) v→Rep IT ⟨Y.F,X.κ++Y.κ,X.β,X.lens,Y.w,X.O,X.C⟩ ((shz σ.boxes.length).1 s off) v)∧
  ∀s off n sz f v,Rep IT Y (.bsl s off n sz f) v→Rep IT ⟨Y.F,X.κ++Y.κ,X.β,X.lens,Y.w,X.O,X.C⟩ ((shz σ.boxes.length).2 s off n sz) v:=by
  refine⟨?_,?_⟩
  ·rintro s off v ⟨b,hb,rfl⟩
   exact⟨b,hnk s b hb,rfl⟩
  ·rintro s off n sz f v ⟨b,cap,cur,t,hb,rfl,hcap,hful,hrow⟩
   exact⟨b,cap,cur,t,hnk s b hb,rfl,hcap,(fun h=>by cases h),hrow⟩
 have hrep:=zjv (X:=Y) (Y:=⟨Y.F,X.κ++Y.κ,X.β,X.lens,Y.w,X.O,X.C⟩) (m:=0) hIT (fun _ _ h=>h) rfl (fun s hs=>by omega) hg
 have hrepL:=zde (X:=Y) (Y:=⟨Y.F,X.κ++Y.κ,X.β,X.lens,Y.w,X.O,X.C⟩) (m:=0) hIT (fun _ _ h=>h) rfl (fun s hs=>by omega) hg
 refine⟨v,⟨Y.F,X.κ++Y.κ,X.β,X.lens,Y.w,X.O,X.C⟩,rfl,rfl,hX,?_,hrep r v hv⟩
 have old: ∀(s b:Nat),(X.κ++Y.κ)[s]? =some b→(X.κ[s]? =some b∧s<σ.boxes.length)∨(σ.boxes.length≤s∧Y.κ[s-σ.boxes.length]? =some b):=fun s b h=>by
  rcases Nat.lt_or_ge s X.κ.length with hlt|hge
  ·rw[List.getElem?_append_left hlt] at h;exact .inl ⟨h,by omega⟩
  ·rw[List.getElem?_append_right hge,hXl] at h;exact .inr ⟨by omega,h⟩
 have upO: ∀s:Nat,s<σ.boxes.length→(∃t:TypeId,σ.boxes[s]? =some (t,[]))→ ∃t:TypeId,(σ.boxes++zgv σ.boxes.length bs)[s]? =some (t,[]):=fun s hs ⟨t,h⟩=>⟨t,by rw[List.getElem?_append_left hs];exact h⟩
 have upN: ∀s:Nat,σ.boxes.length≤s→(∃t:TypeId,bs[s-σ.boxes.length]? =some (t,[]))→ ∃t:TypeId,(σ.boxes++zgv σ.boxes.length bs)[s]? =some (t,[]):=fun s hs ⟨t,h⟩=>⟨t,by
  rw[List.getElem?_append_right hs,zgv,List.getElem?_map,h];simp[zaf]⟩
 refine {lens:=hI.lens,elems:=hI.elems,κlen:= ?_,κnd:= ?_,box:= ?_,κF:= ?_,βlen:=hI.βlen,βnd:=hI.βnd,βκ:= ?_,row:= ?_,Ok:= ?_,Fcell:=hIY.Fcell}
 ·show(X.κ++Y.κ).length=(σ.boxes++zgv σ.boxes.length bs).length
  simp[zgv];omega
 ·intro s s' b k1 k2 hne
  rcases old s b k1 with⟨a1,b1⟩|⟨a1,b1⟩<;>rcases old s' b k2 with⟨a2,b2⟩|⟨a2,b2⟩
  ·exact(hI.κnd s s' b a1 a2 hne).imp (upO s b1) (upO s' b2)
  ·have:=hI.κlt (List.mem_of_getElem? a1);have:=hnew b (List.mem_of_getElem? b2);omega
  ·have:=hI.κlt (List.mem_of_getElem? a2);have:=hnew b (List.mem_of_getElem? b1);omega
  ·exact(hIY.κnd _ _ b b1 b2 (by omega)).imp (upN s a1) (upN s' a2)
 ·intro s b t cs hs hb
  have hb:(σ.boxes++zgv σ.boxes.length bs)[s]? =some (t,cs):=hb
  rcases old s b hs with⟨a1,b1⟩|⟨a1,b1⟩
  ·rw[List.getElem?_append_left b1] at hb
   obtain⟨us,zs,u1,u2,u3⟩:=hI.box s b t cs a1 hb
   exact⟨us,zs,(hblk b (hI.κlt (List.mem_of_getElem? a1))).trans u1,zaw hIT hX _ _ u2,u3⟩
  ·rw[List.getElem?_append_right a1,zgv,List.getElem?_map] at hb
   cases hbs:bs[s-σ.boxes.length]? with
   |none=>rw[hbs] at hb;cases hb
   | some bx=>
    rw[hbs] at hb
    simp only[Option.map_some,Option.some.injEq,Prod.mk.injEq] at hb
    obtain⟨rfl,rfl⟩:=hb
    obtain⟨us,zs,u1,u2,u3⟩:=hIY.box _ b bx.1 bx.2 b1 hbs
    exact⟨us,zs,u1,hrepL _ _ u2,u3⟩
 ·intro s b t cs hs hb hne o hf
  have hb:(σ.boxes++zgv σ.boxes.length bs)[s]? =some (t,cs):=hb
  rcases old s b hs with⟨a1,b1⟩|⟨a1,b1⟩
  ·rw[List.getElem?_append_left b1] at hb
   rcases hFn b o hf with h|h
   ·exact hI.κF s b t cs a1 hb hne o h
   ·have:=hI.κlt (List.mem_of_getElem? a1);omega
  ·rw[List.getElem?_append_right a1,zgv,List.getElem?_map] at hb
   cases hbs:bs[s-σ.boxes.length]? with
   |none=>rw[hbs] at hb;cases hb
   | some bx=>
    rw[hbs] at hb
    simp only[Option.map_some,Option.some.injEq,Prod.mk.injEq] at hb
    obtain⟨rfl,rfl⟩:=hb
    refine hIY.κF _ b bx.1 bx.2 b1 hbs (fun e=>hne ?_) o hf
    rw[e,zaf]
 ·intro r hr' hm
  rcases List.mem_append.1 hm with hm|hm
  ·exact hI.βκ r hr' hm
  ·have:=hI.βlt hr';have:=hnew _ hm;omega
 ·intro s q L hq hL
  obtain⟨cur,fz,c1,c2,c3,c4,c5,c6,c7⟩:=hI.row s q L hq hL
  have hlt:=hI.βlt (List.mem_of_getElem? hq)
  refine⟨cur,fz,(hblk _ hlt).trans c1,c2,c3,c4,c5,fun o hf=> ?_,c7⟩
  rcases hFn _ o hf with h|h
  ·exact c6 o h
  ·omega
 ·intro b ho
  obtain⟨⟨cs0,t0,f0,h0⟩,h2,h3,h4⟩:=hI.Ok b ho
  have hlt:=hI.Olt ho
  refine⟨⟨cs0,t0,f0,(hblk b hlt).trans h0⟩,fun hm=> ?_,h3,fun o hf=>(hFn b o hf).elim (h4 o) fun h=>by omega⟩
  rcases List.mem_append.1 hm with hm|hm
  ·exact h2 hm
  ·have:=hnew _ hm;omega
def zch (n:Nat)(cs:List AV):AV:=if n=0 then .list 0 [] .full else .list n cs (.own 0)
def zcm (bs:List (TypeId×List AV))(e n sz:Nat):St:=⟨bs,if n=0 then[] else[n*sz],if n=0 then[] else[e],0,false⟩
theorem z8i {P:Program} {t e:TypeId} {i:TypeInfo} {z:Value} {n m sz:Nat} {cs ds:List AV} {st:Room} {bs:List (TypeId×List AV)} (hu:P.underlying t=some (.slice e))(hi:P.info? e=some i)(hz:i.zero=some z)(hsz:i.size=sz)(hzs:z.cells.size=sz)(h0:0<sz)
 (hcs:cs.length=n*sz) (hds:ds.length=m*sz) (hmax:n+m≤maxLen) (hb:(n+m)*i.bytes≤140737488355328):
 zfm P (zcm bs e n sz) t (zch n cs) (.list m ds st)=some (zch (n+m) (cs++ds),zcm bs e (n+m) sz):=by
 subst hsz
 rcases Nat.eq_zero_or_pos m with rfl|hm
 ·have hd:ds=[]:=List.length_eq_zero_iff.1 (by omega)
  subst hd
  rcases Nat.eq_zero_or_pos n with rfl|hn
  ·have hc:cs=[]:=List.length_eq_zero_iff.1 (by omega)
   subst hc
   simp[zfm,zch,zcm,hu,hi,hz]
  ·have hn':n≠0:=by omega
   simp[zfm,zch,zcm,hu,hi,hz,hn']
 ·have hm':m≠0:=by omega
  have hnm:n+m≠0:=by omega
  rcases Nat.eq_zero_or_pos n with rfl|hn
  ·have hc:cs=[]:=List.length_eq_zero_iff.1 (by omega)
   subst hc
   simp only[Nat.zero_add] at hmax hb
   simp[zfm,zch,zcm,hu,hi,hz,hm',hds,hm,hzs,h0,hmax,hb]
  ·have hn':n≠0:=by omega
   simp[zfm,zch,zcm,hu,hi,hz,hm',hn',hds,hcs,hm,hzs,h0,hmax,hb,hn]
theorem ztp {P:Program} {ρ:Operand→AV} {σ σ':St} {o:Oper} {c:Call} {x y:Operand} {t:TypeId} {a:AV} (ho:o.op= .call c)(hc:c.callee= .builtin .append)(ha:c.args.toList=[x,y])(ht:c.argTypes.toList=[t,t])(h:zfm P σ t (ρ x) (ρ y)=some (a,σ')):aop P ρ σ o=some (a,σ'):=by
 simp[aop,qop,ho,hc,ha,ht,h]
theorem qcf {n:Nat} {cs:List AV} (hc:cloL cs=true)(h:n=0→cs=[]):zcv (zch n cs)= .list n cs .none:=by
 unfold zch
 split
 ·rename_i h0;rw[h h0,h0];rfl
 ·rw[zcv,zdl cs hc]
theorem zed {k n:Nat} {cs:List AV} (hc:cloL cs=true):zbp k (zch n cs)=true:=by
 unfold zch
 split
 ·rfl
 ·rw[zbp,zal k cs hc]
end Go.Ab
