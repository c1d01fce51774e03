import Derived.Test.YtnoccnalocdldaaDoorZgR8
set_option linter.all false
namespace Go.Ab
open Go Go.RowKit Go.Fwd Go.Proofs
structure Ar where
 f:Nat→Int
def qjj (x:Int):AV:= .raw (.int .i64 x)
def arL (a:Ar):List Int:=(List.range 256).map a.f
def zfd (a:Ar):List AV:=(arL a).map qjj
theorem qdx (a:Ar):(arL a).length=256:=by simp[arL]
theorem arL_get (a:Ar)(i:Nat)(h:i<256):(arL a)[i]? =some (a.f i):=by simp[arL,h]
theorem z4j (l:List Int):cloL (l.map qjj)=true:=by
 induction l with
 |nil=>rfl
 |cons x l ih=>rw[List.map_cons,cloL,ih];rfl
instance:Enc Ar where
 inh:=⟨fun _=>0⟩
 cells:=zfd
 cellsL l:=l.flatMap zfd
 sz:=256
 pos:=by decide
 nil:=rfl
 cons _ _:=rfl
 len a:=by simp[zfd,arL]
 clo a:=z4j _
def zeroA:Ar:=⟨fun _=>0⟩
def wrA (a:Ar)(i v:Int):Ar:=⟨fun k=>if k=i.toNat then v else a.f k⟩
def eqA (a b:Ar):Bool:=decide (arL a=arL b)
theorem zug (a:Ar)(i:Nat)(h:i<256):(zfd a)[i]? =some (qjj (a.f i)):=by simp[zfd,arL,h]
theorem qac (a:Ar)(i v:Int)(h:0≤i∧i<256):zfd (wrA a i v)=(zfd a).set i.toNat (qjj v):=by
 apply List.ext_getElem?
 intro k
 rcases Nat.lt_or_ge k 256 with hk|hk
 ·rw[zug _ _ hk]
  by_cases e:i.toNat=k
  ·subst e
   rw[List.getElem?_set_self (by simp[zfd,arL];omega)];simp[wrA]
  ·rw[List.getElem?_set_ne e,zug _ _ hk];simp[wrA,Ne.symm e]
 ·rw[List.getElem?_eq_none (by simp[zfd,arL];omega),List.getElem?_eq_none (by simp[zfd,arL];omega)]
section
variable {ρ:Operand→AV} {σ:St} {o:Oper}
theorem z9u:zdk Tryd.prog 65=some 256:=by kernel_rfl
theorem size102:zdk Tryd.prog 64=some 256:=by kernel_rfl
theorem qfw:zdk Tryd.prog 3=some 1:=by kernel_rfl
theorem und3:Tryd.prog.underlying 3=some (.int .i64):=by kernel_rfl
theorem qea:Tryd.prog.underlying 65=some (.array 256 3):=by kernel_rfl
theorem und102:Tryd.prog.underlying 64=some (.array 256 3):=by kernel_rfl
theorem qjb {P:Program} {t:TypeId} {cs:List AV} {n k:Nat} {e:TypeId} (hu:P.underlying t=some (.array k e))(hs:zdk P t=some n)(hl:cs.length=n):rd P t cs=some (.agg cs):=by
 unfold zdk at hs
 cases hi:P.info? t with
 |none=>simp[hi] at hs
 | some i=>
  simp only[hi,Option.map_some,Option.some.injEq] at hs
  subst hs
  simp only[rd,hu,hi,hl,Nat.le_refl,if_true,List.take_of_length_le]
theorem rd_int {P:Program} {t:TypeId} {k:IntKind} {cs:List AV} {n:Nat} (hu:P.underlying t=some (.int k))(hs:zdk P t=some n):rd P t cs=cs.head? :=by
 unfold zdk at hs
 cases hi:P.info? t with
 |none=>simp[hi] at hs
 |some i=>simp[rd,hu,hi]
theorem qcb {t:TypeId} {x:Operand} {b:Nat} {tt:TypeId} (a:Ar)(ht:t=65∨t=64)(ho:o.op= .load t x)(hx:ρ x= .ptr b 0)(hb:σ.boxes[b]? =some (tt,Enc.cells a)):qop Tryd.prog ρ σ o=some (.agg (Enc.cells a)):=by
 have key:rd Tryd.prog t ((Enc.cells a).drop 0)=some (.agg (Enc.cells a)):=by
  rw[List.drop_zero]
  rcases ht with rfl|rfl
  ·exact qjb qea z9u (Enc.len a)
  ·exact qjb und102 size102 (Enc.len a)
 simp only[qop,ho,zlb,hx,hb,key]
theorem qcz {x y:Operand} {b:Nat} {tt:TypeId} {i v:Int} (a:Ar)(h:0≤i∧i<256)(ho:o.op= .store 3 x y)(hx:ρ x= .ptr b (0+i.toNat*1))(hy:ρ y= .raw (.int .i64 v))(hb:σ.boxes[b]? =some (tt,Enc.cells a)):
 aop Tryd.prog ρ σ o=some (.raw undef,{σ with boxes:=σ.boxes.set b (tt,Enc.cells (wrA a i v))}):=by
 have hl:(Enc.cells a).length=256:=Enc.len a
 rw[zcr (n:=1) ho hx hy hb qfw ⟨rfl,rfl,by simp only[hl];omega,by decide⟩]
 have e:(Enc.cells a).take (0+i.toNat*1)++cellsOf (.raw (.int .i64 v))++(Enc.cells a).drop (0+i.toNat*1+1)=Enc.cells (wrA a i v):=by
  show _=zfd (wrA a i v)
  rw[qac _ _ _ h,List.set_eq_take_append_cons_drop,if_pos (by rw[show(zfd a).length=256 from Enc.len a];omega)]
  simp only[Nat.zero_add,Nat.mul_one,List.append_assoc,cellsOf,List.singleton_append]
  rfl
 simp only[e]
def zv57:Value:= .agg ((List.range 256).map fun _=>Value.int .i64 0).toArray
theorem zero103:zho Tryd.prog 65=some zv57:=by kernel_rfl
theorem zero102:zho Tryd.prog 64=some zv57:=by kernel_rfl
theorem zuw:cellsOf (ziu zv57)=Enc.cells zeroA:=by kernel_rfl
theorem zsi {P:Program} {t:TypeId} {z:Value} (hz:zho P t=some z):zqd P σ t=some (.ptr σ.boxes.length 0,{σ with boxes:=σ.boxes++[(t,cellsOf (ziu z))]}):=by
 unfold zho at hz
 unfold zqd
 cases hi:P.info? t with
 |none=>simp[hi] at hz
 | some i=>
  simp only[hi] at hz⊢
  cases hzz:i.zero with
  |none=>simp[hzz] at hz
  | some z'=>
   simp only[hzz] at hz⊢
   split at hz
   ·rename_i hk
    cases hz
    rw[if_pos hk.1,aBox,if_pos hk.2]
   ·cases hz
theorem z0e {t:TypeId} (ht:t=65∨t=64)(ho:o.op= .alloc t):aop Tryd.prog ρ σ o=some (.ptr σ.boxes.length 0,{σ with boxes:=σ.boxes++[(t,Enc.cells zeroA)]}):=by
 have h:zqd Tryd.prog σ t=some (.ptr σ.boxes.length 0,{σ with boxes:=σ.boxes++[(t,Enc.cells zeroA)]}):=by
  rcases ht with rfl|rfl
  ·rw[zsi zero103,zuw]
  ·rw[zsi zero102,zuw]
 simp only[aop,qop,ho,h]
end
theorem zxu (w:World)(d:Nat)(a b:Int):(Op.equalIn (d+1) 3 (.int .i64 a) (.int .i64 b)).run Tryd.prog w= .ok (a==b) w:=run_equalIn_int w d 3 .i64 .i64 a b und3
theorem zox (l:List Int):zdi (.agg (l.map qjj))=some (.agg (l.map (Value.int .i64)).toArray):=by
 have:zdg (l.map qjj)=some (l.map (Value.int .i64)):=by
  induction l with
  |nil=>rfl
  |cons x l ih=>rw[List.map_cons,zdg,ih];rfl
 simp[zdi,this]
theorem z7k (w:World):(isAgg 3).run Tryd.prog w= .ok false w:=by kernel_rfl
theorem qax (w:World):(sizeOf 3).run Tryd.prog w= .ok 1 w:=by kernel_rfl
theorem eqIn103 (d:Nat)(xs ys:List Int)(hx:xs.length=256)(hy:ys.length=256)(w:World):
 (Op.equalIn (d+1+1) 65 (.agg (xs.map (Value.int .i64)).toArray) (.agg (ys.map (Value.int .i64)).toArray)).run Tryd.prog w= .ok (decide (xs=ys)) w:=by
 rw[Op.equalIn]
 simp only[Sem.run_bind,run_underlying qea,Result.andThen_ok,qax]
 simp only[Std.Legacy.Range.forIn_eq_forIn_range',Std.Legacy.Range.size,Nat.sub_zero,Nat.add_sub_cancel,Nat.div_one]
 have key: ∀n s,s+n=256→(Sem.run Tryd.prog
  (forIn (List.range' s n) (none,()) fun i (__s:Option Bool×Unit)=>do
   let __do_lift ←part 3 (List.map (Value.int IntKind.i64) xs).toArray (i*1)
   let __do_lift_1 ←part 3 (List.map (Value.int IntKind.i64) ys).toArray (i*1)
   let __do_lift ←Op.equalIn (d+1) 3 __do_lift __do_lift_1
   if(!__do_lift)=true then pure (ForInStep.done (some false,())) else pure (ForInStep.yield (none,()))) w)= .ok (if xs.drop s=ys.drop s then(none,()) else(some false,())) w:=by
  intro n
  induction n with
  | zero=>
   intro s hs
   rw[if_pos (by rw[List.drop_of_length_le (by omega),List.drop_of_length_le (by omega)])]
   simp[Sem.run_pure]
  | succ n ih=>
   intro s hs
   have h1:s<xs.length:=by omega
   have h2:s<ys.length:=by omega
   have ih:=ih (s+1) (by omega)
   rw[List.range'_succ,List.forIn_cons]
   rw[List.drop_eq_getElem_cons h1,List.drop_eq_getElem_cons h2]
   have hp: ∀(zs:List Int) (hz:s<zs.length) (w:World),(part 3 (List.map (Value.int IntKind.i64) zs).toArray (s*1)).run Tryd.prog w= .ok (.int .i64 zs[s]) w:=fun zs hz w=>by
    simp only[part,Sem.run_bind,z7k,Result.andThen_ok,Nat.mul_one,List.getElem?_toArray,List.getElem?_map,List.getElem?_eq_getElem hz,Option.map_some,if_false,Bool.false_eq_true,Sem.run_pure]
   simp only[Sem.run_bind,hp xs h1,hp ys h2,Result.andThen_ok,Bool.false_eq_true,Sem.run_pure,zxu]
   by_cases e:xs[s]=ys[s]
   ·simp only[e,beq_self_eq_true,Bool.not_true,Bool.false_eq_true,if_false,Sem.run_pure,Result.andThen_ok,List.cons.injEq,true_and]
    exact ih
   ·have:(xs[s]==ys[s])=false:=by simp[e]
    simp only[this,Bool.not_false,if_true,Sem.run_pure,Result.andThen_ok,List.cons.injEq,e,false_and,if_false]
 have h:=key 256 0 rfl
 simp only[List.drop_zero] at h
 rw[h]
 by_cases e:xs=ys
 ·simp[e,Result.andThen,Sem.run_pure]
 ·simp[e,Result.andThen,Sem.run_pure]
theorem qfh:Tryd.prog.eqGuardType Tryd.prog.depth 65=false:=by kernel_rfl
structure RT where
 t:Tr
def zfn (s:BS):Ar:=⟨fun i=>if s.getLsbD i=true then 1 else 0⟩
def hcells (t:Tr):List AV:= .raw (.int .i64 t.k)::(zfd (zfn t.s)++[.raw (.int .i64 t.mn),.raw (.int .i64 t.mx)])
mutual
def rtc:Tr→List AV
 | .mk k s mn mx l=>hcells (.mk k s mn mx [])++[.list l.length (qar l) .none]
def qar:List Tr→List AV
 |[]=>[]
 |x::l=>rtc x++qar l
end
theorem zlw (t:Tr):(hcells t).length=259:=by simp[hcells,zfd,arL]
theorem qjq (t:Tr):rtc t=hcells t++[.list t.l.length (qar t.l) .none]:=by obtain⟨k,s,mn,mx,l⟩:=t;rw[rtc];rfl
theorem rtc_len (t:Tr):(rtc t).length=260:=by rw[qjq,List.length_append,zlw];rfl
theorem zoz (t:Tr):cloL (hcells t)=true:=by
 unfold hcells
 rw[cloL,zdw]
 rw[show cloL (zfd (zfn t.s))=true from z4j _];rfl
mutual
theorem z9n: ∀t:Tr,cloL (rtc t)=true
 | .mk k s mn mx l=>by
  rw[rtc,zdw,zoz,cloL,clo,z5k l];rfl
theorem z5k: ∀l:List Tr,cloL (qar l)=true
 |[]=>by rw[qar];rfl
 |x::l=>by rw[qar,zdw,z9n x,z5k l];rfl
end
instance:Enc RT:=⟨⟨zz⟩,fun r=>rtc r.t,fun l=>qar (l.map RT.t),260,by decide,rfl,fun _ _=>by rw[List.map_cons,qar],fun r=>rtc_len r.t,fun r=>z9n r.t⟩
def rtX (t:Tr)(a:AV):List AV:=hcells t++[a]
theorem zos (t:Tr)(a:AV):(rtX t a).length=260:=by rw[rtX,List.length_append,zlw];rfl
theorem zlo (r:RT):Enc.cells r=rtX r.t (.list r.t.l.length (qar r.t.l) .none):=qjq r.t
theorem isStr {d:Option TypeDesc} (h:(match d with|some (.struct _)=>true|_=>false)=true): ∃fs,d=some (.struct fs):=by
 match d,h with
 |some (.struct fs),_=>exact⟨fs,rfl⟩
theorem und106: ∃fs,Tryd.prog.underlying 68=some (.struct fs):=isStr (by kernel_rfl)
theorem z3m:zdk Tryd.prog 68=some 260:=by kernel_rfl
theorem und104:Tryd.prog.underlying 66=some (.slice 68):=by kernel_rfl
section
variable {ρ:Operand→AV} {σ:St} {o:Oper}
theorem z9c {P:Program} {t:TypeId} {cs:List AV} {n:Nat} {fs} (hu:P.underlying t=some (.struct fs))(hs:zdk P t=some n)(hl:n≤cs.length):rd P t cs=some (.agg (cs.take n)):=by
 unfold zdk at hs
 cases hi:P.info? t with
 |none=>simp[hi] at hs
 | some i=>
  simp only[hi,Option.map_some,Option.some.injEq] at hs
  subst hs
  simp only[rd,hu,hi,hl,if_true]
theorem rd_rt (cs rest:List AV)(hl:cs.length=260):rd Tryd.prog 68 (cs++rest)=some (.agg cs):=by
 obtain⟨fs,hu⟩:=und106
 rw[z9c hu z3m (by rw[List.length_append];omega),List.take_append_of_le_length (by omega),List.take_of_length_le (by omega)]
theorem qep {P:Program} {t:TypeId} {cs:List AV} {n:Nat} (hs:zdk P t=some n)(h1: ∃d,P.underlying t=some d∧(∀fs,d≠ .struct fs)∧ ∀k e,d≠ .array k e):rd P t cs=cs.head? :=by
 obtain⟨d,hd,h2,h3⟩:=h1
 unfold zdk at hs
 cases hi:P.info? t with
 |none=>simp[hi] at hs
 | some i=>
  cases d with
  |struct fs=>exact absurd rfl (h2 fs)
  |array k e=>exact absurd rfl (h3 k e)
  |_=>simp only[rd,hd,hi]
theorem qfq {x:Operand} {b:Nat} {tt:TypeId} {cs:List AV} (hl:cs.length=260)(ho:o.op= .load 68 x)(hx:ρ x= .ptr b 0)(hb:σ.boxes[b]? =some (tt,cs)):qop Tryd.prog ρ σ o=some (.agg cs):=by
 have:=rd_rt cs [] hl
 rw[List.append_nil] at this
 simp only[qop,ho,zlb,hx,hb,List.drop_zero,this]
theorem z0k {x:Operand} {rest:List AV} (r:RT)(ho:o.op= .load 68 x)(hx:ρ x= .iptr (Enc.cells r++rest)):qop Tryd.prog ρ σ o=some (.agg (Enc.cells r)):=by
 simp only[qop,ho,zlb,hx,rd_rt _ rest (Enc.len r)]
theorem z8t {x:Operand} {b:Nat} {tt:TypeId} (t:Tr) {a:AV} (ho:o.op= .load 3 x)(hx:ρ x= .ptr b 0)(hb:σ.boxes[b]? =some (tt,rtX t a)):qop Tryd.prog ρ σ o=some (.raw (.int .i64 t.k)):=by
 simp only[qop,ho,zlb,hx,hb,List.drop_zero,rd_int und3 qfw];rfl
theorem qfd (t:Tr)(a:AV):(rtX t a).drop 257=[.raw (.int .i64 t.mn),.raw (.int .i64 t.mx),a]:=by
 have h:(zfd (zfn t.s)).length=256:=by simp[zfd,arL]
 rw[rtX,hcells,List.cons_append,List.append_assoc,List.drop_succ_cons,List.drop_append,List.drop_of_length_le (by omega),h];rfl
theorem zsd (t:Tr)(a:AV)(j:Nat):(rtX t a).drop (257+j)=[AV.raw (.int .i64 t.mn),.raw (.int .i64 t.mx),a].drop j:=by rw[←qfd t a,List.drop_drop]
theorem z9s {x:Operand} {b:Nat} {tt:TypeId} (t:Tr) {a:AV} (ho:o.op= .load 3 x)(hx:ρ x= .ptr b 257)(hb:σ.boxes[b]? =some (tt,rtX t a)):qop Tryd.prog ρ σ o=some (.raw (.int .i64 t.mn)):=by
 simp only[qop,ho,zlb,hx,hb,rd_int und3 qfw,zsd t a 0];rfl
theorem qab {x:Operand} {b:Nat} {tt:TypeId} (t:Tr) {a:AV} (ho:o.op= .load 3 x)(hx:ρ x= .ptr b 258)(hb:σ.boxes[b]? =some (tt,rtX t a)):qop Tryd.prog ρ σ o=some (.raw (.int .i64 t.mx)):=by
 simp only[qop,ho,zlb,hx,hb,rd_int und3 qfw,zsd t a 1];rfl
theorem zzg {x:Operand} {b:Nat} {tt:TypeId} (t:Tr) {a:AV} (ho:o.op= .load 66 x)(hx:ρ x= .ptr b 259)(hb:σ.boxes[b]? =some (tt,rtX t a)):qop Tryd.prog ρ σ o=some a:=by
 have h1:zdk Tryd.prog 66=some 1:=by kernel_rfl
 simp only[qop,ho,zlb,hx,hb,qep h1 ⟨_,und104,by simp,by simp⟩,zsd t a 2];rfl
theorem qdw {x:Operand} {b:Nat} {tt:TypeId} (t:Tr) {a:AV} (ho:o.op= .load 65 x)(hx:ρ x= .ptr b 1)(hb:σ.boxes[b]? =some (tt,rtX t a)):qop Tryd.prog ρ σ o=some (.agg (Enc.cells (zfn t.s))):=by
 have h:(zfd (zfn t.s)).length=256:=by simp[zfd,arL]
 have e:(rtX t a).drop 1=zfd (zfn t.s)++[.raw (.int .i64 t.mn),.raw (.int .i64 t.mx),a]:=by rw[rtX,hcells];simp
 have key:rd Tryd.prog 65 ((rtX t a).drop 1)=some (.agg (Enc.cells (zfn t.s))):=by
  rw[e]
  have hs:=z9u
  unfold zdk at hs
  cases hi:Tryd.prog.info? 65 with
  |none=>simp[hi] at hs
  | some i=>
   simp only[hi,Option.map_some,Option.some.injEq] at hs
   simp only[rd,qea,hi]
   rw[if_pos (by rw[List.length_append];omega),hs,List.take_append_of_le_length (by omega),List.take_of_length_le (by omega)];rfl
 simp only[qop,ho,zlb,hx,hb,key]
theorem z2w {x y:Operand} {b:Nat} {tt:TypeId} {a v:AV} (t:Tr)(ho:o.op= .store 66 x y)(hx:ρ x= .ptr b 259)(hy:ρ y=v)(hb:σ.boxes[b]? =some (tt,rtX t a))(hc:zhn v=true∧(cellsOf v).length=1):
 aop Tryd.prog ρ σ o=some (.raw undef,{σ with boxes:=σ.boxes.set b (tt,hcells t++cellsOf v)}):=by
 have h1:zdk Tryd.prog 66=some 1:=by kernel_rfl
 rw[zcr (n:=1) ho hx hy hb h1 ⟨hc.1,hc.2,by simp only[zos];omega,by decide⟩]
 have e1:(rtX t a).take 259=hcells t:=by rw[rtX,List.take_append_of_le_length (by rw[zlw];omega),List.take_of_length_le (by rw[zlw];omega)]
 have e2:(rtX t a).drop (259+1)=[]:=List.drop_of_length_le (by rw[zos];omega)
 simp only[e1,e2,List.append_nil]
end
theorem zvd: ∀a b:List AV,stripL (a++b)=stripL a++stripL b
 |[],b=>by rw[stripL];rfl
 |x::a,b=>by rw[List.cons_append,stripL,stripL,zvd a b];rfl
theorem z9f (t:Tr)(l:List RT):zcv (.agg (rtX t (zch l.length (Enc.cellsL l))))= .agg (Enc.cells (RT.mk (.mk t.k t.s t.mn t.mx (l.map RT.t)))):=by
 rw[zlo]
 show AV.agg (stripL _)=_
 rw[rtX,rtX,zvd,zdl _ (zoz t),stripL,stripL,zps (Enc.cloL l) Enc.z]
 rw[show(RT.mk (Tr.mk t.k t.s t.mn t.mx (l.map RT.t))).t=Tr.mk t.k t.s t.mn t.mx (l.map RT.t) from rfl,show(Tr.mk t.k t.s t.mn t.mx (l.map RT.t)).l=l.map RT.t from rfl,List.length_map]
 rfl
end Go.Ab
