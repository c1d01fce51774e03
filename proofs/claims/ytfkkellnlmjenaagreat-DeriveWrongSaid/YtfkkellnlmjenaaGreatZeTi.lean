/-
  Theirs' contract; fields of nodes of the reference.
-/
import Derived.Test.YtfkkellnlmjenaaGreatZeEc
set_option linter.unusedSimpArgs false
set_option linter.unusedVariables false
namespace Go.Ab
open Go Go.RowKit Go.Fwd Go.Proofs
structure Ar where
 f:Nat→Int
def qoi (x:Int):AV:= .raw (.int .i64 x)
def arL (a:Ar):List Int:=(List.range 256).map a.f
def zgd (a:Ar):List AV:=(arL a).map qoi
theorem qgw (a:Ar):(arL a).length=256:=by simp[arL]
theorem arL_get (a:Ar)(i:Nat)(h:i<256):(arL a)[i]? =some (a.f i):=by simp[arL,h]
theorem z8h (l:List Int):cloL (l.map qoi)=true:=by
 induction l with
 |nil=>rfl
 |cons x l ih=>rw[List.map_cons,cloL,ih];rfl
instance:Enc Ar where
 inh:=⟨fun _=>0⟩
 cells:=zgd
 cellsL l:=l.flatMap zgd
 sz:=256
 pos:=by decide
 nil:=rfl
 cons _ _:=rfl
 len a:=by simp[zgd,arL]
 clo a:=z8h _
def zeroA:Ar:=⟨fun _=>0⟩
def wrA (a:Ar)(i v:Int):Ar:=⟨fun k=>if k=i.toNat then v else a.f k⟩
def eqA (a b:Ar):Bool:=decide (arL a=arL b)
theorem zvz (a:Ar)(i:Nat)(h:i<256):(zgd a)[i]? =some (qoi (a.f i)):=by simp[zgd,arL,h]
theorem qiq (a:Ar)(i v:Int)(h:0≤i∧i<256):zgd (wrA a i v)=(zgd a).set i.toNat (qoi v):=by
 apply List.ext_getElem?
 intro k
 rcases Nat.lt_or_ge k 256 with hk|hk
 ·rw[zvz _ _ hk]
  by_cases e:i.toNat=k
  ·subst e
   rw[List.getElem?_set_self (by simp[zgd,arL];omega)];simp[wrA]
  ·rw[List.getElem?_set_ne e,zvz _ _ hk];simp[wrA,Ne.symm e]
 ·rw[List.getElem?_eq_none (by simp[zgd,arL];omega),List.getElem?_eq_none (by simp[zgd,arL];omega)]
section
variable {ρ:Operand→AV} {σ:St} {o:Oper}
theorem qit:zdq Tryz.prog 103=some 256:=by kernel_rfl
theorem size102:zdq Tryz.prog 102=some 256:=by kernel_rfl
theorem qmg:zdq Tryz.prog 3=some 1:=by kernel_rfl
theorem und3:Tryz.prog.underlying 3=some (.int .i64):=by kernel_rfl
theorem qdn:Tryz.prog.underlying 103=some (.array 256 3):=by kernel_rfl
theorem und102:Tryz.prog.underlying 102=some (.array 256 3):=by kernel_rfl
theorem qpb {P:Program} {t:TypeId} {cs:List AV} {n k:Nat} {e:TypeId} (hu:P.underlying t=some (.array k e))(hs:zdq P t=some n)(hl:cs.length=n):rd P t cs=some (.agg cs):=by
 unfold zdq at hs
 cases hi:P.info? t with
 |none=>simp[hi] at hs
 | some i=>
  simp only[hi,Option.map_some,Option.some.injEq] at hs
  subst hs
  simp only[rd,hu,hi,hl,Nat.le_refl,if_true,List.take_of_length_le]
theorem qfp {P:Program} {t:TypeId} {k:IntKind} {cs:List AV} {n:Nat} (hu:P.underlying t=some (.int k))(hs:zdq P t=some n):rd P t cs=cs.head? :=by
 unfold zdq at hs
 cases hi:P.info? t with
 |none=>simp[hi] at hs
 |some i=>simp[rd,hu,hi]
theorem qes {t:TypeId} {x:Operand} {b:Nat} {tt:TypeId} (a:Ar)(ht:t=103∨t=102)(ho:o.op= .load t x)(hx:ρ x= .ptr b 0)(hb:σ.boxes[b]? =some (tt,Enc.cells a)):qop Tryz.prog ρ σ o=some (.agg (Enc.cells a)):=by
 have key:rd Tryz.prog t ((Enc.cells a).drop 0)=some (.agg (Enc.cells a)):=by
  rw[List.drop_zero]
  rcases ht with rfl|rfl
  ·exact qpb qdn qit (Enc.len a)
  ·exact qpb und102 size102 (Enc.len a)
 simp only[qop,ho,zqp,hx,hb,key]
theorem qha {x y:Operand} {b:Nat} {tt:TypeId} {i v:Int} (a:Ar)(h:0≤i∧i<256)(ho:o.op= .store 3 x y)(hx:ρ x= .ptr b (0+i.toNat*1))(hy:ρ y= .raw (.int .i64 v))(hb:σ.boxes[b]? =some (tt,Enc.cells a)):
 aop Tryz.prog ρ σ o=some (.raw undef,{σ with boxes:=σ.boxes.set b (tt,Enc.cells (wrA a i v))}):=by
 have hl:(Enc.cells a).length=256:=Enc.len a
 rw[zmb (n:=1) ho hx hy hb qmg ⟨rfl,rfl,by simp only[hl];omega,by decide⟩]
 have e:(Enc.cells a).take (0+i.toNat*1)++cellsOf (.raw (.int .i64 v))++(Enc.cells a).drop (0+i.toNat*1+1)=Enc.cells (wrA a i v):=by
  show _=zgd (wrA a i v)
  rw[qiq _ _ _ h,List.set_eq_take_append_cons_drop,if_pos (by rw[show(zgd a).length=256 from Enc.len a];omega)]
  simp only[Nat.zero_add,Nat.mul_one,List.append_assoc,cellsOf,List.singleton_append]
  rfl
 simp only[e]
def zv57:Value:= .agg ((List.range 256).map fun _=>Value.int .i64 0).toArray
theorem zero103:zjf Tryz.prog 103=some zv57:=by kernel_rfl
theorem zero102:zjf Tryz.prog 102=some zv57:=by kernel_rfl
theorem zwn:cellsOf (zjm zv57)=Enc.cells zeroA:=by kernel_rfl
theorem z3a {P:Program} {t:TypeId} {z:Value} (hz:zjf P t=some z):zte P σ t=some (.ptr σ.boxes.length 0,{σ with boxes:=σ.boxes++[(t,cellsOf (zjm z))]}):=by
 unfold zjf at hz
 unfold zte
 cases hi:P.info? t with
 |none=>simp[hi] at hz
 | some i=>
  simp only[hi] at hz⊢
  cases hzz:i.zero with
  |none=>simp[hzz] at hz
  | some z'=>
   simp only[hzz] at hz⊢
   split at hz
   ·rename_i hk
    cases hz
    rw[if_pos hk.1,aBox,if_pos hk.2]
   ·cases hz
theorem z4p {t:TypeId} (ht:t=103∨t=102)(ho:o.op= .alloc t):aop Tryz.prog ρ σ o=some (.ptr σ.boxes.length 0,{σ with boxes:=σ.boxes++[(t,Enc.cells zeroA)]}):=by
 have h:zte Tryz.prog σ t=some (.ptr σ.boxes.length 0,{σ with boxes:=σ.boxes++[(t,Enc.cells zeroA)]}):=by
  rcases ht with rfl|rfl
  ·rw[z3a zero103,zwn]
  ·rw[z3a zero102,zwn]
 simp only[aop,qop,ho,h]
end
theorem zxx (w:World)(d:Nat)(a b:Int):(Op.equalIn (d+1) 3 (.int .i64 a) (.int .i64 b)).run Tryz.prog w= .ok (a==b) w:=run_equalIn_int w d 3 .i64 .i64 a b und3
theorem zqb (l:List Int):zgg (.agg (l.map qoi))=some (.agg (l.map (Value.int .i64)).toArray):=by
 have:zen (l.map qoi)=some (l.map (Value.int .i64)):=by
  induction l with
  |nil=>rfl
  |cons x l ih=>rw[List.map_cons,zen,ih];rfl
 simp[zgg,this]
theorem qbo (w:World):(isAgg 3).run Tryz.prog w= .ok false w:=by kernel_rfl
theorem qhz (w:World):(sizeOf 3).run Tryz.prog w= .ok 1 w:=by kernel_rfl
theorem eqIn103 (d:Nat)(xs ys:List Int)(hx:xs.length=256)(hy:ys.length=256)(w:World):
 (Op.equalIn (d+1+1) 103 (.agg (xs.map (Value.int .i64)).toArray) (.agg (ys.map (Value.int .i64)).toArray)).run Tryz.prog w= .ok (decide (xs=ys)) w:=by
 rw[Op.equalIn]
 simp only[Sem.run_bind,run_underlying qdn,Result.andThen_ok,qhz]
 simp only[Std.Legacy.Range.forIn_eq_forIn_range',Std.Legacy.Range.size,Nat.sub_zero,Nat.add_sub_cancel,Nat.div_one]
 have key: ∀n s,s+n=256→(Sem.run Tryz.prog
  (forIn (List.range' s n) (none,()) fun i (__s:Option Bool×Unit)=>do
   let __do_lift ←part 3 (List.map (Value.int IntKind.i64) xs).toArray (i*1)
   let __do_lift_1 ←part 3 (List.map (Value.int IntKind.i64) ys).toArray (i*1)
   let __do_lift ←Op.equalIn (d+1) 3 __do_lift __do_lift_1
   if(!__do_lift)=true then pure (ForInStep.done (some false,())) else pure (ForInStep.yield (none,()))) w)= .ok (if xs.drop s=ys.drop s then(none,()) else(some false,())) w:=by
  intro n
  induction n with
  | zero=>
   intro s hs
   rw[if_pos (by rw[List.drop_of_length_le (by omega),List.drop_of_length_le (by omega)])]
   simp[Sem.run_pure]
  | succ n ih=>
   intro s hs
   have h1:s<xs.length:=by omega
   have h2:s<ys.length:=by omega
   have ih:=ih (s+1) (by omega)
   rw[List.range'_succ,List.forIn_cons]
   rw[List.drop_eq_getElem_cons h1,List.drop_eq_getElem_cons h2]
   have hp: ∀(zs:List Int) (hz:s<zs.length) (w:World),(part 3 (List.map (Value.int IntKind.i64) zs).toArray (s*1)).run Tryz.prog w= .ok (.int .i64 zs[s]) w:=fun zs hz w=>by
    simp only[part,Sem.run_bind,qbo,Result.andThen_ok,Nat.mul_one,List.getElem?_toArray,List.getElem?_map,List.getElem?_eq_getElem hz,Option.map_some,if_false,Bool.false_eq_true,Sem.run_pure]
   simp only[Sem.run_bind,hp xs h1,hp ys h2,Result.andThen_ok,Bool.false_eq_true,Sem.run_pure,zxx]
   by_cases e:xs[s]=ys[s]
   ·simp only[e,beq_self_eq_true,Bool.not_true,Bool.false_eq_true,if_false,Sem.run_pure,Result.andThen_ok,List.cons.injEq,true_and]
    exact ih
   ·have:(xs[s]==ys[s])=false:=by simp[e]
    simp only[this,Bool.not_false,if_true,Sem.run_pure,Result.andThen_ok,List.cons.injEq,e,false_and,if_false]
 have h:=key 256 0 rfl
 simp only[List.drop_zero] at h
 rw[h]
 by_cases e:xs=ys
 ·simp[e,Result.andThen,Sem.run_pure]
 ·simp[e,Result.andThen,Sem.run_pure]
theorem qlg:Tryz.prog.eqGuardType Tryz.prog.depth 103=false:=by kernel_rfl
structure RT where
 t:Tr
def zgm (s:BS):Ar:=⟨fun i=>if s.getLsbD i=true then 1 else 0⟩
def zgt (t:Tr):List AV:= .raw (.int .i64 t.k)::(zgd (zgm t.s)++[.raw (.int .i64 t.mn),.raw (.int .i64 t.mx)])
mutual
def rtc:Tr→List AV
 | .mk k s mn mx l=>zgt (.mk k s mn mx [])++[.list l.length (qfb l) .none]
def qfb:List Tr→List AV
 |[]=>[]
 |x::l=>rtc x++qfb l
end
theorem qbb (t:Tr):(zgt t).length=259:=by simp[zgt,zgd,arL]
theorem qog (t:Tr):rtc t=zgt t++[.list t.l.length (qfb t.l) .none]:=by obtain⟨k,s,mn,mx,l⟩:=t;rw[rtc];rfl
theorem rtc_len (t:Tr):(rtc t).length=260:=by rw[qog,List.length_append,qbb];rfl
theorem qaz (t:Tr):cloL (zgt t)=true:=by
 unfold zgt
 rw[cloL,zfc]
 rw[show cloL (zgd (zgm t.s))=true from z8h _];rfl
mutual
theorem qdj: ∀t:Tr,cloL (rtc t)=true
 | .mk k s mn mx l=>by
  rw[rtc,zfc,qaz,cloL,clo,qab l];rfl
theorem qab: ∀l:List Tr,cloL (qfb l)=true
 |[]=>by rw[qfb];rfl
 |x::l=>by rw[qfb,zfc,qdj x,qab l];rfl
end
instance:Enc RT:=⟨⟨noneT⟩,fun r=>rtc r.t,fun l=>qfb (l.map RT.t),260,by decide,rfl,fun _ _=>by rw[List.map_cons,qfb],fun r=>rtc_len r.t,fun r=>qdj r.t⟩
def rtX (t:Tr)(a:AV):List AV:=zgt t++[a]
theorem znk (r:RT):Enc.cells r=rtX r.t (.list r.t.l.length (qfb r.t.l) .none):=qog r.t
theorem isStr {d:Option TypeDesc} (h:(match d with|some (.struct _)=>true|_=>false)=true): ∃fs,d=some (.struct fs):=by
 match d,h with
 |some (.struct fs),_=>exact⟨fs,rfl⟩
theorem und106: ∃fs,Tryz.prog.underlying 106=some (.struct fs):=isStr (by kernel_rfl)
theorem size106:zdq Tryz.prog 106=some 260:=by kernel_rfl
theorem und104:Tryz.prog.underlying 104=some (.slice 106):=by kernel_rfl
section
variable {ρ:Operand→AV} {σ:St} {o:Oper}
theorem qhu {P:Program} {t:TypeId} {cs:List AV} {n:Nat} {fs} (hu:P.underlying t=some (.struct fs))(hs:zdq P t=some n)(hl:n≤cs.length):rd P t cs=some (.agg (cs.take n)):=by
 unfold zdq at hs
 cases hi:P.info? t with
 |none=>simp[hi] at hs
 | some i=>
  simp only[hi,Option.map_some,Option.some.injEq] at hs
  subst hs
  simp only[rd,hu,hi,hl,if_true]
theorem rd_rt (cs rest:List AV)(hl:cs.length=260):rd Tryz.prog 106 (cs++rest)=some (.agg cs):=by
 obtain⟨fs,hu⟩:=und106
 rw[qhu hu size106 (by rw[List.length_append];omega),List.take_append_of_le_length (by omega),List.take_of_length_le (by omega)]
theorem qlp {P:Program} {t:TypeId} {cs:List AV} {n:Nat} (hs:zdq P t=some n)(h1: ∃d,P.underlying t=some d∧(∀fs,d≠ .struct fs)∧ ∀k e,d≠ .array k e):rd P t cs=cs.head? :=by
 obtain⟨d,hd,h2,h3⟩:=h1
 unfold zdq at hs
 cases hi:P.info? t with
 |none=>simp[hi] at hs
 | some i=>
  cases d with
  |struct fs=>exact absurd rfl (h2 fs)
  |array k e=>exact absurd rfl (h3 k e)
  |_=>simp only[rd,hd,hi]
theorem z4r {x:Operand} {rest:List AV} (r:RT)(ho:o.op= .load 106 x)(hx:ρ x= .iptr (Enc.cells r++rest)):qop Tryz.prog ρ σ o=some (.agg (Enc.cells r)):=by
 simp only[qop,ho,zqp,hx,rd_rt _ rest (Enc.len r)]
theorem qij {x:Operand} {b:Nat} {tt:TypeId} (t:Tr) {a:AV} (ho:o.op= .load 3 x)(hx:ρ x= .ptr b 0)(hb:σ.boxes[b]? =some (tt,rtX t a)):qop Tryz.prog ρ σ o=some (.raw (.int .i64 t.k)):=by
 simp only[qop,ho,zqp,hx,hb,List.drop_zero,qfp und3 qmg];rfl
theorem qlu (t:Tr)(a:AV):(rtX t a).drop 257=[.raw (.int .i64 t.mn),.raw (.int .i64 t.mx),a]:=by
 have h:(zgd (zgm t.s)).length=256:=by simp[zgd,arL]
 rw[rtX,zgt,List.cons_append,List.append_assoc,List.drop_succ_cons,List.drop_append,List.drop_of_length_le (by omega),h];rfl
theorem ztf (t:Tr)(a:AV)(j:Nat):(rtX t a).drop (257+j)=[AV.raw (.int .i64 t.mn),.raw (.int .i64 t.mx),a].drop j:=by rw[←qlu t a,List.drop_drop]
theorem qdy {x:Operand} {b:Nat} {tt:TypeId} (t:Tr) {a:AV} (ho:o.op= .load 3 x)(hx:ρ x= .ptr b 257)(hb:σ.boxes[b]? =some (tt,rtX t a)):qop Tryz.prog ρ σ o=some (.raw (.int .i64 t.mn)):=by
 simp only[qop,ho,zqp,hx,hb,qfp und3 qmg,ztf t a 0];rfl
theorem qcv {x:Operand} {b:Nat} {tt:TypeId} (t:Tr) {a:AV} (ho:o.op= .load 3 x)(hx:ρ x= .ptr b 258)(hb:σ.boxes[b]? =some (tt,rtX t a)):qop Tryz.prog ρ σ o=some (.raw (.int .i64 t.mx)):=by
 simp only[qop,ho,zqp,hx,hb,qfp und3 qmg,ztf t a 1];rfl
theorem qia {x:Operand} {b:Nat} {tt:TypeId} (t:Tr) {a:AV} (ho:o.op= .load 104 x)(hx:ρ x= .ptr b 259)(hb:σ.boxes[b]? =some (tt,rtX t a)):qop Tryz.prog ρ σ o=some a:=by
 have h1:zdq Tryz.prog 104=some 1:=by kernel_rfl
 simp only[qop,ho,zqp,hx,hb,qlp h1 ⟨_,und104,by simp,by simp⟩,ztf t a 2];rfl
theorem qic {x:Operand} {b:Nat} {tt:TypeId} (t:Tr) {a:AV} (ho:o.op= .load 103 x)(hx:ρ x= .ptr b 1)(hb:σ.boxes[b]? =some (tt,rtX t a)):qop Tryz.prog ρ σ o=some (.agg (Enc.cells (zgm t.s))):=by
 have h:(zgd (zgm t.s)).length=256:=by simp[zgd,arL]
 have e:(rtX t a).drop 1=zgd (zgm t.s)++[.raw (.int .i64 t.mn),.raw (.int .i64 t.mx),a]:=by rw[rtX,zgt];simp
 have key:rd Tryz.prog 103 ((rtX t a).drop 1)=some (.agg (Enc.cells (zgm t.s))):=by
  rw[e]
  have hs:=qit
  unfold zdq at hs
  cases hi:Tryz.prog.info? 103 with
  |none=>simp[hi] at hs
  | some i=>
   simp only[hi,Option.map_some,Option.some.injEq] at hs
   simp only[rd,qdn,hi]
   rw[if_pos (by rw[List.length_append];omega),hs,List.take_append_of_le_length (by omega),List.take_of_length_le (by omega)];rfl
 simp only[qop,ho,zqp,hx,hb,key]
end
end Go.Ab
set_option maxRecDepth 100000
set_option maxHeartbeats 4000000
namespace Go.Ab
open Go Go.RowKit Go.Fwd Go.Proofs
def zzd (fuel:Nat)(s:BS):Option Ar:=
 (zdn (τ:=Ar) (zbv (β:=Int×Ar) (fun s1=>(bif (decide (s1.1<256)) then(zdn (τ:=Ar) (chk (0≤(IntKind.i64.wrap (Int.tdiv s1.1 64))∧(IntKind.i64.wrap (Int.tdiv s1.1 64))<4) (zdn (τ:=Int) (zbv (β:=Int×Int) (fun s2=>(bif (decide (s2.2<(Int.tmod s1.1 64))) then(chk (-9223372036854775808≤(s2.2+1)∧(s2.2+1)<9223372036854775808) (some (Sum.inl ((IntKind.u64.wrap (Int.tdiv s2.1 2)),(s2.2+1))))) else(some (Sum.inr (Sum.inl (s2.1)))))) fuel ((wd s (Int.toNat (IntKind.i64.wrap (Int.tdiv s1.1 64)))),0)) (fun j3=>(chk (-9223372036854775808≤(Int.tmod j3 2)∧(Int.tmod j3 2)<9223372036854775808) (chk (0≤s1.1∧s1.1<256) (some (Sum.inl ((wrA s1.2 s1.1 (Int.tmod j3 2)))))))))) (fun j2=>(chk (-9223372036854775808≤(s1.1+1)∧(s1.1+1)<9223372036854775808) (some (Sum.inl ((s1.1+1),j2)))))) else(some (Sum.inr (Sum.inl (s1.2)))))) fuel (0,zeroA)) (fun j1=>(some j1)))
theorem ent113:Ent Tryz.prog 113:=enters_of Tryz.func113 (by kernel_rfl) rfl
theorem qls (fuel:Nat)(s:BS)(r:Ar)(h:zzd fuel s=some r):Pure (ITP Tryz.prog) Tryz.prog 113 [.A (s:BS)] (.A (r:Ar)):=by
 unfold zzd at h
 refine zbd 28 mix Tryz.func113 ent113 ?_
 refine zf (zb ?_)
 refine zbz (a:= .ptr 0 0) (σ'':=(.B [(25,(Enc.cells (s:BS)))])) ?_
 refine zfp (a:= .ptr 1 0) (σ'':=(.B [(25,(Enc.cells (s:BS))),(103,(Enc.cells (zeroA:Ar)))])) rfl rfl rfl (z4p (by decide) rfl) (by dsimp only[zh,List.set]) rfl ?_
 refine zf (zb ?_)
 refine zfp (a:= .ptr 2 0) (σ'':=(.B [(25,(Enc.cells (s:BS))),(103,(Enc.cells (zeroA:Ar))),(103,(Enc.cells (zeroA:Ar)))])) rfl rfl rfl (z4p (by decide) rfl) (by dsimp only[zh,List.set]) rfl ?_
 refine zau h (bz 0 29 536870899) (fun j1=>[]) (fun j1=>(.B [(25,(Enc.cells (s:BS))),(103,(Enc.cells (zeroA:Ar))),(103,(Enc.cells (j1:Ar)))])) ?_ ?_
 intro or1 h hr1
 refine zr [.v (.i 0)] ?_
 refine zp ?_
 refine zbx h (bz 0 29 536870897) (fun s1=>[(4,.i s1.1)]) (fun s1=>(.B [(25,(Enc.cells (s:BS))),(103,(Enc.cells (zeroA:Ar))),(103,(Enc.cells (s1.2:Ar)))])) ?_ ?_
 exact zdl (bl 29 30)
 intro s1 p1 h
 refine zfj ?_
 refine zf ?_
 refine zr [.m _,.v (.b (decide (s1.1<256)))] ?_
 refine zci h (fun hc1 h=> ?_) (fun hc1 h=> ?_)
 refine zau h (bz 0 28 268433888) (fun j2=>[]) (fun j2=>(.B [(25,(Enc.cells (s:BS))),(103,(Enc.cells (zeroA:Ar))),(103,(Enc.cells (j2:Ar)))])) ?_ ?_
 intro or2 h hr2
 refine zp ?_
 refine zr [.m _,.v (.i (IntKind.i64.wrap (Int.tdiv s1.1 64)))] ?_
 obtain⟨g1,h⟩:=zi h
 refine w_o (a:= .ptr 0 (0+Int.toNat (IntKind.i64.wrap (Int.tdiv s1.1 64))*1)) (h:=zbh (qfi g1 rfl rfl rfl rfl rfl)) ?_
 refine w_o (a:= .raw (.int .u64 (wd s (Int.toNat (IntKind.i64.wrap (Int.tdiv s1.1 64)))))) (h:=zbh (qdz s (by omega) rfl rfl rfl)) ?_
 refine zab ?_
 refine zau h (bz 0 23 8387040) (fun j3=>[(5,.raw (.int .u64 j3))]) (fun j3=>(.B [(25,(Enc.cells (s:BS))),(103,(Enc.cells (zeroA:Ar))),(103,(Enc.cells (s1.2:Ar)))])) ?_ ?_
 intro or3 h hr3
 refine zr [.v (.i 0)] ?_
 refine zp ?_
 refine zbx h (bz 0 23 8387040) (fun s2=>[(5,.raw (.int .u64 s2.1)),(6,.i s2.2)]) (fun s2=>(.B [(25,(Enc.cells (s:BS))),(103,(Enc.cells (zeroA:Ar))),(103,(Enc.cells (s1.2:Ar)))])) ?_ ?_
 exact zdl (bl 29 528483967)
 intro s2 p2 h
 refine zfj ?_
 refine zf ?_
 refine zr [.m _,.m _,.v (.i (Int.tmod s1.1 64)),.v (.b (decide (s2.2<(Int.tmod s1.1 64))))] ?_
 refine zci h (fun hc2 h=> ?_) (fun hc2 h=> ?_)
 refine zf ?_
 refine zp ?_
 refine zb (k0:=0) (id:=9) ?_
 refine w_r [.m _,.v (.raw (.int .u64 (IntKind.u64.wrap (Int.tdiv s2.1 2)))),.m _] ?_
 refine zb (k0:=0) (id:=8) ?_
 refine zab ?_
 obtain⟨g2,h⟩:=zi h
 refine zpe g2 ?_
 refine zab ?_
 refine zas (p:=p2) ((IntKind.u64.wrap (Int.tdiv s2.1 2)),(s2.2+1)) h ?_
 exact zdl (bl 29 528483967)
 refine zw h (fun h=> ?_)
 refine zg (o:=or3) (s2.1) h ?_
 exact zdl (bl 29 528483903)
 intro j3 h
 refine zfj ?_
 refine zb (k0:=0) (id:=10) ?_
 refine w_r [.m _,.m _,.v (.raw (.int .u64 (Int.tmod j3 2)))] ?_
 obtain⟨g3,h⟩:=zi h
 refine w_o (a:= .i (Int.tmod j3 2)) (h:=zbh (zyq g3 rfl rfl rfl)) ?_
 obtain⟨g4,h⟩:=zi h
 refine w_o (a:= .ptr 2 (0+Int.toNat s1.1*1)) (h:=zbh (qfi g4 rfl rfl rfl rfl rfl)) ?_
 refine zbz (σ'':=(.B [(25,(Enc.cells (s:BS))),(103,(Enc.cells (zeroA:Ar))),(103,(Enc.cells ((wrA s1.2 s1.1 (Int.tmod j3 2)):Ar)))])) (h:=qha s1.2 g4 rfl rfl rfl rfl) ?_
 refine zg (o:=or2) ((wrA s1.2 s1.1 (Int.tmod j3 2))) h ?_
 exact zdl (bl 29 268437023)
 intro j2 h
 refine zfj ?_
 refine zb (k0:=0) (id:=4) ?_
 refine zab ?_
 obtain⟨g5,h⟩:=zi h
 refine zpe g5 ?_
 refine zab ?_
 refine zas (p:=p1) ((s1.1+1),j2) h ?_
 exact zdl (bl 29 30)
 refine zw h (fun h=> ?_)
 refine zg (o:=or1) (s1.2) h ?_
 exact zdl (bl 29 12)
 intro j1 h
 refine zfj ?_
 refine zf (zb ?_)
 refine w_o (a:= .A (j1:Ar)) (h:=zbh (qes j1 (by decide) rfl rfl rfl)) ?_
 refine zbz (σ'':=(.B [(25,(Enc.cells (s:BS))),(103,(Enc.cells (j1:Ar))),(103,(Enc.cells (j1:Ar)))])) (h:=zaz (n:=256) rfl rfl rfl rfl rfl (Enc.len _) rfl (Enc.len _) (by decide)) ?_
 exact zax (fun(r:Ar)=> .A (r:Ar)) h (.A (j1:Ar))
mutual
def fewT:Tr→Int→Int
 | .mk _ _ _ _ l,m=>fewG l m 1
def fewG:List Tr→Int→Int→Int
 |[],_,s=>s
 |x::l,m,s=>if s>m then s else fewG l m (s+fewT x (m-s))
end
theorem W64_get (s:BS)(q r:Nat)(hr:r<64):(W64 s q).getLsbD r=s.getLsbD (64*q+r):=by simp[W64,hr]
def arP (s:BS)(i:Nat):Ar:=⟨fun k=>if k<i∧s.getLsbD k=true then 1 else 0⟩
theorem arP_0 (s:BS):arP s 0=zeroA:=by simp[arP,zeroA]
theorem qie {s:BS} {k:Nat} (h:s.getLsbD k=true):k<256:=by
 rcases Nat.lt_or_ge k 256 with h1|h1
 ·exact h1
 ·rw[BitVec.getLsbD_of_ge s k h1] at h;cases h
theorem arP_256 (s:BS):arP s 256=zgm s:=by
 unfold arP zgm
 refine congrArg Ar.mk (funext fun k=> ?_)
 by_cases h:s.getLsbD k=true
 ·simp[h,qie h]
 ·simp[h]
theorem arP_hit (s:BS)(i:Nat)(h:s.getLsbD i=true):wrA (arP s i) (i:Int) 1=arP s (i+1):=by
 unfold arP wrA
 refine congrArg Ar.mk (funext fun k=> ?_)
 rw[Int.toNat_natCast]
 by_cases e:k=i
 ·subst e;simp[h]
 ·simp only[e,if_false]
  by_cases e2:k<i
  ·simp[e2,show k<i+1 by omega]
  ·simp[e2,show ¬k<i+1 by omega]
theorem qmd (s:BS)(i:Nat)(h:s.getLsbD i=false):arP s i=arP s (i+1):=by
 unfold arP
 refine congrArg Ar.mk (funext fun k=> ?_)
 by_cases e:k=i
 ·subst e;simp[h]
 ·by_cases e2:k<i
  ·simp[e2,show k<i+1 by omega]
  ·simp[e2,show ¬k<i+1 by omega]
theorem qds (s:BS)(i:Nat)(h:s.getLsbD i=false):wrA (arP s i) (i:Int) 0=arP s (i+1):=by
 rw[←qmd s i h]
 unfold arP wrA
 refine congrArg Ar.mk (funext fun k=> ?_)
 rw[Int.toNat_natCast]
 by_cases e:k=i
 ·subst e;simp
 ·simp[e]
theorem qec (s t:BS):eqA (zgm s) (zgm t)=decide (s=t):=by
 unfold eqA
 by_cases h:s=t
 ·subst h;simp
 ·have: ¬arL (zgm s)=arL (zgm t):=fun e=>h (BitVec.eq_of_getLsbD_eq fun i hi=>by
   have h1:=congrArg (fun l:List Int=>l[i]?) e
   simp only[arL_get _ _ hi,Option.some.injEq] at h1
   simp only[zgm] at h1
   cases hs:s.getLsbD i<;>cases ht:t.getLsbD i<;>simp[hs,ht] at h1⊢)
  simp[h,this]
theorem qki {x:Int} (h: -9223372036854775808≤x∧x<9223372036854775808):IntKind.i64.wrap x=x:=znr h.1 h.2
theorem qln {n:Nat} (h:n<2^64):IntKind.u64.wrap (n:Int)=(n:Int):=by
 simp only[IntKind.wrap,IntKind.bits,IntKind.signed]
 simp;omega
theorem qlr (fuel:Nat)(hf:256<fuel)(s:BS):zzd fuel s=some (zgm s):=by
 unfold zzd
 refine zcb (zgm s) (zew 256 (fun i=>((i:Int),arP s i)) (by simp[arP_0]) (fun i hi=> ?_) ?_ hf) rfl
 ·refine zbe (by simp;omega) ?_
  have e1:IntKind.i64.wrap (Int.tdiv (i:Int) 64)=((i/64:Nat):Int):=by
   rw[show Int.tdiv (i:Int) 64=((i/64:Nat):Int) from rfl];exact qki (by omega)
  have e2:Int.tmod (i:Int) 64=((i%64:Nat):Int):=rfl
  simp only[e1,e2,Int.toNat_natCast]
  obtain⟨w,hw⟩: ∃w,w=W64 s (i/64):=⟨_,rfl⟩
  have hw1:wd s (i/64)=((w.toNat:Nat):Int):=by rw[hw];rfl
  have hwl:=w.isLt
  refine zcb (arP s (i+1)) (zq (by omega) ?_) (zq (by omega) rfl)
  refine zcb (((w.toNat/2^(i%64):Nat):Nat):Int) (zew (i%64) (fun j=>(((w.toNat/2^j:Nat):Int),(j:Int))) (by simp[hw1]) (fun j hj=> ?_) ?_ (by omega)) ?_
  ·refine zbe (by simp;omega) (zq (by simp only;omega) ?_)
   have e3:IntKind.u64.wrap (Int.tdiv ((w.toNat/2^j:Nat):Int) 2)=((w.toNat/2^(j+1):Nat):Int):=by
    rw[show Int.tdiv ((w.toNat/2^j:Nat):Int) 2=((w.toNat/2^j/2:Nat):Int) from rfl,Nat.div_div_eq_div_mul,←Nat.pow_succ]
    exact qln (Nat.lt_of_le_of_lt (Nat.div_le_self _ _) hwl)
   simp only[e3,Int.natCast_add,Int.cast_ofNat_Int]
  ·refine zay (by simp) rfl
  ·have e4:Int.tmod ((w.toNat/2^(i%64):Nat):Int) 2=((w.toNat/2^(i%64)%2:Nat):Int):=rfl
   have hb:s.getLsbD i=decide (w.toNat/2^(i%64)%2=1):=by
    have h:=W64_get s (i/64) (i%64) (Nat.mod_lt _ (by decide))
    rw[show 64*(i/64)+i%64=i by omega,←hw] at h
    rw[←h,BitVec.getLsbD,Nat.testBit_eq_decide_div_mod_eq]
   simp only[e4]
   generalize hm:w.toNat/2^(i%64)%2=m at*
   have hm2:m<2:=by rw[←hm];exact Nat.mod_lt _ (by decide)
   refine zq (by omega) (zq (by omega) ?_)
   rcases(by omega:m=0∨m=1) with rfl|rfl
   ·rw[Int.natCast_zero,qds s i (by simpa using hb)]
   ·rw[show((1:Nat):Int)=1 from rfl,arP_hit s i (by simpa using hb)]
 ·refine zay (by simp) ?_
  simp only[arP_256]
theorem k_words (s:BS):Pure (ITP Tryz.prog) Tryz.prog 113 [.agg (Enc.cells s)] (.agg (Enc.cells (zgm s))):=qls 257 s _ (qlr 257 (by decide) s)
def KO (t:Tr):Prop:=(∀x∈pre t,x.k<256)∧(pre t).length<2^35
instance (t:Tr):Decidable (KO t):=inferInstanceAs (Decidable (_∧_))
section
variable {P:Program} {ρ:Operand→AV} {σ:St} {o:Oper}
end
end Go.Ab
set_option maxRecDepth 100000
set_option maxHeartbeats 4000000
namespace Go.Ab
open Go Go.RowKit Go.Fwd Go.Proofs
end Go.Ab
namespace Go.Ab
open Go Go.RowKit Go.Fwd Go.Proofs
theorem KO.sub {t x:Tr} (h:KO t)(hx:x∈t.l):KO x:=by
 have h1:=zck hx
 have hp:(pre t).length=1+(zap t.l).length:=by rw[zcw,List.length_cons];omega
 refine⟨fun y hy=>h.1 y ?_,by have:=h.2;omega⟩
 rw[zcw]
 refine List.mem_cons_of_mem _ ?_
 have: ∀l:List Tr,x∈l→y∈zap l:=fun l=>by
  induction l with
  |nil=>intro h;cases h
  | cons z l ih=>
   intro h
   rw[zap,List.mem_append]
   rcases List.mem_cons.1 h with rfl|h
   ·exact .inl hy
   ·exact .inr (ih h)
 exact this _ hx
def rtL (r:RT):List RT:=r.t.l.map RT.mk
theorem z7w (r:RT):(rtL r).length=r.t.l.length:=by simp[rtL]
theorem qhj (r:RT):Enc.cellsL (rtL r)=qfb r.t.l:=by
 show qfb ((r.t.l.map RT.mk).map RT.t)=_
 rw[List.map_map];congr 1;exact List.map_id _
section
variable {ρ:Operand→AV} {σ:St} {o:Oper} {x:Operand} {b:Nat} {tt:TypeId}
theorem z7z (r:RT)(ho:o.op= .load 3 x)(hx:ρ x= .ptr b 0)(hb:σ.boxes[b]? =some (tt,Enc.cells r)):qop Tryz.prog ρ σ o=some (.raw (.int .i64 ((r.t.k:Nat):Int))):=qij r.t ho hx (znk r▸hb)
theorem qag (r:RT)(ho:o.op= .load 103 x)(hx:ρ x= .ptr b 1)(hb:σ.boxes[b]? =some (tt,Enc.cells r)):qop Tryz.prog ρ σ o=some (.agg (Enc.cells (zgm r.t.s))):=qic r.t ho hx (znk r▸hb)
theorem z8e (r:RT)(ho:o.op= .load 3 x)(hx:ρ x= .ptr b 257)(hb:σ.boxes[b]? =some (tt,Enc.cells r)):qop Tryz.prog ρ σ o=some (.raw (.int .i64 r.t.mn)):=qdy r.t ho hx (znk r▸hb)
theorem z9j (r:RT)(ho:o.op= .load 3 x)(hx:ρ x= .ptr b 258)(hb:σ.boxes[b]? =some (tt,Enc.cells r)):qop Tryz.prog ρ σ o=some (.raw (.int .i64 r.t.mx)):=qcv r.t ho hx (znk r▸hb)
theorem zoc (r:RT)(ho:o.op= .load 104 x)(hx:ρ x= .ptr b 259)(hb:σ.boxes[b]? =some (tt,Enc.cells r)):qop Tryz.prog ρ σ o=some (.list (List.length (rtL r)) (Enc.cellsL (rtL r)) .none):=by
 rw[z7w,qhj];exact qia r.t ho hx (znk r▸hb)
end
theorem rs_neA {ρ:Operand→AV} {o:Oper} {x y:Operand} {c} (s t:Ar)(ho:o.op= .binOp .neq 103 x y c)(hx:ρ x= .agg (Enc.cells s))(hy:ρ y= .agg (Enc.cells t)):zoq Tryz.prog ρ o (.raw (.bool (!(eqA s t)))):=by
 replace hx:ρ x= .agg ((arL s).map qoi):=hx
 replace hy:ρ y= .agg ((arL t).map qoi):=hy
 refine⟨?_,by rw[ho];intros;simp,by rw[ho];intros;simp,.bool (!(eqA s t)),fun w=> ?_,rfl,rfl⟩
 ·rw[ho];simp[Op.operands,hx,hy,zqb]
 ·have h1:zdh ρ x= .agg ((arL s).map (Value.int .i64)).toArray:=by simp only[zdh,hx,zqb,Option.getD_some]
  have h2:zdh ρ y= .agg ((arL t).map (Value.int .i64)).toArray:=by simp only[zdh,hy,zqb,Option.getD_some]
  have h3:=eqIn103 9998 (arL s) (arL t) (qgw s) (qgw t) w
  simp[execOp,ho,h1,h2,eqGuard,binOp,Op.equal,Op.maxDepth,program,Sem.run,qlg,h3,eqA]
end Go.Ab
