import Derived.Test.YtnoccnalocdldaaGreatDoorZfPc
set_option linter.all false
set_option maxRecDepth 100000
set_option maxHeartbeats 4000000
open Sum (inl inr)
open Int (toNat tmod tdiv)
open Nat (le_refl zero_add lt_or_ge not_lt_zero)
open Option (map_some getD_some)
open List (length length_cons length_append length_nil getElem?_eq_getElem mem_append all_eq_true foldl cons_append mem_cons mem_range append_nil map_cons getElem_mem take_of_length_le length_map map_map)
open Go.Proofs.Tryz (prog)
namespace Go.Ab
open Go Go.RowKit Go.Fwd Go.Proofs
variable {P:Program} {n:Nat}
structure Ar where
 f:Nat->Int
def qqo (x:Int):AV:= .raw (.int .i64 x)
def arL (a:Ar):List Int:=(List.range 256).map a.f
def zft (a:Ar):List AV:=(arL a).map qqo
theorem qge (a:Ar):(arL a).length=256:=by simp[arL]
theorem arL_get (a:Ar)(i:Nat)(h:i<256):(arL a)[i]? =some (a.f i):=by simp[arL,h]
theorem z9r (l:List Int):cloL (l.map qqo)=true:=by
 induction l with
 |nil=>rfl
 |cons x l ih=>rw[map_cons,cloL,ih];rfl
instance:Enc Ar where
 inh:=⟨fun _=>0⟩
 cells:=zft
 cellsL l:=l.flatMap zft
 sz:=256
 pos:=by decide
 nil:=rfl
 cons _ _:=rfl
 len a:=by simp[zft,arL]
 clo a:=z9r _
def zeroA:Ar:=⟨fun _=>0⟩
def wrA (a:Ar)(i v:Int):Ar:=⟨fun k=>if k=i.toNat then v else a.f k⟩
def eqA (a b:Ar):Bool:=decide (arL a=arL b)
theorem zws (a:Ar)(i:Nat)(h:i<256):(zft a)[i]? =some (qqo (a.f i)):=by simp[zft,arL,h]
theorem qjk (a:Ar)(i v:Int)(h:0<=i/\ i<256):zft (wrA a i v)=(zft a).set i.toNat (qqo v):=by
 apply List.ext_getElem?;intro k;rcases lt_or_ge k 256 with hk|hk
 ·rw[zws _ _ hk];by_cases e:i.toNat=k
  ·subst e;rw[List.getElem?_set_self (by simp[zft,arL];omega)];simp[wrA]
  ·rw[List.getElem?_set_ne e,zws _ _ hk];simp[wrA,Ne.symm e]
 ·rw[List.getElem?_eq_none (by simp[zft,arL];omega),List.getElem?_eq_none (by simp[zft,arL];omega)]
section
variable {ρ:Operand->AV} {U:St} {o:Oper}
theorem qgt:zcl prog 76=some 256:=by kernel_rfl
theorem size102:zcl prog 75=some 256:=by kernel_rfl
theorem qlq:zcl prog 3=some 1:=by kernel_rfl
theorem und3:prog.underlying 3=some (.int .i64):=by kernel_rfl
theorem qim:prog.underlying 76=some (.array 256 3):=by kernel_rfl
theorem und102:prog.underlying 75=some (.array 256 3):=by kernel_rfl
theorem qqd {t:TypeId} {cs:List AV} {k:Nat} {e:TypeId} (hu:P.underlying t=some (.array k e))(hs:zcl P t=some n)(hl:cs.length=n):rd P t cs=some (.agg cs):=by
 unfold zcl at hs;cases hi:P.info? t with
 |none=>simp[hi] at hs
 | some i=>
  simp only[hi,map_some,Option.some.injEq] at hs;subst hs;simp only[rd,hu,hi,hl,le_refl,if_true,take_of_length_le]
theorem z5p {t:TypeId} {k:IntKind} {cs:List AV} (hu:P.underlying t=some (.int k))(hs:zcl P t=some n):rd P t cs=cs.head? :=by
 unfold zcl at hs;cases hi:P.info? t with
 |none=>simp[hi] at hs
 |some i=>simp[rd,hu,hi]
theorem qgk {t:TypeId} {x:Operand} {b:Nat} {tt:TypeId} (a:Ar)(ht:t=76 \/t=75)(ho:o.op= .load t x)(hx:ρ x= .ptr b 0)(hb:U.boxes[b]? =some (tt,Enc.cells a)):qop prog ρ U o=some (.agg (Enc.cells a)):=by
 have key:rd prog t ((Enc.cells a).drop 0)=some (.agg (Enc.cells a)):=by
  rw[List.drop_zero];rcases ht with rfl|rfl
  ·exact qqd qim qgt (Enc.len a)
  ·exact qqd und102 size102 (Enc.len a)
 simp only[qop,ho,zlu,hx,hb,key]
theorem qhh {x y:Operand} {b:Nat} {tt:TypeId} {i v:Int} (a:Ar)(h:0<=i/\ i<256)(ho:o.op= .store 3 x y)(hx:ρ x= .ptr b (0+i.toNat*1))(hy:ρ y= .raw (.int .i64 v))(hb:U.boxes[b]? =some (tt,Enc.cells a)):
 aop prog ρ U o=some (.raw undef,{U with boxes:=U.boxes.set b (tt,Enc.cells (wrA a i v))}):=by
 have hl:(Enc.cells a).length=256:=Enc.len a;rw[zcr (n:=1) ho hx hy hb qlq ⟨rfl,rfl,by simp only[hl];omega,by decide⟩];have e:(Enc.cells a).take (0+i.toNat*1)++cellsOf (.raw (.int .i64 v))++(Enc.cells a).drop (0+i.toNat*1+1)=Enc.cells (wrA a i v):=by
  show _=zft (wrA a i v);rw[qjk _ _ _ h,List.set_eq_take_append_cons_drop,if_pos (by rw[show(zft a).length=256 from Enc.len a];omega)];simp only[zero_add,Nat.mul_one,List.append_assoc,cellsOf,List.singleton_append];rfl
 simp only[e]
def zv57:Value:= .agg ((List.range 256).map fun _=>Value.int .i64 0).toArray
theorem zero103:ziv prog 76=some zv57:=by kernel_rfl
theorem zero102:ziv prog 75=some zv57:=by kernel_rfl
theorem zxe:cellsOf (zje zv57)=Enc.cells zeroA:=by kernel_rfl
theorem zvl {t:TypeId} {z:Value} (hz:ziv P t=some z):zsn P U t=some (.ptr U.boxes.length 0,{U with boxes:=U.boxes++[(t,cellsOf (zje z))]}):=by
 unfold ziv at hz;unfold zsn;cases hi:P.info? t with
 |none=>simp[hi] at hz
 | some i=>
  simp only[hi] at hz⊢;cases hzz:i.zero with
  |none=>simp[hzz] at hz
  | some z'=>
   simp only[hzz] at hz⊢;split at hz
   ·rename_i hk;cases hz;rw[if_pos hk.1,aBox,if_pos hk.2]
   ·cases hz
theorem z1h {t:TypeId} (ht:t=76 \/t=75)(ho:o.op= .alloc t):aop prog ρ U o=some (.ptr U.boxes.length 0,{U with boxes:=U.boxes++[(t,Enc.cells zeroA)]}):=by
 have h:zsn prog U t=some (.ptr U.boxes.length 0,{U with boxes:=U.boxes++[(t,Enc.cells zeroA)]}):=by
  rcases ht with rfl|rfl
  ·rw[zvl zero103,zxe]
  ·rw[zvl zero102,zxe]
 simp only[aop,qop,ho,h]
end
theorem zyt (w:World)(d:Nat)(a b:Int):(Op.equalIn (d+1) 3 (.int .i64 a) (.int .i64 b)).run prog w= .ok (a==b) w:=run_equalIn_int w d 3 .i64 .i64 a b und3
theorem zrl (l:List Int):zdq (.agg (l.map qqo))=some (.agg (l.map (Value.int .i64)).toArray):=by
 have:zeb (l.map qqo)=some (l.map (Value.int .i64)):=by
  induction l with
  |nil=>rfl
  |cons x l ih=>rw[map_cons,zeb,ih];rfl
 simp[zdq,this]
theorem qao (w:World):(isAgg 3).run prog w= .ok false w:=by kernel_rfl
theorem qjw (w:World):(sizeOf 3).run prog w= .ok 1 w:=by kernel_rfl
theorem eqIn103 (d:Nat)(xs ys:List Int)(hx:xs.length=256)(hy:ys.length=256)(w:World):
 (Op.equalIn (d+1+1) 76 (.agg (xs.map (Value.int .i64)).toArray) (.agg (ys.map (Value.int .i64)).toArray)).run prog w= .ok (decide (xs=ys)) w:=by
 rw[Op.equalIn];simp only[Sem.run_bind,run_underlying qim,Result.andThen_ok,qjw];simp only[Std.Legacy.Range.forIn_eq_forIn_range',Std.Legacy.Range.size,Nat.sub_zero,Nat.add_sub_cancel,Nat.div_one]
 have key: ∀n s,s+n=256->(Sem.run prog
  (forIn (List.range' s n) (none,()) fun i (__s:Option Bool×Unit)=>do
   let __do_lift<-part 3 (List.map (Value.int IntKind.i64) xs).toArray (i*1)
   let __do_lift_1<-part 3 (List.map (Value.int IntKind.i64) ys).toArray (i*1)
   let __do_lift<-Op.equalIn (d+1) 3 __do_lift __do_lift_1
   if(!__do_lift)=true then pure (ForInStep.done (some false,())) else pure (ForInStep.yield (none,()))) w)= .ok (if xs.drop s=ys.drop s then(none,()) else(some false,())) w:=by
  intro n;induction n with
  | zero=>
   intro s hs;rw[if_pos (by rw[List.drop_of_length_le (by omega),List.drop_of_length_le (by omega)])];simp[Sem.run_pure]
  | succ n ih=>
   intro s hs;have h1:s<xs.length:=by omega
   have h2:s<ys.length:=by omega
   have ih:=ih (s+1) (by omega);rw[List.range'_succ,List.forIn_cons];rw[List.drop_eq_getElem_cons h1,List.drop_eq_getElem_cons h2];have hp: ∀(zs:List Int) (hz:s<zs.length) (w:World),(part 3 (List.map (Value.int IntKind.i64) zs).toArray (s*1)).run prog w= .ok (.int .i64 zs[s]) w:=fun zs hz w=>by
    simp only[part,Sem.run_bind,qao,Result.andThen_ok,Nat.mul_one,List.getElem?_toArray,List.getElem?_map,getElem?_eq_getElem hz,map_some,if_false,Bool.false_eq_true,Sem.run_pure]
   simp only[Sem.run_bind,hp xs h1,hp ys h2,Result.andThen_ok,Bool.false_eq_true,Sem.run_pure,zyt];by_cases e:xs[s]=ys[s]
   ·simp only[e,beq_self_eq_true,Bool.not_true,Bool.false_eq_true,if_false,Sem.run_pure,Result.andThen_ok,List.cons.injEq,true_and];exact ih
   ·have:(xs[s]==ys[s])=false:=by simp[e]
    simp only[this,Bool.not_false,if_true,Sem.run_pure,Result.andThen_ok,List.cons.injEq,e,false_and,if_false]
 have h:=key 256 0 rfl;simp only[List.drop_zero] at h;rw[h];by_cases e:xs=ys
 ·simp[e,Result.andThen,Sem.run_pure]
 ·simp[e,Result.andThen,Sem.run_pure]
theorem qou:prog.eqGuardType prog.depth 76=false:=by kernel_rfl
variable {P:Program} {n:Nat}
structure RT where
 t:Tr
def zgd (s:BS):Ar:=⟨fun i=>if s.getLsbD i=true then 1 else 0⟩
def hcells (t:Tr):List AV:= .raw (.int .i64 t.k)::(zft (zgd t.s)++[.raw (.int .i64 t.mn),.raw (.int .i64 t.mx)])
mutual
def rtc:Tr->List AV
 | .mk k s mn mx l=>hcells (.mk k s mn mx [])++[.list l.length (qjr l) .none]
def qjr:List Tr->List AV
 |[]=>[]
 |x::l=>rtc x++qjr l
end
theorem znm (t:Tr):(hcells t).length=259:=by simp[hcells,zft,arL]
theorem qow (t:Tr):rtc t=hcells t++[.list t.l.length (qjr t.l) .none]:=by obtain⟨k,s,mn,mx,l⟩:=t;rw[rtc];rfl
theorem rtc_len (t:Tr):(rtc t).length=260:=by rw[qow,length_append,znm];rfl
theorem zrn (t:Tr):cloL (hcells t)=true:=by
 unfold hcells;rw[cloL,zee];rw[show cloL (zft (zgd t.s))=true from z9r _];rfl
mutual
theorem qiu: ∀t:Tr,cloL (rtc t)=true
 | .mk k s mn mx l=>by
  rw[rtc,zee,zrn,cloL,clo,z8j l];rfl
theorem z8j: ∀l:List Tr,cloL (qjr l)=true
 |[]=>by rw[qjr];rfl
 |x::l=>by rw[qjr,zee,qiu x,z8j l];rfl
end
instance:Enc RT:=⟨⟨noneT⟩,fun r=>rtc r.t,fun l=>qjr (l.map RT.t),260,by decide,rfl,fun _ _=>by rw[map_cons,qjr],fun r=>rtc_len r.t,fun r=>qiu r.t⟩
def rtX (t:Tr)(a:AV):List AV:=hcells t++[a]
theorem zrq (t:Tr)(a:AV):(rtX t a).length=260:=by rw[rtX,length_append,znm];rfl
theorem znr (r:RT):Enc.cells r=rtX r.t (.list r.t.l.length (qjr r.t.l) .none):=qow r.t
theorem isStr {d:Option TypeDesc} (h:(match d with|some (.struct _)=>true|_=>false)=true): ∃fs,d=some (.struct fs):=by
 match d,h with
 |some (.struct fs),_=>exact⟨fs,rfl⟩
theorem und106: ∃fs,prog.underlying 79=some (.struct fs):=isStr (by kernel_rfl)
theorem z4x:zcl prog 79=some 260:=by kernel_rfl
theorem und104:prog.underlying 77=some (.slice 79):=by kernel_rfl
section
variable {ρ:Operand->AV} {U:St} {o:Oper}
theorem qil {t:TypeId} {cs:List AV} {fs} (hu:P.underlying t=some (.struct fs))(hs:zcl P t=some n)(hl:n<=cs.length):rd P t cs=some (.agg (cs.take n)):=by
 unfold zcl at hs;cases hi:P.info? t with
 |none=>simp[hi] at hs
 | some i=>
  simp only[hi,map_some,Option.some.injEq] at hs;subst hs;simp only[rd,hu,hi,hl,if_true]
theorem rd_rt (cs rest:List AV)(hl:cs.length=260):rd prog 79 (cs++rest)=some (.agg cs):=by
 obtain⟨fs,hu⟩:=und106;rw[qil hu z4x (by rw[length_append];omega),List.take_append_of_le_length (by omega),take_of_length_le (by omega)]
theorem qoe {t:TypeId} {cs:List AV} (hs:zcl P t=some n)(h1: ∃d,P.underlying t=some d/\ (∀fs,d≠ .struct fs)/\ ∀k e,d≠ .array k e):rd P t cs=cs.head? :=by
 obtain⟨d,hd,h2,h3⟩:=h1;unfold zcl at hs;cases hi:P.info? t with
 |none=>simp[hi] at hs
 | some i=>
  cases d with
  |struct fs=>exact absurd rfl (h2 fs)
  |array k e=>exact absurd rfl (h3 k e)
  |_=>simp only[rd,hd,hi]
theorem qmu {x:Operand} {b:Nat} {tt:TypeId} {cs:List AV} (hl:cs.length=260)(ho:o.op= .load 79 x)(hx:ρ x= .ptr b 0)(hb:U.boxes[b]? =some (tt,cs)):qop prog ρ U o=some (.agg cs):=by
 have:=rd_rt cs [] hl;rw[append_nil] at this;simp only[qop,ho,zlu,hx,hb,List.drop_zero,this]
theorem z3r {x:Operand} {rest:List AV} (r:RT)(ho:o.op= .load 79 x)(hx:ρ x= .iptr (Enc.cells r++rest)):qop prog ρ U o=some (.agg (Enc.cells r)):=by
 simp only[qop,ho,zlu,hx,rd_rt _ rest (Enc.len r)]
theorem qia {x:Operand} {b:Nat} {tt:TypeId} (t:Tr) {a:AV} (ho:o.op= .load 3 x)(hx:ρ x= .ptr b 0)(hb:U.boxes[b]? =some (tt,rtX t a)):qop prog ρ U o=some (.raw (.int .i64 t.k)):=by
 simp only[qop,ho,zlu,hx,hb,List.drop_zero,z5p und3 qlq];rfl
theorem qny (t:Tr)(a:AV):(rtX t a).drop 257=[.raw (.int .i64 t.mn),.raw (.int .i64 t.mx),a]:=by
 have h:(zft (zgd t.s)).length=256:=by simp[zft,arL]
 rw[rtX,hcells,cons_append,List.append_assoc,List.drop_succ_cons,List.drop_append,List.drop_of_length_le (by omega),h];rfl
theorem zuc (t:Tr)(a:AV)(j:Nat):(rtX t a).drop (257+j)=[AV.raw (.int .i64 t.mn),.raw (.int .i64 t.mx),a].drop j:=by rw[<-qny t a,List.drop_drop]
theorem qib {x:Operand} {b:Nat} {tt:TypeId} (t:Tr) {a:AV} (ho:o.op= .load 3 x)(hx:ρ x= .ptr b 257)(hb:U.boxes[b]? =some (tt,rtX t a)):qop prog ρ U o=some (.raw (.int .i64 t.mn)):=by
 simp only[qop,ho,zlu,hx,hb,z5p und3 qlq,zuc t a 0];rfl
theorem qfq {x:Operand} {b:Nat} {tt:TypeId} (t:Tr) {a:AV} (ho:o.op= .load 3 x)(hx:ρ x= .ptr b 258)(hb:U.boxes[b]? =some (tt,rtX t a)):qop prog ρ U o=some (.raw (.int .i64 t.mx)):=by
 simp only[qop,ho,zlu,hx,hb,z5p und3 qlq,zuc t a 1];rfl
theorem z2x {x:Operand} {b:Nat} {tt:TypeId} (t:Tr) {a:AV} (ho:o.op= .load 77 x)(hx:ρ x= .ptr b 259)(hb:U.boxes[b]? =some (tt,rtX t a)):qop prog ρ U o=some a:=by
 have h1:zcl prog 77=some 1:=by kernel_rfl
 simp only[qop,ho,zlu,hx,hb,qoe h1 ⟨_,und104,by simp,by simp⟩,zuc t a 2];rfl
theorem qjl {x:Operand} {b:Nat} {tt:TypeId} (t:Tr) {a:AV} (ho:o.op= .load 76 x)(hx:ρ x= .ptr b 1)(hb:U.boxes[b]? =some (tt,rtX t a)):qop prog ρ U o=some (.agg (Enc.cells (zgd t.s))):=by
 have h:(zft (zgd t.s)).length=256:=by simp[zft,arL]
 have e:(rtX t a).drop 1=zft (zgd t.s)++[.raw (.int .i64 t.mn),.raw (.int .i64 t.mx),a]:=by rw[rtX,hcells];simp
 have key:rd prog 76 ((rtX t a).drop 1)=some (.agg (Enc.cells (zgd t.s))):=by
  rw[e];have hs:=qgt;unfold zcl at hs;cases hi:prog.info? 76 with
  |none=>simp[hi] at hs
  | some i=>
   simp only[hi,map_some,Option.some.injEq] at hs;simp only[rd,qim,hi];rw[if_pos (by rw[length_append];omega),hs,List.take_append_of_le_length (by omega),take_of_length_le (by omega)];rfl
 simp only[qop,ho,zlu,hx,hb,key]
theorem z6i {x y:Operand} {b:Nat} {tt:TypeId} {a v:AV} (t:Tr)(ho:o.op= .store 77 x y)(hx:ρ x= .ptr b 259)(hy:ρ y=v)(hb:U.boxes[b]? =some (tt,rtX t a))(hc:zht v=true/\ (cellsOf v).length=1):
 aop prog ρ U o=some (.raw undef,{U with boxes:=U.boxes.set b (tt,hcells t++cellsOf v)}):=by
 have h1:zcl prog 77=some 1:=by kernel_rfl
 rw[zcr (n:=1) ho hx hy hb h1 ⟨hc.1,hc.2,by simp only[zrq];omega,by decide⟩];have e1:(rtX t a).take 259=hcells t:=by rw[rtX,List.take_append_of_le_length (by rw[znm];omega),take_of_length_le (by rw[znm];omega)]
 have e2:(rtX t a).drop (259+1)=[]:=List.drop_of_length_le (by rw[zrq];omega);simp only[e1,e2,append_nil]
end
theorem zwv: ∀a b:List AV,stripL (a++b)=stripL a++stripL b
 |[],b=>by rw[stripL];rfl
 |x::a,b=>by rw[cons_append,stripL,stripL,zwv a b];rfl
theorem qeh (t:Tr)(l:List RT):zcy (.agg (rtX t (zbn l.length (Enc.cellsL l))))= .agg (Enc.cells (RT.mk (.mk t.k t.s t.mn t.mx (l.map RT.t)))):=by
 rw[znr];show AV.agg (stripL _)=_;rw[rtX,rtX,zwv,zdl _ (zrn t),stripL,stripL,zvx (Enc.cloL l) Enc.z];rw[show(RT.mk (Tr.mk t.k t.s t.mn t.mx (l.map RT.t))).t=Tr.mk t.k t.s t.mn t.mx (l.map RT.t) from rfl,show(Tr.mk t.k t.s t.mn t.mx (l.map RT.t)).l=l.map RT.t from rfl,length_map];rfl
end Go.Ab
namespace Go.Ab
open Go Go.RowKit Go.Fwd Go.Proofs
def zyd (fuel:Nat)(s:BS):Option Ar:=
 (zct (τ:=Ar) (zav (β:=Int×Ar) (fun s1=>(bif (decide (s1.1<256)) then(zct (τ:=Ar) (chk (0<=(IntKind.i64.wrap (tdiv s1.1 64))/\ (IntKind.i64.wrap (tdiv s1.1 64))<4) (zct (τ:=Int) (zav (β:=Int×Int) (fun s2=>(bif (decide (s2.2<(tmod s1.1 64))) then(chk (-9223372036854775808<=(s2.2+1)/\ (s2.2+1)<9223372036854775808) (some (inl ((IntKind.u64.wrap (tdiv s2.1 2)),(s2.2+1))))) else(some (inr (inl (s2.1)))))) fuel ((wd s (toNat (IntKind.i64.wrap (tdiv s1.1 64)))),0)) (fun j3=>(chk (-9223372036854775808<=(tmod j3 2)/\ (tmod j3 2)<9223372036854775808) (chk (0<=s1.1/\ s1.1<256) (some (inl ((wrA s1.2 s1.1 (tmod j3 2)))))))))) (fun j2=>(chk (-9223372036854775808<=(s1.1+1)/\ (s1.1+1)<9223372036854775808) (some (inl ((s1.1+1),j2)))))) else(some (inr (inl (s1.2)))))) fuel (0,zeroA)) (fun j1=>(some j1)))
theorem ent52:Ent prog 52:=enters_of Tryz.func52 (by kernel_rfl) rfl
theorem qkx (fuel:Nat)(s:BS)(r:Ar)(h:zyd fuel s=some r):Pure (ITP prog) prog 52 [.A (s:BS)] (.A (r:Ar)):=by
 unfold zyd at h;refine zbg 28 mix Tryz.func52 ent52 ?_;refine zi (zb ?_);refine zda (Enc.cells (s:BS)) ?_;refine zho (a:= .ptr 1 0) (U'':=(.B [(25,(Enc.cells (s:BS))),(76,(Enc.cells (zeroA:Ar)))])) rfl rfl rfl (z1h (by decide) rfl) (by dsimp only[zaf,List.set]) rfl ?_;refine zi (zb ?_);refine zho (a:= .ptr 2 0) (U'':=(.B [(25,(Enc.cells (s:BS))),(76,(Enc.cells (zeroA:Ar))),(76,(Enc.cells (zeroA:Ar)))])) rfl rfl rfl (z1h (by decide) rfl) (by dsimp only[zaf,List.set]) rfl ?_;refine zal h (bz 0 29 536870899) (fun j1=>[]) (fun j1=>(.B [(25,(Enc.cells (s:BS))),(76,(Enc.cells (zeroA:Ar))),(76,(Enc.cells (j1:Ar)))])) ?_ ?_;intro or1 h hr1;refine zae [.v (.i 0)] ?_;refine zt ?_;refine zcf h (bz 0 29 536870897) (fun s1=>[(4,.i s1.1)]) (fun s1=>(.B [(25,(Enc.cells (s:BS))),(76,(Enc.cells (zeroA:Ar))),(76,(Enc.cells (s1.2:Ar)))])) ?_ ?_;exact zaz (bl 29 30);intro s1 p1 h;refine zdf ?_;refine zi ?_;refine zae [.m _,.v (.b (decide (s1.1<256)))] ?_;refine zbr h (fun hc1 h=> ?_) (fun hc1 h=> ?_);refine zal h (bz 0 28 268433888) (fun j2=>[]) (fun j2=>(.B [(25,(Enc.cells (s:BS))),(76,(Enc.cells (zeroA:Ar))),(76,(Enc.cells (j2:Ar)))])) ?_ ?_;intro or2 h hr2;refine zt ?_;refine zae [.m _,.v (.i (IntKind.i64.wrap (tdiv s1.1 64)))] ?_;obtain⟨g1,h⟩:=ze h;refine w_o (a:= .ptr 0 (0+toNat (IntKind.i64.wrap (tdiv s1.1 64))*1)) (h:=zba (zsk g1 rfl rfl rfl rfl rfl)) ?_;refine w_o (a:= .raw (.int .u64 (wd s (toNat (IntKind.i64.wrap (tdiv s1.1 64)))))) (h:=zba (z0b s (by omega) rfl rfl rfl)) ?_;refine zao ?_;refine zal h (bz 0 23 8387040) (fun j3=>[(5,.raw (.int .u64 j3))]) (fun j3=>(.B [(25,(Enc.cells (s:BS))),(76,(Enc.cells (zeroA:Ar))),(76,(Enc.cells (s1.2:Ar)))])) ?_ ?_;intro or3 h hr3;refine zae [.v (.i 0)] ?_;refine zt ?_;refine zcf h (bz 0 23 8387040) (fun s2=>[(5,.raw (.int .u64 s2.1)),(6,.i s2.2)]) (fun s2=>(.B [(25,(Enc.cells (s:BS))),(76,(Enc.cells (zeroA:Ar))),(76,(Enc.cells (s1.2:Ar)))])) ?_ ?_;exact zaz (bl 29 528483967);intro s2 p2 h;refine zdf ?_;refine zi ?_;refine zae [.m _,.m _,.v (.i (tmod s1.1 64)),.v (.b (decide (s2.2<(tmod s1.1 64))))] ?_;refine zbr h (fun hc2 h=> ?_) (fun hc2 h=> ?_);refine zi ?_;refine zt ?_;refine zb (k0:=0) (id:=9) ?_;refine w_r [.m _,.v (.raw (.int .u64 (IntKind.u64.wrap (tdiv s2.1 2)))),.m _] ?_;refine zb (k0:=0) (id:=8) ?_;refine zao ?_;obtain⟨g2,h⟩:=ze h;refine zhd g2 ?_;refine zao ?_;refine zbb (p:=p2) ((IntKind.u64.wrap (tdiv s2.1 2)),(s2.2+1)) h ?_;exact zaz (bl 29 528483967);refine zy h (fun h=> ?_);refine zc (o:=or3) (s2.1) h ?_;exact zaz (bl 29 528483903);intro j3 h;refine zdf ?_;refine zb (k0:=0) (id:=10) ?_;refine w_r [.m _,.m _,.v (.raw (.int .u64 (tmod j3 2)))] ?_;obtain⟨g3,h⟩:=ze h;refine w_o (a:= .i (tmod j3 2)) (h:=zba (zju g3 rfl rfl rfl)) ?_;obtain⟨g4,h⟩:=ze h;refine w_o (a:= .ptr 2 (0+toNat s1.1*1)) (h:=zba (zsk g4 rfl rfl rfl rfl rfl)) ?_;refine zqm (U'':=(.B [(25,(Enc.cells (s:BS))),(76,(Enc.cells (zeroA:Ar))),(76,(Enc.cells ((wrA s1.2 s1.1 (tmod j3 2)):Ar)))])) (h:=qhh s1.2 g4 rfl rfl rfl rfl) ?_;refine zc (o:=or2) ((wrA s1.2 s1.1 (tmod j3 2))) h ?_;exact zaz (bl 29 268437023);intro j2 h;refine zdf ?_;refine zb (k0:=0) (id:=4) ?_;refine zao ?_;obtain⟨g5,h⟩:=ze h;refine zhd g5 ?_;refine zao ?_;refine zbb (p:=p1) ((s1.1+1),j2) h ?_;exact zaz (bl 29 30);refine zy h (fun h=> ?_);refine zc (o:=or1) (s1.2) h ?_;exact zaz (bl 29 12);intro j1 h;refine zdf ?_;refine zi (zb ?_);refine w_o (a:= .A (j1:Ar)) (h:=zba (qgk j1 (by decide) rfl rfl rfl)) ?_;refine zqm (U'':=(.B [(25,(Enc.cells (s:BS))),(76,(Enc.cells (j1:Ar))),(76,(Enc.cells (j1:Ar)))])) (h:=zeh (n:=256) rfl rfl rfl rfl rfl (Enc.len _) rfl (Enc.len _) (by decide)) ?_;exact zbu (fun(r:Ar)=> .A (r:Ar)) h (.A (j1:Ar))
mutual
def zwh:Tr->Int->Int
 | .mk _ _ _ _ l,m=>qde l m 1
def qde:List Tr->Int->Int->Int
 |[],_,s=>s
 |x::l,m,s=>if s>m then s else qde l m (s+zwh x (m-s))
end
def z8h (fuel:Nat)(n:Nat)(t:Tr)(m:Int):Option Int:=
 (zct (τ:=Int) (zav (β:=Int×Int) (fun s1=>(bif (decide (s1.2<(length t.l:Int))) then(chk (0<=s1.2/\ s1.2<(length t.l:Int)) (zay (ix t.l s1.2) (fun x1=>(bif (decide (s1.1>m)) then(some (inr (inl (s1.1)))) else(chk (-9223372036854775808<=(m-s1.1)/\ (m-s1.1)<9223372036854775808) (chk (((pre x1).length<n/\ (pre x1).length<2^40/\ 0<=(m-s1.1)/\ (m-s1.1)<2^40)) (zay (zwh x1 (m-s1.1)) (fun x2=>(chk (-9223372036854775808<=(s1.1+x2)/\ (s1.1+x2)<9223372036854775808) (chk (-9223372036854775808<=(s1.2+1)/\ (s1.2+1)<9223372036854775808) (some (inl ((s1.1+x2),(s1.2+1)))))))))))))) else(some (inr (inl (s1.1)))))) fuel (1,0)) (fun j1=>(some j1)))
theorem ent39:Ent prog 39:=enters_of Tryz.func39 (by kernel_rfl) rfl
theorem few8_sh (fuel:Nat)(n:Nat)(t:Tr)(m:Int)(r:Int)(ih: ∀(x:Tr)(m:Int),((pre x).length<n/\ (pre x).length<2^40/\ 0<=m/\ m<2^40)->Pure (ITP prog) prog 39 [.A x,.raw (.int .i64 m)] (.raw (.int .i64 (zwh x m))))(h:z8h fuel n t m=some r):Pure (ITP prog) prog 39 [.A (t:Tr),.raw (.int .i64 m)] (.raw (.int .i64 r)):=by
 unfold z8h at h;refine zbg 25 mix Tryz.func39 ent39 ?_;refine zi (zb ?_);refine zda (Enc.cells (t:Tr)) ?_;refine w_o (a:= .i 0) ?_;refine zae [.v (.i 1)] ?_;refine zal h (bz 0 27 134217727) (fun j1=>[(5,.i j1)]) (fun j1=>(.B [(29,(Enc.cells (t:Tr)))])) ?_ ?_;intro or1 h hr1;refine zae [.v (.ptr 0 7),.v (.L (t.l:List Tr)),.v (.i (length t.l:Int)),.v (.i 0)] ?_;refine zt ?_;refine zcf h (bz 0 27 134216189) (fun s1=>[(5,.i s1.1),(11,.i s1.2)]) (fun s1=>(.B [(29,(Enc.cells (t:Tr)))])) ?_ ?_;exact zaz (bl 27 3618);intro s1 p1 h;refine zdf ?_;refine zae [.v (.b (decide (s1.2<(length t.l:Int))))] ?_;refine zi ?_;refine zbr h (fun hc1 h=> ?_) (fun hc1 h=> ?_);refine zi ?_;refine zt ?_;refine zi (zb ?_);obtain⟨g1,h⟩:=ze h;obtain⟨x1,hx1,h⟩:=zh h;refine z4t hx1 g1 ?_;refine w_o (a:= .A (x1:Tr)) ?_;refine zda zN ?_;refine zeq 8 (Enc.cells (x1:Tr)) ?_;refine zi ?_;refine zae [.m _,.m _,.v (.b (decide (s1.1>m)))] ?_;refine zbr h (fun hc2 h=> ?_) (fun hc2 h=> ?_);refine zy h (fun h=> ?_);refine zc (o:=or1) (s1.1) h ?_;exact zdj (bl 27 32) 1 (by kernel_rfl) (Nat.le_of_ble_eq_true rfl) (zbs (zz (zo _ _ (Enc.clo _)) rfl)) (by dsimp only[zau,zbo,foldl,List.set,bz,bzc,Nat.reduceMod,Nat.reduceDiv,Nat.reduceBEq,Nat.reduceAdd];exact(by kernel_rfl)) (by kernel_rfl);refine zb (k0:=0) (id:=6) ?_;refine w_r [.m _,.v (.A (x1:Tr)),.m _,.m _] ?_;obtain⟨g2,h⟩:=ze h;refine qkf g2 ?_;obtain⟨g3,h⟩:=ze h;obtain⟨x2,hx2,h⟩:=zh h;refine zcp (args':=[.A (x1:Tr),.i (m-s1.1)]) (r:= .i x2) (by rw[<-hx2];exact(ih x1 (m-s1.1) g3)) ?_;obtain⟨g4,h⟩:=ze h;refine zhd g4 ?_;refine zao ?_;refine zb (k0:=0) (id:=7) ?_;obtain⟨g5,h⟩:=ze h;refine zhd g5 ?_;refine zao ?_;refine zbb (p:=p1) ((s1.1+x2),(s1.2+1)) h ?_;exact zdj (bl 27 3618) 1 (by kernel_rfl) (Nat.le_of_ble_eq_true rfl) (zbs (zz (zo _ _ (Enc.clo _)) rfl)) (by dsimp only[zau,zbo,foldl,List.set,bz,bzc,Nat.reduceMod,Nat.reduceDiv,Nat.reduceBEq,Nat.reduceAdd];exact(za rfl (za rfl (za rfl (za rfl (za rfl (za rfl (za rfl (za rfl (za rfl (za (zbj (Enc.cloL _)) (by kernel_rfl)))))))))))) (by kernel_rfl);refine zy h (fun h=> ?_);refine zc (o:=or1) (s1.1) h ?_;exact zaz (bl 27 32);intro j1 h;refine zdf ?_;refine zae [.m _,.m _] ?_;exact zki h
variable {n:Nat}
theorem W64_get (s:BS)(q r:Nat)(hr:r<64):(W64 s q).getLsbD r=s.getLsbD (64*q+r):=by simp[W64,hr]
def arP (s:BS)(i:Nat):Ar:=⟨fun k=>if k<i/\ s.getLsbD k=true then 1 else 0⟩
theorem arP_0 (s:BS):arP s 0=zeroA:=by simp[arP,zeroA]
theorem qea {s:BS} {k:Nat} (h:s.getLsbD k=true):k<256:=by
 rcases lt_or_ge k 256 with h1|h1
 ·exact h1
 ·rw[BitVec.getLsbD_of_ge s k h1] at h;cases h
theorem arP_256 (s:BS):arP s 256=zgd s:=by
 unfold arP zgd;refine congrArg Ar.mk (funext fun k=> ?_);by_cases h:s.getLsbD k=true
 ·simp[h,qea h]
 ·simp[h]
theorem arP_hit (s:BS)(i:Nat)(h:s.getLsbD i=true):wrA (arP s i) (i:Int) 1=arP s (i+1):=by
 unfold arP wrA;refine congrArg Ar.mk (funext fun k=> ?_);rw[Int.toNat_natCast];by_cases e:k=i
 ·subst e;simp[h]
 ·simp only[e,if_false];by_cases e2:k<i
  ·simp[e2,show k<i+1 by omega]
  ·simp[e2,show ¬k<i+1 by omega]
theorem qku (s:BS)(i:Nat)(h:s.getLsbD i=false):arP s i=arP s (i+1):=by
 unfold arP;refine congrArg Ar.mk (funext fun k=> ?_);by_cases e:k=i
 ·subst e;simp[h]
 ·by_cases e2:k<i
  ·simp[e2,show k<i+1 by omega]
  ·simp[e2,show ¬k<i+1 by omega]
theorem qep (s:BS)(i:Nat)(h:s.getLsbD i=false):wrA (arP s i) (i:Int) 0=arP s (i+1):=by
 rw[<-qku s i h];unfold arP wrA;refine congrArg Ar.mk (funext fun k=> ?_);rw[Int.toNat_natCast];by_cases e:k=i
 ·subst e;simp
 ·simp[e]
theorem qjh (s t:BS):eqA (zgd s) (zgd t)=decide (s=t):=by
 unfold eqA;by_cases h:s=t
 ·subst h;simp
 ·have: ¬arL (zgd s)=arL (zgd t):=fun e=>h (BitVec.eq_of_getLsbD_eq fun i hi=>by
   have h1:=congrArg (fun l:List Int=>l[i]?) e;simp only[arL_get _ _ hi,Option.some.injEq] at h1;simp only[zgd] at h1;cases hs:s.getLsbD i<;>cases ht:t.getLsbD i<;>simp[hs,ht] at h1⊢)
  simp[h,this]
theorem qlw {x:Int} (h: -9223372036854775808<=x/\ x<9223372036854775808):IntKind.i64.wrap x=x:=zqe h.1 h.2
theorem qmn (h:n<2^64):IntKind.u64.wrap (n:Int)=(n:Int):=by
 simp only[IntKind.wrap,IntKind.bits,IntKind.signed];simp;omega
theorem u8_wrap (h:n<256):IntKind.u8.wrap (n:Int)=(n:Int):=by
 simp only[IntKind.wrap,IntKind.bits,IntKind.signed];simp;omega
theorem qls (fuel:Nat)(hf:256<fuel)(s:BS):zyd fuel s=some (zgd s):=by
 unfold zyd;refine zaj (zgd s) (zii 256 (fun i=>((i:Int),arP s i)) (by simp[arP_0]) (fun i hi=> ?_) ?_ hf) rfl
 ·refine zdr (by simp;omega) ?_;have e1:IntKind.i64.wrap (tdiv (i:Int) 64)=((i/64:Nat):Int):=by
   rw[show tdiv (i:Int) 64=((i/64:Nat):Int) from rfl];exact qlw (by omega)
  have e2:tmod (i:Int) 64=((i%64:Nat):Int):=rfl;simp only[e1,e2,Int.toNat_natCast];obtain⟨w,hw⟩: ∃w,w=W64 s (i/64):=⟨_,rfl⟩;have hw1:wd s (i/64)=((w.toNat:Nat):Int):=by rw[hw];rfl
  have hwl:=w.isLt;refine zaj (arP s (i+1)) (zf (by omega) ?_) (zf (by omega) rfl);refine zaj (((w.toNat/2^(i%64):Nat):Nat):Int) (zii (i%64) (fun j=>(((w.toNat/2^j:Nat):Int),(j:Int))) (by simp[hw1]) (fun j hj=> ?_) ?_ (by omega)) ?_
  ·refine zdr (by simp;omega) (zf (by simp only;omega) ?_);have e3:IntKind.u64.wrap (tdiv ((w.toNat/2^j:Nat):Int) 2)=((w.toNat/2^(j+1):Nat):Int):=by
    rw[show tdiv ((w.toNat/2^j:Nat):Int) 2=((w.toNat/2^j/2:Nat):Int) from rfl,Nat.div_div_eq_div_mul, <-Nat.pow_succ];exact qmn (Nat.lt_of_le_of_lt (Nat.div_le_self _ _) hwl)
   simp only[e3,Int.natCast_add,Int.cast_ofNat_Int]
  ·refine zdh (by simp) rfl
  ·have e4:tmod ((w.toNat/2^(i%64):Nat):Int) 2=((w.toNat/2^(i%64)%2:Nat):Int):=rfl;have hb:s.getLsbD i=decide (w.toNat/2^(i%64)%2=1):=by
    have h:=W64_get s (i/64) (i%64) (Nat.mod_lt _ (by decide));rw[show 64*(i/64)+i%64=i by omega, <-hw] at h;rw[<-h,BitVec.getLsbD,Nat.testBit_eq_decide_div_mod_eq]
   simp only[e4];generalize hm:w.toNat/2^(i%64)%2=m at*
   have hm2:m<2:=by rw[<-hm];exact Nat.mod_lt _ (by decide)
   refine zf (by omega) (zf (by omega) ?_);rcases(by omega:m=0 \/m=1) with rfl|rfl
   ·rw[Int.natCast_zero,qep s i (by simpa using hb)]
   ·rw[show((1:Nat):Int)=1 from rfl,arP_hit s i (by simpa using hb)]
 ·refine zdh (by simp) ?_;simp only[arP_256]
theorem k_words (s:BS):Pure (ITP prog) prog 52 [.agg (Enc.cells s)] (.agg (Enc.cells (zgd s))):=qkx 257 s _ (qls 257 (by decide) s)
theorem z2u: ∀(n:Nat) (t:Tr) (m:Int),(pre t).length<=n->0<=m->(((pre t).length:Int)<=m->zwh t m=(pre t).length)/\ (((pre t).length:Int)>m->zwh t m>m/\ zwh t m<=(pre t).length)
 |0,t,m,hn,_=>by have:=zmw t;omega
 | n + 1,t,m,hn,hm=>by
  have hp:(pre t).length=1+(zbe t.l).length:=by rw[zea,length_cons];omega
  have key: ∀(l:List Tr) (s:Int),(zbe l).length<=n->0<=s->(s+(zbe l).length<=m->qde l m s=s+(zbe l).length)/\ (s+(zbe l).length>m->qde l m s>m/\ qde l m s<=s+(zbe l).length):=by
   intro l;induction l with
   |nil=>intro s _ _;simp only[qde,zbe,length_nil];omega
   | cons x l ih=>
    intro s hl hs;simp only[zbe,length_append] at hl⊢;rw[qde];by_cases h:s>m
    ·rw[if_pos h];omega
    ·rw[if_neg h];have h1:=z2u n x (m-s) (by omega) (by omega);by_cases hx:((pre x).length:Int)<=m-s
     ·have h2:=h1.1 hx;have h3:=ih (s+zwh x (m-s)) (by omega) (by omega);rw[h2] at h3⊢;omega
     ·have h2:=h1.2 (by omega);have h3:=ih (s+zwh x (m-s)) (by omega) (by omega);omega
  have hk:=key t.l 1 (by omega) (by omega);have e:zwh t m=qde t.l m 1:=by obtain⟨k,s,mn,mx,l⟩:=t;rw[zwh];rfl
  rw[e];omega
theorem few_le (t:Tr)(m:Int)(hm:0<=m):0<=zwh t m/\ zwh t m<=(pre t).length:=by
 have:=z2u _ t m (le_refl _) hm;by_cases h:((pre t).length:Int)<=m<;>omega
theorem few8_eq {fuel:Nat} (n:Nat)(t:Tr)(m:Int)(hn:(pre t).length<n+1)(hs:(pre t).length<2^40)(hm:0<=m/\ m<2^40)(hf:(pre t).length<fuel):z8h fuel n t m=some (zwh t m):=by
 have hp:(pre t).length=1+(zbe t.l).length:=by rw[zea,length_cons];omega
 have hlen:=zaw t.l;unfold z8h;have e:zwh t m=qde t.l m 1:=by obtain⟨k,s,mn,mx,l⟩:=t;rw[zwh];rfl
 rw[e];refine zaj (qde t.l m 1) ?_ rfl;have key: ∀(k i:Nat) (s:Int),i+k=t.l.length->0<=s->s+(zbe (t.l.drop i)).length<=2^41-> ∀f,k<f->zav (β:=Int×Int) (fun s1=>(bif (decide (s1.2<(length t.l:Int))) then(chk (0<=s1.2/\ s1.2<(length t.l:Int)) (zay (ix t.l s1.2) (fun x1=>(bif (decide (s1.1>m)) then(some (inr (inl (β:=Int) (s1.1)))) else(chk (-9223372036854775808<=(m-s1.1)/\ (m-s1.1)<9223372036854775808) (chk (((pre x1).length<n/\ (pre x1).length<2^40/\ 0<=(m-s1.1)/\ (m-s1.1)<2^40)) (zay (zwh x1 (m-s1.1)) (fun x2=>(chk (-9223372036854775808<=(s1.1+x2)/\ (s1.1+x2)<9223372036854775808) (chk (-9223372036854775808<=(s1.2+1)/\ (s1.2+1)<9223372036854775808) (some (inl ((s1.1+x2),(s1.2+1)))))))))))))) else(some (inr (inl (s1.1)))))) f (s,(i:Int))=some (inl (qde (t.l.drop i) m s)):=by
  intro k;induction k with
  | zero=>
   intro i s hi _ _ f hf
   match f,hf with
   | f+1,_=>
    rw[zav,List.drop_of_length_le (by omega),qde];simp only;rw[show decide ((i:Int)<(t.l.length:Int))=false by simp;omega];rfl
  | succ k ih=>
   intro i s hi hs0 hss f hf
   match f,hf with
   | f+1,hf=>
    have hil:i<t.l.length:=by omega
    rw[zav,List.drop_eq_getElem_cons hil,qde];simp only;rw[show decide ((i:Int)<(t.l.length:Int))=true by simp;omega,cond_true,zes (by omega),zay,zgu hil];rw[List.drop_eq_getElem_cons hil,zbe,length_append] at hss;have hx:=zcn (getElem_mem hil);by_cases h:s>m
    ·rw[if_pos h,show decide (s>m)=true by simpa using h];rfl
    ·rw[if_neg h,show decide (s>m)=false by simpa using h,cond_false,zes (by omega),zes (by omega),zay];have hfl:=few_le t.l[i] (m-s) (by omega);rw[zes (by omega),zes (by omega)];have:=ih (i+1) (s+zwh t.l[i] (m-s)) (by omega) (by omega) (by omega) f (by omega);simp only[Int.natCast_add,Int.natCast_one] at this;exact this
 have:=key t.l.length 0 1 (by omega) (by omega) (by rw[List.drop_zero];omega) fuel (by omega);rw[List.drop_zero] at this;exact this
theorem qer: ∀(n:Nat) (t:Tr) (m:Int),((pre t).length<n/\ (pre t).length<2^40/\ 0<=m/\ m<2^40)->Pure (ITP prog) prog 39 [.agg (Enc.cells t),.raw (.int .i64 m)] (.raw (.int .i64 (zwh t m)))
 |0,t,m,h=>absurd h.1 (not_lt_zero _)
 |n+1,t,m,h=>few8_sh ((pre t).length+1) n t m _ (fun x m hx=>qer n x m hx) (few8_eq n t m h.1 h.2.1 h.2.2 (by omega))
theorem qqi (t:Tr)(m:Int)(h:(pre t).length<2^40/\ 0<=m/\ m<2^40):Pure (ITP prog) prog 39 [.agg (Enc.cells t),.raw (.int .i64 m)] (.raw (.int .i64 (zwh t m))):=qer ((pre t).length+1) t m ⟨by omega,h⟩
def KO (t:Tr):Prop:=(∀x∈pre t,x.k<256)/\ (pre t).length<2^35
instance (t:Tr):Decidable (KO t):=inferInstanceAs (Decidable (_/\ _))
section
variable {P:Program} {ρ:Operand->AV} {U:St} {o:Oper}
theorem q_lit1 {α:Type} [Enc α] {x:α} {p:Operand} {t e:TypeId} {i:TypeInfo} {z:Value} (ho:o.op= .buildSlice t 1 #[(0,p)])(hp:ρ p= .agg (Enc.cells x))(hu:P.underlying t=some (.slice e))(hi:P.info? e=some i)(hz:i.zero=some z)(hsz:i.size=Enc.sz α)(hzs:z.cells.size=Enc.sz α)(h1:z.cells.toList.all (·.oneCell')=true)(hm:Enc.sz α<=2^24):
 qop P ρ U o=some (.list 1 (Enc.cells x++[]) .full):=by
 have hp0:=Enc.pos (α:=α);have hl:zlc P t 1 [(0,ρ p)]=some (Enc.cells x++[],e,i.size):=by
  unfold zlc;simp only[hu,hi,hz,hsz,Nat.one_mul];rw[if_neg (by decide),if_pos ⟨h1,by omega,hm,by omega⟩];simp only[zza,hp,Nat.zero_mul,zero_add,zht,cellsOf,Enc.len,length_map,List.length_range];rw[if_pos ⟨trivial,trivial,le_refl _⟩];simp[List.drop_of_length_le]
 simp only[qop,ho,zpx,map_cons,List.map_nil,hl,map_some]
theorem zvt {cs:List AV}:cellsOf (zbn n cs)=[zbn n cs]:=by unfold zbn;split<;>rfl
theorem qbi {cs:List AV}:zht (zbn n cs)=true:=by unfold zbn;split<;>rfl
end
theorem qcl {ρ:Operand->AV} {U:St} {o:Oper} {x y:Operand} {b:Nat} {tt:TypeId} {a:AV} {cs:List AV} (t:Tr)(ho:o.op= .store 77 x y)(hx:ρ x= .ptr b 259)(hy:ρ y=zbn n cs)(hb:U.boxes[b]? =some (tt,rtX t a)):
 aop prog ρ U o=some (.raw undef,{U with boxes:=U.boxes.set b (tt,rtX t (zbn n cs))}):=by
 rw[z6i t ho hx hy hb ⟨qbi,by rw[zvt];rfl⟩,zvt];rfl
def zv106:Value:= .agg (#[Value.int .i64 0]++((List.range 256).map fun _=>Value.int .i64 0).toArray++ #[Value.int .i64 0,Value.int .i64 0,Value.slice none 0 0])
theorem qdv:ziv prog 79=some zv106:=by kernel_rfl
def zc106:List AV:=cellsOf (zje zv106)
theorem z4b:zc106.length=260:=by kernel_rfl
theorem qlm:zad 3 zc106=true:=by kernel_rfl
theorem z6o {ρ:Operand->AV} {U:St} {o:Oper} (ho:o.op= .alloc 79):aop prog ρ U o=some (.ptr U.boxes.length 0,{U with boxes:=U.boxes++[(79,zc106)]}):=by
 have h:zsn prog U 79=some (.ptr U.boxes.length 0,{U with boxes:=U.boxes++[(79,zc106)]}):=by rw[zvl qdv];rfl
 simp only[aop,qop,ho,h]
theorem qhd {P:Program} {U:St} {S:List AV} {fn:Func} {k t:Nat} {a:AV} (hr:fn.results.toList=[.cell k t])(h:zlu P U t ((S[k]?).getD (.raw undef))=some a):zat P fn U S=some a:=by
 unfold zat
 rw[hr];simp only[z4z,qfn,h]
theorem qfe {n:Nat} (t:Tr)(l:List RT):zad n (rtX t (zbn l.length (Enc.cellsL l)))=true:=by
 rw[rtX];have: ∀a b:List AV,zad n a=true->zad n b=true->zad n (a++b)=true:=fun a b h1 h2=>by
  induction a with
  |nil=>exact h2
  |cons x a ih=>rw[zad,Bool.and_eq_true] at h1;rw[cons_append,zad,h1.1,ih h1.2];rfl
 exact this _ _ (zo _ _ (zrn t)) (za (zdg (Enc.cloL _)) rfl)
def ztm (fuel:Nat)(n:Nat)(t:Tr):Option Tr:=
 chk (t.k<256) (zct (τ:=List RT) (zav (β:=List RT×Int) (fun s=>(bif (decide (s.2<(length t.l:Int))) then(chk (0<=s.2/\ s.2<(length t.l:Int)) (zay (ix t.l s.2) (fun x=>(chk ((pre x).length<n/\ KO x) (chk ((length s.1+length [RT.mk x])*2096<=140737488355328) (chk (-9223372036854775808<=(s.2+1)/\ (s.2+1)<9223372036854775808) (some (inl (s.1++[RT.mk x],s.2+1))))))))) else(some (inr (inl s.1))))) fuel ([],0)) (fun j=>some (Tr.mk t.k t.s t.mn t.mx (j.map RT.t))))
theorem ent41:Ent prog 41:=enters_of Tryz.func41 (by kernel_rfl) rfl
theorem qdr (fuel:Nat)(n:Nat)(t:Tr)(r:Tr)(ih: ∀x:Tr,(pre x).length<n/\ KO x->Pure (ITP prog) prog 41 [.agg (Enc.cells x)] (.agg (Enc.cells (RT.mk x))))(h:ztm fuel n t=some r):Pure (ITP prog) prog 41 [.agg (Enc.cells (t:Tr))] (.agg (Enc.cells (RT.mk r))):=by
 obtain⟨d,hd⟩: ∃d,Tryz.f41.body=some d:=⟨_,rfl⟩;refine zjx mix Tryz.func41 hd ent41 ?_;cases hd;unfold ztm at h;obtain⟨g0,h⟩:=ze h;refine zbq (by dsimp only[zam,Tryz.f41,length_cons,length_nil,zero_add,Nat.reduceAdd,Nat.reduceSub,List.replicate,cons_append,List.nil_append]) (by dsimp only[St.empty]) ?_;refine zi (zb ?_);refine zho (a:= .ptr 0 0) (U'':=⟨[(29,(Enc.cells (t:Tr)))],[],[],0,false⟩) rfl rfl rfl rfl (by dsimp only[zaf,List.set]) rfl ?_;refine zho (a:= .ptr 1 0) (U'':=⟨[(29,(Enc.cells (t:Tr))),(79,zc106)],[],[],0,false⟩) rfl rfl rfl (z6o rfl) (by dsimp only[zaf,List.set]) rfl ?_;refine zi ?_;refine qfu (k0:=0) (id:=1) 12 (by kernel_rfl) (by kernel_rfl) ?_;refine zsz (a:= .ptr 0 0) rfl rfl rfl rfl rfl (by dsimp only[zaf,List.set]) ?_;refine zsz (a:= .raw (.int .u8 ((t.k:Nat):Int))) rfl rfl rfl rfl rfl (by dsimp only[zaf,List.set]) ?_;refine zsz (a:= .raw (.int .i64 ((t.k:Nat):Int))) rfl rfl rfl rfl (zju (by omega) rfl rfl rfl) (by dsimp only[zaf,List.set]) ?_;refine zsz (a:= .ptr 0 1) rfl rfl rfl rfl rfl (by dsimp only[zaf,List.set]) ?_;refine zsz (a:= .agg (Enc.cells (t.s:BS))) rfl rfl rfl rfl rfl (by dsimp only[zaf,List.set]) ?_;refine zor (args':=[.agg (Enc.cells (t.s:BS))]) (r:= .agg (Enc.cells (zgd t.s))) (k_words t.s) rfl rfl rfl rfl (zq (zcm (zac (Enc.clo _))) rfl) (za (zaq _ _ (zac (Enc.clo _))) rfl) (by dsimp only[zaf,List.set]) ?_;refine zsz (a:= .ptr 0 5) rfl rfl rfl rfl rfl (by dsimp only[zaf,List.set]) ?_;refine zsz (a:= .raw (.int .i64 t.mn)) rfl rfl rfl rfl rfl (by dsimp only[zaf,List.set]) ?_;refine zsz (a:= .ptr 0 6) rfl rfl rfl rfl rfl (by dsimp only[zaf,List.set]) ?_;refine zsz (a:= .raw (.int .i64 t.mx)) rfl rfl rfl rfl rfl (by dsimp only[zaf,List.set]) ?_;refine zsz (a:= .agg (rtX (.mk t.k t.s t.mn t.mx []) (.list 0 [] .full))) rfl rfl rfl rfl (by kernel_rfl) (by dsimp only[zaf,List.set]) ?_;refine qpl zv106 rfl rfl rfl rfl rfl qdv (by dsimp only[List.set]) ?_;refine z9x (n:=2) rfl (show _=(⟨[(29,(Enc.cells (t:Tr))),(79,zc106),(79,zc106)],[],[],0,false⟩:St) from rfl) (by dsimp only[List.nil_append,cons_append,zoq,List.set,Nat.reduceAdd]) ?_;refine zho (U'':=⟨[(29,(Enc.cells (t:Tr))),(79,zc106),(79,rtX (.mk t.k t.s t.mn t.mx []) (.list 0 [] .full))],[],[],0,false⟩) rfl rfl rfl (zeh (n:=260) rfl rfl rfl rfl z4x z4b rfl (zrq _ _) (by decide)) (by dsimp only[zaf,List.set]) rfl ?_;refine zal h [5,6,7,8,9,10,11,12,13,14,15,16,17,18,19,20,21,22,23,24,25,26,27,28,29,30,31] (fun _=>[]) (fun j=>(zbp [(29,(Enc.cells (t:Tr))),(79,zc106),(79,rtX (.mk t.k t.s t.mn t.mx []) (zbn (length (j:List RT)) (Enc.cellsL (j:List RT))))] 79 (length (j:List RT)) 260)) ?_ ?_
 .
  intro or1 h hr1
  refine zi (zb ?_)
  refine zow (a:= .ptr 0 7) rfl rfl rfl rfl (by dsimp only[zaf,List.set]) ?_
  refine zow (a:= .list (length (t.l:List Tr)) (Enc.cellsL (t.l:List Tr)) .none) rfl rfl rfl rfl (by dsimp only[zaf,List.set]) ?_
  refine zow (a:= .raw (.int .i64 (length t.l:Int))) rfl rfl rfl rfl (by dsimp only[zaf,List.set]) ?_
  refine zow (a:= .raw (.int .i64 0)) rfl rfl rfl rfl (by dsimp only[zaf,List.set]) ?_
  refine zt ?_
  refine zcf h [5,20,21,22,23,24,25,26,27,28,29,30,31,6,7,8,9,10,11,12,13,14,15,16,17] (fun s=>[(20,.raw (.int .i64 s.2))]) (fun s=>(zbp [(29,(Enc.cells (t:Tr))),(79,zc106),(79,rtX (.mk t.k t.s t.mn t.mx []) (zbn (length (s.1:List RT)) (Enc.cellsL (s.1:List RT))))] 79 (length (s.1:List RT)) 260)) ?_ ?_
  .
   exact zpj [true,true,true,true,true,false,false,false,false,false,false,false,false,false,false,false,false,false,true,true,true,false,false,false,false,false,false,false,false,false,false,false,true] (by kernel_rfl) (by kernel_rfl)
  .
   intro s1 p1 h
   refine zbq (by dsimp only[zau,zbo,foldl,List.set]) rfl ?_
   refine zi (zb ?_)
   refine zow (a:= .raw (.bool (decide (s1.2<(length t.l:Int))))) rfl rfl rfl rfl (by dsimp only[zaf,List.set]) ?_
   refine zi ?_
   refine zab h (fun hc1 h=> ?_) (fun hc1 h=> ?_)
   .
    refine zfl hc1 rfl ?_
    refine zi ?_
    refine zt ?_
    refine zi (zb ?_)
    obtain⟨g1,h⟩:=ze h
    obtain⟨x1,hx1,h⟩:=zh h
    refine zow (a:= .iptr (Enc.cells x1++Enc.cellsL (List.drop (toNat s1.2+1) t.l))) rfl rfl rfl (zba (by rw[<-hx1];exact(qck (α:=Tr) (l:=t.l) g1 rfl rfl rfl rfl rfl))) (by dsimp only[zaf,List.set]) ?_
    refine zow (a:= .agg (Enc.cells (x1:Tr))) rfl rfl rfl rfl (by dsimp only[zaf,List.set]) ?_
    refine zho (a:= .ptr 3 0) (U'':=(zbp [(29,(Enc.cells (t:Tr))),(79,zc106),(79,rtX (.mk t.k t.s t.mn t.mx []) (zbn (length (s1.1:List RT)) (Enc.cellsL (s1.1:List RT)))),(29,[.raw (.int .u8 0),.raw (.int .u64 0),.raw (.int .u64 0),.raw (.int .u64 0),.raw (.int .u64 0),.raw (.int .i64 0),.raw (.int .i64 0),.list 0 [] .full])] 79 (length (s1.1:List RT)) 260)) rfl rfl rfl rfl (by dsimp only[zaf,List.set]) rfl ?_
    refine zho (U'':=(zbp [(29,(Enc.cells (t:Tr))),(79,zc106),(79,rtX (.mk t.k t.s t.mn t.mx []) (zbn (length (s1.1:List RT)) (Enc.cellsL (s1.1:List RT)))),(29,(Enc.cells (x1:Tr)))] 79 (length (s1.1:List RT)) 260)) rfl rfl rfl (zeh (n:=8) rfl rfl rfl rfl rfl rfl rfl rfl (by decide)) (by dsimp only[zaf,List.set]) rfl ?_
    obtain⟨g2,h⟩:=ze h
    obtain⟨g3,h⟩:=ze h
    obtain⟨g4,h⟩:=ze h
    refine zhg (k0:=0) (id:=5) 5 (by kernel_rfl) (by kernel_rfl) ?_
    refine qkr (a:= .ptr 2 259) rfl rfl rfl rfl (by dsimp only[zaf,List.set]) ?_
    refine qkr (a:=(zbn (length (s1.1:List RT)) (Enc.cellsL (s1.1:List RT)))) rfl rfl rfl (z2x (.mk t.k t.s t.mn t.mx []) rfl rfl rfl) (by dsimp only[zaf,List.set]) ?_
    refine qkr (a:= .agg (Enc.cells (x1:Tr))) rfl rfl rfl rfl (by dsimp only[zaf,List.set]) ?_
    refine qpy (args':=[.agg (Enc.cells (x1:Tr))]) (r:= .agg (Enc.cells (RT.mk x1))) (ih x1 g2) rfl rfl rfl (zq (zcm (zac (Enc.clo _))) rfl) (za (zaq _ _ (zac (Enc.clo _))) rfl) (by dsimp only[zaf,List.set]) ?_
    refine qkr (a:= .list (length ([RT.mk x1]:List RT)) (Enc.cellsL ([RT.mk x1]:List RT)) .full) rfl rfl rfl (zhz (α:=RT) (l:=[RT.mk x1]) (cs:=Enc.cells (RT.mk x1)++[]) (q_lit1 (α:=RT) (x:=RT.mk x1) rfl rfl rfl rfl rfl rfl rfl rfl (by decide)) (by rw[Enc.cons,Enc.nil])) (by dsimp only[zaf,List.set]) ?_
    refine ziw ?_
    refine zho (a:=(zbn (length ((s1.1++[RT.mk x1]):List RT)) (Enc.cellsL ((s1.1++[RT.mk x1]):List RT)))) (U'':=(zbp [(29,(Enc.cells (t:Tr))),(79,zc106),(79,rtX (.mk t.k t.s t.mn t.mx []) (zbn (length (s1.1:List RT)) (Enc.cellsL (s1.1:List RT)))),(29,(Enc.cells (x1:Tr)))] 79 (length ((s1.1++[RT.mk x1]):List RT)) 260)) rfl rfl rfl (zkj rfl rfl rfl rfl (zfn (α:=RT) (bs:=[(29,(Enc.cells (t:Tr))),(79,zc106),(79,rtX (.mk t.k t.s t.mn t.mx []) (zbn (length (s1.1:List RT)) (Enc.cellsL (s1.1:List RT)))),(29,(Enc.cells (x1:Tr)))]) (a:=s1.1) (b:=[RT.mk x1]) g3 rfl rfl rfl rfl rfl ⟨rfl,by decide⟩)) (by dsimp only[zaf,List.set]) rfl ?_
    refine zow (a:= .ptr 2 259) rfl rfl rfl rfl (by dsimp only[zaf,List.set]) ?_
    refine zho (U'':=(zbp [(29,(Enc.cells (t:Tr))),(79,zc106),(79,rtX (.mk t.k t.s t.mn t.mx []) (zbn (length ((s1.1++[RT.mk x1]):List RT)) (Enc.cellsL ((s1.1++[RT.mk x1]):List RT)))),(29,(Enc.cells (x1:Tr)))] 79 (length ((s1.1++[RT.mk x1]):List RT)) 260)) rfl rfl rfl (qcl (.mk t.k t.s t.mn t.mx []) rfl rfl rfl rfl) (by dsimp only[zaf,List.set]) rfl ?_
    refine zb (k0:=0) (id:=6) ?_
    refine zow (a:= .raw (.int .i64 (s1.2+1))) rfl rfl rfl (zba (qnc rfl rfl rfl rfl g4.1 g4.2)) (by dsimp only[zaf,List.set]) ?_
    refine zao ?_
    refine zbb (p:=p1) ((s1.1++[RT.mk x1]),(s1.2+1)) h ?_
    exact zdj [true,true,true,true,true,false,false,false,false,false,false,false,false,false,false,false,false,false,true,true,true,false,false,false,false,false,false,false,false,false,false,false,true] 3 (by kernel_rfl) (Nat.le_of_ble_eq_true rfl) (zbs (zz (zo _ _ (Enc.clo _)) (zz qlm (zz (qfe _ _) rfl)))) (by dsimp only[zau,zbo,foldl,List.set];exact(za (zaq _ _ (zac (Enc.clo _))) (za rfl (za rfl (za rfl (za rfl (za rfl (za rfl (za rfl (za rfl (za rfl (za rfl (za rfl (za rfl (za rfl (za rfl (za rfl (za rfl (za rfl (za (zbj (Enc.cloL _)) (za rfl (za rfl (za rfl (za rfl (za rfl (za rfl (za rfl (za rfl (za rfl (za rfl (za rfl (za rfl (za rfl (za rfl rfl)))))))))))))))))))))))))))))))))) (by kernel_rfl)
   .
    refine zfp hc1 rfl ?_
    refine zy h (fun h=> ?_)
    refine zc (o:=or1) (s1.1) h ?_
    exact zpj [true,true,true,true,true,false,false,false,false,false,false,false,false,false,false,false,false,false,false,false,false,false,false,false,false,false,false,false,false,false,false,false,true] (by kernel_rfl) (by kernel_rfl)
 .
  intro j1 h
  refine zbq (by dsimp only[zau,zbo,foldl,List.set]) rfl ?_
  refine zi (zb ?_)
  refine zow (a:= .agg (rtX (.mk t.k t.s t.mn t.mx []) (zbn (length (j1:List RT)) (Enc.cellsL (j1:List RT))))) rfl rfl rfl (zba (qmu (zrq _ _) rfl rfl rfl)) (by dsimp only[zaf,List.set]) ?_
  refine zho (U'':=(zbp [(29,(Enc.cells (t:Tr))),(79,rtX (.mk t.k t.s t.mn t.mx []) (zbn (length (j1:List RT)) (Enc.cellsL (j1:List RT)))),(79,rtX (.mk t.k t.s t.mn t.mx []) (zbn (length (j1:List RT)) (Enc.cellsL (j1:List RT))))] 79 (length (j1:List RT)) 260)) rfl rfl rfl (zeh (n:=260) rfl rfl rfl rfl z4x z4b rfl (zrq _ _) (by decide)) (by dsimp only[zaf,List.set]) rfl ?_
  have hxr:=Option.some.inj h
  subst hxr
  refine z9t (a:= .agg (rtX (.mk t.k t.s t.mn t.mx []) (zbn (length (j1:List RT)) (Enc.cellsL (j1:List RT))))) (qhd rfl ?_) (by rw[zbi];exact qfe _ _) (qeh (.mk t.k t.s t.mn t.mx []) j1)
  have:=rd_rt (rtX (.mk t.k t.s t.mn t.mx []) (zbn (length (j1:List RT)) (Enc.cellsL (j1:List RT)))) [] (zrq _ _)
  rw[append_nil] at this
  exact this
theorem KO.sub {t x:Tr} (h:KO t)(hx:x∈t.l):KO x:=by
 have h1:=zcn hx;have hp:(pre t).length=1+(zbe t.l).length:=by rw[zea,length_cons];omega
 refine⟨fun y hy=>h.1 y ?_,by have:=h.2;omega⟩;rw[zea];refine List.mem_cons_of_mem _ ?_;have: ∀l:List Tr,x∈l->y∈zbe l:=fun l=>by
  induction l with
  |nil=>intro h;cases h
  | cons z l ih=>
   intro h;rw[zbe,mem_append];rcases mem_cons.1 h with rfl|h
   ·exact .inl hy
   ·exact .inr (ih h)
 exact this _ hx
theorem qjn {fuel:Nat} (n:Nat)(t:Tr)(h:KO t)(hn:(pre t).length<n+1)(hf:(pre t).length<fuel):ztm fuel n t=some t:=by
 have hp:(pre t).length=1+(zbe t.l).length:=by rw[zea,length_cons];omega
 have hlen:=zaw t.l;have h2:=h.2;unfold ztm;refine zf (h.1 t (qlb t)) (zaj (t.l.map RT.mk) ?_ ?_)
 ·refine zii t.l.length (fun i=>((t.l.take i).map RT.mk,(i:Int))) (by simp) (fun i hi=> ?_) ?_ (by omega)
  ·refine zdr (by simpa using hi) (zf (by simp only;omega) (zj fun x1 e1=> ?_));simp only at e1;rw[zgu hi] at e1;have hm:x1∈t.l:=e1▸getElem_mem hi;have hx:=zcn hm;have q:(t.l.take i).length<=t.l.length:=List.length_take_le' _ _;refine zf ⟨by omega,h.sub hm⟩ (zf (by simp only[length_map,length_cons,length_nil];omega) (zf (by simp only;omega) ?_));rw[List.take_succ_eq_append_getElem hi,List.map_append,e1];rfl
  ·refine zdh (by simp) ?_;simp
 ·have:(t.l.map RT.mk).map RT.t=t.l:=by rw[map_map];exact List.map_id _
  rw[this, <-Tr.eta]
theorem zxw: ∀(n:Nat) (t:Tr),(pre t).length<n/\ KO t->Pure (ITP prog) prog 41 [.agg (Enc.cells t)] (.agg (Enc.cells (RT.mk t)))
 |0,t,h=>absurd h.1 (not_lt_zero _)
 |n+1,t,h=>qdr ((pre t).length+1) n t _ (fun x hx=>zxw n x hx) (qjn n t h.2 h.1 (by omega))
theorem z9i (t:Tr)(h:KO t):Pure (ITP prog) prog 41 [.agg (Enc.cells t)] (.agg (Enc.cells (RT.mk t))):=zxw ((pre t).length+1) t ⟨by omega,h⟩
def rtL (r:RT):List RT:=r.t.l.map RT.mk
theorem z4v (r:RT):(rtL r).length=r.t.l.length:=by simp[rtL]
theorem qhp (r:RT):Enc.cellsL (rtL r)=qjr r.t.l:=by
 show qjr ((r.t.l.map RT.mk).map RT.t)=_;rw[map_map];congr 1;exact List.map_id _
section
variable {ρ:Operand->AV} {U:St} {o:Oper} {x:Operand} {b:Nat} {tt:TypeId}
theorem z8x (r:RT)(ho:o.op= .load 3 x)(hx:ρ x= .ptr b 0)(hb:U.boxes[b]? =some (tt,Enc.cells r)):qop prog ρ U o=some (.raw (.int .i64 ((r.t.k:Nat):Int))):=qia r.t ho hx (znr r▸hb)
theorem z8s (r:RT)(ho:o.op= .load 76 x)(hx:ρ x= .ptr b 1)(hb:U.boxes[b]? =some (tt,Enc.cells r)):qop prog ρ U o=some (.agg (Enc.cells (zgd r.t.s))):=qjl r.t ho hx (znr r▸hb)
theorem z8w (r:RT)(ho:o.op= .load 3 x)(hx:ρ x= .ptr b 257)(hb:U.boxes[b]? =some (tt,Enc.cells r)):qop prog ρ U o=some (.raw (.int .i64 r.t.mn)):=qib r.t ho hx (znr r▸hb)
theorem z9p (r:RT)(ho:o.op= .load 3 x)(hx:ρ x= .ptr b 258)(hb:U.boxes[b]? =some (tt,Enc.cells r)):qop prog ρ U o=some (.raw (.int .i64 r.t.mx)):=qfq r.t ho hx (znr r▸hb)
theorem zpa (r:RT)(ho:o.op= .load 77 x)(hx:ρ x= .ptr b 259)(hb:U.boxes[b]? =some (tt,Enc.cells r)):qop prog ρ U o=some (.list (length (rtL r)) (Enc.cellsL (rtL r)) .none):=by
 rw[z4v,qhp];exact z2x r.t ho hx (znr r▸hb)
end
theorem rs_neA {ρ:Operand->AV} {o:Oper} {x y:Operand} {c} (s t:Ar)(ho:o.op= .binOp .neq 76 x y c)(hx:ρ x= .agg (Enc.cells s))(hy:ρ y= .agg (Enc.cells t)):zpr prog ρ o (.raw (.bool (!(eqA s t)))):=by
 replace hx:ρ x= .agg ((arL s).map qqo):=hx;replace hy:ρ y= .agg ((arL t).map qqo):=hy;refine⟨?_,by rw[ho];intros;simp,by rw[ho];intros;simp,.bool (!(eqA s t)),fun w=> ?_,rfl,rfl⟩
 ·rw[ho];simp[Op.operands,hx,hy,zrl]
 ·have h1:zbw ρ x= .agg ((arL s).map (Value.int .i64)).toArray:=by simp only[zbw,hx,zrl,getD_some]
  have h2:zbw ρ y= .agg ((arL t).map (Value.int .i64)).toArray:=by simp only[zbw,hy,zrl,getD_some]
  have h3:=eqIn103 9998 (arL s) (arL t) (qge s) (qge t) w;simp[execOp,ho,h1,h2,eqGuard,binOp,Op.equal,Op.maxDepth,program,Sem.run,qou,h3,eqA]
end Go.Ab
namespace Go.Ab
open Go Go.RowKit Go.Fwd Go.Proofs
def z5r (a b:RT):Bool:=zgv a.t b.t
def ztj (fuel:Nat)(n:Nat)(a:RT)(b:RT):Option Bool:=
 (bif (((a.t.k:Nat):Int) !=((b.t.k:Nat):Int)) then(some false) else(bif (!(eqA (zgd a.t.s) (zgd b.t.s))) then(some false) else(bif (a.t.mn !=b.t.mn) then(some false) else(bif (a.t.mx !=b.t.mx) then(some false) else(bif ((length (rtL a):Int) !=(length (rtL b):Int)) then(some false) else(zct (τ:=Unit) (zav (β:=Int) (fun s1=>(bif (decide (s1<(length (rtL a):Int))) then(chk (0<=s1/\ s1<(length (rtL a):Int)) (zay (ix (rtL a) s1) (fun x1=>(chk (0<=s1/\ s1<(length (rtL b):Int)) (zay (ix (rtL b) s1) (fun x2=>(chk (((pre x1.t).length<n)) (zay (z5r x1 x2) (fun x3=>(bif (!x3) then(some (inr (inr false))) else(chk (-9223372036854775808<=(s1+1)/\ (s1+1)<9223372036854775808) (some (inl ((s1+1))))))))))))))) else(some (inr (inl ()))))) fuel (0)) (fun j1=>(some true))))))))
theorem ent40:Ent prog 40:=enters_of Tryz.func40 (by kernel_rfl) rfl
theorem qjg (fuel:Nat)(n:Nat)(a:RT)(b:RT)(r:Bool)(ih: ∀(x y:RT),((pre x.t).length<n)->Pure (ITP prog) prog 40 [.A x,.A y] (.raw (.bool (z5r x y))))(h:ztj fuel n a b=some r):Pure (ITP prog) prog 40 [.A (a:RT),.A (b:RT)] (.raw (.bool r)):=by
 unfold ztj at h;refine zbg 58 mix Tryz.func40 ent40 ?_;refine zi (zb ?_);refine zda (Enc.cells (a:RT)) ?_;refine zda (Enc.cells (b:RT)) ?_;refine w_o (a:= .b false) ?_;refine zi ?_;refine zae [.v (.ptr 0 0)] ?_;refine w_o (a:= .i ((a.t.k:Nat):Int)) (h:=zba (z8x a rfl rfl rfl)) ?_;refine w_o (a:= .ptr 1 0) ?_;refine w_o (a:= .i ((b.t.k:Nat):Int)) (h:=zba (z8x b rfl rfl rfl)) ?_;refine w_o (a:= .b (((a.t.k:Nat):Int) !=((b.t.k:Nat):Int))) ?_;refine zab h (fun hc1 h=> ?_) (fun hc1 h=> ?_);refine zap hc1 ?_;refine w_r [.p,.p,.p,.p,.p] ?_;refine w_r [.v (.b true),.m _,.p,.p,.p] ?_;refine w_r [.p,.p,.v (.b true),.m _,.p] ?_;refine w_r [.p,.p,.p,.p,.v (.b true)] ?_;refine w_r [.m _,.p,.p,.p,.p] ?_;refine w_r [.p,.p,.p,.v (.b true)] ?_;refine zdx rfl ?_;refine zae [.v (.b false)] ?_;exact zbc h;refine zap hc1 ?_;refine zan rfl rfl ?_;refine w_o (a:= .ptr 0 1) ?_;refine zan rfl rfl ?_;refine w_o (a:= .A ((zgd a.t.s):Ar)) (h:=zba (z8s a rfl rfl rfl)) ?_;refine zan rfl rfl ?_;refine w_o (a:= .ptr 1 1) ?_;refine zan rfl rfl ?_;refine w_o (a:= .A ((zgd b.t.s):Ar)) (h:=zba (z8s b rfl rfl rfl)) ?_;refine zan rfl rfl ?_;refine qbz (.b (!(eqA (zgd a.t.s) (zgd b.t.s)))) rfl rfl rfl (rs_neA (zgd a.t.s) (zgd b.t.s) rfl rfl rfl) (by dsimp only[zaf,List.set]) ?_;refine w_o (a:= .b (!(eqA (zgd a.t.s) (zgd b.t.s)))) ?_;refine zab h (fun hc2 h=> ?_) (fun hc2 h=> ?_);refine zap hc2 ?_;refine w_r [.p,.p,.p,.p,.p] ?_;refine w_r [.v (.b true),.m _,.p,.p,.p] ?_;refine w_r [.p,.p,.v (.b true),.m _,.p] ?_;refine w_r [.p,.p,.p,.p,.p] ?_;refine w_r [.p,.v (.b true)] ?_;refine zdx rfl ?_;refine zae [.v (.b false)] ?_;exact zbc h;refine zap hc2 ?_;refine zan rfl rfl ?_;refine w_o (a:= .ptr 0 257) ?_;refine zan rfl rfl ?_;refine w_o (a:= .i a.t.mn) (h:=zba (z8w a rfl rfl rfl)) ?_;refine zan rfl rfl ?_;refine w_o (a:= .ptr 1 257) ?_;refine zan rfl rfl ?_;refine w_o (a:= .i b.t.mn) (h:=zba (z8w b rfl rfl rfl)) ?_;refine w_r [.v (.b (a.t.mn !=b.t.mn)),.v (.b (a.t.mn !=b.t.mn))] ?_;refine zab h (fun hc3 h=> ?_) (fun hc3 h=> ?_);refine zap hc3 ?_;refine w_r [.p,.p,.p,.p,.p] ?_;refine w_r [.v (.b true),.m _,.p,.p,.p] ?_;refine w_r [.p,.p,.p,.p,.v (.b true)] ?_;refine zdx rfl ?_;refine zae [.v (.b false)] ?_;exact zbc h;refine zap hc3 ?_;refine zan rfl rfl ?_;refine w_o (a:= .ptr 0 258) ?_;refine zan rfl rfl ?_;refine w_o (a:= .i a.t.mx) (h:=zba (z9p a rfl rfl rfl)) ?_;refine zan rfl rfl ?_;refine w_o (a:= .ptr 1 258) ?_;refine zan rfl rfl ?_;refine w_o (a:= .i b.t.mx) (h:=zba (z9p b rfl rfl rfl)) ?_;refine w_r [.v (.b (a.t.mx !=b.t.mx)),.v (.b (a.t.mx !=b.t.mx))] ?_;refine zab h (fun hc4 h=> ?_) (fun hc4 h=> ?_);refine zap hc4 ?_;refine w_r [.p,.p,.p,.p,.p] ?_;refine w_r [.p,.p,.v (.b true)] ?_;refine zdx rfl ?_;refine zae [.v (.b false)] ?_;exact zbc h;refine zap hc4 ?_;refine zan rfl rfl ?_;refine w_o (a:= .ptr 0 259) ?_;refine zan rfl rfl ?_;refine w_o (a:= .L ((rtL a):List RT)) (h:=zba (zpa a rfl rfl rfl)) ?_;refine w_r [.v (.i (length (rtL a):Int)),.v (.ptr 1 259)] ?_;refine zan rfl rfl ?_;refine w_o (a:= .L ((rtL b):List RT)) (h:=zba (zpa b rfl rfl rfl)) ?_;refine w_r [.v (.i (length (rtL b):Int)),.v (.b ((length (rtL a):Int) !=(length (rtL b):Int))),.v (.b ((length (rtL a):Int) !=(length (rtL b):Int)))] ?_;refine zbr h (fun hc5 h=> ?_) (fun hc5 h=> ?_);refine zae [.v (.b false)] ?_;exact zbc h;refine zal h (bz 0 60 1152921504606846975) (fun j1=>[]) (fun j1=>(.B [(79,(Enc.cells (a:RT))),(79,(Enc.cells (b:RT)))])) ?_ ?_;intro or1 h hr1;refine zae [.v (.i 0)] ?_;refine zt ?_;refine zcf h (bz 0 60 1152921504606846963) (fun s1=>[(5,.i s1)]) (fun s1=>(.B [(79,(Enc.cells (a:RT))),(79,(Enc.cells (b:RT)))])) ?_ ?_;exact zaz (bl 60 44);intro s1 p1 h;refine zdf ?_;refine zi ?_;refine zae [.m _,.v (.ptr 0 259)] ?_;refine w_o (a:= .L ((rtL a):List RT)) (h:=zba (zpa a rfl rfl rfl)) ?_;refine w_r [.v (.i (length (rtL a):Int)),.v (.b (decide (s1<(length (rtL a):Int))))] ?_;refine zbr h (fun hc6 h=> ?_) (fun hc6 h=> ?_);refine zi ?_;refine zt ?_;refine zi ?_;refine zhg (k0:=0) (id:=6) 10 (by kernel_rfl) (by kernel_rfl) ?_;refine h_o (a:= .ptr 0 259) ?_;refine h_o (a:= .L ((rtL a):List RT)) (h:=zpa a rfl rfl rfl) ?_;refine zgr ?_;obtain⟨g1,h⟩:=ze h;obtain⟨x1,hx1,h⟩:=zh h;refine h_ix hx1 g1 ?_;refine h_o (a:= .A (x1:RT)) (h:=z3r x1 rfl rfl) ?_;refine h_o (a:= .ptr 1 259) ?_;refine h_o (a:= .L ((rtL b):List RT)) (h:=zpa b rfl rfl rfl) ?_;refine zgr ?_;obtain⟨g2,h⟩:=ze h;obtain⟨x2,hx2,h⟩:=zh h;refine h_ix hx2 g2 ?_;refine h_o (a:= .A (x2:RT)) (h:=z3r x2 rfl rfl) ?_;refine ziw ?_;obtain⟨g3,h⟩:=ze h;obtain⟨x3,hx3,h⟩:=zh h;refine zcp (args':=[.A (x1:RT),.A (x2:RT)]) (r:= .b x3) (by rw[<-hx3];exact(ih x1 x2 g3)) ?_;refine w_o (a:= .b (!x3)) ?_;refine zbr h (fun hc7 h=> ?_) (fun hc7 h=> ?_);refine zae [.v (.b false)] ?_;refine zy h (fun h=> ?_);replace h:=zax h hr1;exact zbc h;refine zb (k0:=0) (id:=5) ?_;refine zao ?_;obtain⟨g4,h⟩:=ze h;refine zhd g4 ?_;refine zao ?_;refine zbb (p:=p1) ((s1+1)) h ?_;exact zaz (bl 60 44);refine zy h (fun h=> ?_);refine zc (o:=or1) () h ?_;exact zaz (bl 60 0);intro j1 h;refine zdf ?_;refine zae [.v (.b true)] ?_;exact zbc h
theorem qpb (r:RT)(i:Nat)(h:i<r.t.l.length):ix (rtL r) (i:Int)=RT.mk r.t.l[i]:=by
 have h2:i<(rtL r).length:=by rw[z4v];exact h
 rw[zus h2];simp[rtL]
theorem qmq {body:Int->Option (Int ⊕ (Unit ⊕ Bool))} {n:Nat} (p:Nat->Bool)(h1: ∀i:Nat,i<n->p i=true->body (i:Int)=some (.inl ((i:Int)+1)))(h2: ∀i:Nat,i<n->p i=false->body (i:Int)=some (.inr (.inr false)))(h3:body (n:Int)=some (.inr (.inl ()))) {fuel:Nat} (hf:n<fuel):
 zav body fuel 0=some (if(List.range n).all p=true then .inl () else .inr false):=by
 have key: ∀(c i:Nat),i+c=n->(∀j,j<i->p j=true)-> ∀f,c<f->zav body f (i:Int)=some (if(List.range n).all p=true then .inl () else .inr false):=by
  intro c;induction c with
  | zero=>
   intro i hi hall f hf
   match f,hf with
   | f+1,_=>
    have:(List.range n).all p=true:=all_eq_true.2 fun j hj=>hall j (by have:=mem_range.1 hj;omega);rw[zav,this,show i=n by omega,h3];rfl
  | succ c ih=>
   intro i hi hall f hf
   match f,hf with
   | f +1,hf=>
    rw[zav];cases hp:p i with
    | false=>
     have:(List.range n).all p=false:=by
      rw[<-Bool.not_eq_true,all_eq_true];intro h;have:=h i (mem_range.2 (by omega));rw[hp] at this;cases this
     rw[h2 i (by omega) hp,this];rfl
    | true=>
     rw[h1 i (by omega) hp];have:=ih (i+1) (by omega) (fun j hj=>by
      rcases lt_or_ge j i with hlt|hge
      ·exact hall j hlt
      ·have e:j=i:=by omega
       subst e;exact hp) f (by omega)
     simp only[Int.natCast_add,Int.natCast_one] at this;exact this
 exact key n 0 (by omega) (fun j hj=>absurd hj (not_lt_zero _)) fuel hf
theorem qbq (n k:Nat)(s:BS)(mn mx:Int)(l l2:List Tr)(hn:(pre (Tr.mk k s mn mx l)).length<n+1)(hlen:l.length<2^40)(h5:l.length=l2.length): ∀(i:Nat) (hi:i<l.length) (b:Bool),zgv (l.getD i noneT) (l2.getD i noneT)=b-> ∀(r:Option (Int ⊕ (Unit ⊕ Bool))),(b=true->some (inl ((i:Int)+1))=r)->(b=false->some (inr (inr false))=r)->(chk (0<=(i:Int)/\ (i:Int)<(l.length:Int)) (zay (ix (rtL (RT.mk (.mk k s mn mx l))) (i:Int)) (fun x1=>(chk (0<=(i:Int)/\ (i:Int)<(l2.length:Int)) (zay (ix (rtL (RT.mk (.mk k s mn mx l2))) (i:Int)) (fun x2=>(chk (((pre x1.t).length<n)) (zay (zgv x1.t x2.t) (fun x3=>(bif (!x3) then(some (inr (inr false))) else(chk (-9223372036854775808<=((i:Int)+1)/\ ((i:Int)+1)<9223372036854775808) (some (inl ((i:Int)+1))))))))))))))=r:=fun i hi b hb r hr1 hr2=>by
 have hp:(pre (Tr.mk k s mn mx l)).length=1+(zbe l).length:=z6u ..;have hi2:i<l2.length:=by omega
 have hx:=zcn (getElem_mem hi);refine zf (by omega) (zj fun x1 e1=>zf (by omega) (zj fun x2 e2=> ?_));rw[show ix (rtL (RT.mk (.mk k s mn mx l))) (i:Int)=RT.mk l[i] from qpb (RT.mk (.mk k s mn mx l)) i hi] at e1;rw[show ix (rtL (RT.mk (.mk k s mn mx l2))) (i:Int)=RT.mk l2[i] from qpb (RT.mk (.mk k s mn mx l2)) i hi2] at e2;subst e1 e2;refine zf (by show(pre l[i]).length<n;omega) (zj fun x3 e3=> ?_);have e3:zgv l[i] l2[i]=x3:=e3;rw[List.getD_eq_getElem?_getD,List.getD_eq_getElem?_getD,getElem?_eq_getElem hi,getElem?_eq_getElem hi2] at hb;have hb:zgv l[i] l2[i]=b:=hb;rw[e3] at hb;subst hb;cases x3 with
 |false=>exact zdr rfl (hr2 rfl)
 |true=>exact zdh rfl (zf ⟨by omega,by omega⟩ (hr1 rfl))
theorem qhg {fuel:Nat} (n:Nat)(a b:RT)(hn:(pre a.t).length<n+1)(hs:(pre a.t).length<2^40)(hf:(pre a.t).length<fuel):ztj fuel n a b=some (z5r a b):=by
 obtain⟨⟨k,s,mn,mx,l⟩⟩:=a;obtain⟨⟨k2,s2,mn2,mx2,l2⟩⟩:=b;have hp:(pre (Tr.mk k s mn mx l)).length=1+(zbe l).length:=z6u ..;have hlen:=zaw l;simp only at hn hs hf;unfold ztj z5r;simp only[z4v,Tr.k,Tr.s,Tr.mn,Tr.mx,Tr.l];rw[qms,qjh];by_cases hk:k=k2
 ·subst hk;simp only[bne_self_eq_false,cond_false,beq_self_eq_true,Bool.true_and];by_cases hs1:s=s2
  ·subst hs1;simp only[decide_true,Bool.not_true,cond_false,Bool.true_and];by_cases h3:mn=mn2
   ·subst h3;simp only[bne_self_eq_false,cond_false,beq_self_eq_true,Bool.true_and];by_cases h4:mx=mx2
    ·subst h4;simp only[bne_self_eq_false,cond_false,beq_self_eq_true,Bool.true_and];by_cases h5:l.length=l2.length
     ·rw [show((l.length:Int) !=(l2.length:Int))=false by simp[h5],cond_false];have hall:(List.range l.length).all (fun i=>zgv (l.getD i noneT) (l2.getD i noneT))=z3f zgv l l2:=by
       cases hc:z3f zgv l l2 with
       | true=>
        have:=(ztp _ _ _).1 hc;refine all_eq_true.2 fun i hi=> ?_;have hi:=mem_range.1 hi;rw[List.getD_eq_getElem?_getD,List.getD_eq_getElem?_getD,getElem?_eq_getElem hi,getElem?_eq_getElem (show i<l2.length by omega)];exact this.2 i hi (by omega)
       | false=>
        rw[<-Bool.not_eq_true,all_eq_true];intro h;have:z3f zgv l l2=true:=(ztp _ _ _).2 ⟨h5,fun i h1 h2=>by
         have:=h i (mem_range.2 h1);rwa[List.getD_eq_getElem?_getD,List.getD_eq_getElem?_getD,getElem?_eq_getElem h1,getElem?_eq_getElem h2] at this⟩
        rw[this] at hc;cases hc
      have step:=qbq n k s mn mx l l2 hn (by omega) h5
      have h0:=qmq (n:=l.length) (fun i=>zgv (l.getD i noneT) (l2.getD i noneT)) (body:=fun s1=>(bif (decide (s1<(l.length:Int))) then(chk (0<=s1/\ s1<(l.length:Int)) (zay (ix (rtL (RT.mk (.mk k s mn mx l))) s1) (fun x1=>(chk (0<=s1/\ s1<(l2.length:Int)) (zay (ix (rtL (RT.mk (.mk k s mn mx l2))) s1) (fun x2=>(chk (((pre x1.t).length<n)) (zay (zgv x1.t x2.t) (fun x3=>(bif (!x3) then(some (inr (inr false))) else(chk (-9223372036854775808<=(s1+1)/\ (s1+1)<9223372036854775808) (some (inl (s1+1)))))))))))))) else(some (inr (inl ())))))
       (fun i hi hp=>zdr (by simp;omega) (step i hi true hp _ (fun _=>rfl) (fun h=>by cases h))) (fun i hi hp=>zdr (by simp;omega) (step i hi false hp _ (fun h=>by cases h) (fun _=>rfl))) (zdh (by simp) rfl) (fuel:=fuel) (by omega)
      rw[hall] at h0;cases hc:z3f zgv l l2 with
      | true=>
       rw[hc] at h0;rw[if_pos rfl] at h0;exact zaj () h0 rfl
      | false=>
       rw[hc] at h0;rw[if_neg Bool.false_ne_true] at h0;exact zlq false h0 rfl
     ·rw[show((l.length:Int) !=(l2.length:Int))=true by simp;omega,cond_true,qnz h5]
    ·rw[show(mx !=mx2)=true by simpa using h4,cond_true,show(mx==mx2)=false by simpa using h4];rfl
   ·rw[show(mn !=mn2)=true by simpa using h3,cond_true,show(mn==mn2)=false by simpa using h3];rfl
  ·rw[show decide (s=s2)=false by simpa using hs1];rfl
 ·rw[show((k:Int) !=(k2:Int))=true by simp;omega,cond_true,show((k:Int)==(k2:Int))=false by simp;omega];rfl
theorem z3q: ∀(n:Nat) (a b:RT),(pre a.t).length<n->(pre a.t).length<2^40->Pure (ITP prog) prog 40 [.agg (Enc.cells a),.agg (Enc.cells b)] (.raw (.bool (z5r a b)))
 |0,a,b,h,_=>absurd h (not_lt_zero _)
 |n+1,a,b,h,hs=>qjg ((pre a.t).length+1) (min n (pre a.t).length) a b _ (fun x y hx=>z3q n x y (by omega) (by omega)) (qhg _ a b (by omega) hs (by omega))
theorem k_rsame (a b:RT)(h:(pre a.t).length<2^40):Pure (ITP prog) prog 40 [.agg (Enc.cells a),.agg (Enc.cells b)] (.raw (.bool (z5r a b))):=z3q ((pre a.t).length+1) a b (by omega) h
end Go.Ab
namespace Go.Ab
open Go Go.RowKit Go.Fwd Go.Proofs
def qgd (a:Tr)(b:Tr):Option Bool:=
 (chk ((pre a).length<2^40/\ 0<=(500:Int)/\ (500:Int)<2^40) (zay (zwh a (500:Int)) (fun x1=>(bif (decide (x1<=500)) then(chk ((pre b).length<2^40/\ 0<=(500:Int)/\ (500:Int)<2^40) (zay (zwh b (500:Int)) (fun x2=>(bif (decide (x2<=500)) then(chk (KO a) (zay (RT.mk a) (fun x3=>(chk (KO b) (zay (RT.mk b) (fun x4=>(chk ((pre (x3:RT).t).length<2^40) (zay (z5r x3 x4) (fun x5=>(some x5)))))))))) else(some false))))) else(some false)))))
theorem ent14:Ent prog 14:=enters_of Tryz.func14 (by kernel_rfl) rfl
theorem qkm (a:Tr)(b:Tr)(r:Bool)(h:qgd a b=some r):Pure (ITP prog) prog 14 [.A (a:Tr),.A (b:Tr)] (.raw (.bool r)):=by
 unfold qgd at h;refine zbg 18 mix Tryz.func14 ent14 ?_;refine zi (zb ?_);refine zda (Enc.cells (a:Tr)) ?_;refine zda (Enc.cells (b:Tr)) ?_;refine w_o (a:= .b false) ?_;refine zi ?_;refine zhg (k0:=0) (id:=1) 12 (by kernel_rfl) (by kernel_rfl) ?_;refine h_o (a:= .A (a:Tr)) ?_;obtain⟨g1,h⟩:=ze h;obtain⟨x1,hx1,h⟩:=zh h;refine qcb (args':=[.A (a:Tr),.i 500]) (r:= .i x1) (by rw[<-hx1];exact(qqi a (500:Int) g1)) ?_;refine h_o (a:= .b (decide (x1<=500))) ?_;refine zab h (fun hc1 h=> ?_) (fun hc1 h=> ?_);refine h_o (a:= .b true) (h:=zhl rfl hc1) ?_;refine zhp rfl rfl ?_;refine h_o (a:= .A (b:Tr)) ?_;refine zhp rfl rfl ?_;obtain⟨g2,h⟩:=ze h;obtain⟨x2,hx2,h⟩:=zh h;refine qcb (args':=[.A (b:Tr),.i 500]) (r:= .i x2) (by rw[<-hx2];exact(qqi b (500:Int) g2)) ?_;refine zhp rfl rfl ?_;iterate 2 refine h_o (a:= .b (decide (x2<=500))) ?_
 refine zab h (fun hc2 h=> ?_) (fun hc2 h=> ?_);refine h_o (a:= .b true) (h:=zhl rfl hc2) ?_;refine zhp rfl rfl ?_;refine h_o (a:= .A (a:Tr)) ?_;refine zhp rfl rfl ?_;obtain⟨g3,h⟩:=ze h;obtain⟨x3,hx3,h⟩:=zh h;refine qcb (args':=[.A (a:Tr)]) (r:= .A (x3:RT)) (by rw[<-hx3];exact(z9i a g3)) ?_;refine zhp rfl rfl ?_;refine h_o (a:= .A (b:Tr)) ?_;refine ziw ?_;refine zan rfl rfl ?_;obtain⟨g4,h⟩:=ze h;obtain⟨x4,hx4,h⟩:=zh h;refine zcp (args':=[.A (b:Tr)]) (r:= .A (x4:RT)) (by rw[<-hx4];exact(z9i b g4)) ?_;refine zan rfl rfl ?_;obtain⟨g5,h⟩:=ze h;obtain⟨x5,hx5,h⟩:=zh h;refine zcp (args':=[.A (x3:RT),.A (x4:RT)]) (r:= .b x5) (by rw[<-hx5];exact(k_rsame x3 x4 g5)) ?_;refine w_r [.v (.b x5),.m _] ?_;exact zbc h;refine h_o (a:= .b false) (h:=zhl rfl hc2) ?_;iterate 3 refine zlz ?_
 refine ziw ?_;refine w_r [.p,.p,.v (.b false),.m _] ?_;exact zbc h;refine h_o (a:= .b false) (h:=zhl rfl hc1) ?_;iterate 3 refine zlz ?_
 refine h_o (a:= .b false) ?_;refine zgr ?_;iterate 3 refine zlz ?_
 refine ziw ?_;refine w_r [.p,.p,.v (.b false),.m _] ?_;exact zbc h
end Go.Ab
namespace Go.Ab
open Go Go.RowKit Go.Fwd
open Go.ChangeMaps (setBlock)
section
variable {IT:IterP} {P:Program} {F:Fence} {nn B:Nat} {K:Exit->Act->World->Prop} {X0:Cx} {ops:Array Oper} {E:List AV} {sg:(Nat->Bool)->St} {Mi:MI} {i:Nat} {o:Oper} {x:AV}
theorem qkn (hIT:ITMono IT)(hF:FenceOk F P) {t kt et d t' j':Nat} (hg:o.guard=none)(hop:o.op= .range t (.tmp t'))(hd:o.dst=some d)(ho:ops[i]? =some o)(hu:P.underlying t=some (.map kt et))(hi:Mi.om≠i)(hm:Mi.it=[(i,d)])(hm':(j',t',true)∈Mi.mvs)(hj:zbv ops j'=some t')(hmv: ∀p∈Mi.mvs,p.1≠i/\ p.2.1≠d)(hin: ∀q∈Mi.ins,q.1≠i/\ q.2.2≠d)(htm:d<E.length)(hsg: ∀d,sg (zko d i)=sg d):
 qdf IT P F nn B K X0 ops E sg (MpOk ops Mi X0.w.heap.size) i o .top:=by
 refine⟨hg,fun d' S' X a next hs hd' hkk hbe hwt hwr hr hsz hn hΦ hK=> ?_⟩;have up: ∀j,j≠i->zko d' i j=d' j:=fun j hj=>zbf hj;have up': ∀j,d' j=true->zko d' i j=true:=fun j hj=>by
  by_cases e:j=i
  ·subst e;rw[hd'] at hj;cases hj
  ·rw[up j e];exact hj
 have hj':d' j'=true:=hwr j' t' hj (by simp only[zia,ho,hop];exact mem_append.2 (.inl (zgs (by simp[Op.operands]))));obtain⟨hom,hall⟩:=hΦ.mvs _ hm' hj';obtain⟨m,es,c,k1,k2,k3,k4,k5⟩:=hΦ.map hom;have e1:a.eval (.tmp t')= .map (some m):=k3 _ hm' hj';unfold Oper.wpIn;refine⟨fun f _=>hF.fn f,?_⟩;rw[Oper.semAt_plain F _ _ (by intro c hc;rw[hop] at hc;cases hc)];have r1:(execOp a.eval o).run P X.w= .ok (.value (.pointer (some ⟨X.w.heap.size,0,none⟩))) (X.w.alloc (.mapIter (some m) c #[] c)):=by
  simp only[execOp,hop,e1,Sem.run_bind,run_range_map X.w t kt et m es c hu k2];rfl
 rw[r1];have n1:=zti hIT hs hn (zxf X.w (.mapIter (some m) c #[] c) rfl);have n2:=zcb (P:=P) (M:=none) trivial hIT n1 (Ext.refl _) n1.inv ⟨rfl,rfl⟩ o.dst (x:= .top) (v:= .pointer (some ⟨X.w.heap.size,0,none⟩)) (by rw[Rep];trivial);refine hK _ _ (by rw[hsg];exact n2) ?_;have ne: ∀t1,t1≠d->(a.put o.dst (.pointer (some ⟨X.w.heap.size,0,none⟩))).eval (.tmp t1)=a.eval (.tmp t1):=fun t1 h=>zex _ _ _ _ (by rw[hd];intro e;exact h (Option.some.inj e).symm);have old: ∀(k:Nat) (ob:Obj),X.w.heap[k]? =some ob->(X.w.alloc (.mapIter (some m) c #[] c)).heap[k]? =some ob:=fun k ob h=>(Below.heap_alloc _ _ _ (Array.getElem?_eq_some_iff.1 h).1).trans h;refine⟨fun q hq hqd=> ?_,fun p hp hpd=> ?_,fun p hp hpd=>⟨up' _ hom,fun q hq=>up' _ (hall rfl q hq)⟩,fun _=>⟨m,es,c,k1,old _ _ k2,fun p hp hpd=> ?_,⟨k4.born,k4.nd,fun e he=> ?_,fun q hq hqd=> ?_⟩,fun p hp hpd=> ?_⟩⟩
 ·rw[up _ (hin q hq).1] at hqd;exact⟨up' _ hom,fun j hj=>up' _ ((hΦ.ins q hq hqd).2 j hj)⟩
 ·rw[up _ (hmv p hp).1] at hpd;exact⟨up' _ hom,fun hf q hq=>up' _ ((hΦ.mvs p hp hpd).2 hf q hq)⟩
 ·rw[up _ (hmv p hp).1] at hpd;rw[ne _ (hmv p hp).2];exact k3 p hp hpd
 ·obtain⟨q,hq,q1,q2,q3⟩:=k4.of e he;exact⟨q,hq,up' _ q1,q2,by rw[ne _ (hin q hq).2];exact q3⟩
 ·rw[up _ (hin q hq).1] at hqd;exact k4.all q hq hqd
 ·rw[hm,List.mem_singleton] at hp;subst hp;refine⟨X.w.heap.size,hs,zfk _ _ _ rfl,?_⟩;rw[hd];have hl:d<a.tmps.size:=by omega
  simp[Act.put,Act.eval,hl]
end
theorem qkq {a:Act} {t:Nat} {v:Value} (h:a.eval (.tmp t)=v)(hl:t<a.tmps.size):a.put (some t) v=a:=by
 have h1:a.tmps[t]=v:=by
  have:=h;simpa[Act.eval,hl] using this
 show({a with tmps:=a.tmps.setIfInBounds t v}:Act)=a
 have:a.tmps.setIfInBounds t v=a.tmps:=by
  rw[<-h1];apply Array.ext_getElem?;intro j;by_cases e:t=j
  ·subst e;simp[hl]
  ·rw[Array.getElem?_setIfInBounds_ne e]
 rw[this]
theorem z3v {P:Program} {F:Fence} (hF:FenceOk F P) {nn:Nat} {ops:Array Oper} {Q:Exit->Act->World->Prop} {o:Oper} {l:List Oper} {a:Act} {w w':World} {v:Value} (hg:o.guard=none)(hdf: ∀c,o.op≠ .defer c)(hrun:(execOp a.eval o).run P w= .ok (.value v) w')(h:wpListIn F nn P ops Q l (a.put o.dst v) w'):wpListIn F nn P ops Q (o::l) a w:=by
 simp only[wpListIn];rw[if_pos (by simp[Region.wanted,hg])];unfold Oper.wpIn;refine⟨fun f _=>hF.fn f,?_⟩;rw[Oper.semAt_plain F _ _ hdf,hrun];exact h
set_option maxHeartbeats 1000000 in
theorem qjm {P:Program} (hmix:P.follows .mixedOrders=true) {id1 id2 id3 id4 id5:Nat} {ops ops5:Array Oper} {nx ex en:Oper} {rest:Code} {l5:List Oper} {S E vs:List AV} {SL:Nat->List AV} {U σL:St} {sg:(Nat->Bool)->St} (Mi:MI) {it d69 d70 d71 ri:Nat} (ms:List Bool)
 (hall: ∀ {F:Fence} {nn B:Nat} {K:Exit->Act->World->Prop} {X0:Cx},FenceOk F P->qjt (ITP P) P F nn B K X0 ops E sg (MpOk ops Mi X0.w.heap.size) 0 ops.toList vs)
 (hE:zhs ops.toList vs S=E) (hfl:(floB ops S.length&&z1s ops)=true) (hσ:sg (fun j=>Nat.ble ops.size j)=U) (hσ':sg (fun _=>true)=σL) (hb:bndB Mi ops.size=true)
 (hit:Mi.it=[(ri,it)]) (hSL: ∀r,fgM ms (E.set it (.raw (.pointer (some ⟨r,0,none⟩))))=SL r)
 (hnx:nx.op= .next (.tmp it) false/\ nx.dst=some d69/\ nx.guard=none) (hex:ex.op= .extract (.tmp d69) 0/\ ex.dst=some d70/\ ex.guard=none) (hen:en.op= .entry (.tmp it)/\ en.dst=some d71/\ en.guard=none) (h5:ops5.toList=en::l5)
 (h69: ∀r,(SL r).set d69 .top=SL r) (h70: ∀r,(SL r).set d70 .top=SL r) (hne:it≠d69/\ it≠d70/\ it≠d71/\ d69≠d70/\ it<E.length/\ d69<E.length/\ d70<E.length/\ d71<E.length) (hgt: ∀r,(SL r)[it]? =some (.raw (.pointer (some ⟨r,0,none⟩)))) (hl: ∀r,(SL r).length=E.length) (hnr:zco rest=true)
 (hbody: ∀(r:Nat) (q:Nat×Value×Nat),q∈Mi.ins->zca (ITP P) P none ops5 (fun S2 U2=>awp (ITP P) P none σL.boxes.length rest (fun e S3 U3=>e= .normal/\ Wk σL.boxes.length S3 U3 (SL r) σL) S2 U2) l5 ((SL r).set d71 (.tup [.raw q.2.1,E[q.2.2]?.getD (.raw undef)])) σL)
 {S':List AV} (hS': ∀r,Fg (SL r) S'):
 qke (ITP P) P (.seq (.region id1 ops true) (.block id2 (.loop (.seq (.region id3 #[nx,ex] false) (.seq (.cond (.tmp d70) .skip (.exit id2)) (.block id4 (.seq (.region id5 ops5 false) rest))))))) S U S' σL:=by
 have hIT:=zg P;intro F nn B X0 X a hF hI0 hn hfe;rw[Bool.and_eq_true] at hfl;have hG:zuo P B none:=trivial;refine wpIn_seq ?_
 have KK: ∀(X:Cx) (a:Act),Now (ITP P) none F B X0 E σL X a->MpOk ops Mi X0.w.heap.size (fun _=>true) a X.w->
  (Code.block id2 (.loop (.seq (.region id3 #[nx,ex] false) (.seq (.cond (.tmp d70) .skip (.exit id2)) (.block id4 (.seq (.region id5 ops5 false) rest)))))).wpIn F nn P (fun e a' w'=>e= .normal/\ ∃X',X'.w=w'/\ Now (ITP P) none F B X0 S' σL X' a') a X.w:=by
  intro X a hn hΦ;obtain⟨m,es,c,k1,k2,k3,k4,k5⟩:=hΦ.map rfl;obtain⟨r,r1,r2,r3⟩:=k5 (ri,it) (by rw[hit];exact List.mem_singleton.2 rfl) rfl;refine wpIn_block ?_;refine wpIn_loop_rounds ((leftOf es #[]).size+1) ?_;have hsz: ∀ {X0 X:Cx} {S:List AV} {U:St} {a:Act},Now (ITP P) none F B X0 S U X a->a.tmps.size=S.length:=fun hn=>by
   have:=zp hn.reps;simpa using this.symm
  have key: ∀(n:Nat) (seen:Array Nat) (c0:Nat) (X:Cx) (a:Act),(leftOf es seen).size<=n->c<=c0->Now (ITP P) none F B X0 (SL r) σL X a->X.w.heap[m]? =some (.map es c)->X.w.heap[r]? =some (.mapIter (some m) c seen c0)->(∀e∈es.toList,∃q∈Mi.ins,e.key=q.2.1/\ Rep (ITP P) X (E[q.2.2]?.getD (.raw undef)) e.val)->
   Code.roundsIn F nn P (.seq (.region id3 #[nx,ex] false) (.seq (.cond (.tmp d70) .skip (.exit id2)) (.block id4 (.seq (.region id5 ops5 false) rest)))) (Exit.inBlock id2 fun e a' w'=>e= .normal/\ ∃X',X'.w=w'/\ Now (ITP P) none F B X0 S' σL X' a') (n+1) a X.w:=by
   intro n;induction n using Nat.strongRecOn with
   |_ n ih=>
   intro seen c0 X a hle hc hn hm hr hes;rw[roundsIn_succ];refine wpIn_seq (wpIn_region_list ?_);show wpListIn F nn P #[nx,ex] _ [nx,ex] a X.w;have hszl:=hsz hn;rw[hl] at hszl;have eit:a.eval (.tmp it)= .pointer (some ⟨r,0,none⟩):=by
    have:=zdo hn.reps (.tmp it);rw[show zby (SL r) (.tmp it)= .raw (.pointer (some ⟨r,0,none⟩)) by simp[zby,hgt r],Rep] at this;exact this
   have ex_run: ∀(a1:Act) (w1:World) (t:Array Value) (b:Bool),a1.eval (.tmp d69)= .tuple t->t[0]? =some (.bool b)->(execOp a1.eval ex).run P w1= .ok (.value (.bool b)) w1:=fun a1 w1 t b h1 h2=>by
    simp[execOp,hex.1,h1,Instr.extract,h2]
   have put2: ∀ {X:Cx} {a:Act} (u v:Value),Now (ITP P) none F B X0 (SL r) σL X a->Now (ITP P) none F B X0 (SL r) σL X ((a.put nx.dst u).put ex.dst v):=fun {X a} u v hn=>by
    have n1:=zcb (P:=P) hG hIT hn (Ext.refl X) hn.inv ⟨rfl,rfl⟩ nx.dst (x:= .top) (v:=u) (by rw[Rep];trivial);rw[hnx.2.1] at n1;rw[show zaf (SL r) (some d69) .top=SL r from h69 r] at n1;have n2:=zcb (P:=P) hG hIT n1 (Ext.refl X) n1.inv ⟨rfl,rfl⟩ ex.dst (x:= .top) (v:=v) (by rw[Rep];trivial);rw[hex.2.1] at n2;rw[show zaf (SL r) (some d70) .top=SL r from h70 r] at n2;rw[hnx.2.1,hex.2.1];exact n2
   have ev69: ∀u:Value,(a.put nx.dst u).eval (.tmp d69)=u:=fun u=>by
    rw[hnx.2.1];have hl:d69<a.tmps.size:=by omega
    simp[Act.put,Act.eval,hl]
   have ev70: ∀u v:Value,((a.put nx.dst u).put ex.dst v).eval (.tmp d70)=v:=fun u v=>by
    rw[hex.2.1,hnx.2.1];have hl:d70<a.tmps.size:=by omega
    simp[Act.put,Act.eval,hl]
   rcases run_next_at (P:=P) X.w nx.type r m c c0 seen es c hr hm k4.born hc with⟨h0,hrun⟩|⟨e,he,w1,hw1,hrun⟩
   ·refine z3v hF hnx.2.2 (by intro c hc;rw[hnx.1] at hc;cases hc) (v:= .tuple #[.bool false]) (w':=X.w) (by simp[execOp,hnx.1,eit,hrun]) ?_;refine z3v hF hex.2.2 (by intro c hc;rw[hex.1] at hc;cases hc) (ex_run _ X.w _ false (ev69 _) rfl) ?_
    show(Code.seq _ _).wpIn F nn P _ _ _
    refine wpIn_seq (wpIn_cond_false (ev70 _ _) (wpIn_exit ?_));have n2:=put2 (.tuple #[.bool false]) (.bool false) hn;have:(if id2=id2 then Exit.normal else Exit.exit id2)=Exit.normal:=if_pos rfl;simp only[Exit.then,Exit.inBlock,this]
    first
     |exact⟨rfl,X,rfl,{n2 with reps:=zin (hS' r) n2.reps}⟩
     |(simp;exact⟨X,rfl,{n2 with reps:=zin (hS' r) n2.reps}⟩)
   ·have hne0: ∃n',n=n'+1:=by
     cases n with
     | zero=>
      have h1:=List.length_pos_of_mem he;simp at h1;omega
     |succ n'=>exact⟨n',rfl⟩
    obtain⟨n',rfl⟩:=hne0;have n0:Now (ITP P) none F B X0 (SL r) σL {X with w:=w1} a/\ w1.heap=X.w.heap/\ Ext X {X with w:=w1}:=by
     rcases hw1 with rfl|rfl
     ·exact⟨hn,rfl,Ext.refl X⟩
     ·obtain⟨hEx,hI⟩:=znt hIT hn.inv;exact⟨⟨Ext.trans hn.ext hEx,hI,zas hIT hEx _ _ hn.reps,hn.marks.ext hEx hn.inv,trivial⟩,rfl,hEx⟩
    obtain⟨n0,hw,hE1⟩:=n0;have hr1:w1.heap[r]? =some (.mapIter (some m) c seen c0):=by rw[hw];exact hr
    have hsd:=z7x (.mapIter (some m) c (seen.push e.born) c) hr1 rfl (fun _ h=>by cases h);have n1:=zti hIT r1 n0 hsd;have hmr:m≠r:=fun e=>by rw[e,hr] at hm;cases hm
    have hm2:(setBlock w1 r (.mapIter (some m) c (seen.push e.born) c)).heap[m]? =some (.map es c):=(hsd.same m (by rw[hw];exact(Array.getElem?_eq_some_iff.1 hm).1) hmr).trans (by rw[hw];exact hm);have hrl:r<w1.heap.size:=(Array.getElem?_eq_some_iff.1 hr1).1;have hr2:(setBlock w1 r (.mapIter (some m) c (seen.push e.born) c)).heap[r]? =some (.mapIter (some m) c (seen.push e.born) c):=by simp[setBlock,hrl]
    obtain⟨he1,he2⟩:=mem_left he;obtain⟨q,hq,hkey,hval⟩:=hes e he1;refine z3v hF hnx.2.2 (by intro c hc;rw[hnx.1] at hc;cases hc) (v:= .tuple #[.bool true,e.key,e.val]) (w':=setBlock w1 r (.mapIter (some m) c (seen.push e.born) c)) (by simp[execOp,hnx.1,eit,hrun]) ?_;refine z3v hF hex.2.2 (by intro c hc;rw[hex.1] at hc;cases hc) (ex_run _ _ _ true (ev69 _) rfl) ?_
    show(Code.seq _ _).wpIn F nn P _ _ _
    refine wpIn_seq (wpIn_cond_true (ev70 _ _) (wpIn_skip ?_));have n2:=put2 (.tuple #[.bool true,e.key,e.val]) (.bool true) n1;obtain⟨a2,ha2⟩: ∃a2,a2=(a.put nx.dst (.tuple #[.bool true,e.key,e.val])).put ex.dst (.bool true):=⟨_,rfl⟩;rw[<-ha2] at n2;rw[<-ha2];obtain⟨X2,hX2⟩: ∃X2:Cx,X2={X with w:=setBlock w1 r (.mapIter (some m) c (seen.push e.born) c)}:=⟨_,rfl⟩;have hsub:Sub X X2:=by rw[hX2];exact Sub.trans hE1.toSub (z0l n0.inv hsd)
    have n2':Now (ITP P) none F B X0 (SL r) σL X2 a2:=by rw[hX2];exact n2
    show(Code.block id4 _).wpIn F nn P _ a2 (setBlock w1 r (.mapIter (some m) c (seen.push e.born) c))
    rw[show setBlock w1 r (.mapIter (some m) c (seen.push e.born) c)=X2.w by rw[hX2]];rw[show setBlock w1 r (.mapIter (some m) c (seen.push e.born) c)=X2.w by rw[hX2]] at hm2 hr2;refine wpIn_block (wpIn_seq (wpIn_region_list ?_));rw[h5];have eit2:a2.eval (.tmp it)= .pointer (some ⟨r,0,none⟩):=by
     have:=zdo n2'.reps (.tmp it);rw[show zby (SL r) (.tmp it)= .raw (.pointer (some ⟨r,0,none⟩)) by simp[zby,hgt r],Rep] at this;exact this
    refine z3v hF hen.2.2 (by intro c hc;rw[hen.1] at hc;cases hc) (v:= .tuple #[e.key,e.val]) (w':=X2.w) (by simp[execOp,hen.1,eit2,run_entry_at X2.w r m c seen es c e hr2 hm2 he1 k4.nd]) ?_;have rq:Rep (ITP P) X2 (.tup [.raw q.2.1,E[q.2.2]?.getD (.raw undef)]) (.tuple #[e.key,e.val]):=by
     rw[Rep];refine⟨[e.key,e.val],rfl,e.key,[e.val],rfl,?_,e.val,[],rfl,zmj hIT hsub _ _ hval,rfl⟩;rw[Rep];exact hkey
    have n3:=zcb (P:=P) hG hIT n2' (Ext.refl X2) n2'.inv ⟨rfl,rfl⟩ en.dst rq;rw[hen.2.1] at n3;have n4:=n3.from
    have hκ:X2.κ.length<=σL.boxes.length:=by rw[n2'.inv.κlen];exact le_refl _
    have hB2:B<=X2.w.heap.size:=Nat.le_trans hI0.1 (Ext.size n2'.ext);rw[hen.2.1];refine zgw (M:=none) hIT hF hG (X0:=X2) (Q:=fun S2 U2=>awp (ITP P) P none σL.boxes.length rest (fun e S3 U3=>e= .normal/\ Wk σL.boxes.length S3 U3 (SL r) σL) S2 U2) ?_ l5 _ _ _ _ (hbody r q hq) n4;intro S2 U2 X3 a3 hawp n5;refine zwc hmix rest (M:=none) hG hF σL.boxes.length _ S2 U2 X2 X3 a3 _ hκ ⟨hB2,_,n2'.inv⟩ hawp n5 (.inr hnr) ?_;rintro e3 S3 U3 X4 a4 ⟨rfl,hwk⟩ n6;obtain⟨X5,hw5,n7⟩:=z2s hIT hκ hwk n6;show Code.roundsIn F nn P _ _ (n'+1) a4 X4.w;rw[<-hw5];have hE5:Ext X2 X5:=n7.ext;refine ih n' (by omega) (seen.push e.born) c X5 a4 (by have:=left_shrinks es seen e he;omega) (le_refl _) (n2'.back n7) (hE5.noncells n2'.inv hm2 rfl) (hE5.noncells n2'.inv hr2 rfl) fun e' he'=> ?_;obtain⟨q',hq',y1,y2⟩:=hes e' he';exact⟨q',hq',y1,zfj hIT hE5 _ _ (zmj hIT hsub _ _ y2)⟩
  have hszE:=hsz hn;have hn':Now (ITP P) none F B X0 (SL r) σL X a:=by
   have rp:znw (ITP P) X (E.set it (.raw (.pointer (some ⟨r,0,none⟩)))) a.tmps:=by
    have:=zqa (IT:=ITP P) (X:=X) hn.reps (some it) (x:= .raw (.pointer (some ⟨r,0,none⟩))) (v:= .pointer (some ⟨r,0,none⟩)) (by rw[Rep]);rw[qkq r3 (by rw[hszE];exact hne.2.2.2.2.1)] at this;exact this
   exact {hn with reps:=zin (by rw[<-hSL r];exact zqb ms _) rp}
  refine key _ #[] c X a (le_refl _) (le_refl _) hn' k2 r2 fun e he=> ?_;obtain⟨q,hq,q1,q2,q3⟩:=k4.of e he;exact⟨q,hq,q2,by rw[q3];exact zdo hn.reps (.tmp q.2.2)⟩
 obtain⟨hll,hat⟩:=zyy _ _ _ (hall (nn:=nn) (B:=B) (K:=Exit.then (fun a w=>(Code.block id2 (.loop (.seq (.region id3 #[nx,ex] false) (.seq (.cond (.tmp d70) .skip (.exit id2)) (.block id4 (.seq (.region id5 ops5 false) rest)))))).wpIn F nn P (fun e a' w'=>e= .normal/\ ∃X',X'.w=w'/\ Now (ITP P) none F B X0 S' σL X' a') a w) (fun e a' w'=>e= .normal/\ ∃X',X'.w=w'/\ Now (ITP P) none F B X0 S' σL X' a')) (X0:=X0) hF);refine qgg hIT hF hmix (MpOk ops Mi X0.w.heap.size) hE hll hfl.1 hfl.2 hσ (z7y hb) hn (fun i o x ho hx=> ?_) fun X a hn hΦ=>KK X a (hσ'▸hn) hΦ;have:=hat i o x (by rw[<-ho,Array.getElem?_toList]) hx (by rw[zero_add];exact ho);rw[zero_add] at this;exact this
end Go.Ab
namespace Go.Ab
open Go Go.RowKit Go.Fwd Go.Proofs
structure Ct where
 f:Nat
 args:List AV
 r:AV
def CtOk (c:Ct):Prop:=Pure (ITP prog) prog c.f c.args c.r
def tbl (T:List Ct):CallP:=fun f args=>match T.find? (fun c=>c.f==f&&zom c.args args) with
 |some c=>some c.r
 |none=>none
theorem zjk {T:List Ct} (h: ∀c∈T,CtOk c):Good prog (tbl T) noS:=⟨mix,ents,(fun f args r e=>by
 unfold tbl at e;split at e
 ·rename_i c hc;cases e;have h1:=List.find?_some hc;simp only[Bool.and_eq_true,beq_iff_eq] at h1;have h2:=h c (List.mem_of_find?_eq_some hc);rw[CtOk,h1.1,zgo _ _ h1.2] at h2;exact h2
 ·cases e),(fun _ _ _ _ _ h=>nomatch h)⟩
def avT (t:Tr):AV:= .agg (Enc.cells t)
def avG (t:Rg):AV:= .agg (Enc.cells t)
def avZ (l:List UInt8):AV:= .raw (.string (bs l))
def avI (n:Int):AV:= .raw (.int .i64 n)
section
variable {H:Bool} {P:Program} {Ω:CallP} {Ψ:CallS}
def sufC:Nat->Code->Code
 |0,c=>c
 |n+1,.seq _ y=>sufC n y
 |_+1,c=>c
def qgb (run:Run):Nat->Code->List AV->St->Option (List AV×St)
 |0,_,S,U=>some (S,U)
 | n+1,.seq x y,S,U=>match run x S.length S U with
  |some (.normal,S1,U1)=>qgb run n y S1 U1
  |_=>none
 |_+1,_,_,_=>none
theorem w_pre (hG:Good P Ω Ψ) {k k0:Nat} {Q:AQ} {S':List AV} {U':St}: ∀(n:Nat) (c:Code) (S:List AV) (U:St) (S1:List AV) (U1:St),qgb (evQ H P Ω Ψ k) (n+1) c S U=some (S1,U1)->Wk k0 S1 U1 S' U'->awp (ITP P) P none k0 (sufC (n+1) c) Q S' U'->awp (ITP P) P none k0 c Q S U
 | n,.seq x y,S,U,S1,U1,h,hw,hk=>by
  rw[qgb] at h;split at h
  ·rename_i S2 U2 h2;obtain⟨hl,h3⟩:=zub (H:=H) hG k _ _ _ _ _ _ _ h2 rfl;refine .inl (zdk (h3 _ ?_));cases n with
   | zero=>
    rw[qgb] at h;cases h;exact⟨S',U',hw,hk⟩
   |succ n=>exact⟨S2,U2,Wk.refl _ _ _,w_pre hG n y S2 U2 S1 U1 h hw hk⟩
  ·cases h
 |_,.skip,_,_,_,_,h,_,_=>by cases h
 |_,.cond _ _ _,_,_,_,_,h,_,_=>by cases h
 |_,.block _ _,_,_,_,_,h,_,_=>by cases h
 |_,.loop _,_,_,_,_,h,_,_=>by cases h
 |_,.exit _,_,_,_,_,h,_,_=>by cases h
 |_,.ret,_,_,_,_,h,_,_=>by cases h
 |_,.label _,_,_,_,_,h,_,_=>by cases h
 |_,.scope _,_,_,_,_,h,_,_=>by cases h
 |_,.region _ _ _,_,_,_,_,h,_,_=>by cases h
 |_,.rangeFunc _ _ _ _,_,_,_,_,h,_,_=>by cases h
 |_,.goto _,_,_,_,_,h,_,_=>by cases h
 |_,.refuse _,_,_,_,_,h,_,_=>by cases h
def qqg:Option AV->Bool
 |some (.raw (.bool true))=>true
 |_=>false
def tailB (run:Run)(P:Program)(fn:Func)(c:Code)(S:List AV)(U:St):Bool:=match run c S.length S U with
 |some (.ret,S1,U1)=>qqg (zat P fn U1 S1)
 |_=>false
theorem w_tail (hG:Good P Ω Ψ) {k k0:Nat} {fn:Func} {c:Code} {S:List AV} {U:St} (h:tailB (evQ H P Ω Ψ k) P fn c S U=true):awp (ITP P) P none k0 c (zwi P fn (.raw (.bool true))) S U:=by
 unfold tailB at h;split at h
 ·rename_i S1 U1 h1;obtain⟨_,h2⟩:=zub (H:=H) hG k _ _ _ _ _ _ _ h1 rfl;refine zdk (h2 _ ?_);unfold qqg at h;split at h
  ·rename_i h3;exact zbc (y:=true) rfl h3
  ·cases h
 ·cases h
def qpx (run:Run)(cp:CallP)(cs:CallS)(P:Program)(Ψ:CallS)(ops:Array Oper)(l:List Oper)(rest:Code)(n:Nat)(ms:List Bool)(S:List AV)(U:St):Option (List AV×St):=match zpc P Ψ cp cs ops l S U with
 | some (S1,U1)=>match run rest S1.length S1 U1 with
  |some (.normal,S2,U2)=>if z0z n U2=true/\ zad n (fgM ms S2)=true then some (fgM ms S2,zfi n U2) else none
  |_=>none
 |none=>none
theorem znh (hG:Good P Ω Ψ) {k n:Nat} {ops:Array Oper} {l:List Oper} {rest:Code} {ms:List Bool} {S S':List AV} {U U':St} (h:qpx (evQ H P Ω Ψ k) (zlo P Ω (evQ H P Ω Ψ k)) (zsi P Ψ (evQ H P Ω Ψ k)) P Ψ ops l rest n ms S U=some (S',U')):
 zca (ITP P) P none ops (fun S2 U2=>awp (ITP P) P none n rest (fun e S3 U3=>e= .normal/\ Wk n S3 U3 S' U') S2 U2) l S U:=by
 unfold qpx at h;split at h
 ·rename_i S1 U1 h1;split at h
  ·rename_i S2 U2 h2;split at h
   ·rename_i hc;cases h;obtain⟨_,h3⟩:=zfx hG.oracleS (zuh hG (zub (H:=H) hG k)) (z1v hG (zub (H:=H) hG k)) l _ _ _ _ h1;obtain⟨_,h4⟩:=zub (H:=H) hG k _ _ _ _ _ _ _ h2 rfl;exact h3 _ (zdk (h4 _ ⟨rfl,zdj ms n rfl (le_refl _) hc.1 hc.2 rfl⟩))
   ·cases h
  ·cases h
 ·cases h
end
def clT (s:BS):Tr:= .mk 2 s 0 0 []
def bS (n:Nat):BS:=1#256<<<n
def z5a:Tr:= .mk 5 0#256 0 (-1) [clT (bS 98)]
def twoT:Tr:= .mk 5 0#256 2 3 [clT (bS 99)]
def emT:Tr:= .mk 1 0#256 0 0 []
def abcU:BS:=bS 97|||bS 98|||bS 99
def qmd:Tr:=clT (~~~ abcU)
def digU:BS:=digS|||bS 95
def eS0:List UInt8:=[97,124,98,42,99]
def eG0:Rg:=Rg.mk false false (.mk 4 0#256 0 0 [clT (bS 97),.mk 3 0#256 0 0 [z5a,clT (bS 99)]])
def eS1:List UInt8:=[94,97,98,36]
def eG1:Rg:=Rg.mk true true (.mk 3 0#256 0 0 [clT (bS 97),clT (bS 98)])
def eS2:List UInt8:=[40,97,41,40,63,58,98,124,41,99,123,50,44,51,125]
def eG2:Rg:=Rg.mk false false (.mk 3 0#256 0 0 [.mk 6 0#256 0 0 [clT (bS 97)],.mk 4 0#256 0 0 [clT (bS 98),emT],twoT])
def eS3:List UInt8:=[91,94,97,45,99,93]
def eG3:Rg:=Rg.mk false false qmd
def eS4:List UInt8:=[91,92,100,95,93]
def eG4:Rg:=Rg.mk false false (clT digU)
def eS5:List UInt8:=[97,123,49,125]
def eG5:Rg:=Rg.mk false false (clT (bS 97))
def exL:List (List UInt8×Rg):=[(eS0,eG0),(eS1,eG1),(eS2,eG2),(eS3,eG3),(eS4,eG4),(eS5,eG5)]
def erL:List (List UInt8×Int×Int):=[([97,42,42],2,92),([42,97],0,92),([40,97],0,91),([97,41],1,91),([97,94],1,95),([97,36,98],1,95),([91,93],1,94),([91,98,45,97,93],2,94),([97,123,48,125],1,93),([97,123,51,44,50,125],1,93),([97,123,120],2,93),([97,93],1,90),([92,113],0,90)]
def tblR:List Ct:=(exL.map fun p=>⟨12,[avZ p.1],.tup [avG p.2,avI (p.1.length:Int),avI 0]⟩)++(exL.map fun p=>⟨14,[avT p.2.t,avT p.2.t],.raw (.bool true)⟩)++erL.map fun p=>⟨12,[avZ p.1],.tup [avG (Rg.mk false false noneT),avI p.2.1,avI p.2.2]⟩
theorem zoi: ∀c∈tblR,CtOk c:=by
 intro c hc;simp only[tblR,mem_append,List.mem_map] at hc;rcases hc with(⟨p,hp,rfl⟩|⟨p,hp,rfl⟩)|⟨p,hp,rfl⟩
 ·refine qeg 1100 10 p.1 (p.2,(p.1.length:Int),0) ?_;simp only[exL,mem_cons,List.not_mem_nil,or_false] at hp;rcases hp with rfl|rfl|rfl|rfl|rfl|rfl<;>kernel_rfl
 ·refine qkm p.2.t p.2.t true ?_;simp only[exL,mem_cons,List.not_mem_nil,or_false] at hp;rcases hp with rfl|rfl|rfl|rfl|rfl|rfl<;>decide+kernel
 ·refine qeg 1100 10 p.1 (Rg.mk false false noneT,p.2.1,p.2.2) ?_;simp only[erL,mem_cons,List.not_mem_nil,or_false] at hp;rcases hp with rfl|rfl|rfl|rfl|rfl|rfl|rfl|rfl|rfl|rfl|rfl|rfl|rfl<;>kernel_rfl
theorem qbs:Good prog (tbl []) noS:=zjk fun c hc=>by cases hc
theorem cls0:CtOk ⟨24,[avZ [98]],avT (clT (bS 98))⟩:=zde true qbs 300 (by kernel_rfl)
theorem cls1:CtOk ⟨24,[avZ [99]],avT (clT (bS 99))⟩:=zde true qbs 300 (by kernel_rfl)
theorem cls3:CtOk ⟨24,[avZ [97]],avT (clT (bS 97))⟩:=zde true qbs 300 (by kernel_rfl)
theorem cls4:CtOk ⟨24,[avZ [48,49,50,51,52,53,54,55,56,57,95]],avT (clT (digU))⟩:=zde true qbs 300 (by kernel_rfl)
def qik:List AV:=[.raw (.int .u8 5),.raw (.int .u64 0),.raw (.int .u64 0),.raw (.int .u64 0),.raw (.int .u64 0),.raw (.int .i64 0),.raw (.int .i64 (-1)),.list 1 (Enc.cells (clT (bS 98))) .full]
def twoC:List AV:=[.raw (.int .u8 5),.raw (.int .u64 0),.raw (.int .u64 0),.raw (.int .u64 0),.raw (.int .u64 0),.raw (.int .i64 2),.raw (.int .i64 3),.list 1 (Enc.cells (clT (bS 99))) .full]
def emC:List AV:=[.raw (.int .u8 1),.raw (.int .u64 0),.raw (.int .u64 0),.raw (.int .u64 0),.raw (.int .u64 0),.raw (.int .i64 0),.raw (.int .i64 0),.list 0 [] .full]
def awS:List AV:=(.raw (.bool false):: .ptr 0 0:: .ptr 1 0:: .ptr 2 0:: .ptr 3 0:: .top:: .top:: .top:: .top:: .top:: .top:: .top:: .top:: .top:: .top:: .top:: .top:: .top:: .top:: .top:: .top:: .top:: .top:: .top:: .top:: .top:: .top:: .top:: .top:: .top:: .top:: .top:: .top:: .top:: .top:: .top:: .top:: .top:: .top:: .top:: .top:: .top:: .top:: .top:: .top:: .top:: .top:: .top:: .top:: .top:: .top:: .top:: .top:: .top:: .top:: .top:: .top:: .top:: .top:: .top:: .top:: .top:: .top:: .top:: .top:: .top:: .top:: .top:: .top:: .top:: .top:: .top:: .top:: .top:: .top:: .top:: .top:: .top:: .top:: .top:: .top:: .top:: .top:: .top:: .top:: .top:: .top:: .top:: .top:: .top:: .top:: .top:: .top:: .top:: .top:: .top:: .top:: .top:: .top:: .top:: .top:: .top:: .top:: .top:: .top:: .top:: .top:: .top:: .top:: .top:: .top:: .top:: .top:: .top:: .top:: .top:: .top:: .top:: .top:: .top:: .top:: .top:: .top:: .top:: .top:: .top:: .top:: .top:: .top:: .top:: .top:: .top:: .top:: .top:: .top:: .top:: .top:: .top:: .top:: .top:: .top:: .top:: .top:: .top:: .top:: .top:: .top::[])
def awE:List AV:=(.raw (.bool false):: .ptr 0 0:: .ptr 1 0:: .ptr 2 0:: .ptr 3 0:: .top:: .top:: .top:: .top:: .top:: .top:: .top:: .top:: .top:: .top:: .top:: .top:: .top:: .top:: .top:: .top:: .top:: .top:: .top:: .top:: .top:: .top:: .top:: .top:: .top:: .top:: .top:: .top:: .top:: .top:: .top:: .top::avT (clT (bS 97)):: .agg qik::avT (clT (bS 99)):: .list 2 (qik++Enc.cells ((clT (bS 99)):Tr)) .full::avT (.mk 3 0#256 0 0 [z5a,(clT (bS 99))]):: .list 2 (Enc.cells ((clT (bS 97)):Tr)++Enc.cells ((.mk 3 0#256 0 0 [z5a,(clT (bS 99))]):Tr)) .full::avT eG0.t::avG eG0::avT (clT (bS 97))::avT (clT (bS 98)):: .list 2 (Enc.cells ((clT (bS 97)):Tr)++Enc.cells ((clT (bS 98)):Tr)) .full::avT eG1.t::avG eG1::avT (clT (bS 97)):: .list 1 (Enc.cells ((clT (bS 97)):Tr)) .full::avT (.mk 6 0#256 0 0 [(clT (bS 97))])::avT (clT (bS 98)):: .agg emC:: .list 2 (Enc.cells ((clT (bS 98)):Tr)++emC) .full::avT (.mk 4 0#256 0 0 [(clT (bS 98)),emT]):: .agg twoC:: .list 3 (Enc.cells ((.mk 6 0#256 0 0 [(clT (bS 97))]):Tr)++Enc.cells ((.mk 4 0#256 0 0 [(clT (bS 98)),emT]):Tr)++twoC) .full::avT eG2.t::avG eG2::avT qmd::avG eG3::avT (clT digU)::avG eG4::avT (clT (bS 97))::avG eG5:: .top:: .top:: .top:: .top:: .top:: .top:: .top:: .top:: .top:: .top:: .top:: .top:: .top:: .top:: .top:: .top:: .top:: .top:: .top:: .top:: .top:: .top:: .top:: .top:: .top:: .top:: .top:: .top:: .top:: .top:: .top:: .top:: .top:: .top:: .top:: .top:: .top:: .top:: .top:: .top:: .top:: .top:: .top:: .top:: .top:: .top:: .top:: .top:: .top:: .top:: .top:: .top:: .top:: .top:: .top:: .top:: .top:: .top:: .top:: .top:: .top:: .top:: .top:: .top:: .top:: .top:: .top:: .top:: .top:: .top:: .top:: .top:: .top:: .top:: .top:: .top:: .top:: .top:: .top:: .top::[])
def awσ:St:=⟨[(29,qik),(29,twoC),(29,emC),(29,Enc.cells qmd)],[],[],0,false⟩
def awM:MI:=⟨0,[(0,36,false),(37,67,true)],[(9,.string (bs eS0),44),(15,.string (bs eS1),49),(27,.string (bs eS2),60),(30,.string (bs eS3),62),(33,.string (bs eS4),64),(36,.string (bs eS5),66)],[(38,68)]⟩
theorem zxr (k:Nat)(l:List AV)(t:Tr)(h:zlo prog (tbl []) (evQ true prog (tbl []) noS 300) 25 [.raw (.int .u8 k),.list t.l.length l .none]=some (avT t)):Pure (ITP prog) prog 25 [.raw (.int .u8 k),.list t.l.length l .none] (avT t):=zde true qbs 300 h
theorem keyNe_s {a b:List UInt8} (h:((bs a)==(bs b))=false):z3a .string (.string (bs a)) (.string (bs b)):=by
 show some ((bs a)==(bs b))=some false;rw[h]
def qpq:List (Nat×Nat):=[(9,0),(15,1),(27,2),(30,3),(33,4),(36,5)]
def insS (n:Nat):List UInt8:=match n with|0=>eS0|1=>eS1|2=>eS2|3=>eS3|4=>eS4|_=>eS5
def insV (n:Nat):Nat:=match n with|0=>44|1=>49|2=>60|3=>62|4=>64|_=>66
theorem insK (i n:Nat)(q:Nat×Value×Nat)(hq:q∈awM.ins)(h:(i,n)∈qpq):q=(i,.string (bs (insS n)),insV n) \/(q.1≠i/\ z3a .string (.string (bs (insS n))) q.2.1):=by
 simp only[awM,qpq,mem_cons,List.not_mem_nil,or_false,Prod.mk.injEq] at hq h;rcases h with⟨rfl,rfl⟩|⟨rfl,rfl⟩|⟨rfl,rfl⟩|⟨rfl,rfl⟩|⟨rfl,rfl⟩|⟨rfl,rfl⟩<;>rcases hq with rfl|rfl|rfl|rfl|rfl|rfl<;>first|exact .inl rfl|exact .inr ⟨by decide,keyNe_s (by decide+kernel)⟩
def awMs:List Bool:=[true,true,true,true,true,true,true,true,true,true,true,true,true,true,true,true,true,true,true,true,true,true,true,true,true,true,true,true,true,true,true,true,true,true,true,true,false,false,false,false,false,false,false,false,false,false,false,false,false,false,false,false,false,false,false,false,false,false,false,false,false,false,false,false,false,false,false,false,true,true,true,true,true,true,true,true,true,true,true,true,true,true,true,true,true,true,true,true,true,true,true,true,true,true,true,true,true,true,true,true,true,true,true,true,true,true,true,true,true,true,true,true,true,true,true,true,true,true,true,true,true,true,true,true,true,true,true,true,true,true,true,true,true,true,true,true,true,true,true,true,true,true,true,true,true,true,true]
def awM2:List Bool:=[true,true,true,true,true,true,false,false,false,false,false,true,true,true,true,true,true,true,true,true,true,true,true,true,true,true,true,true,true,true,true,true,true,true,true,true,true,true,true,true,true,true,true,true,true,true,true,true,true,true,true,true,true,true,true,true,true,true,true,true,true,true,true,true,true,true,true,true,true,false,false,false,false,false,false,false,false,false,false,false,false,false,false,false,false,false,false,false,false,false,false,false,false,false,false,false,false,false,false,false,false,false,false,false,false,false,false,false,false,false,true,true,true,true,true,true,true,true,true,true,true,true,true,true,true,true,true,true,true,true,true,true,true,true,true,true,true,true,true,true,true,true,true,true,true,true,true]
def awSL (r:Nat):List AV:=awS.set 68 (.raw (.pointer (some ⟨r,0,none⟩)))
theorem aw_map {F:Fence} {nn B:Nat} {K:Exit->Act->World->Prop} {X0:Cx} {ops:Array Oper} (hops:(do let c<-Tryz.f7.body;zls 10 c)=some ops)(hF:FenceOk F Tryz.prog):qjt (ITP Tryz.prog) Tryz.prog F nn B K X0 ops awE (sgL awσ []) (MpOk ops awM X0.w.heap.size) 0 ops.toList ((.top::avT (clT (bS 97)):: .agg qik::avT (clT (bS 99)):: .list 2 (qik++Enc.cells ((clT (bS 99)):Tr)) .full::avT (.mk 3 0#256 0 0 [z5a,(clT (bS 99))]):: .list 2 (Enc.cells ((clT (bS 97)):Tr)++Enc.cells ((.mk 3 0#256 0 0 [z5a,(clT (bS 99))]):Tr)) .full::avT eG0.t::avG eG0:: .raw undef::avT (clT (bS 97))::avT (clT (bS 98)):: .list 2 (Enc.cells ((clT (bS 97)):Tr)++Enc.cells ((clT (bS 98)):Tr)) .full::avT eG1.t::avG eG1:: .raw undef::avT (clT (bS 97)):: .list 1 (Enc.cells ((clT (bS 97)):Tr)) .full::avT (.mk 6 0#256 0 0 [(clT (bS 97))])::avT (clT (bS 98)):: .agg emC:: .list 2 (Enc.cells ((clT (bS 98)):Tr)++emC) .full::avT (.mk 4 0#256 0 0 [(clT (bS 98)),emT]):: .agg twoC:: .list 3 (Enc.cells ((.mk 6 0#256 0 0 [(clT (bS 97))]):Tr)++Enc.cells ((.mk 4 0#256 0 0 [(clT (bS 98)),emT]):Tr)++twoC) .full::avT eG2.t::avG eG2:: .raw undef::avT qmd::avG eG3:: .raw undef::avT (clT digU)::avG eG4:: .raw undef::avT (clT (bS 97))::avG eG5:: .raw undef:: .top:: .top::[])):=by
 cases hops;refine⟨fun _=>qhi (zg _) hF rfl rfl rfl rfl (by simp[awM]) (by decide) (by decide) (by decide) (Nat.le_of_ble_eq_true rfl) (fun _=>rfl),?_⟩;refine⟨d_c (zg _) hF cls3 (hb:=by kernel_rfl),?_⟩;refine⟨d_l (zg _) hF (by kernel_rfl) qaw (hb:=by kernel_rfl),?_⟩;refine⟨d_c (zg _) hF cls1 (hb:=by kernel_rfl),?_⟩;refine⟨d_q (zg _) hF (fun _=>by kernel_rfl) (hb:=by kernel_rfl),?_⟩;refine⟨d_c (zg _) hF (zxr 3 (Enc.cellsL ((.mk 3 0#256 0 0 [z5a,(clT (bS 99))]):Tr).l) (.mk 3 0#256 0 0 [z5a,(clT (bS 99))]) (by kernel_rfl)) (hb:=by kernel_rfl),?_⟩;refine⟨d_q (zg _) hF (fun _=>by kernel_rfl) (hb:=by kernel_rfl),?_⟩;refine⟨d_c (zg _) hF (zxr 4 (Enc.cellsL (eG0.t:Tr).l) eG0.t (by kernel_rfl)) (hb:=by kernel_rfl),?_⟩;refine⟨d_q (zg _) hF (fun _=>by kernel_rfl) (hb:=by kernel_rfl),?_⟩;refine⟨fun ho=>zqi (kd:= .string) (k:= .string (bs eS0)) (kt:=9) (et:=34) (j':=0) (tm:=36) (tv:=44) (f':=false) (zg _) hF rfl rfl rfl ho rfl rfl trivial (by decide) (by simp[awM]) (by simp[awM]) rfl (fun q hq=>insK 9 0 q hq (by simp[qpq])) (by decide) (by decide) (fun _=>rfl),?_⟩;refine⟨d_c (zg _) hF cls3 (hb:=by kernel_rfl),?_⟩;refine⟨d_c (zg _) hF cls0 (hb:=by kernel_rfl),?_⟩;refine⟨d_q (zg _) hF (fun _=>by kernel_rfl) (hb:=by kernel_rfl),?_⟩;refine⟨d_c (zg _) hF (zxr 3 (Enc.cellsL (eG1.t:Tr).l) eG1.t (by kernel_rfl)) (hb:=by kernel_rfl),?_⟩;refine⟨d_q (zg _) hF (fun _=>by kernel_rfl) (hb:=by kernel_rfl),?_⟩;refine⟨fun ho=>zqi (kd:= .string) (k:= .string (bs eS1)) (kt:=9) (et:=34) (j':=0) (tm:=36) (tv:=49) (f':=false) (zg _) hF rfl rfl rfl ho rfl rfl trivial (by decide) (by simp[awM]) (by simp[awM]) rfl (fun q hq=>insK 15 1 q hq (by simp[qpq])) (by decide) (by decide) (fun _=>rfl),?_⟩;refine⟨d_c (zg _) hF cls3 (hb:=by kernel_rfl),?_⟩;refine⟨d_q (zg _) hF (fun _=>by kernel_rfl) (hb:=by kernel_rfl),?_⟩;refine⟨d_c (zg _) hF (zxr 6 (Enc.cellsL ((.mk 6 0#256 0 0 [(clT (bS 97))]):Tr).l) (.mk 6 0#256 0 0 [(clT (bS 97))]) (by kernel_rfl)) (hb:=by kernel_rfl),?_⟩;refine⟨d_c (zg _) hF cls0 (hb:=by kernel_rfl),?_⟩;refine⟨d_l (zg _) hF (by kernel_rfl) qaw (hb:=by kernel_rfl),?_⟩;refine⟨d_q (zg _) hF (fun _=>by kernel_rfl) (hb:=by kernel_rfl),?_⟩;refine⟨d_c (zg _) hF (zxr 4 (Enc.cellsL ((.mk 4 0#256 0 0 [(clT (bS 98)),emT]):Tr).l) (.mk 4 0#256 0 0 [(clT (bS 98)),emT]) (by kernel_rfl)) (hb:=by kernel_rfl),?_⟩;refine⟨d_l (zg _) hF (by kernel_rfl) qaw (hb:=by kernel_rfl),?_⟩;refine⟨d_q (zg _) hF (fun _=>by kernel_rfl) (hb:=by kernel_rfl),?_⟩;refine⟨d_c (zg _) hF (zxr 3 (Enc.cellsL (eG2.t:Tr).l) eG2.t (by kernel_rfl)) (hb:=by kernel_rfl),?_⟩;refine⟨d_q (zg _) hF (fun _=>by kernel_rfl) (hb:=by kernel_rfl),?_⟩;refine⟨fun ho=>zqi (kd:= .string) (k:= .string (bs eS2)) (kt:=9) (et:=34) (j':=0) (tm:=36) (tv:=60) (f':=false) (zg _) hF rfl rfl rfl ho rfl rfl trivial (by decide) (by simp[awM]) (by simp[awM]) rfl (fun q hq=>insK 27 2 q hq (by simp[qpq])) (by decide) (by decide) (fun _=>rfl),?_⟩;refine⟨d_l (zg _) hF (by kernel_rfl) qaw (hb:=by kernel_rfl),?_⟩;refine⟨d_q (zg _) hF (fun _=>by kernel_rfl) (hb:=by kernel_rfl),?_⟩;refine⟨fun ho=>zqi (kd:= .string) (k:= .string (bs eS3)) (kt:=9) (et:=34) (j':=0) (tm:=36) (tv:=62) (f':=false) (zg _) hF rfl rfl rfl ho rfl rfl trivial (by decide) (by simp[awM]) (by simp[awM]) rfl (fun q hq=>insK 30 3 q hq (by simp[qpq])) (by decide) (by decide) (fun _=>rfl),?_⟩;refine⟨d_c (zg _) hF cls4 (hb:=by kernel_rfl),?_⟩;refine⟨d_q (zg _) hF (fun _=>by kernel_rfl) (hb:=by kernel_rfl),?_⟩;refine⟨fun ho=>zqi (kd:= .string) (k:= .string (bs eS4)) (kt:=9) (et:=34) (j':=0) (tm:=36) (tv:=64) (f':=false) (zg _) hF rfl rfl rfl ho rfl rfl trivial (by decide) (by simp[awM]) (by simp[awM]) rfl (fun q hq=>insK 33 4 q hq (by simp[qpq])) (by decide) (by decide) (fun _=>rfl),?_⟩;refine⟨d_c (zg _) hF cls3 (hb:=by kernel_rfl),?_⟩;refine⟨d_q (zg _) hF (fun _=>by kernel_rfl) (hb:=by kernel_rfl),?_⟩;refine⟨fun ho=>zqi (kd:= .string) (k:= .string (bs eS5)) (kt:=9) (et:=34) (j':=0) (tm:=36) (tv:=66) (f':=false) (zg _) hF rfl rfl rfl ho rfl rfl trivial (by decide) (by simp[awM]) (by simp[awM]) rfl (fun q hq=>insK 36 5 q hq (by simp[qpq])) (by decide) (by decide) (fun _=>rfl),?_⟩;refine⟨fun ho=>du_mv (zg _) hF (t:=67) (t':=36) (j':=0) (f:=true) (f':=false) rfl rfl rfl ho (by decide) (by simp[awM]) (by simp[awM]) rfl (by decide) (by decide) (by decide) (Nat.le_of_ble_eq_true rfl) (fun _=>rfl) (fun _=>by kernel_rfl),?_⟩;refine⟨fun ho=>qkn (zg _) hF (j':=37) (t':=67) rfl rfl rfl ho rfl (by decide) rfl (by simp[awM]) rfl (by decide) (by decide) (Nat.le_of_ble_eq_true rfl) (fun _=>rfl),trivial⟩
end Go.Ab
