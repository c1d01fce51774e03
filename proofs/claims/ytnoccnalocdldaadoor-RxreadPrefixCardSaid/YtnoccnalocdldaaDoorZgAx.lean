import Derived.Test.YtnoccnalocdldaaDoorZgRp
set_option linter.all false
set_option maxRecDepth 100000
set_option maxHeartbeats 4000000
open Sum (inl inr)
open Int (toNat tmod tdiv)
open Nat (le_refl zero_add lt_or_ge not_lt_zero)
open Option (map_some getD_some)
open List (length length_cons length_append length_nil getElem?_eq_getElem mem_append all_eq_true foldl cons_append mem_cons mem_range append_nil map_cons getElem_mem take_of_length_le length_map map_map)
open Go.Proofs.Tryd (prog)
namespace Go.Ab
open Go Go.RowKit Go.Fwd Go.Proofs
variable {P:Program} {n:Nat}
structure Ar where
 f:Nat->Int
def qjy (x:Int):AV:= .raw (.int .i64 x)
def arL (a:Ar):List Int:=(List.range 256).map a.f
def zfh (a:Ar):List AV:=(arL a).map qjy
theorem qas (a:Ar):(arL a).length=256:=by simp[arL]
theorem arL_get (a:Ar)(i:Nat)(h:i<256):(arL a)[i]? =some (a.f i):=by simp[arL,h]
theorem z5m (l:List Int):cloL (l.map qjy)=true:=by
 induction l with
 |nil=>rfl
 |cons x l ih=>rw[map_cons,cloL,ih];rfl
instance:Enc Ar where
 inh:=⟨fun _=>0⟩
 cells:=zfh
 cellsL l:=l.flatMap zfh
 sz:=256
 pos:=by decide
 nil:=rfl
 cons _ _:=rfl
 len a:=by simp[zfh,arL]
 clo a:=z5m _
def zeroA:Ar:=⟨fun _=>0⟩
def wrA (a:Ar)(i v:Int):Ar:=⟨fun k=>if k=i.toNat then v else a.f k⟩
def eqA (a b:Ar):Bool:=decide (arL a=arL b)
theorem zug (a:Ar)(i:Nat)(h:i<256):(zfh a)[i]? =some (qjy (a.f i)):=by simp[zfh,arL,h]
theorem qdw (a:Ar)(i v:Int)(h:0<=i/\ i<256):zfh (wrA a i v)=(zfh a).set i.toNat (qjy v):=by
 apply List.ext_getElem?;intro k;rcases lt_or_ge k 256 with hk|hk
 ·rw[zug _ _ hk];by_cases e:i.toNat=k
  ·subst e;rw[List.getElem?_set_self (by simp[zfh,arL];omega)];simp[wrA]
  ·rw[List.getElem?_set_ne e,zug _ _ hk];simp[wrA,Ne.symm e]
 ·rw[List.getElem?_eq_none (by simp[zfh,arL];omega),List.getElem?_eq_none (by simp[zfh,arL];omega)]
section
variable {ρ:Operand->AV} {U:St} {o:Oper}
theorem qbd:zdm prog 65=some 256:=by kernel_rfl
theorem size102:zdm prog 64=some 256:=by kernel_rfl
theorem qfq:zdm prog 3=some 1:=by kernel_rfl
theorem und3:prog.underlying 3=some (.int .i64):=by kernel_rfl
theorem qcw:prog.underlying 65=some (.array 256 3):=by kernel_rfl
theorem und102:prog.underlying 64=some (.array 256 3):=by kernel_rfl
theorem qjs {t:TypeId} {cs:List AV} {k:Nat} {e:TypeId} (hu:P.underlying t=some (.array k e))(hs:zdm P t=some n)(hl:cs.length=n):rd P t cs=some (.agg cs):=by
 unfold zdm at hs;cases hi:P.info? t with
 |none=>simp[hi] at hs
 | some i=>
  simp only[hi,map_some,Option.some.injEq] at hs;subst hs;simp only[rd,hu,hi,hl,le_refl,if_true,take_of_length_le]
theorem z2a {t:TypeId} {k:IntKind} {cs:List AV} (hu:P.underlying t=some (.int k))(hs:zdm P t=some n):rd P t cs=cs.head? :=by
 unfold zdm at hs;cases hi:P.info? t with
 |none=>simp[hi] at hs
 |some i=>simp[rd,hu,hi]
theorem qax {t:TypeId} {x:Operand} {b:Nat} {tt:TypeId} (a:Ar)(ht:t=65 \/t=64)(ho:o.op= .load t x)(hx:ρ x= .ptr b 0)(hb:U.boxes[b]? =some (tt,Enc.cells a)):qop prog ρ U o=some (.agg (Enc.cells a)):=by
 have key:rd prog t ((Enc.cells a).drop 0)=some (.agg (Enc.cells a)):=by
  rw[List.drop_zero];rcases ht with rfl|rfl
  ·exact qjs qcw qbd (Enc.len a)
  ·exact qjs und102 size102 (Enc.len a)
 simp only[qop,ho,zlg,hx,hb,key]
theorem qbo {x y:Operand} {b:Nat} {tt:TypeId} {i v:Int} (a:Ar)(h:0<=i/\ i<256)(ho:o.op= .store 3 x y)(hx:ρ x= .ptr b (0+i.toNat*1))(hy:ρ y= .raw (.int .i64 v))(hb:U.boxes[b]? =some (tt,Enc.cells a)):
 aop prog ρ U o=some (.raw undef,{U with boxes:=U.boxes.set b (tt,Enc.cells (wrA a i v))}):=by
 have hl:(Enc.cells a).length=256:=Enc.len a;rw[zcv (n:=1) ho hx hy hb qfq ⟨rfl,rfl,by simp only[hl];omega,by decide⟩];have e:(Enc.cells a).take (0+i.toNat*1)++zcg (.raw (.int .i64 v))++(Enc.cells a).drop (0+i.toNat*1+1)=Enc.cells (wrA a i v):=by
  show _=zfh (wrA a i v);rw[qdw _ _ _ h,List.set_eq_take_append_cons_drop,if_pos (by rw[show(zfh a).length=256 from Enc.len a];omega)];simp only[zero_add,Nat.mul_one,List.append_assoc,zcg,List.singleton_append];rfl
 simp only[e]
def zv57:Value:= .agg ((List.range 256).map fun _=>Value.int .i64 0).toArray
theorem zero103:zhw prog 65=some zv57:=by kernel_rfl
theorem zero102:zhw prog 64=some zv57:=by kernel_rfl
theorem zus:zcg (zje zv57)=Enc.cells zeroA:=by kernel_rfl
theorem ztf {t:TypeId} {z:Value} (hz:zhw P t=some z):zqo P U t=some (.ptr U.boxes.length 0,{U with boxes:=U.boxes++[(t,zcg (zje z))]}):=by
 unfold zhw at hz;unfold zqo;cases hi:P.info? t with
 |none=>simp[hi] at hz
 | some i=>
  simp only[hi] at hz⊢;cases hzz:i.zero with
  |none=>simp[hzz] at hz
  | some z'=>
   simp only[hzz] at hz⊢;split at hz
   ·rename_i hk;cases hz;rw[if_pos hk.1,aBox,if_pos hk.2]
   ·cases hz
theorem zyb {t:TypeId} (ht:t=65 \/t=64)(ho:o.op= .alloc t):aop prog ρ U o=some (.ptr U.boxes.length 0,{U with boxes:=U.boxes++[(t,Enc.cells zeroA)]}):=by
 have h:zqo prog U t=some (.ptr U.boxes.length 0,{U with boxes:=U.boxes++[(t,Enc.cells zeroA)]}):=by
  rcases ht with rfl|rfl
  ·rw[ztf zero103,zus]
  ·rw[ztf zero102,zus]
 simp only[aop,qop,ho,h]
end
theorem zvz (w:World)(d:Nat)(a b:Int):(Op.equalIn (d+1) 3 (.int .i64 a) (.int .i64 b)).run prog w= .ok (a==b) w:=run_equalIn_int w d 3 .i64 .i64 a b und3
theorem zpm (l:List Int):zdv (.agg (l.map qjy))=some (.agg (l.map (Value.int .i64)).toArray):=by
 have:zea (l.map qjy)=some (l.map (Value.int .i64)):=by
  induction l with
  |nil=>rfl
  |cons x l ih=>rw[map_cons,zea,ih];rfl
 simp[zdv,this]
theorem z6e (w:World):(isAgg 3).run prog w= .ok false w:=by kernel_rfl
theorem qef (w:World):(sizeOf 3).run prog w= .ok 1 w:=by kernel_rfl
theorem eqIn103 (d:Nat)(xs ys:List Int)(hx:xs.length=256)(hy:ys.length=256)(w:World):
 (Op.equalIn (d+1+1) 65 (.agg (xs.map (Value.int .i64)).toArray) (.agg (ys.map (Value.int .i64)).toArray)).run prog w= .ok (decide (xs=ys)) w:=by
 rw[Op.equalIn];simp only[Sem.run_bind,run_underlying qcw,Result.andThen_ok,qef];simp only[Std.Legacy.Range.forIn_eq_forIn_range',Std.Legacy.Range.size,Nat.sub_zero,Nat.add_sub_cancel,Nat.div_one]
 have key: ∀n s,s+n=256->(Sem.run prog
  (forIn (List.range' s n) (none,()) fun i (__s:Option Bool×Unit)=>do
   let __do_lift<-part 3 (List.map (Value.int IntKind.i64) xs).toArray (i*1)
   let __do_lift_1<-part 3 (List.map (Value.int IntKind.i64) ys).toArray (i*1)
   let __do_lift<-Op.equalIn (d+1) 3 __do_lift __do_lift_1
   if(!__do_lift)=true then pure (ForInStep.done (some false,())) else pure (ForInStep.yield (none,()))) w)= .ok (if xs.drop s=ys.drop s then(none,()) else(some false,())) w:=by
  intro n;induction n with
  | zero=>
   intro s hs;rw[if_pos (by rw[List.drop_of_length_le (by omega),List.drop_of_length_le (by omega)])];simp[Sem.run_pure]
  | succ n ih=>
   intro s hs;have h1:s<xs.length:=by omega
   have h2:s<ys.length:=by omega
   have ih:=ih (s+1) (by omega);rw[List.range'_succ,List.forIn_cons];rw[List.drop_eq_getElem_cons h1,List.drop_eq_getElem_cons h2];have hp: ∀(zs:List Int) (hz:s<zs.length) (w:World),(part 3 (List.map (Value.int IntKind.i64) zs).toArray (s*1)).run prog w= .ok (.int .i64 zs[s]) w:=fun zs hz w=>by
    simp only[part,Sem.run_bind,z6e,Result.andThen_ok,Nat.mul_one,List.getElem?_toArray,List.getElem?_map,getElem?_eq_getElem hz,map_some,if_false,Bool.false_eq_true,Sem.run_pure]
   simp only[Sem.run_bind,hp xs h1,hp ys h2,Result.andThen_ok,Bool.false_eq_true,Sem.run_pure,zvz];by_cases e:xs[s]=ys[s]
   ·simp only[e,beq_self_eq_true,Bool.not_true,Bool.false_eq_true,if_false,Sem.run_pure,Result.andThen_ok,List.cons.injEq,true_and];exact ih
   ·have:(xs[s]==ys[s])=false:=by simp[e]
    simp only[this,Bool.not_false,if_true,Sem.run_pure,Result.andThen_ok,List.cons.injEq,e,false_and,if_false]
 have h:=key 256 0 rfl;simp only[List.drop_zero] at h;rw[h];by_cases e:xs=ys
 ·simp[e,Result.andThen,Sem.run_pure]
 ·simp[e,Result.andThen,Sem.run_pure]
theorem qin:prog.eqGuardType prog.depth 65=false:=by kernel_rfl
variable {P:Program} {n:Nat}
structure RT where
 t:Tr
def zfp (s:BS):Ar:=⟨fun i=>if s.getLsbD i=true then 1 else 0⟩
def hcells (t:Tr):List AV:= .raw (.int .i64 t.k)::(zfh (zfp t.s)++[.raw (.int .i64 t.mn),.raw (.int .i64 t.mx)])
mutual
def rtc:Tr->List AV
 | .mk k s mn mx l=>hcells (.mk k s mn mx [])++[.list l.length (qed l) .none]
def qed:List Tr->List AV
 |[]=>[]
 |x::l=>rtc x++qed l
end
theorem zmb (t:Tr):(hcells t).length=259:=by simp[hcells,zfh,arL]
theorem qip (t:Tr):rtc t=hcells t++[.list t.l.length (qed t.l) .none]:=by obtain⟨k,s,mn,mx,l⟩:=t;rw[rtc];rfl
theorem rtc_len (t:Tr):(rtc t).length=260:=by rw[qip,length_append,zmb];rfl
theorem zpo (t:Tr):cloL (hcells t)=true:=by
 unfold hcells;rw[cloL,zec];rw[show cloL (zfh (zfp t.s))=true from z5m _];rfl
mutual
theorem qdc: ∀t:Tr,cloL (rtc t)=true
 | .mk k s mn mx l=>by
  rw[rtc,zec,zpo,cloL,clo,z4r l];rfl
theorem z4r: ∀l:List Tr,cloL (qed l)=true
 |[]=>by rw[qed];rfl
 |x::l=>by rw[qed,zec,qdc x,z4r l];rfl
end
instance:Enc RT:=⟨⟨noneT⟩,fun r=>rtc r.t,fun l=>qed (l.map RT.t),260,by decide,rfl,fun _ _=>by rw[map_cons,qed],fun r=>rtc_len r.t,fun r=>qdc r.t⟩
def rtX (t:Tr)(a:AV):List AV:=hcells t++[a]
theorem zpr (t:Tr)(a:AV):(rtX t a).length=260:=by rw[rtX,length_append,zmb];rfl
theorem zmd (r:RT):Enc.cells r=rtX r.t (.list r.t.l.length (qed r.t.l) .none):=qip r.t
theorem isStr {d:Option TypeDesc} (h:(match d with|some (.struct _)=>true|_=>false)=true): ∃fs,d=some (.struct fs):=by
 match d,h with
 |some (.struct fs),_=>exact⟨fs,rfl⟩
theorem und106: ∃fs,prog.underlying 68=some (.struct fs):=isStr (by kernel_rfl)
theorem z1h:zdm prog 68=some 260:=by kernel_rfl
theorem und104:prog.underlying 66=some (.slice 68):=by kernel_rfl
section
variable {ρ:Operand->AV} {U:St} {o:Oper}
theorem qcv {t:TypeId} {cs:List AV} {fs} (hu:P.underlying t=some (.struct fs))(hs:zdm P t=some n)(hl:n<=cs.length):rd P t cs=some (.agg (cs.take n)):=by
 unfold zdm at hs;cases hi:P.info? t with
 |none=>simp[hi] at hs
 | some i=>
  simp only[hi,map_some,Option.some.injEq] at hs;subst hs;simp only[rd,hu,hi,hl,if_true]
theorem rd_rt (cs rest:List AV)(hl:cs.length=260):rd prog 68 (cs++rest)=some (.agg cs):=by
 obtain⟨fs,hu⟩:=und106;rw[qcv hu z1h (by rw[length_append];omega),List.take_append_of_le_length (by omega),take_of_length_le (by omega)]
theorem qhz {t:TypeId} {cs:List AV} (hs:zdm P t=some n)(h1: ∃d,P.underlying t=some d/\ (∀fs,d≠ .struct fs)/\ ∀k e,d≠ .array k e):rd P t cs=cs.head? :=by
 obtain⟨d,hd,h2,h3⟩:=h1;unfold zdm at hs;cases hi:P.info? t with
 |none=>simp[hi] at hs
 | some i=>
  cases d with
  |struct fs=>exact absurd rfl (h2 fs)
  |array k e=>exact absurd rfl (h3 k e)
  |_=>simp only[rd,hd,hi]
theorem qgr {x:Operand} {b:Nat} {tt:TypeId} {cs:List AV} (hl:cs.length=260)(ho:o.op= .load 68 x)(hx:ρ x= .ptr b 0)(hb:U.boxes[b]? =some (tt,cs)):qop prog ρ U o=some (.agg cs):=by
 have:=rd_rt cs [] hl;rw[append_nil] at this;simp only[qop,ho,zlg,hx,hb,List.drop_zero,this]
theorem z0f {x:Operand} {rest:List AV} (r:RT)(ho:o.op= .load 68 x)(hx:ρ x= .iptr (Enc.cells r++rest)):qop prog ρ U o=some (.agg (Enc.cells r)):=by
 simp only[qop,ho,zlg,hx,rd_rt _ rest (Enc.len r)]
theorem qcl {x:Operand} {b:Nat} {tt:TypeId} (t:Tr) {a:AV} (ho:o.op= .load 3 x)(hx:ρ x= .ptr b 0)(hb:U.boxes[b]? =some (tt,rtX t a)):qop prog ρ U o=some (.raw (.int .i64 t.k)):=by
 simp only[qop,ho,zlg,hx,hb,List.drop_zero,z2a und3 qfq];rfl
theorem qht (t:Tr)(a:AV):(rtX t a).drop 257=[.raw (.int .i64 t.mn),.raw (.int .i64 t.mx),a]:=by
 have h:(zfh (zfp t.s)).length=256:=by simp[zfh,arL]
 rw[rtX,hcells,cons_append,List.append_assoc,List.drop_succ_cons,List.drop_append,List.drop_of_length_le (by omega),h];rfl
theorem zsb (t:Tr)(a:AV)(j:Nat):(rtX t a).drop (257+j)=[AV.raw (.int .i64 t.mn),.raw (.int .i64 t.mx),a].drop j:=by rw[<-qht t a,List.drop_drop]
theorem qcm {x:Operand} {b:Nat} {tt:TypeId} (t:Tr) {a:AV} (ho:o.op= .load 3 x)(hx:ρ x= .ptr b 257)(hb:U.boxes[b]? =some (tt,rtX t a)):qop prog ρ U o=some (.raw (.int .i64 t.mn)):=by
 simp only[qop,ho,zlg,hx,hb,z2a und3 qfq,zsb t a 0];rfl
theorem qag {x:Operand} {b:Nat} {tt:TypeId} (t:Tr) {a:AV} (ho:o.op= .load 3 x)(hx:ρ x= .ptr b 258)(hb:U.boxes[b]? =some (tt,rtX t a)):qop prog ρ U o=some (.raw (.int .i64 t.mx)):=by
 simp only[qop,ho,zlg,hx,hb,z2a und3 qfq,zsb t a 1];rfl
theorem zzo {x:Operand} {b:Nat} {tt:TypeId} (t:Tr) {a:AV} (ho:o.op= .load 66 x)(hx:ρ x= .ptr b 259)(hb:U.boxes[b]? =some (tt,rtX t a)):qop prog ρ U o=some a:=by
 have h1:zdm prog 66=some 1:=by kernel_rfl
 simp only[qop,ho,zlg,hx,hb,qhz h1 ⟨_,und104,by simp,by simp⟩,zsb t a 2];rfl
theorem qdx {x:Operand} {b:Nat} {tt:TypeId} (t:Tr) {a:AV} (ho:o.op= .load 65 x)(hx:ρ x= .ptr b 1)(hb:U.boxes[b]? =some (tt,rtX t a)):qop prog ρ U o=some (.agg (Enc.cells (zfp t.s))):=by
 have h:(zfh (zfp t.s)).length=256:=by simp[zfh,arL]
 have e:(rtX t a).drop 1=zfh (zfp t.s)++[.raw (.int .i64 t.mn),.raw (.int .i64 t.mx),a]:=by rw[rtX,hcells];simp
 have key:rd prog 65 ((rtX t a).drop 1)=some (.agg (Enc.cells (zfp t.s))):=by
  rw[e];have hs:=qbd;unfold zdm at hs;cases hi:prog.info? 65 with
  |none=>simp[hi] at hs
  | some i=>
   simp only[hi,map_some,Option.some.injEq] at hs;simp only[rd,qcw,hi];rw[if_pos (by rw[length_append];omega),hs,List.take_append_of_le_length (by omega),take_of_length_le (by omega)];rfl
 simp only[qop,ho,zlg,hx,hb,key]
theorem z2v {x y:Operand} {b:Nat} {tt:TypeId} {a v:AV} (t:Tr)(ho:o.op= .store 66 x y)(hx:ρ x= .ptr b 259)(hy:ρ y=v)(hb:U.boxes[b]? =some (tt,rtX t a))(hc:zht v=true/\ (zcg v).length=1):
 aop prog ρ U o=some (.raw undef,{U with boxes:=U.boxes.set b (tt,hcells t++zcg v)}):=by
 have h1:zdm prog 66=some 1:=by kernel_rfl
 rw[zcv (n:=1) ho hx hy hb h1 ⟨hc.1,hc.2,by simp only[zpr];omega,by decide⟩];have e1:(rtX t a).take 259=hcells t:=by rw[rtX,List.take_append_of_le_length (by rw[zmb];omega),take_of_length_le (by rw[zmb];omega)]
 have e2:(rtX t a).drop (259+1)=[]:=List.drop_of_length_le (by rw[zpr];omega);simp only[e1,e2,append_nil]
end
theorem zuk: ∀a b:List AV,stripL (a++b)=stripL a++stripL b
 |[],b=>by rw[stripL];rfl
 |x::a,b=>by rw[cons_append,stripL,stripL,zuk a b];rfl
theorem z9f (t:Tr)(l:List RT):zde (.agg (rtX t (zci l.length (Enc.cellsL l))))= .agg (Enc.cells (RT.mk (.mk t.k t.s t.mn t.mx (l.map RT.t)))):=by
 rw[zmd];show AV.agg (stripL _)=_;rw[rtX,rtX,zuk,zdo _ (zpo t),stripL,stripL,zqb (Enc.cloL l) Enc.z];rw[show(RT.mk (Tr.mk t.k t.s t.mn t.mx (l.map RT.t))).t=Tr.mk t.k t.s t.mn t.mx (l.map RT.t) from rfl,show(Tr.mk t.k t.s t.mn t.mx (l.map RT.t)).l=l.map RT.t from rfl,length_map];rfl
end Go.Ab
namespace Go.Ab
open Go Go.RowKit Go.Fwd Go.Proofs
def zvi (fuel:Nat)(s:BS):Option Ar:=
 (zdl (τ:=Ar) (zbg (β:=Int×Ar) (fun s1=>(bif (decide (s1.1<256)) then(zdl (τ:=Ar) (chk (0<=(IntKind.i64.wrap (tdiv s1.1 64))/\ (IntKind.i64.wrap (tdiv s1.1 64))<4) (zdl (τ:=Int) (zbg (β:=Int×Int) (fun s2=>(bif (decide (s2.2<(tmod s1.1 64))) then(chk (-9223372036854775808<=(s2.2+1)/\ (s2.2+1)<9223372036854775808) (some (inl ((IntKind.u64.wrap (tdiv s2.1 2)),(s2.2+1))))) else(some (inr (inl (s2.1)))))) fuel ((wd s (toNat (IntKind.i64.wrap (tdiv s1.1 64)))),0)) (fun j3=>(chk (-9223372036854775808<=(tmod j3 2)/\ (tmod j3 2)<9223372036854775808) (chk (0<=s1.1/\ s1.1<256) (some (inl ((wrA s1.2 s1.1 (tmod j3 2)))))))))) (fun j2=>(chk (-9223372036854775808<=(s1.1+1)/\ (s1.1+1)<9223372036854775808) (some (inl ((s1.1+1),j2)))))) else(some (inr (inl (s1.2)))))) fuel (0,zeroA)) (fun j1=>(some j1)))
theorem ent45:Ent prog 45:=enters_of Tryd.func45 (by kernel_rfl) rfl
theorem qfb (fuel:Nat)(s:BS)(r:Ar)(h:zvi fuel s=some r):Pure (ITP prog) prog 45 [.A (s:BS)] (.A (r:Ar)):=by
 unfold zvi at h;refine zbx 28 mix Tryd.func45 ent45 ?_;refine zm (zc ?_);refine zcc (a:= .ptr 0 0) (U'':=(.B [(25,(Enc.cells (s:BS)))])) ?_;refine zgl (a:= .ptr 1 0) (U'':=(.B [(25,(Enc.cells (s:BS))),(65,(Enc.cells (zeroA:Ar)))])) rfl rfl rfl (zyb (by decide) rfl) (by dsimp only[zy,List.set]) rfl ?_;refine zm (zc ?_);refine zgl (a:= .ptr 2 0) (U'':=(.B [(25,(Enc.cells (s:BS))),(65,(Enc.cells (zeroA:Ar))),(65,(Enc.cells (zeroA:Ar)))])) rfl rfl rfl (zyb (by decide) rfl) (by dsimp only[zy,List.set]) rfl ?_;refine zbk h (bz 0 29 536870899) (fun j1=>[]) (fun j1=>(.B [(25,(Enc.cells (s:BS))),(65,(Enc.cells (zeroA:Ar))),(65,(Enc.cells (j1:Ar)))])) ?_ ?_;intro or1 h hr1;refine zaa [.v (.i 0)] ?_;refine zaj ?_;refine zds h (bz 0 29 536870897) (fun s1=>[(4,.i s1.1)]) (fun s1=>(.B [(25,(Enc.cells (s:BS))),(65,(Enc.cells (zeroA:Ar))),(65,(Enc.cells (s1.2:Ar)))])) ?_ ?_;exact zbt (bl 29 30);intro s1 p1 h;refine zfa ?_;refine zm ?_;refine zaa [.m _,.v (.b (decide (s1.1<256)))] ?_;refine zcj h (fun hc1 h=> ?_) (fun hc1 h=> ?_);refine zbk h (bz 0 28 268433888) (fun j2=>[]) (fun j2=>(.B [(25,(Enc.cells (s:BS))),(65,(Enc.cells (zeroA:Ar))),(65,(Enc.cells (j2:Ar)))])) ?_ ?_;intro or2 h hr2;refine zaj ?_;refine zaa [.m _,.v (.i (IntKind.i64.wrap (tdiv s1.1 64)))] ?_;obtain⟨g1,h⟩:=zr h;refine w_o (a:= .ptr 0 (0+toNat (IntKind.i64.wrap (tdiv s1.1 64))*1)) (h:=zbf (zsp g1 rfl rfl rfl rfl rfl)) ?_;refine w_o (a:= .raw (.int .u64 (wd s (toNat (IntKind.i64.wrap (tdiv s1.1 64)))))) (h:=zbf (zwz s (by omega) rfl rfl rfl)) ?_;refine zac ?_;refine zbk h (bz 0 23 8387040) (fun j3=>[(5,.raw (.int .u64 j3))]) (fun j3=>(.B [(25,(Enc.cells (s:BS))),(65,(Enc.cells (zeroA:Ar))),(65,(Enc.cells (s1.2:Ar)))])) ?_ ?_;intro or3 h hr3;refine zaa [.v (.i 0)] ?_;refine zaj ?_;refine zds h (bz 0 23 8387040) (fun s2=>[(5,.raw (.int .u64 s2.1)),(6,.i s2.2)]) (fun s2=>(.B [(25,(Enc.cells (s:BS))),(65,(Enc.cells (zeroA:Ar))),(65,(Enc.cells (s1.2:Ar)))])) ?_ ?_;exact zbt (bl 29 528483967);intro s2 p2 h;refine zfa ?_;refine zm ?_;refine zaa [.m _,.m _,.v (.i (tmod s1.1 64)),.v (.b (decide (s2.2<(tmod s1.1 64))))] ?_;refine zcj h (fun hc2 h=> ?_) (fun hc2 h=> ?_);refine zm ?_;refine zaj ?_;refine zc (k0:=0) (id:=9) ?_;refine w_r [.m _,.v (.raw (.int .u64 (IntKind.u64.wrap (tdiv s2.1 2)))),.m _] ?_;refine zc (k0:=0) (id:=8) ?_;refine zac ?_;obtain⟨g2,h⟩:=zr h;refine zlt g2 ?_;refine zac ?_;refine zbz (p:=p2) ((IntKind.u64.wrap (tdiv s2.1 2)),(s2.2+1)) h ?_;exact zbt (bl 29 528483967);refine zap h (fun h=> ?_);refine ze (o:=or3) (s2.1) h ?_;exact zbt (bl 29 528483903);intro j3 h;refine zfa ?_;refine zc (k0:=0) (id:=10) ?_;refine w_r [.m _,.m _,.v (.raw (.int .u64 (tmod j3 2)))] ?_;obtain⟨g3,h⟩:=zr h;refine w_o (a:= .i (tmod j3 2)) (h:=zbf (zmf g3 rfl rfl rfl)) ?_;obtain⟨g4,h⟩:=zr h;refine w_o (a:= .ptr 2 (0+toNat s1.1*1)) (h:=zbf (zsp g4 rfl rfl rfl rfl rfl)) ?_;refine zcc (U'':=(.B [(25,(Enc.cells (s:BS))),(65,(Enc.cells (zeroA:Ar))),(65,(Enc.cells ((wrA s1.2 s1.1 (tmod j3 2)):Ar)))])) (h:=qbo s1.2 g4 rfl rfl rfl rfl) ?_;refine ze (o:=or2) ((wrA s1.2 s1.1 (tmod j3 2))) h ?_;exact zbt (bl 29 268437023);intro j2 h;refine zfa ?_;refine zc (k0:=0) (id:=4) ?_;refine zac ?_;obtain⟨g5,h⟩:=zr h;refine zlt g5 ?_;refine zac ?_;refine zbz (p:=p1) ((s1.1+1),j2) h ?_;exact zbt (bl 29 30);refine zap h (fun h=> ?_);refine ze (o:=or1) (s1.2) h ?_;exact zbt (bl 29 12);intro j1 h;refine zfa ?_;refine zm (zc ?_);refine w_o (a:= .A (j1:Ar)) (h:=zbf (qax j1 (by decide) rfl rfl rfl)) ?_;refine zcc (U'':=(.B [(25,(Enc.cells (s:BS))),(65,(Enc.cells (j1:Ar))),(65,(Enc.cells (j1:Ar)))])) (h:=zay (n:=256) rfl rfl rfl rfl rfl (Enc.len _) rfl (Enc.len _) (by decide)) ?_;exact zar (fun(r:Ar)=> .A (r:Ar)) h (.A (j1:Ar))
mutual
def zty:Tr->Int->Int
 | .mk _ _ _ _ l,m=>z8i l m 1
def z8i:List Tr->Int->Int->Int
 |[],_,s=>s
 |x::l,m,s=>if s>m then s else z8i l m (s+zty x (m-s))
end
def z4m (fuel:Nat)(n:Nat)(t:Tr)(m:Int):Option Int:=
 (zdl (τ:=Int) (zbg (β:=Int×Int) (fun s1=>(bif (decide (s1.2<(length t.l:Int))) then(chk (0<=s1.2/\ s1.2<(length t.l:Int)) (zbe (ix t.l s1.2) (fun x1=>(bif (decide (s1.1>m)) then(some (inr (inl (s1.1)))) else(chk (-9223372036854775808<=(m-s1.1)/\ (m-s1.1)<9223372036854775808) (chk (((pre x1).length<n/\ (pre x1).length<2^40/\ 0<=(m-s1.1)/\ (m-s1.1)<2^40)) (zbe (zty x1 (m-s1.1)) (fun x2=>(chk (-9223372036854775808<=(s1.1+x2)/\ (s1.1+x2)<9223372036854775808) (chk (-9223372036854775808<=(s1.2+1)/\ (s1.2+1)<9223372036854775808) (some (inl ((s1.1+x2),(s1.2+1)))))))))))))) else(some (inr (inl (s1.1)))))) fuel (1,0)) (fun j1=>(some j1)))
theorem ent22:Ent prog 22:=enters_of Tryd.func22 (by kernel_rfl) rfl
theorem few8_sh (fuel:Nat)(n:Nat)(t:Tr)(m:Int)(r:Int)(ih: ∀(x:Tr)(m:Int),((pre x).length<n/\ (pre x).length<2^40/\ 0<=m/\ m<2^40)->Pure (ITP prog) prog 22 [.A x,.raw (.int .i64 m)] (.raw (.int .i64 (zty x m))))(h:z4m fuel n t m=some r):Pure (ITP prog) prog 22 [.A (t:Tr),.raw (.int .i64 m)] (.raw (.int .i64 r)):=by
 unfold z4m at h;refine zbx 25 mix Tryd.func22 ent22 ?_;refine zm (zc ?_);refine zcc (a:= .ptr 0 0) (U'':=(.B [(33,(Enc.cells (t:Tr)))])) ?_;refine w_o (a:= .i 0) ?_;refine zaa [.v (.i 1)] ?_;refine zbk h (bz 0 27 134217727) (fun j1=>[(5,.i j1)]) (fun j1=>(.B [(33,(Enc.cells (t:Tr)))])) ?_ ?_;intro or1 h hr1;refine zaa [.v (.ptr 0 7),.v (.L (t.l:List Tr)),.v (.i (length t.l:Int)),.v (.i 0)] ?_;refine zaj ?_;refine zds h (bz 0 27 134216189) (fun s1=>[(5,.i s1.1),(11,.i s1.2)]) (fun s1=>(.B [(33,(Enc.cells (t:Tr)))])) ?_ ?_;exact zbt (bl 27 3618);intro s1 p1 h;refine zfa ?_;refine zaa [.v (.b (decide (s1.2<(length t.l:Int))))] ?_;refine zm ?_;refine zcj h (fun hc1 h=> ?_) (fun hc1 h=> ?_);refine zm ?_;refine zaj ?_;refine zm (zc ?_);obtain⟨g1,h⟩:=zr h;obtain⟨x1,hx1,h⟩:=zx h;refine qej hx1 g1 ?_;refine w_o (a:= .A (x1:Tr)) ?_;refine zcc (a:= .ptr 1 0) (U'':=(.B [(33,(Enc.cells (t:Tr))),(33,[.u 0,.raw (.int .u64 0),.raw (.int .u64 0),.raw (.int .u64 0),.raw (.int .u64 0),.i 0,.i 0,.list 0 [] .full])])) ?_;refine zcu 8 (.B [(33,(Enc.cells (t:Tr))),(33,(Enc.cells (x1:Tr)))]) ?_;refine zm ?_;refine zaa [.m _,.m _,.v (.b (decide (s1.1>m)))] ?_;refine zcj h (fun hc2 h=> ?_) (fun hc2 h=> ?_);refine zap h (fun h=> ?_);refine ze (o:=or1) (s1.1) h ?_;exact zff (bl 27 32) 1 (by kernel_rfl) (Nat.le_of_ble_eq_true rfl) (zda (zav (zam _ _ (Enc.clo _)) rfl)) (by dsimp only[zbh,zca,foldl,List.set,bz,bzc,Nat.reduceMod,Nat.reduceDiv,Nat.reduceBEq,Nat.reduceAdd];exact(by kernel_rfl)) (by kernel_rfl);refine zc (k0:=0) (id:=6) ?_;refine w_r [.m _,.v (.A (x1:Tr)),.m _,.m _] ?_;obtain⟨g2,h⟩:=zr h;refine w_sb g2 ?_;obtain⟨g3,h⟩:=zr h;obtain⟨x2,hx2,h⟩:=zx h;refine zdh (args':=[.A (x1:Tr),.i (m-s1.1)]) (r:= .i x2) (by rw[<-hx2];exact(ih x1 (m-s1.1) g3)) ?_;obtain⟨g4,h⟩:=zr h;refine zlt g4 ?_;refine zac ?_;refine zc (k0:=0) (id:=7) ?_;obtain⟨g5,h⟩:=zr h;refine zlt g5 ?_;refine zac ?_;refine zbz (p:=p1) ((s1.1+x2),(s1.2+1)) h ?_;exact zff (bl 27 3618) 1 (by kernel_rfl) (Nat.le_of_ble_eq_true rfl) (zda (zav (zam _ _ (Enc.clo _)) rfl)) (by dsimp only[zbh,zca,foldl,List.set,bz,bzc,Nat.reduceMod,Nat.reduceDiv,Nat.reduceBEq,Nat.reduceAdd];exact(za rfl (za rfl (za rfl (za rfl (za rfl (za rfl (za rfl (za rfl (za rfl (za (zcl (Enc.cloL _)) (by kernel_rfl)))))))))))) (by kernel_rfl);refine zap h (fun h=> ?_);refine ze (o:=or1) (s1.1) h ?_;exact zbt (bl 27 32);intro j1 h;refine zfa ?_;refine zaa [.m _,.m _] ?_;exact zjh h
variable {n:Nat}
theorem W64_get (s:BS)(q r:Nat)(hr:r<64):(W64 s q).getLsbD r=s.getLsbD (64*q+r):=by simp[W64,hr]
def arP (s:BS)(i:Nat):Ar:=⟨fun k=>if k<i/\ s.getLsbD k=true then 1 else 0⟩
theorem arP_0 (s:BS):arP s 0=zeroA:=by simp[arP,zeroA]
theorem z9b {s:BS} {k:Nat} (h:s.getLsbD k=true):k<256:=by
 rcases lt_or_ge k 256 with h1|h1
 ·exact h1
 ·rw[BitVec.getLsbD_of_ge s k h1] at h;cases h
theorem arP_256 (s:BS):arP s 256=zfp s:=by
 unfold arP zfp;refine congrArg Ar.mk (funext fun k=> ?_);by_cases h:s.getLsbD k=true
 ·simp[h,z9b h]
 ·simp[h]
theorem arP_hit (s:BS)(i:Nat)(h:s.getLsbD i=true):wrA (arP s i) (i:Int) 1=arP s (i+1):=by
 unfold arP wrA;refine congrArg Ar.mk (funext fun k=> ?_);rw[Int.toNat_natCast];by_cases e:k=i
 ·subst e;simp[h]
 ·simp only[e,if_false];by_cases e2:k<i
  ·simp[e2,show k<i+1 by omega]
  ·simp[e2,show ¬k<i+1 by omega]
theorem qey (s:BS)(i:Nat)(h:s.getLsbD i=false):arP s i=arP s (i+1):=by
 unfold arP;refine congrArg Ar.mk (funext fun k=> ?_);by_cases e:k=i
 ·subst e;simp[h]
 ·by_cases e2:k<i
  ·simp[e2,show k<i+1 by omega]
  ·simp[e2,show ¬k<i+1 by omega]
theorem z9i (s:BS)(i:Nat)(h:s.getLsbD i=false):wrA (arP s i) (i:Int) 0=arP s (i+1):=by
 rw[<-qey s i h];unfold arP wrA;refine congrArg Ar.mk (funext fun k=> ?_);rw[Int.toNat_natCast];by_cases e:k=i
 ·subst e;simp
 ·simp[e]
theorem qdu (s t:BS):eqA (zfp s) (zfp t)=decide (s=t):=by
 unfold eqA;by_cases h:s=t
 ·subst h;simp
 ·have: ¬arL (zfp s)=arL (zfp t):=fun e=>h (BitVec.eq_of_getLsbD_eq fun i hi=>by
   have h1:=congrArg (fun l:List Int=>l[i]?) e;simp only[arL_get _ _ hi,Option.some.injEq] at h1;simp only[zfp] at h1;cases hs:s.getLsbD i<;>cases ht:t.getLsbD i<;>simp[hs,ht] at h1⊢)
  simp[h,this]
theorem qfv {x:Int} (h: -9223372036854775808<=x/\ x<9223372036854775808):IntKind.i64.wrap x=x:=zog h.1 h.2
theorem qgk (h:n<2^64):IntKind.u64.wrap (n:Int)=(n:Int):=by
 simp only[IntKind.wrap,IntKind.bits,IntKind.signed];simp;omega
theorem qfs (fuel:Nat)(hf:256<fuel)(s:BS):zvi fuel s=some (zfp s):=by
 unfold zvi;refine zbl (zfp s) (zks 256 (fun i=>((i:Int),arP s i)) (by simp[arP_0]) (fun i hi=> ?_) ?_ hf) rfl
 ·refine zgy (by simp;omega) ?_;have e1:IntKind.i64.wrap (tdiv (i:Int) 64)=((i/64:Nat):Int):=by
   rw[show tdiv (i:Int) 64=((i/64:Nat):Int) from rfl];exact qfv (by omega)
  have e2:tmod (i:Int) 64=((i%64:Nat):Int):=rfl;simp only[e1,e2,Int.toNat_natCast];obtain⟨w,hw⟩: ∃w,w=W64 s (i/64):=⟨_,rfl⟩;have hw1:wd s (i/64)=((w.toNat:Nat):Int):=by rw[hw];rfl
  have hwl:=w.isLt;refine zbl (arP s (i+1)) (zz (by omega) ?_) (zz (by omega) rfl);refine zbl (((w.toNat/2^(i%64):Nat):Nat):Int) (zks (i%64) (fun j=>(((w.toNat/2^j:Nat):Int),(j:Int))) (by simp[hw1]) (fun j hj=> ?_) ?_ (by omega)) ?_
  ·refine zgy (by simp;omega) (zz (by simp only;omega) ?_);have e3:IntKind.u64.wrap (tdiv ((w.toNat/2^j:Nat):Int) 2)=((w.toNat/2^(j+1):Nat):Int):=by
    rw[show tdiv ((w.toNat/2^j:Nat):Int) 2=((w.toNat/2^j/2:Nat):Int) from rfl,Nat.div_div_eq_div_mul, <-Nat.pow_succ];exact qgk (Nat.lt_of_le_of_lt (Nat.div_le_self _ _) hwl)
   simp only[e3,Int.natCast_add,Int.cast_ofNat_Int]
  ·refine zgd (by simp) rfl
  ·have e4:tmod ((w.toNat/2^(i%64):Nat):Int) 2=((w.toNat/2^(i%64)%2:Nat):Int):=rfl;have hb:s.getLsbD i=decide (w.toNat/2^(i%64)%2=1):=by
    have h:=W64_get s (i/64) (i%64) (Nat.mod_lt _ (by decide));rw[show 64*(i/64)+i%64=i by omega, <-hw] at h;rw[<-h,BitVec.getLsbD,Nat.testBit_eq_decide_div_mod_eq]
   simp only[e4];generalize hm:w.toNat/2^(i%64)%2=m at*
   have hm2:m<2:=by rw[<-hm];exact Nat.mod_lt _ (by decide)
   refine zz (by omega) (zz (by omega) ?_);rcases(by omega:m=0 \/m=1) with rfl|rfl
   ·rw[Int.natCast_zero,z9i s i (by simpa using hb)]
   ·rw[show((1:Nat):Int)=1 from rfl,arP_hit s i (by simpa using hb)]
 ·refine zgd (by simp) ?_;simp only[arP_256]
theorem k_words (s:BS):Pure (ITP prog) prog 45 [.agg (Enc.cells s)] (.agg (Enc.cells (zfp s))):=qfb 257 s _ (qfs 257 (by decide) s)
theorem zzm: ∀(n:Nat) (t:Tr) (m:Int),(pre t).length<=n->0<=m->(((pre t).length:Int)<=m->zty t m=(pre t).length)/\ (((pre t).length:Int)>m->zty t m>m/\ zty t m<=(pre t).length)
 |0,t,m,hn,_=>by have:=zqq t;omega
 | n + 1,t,m,hn,hm=>by
  have hp:(pre t).length=1+(zdb t.l).length:=by rw[zfx,length_cons];omega
  have key: ∀(l:List Tr) (s:Int),(zdb l).length<=n->0<=s->(s+(zdb l).length<=m->z8i l m s=s+(zdb l).length)/\ (s+(zdb l).length>m->z8i l m s>m/\ z8i l m s<=s+(zdb l).length):=by
   intro l;induction l with
   |nil=>intro s _ _;simp only[z8i,zdb,length_nil];omega
   | cons x l ih=>
    intro s hl hs;simp only[zdb,length_append] at hl⊢;rw[z8i];by_cases h:s>m
    ·rw[if_pos h];omega
    ·rw[if_neg h];have h1:=zzm n x (m-s) (by omega) (by omega);by_cases hx:((pre x).length:Int)<=m-s
     ·have h2:=h1.1 hx;have h3:=ih (s+zty x (m-s)) (by omega) (by omega);rw[h2] at h3⊢;omega
     ·have h2:=h1.2 (by omega);have h3:=ih (s+zty x (m-s)) (by omega) (by omega);omega
  have hk:=key t.l 1 (by omega) (by omega);have e:zty t m=z8i t.l m 1:=by obtain⟨k,s,mn,mx,l⟩:=t;rw[zty];rfl
  rw[e];omega
theorem few_le (t:Tr)(m:Int)(hm:0<=m):0<=zty t m/\ zty t m<=(pre t).length:=by
 have:=zzm _ t m (le_refl _) hm;by_cases h:((pre t).length:Int)<=m<;>omega
theorem few8_eq {fuel:Nat} (n:Nat)(t:Tr)(m:Int)(hn:(pre t).length<n+1)(hs:(pre t).length<2^40)(hm:0<=m/\ m<2^40)(hf:(pre t).length<fuel):z4m fuel n t m=some (zty t m):=by
 have hp:(pre t).length=1+(zdb t.l).length:=by rw[zfx,length_cons];omega
 have hlen:=zck t.l;unfold z4m;have e:zty t m=z8i t.l m 1:=by obtain⟨k,s,mn,mx,l⟩:=t;rw[zty];rfl
 rw[e];refine zbl (z8i t.l m 1) ?_ rfl;have key: ∀(k i:Nat) (s:Int),i+k=t.l.length->0<=s->s+(zdb (t.l.drop i)).length<=2^41-> ∀f,k<f->zbg (β:=Int×Int) (fun s1=>(bif (decide (s1.2<(length t.l:Int))) then(chk (0<=s1.2/\ s1.2<(length t.l:Int)) (zbe (ix t.l s1.2) (fun x1=>(bif (decide (s1.1>m)) then(some (inr (inl (β:=Int) (s1.1)))) else(chk (-9223372036854775808<=(m-s1.1)/\ (m-s1.1)<9223372036854775808) (chk (((pre x1).length<n/\ (pre x1).length<2^40/\ 0<=(m-s1.1)/\ (m-s1.1)<2^40)) (zbe (zty x1 (m-s1.1)) (fun x2=>(chk (-9223372036854775808<=(s1.1+x2)/\ (s1.1+x2)<9223372036854775808) (chk (-9223372036854775808<=(s1.2+1)/\ (s1.2+1)<9223372036854775808) (some (inl ((s1.1+x2),(s1.2+1)))))))))))))) else(some (inr (inl (s1.1)))))) f (s,(i:Int))=some (inl (z8i (t.l.drop i) m s)):=by
  intro k;induction k with
  | zero=>
   intro i s hi _ _ f hf
   match f,hf with
   | f+1,_=>
    rw[zbg,List.drop_of_length_le (by omega),z8i];simp only;rw[show decide ((i:Int)<(t.l.length:Int))=false by simp;omega];rfl
  | succ k ih=>
   intro i s hi hs0 hss f hf
   match f,hf with
   | f+1,hf=>
    have hil:i<t.l.length:=by omega
    rw[zbg,List.drop_eq_getElem_cons hil,z8i];simp only;rw[show decide ((i:Int)<(t.l.length:Int))=true by simp;omega,cond_true,zbj (by omega),zbe,zjq hil];rw[List.drop_eq_getElem_cons hil,zdb,length_append] at hss;have hx:=zfd (getElem_mem hil);by_cases h:s>m
    ·rw[if_pos h,show decide (s>m)=true by simpa using h];rfl
    ·rw[if_neg h,show decide (s>m)=false by simpa using h,cond_false,zbj (by omega),zbj (by omega),zbe];have hfl:=few_le t.l[i] (m-s) (by omega);rw[zbj (by omega),zbj (by omega)];have:=ih (i+1) (s+zty t.l[i] (m-s)) (by omega) (by omega) (by omega) f (by omega);simp only[Int.natCast_add,Int.natCast_one] at this;exact this
 have:=key t.l.length 0 1 (by omega) (by omega) (by rw[List.drop_zero];omega) fuel (by omega);rw[List.drop_zero] at this;exact this
theorem z9j: ∀(n:Nat) (t:Tr) (m:Int),((pre t).length<n/\ (pre t).length<2^40/\ 0<=m/\ m<2^40)->Pure (ITP prog) prog 22 [.agg (Enc.cells t),.raw (.int .i64 m)] (.raw (.int .i64 (zty t m)))
 |0,t,m,h=>absurd h.1 (not_lt_zero _)
 |n+1,t,m,h=>few8_sh ((pre t).length+1) n t m _ (fun x m hx=>z9j n x m hx) (few8_eq n t m h.1 h.2.1 h.2.2 (by omega))
theorem qjv (t:Tr)(m:Int)(h:(pre t).length<2^40/\ 0<=m/\ m<2^40):Pure (ITP prog) prog 22 [.agg (Enc.cells t),.raw (.int .i64 m)] (.raw (.int .i64 (zty t m))):=z9j ((pre t).length+1) t m ⟨by omega,h⟩
def KO (t:Tr):Prop:=(∀x∈pre t,x.k<256)/\ (pre t).length<2^35
instance (t:Tr):Decidable (KO t):=inferInstanceAs (Decidable (_/\ _))
section
variable {P:Program} {ρ:Operand->AV} {U:St} {o:Oper}
theorem q_lit1 {α:Type} [Enc α] {x:α} {p:Operand} {t e:TypeId} {i:TypeInfo} {z:Value} (ho:o.op= .buildSlice t 1 #[(0,p)])(hp:ρ p= .agg (Enc.cells x))(hu:P.underlying t=some (.slice e))(hi:P.info? e=some i)(hz:i.zero=some z)(hsz:i.size=Enc.sz α)(hzs:z.cells.size=Enc.sz α)(h1:z.cells.toList.all (·.oneCell')=true)(hm:Enc.sz α<=2^24):
 qop P ρ U o=some (.list 1 (Enc.cells x++[]) .full):=by
 have hp0:=Enc.pos (α:=α);have hl:zjv P t 1 [(0,ρ p)]=some (Enc.cells x++[],e,i.size):=by
  unfold zjv;simp only[hu,hi,hz,hsz,Nat.one_mul];rw[if_neg (by decide),if_pos ⟨h1,by omega,hm,by omega⟩];simp only[zwd,hp,Nat.zero_mul,zero_add,zht,zcg,Enc.len,length_map,List.length_range];rw[if_pos ⟨trivial,trivial,le_refl _⟩];simp[List.drop_of_length_le]
 simp only[qop,ho,zoa,map_cons,List.map_nil,hl,map_some]
theorem ztn {cs:List AV}:zcg (zci n cs)=[zci n cs]:=by unfold zci;split<;>rfl
theorem z6w {cs:List AV}:zht (zci n cs)=true:=by unfold zci;split<;>rfl
end
theorem z7u {ρ:Operand->AV} {U:St} {o:Oper} {x y:Operand} {b:Nat} {tt:TypeId} {a:AV} {cs:List AV} (t:Tr)(ho:o.op= .store 66 x y)(hx:ρ x= .ptr b 259)(hy:ρ y=zci n cs)(hb:U.boxes[b]? =some (tt,rtX t a)):
 aop prog ρ U o=some (.raw undef,{U with boxes:=U.boxes.set b (tt,rtX t (zci n cs))}):=by
 rw[z2v t ho hx hy hb ⟨z6w,by rw[ztn];rfl⟩,ztn];rfl
def zv106:Value:= .agg (#[Value.int .i64 0]++((List.range 256).map fun _=>Value.int .i64 0).toArray++ #[Value.int .i64 0,Value.int .i64 0,Value.slice none 0 0])
theorem z8y:zhw prog 68=some zv106:=by kernel_rfl
def zc106:List AV:=zcg (zje zv106)
theorem z0p:zc106.length=260:=by kernel_rfl
theorem qfo:zaf 3 zc106=true:=by kernel_rfl
theorem z3b {ρ:Operand->AV} {U:St} {o:Oper} (ho:o.op= .alloc 68):aop prog ρ U o=some (.ptr U.boxes.length 0,{U with boxes:=U.boxes++[(68,zc106)]}):=by
 have h:zqo prog U 68=some (.ptr U.boxes.length 0,{U with boxes:=U.boxes++[(68,zc106)]}):=by rw[ztf z8y];rfl
 simp only[aop,qop,ho,h]
theorem qbl {P:Program} {U:St} {S:List AV} {fn:Func} {k t:Nat} {a:AV} (hr:fn.results.toList=[.cell k t])(h:zlg P U t ((S[k]?).getD (.raw undef))=some a):zaz P fn U S=some a:=by
 unfold zaz;rw[hr];simp only[z1k,qae,h]
theorem z9u {n:Nat} (t:Tr)(l:List RT):zaf n (rtX t (zci l.length (Enc.cellsL l)))=true:=by
 rw[rtX];have: ∀a b:List AV,zaf n a=true->zaf n b=true->zaf n (a++b)=true:=fun a b h1 h2=>by
  induction a with
  |nil=>exact h2
  |cons x a ih=>rw[zaf,Bool.and_eq_true] at h1;rw[cons_append,zaf,h1.1,ih h1.2];rfl
 exact this _ _ (zam _ _ (zpo t)) (za (zei (Enc.cloL _)) rfl)
def zrh (fuel:Nat)(n:Nat)(t:Tr):Option Tr:=
 chk (t.k<256) (zdl (τ:=List RT) (zbg (β:=List RT×Int) (fun s=>(bif (decide (s.2<(length t.l:Int))) then(chk (0<=s.2/\ s.2<(length t.l:Int)) (zbe (ix t.l s.2) (fun x=>(chk ((pre x).length<n/\ KO x) (chk ((length s.1+length [RT.mk x])*2096<=140737488355328) (chk (-9223372036854775808<=(s.2+1)/\ (s.2+1)<9223372036854775808) (some (inl (s.1++[RT.mk x],s.2+1))))))))) else(some (inr (inl s.1))))) fuel ([],0)) (fun j=>some (Tr.mk t.k t.s t.mn t.mx (j.map RT.t))))
theorem ent24:Ent prog 24:=enters_of Tryd.func24 (by kernel_rfl) rfl
theorem z8v (fuel:Nat)(n:Nat)(t:Tr)(r:Tr)(ih: ∀x:Tr,(pre x).length<n/\ KO x->Pure (ITP prog) prog 24 [.agg (Enc.cells x)] (.agg (Enc.cells (RT.mk x))))(h:zrh fuel n t=some r):Pure (ITP prog) prog 24 [.agg (Enc.cells (t:Tr))] (.agg (Enc.cells (RT.mk r))):=by
 obtain⟨d,hd⟩: ∃d,Tryd.f24.body=some d:=⟨_,rfl⟩;refine ziu mix Tryd.func24 hd ent24 ?_;cases hd;unfold zrh at h;obtain⟨g0,h⟩:=zr h;refine zbn (by dsimp only[zat,Tryd.f24,length_cons,length_nil,zero_add,Nat.reduceAdd,Nat.reduceSub,List.replicate,cons_append,List.nil_append]) (by dsimp only[St.empty]) ?_;refine zm (zc ?_);refine zgl (a:= .ptr 0 0) (U'':=⟨[(33,(Enc.cells (t:Tr)))],[],[],0,false⟩) rfl rfl rfl rfl (by dsimp only[zy,List.set]) rfl ?_;refine zgl (a:= .ptr 1 0) (U'':=⟨[(33,(Enc.cells (t:Tr))),(68,zc106)],[],[],0,false⟩) rfl rfl rfl (z3b rfl) (by dsimp only[zy,List.set]) rfl ?_;refine zm ?_;refine qaj (k0:=0) (id:=1) 12 (by kernel_rfl) (by kernel_rfl) ?_;refine zqx (a:= .ptr 0 0) rfl rfl rfl rfl rfl (by dsimp only[zy,List.set]) ?_;refine zqx (a:= .raw (.int .u8 ((t.k:Nat):Int))) rfl rfl rfl rfl rfl (by dsimp only[zy,List.set]) ?_;refine zqx (a:= .raw (.int .i64 ((t.k:Nat):Int))) rfl rfl rfl rfl (zmf (by omega) rfl rfl rfl) (by dsimp only[zy,List.set]) ?_;refine zqx (a:= .ptr 0 1) rfl rfl rfl rfl rfl (by dsimp only[zy,List.set]) ?_;refine zqx (a:= .agg (Enc.cells (t.s:BS))) rfl rfl rfl rfl rfl (by dsimp only[zy,List.set]) ?_;refine znb (args':=[.agg (Enc.cells (t.s:BS))]) (r:= .agg (Enc.cells (zfp t.s))) (k_words t.s) rfl rfl rfl rfl (zh (zbu (zab (Enc.clo _))) rfl) (za (zao _ _ (zab (Enc.clo _))) rfl) (by dsimp only[zy,List.set]) ?_;refine zqx (a:= .ptr 0 5) rfl rfl rfl rfl rfl (by dsimp only[zy,List.set]) ?_;refine zqx (a:= .raw (.int .i64 t.mn)) rfl rfl rfl rfl rfl (by dsimp only[zy,List.set]) ?_;refine zqx (a:= .ptr 0 6) rfl rfl rfl rfl rfl (by dsimp only[zy,List.set]) ?_;refine zqx (a:= .raw (.int .i64 t.mx)) rfl rfl rfl rfl rfl (by dsimp only[zy,List.set]) ?_;refine zqx (a:= .agg (rtX (.mk t.k t.s t.mn t.mx []) (.list 0 [] .full))) rfl rfl rfl rfl (by kernel_rfl) (by dsimp only[zy,List.set]) ?_;refine qjb zv106 rfl rfl rfl rfl rfl z8y (by dsimp only[List.set]) ?_;refine z5u (n:=2) rfl (show _=(⟨[(33,(Enc.cells (t:Tr))),(68,zc106),(68,zc106)],[],[],0,false⟩:St) from rfl) (by dsimp only[List.nil_append,cons_append,zna,List.set,Nat.reduceAdd]) ?_;refine zgl (U'':=⟨[(33,(Enc.cells (t:Tr))),(68,zc106),(68,rtX (.mk t.k t.s t.mn t.mx []) (.list 0 [] .full))],[],[],0,false⟩) rfl rfl rfl (zay (n:=260) rfl rfl rfl rfl z1h z0p rfl (zpr _ _) (by decide)) (by dsimp only[zy,List.set]) rfl ?_;refine zbk h [5,6,7,8,9,10,11,12,13,14,15,16,17,18,19,20,21,22,23,24,25,26,27,28,29,30,31] (fun _=>[]) (fun j=>(zco [(33,(Enc.cells (t:Tr))),(68,zc106),(68,rtX (.mk t.k t.s t.mn t.mx []) (zci (length (j:List RT)) (Enc.cellsL (j:List RT))))] 68 (length (j:List RT)) 260)) ?_ ?_
 .
  intro or1 h hr1
  refine zm (zc ?_)
  refine zif (a:= .ptr 0 7) rfl rfl rfl rfl (by dsimp only[zy,List.set]) ?_
  refine zif (a:= .list (length (t.l:List Tr)) (Enc.cellsL (t.l:List Tr)) .none) rfl rfl rfl rfl (by dsimp only[zy,List.set]) ?_
  refine zif (a:= .raw (.int .i64 (length t.l:Int))) rfl rfl rfl rfl (by dsimp only[zy,List.set]) ?_
  refine zif (a:= .raw (.int .i64 0)) rfl rfl rfl rfl (by dsimp only[zy,List.set]) ?_
  refine zaj ?_
  refine zds h [5,20,21,22,23,24,25,26,27,28,29,30,31,6,7,8,9,10,11,12,13,14,15,16,17] (fun s=>[(20,.raw (.int .i64 s.2))]) (fun s=>(zco [(33,(Enc.cells (t:Tr))),(68,zc106),(68,rtX (.mk t.k t.s t.mn t.mx []) (zci (length (s.1:List RT)) (Enc.cellsL (s.1:List RT))))] 68 (length (s.1:List RT)) 260)) ?_ ?_
  .
   exact zgb [true,true,true,true,true,false,false,false,false,false,false,false,false,false,false,false,false,false,true,true,true,false,false,false,false,false,false,false,false,false,false,false,true] (by kernel_rfl) (by kernel_rfl)
  .
   intro s1 p1 h
   refine zbn (by dsimp only[zbh,zca,foldl,List.set]) rfl ?_
   refine zm (zc ?_)
   refine zif (a:= .raw (.bool (decide (s1.2<(length t.l:Int))))) rfl rfl rfl rfl (by dsimp only[zy,List.set]) ?_
   refine zm ?_
   refine zt h (fun hc1 h=> ?_) (fun hc1 h=> ?_)
   .
    refine zbv hc1 rfl ?_
    refine zm ?_
    refine zaj ?_
    refine zm (zc ?_)
    obtain⟨g1,h⟩:=zr h
    obtain⟨x1,hx1,h⟩:=zx h
    refine zif (a:= .iptr (Enc.cells x1++Enc.cellsL (List.drop (toNat s1.2+1) t.l))) rfl rfl rfl (zbf (by rw[<-hx1];exact(qhp (α:=Tr) (l:=t.l) g1 rfl rfl rfl rfl rfl))) (by dsimp only[zy,List.set]) ?_
    refine zif (a:= .agg (Enc.cells (x1:Tr))) rfl rfl rfl rfl (by dsimp only[zy,List.set]) ?_
    refine zgl (a:= .ptr 3 0) (U'':=(zco [(33,(Enc.cells (t:Tr))),(68,zc106),(68,rtX (.mk t.k t.s t.mn t.mx []) (zci (length (s1.1:List RT)) (Enc.cellsL (s1.1:List RT)))),(33,[.raw (.int .u8 0),.raw (.int .u64 0),.raw (.int .u64 0),.raw (.int .u64 0),.raw (.int .u64 0),.raw (.int .i64 0),.raw (.int .i64 0),.list 0 [] .full])] 68 (length (s1.1:List RT)) 260)) rfl rfl rfl rfl (by dsimp only[zy,List.set]) rfl ?_
    refine zgl (U'':=(zco [(33,(Enc.cells (t:Tr))),(68,zc106),(68,rtX (.mk t.k t.s t.mn t.mx []) (zci (length (s1.1:List RT)) (Enc.cellsL (s1.1:List RT)))),(33,(Enc.cells (x1:Tr)))] 68 (length (s1.1:List RT)) 260)) rfl rfl rfl (zay (n:=8) rfl rfl rfl rfl rfl rfl rfl rfl (by decide)) (by dsimp only[zy,List.set]) rfl ?_
    obtain⟨g2,h⟩:=zr h
    obtain⟨g3,h⟩:=zr h
    obtain⟨g4,h⟩:=zr h
    refine zkh (k0:=0) (id:=5) 5 (by kernel_rfl) (by kernel_rfl) ?_
    refine qit (a:= .ptr 2 259) rfl rfl rfl rfl (by dsimp only[zy,List.set]) ?_
    refine qit (a:=(zci (length (s1.1:List RT)) (Enc.cellsL (s1.1:List RT)))) rfl rfl rfl (zzo (.mk t.k t.s t.mn t.mx []) rfl rfl rfl) (by dsimp only[zy,List.set]) ?_
    refine qit (a:= .agg (Enc.cells (x1:Tr))) rfl rfl rfl rfl (by dsimp only[zy,List.set]) ?_
    refine qcc (args':=[.agg (Enc.cells (x1:Tr))]) (r:= .agg (Enc.cells (RT.mk x1))) (ih x1 g2) rfl rfl rfl (zh (zbu (zab (Enc.clo _))) rfl) (za (zao _ _ (zab (Enc.clo _))) rfl) (by dsimp only[zy,List.set]) ?_
    refine qit (a:= .list (length ([RT.mk x1]:List RT)) (Enc.cellsL ([RT.mk x1]:List RT)) .full) rfl rfl rfl (zhz (α:=RT) (l:=[RT.mk x1]) (cs:=Enc.cells (RT.mk x1)++[]) (q_lit1 (α:=RT) (x:=RT.mk x1) rfl rfl rfl rfl rfl rfl rfl rfl (by decide)) (by rw[Enc.cons,Enc.nil])) (by dsimp only[zy,List.set]) ?_
    refine zkn ?_
    refine zgl (a:=(zci (length ((s1.1++[RT.mk x1]):List RT)) (Enc.cellsL ((s1.1++[RT.mk x1]):List RT)))) (U'':=(zco [(33,(Enc.cells (t:Tr))),(68,zc106),(68,rtX (.mk t.k t.s t.mn t.mx []) (zci (length (s1.1:List RT)) (Enc.cellsL (s1.1:List RT)))),(33,(Enc.cells (x1:Tr)))] 68 (length ((s1.1++[RT.mk x1]):List RT)) 260)) rfl rfl rfl (ztc rfl rfl rfl rfl (zjz (α:=RT) (bs:=[(33,(Enc.cells (t:Tr))),(68,zc106),(68,rtX (.mk t.k t.s t.mn t.mx []) (zci (length (s1.1:List RT)) (Enc.cellsL (s1.1:List RT)))),(33,(Enc.cells (x1:Tr)))]) (a:=s1.1) (b:=[RT.mk x1]) g3 rfl rfl rfl rfl rfl ⟨rfl,by decide⟩)) (by dsimp only[zy,List.set]) rfl ?_
    refine zif (a:= .ptr 2 259) rfl rfl rfl rfl (by dsimp only[zy,List.set]) ?_
    refine zgl (U'':=(zco [(33,(Enc.cells (t:Tr))),(68,zc106),(68,rtX (.mk t.k t.s t.mn t.mx []) (zci (length ((s1.1++[RT.mk x1]):List RT)) (Enc.cellsL ((s1.1++[RT.mk x1]):List RT)))),(33,(Enc.cells (x1:Tr)))] 68 (length ((s1.1++[RT.mk x1]):List RT)) 260)) rfl rfl rfl (z7u (.mk t.k t.s t.mn t.mx []) rfl rfl rfl rfl) (by dsimp only[zy,List.set]) rfl ?_
    refine zc (k0:=0) (id:=6) ?_
    refine zif (a:= .raw (.int .i64 (s1.2+1))) rfl rfl rfl (zbf (znz rfl rfl rfl rfl g4.1 g4.2)) (by dsimp only[zy,List.set]) ?_
    refine zac ?_
    refine zbz (p:=p1) ((s1.1++[RT.mk x1]),(s1.2+1)) h ?_
    exact zff [true,true,true,true,true,false,false,false,false,false,false,false,false,false,false,false,false,false,true,true,true,false,false,false,false,false,false,false,false,false,false,false,true] 3 (by kernel_rfl) (Nat.le_of_ble_eq_true rfl) (zda (zav (zam _ _ (Enc.clo _)) (zav qfo (zav (z9u _ _) rfl)))) (by dsimp only[zbh,zca,foldl,List.set];exact(za (zao _ _ (zab (Enc.clo _))) (za rfl (za rfl (za rfl (za rfl (za rfl (za rfl (za rfl (za rfl (za rfl (za rfl (za rfl (za rfl (za rfl (za rfl (za rfl (za rfl (za rfl (za (zcl (Enc.cloL _)) (za rfl (za rfl (za rfl (za rfl (za rfl (za rfl (za rfl (za rfl (za rfl (za rfl (za rfl (za rfl (za rfl (za rfl rfl)))))))))))))))))))))))))))))))))) (by kernel_rfl)
   .
    refine zbw hc1 rfl ?_
    refine zap h (fun h=> ?_)
    refine ze (o:=or1) (s1.1) h ?_
    exact zgb [true,true,true,true,true,false,false,false,false,false,false,false,false,false,false,false,false,false,false,false,false,false,false,false,false,false,false,false,false,false,false,false,true] (by kernel_rfl) (by kernel_rfl)
 .
  intro j1 h
  refine zbn (by dsimp only[zbh,zca,foldl,List.set]) rfl ?_
  refine zm (zc ?_)
  refine zif (a:= .agg (rtX (.mk t.k t.s t.mn t.mx []) (zci (length (j1:List RT)) (Enc.cellsL (j1:List RT))))) rfl rfl rfl (zbf (qgr (zpr _ _) rfl rfl rfl)) (by dsimp only[zy,List.set]) ?_
  refine zgl (U'':=(zco [(33,(Enc.cells (t:Tr))),(68,rtX (.mk t.k t.s t.mn t.mx []) (zci (length (j1:List RT)) (Enc.cellsL (j1:List RT)))),(68,rtX (.mk t.k t.s t.mn t.mx []) (zci (length (j1:List RT)) (Enc.cellsL (j1:List RT))))] 68 (length (j1:List RT)) 260)) rfl rfl rfl (zay (n:=260) rfl rfl rfl rfl z1h z0p rfl (zpr _ _) (by decide)) (by dsimp only[zy,List.set]) rfl ?_
  have hxr:=Option.some.inj h
  subst hxr
  refine z5o (a:= .agg (rtX (.mk t.k t.s t.mn t.mx []) (zci (length (j1:List RT)) (Enc.cellsL (j1:List RT))))) (qbl rfl ?_) (by rw[zbs];exact z9u _ _) (z9f (.mk t.k t.s t.mn t.mx []) j1)
  have:=rd_rt (rtX (.mk t.k t.s t.mn t.mx []) (zci (length (j1:List RT)) (Enc.cellsL (j1:List RT)))) [] (zpr _ _)
  rw[append_nil] at this
  exact this
theorem KO.sub {t x:Tr} (h:KO t)(hx:x∈t.l):KO x:=by
 have h1:=zfd hx;have hp:(pre t).length=1+(zdb t.l).length:=by rw[zfx,length_cons];omega
 refine⟨fun y hy=>h.1 y ?_,by have:=h.2;omega⟩;rw[zfx];refine List.mem_cons_of_mem _ ?_;have: ∀l:List Tr,x∈l->y∈zdb l:=fun l=>by
  induction l with
  |nil=>intro h;cases h
  | cons z l ih=>
   intro h;rw[zdb,mem_append];rcases mem_cons.1 h with rfl|h
   ·exact .inl hy
   ·exact .inr (ih h)
 exact this _ hx
theorem qdz {fuel:Nat} (n:Nat)(t:Tr)(h:KO t)(hn:(pre t).length<n+1)(hf:(pre t).length<fuel):zrh fuel n t=some t:=by
 have hp:(pre t).length=1+(zdb t.l).length:=by rw[zfx,length_cons];omega
 have hlen:=zck t.l;have h2:=h.2;unfold zrh;refine zz (h.1 t (qff t)) (zbl (t.l.map RT.mk) ?_ ?_)
 ·refine zks t.l.length (fun i=>((t.l.take i).map RT.mk,(i:Int))) (by simp) (fun i hi=> ?_) ?_ (by omega)
  ·refine zgy (by simpa using hi) (zz (by simp only;omega) (zak fun x1 e1=> ?_));simp only at e1;rw[zjq hi] at e1;have hm:x1∈t.l:=e1▸getElem_mem hi;have hx:=zfd hm;have q:(t.l.take i).length<=t.l.length:=List.length_take_le' _ _;refine zz ⟨by omega,h.sub hm⟩ (zz (by simp only[length_map,length_cons,length_nil];omega) (zz (by simp only;omega) ?_));rw[List.take_succ_eq_append_getElem hi,List.map_append,e1];rfl
  ·refine zgd (by simp) ?_;simp
 ·have:(t.l.map RT.mk).map RT.t=t.l:=by rw[map_map];exact List.map_id _
  rw[this, <-Tr.eta]
theorem zvf: ∀(n:Nat) (t:Tr),(pre t).length<n/\ KO t->Pure (ITP prog) prog 24 [.agg (Enc.cells t)] (.agg (Enc.cells (RT.mk t)))
 |0,t,h=>absurd h.1 (not_lt_zero _)
 |n+1,t,h=>z8v ((pre t).length+1) n t _ (fun x hx=>zvf n x hx) (qdz n t h.2 h.1 (by omega))
theorem z5g (t:Tr)(h:KO t):Pure (ITP prog) prog 24 [.agg (Enc.cells t)] (.agg (Enc.cells (RT.mk t))):=zvf ((pre t).length+1) t ⟨by omega,h⟩
def rtL (r:RT):List RT:=r.t.l.map RT.mk
theorem z1f (r:RT):(rtL r).length=r.t.l.length:=by simp[rtL]
theorem qbw (r:RT):Enc.cellsL (rtL r)=qed r.t.l:=by
 show qed ((r.t.l.map RT.mk).map RT.t)=_;rw[map_map];congr 1;exact List.map_id _
section
variable {ρ:Operand->AV} {U:St} {o:Oper} {x:Operand} {b:Nat} {tt:TypeId}
theorem z5c (r:RT)(ho:o.op= .load 3 x)(hx:ρ x= .ptr b 0)(hb:U.boxes[b]? =some (tt,Enc.cells r)):qop prog ρ U o=some (.raw (.int .i64 ((r.t.k:Nat):Int))):=qcl r.t ho hx (zmd r▸hb)
theorem z4z (r:RT)(ho:o.op= .load 65 x)(hx:ρ x= .ptr b 1)(hb:U.boxes[b]? =some (tt,Enc.cells r)):qop prog ρ U o=some (.agg (Enc.cells (zfp r.t.s))):=qdx r.t ho hx (zmd r▸hb)
theorem z5b (r:RT)(ho:o.op= .load 3 x)(hx:ρ x= .ptr b 257)(hb:U.boxes[b]? =some (tt,Enc.cells r)):qop prog ρ U o=some (.raw (.int .i64 r.t.mn)):=qcm r.t ho hx (zmd r▸hb)
theorem z5l (r:RT)(ho:o.op= .load 3 x)(hx:ρ x= .ptr b 258)(hb:U.boxes[b]? =some (tt,Enc.cells r)):qop prog ρ U o=some (.raw (.int .i64 r.t.mx)):=qag r.t ho hx (zmd r▸hb)
theorem znh (r:RT)(ho:o.op= .load 66 x)(hx:ρ x= .ptr b 259)(hb:U.boxes[b]? =some (tt,Enc.cells r)):qop prog ρ U o=some (.list (length (rtL r)) (Enc.cellsL (rtL r)) .none):=by
 rw[z1f,qbw];exact zzo r.t ho hx (zmd r▸hb)
end
theorem rs_neA {ρ:Operand->AV} {o:Oper} {x y:Operand} {c} (s t:Ar)(ho:o.op= .binOp .neq 65 x y c)(hx:ρ x= .agg (Enc.cells s))(hy:ρ y= .agg (Enc.cells t)):zns prog ρ o (.raw (.bool (!(eqA s t)))):=by
 replace hx:ρ x= .agg ((arL s).map qjy):=hx;replace hy:ρ y= .agg ((arL t).map qjy):=hy;refine⟨?_,by rw[ho];intros;simp,by rw[ho];intros;simp,.bool (!(eqA s t)),fun w=> ?_,rfl,rfl⟩
 ·rw[ho];simp[Op.operands,hx,hy,zpm]
 ·have h1:zce ρ x= .agg ((arL s).map (Value.int .i64)).toArray:=by simp only[zce,hx,zpm,getD_some]
  have h2:zce ρ y= .agg ((arL t).map (Value.int .i64)).toArray:=by simp only[zce,hy,zpm,getD_some]
  have h3:=eqIn103 9998 (arL s) (arL t) (qas s) (qas t) w;simp[execOp,ho,h1,h2,eqGuard,binOp,Op.equal,Op.maxDepth,program,Sem.run,qin,h3,eqA]
end Go.Ab
namespace Go.Ab
open Go Go.RowKit Go.Fwd Go.Proofs
def z2c (a b:RT):Bool:=zgk a.t b.t
def zrg (fuel:Nat)(n:Nat)(a:RT)(b:RT):Option Bool:=
 (bif (((a.t.k:Nat):Int) !=((b.t.k:Nat):Int)) then(some false) else(bif (!(eqA (zfp a.t.s) (zfp b.t.s))) then(some false) else(bif (a.t.mn !=b.t.mn) then(some false) else(bif (a.t.mx !=b.t.mx) then(some false) else(bif ((length (rtL a):Int) !=(length (rtL b):Int)) then(some false) else(zdl (τ:=Unit) (zbg (β:=Int) (fun s1=>(bif (decide (s1<(length (rtL a):Int))) then(chk (0<=s1/\ s1<(length (rtL a):Int)) (zbe (ix (rtL a) s1) (fun x1=>(chk (0<=s1/\ s1<(length (rtL b):Int)) (zbe (ix (rtL b) s1) (fun x2=>(chk (((pre x1.t).length<n)) (zbe (z2c x1 x2) (fun x3=>(bif (!x3) then(some (inr (inr false))) else(chk (-9223372036854775808<=(s1+1)/\ (s1+1)<9223372036854775808) (some (inl ((s1+1))))))))))))))) else(some (inr (inl ()))))) fuel (0)) (fun j1=>(some true))))))))
theorem ent23:Ent prog 23:=enters_of Tryd.func23 (by kernel_rfl) rfl
theorem qdt (fuel:Nat)(n:Nat)(a:RT)(b:RT)(r:Bool)(ih: ∀(x y:RT),((pre x.t).length<n)->Pure (ITP prog) prog 23 [.A x,.A y] (.raw (.bool (z2c x y))))(h:zrg fuel n a b=some r):Pure (ITP prog) prog 23 [.A (a:RT),.A (b:RT)] (.raw (.bool r)):=by
 unfold zrg at h;refine zbx 58 mix Tryd.func23 ent23 ?_;refine zm (zc ?_);refine zcc (a:= .ptr 0 0) (U'':=(.B [(68,(Enc.cells (a:RT)))])) ?_;refine zcc (a:= .ptr 1 0) (U'':=(.B [(68,(Enc.cells (a:RT))),(68,(Enc.cells (b:RT)))])) ?_;refine w_o (a:= .b false) ?_;refine zm ?_;refine zaa [.v (.ptr 0 0)] ?_;refine w_o (a:= .i ((a.t.k:Nat):Int)) (h:=zbf (z5c a rfl rfl rfl)) ?_;refine w_o (a:= .ptr 1 0) ?_;refine w_o (a:= .i ((b.t.k:Nat):Int)) (h:=zbf (z5c b rfl rfl rfl)) ?_;refine w_o (a:= .b (((a.t.k:Nat):Int) !=((b.t.k:Nat):Int))) ?_;refine zt h (fun hc1 h=> ?_) (fun hc1 h=> ?_);refine zae hc1 ?_;refine w_r [.p,.p,.p,.p,.p] ?_;refine w_r [.v (.b true),.m _,.p,.p,.p] ?_;refine w_r [.p,.p,.v (.b true),.m _,.p] ?_;refine w_r [.p,.p,.p,.p,.v (.b true)] ?_;refine w_r [.m _,.p,.p,.p,.p] ?_;refine w_r [.p,.p,.p,.v (.b true)] ?_;refine zbi rfl ?_;refine zaa [.v (.b false)] ?_;exact zbm h;refine zae hc1 ?_;refine zal rfl rfl ?_;refine w_o (a:= .ptr 0 1) ?_;refine zal rfl rfl ?_;refine w_o (a:= .A ((zfp a.t.s):Ar)) (h:=zbf (z4z a rfl rfl rfl)) ?_;refine zal rfl rfl ?_;refine w_o (a:= .ptr 1 1) ?_;refine zal rfl rfl ?_;refine w_o (a:= .A ((zfp b.t.s):Ar)) (h:=zbf (z4z b rfl rfl rfl)) ?_;refine zal rfl rfl ?_;refine z7m (.b (!(eqA (zfp a.t.s) (zfp b.t.s)))) rfl rfl rfl (rs_neA (zfp a.t.s) (zfp b.t.s) rfl rfl rfl) (by dsimp only[zy,List.set]) ?_;refine w_o (a:= .b (!(eqA (zfp a.t.s) (zfp b.t.s)))) ?_;refine zt h (fun hc2 h=> ?_) (fun hc2 h=> ?_);refine zae hc2 ?_;refine w_r [.p,.p,.p,.p,.p] ?_;refine w_r [.v (.b true),.m _,.p,.p,.p] ?_;refine w_r [.p,.p,.v (.b true),.m _,.p] ?_;refine w_r [.p,.p,.p,.p,.p] ?_;refine w_r [.p,.v (.b true)] ?_;refine zbi rfl ?_;refine zaa [.v (.b false)] ?_;exact zbm h;refine zae hc2 ?_;refine zal rfl rfl ?_;refine w_o (a:= .ptr 0 257) ?_;refine zal rfl rfl ?_;refine w_o (a:= .i a.t.mn) (h:=zbf (z5b a rfl rfl rfl)) ?_;refine zal rfl rfl ?_;refine w_o (a:= .ptr 1 257) ?_;refine zal rfl rfl ?_;refine w_o (a:= .i b.t.mn) (h:=zbf (z5b b rfl rfl rfl)) ?_;refine w_r [.v (.b (a.t.mn !=b.t.mn)),.v (.b (a.t.mn !=b.t.mn))] ?_;refine zt h (fun hc3 h=> ?_) (fun hc3 h=> ?_);refine zae hc3 ?_;refine w_r [.p,.p,.p,.p,.p] ?_;refine w_r [.v (.b true),.m _,.p,.p,.p] ?_;refine w_r [.p,.p,.p,.p,.v (.b true)] ?_;refine zbi rfl ?_;refine zaa [.v (.b false)] ?_;exact zbm h;refine zae hc3 ?_;refine zal rfl rfl ?_;refine w_o (a:= .ptr 0 258) ?_;refine zal rfl rfl ?_;refine w_o (a:= .i a.t.mx) (h:=zbf (z5l a rfl rfl rfl)) ?_;refine zal rfl rfl ?_;refine w_o (a:= .ptr 1 258) ?_;refine zal rfl rfl ?_;refine w_o (a:= .i b.t.mx) (h:=zbf (z5l b rfl rfl rfl)) ?_;refine w_r [.v (.b (a.t.mx !=b.t.mx)),.v (.b (a.t.mx !=b.t.mx))] ?_;refine zt h (fun hc4 h=> ?_) (fun hc4 h=> ?_);refine zae hc4 ?_;refine w_r [.p,.p,.p,.p,.p] ?_;refine w_r [.p,.p,.v (.b true)] ?_;refine zbi rfl ?_;refine zaa [.v (.b false)] ?_;exact zbm h;refine zae hc4 ?_;refine zal rfl rfl ?_;refine w_o (a:= .ptr 0 259) ?_;refine zal rfl rfl ?_;refine w_o (a:= .L ((rtL a):List RT)) (h:=zbf (znh a rfl rfl rfl)) ?_;refine w_r [.v (.i (length (rtL a):Int)),.v (.ptr 1 259)] ?_;refine zal rfl rfl ?_;refine w_o (a:= .L ((rtL b):List RT)) (h:=zbf (znh b rfl rfl rfl)) ?_;refine w_r [.v (.i (length (rtL b):Int)),.v (.b ((length (rtL a):Int) !=(length (rtL b):Int))),.v (.b ((length (rtL a):Int) !=(length (rtL b):Int)))] ?_;refine zcj h (fun hc5 h=> ?_) (fun hc5 h=> ?_);refine zaa [.v (.b false)] ?_;exact zbm h;refine zbk h (bz 0 60 1152921504606846975) (fun j1=>[]) (fun j1=>(.B [(68,(Enc.cells (a:RT))),(68,(Enc.cells (b:RT)))])) ?_ ?_;intro or1 h hr1;refine zaa [.v (.i 0)] ?_;refine zaj ?_;refine zds h (bz 0 60 1152921504606846963) (fun s1=>[(5,.i s1)]) (fun s1=>(.B [(68,(Enc.cells (a:RT))),(68,(Enc.cells (b:RT)))])) ?_ ?_;exact zbt (bl 60 44);intro s1 p1 h;refine zfa ?_;refine zm ?_;refine zaa [.m _,.v (.ptr 0 259)] ?_;refine w_o (a:= .L ((rtL a):List RT)) (h:=zbf (znh a rfl rfl rfl)) ?_;refine w_r [.v (.i (length (rtL a):Int)),.v (.b (decide (s1<(length (rtL a):Int))))] ?_;refine zcj h (fun hc6 h=> ?_) (fun hc6 h=> ?_);refine zm ?_;refine zaj ?_;refine zm ?_;refine zkh (k0:=0) (id:=6) 10 (by kernel_rfl) (by kernel_rfl) ?_;refine h_o (a:= .ptr 0 259) ?_;refine h_o (a:= .L ((rtL a):List RT)) (h:=znh a rfl rfl rfl) ?_;refine zmh ?_;obtain⟨g1,h⟩:=zr h;obtain⟨x1,hx1,h⟩:=zx h;refine h_ix hx1 g1 ?_;refine h_o (a:= .A (x1:RT)) (h:=z0f x1 rfl rfl) ?_;refine h_o (a:= .ptr 1 259) ?_;refine h_o (a:= .L ((rtL b):List RT)) (h:=znh b rfl rfl rfl) ?_;refine zmh ?_;obtain⟨g2,h⟩:=zr h;obtain⟨x2,hx2,h⟩:=zx h;refine h_ix hx2 g2 ?_;refine h_o (a:= .A (x2:RT)) (h:=z0f x2 rfl rfl) ?_;refine zkn ?_;obtain⟨g3,h⟩:=zr h;obtain⟨x3,hx3,h⟩:=zx h;refine zdh (args':=[.A (x1:RT),.A (x2:RT)]) (r:= .b x3) (by rw[<-hx3];exact(ih x1 x2 g3)) ?_;refine w_o (a:= .b (!x3)) ?_;refine zcj h (fun hc7 h=> ?_) (fun hc7 h=> ?_);refine zaa [.v (.b false)] ?_;refine zap h (fun h=> ?_);replace h:=zp h hr1;exact zbm h;refine zc (k0:=0) (id:=5) ?_;refine zac ?_;obtain⟨g4,h⟩:=zr h;refine zlt g4 ?_;refine zac ?_;refine zbz (p:=p1) ((s1+1)) h ?_;exact zbt (bl 60 44);refine zap h (fun h=> ?_);refine ze (o:=or1) () h ?_;exact zbt (bl 60 0);intro j1 h;refine zfa ?_;refine zaa [.v (.b true)] ?_;exact zbm h
theorem qiu (r:RT)(i:Nat)(h:i<r.t.l.length):ix (rtL r) (i:Int)=RT.mk r.t.l[i]:=by
 have h2:i<(rtL r).length:=by rw[z1f];exact h
 rw[zzf h2];simp[rtL]
theorem qgo {body:Int->Option (Int ⊕ (Unit ⊕ Bool))} {n:Nat} (p:Nat->Bool)(h1: ∀i:Nat,i<n->p i=true->body (i:Int)=some (.inl ((i:Int)+1)))(h2: ∀i:Nat,i<n->p i=false->body (i:Int)=some (.inr (.inr false)))(h3:body (n:Int)=some (.inr (.inl ()))) {fuel:Nat} (hf:n<fuel):
 zbg body fuel 0=some (if(List.range n).all p=true then .inl () else .inr false):=by
 have key: ∀(c i:Nat),i+c=n->(∀j,j<i->p j=true)-> ∀f,c<f->zbg body f (i:Int)=some (if(List.range n).all p=true then .inl () else .inr false):=by
  intro c;induction c with
  | zero=>
   intro i hi hall f hf
   match f,hf with
   | f+1,_=>
    have:(List.range n).all p=true:=all_eq_true.2 fun j hj=>hall j (by have:=mem_range.1 hj;omega);rw[zbg,this,show i=n by omega,h3];rfl
  | succ c ih=>
   intro i hi hall f hf
   match f,hf with
   | f +1,hf=>
    rw[zbg];cases hp:p i with
    | false=>
     have:(List.range n).all p=false:=by
      rw[<-Bool.not_eq_true,all_eq_true];intro h;have:=h i (mem_range.2 (by omega));rw[hp] at this;cases this
     rw[h2 i (by omega) hp,this];rfl
    | true=>
     rw[h1 i (by omega) hp];have:=ih (i+1) (by omega) (fun j hj=>by
      rcases lt_or_ge j i with hlt|hge
      ·exact hall j hlt
      ·have e:j=i:=by omega
       subst e;exact hp) f (by omega)
     simp only[Int.natCast_add,Int.natCast_one] at this;exact this
 exact key n 0 (by omega) (fun j hj=>absurd hj (not_lt_zero _)) fuel hf
theorem z7f (n k:Nat)(s:BS)(mn mx:Int)(l l2:List Tr)(hn:(pre (Tr.mk k s mn mx l)).length<n+1)(hlen:l.length<2^40)(h5:l.length=l2.length): ∀(i:Nat) (hi:i<l.length) (b:Bool),zgk (l.getD i noneT) (l2.getD i noneT)=b-> ∀(r:Option (Int ⊕ (Unit ⊕ Bool))),(b=true->some (inl ((i:Int)+1))=r)->(b=false->some (inr (inr false))=r)->(chk (0<=(i:Int)/\ (i:Int)<(l.length:Int)) (zbe (ix (rtL (RT.mk (.mk k s mn mx l))) (i:Int)) (fun x1=>(chk (0<=(i:Int)/\ (i:Int)<(l2.length:Int)) (zbe (ix (rtL (RT.mk (.mk k s mn mx l2))) (i:Int)) (fun x2=>(chk (((pre x1.t).length<n)) (zbe (zgk x1.t x2.t) (fun x3=>(bif (!x3) then(some (inr (inr false))) else(chk (-9223372036854775808<=((i:Int)+1)/\ ((i:Int)+1)<9223372036854775808) (some (inl ((i:Int)+1))))))))))))))=r:=fun i hi b hb r hr1 hr2=>by
 have hp:(pre (Tr.mk k s mn mx l)).length=1+(zdb l).length:=qdr ..;have hi2:i<l2.length:=by omega
 have hx:=zfd (getElem_mem hi);refine zz (by omega) (zak fun x1 e1=>zz (by omega) (zak fun x2 e2=> ?_));rw[show ix (rtL (RT.mk (.mk k s mn mx l))) (i:Int)=RT.mk l[i] from qiu (RT.mk (.mk k s mn mx l)) i hi] at e1;rw[show ix (rtL (RT.mk (.mk k s mn mx l2))) (i:Int)=RT.mk l2[i] from qiu (RT.mk (.mk k s mn mx l2)) i hi2] at e2;subst e1 e2;refine zz (by show(pre l[i]).length<n;omega) (zak fun x3 e3=> ?_);have e3:zgk l[i] l2[i]=x3:=e3;rw[List.getD_eq_getElem?_getD,List.getD_eq_getElem?_getD,getElem?_eq_getElem hi,getElem?_eq_getElem hi2] at hb;have hb:zgk l[i] l2[i]=b:=hb;rw[e3] at hb;subst hb;cases x3 with
 |false=>exact zgy rfl (hr2 rfl)
 |true=>exact zgd rfl (zz ⟨by omega,by omega⟩ (hr1 rfl))
theorem qbn {fuel:Nat} (n:Nat)(a b:RT)(hn:(pre a.t).length<n+1)(hs:(pre a.t).length<2^40)(hf:(pre a.t).length<fuel):zrg fuel n a b=some (z2c a b):=by
 obtain⟨⟨k,s,mn,mx,l⟩⟩:=a;obtain⟨⟨k2,s2,mn2,mx2,l2⟩⟩:=b;have hp:(pre (Tr.mk k s mn mx l)).length=1+(zdb l).length:=qdr ..;have hlen:=zck l;simp only at hn hs hf;unfold zrg z2c;simp only[z1f,Tr.k,Tr.s,Tr.mn,Tr.mx,Tr.l];rw[qgq,qdu];by_cases hk:k=k2
 ·subst hk;simp only[bne_self_eq_false,cond_false,beq_self_eq_true,Bool.true_and];by_cases hs1:s=s2
  ·subst hs1;simp only[decide_true,Bool.not_true,cond_false,Bool.true_and];by_cases h3:mn=mn2
   ·subst h3;simp only[bne_self_eq_false,cond_false,beq_self_eq_true,Bool.true_and];by_cases h4:mx=mx2
    ·subst h4;simp only[bne_self_eq_false,cond_false,beq_self_eq_true,Bool.true_and];by_cases h5:l.length=l2.length
     ·rw [show((l.length:Int) !=(l2.length:Int))=false by simp[h5],cond_false];have hall:(List.range l.length).all (fun i=>zgk (l.getD i noneT) (l2.getD i noneT))=zzv zgk l l2:=by
       cases hc:zzv zgk l l2 with
       | true=>
        have:=(zrk _ _ _).1 hc;refine all_eq_true.2 fun i hi=> ?_;have hi:=mem_range.1 hi;rw[List.getD_eq_getElem?_getD,List.getD_eq_getElem?_getD,getElem?_eq_getElem hi,getElem?_eq_getElem (show i<l2.length by omega)];exact this.2 i hi (by omega)
       | false=>
        rw[<-Bool.not_eq_true,all_eq_true];intro h;have:zzv zgk l l2=true:=(zrk _ _ _).2 ⟨h5,fun i h1 h2=>by
         have:=h i (mem_range.2 h1);rwa[List.getD_eq_getElem?_getD,List.getD_eq_getElem?_getD,getElem?_eq_getElem h1,getElem?_eq_getElem h2] at this⟩
        rw[this] at hc;cases hc
      have step:=z7f n k s mn mx l l2 hn (by omega) h5
      have h0:=qgo (n:=l.length) (fun i=>zgk (l.getD i noneT) (l2.getD i noneT)) (body:=fun s1=>(bif (decide (s1<(l.length:Int))) then(chk (0<=s1/\ s1<(l.length:Int)) (zbe (ix (rtL (RT.mk (.mk k s mn mx l))) s1) (fun x1=>(chk (0<=s1/\ s1<(l2.length:Int)) (zbe (ix (rtL (RT.mk (.mk k s mn mx l2))) s1) (fun x2=>(chk (((pre x1.t).length<n)) (zbe (zgk x1.t x2.t) (fun x3=>(bif (!x3) then(some (inr (inr false))) else(chk (-9223372036854775808<=(s1+1)/\ (s1+1)<9223372036854775808) (some (inl (s1+1)))))))))))))) else(some (inr (inl ())))))
       (fun i hi hp=>zgy (by simp;omega) (step i hi true hp _ (fun _=>rfl) (fun h=>by cases h))) (fun i hi hp=>zgy (by simp;omega) (step i hi false hp _ (fun h=>by cases h) (fun _=>rfl))) (zgd (by simp) rfl) (fuel:=fuel) (by omega)
      rw[hall] at h0;cases hc:zzv zgk l l2 with
      | true=>
       rw[hc] at h0;rw[if_pos rfl] at h0;exact zbl () h0 rfl
      | false=>
       rw[hc] at h0;rw[if_neg Bool.false_ne_true] at h0;exact zlb false h0 rfl
     ·rw[show((l.length:Int) !=(l2.length:Int))=true by simp;omega,cond_true,qhu h5]
    ·rw[show(mx !=mx2)=true by simpa using h4,cond_true,show(mx==mx2)=false by simpa using h4];rfl
   ·rw[show(mn !=mn2)=true by simpa using h3,cond_true,show(mn==mn2)=false by simpa using h3];rfl
  ·rw[show decide (s=s2)=false by simpa using hs1];rfl
 ·rw[show((k:Int) !=(k2:Int))=true by simp;omega,cond_true,show((k:Int)==(k2:Int))=false by simp;omega];rfl
theorem z0e: ∀(n:Nat) (a b:RT),(pre a.t).length<n->(pre a.t).length<2^40->Pure (ITP prog) prog 23 [.agg (Enc.cells a),.agg (Enc.cells b)] (.raw (.bool (z2c a b)))
 |0,a,b,h,_=>absurd h (not_lt_zero _)
 |n+1,a,b,h,hs=>qdt ((pre a.t).length+1) (min n (pre a.t).length) a b _ (fun x y hx=>z0e n x y (by omega) (by omega)) (qbn _ a b (by omega) hs (by omega))
theorem k_rsame (a b:RT)(h:(pre a.t).length<2^40):Pure (ITP prog) prog 23 [.agg (Enc.cells a),.agg (Enc.cells b)] (.raw (.bool (z2c a b))):=z0e ((pre a.t).length+1) a b (by omega) h
end Go.Ab
namespace Go.Ab
open Go Go.RowKit Go.Fwd Go.Proofs
def qaq (a:Tr)(b:Tr):Option Bool:=
 (chk ((pre a).length<2^40/\ 0<=(500:Int)/\ (500:Int)<2^40) (zbe (zty a (500:Int)) (fun x1=>(bif (decide (x1<=500)) then(chk ((pre b).length<2^40/\ 0<=(500:Int)/\ (500:Int)<2^40) (zbe (zty b (500:Int)) (fun x2=>(bif (decide (x2<=500)) then(chk (KO a) (zbe (RT.mk a) (fun x3=>(chk (KO b) (zbe (RT.mk b) (fun x4=>(chk ((pre (x3:RT).t).length<2^40) (zbe (z2c x3 x4) (fun x5=>(some x5)))))))))) else(some false))))) else(some false)))))
theorem ent11:Ent prog 11:=enters_of Tryd.func11 (by kernel_rfl) rfl
theorem qes (a:Tr)(b:Tr)(r:Bool)(h:qaq a b=some r):Pure (ITP prog) prog 11 [.A (a:Tr),.A (b:Tr)] (.raw (.bool r)):=by
 unfold qaq at h;refine zbx 18 mix Tryd.func11 ent11 ?_;refine zm (zc ?_);refine zcc (a:= .ptr 0 0) (U'':=(.B [(33,(Enc.cells (a:Tr)))])) ?_;refine zcc (a:= .ptr 1 0) (U'':=(.B [(33,(Enc.cells (a:Tr))),(33,(Enc.cells (b:Tr)))])) ?_;refine w_o (a:= .b false) ?_;refine zm ?_;refine zkh (k0:=0) (id:=1) 12 (by kernel_rfl) (by kernel_rfl) ?_;refine h_o (a:= .A (a:Tr)) ?_;obtain⟨g1,h⟩:=zr h;obtain⟨x1,hx1,h⟩:=zx h;refine h_ck (args':=[.A (a:Tr),.i 500]) (r:= .i x1) (by rw[<-hx1];exact(qjv a (500:Int) g1)) ?_;refine h_o (a:= .b (decide (x1<=500))) ?_;refine zt h (fun hc1 h=> ?_) (fun hc1 h=> ?_);refine h_o (a:= .b true) (h:=zeq rfl hc1) ?_;refine zhi rfl rfl ?_;refine h_o (a:= .A (b:Tr)) ?_;refine zhi rfl rfl ?_;obtain⟨g2,h⟩:=zr h;obtain⟨x2,hx2,h⟩:=zx h;refine h_ck (args':=[.A (b:Tr),.i 500]) (r:= .i x2) (by rw[<-hx2];exact(qjv b (500:Int) g2)) ?_;refine zhi rfl rfl ?_;iterate 2 refine h_o (a:= .b (decide (x2<=500))) ?_
 refine zt h (fun hc2 h=> ?_) (fun hc2 h=> ?_);refine h_o (a:= .b true) (h:=zeq rfl hc2) ?_;refine zhi rfl rfl ?_;refine h_o (a:= .A (a:Tr)) ?_;refine zhi rfl rfl ?_;obtain⟨g3,h⟩:=zr h;obtain⟨x3,hx3,h⟩:=zx h;refine h_ck (args':=[.A (a:Tr)]) (r:= .A (x3:RT)) (by rw[<-hx3];exact(z5g a g3)) ?_;refine zhi rfl rfl ?_;refine h_o (a:= .A (b:Tr)) ?_;refine zkn ?_;refine zal rfl rfl ?_;obtain⟨g4,h⟩:=zr h;obtain⟨x4,hx4,h⟩:=zx h;refine zdh (args':=[.A (b:Tr)]) (r:= .A (x4:RT)) (by rw[<-hx4];exact(z5g b g4)) ?_;refine zal rfl rfl ?_;obtain⟨g5,h⟩:=zr h;obtain⟨x5,hx5,h⟩:=zx h;refine zdh (args':=[.A (x3:RT),.A (x4:RT)]) (r:= .b x5) (by rw[<-hx5];exact(k_rsame x3 x4 g5)) ?_;refine w_r [.v (.b x5),.m _] ?_;exact zbm h;refine h_o (a:= .b false) (h:=zeq rfl hc2) ?_;iterate 3 refine zkp ?_
 refine zkn ?_;refine w_r [.p,.p,.v (.b false),.m _] ?_;exact zbm h;refine h_o (a:= .b false) (h:=zeq rfl hc1) ?_;iterate 3 refine zkp ?_
 refine h_o (a:= .b false) ?_;refine zmh ?_;iterate 3 refine zkp ?_
 refine zkn ?_;refine w_r [.p,.p,.v (.b false),.m _] ?_;exact zbm h
end Go.Ab
namespace Go.Ab
open Go Go.RowKit Go.Fwd
open Go.ChangeMaps (setBlock)
section
variable {IT:IterP} {P:Program} {F:Fence} {nn B:Nat} {K:Exit->Act->World->Prop} {X0:Cx} {ops:Array Oper} {E:List AV} {sg:(Nat->Bool)->St} {Mi:MI} {i:Nat} {o:Oper} {x:AV}
theorem qet (hIT:ITMono IT)(hF:FenceOk F P) {t kt et d t' j':Nat} (hg:o.guard=none)(hop:o.op= .range t (.tmp t'))(hd:o.dst=some d)(ho:ops[i]? =some o)(hu:P.underlying t=some (.map kt et))(hi:Mi.om≠i)(hm:Mi.it=[(i,d)])(hm':(j',t',true)∈Mi.mvs)(hj:zbo ops j'=some t')(hmv: ∀p∈Mi.mvs,p.1≠i/\ p.2.1≠d)(hin: ∀q∈Mi.ins,q.1≠i/\ q.2.2≠d)(htm:d<E.length)(hsg: ∀d,sg (zjl d i)=sg d):
 z8j IT P F nn B K X0 ops E sg (MpOk ops Mi X0.w.heap.size) i o .top:=by
 refine⟨hg,fun d' S' X a next hs hd' hkk hbe hwt hwr hr hsz hn hΦ hK=> ?_⟩;have up: ∀j,j≠i->zjl d' i j=d' j:=fun j hj=>zbq hj;have up': ∀j,d' j=true->zjl d' i j=true:=fun j hj=>by
  by_cases e:j=i
  ·subst e;rw[hd'] at hj;cases hj
  ·rw[up j e];exact hj
 have hj':d' j'=true:=hwr j' t' hj (by simp only[zgn,ho,hop];exact mem_append.2 (.inl (zgi (by simp[Op.operands]))));obtain⟨hom,hall⟩:=hΦ.mvs _ hm' hj';obtain⟨m,es,c,k1,k2,k3,k4,k5⟩:=hΦ.map hom;have e1:a.eval (.tmp t')= .map (some m):=k3 _ hm' hj';unfold Oper.wpIn;refine⟨fun f _=>hF.fn f,?_⟩;rw[Oper.semAt_plain F _ _ (by intro c hc;rw[hop] at hc;cases hc)];have r1:(execOp a.eval o).run P X.w= .ok (.value (.pointer (some ⟨X.w.heap.size,0,none⟩))) (X.w.alloc (.mapIter (some m) c #[] c)):=by
  simp only[execOp,hop,e1,Sem.run_bind,run_range_map X.w t kt et m es c hu k2];rfl
 rw[r1];have n1:=zrf hIT hs hn (zut X.w (.mapIter (some m) c #[] c) rfl);have n2:=zch (P:=P) (M:=none) trivial hIT n1 (Ext.refl _) n1.inv ⟨rfl,rfl⟩ o.dst (x:= .top) (v:= .pointer (some ⟨X.w.heap.size,0,none⟩)) (by rw[Rep];trivial);refine hK _ _ (by rw[hsg];exact n2) ?_;have ne: ∀t1,t1≠d->(a.put o.dst (.pointer (some ⟨X.w.heap.size,0,none⟩))).eval (.tmp t1)=a.eval (.tmp t1):=fun t1 h=>zep _ _ _ _ (by rw[hd];intro e;exact h (Option.some.inj e).symm);have old: ∀(k:Nat) (ob:Obj),X.w.heap[k]? =some ob->(X.w.alloc (.mapIter (some m) c #[] c)).heap[k]? =some ob:=fun k ob h=>(Below.heap_alloc _ _ _ (Array.getElem?_eq_some_iff.1 h).1).trans h;refine⟨fun q hq hqd=> ?_,fun p hp hpd=> ?_,fun p hp hpd=>⟨up' _ hom,fun q hq=>up' _ (hall rfl q hq)⟩,fun _=>⟨m,es,c,k1,old _ _ k2,fun p hp hpd=> ?_,⟨k4.born,k4.nd,fun e he=> ?_,fun q hq hqd=> ?_⟩,fun p hp hpd=> ?_⟩⟩
 ·rw[up _ (hin q hq).1] at hqd;exact⟨up' _ hom,fun j hj=>up' _ ((hΦ.ins q hq hqd).2 j hj)⟩
 ·rw[up _ (hmv p hp).1] at hpd;exact⟨up' _ hom,fun hf q hq=>up' _ ((hΦ.mvs p hp hpd).2 hf q hq)⟩
 ·rw[up _ (hmv p hp).1] at hpd;rw[ne _ (hmv p hp).2];exact k3 p hp hpd
 ·obtain⟨q,hq,q1,q2,q3⟩:=k4.of e he;exact⟨q,hq,up' _ q1,q2,by rw[ne _ (hin q hq).2];exact q3⟩
 ·rw[up _ (hin q hq).1] at hqd;exact k4.all q hq hqd
 ·rw[hm,List.mem_singleton] at hp;subst hp;refine⟨X.w.heap.size,hs,zeu _ _ _ rfl,?_⟩;rw[hd];have hl:d<a.tmps.size:=by omega
  simp[Act.put,Act.eval,hl]
end
theorem qev {a:Act} {t:Nat} {v:Value} (h:a.eval (.tmp t)=v)(hl:t<a.tmps.size):a.put (some t) v=a:=by
 have h1:a.tmps[t]=v:=by
  have:=h;simpa[Act.eval,hl] using this
 show({a with tmps:=a.tmps.setIfInBounds t v}:Act)=a
 have:a.tmps.setIfInBounds t v=a.tmps:=by
  rw[<-h1];apply Array.ext_getElem?;intro j;by_cases e:t=j
  ·subst e;simp[hl]
  ·rw[Array.getElem?_setIfInBounds_ne e]
 rw[this]
theorem z0i {P:Program} {F:Fence} (hF:FenceOk F P) {nn:Nat} {ops:Array Oper} {Q:Exit->Act->World->Prop} {o:Oper} {l:List Oper} {a:Act} {w w':World} {v:Value} (hg:o.guard=none)(hdf: ∀c,o.op≠ .defer c)(hrun:(execOp a.eval o).run P w= .ok (.value v) w')(h:wpListIn F nn P ops Q l (a.put o.dst v) w'):wpListIn F nn P ops Q (o::l) a w:=by
 simp only[wpListIn];rw[if_pos (by simp[Region.wanted,hg])];unfold Oper.wpIn;refine⟨fun f _=>hF.fn f,?_⟩;rw[Oper.semAt_plain F _ _ hdf,hrun];exact h
set_option maxHeartbeats 1000000 in
theorem qdy {P:Program} (hmix:P.follows .mixedOrders=true) {id1 id2 id3 id4 id5:Nat} {ops ops5:Array Oper} {nx ex en:Oper} {rest:Code} {l5:List Oper} {S E vs:List AV} {SL:Nat->List AV} {U σL:St} {sg:(Nat->Bool)->St} (Mi:MI) {it d69 d70 d71 ri:Nat} (ms:List Bool)
 (hall: ∀ {F:Fence} {nn B:Nat} {K:Exit->Act->World->Prop} {X0:Cx},FenceOk F P->qee (ITP P) P F nn B K X0 ops E sg (MpOk ops Mi X0.w.heap.size) 0 ops.toList vs)
 (hE:zhe ops.toList vs S=E) (hfl:(floB ops S.length&&zvu ops)=true) (hσ:sg (fun j=>Nat.ble ops.size j)=U) (hσ':sg (fun _=>true)=σL) (hb:bndB Mi ops.size=true)
 (hit:Mi.it=[(ri,it)]) (hSL: ∀r,fgM ms (E.set it (.raw (.pointer (some ⟨r,0,none⟩))))=SL r)
 (hnx:nx.op= .next (.tmp it) false/\ nx.dst=some d69/\ nx.guard=none) (hex:ex.op= .extract (.tmp d69) 0/\ ex.dst=some d70/\ ex.guard=none) (hen:en.op= .entry (.tmp it)/\ en.dst=some d71/\ en.guard=none) (h5:ops5.toList=en::l5)
 (h69: ∀r,(SL r).set d69 .top=SL r) (h70: ∀r,(SL r).set d70 .top=SL r) (hne:it≠d69/\ it≠d70/\ it≠d71/\ d69≠d70/\ it<E.length/\ d69<E.length/\ d70<E.length/\ d71<E.length) (hgt: ∀r,(SL r)[it]? =some (.raw (.pointer (some ⟨r,0,none⟩)))) (hl: ∀r,(SL r).length=E.length) (hnr:zcp rest=true)
 (hbody: ∀(r:Nat) (q:Nat×Value×Nat),q∈Mi.ins->zcs (ITP P) P none ops5 (fun S2 U2=>awp (ITP P) P none σL.boxes.length rest (fun e S3 U3=>e= .normal/\ Wk σL.boxes.length S3 U3 (SL r) σL) S2 U2) l5 ((SL r).set d71 (.tup [.raw q.2.1,E[q.2.2]?.getD (.raw undef)])) σL)
 {S':List AV} (hS': ∀r,Fg (SL r) S'):
 qel (ITP P) P (.seq (.region id1 ops true) (.block id2 (.loop (.seq (.region id3 #[nx,ex] false) (.seq (.cond (.tmp d70) .skip (.exit id2)) (.block id4 (.seq (.region id5 ops5 false) rest))))))) S U S' σL:=by
 have hIT:=zn P;intro F nn B X0 X a hF hI0 hn hfe;rw[Bool.and_eq_true] at hfl;have hG:zri P B none:=trivial;refine wpIn_seq ?_
 have KK: ∀(X:Cx) (a:Act),Now (ITP P) none F B X0 E σL X a->MpOk ops Mi X0.w.heap.size (fun _=>true) a X.w->
  (Code.block id2 (.loop (.seq (.region id3 #[nx,ex] false) (.seq (.cond (.tmp d70) .skip (.exit id2)) (.block id4 (.seq (.region id5 ops5 false) rest)))))).wpIn F nn P (fun e a' w'=>e= .normal/\ ∃X',X'.w=w'/\ Now (ITP P) none F B X0 S' σL X' a') a X.w:=by
  intro X a hn hΦ;obtain⟨m,es,c,k1,k2,k3,k4,k5⟩:=hΦ.map rfl;obtain⟨r,r1,r2,r3⟩:=k5 (ri,it) (by rw[hit];exact List.mem_singleton.2 rfl) rfl;refine wpIn_block ?_;refine wpIn_loop_rounds ((leftOf es #[]).size+1) ?_;have hsz: ∀ {X0 X:Cx} {S:List AV} {U:St} {a:Act},Now (ITP P) none F B X0 S U X a->a.tmps.size=S.length:=fun hn=>by
   have:=zq hn.reps;simpa using this.symm
  have key: ∀(n:Nat) (seen:Array Nat) (c0:Nat) (X:Cx) (a:Act),(leftOf es seen).size<=n->c<=c0->Now (ITP P) none F B X0 (SL r) σL X a->X.w.heap[m]? =some (.map es c)->X.w.heap[r]? =some (.mapIter (some m) c seen c0)->(∀e∈es.toList,∃q∈Mi.ins,e.key=q.2.1/\ Rep (ITP P) X (E[q.2.2]?.getD (.raw undef)) e.val)->
   Code.roundsIn F nn P (.seq (.region id3 #[nx,ex] false) (.seq (.cond (.tmp d70) .skip (.exit id2)) (.block id4 (.seq (.region id5 ops5 false) rest)))) (Exit.inBlock id2 fun e a' w'=>e= .normal/\ ∃X',X'.w=w'/\ Now (ITP P) none F B X0 S' σL X' a') (n+1) a X.w:=by
   intro n;induction n using Nat.strongRecOn with
   |_ n ih=>
   intro seen c0 X a hle hc hn hm hr hes;rw[roundsIn_succ];refine wpIn_seq (wpIn_region_list ?_);show wpListIn F nn P #[nx,ex] _ [nx,ex] a X.w;have hszl:=hsz hn;rw[hl] at hszl;have eit:a.eval (.tmp it)= .pointer (some ⟨r,0,none⟩):=by
    have:=zdj hn.reps (.tmp it);rw[show zcb (SL r) (.tmp it)= .raw (.pointer (some ⟨r,0,none⟩)) by simp[zcb,hgt r],Rep] at this;exact this
   have ex_run: ∀(a1:Act) (w1:World) (t:Array Value) (b:Bool),a1.eval (.tmp d69)= .tuple t->t[0]? =some (.bool b)->(execOp a1.eval ex).run P w1= .ok (.value (.bool b)) w1:=fun a1 w1 t b h1 h2=>by
    simp[execOp,hex.1,h1,Instr.extract,h2]
   have put2: ∀ {X:Cx} {a:Act} (u v:Value),Now (ITP P) none F B X0 (SL r) σL X a->Now (ITP P) none F B X0 (SL r) σL X ((a.put nx.dst u).put ex.dst v):=fun {X a} u v hn=>by
    have n1:=zch (P:=P) hG hIT hn (Ext.refl X) hn.inv ⟨rfl,rfl⟩ nx.dst (x:= .top) (v:=u) (by rw[Rep];trivial);rw[hnx.2.1] at n1;rw[show zy (SL r) (some d69) .top=SL r from h69 r] at n1;have n2:=zch (P:=P) hG hIT n1 (Ext.refl X) n1.inv ⟨rfl,rfl⟩ ex.dst (x:= .top) (v:=v) (by rw[Rep];trivial);rw[hex.2.1] at n2;rw[show zy (SL r) (some d70) .top=SL r from h70 r] at n2;rw[hnx.2.1,hex.2.1];exact n2
   have ev69: ∀u:Value,(a.put nx.dst u).eval (.tmp d69)=u:=fun u=>by
    rw[hnx.2.1];have hl:d69<a.tmps.size:=by omega
    simp[Act.put,Act.eval,hl]
   have ev70: ∀u v:Value,((a.put nx.dst u).put ex.dst v).eval (.tmp d70)=v:=fun u v=>by
    rw[hex.2.1,hnx.2.1];have hl:d70<a.tmps.size:=by omega
    simp[Act.put,Act.eval,hl]
   rcases run_next_at (P:=P) X.w nx.type r m c c0 seen es c hr hm k4.born hc with⟨h0,hrun⟩|⟨e,he,w1,hw1,hrun⟩
   ·refine z0i hF hnx.2.2 (by intro c hc;rw[hnx.1] at hc;cases hc) (v:= .tuple #[.bool false]) (w':=X.w) (by simp[execOp,hnx.1,eit,hrun]) ?_;refine z0i hF hex.2.2 (by intro c hc;rw[hex.1] at hc;cases hc) (ex_run _ X.w _ false (ev69 _) rfl) ?_
    show(Code.seq _ _).wpIn F nn P _ _ _
    refine wpIn_seq (wpIn_cond_false (ev70 _ _) (wpIn_exit ?_));have n2:=put2 (.tuple #[.bool false]) (.bool false) hn;have:(if id2=id2 then Exit.normal else Exit.exit id2)=Exit.normal:=if_pos rfl;simp only[Exit.then,Exit.inBlock,this]
    first
     |exact⟨rfl,X,rfl,{n2 with reps:=zhb (hS' r) n2.reps}⟩
     |(simp;exact⟨X,rfl,{n2 with reps:=zhb (hS' r) n2.reps}⟩)
   ·have hne0: ∃n',n=n'+1:=by
     cases n with
     | zero=>
      have h1:=List.length_pos_of_mem he;simp at h1;omega
     |succ n'=>exact⟨n',rfl⟩
    obtain⟨n',rfl⟩:=hne0;have n0:Now (ITP P) none F B X0 (SL r) σL {X with w:=w1} a/\ w1.heap=X.w.heap/\ Ext X {X with w:=w1}:=by
     rcases hw1 with rfl|rfl
     ·exact⟨hn,rfl,Ext.refl X⟩
     ·obtain⟨hEx,hI⟩:=zke hIT hn.inv;exact⟨⟨Ext.trans hn.ext hEx,hI,zaw hIT hEx _ _ hn.reps,hn.marks.ext hEx hn.inv,trivial⟩,rfl,hEx⟩
    obtain⟨n0,hw,hE1⟩:=n0;have hr1:w1.heap[r]? =some (.mapIter (some m) c seen c0):=by rw[hw];exact hr
    have hsd:=z4a (.mapIter (some m) c (seen.push e.born) c) hr1 rfl (fun _ h=>by cases h);have n1:=zrf hIT r1 n0 hsd;have hmr:m≠r:=fun e=>by rw[e,hr] at hm;cases hm
    have hm2:(setBlock w1 r (.mapIter (some m) c (seen.push e.born) c)).heap[m]? =some (.map es c):=(hsd.same m (by rw[hw];exact(Array.getElem?_eq_some_iff.1 hm).1) hmr).trans (by rw[hw];exact hm);have hrl:r<w1.heap.size:=(Array.getElem?_eq_some_iff.1 hr1).1;have hr2:(setBlock w1 r (.mapIter (some m) c (seen.push e.born) c)).heap[r]? =some (.mapIter (some m) c (seen.push e.born) c):=by simp[setBlock,hrl]
    obtain⟨he1,he2⟩:=mem_left he;obtain⟨q,hq,hkey,hval⟩:=hes e he1;refine z0i hF hnx.2.2 (by intro c hc;rw[hnx.1] at hc;cases hc) (v:= .tuple #[.bool true,e.key,e.val]) (w':=setBlock w1 r (.mapIter (some m) c (seen.push e.born) c)) (by simp[execOp,hnx.1,eit,hrun]) ?_;refine z0i hF hex.2.2 (by intro c hc;rw[hex.1] at hc;cases hc) (ex_run _ _ _ true (ev69 _) rfl) ?_
    show(Code.seq _ _).wpIn F nn P _ _ _
    refine wpIn_seq (wpIn_cond_true (ev70 _ _) (wpIn_skip ?_));have n2:=put2 (.tuple #[.bool true,e.key,e.val]) (.bool true) n1;obtain⟨a2,ha2⟩: ∃a2,a2=(a.put nx.dst (.tuple #[.bool true,e.key,e.val])).put ex.dst (.bool true):=⟨_,rfl⟩;rw[<-ha2] at n2;rw[<-ha2];obtain⟨X2,hX2⟩: ∃X2:Cx,X2={X with w:=setBlock w1 r (.mapIter (some m) c (seen.push e.born) c)}:=⟨_,rfl⟩;have hsub:Sub X X2:=by rw[hX2];exact Sub.trans hE1.toSub (zxf n0.inv hsd)
    have n2':Now (ITP P) none F B X0 (SL r) σL X2 a2:=by rw[hX2];exact n2
    show(Code.block id4 _).wpIn F nn P _ a2 (setBlock w1 r (.mapIter (some m) c (seen.push e.born) c))
    rw[show setBlock w1 r (.mapIter (some m) c (seen.push e.born) c)=X2.w by rw[hX2]];rw[show setBlock w1 r (.mapIter (some m) c (seen.push e.born) c)=X2.w by rw[hX2]] at hm2 hr2;refine wpIn_block (wpIn_seq (wpIn_region_list ?_));rw[h5];have eit2:a2.eval (.tmp it)= .pointer (some ⟨r,0,none⟩):=by
     have:=zdj n2'.reps (.tmp it);rw[show zcb (SL r) (.tmp it)= .raw (.pointer (some ⟨r,0,none⟩)) by simp[zcb,hgt r],Rep] at this;exact this
    refine z0i hF hen.2.2 (by intro c hc;rw[hen.1] at hc;cases hc) (v:= .tuple #[e.key,e.val]) (w':=X2.w) (by simp[execOp,hen.1,eit2,run_entry_at X2.w r m c seen es c e hr2 hm2 he1 k4.nd]) ?_;have rq:Rep (ITP P) X2 (.tup [.raw q.2.1,E[q.2.2]?.getD (.raw undef)]) (.tuple #[e.key,e.val]):=by
     rw[Rep];refine⟨[e.key,e.val],rfl,e.key,[e.val],rfl,?_,e.val,[],rfl,zhq hIT hsub _ _ hval,rfl⟩;rw[Rep];exact hkey
    have n3:=zch (P:=P) hG hIT n2' (Ext.refl X2) n2'.inv ⟨rfl,rfl⟩ en.dst rq;rw[hen.2.1] at n3;have n4:=n3.from
    have hκ:X2.κ.length<=σL.boxes.length:=by rw[n2'.inv.κlen];exact le_refl _
    have hB2:B<=X2.w.heap.size:=Nat.le_trans hI0.1 (Ext.size n2'.ext);rw[hen.2.1];refine zfg (M:=none) hIT hF hG (X0:=X2) (Q:=fun S2 U2=>awp (ITP P) P none σL.boxes.length rest (fun e S3 U3=>e= .normal/\ Wk σL.boxes.length S3 U3 (SL r) σL) S2 U2) ?_ l5 _ _ _ _ (hbody r q hq) n4;intro S2 U2 X3 a3 hawp n5;refine zsj hmix rest (M:=none) hG hF σL.boxes.length _ S2 U2 X2 X3 a3 _ hκ ⟨hB2,_,n2'.inv⟩ hawp n5 (.inr hnr) ?_;rintro e3 S3 U3 X4 a4 ⟨rfl,hwk⟩ n6;obtain⟨X5,hw5,n7⟩:=zzk hIT hκ hwk n6;show Code.roundsIn F nn P _ _ (n'+1) a4 X4.w;rw[<-hw5];have hE5:Ext X2 X5:=n7.ext;refine ih n' (by omega) (seen.push e.born) c X5 a4 (by have:=left_shrinks es seen e he;omega) (le_refl _) (n2'.back n7) (hE5.noncells n2'.inv hm2 rfl) (hE5.noncells n2'.inv hr2 rfl) fun e' he'=> ?_;obtain⟨q',hq',y1,y2⟩:=hes e' he';exact⟨q',hq',y1,zes hIT hE5 _ _ (zhq hIT hsub _ _ y2)⟩
  have hszE:=hsz hn;have hn':Now (ITP P) none F B X0 (SL r) σL X a:=by
   have rp:zma (ITP P) X (E.set it (.raw (.pointer (some ⟨r,0,none⟩)))) a.tmps:=by
    have:=zod (IT:=ITP P) (X:=X) hn.reps (some it) (x:= .raw (.pointer (some ⟨r,0,none⟩))) (v:= .pointer (some ⟨r,0,none⟩)) (by rw[Rep]);rw[qev r3 (by rw[hszE];exact hne.2.2.2.2.1)] at this;exact this
   exact {hn with reps:=zhb (by rw[<-hSL r];exact zoe ms _) rp}
  refine key _ #[] c X a (le_refl _) (le_refl _) hn' k2 r2 fun e he=> ?_;obtain⟨q,hq,q1,q2,q3⟩:=k4.of e he;exact⟨q,hq,q2,by rw[q3];exact zdj hn.reps (.tmp q.2.2)⟩
 obtain⟨hll,hat⟩:=zwc _ _ _ (hall (nn:=nn) (B:=B) (K:=Exit.then (fun a w=>(Code.block id2 (.loop (.seq (.region id3 #[nx,ex] false) (.seq (.cond (.tmp d70) .skip (.exit id2)) (.block id4 (.seq (.region id5 ops5 false) rest)))))).wpIn F nn P (fun e a' w'=>e= .normal/\ ∃X',X'.w=w'/\ Now (ITP P) none F B X0 S' σL X' a') a w) (fun e a' w'=>e= .normal/\ ∃X',X'.w=w'/\ Now (ITP P) none F B X0 S' σL X' a')) (X0:=X0) hF);refine qau hIT hF hmix (MpOk ops Mi X0.w.heap.size) hE hll hfl.1 hfl.2 hσ (z4e hb) hn (fun i o x ho hx=> ?_) fun X a hn hΦ=>KK X a (hσ'▸hn) hΦ;have:=hat i o x (by rw[<-ho,Array.getElem?_toList]) hx (by rw[zero_add];exact ho);rw[zero_add] at this;exact this
end Go.Ab
namespace Go.Ab
open Go Go.RowKit Go.Fwd Go.Proofs
structure Ct where
 f:Nat
 args:List AV
 r:AV
def CtOk (c:Ct):Prop:=Pure (ITP prog) prog c.f c.args c.r
def tbl (T:List Ct):CallP:=fun f args=>match T.find? (fun c=>c.f==f&&zmw c.args args) with
 |some c=>some c.r
 |none=>none
theorem zij {T:List Ct} (h: ∀c∈T,CtOk c):Good prog (tbl T) noS:=⟨mix,ents,(fun f args r e=>by
 unfold tbl at e;split at e
 ·rename_i c hc;cases e;have h1:=List.find?_some hc;simp only[Bool.and_eq_true,beq_iff_eq] at h1;have h2:=h c (List.mem_of_find?_eq_some hc);rw[CtOk,h1.1,zfw _ _ h1.2] at h2;exact h2
 ·cases e),(fun _ _ _ _ _ h=>nomatch h)⟩
def avT (t:Tr):AV:= .agg (Enc.cells t)
def avG (t:Rg):AV:= .agg (Enc.cells t)
def avZ (l:List UInt8):AV:= .raw (.string (bs l))
def avI (n:Int):AV:= .raw (.int .i64 n)
section
variable {H:Bool} {P:Program} {Ω:CallP} {Ψ:CallS}
def sufC:Nat->Code->Code
 |0,c=>c
 |n+1,.seq _ y=>sufC n y
 |_+1,c=>c
def qao (run:Run):Nat->Code->List AV->St->Option (List AV×St)
 |0,_,S,U=>some (S,U)
 | n+1,.seq x y,S,U=>match run x S.length S U with
  |some (.normal,S1,U1)=>qao run n y S1 U1
  |_=>none
 |_+1,_,_,_=>none
theorem w_pre (hG:Good P Ω Ψ) {k k0:Nat} {Q:AQ} {S':List AV} {U':St}: ∀(n:Nat) (c:Code) (S:List AV) (U:St) (S1:List AV) (U1:St),qao (evQ H P Ω Ψ k) (n+1) c S U=some (S1,U1)->Wk k0 S1 U1 S' U'->awp (ITP P) P none k0 (sufC (n+1) c) Q S' U'->awp (ITP P) P none k0 c Q S U
 | n,.seq x y,S,U,S1,U1,h,hw,hk=>by
  rw[qao] at h;split at h
  ·rename_i S2 U2 h2;obtain⟨hl,h3⟩:=zrz (H:=H) hG k _ _ _ _ _ _ _ h2 rfl;refine .inl (zdi (h3 _ ?_));cases n with
   | zero=>
    rw[qao] at h;cases h;exact⟨S',U',hw,hk⟩
   |succ n=>exact⟨S2,U2,Wk.refl _ _ _,w_pre hG n y S2 U2 S1 U1 h hw hk⟩
  ·cases h
 |_,.skip,_,_,_,_,h,_,_=>by cases h
 |_,.cond _ _ _,_,_,_,_,h,_,_=>by cases h
 |_,.block _ _,_,_,_,_,h,_,_=>by cases h
 |_,.loop _,_,_,_,_,h,_,_=>by cases h
 |_,.exit _,_,_,_,_,h,_,_=>by cases h
 |_,.ret,_,_,_,_,h,_,_=>by cases h
 |_,.label _,_,_,_,_,h,_,_=>by cases h
 |_,.scope _,_,_,_,_,h,_,_=>by cases h
 |_,.region _ _ _,_,_,_,_,h,_,_=>by cases h
 |_,.rangeFunc _ _ _ _,_,_,_,_,h,_,_=>by cases h
 |_,.goto _,_,_,_,_,h,_,_=>by cases h
 |_,.refuse _,_,_,_,_,h,_,_=>by cases h
def qju:Option AV->Bool
 |some (.raw (.bool true))=>true
 |_=>false
def tailB (run:Run)(P:Program)(fn:Func)(c:Code)(S:List AV)(U:St):Bool:=match run c S.length S U with
 |some (.ret,S1,U1)=>qju (zaz P fn U1 S1)
 |_=>false
theorem w_tail (hG:Good P Ω Ψ) {k k0:Nat} {fn:Func} {c:Code} {S:List AV} {U:St} (h:tailB (evQ H P Ω Ψ k) P fn c S U=true):awp (ITP P) P none k0 c (zxk P fn (.raw (.bool true))) S U:=by
 unfold tailB at h;split at h
 ·rename_i S1 U1 h1;obtain⟨_,h2⟩:=zrz (H:=H) hG k _ _ _ _ _ _ _ h1 rfl;refine zdi (h2 _ ?_);unfold qju at h;split at h
  ·rename_i h3;exact zbm (y:=true) rfl h3
  ·cases h
 ·cases h
def qjo (run:Run)(cp:CallP)(cs:CallS)(P:Program)(Ψ:CallS)(ops:Array Oper)(l:List Oper)(rest:Code)(n:Nat)(ms:List Bool)(S:List AV)(U:St):Option (List AV×St):=match znj P Ψ cp cs ops l S U with
 | some (S1,U1)=>match run rest S1.length S1 U1 with
  |some (.normal,S2,U2)=>if zwi n U2=true/\ zaf n (fgM ms S2)=true then some (fgM ms S2,zev n U2) else none
  |_=>none
 |none=>none
theorem zls (hG:Good P Ω Ψ) {k n:Nat} {ops:Array Oper} {l:List Oper} {rest:Code} {ms:List Bool} {S S':List AV} {U U':St} (h:qjo (evQ H P Ω Ψ k) (zkf P Ω (evQ H P Ω Ψ k)) (zql P Ψ (evQ H P Ω Ψ k)) P Ψ ops l rest n ms S U=some (S',U')):
 zcs (ITP P) P none ops (fun S2 U2=>awp (ITP P) P none n rest (fun e S3 U3=>e= .normal/\ Wk n S3 U3 S' U') S2 U2) l S U:=by
 unfold qjo at h;split at h
 ·rename_i S1 U1 h1;split at h
  ·rename_i S2 U2 h2;split at h
   ·rename_i hc;cases h;obtain⟨_,h3⟩:=zfk hG.oracleS (zse hG (zrz (H:=H) hG k)) (zyn hG (zrz (H:=H) hG k)) l _ _ _ _ h1;obtain⟨_,h4⟩:=zrz (H:=H) hG k _ _ _ _ _ _ _ h2 rfl;exact h3 _ (zdi (h4 _ ⟨rfl,zff ms n rfl (le_refl _) hc.1 hc.2 rfl⟩))
   ·cases h
  ·cases h
 ·cases h
end
def clT (s:BS):Tr:= .mk 2 s 0 0 []
def bS (n:Nat):BS:=1#256<<<n
def z1l:Tr:= .mk 5 0#256 0 (-1) [clT (bS 98)]
def twoT:Tr:= .mk 5 0#256 2 3 [clT (bS 99)]
def emT:Tr:= .mk 1 0#256 0 0 []
def abcU:BS:=bS 97|||bS 98|||bS 99
def qgc:Tr:=clT (~~~ abcU)
def digU:BS:=digS|||bS 95
def eS0:List UInt8:=[97,124,98,42,99]
def eG0:Rg:=Rg.mk false false (.mk 4 0#256 0 0 [clT (bS 97),.mk 3 0#256 0 0 [z1l,clT (bS 99)]])
def eS1:List UInt8:=[94,97,98,36]
def eG1:Rg:=Rg.mk true true (.mk 3 0#256 0 0 [clT (bS 97),clT (bS 98)])
def eS2:List UInt8:=[40,97,41,40,63,58,98,124,41,99,123,50,44,51,125]
def eG2:Rg:=Rg.mk false false (.mk 3 0#256 0 0 [.mk 6 0#256 0 0 [clT (bS 97)],.mk 4 0#256 0 0 [clT (bS 98),emT],twoT])
def eS3:List UInt8:=[91,94,97,45,99,93]
def eG3:Rg:=Rg.mk false false qgc
def eS4:List UInt8:=[91,92,100,95,93]
def eG4:Rg:=Rg.mk false false (clT digU)
def eS5:List UInt8:=[97,123,49,125]
def eG5:Rg:=Rg.mk false false (clT (bS 97))
def exL:List (List UInt8×Rg):=[(eS0,eG0),(eS1,eG1),(eS2,eG2),(eS3,eG3),(eS4,eG4),(eS5,eG5)]
def erL:List (List UInt8×Int×Int):=[([97,42,42],2,92),([42,97],0,92),([40,97],0,91),([97,41],1,91),([97,94],1,95),([97,36,98],1,95),([91,93],1,94),([91,98,45,97,93],2,94),([97,123,48,125],1,93),([97,123,51,44,50,125],1,93),([97,123,120],2,93),([97,93],1,90),([92,113],0,90)]
def tblR:List Ct:=(exL.map fun p=>⟨8,[avZ p.1],.tup [avG p.2,avI (p.1.length:Int),avI 0]⟩)++(exL.map fun p=>⟨11,[avT p.2.t,avT p.2.t],.raw (.bool true)⟩)++erL.map fun p=>⟨8,[avZ p.1],.tup [avG (Rg.mk false false noneT),avI p.2.1,avI p.2.2]⟩
theorem zms: ∀c∈tblR,CtOk c:=by
 intro c hc;simp only[tblR,mem_append,List.mem_map] at hc;rcases hc with(⟨p,hp,rfl⟩|⟨p,hp,rfl⟩)|⟨p,hp,rfl⟩
 ·refine z4c 1100 10 p.1 (p.2,(p.1.length:Int),0) ?_;simp only[exL,mem_cons,List.not_mem_nil,or_false] at hp;rcases hp with rfl|rfl|rfl|rfl|rfl|rfl<;>kernel_rfl
 ·refine qes p.2.t p.2.t true ?_;simp only[exL,mem_cons,List.not_mem_nil,or_false] at hp;rcases hp with rfl|rfl|rfl|rfl|rfl|rfl<;>decide+kernel
 ·refine z4c 1100 10 p.1 (Rg.mk false false noneT,p.2.1,p.2.2) ?_;simp only[erL,mem_cons,List.not_mem_nil,or_false] at hp;rcases hp with rfl|rfl|rfl|rfl|rfl|rfl|rfl|rfl|rfl|rfl|rfl|rfl|rfl<;>kernel_rfl
theorem z7h:Good prog (tbl []) noS:=zij fun c hc=>by cases hc
theorem cls0:CtOk ⟨9,[avZ [98]],avT (clT (bS 98))⟩:=zdt true z7h 300 (by kernel_rfl)
theorem cls1:CtOk ⟨9,[avZ [99]],avT (clT (bS 99))⟩:=zdt true z7h 300 (by kernel_rfl)
theorem cls3:CtOk ⟨9,[avZ [97]],avT (clT (bS 97))⟩:=zdt true z7h 300 (by kernel_rfl)
theorem cls4:CtOk ⟨9,[avZ [48,49,50,51,52,53,54,55,56,57,95]],avT (clT (digU))⟩:=zdt true z7h 300 (by kernel_rfl)
def qcu:List AV:=[.raw (.int .u8 5),.raw (.int .u64 0),.raw (.int .u64 0),.raw (.int .u64 0),.raw (.int .u64 0),.raw (.int .i64 0),.raw (.int .i64 (-1)),.list 1 (Enc.cells (clT (bS 98))) .full]
def twoC:List AV:=[.raw (.int .u8 5),.raw (.int .u64 0),.raw (.int .u64 0),.raw (.int .u64 0),.raw (.int .u64 0),.raw (.int .i64 2),.raw (.int .i64 3),.list 1 (Enc.cells (clT (bS 99))) .full]
def emC:List AV:=[.raw (.int .u8 1),.raw (.int .u64 0),.raw (.int .u64 0),.raw (.int .u64 0),.raw (.int .u64 0),.raw (.int .i64 0),.raw (.int .i64 0),.list 0 [] .full]
def awS:List AV:=(.raw (.bool false):: .ptr 0 0:: .ptr 1 0:: .ptr 2 0:: .ptr 3 0:: .top:: .top:: .top:: .top:: .top:: .top:: .top:: .top:: .top:: .top:: .top:: .top:: .top:: .top:: .top:: .top:: .top:: .top:: .top:: .top:: .top:: .top:: .top:: .top:: .top:: .top:: .top:: .top:: .top:: .top:: .top:: .top:: .top:: .top:: .top:: .top:: .top:: .top:: .top:: .top:: .top:: .top:: .top:: .top:: .top:: .top:: .top:: .top:: .top:: .top:: .top:: .top:: .top:: .top:: .top:: .top:: .top:: .top:: .top:: .top:: .top:: .top:: .top:: .top:: .top:: .top:: .top:: .top:: .top:: .top:: .top:: .top:: .top:: .top:: .top:: .top:: .top:: .top:: .top:: .top:: .top:: .top:: .top:: .top:: .top:: .top:: .top:: .top:: .top:: .top:: .top:: .top:: .top:: .top:: .top:: .top:: .top:: .top:: .top:: .top:: .top:: .top:: .top:: .top:: .top:: .top:: .top:: .top:: .top:: .top:: .top:: .top:: .top:: .top:: .top:: .top:: .top:: .top:: .top:: .top:: .top:: .top:: .top:: .top:: .top:: .top:: .top:: .top:: .top:: .top:: .top:: .top:: .top:: .top:: .top:: .top:: .top:: .top:: .top:: .top:: .top:: .top::[])
def awE:List AV:=(.raw (.bool false):: .ptr 0 0:: .ptr 1 0:: .ptr 2 0:: .ptr 3 0:: .top:: .top:: .top:: .top:: .top:: .top:: .top:: .top:: .top:: .top:: .top:: .top:: .top:: .top:: .top:: .top:: .top:: .top:: .top:: .top:: .top:: .top:: .top:: .top:: .top:: .top:: .top:: .top:: .top:: .top:: .top:: .top::avT (clT (bS 97)):: .agg qcu::avT (clT (bS 99)):: .list 2 (qcu++Enc.cells ((clT (bS 99)):Tr)) .full::avT (.mk 3 0#256 0 0 [z1l,(clT (bS 99))]):: .list 2 (Enc.cells ((clT (bS 97)):Tr)++Enc.cells ((.mk 3 0#256 0 0 [z1l,(clT (bS 99))]):Tr)) .full::avT eG0.t::avG eG0::avT (clT (bS 97))::avT (clT (bS 98)):: .list 2 (Enc.cells ((clT (bS 97)):Tr)++Enc.cells ((clT (bS 98)):Tr)) .full::avT eG1.t::avG eG1::avT (clT (bS 97)):: .list 1 (Enc.cells ((clT (bS 97)):Tr)) .full::avT (.mk 6 0#256 0 0 [(clT (bS 97))])::avT (clT (bS 98)):: .agg emC:: .list 2 (Enc.cells ((clT (bS 98)):Tr)++emC) .full::avT (.mk 4 0#256 0 0 [(clT (bS 98)),emT]):: .agg twoC:: .list 3 (Enc.cells ((.mk 6 0#256 0 0 [(clT (bS 97))]):Tr)++Enc.cells ((.mk 4 0#256 0 0 [(clT (bS 98)),emT]):Tr)++twoC) .full::avT eG2.t::avG eG2::avT qgc::avG eG3::avT (clT digU)::avG eG4::avT (clT (bS 97))::avG eG5:: .top:: .top:: .top:: .top:: .top:: .top:: .top:: .top:: .top:: .top:: .top:: .top:: .top:: .top:: .top:: .top:: .top:: .top:: .top:: .top:: .top:: .top:: .top:: .top:: .top:: .top:: .top:: .top:: .top:: .top:: .top:: .top:: .top:: .top:: .top:: .top:: .top:: .top:: .top:: .top:: .top:: .top:: .top:: .top:: .top:: .top:: .top:: .top:: .top:: .top:: .top:: .top:: .top:: .top:: .top:: .top:: .top:: .top:: .top:: .top:: .top:: .top:: .top:: .top:: .top:: .top:: .top:: .top:: .top:: .top:: .top:: .top:: .top:: .top:: .top:: .top:: .top:: .top:: .top:: .top::[])
def awσ:St:=⟨[(33,qcu),(33,twoC),(33,emC),(33,Enc.cells qgc)],[],[],0,false⟩
def awM:MI:=⟨0,[(0,36,false),(37,67,true)],[(9,.string (bs eS0),44),(15,.string (bs eS1),49),(27,.string (bs eS2),60),(30,.string (bs eS3),62),(33,.string (bs eS4),64),(36,.string (bs eS5),66)],[(38,68)]⟩
theorem zvc (k:Nat)(l:List AV)(t:Tr)(h:zkf prog (tbl []) (evQ true prog (tbl []) noS 300) 10 [.raw (.int .u8 k),.list t.l.length l .none]=some (avT t)):Pure (ITP prog) prog 10 [.raw (.int .u8 k),.list t.l.length l .none] (avT t):=zdt true z7h 300 h
theorem keyNe_s {a b:List UInt8} (h:((bs a)==(bs b))=false):zzr .string (.string (bs a)) (.string (bs b)):=by
 show some ((bs a)==(bs b))=some false;rw[h]
def qjf:List (Nat×Nat):=[(9,0),(15,1),(27,2),(30,3),(33,4),(36,5)]
def insS (n:Nat):List UInt8:=match n with|0=>eS0|1=>eS1|2=>eS2|3=>eS3|4=>eS4|_=>eS5
def insV (n:Nat):Nat:=match n with|0=>44|1=>49|2=>60|3=>62|4=>64|_=>66
theorem insK (i n:Nat)(q:Nat×Value×Nat)(hq:q∈awM.ins)(h:(i,n)∈qjf):q=(i,.string (bs (insS n)),insV n) \/(q.1≠i/\ zzr .string (.string (bs (insS n))) q.2.1):=by
 simp only[awM,qjf,mem_cons,List.not_mem_nil,or_false,Prod.mk.injEq] at hq h;rcases h with⟨rfl,rfl⟩|⟨rfl,rfl⟩|⟨rfl,rfl⟩|⟨rfl,rfl⟩|⟨rfl,rfl⟩|⟨rfl,rfl⟩<;>rcases hq with rfl|rfl|rfl|rfl|rfl|rfl<;>first|exact .inl rfl|exact .inr ⟨by decide,keyNe_s (by decide+kernel)⟩
def awMs:List Bool:=[true,true,true,true,true,true,true,true,true,true,true,true,true,true,true,true,true,true,true,true,true,true,true,true,true,true,true,true,true,true,true,true,true,true,true,true,false,false,false,false,false,false,false,false,false,false,false,false,false,false,false,false,false,false,false,false,false,false,false,false,false,false,false,false,false,false,false,false,true,true,true,true,true,true,true,true,true,true,true,true,true,true,true,true,true,true,true,true,true,true,true,true,true,true,true,true,true,true,true,true,true,true,true,true,true,true,true,true,true,true,true,true,true,true,true,true,true,true,true,true,true,true,true,true,true,true,true,true,true,true,true,true,true,true,true,true,true,true,true,true,true,true,true,true,true,true,true]
def awM2:List Bool:=[true,true,true,true,true,true,false,false,false,false,false,true,true,true,true,true,true,true,true,true,true,true,true,true,true,true,true,true,true,true,true,true,true,true,true,true,true,true,true,true,true,true,true,true,true,true,true,true,true,true,true,true,true,true,true,true,true,true,true,true,true,true,true,true,true,true,true,true,true,false,false,false,false,false,false,false,false,false,false,false,false,false,false,false,false,false,false,false,false,false,false,false,false,false,false,false,false,false,false,false,false,false,false,false,false,false,false,false,false,false,true,true,true,true,true,true,true,true,true,true,true,true,true,true,true,true,true,true,true,true,true,true,true,true,true,true,true,true,true,true,true,true,true,true,true,true,true]
def awSL (r:Nat):List AV:=awS.set 68 (.raw (.pointer (some ⟨r,0,none⟩)))
theorem aw_map {F:Fence} {nn B:Nat} {K:Exit->Act->World->Prop} {X0:Cx} {ops:Array Oper} (hops:(do let c<-Tryd.f5.body;zkj 10 c)=some ops)(hF:FenceOk F Tryd.prog):qee (ITP Tryd.prog) Tryd.prog F nn B K X0 ops awE (sgL awσ []) (MpOk ops awM X0.w.heap.size) 0 ops.toList ((.top::avT (clT (bS 97)):: .agg qcu::avT (clT (bS 99)):: .list 2 (qcu++Enc.cells ((clT (bS 99)):Tr)) .full::avT (.mk 3 0#256 0 0 [z1l,(clT (bS 99))]):: .list 2 (Enc.cells ((clT (bS 97)):Tr)++Enc.cells ((.mk 3 0#256 0 0 [z1l,(clT (bS 99))]):Tr)) .full::avT eG0.t::avG eG0:: .raw undef::avT (clT (bS 97))::avT (clT (bS 98)):: .list 2 (Enc.cells ((clT (bS 97)):Tr)++Enc.cells ((clT (bS 98)):Tr)) .full::avT eG1.t::avG eG1:: .raw undef::avT (clT (bS 97)):: .list 1 (Enc.cells ((clT (bS 97)):Tr)) .full::avT (.mk 6 0#256 0 0 [(clT (bS 97))])::avT (clT (bS 98)):: .agg emC:: .list 2 (Enc.cells ((clT (bS 98)):Tr)++emC) .full::avT (.mk 4 0#256 0 0 [(clT (bS 98)),emT]):: .agg twoC:: .list 3 (Enc.cells ((.mk 6 0#256 0 0 [(clT (bS 97))]):Tr)++Enc.cells ((.mk 4 0#256 0 0 [(clT (bS 98)),emT]):Tr)++twoC) .full::avT eG2.t::avG eG2:: .raw undef::avT qgc::avG eG3:: .raw undef::avT (clT digU)::avG eG4:: .raw undef::avT (clT (bS 97))::avG eG5:: .raw undef:: .top:: .top::[])):=by
 cases hops;refine⟨fun _=>qbp (zn _) hF rfl rfl rfl rfl (by simp[awM]) (by decide) (by decide) (by decide) (Nat.le_of_ble_eq_true rfl) (fun _=>rfl),?_⟩;refine⟨d_c (zn _) hF cls3 (hb:=by kernel_rfl),?_⟩;refine⟨d_l (zn _) hF (by kernel_rfl) z6l (hb:=by kernel_rfl),?_⟩;refine⟨d_c (zn _) hF cls1 (hb:=by kernel_rfl),?_⟩;refine⟨d_q (zn _) hF (fun _=>by kernel_rfl) (hb:=by kernel_rfl),?_⟩;refine⟨d_c (zn _) hF (zvc 3 (Enc.cellsL ((.mk 3 0#256 0 0 [z1l,(clT (bS 99))]):Tr).l) (.mk 3 0#256 0 0 [z1l,(clT (bS 99))]) (by kernel_rfl)) (hb:=by kernel_rfl),?_⟩;refine⟨d_q (zn _) hF (fun _=>by kernel_rfl) (hb:=by kernel_rfl),?_⟩;refine⟨d_c (zn _) hF (zvc 4 (Enc.cellsL (eG0.t:Tr).l) eG0.t (by kernel_rfl)) (hb:=by kernel_rfl),?_⟩;refine⟨d_q (zn _) hF (fun _=>by kernel_rfl) (hb:=by kernel_rfl),?_⟩;refine⟨fun ho=>zol (kd:= .string) (k:= .string (bs eS0)) (kt:=9) (et:=35) (j':=0) (tm:=36) (tv:=44) (f':=false) (zn _) hF rfl rfl rfl ho rfl rfl trivial (by decide) (by simp[awM]) (by simp[awM]) rfl (fun q hq=>insK 9 0 q hq (by simp[qjf])) (by decide) (by decide) (fun _=>rfl),?_⟩;refine⟨d_c (zn _) hF cls3 (hb:=by kernel_rfl),?_⟩;refine⟨d_c (zn _) hF cls0 (hb:=by kernel_rfl),?_⟩;refine⟨d_q (zn _) hF (fun _=>by kernel_rfl) (hb:=by kernel_rfl),?_⟩;refine⟨d_c (zn _) hF (zvc 3 (Enc.cellsL (eG1.t:Tr).l) eG1.t (by kernel_rfl)) (hb:=by kernel_rfl),?_⟩;refine⟨d_q (zn _) hF (fun _=>by kernel_rfl) (hb:=by kernel_rfl),?_⟩;refine⟨fun ho=>zol (kd:= .string) (k:= .string (bs eS1)) (kt:=9) (et:=35) (j':=0) (tm:=36) (tv:=49) (f':=false) (zn _) hF rfl rfl rfl ho rfl rfl trivial (by decide) (by simp[awM]) (by simp[awM]) rfl (fun q hq=>insK 15 1 q hq (by simp[qjf])) (by decide) (by decide) (fun _=>rfl),?_⟩;refine⟨d_c (zn _) hF cls3 (hb:=by kernel_rfl),?_⟩;refine⟨d_q (zn _) hF (fun _=>by kernel_rfl) (hb:=by kernel_rfl),?_⟩;refine⟨d_c (zn _) hF (zvc 6 (Enc.cellsL ((.mk 6 0#256 0 0 [(clT (bS 97))]):Tr).l) (.mk 6 0#256 0 0 [(clT (bS 97))]) (by kernel_rfl)) (hb:=by kernel_rfl),?_⟩;refine⟨d_c (zn _) hF cls0 (hb:=by kernel_rfl),?_⟩;refine⟨d_l (zn _) hF (by kernel_rfl) z6l (hb:=by kernel_rfl),?_⟩;refine⟨d_q (zn _) hF (fun _=>by kernel_rfl) (hb:=by kernel_rfl),?_⟩;refine⟨d_c (zn _) hF (zvc 4 (Enc.cellsL ((.mk 4 0#256 0 0 [(clT (bS 98)),emT]):Tr).l) (.mk 4 0#256 0 0 [(clT (bS 98)),emT]) (by kernel_rfl)) (hb:=by kernel_rfl),?_⟩;refine⟨d_l (zn _) hF (by kernel_rfl) z6l (hb:=by kernel_rfl),?_⟩;refine⟨d_q (zn _) hF (fun _=>by kernel_rfl) (hb:=by kernel_rfl),?_⟩;refine⟨d_c (zn _) hF (zvc 3 (Enc.cellsL (eG2.t:Tr).l) eG2.t (by kernel_rfl)) (hb:=by kernel_rfl),?_⟩;refine⟨d_q (zn _) hF (fun _=>by kernel_rfl) (hb:=by kernel_rfl),?_⟩;refine⟨fun ho=>zol (kd:= .string) (k:= .string (bs eS2)) (kt:=9) (et:=35) (j':=0) (tm:=36) (tv:=60) (f':=false) (zn _) hF rfl rfl rfl ho rfl rfl trivial (by decide) (by simp[awM]) (by simp[awM]) rfl (fun q hq=>insK 27 2 q hq (by simp[qjf])) (by decide) (by decide) (fun _=>rfl),?_⟩;refine⟨d_l (zn _) hF (by kernel_rfl) z6l (hb:=by kernel_rfl),?_⟩;refine⟨d_q (zn _) hF (fun _=>by kernel_rfl) (hb:=by kernel_rfl),?_⟩;refine⟨fun ho=>zol (kd:= .string) (k:= .string (bs eS3)) (kt:=9) (et:=35) (j':=0) (tm:=36) (tv:=62) (f':=false) (zn _) hF rfl rfl rfl ho rfl rfl trivial (by decide) (by simp[awM]) (by simp[awM]) rfl (fun q hq=>insK 30 3 q hq (by simp[qjf])) (by decide) (by decide) (fun _=>rfl),?_⟩;refine⟨d_c (zn _) hF cls4 (hb:=by kernel_rfl),?_⟩;refine⟨d_q (zn _) hF (fun _=>by kernel_rfl) (hb:=by kernel_rfl),?_⟩;refine⟨fun ho=>zol (kd:= .string) (k:= .string (bs eS4)) (kt:=9) (et:=35) (j':=0) (tm:=36) (tv:=64) (f':=false) (zn _) hF rfl rfl rfl ho rfl rfl trivial (by decide) (by simp[awM]) (by simp[awM]) rfl (fun q hq=>insK 33 4 q hq (by simp[qjf])) (by decide) (by decide) (fun _=>rfl),?_⟩;refine⟨d_c (zn _) hF cls3 (hb:=by kernel_rfl),?_⟩;refine⟨d_q (zn _) hF (fun _=>by kernel_rfl) (hb:=by kernel_rfl),?_⟩;refine⟨fun ho=>zol (kd:= .string) (k:= .string (bs eS5)) (kt:=9) (et:=35) (j':=0) (tm:=36) (tv:=66) (f':=false) (zn _) hF rfl rfl rfl ho rfl rfl trivial (by decide) (by simp[awM]) (by simp[awM]) rfl (fun q hq=>insK 36 5 q hq (by simp[qjf])) (by decide) (by decide) (fun _=>rfl),?_⟩;refine⟨fun ho=>du_mv (zn _) hF (t:=67) (t':=36) (j':=0) (f:=true) (f':=false) rfl rfl rfl ho (by decide) (by simp[awM]) (by simp[awM]) rfl (by decide) (by decide) (by decide) (Nat.le_of_ble_eq_true rfl) (fun _=>rfl) (fun _=>by kernel_rfl),?_⟩;refine⟨fun ho=>qet (zn _) hF (j':=37) (t':=67) rfl rfl rfl ho rfl (by decide) rfl (by simp[awM]) rfl (by decide) (by decide) (Nat.le_of_ble_eq_true rfl) (fun _=>rfl),trivial⟩
end Go.Ab
