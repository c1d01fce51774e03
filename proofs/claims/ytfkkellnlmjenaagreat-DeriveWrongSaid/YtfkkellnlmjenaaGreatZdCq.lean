/-
  Slices of boxed slices, copy, make of elements of several cells: as lists.
-/
import Derived.Test.YtfkkellnlmjenaaGreatRows
import Derived.Test.YtfkkellnlmjenaaGreatZeP
set_option linter.unusedSimpArgs false
set_option linter.unusedVariables false
namespace Go.Ab
open Go Go.RowKit Go.Fwd Go.Proofs
theorem mix:Tryz.prog.follows .mixedOrders=true:=by kernel_rfl
theorem ents (f:Nat)(fn:Func)(hf:Tryz.prog.funcs[f]? =some fn)(hb:fn.body.isSome=true):Ent Tryz.prog f:=by
 obtain⟨c,hc⟩:=Option.isSome_iff_exists.1 hb
 have hall:(Tryz.prog.funcs.toList.all fun fn=> !(fn.name== "runtime.NumGoroutine"))=true:=by kernel_rfl
 have:=List.all_eq_true.1 hall fn (Array.mem_toList_iff.2 (Array.mem_of_getElem? hf))
 exact enters_of hf (by simpa using this) hc
def noP:CallP:=fun _ _=>none
def noS:CallS:=fun _ _ _=>none
theorem zyt:Good Tryz.prog noP noS:=⟨mix,ents,(fun _ _ _ h=>nomatch h),(fun _ _ _ _ _ h=>nomatch h)⟩
theorem undS:Tryz.prog.underlying 26=some (.array 4 24):=by kernel_rfl
theorem undW:Tryz.prog.underlying 24=some (.int .u64):=by kernel_rfl
theorem sizeW (w:World):(sizeOf 24).run Tryz.prog w= .ok 1 w:=by kernel_rfl
theorem aggW (w:World):(isAgg 24).run Tryz.prog w= .ok false w:=by kernel_rfl
theorem eqInS' (d:Nat)(a0 a1 a2 a3 b0 b1 b2 b3:Int)(w:World):(Op.equalIn (d+1+1) 26 (.agg #[.int .u64 a0,.int .u64 a1,.int .u64 a2,.int .u64 a3]) (.agg #[.int .u64 b0,.int .u64 b1,.int .u64 b2,.int .u64 b3])).run Tryz.prog w=
 .ok (a0==b0&&a1==b1&&a2==b2&&a3==b3) w:=by
 rw[Op.equalIn]
 simp only[Sem.run_bind,run_underlying undS,Result.andThen_ok,sizeW]
 have hq: ∀(a b:Int) (w:World),(Op.equalIn (d+1) 24 (.int .u64 a) (.int .u64 b)).run Tryz.prog w= .ok (a==b) w:=fun a b w=>run_equalIn_int w d 24 .u64 .u64 a b undW
 have hr:List.range' 0 4=[0,1,2,3]:=rfl
 simp[part,hr,aggW,Sem.run_bind,hq,Result.andThen]
 by_cases h0:a0=b0<;>by_cases h1:a1=b1<;>by_cases h2:a2=b2<;>by_cases h3:a3=b3<;>simp[h0,h1,h2,h3,hq,Result.andThen]
theorem eqInS (a0 a1 a2 a3 b0 b1 b2 b3:Int)(w:World):(Op.equalIn 10000 26 (.agg #[.int .u64 a0,.int .u64 a1,.int .u64 a2,.int .u64 a3]) (.agg #[.int .u64 b0,.int .u64 b1,.int .u64 b2,.int .u64 b3])).run Tryz.prog w=
 .ok (a0==b0&&a1==b1&&a2==b2&&a3==b3) w:=eqInS' 9998 _ _ _ _ _ _ _ _ w
theorem qno:Tryz.prog.eqGuardType Tryz.prog.depth 26=false:=by kernel_rfl
theorem qfd {ρ:Operand→AV} {o:Oper} {x y:Operand} {c} (s t:BS)(ho:o.op= .binOp .eql 26 x y c)(hx:ρ x=qjn s)(hy:ρ y=qjn t):zoq Tryz.prog ρ o (.raw (.bool (decide (s=t)))):=by
 refine⟨?_,by rw[ho];intros;simp,by rw[ho];intros;simp,.bool (decide (s=t)),fun w=> ?_,rfl,rfl⟩
 ·rw[ho];simp[Op.operands,hx,hy,qjn,zgg,zen,zkk]
 ·have h1:zdh ρ x= .agg #[.int .u64 (wd s 0),.int .u64 (wd s 1),.int .u64 (wd s 2),.int .u64 (wd s 3)]:=by simp[zdh,hx,qjn,zgg,zen,zkk]
  have h2:zdh ρ y= .agg #[.int .u64 (wd t 0),.int .u64 (wd t 1),.int .u64 (wd t 2),.int .u64 (wd t 3)]:=by simp[zdh,hy,qjn,zgg,zen,zkk]
  have h3:=eqInS (wd s 0) (wd s 1) (wd s 2) (wd s 3) (wd t 0) (wd t 1) (wd t 2) (wd t 3) w
  rw[qom] at h3
  simp[execOp,ho,h1,h2,eqGuard,binOp,Op.equal,Op.maxDepth,program,Sem.run,qno,h3]
theorem qcn {ρ:Operand→AV} {o:Oper} {x y:Operand} {c} (s t:BS)(ho:o.op= .binOp .neq 26 x y c)(hx:ρ x=qjn s)(hy:ρ y=qjn t):zoq Tryz.prog ρ o (.raw (.bool (decide (s≠t)))):=by
 refine⟨?_,by rw[ho];intros;simp,by rw[ho];intros;simp,.bool (decide (s≠t)),fun w=> ?_,rfl,rfl⟩
 ·rw[ho];simp[Op.operands,hx,hy,qjn,zgg,zen,zkk]
 ·have h1:zdh ρ x= .agg #[.int .u64 (wd s 0),.int .u64 (wd s 1),.int .u64 (wd s 2),.int .u64 (wd s 3)]:=by simp[zdh,hx,qjn,zgg,zen,zkk]
  have h2:zdh ρ y= .agg #[.int .u64 (wd t 0),.int .u64 (wd t 1),.int .u64 (wd t 2),.int .u64 (wd t 3)]:=by simp[zdh,hy,qjn,zgg,zen,zkk]
  have h3:=eqInS (wd s 0) (wd s 1) (wd s 2) (wd s 3) (wd t 0) (wd t 1) (wd t 2) (wd t 3) w
  rw[qom] at h3
  simp[execOp,ho,h1,h2,eqGuard,binOp,Op.equal,Op.maxDepth,program,Sem.run,qno,h3]
theorem qaj {ρ:Operand→AV} {o:Oper} {x y:Operand} {c} (s t:BS)(ho:o.op= .binOp .eql 26 x y c)(hx:ρ x= .agg (Enc.cells s))(hy:ρ y= .agg (Enc.cells t)):zoq Tryz.prog ρ o (.raw (.bool (decide (s=t)))):=qfd s t ho hx hy
theorem zvg {ρ:Operand→AV} {o:Oper} {x y:Operand} {c} (s t:BS)(ho:o.op= .binOp .neq 26 x y c)(hx:ρ x= .agg (Enc.cells s))(hy:ρ y= .agg (Enc.cells t)):zoq Tryz.prog ρ o (.raw (.bool (decide (s≠t)))):=qcn s t ho hx hy
theorem or_run (a b:BS):Pure (ITP Tryz.prog) Tryz.prog 13 [.agg (Enc.cells a),.agg (Enc.cells b)] (.agg [.raw (.int .u64 (orI .u64 (wd a 0) (wd b 0))),.raw (.int .u64 (orI .u64 (wd a 1) (wd b 1))),.raw (.int .u64 (orI .u64 (wd a 2) (wd b 2))),.raw (.int .u64 (orI .u64 (wd a 3) (wd b 3)))]):=zao true zyt 100 (by kernel_rfl)
theorem qlw (a b:BS):Pure (ITP Tryz.prog) Tryz.prog 144 [.agg (Enc.cells a),.agg (Enc.cells b)] (.agg [.raw (.int .u64 (zpy .u64 (wd a 0) (wd b 0))),.raw (.int .u64 (zpy .u64 (wd a 1) (wd b 1))),.raw (.int .u64 (zpy .u64 (wd a 2) (wd b 2))),.raw (.int .u64 (zpy .u64 (wd a 3) (wd b 3)))]):=zao true zyt 100 (by kernel_rfl)
theorem k_or2 (a b:BS):Pure (ITP Tryz.prog) Tryz.prog 13 [.agg (Enc.cells a),.agg (Enc.cells b)] (.agg (Enc.cells (a|||b))):=by
 have:=or_run a b
 simp only[wd_or] at this;exact this
theorem qcy (a b:BS):Pure (ITP Tryz.prog) Tryz.prog 144 [.agg (Enc.cells a),.agg (Enc.cells b)] (.agg (Enc.cells (a&&& ~~~ b))):=by
 have:=qlw a b
 rw[zyb _ _ 0 (by decide),zyb _ _ 1 (by decide),zyb _ _ 2 (by decide),zyb _ _ 3 (by decide)] at this;exact this
end Go.Ab
namespace Go.Ab
open Go Go.RowKit Go.Fwd
end Go.Ab
namespace Go.Ab
open Go Go.RowKit Go.Fwd
def zpi (n:Nat)(i j:Int)(st:Room):Room:=if i.toNat=0∧j.toNat=n then st else if j.toNat=n∧st= .full then .full else .none
theorem z9w {α:Type} (l:List α) {i j:Int} (g:0≤i∧i≤j∧j≤(l.length:Int)):(sub l i j).length=j.toNat-i.toNat:=by
 simp only[sub,List.length_take,List.length_drop];omega
theorem z4g {α:Type} [Enc α] (l:List α) {i j:Int} (g:0≤i∧i≤j∧j≤(l.length:Int)):((Enc.cellsL l).drop (i.toNat*Enc.sz α)).take ((j.toNat-i.toNat)*Enc.sz α)=Enc.cellsL (sub l i j):=by
 rw[Enc.drop,Enc.take];rfl
section
variable {P:Program} {ρ:Operand→AV} {σ:St} {o:Oper}
theorem z1n {α:Type} [Enc α] (l:List α)(n:Nat)(st:Room):zcv (.list n (Enc.cellsL l) st)= .list n (Enc.cellsL l) .none:=by
 rw[zcv,Enc.stripL]
theorem q_sub_H {α:Type} [Enc α] {l:List α} {x y:Operand} {t e:TypeId} {st:Room} {j:Int} (g:0≤0∧0≤j∧j≤(l.length:Int))(ho:o.op= .slice t x none (some y) none)(hx:ρ x= .list l.length (Enc.cellsL l) st)(hy:ρ y= .raw (.int .i64 j))(hu:P.underlying t=some (.slice e))(hs:zdq P e=some (Enc.sz α)):
 qop P ρ σ o=some (.list (sub l 0 j).length (Enc.cellsL (sub l 0 j)) (zpi l.length 0 j st)):=by
 have hg:(0:Int)≤0∧0≤j∧j≤(l.length:Int):=⟨Int.le_refl 0,g.2⟩
 have h1:zky P t (ρ x) none (some (ρ y)) none=some (.list (sub l 0 j).length (Enc.cellsL (sub l 0 j)) (zpi l.length 0 j st)):=by
  have hj:=g.2
  rw[z9w l hg,←z4g l hg,hx,hy]
  simp[zky,hu,hs,zey,zit,Enc.lenL,zpi,hj]
 simp only[qop,ho,Option.map,h1]
theorem zyq {x:Operand} {s t:TypeId} {k:IntKind} {n:Int} (g: -9223372036854775808≤n∧n<9223372036854775808)(ho:o.op= .convert s t x)(hx:ρ x= .raw (.int k n))(hs:val? P (Next.value<$>convert s t (.int k n))=some (.value (.int .i64 (IntKind.i64.wrap n)))):qop P ρ σ o=some (.raw (.int .i64 n)):=by
 have h:=znr g.1 g.2
 rw[h] at hs
 simp[qop,zhu,ho,Op.operands,hx,zgg,execOp,zdh,hs,zon]
 exact⟨rfl,rfl⟩
theorem z0v {t:TypeId} {x y:Operand} {s off n:Nat} {cs:List AV} {bx:TypeId×List AV} (ho:o.op= .store t x y)(hx:ρ x= .ptr s off)(hy:ρ y=zcm n cs)(hb:σ.boxes[s]? =some bx)(hn:zdq P t=some 1)(hl:off+1≤bx.2.length):
 aop P ρ σ o=some (.raw undef,{σ with boxes:=σ.boxes.set s (bx.1,bx.2.take off++[zcm n cs]++bx.2.drop (off+1))}):=by
 have h1:cellsOf (zcm n cs)=[zcm n cs]:=by unfold zcm;split<;>rfl
 have h2:zkx (zcm n cs)=true:=by unfold zcm;split<;>rfl
 rw[zmb (n:=1) ho hx hy hb hn ⟨h2,by rw[h1];rfl,hl,by decide⟩,h1]
end
section
variable {P:Program} {ρ:Operand→AV} {σ:St} {o:Oper}
theorem q_subL_ {α:Type} [Enc α] {l:List α} {x y:Operand} {t e:TypeId} {st:Room} {i:Int} (g:0≤i∧i≤(l.length:Int)∧(l.length:Int)≤(l.length:Int))(ho:o.op= .slice t x (some y) none none)(hx:ρ x= .list l.length (Enc.cellsL l) st)(hy:ρ y= .raw (.int .i64 i))(hu:P.underlying t=some (.slice e))(hs:zdq P e=some (Enc.sz α)):
 qop P ρ σ o=some (.list (sub l i l.length).length (Enc.cellsL (sub l i l.length)) (zpi l.length i l.length st)):=by
 have h1:zky P t (ρ x) (some (ρ y)) none none=some (.list (sub l i l.length).length (Enc.cellsL (sub l i l.length)) (zpi l.length i l.length st)):=by
  have hj:=g.1
  have hk:=g.2.1
  rw[z9w l g,←z4g l g,hx,hy]
  simp[zky,hu,hs,zey,zit,Enc.lenL,zpi,hj,hk]
 simp only[qop,ho,Option.map,h1]
end
end Go.Ab
namespace Go.Ab
open Go Go.RowKit Go.Fwd Go.Proofs
structure Bd where
 lo:Int
 mo:Int
 deriving DecidableEq
def qgh (e:Bd):List AV:=[.raw (.int .i64 e.lo),.raw (.int .i64 e.mo)]
instance:Enc Bd where
 inh:=⟨0,0⟩
 cells:=qgh
 cellsL l:=l.flatMap qgh
 sz:=2
 pos:=by decide
 nil:=rfl
 cons _ _:=rfl
 len _:=rfl
 clo _:=rfl
set_option maxRecDepth 100000 in
theorem qdz {ρ:Operand→AV} {σ:St} {o:Oper} {x:Operand} {b:Nat} {t:TypeId} {i:Int} (s:BS)(hi:0≤i∧i<4)(ho:o.op= .load 24 x)(hx:ρ x= .ptr b (0+i.toNat*1))(hb:σ.boxes[b]? =some (t,Enc.cells s)):qop Tryz.prog ρ σ o=some (.raw (.int .u64 (wd s i.toNat))):=by
 have key: ∀j:Nat,j<4→rd Tryz.prog 24 ((Enc.cells s).drop (0+j*1))=some (.raw (.int .u64 (wd s j))):=by
  intro j hj
  match j,hj with
  |0,_=>rfl
  |1,_=>rfl
  |2,_=>rfl
  |3,_=>rfl
 simp only[qop,ho,zqp,hx,hb]
 exact key i.toNat (by omega)
end Go.Ab
namespace Go.Ab
open Go Go.RowKit Go.Fwd
section
variable {IT:IterP} {P:Program} {W:Owed} {k0:Nat}
theorem zxt {id:Nat} {ops:Array Oper} {y:Code} {Q:AQ} {S:List AV} {σ:St} (S1:List AV)(σ1:St)(h:zru IT P W ops (fun S σ=>Wk k0 S σ S1 σ1) ops.size (Array.replicate ops.size false) S σ)(hrest:awp IT P W k0 y Q S1 σ1):awp IT P W k0 (.seq (.region id ops true) y) Q S σ:=
 .inr (.inr (zik (fun S σ hw=>⟨S1,σ1,hw,hrest⟩) _ _ _ _ h))
theorem zju {ops0:Array Oper} {FIN0:List AV→St→Prop} {k:Nat} {l:Array Bool} {S:List AV} {σ:St} (h: ∀ops,ops=ops0→ ∀FIN:List AV→St→Prop,(∀S σ,FIN0 S σ→FIN S σ)→ ∀S0,S0=S→zru IT P W ops FIN k l S0 σ):zru IT P W ops0 FIN0 k l S σ:=h ops0 rfl FIN0 (fun _ _ h=>h) S rfl
theorem aopAt_s {ops ops0:Array Oper} {K:List AV→St→Prop} {i:Nat} {o:Oper} {S:List AV} {σ:St} (hops:ops=ops0)(ho:ops0[i]? =some o)(h:zcz IT P W ops K [o] S σ):z0l IT P W ops K i S σ:=by
 subst hops
 unfold z0l
 rw[ho]
 simp only[zcz] at h
 exact h
theorem aany_n {ops ops0:Array Oper} {FIN:List AV→St→Prop} {k:Nat} {bs:List Bool} {S:List AV} {σ:St} (hops:ops=ops0)(is:List Nat)(hr:Region.ready .any ops0 ⟨bs⟩=is)(hne:is≠[])(h: ∀i∈is,z0l IT P W ops (fun S σ=>zru IT P W ops FIN k ⟨bs.set i true⟩ S σ) i S σ):zru IT P W ops FIN (k+1) ⟨bs⟩ S σ:=by
 subst hops
 refine⟨fun e=>absurd (hr.symm.trans e) hne,fun i hi=> ?_⟩
 have h1:=h i (hr▸hi)
 have e:(⟨bs⟩:Array Bool).setIfInBounds i true=⟨bs.set i true⟩:=by
  apply Array.ext'
  simp
 rw[e];exact h1
theorem aany_0 {ops ops0:Array Oper} {FIN:List AV→St→Prop} {bs:List Bool} {S:List AV} {σ:St} (hops:ops=ops0)(hr:Region.ready .any ops0 ⟨bs⟩=[])(h:FIN S σ):zru IT P W ops FIN 0 ⟨bs⟩ S σ:=by
 subst hops
 exact⟨hr,h⟩
theorem z5h {p:Nat→Prop}: ∀i∈([]:List Nat),p i:=fun i h=>by cases h
theorem all_cons {p:Nat→Prop} {a:Nat} {l:List Nat} (h:p a)(t: ∀i∈l,p i): ∀i∈a::l,p i:=fun i hi=>by
 rcases List.mem_cons.1 hi with rfl|hi
 ·exact h
 ·exact t i hi
end
section
variable {P:Program} {ρ:Operand→AV} {σ:St} {o:Oper} {α:Type} [Enc α]
theorem Enc.atK {l:List α} {i:Int} (g:0≤i∧i<l.length)(k:Nat):(Enc.cellsL l).drop (0+i.toNat*Enc.sz α+k)=(Enc.cells (ix l i)++Enc.cellsL (l.drop (i.toNat+1))).drop k:=by
 rw[Nat.zero_add,←List.drop_drop,Enc.at g]
theorem zex {t e:TypeId} {x i:Operand} {s n:Nat} {f:Bool} {k:IntKind} {j:Int} (g:0≤j∧j<n)(ho:o.op= .indexAddr t x i)(hx:ρ x= .bsl s 0 n (Enc.sz α) f)(hi:ρ i= .raw (.int k j))(hu:P.underlying t=some (.slice e))(hs:zdq P e=some (Enc.sz α)):
 qop P ρ σ o=some (.ptr s (0+j.toNat*Enc.sz α)):=z8m ho hx hi hu hs g
theorem zef {l:List α} {i:Int} {k s:Nat} {te t:TypeId} {x:Operand} {a:AV} (g:0≤i∧i<l.length)(ho:o.op= .load t x)(hx:ρ x= .ptr s (0+i.toNat*Enc.sz α+k))(hb:σ.boxes[s]? =some (te,Enc.cellsL l))(hr:rd P t ((Enc.cells (ix l i)++Enc.cellsL (l.drop (i.toNat+1))).drop k)=some a):
 qop P ρ σ o=some a:=by
 rw[←Enc.atK g] at hr
 simp only[qop,ho,hx,zqp,hb,hr]
theorem Enc.putK {l:List α} {i:Int} {x:α} {k n:Nat} {cs:List AV} (g:0≤i∧i<l.length)(hl:cs.length=n)(hk:k+n≤Enc.sz α)(hx:Enc.cells x=(Enc.cells (ix l i)).take k++cs++(Enc.cells (ix l i)).drop (k+n)):
 (Enc.cellsL l).take (0+i.toNat*Enc.sz α+k)++cs++(Enc.cellsL l).drop (0+i.toNat*Enc.sz α+k+n)=Enc.cellsL (l.set i.toNat x):=by
 have hi:i.toNat<l.length:=by omega
 have hset:l.set i.toNat x=l.take i.toNat++[x]++l.drop (i.toNat+1):=by
  rw[List.set_eq_take_append_cons_drop,if_pos hi];simp
 have hlen:=Enc.len (ix l i)
 have e1:(Enc.cellsL l).drop (i.toNat*Enc.sz α)=Enc.cells (ix l i)++Enc.cellsL (l.drop (i.toNat+1)):=Enc.at g
 have e2:(Enc.cellsL l).take (0+i.toNat*Enc.sz α+k)=Enc.cellsL (l.take i.toNat)++(Enc.cells (ix l i)).take k:=by
  rw[Nat.zero_add,List.take_add,Enc.take,e1,List.take_append_of_le_length (by omega)]
 have e3:(Enc.cellsL l).drop (0+i.toNat*Enc.sz α+k+n)=(Enc.cells (ix l i)).drop (k+n)++Enc.cellsL (l.drop (i.toNat+1)):=by
  rw[Nat.zero_add,Nat.add_assoc,←List.drop_drop,e1,List.drop_append_of_le_length (by omega)]
 rw[e2,e3,hset,Enc.app,Enc.app,Enc.cons,Enc.nil,hx]
 simp
theorem zhl {l:List α} {i:Int} {k s n:Nat} {te t:TypeId} {x y:Operand} {v:AV} (x':α)(g:0≤i∧i<l.length)(ho:o.op= .store t x y)(hx:ρ x= .ptr s (0+i.toNat*Enc.sz α+k))(hy:ρ y=v)(hb:σ.boxes[s]? =some (te,Enc.cellsL l))(hn:zdq P t=some n)(hc:zkx v=true)(hl:(cellsOf v).length=n)(h0:0<n)(hk:k+n≤Enc.sz α)
 (hx':Enc.cells x'=(Enc.cells (ix l i)).take k++cellsOf v++(Enc.cells (ix l i)).drop (k+n)):aop P ρ σ o=some (.raw undef,{σ with boxes:=σ.boxes.set s (te,Enc.cellsL (l.set i.toNat x'))}):=by
 have hfit:0+i.toNat*Enc.sz α+k+n≤(Enc.cellsL l).length:=by
  rw[Enc.lenL]
  have h1:i.toNat+1≤l.length:=by omega
  have h2:=Nat.mul_le_mul_right (Enc.sz α) h1
  rw[Nat.succ_mul] at h2
  omega
 rw[zmb (n:=n) ho hx hy hb hn ⟨hc,hl,hfit,h0⟩,Enc.putK g hl hk hx']
theorem zxp {c:Call} {x y:Operand} {t e:TypeId} {i:TypeInfo} {z:Value} {s n by':Nat} {l r:List α} {st:Room} (hn:l.length=n∧0<n∧0<r.length∧(n+r.length)*by'≤140737488355328)(ho:o.op= .call c)(hc:c.callee= .builtin .append)(ha:c.args.toList=[x,y])(ht:c.argTypes.toList=[t,t])
 (hx:ρ x= .bsl s 0 n (Enc.sz α) false) (hy:ρ y= .list r.length (Enc.cellsL r) st) (hb:σ.boxes[s]? =some (e,Enc.cellsL l)) (hu:P.underlying t=some (.slice e)) (hi:P.info? e=some i) (hz:i.zero=some z) (hsz:i.size=Enc.sz α) (hzs:z.cells.size=Enc.sz α) (hby:i.bytes=by'∧0<by'):
 ztl P ρ σ o=some (.bsl σ.boxes.length 0 (n+r.length) (Enc.sz α) false,{σ with boxes:=σ.boxes.set s (e,[])++[(e,Enc.cellsL (l++r))]}):=by
 obtain⟨h1,h2,h3,h4⟩:=hn
 have hp:=Enc.pos (α:=α)
 have hsrc:qjp P σ i.size t t (ρ y)=some (r.length,Enc.cellsL r):=by rw[hy];exact zox ⟨rfl,by rw[Enc.lenL,hsz],by omega⟩
 have hmax:n+r.length≤maxLen:=by
  have h5:n+r.length≤(n+r.length)*by':=Nat.le_mul_of_pos_right _ hby.2
  have h6:140737488355328≤maxLen:=by decide
  omega
 have hcond:Enc.sz α=i.size∧n+r.length≤maxLen∧(n+r.length)*i.bytes≤140737488355328∧0+n*Enc.sz α≤(Enc.cellsL l).length:=⟨hsz.symm,hmax,by rw[hby.1];exact h4,by rw[Enc.lenL,h1];omega⟩
 have hcond2:(0:Nat)=0∧n*Enc.sz α=(Enc.cellsL l).length∧e=e∧0<n:=⟨rfl,by rw[Enc.lenL,h1],rfl,h2⟩
 have hcond0:0<i.size∧z.cells.size=i.size∧0<r.length:=⟨by omega,by omega,h3⟩
 have key:zzg P σ t t (ρ x) (ρ y)=some (.bsl σ.boxes.length 0 (n+r.length) (Enc.sz α) false,{σ with boxes:=σ.boxes.set s (e,[])++[(e,Enc.cellsL (l++r))]}):=by
  rw[zzg]
  simp only[hu,hi,hz,hsrc,if_pos hcond0,hx,hb,if_pos hcond,Bool.false_eq_true,if_false,Enc.app]
  rw[if_pos ⟨trivial,hcond2.2.1,trivial,h2⟩]
 have hnn:ztc (ρ x)=false:=by rw[hx];rfl
 simp only[ztl,ho,hc,ha,ht,key,hnn,Bool.false_eq_true,if_false]
end
section
variable {m:Nat} {g:FZ}
theorem zdw:fgM [] (zby m g [])=[]:=by rw[zby];rfl
theorem zc {a b:AV} {S S':List AV} {ms:List Bool} (h:zmo m g a=b)(r:fgM ms (zby m g S)=S'):fgM (true::ms) (zby m g (a::S))=b::S':=by
 rw[zby];show(bif true then zmo m g a else .top)::_=_;rw[r,h];rfl
theorem zak {a:AV} {S S':List AV} {ms:List Bool} (r:fgM ms (zby m g S)=S'):fgM (false::ms) (zby m g (a::S))= .top::S':=by
 rw[zby];show(bif false then zmo m g a else .top)::_=_;rw[r];rfl
theorem ze {a b c d e f x y:AV} {S S':List AV} {ms:List Bool} (r:fgM ms (zby m g S)=S'):fgM (false::false::false::false::false::false::false::false::ms) (zby m g (a::b::c::d::e::f::x::y::S))= .top:: .top:: .top:: .top:: .top:: .top:: .top:: .top::S':=zak (zak (zak (zak (zak (zak (zak (zak r)))))))
theorem zvy:zby m g []=[]:=by rw[zby]
theorem zbu {a b:AV} {l l':List AV} (h:zmo m g a=b)(r:zby m g l=l'):zby m g (a::l)=b::l':=by rw[zby,h,r]
theorem z1f:zbp g []=[]:=by rw[zbp]
theorem znv {a b:AV} {l l':List AV} (h:zfl g a=b)(r:zbp g l=l'):zbp g (a::l)=b::l':=by rw[zbp,h,r]
theorem z6x {a:AV} (h:clo a=true):zfl g a=a:=by
 have:=zdg g [a] (by rw[cloL,h];rfl)
 rw[zbp] at this
 exact(List.cons.inj this).1
theorem kz_bsl {α:Type} [Enc α] {bs:List (TypeId×List AV)} {js:List Nat} {d s n:Nat} {f:Bool} {t:TypeId} {l:List α} (hn:l.length=n)(hb:bs[s]? =some (t,Enc.cellsL l))(hp:zfn 0 [] js s=none):zmo m (kz bs m 0 [] js (d+1)) (.bsl s 0 n (Enc.sz α) f)= .list l.length (Enc.cellsL l) .none:=by
 subst hn
 rw[zmo]
 simp only[kz,hp,hb,Option.map_some,Option.getD_some,List.drop_zero,zam _ _ _ (Enc.cloL l)]
 rw[List.take_of_length_le (by rw[Enc.lenL];exact Nat.le_refl _)]
theorem qgu {α:Type} [Enc α] {bs:List (TypeId×List AV)} {d s n:Nat} {f:Bool} {t:TypeId} {l:List α} (hn:l.length=n)(hb:bs[s]? =some (t,Enc.cellsL l)):zfl (frz bs (d+1)) (.bsl s 0 n (Enc.sz α) f)= .list l.length (Enc.cellsL l) .none:=by
 subst hn
 rw[zfl]
 simp only[frz,hb,Option.map_some,Option.getD_some,List.drop_zero,zdg _ _ (Enc.cloL l)]
 rw[List.take_of_length_le (by rw[Enc.lenL];exact Nat.le_refl _)]
theorem zcr {bs:List (TypeId×List AV)} {n d:Nat} {fs js0:List Nat}:(([]:List Nat).map fun j=>((bs[j]?).map fun b=>(b.1,zby m (kz bs m n fs js0 d) b.2)).getD (0,[.bad]))=[]:=rfl
theorem zal {bs:List (TypeId×List AV)} {n d j:Nat} {fs js js0:List Nat} {t:TypeId} {cs cs':List AV} {r:List (TypeId×List AV)} (hb:bs[j]? =some (t,cs))(hc:zby m (kz bs m n fs js0 d) cs=cs')(hr:(js.map fun j=>((bs[j]?).map fun b=>(b.1,zby m (kz bs m n fs js0 d) b.2)).getD (0,[.bad]))=r):
 ((j::js).map fun j=>((bs[j]?).map fun b=>(b.1,zby m (kz bs m n fs js0 d) b.2)).getD (0,[.bad]))=(t,cs')::r:=by
 rw[List.map_cons,hr,hb]
 simp only[Option.map_some,Option.getD_some,hc]
theorem zdp {σ σ':St} {d:Nat} {js:List Nat} {bs':List (TypeId×List AV)} (h:(js.map fun j=>((σ.boxes[j]?).map fun b=>(b.1,zby m (kz σ.boxes m 0 [] js d) b.2)).getD (0,[.bad]))=bs')(h2:{σ with boxes:=bs',lens:=σ.lens.take m,elems:=σ.elems.take m}=σ'):zmv σ m 0 [] js d=σ':=by
 subst h2
 unfold zmv zec
 rw[h]
 rfl
end
section
variable {P:Program} {ρ:Operand→AV} {σ:St} {o:Oper} {α:Type} [Enc α]
theorem qep {t e:TypeId} {x i:Operand} {s n:Nat} {f:Bool} {k:IntKind} {j:Int} (g:0≤j∧j<n)(ho:o.op= .slice t x (some i) none none)(hx:ρ x= .bsl s 0 n (Enc.sz α) f)(hi:ρ i= .raw (.int k j))(hu:P.underlying t=some (.slice e))(hs:zdq P e=some (Enc.sz α)):
 qop P ρ σ o=some (.bsl s (j.toNat*Enc.sz α) (n-j.toNat) (Enc.sz α) f):=by
 have h4:zey n (some (.raw (.int k j))) none none=some (j.toNat,n,false):=by
  have c:0≤j∧j≤(n:Int):=by omega
  simp only[zey,zit,if_pos c]
 have hlt:j.toNat<n:=by omega
 simp only[qop,ho,hx,hi,Option.map_some,Option.map_none,zky,hu,hs,h4,if_true,if_pos hlt,Nat.zero_add]
 simp
theorem q_bslH {t e:TypeId} {x i:Operand} {s n:Nat} {f:Bool} {k:IntKind} {j:Int} (g:0<j∧j≤n)(ho:o.op= .slice t x none (some i) none)(hx:ρ x= .bsl s 0 n (Enc.sz α) f)(hi:ρ i= .raw (.int k j))(hu:P.underlying t=some (.slice e))(hs:zdq P e=some (Enc.sz α)):
 qop P ρ σ o=some (.bsl s 0 j.toNat (Enc.sz α) (f&&(j.toNat==n))):=by
 have h4:zey n none (some (.raw (.int k j))) none=some (0,j.toNat,false):=by
  have c:0≤j∧j≤(n:Int):=by omega
  simp only[zey,zit,if_pos c]
 have hlt:0<j.toNat:=by omega
 simp only[qop,ho,hx,hi,Option.map_some,Option.map_none,zky,hu,hs,h4,if_true,if_pos hlt,Nat.zero_add,Nat.zero_mul,Nat.sub_zero]
 simp
theorem zmk {ss t:TypeId} {x:Operand} {b n:Nat} {f:Bool} {l:List UInt8} {t0 e:TypeId} (g:l.length=n)(ho:o.op= .convert ss t x)(hx:ρ x= .bsl b 0 n 1 f)(hb:σ.boxes[b]? =some (t0,Enc.cellsL l))(hs:P.underlying ss=some (.slice e))(ht:P.underlying t=some .string)(he:P.underlying e=some (.int .u8)):
 ztl P ρ σ o=some (.raw (.string (bs l)),σ):=by
 have h:=qhw l
 have hc: ∀l:List UInt8,Enc.cellsL l=l.map fun x=> .raw (.int .u8 ((x.toNat:Nat):Int)):=by
  intro l
  induction l with
  |nil=>rw[Enc.nil];rfl
  |cons a l ih=>rw[Enc.cons,List.map_cons,ih];rfl
 rw[←hc l] at h
 simp only[ztl,ho,hx,zpn,hb,hs,ht,he,h,g,if_true]
 rfl
theorem zjt {t e:TypeId} {x y:Operand} {i:TypeInfo} {z:Value} {k k':IntKind} {j:Int} {by':Nat} (zero:α)(g:0≤j∧(by':Int)*j≤281474976710656)(ho:o.op= .makeSlice t x y)(hx:ρ x= .raw (.int k j))(hy:ρ y= .raw (.int k' j))(hu:P.underlying t=some (.slice e))(hi:P.info? e=some i)(hz:i.zero=some z)
 (hsz:Enc.sz α=1) (h1:(decide (i.size=1)&&z.cells.toList.all (·.oneCell')&&decide (z.cells.size=1))=true) (hzero:[zgu (z.cells[0]!)]=Enc.cells zero) (hby:i.bytes=by'∧0<by'):
 ztl P ρ σ o=some (.bsl σ.boxes.length 0 j.toNat 1 true,{σ with boxes:=σ.boxes++[(e,Enc.cellsL (List.replicate j.toNat zero))]}):=by
 simp only[Bool.and_eq_true,decide_eq_true_eq] at h1
 obtain⟨⟨h1,h2⟩,h3⟩:=h1
 obtain⟨rfl,hp⟩:=hby
 have hj:j≤9223372036854775807:=by
  have h5:j≤(i.bytes:Int)*j:=by
   have h6:(1:Int)*j≤(i.bytes:Int)*j:=Int.mul_le_mul_of_nonneg_right (by omega) g.1
   omega
  omega
 have hflat: ∀n:Nat,List.replicate n (zgu (z.cells[0]!))=Enc.cellsL (List.replicate n zero):=by
  intro n
  induction n with
  |zero=>simp[Enc.nil]
  |succ n ih=>rw[List.replicate_succ,List.replicate_succ,Enc.cons,ih,←hzero];rfl
 simp only[ztl,ho,qhc,hx,hy,hu,hi,hz]
 rw[if_pos ⟨trivial,g.1,hj,g.2,h2,h3,h1⟩,hflat]
end
theorem z8c {IT:IterP} {P:Program} {W:Owed} {k0:Nat} {id:Nat} {ops:Array Oper} {Q:AQ} {S:List AV} {σ:St} (S1:List AV)(σ1:St)(h:zru IT P W ops (fun S σ=>S=S1∧σ=σ1) ops.size (Array.replicate ops.size false) S σ)(hrest:Q .normal S1 σ1):awp IT P W k0 (.region id ops true) Q S σ:=
 .inr (.inr (zik (fun S σ hw=>by obtain⟨rfl,rfl⟩:=hw;exact hrest) _ _ _ _ h))
end Go.Ab
