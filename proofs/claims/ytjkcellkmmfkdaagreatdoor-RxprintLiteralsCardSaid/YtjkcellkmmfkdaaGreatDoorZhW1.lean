import Derived.Test.YtjkcellkmmfkdaaGreatDoorZhSt
import Derived.Shelf.Spec.SlicesInsert
import Derived.Lib.AppendZerosOnto
import Derived.Laws.CopyRow
set_option linter.all false
set_option maxRecDepth 100000
set_option maxHeartbeats 4000000
open Sum (inl inr)
open Int (toNat)
open Option (map_some getD_some)
open List (length)
open Go.Proofs.Tryz (prog)
namespace Go.Ab
open Go Go.RowKit Go.Fwd
variable {ops:Array Oper} {S S' l':List AV} {n d:Nat} {y:Operand}
section
variable {IT:IterP} {P:Program} {W:Owed} {k0:Nat}
theorem qkt {id:Nat} {y:Code} {Q:AQ} {U:St} (S1:List AV)(U1:St)(h:zse IT P W ops (fun S U=>Wk k0 S U S1 U1) ops.size (Array.replicate ops.size false) S U)(hrest:awp IT P W k0 y Q S1 U1):awp IT P W k0 (.seq (.region id ops true) y) Q S U:=
 .inl (.inr (.inr (.inl (zgr (fun S U hw=>⟨S1,U1,hw,hrest⟩) _ _ _ _ h))))
theorem zqp {ops0:Array Oper} {FIN0:List AV->St->Prop} {k:Nat} {l:Array Bool} {U:St} (h: ∀ops,ops=ops0-> ∀FIN:List AV->St->Prop,(∀S U,FIN0 S U->FIN S U)-> ∀S0,S0=S->zse IT P W ops FIN k l S0 U):zse IT P W ops0 FIN0 k l S U:=h ops0 rfl FIN0 (fun _ _ h=>h) S rfl
theorem aopAt_s {ops0:Array Oper} {K:List AV->St->Prop} {i:Nat} {o:Oper} {U:St} (hops:ops=ops0)(ho:ops0[i]? =some o)(h:zcb IT P W ops K [o] S U):zyk IT P W ops K i S U:=by
 subst hops;unfold zyk;rw[ho];simp only[zcb] at h;exact h
theorem aany_n {ops0:Array Oper} {FIN:List AV->St->Prop} {k:Nat} {bs:List Bool} {U:St} (hops:ops=ops0)(is:List Nat)(hr:Region.ready .any ops0 ⟨bs⟩=is)(hne:is≠[])(h: ∀i∈is,zyk IT P W ops (fun S U=>zse IT P W ops FIN k ⟨bs.set i true⟩ S U) i S U):zse IT P W ops FIN (k+1) ⟨bs⟩ S U:=by
 subst hops;refine⟨fun e=>absurd (hr.symm.trans e) hne,fun i hi=> ?_⟩;have h1:=h i (hr▸hi);have e:(⟨bs⟩:Array Bool).setIfInBounds i true=⟨bs.set i true⟩:=by
  apply Array.ext';simp
 rw[e];exact h1
theorem aany_0 {ops0:Array Oper} {FIN:List AV->St->Prop} {bs:List Bool} {U:St} (hops:ops=ops0)(hr:Region.ready .any ops0 ⟨bs⟩=[])(h:FIN S U):zse IT P W ops FIN 0 ⟨bs⟩ S U:=by
 subst hops;exact⟨hr,h⟩
theorem all_nil {p:Nat->Prop}: ∀i∈([]:List Nat),p i:=fun i h=>by cases h
theorem all_cons {p:Nat->Prop} {a:Nat} {l:List Nat} (h:p a)(t: ∀i∈l,p i): ∀i∈a::l,p i:=fun i hi=>by
 rcases List.mem_cons.1 hi with rfl|hi
 ·exact h
 ·exact t i hi
end
section
variable {P:Program} {ρ:Operand->AV} {U:St} {o:Oper} {α:Type} [Enc α]
theorem Enc.atK {l:List α} {i:Int} (g:0<=i/\ i<l.length)(k:Nat):(Enc.cellsL l).drop (0+i.toNat*Enc.sz α+k)=(Enc.cells (ix l i)++Enc.cellsL (l.drop (i.toNat+1))).drop k:=by
 rw[Nat.zero_add, <-List.drop_drop,Enc.at g]
theorem qik {t e:TypeId} {x i:Operand} {s:Nat} {f:Bool} {k:IntKind} {j:Int} (g:0<=j/\ j<n)(ho:o.op= .indexAddr t x i)(hx:ρ x= .bsl s 0 n (Enc.sz α) f)(hi:ρ i= .raw (.int k j))(hu:P.underlying t=some (.slice e))(hs:zfh P e=some (Enc.sz α)):
 qop P ρ U o=some (.ptr s (0+j.toNat*Enc.sz α)):=qlm ho hx hi hu hs g
theorem q_loadB {l:List α} {i:Int} {k s:Nat} {te t:TypeId} {x:Operand} {a:AV} (g:0<=i/\ i<l.length)(ho:o.op= .load t x)(hx:ρ x= .ptr s (0+i.toNat*Enc.sz α+k))(hb:U.boxes[s]? =some (te,Enc.cellsL l))(hr:rd P t ((Enc.cells (ix l i)++Enc.cellsL (l.drop (i.toNat+1))).drop k)=some a):
 qop P ρ U o=some a:=by
 rw[<-Enc.atK g] at hr;simp only[qop,ho,hx,zzk,hb,hr]
theorem Enc.putK {l:List α} {i:Int} {x:α} {k:Nat} {cs:List AV} (g:0<=i/\ i<l.length)(hl:cs.length=n)(hk:k+n<=Enc.sz α)(hx:Enc.cells x=(Enc.cells (ix l i)).take k++cs++(Enc.cells (ix l i)).drop (k+n)):
 (Enc.cellsL l).take (0+i.toNat*Enc.sz α+k)++cs++(Enc.cellsL l).drop (0+i.toNat*Enc.sz α+k+n)=Enc.cellsL (l.set i.toNat x):=by
 have hi:i.toNat<l.length:=by omega
 have hset:l.set i.toNat x=l.take i.toNat++[x]++l.drop (i.toNat+1):=by
  rw[List.set_eq_take_append_cons_drop,if_pos hi];simp
 have hlen:=Enc.len (ix l i);have e1:(Enc.cellsL l).drop (i.toNat*Enc.sz α)=Enc.cells (ix l i)++Enc.cellsL (l.drop (i.toNat+1)):=Enc.at g;have e2:(Enc.cellsL l).take (0+i.toNat*Enc.sz α+k)=Enc.cellsL (l.take i.toNat)++(Enc.cells (ix l i)).take k:=by
  rw[Nat.zero_add,List.take_add,Enc.take,e1,List.take_append_of_le_length (by omega)]
 have e3:(Enc.cellsL l).drop (0+i.toNat*Enc.sz α+k+n)=(Enc.cells (ix l i)).drop (k+n)++Enc.cellsL (l.drop (i.toNat+1)):=by
  rw[Nat.zero_add,Nat.add_assoc, <-List.drop_drop,e1,List.drop_append_of_le_length (by omega)]
 rw[e2,e3,hset,Enc.app,Enc.app,Enc.cons,Enc.nil,hx];simp
theorem qeq {l:List α} {i:Int} {k s:Nat} {te t:TypeId} {x:Operand} {v:AV} (x':α)(g:0<=i/\ i<l.length)(ho:o.op= .store t x y)(hx:ρ x= .ptr s (0+i.toNat*Enc.sz α+k))(hy:ρ y=v)(hb:U.boxes[s]? =some (te,Enc.cellsL l))(hn:zfh P t=some n)(hc:ziw v=true)(hl:(cellsOf v).length=n)(h0:0<n)(hk:k+n<=Enc.sz α)
 (hx':Enc.cells x'=(Enc.cells (ix l i)).take k++cellsOf v++(Enc.cells (ix l i)).drop (k+n)):aop P ρ U o=some (.raw undef,{U with boxes:=U.boxes.set s (te,Enc.cellsL (l.set i.toNat x'))}):=by
 have hfit:0+i.toNat*Enc.sz α+k+n<=(Enc.cellsL l).length:=by
  rw[Enc.lenL];have h1:i.toNat+1<=l.length:=by omega
  have h2:=Nat.mul_le_mul_right (Enc.sz α) h1;rw[Nat.succ_mul] at h2;omega
 rw[zco (n:=n) ho hx hy hb hn ⟨hc,hl,hfit,h0⟩,Enc.putK g hl hk hx']
theorem opB_bsl {c:Call} {x:Operand} {t e:TypeId} {i:TypeInfo} {z:Value} {s by':Nat} {l r:List α} {st:Room} (hn:l.length=n/\ 0<n/\ 0<r.length/\ (n+r.length)*by'<=140737488355328)(ho:o.op= .call c)(hc:c.callee= .builtin .append)(ha:c.args.toList=[x,y])(ht:c.argTypes.toList=[t,t])
 (hx:ρ x= .bsl s 0 n (Enc.sz α) false) (hy:ρ y= .list r.length (Enc.cellsL r) st) (hb:U.boxes[s]? =some (e,Enc.cellsL l)) (hu:P.underlying t=some (.slice e)) (hi:P.info? e=some i) (hz:i.zero=some z) (hsz:i.size=Enc.sz α) (hzs:z.cells.size=Enc.sz α) (hby:i.bytes=by'/\ 0<by'):
 zwg P ρ U o=some (.bsl U.boxes.length 0 (n+r.length) (Enc.sz α) false,{U with boxes:=U.boxes.set s (e,[])++[(e,Enc.cellsL (l++r))]}):=by
 obtain⟨h1,h2,h3,h4⟩:=hn;have hp:=Enc.pos (α:=α);have hsrc:qer P U i.size t t (ρ y)=some (r.length,Enc.cellsL r):=by rw[hy];exact zuu ⟨rfl,by rw[Enc.lenL,hsz],by omega⟩
 have hmax:n+r.length<=maxLen:=by
  have h5:n+r.length<=(n+r.length)*by':=Nat.le_mul_of_pos_right _ hby.2
  have h6:140737488355328<=maxLen:=by decide
  omega
 have hcond:Enc.sz α=i.size/\ n+r.length<=maxLen/\ (n+r.length)*i.bytes<=140737488355328/\ 0+n*Enc.sz α<=(Enc.cellsL l).length:=⟨hsz.symm,hmax,by rw[hby.1];exact h4,by rw[Enc.lenL,h1];omega⟩;have hcond2:(0:Nat)=0/\ n*Enc.sz α=(Enc.cellsL l).length/\ e=e/\ 0<n:=⟨rfl,by rw[Enc.lenL,h1],rfl,h2⟩;have hcond0:0<i.size/\ z.cells.size=i.size/\ 0<r.length:=⟨by omega,by omega,h3⟩;have key:zqz P U t t (ρ x) (ρ y)=some (.bsl U.boxes.length 0 (n+r.length) (Enc.sz α) false,{U with boxes:=U.boxes.set s (e,[])++[(e,Enc.cellsL (l++r))]}):=by
  rw[zqz];simp only[hu,hi,hz,hsrc,if_pos hcond0,hx,hb,if_pos hcond,Bool.false_eq_true,if_false,Enc.app];rw[if_pos ⟨trivial,hcond2.2.1,trivial,h2⟩]
 have hnn:zry (ρ x)=false:=by rw[hx];rfl
 simp only[zwg,ho,hc,ha,ht,key,hnn,Bool.false_eq_true,if_false]
end
section
variable {m:Nat} {g:FZ}
theorem zjf:fgM [] (zx m g [])=[]:=by rw[zx];rfl
theorem zcq {a b:AV} {ms:List Bool} (h:zhq m g a=b)(r:fgM ms (zx m g S)=S'):fgM (true::ms) (zx m g (a::S))=b::S':=by
 rw[zx];show(bif true then zhq m g a else .top)::_=_;rw[r,h];rfl
theorem zcr {a:AV} {ms:List Bool} (r:fgM ms (zx m g S)=S'):fgM (false::ms) (zx m g (a::S))= .top::S':=by
 rw[zx];show(bif false then zhq m g a else .top)::_=_;rw[r];rfl
theorem zed {a b c d e f x y:AV} {ms:List Bool} (r:fgM ms (zx m g S)=S'):fgM (false::false::false::false::false::false::false::false::ms) (zx m g (a::b::c::d::e::f::x::y::S))= .top:: .top:: .top:: .top:: .top:: .top:: .top:: .top::S':=zcr (zcr (zcr (zcr (zcr (zcr (zcr (zcr r)))))))
theorem zi:zx m g []=[]:=by rw[zx]
theorem zf {a b:AV} {l:List AV} (h:zhq m g a=b)(r:zx m g l=l'):zx m g (a::l)=b::l':=by rw[zx,h,r]
theorem z3v:zcs g []=[]:=by rw[zcs]
theorem zpe {a b:AV} {l:List AV} (h:zgu g a=b)(r:zcs g l=l'):zcs g (a::l)=b::l':=by rw[zcs,h,r]
theorem z6z {a:AV} (h:clo a=true):zgu g a=a:=by
 have:=zcy g [a] (by rw[cloL,h];rfl);rw[zcs] at this;exact(List.cons.inj this).1
theorem kz_bsl {α:Type} [Enc α] {bs:List (TypeId×List AV)} {js:List Nat} {d s n:Nat} {f:Bool} {t:TypeId} {l:List α} (hn:l.length=n)(hb:bs[s]? =some (t,Enc.cellsL l))(hp:zft 0 [] js s=none):zhq m (kz bs m 0 [] js (d+1)) (.bsl s 0 n (Enc.sz α) f)= .list l.length (Enc.cellsL l) .none:=by
 subst hn;rw[zhq];simp only[kz,hp,hb,map_some,getD_some,List.drop_zero,zal _ _ _ (Enc.cloL l)];rw[List.take_of_length_le (by rw[Enc.lenL];exact Nat.le_refl _)]
theorem zag {bs:List (TypeId×List AV)} {fs js0:List Nat}:(([]:List Nat).map fun j=>((bs[j]?).map fun b=>(b.1,zx m (kz bs m n fs js0 d) b.2)).getD (0,[.bad]))=[]:=rfl
theorem zg {bs:List (TypeId×List AV)} {j:Nat} {fs js js0:List Nat} {t:TypeId} {cs cs':List AV} {r:List (TypeId×List AV)} (hb:bs[j]? =some (t,cs))(hc:zx m (kz bs m n fs js0 d) cs=cs')(hr:(js.map fun j=>((bs[j]?).map fun b=>(b.1,zx m (kz bs m n fs js0 d) b.2)).getD (0,[.bad]))=r):
 ((j::js).map fun j=>((bs[j]?).map fun b=>(b.1,zx m (kz bs m n fs js0 d) b.2)).getD (0,[.bad]))=(t,cs')::r:=by
 rw[List.map_cons,hr,hb];simp only[map_some,getD_some,hc]
theorem zyb {U U':St} {js:List Nat} {bs':List (TypeId×List AV)} (h:(js.map fun j=>((U.boxes[j]?).map fun b=>(b.1,zx m (kz U.boxes m 0 [] js d) b.2)).getD (0,[.bad]))=bs')(h2:{U with boxes:=bs',lens:=U.lens.take m,elems:=U.elems.take m}=U'):zeo U m 0 [] js d=U':=by
 subst h2;unfold zeo zcd;rw[h];rfl
end
section
variable {P:Program} {ρ:Operand->AV} {U:St} {o:Oper}
theorem bs_get (l:List UInt8)(i:Nat):(bs l)[i]? =l[i]? :=by
 simp only[bs];by_cases h:i<l.length
 ·rw[List.getElem?_eq_getElem h];have h2:i<(ByteArray.mk l.toArray).size:=h;rw[getElem?_pos (ByteArray.mk l.toArray) i h2];rfl
 ·rw[List.getElem?_eq_none (by omega)];have h2: ¬i<(ByteArray.mk l.toArray).size:=h;rw[getElem?_neg (ByteArray.mk l.toArray) i h2]
theorem zwk (l:List UInt8)(i j:Nat):(bs l).extract i j=bs ((l.drop i).take (j-i)):=by
 apply ByteArray.ext;rw[ByteArray.data_extract];simp[bs,List.extract_eq_take_drop]
theorem z4r {v:Value} (h1:o.op.operands.toList.all (fun x=>(zdr (ρ x)).isSome)=true)(h2: ∀cs b,o.op≠ .select cs b)(h3:val? P (execOp (zch ρ) o)=some (.value v))(h4:zpx v=true):zfi P ρ o=some (zlu v):=by
 unfold zfi;rw[if_pos h1];split
 ·rename_i cs b ho;exact absurd ho (h2 cs b)
 ·rw[h3];simp only[h4,if_true]
theorem zdv {t:TypeId} {x i:Operand} {l:List UInt8} {k:IntKind} {n:Int} (g:0<=n/\ n<l.length)(ho:o.op= .index t x i)(hx:ρ x= .raw (.string (bs l)))(hi:ρ i= .raw (.int k n))(hu:P.underlying t=some .string):
 qop P ρ U o=some (.raw (.int .u8 (((ix l n).toNat:Nat):Int))):=by
 have hn:n.toNat<l.length:=by omega
 have h3:val? P (execOp (zch ρ) o)=some (.value (.int .u8 (((ix l n).toNat:Nat):Int))):=by
  have hg:(bs l)[n.toNat]? =some (ix l n):=by
   rw[bs_get,List.getElem?_eq_getElem hn];simp[ix,hn]
  simp only[execOp,ho,zch,hx,hi,zdr,getD_some,Instr.index,asIntOf,underlying];simp only[program,Bind.bind,Pure.pure,Functor.map,Sem.bind,val?,hu,if_pos g.1,hg]
 have h1:o.op.operands.toList.all (fun x=>(zdr (ρ x)).isSome)=true:=by rw[ho];simp[Op.operands,hx,hi,zdr]
 have h4:=z4r h1 (by rw[ho];intros;simp) h3 rfl;simp only[qop,ho,hx,hi,h4];first|rfl|(simp;rfl)
theorem zns {t:TypeId} {x y:Operand} {l:List UInt8} {i:Int} (g:0<=i/\ i<=(l.length:Int)/\ (l.length:Int)<=(l.length:Int))(ho:o.op= .slice t x (some y) none none)(hx:ρ x= .raw (.string (bs l)))(hy:ρ y= .raw (.int .i64 i))(hu:P.underlying t=some .string):
 qop P ρ U o=some (.raw (.string (bs (sub l i l.length)))):=by
 have hsz:(bs l).size=l.length:=rfl;have c2:0<=i/\ i<=((bs l).size:Int):=by rw[hsz];omega
 have h3:val? P (execOp (zch ρ) o)=some (.value (.string (bs (sub l i l.length)))):=by
  have he:sub l i l.length=(l.drop i.toNat).take (l.length-i.toNat):=rfl;rw[he, <-zwk];simp only[execOp,ho,zch,hx,hy,zdr,getD_some,map_some,Option.map_none,Instr.sliceAt,Instr.slice,Instr.sliceBounds,Instr.sliceBound,asIntOf,underlying];simp[program,Bind.bind,Pure.pure,Functor.map,Sem.bind,val?,hu,if_pos c2];try rfl
 have h1:o.op.operands.toList.all (fun x=>(zdr (ρ x)).isSome)=true:=by rw[ho];simp[Op.operands,hx,hy,zdr]
 have h4:=z4r h1 (by rw[ho];intros;simp) h3 rfl;simp only[qop,ho,hx,hy,h4,map_some,Option.map_none,zwd,hu];try rfl
theorem z6l {t:TypeId} {x z:Operand} {l:List UInt8} {j:Int} (g:0<=0/\ 0<=j/\ j<=(l.length:Int))(ho:o.op= .slice t x none (some z) none)(hx:ρ x= .raw (.string (bs l)))(hz:ρ z= .raw (.int .i64 j))(hu:P.underlying t=some .string):
 qop P ρ U o=some (.raw (.string (bs (sub l 0 j)))):=by
 have hsz:(bs l).size=l.length:=rfl;have c1:0<=j/\ j<=((bs l).size:Int):=by rw[hsz];omega
 have h3:val? P (execOp (zch ρ) o)=some (.value (.string (bs (sub l 0 j)))):=by
  have he:sub l 0 j=(l.drop 0).take (j.toNat-0):=rfl;rw[he, <-zwk];simp only[execOp,ho,zch,hx,hz,zdr,getD_some,map_some,Option.map_none,Instr.sliceAt,Instr.slice,Instr.sliceBounds,Instr.sliceBound,asIntOf,underlying];simp[program,Bind.bind,Pure.pure,Functor.map,Sem.bind,val?,hu,if_pos c1];try rfl
 have h1:o.op.operands.toList.all (fun x=>(zdr (ρ x)).isSome)=true:=by rw[ho];simp[Op.operands,hx,hz,zdr]
 have h4:=z4r h1 (by rw[ho];intros;simp) h3 rfl;simp only[qop,ho,hx,hz,h4,map_some,Option.map_none,zwd,hu];try rfl
end
section
variable {P:Program} {ρ:Operand->AV} {U:St} {o:Oper}
theorem zdq {x:Operand} {t:TypeId} {l:List UInt8} (ho:o.op= .call ⟨.builtin .len, #[x], #[t]⟩)(hx:ρ x= .raw (.string (bs l)))(hu:P.underlying t=some .string):qop P ρ U o=some (.raw (.int .i64 (l.length:Int))):=by
 have h2:qjh P t (.raw (.string (bs l)))=none:=rfl;have h1:o.op.operands.toList.all (fun x=>(zdr (ρ x)).isSome)=true:=by rw[ho];simp[Op.operands,Call.operands,hx,zdr]
 have h3:val? P (execOp (zch ρ) o)=some (.value (.int .i64 (l.length:Int))):=by
  have hsz:(bs l).size=l.length:=rfl;simp[execOp,ho,resolve,invoke,zch,hx,zdr,builtin,Builtin.len_,underlying,goInt,hsz];simp only[program,Bind.bind,Pure.pure,Functor.map,Sem.bind,val?,hu,hsz];rfl
 have h4:zfi P ρ o=some (.raw (.int .i64 (l.length:Int))):=by
  unfold zfi;rw[if_pos h1,ho,h3];rfl
 simp only[qop,ho,hx,h2,h4]
end
theorem bs_beq (a b:List UInt8):((bs a).toList==(bs b).toList)=decide (a=b):=by
 rw[ByteArray.toList_eq,ByteArray.toList_eq]
 show((a.toArray.toList)==(b.toArray.toList))=_
 by_cases h:a=b<;>simp[h]
section
variable {P:Program} {ρ:Operand->AV} {U:St} {o:Oper}
theorem bs_app (a b:List UInt8):bs a++bs b=bs (a++b):=by
 apply ByteArray.ext
 show(bs a++bs b).data=_
 rw[ByteArray.data_append];simp[bs]
theorem zzz {t:TypeId} {x y:Operand} {c} {a b:List UInt8} (ho:o.op= .binOp .eql t x y c)(hx:ρ x= .raw (.string (bs a)))(hy:ρ y= .raw (.string (bs b))):qop P ρ U o=some (.raw (.bool (a==b))):=by
 have hst:(a==b)=decide (a=b):=by by_cases h:a=b<;>simp[h]
 have h3:val? P (execOp (zch ρ) o)=some (.value (.bool (a==b))):=by
  rw[hst, <-bs_beq];simp[execOp,ho,zch,hx,hy,zdr,eqGuard,binOp,Op.stringOp];rfl
 have h1:o.op.operands.toList.all (fun x=>(zdr (ρ x)).isSome)=true:=by rw[ho];simp[Op.operands,hx,hy,zdr]
 have h4:zfi P ρ o=some (.raw (.bool (a==b))):=by
  unfold zfi;rw[if_pos h1,ho,h3];rfl
 simp only[qop,ho,hx,hy,h4]
end
def bl:Nat->Nat->List Bool
 |0,_=>[]
 |n+1,m=>(m%2==1)::bl n (m/2)
section
variable {IT:IterP} {P:Program} {W:Owed} {ops ops0:Array Oper} {Q:List AV->St->Prop} {K:List AV->Prop} {o:Oper} {l:List Oper} {S S':List AV} {U U' U'':St} {a:AV} {kb:Nat} {b:Bool} {c:Option Bool}
theorem w_o (k:zcb IT P W ops Q l S' U')(hg:o.guard=none:=by exact rfl)(hc:zct S o=none:=by exact rfl)(hy:zcv S o=none:=by exact rfl)(h:aop P (zbw S) U o=some (a,U'):=by exact rfl)(hS:zad S o.dst a=S':=by dsimp only[zad,List.set]):zcb IT P W ops Q (o::l) S U:=
 zhp hg hc hy h hS k
theorem zoc (k:zcb IT P W ops Q l S' U'')(hg:o.guard=none:=by exact rfl)(hc:zct S o=none:=by exact rfl)(hy:zcv S o=none:=by exact rfl)(h:aop P (zbw S) U o=some (a,U'):=by exact rfl)(hS:zad S o.dst a=S':=by dsimp only[zad,List.set])(hσ:U'=U'':=by exact rfl):zcb IT P W ops Q (o::l) S U:=
 zis hg hc hy h hS hσ k
theorem h_o (k:zfr IT P ops U K l S')(hd:(o.dst.all fun d=>decide (d<S.length))=true:=by exact rfl)(hg:o.guard=none:=by exact rfl)(hc:zct S o=none:=by exact rfl)(h:qop P (zbw S) U o=some a:=by exact rfl)(hS:zad S o.dst a=S':=by dsimp only[zad,List.set]):zfr IT P ops U K (o::l) S:=
 h_op hd hg hc h hS k
theorem zby (k:zfr IT P ops U K l S')(hd:(o.dst.all fun d=>decide (d<S.length))=true:=by exact rfl)(hg:o.guard=some (kb,b):=by exact rfl)(hk:zdx ops S kb=some c:=by exact rfl)(hcb:c≠some b:=by decide)(hS:zad S o.dst (.raw undef)=S':=by dsimp only[zad,List.set]):zfr IT P ops U K (o::l) S:=
 h_pass hd hg hk hcb hS k
end
theorem zqc {IT:IterP} {P:Program} {W:Owed} {ops ops0:Array Oper} {K:List AV->St->Prop} {i:Nat} {o:Oper} {S:List AV} {U:St} (hops:ops=ops0)(ho:ops0.toList[i]? =some o)(h:zcb IT P W ops K [o] S U):zyk IT P W ops K i S U:=
 aopAt_s hops (by rw[<-ho,Array.getElem?_toList]) h
def upS:List (Option (Nat×AV))->List Bool->List (Nat×AV)
 |some q::ps,true::bs=>q::upS ps bs
 |none::ps,true::bs=>upS ps bs
 |_::ps,false::bs=>upS ps bs
 |_,_=>[]
def aN (IT:IterP)(P:Program)(W:Owed)(ops:Array Oper)(FIN:List AV->St->Prop)(S0:List AV)(ps:List (Option (Nat×AV)))(n k m:Nat)(U:St):Prop:=
 zse IT P W ops FIN k ⟨bl n m⟩ (zbq S0 (upS ps (bl n m))) U
section
variable {IT:IterP} {P:Program} {W:Owed} {ops ops0:Array Oper} {FIN:List AV->St->Prop} {S0 L S:List AV} {ps PL:List (Option (Nat×AV))} {n k m m':Nat} {U:St}
theorem aN_n (hops:ops=ops0)(hS:S0=L)(hps:ps=PL)(is:List Nat)
 (h: ∀i∈is,zyk IT P W ops (fun S U=>zse IT P W ops FIN k ⟨(bl n m).set i true⟩ S U) i S U)
 (hr:Region.ready .any ops0 ⟨bl n m⟩=is:=by kernel_rfl) (hne:is≠[]:=by decide) (e:zbq L (upS PL (bl n m))=S:=by dsimp only[zbq,List.foldl,List.set,upS,bl,Nat.reduceMod,Nat.reduceDiv,Nat.reduceBEq]):aN IT P W ops FIN S0 ps n (k+1) m U:=by
 subst hS hps e;exact aany_n hops is hr hne h
theorem aN_0 (hops:ops=ops0)(hS:S0=L)(hps:ps=PL)(h:FIN S U)(hr:Region.ready .any ops0 ⟨bl n m⟩=[]:=by kernel_rfl)(e:zbq L (upS PL (bl n m))=S:=by dsimp only[zbq,List.foldl,List.set,upS,bl,Nat.reduceMod,Nat.reduceDiv,Nat.reduceBEq]):aN IT P W ops FIN S0 ps n 0 m U:=by
 subst hS hps e;exact aany_0 hops hr h
theorem zd {i:Nat} (h:aN IT P W ops FIN S0 ps n k m' U)(hS:S0=L)(hps:ps=PL)(hb:(bl n m).set i true=bl n m':=by kernel_rfl)(e:zbq L (upS PL (bl n m'))=S:=by kernel_rfl):zse IT P W ops FIN k ⟨(bl n m).set i true⟩ S U:=by
 subst hS hps e;rw[hb];exact h
theorem zxx {k':Nat} {l:Array Bool} (h:aN IT P W ops FIN S0 ps n k 0 U)(hps:ps=PL)(hk:k=k':=by kernel_rfl)(hb:(⟨bl n 0⟩:Array Bool)=l:=by kernel_rfl)(e:upS PL (bl n 0)=[]:=by kernel_rfl):zse IT P W ops FIN k' l S0 U:=by
 subst hps hk hb;have h':zse IT P W ops FIN k ⟨bl n 0⟩ (zbq S0 (upS ps (bl n 0))) U:=h;rw[e] at h';exact h'
end
@[reducible] def AV.i (x:Int):AV:= .raw (.int .i64 x)
@[reducible] def AV.u (x:Int):AV:= .raw (.int .u8 x)
@[reducible] def AV.b (x:Bool):AV:= .raw (.bool x)
@[reducible] def AV.s (x:List UInt8):AV:= .raw (.string (bs x))
def mvOf:Op->Option Nat
 | .move (.tmp k)=>some k
 | .assign (.tmp k)=>some k
 |_=>none
section
variable {IT:IterP} {P:Program} {W:Owed} {ops ops0:Array Oper} {Q:List AV->St->Prop} {K:List AV->Prop} {o:Oper} {l:List Oper} {S S':List AV} {U U' U'':St} {a:AV} {k:Nat}
theorem zzy (ho:mvOf o.op=some k)(hv:S[k]? =some a):zct S o=none/\ zcv S o=none/\ qop P (zbw S) U o=some a:=by
 have h:o.op= .move (.tmp k) \/o.op= .assign (.tmp k):=by
  unfold mvOf at ho;split at ho<;>cases ho
  ·rename_i h;exact .inl h
  ·rename_i h;exact .inr h
 rcases h with h|h<;>simp[zct,zcv,qop,h,zbw,hv]
theorem zah (kk:zcb IT P W ops Q l S' U)(ho:mvOf o.op=some k:=by exact rfl)(hg:o.guard=none:=by exact rfl)(hv:S[k]? =some a:=by exact rfl)(hS:zad S o.dst a=S':=by dsimp only[zad,List.set]):zcb IT P W ops Q (o::l) S U:=by
 obtain⟨h1,h2,h3⟩:=zzy (P:=P) (U:=U) ho hv;exact zhp hg h1 h2 (zbl h3) hS kk
theorem zfo (kk:zfr IT P ops U K l S')(ho:mvOf o.op=some k:=by exact rfl)(hd:(o.dst.all fun d=>decide (d<S.length))=true:=by exact rfl)(hg:o.guard=none:=by exact rfl)(hv:S[k]? =some a:=by exact rfl)(hS:zad S o.dst a=S':=by dsimp only[zad,List.set]):zfr IT P ops U K (o::l) S:=by
 obtain⟨h1,h2,h3⟩:=zzy (P:=P) (U:=U) ho hv;exact h_op hd hg h1 h3 hS kk
def exOf:Op->Option (Nat×Nat)
 | .extract (.tmp k) i=>some (k,i)
 |_=>none
theorem z9o {i:Nat} {vs:List AV} (ho:exOf o.op=some (k,i))(hv:S[k]? =some (.tup vs))(hi:vs[i]? =some a):zct S o=none/\ zcv S o=none/\ qop P (zbw S) U o=some a:=by
 have h:o.op= .extract (.tmp k) i:=by
  unfold exOf at ho;split at ho<;>cases ho
  rename_i h;exact h
 simp[zct,zcv,qop,h,zbw,hv,hi]
theorem h_ex {i:Nat} {vs:List AV} (kk:zfr IT P ops U K l S')(ho:exOf o.op=some (k,i):=by exact rfl)(hd:(o.dst.all fun d=>decide (d<S.length))=true:=by exact rfl)(hg:o.guard=none:=by exact rfl)(hv:S[k]? =some (.tup vs):=by exact rfl)(hi:vs[i]? =some a:=by exact rfl)(hS:zad S o.dst a=S':=by dsimp only[zad,List.set]):zfr IT P ops U K (o::l) S:=by
 obtain⟨h1,h2,h3⟩:=z9o (P:=P) (U:=U) ho hv hi;exact h_op hd hg h1 h3 hS kk
end
section
variable {P:Program} {fn:Func} {S:List AV} {U:St}
theorem zbn {y r:Bool} (hr:some y=some r)(h:zap P fn U S=some (.raw (.bool y)):=by exact rfl):zwb P fn (.raw (.bool r)) .ret S U:=zez (fun(r:Bool)=>(.raw (.bool r):AV)) hr h rfl rfl
theorem zkq {k:IntKind} {y r:Int} (hr:some y=some r)(h:zap P fn U S=some (.raw (.int k y)):=by exact rfl):zwb P fn (.raw (.int k r)) .ret S U:=zez (fun(r:Int)=>(.raw (.int k r):AV)) hr h rfl rfl
theorem znx {y r:List UInt8} (hr:some y=some r)(h:zap P fn U S=some (.raw (.string (bs y))):=by exact rfl):zwb P fn (.raw (.string (bs r))) .ret S U:=zez (fun(r:List UInt8)=>(.raw (.string (bs r)):AV)) hr h rfl rfl
end
section
variable {IT:IterP} {P:Program} {W:Owed} {ops ops0:Array Oper} {FIN:List AV->St->Prop} {S0 L S:List AV} {ps PL:List (Option (Nat×AV))} {n k m m':Nat} {U:St} {o o' o'':Oper}
theorem zla (hops:ops=ops0)(hS:S0=L)(hps:ps=PL)(i:Nat)(h:zcb IT P W ops (fun S U=>zse IT P W ops FIN k ⟨(bl n m).set i true⟩ S U) [o] S U)
 (ho:ops0.toList[i]? =some o:=by exact rfl) (hr:Region.ready .any ops0 ⟨bl n m⟩=[i]:=by kernel_rfl) (e:zbq L (upS PL (bl n m))=S:=by dsimp only[zbq,List.foldl,List.set,upS,bl,Nat.reduceMod,Nat.reduceDiv,Nat.reduceBEq]):aN IT P W ops FIN S0 ps n (k+1) m U:=
 aN_n hops hS hps [i] (all_cons (zqc hops ho h) all_nil) hr (by simp) e
theorem zem (hops:ops=ops0)(hS:S0=L)(hps:ps=PL)(i j:Nat)(h:zcb IT P W ops (fun S U=>zse IT P W ops FIN k ⟨(bl n m).set i true⟩ S U) [o] S U)(h':zcb IT P W ops (fun S U=>zse IT P W ops FIN k ⟨(bl n m).set j true⟩ S U) [o'] S U)
 (ho:ops0.toList[i]? =some o:=by exact rfl) (ho':ops0.toList[j]? =some o':=by exact rfl) (hr:Region.ready .any ops0 ⟨bl n m⟩=[i,j]:=by kernel_rfl) (e:zbq L (upS PL (bl n m))=S:=by dsimp only[zbq,List.foldl,List.set,upS,bl,Nat.reduceMod,Nat.reduceDiv,Nat.reduceBEq]):aN IT P W ops FIN S0 ps n (k+1) m U:=
 aN_n hops hS hps [i,j] (all_cons (zqc hops ho h) (all_cons (zqc hops ho' h') all_nil)) hr (by simp) e
theorem zir (hops:ops=ops0)(hS:S0=L)(hps:ps=PL)(i j q:Nat)(h:zcb IT P W ops (fun S U=>zse IT P W ops FIN k ⟨(bl n m).set i true⟩ S U) [o] S U)(h':zcb IT P W ops (fun S U=>zse IT P W ops FIN k ⟨(bl n m).set j true⟩ S U) [o'] S U)(h'':zcb IT P W ops (fun S U=>zse IT P W ops FIN k ⟨(bl n m).set q true⟩ S U) [o''] S U)
 (ho:ops0.toList[i]? =some o:=by exact rfl) (ho':ops0.toList[j]? =some o':=by exact rfl) (ho'':ops0.toList[q]? =some o'':=by exact rfl) (hr:Region.ready .any ops0 ⟨bl n m⟩=[i,j,q]:=by kernel_rfl) (e:zbq L (upS PL (bl n m))=S:=by dsimp only[zbq,List.foldl,List.set,upS,bl,Nat.reduceMod,Nat.reduceDiv,Nat.reduceBEq]):aN IT P W ops FIN S0 ps n (k+1) m U:=
 aN_n hops hS hps [i,j,q] (all_cons (zqc hops ho h) (all_cons (zqc hops ho' h') (all_cons (zqc hops ho'' h'') all_nil))) hr (by simp) e
end
def bzc:Bool->Nat->List Nat->List Nat
 |true,i,l=>i::l
 |false,_,l=>l
def bz:Nat->Nat->Nat->List Nat
 |_,0,_=>[]
 |i,n+1,m=>bzc (m%2==1) i (bz (i+1) n (m/2))
section
variable {IT:IterP} {P:Program} {W:Owed} {k0:Nat} {ops:Array Oper} {Q:List AV->St->Prop} {o:Oper} {l:List Oper} {S S':List AV} {U U':St} {f:FuncId} {args args':List AV} {r:AV}
theorem zdw {c:Code} {Q:AQ} (h:awp IT P W k0 c Q S' U)(hS:S=S':=by dsimp only[zbq,zdf,List.foldl,List.set,bz,bzc,Nat.reduceMod,Nat.reduceDiv,Nat.reduceBEq,Nat.reduceAdd]):awp IT P W k0 c Q S U:=zbt hS rfl h
theorem zbh {n0:Nat} (m:List Bool)(h:fgM m S=S':=by kernel_rfl)(hσ:U'=U:=by kernel_rfl):Wk n0 S U S' U':=z5m m h hσ
end
variable {c:Bool} {y:Operand} {n:Int} {args':List AV}
inductive RV where
 |v (a:AV)|m (a:AV)|x (a:AV)|p
def RV.val:RV->AV
 | .v a=>a
 | .m a=>a
 | .x a=>a
 | .p=> .raw undef
def gst (ops:Array Oper)(S:List AV)(o:Oper):Option Bool:=match o.guard with
 |none=>some true
 | some (k,b)=>match zdx ops S k with
  |some (some c)=>some (c==b)
  |some none=>some false
  |none=>none
def oneV (P:Program)(ops:Array Oper)(U:St)(S:List AV)(o:Oper):RV->Option (AV×St)
 | .v _=>match gst ops S o,zct S o,zcv S o with
  |some true,none,none=>aop P (zbw S) U o
  |_,_,_=>none
 | .m _=>match gst ops S o with
  | some true=>match mvOf o.op with
   | some k=>match S[k]? with
    |some a=>some (a,U)
    |none=>none
   |none=>none
  |_=>none
 | .x _=>match gst ops S o with
  | some true=>match exOf o.op with
   | some (k,i)=>match S[k]? with
    | some (.tup vs)=>match vs[i]? with
     |some a=>some (a,U)
     |none=>none
    |_=>none
   |none=>none
  |_=>none
 | .p=>match gst ops S o with
  |some false=>some (.raw undef,U)
  |_=>none
def outV (P:Program)(ops:Array Oper)(U:St):List RV->List Oper->List AV->List (Option (AV×St))
 |x::vs,o::l,S=>oneV P ops U S o x::outV P ops U vs l (zad S o.dst x.val)
 |_::_,[],_=>[none]
 |[],_,_=>[]
def putV:List RV->List Oper->List AV->List AV
 |x::vs,o::l,S=>putV vs l (zad S o.dst x.val)
 |_,_,S=>S
def z5a:List RV->List Oper->List Oper
 |_::vs,_::l=>z5a vs l
 |_,l=>l
def expV (U:St):List RV->List (Option (AV×St))
 |x::vs=>some (x.val,U)::expV U vs
 |[]=>[]
section
variable {IT:IterP} {P:Program} {W:Owed} {ops:Array Oper} {Q:List AV->St->Prop} {o:Oper} {l L l':List Oper} {S S':List AV} {U U' U'':St} {a:AV} {k0:Nat}
theorem qhd (h:gst ops S o=some c):o.guard=none/\ c=true \/ ∃k b d,o.guard=some (k,b)/\ zdx ops S k=some d/\ (c=true->d=some b)/\ (c=false->d≠some b):=by
 unfold gst at h;split at h
 ·exact .inl ⟨‹_›,(Option.some.inj h).symm⟩
 ·rename_i k b hg;split at h
  ·rename_i d hd;cases h;refine .inr ⟨k,b,_,hg,hd,fun e=> ?_,fun e=> ?_⟩
   ·rw[beq_iff_eq] at e;rw[e]
   ·intro e';cases e';simp at e
  ·rename_i hd;cases h;exact .inr ⟨k,b,_,hg,hd,nofun,nofun⟩
  ·cases h
theorem z5p (h:gst ops S o=some true)(k:zfq IT P W o S U fun a U'=>zcb IT P W ops Q l (zad S o.dst a) U'):zcb IT P W ops Q (o::l) S U:=by
 rcases qhd h with⟨hg,_⟩|⟨kk,b,d,hg,hd,h1,_⟩
 ·simp only[zcb,hg];exact k
 ·simp only[zcb,hg];exact⟨d,hd,by rw[h1 rfl,if_pos rfl];exact k⟩
theorem w_one {x:RV} (h:oneV P ops U S o x=some (x.val,U))(k:zcb IT P W ops Q l (zad S o.dst x.val) U):zcb IT P W ops Q (o::l) S U:=by
 cases x with
 | v a=>
  simp only[oneV] at h;split at h
  ·rename_i h1 h2 h3;refine z5p h1 ?_;simp only[zfq,h2,h3];exact .inl ⟨_,_,.inl h,k⟩
  ·cases h
 | m a=>
  simp only[oneV] at h;split at h
  ·rename_i h1;split at h
   ·rename_i kk h2;split at h
    ·rename_i b h3;obtain⟨q1,q2,q3⟩:=zzy (P:=P) (U:=U) h2 h3;have e:b=a:=congrArg Prod.fst (Option.some.inj h);subst e;refine z5p h1 ?_;simp only[zfq,q1,q2];exact .inl ⟨_,_,.inl (zbl q3),k⟩
    ·cases h
   ·cases h
  ·cases h
 | x a =>
  simp only[oneV] at h;split at h
  ·rename_i h1;split at h
   ·rename_i kk i h2;split at h
    ·rename_i vs h3;split at h
     ·rename_i b h4;obtain⟨q1,q2,q3⟩:=z9o (P:=P) (U:=U) h2 h3 h4;have e:b=a:=congrArg Prod.fst (Option.some.inj h);subst e;refine z5p h1 ?_;simp only[zfq,q1,q2];exact .inl ⟨_,_,.inl (zbl q3),k⟩
     ·cases h
    ·cases h
   ·cases h
  ·cases h
 | p=>
  simp only[oneV] at h;split at h
  ·rename_i h1;rcases qhd h1 with⟨_,e⟩|⟨kk,b,d,hg,hd,_,h2⟩
   ·cases e
   ·exact z7k hg hd (h2 rfl) rfl k
  ·cases h
theorem w_r (vs:List RV)(k:zcb IT P W ops Q l' S' U)(h:outV P ops U vs l S=expV U vs:=by exact rfl)(hl:z5a vs l=l':=by dsimp only[z5a,List.toList_toArray,List.drop])(hS:putV vs l S=S':=by dsimp only[putV,RV.val,zad,List.set,List.toList_toArray,List.drop]):zcb IT P W ops Q l S U:=by
 subst hl hS;induction vs generalizing l S with
 |nil=>simpa[putV,z5a] using k
 | cons x vs ih=>
  cases l with
  |nil=>simp[outV,expV] at h
  | cons o l=>
   simp only[outV,expV,List.cons.injEq] at h;exact w_one h.1 (ih h.2 (by simpa[putV,z5a] using k))
theorem zr {id:Nat} {x y:Code} {Q:AQ} (vs:List RV)(k:zcb IT P W ops (zvt (awp IT P W k0 y Q) Q .normal) l' S' U)(hx:x= .region id ops false:=by exact rfl)(h:outV P ops U vs ops.toList S=expV U vs:=by exact rfl)(hl:z5a vs ops.toList=l':=by dsimp only[z5a,List.toList_toArray])(hS:putV vs ops.toList S=S':=by dsimp only[putV,RV.val,zad,List.set,List.toList_toArray]):awp IT P W k0 (.seq x y) Q S U:=by
 subst hx;exact zj (zb (w_r vs k h hl hS))
theorem zav {t b:Bool} (e:t=b)(k:zcb IT P W ops Q l S' U)(hg:o.guard=none:=by exact rfl)(hc:zct S o=none:=by exact rfl)(hy:zcv S o=none:=by exact rfl)(h:qop P (zbw S) U o=some (.raw (.bool t)):=by exact rfl)(hS:zad S o.dst (.raw (.bool b))=S':=by dsimp only[zad,List.set]):zcb IT P W ops Q (o::l) S U:=
 zhp hg hc hy (zbl (zee h e)) hS k
theorem zjg {x:Operand} {t:TypeId} {c} {m:Int} (g: -9223372036854775808<=m+n/\ m+n<9223372036854775808)(k:zcb IT P W ops Q l S' U)(hg:o.guard=none:=by exact rfl)(ho:o.op= .binOp .add t x y c:=by exact rfl)(hx:zbw S x= .raw (.int .i64 m):=by exact rfl)(hv:zbw S y= .raw (.int .i64 n):=by exact rfl)(hS:zad S o.dst (.raw (.int .i64 (m+n)))=S':=by dsimp only[zad,List.set]):zcb IT P W ops Q (o::l) S U:=
 zhp hg (by simp[zct,ho]) (by simp[zcv,ho]) (zbl (qcd ho hx hv rfl g.1 g.2)) hS k
theorem w_sb {x:Operand} {t:TypeId} {c} {m:Int} (g: -9223372036854775808<=m-n/\ m-n<9223372036854775808)(k:zcb IT P W ops Q l S' U)(hg:o.guard=none:=by exact rfl)(ho:o.op= .binOp .sub t x y c:=by exact rfl)(hx:zbw S x= .raw (.int .i64 m):=by exact rfl)(hv:zbw S y= .raw (.int .i64 n):=by exact rfl)(hS:zad S o.dst (.raw (.int .i64 (m-n)))=S':=by dsimp only[zad,List.set]):zcb IT P W ops Q (o::l) S U:=
 zhp hg (by simp[zct,ho]) (by simp[zcv,ho]) (zbl (zsa ho hx hv rfl g.1 g.2)) hS k
theorem qbx {α:Type} [Enc α] {t e:TypeId} {x i:Operand} {u:α} {xs:List α} {st:Room} {kd:IntKind} {n:Int} (hu:ix xs n=u)(g:0<=n/\ n<xs.length)(k:zcb IT P W ops Q l S' U)(hg:o.guard=none:=by exact rfl)(ho:o.op= .indexAddr t x i:=by exact rfl)(hx:zbw S x= .list xs.length (Enc.cellsL xs) st:=by exact rfl)(hi:zbw S i= .raw (.int kd n):=by exact rfl)(ht:P.underlying t=some (.slice e):=by exact rfl)(hs:zfh P e=some (Enc.sz α):=by exact rfl)
 (hS:zad S o.dst (.iptr (Enc.cells u++Enc.cellsL (xs.drop (n.toNat+1))))=S':=by dsimp only[zad,List.set]):zcb IT P W ops Q (o::l) S U:=by
 subst hu;exact zhp hg (by simp[zct,ho]) (by simp[zcv,ho]) (zbl (qmt g ho hx hi ht hs)) hS k
theorem znb {t:TypeId} {x:Operand} {s:Nat} {v:AV} {bx:TypeId×List AV} (n:Nat)(U'':St)(k:zcb IT P W ops Q l S' U'')(hg:o.guard=none:=by exact rfl)(ho:o.op= .store t x y:=by exact rfl)(hx:zbw S x= .ptr s 0:=by exact rfl)(hv:zbw S y=v:=by exact rfl)(hb:U.boxes[s]? =some bx:=by exact rfl)(hn:zfh P t=some n:=by exact rfl)(hl:bx.2.length=n:=by exact rfl)(hc:ziw v=true:=by exact rfl)(hvl:(cellsOf v).length=n:=by exact rfl)(h0:0<n:=by decide)
 (hS:zad S o.dst (.raw undef)=S':=by dsimp only[zad,List.set]) (hσ:{U with boxes:=U.boxes.set s (bx.1,cellsOf v)}=U'':=by exact rfl):zcb IT P W ops Q (o::l) S U:=
 zis hg (by simp[zct,ho]) (by simp[zcv,ho]) (zec ho hx hv hb hn hl hc hvl h0) hS hσ k
theorem zbx {f:FuncId} {args:List AV} {r:AV} (hp:Pure IT P f args' r)(k:zcb IT P W ops Q l S' U)(hg:o.guard=none:=by exact rfl)(hc:zct S o=some (f,args):=by exact rfl)
 (hs:stripL args=args':=by repeat(first|exact rfl|refine zu (by first|exact zdn (zak (Enc.clo _))|exact zlq (Enc.cloL _)|exact zvp (Enc.cloL _) Enc.z|exact rfl) ?_))
 (hok:zac 0 args=true:=by repeat(first|exact rfl|refine za (by first|exact zbd _ _ (zak (Enc.clo _))|exact zca (Enc.cloL _)|exact zeg (Enc.cloL _)|exact rfl) ?_)) (hS:zad S o.dst r=S':=by dsimp only[zad,List.set]):zcb IT P W ops Q (o::l) S U:=
 zkl hp hg hc hs hok hS k
theorem h_ix {α:Type} [Enc α] {K:List AV->Prop} {t e:TypeId} {x i:Operand} {u:α} {xs:List α} {st:Room} {kd:IntKind} {n:Int} (hu:ix xs n=u)(g:0<=n/\ n<xs.length)(k:zfr IT P ops U K l S')(hd:(o.dst.all fun d=>decide (d<S.length))=true:=by exact rfl)(hg:o.guard=none:=by exact rfl)(ho:o.op= .indexAddr t x i:=by exact rfl)(hx:zbw S x= .list xs.length (Enc.cellsL xs) st:=by exact rfl)(hi:zbw S i= .raw (.int kd n):=by exact rfl)(ht:P.underlying t=some (.slice e):=by exact rfl)(hs:zfh P e=some (Enc.sz α):=by exact rfl)
 (hS:zad S o.dst (.iptr (Enc.cells u++Enc.cellsL (xs.drop (n.toNat+1))))=S':=by dsimp only[zad,List.set]):zfr IT P ops U K (o::l) S:=by
 subst hu;exact h_op hd hg (by simp[zct,ho]) (qmt g ho hx hi ht hs) hS k
theorem qce {K:List AV->Prop} {f:FuncId} {args:List AV} {r:AV} (hp:Pure IT P f args' r)(k:zfr IT P ops U K l S')(hd:(o.dst.all fun d=>decide (d<S.length))=true:=by exact rfl)(hg:o.guard=none:=by exact rfl)(hc:zct S o=some (f,args):=by exact rfl)
 (hs:stripL args=args':=by repeat(first|exact rfl|refine zu (by first|exact zdn (zak (Enc.clo _))|exact zlq (Enc.cloL _)|exact zvp (Enc.cloL _) Enc.z|exact rfl) ?_))
 (hok:zac 0 args=true:=by repeat(first|exact rfl|refine za (by first|exact zbd _ _ (zak (Enc.clo _))|exact zca (Enc.cloL _)|exact zeg (Enc.cloL _)|exact rfl) ?_)) (hS:zad S o.dst r=S':=by dsimp only[zad,List.set]):zfr IT P ops U K (o::l) S:=
 h_call hp hd hg hc hs hok hS k
end
theorem strip_t {vs us:List AV} (h:stripL vs=us):zcz (.tup vs)= .tup us:=by rw[zcz,h]
theorem strip_a {vs us:List AV} (h:stripL vs=us):zcz (.agg vs)= .agg us:=by rw[zcz,h]
theorem qnz {k:Nat} {vs:List AV} (h:zac k vs=true):zbe k (.tup vs)=true:=h
theorem zbs {P:Program} {fn:Func} {S:List AV} {U:St} {R:Type} {y r:R} (E:R->AV)(hr:some y=some r)(a:AV)(h:zap P fn U S=some a:=by exact rfl)
 (hok:zbe 0 a=true:=by first|exact zbd _ _ (zak (Enc.clo _))|exact zca (Enc.cloL _)|exact zeg (Enc.cloL _)|((first|refine qnz ?_|refine okTrim_a ?_);repeat(first|exact rfl|refine za (by first|exact zbd _ _ (zak (Enc.clo _))|exact zca (Enc.cloL _)|exact zeg (Enc.cloL _)|exact rfl) ?_)))
 (hs:zcz a=E y:=by first|exact zlq (Enc.cloL _)|exact zvp (Enc.cloL _) Enc.z|exact zdn (zak (Enc.clo _))|((first|refine strip_t ?_|refine strip_a ?_);repeat(first|exact rfl|refine zu (by first|exact zdn (zak (Enc.clo _))|exact zlq (Enc.cloL _)|exact zvp (Enc.cloL _) Enc.z|exact rfl) ?_))):zwb P fn (E r) .ret S U:=
 zez E hr h hok hs
theorem zbv {IT:IterP} {P:Program} {W:Owed} {k0:Nat} {α:Type} {A B:Option α} {r:α} {d:Operand} {x y:Code} {Q:AQ} {S:List AV} {U:St} (h:(bif c then A else B)=some r)(kt:c=true->A=some r->awp IT P W k0 x Q S U)(kf:c=false->B=some r->awp IT P W k0 y Q S U)(hc:zbw S d= .raw (.bool c):=by exact rfl):awp IT P W k0 (.cond d x y) Q S U:=
 zan h (fun e h=>zum e hc (kt e h)) (fun e h=>zvc e hc (kf e h))
@[reducible] def AV.L {α:Type} [Enc α] (l:List α):AV:= .list l.length (Enc.cellsL l) .none
@[reducible] def AV.F {α:Type} [Enc α] (l:List α):AV:= .list l.length (Enc.cellsL l) .full
@[reducible] def AV.O {α:Type} [Enc α] (l:List α):AV:=zcl l.length (Enc.cellsL l)
@[reducible] def AV.A {α:Type} [Enc α] (x:α):AV:= .agg (Enc.cells x)
@[reducible] def St.B (l:List (TypeId×List AV)):St:=⟨l,[],[],0,false⟩
theorem zbc {P:Program} {f:FuncId} {fn:Func} {c:Code} {args S':List AV} {r:AV} (n:Nat)(hmix:P.follows .mixedOrders=true)(hf:P.funcs[f]? =some fn)(he:Ent P f)(h:awp (ITP P) P none 0 c (zwb P fn r) S' (St.B []))(hb:fn.body=some c:=by exact rfl)(hn:Nat.sub fn.ntmps args.length=n:=by exact rfl)(hS:args++List.replicate n (.raw undef)=S':=by dsimp only[List.replicate,List.cons_append,List.nil_append]):Pure (ITP P) P f args r:=
 zko hmix hf hb he (by unfold zai;rw[show fn.ntmps-args.length=n from hn,hS];exact h)
end Go.Ab
namespace Go.Ab
open Go Go.RowKit Go.Fwd Go.Proofs
variable {y:Code} {Q:AQ} {S:List AV} {U:St}
structure InsLaw (P:Program)(f:FuncId)(S e:TypeId)(sz by':Nat):Prop where
 room: ∀(b n c i vb voff m vc:Nat) (R V:List Value) (t0:TypeId) (tA:TypeId) (kA:Nat) (w:World) (hi:i<n) (hm:0<m) (hroom:n+m<=c) (hc63:n+m<=4611686018427387904) (hvb:vb≠b)
  (hrow:w.heap[b]? =some (.cells R.toArray t0 (0,0))) (hR:c*sz<=R.length) (hone: ∀v∈R.take (n*sz),v.oneCell'=true) (hVl:V.length=m*sz) (hV: ∀j v,V[j]? =some v->w.cell? ⟨vb,voff+j,none⟩=some v) (h1v: ∀v∈V,v.oneCell'=true)
  (hsa:w.shape? vb=some (tA,kA)) (hkA:kA≠0),
  Calls P f #[.slice (some ⟨b,0,none⟩) n c,.int .i64 i,.slice (some ⟨vb,voff,none⟩) m vc] w fun e w'=>
   e= .returned (.slice (some ⟨b,0,none⟩) (n+m) c)/\ w'=w.drew.setRow b (R.take (i*sz)++V++(R.drop (i*sz)).take ((n-i)*sz)++R.drop ((n+m)*sz)).toArray
 stop: ∀(base:Option Addr) (n c m vc:Nat) (va:Option Addr) (r:Value) (w w1:World) (hm:0<m) (hnc:n<=c) (hc63:n+m<=4611686018427387904) (hnil:base=none->c=0)
  (hrun:(Builtin.append_ #[S,S] S #[.slice base n c,.slice va m vc]).run P w= .ok r w1),
  Calls P f #[.slice base n c,.int .i64 n,.slice va m vc] w fun e w'=>e= .returned r/\ w'=w1
 grow: ∀(b n c i vb voff m vc:Nat) (R V:List Value) (t0:TypeId) (tA:TypeId) (kA:Nat) (w:World) (hi:i<n) (hm:0<m) (hnc:n<=c) (hroom:c<n+m) (hbig:(n+m)*by'<=140737488355328) (hvb:vb<w.heap.size)
  (hrow:w.heap[b]? =some (.cells R.toArray t0 (0,0))) (hR:c*sz<=R.length) (hone: ∀v∈R.take (n*sz),v.oneCell'=true) (hVl:V.length=m*sz) (hV: ∀j v,V[j]? =some v->w.cell? ⟨vb,voff+j,none⟩=some v) (h1v: ∀v∈V,v.oneCell'=true),
  Calls P f #[.slice (some ⟨b,0,none⟩) n c,.int .i64 i,.slice (some ⟨vb,voff,none⟩) m vc] w fun e' w'=>
   ∃G Z,n+m<=G/\ e'= .returned (.slice (some ⟨w.heap.size,0,none⟩) (n+m) G)/\ Z.length+(n+m)*sz=G*sz/\ w'=w.drew.drew.alloc (.cells (R.take (i*sz)++V++(R.drop (i*sz)).take ((n-i)*sz)++Z:List Value).toArray e)
theorem z0c {w:World} {b o:Nat} {v:Value} (h:w.cell? ⟨b,o,none⟩=some v): ∃t k,w.shape? b=some (t,k)/\ k≠0/\ b<w.heap.size:=by
 unfold World.cell? at h;unfold World.shape?;split at h
 ·rename_i c t f hq;simp only[hq];refine⟨t,c.size,rfl,?_,(Array.getElem?_eq_some_iff.1 hq).1⟩;have:=(Array.getElem?_eq_some_iff.1 h).1;omega
 ·cases h
section
variable {α:Type} [Enc α]
theorem Enc.ins (l r:List α)(k:Nat):(Enc.cellsL l).take (k*Enc.sz α)++Enc.cellsL r++(Enc.cellsL l).drop (k*Enc.sz α)=Enc.cellsL (l.take k++r++l.drop k):=by
 rw[Enc.take,Enc.drop,Enc.app,Enc.app]
end
theorem qdc {IT:IterP} (hIT:ITMono IT) {U:St} {X:Cx} (hI:Inv IT U X) {s b:Nat} {t:TypeId} {cs:List AV} (hs:X.κ[s]? =some b)(hb:U.boxes[s]? =some (t,cs)):
 ∃X',X'.w=X.w/\ Ext X X'/\ Inv IT {U with boxes:=U.boxes.set s (t,[])} X'/\ At IT X' cs b 0:=by
 have hbm:b∈X.κ:=List.mem_of_getElem? hs;obtain⟨us,zs,k1,k2,k3⟩:=hI.box s b t cs hs hb;have hul:=zq k2
 have hE:Ext X {X with F:=fun b' o=>X.F b' o \/(b'=b/\ o<us.length)}:={Ext.refl X with
  F:=fun _ _ h=> .inl h
  cell:=fun _ _ _=>rfl
  Fnew:=fun b' o h=>h.elim .inl fun h=> .inr (.inr (.inr (h.1▸hbm)))}
 have hK:=zsx hI hb;refine⟨{X with F:=fun b' o=>X.F b' o \/(b'=b/\ o<us.length)},rfl,hE,?_,?_⟩
 ·refine {lens:=hK.lens,elems:=hK.elems,κlen:=hK.κlen,κnd:=hK.κnd,box:= ?_,κF:= ?_,βlen:=hK.βlen,βnd:=hK.βnd,βκ:=hK.βκ,row:= ?_,Ok:= ?_,Fcell:= ?_}
  ·intro s' b' t' cs' hs' hb';obtain⟨vs',zs',u1,u2,u3⟩:=hK.box s' b' t' cs' hs' hb';exact⟨vs',zs',u1,zam hIT hE _ _ u2,u3⟩
  ·intro s' b' t' cs' hs' hb' hc o hf;rcases hf with hf|⟨rfl,hlt⟩
   ·exact hK.κF s' b' t' cs' hs' hb' hc o hf
   ·have hne:cs≠[]:=fun e=>by rw[e] at hul;simp at hul;omega
    have hs0:s<U.boxes.length:=(List.getElem?_eq_some_iff.1 hb).1;by_cases e:s=s'
    ·subst e;have hb'':(U.boxes.set s (t,[]))[s]? =some (t',cs'):=hb';rw[List.getElem?_set_self hs0] at hb'';cases hb'';exact hc rfl
    ·have hb'':(U.boxes.set s (t,[]))[s']? =some (t',cs'):=hb';rw[List.getElem?_set_ne e] at hb'';rcases hI.κnd s s' b' hs hs' e with⟨t0,h0⟩|⟨t0,h0⟩
     ·rw[hb] at h0;exact hne (congrArg Prod.snd (Option.some.inj h0))
     ·rw[hb''] at h0;exact hc (congrArg Prod.snd (Option.some.inj h0))
  ·intro s' r L hr hL;obtain⟨cur,fz,c1,c2,c3,c4,c5,c6,c7⟩:=hI.row s' r L hr hL;refine⟨cur,fz,c1,c2,c3,c4,c5,fun o hf=> ?_,c7⟩;rcases hf with hf|⟨e,_⟩
   ·exact c6 o hf
   ·exact absurd (e▸hbm) (hI.βκ r (List.mem_of_getElem? hr))
  ·intro b' ho;obtain⟨h1,h2,h3,h4⟩:=hI.Ok b' ho;exact⟨h1,h2,h3,fun o hf=>hf.elim (h4 o) fun h=>absurd (h.1▸hbm) h2⟩
  ·intro b' o hf;rcases hf with hf|⟨rfl,hlt⟩
   ·exact hI.Fcell b' o hf
   ·refine⟨us[o],?_⟩;show X.w.cell? _=_;rw[cell_of_row _ _ _ _ _ _ k1,List.getElem?_toArray,List.getElem?_append_left hlt];exact List.getElem?_eq_getElem hlt
 ·refine z1d (fun j hj=> .inr ⟨rfl,by omega⟩) k3 (zam hIT hE _ _ k2) fun j u hu=> ?_;show X.w.cell? _=_;have hj:=(List.getElem?_eq_some_iff.1 hu).1;rw[cell_of_row _ _ _ _ _ _ k1,Nat.zero_add,List.getElem?_toArray,List.getElem?_append_left hj];exact hu
theorem snd_frz {IT:IterP} (hIT:ITMono IT) {α:Type} [Enc α] {P:Program} {f:FuncId} {ar ar':List AV} {r:AV} {U:St} {s:Nat} {t:TypeId} {l:List α} {fl:Bool} (h:Pure IT P f (.list (length l) (Enc.cellsL l) .none   ::ar') r)(has:stripL ar=ar')(hok:zac 0 ar=true)(hb:U.boxes[s]? =some (t,Enc.cellsL l)):
 Snd IT P f (.bsl s 0 (length l) (Enc.sz α) fl::ar) U r {U with boxes:=U.boxes.set s (t,[])}:=by
 refine⟨h.1,fun X vs hI hr=> ?_⟩;rw[zbf] at hr;obtain⟨v0,vr,rfl,hv0,hrr⟩:=hr;have hv0:Bsl X s 0 l.length (Enc.sz α) fl v0:=hv0;obtain⟨b,c,cur,t1,hκ,rfl,hcap,_,hrow,hfit⟩:=hv0;obtain⟨X',x1,x2,x3,x4⟩:=qdc hIT hI hκ hb;have hr':zbf IT X' (.list (length l) (Enc.cellsL l) .none::ar) (.slice (some ⟨b,0,none⟩) l.length c::vr):=by
  rw[zbf];refine⟨_,vr,rfl,?_,zam hIT x2 _ _ hrr⟩;rw[Rep];exact⟨_,_,rfl,⟨hcap,fun h=>by cases h⟩,.inr ⟨_,_,rfl,x4⟩,trivial⟩
 have hl:=zle hIT h (args:= .list (length l) (Enc.cellsL l) .none::ar) (by rw[Go.Ab.stripL,zcz,Enc.stripL,has]) (by rw[za (zca (Enc.cloL l)) hok]) x3 hr';rw[x1] at hl;refine hl.mono ?_;rintro e w' ⟨v,Y,h1,h2,h3,h4,h5,_⟩;exact⟨v,Y,h1,h2,x2.trans h3,h4,h5⟩
section
variable {IT:IterP} {P:Program} {W:Owed} {k0:Nat}
theorem zgt {x:Code} (h:awp IT P W k0 x (zvt (fun S U=> ∃S' U',Wk k0 S U S' U'/\ awp IT P W k0 y Q S' U') Q) S U):awp IT P W k0 (.seq x y) Q S U:= .inl h
theorem w_semB {id:Nat} {x:Code} (S':List AV)(U':St)(hs:qjg IT P (.block id x) S U S' U')(h:Q .normal S' U'):awp IT P none k0 (.block id x) Q S U:= .inr ⟨rfl,S',U',hs,h⟩
theorem qiz {x:Code} (S':List AV)(U':St)(hs:qjg IT P x S U S' U')(h:awp IT P none k0 y Q S' U'):awp IT P none k0 (.seq x y) Q S U:= .inr ⟨rfl,S',U',hs,h⟩
theorem qdm {S':List AV} {U':St} (hw:Wk k0 S U S' U')(h:awp IT P W k0 y Q S' U'): ∃S' U',Wk k0 S U S' U'/\ awp IT P W k0 y Q S' U':=⟨S',U',hw,h⟩
end
end Go.Ab
namespace Go.Ab
open Go Go.RowKit Go.Fwd
section
variable {P:Program} {ρ:Operand->AV} {U:St} {o:Oper} {α:Type} [Enc α]
theorem q_bslH {t e:TypeId} {x i:Operand} {s n:Nat} {f:Bool} {k:IntKind} {j:Int} (g:0<j/\ j<=n)(ho:o.op= .slice t x none (some i) none)(hx:ρ x= .bsl s 0 n (Enc.sz α) f)(hi:ρ i= .raw (.int k j))(hu:P.underlying t=some (.slice e))(hs:zfh P e=some (Enc.sz α)):
 qop P ρ U o=some (.bsl s 0 j.toNat (Enc.sz α) (f&&(j.toNat==n))):=by
 have h4:zkg n none (some (.raw (.int k j))) none=some (0,j.toNat,false):=by
  have c:0<=j/\ j<=(n:Int):=by omega
  simp only[zkg,zng,if_pos c]
 have hlt:0<j.toNat:=by omega
 simp only[qop,ho,hx,hi,map_some,Option.map_none,zwd,hu,hs,h4,if_true,if_pos hlt,Nat.zero_add,Nat.zero_mul,Nat.sub_zero];simp
end
theorem qlp {IT:IterP} {P:Program} {W:Owed} {k0:Nat} {id:Nat} {ops:Array Oper} {Q:AQ} {S:List AV} {U:St} (S1:List AV)(U1:St)(h:zse IT P W ops (fun S U=>S=S1/\ U=U1) ops.size (Array.replicate ops.size false) S U)(hrest:Q .normal S1 U1):awp IT P W k0 (.region id ops true) Q S U:=
 .inr (.inr (.inl (zgr (fun S U hw=>by obtain⟨rfl,rfl⟩:=hw;exact hrest) _ _ _ _ h)))
end Go.Ab
namespace Go.Ab
open Go Go.RowKit Go.Fwd Go.Proofs
theorem xorM64 (x:BitVec 64):xorI .u64 18446744073709551615 (x.toNat:Int)=((~~~ x).toNat:Int):=by
 show IntKind.u64.wrap (((BitVec.ofInt 64 (18446744073709551615:Int)^^^BitVec.ofInt 64 (x.toNat:Int)).toNat:Nat):Int)=_;rw[z5h];have:BitVec.ofInt 64 (18446744073709551615:Int)^^^x= ~~~ x:=by
  rw[show BitVec.ofInt 64 (18446744073709551615:Int)=BitVec.allOnes 64 by decide,BitVec.allOnes_xor]
 rw[this];exact wrap_u64 _
theorem z8q (a:BS)(i:Nat)(hi:i<4):xorI .u64 18446744073709551615 (wd a i)=wd (~~~ a) i:=by
 unfold wd;rw[xorM64];have: ~~~ W64 a i=W64 (~~~ a) i:=by
  apply BitVec.eq_of_getLsbD_eq;intro j hj;simp only[W64,BitVec.getLsbD_not,BitVec.getLsbD_extractLsb',hj,decide_true,Bool.true_and];have:64*i+j<256:=by omega
  simp[this]
 rw[this]
theorem not_run (a:BS):Pure (ITP prog) prog 68 [.agg (Enc.cells a)] (.agg [.raw (.int .u64 (xorI .u64 18446744073709551615 (wd a 0))),.raw (.int .u64 (xorI .u64 18446744073709551615 (wd a 1))),.raw (.int .u64 (xorI .u64 18446744073709551615 (wd a 2))),.raw (.int .u64 (xorI .u64 18446744073709551615 (wd a 3)))]):=zfc true goodN 100 (by kernel_rfl)
theorem qep (a:BS):Pure (ITP prog) prog 68 [.agg (Enc.cells a)] (.agg (Enc.cells (~~~ a))):=by
 have:=not_run a;rw[z8q _ 0 (by decide),z8q _ 1 (by decide),z8q _ 2 (by decide),z8q _ 3 (by decide)] at this;exact this
def stW (s:BS)(i:Nat)(v:Int):BS:=BitVec.ofNat 256 ((if 0=i then v else wd s 0).toNat+2^64*(if 1=i then v else wd s 1).toNat+2^128*(if 2=i then v else wd s 2).toNat+2^192*(if 3=i then v else wd s 3).toNat)
theorem qbd (s:BS)(i:Nat):0<=wd s i/\ wd s i<2^64:=by
 unfold wd;have:=(W64 s i).isLt;omega
theorem qnh (n i:Nat)(hi:i<4):wd (BitVec.ofNat 256 n) i=((n/2^(64*i)%2^64:Nat):Int):=by
 unfold wd W64;rw[BitVec.extractLsb'_toNat,BitVec.toNat_ofNat,Nat.shiftRight_eq_div_pow];congr 1
 have h:(2:Nat)^256=2^(64*i)*2^(256-64*i):=by rw[<-Nat.pow_add];congr 1;omega
 have h2:(2:Nat)^(256-64*i)=2^64*2^(192-64*i):=by rw[<-Nat.pow_add];congr 1;omega
 rw[h,Nat.mod_mul_right_div_self,h2,Nat.mod_mul_right_mod]
theorem qfh (s:BS)(i:Nat)(v:Int)(hv:0<=v/\ v<2^64)(j:Nat)(hj:j<4):wd (stW s i v) j=if j=i then v else wd s j:=by
 unfold stW;rw[qnh _ _ hj];have a0:0<=(if 0=i then v else wd s 0)/\ (if 0=i then v else wd s 0)<2^64:=by split;exact hv;exact qbd s 0
 have a1:0<=(if 1=i then v else wd s 1)/\ (if 1=i then v else wd s 1)<2^64:=by split;exact hv;exact qbd s 1
 have a2:0<=(if 2=i then v else wd s 2)/\ (if 2=i then v else wd s 2)<2^64:=by split;exact hv;exact qbd s 2
 have a3:0<=(if 3=i then v else wd s 3)/\ (if 3=i then v else wd s 3)<2^64:=by split;exact hv;exact qbd s 3
 have key: ∀x0 x1 x2 x3:Int,0<=x0/\ x0<2^64->0<=x1/\ x1<2^64->0<=x2/\ x2<2^64->0<=x3/\ x3<2^64-> ∀n:Nat,n=x0.toNat+18446744073709551616*x1.toNat+340282366920938463463374607431768211456*x2.toNat+6277101735386680763835789423207666416102355444464034512896*x3.toNat->
  ((n%18446744073709551616:Nat):Int)=x0/\ ((n/18446744073709551616%18446744073709551616:Nat):Int)=x1/\ ((n/340282366920938463463374607431768211456%18446744073709551616:Nat):Int)=x2/\ ((n/6277101735386680763835789423207666416102355444464034512896%18446744073709551616:Nat):Int)=x3:=by
  intro x0 x1 x2 x3 h0 h1 h2 h3 n hn;obtain⟨y0,rfl⟩:=Int.eq_ofNat_of_zero_le h0.1;obtain⟨y1,rfl⟩:=Int.eq_ofNat_of_zero_le h1.1;obtain⟨y2,rfl⟩:=Int.eq_ofNat_of_zero_le h2.1;obtain⟨y3,rfl⟩:=Int.eq_ofNat_of_zero_le h3.1;simp only[Int.toNat_natCast] at hn;subst hn;refine⟨?_,?_,?_,?_⟩<;>congr 1<;>omega
 obtain⟨k0,k1,k2,k3⟩:=key _ _ _ _ a0 a1 a2 a3 _ rfl
 match j,hj with
 |0,_=>rw[Nat.mul_zero,Nat.pow_zero,Nat.div_one];exact k0
 |1,_=>exact k1
 |2,_=>exact k2
 |3,_=>exact k3
theorem z2f {ρ:Operand->AV} {U:St} {o:Oper} {x y:Operand} {b:Nat} {tt:TypeId} {i v:Int} (s:BS)(h:0<=i/\ i<4)(hv:0<=v/\ v<2^64)(ho:o.op= .store 22 x y)(hx:ρ x= .ptr b (0+i.toNat*1))(hy:ρ y= .raw (.int .u64 v))(hb:U.boxes[b]? =some (tt,Enc.cells s)):
 aop prog ρ U o=some (.raw undef,{U with boxes:=U.boxes.set b (tt,Enc.cells (stW s i.toNat v))}):=by
 have hl:(Enc.cells s).length=4:=Enc.len s;rw[zco (n:=1) ho hx hy hb (by kernel_rfl) ⟨rfl,rfl,by simp only[hl];omega,by decide⟩];have e:(Enc.cells s).take (0+i.toNat*1)++cellsOf (.raw (.int .u64 v))++(Enc.cells s).drop (0+i.toNat*1+1)=Enc.cells (stW s i.toNat v):=by
  have hj:i.toNat<4:=by omega
  generalize i.toNat=j at hj
  show _=[_,_,_,_];rw[qfh s j v hv 0 (by decide),qfh s j v hv 1 (by decide),qfh s j v hv 2 (by decide),qfh s j v hv 3 (by decide)]
  match j,hj with
  |0,_=>rfl
  |1,_=>rfl
  |2,_=>rfl
  |3,_=>rfl
 simp only[e]
end Go.Ab
namespace Go.Ab
open Go Go.RowKit Go.Fwd
variable {y:Code}
abbrev zN:List AV:=[.u 0,.raw (.int .u64 0),.raw (.int .u64 0),.raw (.int .u64 0),.raw (.int .u64 0),.i 0,.i 0,.list 0 [] .full]
section
variable {IT:IterP} {P:Program} {W:Owed} {ops:Array Oper} {Q:List AV->St->Prop} {o:Oper} {l:List Oper} {S S':List AV} {U U':St} {k0:Nat}
theorem zfs {t t0:TypeId} {x y:Operand} {s:Nat} {v:AV} {c0:List AV} {bs bs':List (TypeId×List AV)} (n:Nat)(cs:List AV)(k:zcb IT P W ops Q l S' (.B bs'))(hσ:U= .B bs:=by exact rfl)(hg:o.guard=none:=by exact rfl)(ho:o.op= .store t x y:=by exact rfl)(hx:zbw S x= .ptr s 0:=by exact rfl)(hv:zbw S y=v:=by exact rfl)(hb:bs[s]? =some (t0,c0):=by exact rfl)(hn:zfh P t=some n:=by exact rfl)(hl:c0.length=n:=by exact rfl)(hc:ziw v=true:=by exact rfl)(hcs:cellsOf v=cs:=by exact rfl)(hvl:cs.length=n:=by exact rfl)(h0:0<n:=by decide)
 (hS:zad S o.dst (.raw undef)=S':=by dsimp only[zad,List.set]) (hs:bs.set s (t0,cs)=bs':=by dsimp only[List.set]):zcb IT P W ops Q (o::l) S U:=by
 subst hσ hs hcs;exact zis hg (by simp[zct,ho]) (by simp[zcv,ho]) (zec ho hx hv hb hn hl hc hvl h0) hS rfl k
theorem zdl {a:AV} {t:TypeId} {bs bs':List (TypeId×List AV)} (cs:List AV)(k:zcb IT P W ops Q l S' (.B bs'))(hσ:U= .B bs:=by exact rfl)(hg:o.guard=none:=by exact rfl)(hc:zct S o=none:=by exact rfl)(hy:zcv S o=none:=by exact rfl)(h:aop P (zbw S) (.B bs) o=some (.ptr bs.length 0,.B (bs++[(t,cs)])):=by exact rfl)
 (ha:AV.ptr bs.length 0=a:=by dsimp only[List.length_cons,List.length_nil,Nat.zero_add,Nat.reduceAdd]) (hS:zad S o.dst a=S':=by dsimp only[zad,List.set]) (hs:bs++[(t,cs)]=bs':=by dsimp only[List.cons_append,List.nil_append]):zcb IT P W ops Q (o::l) S U:=by
 subst hσ hs ha;exact zis hg hc hy h hS rfl k
theorem wmk (m:List Bool)(n:Nat)(fs js:List Nat)(d:Nat)(hn:k0<=n)(hσ:zeo U U.lens.length n fs js d=U')(hok:zcu U n js=true:=by exact rfl)(h:fgM m (zx U.lens.length (kz U.boxes U.lens.length n fs js d) S)=S':=by
 try dsimp only[zbq,zdf,List.foldl,List.set,bz,bzc,Nat.reduceMod,Nat.reduceDiv,Nat.reduceBEq,Nat.reduceAdd]
 repeat(first|exact zjf|refine zcq rfl ?_|refine zcq (zo _ _ _ rfl) ?_|refine zcq (zo _ _ _ (z7g (Enc.cloL _))) ?_|apply zcr)):Wk k0 S U S' U':=ztl m n fs js d hn hok h hσ
def qeu (n:Nat)(l:List (Nat×AV)):List AV:=l.foldl (fun S p=>S.set p.1 p.2) (List.replicate n (.raw undef))
theorem at_wkU {Q:AQ} (n:Nat)(L:List (Nat×AV))(hw:Wk k0 S U (qeu n L) U')(h:awp IT P W k0 y Q S' U')(e:qeu n L=S':=by dsimp only[qeu,List.foldl,List.replicate,List.set]): ∃S' U',Wk k0 S U S' U'/\ awp IT P W k0 y Q S' U':=by
 subst e;exact⟨_,U',hw,h⟩
theorem zjo {Q:AQ} (n:Nat)(L:List (Nat×AV))(hw:Wk k0 S U (qkl n L) U')(h:awp IT P W k0 y Q S' U')(e:qkl n L=S':=by dsimp only[qkl,List.foldl,List.replicate,List.set]): ∃S' U',Wk k0 S U S' U'/\ awp IT P W k0 y Q S' U':=by
 subst e;exact⟨_,U',hw,h⟩
end
theorem z0s {IT:IterP} {P:Program} {W:Owed} {ops:Array Oper} {Q:List AV->St->Prop} {o:Oper} {l:List Oper} {S S':List AV} {U:St} (t:Tr)(k:zcb IT P W ops Q l S' U)(hg:o.guard=none:=by exact rfl)(hc:zct S o=none:=by exact rfl)(hy:zcv S o=none:=by exact rfl)(h:qop P (zbw S) U o=some (qhu t .full):=by kernel_rfl)(hS:zad S o.dst (.agg (Enc.cells t))=S':=by dsimp only[zad,List.set]):zcb IT P W ops Q (o::l) S U:=
 w_qs (.agg (Enc.cells t)) (a0:=qhu t .full) hg hc hy h (zto _ _) hS k
end Go.Ab
namespace Go.Ab
open Go Go.RowKit Go.Fwd Go.Proofs
def zjp (lo:Int)(hi:Int):Option Bool:=
 (zda (τ:=Unit) (bif (decide (lo<0)) then(some (inr false)) else(bif (decide (lo>16)) then(some (inr false)) else(bif (lo==1) then(bif (hi==1) then(some (inr false)) else(some (inl ()))) else(some (inl ()))))) (fun j1=>(bif (hi==(-1)) then(some true) else(bif (decide (hi>=1)) then(bif (decide (hi<=16)) then(some (decide (hi>=lo))) else(some false)) else(some false)))))
theorem ent145:Ent prog 145:=enters_of Tryz.func145 (by kernel_rfl) rfl
theorem zwu (lo:Int)(hi:Int)(r:Bool)(h:zjp lo hi=some r):Pure (ITP prog) prog 145 [.raw (.int .i64 lo),.raw (.int .i64 hi)] (.raw (.bool r)):=by
 unfold zjp at h;refine zbc 32 mix Tryz.func145 ent145 ?_;refine zr [.v (.b false)] ?_;refine zau h (bz 0 34 17179869180) (fun j1=>[]) (fun j1=>(.B [])) ?_ ?_;intro or1 h hr1;refine zr [.m _,.v (.b (decide (lo<0)))] ?_;refine zan h (fun hc1 h=> ?_) (fun hc1 h=> ?_);refine zav hc1 ?_;refine w_r [.p,.p,.v (.b true),.m _,.p] ?_;refine w_r [.p,.p,.p,.p,.p] ?_;refine w_r [.v (.b true)] ?_;refine zel rfl ?_;refine zr [.v (.b false)] ?_;replace h:=zaq h hr1;exact zbn h;refine zav hc1 ?_;refine w_r [.m _,.v (.b (decide (lo>16))),.v (.b (decide (lo>16)))] ?_;refine zan h (fun hc2 h=> ?_) (fun hc2 h=> ?_);refine zav hc2 ?_;refine w_r [.p,.p,.p,.p,.p] ?_;refine w_r [.p,.v (.b true)] ?_;refine zel rfl ?_;refine zr [.v (.b false)] ?_;replace h:=zaq h hr1;exact zbn h;refine zav hc2 ?_;refine w_r [.m _,.v (.b (lo==1))] ?_;refine zbj rfl rfl ?_;refine zan h (fun hc3 h=> ?_) (fun hc3 h=> ?_);refine zav hc3 ?_;refine w_r [.m _,.v (.b (hi==1)),.v (.b (hi==1)),.v (.b (hi==1))] ?_;refine zbv h (fun hc4 h=> ?_) (fun hc4 h=> ?_);refine zr [.v (.b false)] ?_;replace h:=zaq h hr1;exact zbn h;refine zc (o:=or1) () h ?_;exact zbh (bl 34 3);refine zav hc3 ?_;refine w_r [.p,.p,.v (.b false),.v (.b false)] ?_;refine zce rfl ?_;refine zc (o:=or1) () h ?_;exact zbh (bl 34 3);intro j1 h;refine zdw ?_;refine zr [.m _,.v (.b (hi==(-1)))] ?_;refine zan h (fun hc5 h=> ?_) (fun hc5 h=> ?_);refine zav hc5 ?_;iterate 2 refine w_r [.p,.p,.p,.p,.p] ?_
 refine w_r [.p,.v (.b true),.m _] ?_;exact zbn h;refine zav hc5 ?_;refine w_r [.m _,.v (.b (decide (hi>=1)))] ?_;refine zbj rfl rfl ?_;refine zan h (fun hc6 h=> ?_) (fun hc6 h=> ?_);refine zav hc6 ?_;refine w_r [.m _,.v (.b (decide (hi<=16))),.v (.b (decide (hi<=16)))] ?_;refine zbj rfl rfl ?_;refine zan h (fun hc7 h=> ?_) (fun hc7 h=> ?_);refine zav hc7 ?_;refine w_r [.m _,.m _,.v (.b (decide (hi>=lo))),.v (.b (decide (hi>=lo))),.v (.b (decide (hi>=lo)))] ?_;refine w_r [.m _] ?_;exact zbn h;refine zav hc7 ?_;refine w_r [.p,.p,.p,.v (.b false),.v (.b false)] ?_;refine w_r [.m _] ?_;exact zbn h;refine zav hc6 ?_;refine w_r [.p,.p,.v (.b false),.m _,.p] ?_;refine w_r [.p,.p,.v (.b false),.v (.b false),.m _] ?_;exact zbn h
def z9x (s:BS):Option Tr:=
 (bif (decide (s=(0#256))) then(some zax) else(some (Tr.mk 2 s 0 0 [])))
theorem ent123:Ent prog 123:=enters_of Tryz.func123 (by kernel_rfl) rfl
theorem rxof_sh (s:BS)(r:Tr)(h:z9x s=some r):Pure (ITP prog) prog 123 [.A (s:BS)] (.A (r:Tr)):=by
 unfold z9x at h;refine zbc 8 mix Tryz.func123 ent123 ?_;refine zj (zb ?_);refine zdl (Enc.cells (s:BS)) ?_;refine zdl zN ?_;refine zj ?_;refine zr [.v (.A (s:BS)),.v (.A (0#256:BS))] ?_;refine zzi (.b (decide (s=(0#256)))) rfl rfl rfl (zmk s (0#256) rfl rfl rfl) (by dsimp only[zad,List.set]) ?_;refine zbv h (fun hc1 h=> ?_) (fun hc1 h=> ?_);refine zj (zb ?_);refine z0s zax ?_;refine zfs 8 (Enc.cells (zax:Tr)) ?_;exact zbs (fun(r:Tr)=> .A (r:Tr)) h (.A (zax:Tr));refine zr [.v (.A (s:BS))] ?_;refine z0s (Tr.mk 2 s 0 0 []) ?_;refine zfs 8 (Enc.cells ((Tr.mk 2 s 0 0 []):Tr)) ?_;exact zbs (fun(r:Tr)=> .A (r:Tr)) h (.A ((Tr.mk 2 s 0 0 []):Tr))
def zlh (s:BS)(c:Int):Option Bool:=
 (chk (0<=(zge .u8 c 6)/\ (zge .u8 c 6)<4) (chk (0<=(znf .u8 c 63)) (some ((znf .u64 (zge .u64 (wd s (toNat (zge .u8 c 6))) (znf .u8 c 63)) 1)==1))))
theorem ent163:Ent prog 163:=enters_of Tryz.func163 (by kernel_rfl) rfl
theorem zuz (s:BS)(c:Int)(r:Bool)(h:zlh s c=some r):Pure (ITP prog) prog 163 [.A (s:BS),.raw (.int .u8 c)] (.raw (.bool r)):=by
 unfold zlh at h;refine zbc 12 mix Tryz.func163 ent163 ?_;refine zj (zb ?_);refine zdl (Enc.cells (s:BS)) ?_;refine w_o (a:= .b false) ?_;refine zr [.m _] ?_;refine w_o (a:= .u (zge .u8 c 6)) (h:=zbl (qjp (by decide) rfl rfl rfl)) ?_;obtain⟨g1,h⟩:=zk h;refine w_o (a:= .ptr 0 (0+toNat (zge .u8 c 6)*1)) (h:=zbl (z2h g1 rfl rfl rfl rfl rfl)) ?_;refine w_o (a:= .raw (.int .u64 (wd s (toNat (zge .u8 c 6))))) (h:=zbl (z6p s (by omega) rfl rfl rfl)) ?_;refine w_r [.m _,.v (.u (znf .u8 c 63))] ?_;obtain⟨g2,h⟩:=zk h;refine w_o (a:= .raw (.int .u64 (zge .u64 (wd s (toNat (zge .u8 c 6))) (znf .u8 c 63)))) (h:=zbl (qjp g2 rfl rfl rfl)) ?_;refine w_r [.v (.raw (.int .u64 (znf .u64 (zge .u64 (wd s (toNat (zge .u8 c 6))) (znf .u8 c 63)) 1))),.v (.b ((znf .u64 (zge .u64 (wd s (toNat (zge .u8 c 6))) (znf .u8 c 63)) 1)==1)),.m _] ?_;exact zbn h
end Go.Ab
