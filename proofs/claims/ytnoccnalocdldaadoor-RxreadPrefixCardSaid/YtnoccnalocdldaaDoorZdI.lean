import Derived.Test.YtnoccnalocdldaaDoorZdCp
import Derived.Laws.Slices
import Derived.Laws.IdiomStrings
set_option linter.all false
open Nat (le_refl le_trans)
open List (mem_of_getElem? getElem?_eq_getElem mem_map mem_iff_getElem)
namespace Go.Ab
open Go Go.RowKit Go.Fwd
variable {U U':St} {y:AV} {X Y Z X' X0:Cx} {c:Bool} {ρ:Operand->AV} {o:Oper} {S:List AV} {n:Nat}
def aop (P:Program)(ρ:Operand->AV)(U:St)(o:Oper):Option (AV×St):=
 match qop P ρ U o with
 |some a=>some (a,U)
 | none=>match o.op with
  | .alloc t=>zqo P U t
  | .box t x=>aBox U t (ρ x)
  | .store t x y=>match zop P U t (ρ x) (ρ y) with|some U'=>some (.raw undef,U')|none=>none
  | .call c=>match c.callee,c.args.toList,c.argTypes.toList with
   | .builtin .append,[x,y],[t,t']=>if t=t' then zft P U t (ρ x) (ρ y) else z6s P U t t' (ρ x) (ρ y)
   |_,_,_=>none
  |_=>none
theorem zti {IT:IterP} (hIT:ITMono IT) {P:Program} {X:Cx} {U U':St} {ρ:Operand->AV} {ρc:Operand->Value} {o:Oper} {a:AV} (h:aop P ρ U o=some (a,U'))(hρ: ∀x∈o.op.operands,Rep IT X (ρ x) (ρc x))(hI:Inv IT U X):
 Res IT X U' a ((execOp ρc o).run P X.w):=by
 unfold aop at h;split at h
 ·rename_i b hb;cases h;obtain⟨v,X',h1,h2,h3,h4,_⟩:=zoo hIT hb hρ hI;exact⟨v,X',.inl h1,h2,h3,h4⟩
 ·split at h
  ·rename_i t ho;obtain⟨X',h1,h2,h3,h4⟩:=z0l hIT (P:=P) (old:= .tuple #[]) h hI;exact⟨_,X',.inl (by simp[execOp,ho,h1]),h2,h3,h4⟩
  ·rename_i t x ho;obtain⟨X',h1,h2,h3,h4⟩:=zve hIT (P:=P) h (hρ x (by simp[ho,Op.operands])) hI;exact⟨_,X',.inl (by simp[execOp,ho,h1]),h2,h3,h4⟩
  ·rename_i t x y ho;split at h<;>cases h
   rename_i U1 hs;obtain⟨X',h1,h2,h3⟩:=z0y hIT (P:=P) hs (hρ x (by simp[ho,Op.operands])) (hρ y (by simp[ho,Op.operands])) hI;exact⟨undef,X',.inr ⟨by simp[execOp,ho,h1],rfl⟩,h2,h3,by rw[Rep]⟩
  ·rename_i c ho;split at h<;>try cases h
   rename_i x y t t' hc hargs htys;have e1:c.args= #[x,y]:=by apply Array.ext';simpa using hargs
   split at h
   rotate_left
   ·have e2:c.argTypes= #[t,t']:=by apply Array.ext';simpa using htys
    obtain⟨r,X',h1,h2,h3,h4⟩:=zsf hIT (P:=P) (ty:=o.type) h (hρ x (by simp[ho,Op.operands,Call.operands,e1])) (hρ y (by simp[ho,Op.operands,Call.operands,e1])) hI;exact⟨r,X',.inl (by simp[execOp,ho,resolve,hc,invoke,builtin,e1,e2,h1]),h2,h3,h4⟩
   rename_i htt;subst htt;have e2:c.argTypes= #[t,t]:=by apply Array.ext';simpa using htys
   obtain⟨r,X',h1,h2,h3,h4⟩:=zwn hIT (P:=P) (ty:=o.type) h (hρ x (by simp[ho,Op.operands,Call.operands,e1])) (hρ y (by simp[ho,Op.operands,Call.operands,e1])) hI;exact⟨r,X',.inl (by simp[execOp,ho,resolve,hc,invoke,builtin,e1,e2,h1]),h2,h3,h4⟩
  ·cases h
def zwq (P:Program)(U:St)(t:TypeId):Option (AV×St):=
 match P.info? t with
 | some i=>match i.zero with
  |some z=>if(z.cells.toList.all fun v=>v.oneCell')=true then some (.ptr U.boxes.length 0,{U with boxes:=U.boxes++[(t,z.cells.toList.map AV.raw)]}) else none
  |none=>none
 |none=>none
theorem zvt {IT:IterP} (hIT:ITMono IT) {P:Program} {X:Cx} {U U':St} {t:TypeId} {a:AV} {old:Value} (h:zwq P U t=some (a,U'))(hI:Inv IT U X):
 ∃X',(Instr.alloc t true old).run P X.w= .ok (.pointer (some ⟨X.w.heap.size,0,none⟩)) X'.w/\ Ext X X'/\ Inv IT U' X'/\ Rep IT X' a (.pointer (some ⟨X.w.heap.size,0,none⟩)):=by
 unfold zwq at h;split at h<;>try cases h
 rename_i i hi;split at h<;>try cases h
 rename_i z hz;split at h<;>cases h
 rename_i hok;obtain⟨X',e1,e2,e3,e4⟩:=ztm hIT hI (t:=t) (cs:=z.cells.toList.map AV.raw) (vs:=z.cells.toList) (zjb _) (fun v hv=>List.all_eq_true.1 hok v hv);refine⟨X',?_,e2,e3,e4⟩;have:(Instr.alloc t true old).run P X.w=(Instr.box t z).run P X.w:=by
  cases old<;>simp[Instr.alloc,Instr.box,zjo hi hz]
 rw[this,e1];simp only[Instr.box,Sem.run_bind,zov,Result.andThen_ok,Sem.run_pure]
def qad (P:Program)(U:St)(t tx:TypeId)(y:AV):Option (AV×St):=
 match y with
 | .raw (.string b)=>if b.size=0 then(match P.underlying t,P.underlying tx with
  | some (.slice e),some .string=>match P.info? e with
   |some i=>if i.size=1 then some (.raw (.slice none 0 0),U) else none
   |none=>none
  |_,_=>none) else z6s P U t tx (.list 0 [] .full) y
 |_=>none
theorem z3e {IT:IterP} (hIT:ITMono IT) {P:Program} {X:Cx} {U U':St} {t tx ty:TypeId} {y a:AV} {u:Value} (h:qad P U t tx y=some (a,U'))(hy:Rep IT X y u)(hI:Inv IT U X):
 ∃r X',(Builtin.append_ #[t,tx] ty #[.slice none 0 0,u]).run P X.w= .ok r X'.w/\ Ext X X'/\ Inv IT U' X'/\ Rep IT X' a r:=by
 unfold qad at h;split at h<;>try cases h
 rename_i b;split at h
 ·rename_i hm;split at h<;>try cases h
  rename_i e hu htx;split at h<;>try cases h
  rename_i i hi;split at h<;>cases h
  rename_i hsz1;rw[Rep] at hy;subst hy;have hb0:b=ByteArray.empty:=by
   apply ByteArray.ext;exact Array.eq_empty_of_size_eq_zero hm
  refine⟨.slice none 0 0,X,?_,Ext.refl X,hI,by rw[Rep]⟩;subst hb0;have hs:=Src.ofString (P:=P) X.w htx ByteArray.empty;have h1:=hs.len;have h2:=hs.cells;rw[show ByteArray.empty.size=0 from rfl] at h1 h2;rw[show byteCells ByteArray.empty=[] from rfl] at h2;simp[Builtin.append_,run_underlying hu,run_underlying htx,sizeOf,typeInfo,program,Sem.run,hi,hsz1,h1,h2,storeCells]
 ·exact zsf hIT h (by rw[Rep];exact⟨none,0,rfl,⟨le_refl _,fun _=>rfl⟩,.inl rfl,rfl⟩) hy hI
theorem qcs {P:Program} {t tx:TypeId} {a:AV} (h:qad P U t tx y=some (a,U')):U'.out=U.out/\ U'.stop=U.stop:=by
 unfold qad at h;split at h<;>try cases h
 split at h
 ·split at h<;>try cases h
  split at h<;>try cases h
  split at h<;>cases h
  exact⟨rfl,rfl⟩
 ·unfold z6s at h;split at h<;>try cases h
  split at h<;>try cases h
  split at h<;>try cases h
  split at h
  ·cases h;exact⟨rfl,rfl⟩
  ·split at h<;>try cases h
   split at h<;>try cases h
   ·exact⟨rfl,rfl⟩
   ·split at h<;>cases h
    exact⟨rfl,rfl⟩
def ztq:AV->Bool
 | .raw (.slice none 0 0)=>true
 |_=>false
theorem z2k {a:AV} (h:ztq a=true):a= .raw (.slice none 0 0):=by
 unfold ztq at h;split at h
 ·rfl
 ·cases h
def zuw (P:Program)(U:St)(t:TypeId)(x:AV)(no:Bool):Option (AV×St):=
 if no=true then
  match x with
  | .ptr s 0=>match U.boxes[s]?,P.underlying t with
   | some (_,cs),some (.array n e)=>match P.info? e with
    |some i=>if i.size=1/\ cs.length=n then some (.bsl s 0 n 1 true,U) else none
    |none=>none
   |_,_=>none
  |_=>none
 else none
theorem zzl {IT:IterP} {P:Program} {t:TypeId} {x a:AV} {no:Bool} {v:Value} (h:zuw P U t x no=some (a,U'))(hx:Rep IT X x v)(hI:Inv IT U X):
 no=true/\ ∃r,(Instr.sliceAt t v none none none).run P X.w= .ok r X.w/\ U'=U/\ Rep IT X a r:=by
 unfold zuw at h;split at h<;>try cases h
 rename_i hno;refine⟨hno,?_⟩;split at h<;>try cases h
 rename_i s;split at h<;>try cases h
 rename_i tb cs n e hb hu;split at h<;>try cases h
 rename_i i hi;split at h<;>cases h
 rename_i hc;rw[Rep] at hx;obtain⟨b,hk,rfl⟩:=hx;obtain⟨vs,zs,k1,k2,k3⟩:=hI.box s b _ cs hk hb;have hl:=zq k2;have hn:P.arrayLen t=n:=by simp[Program.arrayLen,hu]
 have he:P.elem t=e:=by simp[Program.elem,hu]
 have hrun:=run_sliceAt_array_all (P:=P) X.w t ⟨b,0,none⟩ (by rw[hn,he];exact hu);have hsz:(sizeOf (P.elem t)).run P X.w= .ok i.size X.w:=by rw[he];simp[sizeOf,typeInfo,program,Sem.run,hi]
 rw[hsz] at hrun;simp only[Result.andThen_ok] at hrun;refine⟨_,hrun,rfl,?_⟩;rw[hn,hc.1];refine⟨b,n,(vs++zs).toArray,_,hk,?_,le_refl _,fun _=>rfl,k1,?_⟩
 ·simp[slicedAt];by_cases h0:n=0<;>simp[h0,Addr.add]
 ·simp;omega
theorem z9a {P:Program} {t:TypeId} {x a:AV} {no:Bool} (h:zuw P U t x no=some (a,U')):U'=U:=by
 unfold zuw at h;split at h<;>try cases h
 split at h<;>try cases h
 split at h<;>try cases h
 split at h<;>try cases h
 split at h<;>cases h
 rfl
def ztj (P:Program)(U:St)(s t:TypeId):AV->Option (AV×St)
 | .bsl b 0 n 1 _=>match U.boxes[b]? with
  | some (_,cs)=>match P.underlying s,P.underlying t with
   | some (.slice e),some .string=>match P.underlying e,ztv cs with
    |some (.int .u8),some l=>if l.length=n then some (.raw (.string ⟨l.toArray⟩),U) else none
    |_,_=>none
   |_,_=>none
  |none=>none
 |_=>none
theorem z8a {P:Program} {s t:TypeId} {x a:AV} (h:ztj P U s t x=some (a,U')):U'=U:=by
 unfold ztj at h;split at h<;>try cases h
 split at h<;>try cases h
 split at h<;>try cases h
 split at h<;>try cases h
 split at h<;>cases h
 rfl
theorem zwa {IT:IterP} {P:Program} {s t:TypeId} {x a:AV} {v:Value} (h:ztj P U s t x=some (a,U'))(hx:Rep IT X x v)(hI:Inv IT U X):
 ∃r,(convert s t v).run P X.w= .ok r X.w/\ U'=U/\ Rep IT X a r:=by
 unfold ztj at h;split at h<;>try cases h
 rename_i b n f;split at h<;>try cases h
 rename_i tb cs hb;split at h<;>try cases h
 rename_i e hs ht;split at h<;>try cases h
 rename_i l he hl;split at h<;>cases h
 rename_i hn;subst hn;have hcs:=zwm hl;rw[Rep] at hx;obtain⟨b',cap,cur,t',h1,rfl,h3,h4,h5,h6⟩:=hx;obtain⟨vs,zs,k1,k2,k3⟩:=hI.box b b' _ cs h1 hb;subst hcs;have hus:=zxo k2;subst hus;refine⟨_,Go.run_convert_bytes_back X.w s t e ⟨b',0,none⟩ cap l hs he ht (fun j hj=> ?_),rfl,by rw[Rep]⟩;rw[zfj,cell_of_row _ _ _ _ _ _ k1];simp only[Nat.zero_add,List.getElem?_toArray];rw[List.getElem?_append_left (by simpa using hj)];simp[hj]
theorem zth {IT:IterP} (hIT:ITMono IT) {U:St} {X:Cx} (hI:Inv IT U X)(t:TypeId)(fz:Nat×Nat) {cs:List AV} {vs:List Value} (zs:List Value)(hr:zbr IT X cs vs)(h1: ∀v∈vs,v.oneCell'=true):
 ∃X',X'.w=X.w.alloc (.cells (vs++zs).toArray t fz)/\ Ext X X'/\ Inv IT U X'/\ At IT X' cs X.w.heap.size 0:=by
 have hE:=zsc hI (.cells (vs++zs).toArray t fz) (fun i=>i<vs.length) [] (fun b h=>by simp at h);refine⟨_,rfl,hE,?_,?_⟩
 ·refine {lens:=hI.lens,elems:=hI.elems,κlen:=by simpa using hI.κlen,κnd:=by simpa using hI.κnd,box:= ?_,κF:= ?_,βlen:=hI.βlen,βnd:=hI.βnd,βκ:=by simpa using hI.βκ,row:= ?_,Ok:= ?_,Fcell:= ?_}
  ·intro s b t' c hs hb;have hs':X.κ[s]? =some b:=by simpa using hs
   obtain⟨us,zs',u1,u2,u3⟩:=hI.box s b t' c hs' hb;exact⟨us,zs',(Below.heap_alloc _ _ _ (hI.κlt (mem_of_getElem? hs'))).trans u1,zaw hIT hE _ _ u2,u3⟩
  ·intro s b t' c hs hb hc o hf;have hs':X.κ[s]? =some b:=by simpa using hs
   rcases hf with hf|⟨e,_⟩
   ·exact hI.κF s b t' c hs' hb hc o hf
   ·have:=hI.κlt (mem_of_getElem? hs');omega
  ·intro s r L hr' hL;obtain⟨cur,fz,c1,c2,c3,c4,c5,c6,c7⟩:=hI.row s r L hr' hL;have hlt:=hI.βlt (mem_of_getElem? hr');refine⟨cur,fz,(Below.heap_alloc _ _ _ hlt).trans c1,c2,c3,c4,c5,fun o hf=> ?_,c7⟩;rcases hf with hf|⟨e,_⟩
   ·exact c6 o hf
   ·omega
  ·intro b ho;obtain⟨⟨cs0,t0,f0,h0⟩,h2,h3,h4⟩:=hI.Ok b ho;have hlt:=hI.Olt ho;exact⟨⟨cs0,t0,f0,(Below.heap_alloc _ _ _ hlt).trans h0⟩,by simpa using h2,h3,fun o hf=>hf.elim (h4 o) fun h=>by omega⟩
  ·intro b o hf;rcases hf with hf|⟨e,hf⟩
   ·obtain⟨v,hv⟩:=hI.Fcell b o hf;exact⟨v,(hE.cell b o hf).trans hv⟩
   ·subst e;refine⟨vs[o],?_⟩
    show(X.w.alloc _).cell? _=_
    rw[cell_of_row _ _ _ _ _ _ (zeu _ _ _ rfl),List.getElem?_toArray,List.getElem?_append_left hf];exact getElem?_eq_getElem hf
 ·refine zyh (fun j hj=> .inr ⟨rfl,by omega⟩) h1 (zaw hIT hE _ _ hr) fun j u hu=> ?_
  show(X.w.alloc _).cell? _=_
  have hj:=(List.getElem?_eq_some_iff.1 hu).1;rw[cell_of_row _ _ _ _ _ _ (zeu _ _ _ rfl),Nat.zero_add,List.getElem?_toArray,List.getElem?_append_left hj];exact hu
def qar (P:Program)(U:St)(s t:TypeId):AV->Option (AV×St)
 | .raw (.string b)=>match P.underlying s,P.underlying t with
  | some .string,some (.slice e)=>match P.underlying e with
   |some (.int .u8)=>some (.list b.size ((byteCells b).map AV.raw) .none,U)
   |_=>none
  |_,_=>none
 |_=>none
theorem qgf {P:Program} {s t:TypeId} {x a:AV} (h:qar P U s t x=some (a,U')):U'=U:=by
 unfold qar at h;split at h<;>try cases h
 split at h<;>try cases h
 split at h<;>cases h
 rfl
theorem z2m {IT:IterP} (hIT:ITMono IT) {P:Program} {X:Cx} {U U':St} {s t:TypeId} {x a:AV} {v:Value} (h:qar P U s t x=some (a,U'))(hx:Rep IT X x v)(hI:Inv IT U X):
 ∃r X',(convert s t v).run P X.w= .ok r X'.w/\ Ext X X'/\ Inv IT U' X'/\ Rep IT X' a r:=by
 unfold qar at h;split at h<;>try cases h
 rename_i b;split at h<;>try cases h
 rename_i e hs ht;split at h<;>cases h
 rename_i he;rw[Rep] at hx;subst hx;obtain⟨e1,i1⟩:=zke hIT hI;have hrow:bytesRow b (grownCap X.w b.size 0 e)=(byteCells b++List.replicate (grownCap X.w b.size 0 e-b.size) (Value.int .u8 0)).toArray:=by
  apply Array.ext';simp[bytesRow,byteCells]
 obtain⟨X',k1,k2,k3,k4⟩:=zth hIT i1 e ((bytesRow b (grownCap X.w b.size 0 e)).size,(bytesRow b (grownCap X.w b.size 0 e)).size+1) (cs:=(byteCells b).map AV.raw) (vs:=byteCells b) (List.replicate (grownCap X.w b.size 0 e-b.size) (Value.int .u8 0)) (zjb _) (fun v hv=>by
  obtain⟨c,_,rfl⟩:=mem_map.1 hv;rfl)
 refine⟨.slice (some ⟨X.w.heap.size,0,none⟩) b.size (grownCap X.w b.size 0 e),X',?_,e1.trans k2,k3,?_⟩
 ·rw[run_bytes_of_string X.w s t e b hs ht he,k1,hrow]
 ·exact⟨some ⟨X.w.heap.size,0,none⟩,grownCap X.w b.size 0 e,rfl,⟨grownCap_ge _ _ _ _,fun h=>by cases h⟩,.inr ⟨_,_,rfl,k4⟩,trivial⟩
def aPop (P:Program)(U:St)(t:TypeId)(x:AV)(hi:Option AV)(c:Bool):Option (AV×St):=
 match P.underlying t,x,hi,c with
 | some (.slice e),.bsl s off n sz f,some (.raw (.int k j)),true=>match zdm P e with
  |some sz'=>if sz'=sz/\ j=0 then some (.bsl s off 0 sz false,U) else none
  |none=>none
 |_,_,_,_=>none
theorem qcn {P:Program} {t:TypeId} {x a:AV} {hi:Option AV} (h:aPop P U t x hi c=some (a,U')):U'=U:=by
 unfold aPop at h;split at h<;>try cases h
 split at h<;>try cases h
 split at h<;>cases h
 rfl
theorem z7r {IT:IterP} {P:Program} {t:TypeId} {x a:AV} {v:Value} {hi:Option AV} {hi':Option Value} (h:aPop P U t x hi c=some (a,U'))(hx:Rep IT X x v)(hh:qbb IT X hi hi'):
 c=true/\ ∃r,(Instr.sliceAt t v none hi' none).run P X.w= .ok r X.w/\ U'=U/\ Rep IT X a r:=by
 have hst:=qcn h;unfold aPop at h;split at h<;>try cases h
 rename_i e s off n sz f k j hu;split at h<;>try cases h
 rename_i sz' hsz;split at h<;>cases h
 rename_i hc;obtain⟨rfl,rfl⟩:=hc;rw[Rep] at hx;obtain⟨b,cap,cur,t0,hk,rfl,hcap,hful,hrow,hfit⟩:=hx;have hb:zjr n none (some (.raw (.int k 0))) none=some (0,0,false):=by simp[zjr,zml]
 obtain⟨m,r,b1,b2,b3,b4,b5,b6⟩:=zjw (P:=P) (X:=X) (IT:=IT) hb (lo':=none) rfl hh (mx':=none) rfl hcap;have hm:=b6 rfl;refine⟨rfl,.slice (some ⟨b,off,none⟩) 0 cap,?_,hst,?_⟩
 ·simp only[Instr.sliceAt,Instr.slice,underlying,program,Sem.run,hu,r,zed hsz,Sem.run_bind,Result.andThen_ok,Sem.run_pure];split
  ·rw[hm];rfl
  ·rw[hm];simp[Addr.add]
 ·exact⟨b,cap,cur,t0,hk,rfl,Nat.zero_le _,(fun h=>by cases h),hrow,hfit⟩
def zvm (P:Program)(ρ:Operand->AV)(U:St)(o:Oper):Option (AV×St):=
 match o.op with
 | .buildSlice t n parts=>qgy P U t n (parts.toList.map fun p=>(p.1,ρ p.2))
 | .makeSlice t l c=>match qgw P U t (ρ l) (ρ c) with|some r=>some r|none=>z5j P U t (ρ l) (ρ c)
 | .call c=>match c.callee,c.args.toList,c.argTypes.toList with
  | .builtin .append,[x,y],[t,t']=>if ztq (ρ x)=true then qad P U t t' (ρ y) else match zpv P U t t' (ρ x) (ρ y) with|some r=>some r|none=>z8e P U t t' (ρ x) (ρ y)
  | .builtin .copy,[x,y],[t,t']=>qep P U t (ρ x) (ρ y)
  | .builtin .clear,[x],[t]=>z4d P U t (ρ x)
  |_,_,_=>none
 | .alloc t=>zwq P U t
 | .slice t x lo hi mx=>match zuw P U t (ρ x) (lo.isNone&&hi.isNone&&mx.isNone) with|some r=>some r|none=>aPop P U t (ρ x) (hi.map ρ) (lo.isNone&&mx.isNone)
 | .convert s t x=>match ztj P U s t (ρ x) with|some r=>some r|none=>qar P U s t (ρ x)
 |_=>none
theorem zvg {IT:IterP} (hIT:ITMono IT) {P:Program} {X:Cx} {U U':St} {ρ:Operand->AV} {ρc:Operand->Value} {o:Oper} {a:AV} (h:zvm P ρ U o=some (a,U'))(hρ: ∀x∈o.op.operands,Rep IT X (ρ x) (ρc x))(hI:Inv IT U X):
 Res IT X U' a ((execOp ρc o).run P X.w):=by
 unfold zvm at h;split at h
 ·rename_i t n parts ho;obtain⟨v,X',h1,h2,h3,h4⟩: ∃v X',(Instr.buildSlice t n (parts.map fun(i,x)=>(i,ρc x))).run P X.w= .ok v X'.w/\ Ext X X'/\ Inv IT U' X'/\ Rep IT X' a v:=z3n hIT h (by simpa using zle (IT:=IT) (X:=X) (ρ:=ρ) (ρc:=ρc) parts.toList fun p hp=>hρ p.2 (by rw[ho];simp only[Op.operands,List.mem_toArray,mem_map];exact⟨p,hp,rfl⟩)) hI;exact⟨v,X',.inl (by simp[execOp,ho,h1]),h2,h3,h4⟩
 ·rename_i t l c ho;split at h
  ·rename_i r0 hb;cases h;obtain⟨v,X',h1,h2,h3,h4⟩:=z1o hIT (P:=P) hb (hρ l (by simp[ho,Op.operands])) (hρ c (by simp[ho,Op.operands])) hI;exact⟨v,X',.inl (by simp[execOp,ho,h1]),h2,h3,h4⟩
  ·obtain⟨v,X',h1,h2,h3,h4⟩:=z0a hIT (P:=P) h (hρ l (by simp[ho,Op.operands])) (hρ c (by simp[ho,Op.operands])) hI;exact⟨v,X',.inl (by simp[execOp,ho,h1]),h2,h3,h4⟩
 ·rename_i c ho;split at h<;>try cases h
  rotate_left
  ·rename_i x y t t' hc hargs htys;have e1:c.args= #[x,y]:=by apply Array.ext';simpa using hargs
   have e2:c.argTypes= #[t,t']:=by apply Array.ext';simpa using htys
   obtain⟨r,X',h1,h2,h3,h4⟩:=z3d hIT (P:=P) (tx:=t') (ty:=o.type) h (hρ x (by simp[ho,Op.operands,Call.operands,e1])) (hρ y (by simp[ho,Op.operands,Call.operands,e1])) hI;exact⟨r,X',.inl (by simp[execOp,ho,resolve,hc,invoke,builtin,e1,e2,h1]),h2,h3,h4⟩
  ·rename_i x t hc hargs htys;have e1:c.args= #[x]:=by apply Array.ext';simpa using hargs
   have e2:c.argTypes= #[t]:=by apply Array.ext';simpa using htys
   obtain⟨r,X',h1,h2,h3,h4⟩:=zxv hIT (P:=P) (ty:=o.type) h (hρ x (by simp[ho,Op.operands,Call.operands,e1])) hI;exact⟨r,X',.inl (by simp[execOp,ho,resolve,hc,invoke,builtin,e1,e2,h1]),h2,h3,h4⟩
  rename_i x y t t' hc hargs htys;have e1:c.args= #[x,y]:=by apply Array.ext';simpa using hargs
  have e2:c.argTypes= #[t,t']:=by apply Array.ext';simpa using htys
  split at h
  ·rename_i hn;have hx:=hρ x (by simp[ho,Op.operands,Call.operands,e1]);rw[z2k hn,Rep] at hx;obtain⟨r,X',h1,h2,h3,h4⟩:=z3e hIT (P:=P) (ty:=o.type) h (hρ y (by simp[ho,Op.operands,Call.operands,e1])) hI;rw[<-hx] at h1;exact⟨r,X',.inl (by simp[execOp,ho,resolve,hc,invoke,builtin,e1,e2,h1]),h2,h3,h4⟩
  ·split at h
   ·rename_i r0 hb;cases h;obtain⟨r,X',h1,h2,h3,h4⟩:=z2s hIT (P:=P) (ty:=o.type) hb (hρ x (by simp[ho,Op.operands,Call.operands,e1])) (hρ y (by simp[ho,Op.operands,Call.operands,e1])) hI;exact⟨r,X',.inl (by simp[execOp,ho,resolve,hc,invoke,builtin,e1,e2,h1]),h2,h3,h4⟩
   ·obtain⟨r,X',h1,h2,h3,h4⟩:=z1v hIT (P:=P) (ty:=o.type) h (hρ x (by simp[ho,Op.operands,Call.operands,e1])) (hρ y (by simp[ho,Op.operands,Call.operands,e1])) hI;exact⟨r,X',.inl (by simp[execOp,ho,resolve,hc,invoke,builtin,e1,e2,h1]),h2,h3,h4⟩
 ·rename_i t ho;obtain⟨X',h1,h2,h3,h4⟩:=zvt hIT (P:=P) (old:= .tuple #[]) h hI;exact⟨_,X',.inl (by simp[execOp,ho,h1]),h2,h3,h4⟩
 ·rename_i t x lo hi mx ho;split at h
  ·rename_i r0 hb;cases h;obtain⟨hno,r,h1,rfl,h2⟩:=zzl hb (hρ x (by simp[ho,Op.operands])) hI;simp only[Bool.and_eq_true,Option.isNone_iff_eq_none] at hno;obtain⟨⟨rfl,rfl⟩,rfl⟩:=hno;exact⟨r,X,.inl (by simp[execOp,ho,h1]),Ext.refl X,hI,h2⟩
  ·obtain⟨hno,r,h1,rfl,h2⟩:=z7r (IT:=IT) (X:=X) h (hρ x (by simp[ho,Op.operands])) (hi':=hi.map ρc) (by
    cases hi with
    |none=>rfl
    |some i=>exact⟨_,rfl,hρ i (by simp[ho,Op.operands])⟩)
   simp only[Bool.and_eq_true,Option.isNone_iff_eq_none] at hno;obtain⟨rfl,rfl⟩:=hno;exact⟨r,X,.inl (by simp[execOp,ho,h1]),Ext.refl X,hI,h2⟩
 ·rename_i s t x ho;split at h
  ·rename_i r0 hb;cases h;obtain⟨r,h1,rfl,h2⟩:=zwa hb (hρ x (by simp[ho,Op.operands])) hI;exact⟨r,X,.inl (by simp[execOp,ho,h1]),Ext.refl X,hI,h2⟩
  ·obtain⟨r,X',h1,h2,h3,h4⟩:=z2m hIT h (hρ x (by simp[ho,Op.operands])) hI;exact⟨r,X',.inl (by simp[execOp,ho,h1]),h2,h3,h4⟩
 ·cases h
theorem zur {P:Program} {a:AV} (h:zvm P ρ U o=some (a,U')): ∀c,o.op≠ .defer c:=by
 intro c ho;unfold zvm at h;rw[ho] at h;simp at h
theorem z9s {P:Program} {t tx:TypeId} {x a:AV} (h:zpv P U t tx x y=some (a,U')):U'.out=U.out/\ U'.stop=U.stop:=by
 unfold zpv at h;split at h<;>try cases h
 split at h<;>try cases h
 split at h<;>try cases h
 split at h<;>try cases h
 split at h<;>try cases h
 split at h
 ·split at h<;>cases h
  exact⟨rfl,rfl⟩
 ·split at h<;>try cases h
  split at h<;>try cases h
  split at h
  ·cases h;exact⟨rfl,rfl⟩
  ·split at h<;>cases h
   exact⟨rfl,rfl⟩
 ·cases h
theorem qbt {P:Program} {t tx:TypeId} {x a:AV} (h:z8e P U t tx x y=some (a,U')):U'.out=U.out/\ U'.stop=U.stop:=by
 unfold z8e at h;split at h<;>try cases h
 split at h<;>try cases h
 split at h<;>try cases h
 split at h<;>try cases h
 split at h<;>try cases h
 split at h
 ·cases h;exact⟨rfl,rfl⟩
 ·split at h<;>try cases h
  split at h<;>cases h
  exact⟨rfl,rfl⟩
theorem z4j {P:Program} {a:AV} (h:zvm P ρ U o=some (a,U')):U'.out=U.out/\ U'.stop=U.stop:=by
 unfold zvm at h;split at h
 ·unfold qgy at h;split at h<;>try cases h
  split at h<;>cases h
  exact⟨rfl,rfl⟩
 ·split at h
  ·rename_i r0 hb;cases h;unfold qgw at hb;split at hb<;>try cases hb
   split at hb<;>try cases hb
   split at hb<;>try cases hb
   split at hb<;>try cases hb
   split at hb<;>cases hb
   exact⟨rfl,rfl⟩
  ·unfold z5j at h;split at h<;>try cases h
   split at h<;>try cases h
   split at h<;>try cases h
   split at h<;>try cases h
   split at h<;>cases h
   exact⟨rfl,rfl⟩
 ·split at h<;>try cases h
  rotate_left
  ·unfold qep at h;split at h<;>try cases h
   split at h<;>try cases h
   split at h<;>cases h
   exact⟨rfl,rfl⟩
  ·unfold z4d at h;split at h<;>try cases h
   split at h<;>try cases h
   split at h<;>try cases h
   split at h<;>cases h
   exact⟨rfl,rfl⟩
  split at h
  ·exact qcs h
  split at h
  ·rename_i r0 hb;cases h;exact z9s hb
  ·exact qbt h
 ·unfold zwq at h;split at h<;>try cases h
  split at h<;>try cases h
  split at h<;>cases h
  exact⟨rfl,rfl⟩
 ·split at h
  ·rename_i hb;cases h;rw[z9a hb];exact⟨rfl,rfl⟩
  ·rw[qcn h];exact⟨rfl,rfl⟩
 ·split at h
  ·rename_i hb;cases h;rw[z8a hb];exact⟨rfl,rfl⟩
  ·rw[qgf h];exact⟨rfl,rfl⟩
 ·cases h
theorem val?_map {P:Program} {α β:Type} (s:Sem α)(f:α->Sem β):val? P (s>>=f)=(val? P s).bind fun a=>val? P (f a):=val?_bind s f
theorem z8w {P:Program} {a:AV} (h:qop P ρ U o=some a): ∀c,o.op≠ .defer c:=by
 intro c ho;unfold qop at h;rw[ho] at h;simp only at h;unfold zfs at h;split at h
 ·rw[ho] at h;simp only[execOp,ho,val?_map] at h;cases hr:val? P (resolve (zce ρ) c o.type) with
  |none=>rw[hr] at h;simp at h
  |some d=>rw[hr] at h;simp[val?,Pure.pure] at h
 ·cases h
theorem zsr {P:Program} {a:AV} (h:aop P ρ U o=some (a,U')): ∀c,o.op≠ .defer c:=by
 unfold aop at h;split at h
 ·rename_i b hb;exact z8w hb
 ·intro c ho;rw[ho] at h;simp at h
def zns (P:Program)(ρ:Operand->AV)(o:Oper)(a:AV):Prop:=
 (o.op.operands.toList.all fun x=>(zdv (ρ x)).isSome)=true/\ (∀cs b,o.op≠ .select cs b)/\ (∀c,o.op≠ .defer c)/\ ∃v,(∀w,(execOp (zce ρ) o).run P w= .ok (.value v) w)/\ zou v=true/\ a=zje v
theorem zni {IT:IterP} {P:Program} {ρc:Operand->Value} {a:AV} (h:zns P ρ o a)(hρ: ∀x∈o.op.operands,Rep IT X (ρ x) (ρc x))(hI:Inv IT U X):
 ResQ IT X U a ((execOp ρc o).run P X.w):=by
 obtain⟨hall,hs,_,v,hv,hok,rfl⟩:=h;have hcongr:execOp (zce ρ) o=execOp ρc o:=execOp_congr o hs fun x hx=>by
  have h1:=List.all_eq_true.1 hall x (Array.mem_toList_iff.2 hx);obtain⟨u,hu⟩:=Option.isSome_iff_exists.1 h1;rw[z1b hu (hρ x hx)];simp[zce,hu]
 rw[<-hcongr];exact zcq v (hv _) hI (zhy v hok)
def QopR (P:Program)(ρ:Operand->AV)(U:St)(o:Oper)(a:AV):Prop:=qop P ρ U o=some a \/zns P ρ o a \/ ∃a0,qop P ρ U o=some a0/\ a=zde a0
theorem zuj {IT:IterP} (hIT:ITMono IT) {P:Program} {X:Cx} {U:St} {ρ:Operand->AV} {ρc:Operand->Value} {o:Oper} {a:AV} (h:QopR P ρ U o a)(hρ: ∀x∈o.op.operands,Rep IT X (ρ x) (ρc x))(hI:Inv IT U X):
 ResQ IT X U a ((execOp ρc o).run P X.w):=by
 rcases h with h|h|⟨a0,h,rfl⟩
 ·exact zoo hIT h hρ hI
 ·exact zni h hρ hI
 ·obtain⟨v,X',h1,h2,h3,h4,h5⟩:=zoo hIT h hρ hI;exact⟨v,X',h1,h2,h3,zid (X:=X') (Y:=X') hIT rfl rfl a0 v (.inr rfl) h4,h5⟩
def AopR (P:Program)(ρ:Operand->AV)(U:St)(o:Oper)(a:AV)(U':St):Prop:=aop P ρ U o=some (a,U') \/(U'=U/\ zns P ρ o a) \/zvm P ρ U o=some (a,U') \/(∃a0,aop P ρ U o=some (a0,U')/\ a=zde a0) \/
 -- what it makes is never written again: the row is forgotten at once
 ∃a0 U0 d,(aop P ρ U o=some (a0,U0) \/zvm P ρ U o=some (a0,U0))/\ zdf U0 U.boxes.length []=true/\ zew U0 U.lens.length U.boxes.length [] [] d=U'/\ a=zde (zhl U.lens.length (kz U0.boxes U.lens.length U.boxes.length [] [] d) a0)
theorem zpe {IT:IterP} (hIT:ITMono IT) {P:Program} {X:Cx} {U U':St} {ρ:Operand->AV} {ρc:Operand->Value} {o:Oper} {a:AV} (h:AopR P ρ U o a U')(hρ: ∀x∈o.op.operands,Rep IT X (ρ x) (ρc x))(hI:Inv IT U X):
 Res IT X U' a ((execOp ρc o).run P X.w):=by
 rcases h with h|⟨rfl,h⟩|h|⟨a0,h,rfl⟩|⟨a0,U0,d,h,hok,rfl,rfl⟩
 ·exact zti hIT h hρ hI
 ·obtain⟨v,X',h1,h2,h3,h4,_⟩:=zni h hρ hI;exact⟨v,X',.inl h1,h2,h3,h4⟩
 ·exact zvg hIT h hρ hI
 ·obtain⟨v,X',h1,h2,h3,h4⟩:=zti hIT h hρ hI;exact⟨v,X',h1,h2,h3,zid (X:=X') (Y:=X') hIT rfl rfl a0 v (.inr rfl) h4⟩
 ·obtain⟨v,X',h1,h2,h3,h4⟩:=h.elim (fun h=>zti hIT h hρ hI) (fun h=>zvg hIT h hρ hI);have hl:X.lens.length<=U.lens.length:=by rw[hI.lens];exact le_refl _
  exact⟨v,zdc U0 U.lens.length U.boxes.length [] [] X',h1,zrc h2 h3 hok (Nat.le_of_eq hI.κlen) hl,zre hIT h3 hok d,zid (X:=zdc U0 U.lens.length U.boxes.length [] [] X') (Y:=zdc U0 U.lens.length U.boxes.length [] [] X') hIT rfl rfl _ v (.inr rfl) (zka (X:=X') (Y:=zdc U0 U.lens.length U.boxes.length [] [] X') hIT (fun b o hf=>Or.inl hf) rfl zhu (zom hIT h3 hok d) _ _ h4)⟩
theorem zph {P:Program} {a:AV} (h:AopR P ρ U o a U'): ∀c,o.op≠ .defer c:=h.elim zsr (fun h=>h.elim (fun h=>h.2.2.2.1) (fun h=>h.elim zur fun h=>h.elim (fun⟨_,h,_⟩=>zsr h) fun⟨_,_,_,h,_⟩=>h.elim zsr zur))
def zdn (S:List AV)(o:Oper):Option (FuncId×List AV):=
 match o.op with
 | .call c=>match c.callee with
  | .value f=>match zcb S f with
   | .clos g caps=>some (g,c.args.toList.map (zcb S)++caps)
   |_=>none
  |_=>none
 |_=>none
theorem zgm {IT:IterP} {P:Program} {ρc:Operand->Value} {f:FuncId} {args:List AV} (h:zdn S o=some (f,args))(hρ: ∀x∈o.op.operands,Rep IT X (zcb S x) (ρc x))(hE:Ent P f):
 ∃vs:List Value,(execOp ρc o).run P X.w= .ok (.enter f vs.toArray) X.w/\ zbr IT X args vs:=by
 unfold zdn at h;split at h<;>try cases h
 rename_i c ho;split at h<;>try cases h
 rename_i fo hc;split at h<;>cases h
 rename_i caps hf;have hv:=hρ fo (by simp[ho,Op.operands,Call.operands,hc]);rw[hf,Rep] at hv;obtain⟨us,e,hr⟩:=hv;refine⟨c.args.toList.map ρc++us,?_,zbp (zrj _ fun x hx=>hρ x (by simp[ho,Op.operands,Call.operands,hc];exact .inr (by simpa using hx))) hr⟩;have e2:(c.args.map ρc++us.toArray)=(c.args.toList.map ρc++us).toArray:=by apply Array.ext';simp
 simp[execOp,ho,resolve,hc,e,Deferred.ofValue,invoke,hE _ _]
theorem zmq {r:FuncId×List AV} (h:zdn S o=some r): ∀c,o.op≠ .defer c:=by
 intro c ho;unfold zdn at h;rw[ho] at h;simp at h
def zdw (S:List AV)(o:Oper):Option (Nat×List AV):=
 match o.op with
 | .call c=>match c.callee with
  | .value f=>match zcb S f with
   | .yld l=>some (l,c.args.toList.map (zcb S))
   |_=>none
  |_=>none
 |_=>none
theorem zzz {IT:IterP} {P:Program} {ρc:Operand->Value} {l:Nat} {args:List AV} (h:zdw S o=some (l,args))(hρ: ∀x∈o.op.operands,Rep IT X (zcb S x) (ρc x)):
 ∃vs:List Value,execOp ρc o=Instr.yield l vs.toArray/\ zbr IT X args vs:=by
 unfold zdw at h;split at h<;>try cases h
 rename_i c ho;split at h<;>try cases h
 rename_i fo hc;split at h<;>cases h
 rename_i hf;have hv:=hρ fo (by simp[ho,Op.operands,Call.operands,hc]);rw[hf,Rep] at hv;refine⟨c.args.toList.map ρc,?_,zrj _ fun x hx=>hρ x (by simp[ho,Op.operands,Call.operands,hc];exact .inr (by simpa using hx))⟩;have e2:c.args.map ρc=(c.args.toList.map ρc).toArray:=by apply Array.ext';simp
 simp[execOp,ho,resolve,hc,hv,Deferred.ofValue,invoke,e2]
theorem zzg {r:Nat×List AV} (h:zdw S o=some r): ∀c,o.op≠ .defer c:=by
 intro c ho;unfold zdw at h;rw[ho] at h;simp at h
structure Frn where
 O:Nat->Prop
 C:Nat->Nat->Prop
structure Moved (B:Nat)(N:Nat->Prop)(s:Frn)(W W':World):Prop where
 os:W'.os=W.os
 tape:W'.tape=W.tape
 output:W'.output=W.output
 size:W.heap.size<=W'.heap.size
 drawn:drn W<=drn W'
 low: ∀k,k<B-> ¬N k->W'.heap[k]? =W.heap[k]?
 blk: ∀k,s.O k->W'.heap[k]? =W.heap[k]?
 cell: ∀(b o:Nat) v,s.C b o->W.cell? ⟨b,o,none⟩=some v->W'.cell? ⟨b,o,none⟩=some v
 szs:Szs W W'
structure Kept (B:Nat)(N:Nat->Prop)(s s':Frn)(F1:Nat->Nat->Prop)(W W':World):Prop where
 os:W'.os=W.os
 tape:W'.tape=W.tape
 output:W'.output=W.output
 size:W.heap.size<=W'.heap.size
 drawn:drn W<=drn W'
 own: ∀(k:Nat) o,(B<=k \/N k)-> ¬s.O k->W.heap[k]? =some o->W'.heap[k]? =some o
 cell: ∀(b o:Nat),F1 b o->W'.cell? ⟨b,o,none⟩=W.cell? ⟨b,o,none⟩
 O: ∀b,s'.O b->(s.O b \/W.heap.size<=b)/\ ∃cs t f,W'.heap[b]? =some (.cells cs t f)
 Cmono: ∀(b o:Nat),s.C b o->s'.C b o
 C: ∀(b o:Nat),s'.C b o->(s.C b o \/F1 b o \/s.O b \/W.heap.size<=b)/\ b<W'.heap.size
 szs:Szs W W'
structure Gen where
 B:Nat
 F0:Nat->Nat->Prop
 l:Nat
 rows:List (List AV)
 J:Nat->Frn->World->Prop
 Jx:Frn->World->Prop
 /-- Blocks that were there and are the iterator's own. -/
 own:Nat->Prop
def noIT:IterP:=⟨fun _ _ _=>False,fun _ _=>True⟩
structure GenOk (P:Program)(G:Gen):Prop where
 hJ: ∀k s W W',G.J k s W->G.B<=W.heap.size->Moved G.B G.own s W W'->G.J k s W'
 hJx: ∀s W W',G.Jx s W->G.B<=W.heap.size->Moved G.B G.own s W W'->G.Jx s W'
 rounds: ∀(k:Nat) (s:Frn) (W:World) (row:List AV) (us:List Value) (F1:Nat->Nat->Prop),G.rows[k]? =some row->G.J k s W->G.B<=W.heap.size->(∀b o,F1 b o->G.F0 b o \/G.B<=b \/G.own b)->(∀b o,F1 b o->(¬s.O b \/s.C b o)/\ ∃v,W.cell? ⟨b,o,none⟩=some v)->
  zbr noIT ⟨F1,[],[],[],W,fun _=>False,fun _ _=>False⟩ row us->
  Fwd.Yields P G.l us.toArray W fun e W'=> ∃s',Kept G.B G.own s s' F1 W W'/\ ((e= .returned (.bool true)/\ G.J (k+1) s' W') \/(e= .returned (.bool false)/\ G.Jx s' W'))
def Fr (G:Gen)(U:St)(X:Cx):Prop:=
 ∃ s:Frn,(∀b,s.O b↔X.O b)/\ ((∀b o,s.C b o↔X.C b o)/\ ∀b o,s.C b o->X.F b o \/(b<X.w.heap.size/\ b∉X.κ/\ ∀r∈X.β,r.block≠b))/\ (if U.stop=true then G.Jx s X.w else G.J U.out s X.w)/\ G.B<=X.w.heap.size/\
  (∀b∈X.κ,G.B<=b \/G.own b)/\ (∀r∈X.β,G.B<=r.block)/\ ∀b o,X.F b o->G.F0 b o \/G.B<=b \/G.own b
structure ExtG (B:Nat)(X X':Cx):Prop extends Sub X X' where
 os:X'.w.os=X.w.os
 tape:X'.w.tape=X.w.tape
 output:X'.w.output=X.w.output
 size:X.w.heap.size<=X'.w.heap.size
 drawn:drn X.w<=drn X'.w
 κnew: ∀b∈X'.κ,b∈X.κ \/X.w.heap.size<=b
 βnew: ∀r∈X'.β,(∃q∈X.β,q.block=r.block) \/X.w.heap.size<=r.block
 Onew: ∀b,X'.O b->X.O b \/X.w.heap.size<=b
 Fnew: ∀(b o:Nat),X'.F b o->X.F b o \/X.w.heap.size<=b \/(∃q∈X.β,q.block=b) \/b∈X.κ
 Cmono: ∀(b o:Nat),X.C b o->X'.C b o
 Cnew: ∀(b o:Nat),X'.C b o->X.C b o \/X.F b o \/X.O b \/X.w.heap.size<=b \/(∃q∈X.β,q.block=b) \/b∈X.κ
 frame: ∀(k:Nat) o,X.w.heap[k]? =some o->B<=k->k∉X.κ->(∀r∈X.β,r.block≠k)-> ¬X.O k->X'.w.heap[k]? =some o
theorem Sub.trans (h:Sub X Y)(k:Sub Y Z):Sub X Z where
 F:=fun b o hf=>k.F b o (h.F b o hf)
 cell:=fun b o hf=>(k.cell b o (h.F b o hf)).trans (h.cell b o hf)
 κ:=fun s b hs=>k.κ s b (h.κ s b hs)
 lens:=fun s L hs=>by
  obtain⟨L1,h1,h2,h3⟩:=h.lens s L hs;obtain⟨L2,k1,k2,k3⟩:=k.lens s L1 h1;exact⟨L2,k1,le_trans h2 k2,fun e=>by
   have e1:L2=L1:=by omega
   have e2:L1=L:=by omega
   rw[k3 e1,h3 e2]⟩
 blk:=fun s b hs cur t f hc=>by
  obtain⟨c1,h1,h2⟩:=h.blk s b hs cur t f hc;obtain⟨c2,k1,k2⟩:=k.blk s b (h.κ s b hs) c1 t f h1;exact⟨c2,k1,k2.trans h2⟩
 szs:=h.szs.trans k.szs
theorem ExtG.trans {B:Nat} (h:ExtG B X Y)(k:ExtG B Y Z):ExtG B X Z where
 toSub:=h.toSub.trans k.toSub
 os:=k.os.trans h.os
 tape:=k.tape.trans h.tape
 output:=k.output.trans h.output
 size:=le_trans h.size k.size
 drawn:=le_trans h.drawn k.drawn
 κnew:=fun b hb=>by
  rcases k.κnew b hb with h1|h1
  ·exact h.κnew b h1
  ·exact .inr (le_trans h.size h1)
 βnew:=fun r hr=>by
  rcases k.βnew r hr with⟨q,hq,e⟩|h1
  ·rcases h.βnew q hq with⟨p,hp,e'⟩|h2
   ·exact .inl ⟨p,hp,e'.trans e⟩
   ·exact .inr (e▸h2)
  ·exact .inr (le_trans h.size h1)
 Onew:=fun b hb=>by
  rcases k.Onew b hb with h1|h1
  ·exact h.Onew b h1
  ·exact .inr (le_trans h.size h1)
 Fnew:=fun b o hf=>by
  rcases k.Fnew b o hf with h1|h1|⟨q,hq,e⟩|h1
  ·exact h.Fnew b o h1
  ·exact .inr (.inl (le_trans h.size h1))
  ·rcases h.βnew q hq with⟨p,hp,e'⟩|h2
   ·exact .inr (.inr (.inl ⟨p,hp,e'.trans e⟩))
   ·exact .inr (.inl (e▸h2))
  ·rcases h.κnew b h1 with h2|h2
   ·exact .inr (.inr (.inr h2))
   ·exact .inr (.inl h2)
 Cmono:=fun b o hc=>k.Cmono b o (h.Cmono b o hc)
 Cnew:=fun b o hf=>by
  rcases k.Cnew b o hf with h1|h1|h1|h1|⟨q,hq,e⟩|h1
  ·exact h.Cnew b o h1
  ·rcases h.Fnew b o h1 with h2|h2|h2
   ·exact .inr (.inl h2)
   ·exact .inr (.inr (.inr (.inl h2)))
   ·exact .inr (.inr (.inr (.inr h2)))
  ·rcases h.Onew b h1 with h2|h2
   ·exact .inr (.inr (.inl h2))
   ·exact .inr (.inr (.inr (.inl h2)))
  ·exact .inr (.inr (.inr (.inl (le_trans h.size h1))))
  ·rcases h.βnew q hq with⟨p,hp,e'⟩|h2
   ·exact .inr (.inr (.inr (.inr (.inl ⟨p,hp,e'.trans e⟩))))
   ·exact .inr (.inr (.inr (.inl (e▸h2))))
  ·rcases h.κnew b h1 with h2|h2
   ·exact .inr (.inr (.inr (.inr (.inr h2))))
   ·exact .inr (.inr (.inr (.inl h2)))
 frame:=fun x o hx hB hκ hβ hO=>by
  have hlt:=(Array.getElem?_eq_some_iff.1 hx).1;refine k.frame x o (h.frame x o hx hB hκ hβ hO) hB (fun hm=> ?_) (fun r hr e=> ?_) (fun ho=> ?_)
  ·rcases h.κnew x hm with h1|h1
   ·exact hκ h1
   ·omega
  ·rcases h.βnew r hr with⟨q,hq,e'⟩|h1
   ·exact hβ q hq (e'.trans e)
   ·omega
  ·rcases h.Onew x ho with h1|h1
   ·exact hO h1
   ·omega
theorem Ext.toG (B:Nat)(h:Ext X X'):ExtG B X X' where
 toSub:=h.toSub
 os:=h.os
 tape:=h.tape
 output:=h.output
 size:=h.size
 drawn:=h.drawn
 κnew:=h.κnew
 βnew:=h.βnew
 Onew:=fun b hb=> .inl (by rw[h.O] at hb;exact hb)
 Fnew:=h.Fnew
 Cmono:=fun b o hc=>by rw[h.C];exact hc
 Cnew:=fun b o hc=> .inl (by rw[h.C] at hc;exact hc)
 frame:=fun k o hk _ hκ hβ _=>(h.frame k (Array.getElem?_eq_some_iff.1 hk).1 hκ hβ).trans hk
def Rel:Option Gen->Cx->Cx->Prop
 |none,X,X'=>Ext X X'
 |some G,X,X'=>ExtG G.B X X'
def FrM:Option Gen->St->Cx->Prop
 |none,_,_=>True
 |some G,U,X=>Fr G U X
def zdp (M:Option Gen):Option Gen:=M
def zri (P:Program)(B:Nat):Option Gen->Prop
 |none=>True
 |some G=>GenOk P G/\ G.B<=B
theorem Rel.of {M:Option Gen} (h:Ext X X'):Rel M X X':=by cases M with|none=>exact h|some G=>exact h.toG _
theorem Rel.trans {M:Option Gen} (h:Rel M X Y)(k:Rel M Y Z):Rel M X Z:=by cases M with|none=>exact Ext.trans h k|some G=>exact ExtG.trans h k
theorem Rel.sub {M:Option Gen} (h:Rel M X Y):Sub X Y:=by cases M with|none=>exact Ext.toSub h|some G=>exact ExtG.toSub h
theorem Rel.size {M:Option Gen} (h:Rel M X Y):X.w.heap.size<=Y.w.heap.size:=by cases M with|none=>exact Ext.size h|some G=>exact ExtG.size h
theorem Fr.ext {IT:IterP} {P:Program} {G:Gen} (hG:GenOk P G) {U0 U U':St} {X X':Cx} (h:Fr G U X)(hE:Ext X X')(hI:Inv IT U0 X)(ho:U'.out=U.out)(hs:U'.stop=U.stop):Fr G U' X':=by
 obtain⟨s,h1,h2,h3,h4,h5,h6,h7⟩:=h
 have hmv:Moved G.B G.own s X.w X'.w:={
  os:=hE.os,tape:=hE.tape,output:=hE.output,size:=hE.size,drawn:=hE.drawn
  low:=fun k hk hN=>hE.frame k (Nat.lt_of_lt_of_le hk h4) (fun hm=>by have:=(h5 k hm).resolve_right hN;omega) (fun r hr e=>by have:=h6 r hr;omega)
  blk:=fun k hk=>by
   obtain⟨_,k2,k3,_⟩:=hI.Ok k ((h1 k).1 hk);exact hE.frame k (hI.Olt ((h1 k).1 hk)) k2 k3
  cell:=fun b o v hc hv=>by
   rcases h2.2 b o hc with hf|⟨k1,k2,k3⟩
   ·exact(hE.cell b o hf).trans hv
   ·exact(World.cell?_of_block (hE.frame b k1 k2 k3)).trans hv
  szs:=hE.szs}
 refine⟨s,fun b=>by rw[hE.O];exact h1 b,⟨fun b o=>by rw[hE.C];exact h2.1 b o,fun b o hc=> ?_⟩,?_,le_trans h4 hE.size,fun b hb=> ?_,fun r hr=> ?_,fun b o hf=> ?_⟩
 ·rcases h2.2 b o hc with hf|⟨k1,k2,k3⟩
  ·exact .inl (hE.F b o hf)
  ·refine .inr ⟨Nat.lt_of_lt_of_le k1 hE.size,fun hm=> ?_,fun r hr e=> ?_⟩
   ·rcases hE.κnew b hm with h|h
    ·exact k2 h
    ·omega
   ·rcases hE.βnew r hr with⟨q,hq,e'⟩|h
    ·exact k3 q hq (e'.trans e)
    ·omega
 ·rw[hs,ho];split
  ·rename_i hst;rw[if_pos hst] at h3;exact hG.hJx s _ _ h3 h4 hmv
  ·rename_i hst;rw[if_neg hst] at h3;exact hG.hJ _ s _ _ h3 h4 hmv
 ·rcases hE.κnew b hb with h|h
  ·exact h5 b h
  ·exact .inl (by omega)
 ·rcases hE.βnew r hr with⟨q,hq,e'⟩|h
  ·rw[<-e'];exact h6 q hq
  ·omega
 ·rcases hE.Fnew b o hf with h|h|⟨q,hq,e⟩|h
  ·exact h7 b o h
  ·exact .inr (.inl (le_trans h4 h))
  ·exact .inr (.inl (e▸h6 q hq))
  ·exact .inr (h5 b h)
theorem FrM.ext {IT:IterP} {P:Program} {B:Nat} {M:Option Gen} (hG:zri P B M) {U0 U U':St} {X X':Cx} (h:FrM M U X)(hE:Ext X X')(hI:Inv IT U0 X)(ho:U'.out=U.out)(hs:U'.stop=U.stop):FrM M U' X':=by
 cases M with
 |none=>trivial
 |some G=>exact Fr.ext hG.1 h hE hI ho hs
mutual
def zkk:AV->Bool
 | .agg cs=>zcm cs
 | .tup cs=>zcm cs
 | .list _ cs _=>zcm cs
 | .iptr cs=>zcm cs
 | .clos _ cs=>zcm cs
 | .iter _=>false
 | .ptr _ _=>true
 | .bsl _ _ _ _ _=>true
 | .yld _=>true
 | .raw _=>true
 | .top=>true
 | .bad=>true
def zcm:List AV->Bool
 |[]=>true
 |a::l=>zkk a&&zcm l
end
mutual
theorem zum {IT IT':IterP}: ∀(a:AV) (v:Value),zkk a=true->Rep IT X a v->Rep IT' X a v
 | .raw u,v,_,hr=>hr
 | .agg cs,v,ho,⟨vs,e,hr,h1⟩=>⟨vs,e,zhr cs vs (by simpa[zkk] using ho) hr,h1⟩
 | .tup cs,v,ho,⟨vs,e,hr⟩=>⟨vs,e,zhr cs vs (by simpa[zkk] using ho) hr⟩
 | .list m cs st,v,ho,⟨a,cap,e,hcap,hc,hs⟩=>⟨a,cap,e,hcap,hc.imp id fun⟨b,o,e1,e2⟩=>⟨b,o,e1,ztg cs b o (by simpa[zkk] using ho) e2⟩,hs⟩
 | .ptr s off,v,_,hr=>hr
 | .bsl s off n sz f,v,_,hr=>hr
 | .iptr cs,v,ho,⟨b,o,e,hc⟩=>⟨b,o,e,ztg cs b o (by simpa[zkk] using ho) hc⟩
 | .clos f caps,v,ho,⟨vs,e,hr⟩=>⟨vs,e,zhr caps vs (by simpa[zkk] using ho) hr⟩
 | .iter xs,v,ho,_=>by simp[zkk] at ho
 | .yld _,_,_,hr=>hr
 | .top,_,_,hr=>hr
 | .bad,_,_,hr=>hr
theorem zhr {IT IT':IterP}: ∀(l:List AV) (vs:List Value),zcm l=true->zbr IT X l vs->zbr IT' X l vs
 |[],_,_,hr=>hr
 | a::l,vs,ho,⟨v,r,e,h1,h2⟩=>by
  rw[zcm,Bool.and_eq_true] at ho;exact⟨v,r,e,zum a v ho.1 h1,zhr l r ho.2 h2⟩
theorem ztg {IT IT':IterP}: ∀(cs:List AV) (b o:Nat),zcm cs=true->At IT X cs b o->At IT' X cs b o
 |[],_,_,_,_=>trivial
 | c::cs,b,o,ho,⟨⟨hf,v,hv,h1,hr⟩,ht⟩=>by
  rw[zcm,Bool.and_eq_true] at ho;exact⟨⟨hf,v,hv,h1,zum c v ho.1 hr⟩,ztg cs b (o+1) ho.2 ht⟩
end
def zy (S:List AV)(d:Option Tmp)(x:AV):List AV:=match d with|some t=>S.set t x|none=>S
def zdu (ops:Array Oper)(S:List AV)(k:Nat):Option (Option Bool):=
 match(ops[k]?).bind (·.dst) with
 | some d=>match S[d]? with
  |some (.raw (.bool c))=>some (some c)
  |some (.raw _)=>some none
  |_=>none
 |none=>none
def zxl (P:Program)(ρ:Operand->AV)(o:Oper)(n:Nat)(neg:Bool):Prop:=
 ∃op t x c e,o.op= .binOp op t x (.const (.slice none 0 0)) c/\ (op= .eql/\ neg=false \/op= .neq/\ neg=true)/\ P.underlying t=some (.slice e)/\ ((∃cs st,ρ x= .list n cs st) \/(∃s off m sz f,ρ x= .bsl s off m sz f)/\ n=1)
def z8u (P:Program)(ρ:Operand->AV)(o:Oper)(n:Nat)(neg:Bool):Prop:=
 ∃op t x c ms,o.op= .binOp op t x (.const .nilIface) c/\ (op= .eql/\ neg=false \/op= .neq/\ neg=true)/\ P.underlying t=some (.interface ms)/\ ρ x= .err/\ n=1
theorem zyt {IT:IterP} (hIT:ITMono IT) {P:Program} {X:Cx} {ρ:Operand->AV} {ρc:Operand->Value} {o:Oper} {n:Nat} {neg:Bool} (h:z8u P ρ o n neg)(hρ: ∀x∈o.op.operands,Rep IT X (ρ x) (ρc x))(hE:Env ρc):
 ∃t,(execOp ρc o).run P X.w= .ok (.value (.bool t)) X.w/\ (t=neg \/n=0/\ t= !neg):=by
 obtain⟨op,t,x,c,ms,ho,hop,hu,hx,rfl⟩:=h;have hv:=hρ x (by simp[ho,Op.operands]);rw[hx,Rep] at hv;obtain⟨tt,p,hb⟩:=hIT.err _ _ hv;have heq: ∀w,(Op.equalIn 10000 t (.iface tt p) .nilIface).run P w= .ok false w:=fun w=>by
  rw[show(10000:Nat)=9999+1 from rfl,Op.equalIn];simp[run_underlying hu]
 refine⟨neg,?_,.inl rfl⟩;rcases hop with⟨rfl,rfl⟩|⟨rfl,rfl⟩
 ·simp[execOp,ho,eqGuard,binOp,hb,hE.const,Op.equal,Op.maxDepth,heq]
 ·simp[execOp,ho,eqGuard,binOp,hb,hE.const,Op.equal,Op.maxDepth,heq]
theorem z0k {P:Program} {neg:Bool} (h:z8u P ρ o n neg): ∀c,o.op≠ .defer c:=by
 obtain⟨op,t,x,c,e,ho,_⟩:=h;intro c h;rw[ho] at h;cases h
theorem zww {IT:IterP} {P:Program} {ρc:Operand->Value} {neg:Bool} (h:zxl P ρ o n neg)(hρ: ∀x∈o.op.operands,Rep IT X (ρ x) (ρc x))(hE:Env ρc):
 ∃t,(execOp ρc o).run P X.w= .ok (.value (.bool t)) X.w/\ (t=neg \/n=0/\ t= !neg):=by
 obtain⟨op,t,x,c,e,ho,hop,hu,hx⟩:=h;have hv:=hρ x (by simp[ho,Op.operands]);obtain⟨b,m,cap,hb,hn⟩: ∃b m cap,ρc x= .slice b m cap/\ (b=none->n=0):=by
  rcases hx with⟨cs,st,hx⟩|⟨⟨s,off,m,sz,f,hx⟩,rfl⟩
  ·rw[hx,Rep] at hv;obtain⟨a,cap,e,⟨h1,h2⟩,_⟩:=hv;exact⟨a,n,cap,e,fun hn=>by have:=h2 hn;omega⟩
  ·rw[hx,Rep] at hv;obtain⟨b,cap,cur,t0,_,e,_⟩:=hv;exact⟨_,_,_,e,fun hn=>by cases hn⟩
 have heq: ∀w,(Op.equalIn 10000 t (.slice b m cap) (.slice none 0 0)).run P w= .ok b.isNone w:=fun w=>by
  rw[show(10000:Nat)=9999+1 from rfl,Op.equalIn];cases b<;>simp[run_underlying hu]
 refine⟨if neg then !b.isNone else b.isNone,?_,?_⟩
 ·rcases hop with⟨rfl,rfl⟩|⟨rfl,rfl⟩
  ·simp[execOp,ho,eqGuard,binOp,hb,hE.const,Op.equal,Op.maxDepth,heq]
  ·simp[execOp,ho,eqGuard,binOp,hb,hE.const,Op.equal,Op.maxDepth,heq]
 ·cases b with
  |none=>right;refine⟨hn rfl,?_⟩;cases neg<;>rfl
  |some a=>left;cases neg<;>rfl
theorem zwx {P:Program} {neg:Bool} (h:zxl P ρ o n neg): ∀c,o.op≠ .defer c:=by
 obtain⟨op,t,x,c,e,ho,_⟩:=h;intro c h;rw[ho] at h;cases h
def SndG (IT:IterP)(P:Program)(G:Gen)(f:FuncId)(args:List AV)(U:St)(r:AV)(U':St):Prop:=
 Ent P f/\ ∀(X:Cx) (vs:List Value),Inv IT U X->zbr IT X args vs->Fr G U X->Calls P f vs.toArray X.w fun e w'=> ∃v X',e= .returned v/\ X'.w=w'/\ ExtG G.B X X'/\ Inv IT U' X'/\ Rep IT X' r v/\ Fr G U' X'
abbrev Owed:=Option Gen
def CallTo (IT:IterP)(P:Program)(W:Owed)(f:FuncId)(args:List AV)(U:St)(r:AV)(U':St):Prop:=
 (Snd IT P f args U r U'/\ U'.out=U.out/\ U'.stop=U.stop) \/(U'=U/\ zaf 0 args=true/\ Pure IT P f (stripL args) r) \/(U'=U/\ ztp r=true/\ ∃n,Pure IT P f (zct (frz U.boxes n) args) r) \/ ∃G,W=some G/\ SndG IT P G f args U r U'
def zgc (IT:IterP)(P:Program)(W:Owed)(o:Oper)(S:List AV)(U:St)(K:AV->St->Prop):Prop:=
 match zdn S o with
 |some (f,args)=> ∃r U',CallTo IT P W f args U r U'/\ K r U'
 | none=>match zdw S o with
  |some (l,args)=> ∃G row,W=some G/\ G.l=l/\ G.rows[U.out]? =some row/\ stripL args=row/\ zaf 0 args=true/\ zcm args=true/\ U.stop=false/\ K (.raw (.bool true)) {U with out:=U.out+1}/\ K (.raw (.bool false)) {U with stop:=true}
  |none=>(∃a U',AopR P (zcb S) U o a U'/\ K a U') \/(∃n neg,(zxl P (zcb S) o n neg \/z8u P (zcb S) o n neg)/\ (n=0->K (.raw (.bool (!neg))) U)/\ K (.raw (.bool neg)) U)
def zcs (IT:IterP)(P:Program)(W:Owed)(ops:Array Oper)(Q:List AV->St->Prop):List Oper->List AV->St->Prop
 |[],S,U=>Q S U
 | o::l,S,U=>match o.guard with
  |none=>zgc IT P W o S U fun a U'=>zcs IT P W ops Q l (zy S o.dst a) U'
  |some (k,b)=> ∃c,zdu ops S k=some c/\ (if c=some b then zgc IT P W o S U fun a U'=>zcs IT P W ops Q l (zy S o.dst a) U' else zcs IT P W ops Q l (zy S o.dst (.raw undef)) U)
def Marks (B:Nat)(ds:List Deferred)(w:World):Prop:=B<=w.heap.size/\ ∃Ds:List Nat,ds=Ds.map (fun D=>{target:= .collected D,args:= #[]})/\ Ds.Nodup/\ ∀D∈Ds,B<=D/\ w.heap[D]? =some (.deferred (some []))
theorem Ext.noncells {IT:IterP} (h:Ext X X')(hI:Inv IT U X) {k:Nat} {o:Obj} (hk:X.w.heap[k]? =some o)(ho:o.isCells=false):X'.w.heap[k]? =some o:=by
 refine(h.frame k (Array.getElem?_eq_some_iff.1 hk).1 (fun hm=> ?_) (fun r hr e=> ?_)).trans hk
 ·obtain⟨s,hs,rfl⟩:=mem_iff_getElem.1 hm;have hl:=hI.κlen;obtain⟨vs,zs,h1,_⟩:=hI.box s X.κ[s] (U.boxes[s]'(by omega)).1 (U.boxes[s]'(by omega)).2 (by simp[hs]) (by rw[getElem?_eq_getElem (by omega)]);rw[hk] at h1;cases h1;cases ho
 ·obtain⟨s,hs,rfl⟩:=mem_iff_getElem.1 hr;have hl:=hI.βlen;obtain⟨cur,fz,h1,_⟩:=hI.row s X.β[s] (X.lens[s]'(by omega)) (by simp[hs]) (by rw[getElem?_eq_getElem (by omega)]);rw[e,hk] at h1;cases h1;cases ho
theorem Marks.ext {IT:IterP} {B:Nat} {ds:List Deferred} (h:Marks B ds X.w)(hE:Ext X X')(hI:Inv IT U X):Marks B ds X'.w:=by
 obtain⟨h0,Ds,h1,h2,h3⟩:=h;exact⟨le_trans h0 hE.size,Ds,h1,h2,fun D hD=>⟨(h3 D hD).1,hE.noncells hI (h3 D hD).2 rfl⟩⟩
def DM (F:Fence)(B:Nat)(ds:List Deferred)(w:World):Prop:=B<=w.heap.size/\ (F=Fence.wide->Marks B ds w)/\ (F≠Fence.wide->ds=[])
theorem DM.ext {IT:IterP} {F:Fence} {B:Nat} {ds:List Deferred} (h:DM F B ds X.w)(hE:Ext X X')(hI:Inv IT U X):DM F B ds X'.w:=⟨le_trans h.1 hE.size,fun e=>(h.2.1 e).ext hE hI,h.2.2⟩
structure Now (IT:IterP)(M:Option Gen)(F:Fence)(B:Nat)(X0:Cx)(S:List AV)(U:St)(X:Cx)(a:Act):Prop where
 ext:Rel M X0 X
 inv:Inv IT U X
 reps:zma IT X S a.tmps
 marks:DM F B a.defers X.w
 frn:FrM M U X
theorem Now.from {IT:IterP} {M:Option Gen} {F:Fence} {B:Nat} {a:Act} (h:Now IT M F B X0 S U X a):Now IT M F B X S U X a:=⟨Rel.of (Ext.refl X),h.inv,h.reps,h.marks,h.frn⟩
theorem Now.back {IT:IterP} {M:Option Gen} {F:Fence} {B:Nat} {S':List AV} {a a':Act} (h:Now IT M F B X0 S U X a)(k:Now IT M F B X S' U' X' a'):Now IT M F B X0 S' U' X' a':=⟨h.ext.trans k.ext,k.inv,k.reps,k.marks,k.frn⟩
theorem zch {IT:IterP} {P:Program} {M:Option Gen} {F:Fence} {B:Nat} (hG:zri P B M)(hIT:ITMono IT) {X0 X X':Cx} {S:List AV} {U U':St} {a:Act} (h:Now IT M F B X0 S U X a)(hE:Ext X X')(hI:Inv IT U' X')(ho:U'.out=U.out/\ U'.stop=U.stop)(d:Option Tmp) {x:AV} {v:Value} (hx:Rep IT X' x v):Now IT M F B X0 (zy S d x) U' X' (a.put d v) where
 ext:=h.ext.trans (Rel.of hE)
 inv:=hI
 reps:=zod (show zma IT X' S a.tmps from zaw hIT hE _ _ h.reps) d hx
 marks:=by
  have:(a.put d v).defers=a.defers:=Act.defers_put a d v;rw[this];exact h.marks.ext hE h.inv
 frn:=FrM.ext hG h.frn hE h.inv ho.1 ho.2
theorem z3s {t:TypeId} {x a:AV} (h:aBox U t x=some (a,U')):U'.out=U.out/\ U'.stop=U.stop:=by
 unfold aBox at h;split at h<;>cases h
 exact⟨rfl,rfl⟩
theorem zpd {P:Program} {a:AV} (h:AopR P ρ U o a U'):U'.out=U.out/\ U'.stop=U.stop:=by
 have key: ∀U',(∃a,aop P ρ U o=some (a,U'))->U'.out=U.out/\ U'.stop=U.stop:=by
  rintro U' ⟨a,h⟩;unfold aop at h;split at h
  ·cases h;exact⟨rfl,rfl⟩
  ·split at h
   ·unfold zqo at h;split at h<;>try cases h
    split at h<;>try cases h
    split at h<;>try cases h
    exact z3s h
   ·exact z3s h
   ·split at h<;>cases h
    rename_i hs;unfold zop at hs;split at hs<;>try cases hs
    split at hs<;>try cases hs
    split at hs<;>cases hs
    exact⟨rfl,rfl⟩
   ·split at h<;>try cases h
    split at h
    rotate_left
    ·unfold z6s at h;split at h<;>try cases h
     split at h<;>try cases h
     split at h<;>try cases h
     split at h
     ·cases h;exact⟨rfl,rfl⟩
     ·split at h<;>try cases h
      split at h<;>try cases h
      ·exact⟨rfl,rfl⟩
      ·split at h<;>cases h
       exact⟨rfl,rfl⟩
    unfold zft at h;split at h<;>try cases h
    split at h<;>try cases h
    split at h<;>try cases h
    split at h
    ·cases h;exact⟨rfl,rfl⟩
    ·split at h<;>try cases h
     split at h<;>try cases h
     ·exact⟨rfl,rfl⟩
     ·split at h<;>cases h
      exact⟨rfl,rfl⟩
   ·cases h
 rcases h with h|⟨rfl,_⟩|h|⟨a0,h,_⟩|⟨a0,U0,d,h,_,rfl,_⟩
 ·exact key _ ⟨_,h⟩
 ·exact⟨rfl,rfl⟩
 ·exact z4j h
 ·exact key _ ⟨_,h⟩
 ·exact h.elim (fun h=>key U0 ⟨_,h⟩) (fun h=>show U0.out=U.out/\ U0.stop=U.stop from z4j h)
theorem qbr {IT:IterP} (hIT:ITMono IT) {P:Program} {G:Gen} {U:St} {X:Cx} {s s':Frn} {W':World} (hs: ∀b,s.O b↔X.O b)(hC0: ∀b o,s.C b o↔X.C b o)(hC: ∀b o,s.C b o->X.F b o \/(b<X.w.heap.size/\ b∉X.κ/\ ∀r∈X.β,r.block≠b))(hB:G.B<=X.w.heap.size)
 (hκ: ∀b∈X.κ,G.B<=b \/G.own b) (hβ: ∀r∈X.β,G.B<=r.block) (hI:Inv IT U X) (hk:Kept G.B G.own s s' X.F X.w W'):
 ExtG G.B X {X with w:=W',O:=s'.O,C:=s'.C}/\ Inv IT U {X with w:=W',O:=s'.O,C:=s'.C}/\ Sub X {X with w:=W',O:=s'.O,C:=s'.C}/\
  (∀b o,s'.C b o->X.F b o \/(b<W'.heap.size/\ b∉X.κ/\ ∀r∈X.β,r.block≠b)):=by
 have hnO: ∀b,b∈X.κ-> ¬s.O b:=fun b hb ho=>(hI.Ok b ((hs b).1 ho)).2.1 hb;have hS:Sub X {X with w:=W',O:=s'.O,C:=s'.C}:=⟨fun _ _ h=>h,hk.cell,fun _ _ h=>h,fun s L h=>⟨L,h,le_refl _,fun _=>rfl⟩,fun s b hs cur t f h=>⟨cur,hk.own b _ (hκ b (mem_of_getElem? hs)) (hnO b (mem_of_getElem? hs)) h,rfl⟩,hk.szs⟩;have hnO': ∀r∈X.β,¬s.O r.block:=fun r hr ho=>(hI.Ok r.block ((hs _).1 ho)).2.2.1 r hr rfl
 have hX:ExtG G.B X {X with w:=W',O:=s'.O,C:=s'.C}:={
  toSub:=hS
  os:=hk.os
  tape:=hk.tape
  output:=hk.output
  size:=hk.size
  drawn:=hk.drawn
  κnew:=fun _ h=> .inl h
  βnew:=fun r h=> .inl ⟨r,h,rfl⟩
  Onew:=fun b hb=>(hk.O b hb).1.imp (hs b).1 id
  Fnew:=fun _ _ h=> .inl h
  Cmono:=fun b o hc=>hk.Cmono b o ((hC0 b o).2 hc)
  Cnew:=fun b o hc=>by
   rcases(hk.C b o hc).1 with h|h|h|h
   ·exact .inl ((hC0 b o).1 h)
   ·exact .inr (.inl h)
   ·exact .inr (.inr (.inl ((hs b).1 h)))
   ·exact .inr (.inr (.inr (.inl h)))
  frame:=fun k o h1 h2 _ _ h5=>hk.own k o (.inl h2) (fun h=>h5 ((hs k).1 h)) h1}
 refine⟨hX,?_,hS,?_⟩
 ·refine {hI with gv:=qab hIT hS hI.gv,lens:=hI.lens,elems:=hI.elems,box:= ?_,row:= ?_,Ok:= ?_,Fcell:= ?_}
  ·intro i b t cs hi hb;obtain⟨us,zs,u1,u2,u3⟩:=hI.box i b t cs hi hb;have hm:=mem_of_getElem? hi;exact⟨us,zs,hk.own b _ (hκ b hm) (hnO b hm) u1,zby hIT hS _ _ u2,u3⟩
  ·intro i q L hq hL;obtain⟨cur,fz,c1,c2⟩:=hI.row i q L hq hL;have hm:=mem_of_getElem? hq;exact⟨cur,fz,hk.own _ _ (.inl (hβ q hm)) (hnO' q hm) c1,c2⟩
  ·intro b hb;obtain⟨h1,h2⟩:=hk.O b hb;refine⟨h2,?_⟩;rcases h1 with h1|h1
   ·obtain⟨_,k2,k3,k4⟩:=hI.Ok b ((hs b).1 h1);exact⟨k2,k3,fun o hf=>hk.Cmono b o ((hC0 b o).2 (k4 o hf))⟩
   ·exact⟨fun hm=>by have:=hI.κlt hm;omega,fun r hr e=>by have:=hI.βlt hr;omega,fun o hf=>by have:=hI.Flt hf;omega⟩
  ·intro b o hf;obtain⟨v,hv⟩:=hI.Fcell b o hf;exact⟨v,(hk.cell b o hf).trans hv⟩
 ·intro b o hc;obtain⟨h1,h2⟩:=hk.C b o hc;rcases h1 with h1|h1|h1|h1
  ·rcases hC b o h1 with h|⟨_,h3,h4⟩
   ·exact .inl h
   ·exact .inr ⟨h2,h3,h4⟩
  ·exact .inl h1
  ·obtain⟨_,k2,k3,_⟩:=hI.Ok b ((hs b).1 h1);exact .inr ⟨h2,k2,k3⟩
  ·exact .inr ⟨h2,fun hm=>by have:=hI.κlt hm;omega,fun r hr e=>by have:=hI.βlt hr;omega⟩
theorem ExtG.noncells {IT:IterP} {B k:Nat} {o:Obj} (h:ExtG B X X')(hI:Inv IT U X)(hB:B<=k)(hk:X.w.heap[k]? =some o)(ho:o.isCells=false):X'.w.heap[k]? =some o:=by
 refine h.frame k o hk hB (fun hm=> ?_) (fun r hr e=> ?_) (fun hO=> ?_)
 ·obtain⟨s,hs,rfl⟩:=mem_iff_getElem.1 hm;have hl:=hI.κlen;obtain⟨vs,zs,h1,_⟩:=hI.box s X.κ[s] (U.boxes[s]'(by omega)).1 (U.boxes[s]'(by omega)).2 (by simp[hs]) (by rw[getElem?_eq_getElem (by omega)]);rw[hk] at h1;cases h1;cases ho
 ·obtain⟨s,hs,rfl⟩:=mem_iff_getElem.1 hr;have hl:=hI.βlen;obtain⟨cur,fz,h1,_⟩:=hI.row s X.β[s] (X.lens[s]'(by omega)) (by simp[hs]) (by rw[getElem?_eq_getElem (by omega)]);rw[e,hk] at h1;cases h1;cases ho
 ·obtain⟨⟨cs0,t0,f0,h0⟩,_⟩:=hI.Ok k hO;rw[hk] at h0;cases h0;cases ho
section
variable {IT:IterP} {P:Program} {M:Option Gen} {F:Fence} {nn B:Nat}
theorem zjm (hIT:ITMono IT)(hF:FenceOk F P)(hG:zri P B M) {o:Oper} {S:List AV} {U:St} {X0 X:Cx} {a:Act} {K:AV->St->Prop} {next:Act->World->Prop} {Q:Exit->Act->World->Prop} (h:zgc IT P (zdp M) o S U K)(hn:Now IT M F B X0 S U X a)
 (hK: ∀x U' X' a',K x U'->Now IT M F B X0 (zy S o.dst x) U' X' a'->next a' X'.w):o.wpIn F nn P a X.w next Q:=by
 have hρ: ∀x∈o.op.operands,Rep IT X (zcb S x) (a.eval x):=fun x _=>zdj hn.reps x;unfold zgc at h;split at h
 ·rename_i f args hc;obtain⟨r,U',hcall,hk⟩:=h;have hE:Ent P f:=by
   rcases hcall with⟨h,_⟩|⟨_,_,h⟩|⟨_,_,_,h⟩|⟨_,_,h⟩<;>exact h.1
  obtain⟨vs,hrun,hr⟩:=zgm (P:=P) hc hρ hE;unfold Oper.wpIn;refine⟨fun f _=>hF.fn f,?_⟩;rw[Oper.semAt_plain F _ _ (zmq hc),hrun];refine⟨fun hd=>(by rw[hF.depth] at hd;cases hd),hF.calls _ _ _ _ _ ?_⟩;rcases hcall with⟨h,ho⟩|⟨rfl,hok,h⟩|⟨rfl,hraw,n,h⟩|⟨G,hW,h⟩
  rotate_left 3
  ·cases M with
   |none=>cases hW
   | some G'=>
    cases hW;refine(h.2 X vs hn.inv hr hn.frn).mono ?_;rintro e w' ⟨v,X',rfl,rfl,h1,h2,h3,h4⟩;refine hK _ U' X' _ hk ⟨Rel.trans (M:=some G) hn.ext h1,h2,zod (show zma IT X' S a.tmps from zby hIT h1.toSub _ _ hn.reps) o.dst h3,?_,h4⟩;rw[Act.defers_put];refine⟨le_trans hn.marks.1 h1.size,fun e=> ?_,hn.marks.2.2⟩;obtain⟨m0,Ds,m1,m2,m3⟩:=hn.marks.2.1 e;refine⟨le_trans m0 h1.size,Ds,m1,m2,fun D hD=>⟨(m3 D hD).1,?_⟩⟩;obtain⟨m4,m5⟩:=m3 D hD;exact h1.noncells hn.inv (le_trans hG.2 m4) m5 rfl
  ·refine(h.2 X vs hn.inv hr).mono ?_;rintro e w' ⟨v,X',rfl,rfl,h1,h2,h3⟩;exact hK _ _ _ _ hk (zch hG hIT hn h1 h2 ho o.dst h3)
  ·refine(ziy hIT h rfl hok hn.inv hr).mono ?_;rintro e w' ⟨v,X',rfl,rfl,h1,h2,h3,_⟩;exact hK _ _ _ _ hk (zch hG hIT hn h1 h2 ⟨rfl,rfl⟩ o.dst h3)
  ·refine(qhh hIT n h rfl hraw hn.inv hr).mono ?_;rintro e w' ⟨v,X',rfl,rfl,h1,h2,h3⟩;exact hK _ _ _ _ hk (zch hG hIT hn h1 h2 ⟨rfl,rfl⟩ o.dst h3)
 ·split at h
  ·rename_i l args hy;obtain⟨G,row,hW,hGl,hrow,hst,hok,hni,hstop,hk1,hk2⟩:=h;cases M with
   |none=>cases hW
   | some G1=>
    cases hW;subst hGl;obtain⟨us,hrun,hr⟩:=zzz (P:=P) hy hρ;obtain⟨s,f1,f2,f3,f4,f5,f6,f7⟩:Fr G U X:=hn.frn;rw[if_neg (by rw[hstop];simp)] at f3;have hr0:zbr noIT ⟨X.F,[],[],[],X.w,fun _=>False,fun _ _=>False⟩ row us:=by
     rw[<-hst];exact zer (IT:=noIT) (X:=X) (Y:=⟨X.F,[],[],[],X.w,fun _=>False,fun _ _=>False⟩) ⟨fun _ _ _ _ _ _ _ h=>h.elim,fun _ _ _ _ _ _ _ _=>trivial,fun _ _ h=>h.elim⟩ rfl rfl args us (.inl hok) (zhr args us hni hr)
    have hro:=(hG.1:GenOk P G).rounds U.out s X.w row us X.F hrow f3 f4 f7 (fun b o hf=>⟨(Classical.em (s.O b)).elim (fun ho=> .inr ((f2.1 b o).2 ((hn.inv.Ok b ((f1 b).1 ho)).2.2.2 o hf))) .inl,hn.inv.Fcell b o hf⟩) hr0;obtain⟨fn,tmps,asg,body,hy2,hR⟩:=hro (nn-1);unfold Oper.wpIn;refine⟨fun f _=>hF.fn f,?_⟩;rw[Oper.semAt_plain F _ _ (zzg hy),hrun,hy2];refine⟨fun hd=>(by rw[hF.depth] at hd;cases hd),hF.rounds _ _ _ _ _ _ _ _ (hR.mono ?_)⟩;have done: ∀(b:Bool) (U':St) (s':Frn) (W':World),Kept G.B G.own s s' X.F X.w W'->U'.boxes=U.boxes->U'.lens=U.lens->U'.elems=U.elems->(if U'.stop=true then G.Jx s' W' else G.J U'.out s' W')->K (.raw (.bool b)) U'->next (a.put o.dst (.bool b)) W':=fun b U' s' W' hkp e1 e2 e3 hj hk=>by
     obtain⟨x1,x2,x3,x4⟩:=qbr hIT (P:=P) (G:=G) f1 f2.1 f2.2 f4 f5 f6 hn.inv hkp;have hinv:Inv IT U' {X with w:=W',O:=s'.O,C:=s'.C}:={x2 with lens:=x2.lens.trans e2.symm,elems:=x2.elems.trans e3.symm,κlen:=x2.κlen.trans (by rw[e1]),κnd:=fun i j b' h1 h2 h3=>by rw[e1];exact x2.κnd i j b' h1 h2 h3,κF:=fun i b' t cs hi hb=>x2.κF i b' t cs hi (by rw[<-e1];exact hb),box:=fun i b' t cs hi hb=>x2.box i b' t cs hi (by rw[<-e1];exact hb)};refine hK _ U' {X with w:=W',O:=s'.O,C:=s'.C} _ hk ⟨Rel.trans (M:=some G) hn.ext x1,hinv,zod (show zma IT {X with w:=W',O:=s'.O,C:=s'.C} S a.tmps from zby hIT x3 _ _ hn.reps) o.dst (by rw[Rep]),?_,?_⟩
     ·rw[Act.defers_put];refine⟨le_trans hn.marks.1 hkp.size,fun e=> ?_,hn.marks.2.2⟩;obtain⟨m0,Ds,m1,m2,m3⟩:=hn.marks.2.1 e;refine⟨le_trans m0 hkp.size,Ds,m1,m2,fun D hD=>⟨(m3 D hD).1,?_⟩⟩;obtain⟨m4,m5⟩:=m3 D hD;refine hkp.own D _ (.inl (le_trans hG.2 m4)) (fun ho=> ?_) m5;obtain⟨⟨cs0,t0,f0,h0⟩,_⟩:=hn.inv.Ok D ((f1 D).1 ho);rw[m5] at h0;cases h0
     ·exact⟨s',fun b=>Iff.rfl,⟨fun b o=>Iff.rfl,x4⟩,hj,le_trans f4 hkp.size,f5,f6,f7⟩
    rintro e W' ⟨s',hkp,(⟨rfl,hj⟩|⟨rfl,hj⟩)⟩
    ·exact done true {U with out:=U.out+1} s' W' hkp rfl rfl rfl (by rw[if_neg (by simp[hstop])];exact hj) hk1
    ·exact done false {U with stop:=true} s' W' hkp rfl rfl rfl (by rw[if_pos rfl];exact hj) hk2
  ·rcases h with⟨x,U',ha,h⟩|⟨m,neg,ha,hk1,hk2⟩
   ·obtain⟨v,X',h1,h2,h3,h4⟩:=zpe hIT ha hρ hn.inv;unfold Oper.wpIn;refine⟨fun f _=>hF.fn f,?_⟩;rw[Oper.semAt_plain F _ _ (zph ha)];rcases h1 with h1|⟨h1,rfl⟩
    ·rw[h1];exact hK _ _ _ _ h (zch hG hIT hn h2 h3 (zpd ha) o.dst h4)
    ·rw[h1];exact hK _ _ _ _ h (zch hG hIT hn h2 h3 (zpd ha) o.dst h4)
   ·obtain⟨t,h1,h2⟩:=ha.elim (fun ha=>zww ha hρ (zrq a)) (fun ha=>zyt hIT ha hρ (zrq a));unfold Oper.wpIn;refine⟨fun f _=>hF.fn f,?_⟩;rw[Oper.semAt_plain F _ _ (ha.elim zwx z0k),h1];have hk:K (.raw (.bool t)) U:=by
     rcases h2 with rfl|⟨h0,rfl⟩
     ·exact hk2
     ·exact hk1 h0
    exact hK _ _ _ _ hk (zch hG hIT hn (Ext.refl X) hn.inv ⟨rfl,rfl⟩ o.dst (by rw[Rep]))
theorem zik {ops:Array Oper} {a:Act} {k:Nat} {c:Option Bool} (h:zdu ops S k=some c)(hr:zma IT X S a.tmps):yielded ops a.tmps k=c:=by
 unfold zdu at h;unfold yielded;cases hd:(ops[k]?).bind (·.dst) with
 |none=>rw[hd] at h;cases h
 | some d=>
  rw[hd] at h;simp only at h;cases hs:S[d]? with
  |none=>rw[hs] at h;cases h
  | some x=>
   rw[hs] at h;obtain⟨v,hv,hx⟩:=zek hr d x hs;have hv':a.tmps[d]? =some v:=by simpa using hv
   cases x with
   | raw u=>
    rw[Rep] at hx;subst hx;cases v with
    |bool b=>simp at h;subst h;simp[hv']
    |_=>simp at h;subst h;simp[hv']
   |_=>simp at h
theorem zfg (hIT:ITMono IT)(hF:FenceOk F P)(hG:zri P B M) {ops:Array Oper} {Q:List AV->St->Prop} {K:Exit->Act->World->Prop} {X0:Cx} (hQ: ∀S U X a,Q S U->Now IT M F B X0 S U X a->K .normal a X.w):
 ∀(l:List Oper) (S:List AV) (U:St) (X:Cx) (a:Act),zcs IT P (zdp M) ops Q l S U->Now IT M F B X0 S U X a->wpListIn F nn P ops K l a X.w
 |[],S,U,X,a,h,hn=>hQ _ _ _ _ h hn
 | o ::l,S,U,X,a,h,hn=>by
  simp only[zcs] at h;simp only[wpListIn];cases hg:o.guard with
  | none=>
   rw[hg] at h;rw[if_pos (by simp[Region.wanted,hg])];exact zjm hIT hF hG h hn fun x U' X' a' hk hn'=>zfg hIT hF hG hQ l _ _ _ _ hk hn'
  | some kb=>
   obtain⟨k,b⟩:=kb;rw[hg] at h;obtain⟨c,hc,h⟩:=h;have hy:=zik hc hn.reps;by_cases e:c=some b
   ·rw[if_pos e] at h;rw[if_pos (by simp[Region.wanted,hg,hy,e])];exact zjm hIT hF hG h hn fun x U' X' a' hk hn'=>zfg hIT hF hG hQ l _ _ _ _ hk hn'
   ·rw[if_neg e] at h;rw[if_neg (by simp[Region.wanted,hg,hy,e])];exact⟨fun f _=>hF.fn f,zfg hIT hF hG hQ l _ _ _ _ h (zch hG hIT hn (Ext.refl X) hn.inv ⟨rfl,rfl⟩ o.dst (by rw[Rep]))⟩
end
end Go.Ab
