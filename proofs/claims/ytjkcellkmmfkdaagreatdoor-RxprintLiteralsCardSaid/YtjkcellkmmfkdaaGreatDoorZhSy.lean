import Derived.Test.YtjkcellkmmfkdaaGreatDoorZhR1
import Derived.Laws.IdiomRangeMap
import Derived.Maps.RangeRun
set_option linter.all false
set_option maxRecDepth 100000
set_option maxHeartbeats 4000000
open Nat (le_refl le_trans zero_add lt_or_ge le_of_ble_eq_true)
open List (length length_cons length_nil mem_append all_eq_true cons_append nil_append mem_cons)
open Go.Proofs.Tryz (prog)
namespace Go.Ab
open Go Go.RowKit Go.Fwd
theorem zyy {P:Program} {w:World} {t e:TypeId} {row:Array Value} {n:Nat} (hu:P.underlying t=some (.slice e))(he:P.underlying e=some (.int .u8)):
 (convert t t (.slice (some ⟨w.heap.size,0,none⟩) n n)).run P (w.alloc (.cells row e))= .ok (.slice (some ⟨w.heap.size,0,none⟩) n n) (w.alloc (.cells row e (row.size,row.size+1))):=by
 have hsh:(w.alloc (.cells row e)).shape? w.heap.size=some (e,row.size):=by
  unfold World.shape?;rw[zea _ _ _ rfl]
 have hfr:(w.alloc (.cells row e)).freeze ⟨w.heap.size,row.size,none⟩ 1=w.alloc (.cells row e (row.size,row.size+1)):=by
  unfold World.freeze World.alloc;simp only[Nat.one_ne_zero,if_false];congr 1
  apply Array.ext_getElem?;intro i;rw[Array.getElem?_modify,Array.getElem?_push,Array.getElem?_push];by_cases h:w.heap.size=i
  ·subst h;simp
  ·simp[h,Ne.symm h]
 simp[convert,run_underlying hu,run_underlying he,markStringish,shape,freeze,Sem.run,hsh,hfr]
theorem qfm {IT:IterP} (hIT:ITMono IT) {P:Program} {id:Nat} {ops:Array Oper} {o1 o2:Oper} {rest:List Oper} {S S':List AV} {U U':St} {t e:TypeId} {n sz d1 d2:Nat} {parts:Array (Nat×Operand)} {cs:List AV}
 (hops:ops.toList=o1::o2::rest) (ho1:o1.op= .buildSlice t n parts) (hd1:o1.dst=some d1) (hg1:o1.guard=none) (ho2:o2.op= .convert t t (.tmp d1)) (hd2:o2.dst=some d2) (hg2:o2.guard=none)
 (hlit:zow P t n (parts.toList.map fun p=>(p.1,zbw S p.2))=some (cs,e,sz)) (hu:P.underlying t=some (.slice e)) (he:P.underlying e=some (.int .u8)) (hdl:d1<S.length)
 (hrest:zcb IT P none ops (fun S2 U2=>S2=S'/\ U2=U') rest ((S.set d1 (.list n cs .none)).set d2 (.list n cs .none)) U):qjg IT P (.region id ops false) S U S' U':=by
 intro F nn B X0 X a hF hI0 hn hfe;refine wpIn_region_list ?_;rw[hops];simp only[wpListIn];rw[if_pos (by simp[Region.wanted,hg1])];obtain⟨vs,e1,e2,e3⟩:=zlp (IT:=IT) (X:=X) (qs:=parts.map fun(i,x)=>(i,a.eval x)) hlit (by simpa using zlv (IT:=IT) (X:=X) (ρ:=zbw S) (ρc:=a.eval) parts.toList fun p hp=>zde hn.reps p.2);obtain⟨X',k1,k2,k3,k4⟩:=z6w hIT hn.inv e ((vs.toArray).size,(vs.toArray).size+1) (cs:=cs) (vs:=vs) [] e2 e3;rw[List.append_nil] at k1;unfold Oper.wpIn;refine⟨fun f _=>hF.fn f,?_⟩;rw[Oper.semAt_plain F _ _ (by intro c hc;rw[ho1] at hc;cases hc)];have r1:(execOp a.eval o1).run P X.w= .ok (.value (.slice (some ⟨X.w.heap.size,0,none⟩) n n)) (X.w.alloc (.cells vs.toArray e)):=by simp[execOp,ho1,e1]
 rw[r1]
 show(if Region.wanted o2 _=true then _ else _)
 rw[if_pos (by simp[Region.wanted,hg2])];refine⟨fun f _=>hF.fn f,?_⟩;rw[Oper.semAt_plain F _ _ (by intro c hc;rw[ho2] at hc;cases hc)];have hlen:d1<a.tmps.size:=by
  have:=zq hn.reps;simp at this;omega
 have hev:(a.put o1.dst (.slice (some ⟨X.w.heap.size,0,none⟩) n n)).eval (.tmp d1)= .slice (some ⟨X.w.heap.size,0,none⟩) n n:=by
  rw[hd1];simp[Act.put,Act.eval,hlen]
 have r2:(execOp (a.put o1.dst (.slice (some ⟨X.w.heap.size,0,none⟩) n n)).eval o2).run P (X.w.alloc (.cells vs.toArray e))= .ok (.value (.slice (some ⟨X.w.heap.size,0,none⟩) n n)) X'.w:=by
  rw[k1];simp only[execOp,ho2,hev];rw[Sem.run_bind,zyy hu he];rfl
 rw[r2];have hx:Rep IT X' (.list n cs .none) (.slice (some ⟨X.w.heap.size,0,none⟩) n n):=by
  rw[Rep];exact⟨_,_,rfl,⟨le_refl _,fun h=>by cases h⟩,.inr ⟨_,_,rfl,k4⟩,trivial⟩
 have hG:zuc P B none:=trivial;have n1:=zbz hG hIT hn k2 k3 ⟨rfl,rfl⟩ o1.dst hx;have n2:=zbz hG hIT n1 (Ext.refl X') n1.inv ⟨rfl,rfl⟩ o2.dst hx;rw[hd1,hd2] at n2;refine zgi hIT hF hG (M:=none) (X0:=X0) (Q:=fun S2 U2=>S2=S'/\ U2=U') (K:=fun e a' w'=>e= .normal/\ ∃X',X'.w=w'/\ Now IT none F B X0 S' U' X' a') ?_ rest _ _ X' _ hrest ?_
 ·rintro S2 U2 X2 a2 ⟨rfl,rfl⟩ hn2;exact⟨rfl,X2,rfl,hn2⟩
 ·rw[hd1,hd2];exact n2
end Go.Ab
namespace Go.Ab
open Go Go.RowKit Go.Fwd Go.Proofs
def zat:BS:=74436767796141729913256682227557728256#256
def zaw:BS:=32186441021420063069237673984#256
def digS:BS:=287948901175001088#256
def wrdS:BS:=10633823849912963253799171395480977408#256
def spcS:BS:=4294977024#256
theorem ent72:Ent prog 72:=enters_of Tryz.func72 (by kernel_rfl) rfl
theorem z0m:Pure (ITP prog) prog 72 [] (.agg (Enc.cells zat)):=by
 obtain⟨d,hd⟩: ∃d,Tryz.f72.body=some d:=⟨_,rfl⟩;refine zko mix Tryz.func72 hd ent72 ?_;cases hd;refine zbt (by dsimp only[zai,Tryz.f72,length_cons,length_nil,zero_add,Nat.reduceAdd,Nat.reduceSub,List.replicate,cons_append,nil_append]) (by dsimp only[St.empty]) ?_;refine zj (zb ?_);refine zis (a:= .ptr 0 0) (U'':=⟨[(24,[.raw (.int .u64 0),.raw (.int .u64 0),.raw (.int .u64 0),.raw (.int .u64 0)])],[],[],0,false⟩) rfl rfl rfl rfl (by dsimp only[zad,List.set]) rfl ?_;refine qiz [.ptr 0 0,(.list 14 (Enc.cellsL ([94,36,124,40,41,91,93,123,125,42,43,63,46,47]:List UInt8)) .none),(.list 14 (Enc.cellsL ([94,36,124,40,41,91,93,123,125,42,43,63,46,47]:List UInt8)) .none),.agg (Enc.cells zat)] ⟨[(24,Enc.cells zat)],[],[],0,false⟩ (qfm (ze _) (cs:=Enc.cellsL ([94,36,124,40,41,91,93,123,125,42,43,63,46,47]:List UInt8)) (e:=5) (sz:=1) rfl rfl rfl rfl rfl rfl rfl (by kernel_rfl) rfl rfl (by decide) ?_) ?_
 .
  refine zkl (args':=[(.list 14 (Enc.cellsL ([94,36,124,40,41,91,93,123,125,42,43,63,46,47]:List UInt8)) .none)]) (r:= .agg (Enc.cells zat)) (zhn 100 [94,36,124,40,41,91,93,123,125,42,43,63,46,47] zat (by decide+kernel)) rfl rfl (by kernel_rfl) (by kernel_rfl) (by dsimp only[zad,List.set]) ?_
  refine zis (U'':=⟨[(24,(Enc.cells (zat:BS)))],[],[],0,false⟩) rfl rfl rfl (zec (n:=4) rfl rfl rfl rfl rfl rfl rfl rfl (by decide)) (by dsimp only[zad,List.set]) rfl ?_
  exact⟨rfl,rfl⟩
 .
  exact zez (fun(r:BS)=>(.agg (Enc.cells (r:BS)):AV)) (show some zat=some zat from rfl) (a:= .agg (Enc.cells (zat:BS))) rfl (zbd _ _ (zak (Enc.clo _))) (zdn (zak (Enc.clo _)))
theorem ent117:Ent prog 117:=enters_of Tryz.func117 (by kernel_rfl) rfl
theorem qgl:Pure (ITP prog) prog 117 [] (.agg (Enc.cells zaw)):=by
 obtain⟨d,hd⟩: ∃d,Tryz.f117.body=some d:=⟨_,rfl⟩;refine zko mix Tryz.func117 hd ent117 ?_;cases hd;refine zbt (by dsimp only[zai,Tryz.f117,length_cons,length_nil,zero_add,Nat.reduceAdd,Nat.reduceSub,List.replicate,cons_append,nil_append]) (by dsimp only[St.empty]) ?_;refine zj (zb ?_);refine zis (a:= .ptr 0 0) (U'':=⟨[(24,[.raw (.int .u64 0),.raw (.int .u64 0),.raw (.int .u64 0),.raw (.int .u64 0)])],[],[],0,false⟩) rfl rfl rfl rfl (by dsimp only[zad,List.set]) rfl ?_;refine qiz [.ptr 0 0,(.list 5 (Enc.cellsL ([94,45,91,93,47]:List UInt8)) .none),(.list 5 (Enc.cellsL ([94,45,91,93,47]:List UInt8)) .none),.agg (Enc.cells zaw)] ⟨[(24,Enc.cells zaw)],[],[],0,false⟩ (qfm (ze _) (cs:=Enc.cellsL ([94,45,91,93,47]:List UInt8)) (e:=5) (sz:=1) rfl rfl rfl rfl rfl rfl rfl (by kernel_rfl) rfl rfl (by decide) ?_) ?_
 .
  refine zkl (args':=[(.list 5 (Enc.cellsL ([94,45,91,93,47]:List UInt8)) .none)]) (r:= .agg (Enc.cells zaw)) (zhn 100 [94,45,91,93,47] zaw (by decide+kernel)) rfl rfl (by kernel_rfl) (by kernel_rfl) (by dsimp only[zad,List.set]) ?_
  refine zis (U'':=⟨[(24,(Enc.cells (zaw:BS)))],[],[],0,false⟩) rfl rfl rfl (zec (n:=4) rfl rfl rfl rfl rfl rfl rfl rfl (by decide)) (by dsimp only[zad,List.set]) rfl ?_
  exact⟨rfl,rfl⟩
 .
  exact zez (fun(r:BS)=>(.agg (Enc.cells (r:BS)):AV)) (show some zaw=some zaw from rfl) (a:= .agg (Enc.cells (zaw:BS))) rfl (zbd _ _ (zak (Enc.clo _))) (zdn (zak (Enc.clo _)))
def zhe (l:List UInt8):BS×Bool:=
 match l with
 |a::b::_=>if a=92 then(if b=100 then(digS,true) else if b=119 then(wrdS,true) else if b=115 then(spcS,true) else(0#256,false)) else(0#256,false)
 |_=>(0#256,false)
end Go.Ab
namespace Go.Ab
open Go Go.RowKit Go.Fwd
variable {w':World} {n0:Nat} {d:Nat->Bool}
open Go.ChangeMaps (setBlock)
structure Side (w w':World)(m:Nat):Prop where
 os:w'.os=w.os
 tape:w'.tape=w.tape
 output:w'.output=w.output
 size:w.heap.size<=w'.heap.size
 drawn:w.drawn<=w'.drawn
 same: ∀b,b<w.heap.size->b≠m->w'.heap[b]? =w.heap[b]?
 cel: ∀cs t f,w.heap[m]? ≠some (.cells cs t f)
 dfr: ∀d,w.heap[m]? ≠some (.deferred d)
theorem zhr {w:World} {m b:Nat} (h:Side w w' m) {cs:Array Value} {t:TypeId} {f:Nat×Nat} (hb:w.heap[b]? =some (.cells cs t f)):w'.heap[b]? =some (.cells cs t f):=by
 rw[h.same b (Array.getElem?_eq_some_iff.1 hb).1 (fun e=>h.cel _ _ _ (e▸hb))];exact hb
theorem z0a {IT:IterP} {U:St} {X:Cx} {m:Nat} (hI:Inv IT U X)(h:Side X.w w' m):Sub X {X with w:=w'} where
 F:=fun _ _ h=>h
 cell:=fun b o hf=>by
  obtain⟨v,hv⟩:=hI.Fcell b o hf;obtain⟨t,k,hs,_,hlt⟩:=z0c hv;refine World.cell?_of_block (h.same b hlt fun e=> ?_);unfold World.shape? at hs;split at hs
  ·rename_i c t' f hq;exact h.cel _ _ _ (e▸hq)
  ·cases hs
 κ:=fun _ _ h=>h
 lens:=fun s L h=>⟨L,h,le_refl _,fun _=>rfl⟩
 blk:=fun s b hs cur t f hc=>⟨cur,zhr h hc,rfl⟩
 szs:=fun k cs t f hc=>⟨cs,t,f,zhr h hc,rfl⟩
theorem qjl {IT:IterP} (hIT:ITMono IT) {U:St} {X:Cx} {w':World} {m:Nat} (hI:Inv IT U X)(h:Side X.w w' m):Inv IT U {X with w:=w'}:=
  have hs:=z0a hI h
  { lens:=hI.lens,elems:=hI.elems,κlen:=hI.κlen,κnd:=hI.κnd,κF:=hI.κF,βlen:=hI.βlen,βnd:=hI.βnd,βκ:=hI.βκ
    box:=fun s b t cs h1 h2=>by
      obtain⟨vs,zs,k1,k2,k3⟩:=hI.box s b t cs h1 h2;exact⟨vs,zs,zhr h k1,zbu hIT hs _ _ k2,k3⟩
    row:=fun s r L h1 h2=>by
      obtain⟨cur,fz,k1,k2⟩:=hI.row s r L h1 h2;exact⟨cur,fz,zhr h k1,k2⟩
    Ok :=fun b hb=>by
      obtain⟨⟨cs,t,f,k1⟩,k2⟩:=hI.Ok b hb;exact⟨⟨cs,t,f,zhr h k1⟩,k2⟩
    Fcell:=fun b o hf=>by
      obtain⟨v,hv⟩:=hI.Fcell b o hf;exact⟨v,(hs.cell b o hf).trans hv⟩
    gv:=qev hIT hs hI.gv}
theorem zso {IT:IterP} (hIT:ITMono IT) {F:Fence} {B:Nat} {X0 X:Cx} {S:List AV} {U:St} {a:Act} {w':World} {m:Nat} (hm:X0.w.heap.size<=m)(hn:Now IT none F B X0 S U X a)(h:Side X.w w' m):Now IT none F B X0 S U {X with w:=w'} a:=
  have hs:=z0a hn.inv h
  have hE:Ext X0 X:=hn.ext
  { ext := show Ext X0 {X with w:=w'} from
      { F :=hE.F,κ:=hE.κ,lens:=hE.lens,O:=hE.O,C:=hE.C,Fnew:=hE.Fnew,κnew:=hE.κnew,βnew:=hE.βnew
        cell:=fun b o hf=>(hs.cell b o (hE.F b o hf)).trans (hE.cell b o hf)
        blk:=fun s b hk cur t f hc=>by
          obtain⟨cur',k1,k2⟩:=hE.blk s b hk cur t f hc;exact⟨cur',zhr h k1,k2⟩
        szs:=hE.szs.trans hs.szs
        os:=h.os.trans hE.os,tape:=h.tape.trans hE.tape,output:=h.output.trans hE.output,size:=le_trans hE.size h.size
        drawn:=(by first|exact le_trans hE.drawn h.drawn|exact hE.drawn)
        frame:=fun b hb h1 h2=>(h.same b (Nat.lt_of_lt_of_le hb hE.size) (by omega)).trans (hE.frame b hb h1 h2)}
    inv:=qjl hIT hn.inv h
    reps:=zbu hIT hs _ _ hn.reps
    marks:=⟨le_trans hn.marks.1 h.size,fun e=>by
      obtain⟨h0,Ds,h1,h2,h3⟩:=hn.marks.2.1 e;exact⟨le_trans h0 h.size,Ds,h1,h2,fun D hD=>⟨(h3 D hD).1,(h.same D (Array.getElem?_eq_some_iff.1 (h3 D hD).2).1 fun e=>h.dfr _ (e▸(h3 D hD).2)).trans (h3 D hD).2⟩⟩,hn.marks.2.2⟩
    frn:=trivial}
theorem zwy (w:World)(o:Obj)(ho:o.isCells=false):Side w (w.alloc o) w.heap.size where
 os:=rfl
 tape:=rfl
 output:=rfl
 size:=by simp
 drawn:=le_refl _
 same:=fun b hb _=>Below.heap_alloc _ _ _ hb
 cel:=fun cs t f h=>by simp at h
 dfr:=fun d h=>by simp at h
theorem z7v {w:World} {m:Nat} {o:Obj} (o':Obj)(hm:w.heap[m]? =some o)(ho:o.isCells=false)(hd: ∀d,o≠ .deferred d):Side w (setBlock w m o') m where
 os:=rfl
 tape:=rfl
 output:=rfl
 size:=by simp[setBlock]
 drawn:=le_refl _
 same:=fun b hb hne=>by simp[setBlock,Array.getElem?_setIfInBounds,Ne.symm hne]
 cel:=fun cs t f h=>by rw[hm] at h;cases h;cases ho
 dfr:=fun d h=>by rw[hm] at h;cases h;exact hd d rfl
section
variable {IT:IterP} {P:Program} {F:Fence} {nn B:Nat}
theorem zzl (hIT:ITMono IT)(hF:FenceOk F P) {o:Oper} {S E:List AV} {U U':St} {X0 X:Cx} {a:Act} {x:AV} {next:Act->World->Prop} {Q:Exit->Act->World->Prop} (h:z2a IT P o E U x U')(hn:Now IT none F B X0 S U X a)
 (hρ: ∀y∈o.op.operands,Rep IT X (zbw E y) (a.eval y)) (hK: ∀X' v,Ext X X'->Now IT none F B X0 (zad S o.dst x) U' X' (a.put o.dst v)->next (a.put o.dst v) X'.w):o.wpIn F nn P a X.w next Q:=by
 have hG:zuc P B none:=trivial;rcases h with⟨f,args,hc,rfl,hok,h⟩|ha
 ·obtain⟨vs,hrun,hr⟩:=zkn (P:=P) hc hρ h.1;unfold Oper.wpIn;refine⟨fun f _=>hF.fn f,?_⟩;rw[Oper.semAt_plain F _ _ (zno hc),hrun];refine⟨fun hd=>(by rw[hF.depth] at hd;cases hd),hF.calls _ _ _ _ _ ?_⟩;refine(zle hIT h rfl hok hn.inv hr).mono ?_;rintro e w' ⟨v,X',rfl,rfl,h1,h2,h3,_⟩;exact hK _ _ h1 (zbz hG hIT hn h1 h2 ⟨rfl,rfl⟩ o.dst h3)
 ·obtain⟨v,X',h1,h2,h3,h4⟩:=zqj hIT ha hρ hn.inv;unfold Oper.wpIn;refine⟨fun f _=>hF.fn f,?_⟩;rw[Oper.semAt_plain F _ _ (zql ha)];rcases h1 with h1|⟨h1,rfl⟩
  ·rw[h1];exact hK _ _ h2 (zbz hG hIT hn h2 h3 (zqi ha) o.dst h4)
  ·rw[h1];exact hK _ _ h2 (zbz hG hIT hn h2 h3 (zqi ha) o.dst h4)
theorem qfi (hIT:ITMono IT)(hF:FenceOk F P)(hmix:P.follows .mixedOrders=true) {id:Nat} {ops:Array Oper} {K:Exit->Act->World->Prop} {X0 X:Cx} {S E vs:List AV} {U:St} {a:Act} {sg:(Nat->Bool)->St} (Φ:(Nat->Bool)->Act->World->Prop)
 (hE:zgq ops.toList vs S=E) (hlen:ops.toList.length=vs.length) (hfl:qpo ops S.length=true) (hback:zyg ops=true) (hσ:sg (fun j=>Nat.ble ops.size j)=U) (hΦ:Φ (fun j=>Nat.ble ops.size j) a X.w.drew) (hn:Now IT none F B X0 S U X a)
 (hop: ∀i o x,ops[i]? =some o->vs[i]? =some x->o.guard=none/\ ∀(d:Nat->Bool) (S':List AV) (X:Cx) (a:Act) (next:Act->World->Prop),X0.w.heap.size<=X.w.heap.size->d i=false->(∀t,(∀j,zbp ops j=some t->d j=true)->S'[t]? =E[t]?)->(∀j,zhi ops j i=true->d j=false)->(∀j,zhi ops i j=true->d j=true)->(∀j t,zbp ops j=some t->t∈zgl ops i->d j=true)->(∀y∈o.op.operands,Rep IT X (zbw E y) (a.eval y))->a.tmps.size=E.length->Now IT none F B X0 S' (sg d) X a->Φ d a X.w->
  (∀X' a',Now IT none F B X0 (zad S' o.dst x) (sg (zjy d i)) X' a'->Φ (zjy d i) a' X'.w->next a' X'.w)->o.wpIn F nn P a X.w next K)
 (hQ: ∀X a,Now IT none F B X0 E (sg fun _=>true) X a->Φ (fun _=>true) a X.w->K .normal a X.w):(Code.region id ops true).wpIn F nn P K a X.w:=by
 have hG:zuc P B none:=trivial;have hdst: ∀ {j:Nat} {o:Oper},ops[j]? =some o->zbp ops j=o.dst:=fun {j o} ho=>by rw[zbp,ho];rfl
 have hEl:E.length=S.length:=by rw[<-hE,zhk]
 have hat: ∀ {j:Nat} {o:Oper},ops[j]? =some o-> ∃a,vs[j]? =some a:=fun {j o} ho=>by
  have:=(Array.getElem?_eq_some_iff.1 ho).1;exact⟨vs[j]'(by simp at hlen;omega),List.getElem?_eq_getElem _⟩
 have hEd: ∀ {j:Nat} {o:Oper} {a:AV} {t:Tmp},ops[j]? =some o->vs[j]? =some a->o.dst=some t->E[t]? =some a:=fun {j o a t} ho ha ht=>by
  obtain⟨s1,s2,_⟩:=zfd hfl ((hdst ho).trans ht);rw[<-hE];exact zkr _ _ _ j o a (by rw[<-ho,Array.getElem?_toList]) ha ht s1 fun i o' hi ho'=>by
   rw[Array.getElem?_toList] at hi;exact s2 i ((hdst hi).trans ho')
 have key: ∀(f:Nat) (listed:Array Bool) (S':List AV) (X:Cx) (a:Act),left ops.size listed=f->listed.size=ops.size->S'.length=E.length->
  (∀t,(∀j,zbp ops j=some t->listed.getD j true=true)->S'[t]? =E[t]?)->(∀j k,zhi ops j k=true->listed.getD j true=true->listed.getD k true=true)->Now IT none F B X0 S' (sg fun j=>listed.getD j true) X a->Φ (fun j=>listed.getD j true) a X.w->wpAnyIn F nn P .any ops K f listed a X.w:=by
  intro f;induction f with
  | zero=>
   intro listed S' X a h0 hs hl hk hcl hn hΦ;have hd:=zjz ops.size h0;have hg: ∀j,listed.getD j true=true:=fun j=>by
    rcases lt_or_ge j ops.size with h'|h'
    ·exact hd j h'
    ·simp[Array.getElem?_eq_none (by rw[hs];exact h':listed.size<=j)]
   have e1:S'=E:=List.ext_getElem? fun t=>hk t fun j _=>hg j;have e2:(fun j=>listed.getD j true)=fun _=>true:=funext hg;rw[e1,e2] at hn;rw[e2] at hΦ;refine⟨List.eq_nil_iff_forall_not_mem.2 fun i hi=> ?_,hQ X a hn hΦ⟩;obtain⟨h1,o,ho,_⟩:=mem_ready.1 hi;rw[hg i] at h1;cases h1
  | succ f ih=>
   intro listed S' X a h0 hs hl hk hcl hn hΦ;obtain⟨i0,hi0,hu0,hb0⟩:=zoo ops.size (by rw[h0];exact Nat.succ_ne_zero f);have hr0:i0∈Region.ready .any ops listed:=by
    refine mem_ready.2 ⟨hu0,ops[i0],by simp[hi0],fun e he hb=> ?_⟩;have h1:=all_eq_true.1 hback i0 (List.mem_range.2 hi0);rw[Array.getElem?_eq_getElem hi0] at h1;have h2:=Array.all_eq_true'.1 h1 e he;have h3:e.on<i0:=by simpa[hb] using h2
    exact zvo (by omega) (hb0 _ h3)
   refine⟨fun he=>(by rw[he] at hr0;cases hr0),fun i hi=> ?_⟩;obtain⟨hun,o,ho,hwait⟩:=mem_ready.1 hi;have hlt:i<ops.size:=(Array.getElem?_eq_some_iff.1 ho).1;obtain⟨x,hx⟩:=hat ho;obtain⟨hgu,hone⟩:=hop i o x ho hx;have hwr: ∀j t,zbp ops j=some t->t∈zgl ops i->listed.getD j true=true:=fun j t hj ht=>by
    obtain⟨o',ho',e,he,hb,hon⟩:=zef ((zfd hfl hj).2.2 i ht);rw[ho] at ho';cases ho';rw[<-hon];exact zup (hwait e he hb)
   have hwt: ∀j,zhi ops i j=true->listed.getD j true=true:=fun j hj=>by
    obtain⟨o',ho',e,he,hb,hon⟩:=zef hj;rw[ho] at ho';cases ho';rw[<-hon];exact zup (hwait e he hb)
   have hset: ∀t∈zgl ops i,S'[t]? =E[t]? :=fun t ht=>hk t fun j hj=>hwr j t hj ht;have hup:(fun j=>(listed.setIfInBounds i true).getD j true)=zjy (fun j=>listed.getD j true) i:=by
    funext j
    by_cases e:j=i
    ·subst e;rw[zdk];simp[hs,hlt]
    ·rw[zba e,getD_set_ne true (Ne.symm e)]
   have next: ∀X' a',Now IT none F B X0 (zad S' o.dst x) (sg (zjy (fun j=>listed.getD j true) i)) X' a'->Φ (zjy (fun j=>listed.getD j true) i) a' X'.w->wpAnyIn F nn P .any ops K f (listed.setIfInBounds i true) a' X'.w:=fun X' a' hn' hΦ'=>by
    refine ih _ (zad S' o.dst x) X' a' (by have:=zoj hun ops.size hlt;omega) (by simp[hs]) (by rw[zay];exact hl) (fun t ht=> ?_) (fun j k hw hj=> ?_) (by rw[hup];exact hn') (by rw[hup];exact hΦ')
    rotate_left
    ·by_cases ek:k=i
     ·subst ek;simp[hs,hlt]
     ·rw[getD_set_ne true (Ne.symm ek)];by_cases ej:j=i
      ·subst ej;exact hwt k hw
      ·rw[getD_set_ne true (Ne.symm ej)] at hj;exact hcl j k hw hj
    by_cases e:o.dst=some t
    ·rw[hEd ho hx e,e];have:t<S'.length:=by rw[hl,hEl];exact(zfd hfl ((hdst ho).trans e)).1
     exact List.getElem?_set_self this
    ·rw[zze e];refine hk t fun j hj=> ?_;have:=ht j hj;rwa[getD_set_ne true (fun eq=>e (by rw[<-hdst ho,eq];exact hj))] at this
   have hopr: ∀y∈o.op.operands,Rep IT X (zbw E y) (a.eval y):=fun y hy=>by
    have e:zbw E y=zbw S' y:=by
     cases y with
     | tmp t=>
      have:t∈zgl ops i:=by
       simp only[zgl,ho];exact mem_append.2 (.inl (zfg (by simpa using hy)))
      simp only[zbw,hset t this]
     |const=>rfl
     |func=>rfl
     |global=>rfl
    rw[e];exact zde hn.reps y
   unfold wpOpIn;rw[ho];simp only;rw[if_pos (by simp[Region.wanted,hgu])];have hsz:a.tmps.size=E.length:=by
    have:=zq hn.reps;simp at this;omega
   exact hone _ S' X a _ (show X0.w.heap.size<=X.w.heap.size from Ext.size hn.ext) hun hk (fun j hj=>by
    cases hq:listed.getD j true with
    |false=>rfl
    |true=>exact absurd (hcl j i hj hq) (by rw[hun];decide)) hwt hwr hopr hsz hn hΦ next
 refine wpIn_region_any hmix ?_;obtain⟨hEx,hI⟩:=zjd hIT hn.inv;have hrs:znc IT {X with w:=X.w.drew} S a.tmps:=zam hIT hEx _ _ hn.reps;have e0:(fun j=>(Array.replicate ops.size false).getD j true)=fun j=>Nat.ble ops.size j:=by
  funext j
  rcases lt_or_ge j ops.size with h'|h'
  ·have:Nat.ble ops.size j=false:=by
    cases h:Nat.ble ops.size j with
    |false=>rfl
    |true=>exact absurd (le_of_ble_eq_true h) (by omega)
   rw[this];simp[h']
  ·rw[Nat.ble_eq_true_of_le h'];simp[Nat.not_lt.2 h']
 have hnow:Now IT none F B X0 S (sg fun j=>(Array.replicate ops.size false).getD j true) {X with w:=X.w.drew} a:=by
  rw[e0,hσ];exact⟨hn.ext.trans (Rel.of hEx),hI,hrs,hn.marks.ext hEx hn.inv,trivial⟩
 have hleft: ∀m,m<=ops.size->left m (Array.replicate ops.size false)=m:=by
  intro m;induction m with
  |zero=>intro _;rfl
  |succ m ih=>intro hm;simp[left,ih (by omega),show m<ops.size by omega]
 refine key ops.size (Array.replicate ops.size false) S _ a (hleft _ (le_refl _)) (by simp) hEl.symm (fun t ht=> ?_) (fun j k hw hj=> ?_) hnow (by rw[e0];exact hΦ)
 rotate_left
 ·obtain⟨o',ho',_⟩:=zef hw;have hj':=(Array.getElem?_eq_some_iff.1 ho').1;simp[hj'] at hj
 have hno: ∀o∈ops.toList,o.dst≠some t:=fun o ho he=>by
  obtain⟨j,hj,rfl⟩:=List.mem_iff_getElem.1 ho;have hj':j<ops.size:=by simpa using hj
  have hjo:ops[j]? =some (ops.toList[j]):=by simp[hj']
  have:=ht j ((hdst hjo).trans he);simp[hj'] at this
 rw[<-hE];exact(zgw _ _ _ hno).symm
theorem any_gen (hmix:P.follows .mixedOrders=true) {id:Nat} {ops:Array Oper} {K:Exit->Act->World->Prop} {a:Act} {w:World} (I:(Nat->Bool)->Act->World->Prop)(hback:zyg ops=true)(h0:I (fun j=>Nat.ble ops.size j) a w.drew)
 (hop: ∀i o,ops.toList[i]? =some o->o.guard=none/\ ∀(d:Nat->Bool) (a:Act) (w:World) (next:Act->World->Prop),d i=false->(∀j,zhi ops j i=true->d j=false)->(∀j,zhi ops i j=true->d j=true)->I d a w->(∀a' w',I (zjy d i) a' w'->next a' w')->o.wpIn F nn P a w next K)
 (hQ: ∀a w,I (fun _=>true) a w->K .normal a w):(Code.region id ops true).wpIn F nn P K a w:=by
 have key: ∀(f:Nat) (listed:Array Bool) (a:Act) (w:World),left ops.size listed=f->listed.size=ops.size->(∀j k,zhi ops j k=true->listed.getD j true=true->listed.getD k true=true)->I (fun j=>listed.getD j true) a w->wpAnyIn F nn P .any ops K f listed a w:=by
  intro f;induction f with
  | zero=>
   intro listed a w h0 hs hcl hΦ;have hd:=zjz ops.size h0;have hg: ∀j,listed.getD j true=true:=fun j=>by
    rcases lt_or_ge j ops.size with h'|h'
    ·exact hd j h'
    ·simp[Array.getElem?_eq_none (by rw[hs];exact h':listed.size<=j)]
   have e2:(fun j=>listed.getD j true)=fun _=>true:=funext hg;rw[e2] at hΦ;refine⟨List.eq_nil_iff_forall_not_mem.2 fun i hi=> ?_,hQ a w hΦ⟩;obtain⟨h1,o,ho,_⟩:=mem_ready.1 hi;rw[hg i] at h1;cases h1
  | succ f ih=>
   intro listed a w h0 hs hcl hΦ;obtain⟨i0,hi0,hu0,hb0⟩:=zoo ops.size (by rw[h0];exact Nat.succ_ne_zero f);have hr0:i0∈Region.ready .any ops listed:=by
    refine mem_ready.2 ⟨hu0,ops[i0],by simp[hi0],fun e he hb=> ?_⟩;have h1:=all_eq_true.1 hback i0 (List.mem_range.2 hi0);rw[Array.getElem?_eq_getElem hi0] at h1;have h2:=Array.all_eq_true'.1 h1 e he;have h3:e.on<i0:=by simpa[hb] using h2
    exact zvo (by omega) (hb0 _ h3)
   refine⟨fun he=>(by rw[he] at hr0;cases hr0),fun i hi=> ?_⟩;obtain⟨hun,o,ho,hwait⟩:=mem_ready.1 hi;have hlt:i<ops.size:=(Array.getElem?_eq_some_iff.1 ho).1;obtain⟨hgu,hone⟩:=hop i o (by rw[<-ho,Array.getElem?_toList]);have hwt: ∀j,zhi ops i j=true->listed.getD j true=true:=fun j hj=>by
    obtain⟨o',ho',e,he,hb,hon⟩:=zef hj;rw[ho] at ho';cases ho';rw[<-hon];exact zup (hwait e he hb)
   have hup:(fun j=>(listed.setIfInBounds i true).getD j true)=zjy (fun j=>listed.getD j true) i:=by
    funext j
    by_cases e:j=i
    ·subst e;rw[zdk];simp[hs,hlt]
    ·rw[zba e,getD_set_ne true (Ne.symm e)]
   unfold wpOpIn;rw[ho];simp only;rw[if_pos (by simp[Region.wanted,hgu])];refine hone _ a w _ hun (fun j hj=>by
    cases hq:listed.getD j true with
    |false=>rfl
    |true=>exact absurd (hcl j i hj hq) (by rw[hun];decide)) hwt hΦ fun a' w' hΦ'=> ?_
   refine ih _ a' w' (by have:=zoj hun ops.size hlt;omega) (by simp[hs]) (fun j k hw hj=> ?_) (by rw[hup];exact hΦ');by_cases ek:k=i
   ·subst ek;simp[hs,hlt]
   ·rw[getD_set_ne true (Ne.symm ek)];by_cases ej:j=i
    ·subst ej;exact hwt k hw
    ·rw[getD_set_ne true (Ne.symm ej)] at hj;exact hcl j k hw hj
 refine wpIn_region_any hmix ?_;have e0:(fun j=>(Array.replicate ops.size false).getD j true)=fun j=>Nat.ble ops.size j:=by
  funext j
  rcases lt_or_ge j ops.size with h'|h'
  ·have:Nat.ble ops.size j=false:=by
    cases h:Nat.ble ops.size j with
    |false=>rfl
    |true=>exact absurd (le_of_ble_eq_true h) (by omega)
   rw[this];simp[h']
  ·rw[Nat.ble_eq_true_of_le h'];simp[Nat.not_lt.2 h']
 have hleft: ∀m,m<=ops.size->left m (Array.replicate ops.size false)=m:=by
  intro m;induction m with
  |zero=>intro _;rfl
  |succ m ih=>intro hm;simp[left,ih (by omega),show m<ops.size by omega]
 refine key ops.size (Array.replicate ops.size false) a _ (hleft _ (le_refl _)) (by simp) (fun j k hw hj=> ?_) (by rw[e0];exact h0);obtain⟨o',ho',_⟩:=zef hw;have hj':=(Array.getElem?_eq_some_iff.1 ho').1;simp[hj'] at hj
structure MI where
 om:Nat
 mvs:List (Nat×Nat×Bool)
 ins:List (Nat×Value×Nat)
 it:List (Nat×Nat)
structure MapAt (Mi:MI)(d:Nat->Bool)(a:Act)(es:Array MapEntry)(c:Nat):Prop where
 born: ∀e∈es.toList,e.born<c
 nd:(es.toList.map (·.born)).Nodup
 of: ∀e∈es.toList,∃q∈Mi.ins,d q.1=true/\ e.key=q.2.1/\ e.val=a.eval (.tmp q.2.2)
 all: ∀q∈Mi.ins,d q.1=true-> ∃e∈es.toList,e.key=q.2.1
structure MpOk (ops:Array Oper)(Mi:MI)(n0:Nat)(d:Nat->Bool)(a:Act)(w:World):Prop where
 ins: ∀q∈Mi.ins,d q.1=true->d Mi.om=true/\ ∀j,zbp ops j=some q.2.2->d j=true
 mvs: ∀p∈Mi.mvs,d p.1=true->d Mi.om=true/\ (p.2.2=true-> ∀q∈Mi.ins,d q.1=true)
 it: ∀p∈Mi.it,d p.1=true->d Mi.om=true/\ ∀q∈Mi.ins,d q.1=true
 map:d Mi.om=true-> ∃m es c,n0<=m/\ w.heap[m]? =some (.map es c)/\ (∀p∈Mi.mvs,d p.1=true->a.eval (.tmp p.2.1)= .map (some m))/\ MapAt Mi d a es c/\
  ∀p∈Mi.it,d p.1=true-> ∃r,n0<=r/\ w.heap[r]? =some (.mapIter (some m) c #[] c)/\ a.eval (.tmp p.2)= .pointer (some ⟨r,0,none⟩)
def qoa (Mi:MI)(i:Nat)(dst:Option Tmp):Bool:=
 (Mi.om !=i)&&(Mi.mvs.all fun p=>p.1 !=i&&decide (dst≠some p.2.1))&&(Mi.ins.all fun q=>q.1 !=i)&&Mi.it.all fun p=>p.1 !=i&&decide (dst≠some p.2)
theorem zeq (a:Act)(d:Option Tmp)(v:Value)(t:Tmp)(h:d≠some t):(a.put d v).eval (.tmp t)=a.eval (.tmp t):=by
 refine Act.eval_put fun d' e=> ?_;rintro⟨⟩;exact h e
theorem qir {ops:Array Oper} {Mi:MI} {i:Nat} {a:Act} {w:World} {dst:Option Tmp} {v:Value} (h:MpOk ops Mi n0 d a w)(ho:qoa Mi i dst=true)(hd:d i=false)(hdst:zbp ops i=dst)
 (hw: ∀(k:Nat) (o:Obj),w.heap[k]? =some o->o.isCells=false->w'.heap[k]? =some o):MpOk ops Mi n0 (zjy d i) (a.put dst v) w':=by
 unfold qoa at ho;simp only[Bool.and_eq_true,all_eq_true,bne_iff_ne,ne_eq,decide_eq_true_eq] at ho;obtain⟨⟨⟨h1,h2⟩,h3⟩,h4⟩:=ho;have up: ∀j,j≠i->zjy d i j=d j:=fun j hj=>zba hj;have up': ∀j,d j=true->zjy d i j=true:=fun j hj=>by
  by_cases e:j=i
  ·subst e;rw[hd] at hj;cases hj
  ·rw[up j e];exact hj
 refine⟨fun q hq hqd=> ?_,fun p hp hpd=> ?_,fun p hp hpd=> ?_,fun hom=> ?_⟩
 ·rw[up _ (h3 q hq)] at hqd;exact⟨up' _ (h.ins q hq hqd).1,fun j hj=>up' _ ((h.ins q hq hqd).2 j hj)⟩
 ·rw[up _ (h2 p hp).1] at hpd;exact⟨up' _ (h.mvs p hp hpd).1,fun hf q hq=>up' _ ((h.mvs p hp hpd).2 hf q hq)⟩
 ·rw[up _ (h4 p hp).1] at hpd;exact⟨up' _ (h.it p hp hpd).1,fun q hq=>up' _ ((h.it p hp hpd).2 q hq)⟩
 ·rw[up _ h1] at hom;obtain⟨m,es,c,k1,k2,k3,k4,k5⟩:=h.map hom;refine⟨m,es,c,k1,hw _ _ k2 rfl,fun p hp hpd=> ?_,⟨k4.born,k4.nd,fun e he=> ?_,fun q hq hqd=> ?_⟩,fun p hp hpd=> ?_⟩
  ·rw[up _ (h2 p hp).1] at hpd;rw[zeq _ _ _ _ (h2 p hp).2];exact k3 p hp hpd
  ·obtain⟨q,hq,q1,q2,q3⟩:=k4.of e he;refine⟨q,hq,up' _ q1,q2,?_⟩;rw[zeq _ _ _ _ fun e'=> ?_];exact q3;have:=(h.ins q hq q1).2 i (hdst.trans e');rw[hd] at this;cases this
  ·rw[up _ (h3 q hq)] at hqd;exact k4.all q hq hqd
  ·rw[up _ (h4 p hp).1] at hpd;obtain⟨r,r1,r2,r3⟩:=k5 p hp hpd;exact⟨r,r1,hw _ _ r2 rfl,by rw[zeq _ _ _ _ (h4 p hp).2];exact r3⟩
end
def qak (IT:IterP)(P:Program)(F:Fence)(nn B:Nat)(K:Exit->Act->World->Prop)(X0:Cx)(ops:Array Oper)(E:List AV)(sg:(Nat->Bool)->St)(Φ:(Nat->Bool)->Act->World->Prop)(i:Nat)(o:Oper)(x:AV):Prop:=
 o.guard=none/\ ∀(d:Nat->Bool) (S':List AV) (X:Cx) (a:Act) (next:Act->World->Prop),X0.w.heap.size<=X.w.heap.size->d i=false->(∀t,(∀j,zbp ops j=some t->d j=true)->S'[t]? =E[t]?)->(∀j,zhi ops j i=true->d j=false)->(∀j,zhi ops i j=true->d j=true)->(∀j t,zbp ops j=some t->t∈zgl ops i->d j=true)->(∀y∈o.op.operands,Rep IT X (zbw E y) (a.eval y))->a.tmps.size=E.length->Now IT none F B X0 S' (sg d) X a->Φ d a X.w->
  (∀X' a',Now IT none F B X0 (zad S' o.dst x) (sg (zjy d i)) X' a'->Φ (zjy d i) a' X'.w->next a' X'.w)->o.wpIn F nn P a X.w next K
section
variable {IT:IterP} {P:Program} {F:Fence} {nn B:Nat} {K:Exit->Act->World->Prop} {X0:Cx} {ops:Array Oper} {E:List AV} {sg:(Nat->Bool)->St} {Mi:MI} {i:Nat} {o:Oper} {x:AV}
theorem z9m (hIT:ITMono IT)(hF:FenceOk F P)(ho:ops[i]? =some o)(hg:o.guard=none)(hb:qoa Mi i o.dst=true)(h: ∀d,d i=false->(∀j,zhi ops j i=true->d j=false)->(∀j,zhi ops i j=true->d j=true)->z2a IT P o E (sg d) x (sg (zjy d i))):qak IT P F nn B K X0 ops E sg (MpOk ops Mi X0.w.heap.size) i o x:=
 ⟨hg,fun d S' X a next hs hd hkk hbe hwt hwr hr hsz hn hΦ hK=>zzl hIT hF (h d hd hbe hwt) hn hr fun X' v hE hn'=>hK X' _ hn' (qir hΦ hb hd (by rw[zbp,ho];rfl) fun k o' hk hc=>hE.noncells hn.inv hk hc)⟩
theorem z6c (hIT:ITMono IT)(hF:FenceOk F P) {t tm:Nat} (hg:o.guard=none)(hop:o.op= .makeMap t none)(hd:o.dst=some tm)(hi:Mi.om=i)(hm:(i,tm,false)∈Mi.mvs)(hmv: ∀p∈Mi.mvs,p.1=i->p=(i,tm,false))(hin: ∀q∈Mi.ins,q.1≠i)(hit: ∀q∈Mi.it,q.1≠i)(htm:tm<E.length)(hsg: ∀d,sg (zjy d i)=sg d):
 qak IT P F nn B K X0 ops E sg (MpOk ops Mi X0.w.heap.size) i o .top:=by
 subst hi;refine⟨hg,fun d S' X a next hs hd' hkk hbe hwt hwr hr hsz hn hΦ hK=> ?_⟩;unfold Oper.wpIn;refine⟨fun f _=>hF.fn f,?_⟩;rw[Oper.semAt_plain F _ _ (by intro c hc;rw[hop] at hc;cases hc)];have r1:(execOp a.eval o).run P X.w= .ok (.value (.map (some X.w.heap.size))) (X.w.alloc (.map #[] 0)):=by
  simp only[execOp,hop];rfl
 rw[r1];have n1:=zso hIT hs hn (zwy X.w (.map #[] 0) rfl);have n2:=zbz (P:=P) (M:=none) trivial hIT n1 (Ext.refl _) n1.inv ⟨rfl,rfl⟩ o.dst (x:= .top) (v:= .map (some X.w.heap.size)) (by rw[Rep];trivial);refine hK _ _ (by rw[hsg];exact n2) ?_;have off: ∀j,j≠Mi.om->zjy d Mi.om j=true->d j=true:=fun j hj h=>by rwa[zba hj] at h
 have no:d Mi.om≠true:=by rw[hd'];decide
 refine⟨fun q hq hqd=>absurd (hΦ.ins q hq (off _ (hin q hq) hqd)).1 no,fun p hp hpd=> ?_,fun p hp hpd=>absurd (hΦ.it p hp (off _ (hit p hp) hpd)).1 no,fun _=>⟨X.w.heap.size, #[],0,hs,zea _ _ _ rfl,fun p hp hpd=> ?_,⟨by simp,by simp,by simp,fun q hq hqd=>absurd (hΦ.ins q hq (off _ (hin q hq) hqd)).1 no⟩,fun p hp hpd=>absurd (hΦ.it p hp (off _ (hit p hp) hpd)).1 no⟩⟩
 ·by_cases e:p.1=Mi.om
  ·rw[hmv p hp e];exact⟨zdk _ _,fun h=>by cases h⟩
  ·exact absurd (hΦ.mvs p hp (off _ e hpd)).1 no
 ·by_cases e:p.1=Mi.om
  ·rw[hmv p hp e,hd];have hl:tm<a.tmps.size:=by omega
   simp[Act.put,Act.eval,hl]
  ·exact absurd (hΦ.mvs p hp (off _ e hpd)).1 no
theorem du_mv (hIT:ITMono IT)(hF:FenceOk F P) {t t' j':Nat} {f f':Bool} (hg:o.guard=none)(hop:o.op= .move (.tmp t'))(hd:o.dst=some t)(ho:ops[i]? =some o)(hi:Mi.om≠i)(hm:(i,t,f)∈Mi.mvs)(hm':(j',t',f')∈Mi.mvs)(hj:zbp ops j'=some t')(hmv: ∀p∈Mi.mvs,p.1=i \/p.2.1=t->p=(i,t,f))(hin: ∀q∈Mi.ins,q.1≠i/\ q.2.2≠t)(hit: ∀q∈Mi.it,q.1≠i/\ q.2≠t)(htm:t<E.length)(hsg: ∀d,sg (zjy d i)=sg d)
 (hfull:f=true->(Mi.ins.all fun q=>zhi ops i q.1)=true):qak IT P F nn B K X0 ops E sg (MpOk ops Mi X0.w.heap.size) i o .top:=by
 refine⟨hg,fun d S' X a next hs hd' hkk hbe hwt hwr hr hsz hn hΦ hK=> ?_⟩;unfold Oper.wpIn;refine⟨fun f _=>hF.fn f,?_⟩;rw[Oper.semAt_plain F _ _ (by intro c hc;rw[hop] at hc;cases hc)];have r1:(execOp a.eval o).run P X.w= .ok (.value (a.eval (.tmp t'))) X.w:=by simp[execOp,hop]
 rw[r1];have n2:=zbz (P:=P) (M:=none) trivial hIT hn (Ext.refl _) hn.inv ⟨rfl,rfl⟩ o.dst (x:= .top) (v:=a.eval (.tmp t')) (by rw[Rep];trivial);refine hK _ _ (by rw[hsg];exact n2) ?_;have up: ∀j,j≠i->zjy d i j=d j:=fun j hj=>zba hj;have up': ∀j,d j=true->zjy d i j=true:=fun j hj=>by
  by_cases e:j=i
  ·subst e;rw[hd'] at hj;cases hj
  ·rw[up j e];exact hj
 have hj':d j'=true:=hwr j' t' hj (by simp only[zgl,ho,hop];exact mem_append.2 (.inl (zfg (by simp[Op.operands]))));have hom:=(hΦ.mvs _ hm' hj').1;have ne: ∀t1,t1≠t->(a.put o.dst (a.eval (.tmp t'))).eval (.tmp t1)=a.eval (.tmp t1):=fun t1 h=>zeq _ _ _ _ (by rw[hd];intro e;exact h (Option.some.inj e).symm);refine⟨fun q hq hqd=> ?_,fun p hp hpd=> ?_,fun p hp hpd=> ?_,fun _=> ?_⟩
 ·rw[up _ (hin q hq).1] at hqd;exact⟨up' _ (hΦ.ins q hq hqd).1,fun j hj=>up' _ ((hΦ.ins q hq hqd).2 j hj)⟩
 ·by_cases e:p.1=i
  ·rw[hmv p hp (.inl e)];exact⟨up' _ hom,fun hf q hq=>up' _ (hwt _ (all_eq_true.1 (hfull hf) q hq))⟩
  ·rw[up _ e] at hpd;exact⟨up' _ hom,fun hf q hq=>up' _ ((hΦ.mvs p hp hpd).2 hf q hq)⟩
 ·rw[up _ (hit p hp).1] at hpd;exact⟨up' _ hom,fun q hq=>up' _ ((hΦ.it p hp hpd).2 q hq)⟩
 ·obtain⟨m,es,c,k1,k2,k3,k4,k5⟩:=hΦ.map hom;refine⟨m,es,c,k1,k2,fun p hp hpd=> ?_,⟨k4.born,k4.nd,fun e he=> ?_,fun q hq hqd=> ?_⟩,fun p hp hpd=> ?_⟩
  ·by_cases e:p.1=i \/p.2.1=t
   ·rw[hmv p hp e,hd];have hl:t<a.tmps.size:=by omega
    have e2:(a.put (some t) (a.eval (.tmp t'))).eval (.tmp t)=a.eval (.tmp t'):=by simp[Act.put,Act.eval,hl]
    rw[e2];exact k3 _ hm' hj'
   ·rw[ne _ (fun h=>e (.inr h))];rw[up _ (fun h=>e (.inl h))] at hpd;exact k3 p hp hpd
  ·obtain⟨q,hq,q1,q2,q3⟩:=k4.of e he;exact⟨q,hq,up' _ q1,q2,by rw[ne _ (hin q hq).2];exact q3⟩
  ·rw[up _ (hin q hq).1] at hqd;exact k4.all q hq hqd
  ·rw[up _ (hit p hp).1] at hpd;obtain⟨r,r1,r2,r3⟩:=k5 p hp hpd;exact⟨r,r1,r2,by rw[ne _ (hit p hp).2];exact r3⟩
def zzc (kd:TypeDesc)(k k':Value):Prop:=Instr.sameNow kd k k'=some false
theorem ztz {kd:TypeDesc} {k:Value}: ∀ {l:List MapEntry} {i:Nat},(∀e∈l,zzc kd k e.key)->Instr.findNow kd k l i=some none
 |[],_,_=>rfl
 | e::l,i,h=>by
  have h1:Instr.sameNow kd k e.key=some false:=h e (by simp);simp only[Instr.findNow,h1];exact ztz fun e he=>h e (by simp[he])
theorem run_ins {P:Program} {W:World} {mt kt et:TypeId} {kd:TypeDesc} {b c:Nat} {es:Array MapEntry} {k:Value} (v:Value)(hm:P.underlying mt=some (.map kt et))(hkt:P.underlying kt=some kd)(hk:MapKept.IsKey kd k)(hb:W.heap[b]? =some (.map es c))(hno: ∀e∈es.toList,zzc kd k e.key):
 (Instr.mapUpdate mt (.map (some b)) k v).run P W= .ok () (setBlock W b (.map (es.push ⟨k,v,c⟩) (c+1))):=by
 unfold Instr.mapUpdate;simp only[Sem.run_bind,run_underlying hm,Result.andThen_ok,MapKept.run_getObj_map hb,MapKept.run_checkKey hkt hk,MapKept.run_findKey hkt (ztz hno)];rw[MapKept.run_setObj_map _ hb];rfl
theorem zik (hIT:ITMono IT)(hF:FenceOk F P) {t kt et tm tv j':Nat} {f':Bool} {kd:TypeDesc} {k:Value} (hg:o.guard=none)(hop:o.op= .insert t (.tmp tm) (.const k) (.tmp tv))(hd:o.dst=none)(ho:ops[i]? =some o)(hu:P.underlying t=some (.map kt et))(hkt:P.underlying kt=some kd)(hk:MapKept.IsKey kd k)(hi:Mi.om≠i)(hm:(i,k,tv)∈Mi.ins)(hm':(j',tm,f')∈Mi.mvs)(hj:zbp ops j'=some tm)
 (hin: ∀q∈Mi.ins,q=(i,k,tv) \/(q.1≠i/\ zzc kd k q.2.1)) (hmv: ∀p∈Mi.mvs,p.1≠i) (hit: ∀p∈Mi.it,p.1≠i) (hsg: ∀d,sg (zjy d i)=sg d):qak IT P F nn B K X0 ops E sg (MpOk ops Mi X0.w.heap.size) i o (.raw undef):=by
 refine⟨hg,fun d S' X a next hs hd' hkk hbe hwt hwr hr hsz hn hΦ hK=> ?_⟩;have up: ∀j,j≠i->zjy d i j=d j:=fun j hj=>zba hj;have up': ∀j,d j=true->zjy d i j=true:=fun j hj=>by
  by_cases e:j=i
  ·subst e;rw[hd'] at hj;cases hj
  ·rw[up j e];exact hj
 have hlk: ∀t1,t1=tm \/t1=tv->t1∈zgl ops i:=fun t1 h=>by
  simp only[zgl,ho,hop];refine mem_append.2 (.inl (zfg ?_));rcases h with rfl|rfl<;>simp[Op.operands]
 have hj':d j'=true:=hwr j' tm hj (hlk _ (.inl rfl));have hom:=(hΦ.mvs _ hm' hj').1;obtain⟨m,es,c,k1,k2,k3,k4,k5⟩:=hΦ.map hom;have hno: ∀e∈es.toList,zzc kd k e.key:=fun e he=>by
  obtain⟨q,hq,q1,q2,q3⟩:=k4.of e he;rcases hin q hq with rfl|⟨_,h⟩
  ·rw[hd'] at q1;cases q1
  ·rw[q2];exact h
 unfold Oper.wpIn;refine⟨fun f _=>hF.fn f,?_⟩;rw[Oper.semAt_plain F _ _ (by intro c hc;rw[hop] at hc;cases hc)];have r1:(execOp a.eval o).run P X.w= .ok .skip (setBlock X.w m (.map (es.push ⟨k,a.eval (.tmp tv),c⟩) (c+1))):=by
  have e1:a.eval (.tmp tm)= .map (some m):=k3 _ hm' hj';have e2:a.eval (.const k)=k:=rfl;simp only[execOp,hop,e1,e2,Sem.run_bind,run_ins (a.eval (.tmp tv)) hu hkt hk k2 hno];rfl
 rw[r1];have hsd:=z7v (.map (es.push ⟨k,a.eval (.tmp tv),c⟩) (c+1)) k2 rfl (fun _ h=>by cases h);have n1:=zso hIT k1 hn hsd;have n2:=zbz (P:=P) (M:=none) trivial hIT n1 (Ext.refl _) n1.inv ⟨rfl,rfl⟩ o.dst (x:= .raw undef) (v:=undef) (by rw[Rep]);refine hK _ _ (by rw[hsg];exact n2) ?_;have ev: ∀t1,(a.put o.dst undef).eval (.tmp t1)=a.eval (.tmp t1):=fun t1=>zeq _ _ _ _ (by rw[hd];intro e;cases e);have hml:m<X.w.heap.size:=(Array.getElem?_eq_some_iff.1 k2).1;refine⟨fun q hq hqd=> ?_,fun p hp hpd=> ?_,fun p hp hpd=> ?_,fun _=>⟨m,es.push ⟨k,a.eval (.tmp tv),c⟩,c+1,k1,by simp[setBlock,hml],fun p hp hpd=> ?_,⟨fun e he=> ?_,?_,fun e he=> ?_,fun q hq hqd=> ?_⟩,fun p hp hpd=> ?_⟩⟩
 ·rcases hin q hq with rfl|⟨h,_⟩
  ·exact⟨up' _ hom,fun j hj=>up' _ (hwr j tv hj (hlk _ (.inr rfl)))⟩
  ·rw[up _ h] at hqd;exact⟨up' _ hom,fun j hj=>up' _ ((hΦ.ins q hq hqd).2 j hj)⟩
 ·rw[up _ (hmv p hp)] at hpd;exact⟨up' _ hom,fun hf q hq=>up' _ ((hΦ.mvs p hp hpd).2 hf q hq)⟩
 ·rw[up _ (hit p hp)] at hpd;exact⟨up' _ hom,fun q hq=>up' _ ((hΦ.it p hp hpd).2 q hq)⟩
 ·rw[up _ (hmv p hp)] at hpd;rw[ev];exact k3 p hp hpd
 ·rcases mem_append.1 (by simpa using he:e∈es.toList++[(⟨k,a.eval (.tmp tv),c⟩:MapEntry)]) with he|he
  ·have:=k4.born e he;omega
  ·simp at he;subst he;simp
 ·rw[Array.toList_push,List.map_append];refine List.nodup_append.2 ⟨k4.nd,by simp,fun x hx y hy e=> ?_⟩;obtain⟨e',he',rfl⟩:=List.mem_map.1 hx;simp at hy;have:=k4.born e' he';omega
 ·rcases mem_append.1 (by simpa using he:e∈es.toList++[(⟨k,a.eval (.tmp tv),c⟩:MapEntry)]) with he|he
  ·obtain⟨q,hq,q1,q2,q3⟩:=k4.of e he;exact⟨q,hq,up' _ q1,q2,by rw[ev];exact q3⟩
  ·simp at he;subst he;exact⟨_,hm,zdk _ _,rfl,(ev _).symm⟩
 ·rcases hin q hq with rfl|⟨h,_⟩
  ·exact⟨⟨k,a.eval (.tmp tv),c⟩,by simp,rfl⟩
  ·rw[up _ h] at hqd;obtain⟨e,he,hk⟩:=k4.all q hq hqd;exact⟨e,by simp[he],hk⟩
 ·rw[up _ (hit p hp)] at hpd;have:=(hΦ.it p hp hpd).2 _ hm;rw[hd'] at this;cases this
theorem du_look (hIT:ITMono IT)(hF:FenceOk F P) {tm j':Nat} (hg:o.guard=none)(hdf: ∀c,o.op≠ .defer c)(ho:ops[i]? =some o)(hb:qoa Mi i o.dst=true)(hm':(j',tm,true)∈Mi.mvs)(hj:zbp ops j'=some tm)(htm:tm∈zgl ops i)(hsg: ∀d,sg (zjy d i)=sg d)
 (h: ∀(X:Cx) (a:Act) (m c:Nat) (es:Array MapEntry),X.w.heap[m]? =some (.map es c)->a.eval (.tmp tm)= .map (some m)->(∀y∈o.op.operands,Rep IT X (zbw E y) (a.eval y))->(∀e∈es.toList,∃q∈Mi.ins,e.key=q.2.1/\ Rep IT X (E[q.2.2]?.getD (.raw undef)) e.val)->(∀q∈Mi.ins,∃e∈es.toList,e.key=q.2.1)-> ∃v,(execOp a.eval o).run P X.w= .ok (.value v) X.w/\ Rep IT X x v)
 :qak IT P F nn B K X0 ops E sg (MpOk ops Mi X0.w.heap.size) i o x:=by
 refine⟨hg,fun d S' X a next hs hd' hkk hbe hwt hwr hr hsz hn hΦ hK=> ?_⟩;have hj':d j'=true:=hwr j' tm hj htm;obtain⟨hom,hall⟩:=hΦ.mvs _ hm' hj';obtain⟨m,es,c,k1,k2,k3,k4,k5⟩:=hΦ.map hom;obtain⟨v,r1,r2⟩:=h X a m c es k2 (k3 _ hm' hj') hr (fun e he=>by
  obtain⟨q,hq,q1,q2,q3⟩:=k4.of e he;refine⟨q,hq,q2,?_⟩;rw[q3, <-hkk _ (hΦ.ins q hq q1).2];exact zde hn.reps (.tmp q.2.2)) (fun q hq=>k4.all q hq (hall rfl q hq))
 unfold Oper.wpIn;refine⟨fun f _=>hF.fn f,?_⟩;rw[Oper.semAt_plain F _ _ hdf,r1];have n2:=zbz (P:=P) (M:=none) trivial hIT hn (Ext.refl _) hn.inv ⟨rfl,rfl⟩ o.dst r2;exact hK _ _ (by rw[hsg];exact n2) (qir hΦ hb hd' (by rw[zbp,ho];rfl) fun k o' hk hc=>hk)
def sgL (U0:St):List (Nat×St)->(Nat->Bool)->St
 |[],_=>U0
 |(p,U)::l,d=>bif d p then U else sgL U0 l d
theorem qek {β:Type} {f:St->β} {y:β} {U0:St}: ∀ {l:List (Nat×St)},f U0=y->(∀p∈l,f p.2=y)->f (sgL U0 l d)=y
 |[],h,_=>h
 | (p,U)::l,h,k=>by
  rw[sgL];cases d p
  ·exact qek (l:=l) h fun q hq=>k q (by simp[hq])
  ·exact k (p,U) (by simp)
theorem qnf {α:Type} {p:α->Prop} {x:α} {l:List α} (h:p x)(k: ∀y∈l,p y): ∀y∈x::l,p y:=fun y hy=>by
 rcases mem_cons.1 hy with rfl|hy
 ·exact h
 ·exact k y hy
theorem zvu {α:Type} {p:α->Prop}: ∀y∈([]:List α),p y:=fun y hy=>by cases hy
theorem d_l (hIT:ITMono IT)(hF:FenceOk F P) {U0:St} {l:List (Nat×St)} (h0:qop P (zbw E) U0 o=some x)(h: ∀p∈l,qop P (zbw E) p.2 o=some x)(hg:o.guard=none:=by exact rfl)(hb:qoa Mi i o.dst=true:=by exact rfl)(hs: ∀d,sgL U0 l (zjy d i)=sgL U0 l d:=by exact fun _=>rfl)(ho:ops[i]? =some o):qak IT P F nn B K X0 ops E (sgL U0 l) (MpOk ops Mi X0.w.heap.size) i o x:=
 z9m hIT hF ho hg hb fun d _ _ _=>by rw[hs];exact .inr (.inl (by unfold aop;rw[qek (f:=fun U=>qop P (zbw E) U o) h0 h]))
theorem d_q (hIT:ITMono IT)(hF:FenceOk F P)(h: ∀U,qop P (zbw E) U o=some x)(hg:o.guard=none:=by exact rfl)(hb:qoa Mi i o.dst=true:=by exact rfl)(hs: ∀d,sg (zjy d i)=sg d:=by exact fun _=>rfl)(ho:ops[i]? =some o):qak IT P F nn B K X0 ops E sg (MpOk ops Mi X0.w.heap.size) i o x:=
 z9m hIT hF ho hg hb fun d _ _ _=>by rw[hs];exact .inr (.inl (by unfold aop;rw[h]))
theorem d_c (hIT:ITMono IT)(hF:FenceOk F P) {f:FuncId} {args args':List AV} (hp:Pure IT P f args' x)(hc:zct E o=some (f,args):=by exact rfl)(hst:stripL args=args':=by kernel_rfl)(hok:zac 0 args=true:=by kernel_rfl)(hg:o.guard=none:=by exact rfl)(hb:qoa Mi i o.dst=true:=by exact rfl)(hs: ∀d,sg (zjy d i)=sg d:=by exact fun _=>rfl)(ho:ops[i]? =some o):qak IT P F nn B K X0 ops E sg (MpOk ops Mi X0.w.heap.size) i o x:=
 z9m hIT hF ho hg hb fun d _ _ _=>by rw[hs];exact .inl ⟨f,args,hc,rfl,hok,by rw[hst];exact hp⟩
theorem d_s (hIT:ITMono IT)(hF:FenceOk F P)(h: ∀d,d i=false->(∀j,zhi ops j i=true->d j=false)->(∀j,zhi ops i j=true->d j=true)->aop P (zbw E) (sg d) o=some (x,sg (zjy d i)))(hg:o.guard=none:=by exact rfl)(hb:qoa Mi i o.dst=true:=by exact rfl)(ho:ops[i]? =some o):qak IT P F nn B K X0 ops E sg (MpOk ops Mi X0.w.heap.size) i o x:=
 z9m hIT hF ho hg hb fun d h1 h2 h3=> .inr (.inl (h d h1 h2 h3))
def qcz (IT:IterP)(P:Program)(F:Fence)(nn B:Nat)(K:Exit->Act->World->Prop)(X0:Cx)(ops:Array Oper)(E:List AV)(sg:(Nat->Bool)->St)(Φ:(Nat->Bool)->Act->World->Prop):Nat->List Oper->List AV->Prop
 |i,o::l,x::vs=>(ops[i]? =some o->qak IT P F nn B K X0 ops E sg Φ i o x)/\ qcz IT P F nn B K X0 ops E sg Φ (i+1) l vs
 |_,[],[]=>True
 |_,_,_=>False
theorem zyq {Φ:(Nat->Bool)->Act->World->Prop}: ∀(l:List Oper) (vs:List AV) (k:Nat),qcz IT P F nn B K X0 ops E sg Φ k l vs->l.length=vs.length/\ ∀j o x,l[j]? =some o->vs[j]? =some x->ops[k+j]? =some o->qak IT P F nn B K X0 ops E sg Φ (k+j) o x
 |[],[],k,_=>⟨rfl,fun j o x h=>by simp at h⟩
 |[],_::_,_,h=>h.elim
 |_::_,[],_,h=>h.elim
 | o::l,a::vs,k,⟨h1,h2⟩=>by
  obtain⟨e,h3⟩:=zyq l vs (k+1) h2;refine⟨by simp[e],fun j o' x hj hx ho=> ?_⟩;cases j with
  |zero=>simp at hj hx;subst hj hx;exact h1 ho
  |succ j=>simp at hj hx;rw[show k+(j+1)=k+1+j by omega] at ho⊢;exact h3 j o' x hj hx ho
def bndB (Mi:MI)(n:Nat):Bool:=decide (Mi.om<n)&&(Mi.mvs.all fun p=>decide (p.1<n))&&(Mi.ins.all fun p=>decide (p.1<n))&&Mi.it.all fun p=>decide (p.1<n)
theorem zyc {a:Act} {w:World} (h:bndB Mi ops.size=true):MpOk ops Mi n0 (fun j=>Nat.ble ops.size j) a w:=by
 unfold bndB at h;simp only[Bool.and_eq_true,all_eq_true,decide_eq_true_eq] at h;obtain⟨⟨⟨h1,h2⟩,h3⟩,h4⟩:=h;have no: ∀ {j},j<ops.size-> ¬Nat.ble ops.size j=true:=fun hj h=>by have:=le_of_ble_eq_true h;omega
 exact⟨fun q hq h=>absurd h (no (h3 q hq)),fun q hq h=>absurd h (no (h2 q hq)),fun q hq h=>absurd h (no (h4 q hq)),fun h=>absurd h (no h1)⟩
end
theorem z2b {kd:TypeDesc} {k:Value}: ∀ {l:List MapEntry} {i:Nat},(∀e∈l,∃b,Instr.sameNow kd k e.key=some b)->(∃e∈l,Instr.sameNow kd k e.key=some true)-> ∃j e,e∈l/\ Instr.sameNow kd k e.key=some true/\ Instr.findNow kd k l i=some (some (j,e.val))
 |[],_,_,⟨e,he,_⟩=>by cases he
 | e ::l,i,h,⟨f,hf,hk⟩=>by
  obtain⟨b,hb⟩:=h e (by simp);cases b with
  |true=>exact⟨i,e,by simp,hb,by simp only[Instr.findNow,hb]⟩
  | false=>
   obtain⟨j,e',h1,h2,h3⟩:=z2b (l:=l) (i:=i+1) (fun e he=>h e (by simp[he])) (by
    rcases mem_cons.1 hf with rfl|hf
    ·rw[hb] at hk;cases hk
    ·exact⟨f,hf,hk⟩)
   exact⟨j,e',by simp[h1],h2,by simp only[Instr.findNow,hb];exact h3⟩
def zka (i:Nat):Code->Option (Array Oper)
 | .region j ops _=>if i=j then some ops else none
 | .seq x y=>match zka i x with|some r=>some r|none=>zka i y
 | .cond _ x y=>match zka i x with|some r=>some r|none=>zka i y
 | .block _ x=>zka i x
 | .loop x=>zka i x
 | .scope x=>zka i x
 | .rangeFunc _ _ x y=>match zka i x with|some r=>some r|none=>zka i y
 |_=>none
theorem sem_map {IT:IterP} {P:Program} (hIT:ITMono IT)(hmix:P.follows .mixedOrders=true) {id:Nat} {ops:Array Oper} {S E vs:List AV} {U U':St} {sg:(Nat->Bool)->St} (Mi:MI)
 (hall: ∀ {F:Fence} {nn B:Nat} {K:Exit->Act->World->Prop} {X0:Cx},FenceOk F P->qcz IT P F nn B K X0 ops E sg (MpOk ops Mi X0.w.heap.size) 0 ops.toList vs)
 (hE:zgq ops.toList vs S=E:=by kernel_rfl) (hfl:(qpo ops S.length&&zyg ops)=true:=by kernel_rfl) (hσ:sg (fun j=>Nat.ble ops.size j)=U:=by kernel_rfl) (hσ':sg (fun _=>true)=U':=by kernel_rfl) (hb:bndB Mi ops.size=true:=by kernel_rfl):qjg IT P (.region id ops true) S U E U':=by
 intro F nn B X0 X a hF hI0 hn hfe;rw[Bool.and_eq_true] at hfl;obtain⟨hl,hat⟩:=zyq _ _ _ (hall (nn:=nn) (B:=B) (K:=fun e a' w'=>e= .normal/\ ∃X',X'.w=w'/\ Now IT none F B X0 E U' X' a') (X0:=X0) hF);refine qfi hIT hF hmix (MpOk ops Mi X0.w.heap.size) hE hl hfl.1 hfl.2 hσ (zyc hb) hn (fun i o x ho hx=> ?_) fun X a hn hΦ=>⟨rfl,X,rfl,hσ'▸hn⟩;have:=hat i o x (by rw[<-ho,Array.getElem?_toList]) hx (by rw[Nat.zero_add];exact ho);rw[Nat.zero_add] at this;exact this
end Go.Ab
namespace Go.Ab
open Go Go.RowKit Go.Fwd Go.Proofs
def z4j (d w p:BS)(c:UInt8):BS×Bool:=if c=100 then(d,true) else if c=119 then(w,true) else if c=115 then(p,true) else(0#256,false)
def miS:MI:=⟨0,[(0,27,false),(8,32,true)],[(2,.int .u8 100,28),(4,.int .u8 119,29),(7,.int .u8 115,31)],[]⟩
theorem z9l {P:Program} {w:World} {t kt et:TypeId} {ie:TypeInfo} {z:Value} {m c:Nat} {es:Array MapEntry} {k:Int} (hu:P.underlying t=some (.map kt et))(hk:P.underlying kt=some (.int .u8))(hb:w.heap[m]? =some (.map es c)):
 (∀ {v:Value} {j:Nat},Instr.findNow (.int .u8) (.int .u8 k) es.toList 0=some (some (j,v))->(Instr.lookup t (.map (some m)) (.int .u8 k) true).run P w= .ok (.tuple #[v,.bool true]) w)/\
 (Instr.findNow (.int .u8) (.int .u8 k) es.toList 0=some none->(zeroValue et).run P w= .ok z w->(Instr.lookup t (.map (some m)) (.int .u8 k) true).run P w= .ok (.tuple #[z,.bool false]) w):=by
 refine⟨fun {v j} hf=> ?_,fun hf hz=> ?_⟩
 ·unfold Instr.lookup;simp only[Sem.run_bind,run_underlying hu,Result.andThen_ok,MapKept.run_getObj_map hb,Sem.run_pure,MapKept.run_checkKey hk (k:= .int .u8 k) rfl,MapKept.run_findKey hk hf];rfl
 ·unfold Instr.lookup;simp only[Sem.run_bind,run_underlying hu,Result.andThen_ok,MapKept.run_getObj_map hb,Sem.run_pure,MapKept.run_checkKey hk (k:= .int .u8 k) rfl,MapKept.run_findKey hk hf,hz];rfl
theorem qcn {X:Cx} {m c:Nat} {es:Array MapEntry} {x2 x8 x9:BS} {x10:UInt8} {x11:BS×Bool} {R:Value->Prop} (hu:prog.underlying 205=some (.map 5 24))(hk:prog.underlying 5=some (.int .u8))(hz:(zeroValue 24).run prog X.w= .ok (.agg #[.int .u64 0,.int .u64 0,.int .u64 0,.int .u64 0]) X.w)(hm:X.w.heap[m]? =some (.map es c))
 (hk3: ∀e∈es.toList,(e.key= .int .u8 100/\ Rep (ITP prog) X (.agg (Enc.cells x2)) e.val) \/(e.key= .int .u8 119/\ Rep (ITP prog) X (.agg (Enc.cells x8)) e.val) \/(e.key= .int .u8 115/\ Rep (ITP prog) X (.agg (Enc.cells x9)) e.val))
 (hall:(∃e∈es.toList,e.key= .int .u8 100)/\ (∃e∈es.toList,e.key= .int .u8 119)/\ ∃e∈es.toList,e.key= .int .u8 115) (hx:z4j x2 x8 x9 x10=x11)
 (hR: ∀v,(Instr.lookup 205 (.map (some m)) (.int .u8 (((x10).toNat:Nat):Int)) true).run prog X.w= .ok v X.w->R v): ∃v,R v/\ Rep (ITP prog) X (.tup [.agg (Enc.cells (x11.1:BS)),.raw (.bool x11.2)]) v:=by
 have rep: ∀(x:BS) (b:Bool) (u:Value),Rep (ITP prog) X (.agg (Enc.cells x)) u->Rep (ITP prog) X (.tup [.agg (Enc.cells x),.raw (.bool b)]) (.tuple #[u,.bool b]):=fun x b u h=>by
  rw[Rep];exact⟨[u,.bool b],rfl,u,[.bool b],rfl,h,.bool b,[],rfl,rfl,rfl⟩
 have hn: ∀k:Nat,x10=UInt8.ofNat k->k<256->(((x10).toNat:Nat):Int)=k:=fun k h hk=>by subst h;simp;omega
 have hsn: ∀e∈es.toList,∀k:Int,∃b,Instr.sameNow (.int .u8) (.int .u8 k) e.key=some b:=fun e he k=>by
  rcases hk3 e he with⟨h,_⟩|⟨h,_⟩|⟨h,_⟩<;>rw[h]<;>exact⟨_,rfl⟩
 have got: ∀(k:Int) (x:BS),(((x10).toNat:Nat):Int)=k->(∃e∈es.toList,e.key= .int .u8 k)->(∀e∈es.toList,e.key= .int .u8 k->Rep (ITP prog) X (.agg (Enc.cells x)) e.val)-> ∃v,R v/\ Rep (ITP prog) X (.tup [.agg (Enc.cells x),.raw (.bool true)]) v:=fun k x hk0 hex hrep=>by
  obtain⟨e0,he0,hke⟩:=hex;obtain⟨j,e,he,hs,hf⟩:=z2b (kd:= .int .u8) (k:= .int .u8 k) (l:=es.toList) (i:=0) (fun e he=>hsn e he k) ⟨e0,he0,by rw[hke];simp[Instr.sameNow]⟩;have hke:e.key= .int .u8 k:=by
   rcases hk3 e he with⟨h,_⟩|⟨h,_⟩|⟨h,_⟩<;>rw[h] at hs⊢ <;>simp[Instr.sameNow] at hs<;>rw[hs]
  exact⟨.tuple #[e.val,.bool true],hR _ (by rw[hk0];exact(z9l (ie:=default) (z:=default) hu hk hm).1 hf),rep _ _ _ (hrep e he hke)⟩
 unfold z4j at hx;split at hx
 ·rename_i h;subst hx;exact got 100 x2 (hn 100 h (by decide)) hall.1 fun e he hke=>by
   rcases hk3 e he with⟨_,h⟩|⟨h,_⟩|⟨h,_⟩
   ·exact h
   ·rw[h] at hke;cases hke
   ·rw[h] at hke;cases hke
 ·rename_i n1;split at hx
  ·rename_i h;subst hx;exact got 119 x8 (hn 119 h (by decide)) hall.2.1 fun e he hke=>by
    rcases hk3 e he with⟨h,_⟩|⟨_,h⟩|⟨h,_⟩
    ·rw[h] at hke;cases hke
    ·exact h
    ·rw[h] at hke;cases hke
  ·rename_i n2;split at hx
   ·rename_i h;subst hx;exact got 115 x9 (hn 115 h (by decide)) hall.2.2 fun e he hke=>by
     rcases hk3 e he with⟨h,_⟩|⟨h,_⟩|⟨_,h⟩
     ·rw[h] at hke;cases hke
     ·rw[h] at hke;cases hke
     ·exact h
   ·rename_i n3;subst hx;have ne: ∀k:Nat,k<256->x10≠UInt8.ofNat k-> ¬(((x10).toNat:Nat):Int)=(k:Int):=fun k hk h h2=>h (by
     have:x10.toNat=k:=by omega
     rw[<-this];simp)
    have hnone:Instr.findNow (.int .u8) (.int .u8 (((x10).toNat:Nat):Int)) es.toList 0=some none:=ztz fun e he=>by
     rcases hk3 e he with⟨h,_⟩|⟨h,_⟩|⟨h,_⟩<;>rw[h]<;>simp only[zzc,Instr.sameNow,if_true,Option.some.injEq,beq_eq_false_iff_ne,ne_eq]
     ·exact ne 100 (by decide) n1
     ·exact ne 119 (by decide) n2
     ·exact ne 115 (by decide) n3
    refine⟨_,hR _ ((z9l (ie:=default) hu hk hm).2 hnone hz),rep _ _ _ ?_⟩;rw[Rep];have hc:(Enc.cells (0#256:BS))=[.raw (.int .u64 0),.raw (.int .u64 0),.raw (.int .u64 0),.raw (.int .u64 0)]:=by kernel_rfl
    refine⟨[.int .u64 0,.int .u64 0,.int .u64 0,.int .u64 0],rfl,?_,by simp[Value.oneCell']⟩;rw[hc];exact zlj [.int .u64 0,.int .u64 0,.int .u64 0,.int .u64 0]
theorem short5 (fuel:Nat)(s:List UInt8)(x1 x10:UInt8)(x2 x3 x4 x5 x6 x7 x8 x9:BS)(x11:BS×Bool)(hx9:zex fuel ([9,10,13,32]:List UInt8)=some x9)(g:0<=(1:Int)/\ (1:Int)<(length s:Int))(hx10:ix s (1:Int)=x10)(hx11:z4j x2 x8 x9 x10=x11) {id:Nat} {ops:Array Oper} (hops:(do let c<-Tryz.f115.body;zka 5 c)=some ops):
 qjg (ITP prog) prog (.region id ops true) (.raw (.string (bs s)):: .raw undef:: .ptr 0 0:: .raw (.bool false):: .ptr 1 0:: .ptr 2 0:: .raw undef:: .raw undef:: .raw (.string (bs s)):: .raw (.int .i64 (length s:Int)):: .raw (.bool (decide ((length s:Int)<2))):: .raw (.bool false):: .raw (.string (bs s)):: .raw (.int .u8 (((x1).toNat:Nat):Int)):: .raw (.bool ((((x1).toNat:Nat):Int) !=92)):: .raw (.bool ((((x1).toNat:Nat):Int) !=92)):: .raw undef:: .agg (Enc.cells (x2:BS)):: .agg (Enc.cells (x3:BS)):: .agg (Enc.cells (x4:BS)):: .agg (Enc.cells (x5:BS)):: .agg (Enc.cells (x2:BS)):: .list (length (([95]:List UInt8):List UInt8)) (Enc.cellsL (([95]:List UInt8):List UInt8)) .full:: .agg (Enc.cells (x6:BS)):: .agg (Enc.cells (x7:BS)):: .agg (Enc.cells (x8:BS)):: .raw undef:: .raw undef:: .raw undef:: .raw undef:: .raw undef:: .raw undef:: .raw undef:: .raw undef:: .raw undef:: .raw undef:: .raw undef:: .raw undef:: .raw undef:: .raw undef::[]) ⟨[(24,(Enc.cells (0#256:BS))),(24,(Enc.cells (x2:BS))),(24,(Enc.cells (x8:BS)))],[],[],0,false⟩ (.raw (.string (bs s)):: .raw undef:: .ptr 0 0:: .raw (.bool false):: .ptr 1 0:: .ptr 2 0:: .ptr 3 0:: .raw (.bool x11.2):: .raw (.string (bs s)):: .raw (.int .i64 (length s:Int)):: .raw (.bool (decide ((length s:Int)<2))):: .raw (.bool false):: .raw (.string (bs s)):: .raw (.int .u8 (((x1).toNat:Nat):Int)):: .raw (.bool ((((x1).toNat:Nat):Int) !=92)):: .raw (.bool ((((x1).toNat:Nat):Int) !=92)):: .raw undef:: .agg (Enc.cells (x2:BS)):: .agg (Enc.cells (x3:BS)):: .agg (Enc.cells (x4:BS)):: .agg (Enc.cells (x5:BS)):: .agg (Enc.cells (x2:BS)):: .list (length (([95]:List UInt8):List UInt8)) (Enc.cellsL (([95]:List UInt8):List UInt8)) .full:: .agg (Enc.cells (x6:BS)):: .agg (Enc.cells (x7:BS)):: .agg (Enc.cells (x8:BS)):: .tup [.agg (Enc.cells (x11.1:BS)),.raw (.bool x11.2)]:: .top:: .agg (Enc.cells (x2:BS)):: .agg (Enc.cells (x8:BS)):: .list (length (([9,10,13,32]:List UInt8):List UInt8)) (Enc.cellsL (([9,10,13,32]:List UInt8):List UInt8)) .full:: .agg (Enc.cells (x9:BS)):: .top:: .raw (.string (bs s)):: .raw (.int .u8 (((x10).toNat:Nat):Int)):: .tup [.agg (Enc.cells (x11.1:BS)),.raw (.bool x11.2)]:: .agg (Enc.cells (x11.1:BS)):: .raw (.bool x11.2):: .raw undef:: .raw undef::[]) ⟨[(24,(Enc.cells (0#256:BS))),(24,(Enc.cells (x2:BS))),(24,(Enc.cells (x8:BS))),(24,(Enc.cells (x11.1:BS)))],[],[],0,false⟩:=by
 cases hops;refine sem_map (ze _) mix (sg:=sgL ⟨[(24,(Enc.cells (0#256:BS))),(24,(Enc.cells (x2:BS))),(24,(Enc.cells (x8:BS)))],[],[],0,false⟩ [(16,⟨[(24,(Enc.cells (0#256:BS))),(24,(Enc.cells (x2:BS))),(24,(Enc.cells (x8:BS))),(24,(Enc.cells (x11.1:BS)))],[],[],0,false⟩),(15,⟨[(24,(Enc.cells (0#256:BS))),(24,(Enc.cells (x2:BS))),(24,(Enc.cells (x8:BS))),(24,(Enc.cells (0#256:BS)))],[],[],0,false⟩)]) (vs:=[.top,.agg (Enc.cells (x2:BS)),.raw undef,.agg (Enc.cells (x8:BS)),.raw undef,.list (length (([9,10,13,32]:List UInt8):List UInt8)) (Enc.cellsL (([9,10,13,32]:List UInt8):List UInt8)) .full,.agg (Enc.cells (x9:BS)),.raw undef,.top,.raw (.string (bs s)),.raw (.int .u8 (((x10).toNat:Nat):Int)),.tup [.agg (Enc.cells (x11.1:BS)),.raw (.bool x11.2)],.tup [.agg (Enc.cells (x11.1:BS)),.raw (.bool x11.2)],.agg (Enc.cells (x11.1:BS)),.raw (.bool x11.2),.ptr 3 0,.raw undef,.raw (.bool x11.2)]) miS (fun hF=> ?_);have ci: ∀(i:Nat) (k:Int) (t:Nat) (q:Nat×Value×Nat),q∈miS.ins->(i,Value.int .u8 k,t)∈[((2:Nat),Value.int .u8 100,(28:Nat)),(4,.int .u8 119,29),(7,.int .u8 115,31)]->q=(i,Value.int .u8 k,t) \/(q.1≠i/\ zzc (.int .u8) (.int .u8 k) q.2.1):=by
  intro i k t q hq h;simp only[miS,mem_cons,List.not_mem_nil,or_false,Prod.mk.injEq,Value.int.injEq,true_and] at hq h;rcases h with⟨rfl,rfl,rfl⟩|⟨rfl,rfl,rfl⟩|⟨rfl,rfl,rfl⟩<;>rcases hq with rfl|rfl|rfl<;>first|exact .inl rfl|exact .inr ⟨by decide,rfl⟩
 refine⟨z6c (ze _) hF rfl rfl rfl rfl (by simp[miS]) (by decide) (by decide) (by decide) (le_of_ble_eq_true rfl) (fun _=>rfl)|>fun h _=>h,d_l (ze _) hF rfl (qnf rfl (qnf rfl zvu)),?_⟩;refine⟨fun ho=>zik (kd:= .int .u8) (j':=0) (tm:=27) (tv:=28) (f':=false) (ze _) hF rfl rfl rfl ho rfl rfl rfl (by decide) (by simp[miS]) (by simp[miS]) rfl (fun q hq=>ci 2 100 28 q hq (by simp)) (by decide) (by decide) (fun _=>rfl),d_l (ze _) hF rfl (qnf rfl (qnf rfl zvu)),?_⟩;refine⟨fun ho=>zik (kd:= .int .u8) (j':=0) (tm:=27) (tv:=29) (f':=false) (ze _) hF rfl rfl rfl ho rfl rfl rfl (by decide) (by simp[miS]) (by simp[miS]) rfl (fun q hq=>ci 4 119 29 q hq (by simp)) (by decide) (by decide) (fun _=>rfl),d_q (ze _) hF (fun _=>zhc (α:=UInt8) (l:=([9,10,13,32]:List UInt8)) (cs:=[.raw (.int .u8 9),.raw (.int .u8 10),.raw (.int .u8 13),.raw (.int .u8 32)]) rfl rfl),?_⟩;refine⟨d_c (ze _) hF (zhn fuel ([9,10,13,32]:List UInt8) x9 hx9),?_⟩;refine⟨fun ho=>zik (kd:= .int .u8) (j':=0) (tm:=27) (tv:=31) (f':=false) (ze _) hF rfl rfl rfl ho rfl rfl rfl (by decide) (by simp[miS]) (by simp[miS]) rfl (fun q hq=>ci 7 115 31 q hq (by simp)) (by decide) (by decide) (fun _=>rfl),?_⟩;refine⟨fun ho=>du_mv (ze _) hF (t:=32) (t':=27) (j':=0) (f:=true) (f':=false) rfl rfl rfl ho (by decide) (by simp[miS]) (by simp[miS]) rfl (by decide) (by decide) (by decide) (le_of_ble_eq_true rfl) (fun _=>rfl) (fun _=>by kernel_rfl),?_⟩;refine⟨d_q (ze _) hF (fun _=>rfl),d_q (ze _) hF (fun _=>by rw[<-hx10];exact zdv (l:=s) (n:=(1:Int)) g rfl rfl rfl rfl),?_⟩;refine⟨fun ho=>du_look (ze _) hF (tm:=32) (j':=8) rfl (fun c hc=>by cases hc) ho rfl (by simp[miS]) rfl (by decide) (fun _=>rfl) ?_,?_⟩
 ·intro X a m c es hm hev hr hent hall;have h34:a.eval (.tmp 34)= .int .u8 (((x10).toNat:Nat):Int):=hr (.tmp 34) (by simp[Op.operands]);have hk3: ∀e∈es.toList,(e.key= .int .u8 100/\ Rep (ITP prog) X (.agg (Enc.cells x2)) e.val) \/(e.key= .int .u8 119/\ Rep (ITP prog) X (.agg (Enc.cells x8)) e.val) \/(e.key= .int .u8 115/\ Rep (ITP prog) X (.agg (Enc.cells x9)) e.val):=fun e he=>by
   obtain⟨q,hq,q1,q2⟩:=hent e he;simp only[miS,mem_cons,List.not_mem_nil,or_false] at hq;rcases hq with rfl|rfl|rfl
   ·exact .inl ⟨q1,q2⟩
   ·exact .inr (.inl ⟨q1,q2⟩)
   ·exact .inr (.inr ⟨q1,q2⟩)
  have hall3:(∃e∈es.toList,e.key= .int .u8 100)/\ (∃e∈es.toList,e.key= .int .u8 119)/\ ∃e∈es.toList,e.key= .int .u8 115:=⟨hall (2,.int .u8 100,28) (by simp[miS]),hall (4,.int .u8 119,29) (by simp[miS]),hall (7,.int .u8 115,31) (by simp[miS])⟩;exact qcn (by kernel_rfl) (by kernel_rfl) (by kernel_rfl) hm hk3 hall3 hx11 (fun v hv=>by
   show(execOp a.eval _).run prog X.w=_
   simp only[execOp,hev,h34,Sem.run_bind,hv];rfl)
 refine⟨d_q (ze _) hF (fun _=>rfl),d_q (ze _) hF (fun _=>rfl),d_q (ze _) hF (fun _=>rfl),?_⟩;refine⟨d_s (ze _) hF (fun d h1 h2 h3=> ?_),d_s (ze _) hF (fun d h1 h2 h3=> ?_),d_q (ze _) hF (fun _=>rfl),trivial⟩
 ·have h16:=h2 16 (by kernel_rfl);simp only[sgL,h16,h1,zdk,zba (show(16:Nat)≠15 by decide),cond_false,cond_true];rfl
 ·have h15:=h3 15 (by kernel_rfl);simp only[sgL,h15,h1,zdk,cond_false,cond_true];rfl
def z0j (fuel:Nat)(s:(List UInt8)):Option (BS×Bool):=
 (bif (decide ((length s:Int)<2)) then(some (0#256,false)) else(chk (0<=(0:Int)/\ (0:Int)<(length s:Int)) (zaz (ix s (0:Int)) (fun x1=>(bif ((((x1).toNat:Nat):Int) !=92) then(some (0#256,false)) else(zaa (zdi fuel 48 57) (fun x2=>(zaa (zdi fuel 97 122) (fun x3=>(zaa (zdi fuel 65 90) (fun x4=>(zaz (x3|||x4) (fun x5=>(zaa (zex fuel ([95]:List UInt8)) (fun x6=>(zaz (x2|||x6) (fun x7=>(zaz (x5|||x7) (fun x8=>(zaa (zex fuel ([9,10,13,32]:List UInt8)) (fun x9=>(chk (0<=(1:Int)/\ (1:Int)<(length s:Int)) (zaz (ix s (1:Int)) (fun x10=>(zaz (z4j x2 x8 x9 x10) (fun x11=>some x11))))))))))))))))))))))))))
theorem ent115:Ent prog 115:=enters_of Tryz.func115 (by kernel_rfl) rfl
theorem qkw (fuel:Nat)(s:(List UInt8))(r:(BS×Bool))(h:z0j fuel s=some r):Pure (ITP prog) prog 115 [.raw (.string (bs s))] (.tup [.agg (Enc.cells (r.1:BS)),.raw (.bool r.2)]):=by
 obtain⟨d,hd⟩: ∃d,Tryz.f115.body=some d:=⟨_,rfl⟩;refine zko mix Tryz.func115 hd ent115 ?_;cases hd;unfold z0j at h;refine zbt (by dsimp only[zai,Tryz.f115,length_cons,length_nil,zero_add,Nat.reduceAdd,Nat.reduceSub,List.replicate,cons_append,nil_append]) (by dsimp only[St.empty]) ?_;refine zj (zb ?_);refine zis (a:= .ptr 0 0) (U'':=⟨[(24,(Enc.cells (0#256:BS)))],[],[],0,false⟩) rfl rfl rfl rfl (by dsimp only[zad,List.set]) rfl ?_;refine zhp (a:= .raw (.bool false)) rfl rfl rfl rfl (by dsimp only[zad,List.set]) ?_;refine zj ?_;refine zj (zb ?_);refine zah ?_;refine zhp (a:= .raw (.int .i64 (length s:Int))) rfl rfl rfl (zbl (zdq rfl rfl rfl)) (by dsimp only[zad,List.set]) ?_;refine zhp (a:= .raw (.bool (decide ((length s:Int)<2)))) rfl rfl rfl rfl (by dsimp only[zad,List.set]) ?_;refine zan h (fun hc1 h=> ?_) (fun hc1 h=> ?_)
 .
  refine zhp (a:= .raw (.bool true)) rfl rfl rfl (zbl (zee rfl hc1)) (by dsimp only[zad,List.set]) ?_
  iterate 3 refine z7k rfl rfl (by decide) (by dsimp only[zad,List.set]) ?_
  refine zhp (a:= .raw (.bool true)) rfl rfl rfl rfl (by dsimp only[zad,List.set]) ?_
  refine zel rfl ?_
  refine zj (zb ?_)
  refine zhp (a:= .agg (Enc.cells (0#256:BS))) rfl rfl rfl rfl (by dsimp only[zad,List.set]) ?_
  refine zis (U'':=⟨[(24,(Enc.cells (0#256:BS)))],[],[],0,false⟩) rfl rfl rfl (zec (n:=4) rfl rfl rfl rfl rfl rfl rfl rfl (by decide)) (by dsimp only[zad,List.set]) rfl ?_
  refine zhp (a:= .raw (.bool false)) rfl rfl rfl rfl (by dsimp only[zad,List.set]) ?_
  exact zez (fun(r:(BS×Bool))=>(.tup [.agg (Enc.cells (r.1:BS)),.raw (.bool r.2)]:AV)) h (a:= .tup [.agg (Enc.cells (0#256:BS)),.raw (.bool false)]) rfl (show zac _ _=true from(za (zbd _ _ (zak (Enc.clo _))) (za rfl rfl))) (show AV.tup (stripL _)=_ from congrArg AV.tup (zu (zdn (zak (Enc.clo _))) (zu rfl rfl)))
 .
  refine zhp (a:= .raw (.bool false)) rfl rfl rfl (zbl (zee rfl hc1)) (by dsimp only[zad,List.set]) ?_
  refine zbj rfl rfl ?_
  refine zah ?_
  refine zbj rfl rfl ?_
  obtain⟨g1,h⟩:=zk h
  obtain⟨x1,hx1,h⟩:=zn h
  refine zhp (a:= .raw (.int .u8 (((x1).toNat:Nat):Int))) rfl rfl rfl (zbl (by rw[<-hx1];exact(zdv (l:=s) (n:=(0:Int)) g1 rfl rfl rfl rfl))) (by dsimp only[zad,List.set]) ?_
  refine zbj rfl rfl ?_
  iterate 2 refine zhp (a:= .raw (.bool ((((x1).toNat:Nat):Int) !=92))) rfl rfl rfl rfl (by dsimp only[zad,List.set]) ?_
  refine zan h (fun hc2 h=> ?_) (fun hc2 h=> ?_)
  .
   refine zum hc2 rfl ?_
   refine zj (zb ?_)
   refine zhp (a:= .agg (Enc.cells (0#256:BS))) rfl rfl rfl rfl (by dsimp only[zad,List.set]) ?_
   refine zis (U'':=⟨[(24,(Enc.cells (0#256:BS)))],[],[],0,false⟩) rfl rfl rfl (zec (n:=4) rfl rfl rfl rfl rfl rfl rfl rfl (by decide)) (by dsimp only[zad,List.set]) rfl ?_
   refine zhp (a:= .raw (.bool false)) rfl rfl rfl rfl (by dsimp only[zad,List.set]) ?_
   exact zez (fun(r:(BS×Bool))=>(.tup [.agg (Enc.cells (r.1:BS)),.raw (.bool r.2)]:AV)) h (a:= .tup [.agg (Enc.cells (0#256:BS)),.raw (.bool false)]) rfl (show zac _ _=true from(za (zbd _ _ (zak (Enc.clo _))) (za rfl rfl))) (show AV.tup (stripL _)=_ from congrArg AV.tup (zu (zdn (zak (Enc.clo _))) (zu rfl rfl)))
  .
   refine zvc hc2 rfl ?_
   refine zj (zb ?_)
   obtain⟨x2,hx2,h⟩:=zm h
   refine zkl (args':=[.raw (.int .u8 48),.raw (.int .u8 57)]) (r:= .agg (Enc.cells (x2:BS))) (zks fuel 48 57 x2 hx2) rfl rfl (zu rfl (zu rfl rfl)) (za rfl (za rfl rfl)) (by dsimp only[zad,List.set]) ?_
   refine zis (a:= .ptr 1 0) (U'':=⟨[(24,(Enc.cells (0#256:BS))),(24,(Enc.cells (0#256:BS)))],[],[],0,false⟩) rfl rfl rfl rfl (by dsimp only[zad,List.set]) rfl ?_
   refine zis (U'':=⟨[(24,(Enc.cells (0#256:BS))),(24,(Enc.cells (x2:BS)))],[],[],0,false⟩) rfl rfl rfl (zec (n:=4) rfl rfl rfl rfl rfl rfl rfl rfl (by decide)) (by dsimp only[zad,List.set]) rfl ?_
   refine zj ?_
   refine w_drawB (k0:=0) (id:=4) 9 (by kernel_rfl) (by kernel_rfl) ?_
   obtain⟨x3,hx3,h⟩:=zm h
   refine zra (args':=[.raw (.int .u8 97),.raw (.int .u8 122)]) (r:= .agg (Enc.cells (x3:BS))) (zks fuel 97 122 x3 hx3) rfl rfl rfl rfl (zu rfl (zu rfl rfl)) (za rfl (za rfl rfl)) (by dsimp only[zad,List.set]) ?_
   obtain⟨x4,hx4,h⟩:=zm h
   refine zra (args':=[.raw (.int .u8 65),.raw (.int .u8 90)]) (r:= .agg (Enc.cells (x4:BS))) (zks fuel 65 90 x4 hx4) rfl rfl rfl rfl (zu rfl (zu rfl rfl)) (za rfl (za rfl rfl)) (by dsimp only[zad,List.set]) ?_
   obtain⟨x5,hx5,h⟩:=zn h
   refine zra (args':=[.agg (Enc.cells (x3:BS)),.agg (Enc.cells (x4:BS))]) (r:= .agg (Enc.cells (x5:BS))) (by rw[<-hx5];exact(qld x3 x4)) rfl rfl rfl rfl (zu (zdn (zak (Enc.clo _))) (zu (zdn (zak (Enc.clo _))) rfl)) (za (zbd _ _ (zak (Enc.clo _))) (za (zbd _ _ (zak (Enc.clo _))) rfl)) (by dsimp only[zad,List.set]) ?_
   refine hB_op (a:= .agg (Enc.cells (x2:BS))) rfl rfl rfl rfl rfl (by dsimp only[zad,List.set]) ?_
   refine hB_op (a:= .list (length (([95]:List UInt8):List UInt8)) (Enc.cellsL (([95]:List UInt8):List UInt8)) .full) rfl rfl rfl rfl (zhc (α:=UInt8) (l:=([95]:List UInt8)) (cs:=[.raw (.int .u8 95)]) rfl rfl) (by dsimp only[zad,List.set]) ?_
   obtain⟨x6,hx6,h⟩:=zm h
   refine zra (args':=[.list (length (([95]:List UInt8):List UInt8)) (Enc.cellsL (([95]:List UInt8):List UInt8)) .none]) (r:= .agg (Enc.cells (x6:BS))) (zhn fuel ([95]:List UInt8) x6 hx6) rfl rfl rfl rfl (zu (zlq (Enc.cloL _)) rfl) (za (zca (Enc.cloL _)) rfl) (by dsimp only[zad,List.set]) ?_
   obtain⟨x7,hx7,h⟩:=zn h
   refine zra (args':=[.agg (Enc.cells (x2:BS)),.agg (Enc.cells (x6:BS))]) (r:= .agg (Enc.cells (x7:BS))) (by rw[<-hx7];exact(qld x2 x6)) rfl rfl rfl rfl (zu (zdn (zak (Enc.clo _))) (zu (zdn (zak (Enc.clo _))) rfl)) (za (zbd _ _ (zak (Enc.clo _))) (za (zbd _ _ (zak (Enc.clo _))) rfl)) (by dsimp only[zad,List.set]) ?_
   obtain⟨x8,hx8,h⟩:=zn h
   refine zra (args':=[.agg (Enc.cells (x5:BS)),.agg (Enc.cells (x7:BS))]) (r:= .agg (Enc.cells (x8:BS))) (by rw[<-hx8];exact(qld x5 x7)) rfl rfl rfl rfl (zu (zdn (zak (Enc.clo _))) (zu (zdn (zak (Enc.clo _))) rfl)) (za (zbd _ _ (zak (Enc.clo _))) (za (zbd _ _ (zak (Enc.clo _))) rfl)) (by dsimp only[zad,List.set]) ?_
   refine hB_new _ rfl rfl rfl rfl rfl rfl (by dsimp only[List.set]) ?_
   refine qnc (n:=2) rfl (show _=(⟨[(24,(Enc.cells (0#256:BS))),(24,(Enc.cells (x2:BS))),(24,(Enc.cells (0#256:BS)))],[],[],0,false⟩:St) from rfl) (by dsimp only[nil_append,cons_append,zpd,List.set,Nat.reduceAdd]) ?_
   refine zis (U'':=⟨[(24,(Enc.cells (0#256:BS))),(24,(Enc.cells (x2:BS))),(24,(Enc.cells (x8:BS)))],[],[],0,false⟩) rfl rfl rfl (zec (n:=4) rfl rfl rfl rfl rfl rfl rfl rfl (by decide)) (by dsimp only[zad,List.set]) rfl ?_
   obtain⟨x9,hx9,h⟩:=zm h
   obtain⟨g2,h⟩:=zk h
   obtain⟨x10,hx10,h⟩:=zn h
   obtain⟨x11,hx11,h⟩:=zn h
   refine qiz (.raw (.string (bs s)):: .raw undef:: .ptr 0 0:: .raw (.bool false):: .ptr 1 0:: .ptr 2 0:: .ptr 3 0:: .raw (.bool x11.2):: .raw (.string (bs s)):: .raw (.int .i64 (length s:Int)):: .raw (.bool (decide ((length s:Int)<2))):: .raw (.bool false):: .raw (.string (bs s)):: .raw (.int .u8 (((x1).toNat:Nat):Int)):: .raw (.bool ((((x1).toNat:Nat):Int) !=92)):: .raw (.bool ((((x1).toNat:Nat):Int) !=92)):: .raw undef:: .agg (Enc.cells (x2:BS)):: .agg (Enc.cells (x3:BS)):: .agg (Enc.cells (x4:BS)):: .agg (Enc.cells (x5:BS)):: .agg (Enc.cells (x2:BS)):: .list (length (([95]:List UInt8):List UInt8)) (Enc.cellsL (([95]:List UInt8):List UInt8)) .full:: .agg (Enc.cells (x6:BS)):: .agg (Enc.cells (x7:BS)):: .agg (Enc.cells (x8:BS)):: .tup [.agg (Enc.cells (x11.1:BS)),.raw (.bool x11.2)]:: .top:: .agg (Enc.cells (x2:BS)):: .agg (Enc.cells (x8:BS)):: .list (length (([9,10,13,32]:List UInt8):List UInt8)) (Enc.cellsL (([9,10,13,32]:List UInt8):List UInt8)) .full:: .agg (Enc.cells (x9:BS)):: .top:: .raw (.string (bs s)):: .raw (.int .u8 (((x10).toNat:Nat):Int)):: .tup [.agg (Enc.cells (x11.1:BS)),.raw (.bool x11.2)]:: .agg (Enc.cells (x11.1:BS)):: .raw (.bool x11.2):: .raw undef:: .raw undef::[]) ⟨[(24,(Enc.cells (0#256:BS))),(24,(Enc.cells (x2:BS))),(24,(Enc.cells (x8:BS))),(24,(Enc.cells (x11.1:BS)))],[],[],0,false⟩ (short5 fuel s x1 x10 x2 x3 x4 x5 x6 x7 x8 x9 x11 hx9 g2 hx10 hx11 rfl) ?_
   refine zj (zb ?_)
   refine zhp (a:= .agg (Enc.cells (x11.1:BS))) rfl rfl rfl rfl (by dsimp only[zad,List.set]) ?_
   refine zah ?_
   refine zis (U'':=⟨[(24,(Enc.cells (x11.1:BS))),(24,(Enc.cells (x2:BS))),(24,(Enc.cells (x8:BS))),(24,(Enc.cells (x11.1:BS)))],[],[],0,false⟩) rfl rfl rfl (zec (n:=4) rfl rfl rfl rfl rfl rfl rfl rfl (by decide)) (by dsimp only[zad,List.set]) rfl ?_
   refine zah ?_
   exact zez (fun(r:(BS×Bool))=>(.tup [.agg (Enc.cells (r.1:BS)),.raw (.bool r.2)]:AV)) h (a:= .tup [.agg (Enc.cells (x11.1:BS)),.raw (.bool x11.2)]) rfl (show zac _ _=true from(za (zbd _ _ (zak (Enc.clo _))) (za rfl rfl))) (show AV.tup (stripL _)=_ from congrArg AV.tup (zu (zdn (zak (Enc.clo _))) (zu rfl rfl)))
def lowS:BS:=BitVec.ofNat 256 10633823807823001954701781295154855936
def uppS:BS:=BitVec.ofNat 256 2475880041677272402379145216
def underS:BS:=BitVec.ofNat 256 39614081257132168796771975168
theorem qkf (l:List UInt8):z0j 100 l=some (zhe l):=by
 have h1:zdi 100 48 57=some digS:=by decide+kernel
 have h2:zdi 100 97 122=some lowS:=by decide+kernel
 have h3:zdi 100 65 90=some uppS:=by decide+kernel
 have h4:zex 100 ([95]:List UInt8)=some underS:=by decide+kernel
 have h5:zex 100 ([9,10,13,32]:List UInt8)=some spcS:=by decide+kernel
 have h6:(lowS|||uppS)|||(digS|||underS)=wrdS:=by decide+kernel
 unfold z0j
 match l with
 |[]=>rfl
 |[a]=>rfl
 | a ::b::t=>
  refine bif_i (fun hc=>by simp only[length_cons,decide_eq_true_eq] at hc;omega) (fun _=> ?_);refine zt ⟨by decide,by simp only[length_cons];omega⟩ ?_;refine zv (fun x1 hx1=> ?_);have hx1:a=x1:=hx1;subst hx1;refine bif_i (fun hc=> ?_) (fun hc=> ?_)
  ·have hn:a≠92:=fun e=>by subst e;simp at hc
   simp[zhe,hn]
  ·have ha:a=92:=by
    simp only[bne_eq_false_iff_eq] at hc;exact UInt8.toNat_inj.1 (show a.toNat=92 by omega)
   subst ha;refine zaf _ h1 (zaf _ h2 (zaf _ h3 (zv fun x5 e5=>zaf _ h4 (zv fun x7 e7=>zv fun x8 e8=>zaf _ h5 (zt ⟨by decide,by simp only[length_cons];omega⟩ (zv fun x10 e10=>zv fun x11 e11=> ?_))))));have e10:b=x10:=e10;subst e5 e7 e10;have e8:wrdS=x8:=h6.symm.trans e8;subst e8 e11;simp[zhe,z4j]
theorem qel (l:List UInt8):Pure (ITP prog) prog 115 [.raw (.string (bs l))] (.tup [.agg (Enc.cells (zhe l).1),.raw (.bool (zhe l).2)]):=qkw 100 l _ (qkf l)
end Go.Ab
