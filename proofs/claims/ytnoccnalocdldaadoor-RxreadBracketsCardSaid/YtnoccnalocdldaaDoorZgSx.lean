import Derived.Shelf.Spec.SlicesInsert
import Derived.Lib.AppendZerosOnto
import Derived.Laws.CopyRow
import Derived.Test.YtnoccnalocdldaaDoorZgR1
set_option linter.all false
set_option maxRecDepth 100000
set_option maxHeartbeats 4000000
namespace Go.Ab
open Go Go.RowKit Go.Fwd
end Go.Ab
namespace Go.Ab
open Go Go.RowKit Go.Fwd Go.Proofs
structure InsLaw (P:Program)(f:FuncId)(S e:TypeId)(sz by':Nat):Prop where
 room: ∀(b n c i vb voff m vc:Nat) (R V:List Value) (t0:TypeId) (tA:TypeId) (kA:Nat) (w:World) (hi:i<n) (hm:0<m) (hroom:n+m≤c) (hc63:n+m≤4611686018427387904) (hvb:vb≠b)
  (hrow:w.heap[b]? =some (.cells R.toArray t0 (0,0))) (hR:c*sz≤R.length) (hone: ∀v∈R.take (n*sz),v.oneCell'=true) (hVl:V.length=m*sz) (hV: ∀j v,V[j]? =some v→w.cell? ⟨vb,voff+j,none⟩=some v) (h1v: ∀v∈V,v.oneCell'=true)
  (hsa:w.shape? vb=some (tA,kA)) (hkA:kA≠0),
  Calls P f #[.slice (some ⟨b,0,none⟩) n c,.int .i64 i,.slice (some ⟨vb,voff,none⟩) m vc] w fun e w'=>
   e= .returned (.slice (some ⟨b,0,none⟩) (n+m) c)∧w'=w.drew.setRow b (R.take (i*sz)++V++(R.drop (i*sz)).take ((n-i)*sz)++R.drop ((n+m)*sz)).toArray
 stop: ∀(base:Option Addr) (n c m vc:Nat) (va:Option Addr) (r:Value) (w w1:World) (hm:0<m) (hnc:n≤c) (hc63:n+m≤4611686018427387904) (hnil:base=none→c=0)
  (hrun:(Builtin.append_ #[S,S] S #[.slice base n c,.slice va m vc]).run P w= .ok r w1),
  Calls P f #[.slice base n c,.int .i64 n,.slice va m vc] w fun e w'=>e= .returned r∧w'=w1
 grow: ∀(b n c i vb voff m vc:Nat) (R V:List Value) (t0:TypeId) (tA:TypeId) (kA:Nat) (w:World) (hi:i<n) (hm:0<m) (hnc:n≤c) (hroom:c<n+m) (hbig:(n+m)*by'≤140737488355328) (hvb:vb<w.heap.size)
  (hrow:w.heap[b]? =some (.cells R.toArray t0 (0,0))) (hR:c*sz≤R.length) (hone: ∀v∈R.take (n*sz),v.oneCell'=true) (hVl:V.length=m*sz) (hV: ∀j v,V[j]? =some v→w.cell? ⟨vb,voff+j,none⟩=some v) (h1v: ∀v∈V,v.oneCell'=true),
  Calls P f #[.slice (some ⟨b,0,none⟩) n c,.int .i64 i,.slice (some ⟨vb,voff,none⟩) m vc] w fun e' w'=>
   ∃G Z,n+m≤G∧e'= .returned (.slice (some ⟨w.heap.size,0,none⟩) (n+m) G)∧Z.length+(n+m)*sz=G*sz∧w'=w.drew.drew.alloc (.cells (R.take (i*sz)++V++(R.drop (i*sz)).take ((n-i)*sz)++Z:List Value).toArray e)
theorem zxe {w:World} {b o:Nat} {v:Value} (h:w.cell? ⟨b,o,none⟩=some v): ∃t k,w.shape? b=some (t,k)∧k≠0∧b<w.heap.size:=by
 unfold World.cell? at h
 unfold World.shape?
 split at h
 ·rename_i c t f hq
  simp only[hq]
  refine⟨t,c.size,rfl,?_,(Array.getElem?_eq_some_iff.1 hq).1⟩
  have:=(Array.getElem?_eq_some_iff.1 h).1
  omega
 ·cases h
section
variable {α:Type} [Enc α]
theorem Enc.ins (l r:List α)(k:Nat):(Enc.cellsL l).take (k*Enc.sz α)++Enc.cellsL r++(Enc.cellsL l).drop (k*Enc.sz α)=Enc.cellsL (l.take k++r++l.drop k):=by
 rw[Enc.take,Enc.drop,Enc.app,Enc.app]
end
theorem z8a {IT:IterP} (hIT:ITMono IT) {σ:St} {X:Cx} (hI:Inv IT σ X) {s b:Nat} {t:TypeId} {cs:List AV} (hs:X.κ[s]? =some b)(hb:σ.boxes[s]? =some (t,cs)):
 ∃X',X'.w=X.w∧Ext X X'∧Inv IT {σ with boxes:=σ.boxes.set s (t,[])} X'∧At IT X' cs b 0:=by
 have hbm:b∈X.κ:=List.mem_of_getElem? hs
 obtain⟨us,zs,k1,k2,k3⟩:=hI.box s b t cs hs hb
 have hul:=zr k2
 have hE:Ext X {X with F:=fun b' o=>X.F b' o∨(b'=b∧o<us.length)}:={Ext.refl X with
  F:=fun _ _ h=> .inl h
  cell:=fun _ _ _=>rfl
  Fnew:=fun b' o h=>h.elim .inl fun h=> .inr (.inr (.inr (h.1▸hbm)))}
 have hK:=zrm hI hb
 refine⟨{X with F:=fun b' o=>X.F b' o∨(b'=b∧o<us.length)},rfl,hE,?_,?_⟩
 ·refine {lens:=hK.lens,elems:=hK.elems,κlen:=hK.κlen,κnd:=hK.κnd,box:= ?_,κF:= ?_,βlen:=hK.βlen,βnd:=hK.βnd,βκ:=hK.βκ,row:= ?_,Ok:= ?_,Fcell:= ?_}
  ·intro s' b' t' cs' hs' hb'
   obtain⟨vs',zs',u1,u2,u3⟩:=hK.box s' b' t' cs' hs' hb'
   exact⟨vs',zs',u1,zaw hIT hE _ _ u2,u3⟩
  ·intro s' b' t' cs' hs' hb' hc o hf
   rcases hf with hf|⟨rfl,hlt⟩
   ·exact hK.κF s' b' t' cs' hs' hb' hc o hf
   ·have hne:cs≠[]:=fun e=>by rw[e] at hul;simp at hul;omega
    have hs0:s<σ.boxes.length:=(List.getElem?_eq_some_iff.1 hb).1
    by_cases e:s=s'
    ·subst e
     have hb'':(σ.boxes.set s (t,[]))[s]? =some (t',cs'):=hb'
     rw[List.getElem?_set_self hs0] at hb''
     cases hb''
     exact hc rfl
    ·have hb'':(σ.boxes.set s (t,[]))[s']? =some (t',cs'):=hb'
     rw[List.getElem?_set_ne e] at hb''
     rcases hI.κnd s s' b' hs hs' e with⟨t0,h0⟩|⟨t0,h0⟩
     ·rw[hb] at h0;exact hne (congrArg Prod.snd (Option.some.inj h0))
     ·rw[hb''] at h0;exact hc (congrArg Prod.snd (Option.some.inj h0))
  ·intro s' r L hr hL
   obtain⟨cur,fz,c1,c2,c3,c4,c5,c6,c7⟩:=hI.row s' r L hr hL
   refine⟨cur,fz,c1,c2,c3,c4,c5,fun o hf=> ?_,c7⟩
   rcases hf with hf|⟨e,_⟩
   ·exact c6 o hf
   ·exact absurd (e▸hbm) (hI.βκ r (List.mem_of_getElem? hr))
  ·intro b' ho
   obtain⟨h1,h2,h3,h4⟩:=hI.Ok b' ho
   exact⟨h1,h2,h3,fun o hf=>hf.elim (h4 o) fun h=>absurd (h.1▸hbm) h2⟩
  ·intro b' o hf
   rcases hf with hf|⟨rfl,hlt⟩
   ·exact hI.Fcell b' o hf
   ·refine⟨us[o],?_⟩
    show X.w.cell? _=_
    rw[cell_of_row _ _ _ _ _ _ k1,List.getElem?_toArray,List.getElem?_append_left hlt]
    exact List.getElem?_eq_getElem hlt
 ·refine zws (fun j hj=> .inr ⟨rfl,by omega⟩) k3 (zaw hIT hE _ _ k2) fun j u hu=> ?_
  show X.w.cell? _=_
  have hj:=(List.getElem?_eq_some_iff.1 hu).1
  rw[cell_of_row _ _ _ _ _ _ k1,Nat.zero_add,List.getElem?_toArray,List.getElem?_append_left hj]
  exact hu
theorem snd_frz {IT:IterP} (hIT:ITMono IT) {α:Type} [Enc α] {P:Program} {f:FuncId} {ar ar':List AV} {r:AV} {σ:St} {s:Nat} {t:TypeId} {l:List α} {fl:Bool} (h:Pure IT P f (.list (List.length l) (Enc.cellsL l) .none   ::ar') r)(has:stripL ar=ar')(hok:zad 0 ar=true)(hb:σ.boxes[s]? =some (t,Enc.cellsL l)):
 Snd IT P f (.bsl s 0 (List.length l) (Enc.sz α) fl::ar) σ r {σ with boxes:=σ.boxes.set s (t,[])}:=by
 refine⟨h.1,fun X vs hI hr=> ?_⟩
 rw[zbk] at hr
 obtain⟨v0,vr,rfl,hv0,hrr⟩:=hr
 have hv0:Bsl X s 0 l.length (Enc.sz α) fl v0:=hv0
 obtain⟨b,c,cur,t1,hκ,rfl,hcap,_,hrow,hfit⟩:=hv0
 obtain⟨X',x1,x2,x3,x4⟩:=z8a hIT hI hκ hb
 have hr':zbk IT X' (.list (List.length l) (Enc.cellsL l) .none::ar) (.slice (some ⟨b,0,none⟩) l.length c::vr):=by
  rw[zbk]
  refine⟨_,vr,rfl,?_,zaw hIT x2 _ _ hrr⟩
  rw[Rep]
  exact⟨_,_,rfl,⟨hcap,fun h=>by cases h⟩,.inr ⟨_,_,rfl,x4⟩,trivial⟩
 have hl:=zja hIT h (args:= .list (List.length l) (Enc.cellsL l) .none::ar) (by rw[Go.Ab.stripL,zcv,Enc.stripL,has]) (by rw[za (zcl (Enc.cloL l)) hok]) x3 hr'
 rw[x1] at hl
 refine hl.mono ?_
 rintro e w' ⟨v,Y,h1,h2,h3,h4,h5,_⟩
 exact⟨v,Y,h1,h2,x2.trans h3,h4,h5⟩
section
variable {IT:IterP} {P:Program} {W:Owed} {k0:Nat}
theorem zgn {x y:Code} {Q:AQ} {S:List AV} {σ:St} (h:awp IT P W k0 x (ztz (fun S σ=> ∃S' σ',Wk k0 S σ S' σ'∧awp IT P W k0 y Q S' σ') Q) S σ):awp IT P W k0 (.seq x y) Q S σ:= .inl h
theorem w_semB {id:Nat} {x:Code} {Q:AQ} {S:List AV} {σ:St} (S':List AV)(σ':St)(hs:qel IT P (.block id x) S σ S' σ')(h:Q .normal S' σ'):awp IT P none k0 (.block id x) Q S σ:= .inr ⟨rfl,S',σ',hs,h⟩
theorem qew {x y:Code} {Q:AQ} {S:List AV} {σ:St} (S':List AV)(σ':St)(hs:qel IT P x S σ S' σ')(h:awp IT P none k0 y Q S' σ'):awp IT P none k0 (.seq x y) Q S σ:= .inr ⟨rfl,S',σ',hs,h⟩
theorem zki {y:Code} {Q:AQ} {S S':List AV} {σ σ':St} (hw:Wk k0 S σ S' σ')(h:awp IT P W k0 y Q S' σ'): ∃S' σ',Wk k0 S σ S' σ'∧awp IT P W k0 y Q S' σ':=⟨S',σ',hw,h⟩
end
end Go.Ab
namespace Go.Ab
open Go Go.RowKit Go.Fwd
theorem zxt {P:Program} {w:World} {t e:TypeId} {row:Array Value} {n:Nat} (hu:P.underlying t=some (.slice e))(he:P.underlying e=some (.int .u8)):
 (convert t t (.slice (some ⟨w.heap.size,0,none⟩) n n)).run P (w.alloc (.cells row e))= .ok (.slice (some ⟨w.heap.size,0,none⟩) n n) (w.alloc (.cells row e (row.size,row.size+1))):=by
 have hsh:(w.alloc (.cells row e)).shape? w.heap.size=some (e,row.size):=by
  unfold World.shape?
  rw[zeq _ _ _ rfl]
 have hfr:(w.alloc (.cells row e)).freeze ⟨w.heap.size,row.size,none⟩ 1=w.alloc (.cells row e (row.size,row.size+1)):=by
  unfold World.freeze World.alloc
  simp only[Nat.one_ne_zero,if_false]
  congr 1
  apply Array.ext_getElem?
  intro i
  rw[Array.getElem?_modify,Array.getElem?_push,Array.getElem?_push]
  by_cases h:w.heap.size=i
  ·subst h;simp
  ·simp[h,Ne.symm h]
 simp[convert,run_underlying hu,run_underlying he,markStringish,shape,freeze,Sem.run,hsh,hfr]
theorem qct {IT:IterP} (hIT:ITMono IT) {P:Program} {id:Nat} {ops:Array Oper} {o1 o2:Oper} {rest:List Oper} {S S':List AV} {σ σ':St} {t e:TypeId} {n sz d1 d2:Nat} {parts:Array (Nat×Operand)} {cs:List AV}
 (hops:ops.toList=o1::o2::rest) (ho1:o1.op= .buildSlice t n parts) (hd1:o1.dst=some d1) (hg1:o1.guard=none) (ho2:o2.op= .convert t t (.tmp d1)) (hd2:o2.dst=some d2) (hg2:o2.guard=none)
 (hlit:zjk P t n (parts.toList.map fun p=>(p.1,zcc S p.2))=some (cs,e,sz)) (hu:P.underlying t=some (.slice e)) (he:P.underlying e=some (.int .u8)) (hdl:d1<S.length)
 (hrest:zcq IT P none ops (fun S2 σ2=>S2=S'∧σ2=σ') rest ((S.set d1 (.list n cs .none)).set d2 (.list n cs .none)) σ):qel IT P (.region id ops false) S σ S' σ':=by
 intro F nn B X0 X a hF hI0 hn hfe
 refine wpIn_region_list ?_
 rw[hops]
 simp only[wpListIn]
 rw[if_pos (by simp[Region.wanted,hg1])]
 obtain⟨vs,e1,e2,e3⟩:=zlj (IT:=IT) (X:=X) (qs:=parts.map fun(i,x)=>(i,a.eval x)) hlit (by simpa using zks (IT:=IT) (X:=X) (ρ:=zcc S) (ρc:=a.eval) parts.toList fun p hp=>zdh hn.reps p.2)
 obtain⟨X',k1,k2,k3,k4⟩:=zta hIT hn.inv e ((vs.toArray).size,(vs.toArray).size+1) (cs:=cs) (vs:=vs) [] e2 e3
 rw[List.append_nil] at k1
 unfold Oper.wpIn
 refine⟨fun f _=>hF.fn f,?_⟩
 rw[Oper.semAt_plain F _ _ (by intro c hc;rw[ho1] at hc;cases hc)]
 have r1:(execOp a.eval o1).run P X.w= .ok (.value (.slice (some ⟨X.w.heap.size,0,none⟩) n n)) (X.w.alloc (.cells vs.toArray e)):=by simp[execOp,ho1,e1]
 rw[r1]
 show(if Region.wanted o2 _=true then _ else _)
 rw[if_pos (by simp[Region.wanted,hg2])]
 refine⟨fun f _=>hF.fn f,?_⟩
 rw[Oper.semAt_plain F _ _ (by intro c hc;rw[ho2] at hc;cases hc)]
 have hlen:d1<a.tmps.size:=by
  have:=zr hn.reps
  simp at this;omega
 have hev:(a.put o1.dst (.slice (some ⟨X.w.heap.size,0,none⟩) n n)).eval (.tmp d1)= .slice (some ⟨X.w.heap.size,0,none⟩) n n:=by
  rw[hd1]
  simp[Act.put,Act.eval,hlen]
 have r2:(execOp (a.put o1.dst (.slice (some ⟨X.w.heap.size,0,none⟩) n n)).eval o2).run P (X.w.alloc (.cells vs.toArray e))= .ok (.value (.slice (some ⟨X.w.heap.size,0,none⟩) n n)) X'.w:=by
  rw[k1]
  simp only[execOp,ho2,hev]
  rw[Sem.run_bind,zxt hu he];rfl
 rw[r2]
 have hx:Rep IT X' (.list n cs .none) (.slice (some ⟨X.w.heap.size,0,none⟩) n n):=by
  rw[Rep]
  exact⟨_,_,rfl,⟨Nat.le_refl _,fun h=>by cases h⟩,.inr ⟨_,_,rfl,k4⟩,trivial⟩
 have hG:zrp P B none:=trivial
 have n1:=zcg hG hIT hn k2 k3 ⟨rfl,rfl⟩ o1.dst hx
 have n2:=zcg hG hIT n1 (Ext.refl X') n1.inv ⟨rfl,rfl⟩ o2.dst hx
 rw[hd1,hd2] at n2
 refine zfg hIT hF hG (M:=none) (X0:=X0) (Q:=fun S2 σ2=>S2=S'∧σ2=σ') (K:=fun e a' w'=>e= .normal∧ ∃X',X'.w=w'∧Now IT none F B X0 S' σ' X' a') ?_ rest _ _ X' _ hrest ?_
 ·rintro S2 σ2 X2 a2 ⟨rfl,rfl⟩ hn2
  exact⟨rfl,X2,rfl,hn2⟩
 ·rw[hd1,hd2]
  exact n2
end Go.Ab
namespace Go.Ab
open Go Go.RowKit Go.Fwd Go.Proofs
def zje:BS:=74436767796141729913256682227557728256#256
def zjf:BS:=32186441021420063069237673984#256
def digS:BS:=287948901175001088#256
def wrdS:BS:=10633823849912963253799171395480977408#256
def spcS:BS:=4294977024#256
theorem ent77:Ent Tryd.prog 77:=enters_of Tryd.func77 (by kernel_rfl) rfl
theorem k_marks:Pure (ITP Tryd.prog) Tryd.prog 77 [] (.agg (Enc.cells zje)):=by
 obtain⟨d,hd⟩: ∃d,Tryd.f77.body=some d:=⟨_,rfl⟩
 refine zik mix Tryd.func77 hd ent77 ?_
 cases hd
 refine zbj (by dsimp only[zat,Tryd.f77,List.length_cons,List.length_nil,Nat.zero_add,Nat.reduceAdd,Nat.reduceSub,List.replicate,List.cons_append,List.nil_append]) (by dsimp only[St.empty]) ?_
 refine zi (zc ?_)
 refine zfs (a:= .ptr 0 0) (σ'':=⟨[(27,[.raw (.int .u64 0),.raw (.int .u64 0),.raw (.int .u64 0),.raw (.int .u64 0)])],[],[],0,false⟩) rfl rfl rfl rfl (by dsimp only[zy,List.set]) rfl ?_
 refine qew [.ptr 0 0,(.list 14 (Enc.cellsL ([94,36,124,40,41,91,93,123,125,42,43,63,46,47]:List UInt8)) .none),(.list 14 (Enc.cellsL ([94,36,124,40,41,91,93,123,125,42,43,63,46,47]:List UInt8)) .none),.agg (Enc.cells zje)] ⟨[(27,Enc.cells zje)],[],[],0,false⟩ (qct (zn _) (cs:=Enc.cellsL ([94,36,124,40,41,91,93,123,125,42,43,63,46,47]:List UInt8)) (e:=5) (sz:=1) rfl rfl rfl rfl rfl rfl rfl (by kernel_rfl) rfl rfl (by decide) ?_) ?_
 ·
  refine zct (args':=[(.list 14 (Enc.cellsL ([94,36,124,40,41,91,93,123,125,42,43,63,46,47]:List UInt8)) .none)]) (r:= .agg (Enc.cells zje)) (zjl 100 [94,36,124,40,41,91,93,123,125,42,43,63,46,47] zje (by decide+kernel)) rfl rfl (by kernel_rfl) (by kernel_rfl) (by dsimp only[zy,List.set]) ?_
  refine zfs (σ'':=⟨[(27,(Enc.cells (zje:BS)))],[],[],0,false⟩) rfl rfl rfl (zaz (n:=4) rfl rfl rfl rfl rfl rfl rfl rfl (by decide)) (by dsimp only[zy,List.set]) rfl ?_
  exact⟨rfl,rfl⟩
 ·
  exact zdy (fun(r:BS)=>(.agg (Enc.cells (r:BS)):AV)) (show some zje=some zje from rfl) (a:= .agg (Enc.cells (zje:BS))) rfl (zam _ _ (zab (Enc.clo _))) (zbu (zab (Enc.clo _)))
theorem ent28:Ent Tryd.prog 28:=enters_of Tryd.func28 (by kernel_rfl) rfl
theorem k_inner:Pure (ITP Tryd.prog) Tryd.prog 28 [] (.agg (Enc.cells zjf)):=by
 obtain⟨d,hd⟩: ∃d,Tryd.f28.body=some d:=⟨_,rfl⟩
 refine zik mix Tryd.func28 hd ent28 ?_
 cases hd
 refine zbj (by dsimp only[zat,Tryd.f28,List.length_cons,List.length_nil,Nat.zero_add,Nat.reduceAdd,Nat.reduceSub,List.replicate,List.cons_append,List.nil_append]) (by dsimp only[St.empty]) ?_
 refine zi (zc ?_)
 refine zfs (a:= .ptr 0 0) (σ'':=⟨[(27,[.raw (.int .u64 0),.raw (.int .u64 0),.raw (.int .u64 0),.raw (.int .u64 0)])],[],[],0,false⟩) rfl rfl rfl rfl (by dsimp only[zy,List.set]) rfl ?_
 refine qew [.ptr 0 0,(.list 5 (Enc.cellsL ([94,45,91,93,47]:List UInt8)) .none),(.list 5 (Enc.cellsL ([94,45,91,93,47]:List UInt8)) .none),.agg (Enc.cells zjf)] ⟨[(27,Enc.cells zjf)],[],[],0,false⟩ (qct (zn _) (cs:=Enc.cellsL ([94,45,91,93,47]:List UInt8)) (e:=5) (sz:=1) rfl rfl rfl rfl rfl rfl rfl (by kernel_rfl) rfl rfl (by decide) ?_) ?_
 ·
  refine zct (args':=[(.list 5 (Enc.cellsL ([94,45,91,93,47]:List UInt8)) .none)]) (r:= .agg (Enc.cells zjf)) (zjl 100 [94,45,91,93,47] zjf (by decide+kernel)) rfl rfl (by kernel_rfl) (by kernel_rfl) (by dsimp only[zy,List.set]) ?_
  refine zfs (σ'':=⟨[(27,(Enc.cells (zjf:BS)))],[],[],0,false⟩) rfl rfl rfl (zaz (n:=4) rfl rfl rfl rfl rfl rfl rfl rfl (by decide)) (by dsimp only[zy,List.set]) rfl ?_
  exact⟨rfl,rfl⟩
 ·
  exact zdy (fun(r:BS)=>(.agg (Enc.cells (r:BS)):AV)) (show some zjf=some zjf from rfl) (a:= .agg (Enc.cells (zjf:BS))) rfl (zam _ _ (zab (Enc.clo _))) (zbu (zab (Enc.clo _)))
def zqf (l:List UInt8):BS×Bool:=
 match l with
 |a::b::_=>if a=92 then(if b=100 then(digS,true) else if b=119 then(wrdS,true) else if b=115 then(spcS,true) else(0#256,false)) else(0#256,false)
 |_=>(0#256,false)
end Go.Ab
