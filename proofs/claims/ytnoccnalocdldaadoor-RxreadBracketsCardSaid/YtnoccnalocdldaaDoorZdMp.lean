import Derived.Test.YtnoccnalocdldaaDoorZgSx
import Derived.Laws.IdiomRangeMap
import Derived.Maps.RangeRun
set_option linter.all false
namespace Go.Ab
open Go Go.RowKit Go.Fwd
open Go.ChangeMaps (setBlock)
structure Side (w w':World)(m:Nat):Prop where
 os:w'.os=w.os
 tape:w'.tape=w.tape
 output:w'.output=w.output
 size:w.heap.size≤w'.heap.size
 drawn:w.drawn≤w'.drawn
 same: ∀b,b<w.heap.size→b≠m→w'.heap[b]? =w.heap[b]?
 cel: ∀cs t f,w.heap[m]? ≠some (.cells cs t f)
 dfr: ∀d,w.heap[m]? ≠some (.deferred d)
theorem zhe {w w':World} {m b:Nat} (h:Side w w' m) {cs:Array Value} {t:TypeId} {f:Nat×Nat} (hb:w.heap[b]? =some (.cells cs t f)):w'.heap[b]? =some (.cells cs t f):=by
 rw[h.same b (Array.getElem?_eq_some_iff.1 hb).1 (fun e=>h.cel _ _ _ (e▸hb))];exact hb
theorem zwa {IT:IterP} {σ:St} {X:Cx} {w':World} {m:Nat} (hI:Inv IT σ X)(h:Side X.w w' m):Sub X {X with w:=w'} where
 F:=fun _ _ h=>h
 cell:=fun b o hf=>by
  obtain⟨v,hv⟩:=hI.Fcell b o hf
  obtain⟨t,k,hs,_,hlt⟩:=zxe hv
  refine World.cell?_of_block (h.same b hlt fun e=> ?_)
  unfold World.shape? at hs
  split at hs
  ·rename_i c t' f hq;exact h.cel _ _ _ (e▸hq)
  ·cases hs
 κ:=fun _ _ h=>h
 lens:=fun s L h=>⟨L,h,Nat.le_refl _,fun _=>rfl⟩
 blk:=fun s b hs cur t f hc=>⟨cur,zhe h hc,rfl⟩
 szs:=fun k cs t f hc=>⟨cs,t,f,zhe h hc,rfl⟩
theorem qfp {IT:IterP} (hIT:ITMono IT) {σ:St} {X:Cx} {w':World} {m:Nat} (hI:Inv IT σ X)(h:Side X.w w' m):Inv IT σ {X with w:=w'}:=
  have hs:=zwa hI h
  { lens:=hI.lens,elems:=hI.elems,κlen:=hI.κlen,κnd:=hI.κnd,κF:=hI.κF,βlen:=hI.βlen,βnd:=hI.βnd,βκ:=hI.βκ
    box:=fun s b t cs h1 h2=>by
      obtain⟨vs,zs,k1,k2,k3⟩:=hI.box s b t cs h1 h2
      exact⟨vs,zs,zhe h k1,zbx hIT hs _ _ k2,k3⟩
    row:=fun s r L h1 h2=>by
      obtain⟨cur,fz,k1,k2⟩:=hI.row s r L h1 h2
      exact⟨cur,fz,zhe h k1,k2⟩
    Ok :=fun b hb=>by
      obtain⟨⟨cs,t,f,k1⟩,k2⟩:=hI.Ok b hb
      exact⟨⟨cs,t,f,zhe h k1⟩,k2⟩
    Fcell:=fun b o hf=>by
      obtain⟨v,hv⟩:=hI.Fcell b o hf
      exact⟨v,(hs.cell b o hf).trans hv⟩
    gv:=qaf hIT hs hI.gv}
theorem zrb {IT:IterP} (hIT:ITMono IT) {F:Fence} {B:Nat} {X0 X:Cx} {S:List AV} {σ:St} {a:Act} {w':World} {m:Nat} (hm:X0.w.heap.size≤m)(hn:Now IT none F B X0 S σ X a)(h:Side X.w w' m):Now IT none F B X0 S σ {X with w:=w'} a:=
  have hs:=zwa hn.inv h
  have hE:Ext X0 X:=hn.ext
  { ext := show Ext X0 {X with w:=w'} from
      { F :=hE.F,κ:=hE.κ,lens:=hE.lens,O:=hE.O,C:=hE.C,Fnew:=hE.Fnew,κnew:=hE.κnew,βnew:=hE.βnew
        cell:=fun b o hf=>(hs.cell b o (hE.F b o hf)).trans (hE.cell b o hf)
        blk:=fun s b hk cur t f hc=>by
          obtain⟨cur',k1,k2⟩:=hE.blk s b hk cur t f hc
          exact⟨cur',zhe h k1,k2⟩
        szs:=hE.szs.trans hs.szs
        os:=h.os.trans hE.os,tape:=h.tape.trans hE.tape,output:=h.output.trans hE.output,size:=Nat.le_trans hE.size h.size
        drawn:=(by first|exact Nat.le_trans hE.drawn h.drawn|exact hE.drawn)
        frame:=fun b hb h1 h2=>(h.same b (Nat.lt_of_lt_of_le hb hE.size) (by omega)).trans (hE.frame b hb h1 h2)}
    inv:=qfp hIT hn.inv h
    reps:=zbx hIT hs _ _ hn.reps
    marks:=⟨Nat.le_trans hn.marks.1 h.size,fun e=>by
      obtain⟨h0,Ds,h1,h2,h3⟩:=hn.marks.2.1 e
      exact⟨Nat.le_trans h0 h.size,Ds,h1,h2,fun D hD=>⟨(h3 D hD).1,(h.same D (Array.getElem?_eq_some_iff.1 (h3 D hD).2).1 fun e=>h.dfr _ (e▸(h3 D hD).2)).trans (h3 D hD).2⟩⟩,hn.marks.2.2⟩
    frn:=trivial}
theorem zui (w:World)(o:Obj)(ho:o.isCells=false):Side w (w.alloc o) w.heap.size where
 os:=rfl
 tape:=rfl
 output:=rfl
 size:=by simp
 drawn:=Nat.le_refl _
 same:=fun b hb _=>Below.heap_alloc _ _ _ hb
 cel:=fun cs t f h=>by simp at h
 dfr:=fun d h=>by simp at h
theorem z5y {w:World} {m:Nat} {o:Obj} (o':Obj)(hm:w.heap[m]? =some o)(ho:o.isCells=false)(hd: ∀d,o≠ .deferred d):Side w (setBlock w m o') m where
 os:=rfl
 tape:=rfl
 output:=rfl
 size:=by simp[setBlock]
 drawn:=Nat.le_refl _
 same:=fun b hb hne=>by simp[setBlock,Array.getElem?_setIfInBounds,Ne.symm hne]
 cel:=fun cs t f h=>by rw[hm] at h;cases h;cases ho
 dfr:=fun d h=>by rw[hm] at h;cases h;exact hd d rfl
section
variable {IT:IterP} {P:Program} {F:Fence} {nn B:Nat}
theorem zxn (hIT:ITMono IT)(hF:FenceOk F P) {o:Oper} {S E:List AV} {σ σ':St} {X0 X:Cx} {a:Act} {x:AV} {next:Act→World→Prop} {Q:Exit→Act→World→Prop} (h:zzk IT P o E σ x σ')(hn:Now IT none F B X0 S σ X a)
 (hρ: ∀y∈o.op.operands,Rep IT X (zcc E y) (a.eval y)) (hK: ∀X' v,Ext X X'→Now IT none F B X0 (zy S o.dst x) σ' X' (a.put o.dst v)→next (a.put o.dst v) X'.w):o.wpIn F nn P a X.w next Q:=by
 have hG:zrp P B none:=trivial
 rcases h with⟨f,args,hc,rfl,hok,h⟩|ha
 ·obtain⟨vs,hrun,hr⟩:=zgf (P:=P) hc hρ h.1
  unfold Oper.wpIn
  refine⟨fun f _=>hF.fn f,?_⟩
  rw[Oper.semAt_plain F _ _ (zmm hc),hrun]
  refine⟨fun hd=>(by rw[hF.depth] at hd;cases hd),hF.calls _ _ _ _ _ ?_⟩
  refine(zja hIT h rfl hok hn.inv hr).mono ?_
  rintro e w' ⟨v,X',rfl,rfl,h1,h2,h3,_⟩
  exact hK _ _ h1 (zcg hG hIT hn h1 h2 ⟨rfl,rfl⟩ o.dst h3)
 ·obtain⟨v,X',h1,h2,h3,h4⟩:=zop hIT ha hρ hn.inv
  unfold Oper.wpIn
  refine⟨fun f _=>hF.fn f,?_⟩
  rw[Oper.semAt_plain F _ _ (zot ha)]
  rcases h1 with h1|⟨h1,rfl⟩
  ·rw[h1];exact hK _ _ h2 (zcg hG hIT hn h2 h3 (zpn ha) o.dst h4)
  ·rw[h1];exact hK _ _ h2 (zcg hG hIT hn h2 h3 (zpn ha) o.dst h4)
theorem qae (hIT:ITMono IT)(hF:FenceOk F P)(hmix:P.follows .mixedOrders=true) {id:Nat} {ops:Array Oper} {K:Exit→Act→World→Prop} {X0 X:Cx} {S E vs:List AV} {σ:St} {a:Act} {sg:(Nat→Bool)→St} (Φ:(Nat→Bool)→Act→World→Prop)
 (hE:zgx ops.toList vs S=E) (hlen:ops.toList.length=vs.length) (hfl:floB ops S.length=true) (hback:zvp ops=true) (hσ:sg (fun j=>Nat.ble ops.size j)=σ) (hΦ:Φ (fun j=>Nat.ble ops.size j) a X.w.drew) (hn:Now IT none F B X0 S σ X a)
 (hop: ∀i o x,ops[i]? =some o→vs[i]? =some x→o.guard=none∧ ∀(d:Nat→Bool) (S':List AV) (X:Cx) (a:Act) (next:Act→World→Prop),X0.w.heap.size≤X.w.heap.size→d i=false→(∀t,(∀j,zbl ops j=some t→d j=true)→S'[t]? =E[t]?)→(∀j,zhg ops j i=true→d j=false)→(∀j,zhg ops i j=true→d j=true)→(∀j t,zbl ops j=some t→t∈zgg ops i→d j=true)→(∀y∈o.op.operands,Rep IT X (zcc E y) (a.eval y))→a.tmps.size=E.length→Now IT none F B X0 S' (sg d) X a→Φ d a X.w→
  (∀X' a',Now IT none F B X0 (zy S' o.dst x) (sg (ziz d i)) X' a'→Φ (ziz d i) a' X'.w→next a' X'.w)→o.wpIn F nn P a X.w next K)
 (hQ: ∀X a,Now IT none F B X0 E (sg fun _=>true) X a→Φ (fun _=>true) a X.w→K .normal a X.w):(Code.region id ops true).wpIn F nn P K a X.w:=by
 have hG:zrp P B none:=trivial
 have hdst: ∀ {j:Nat} {o:Oper},ops[j]? =some o→zbl ops j=o.dst:=fun {j o} ho=>by rw[zbl,ho];rfl
 have hEl:E.length=S.length:=by rw[←hE,zkb]
 have hat: ∀ {j:Nat} {o:Oper},ops[j]? =some o→ ∃a,vs[j]? =some a:=fun {j o} ho=>by
  have:=(Array.getElem?_eq_some_iff.1 ho).1
  exact⟨vs[j]'(by simp at hlen;omega),List.getElem?_eq_getElem _⟩
 have hEd: ∀ {j:Nat} {o:Oper} {a:AV} {t:Tmp},ops[j]? =some o→vs[j]? =some a→o.dst=some t→E[t]? =some a:=fun {j o a t} ho ha ht=>by
  obtain⟨s1,s2,_⟩:=zjc hfl ((hdst ho).trans ht)
  rw[←hE]
  exact zmu _ _ _ j o a (by rw[←ho,Array.getElem?_toList]) ha ht s1 fun i o' hi ho'=>by
   rw[Array.getElem?_toList] at hi
   exact s2 i ((hdst hi).trans ho')
 have key: ∀(f:Nat) (listed:Array Bool) (S':List AV) (X:Cx) (a:Act),left ops.size listed=f→listed.size=ops.size→S'.length=E.length→
  (∀t,(∀j,zbl ops j=some t→listed.getD j true=true)→S'[t]? =E[t]?)→(∀j k,zhg ops j k=true→listed.getD j true=true→listed.getD k true=true)→Now IT none F B X0 S' (sg fun j=>listed.getD j true) X a→Φ (fun j=>listed.getD j true) a X.w→wpAnyIn F nn P .any ops K f listed a X.w:=by
  intro f
  induction f with
  | zero=>
   intro listed S' X a h0 hs hl hk hcl hn hΦ
   have hd:=zhm ops.size h0
   have hg: ∀j,listed.getD j true=true:=fun j=>by
    rcases Nat.lt_or_ge j ops.size with h'|h'
    ·exact hd j h'
    ·simp[Array.getElem?_eq_none (by rw[hs];exact h':listed.size≤j)]
   have e1:S'=E:=List.ext_getElem? fun t=>hk t fun j _=>hg j
   have e2:(fun j=>listed.getD j true)=fun _=>true:=funext hg
   rw[e1,e2] at hn
   rw[e2] at hΦ
   refine⟨List.eq_nil_iff_forall_not_mem.2 fun i hi=> ?_,hQ X a hn hΦ⟩
   obtain⟨h1,o,ho,_⟩:=mem_ready.1 hi
   rw[hg i] at h1;cases h1
  | succ f ih=>
   intro listed S' X a h0 hs hl hk hcl hn hΦ
   obtain⟨i0,hi0,hu0,hb0⟩:=zln ops.size (by rw[h0];exact Nat.succ_ne_zero f)
   have hr0:i0∈Region.ready .any ops listed:=by
    refine mem_ready.2 ⟨hu0,ops[i0],by simp[hi0],fun e he hb=> ?_⟩
    have h1:=List.all_eq_true.1 hback i0 (List.mem_range.2 hi0)
    rw[Array.getElem?_eq_getElem hi0] at h1
    have h2:=Array.all_eq_true'.1 h1 e he
    have h3:e.on<i0:=by simpa[hb] using h2
    exact zmk (by omega) (hb0 _ h3)
   refine⟨fun he=>(by rw[he] at hr0;cases hr0),fun i hi=> ?_⟩
   obtain⟨hun,o,ho,hwait⟩:=mem_ready.1 hi
   have hlt:i<ops.size:=(Array.getElem?_eq_some_iff.1 ho).1
   obtain⟨x,hx⟩:=hat ho
   obtain⟨hgu,hone⟩:=hop i o x ho hx
   have hwr: ∀j t,zbl ops j=some t→t∈zgg ops i→listed.getD j true=true:=fun j t hj ht=>by
    obtain⟨o',ho',e,he,hb,hon⟩:=zee ((zjc hfl hj).2.2 i ht)
    rw[ho] at ho';cases ho'
    rw[←hon];exact zpj (hwait e he hb)
   have hwt: ∀j,zhg ops i j=true→listed.getD j true=true:=fun j hj=>by
    obtain⟨o',ho',e,he,hb,hon⟩:=zee hj
    rw[ho] at ho';cases ho'
    rw[←hon];exact zpj (hwait e he hb)
   have hset: ∀t∈zgg ops i,S'[t]? =E[t]? :=fun t ht=>hk t fun j hj=>hwr j t hj ht
   have hup:(fun j=>(listed.setIfInBounds i true).getD j true)=ziz (fun j=>listed.getD j true) i:=by
    funext j
    by_cases e:j=i
    ·subst e;rw[zdu];simp[hs,hlt]
    ·rw[zbm e,getD_set_ne true (Ne.symm e)]
   have next: ∀X' a',Now IT none F B X0 (zy S' o.dst x) (sg (ziz (fun j=>listed.getD j true) i)) X' a'→Φ (ziz (fun j=>listed.getD j true) i) a' X'.w→wpAnyIn F nn P .any ops K f (listed.setIfInBounds i true) a' X'.w:=fun X' a' hn' hΦ'=>by
    refine ih _ (zy S' o.dst x) X' a' (by have:=zlv hun ops.size hlt;omega) (by simp[hs]) (by rw[zbc];exact hl) (fun t ht=> ?_) (fun j k hw hj=> ?_) (by rw[hup];exact hn') (by rw[hup];exact hΦ')
    rotate_left
    ·by_cases ek:k=i
     ·subst ek;simp[hs,hlt]
     ·rw[getD_set_ne true (Ne.symm ek)]
      by_cases ej:j=i
      ·subst ej;exact hwt k hw
      ·rw[getD_set_ne true (Ne.symm ej)] at hj;exact hcl j k hw hj
    by_cases e:o.dst=some t
    ·rw[hEd ho hx e,e]
     have:t<S'.length:=by rw[hl,hEl];exact(zjc hfl ((hdst ho).trans e)).1
     exact List.getElem?_set_self this
    ·rw[z2n e]
     refine hk t fun j hj=> ?_
     have:=ht j hj
     rwa[getD_set_ne true (fun eq=>e (by rw[←hdst ho,eq];exact hj))] at this
   have hopr: ∀y∈o.op.operands,Rep IT X (zcc E y) (a.eval y):=fun y hy=>by
    have e:zcc E y=zcc S' y:=by
     cases y with
     | tmp t=>
      have:t∈zgg ops i:=by
       simp only[zgg,ho]
       exact List.mem_append.2 (.inl (zgh (by simpa using hy)))
      simp only[zcc,hset t this]
     |const=>rfl
     |func=>rfl
     |global=>rfl
    rw[e];exact zdh hn.reps y
   unfold wpOpIn
   rw[ho]
   simp only
   rw[if_pos (by simp[Region.wanted,hgu])]
   have hsz:a.tmps.size=E.length:=by
    have:=zr hn.reps
    simp at this;omega
   exact hone _ S' X a _ (show X0.w.heap.size≤X.w.heap.size from Ext.size hn.ext) hun hk (fun j hj=>by
    cases hq:listed.getD j true with
    |false=>rfl
    |true=>exact absurd (hcl j i hj hq) (by rw[hun];decide)) hwt hwr hopr hsz hn hΦ next
 refine wpIn_region_any hmix ?_
 obtain⟨hEx,hI⟩:=zjn hIT hn.inv
 have hrs:zmb IT {X with w:=X.w.drew} S a.tmps:=zaw hIT hEx _ _ hn.reps
 have e0:(fun j=>(Array.replicate ops.size false).getD j true)=fun j=>Nat.ble ops.size j:=by
  funext j
  rcases Nat.lt_or_ge j ops.size with h'|h'
  ·have:Nat.ble ops.size j=false:=by
    cases h:Nat.ble ops.size j with
    |false=>rfl
    |true=>exact absurd (Nat.le_of_ble_eq_true h) (by omega)
   rw[this];simp[h']
  ·rw[Nat.ble_eq_true_of_le h'];simp[Nat.not_lt.2 h']
 have hnow:Now IT none F B X0 S (sg fun j=>(Array.replicate ops.size false).getD j true) {X with w:=X.w.drew} a:=by
  rw[e0,hσ]
  exact⟨hn.ext.trans (Rel.of hEx),hI,hrs,hn.marks.ext hEx hn.inv,trivial⟩
 have hleft: ∀m,m≤ops.size→left m (Array.replicate ops.size false)=m:=by
  intro m
  induction m with
  |zero=>intro _;rfl
  |succ m ih=>intro hm;simp[left,ih (by omega),show m<ops.size by omega]
 refine key ops.size (Array.replicate ops.size false) S _ a (hleft _ (Nat.le_refl _)) (by simp) hEl.symm (fun t ht=> ?_) (fun j k hw hj=> ?_) hnow (by rw[e0];exact hΦ)
 rotate_left
 ·obtain⟨o',ho',_⟩:=zee hw
  have hj':=(Array.getElem?_eq_some_iff.1 ho').1
  simp[hj'] at hj
 have hno: ∀o∈ops.toList,o.dst≠some t:=fun o ho he=>by
  obtain⟨j,hj,rfl⟩:=List.mem_iff_getElem.1 ho
  have hj':j<ops.size:=by simpa using hj
  have hjo:ops[j]? =some (ops.toList[j]):=by simp[hj']
  have:=ht j ((hdst hjo).trans he)
  simp[hj'] at this
 rw[←hE]
 exact(zhy _ _ _ hno).symm
theorem any_gen (hmix:P.follows .mixedOrders=true) {id:Nat} {ops:Array Oper} {K:Exit→Act→World→Prop} {a:Act} {w:World} (I:(Nat→Bool)→Act→World→Prop)(hback:zvp ops=true)(h0:I (fun j=>Nat.ble ops.size j) a w.drew)
 (hop: ∀i o,ops.toList[i]? =some o→o.guard=none∧ ∀(d:Nat→Bool) (a:Act) (w:World) (next:Act→World→Prop),d i=false→(∀j,zhg ops j i=true→d j=false)→(∀j,zhg ops i j=true→d j=true)→I d a w→(∀a' w',I (ziz d i) a' w'→next a' w')→o.wpIn F nn P a w next K)
 (hQ: ∀a w,I (fun _=>true) a w→K .normal a w):(Code.region id ops true).wpIn F nn P K a w:=by
 have key: ∀(f:Nat) (listed:Array Bool) (a:Act) (w:World),left ops.size listed=f→listed.size=ops.size→(∀j k,zhg ops j k=true→listed.getD j true=true→listed.getD k true=true)→I (fun j=>listed.getD j true) a w→wpAnyIn F nn P .any ops K f listed a w:=by
  intro f
  induction f with
  | zero=>
   intro listed a w h0 hs hcl hΦ
   have hd:=zhm ops.size h0
   have hg: ∀j,listed.getD j true=true:=fun j=>by
    rcases Nat.lt_or_ge j ops.size with h'|h'
    ·exact hd j h'
    ·simp[Array.getElem?_eq_none (by rw[hs];exact h':listed.size≤j)]
   have e2:(fun j=>listed.getD j true)=fun _=>true:=funext hg
   rw[e2] at hΦ
   refine⟨List.eq_nil_iff_forall_not_mem.2 fun i hi=> ?_,hQ a w hΦ⟩
   obtain⟨h1,o,ho,_⟩:=mem_ready.1 hi
   rw[hg i] at h1;cases h1
  | succ f ih=>
   intro listed a w h0 hs hcl hΦ
   obtain⟨i0,hi0,hu0,hb0⟩:=zln ops.size (by rw[h0];exact Nat.succ_ne_zero f)
   have hr0:i0∈Region.ready .any ops listed:=by
    refine mem_ready.2 ⟨hu0,ops[i0],by simp[hi0],fun e he hb=> ?_⟩
    have h1:=List.all_eq_true.1 hback i0 (List.mem_range.2 hi0)
    rw[Array.getElem?_eq_getElem hi0] at h1
    have h2:=Array.all_eq_true'.1 h1 e he
    have h3:e.on<i0:=by simpa[hb] using h2
    exact zmk (by omega) (hb0 _ h3)
   refine⟨fun he=>(by rw[he] at hr0;cases hr0),fun i hi=> ?_⟩
   obtain⟨hun,o,ho,hwait⟩:=mem_ready.1 hi
   have hlt:i<ops.size:=(Array.getElem?_eq_some_iff.1 ho).1
   obtain⟨hgu,hone⟩:=hop i o (by rw[←ho,Array.getElem?_toList])
   have hwt: ∀j,zhg ops i j=true→listed.getD j true=true:=fun j hj=>by
    obtain⟨o',ho',e,he,hb,hon⟩:=zee hj
    rw[ho] at ho';cases ho'
    rw[←hon];exact zpj (hwait e he hb)
   have hup:(fun j=>(listed.setIfInBounds i true).getD j true)=ziz (fun j=>listed.getD j true) i:=by
    funext j
    by_cases e:j=i
    ·subst e;rw[zdu];simp[hs,hlt]
    ·rw[zbm e,getD_set_ne true (Ne.symm e)]
   unfold wpOpIn
   rw[ho]
   simp only
   rw[if_pos (by simp[Region.wanted,hgu])]
   refine hone _ a w _ hun (fun j hj=>by
    cases hq:listed.getD j true with
    |false=>rfl
    |true=>exact absurd (hcl j i hj hq) (by rw[hun];decide)) hwt hΦ fun a' w' hΦ'=> ?_
   refine ih _ a' w' (by have:=zlv hun ops.size hlt;omega) (by simp[hs]) (fun j k hw hj=> ?_) (by rw[hup];exact hΦ')
   by_cases ek:k=i
   ·subst ek;simp[hs,hlt]
   ·rw[getD_set_ne true (Ne.symm ek)]
    by_cases ej:j=i
    ·subst ej;exact hwt k hw
    ·rw[getD_set_ne true (Ne.symm ej)] at hj;exact hcl j k hw hj
 refine wpIn_region_any hmix ?_
 have e0:(fun j=>(Array.replicate ops.size false).getD j true)=fun j=>Nat.ble ops.size j:=by
  funext j
  rcases Nat.lt_or_ge j ops.size with h'|h'
  ·have:Nat.ble ops.size j=false:=by
    cases h:Nat.ble ops.size j with
    |false=>rfl
    |true=>exact absurd (Nat.le_of_ble_eq_true h) (by omega)
   rw[this];simp[h']
  ·rw[Nat.ble_eq_true_of_le h'];simp[Nat.not_lt.2 h']
 have hleft: ∀m,m≤ops.size→left m (Array.replicate ops.size false)=m:=by
  intro m
  induction m with
  |zero=>intro _;rfl
  |succ m ih=>intro hm;simp[left,ih (by omega),show m<ops.size by omega]
 refine key ops.size (Array.replicate ops.size false) a _ (hleft _ (Nat.le_refl _)) (by simp) (fun j k hw hj=> ?_) (by rw[e0];exact h0)
 obtain⟨o',ho',_⟩:=zee hw
 have hj':=(Array.getElem?_eq_some_iff.1 ho').1
 simp[hj'] at hj
structure MI where
 om:Nat
 mvs:List (Nat×Nat×Bool)
 ins:List (Nat×Value×Nat)
 it:List (Nat×Nat)
structure MapAt (Mi:MI)(d:Nat→Bool)(a:Act)(es:Array MapEntry)(c:Nat):Prop where
 born: ∀e∈es.toList,e.born<c
 nd:(es.toList.map (·.born)).Nodup
 of: ∀e∈es.toList,∃q∈Mi.ins,d q.1=true∧e.key=q.2.1∧e.val=a.eval (.tmp q.2.2)
 all: ∀q∈Mi.ins,d q.1=true→ ∃e∈es.toList,e.key=q.2.1
structure MpOk (ops:Array Oper)(Mi:MI)(n0:Nat)(d:Nat→Bool)(a:Act)(w:World):Prop where
 ins: ∀q∈Mi.ins,d q.1=true→d Mi.om=true∧ ∀j,zbl ops j=some q.2.2→d j=true
 mvs: ∀p∈Mi.mvs,d p.1=true→d Mi.om=true∧(p.2.2=true→ ∀q∈Mi.ins,d q.1=true)
 it: ∀p∈Mi.it,d p.1=true→d Mi.om=true∧ ∀q∈Mi.ins,d q.1=true
 map:d Mi.om=true→ ∃m es c,n0≤m∧w.heap[m]? =some (.map es c)∧(∀p∈Mi.mvs,d p.1=true→a.eval (.tmp p.2.1)= .map (some m))∧MapAt Mi d a es c∧
  ∀p∈Mi.it,d p.1=true→ ∃r,n0≤r∧w.heap[r]? =some (.mapIter (some m) c #[] c)∧a.eval (.tmp p.2)= .pointer (some ⟨r,0,none⟩)
def qjp (Mi:MI)(i:Nat)(dst:Option Tmp):Bool:=
 (Mi.om !=i)&&(Mi.mvs.all fun p=>p.1 !=i&&decide (dst≠some p.2.1))&&(Mi.ins.all fun q=>q.1 !=i)&&Mi.it.all fun p=>p.1 !=i&&decide (dst≠some p.2)
theorem zej (a:Act)(d:Option Tmp)(v:Value)(t:Tmp)(h:d≠some t):(a.put d v).eval (.tmp t)=a.eval (.tmp t):=by
 refine Act.eval_put fun d' e=> ?_
 rintro⟨⟩
 exact h e
theorem qcy {ops:Array Oper} {Mi:MI} {n0 i:Nat} {d:Nat→Bool} {a:Act} {w w':World} {dst:Option Tmp} {v:Value} (h:MpOk ops Mi n0 d a w)(ho:qjp Mi i dst=true)(hd:d i=false)(hdst:zbl ops i=dst)
 (hw: ∀(k:Nat) (o:Obj),w.heap[k]? =some o→o.isCells=false→w'.heap[k]? =some o):MpOk ops Mi n0 (ziz d i) (a.put dst v) w':=by
 unfold qjp at ho
 simp only[Bool.and_eq_true,List.all_eq_true,bne_iff_ne,ne_eq,decide_eq_true_eq] at ho
 obtain⟨⟨⟨h1,h2⟩,h3⟩,h4⟩:=ho
 have up: ∀j,j≠i→ziz d i j=d j:=fun j hj=>zbm hj
 have up': ∀j,d j=true→ziz d i j=true:=fun j hj=>by
  by_cases e:j=i
  ·subst e;rw[hd] at hj;cases hj
  ·rw[up j e];exact hj
 refine⟨fun q hq hqd=> ?_,fun p hp hpd=> ?_,fun p hp hpd=> ?_,fun hom=> ?_⟩
 ·rw[up _ (h3 q hq)] at hqd
  exact⟨up' _ (h.ins q hq hqd).1,fun j hj=>up' _ ((h.ins q hq hqd).2 j hj)⟩
 ·rw[up _ (h2 p hp).1] at hpd
  exact⟨up' _ (h.mvs p hp hpd).1,fun hf q hq=>up' _ ((h.mvs p hp hpd).2 hf q hq)⟩
 ·rw[up _ (h4 p hp).1] at hpd
  exact⟨up' _ (h.it p hp hpd).1,fun q hq=>up' _ ((h.it p hp hpd).2 q hq)⟩
 ·rw[up _ h1] at hom
  obtain⟨m,es,c,k1,k2,k3,k4,k5⟩:=h.map hom
  refine⟨m,es,c,k1,hw _ _ k2 rfl,fun p hp hpd=> ?_,⟨k4.born,k4.nd,fun e he=> ?_,fun q hq hqd=> ?_⟩,fun p hp hpd=> ?_⟩
  ·rw[up _ (h2 p hp).1] at hpd
   rw[zej _ _ _ _ (h2 p hp).2];exact k3 p hp hpd
  ·obtain⟨q,hq,q1,q2,q3⟩:=k4.of e he
   refine⟨q,hq,up' _ q1,q2,?_⟩
   rw[zej _ _ _ _ fun e'=> ?_];exact q3
   have:=(h.ins q hq q1).2 i (hdst.trans e')
   rw[hd] at this;cases this
  ·rw[up _ (h3 q hq)] at hqd;exact k4.all q hq hqd
  ·rw[up _ (h4 p hp).1] at hpd
   obtain⟨r,r1,r2,r3⟩:=k5 p hp hpd
   exact⟨r,r1,hw _ _ r2 rfl,by rw[zej _ _ _ _ (h4 p hp).2];exact r3⟩
end
def z8q (IT:IterP)(P:Program)(F:Fence)(nn B:Nat)(K:Exit→Act→World→Prop)(X0:Cx)(ops:Array Oper)(E:List AV)(sg:(Nat→Bool)→St)(Φ:(Nat→Bool)→Act→World→Prop)(i:Nat)(o:Oper)(x:AV):Prop:=
 o.guard=none∧ ∀(d:Nat→Bool) (S':List AV) (X:Cx) (a:Act) (next:Act→World→Prop),X0.w.heap.size≤X.w.heap.size→d i=false→(∀t,(∀j,zbl ops j=some t→d j=true)→S'[t]? =E[t]?)→(∀j,zhg ops j i=true→d j=false)→(∀j,zhg ops i j=true→d j=true)→(∀j t,zbl ops j=some t→t∈zgg ops i→d j=true)→(∀y∈o.op.operands,Rep IT X (zcc E y) (a.eval y))→a.tmps.size=E.length→Now IT none F B X0 S' (sg d) X a→Φ d a X.w→
  (∀X' a',Now IT none F B X0 (zy S' o.dst x) (sg (ziz d i)) X' a'→Φ (ziz d i) a' X'.w→next a' X'.w)→o.wpIn F nn P a X.w next K
section
variable {IT:IterP} {P:Program} {F:Fence} {nn B:Nat} {K:Exit→Act→World→Prop} {X0:Cx} {ops:Array Oper} {E:List AV} {sg:(Nat→Bool)→St} {Mi:MI} {i:Nat} {o:Oper} {x:AV}
theorem z5u (hIT:ITMono IT)(hF:FenceOk F P)(ho:ops[i]? =some o)(hg:o.guard=none)(hb:qjp Mi i o.dst=true)(h: ∀d,d i=false→(∀j,zhg ops j i=true→d j=false)→(∀j,zhg ops i j=true→d j=true)→zzk IT P o E (sg d) x (sg (ziz d i))):z8q IT P F nn B K X0 ops E sg (MpOk ops Mi X0.w.heap.size) i o x:=
 ⟨hg,fun d S' X a next hs hd hkk hbe hwt hwr hr hsz hn hΦ hK=>zxn hIT hF (h d hd hbe hwt) hn hr fun X' v hE hn'=>hK X' _ hn' (qcy hΦ hb hd (by rw[zbl,ho];rfl) fun k o' hk hc=>hE.noncells hn.inv hk hc)⟩
theorem qbx (hIT:ITMono IT)(hF:FenceOk F P) {t tm:Nat} (hg:o.guard=none)(hop:o.op= .makeMap t none)(hd:o.dst=some tm)(hi:Mi.om=i)(hm:(i,tm,false)∈Mi.mvs)(hmv: ∀p∈Mi.mvs,p.1=i→p=(i,tm,false))(hin: ∀q∈Mi.ins,q.1≠i)(hit: ∀q∈Mi.it,q.1≠i)(htm:tm<E.length)(hsg: ∀d,sg (ziz d i)=sg d):
 z8q IT P F nn B K X0 ops E sg (MpOk ops Mi X0.w.heap.size) i o .top:=by
 subst hi
 refine⟨hg,fun d S' X a next hs hd' hkk hbe hwt hwr hr hsz hn hΦ hK=> ?_⟩
 unfold Oper.wpIn
 refine⟨fun f _=>hF.fn f,?_⟩
 rw[Oper.semAt_plain F _ _ (by intro c hc;rw[hop] at hc;cases hc)]
 have r1:(execOp a.eval o).run P X.w= .ok (.value (.map (some X.w.heap.size))) (X.w.alloc (.map #[] 0)):=by
  simp only[execOp,hop];rfl
 rw[r1]
 have n1:=zrb hIT hs hn (zui X.w (.map #[] 0) rfl)
 have n2:=zcg (P:=P) (M:=none) trivial hIT n1 (Ext.refl _) n1.inv ⟨rfl,rfl⟩ o.dst (x:= .top) (v:= .map (some X.w.heap.size)) (by rw[Rep];trivial)
 refine hK _ _ (by rw[hsg];exact n2) ?_
 have off: ∀j,j≠Mi.om→ziz d Mi.om j=true→d j=true:=fun j hj h=>by rwa[zbm hj] at h
 have no:d Mi.om≠true:=by rw[hd'];decide
 refine⟨fun q hq hqd=>absurd (hΦ.ins q hq (off _ (hin q hq) hqd)).1 no,fun p hp hpd=> ?_,fun p hp hpd=>absurd (hΦ.it p hp (off _ (hit p hp) hpd)).1 no,fun _=>⟨X.w.heap.size, #[],0,hs,zeq _ _ _ rfl,fun p hp hpd=> ?_,⟨by simp,by simp,by simp,fun q hq hqd=>absurd (hΦ.ins q hq (off _ (hin q hq) hqd)).1 no⟩,fun p hp hpd=>absurd (hΦ.it p hp (off _ (hit p hp) hpd)).1 no⟩⟩
 ·by_cases e:p.1=Mi.om
  ·rw[hmv p hp e];exact⟨zdu _ _,fun h=>by cases h⟩
  ·exact absurd (hΦ.mvs p hp (off _ e hpd)).1 no
 ·by_cases e:p.1=Mi.om
  ·rw[hmv p hp e,hd]
   have hl:tm<a.tmps.size:=by omega
   simp[Act.put,Act.eval,hl]
  ·exact absurd (hΦ.mvs p hp (off _ e hpd)).1 no
theorem du_mv (hIT:ITMono IT)(hF:FenceOk F P) {t t' j':Nat} {f f':Bool} (hg:o.guard=none)(hop:o.op= .move (.tmp t'))(hd:o.dst=some t)(ho:ops[i]? =some o)(hi:Mi.om≠i)(hm:(i,t,f)∈Mi.mvs)(hm':(j',t',f')∈Mi.mvs)(hj:zbl ops j'=some t')(hmv: ∀p∈Mi.mvs,p.1=i∨p.2.1=t→p=(i,t,f))(hin: ∀q∈Mi.ins,q.1≠i∧q.2.2≠t)(hit: ∀q∈Mi.it,q.1≠i∧q.2≠t)(htm:t<E.length)(hsg: ∀d,sg (ziz d i)=sg d)
 (hfull:f=true→(Mi.ins.all fun q=>zhg ops i q.1)=true):z8q IT P F nn B K X0 ops E sg (MpOk ops Mi X0.w.heap.size) i o .top:=by
 refine⟨hg,fun d S' X a next hs hd' hkk hbe hwt hwr hr hsz hn hΦ hK=> ?_⟩
 unfold Oper.wpIn
 refine⟨fun f _=>hF.fn f,?_⟩
 rw[Oper.semAt_plain F _ _ (by intro c hc;rw[hop] at hc;cases hc)]
 have r1:(execOp a.eval o).run P X.w= .ok (.value (a.eval (.tmp t'))) X.w:=by simp[execOp,hop]
 rw[r1]
 have n2:=zcg (P:=P) (M:=none) trivial hIT hn (Ext.refl _) hn.inv ⟨rfl,rfl⟩ o.dst (x:= .top) (v:=a.eval (.tmp t')) (by rw[Rep];trivial)
 refine hK _ _ (by rw[hsg];exact n2) ?_
 have up: ∀j,j≠i→ziz d i j=d j:=fun j hj=>zbm hj
 have up': ∀j,d j=true→ziz d i j=true:=fun j hj=>by
  by_cases e:j=i
  ·subst e;rw[hd'] at hj;cases hj
  ·rw[up j e];exact hj
 have hj':d j'=true:=hwr j' t' hj (by simp only[zgg,ho,hop];exact List.mem_append.2 (.inl (zgh (by simp[Op.operands]))))
 have hom:=(hΦ.mvs _ hm' hj').1
 have ne: ∀t1,t1≠t→(a.put o.dst (a.eval (.tmp t'))).eval (.tmp t1)=a.eval (.tmp t1):=fun t1 h=>zej _ _ _ _ (by rw[hd];intro e;exact h (Option.some.inj e).symm)
 refine⟨fun q hq hqd=> ?_,fun p hp hpd=> ?_,fun p hp hpd=> ?_,fun _=> ?_⟩
 ·rw[up _ (hin q hq).1] at hqd
  exact⟨up' _ (hΦ.ins q hq hqd).1,fun j hj=>up' _ ((hΦ.ins q hq hqd).2 j hj)⟩
 ·by_cases e:p.1=i
  ·rw[hmv p hp (.inl e)]
   exact⟨up' _ hom,fun hf q hq=>up' _ (hwt _ (List.all_eq_true.1 (hfull hf) q hq))⟩
  ·rw[up _ e] at hpd
   exact⟨up' _ hom,fun hf q hq=>up' _ ((hΦ.mvs p hp hpd).2 hf q hq)⟩
 ·rw[up _ (hit p hp).1] at hpd
  exact⟨up' _ hom,fun q hq=>up' _ ((hΦ.it p hp hpd).2 q hq)⟩
 ·obtain⟨m,es,c,k1,k2,k3,k4,k5⟩:=hΦ.map hom
  refine⟨m,es,c,k1,k2,fun p hp hpd=> ?_,⟨k4.born,k4.nd,fun e he=> ?_,fun q hq hqd=> ?_⟩,fun p hp hpd=> ?_⟩
  ·by_cases e:p.1=i∨p.2.1=t
   ·rw[hmv p hp e,hd]
    have hl:t<a.tmps.size:=by omega
    have e2:(a.put (some t) (a.eval (.tmp t'))).eval (.tmp t)=a.eval (.tmp t'):=by simp[Act.put,Act.eval,hl]
    rw[e2];exact k3 _ hm' hj'
   ·rw[ne _ (fun h=>e (.inr h))]
    rw[up _ (fun h=>e (.inl h))] at hpd
    exact k3 p hp hpd
  ·obtain⟨q,hq,q1,q2,q3⟩:=k4.of e he
   exact⟨q,hq,up' _ q1,q2,by rw[ne _ (hin q hq).2];exact q3⟩
  ·rw[up _ (hin q hq).1] at hqd;exact k4.all q hq hqd
  ·rw[up _ (hit p hp).1] at hpd
   obtain⟨r,r1,r2,r3⟩:=k5 p hp hpd
   exact⟨r,r1,r2,by rw[ne _ (hit p hp).2];exact r3⟩
def z0x (kd:TypeDesc)(k k':Value):Prop:=Instr.sameNow kd k k'=some false
theorem ztl {kd:TypeDesc} {k:Value}: ∀ {l:List MapEntry} {i:Nat},(∀e∈l,z0x kd k e.key)→Instr.findNow kd k l i=some none
 |[],_,_=>rfl
 | e::l,i,h=>by
  have h1:Instr.sameNow kd k e.key=some false:=h e (by simp)
  simp only[Instr.findNow,h1]
  exact ztl fun e he=>h e (by simp[he])
theorem run_ins {P:Program} {W:World} {mt kt et:TypeId} {kd:TypeDesc} {b c:Nat} {es:Array MapEntry} {k:Value} (v:Value)(hm:P.underlying mt=some (.map kt et))(hkt:P.underlying kt=some kd)(hk:MapKept.IsKey kd k)(hb:W.heap[b]? =some (.map es c))(hno: ∀e∈es.toList,z0x kd k e.key):
 (Instr.mapUpdate mt (.map (some b)) k v).run P W= .ok () (setBlock W b (.map (es.push ⟨k,v,c⟩) (c+1))):=by
 unfold Instr.mapUpdate
 simp only[Sem.run_bind,run_underlying hm,Result.andThen_ok,MapKept.run_getObj_map hb,MapKept.run_checkKey hkt hk,MapKept.run_findKey hkt (ztl hno)]
 rw[MapKept.run_setObj_map _ hb];rfl
theorem znu (hIT:ITMono IT)(hF:FenceOk F P) {t kt et tm tv j':Nat} {f':Bool} {kd:TypeDesc} {k:Value} (hg:o.guard=none)(hop:o.op= .insert t (.tmp tm) (.const k) (.tmp tv))(hd:o.dst=none)(ho:ops[i]? =some o)(hu:P.underlying t=some (.map kt et))(hkt:P.underlying kt=some kd)(hk:MapKept.IsKey kd k)(hi:Mi.om≠i)(hm:(i,k,tv)∈Mi.ins)(hm':(j',tm,f')∈Mi.mvs)(hj:zbl ops j'=some tm)
 (hin: ∀q∈Mi.ins,q=(i,k,tv)∨(q.1≠i∧z0x kd k q.2.1)) (hmv: ∀p∈Mi.mvs,p.1≠i) (hit: ∀p∈Mi.it,p.1≠i) (hsg: ∀d,sg (ziz d i)=sg d):z8q IT P F nn B K X0 ops E sg (MpOk ops Mi X0.w.heap.size) i o (.raw undef):=by
 refine⟨hg,fun d S' X a next hs hd' hkk hbe hwt hwr hr hsz hn hΦ hK=> ?_⟩
 have up: ∀j,j≠i→ziz d i j=d j:=fun j hj=>zbm hj
 have up': ∀j,d j=true→ziz d i j=true:=fun j hj=>by
  by_cases e:j=i
  ·subst e;rw[hd'] at hj;cases hj
  ·rw[up j e];exact hj
 have hlk: ∀t1,t1=tm∨t1=tv→t1∈zgg ops i:=fun t1 h=>by
  simp only[zgg,ho,hop]
  refine List.mem_append.2 (.inl (zgh ?_))
  rcases h with rfl|rfl<;>simp[Op.operands]
 have hj':d j'=true:=hwr j' tm hj (hlk _ (.inl rfl))
 have hom:=(hΦ.mvs _ hm' hj').1
 obtain⟨m,es,c,k1,k2,k3,k4,k5⟩:=hΦ.map hom
 have hno: ∀e∈es.toList,z0x kd k e.key:=fun e he=>by
  obtain⟨q,hq,q1,q2,q3⟩:=k4.of e he
  rcases hin q hq with rfl|⟨_,h⟩
  ·rw[hd'] at q1;cases q1
  ·rw[q2];exact h
 unfold Oper.wpIn
 refine⟨fun f _=>hF.fn f,?_⟩
 rw[Oper.semAt_plain F _ _ (by intro c hc;rw[hop] at hc;cases hc)]
 have r1:(execOp a.eval o).run P X.w= .ok .skip (setBlock X.w m (.map (es.push ⟨k,a.eval (.tmp tv),c⟩) (c+1))):=by
  have e1:a.eval (.tmp tm)= .map (some m):=k3 _ hm' hj'
  have e2:a.eval (.const k)=k:=rfl
  simp only[execOp,hop,e1,e2,Sem.run_bind,run_ins (a.eval (.tmp tv)) hu hkt hk k2 hno]
  rfl
 rw[r1]
 have hsd:=z5y (.map (es.push ⟨k,a.eval (.tmp tv),c⟩) (c+1)) k2 rfl (fun _ h=>by cases h)
 have n1:=zrb hIT k1 hn hsd
 have n2:=zcg (P:=P) (M:=none) trivial hIT n1 (Ext.refl _) n1.inv ⟨rfl,rfl⟩ o.dst (x:= .raw undef) (v:=undef) (by rw[Rep])
 refine hK _ _ (by rw[hsg];exact n2) ?_
 have ev: ∀t1,(a.put o.dst undef).eval (.tmp t1)=a.eval (.tmp t1):=fun t1=>zej _ _ _ _ (by rw[hd];intro e;cases e)
 have hml:m<X.w.heap.size:=(Array.getElem?_eq_some_iff.1 k2).1
 refine⟨fun q hq hqd=> ?_,fun p hp hpd=> ?_,fun p hp hpd=> ?_,fun _=>⟨m,es.push ⟨k,a.eval (.tmp tv),c⟩,c+1,k1,by simp[setBlock,hml],fun p hp hpd=> ?_,⟨fun e he=> ?_,?_,fun e he=> ?_,fun q hq hqd=> ?_⟩,fun p hp hpd=> ?_⟩⟩
 ·rcases hin q hq with rfl|⟨h,_⟩
  ·exact⟨up' _ hom,fun j hj=>up' _ (hwr j tv hj (hlk _ (.inr rfl)))⟩
  ·rw[up _ h] at hqd
   exact⟨up' _ hom,fun j hj=>up' _ ((hΦ.ins q hq hqd).2 j hj)⟩
 ·rw[up _ (hmv p hp)] at hpd
  exact⟨up' _ hom,fun hf q hq=>up' _ ((hΦ.mvs p hp hpd).2 hf q hq)⟩
 ·rw[up _ (hit p hp)] at hpd
  exact⟨up' _ hom,fun q hq=>up' _ ((hΦ.it p hp hpd).2 q hq)⟩
 ·rw[up _ (hmv p hp)] at hpd
  rw[ev];exact k3 p hp hpd
 ·rcases List.mem_append.1 (by simpa using he:e∈es.toList++[(⟨k,a.eval (.tmp tv),c⟩:MapEntry)]) with he|he
  ·have:=k4.born e he;omega
  ·simp at he;subst he;simp
 ·rw[Array.toList_push,List.map_append]
  refine List.nodup_append.2 ⟨k4.nd,by simp,fun x hx y hy e=> ?_⟩
  obtain⟨e',he',rfl⟩:=List.mem_map.1 hx
  simp at hy
  have:=k4.born e' he'
  omega
 ·rcases List.mem_append.1 (by simpa using he:e∈es.toList++[(⟨k,a.eval (.tmp tv),c⟩:MapEntry)]) with he|he
  ·obtain⟨q,hq,q1,q2,q3⟩:=k4.of e he
   exact⟨q,hq,up' _ q1,q2,by rw[ev];exact q3⟩
  ·simp at he;subst he
   exact⟨_,hm,zdu _ _,rfl,(ev _).symm⟩
 ·rcases hin q hq with rfl|⟨h,_⟩
  ·exact⟨⟨k,a.eval (.tmp tv),c⟩,by simp,rfl⟩
  ·rw[up _ h] at hqd
   obtain⟨e,he,hk⟩:=k4.all q hq hqd
   exact⟨e,by simp[he],hk⟩
 ·rw[up _ (hit p hp)] at hpd
  have:=(hΦ.it p hp hpd).2 _ hm
  rw[hd'] at this;cases this
theorem du_look (hIT:ITMono IT)(hF:FenceOk F P) {tm j':Nat} (hg:o.guard=none)(hdf: ∀c,o.op≠ .defer c)(ho:ops[i]? =some o)(hb:qjp Mi i o.dst=true)(hm':(j',tm,true)∈Mi.mvs)(hj:zbl ops j'=some tm)(htm:tm∈zgg ops i)(hsg: ∀d,sg (ziz d i)=sg d)
 (h: ∀(X:Cx) (a:Act) (m c:Nat) (es:Array MapEntry),X.w.heap[m]? =some (.map es c)→a.eval (.tmp tm)= .map (some m)→(∀y∈o.op.operands,Rep IT X (zcc E y) (a.eval y))→(∀e∈es.toList,∃q∈Mi.ins,e.key=q.2.1∧Rep IT X (E[q.2.2]?.getD (.raw undef)) e.val)→(∀q∈Mi.ins,∃e∈es.toList,e.key=q.2.1)→ ∃v,(execOp a.eval o).run P X.w= .ok (.value v) X.w∧Rep IT X x v)
 :z8q IT P F nn B K X0 ops E sg (MpOk ops Mi X0.w.heap.size) i o x:=by
 refine⟨hg,fun d S' X a next hs hd' hkk hbe hwt hwr hr hsz hn hΦ hK=> ?_⟩
 have hj':d j'=true:=hwr j' tm hj htm
 obtain⟨hom,hall⟩:=hΦ.mvs _ hm' hj'
 obtain⟨m,es,c,k1,k2,k3,k4,k5⟩:=hΦ.map hom
 obtain⟨v,r1,r2⟩:=h X a m c es k2 (k3 _ hm' hj') hr (fun e he=>by
  obtain⟨q,hq,q1,q2,q3⟩:=k4.of e he
  refine⟨q,hq,q2,?_⟩
  rw[q3,←hkk _ (hΦ.ins q hq q1).2]
  exact zdh hn.reps (.tmp q.2.2)) (fun q hq=>k4.all q hq (hall rfl q hq))
 unfold Oper.wpIn
 refine⟨fun f _=>hF.fn f,?_⟩
 rw[Oper.semAt_plain F _ _ hdf,r1]
 have n2:=zcg (P:=P) (M:=none) trivial hIT hn (Ext.refl _) hn.inv ⟨rfl,rfl⟩ o.dst r2
 exact hK _ _ (by rw[hsg];exact n2) (qcy hΦ hb hd' (by rw[zbl,ho];rfl) fun k o' hk hc=>hk)
def sgL (σ0:St):List (Nat×St)→(Nat→Bool)→St
 |[],_=>σ0
 |(p,σ)::l,d=>bif d p then σ else sgL σ0 l d
theorem qbu {β:Type} {f:St→β} {y:β} {σ0:St} {d:Nat→Bool}: ∀ {l:List (Nat×St)},f σ0=y→(∀p∈l,f p.2=y)→f (sgL σ0 l d)=y
 |[],h,_=>h
 | (p,σ)::l,h,k=>by
  rw[sgL]
  cases d p
  ·exact qbu (l:=l) h fun q hq=>k q (by simp[hq])
  ·exact k (p,σ) (by simp)
theorem qfg {α:Type} {p:α→Prop} {x:α} {l:List α} (h:p x)(k: ∀y∈l,p y): ∀y∈x::l,p y:=fun y hy=>by
 rcases List.mem_cons.1 hy with rfl|hy
 ·exact h
 ·exact k y hy
theorem z8g {α:Type} {p:α→Prop}: ∀y∈([]:List α),p y:=fun y hy=>by cases hy
theorem d_l (hIT:ITMono IT)(hF:FenceOk F P) {σ0:St} {l:List (Nat×St)} (h0:qop P (zcc E) σ0 o=some x)(h: ∀p∈l,qop P (zcc E) p.2 o=some x)(hg:o.guard=none:=by exact rfl)(hb:qjp Mi i o.dst=true:=by exact rfl)(hs: ∀d,sgL σ0 l (ziz d i)=sgL σ0 l d:=by exact fun _=>rfl)(ho:ops[i]? =some o):z8q IT P F nn B K X0 ops E (sgL σ0 l) (MpOk ops Mi X0.w.heap.size) i o x:=
 z5u hIT hF ho hg hb fun d _ _ _=>by rw[hs];exact .inr (.inl (by unfold aop;rw[qbu (f:=fun σ=>qop P (zcc E) σ o) h0 h]))
theorem d_q (hIT:ITMono IT)(hF:FenceOk F P)(h: ∀σ,qop P (zcc E) σ o=some x)(hg:o.guard=none:=by exact rfl)(hb:qjp Mi i o.dst=true:=by exact rfl)(hs: ∀d,sg (ziz d i)=sg d:=by exact fun _=>rfl)(ho:ops[i]? =some o):z8q IT P F nn B K X0 ops E sg (MpOk ops Mi X0.w.heap.size) i o x:=
 z5u hIT hF ho hg hb fun d _ _ _=>by rw[hs];exact .inr (.inl (by unfold aop;rw[h]))
theorem d_c (hIT:ITMono IT)(hF:FenceOk F P) {f:FuncId} {args args':List AV} (hp:Pure IT P f args' x)(hc:zdj E o=some (f,args):=by exact rfl)(hst:stripL args=args':=by kernel_rfl)(hok:zad 0 args=true:=by kernel_rfl)(hg:o.guard=none:=by exact rfl)(hb:qjp Mi i o.dst=true:=by exact rfl)(hs: ∀d,sg (ziz d i)=sg d:=by exact fun _=>rfl)(ho:ops[i]? =some o):z8q IT P F nn B K X0 ops E sg (MpOk ops Mi X0.w.heap.size) i o x:=
 z5u hIT hF ho hg hb fun d _ _ _=>by rw[hs];exact .inl ⟨f,args,hc,rfl,hok,by rw[hst];exact hp⟩
theorem d_s (hIT:ITMono IT)(hF:FenceOk F P)(h: ∀d,d i=false→(∀j,zhg ops j i=true→d j=false)→(∀j,zhg ops i j=true→d j=true)→aop P (zcc E) (sg d) o=some (x,sg (ziz d i)))(hg:o.guard=none:=by exact rfl)(hb:qjp Mi i o.dst=true:=by exact rfl)(ho:ops[i]? =some o):z8q IT P F nn B K X0 ops E sg (MpOk ops Mi X0.w.heap.size) i o x:=
 z5u hIT hF ho hg hb fun d h1 h2 h3=> .inr (.inl (h d h1 h2 h3))
def qbw (IT:IterP)(P:Program)(F:Fence)(nn B:Nat)(K:Exit→Act→World→Prop)(X0:Cx)(ops:Array Oper)(E:List AV)(sg:(Nat→Bool)→St)(Φ:(Nat→Bool)→Act→World→Prop):Nat→List Oper→List AV→Prop
 |i,o::l,x::vs=>(ops[i]? =some o→z8q IT P F nn B K X0 ops E sg Φ i o x)∧qbw IT P F nn B K X0 ops E sg Φ (i+1) l vs
 |_,[],[]=>True
 |_,_,_=>False
theorem zwy {Φ:(Nat→Bool)→Act→World→Prop}: ∀(l:List Oper) (vs:List AV) (k:Nat),qbw IT P F nn B K X0 ops E sg Φ k l vs→l.length=vs.length∧ ∀j o x,l[j]? =some o→vs[j]? =some x→ops[k+j]? =some o→z8q IT P F nn B K X0 ops E sg Φ (k+j) o x
 |[],[],k,_=>⟨rfl,fun j o x h=>by simp at h⟩
 |[],_::_,_,h=>h.elim
 |_::_,[],_,h=>h.elim
 | o::l,a::vs,k,⟨h1,h2⟩=>by
  obtain⟨e,h3⟩:=zwy l vs (k+1) h2
  refine⟨by simp[e],fun j o' x hj hx ho=> ?_⟩
  cases j with
  |zero=>simp at hj hx;subst hj hx;exact h1 ho
  |succ j=>simp at hj hx;rw[show k+(j+1)=k+1+j by omega] at ho⊢;exact h3 j o' x hj hx ho
def bndB (Mi:MI)(n:Nat):Bool:=decide (Mi.om<n)&&(Mi.mvs.all fun p=>decide (p.1<n))&&(Mi.ins.all fun p=>decide (p.1<n))&&Mi.it.all fun p=>decide (p.1<n)
theorem z5f {n0:Nat} {a:Act} {w:World} (h:bndB Mi ops.size=true):MpOk ops Mi n0 (fun j=>Nat.ble ops.size j) a w:=by
 unfold bndB at h
 simp only[Bool.and_eq_true,List.all_eq_true,decide_eq_true_eq] at h
 obtain⟨⟨⟨h1,h2⟩,h3⟩,h4⟩:=h
 have no: ∀ {j},j<ops.size→ ¬Nat.ble ops.size j=true:=fun hj h=>by have:=Nat.le_of_ble_eq_true h;omega
 exact⟨fun q hq h=>absurd h (no (h3 q hq)),fun q hq h=>absurd h (no (h2 q hq)),fun q hq h=>absurd h (no (h4 q hq)),fun h=>absurd h (no h1)⟩
end
theorem zyo {kd:TypeDesc} {k:Value}: ∀ {l:List MapEntry} {i:Nat},(∀e∈l,∃b,Instr.sameNow kd k e.key=some b)→(∃e∈l,Instr.sameNow kd k e.key=some true)→ ∃j e,e∈l∧Instr.sameNow kd k e.key=some true∧Instr.findNow kd k l i=some (some (j,e.val))
 |[],_,_,⟨e,he,_⟩=>by cases he
 | e ::l,i,h,⟨f,hf,hk⟩=>by
  obtain⟨b,hb⟩:=h e (by simp)
  cases b with
  |true=>exact⟨i,e,by simp,hb,by simp only[Instr.findNow,hb]⟩
  | false=>
   obtain⟨j,e',h1,h2,h3⟩:=zyo (l:=l) (i:=i+1) (fun e he=>h e (by simp[he])) (by
    rcases List.mem_cons.1 hf with rfl|hf
    ·rw[hb] at hk;cases hk
    ·exact⟨f,hf,hk⟩)
   exact⟨j,e',by simp[h1],h2,by simp only[Instr.findNow,hb];exact h3⟩
def zkf (i:Nat):Code→Option (Array Oper)
 | .region j ops _=>if i=j then some ops else none
 | .seq x y=>match zkf i x with|some r=>some r|none=>zkf i y
 | .cond _ x y=>match zkf i x with|some r=>some r|none=>zkf i y
 | .block _ x=>zkf i x
 | .loop x=>zkf i x
 | .scope x=>zkf i x
 | .rangeFunc _ _ x y=>match zkf i x with|some r=>some r|none=>zkf i y
 |_=>none
theorem sem_map {IT:IterP} {P:Program} (hIT:ITMono IT)(hmix:P.follows .mixedOrders=true) {id:Nat} {ops:Array Oper} {S E vs:List AV} {σ σ':St} {sg:(Nat→Bool)→St} (Mi:MI)
 (hall: ∀ {F:Fence} {nn B:Nat} {K:Exit→Act→World→Prop} {X0:Cx},FenceOk F P→qbw IT P F nn B K X0 ops E sg (MpOk ops Mi X0.w.heap.size) 0 ops.toList vs)
 (hE:zgx ops.toList vs S=E:=by kernel_rfl) (hfl:(floB ops S.length&&zvp ops)=true:=by kernel_rfl) (hσ:sg (fun j=>Nat.ble ops.size j)=σ:=by kernel_rfl) (hσ':sg (fun _=>true)=σ':=by kernel_rfl) (hb:bndB Mi ops.size=true:=by kernel_rfl):qel IT P (.region id ops true) S σ E σ':=by
 intro F nn B X0 X a hF hI0 hn hfe
 rw[Bool.and_eq_true] at hfl
 obtain⟨hl,hat⟩:=zwy _ _ _ (hall (nn:=nn) (B:=B) (K:=fun e a' w'=>e= .normal∧ ∃X',X'.w=w'∧Now IT none F B X0 E σ' X' a') (X0:=X0) hF)
 refine qae hIT hF hmix (MpOk ops Mi X0.w.heap.size) hE hl hfl.1 hfl.2 hσ (z5f hb) hn (fun i o x ho hx=> ?_) fun X a hn hΦ=>⟨rfl,X,rfl,hσ'▸hn⟩
 have:=hat i o x (by rw[←ho,Array.getElem?_toList]) hx (by rw[Nat.zero_add];exact ho)
 rw[Nat.zero_add] at this
 exact this
end Go.Ab
