import Derived.Test.YtjkcellkmmfkdaaGreatDoorRows
import Derived.WalkKit
import Derived.WalkSpells
import Derived.WalkLawsBesides
import Derived.StillTailTactics
import Derived.Outline
import Derived.Shelf.Strings.BuilderK
import Derived.Shelf.Strings.OnBuilder
import Derived.Shelf.Strconv.Itoa3
import Derived.Test.YtjkcellkmmfkdaaGreatDoorProg
import Derived.Test.YtjkcellkmmfkdaaGreatDoorZhQ5
set_option linter.all false
set_option maxRecDepth 100000
set_option maxHeartbeats 4000000
open Nat (le_refl)
open List (mem_append mem_cons mem_map mem_singleton length_map)
open Go.Proofs.Tryz (prog)
namespace Go.Ab
open Go Go.RowKit Go.Fwd
open Go.ChangeMaps (setBlock)
section
variable {IT:IterP} {P:Program} {F:Fence} {nn B:Nat} {K:Exit->Act->World->Prop} {X0:Cx} {ops:Array Oper} {E:List AV} {sg:(Nat->Bool)->St} {Mi:MI} {i:Nat} {o:Oper} {x:AV}
theorem z3u (hIT:ITMono IT)(hF:FenceOk F P) {t kt et d t' j':Nat} (hg:o.guard=none)(hop:o.op= .range t (.tmp t'))(hd:o.dst=some d)(ho:ops[i]? =some o)(hu:P.underlying t=some (.map kt et))(hi:Mi.om≠i)(hm:Mi.it=[(i,d)])(hm':(j',t',true)∈Mi.mvs)(hj:zbm ops j'=some t')(hmv: ∀p∈Mi.mvs,p.1≠i/\ p.2.1≠d)(hin: ∀q∈Mi.ins,q.1≠i/\ q.2.2≠d)(htm:d<E.length)(hsg: ∀d,sg (zis d i)=sg d):
 z6g IT P F nn B K X0 ops E sg (MpOk ops Mi X0.w.heap.size) i o .top:=by
 refine⟨hg,fun d' S' X a next hs hd' hkk hbe hwt hwr hr hsz hn hΦ hK=> ?_⟩;have up: ∀j,j≠i->zis d' i j=d' j:=fun j hj=>zba hj;have up': ∀j,d' j=true->zis d' i j=true:=fun j hj=>by
  by_cases e:j=i
  ·subst e;rw[hd'] at hj;cases hj
  ·rw[up j e];exact hj
 have hj':d' j'=true:=hwr j' t' hj (by simp only[zfv,ho,hop];exact mem_append.2 (.inl (zes (by simp[Op.operands]))));obtain⟨hom,hall⟩:=hΦ.mvs _ hm' hj';obtain⟨m,es,c,k1,k2,k3,k4,k5⟩:=hΦ.map hom;have e1:a.eval (.tmp t')= .map (some m):=k3 _ hm' hj';unfold Oper.wpIn;refine⟨fun f _=>hF.fn f,?_⟩;rw[Oper.semAt_plain F _ _ (by intro c hc;rw[hop] at hc;cases hc)];have r1:(execOp a.eval o).run P X.w= .ok (.value (.pointer (some ⟨X.w.heap.size,0,none⟩))) (X.w.alloc (.mapIter (some m) c #[] c)):=by
  simp only[execOp,hop,e1,Sem.run_bind,run_range_map X.w t kt et m es c hu k2];rfl
 rw[r1];have n1:=zql hIT hs hn (zug X.w (.mapIter (some m) c #[] c) rfl);have n2:=zbu (P:=P) (M:=none) trivial hIT n1 (Ext.refl _) n1.inv ⟨rfl,rfl⟩ o.dst (x:= .top) (v:= .pointer (some ⟨X.w.heap.size,0,none⟩)) (by rw[Rep];trivial);refine hK _ _ (by rw[hsg];exact n2) ?_;have ne: ∀t1,t1≠d->(a.put o.dst (.pointer (some ⟨X.w.heap.size,0,none⟩))).eval (.tmp t1)=a.eval (.tmp t1):=fun t1 h=>zef _ _ _ _ (by rw[hd];intro e;exact h (Option.some.inj e).symm);have old: ∀(k:Nat) (ob:Obj),X.w.heap[k]? =some ob->(X.w.alloc (.mapIter (some m) c #[] c)).heap[k]? =some ob:=fun k ob h=>(Below.heap_alloc _ _ _ (Array.getElem?_eq_some_iff.1 h).1).trans h;refine⟨fun q hq hqd=> ?_,fun p hp hpd=> ?_,fun p hp hpd=>⟨up' _ hom,fun q hq=>up' _ (hall rfl q hq)⟩,fun _=>⟨m,es,c,k1,old _ _ k2,fun p hp hpd=> ?_,⟨k4.born,k4.nd,fun e he=> ?_,fun q hq hqd=> ?_⟩,fun p hp hpd=> ?_⟩⟩
 ·rw[up _ (hin q hq).1] at hqd;exact⟨up' _ hom,fun j hj=>up' _ ((hΦ.ins q hq hqd).2 j hj)⟩
 ·rw[up _ (hmv p hp).1] at hpd;exact⟨up' _ hom,fun hf q hq=>up' _ ((hΦ.mvs p hp hpd).2 hf q hq)⟩
 ·rw[up _ (hmv p hp).1] at hpd;rw[ne _ (hmv p hp).2];exact k3 p hp hpd
 ·obtain⟨q,hq,q1,q2,q3⟩:=k4.of e he;exact⟨q,hq,up' _ q1,q2,by rw[ne _ (hin q hq).2];exact q3⟩
 ·rw[up _ (hin q hq).1] at hqd;exact k4.all q hq hqd
 ·rw[hm,mem_singleton] at hp;subst hp;refine⟨X.w.heap.size,hs,zdp _ _ _ rfl,?_⟩;rw[hd];have hl:d<a.tmps.size:=by omega
  simp[Act.put,Act.eval,hl]
end
theorem qel {a:Act} {t:Nat} {v:Value} (h:a.eval (.tmp t)=v)(hl:t<a.tmps.size):a.put (some t) v=a:=by
 have h1:a.tmps[t]=v:=by
  have:=h;simpa[Act.eval,hl] using this
 show({a with tmps:=a.tmps.setIfInBounds t v}:Act)=a
 have:a.tmps.setIfInBounds t v=a.tmps:=by
  rw[<-h1];apply Array.ext_getElem?;intro j;by_cases e:t=j
  ·subst e;simp[hl]
  ·rw[Array.getElem?_setIfInBounds_ne e]
 rw[this]
theorem z0g {P:Program} {F:Fence} (hF:FenceOk F P) {nn:Nat} {ops:Array Oper} {Q:Exit->Act->World->Prop} {o:Oper} {l:List Oper} {a:Act} {w w':World} {v:Value} (hg:o.guard=none)(hdf: ∀c,o.op≠ .defer c)(hrun:(execOp a.eval o).run P w= .ok (.value v) w')(h:wpListIn F nn P ops Q l (a.put o.dst v) w'):wpListIn F nn P ops Q (o::l) a w:=by
 simp only[wpListIn];rw[if_pos (by simp[Region.wanted,hg])];unfold Oper.wpIn;refine⟨fun f _=>hF.fn f,?_⟩;rw[Oper.semAt_plain F _ _ hdf,hrun];exact h
theorem seq_sem {IT:IterP} {P:Program} {F:Fence} {nn B:Nat} (hF:FenceOk F P) {id:Nat} {ops:Array Oper} {K:Exit->Act->World->Prop} {X0 X:Cx} {S E vs:List AV} {U:St} {a:Act} {sg:(Nat->Bool)->St} (Φ:(Nat->Bool)->Act->World->Prop)
 (hE:zgb ops.toList vs S=E) (hlen:ops.toList.length=vs.length) (hfl:qjl ops S.length=true) (hback:zvk ops=true) (hσ:sg (fun j=>Nat.ble ops.size j)=U) (hΦ:Φ (fun j=>Nat.ble ops.size j) a X.w) (hn:Now IT none F B X0 S U X a)
 (hop: ∀i o x,ops[i]? =some o->vs[i]? =some x->z6g IT P F nn B K X0 ops E sg Φ i o x)
 (hQ: ∀X a,Now IT none F B X0 E (sg fun _=>true) X a->Φ (fun _=>true) a X.w->K .normal a X.w):(Code.region id ops false).wpIn F nn P K a X.w:=by
 have hdst: ∀ {j:Nat} {o:Oper},ops[j]? =some o->zbm ops j=o.dst:=fun {j o} ho=>by rw[zbm,ho];rfl
 have hEl:E.length=S.length:=by rw[<-hE,zgr]
 have hat: ∀ {j:Nat} {o:Oper},ops[j]? =some o-> ∃a,vs[j]? =some a:=fun {j o} ho=>by
  have:=(Array.getElem?_eq_some_iff.1 ho).1;exact⟨vs[j]'(by simp at hlen;omega),List.getElem?_eq_getElem _⟩
 have hEd: ∀ {j:Nat} {o:Oper} {a:AV} {t:Tmp},ops[j]? =some o->vs[j]? =some a->o.dst=some t->E[t]? =some a:=fun {j o a t} ho ha ht=>by
  obtain⟨s1,s2,_⟩:=zen hfl ((hdst ho).trans ht);rw[<-hE];exact zjk _ _ _ j o a (by rw[<-ho,Array.getElem?_toList]) ha ht s1 fun i o' hi ho'=>by
   rw[Array.getElem?_toList] at hi;exact s2 i ((hdst hi).trans ho')
 have hlow: ∀i j,zgq ops i j=true->j<i:=fun i j hw=>by
  obtain⟨o',ho',e,he,hb,hon⟩:=zdt hw;have hi:=(Array.getElem?_eq_some_iff.1 ho').1;have h1:=List.all_eq_true.1 hback i (List.mem_range.2 hi);rw[ho'] at h1;have h2:=Array.all_eq_true'.1 h1 e he;have h3:e.on<i:=by simpa[hb] using h2
  omega
 have key: ∀(l:List Oper) (k:Nat) (d:Nat->Bool) (S':List AV) (X:Cx) (a:Act),ops.toList.drop k=l->(∀j,d j=true↔(j<k \/ops.size<=j))->S'.length=E.length->
  (∀t,(∀j,zbm ops j=some t->d j=true)->S'[t]? =E[t]?)->Now IT none F B X0 S' (sg d) X a->Φ d a X.w->wpListIn F nn P ops K l a X.w:=by
  intro l;induction l with
  | nil=>
   intro k d S' X a hl hd hS hk hn hΦ;have hk':ops.size<=k:=by
    have:=List.drop_eq_nil_iff.1 hl;simpa using this
   have hg: ∀j,d j=true:=fun j=>(hd j).2 (by omega);have e1:S'=E:=List.ext_getElem? fun t=>hk t fun j _=>hg j;have e2:d=fun _=>true:=funext hg;subst e1 e2;exact hQ X a hn hΦ
  | cons o l ih=>
   intro k d S' X a hl hd hS hk hn hΦ;have ho:ops[k]? =some o:=by
    rw[<-Array.getElem?_toList, <-List.head?_drop,hl];rfl
   have hlt:k<ops.size:=(Array.getElem?_eq_some_iff.1 ho).1;have hl':ops.toList.drop (k+1)=l:=by rw[<-List.drop_drop,hl];rfl
   obtain⟨x,hx⟩:=hat ho;obtain⟨hgu,hone⟩:=hop k o x ho hx;have hun:d k=false:=by
    cases h:d k with
    |false=>rfl
    |true=>exact absurd ((hd k).1 h) (by omega)
   have hset: ∀t∈zfv ops k,S'[t]? =E[t]? :=fun t ht=>hk t fun j hj=>(hd j).2 (.inl (hlow _ _ ((zen hfl hj).2.2 k ht)));have hopr: ∀y∈o.op.operands,Rep IT X (zbv E y) (a.eval y):=fun y hy=>by
    have e:zbv E y=zbv S' y:=by
     cases y with
     | tmp t=>
      have:t∈zfv ops k:=by
       simp only[zfv,ho];exact mem_append.2 (.inl (zes (by simpa using hy)))
      simp only[zbv,hset t this]
     |const=>rfl
     |func=>rfl
     |global=>rfl
    rw[e];exact zcz hn.reps y
   have hsz:a.tmps.size=E.length:=by
    have:=zq hn.reps;simp at this;omega
   simp only[wpListIn];rw[if_pos (by simp[Region.wanted,hgu])];refine hone d S' X a _ (Ext.size hn.ext) hun hk (fun j hj=> ?_) (fun j hj=>(hd j).2 (.inl (hlow _ _ hj))) (fun j t hj ht=>(hd j).2 (.inl (hlow _ _ ((zen hfl hj).2.2 k ht)))) hopr hsz hn hΦ fun X' a' hn' hΦ'=> ?_
   ·cases h:d j with
    |false=>rfl
    | true=>
     have h1:=hlow _ _ hj;obtain⟨o',ho',_⟩:=zdt hj;have h2:=(Array.getElem?_eq_some_iff.1 ho').1;exact absurd ((hd j).1 h) (by omega)
   ·refine ih (k+1) _ (zi S' o.dst x) X' a' hl' (fun j=> ?_) (by rw[zau];exact hS) (fun t ht=> ?_) hn' hΦ'
    ·by_cases e:j=k
     ·subst e;rw[zde];simp
     ·rw[zba e,hd j];omega
    ·by_cases e:o.dst=some t
     ·rw[hEd ho hx e,e];have:t<S'.length:=by rw[hS,hEl];exact(zen hfl ((hdst ho).trans e)).1
      exact List.getElem?_set_self this
     ·rw[zwf e];refine hk t fun j hj=> ?_;have:=ht j hj;rwa[zba (fun eq=>e (by rw[<-hdst ho, <-eq];exact hj))] at this
 refine wpIn_region_list (key ops.toList 0 _ S X a rfl (fun j=> ?_) hEl.symm (fun t ht=> ?_) (hσ▸hn) hΦ)
 ·show Nat.ble ops.size j=true↔_;rw[Nat.ble_eq];omega
 ·have hno: ∀o∈ops.toList,o.dst≠some t:=fun o ho he=>by
   obtain⟨j,hj,rfl⟩:=List.mem_iff_getElem.1 ho;have hj':j<ops.size:=by simpa using hj
   have hjo:ops[j]? =some (ops.toList[j]):=by simp[hj']
   have:=ht j ((hdst hjo).trans he);rw[Nat.ble_eq] at this;omega
  rw[<-hE];exact(zgh _ _ _ hno).symm
set_option maxHeartbeats 1000000 in
theorem z0u {P:Program} {draw:Bool} (hmix:P.follows .mixedOrders=true) {id1 id2 id3 id4 id5:Nat} {ops ops5:Array Oper} {nx ex en:Oper} {rest:Code} {l5:List Oper} {S E vs:List AV} {SL:Nat->List AV} {U σL:St} {sg:(Nat->Bool)->St} (Mi:MI) {it d69 d70 d71 ri:Nat} (ms:List Bool)
 (hall: ∀ {F:Fence} {nn B:Nat} {K:Exit->Act->World->Prop} {X0:Cx},FenceOk F P->z8n (ITP P) P F nn B K X0 ops E sg (MpOk ops Mi X0.w.heap.size) 0 ops.toList vs)
 (hE:zgb ops.toList vs S=E) (hfl:(qjl ops S.length&&zvk ops)=true) (hσ:sg (fun j=>Nat.ble ops.size j)=U) (hσ':sg (fun _=>true)=σL) (hb:bndB Mi ops.size=true)
 (hit:Mi.it=[(ri,it)]) (hSL: ∀r,fgM ms (E.set it (.raw (.pointer (some ⟨r,0,none⟩))))=SL r)
 (hnx:nx.op= .next (.tmp it) false/\ nx.dst=some d69/\ nx.guard=none) (hex:ex.op= .extract (.tmp d69) 0/\ ex.dst=some d70/\ ex.guard=none) (hen:en.op= .entry (.tmp it)/\ en.dst=some d71/\ en.guard=none) (h5:ops5.toList=en::l5)
 (h69: ∀r,(SL r).set d69 .top=SL r) (h70: ∀r,(SL r).set d70 .top=SL r) (hne:it≠d69/\ it≠d70/\ it≠d71/\ d69≠d70/\ it<E.length/\ d69<E.length/\ d70<E.length/\ d71<E.length) (hgt: ∀r,(SL r)[it]? =some (.raw (.pointer (some ⟨r,0,none⟩)))) (hl: ∀r,(SL r).length=E.length) (hnr:zcg rest=true)
 (hbody: ∀(r:Nat) (q:Nat×Value×Nat),q∈Mi.ins->zca (ITP P) P none ops5 (fun S2 U2=>awp (ITP P) P none σL.boxes.length rest (fun e S3 U3=>e= .normal/\ Wk σL.boxes.length S3 U3 (SL r) σL) S2 U2) l5 ((SL r).set d71 (.tup [.raw q.2.1,E[q.2.2]?.getD (.raw undef)])) σL)
 {S':List AV} (hS': ∀r,Fg (SL r) S'):
 qee (ITP P) P (.seq (.region id1 ops draw) (.block id2 (.loop (.seq (.region id3 #[nx,ex] false) (.seq (.cond (.tmp d70) .skip (.exit id2)) (.block id4 (.seq (.region id5 ops5 false) rest))))))) S U S' σL:=by
 have hIT:=ze P;intro F nn B X0 X a hF hI0 hn hfe;rw[Bool.and_eq_true] at hfl;have hG:zrn P B none:=trivial;refine wpIn_seq ?_
 have KK: ∀(X:Cx) (a:Act),Now (ITP P) none F B X0 E σL X a->MpOk ops Mi X0.w.heap.size (fun _=>true) a X.w->
  (Code.block id2 (.loop (.seq (.region id3 #[nx,ex] false) (.seq (.cond (.tmp d70) .skip (.exit id2)) (.block id4 (.seq (.region id5 ops5 false) rest)))))).wpIn F nn P (fun e a' w'=>e= .normal/\ ∃X',X'.w=w'/\ Now (ITP P) none F B X0 S' σL X' a') a X.w:=by
  intro X a hn hΦ;obtain⟨m,es,c,k1,k2,k3,k4,k5⟩:=hΦ.map rfl;obtain⟨r,r1,r2,r3⟩:=k5 (ri,it) (by rw[hit];exact mem_singleton.2 rfl) rfl;refine wpIn_block ?_;refine wpIn_loop_rounds ((leftOf es #[]).size+1) ?_;have hsz: ∀ {X0 X:Cx} {S:List AV} {U:St} {a:Act},Now (ITP P) none F B X0 S U X a->a.tmps.size=S.length:=fun hn=>by
   have:=zq hn.reps;simpa using this.symm
  have key: ∀(n:Nat) (seen:Array Nat) (c0:Nat) (X:Cx) (a:Act),(leftOf es seen).size<=n->c<=c0->Now (ITP P) none F B X0 (SL r) σL X a->X.w.heap[m]? =some (.map es c)->X.w.heap[r]? =some (.mapIter (some m) c seen c0)->(∀e∈es.toList,∃q∈Mi.ins,e.key=q.2.1/\ Rep (ITP P) X (E[q.2.2]?.getD (.raw undef)) e.val)->
   Code.roundsIn F nn P (.seq (.region id3 #[nx,ex] false) (.seq (.cond (.tmp d70) .skip (.exit id2)) (.block id4 (.seq (.region id5 ops5 false) rest)))) (Exit.inBlock id2 fun e a' w'=>e= .normal/\ ∃X',X'.w=w'/\ Now (ITP P) none F B X0 S' σL X' a') (n+1) a X.w:=by
   intro n;induction n using Nat.strongRecOn with
   |_ n ih=>
   intro seen c0 X a hle hc hn hm hr hes;rw[roundsIn_succ];refine wpIn_seq (wpIn_region_list ?_);show wpListIn F nn P #[nx,ex] _ [nx,ex] a X.w;have hszl:=hsz hn;rw[hl] at hszl;have eit:a.eval (.tmp it)= .pointer (some ⟨r,0,none⟩):=by
    have:=zcz hn.reps (.tmp it);rw[show zbv (SL r) (.tmp it)= .raw (.pointer (some ⟨r,0,none⟩)) by simp[zbv,hgt r],Rep] at this;exact this
   have ex_run: ∀(a1:Act) (w1:World) (t:Array Value) (b:Bool),a1.eval (.tmp d69)= .tuple t->t[0]? =some (.bool b)->(execOp a1.eval ex).run P w1= .ok (.value (.bool b)) w1:=fun a1 w1 t b h1 h2=>by
    simp[execOp,hex.1,h1,Instr.extract,h2]
   have put2: ∀ {X:Cx} {a:Act} (u v:Value),Now (ITP P) none F B X0 (SL r) σL X a->Now (ITP P) none F B X0 (SL r) σL X ((a.put nx.dst u).put ex.dst v):=fun {X a} u v hn=>by
    have n1:=zbu (P:=P) hG hIT hn (Ext.refl X) hn.inv ⟨rfl,rfl⟩ nx.dst (x:= .top) (v:=u) (by rw[Rep];trivial);rw[hnx.2.1] at n1;rw[show zi (SL r) (some d69) .top=SL r from h69 r] at n1;have n2:=zbu (P:=P) hG hIT n1 (Ext.refl X) n1.inv ⟨rfl,rfl⟩ ex.dst (x:= .top) (v:=v) (by rw[Rep];trivial);rw[hex.2.1] at n2;rw[show zi (SL r) (some d70) .top=SL r from h70 r] at n2;rw[hnx.2.1,hex.2.1];exact n2
   have ev69: ∀u:Value,(a.put nx.dst u).eval (.tmp d69)=u:=fun u=>by
    rw[hnx.2.1];have hl:d69<a.tmps.size:=by omega
    simp[Act.put,Act.eval,hl]
   have ev70: ∀u v:Value,((a.put nx.dst u).put ex.dst v).eval (.tmp d70)=v:=fun u v=>by
    rw[hex.2.1,hnx.2.1];have hl:d70<a.tmps.size:=by omega
    simp[Act.put,Act.eval,hl]
   rcases run_next_at (P:=P) X.w nx.type r m c c0 seen es c hr hm k4.born hc with⟨h0,hrun⟩|⟨e,he,w1,hw1,hrun⟩
   ·refine z0g hF hnx.2.2 (by intro c hc;rw[hnx.1] at hc;cases hc) (v:= .tuple #[.bool false]) (w':=X.w) (by simp[execOp,hnx.1,eit,hrun]) ?_;refine z0g hF hex.2.2 (by intro c hc;rw[hex.1] at hc;cases hc) (ex_run _ X.w _ false (ev69 _) rfl) ?_
    show(Code.seq _ _).wpIn F nn P _ _ _
    refine wpIn_seq (wpIn_cond_false (ev70 _ _) (wpIn_exit ?_));have n2:=put2 (.tuple #[.bool false]) (.bool false) hn;have:(if id2=id2 then Exit.normal else Exit.exit id2)=Exit.normal:=if_pos rfl;simp only[Exit.then,Exit.inBlock,this]
    first
     |exact⟨rfl,X,rfl,{n2 with reps:=zha (hS' r) n2.reps}⟩
     |(simp;exact⟨X,rfl,{n2 with reps:=zha (hS' r) n2.reps}⟩)
   ·have hne0: ∃n',n=n'+1:=by
     cases n with
     | zero=>
      have h1:=List.length_pos_of_mem he;simp at h1;omega
     |succ n'=>exact⟨n',rfl⟩
    obtain⟨n',rfl⟩:=hne0;have n0:Now (ITP P) none F B X0 (SL r) σL {X with w:=w1} a/\ w1.heap=X.w.heap/\ Ext X {X with w:=w1}:=by
     rcases hw1 with rfl|rfl
     ·exact⟨hn,rfl,Ext.refl X⟩
     ·obtain⟨hEx,hI⟩:=zjm hIT hn.inv;exact⟨⟨Ext.trans hn.ext hEx,hI,zao hIT hEx _ _ hn.reps,hn.marks.ext hEx hn.inv,trivial⟩,rfl,hEx⟩
    obtain⟨n0,hw,hE1⟩:=n0;have hr1:w1.heap[r]? =some (.mapIter (some m) c seen c0):=by rw[hw];exact hr
    have hsd:=z4c (.mapIter (some m) c (seen.push e.born) c) hr1 rfl (fun _ h=>by cases h);have n1:=zql hIT r1 n0 hsd;have hmr:m≠r:=fun e=>by rw[e,hr] at hm;cases hm
    have hm2:(setBlock w1 r (.mapIter (some m) c (seen.push e.born) c)).heap[m]? =some (.map es c):=(hsd.same m (by rw[hw];exact(Array.getElem?_eq_some_iff.1 hm).1) hmr).trans (by rw[hw];exact hm);have hrl:r<w1.heap.size:=(Array.getElem?_eq_some_iff.1 hr1).1;have hr2:(setBlock w1 r (.mapIter (some m) c (seen.push e.born) c)).heap[r]? =some (.mapIter (some m) c (seen.push e.born) c):=by simp[setBlock,hrl]
    obtain⟨he1,he2⟩:=mem_left he;obtain⟨q,hq,hkey,hval⟩:=hes e he1;refine z0g hF hnx.2.2 (by intro c hc;rw[hnx.1] at hc;cases hc) (v:= .tuple #[.bool true,e.key,e.val]) (w':=setBlock w1 r (.mapIter (some m) c (seen.push e.born) c)) (by simp[execOp,hnx.1,eit,hrun]) ?_;refine z0g hF hex.2.2 (by intro c hc;rw[hex.1] at hc;cases hc) (ex_run _ _ _ true (ev69 _) rfl) ?_
    show(Code.seq _ _).wpIn F nn P _ _ _
    refine wpIn_seq (wpIn_cond_true (ev70 _ _) (wpIn_skip ?_));have n2:=put2 (.tuple #[.bool true,e.key,e.val]) (.bool true) n1;obtain⟨a2,ha2⟩: ∃a2,a2=(a.put nx.dst (.tuple #[.bool true,e.key,e.val])).put ex.dst (.bool true):=⟨_,rfl⟩;rw[<-ha2] at n2;rw[<-ha2];obtain⟨X2,hX2⟩: ∃X2:Cx,X2={X with w:=setBlock w1 r (.mapIter (some m) c (seen.push e.born) c)}:=⟨_,rfl⟩;have hsub:Sub X X2:=by rw[hX2];exact Sub.trans hE1.toSub (zxa n0.inv hsd)
    have n2':Now (ITP P) none F B X0 (SL r) σL X2 a2:=by rw[hX2];exact n2
    show(Code.block id4 _).wpIn F nn P _ a2 (setBlock w1 r (.mapIter (some m) c (seen.push e.born) c))
    rw[show setBlock w1 r (.mapIter (some m) c (seen.push e.born) c)=X2.w by rw[hX2]];rw[show setBlock w1 r (.mapIter (some m) c (seen.push e.born) c)=X2.w by rw[hX2]] at hm2 hr2;refine wpIn_block (wpIn_seq (wpIn_region_list ?_));rw[h5];have eit2:a2.eval (.tmp it)= .pointer (some ⟨r,0,none⟩):=by
     have:=zcz n2'.reps (.tmp it);rw[show zbv (SL r) (.tmp it)= .raw (.pointer (some ⟨r,0,none⟩)) by simp[zbv,hgt r],Rep] at this;exact this
    refine z0g hF hen.2.2 (by intro c hc;rw[hen.1] at hc;cases hc) (v:= .tuple #[e.key,e.val]) (w':=X2.w) (by simp[execOp,hen.1,eit2,run_entry_at X2.w r m c seen es c e hr2 hm2 he1 k4.nd]) ?_;have rq:Rep (ITP P) X2 (.tup [.raw q.2.1,E[q.2.2]?.getD (.raw undef)]) (.tuple #[e.key,e.val]):=by
     rw[Rep];refine⟨[e.key,e.val],rfl,e.key,[e.val],rfl,?_,e.val,[],rfl,zkf hIT hsub _ _ hval,rfl⟩;rw[Rep];exact hkey
    have n3:=zbu (P:=P) hG hIT n2' (Ext.refl X2) n2'.inv ⟨rfl,rfl⟩ en.dst rq;rw[hen.2.1] at n3;have n4:=n3.from
    have hκ:X2.κ.length<=σL.boxes.length:=by rw[n2'.inv.κlen];exact le_refl _
    have hB2:B<=X2.w.heap.size:=Nat.le_trans hI0.1 (Ext.size n2'.ext);rw[hen.2.1];refine zfu (M:=none) hIT hF hG (X0:=X2) (Q:=fun S2 U2=>awp (ITP P) P none σL.boxes.length rest (fun e S3 U3=>e= .normal/\ Wk σL.boxes.length S3 U3 (SL r) σL) S2 U2) ?_ l5 _ _ _ _ (hbody r q hq) n4;intro S2 U2 X3 a3 hawp n5;refine ztd hmix rest (M:=none) hG hF σL.boxes.length _ S2 U2 X2 X3 a3 _ hκ ⟨hB2,_,n2'.inv⟩ hawp n5 (.inr hnr) ?_;rintro e3 S3 U3 X4 a4 ⟨rfl,hwk⟩ n6;obtain⟨X5,hw5,n7⟩:=zzi hIT hκ hwk n6;show Code.roundsIn F nn P _ _ (n'+1) a4 X4.w;rw[<-hw5];have hE5:Ext X2 X5:=n7.ext;refine ih n' (by omega) (seen.push e.born) c X5 a4 (by have:=left_shrinks es seen e he;omega) (le_refl _) (n2'.back n7) (hE5.noncells n2'.inv hm2 rfl) (hE5.noncells n2'.inv hr2 rfl) fun e' he'=> ?_;obtain⟨q',hq',y1,y2⟩:=hes e' he';exact⟨q',hq',y1,zeq hIT hE5 _ _ (zkf hIT hsub _ _ y2)⟩
  have hszE:=hsz hn;have hn':Now (ITP P) none F B X0 (SL r) σL X a:=by
   have rp:zlr (ITP P) X (E.set it (.raw (.pointer (some ⟨r,0,none⟩)))) a.tmps:=by
    have:=znn (IT:=ITP P) (X:=X) hn.reps (some it) (x:= .raw (.pointer (some ⟨r,0,none⟩))) (v:= .pointer (some ⟨r,0,none⟩)) (by rw[Rep]);rw[qel r3 (by rw[hszE];exact hne.2.2.2.2.1)] at this;exact this
   exact {hn with reps:=zha (by rw[<-hSL r];exact zlz ms _) rp}
  refine key _ #[] c X a (le_refl _) (le_refl _) hn' k2 r2 fun e he=> ?_;obtain⟨q,hq,q1,q2,q3⟩:=k4.of e he;exact⟨q,hq,q2,by rw[q3];exact zcz hn.reps (.tmp q.2.2)⟩
 obtain⟨hll,hat⟩:=zvt _ _ _ (hall (nn:=nn) (B:=B) (K:=Exit.then (fun a w=>(Code.block id2 (.loop (.seq (.region id3 #[nx,ex] false) (.seq (.cond (.tmp d70) .skip (.exit id2)) (.block id4 (.seq (.region id5 ops5 false) rest)))))).wpIn F nn P (fun e a' w'=>e= .normal/\ ∃X',X'.w=w'/\ Now (ITP P) none F B X0 S' σL X' a') a w) (fun e a' w'=>e= .normal/\ ∃X',X'.w=w'/\ Now (ITP P) none F B X0 S' σL X' a')) (X0:=X0) hF);have hop:=fun i o x (ho:ops[i]? =some o) hx=>by
  have:=hat i o x (by rw[<-ho,Array.getElem?_toList]) hx (by rw[Nat.zero_add];exact ho);rw[Nat.zero_add] at this;exact this
 cases draw with
 |true=>exact qaw hIT hF hmix (MpOk ops Mi X0.w.heap.size) hE hll hfl.1 hfl.2 hσ (zvh hb) hn hop fun X a hn hΦ=>KK X a (hσ'▸hn) hΦ
 |false=>exact seq_sem hF (MpOk ops Mi X0.w.heap.size) hE hll hfl.1 hfl.2 hσ (zvh hb) hn hop fun X a hn hΦ=>KK X a (hσ'▸hn) hΦ
end Go.Ab
namespace Go.Ab
open Go Go.RowKit Go.Shelf Go.Proofs
theorem qiu:(prog.info? 88).map (·.size)=some 2:=by kernel_rfl
set_option maxHeartbeats 1000000 in
theorem cc_used (b:Nat)(w:World)(h0:w.cell? ⟨b,0,none⟩=some (.pointer (some ⟨b,0,none⟩))):
 Calls prog 93 #[.pointer (some ⟨b,0,none⟩)] w fun e w'=>e= .returned (.tuple #[])/\ w'=w:=by
 obtain⟨j,hj,hjs⟩:=Option.map_eq_some_iff.1 qiu
 go_enter Tryz.func93,Tryz.ntmps93
 go_wp2
 rw[Lib.run_neq_ptr_same w _ Tryz.underlying86 hj]
 go_wp2
 go_end0
 exact⟨rfl,rfl⟩
theorem lies71 (n:Nat):liesAt prog prog.depth 88 ((n+2)/prog.cellsOf 88) 0 88 1=true:=by
 obtain⟨d,hd⟩: ∃d,prog.depth=d+1:=⟨prog.depth-1,by
  have h:decide (0<prog.depth)=true:=by kernel_rfl
  have:=of_decide_eq_true h;omega⟩
 have hc:prog.cellsOf 88=2:=by kernel_rfl
 have hsl:sameLayout prog prog.depth 88 88=true:=by kernel_rfl
 rw[hc,show(n+2)/2=n/2+1 from by omega,hd];rw[liesAt];have hr:rowAt prog (fun x=>sameLayout prog prog.depth x 88) (d+1) 88 (n/2+1) 0 1=true:=by
  rw[rowAt];simp[hc,hsl]
 rw[hd] at hr;simp only[hr,Bool.true_or,hd]
set_option maxHeartbeats 1000000 in
theorem qfl (b n:Nat)(w:World)(h0:w.cell? ⟨b,0,none⟩=some (.pointer none))(hsh:w.shape? b=some (88,n+2))(hfz:w.frozen? ⟨b,0,none⟩=false):
 Calls prog 93 #[.pointer (some ⟨b,0,none⟩)] w fun e w'=>e= .returned (.tuple #[])/\ w'=w.setCell ⟨b,0,none⟩ (.pointer (some ⟨b,0,none⟩)):=by
 obtain⟨j,hj,hjs⟩:=Option.map_eq_some_iff.1 qiu
 go_enter Tryz.func93,Tryz.ntmps93
 go_wp2
 rw[Lib.run_to_unsafe w ⟨b,0,none⟩ Tryz.underlying86 Tryz.underlying186 hj (by rw[hjs];decide) hsh (Nat.zero_lt_succ _)];simp only[Result.andThen];rw[Oper.upon_value]
 go_wp2
 rw[run_callFunc_extern Tryz.func141 (by kernel_rfl) (by kernel_rfl) (by kernel_rfl) (e:=Extern.AbiNoEscape.same) (by kernel_rfl)];rw[Lib.run_noEscape];simp only[Result.andThen];rw[Oper.upon_value]
 go_wp2
 rw[Lib.run_from_unsafe w ⟨b,0,none⟩ Tryz.underlying186 Tryz.underlying86 hj hsh (lies71 n)];simp only[Result.andThen];rw[Oper.upon_value]
 go_wp2
 go_end0
 exact⟨rfl,rfl⟩
set_option maxHeartbeats 1000000 in
theorem qho (b g cap:Nat)(cur:Array Value)(fz:Nat×Nat)(l:List UInt8)(w:World)(h1:w.cell? ⟨b,1,none⟩=some (.slice (some ⟨g,0,none⟩) l.length cap))(h0:l≠[])(hg:w.heap[g]? =some (.cells cur 5 fz))(hlc:l.length<=cur.size)(hcm:cur.size<=maxLen)
 (hcap:cap≠0) (hc: ∀j x,l[j]? =some x->w.cell? ⟨g,j,none⟩=some (.int .u8 (x.toNat:Int))):
 Calls prog 48 #[.pointer (some ⟨b,0,none⟩)] w fun e w'=>e= .returned (.string ⟨l.toArray⟩)/\ w'=w.drew.freeze ⟨g,0,none⟩ l.length:=by
 have c1:w.drew.cell? ⟨b,1,none⟩=some (.slice (some ⟨g,0,none⟩) l.length cap):=h1;have hSD:(Builtin.unsafeSliceData_ #[30] 143 #[.slice (some ⟨g,0,none⟩) l.length cap]).run prog w.drew= .ok (.pointer (some ⟨g,0,none⟩)) w.drew:=Lib.run_unsafeSliceData_row _ _ _ _ _ _ hcap;have hUS:(Builtin.unsafeString_ #[143,3] 9 #[.pointer (some ⟨g,0,none⟩),.int .i64 l.length]).run prog w.drew= .ok (.string ⟨l.toArray⟩) (w.drew.freeze ⟨g,0,none⟩ l.length):=by
  refine Lib.run_unsafeString_row w.drew 143 3 9 5 Tryz.underlying143 (by kernel_rfl) g cur.size (by have hg':w.drew.heap[g]? =some (.cells cur 5 fz):=hg;simp[World.shape?,hg']) l h0 hlc (by unfold maxLen at hcm;omega) ?_;intro j x hx;rw[show({block:=g,off:=0}:Addr).add j=⟨g,j,none⟩ from by simp[Addr.add];try omega];exact hc j x hx
 go_enter Tryz.func48,Tryz.ntmps48
 go_wp2
 go_region
 all_goals(go_wp2;go_ret;exact⟨rfl,rfl⟩)
end Go.Ab
namespace Go.Ab
open Go Go.RowKit Go.Fwd Go.Proofs
variable {IT:IterP} {U:St}
theorem qbx (w:World)(a:Addr)(n:Nat):w.drawn<=(w.freeze a n).drawn:=by
 unfold World.freeze;repeat' split
 all_goals exact le_refl _
theorem qfv (hIT:ITMono IT) {U:St} {X:Cx} (hI:Inv IT U X) {s:Nat} {r:Row} {L:Nat} {cur:Array Value} {fz fz':Nat×Nat} {W:World} (hs:X.β[s]? =some r)(hL:X.lens[s]? =some L)
 (hcur:X.w.heap[r.block]? =some (.cells cur r.elem fz)) (hle:fz'.2<=L) (h1:W.os=X.w.os) (h2:W.tape=X.w.tape) (h3:W.output=X.w.output) (h4:W.heap.size=X.w.heap.size)
 (h5: ∀b,b≠r.block->W.heap[b]? =X.w.heap[b]?) (h6:W.heap[r.block]? =some (.cells cur r.elem fz')) (hdr:X.w.drawn<=W.drawn):Ext X {X with w:=W}/\ Inv IT U {X with w:=W}:=by
 have hrm:=List.mem_of_getElem? hs;have hcell: ∀b o,W.cell? ⟨b,o,none⟩=X.w.cell? ⟨b,o,none⟩:=fun b o=>by
  by_cases e:b=r.block
  ·subst e;simp[World.cell?,h6,hcur]
  ·simp[World.cell?,h5 b e]
 have hE:Ext X {X with w:=W}:={
  os:=h1,tape:=h2,output:=h3,size:=by show _<=W.heap.size;omega
  drawn:=(by first|exact hdr|exact le_refl _)
  F:=fun _ _ h=>h
  cell:=fun b i _=>hcell b i
  κ:=fun _ _ h=>h
  lens:=fun s L h=>⟨L,h,le_refl _,fun _=>rfl⟩
  blk:=fun s' b hs' cu t f h=>⟨cu,(h5 b (fun e=>hI.βκ r hrm (e▸List.mem_of_getElem? hs'))).trans h,rfl⟩
  szs:=Szs.one r.block (fun k _ e=>h5 k e) fun cs t f h=>by rw[hcur] at h;cases h;exact⟨_,_,_,h6,rfl⟩
  frame:=fun b _ _ hβ=>h5 b fun e=>hβ r hrm e.symm
  κnew:=fun _ h=> .inl h
  βnew:=fun q h=> .inl ⟨q,h,rfl⟩
  O:=rfl
  C:=rfl
  Fnew:=fun b i h=> .inl h}
 have hother: ∀(s':Nat) (q:Row),X.β[s']? =some q->s'≠s->q.block≠r.block:=fun s' q hq hne e=>hne (by
  have h1:=(List.getElem?_eq_some_iff.1 hq).1;have h2:=(List.getElem?_eq_some_iff.1 hs).1;have e1:(X.β.map (·.block))[s']'(by simpa using h1)=q.block:=by simp[(List.getElem?_eq_some_iff.1 hq).2]
  have e2:(X.β.map (·.block))[s]'(by simpa using h2)=r.block:=by simp[(List.getElem?_eq_some_iff.1 hs).2]
  exact(List.getElem_inj hI.βnd).1 (e1.trans (e.trans e2.symm)))
 refine⟨hE,{lens:=hI.lens,elems:=hI.elems,κlen:=hI.κlen,κnd:=hI.κnd,box:= ?_,κF:=hI.κF,βlen:=hI.βlen,βnd:=hI.βnd,βκ:=hI.βκ,row:= ?_,Ok:= ?_,Fcell:=fun b o hf=> ?_,gv:=z0l hIT hE hI.gv}⟩
 ·intro s' b t' c hs' hb;obtain⟨ws,zs',u1,u2,u3⟩:=hI.box s' b t' c hs' hb;have hne:b≠r.block:=fun e=>hI.βκ r hrm (e▸List.mem_of_getElem? hs');exact⟨ws,zs',(h5 b hne).trans u1,zao hIT hE _ _ u2,u3⟩
 ·intro s' q L' hq hL';by_cases e:s'=s
  ·subst e;have hq':q=r:=by have:=hq;rw[hs] at this;exact(Option.some.inj this).symm
   have hLL:L'=L:=by have:=hL';rw[hL] at this;exact(Option.some.inj this).symm
   subst hq';subst hLL;obtain⟨cu,fz0,d1,d2,d3,d4,d5,d6,d7⟩:=hI.row s' q L' hs hL;have hcc:cu=cur:=by rw[hcur] at d1;cases d1;rfl
   subst hcc;exact⟨cu,fz',h6,d2,d3,d4,d5,d6,hle⟩
  ·obtain⟨cu,fz0,d1,d2,d3,d4,d5,d6,d7⟩:=hI.row s' q L' hq hL';exact⟨cu,fz0,(h5 _ (hother s' q hq e)).trans d1,d2,d3,d4,d5,d6,d7⟩
 ·intro b ho;obtain⟨⟨cs0,t0,f0,h0⟩,k2,k3,k4⟩:=hI.Ok b ho;exact⟨⟨cs0,t0,f0,(h5 b (Ne.symm (k3 r hrm))).trans h0⟩,k2,k3,k4⟩
 ·obtain⟨v,hv⟩:=hI.Fcell b o hf;exact⟨v,(hcell b o).trans hv⟩
def zli:List AV->Option (List UInt8)
 |[]=>some []
 | .raw (.int .u8 i)::l=>if 0<=i/\ i<256 then(zli l).map (UInt8.ofNat i.toNat:: ·) else none
 |_=>none
theorem zrl {X:Cx}: ∀ {cs:List AV} {l:List UInt8} {b o:Nat},zli cs=some l->At IT X cs b o->cs.length=l.length/\ ∀j x,l[j]? =some x->X.w.cell? ⟨b,o+j,none⟩=some (.int .u8 (x.toNat:Int))
 |[],l,b,o,h,_=>by simp only[zli,Option.some.injEq] at h;subst h;exact⟨rfl,fun j x h=>by simp at h⟩
 | .raw (.int .u8 i)::cs,l,b,o,h,ha=>by
  rw[zli] at h;split at h
  ·rename_i hi;obtain⟨m,hm,rfl⟩:=Option.map_eq_some_iff.1 h;rw[At] at ha;obtain⟨⟨_,v,hv,_,hr⟩,ht⟩:=ha;obtain⟨h1,h2⟩:=zrl hm ht;have hvi:v= .int .u8 i:=hr;subst hvi;refine⟨by simp[h1],fun j x hx=> ?_⟩;cases j with
   | zero=>
    simp only[List.getElem?_cons_zero,Option.some.injEq] at hx;subst hx;rw[Nat.add_zero,hv];have:((UInt8.ofNat i.toNat).toNat:Int)=i:=by
     rw[UInt8.toNat_ofNat'];have:i.toNat%2^8=i.toNat:=Nat.mod_eq_of_lt (by omega);rw[this];omega
    rw[this]
   | succ j=>
    simp only[List.getElem?_cons_succ] at hx;rw[show o+(j+1)=o+1+j from by omega];exact h2 j x hx
  ·cases h
theorem zrz (w:World)(g n:Nat)(cur:Array Value)(t:TypeId)(fz:Nat×Nat)(hg:w.heap[g]? =some (.cells cur t fz))(hfz:fz.2<=n): ∃fz':Nat×Nat,fz'.2<=n/\ (w.freeze ⟨g,0,none⟩ n).heap[g]? =some (.cells cur t fz')/\
 (∀b,b≠g->(w.freeze ⟨g,0,none⟩ n).heap[b]? =w.heap[b]?)/\ (w.freeze ⟨g,0,none⟩ n).os=w.os/\ (w.freeze ⟨g,0,none⟩ n).tape=w.tape/\ (w.freeze ⟨g,0,none⟩ n).output=w.output/\ (w.freeze ⟨g,0,none⟩ n).heap.size=w.heap.size:=by
 unfold World.freeze;by_cases h:n=0
 ·rw[if_pos h];exact⟨fz,hfz,hg,fun _ _=>rfl,rfl,rfl,rfl,rfl⟩
 ·rw[if_neg h];obtain⟨lo,hi⟩:=fz;refine⟨if lo==hi then(0,0+n) else(min lo 0,max hi (0+n)),?_,?_,fun b hb=> ?_,rfl,rfl,rfl,by simp⟩
  ·split
   ·simp
   ·simp at hfz⊢;omega
  ·simp[Array.getElem?_modify,hg]
  ·simp[Array.getElem?_modify,Ne.symm hb]
theorem z1k (w:World)(b:Nat)(cs:Array Value)(t:TypeId)(f:Nat×Nat)(v:Value)(h:w.heap[b]? =some (.cells cs t f)):w.setCell ⟨b,0,none⟩ v=w.setRow b (cs.setIfInBounds 0 v):=by
 unfold World.setCell World.setRow;congr 1
 apply Array.ext_getElem?;intro i;rw[Array.getElem?_modify,Array.getElem?_modify];by_cases e:b=i
 ·subst e;rw[if_pos rfl,if_pos rfl,h];rfl
 ·rw[if_neg e,if_neg e]
def bldS:CallS:=fun f args U=>
 match args with
 | [.ptr s 0]=>match U.boxes[s]? with
  | some (88,[c,x])=>
   if f=93 then(match c with
    | .raw (.pointer none)=>some (.tup [],{U with boxes:=U.boxes.set s (88,[.ptr s 0,x])})
    | .ptr s' 0=>if s'=s then some (.tup [],U) else none
    |_=>none)
   else if f=48 then(match x with
    | .list n cs (.own k)=>(match zli cs with
     |some l=>if U.lens[k]? =some n/\ cs.length=n/\ 0<n/\ U.elems[k]? =some 5 then some (.raw (.string ⟨l.toArray⟩),U) else none
     |none=>none)
    |_=>none)
   else none
  |_=>none
 |_=>none
theorem ent93:Ent prog 93:=enters_of Tryz.func93 (by kernel_rfl) rfl
theorem ent48:Ent prog 48:=enters_of Tryz.func48 (by kernel_rfl) rfl
theorem cc_snd1 {s:Nat} {x:AV} (hb:U.boxes[s]? =some (88,[.raw (.pointer none),x])):Snd (ITP prog) prog 93 [.ptr s 0] U (.tup []) {U with boxes:=U.boxes.set s (88,[.ptr s 0,x])}:=by
 refine⟨ent93,fun X us hI hr=> ?_⟩;obtain⟨a,l,rfl,⟨b,hκ,rfl⟩,hl⟩:=hr;have hl:l=[]:=hl;subst hl;obtain⟨vs,zs,u1,u2,u3⟩:=hI.box s b 88 _ hκ hb;obtain⟨a0,r0,rfl,h0,a1,r1,rfl,h1,h2⟩:=u2;have h0:a0= .pointer none:=h0;have h2:r1=[]:=h2;subst h0;subst h2;have hc:=qfl b zs.length X.w (by simp[World.cell?,u1]) (by simp[World.shape?,u1]) (by simp[World.frozen?,u1]);refine hc.mono ?_;rintro e w' ⟨rfl,rfl⟩
 obtain⟨e1,e2⟩:=zsd (ze _) hI (vs':=[.pointer (some ⟨b,0,none⟩),a1]) (cs':=[.ptr s 0,x]) (zs:=zs) hκ hb (by simp) (fun cur t f hc=>by rw[u1] at hc;cases hc;simp) ⟨_,_,rfl,⟨b,hκ,rfl⟩,_,_,rfl,h1,rfl⟩
  (fun v hv=>by
   rcases mem_cons.1 hv with rfl|hv
   ·rfl
   ·exact u3 v (List.mem_cons_of_mem _ hv))
 have hw:=z1k X.w b _ _ _ (.pointer (some ⟨b,0,none⟩)) u1;refine⟨_,_,rfl,?_,e1,e2,⟨[],rfl,rfl⟩⟩;rw[hw];congr 1
theorem cc_snd2 {s:Nat} {x:AV} (hb:U.boxes[s]? =some (88,[.ptr s 0,x])):Snd (ITP prog) prog 93 [.ptr s 0] U (.tup []) U:=by
 refine⟨ent93,fun X us hI hr=> ?_⟩;obtain⟨a,l,rfl,⟨b,hκ,rfl⟩,hl⟩:=hr;have hl:l=[]:=hl;subst hl;obtain⟨vs,zs,u1,u2,u3⟩:=hI.box s b 88 _ hκ hb;obtain⟨a0,r0,rfl,⟨b',hκ',rfl⟩,h2⟩:=u2;have hbb:b'=b:=by rw[hκ] at hκ';exact(Option.some.inj hκ').symm
 subst hbb;refine(cc_used b' X.w (by simp[World.cell?,u1])).mono ?_;rintro e w' ⟨rfl,rfl⟩;exact⟨_,X,rfl,rfl,Ext.refl X,hI,⟨[],rfl,rfl⟩⟩
theorem str_snd {s n k:Nat} {c:AV} {cs:List AV} {l:List UInt8} (hb:U.boxes[s]? =some (88,[c,.list n cs (.own k)]))(hl:zli cs=some l)(h1:U.lens[k]? =some n)(h2:cs.length=n)(h3:0<n)(h4:U.elems[k]? =some 5):
 Snd (ITP prog) prog 48 [.ptr s 0] U (.raw (.string ⟨l.toArray⟩)) U:=by
 refine⟨ent48,fun X us hI hr=> ?_⟩;obtain⟨a,l',rfl,⟨b,hκ,rfl⟩,hl'⟩:=hr;have hl':l'=[]:=hl';subst hl';obtain⟨vs,zs,u1,u2,u3⟩:=hI.box s b 88 _ hκ hb;obtain⟨a0,r0,rfl,h0,a1,r1,rfl,hx,h5⟩:=u2;have h5:r1=[]:=h5;subst h5;rw[Rep] at hx;obtain⟨ad,cap,rfl,⟨hcap,_⟩,hc,L,hL,hle,hrow⟩:=hx;have hLn:L=n:=by have:=hI.lens▸hL;rw[h1] at this;exact(Option.some.inj this).symm
 subst hLn;obtain⟨r,hr,had,hcr,hsz⟩:=hrow h2;subst had;obtain⟨cur,fz,c1,c2,c3,c4,c5,c6,c7⟩:=hI.row k r L hr hL;have hel:r.elem=5:=by
  have:(X.β.map (·.elem))[k]? =some 5:=by rw[hI.elems];exact h4
  rw[List.getElem?_map,hr] at this;exact Option.some.inj this
 have hat:At (ITP prog) X cs r.block 0:=by
  rcases hc with rfl|⟨b',o',e,h⟩
  ·simp at h2;omega
  ·cases e;exact h
 obtain⟨q1,q2⟩:=zrl hl hat
 have hlL:l.length=L:=by omega
 have hsize:cur.size<=maxLen:=by
  have:r.size=1:=by
   rw[h2] at hsz;have:L*1=L*r.size:=by omega
   exact(Nat.eq_of_mul_eq_mul_left h3 this).symm
  rw[c2,this];omega
 have hst:=qho b r.block cap cur fz l X.w (by simp[World.cell?,u1,hlL]) (by intro e;subst e;simp at hlL;omega) (by rw[c1,hel]) (by omega) hsize (by omega) (fun j x hx=>by have:=q2 j x hx;simpa using this);refine hst.mono ?_;rintro e w' ⟨rfl,rfl⟩;obtain⟨d1,d2⟩:=zjm (ze _) hI;obtain⟨fz',f1,f2,f3,f4,f5,f6,f7⟩:=zrz X.w.drew r.block l.length cur r.elem fz c1 (by omega);obtain⟨g1,g2⟩:=qfv (ze _) d2 (s:=k) (r:=r) (L:=L) (W:=X.w.drew.freeze ⟨r.block,0,none⟩ l.length) hr hL c1 (by omega) f4 f5 f6 f7 f3 f2 (qbx _ _ _);exact⟨_,_,rfl,rfl,d1.trans g1,g2,rfl⟩
theorem bldS_ok:qbw prog bldS:=by
 intro f args U r U' h;unfold bldS at h;split at h<;>try cases h
 rename_i s;split at h<;>try cases h
 rename_i c x hb;split at h
 ·rename_i hf;subst hf;split at h
  ·cases h;exact cc_snd1 hb
  ·split at h
   ·rename_i e;cases h;subst e;exact cc_snd2 hb
   ·cases h
  ·cases h
 ·split at h
  ·rename_i hf;subst hf;split at h
   ·rename_i n cs k;split at h
    ·rename_i l hl;split at h
     ·rename_i hc;cases h;exact str_snd hb hl hc.1 hc.2.1 hc.2.2.1 hc.2.2.2
     ·cases h
    ·cases h
   ·cases h
  ·cases h
end Go.Ab
namespace Go.Proofs
open Go.Shelf
def Tryz.lays156_ren:Go.Shelf.Ren:=⟨fun|156=>99|165=>45|166=>46|169=>48|240=>93|241=>94|276=>141|277=>142|n=>n,fun|31=>144|9=>9|3=>3|4=>4|0=>0|20=>20|72=>88|76=>92|70=>86|37=>30|75=>91|127=>143|164=>186|5=>5|80=>95|n=>n,fun|n=>n⟩
theorem Tryz.lays156:Go.Proofs.Lays.n156 prog Tryz.lays156_ren:={
 mixed:=by kernel_rfl
 f156:=Tryz.func99.trans (congrArg some (by kernel_rfl))
 f165:=Tryz.func45.trans (congrArg some (by kernel_rfl))
 f166:=Tryz.func46.trans (congrArg some (by kernel_rfl))
 f169:=Tryz.func48.trans (congrArg some (by kernel_rfl))
 f240:=Tryz.func93.trans (congrArg some (by kernel_rfl))
 f241:=Tryz.func94.trans (congrArg some (by kernel_rfl))
 f276:=Tryz.func141.trans (congrArg some (by kernel_rfl))
 f277:=Tryz.func142.trans (congrArg some (by kernel_rfl))
 t0:=Tryz.underlying0
 a0:=Tryz.isAgg0
 z0:=Tryz.sizeOf0
 v0:=Tryz.zeroValue0
 t3:=Tryz.underlying3
 a3:=Tryz.isAgg3
 z3:=Tryz.sizeOf3
 v3:=Tryz.zeroValue3
 t4:=Tryz.underlying4
 a4:=Tryz.isAgg4
 z4:=Tryz.sizeOf4
 v4:=Tryz.zeroValue4
 t9:=Tryz.underlying9
 a9:=Tryz.isAgg9
 z9:=Tryz.sizeOf9
 v9:=Tryz.zeroValue9
 t20:=Tryz.underlying20
 a20:=Tryz.isAgg20
 z20:=Tryz.sizeOf20
 v20:=Tryz.zeroValue20
 t31:=Tryz.underlying144
 a31:=Tryz.isAgg144
 z31:=Tryz.sizeOf144
 v31:=Tryz.zeroValue144
 t37:=Tryz.underlying30
 a37:=Tryz.isAgg30
 z37:=Tryz.sizeOf30
 v37:=Tryz.zeroValue30
 t70:=Tryz.underlying86
 a70:=Tryz.isAgg86
 z70:=Tryz.sizeOf86
 v70:=Tryz.zeroValue86
 t72:=Tryz.underlying88
 a72:=Tryz.isAgg88
 z72:=Tryz.sizeOf88
 v72:=Tryz.zeroValue88
 t75:=Tryz.underlying91
 a75:=Tryz.isAgg91
 z75:=Tryz.sizeOf91
 v75:=Tryz.zeroValue91
 t76:=Tryz.underlying92
 a76:=Tryz.isAgg92
 z76:=Tryz.sizeOf92
 v76:=Tryz.zeroValue92
 t127:=Tryz.underlying143
 a127:=Tryz.isAgg143
 z127:=Tryz.sizeOf143
 v127:=Tryz.zeroValue143
 t164:=Tryz.underlying186
 a164:=Tryz.isAgg186
 z164:=Tryz.sizeOf186
 v164:=Tryz.zeroValue186}
theorem Tryz.Builder_Extra_156:Builder.Extra prog Tryz.lays156_ren:={
 sizeBuilder:=by kernel_rfl
 liesBuilder:=by kernel_rfl
 t5:=Tryz.underlying5
 a5:=Tryz.isAgg5
 z5:=Tryz.sizeOf5
 v5:=Tryz.zeroValue5
 infoByte:=by kernel_rfl
 cellsByte:=by kernel_rfl
 sizeByte:=by kernel_rfl
 neB5:=by decide}
open Go.RowKit in
theorem Tryz.strings_Join_none (a:Option Addr)(c:Nat)(sep:ByteArray)(w:World):
 Calls prog 99 #[.slice a 0 c,.string sep] w fun e w'=>e= .returned (.string ⟨#[]⟩)/\ w'=w:=Any.strings_Join_none Tryz.lays156 Tryz.Builder_Extra_156 a c sep w
open Go.RowKit in
theorem Tryz.strings_Join (bk o c:Nat)(xs:List ByteArray)(sep:ByteArray)(w:World)(hcells: ∀(j:Nat) x,xs[j]? =some x->w.cell? ⟨bk,o+j,none⟩=some (.string x))(hbk:bk<w.heap.size)(hN:xs.length<=140737488355328)(hcap:xs.length<=c)(hlen:(Lib.join (xs.map (·.data.toList)) sep.data.toList).length<=140737488355328):
 Calls prog 99 #[.slice (some ⟨bk,o,none⟩) xs.length c,.string sep] w fun e w'=>e= .returned (.string ⟨(Lib.join (xs.map (·.data.toList)) sep.data.toList).toArray⟩)/\ Below w.heap.size w w':=Any.strings_Join Tryz.lays156 Tryz.Builder_Extra_156 bk o c xs sep w hcells hbk hN hcap hlen
def Tryz.lays171_ren:Go.Shelf.Ren:=⟨fun|171=>146|243=>176|246=>194|283=>201|284=>202|285=>203|286=>204|129=>211|317=>210|318=>212|319=>213|320=>214|337=>215|338=>216|n=>n,fun|3=>3|9=>9|2=>2|4=>4|171=>234|0=>0|53=>22|37=>30|5=>5|173=>237|212=>244|51=>138|20=>20|213=>245|46=>83|232=>253|233=>254|n=>n,fun|17=>1|18=>4|19=>5|n=>n⟩
theorem Tryz.lays171:Go.Proofs.Lays.n171 prog Tryz.lays171_ren:={
 mixed:=by kernel_rfl
 f129:=Tryz.func211.trans (congrArg some (by kernel_rfl))
 f171:=Tryz.func146.trans (congrArg some (by kernel_rfl))
 f243:=Tryz.func176.trans (congrArg some (by kernel_rfl))
 f246:=Tryz.func194.trans (congrArg some (by kernel_rfl))
 f283:=Tryz.func201.trans (congrArg some (by kernel_rfl))
 f284:=Tryz.func202.trans (congrArg some (by kernel_rfl))
 f285:=Tryz.func203.trans (congrArg some (by kernel_rfl))
 f286:=Tryz.func204.trans (congrArg some (by kernel_rfl))
 f317:=Tryz.func210.trans (congrArg some (by kernel_rfl))
 f318:=Tryz.func212.trans (congrArg some (by kernel_rfl))
 f319:=Tryz.func213.trans (congrArg some (by kernel_rfl))
 f320:=Tryz.func214.trans (congrArg some (by kernel_rfl))
 f337:=Tryz.func215.trans (congrArg some (by kernel_rfl))
 f338:=Tryz.func216.trans (congrArg some (by kernel_rfl))
 t0:=Tryz.underlying0
 a0:=Tryz.isAgg0
 z0:=Tryz.sizeOf0
 v0:=Tryz.zeroValue0
 t2:=Tryz.underlying2
 a2:=Tryz.isAgg2
 z2:=Tryz.sizeOf2
 v2:=Tryz.zeroValue2
 t3:=Tryz.underlying3
 a3:=Tryz.isAgg3
 z3:=Tryz.sizeOf3
 v3:=Tryz.zeroValue3
 t4:=Tryz.underlying4
 a4:=Tryz.isAgg4
 z4:=Tryz.sizeOf4
 v4:=Tryz.zeroValue4
 t5:=Tryz.underlying5
 a5:=Tryz.isAgg5
 z5:=Tryz.sizeOf5
 v5:=Tryz.zeroValue5
 t9:=Tryz.underlying9
 a9:=Tryz.isAgg9
 z9:=Tryz.sizeOf9
 v9:=Tryz.zeroValue9
 t20:=Tryz.underlying20
 a20:=Tryz.isAgg20
 z20:=Tryz.sizeOf20
 v20:=Tryz.zeroValue20
 t37:=Tryz.underlying30
 a37:=Tryz.isAgg30
 z37:=Tryz.sizeOf30
 v37:=Tryz.zeroValue30
 t46:=Tryz.underlying83
 a46:=Tryz.isAgg83
 z46:=Tryz.sizeOf83
 v46:=Tryz.zeroValue83
 t51:=Tryz.underlying138
 a51:=Tryz.isAgg138
 z51:=Tryz.sizeOf138
 v51:=Tryz.zeroValue138
 t53:=Tryz.underlying22
 a53:=Tryz.isAgg22
 z53:=Tryz.sizeOf22
 v53:=Tryz.zeroValue22
 t171:=Tryz.underlying234
 a171:=Tryz.isAgg234
 z171:=Tryz.sizeOf234
 v171:=Tryz.zeroValue234
 t173:=Tryz.underlying237
 a173:=Tryz.isAgg237
 z173:=Tryz.sizeOf237
 v173:=Tryz.zeroValue237
 t212:=Tryz.underlying244
 a212:=Tryz.isAgg244
 z212:=Tryz.sizeOf244
 v212:=Tryz.zeroValue244
 t213:=Tryz.underlying245
 a213:=Tryz.isAgg245
 z213:=Tryz.sizeOf245
 t232:=Tryz.underlying253
 a232:=Tryz.isAgg253
 z232:=Tryz.sizeOf253
 v232:=Tryz.zeroValue253
 t233:=Tryz.underlying254
 a233:=Tryz.isAgg254
 z233:=Tryz.sizeOf254
 v233:=Tryz.zeroValue254
 g17:=by kernel_rfl
 g18:=by kernel_rfl
 g19:=by kernel_rfl}
open Go.RowKit Go.Sort Go.Lib in
theorem Tryz.strconv_Itoa_small (i:Nat)(hi:i<100)(w:World):
 Calls prog 146 #[.int .i64 i] w fun e w'=>e= .returned (.string ⟨(Lib.decDigits i).toArray⟩)/\ w'=w:=Any.strconv_Itoa_small Tryz.lays171 i hi w
end Go.Proofs
namespace Go.Ab
open Go Go.RowKit Go.Fwd Go.Proofs
theorem ent99:Ent prog 99:=enters_of Tryz.func99 (by kernel_rfl) rfl
theorem ent146:Ent prog 146:=enters_of Tryz.func146 (by kernel_rfl) rfl
theorem raws1 {P:Program} {X:Cx} {u:Value} {us:List Value} (h:zbe (ITP P) X [.raw u] us):us=[u]:=by
 obtain⟨a,l,rfl,ha,hl⟩:=h;have ha:a=u:=ha;have hl:l=[]:=hl;rw[ha,hl]
theorem qdk (i:Nat)(h:i<100):Pure (ITP prog) prog 146 [.raw (.int .i64 i)] (.raw (.string (bs (Lib.decDigits i)))):=
 zig [.int .i64 i] ent146 (fun X us h=>raws1 h) fun X hI=>(Tryz.strconv_Itoa_small i h X.w).mono fun e w' ⟨h1,h2⟩=>⟨_,h1,h2,fun Y=>rfl⟩
theorem z9n {IT:IterP} {X:Cx}: ∀(xs:List (List UInt8)) (b o:Nat),At IT X (Enc.cellsL xs) b o-> ∀(j:Nat) (x:List UInt8),xs[j]? =some x->X.w.cell? ⟨b,o+j,none⟩=some (.string (bs x))
 |[],_,_,_,j,x,h=>by simp at h
 | y::ys,b,o,h,j,x,hj=>by
  have h':At IT X (.raw (.string (bs y))::Enc.cellsL ys) b o:=h;rw[At] at h';obtain⟨⟨_,v,hv,_,hr⟩,ht⟩:=h';cases j with
  |zero=>simp at hj;subst hj;rw[Rep] at hr;rw[<-hr];exact hv
  |succ j=>have:=z9n ys b (o+1) ht j x (by simpa using hj);rw[show o+(j+1)=o+1+j by omega];exact this
theorem qby (xs:List (List UInt8))(sep:List UInt8)(g:(xs.length:Int)<=140737488355328/\ ((Lib.join xs sep).length:Int)<=140737488355328):Pure (ITP prog) prog 99 [.list xs.length (Enc.cellsL xs) .none,.raw (.string (bs sep))] (.raw (.string (bs (Lib.join xs sep)))):=by
 refine⟨ent99,fun X us hI hr=> ?_⟩;have fin: ∀w',Below X.w.heap.size X.w w'-> ∃v X',Ending.returned (.string (bs (Lib.join xs sep)))= .returned v/\ X'.w=w'/\ Ext X X'/\ Inv (ITP prog) St.empty X'/\ Rep (ITP prog) X' (.raw (.string (bs (Lib.join xs sep)))) v:=fun w' hx=>by
  have hg:Grows X.w w':=⟨⟨hx.os,hx.tape,hx.output,hx.size,hx.block⟩,le_refl _⟩;exact⟨_,zgz X w' [],rfl,rfl,zlc hI [] hg,zlj (ze _) hI [] hg,rfl⟩
 obtain⟨v,l,rfl,hv,u,l',rfl,hu,hl⟩:=hr;have hu:u= .string (bs sep):=hu;have hl:l'=[]:=hl;subst hu hl;rw[Rep] at hv;obtain⟨a,cap,rfl,⟨hcap,_⟩,hc,_⟩:=hv;rcases hc with hc|⟨b,o,rfl,hat⟩
 ·have hn:xs=[]:=by
   cases xs with
   |nil=>rfl
   |cons x xs=>rw[Enc.cons] at hc;cases hc
  subst hn;exact(Tryz.strings_Join_none a cap (bs sep) X.w).mono fun e w' ⟨h1,h2⟩=>by subst h1 h2;exact fin _ (Below.refl _ _)
 ·cases xs with
  |nil=>exact(Tryz.strings_Join_none _ cap (bs sep) X.w).mono fun e w' ⟨h1,h2⟩=>by subst h1 h2;exact fin _ (Below.refl _ _)
  | cons x ys=>
   have hlt:b<X.w.heap.size:=by
    have h':At (ITP prog) X (.raw (.string (bs x))::Enc.cellsL ys) b o:=hat
    rw[At] at h';exact hI.Flt h'.1.1
   have e1:((x::ys).map bs).map (·.data.toList)=x::ys:=by rw[List.map_map];exact(List.map_congr_left fun y _=>rfl).trans (List.map_id _)
   have h:=Tryz.strings_Join b o cap ((x::ys).map bs) (bs sep) X.w (fun j y hj=>by
    rw[List.getElem?_map,Option.map_eq_some_iff] at hj;obtain⟨z,hz,rfl⟩:=hj;exact z9n _ b o hat j z hz) hlt (by rw[length_map];omega) (by rw[length_map];exact hcap) (by rw[e1];show(Lib.join (x::ys) sep).length<=_;omega)
   rw[e1,length_map] at h;exact h.mono fun e w' ⟨h1,h2⟩=>by subst h1;exact fin _ h2
variable {K:Exit->Act->World->Prop} {X0:Cx} {ops:Array Oper}
structure Ct where
 f:Nat
 args:List AV
 r:AV
def qgw (c:Ct):Prop:=Pure (ITP prog) prog c.f c.args c.r
def tbl (T:List Ct):CallP:=fun f args=>match T.find? (fun c=>c.f==f&&zmg c.args args) with
 |some c=>some c.r
 |none=>none
theorem zqk {T:List Ct} (h: ∀c∈T,qgw c):Good prog (tbl T) bldS:=⟨mix,ents,(fun f args r e=>by
 unfold tbl at e;split at e
 ·rename_i c hc;cases e;have h1:=List.find?_some hc;simp only[Bool.and_eq_true,beq_iff_eq] at h1;have h2:=h c (List.mem_of_find?_eq_some hc);rw[qgw,h1.1,zfl _ _ h1.2] at h2;exact h2
 ·cases e),bldS_ok⟩
def avT (t:Tr):AV:= .agg (Enc.cells t)
def avG (t:Rg):AV:= .agg (Enc.cells t)
def avU (s:BS):AV:= .agg (Enc.cells s)
def avZ (l:List UInt8):AV:= .raw (.string (bs l))
def avI (n:Int):AV:= .raw (.int .i64 n)
section
variable {H:Bool} {P:Program} {Ω:CallP} {Ψ:CallS}
def sufC:Nat->Code->Code
 |0,c=>c
 |n+1,.seq _ y=>sufC n y
 |_+1,c=>c
def qat (run:Run):Nat->Code->List AV->St->Option (List AV×St)
 |0,_,S,U=>some (S,U)
 | n+1,.seq x y,S,U=>match run x S.length S U with
  |some (.normal,S1,U1)=>qat run n y S1 U1
  |_=>none
 |_+1,_,_,_=>none
theorem w_pre (hG:Good P Ω Ψ) {k k0:Nat} {Q:AQ} {S':List AV} {U':St}: ∀(n:Nat) (c:Code) (S:List AV) (U:St) (S1:List AV) (U1:St),qat (evQ H P Ω Ψ k) (n+1) c S U=some (S1,U1)->Wk k0 S1 U1 S' U'->awp (ITP P) P none k0 (sufC (n+1) c) Q S' U'->awp (ITP P) P none k0 c Q S U
 | n,.seq x y,S,U,S1,U1,h,hw,hk=>by
  rw[qat] at h;split at h
  ·rename_i S2 U2 h2;obtain⟨hl,h3⟩:=zrd (H:=H) hG k _ _ _ _ _ _ _ h2 rfl;refine .inl (zcy (h3 _ ?_));cases n with
   | zero=>
    rw[qat] at h;cases h;exact⟨S',U',hw,hk⟩
   |succ n=>exact⟨S2,U2,Wk.refl _ _ _,w_pre hG n y S2 U2 S1 U1 h hw hk⟩
  ·cases h
 |_,.skip,_,_,_,_,h,_,_=>by cases h
 |_,.cond _ _ _,_,_,_,_,h,_,_=>by cases h
 |_,.block _ _,_,_,_,_,h,_,_=>by cases h
 |_,.loop _,_,_,_,_,h,_,_=>by cases h
 |_,.exit _,_,_,_,_,h,_,_=>by cases h
 |_,.ret,_,_,_,_,h,_,_=>by cases h
 |_,.label _,_,_,_,_,h,_,_=>by cases h
 |_,.scope _,_,_,_,_,h,_,_=>by cases h
 |_,.region _ _ _,_,_,_,_,h,_,_=>by cases h
 |_,.rangeFunc _ _ _ _,_,_,_,_,h,_,_=>by cases h
 |_,.goto _,_,_,_,_,h,_,_=>by cases h
 |_,.refuse _,_,_,_,_,h,_,_=>by cases h
def qjg:Option AV->Bool
 |some (.raw (.bool true))=>true
 |_=>false
def tailB (run:Run)(P:Program)(fn:Func)(c:Code)(S:List AV)(U:St):Bool:=match run c S.length S U with
 |some (.ret,S1,U1)=>qjg (zar P fn U1 S1)
 |_=>false
theorem w_tail (hG:Good P Ω Ψ) {k k0:Nat} {fn:Func} {c:Code} {S:List AV} {U:St} (h:tailB (evQ H P Ω Ψ k) P fn c S U=true):awp (ITP P) P none k0 c (ztl P fn (.raw (.bool true))) S U:=by
 unfold tailB at h;split at h
 ·rename_i S1 U1 h1;obtain⟨_,h2⟩:=zrd (H:=H) hG k _ _ _ _ _ _ _ h1 rfl;refine zcy (h2 _ ?_);unfold qjg at h;split at h
  ·rename_i h3;exact zbh (y:=true) rfl h3
  ·cases h
 ·cases h
def qjb (run:Run)(cp:CallP)(cs:CallS)(P:Program)(Ψ:CallS)(ops:Array Oper)(l:List Oper)(rest:Code)(n:Nat)(ms:List Bool)(S:List AV)(U:St):Option (List AV×St):=match zmr P Ψ cp cs ops l S U with
 | some (S1,U1)=>match run rest S1.length S1 U1 with
  |some (.normal,S2,U2)=>if zxs n U2=true/\ zab n (fgM ms S2)=true then some (fgM ms S2,zem n U2) else none
  |_=>none
 |none=>none
theorem z4g (hG:Good P Ω Ψ) {k n:Nat} {ops:Array Oper} {l:List Oper} {rest:Code} {ms:List Bool} {S S':List AV} {U U':St} (h:qjb (evQ H P Ω Ψ k) (zjn P Ω (evQ H P Ω Ψ k)) (zpo P Ψ (evQ H P Ω Ψ k)) P Ψ ops l rest n ms S U=some (S',U')):
 zca (ITP P) P none ops (fun S2 U2=>awp (ITP P) P none n rest (fun e S3 U3=>e= .normal/\ Wk n S3 U3 S' U') S2 U2) l S U:=by
 unfold qjb at h;split at h
 ·rename_i S1 U1 h1;split at h
  ·rename_i S2 U2 h2;split at h
   ·rename_i hc;cases h;obtain⟨_,h3⟩:=zez hG.oracleS (zrg hG (zrd (H:=H) hG k)) (zyh hG (zrd (H:=H) hG k)) l _ _ _ _ h1;obtain⟨_,h4⟩:=zrd (H:=H) hG k _ _ _ _ _ _ _ h2 rfl;exact h3 _ (zcy (h4 _ ⟨rfl,zfx ms n rfl (le_refl _) hc.1 hc.2 rfl⟩))
   ·cases h
  ·cases h
 ·cases h
end
def bS (n:Nat):BS:=1#256<<<n
def clT (s:BS):Tr:= .mk 2 s 0 0 []
def clA:Tr:=clT (bS 97)
def clB:Tr:=clT (bS 98)
def clC:Tr:=clT (bS 99)
def zoy:Tr:= .mk 5 0#256 0 (-1) [clC]
def starB:Tr:= .mk 5 0#256 0 (-1) [clB]
def emT:Tr:= .mk 1 0#256 0 0 []
def abU:BS:=bS 97|||bS 98
def abcU:BS:=abU|||bS 99
def daU:BS:=bS 97|||bS 45
def eS0:List UInt8:=[97,124,98,99,42]
def eT0:Tr:=(.mk 4 0#256 0 0 [clA,.mk 3 0#256 0 0 [clB,zoy]]:Tr)
def eS1:List UInt8:=[97,40,63,58,98,124,41]
def eT1:Tr:=(.mk 3 0#256 0 0 [clA,.mk 4 0#256 0 0 [clB,emT]]:Tr)
def eS2:List UInt8:=[40,97,41,123,50,44,51,125]
def eT2:Tr:=(.mk 5 0#256 2 3 [.mk 6 0#256 0 0 [clA]]:Tr)
def eS3:List UInt8:=[40,63,58,97,42,41,42]
def eT3:Tr:=(.mk 5 0#256 0 (-1) [.mk 5 0#256 0 (-1) [clA]]:Tr)
def wS0:List UInt8:=[91,97,45,99,93]
def wU0:BS:=abcU
def wS1:List UInt8:=[91,97,98,93]
def wU1:BS:=abU
def wS2:List UInt8:=[91,92,45,97,93]
def wU2:BS:=daU
def wS3:List UInt8:=[91,94,97,93]
def wU3:BS:=(~~~ bS 97)
def wS4:List UInt8:=[46]
def wU4:BS:=(~~~ bS 10)
def wS5:List UInt8:=[92,42]
def wU5:BS:=bS 42
def wS6:List UInt8:=[92,110]
def wU6:BS:=bS 10
def wS7:List UInt8:=[91,92,120,48,48,45,92,120,102,102,93]
def wU7:BS:=(~~~ 0#256)
def gAB:Rg:=Rg.mk false false (.mk 3 0#256 0 0 [clA,starB])
def gCl:Rg:=Rg.mk false false (clT abU)
def rdL:List (List UInt8×Rg):=[([91,97,93,123,49,125,98,123,48,44,125],gAB),([91,97,98,93],gCl),([91,98,45,98,97,93],gCl)]
def stL:List (BS×List UInt8):=[(bS 97,[97]),(bS 98,[98]),(bS 99,[99]),(abU,[91,97,98,93])]
def trL:List Tr:=[eT0,eT1,eT2,eT3]
def wsL:List (BS×List UInt8):=[(wU0,wS0),(wU1,wS1),(wU2,wS2),(wU3,wS3),(wU4,wS4),(wU5,wS5),(wU6,wS6),(wU7,wS7)]
def jnL:List (List (List UInt8)):=[[[97],[98,99,42]],[[98],[]]]
def tblA:List Ct:=(stL.map fun p=>⟨62,[avU p.1],avZ p.2⟩)++(trL.map fun t=>⟨54,[avT t],.raw (.bool true)⟩)++(jnL.map fun l=>⟨99,[.list l.length (Enc.cellsL l) .none,avZ [124]],avZ (Lib.join l [124])⟩)++([2,3].map fun n=>⟨146,[avI (n:Nat)],avZ (Lib.decDigits n)⟩)
theorem z8t: ∀c∈tblA,qgw c:=by
 intro c hc;simp only[tblA,mem_append,mem_map] at hc;rcases hc with((⟨p,hp,rfl⟩|⟨t,ht,rfl⟩)|⟨l,hl,rfl⟩)|⟨n,hn,rfl⟩
 ·simp only[stL,mem_cons,List.not_mem_nil,or_false] at hp;have h: ∀s:BS,s≠0#256->qgw ⟨62,[avU s],avZ (zgm s)⟩:=fun s hs=>z9l 1100 s _ (qbi s hs);rcases hp with rfl|rfl|rfl|rfl
  ·exact(show zgm (bS 97)=[97] by decide+kernel)▸h _ (by decide)
  ·exact(show zgm (bS 98)=[98] by decide+kernel)▸h _ (by decide)
  ·exact(show zgm (bS 99)=[99] by decide+kernel)▸h _ (by decide)
  ·exact(show zgm abU=[91,97,98,93] by decide+kernel)▸h _ (by decide)
 ·simp only[trL,mem_cons,List.not_mem_nil,or_false] at ht;have h: ∀t:Tr,(pre t).length<2^61->zff t=true->qgw ⟨54,[avT t],.raw (.bool true)⟩:=fun t h1 h2=>h2▸zrc t h1;rcases ht with rfl|rfl|rfl|rfl<;>exact h _ (by decide+kernel) (by decide+kernel)
 ·simp only[jnL,mem_cons,List.not_mem_nil,or_false] at hl;rcases hl with rfl|rfl<;>exact qby _ _ ⟨by decide+kernel,by decide+kernel⟩
 ·simp only[mem_cons,List.not_mem_nil,or_false] at hn;rcases hn with rfl|rfl<;>exact qdk _ (by decide)
def tblB:List Ct:=wsL.map fun p=>⟨27,[avU p.1],.tup [avZ p.2,avI 0]⟩
theorem tblB_ok: ∀c∈tblB,qgw c:=by
 intro c hc;simp only[tblB,mem_map] at hc;obtain⟨p,hp,rfl⟩:=hc;simp only[wsL,mem_cons,List.not_mem_nil,or_false] at hp;have h: ∀s:BS,s≠0#256->qgw ⟨27,[avU s],.tup [avZ (zgm s),avI 0]⟩:=fun s hs=>zwb 1100 s (zgm s,0) ((zsp s).trans (by rw[if_neg hs]));rcases hp with rfl|rfl|rfl|rfl|rfl|rfl|rfl|rfl
 ·exact(show zgm wU0=wS0 by decide+kernel)▸h _ (by decide+kernel)
 ·exact(show zgm wU1=wS1 by decide+kernel)▸h _ (by decide+kernel)
 ·exact(show zgm wU2=wS2 by decide+kernel)▸h _ (by decide+kernel)
 ·exact(show zgm wU3=wS3 by decide+kernel)▸h _ (by decide+kernel)
 ·exact(show zgm wU4=wS4 by decide+kernel)▸h _ (by decide+kernel)
 ·exact(show zgm wU5=wS5 by decide+kernel)▸h _ (by decide+kernel)
 ·exact(show zgm wU6=wS6 by decide+kernel)▸h _ (by decide+kernel)
 ·exact(show zgm wU7=wS7 by decide+kernel)▸h _ (by decide+kernel)
def tblC:List Ct:=tblA++(rdL.map fun p=>⟨23,[avZ p.1],.tup [avG p.2,avI (p.1.length:Int),avI 0]⟩)++(rdL.map fun p=>⟨56,[avG p.2],avI 0⟩)++[⟨72,[],avU zbo⟩]++([(97,[97]),(46,[92,46]),(98,[98])].map fun(p:Int×List UInt8)=>⟨112,[.raw (.int .u8 p.1),avU zbo],avZ p.2⟩)
theorem tblC_ok: ∀c∈tblC,qgw c:=by
 intro c hc;simp only[tblC,mem_append,mem_map] at hc;rcases hc with(((hc|⟨p,hp,rfl⟩)|⟨p,hp,rfl⟩)|hc)|⟨p,hp,rfl⟩
 ·exact z8t c hc
 ·refine qin 1100 10 p.1 (p.2,(p.1.length:Int),0) ?_;simp only[rdL,mem_cons,List.not_mem_nil,or_false] at hp;rcases hp with rfl|rfl|rfl<;>kernel_rfl
 ·refine z4e p.2 0 ?_;simp only[rdL,mem_cons,List.not_mem_nil,or_false] at hp;rcases hp with rfl|rfl|rfl<;>decide+kernel
 ·rw[mem_singleton.1 hc];exact z3k
 ·simp only[mem_cons,List.not_mem_nil,or_false] at hp;have h: ∀e:Int,0<=e/\ e<256->qgw ⟨112,[.raw (.int .u8 e),avU zbo],avZ (byT zbo (zkx e))⟩:=fun e he=>z9e he;rcases hp with rfl|rfl|rfl
  ·exact(show byT zbo (zkx 97)=[97] by decide+kernel)▸h 97 (by decide)
  ·exact(show byT zbo (zkx 46)=[92,46] by decide+kernel)▸h 46 (by decide)
  ·exact(show byT zbo (zkx 98)=[98] by decide+kernel)▸h 98 (by decide)
theorem good0:Good prog (tbl []) bldS:=zqk fun c hc=>by cases hc
theorem qct {a b:List UInt8} (h:((bs a)==(bs b))=false):zwd .string (.string (bs a)) (.string (bs b)):=by
 show some ((bs a)==(bs b))=some false;rw[h]
theorem ct0 {f:Nat} {args:List AV} {r:AV} (h:zjn prog (tbl []) (evQ true prog (tbl []) bldS 300) f args=some r):Pure (ITP prog) prog f args r:=zfz true good0 300 h
def emC:List AV:=[.raw (.int .u8 1),.raw (.int .u64 0),.raw (.int .u64 0),.raw (.int .u64 0),.raw (.int .u64 0),.raw (.int .i64 0),.raw (.int .i64 0),.list 0 [] .full]
def awS:List AV:=(.raw (.bool false):: .ptr 0 0:: .ptr 1 0:: .ptr 2 0:: .ptr 3 0:: .top:: .top:: .top:: .top:: .top:: .top:: .top:: .top:: .top:: .top:: .top:: .top:: .top:: .top:: .top:: .top:: .top:: .top:: .top:: .top:: .top:: .top:: .top:: .top:: .top:: .top:: .top:: .top:: .top:: .top:: .top:: .top:: .top:: .top:: .top:: .top:: .top:: .top:: .top:: .top:: .top:: .top:: .top:: .top:: .top:: .top:: .top:: .top:: .top:: .top:: .top:: .top:: .top:: .top:: .top:: .top:: .top:: .top:: .top:: .top:: .top:: .top:: .top:: .top:: .top:: .top:: .top:: .top:: .top:: .top:: .top:: .top:: .top:: .top:: .top:: .top:: .top:: .top:: .top:: .top:: .top:: .top:: .top:: .top:: .top:: .top:: .top:: .top:: .top:: .top:: .top:: .top:: .top:: .top:: .top:: .top:: .top:: .top:: .top:: .top:: .top:: .top:: .top:: .top:: .top:: .top:: .top:: .top:: .top:: .top:: .top:: .top:: .top:: .top:: .top:: .top:: .top:: .top::[])
def awσ:St:=⟨[(27,Enc.cells (clA:Tr)),(27,Enc.cells (clB:Tr)),(27,Enc.cells (clC:Tr)),(27,emC)],[],[],0,false⟩
def aE:List AV:=(.raw (.bool false):: .ptr 0 0:: .ptr 1 0:: .ptr 2 0:: .ptr 3 0:: .top:: .top:: .top:: .top:: .top:: .top:: .top:: .top:: .top:: .top:: .top:: .top:: .top:: .top:: .top:: .top:: .top:: .top::avT clA::avT clB::avT clC::avT zoy:: .list 2 (Enc.cells (clB:Tr)++Enc.cells (zoy:Tr)) .full::avT (.mk 3 0#256 0 0 [clB,zoy]):: .list 2 (Enc.cells (clA:Tr)++Enc.cells ((.mk 3 0#256 0 0 [clB,zoy]):Tr)) .full::avT eT0::avT clA::avT clB:: .agg emC:: .list 2 (Enc.cells (clB:Tr)++emC) .full::avT (.mk 4 0#256 0 0 [clB,emT]):: .list 2 (Enc.cells (clA:Tr)++Enc.cells ((.mk 4 0#256 0 0 [clB,emT]):Tr)) .full::avT eT1::avT clA:: .list 1 (Enc.cells (clA:Tr)) .full::avT (.mk 6 0#256 0 0 [clA])::avT eT2::avT clA::avT (.mk 5 0#256 0 (-1) [clA])::avT eT3:: .top:: .top:: .top:: .top:: .top:: .top:: .top:: .top:: .top:: .top:: .top:: .top:: .top:: .top:: .top:: .top:: .top:: .top:: .top:: .top:: .top:: .top:: .top:: .top:: .top:: .top:: .top:: .top:: .top:: .top:: .top:: .top:: .top:: .top:: .top:: .top:: .top:: .top:: .top:: .top:: .top:: .top:: .top:: .top:: .top:: .top:: .top:: .top:: .top:: .top:: .top:: .top:: .top:: .top:: .top:: .top:: .top:: .top:: .top:: .top:: .top:: .top:: .top:: .top:: .top:: .top:: .top:: .top:: .top:: .top:: .top:: .top:: .top:: .top:: .top:: .top:: .top:: .top::[])
def aM:MI:=⟨0,[(0,22,false),(27,45,true)],[(9,.string (bs eS0),30),(17,.string (bs eS1),37),(22,.string (bs eS2),41),(26,.string (bs eS3),44)],[(28,46)]⟩
def aL:List (Nat×Nat):=[(9,0),(17,1),(22,2),(26,3)]
def aKs (n:Nat):List UInt8:=match n with|0=>eS0|1=>eS1|2=>eS2|_=>eS3
def aVs (n:Nat):Nat:=match n with|0=>30|1=>37|2=>41|_=>44
theorem aK (i n:Nat)(q:Nat×Value×Nat)(hq:q∈aM.ins)(h:(i,n)∈aL):q=(i,.string (bs (aKs n)),aVs n) \/(q.1≠i/\ zwd .string (.string (bs (aKs n))) q.2.1):=by
 simp only[aM,aL,mem_cons,List.not_mem_nil,or_false,Prod.mk.injEq] at hq h;rcases h with⟨rfl,rfl⟩|⟨rfl,rfl⟩|⟨rfl,rfl⟩|⟨rfl,rfl⟩<;>rcases hq with rfl|rfl|rfl|rfl<;>first|exact .inl rfl|exact .inr ⟨by decide,qct (by decide+kernel)⟩
def aMs:List Bool:=[true,true,true,true,true,true,true,true,true,true,true,true,true,true,true,true,true,true,true,true,true,true,false,false,false,false,false,false,false,false,false,false,false,false,false,false,false,false,false,false,false,false,false,false,false,false,true,true,true,true,true,true,true,true,true,true,true,true,true,true,true,true,true,true,true,true,true,true,true,true,true,true,true,true,true,true,true,true,true,true,true,true,true,true,true,true,true,true,true,true,true,true,true,true,true,true,true,true,true,true,true,true,true,true,true,true,true,true,true,true,true,true,true,true,true,true,true,true,true,true,true,true,true]
def aM2:List Bool:=[true,true,true,true,true,false,false,false,false,true,true,true,true,true,true,true,true,true,true,true,true,true,true,true,true,true,true,true,true,true,true,true,true,true,true,true,true,true,true,true,true,true,true,true,true,true,true,false,false,false,false,false,false,false,false,false,false,false,false,false,false,false,false,false,true,true,true,true,true,true,true,true,true,true,true,true,true,true,true,true,true,true,true,true,true,true,true,true,true,true,true,true,true,true,true,true,true,true,true,true,true,true,true,true,true,true,true,true,true,true,true,true,true,true,true,true,true,true,true,true,true,true,true]
def aM3:List Bool:=[true,true,true,true,true,true,true,true,true,true,true,true,true,true,true,true,true,true,true,true,true,true,true,true,true,true,true,true,true,true,true,true,true,true,true,true,true,true,true,true,true,true,true,true,true,true,false,true,true,true,true,true,true,true,true,true,true,true,true,true,true,true,true,true,true,true,true,true,true,true,true,true,true,true,true,true,true,true,true,true,true,true,true,true,true,true,true,true,true,true,true,true,true,true,true,true,true,true,true,true,true,true,true,true,true,true,true,true,true,true,true,true,true,true,true,true,true,true,true,true,true,true,true]
def aSL (r:Nat):List AV:=awS.set 46 (.raw (.pointer (some ⟨r,0,none⟩)))
theorem a_map {F:Fence} {nn B:Nat} (hops:(do let c<-Tryz.f19.body;ziu 2 c)=some ops)(hF:FenceOk F Tryz.prog):z8n (ITP Tryz.prog) Tryz.prog F nn B K X0 ops aE (sgL awσ []) (MpOk ops aM X0.w.heap.size) 0 ops.toList ((.top::avT clA::avT clB::avT clC::avT zoy:: .list 2 (Enc.cells (clB:Tr)++Enc.cells (zoy:Tr)) .full::avT (.mk 3 0#256 0 0 [clB,zoy]):: .list 2 (Enc.cells (clA:Tr)++Enc.cells ((.mk 3 0#256 0 0 [clB,zoy]):Tr)) .full::avT eT0:: .raw undef::avT clA::avT clB:: .agg emC:: .list 2 (Enc.cells (clB:Tr)++emC) .full::avT (.mk 4 0#256 0 0 [clB,emT]):: .list 2 (Enc.cells (clA:Tr)++Enc.cells ((.mk 4 0#256 0 0 [clB,emT]):Tr)) .full::avT eT1:: .raw undef::avT clA:: .list 1 (Enc.cells (clA:Tr)) .full::avT (.mk 6 0#256 0 0 [clA])::avT eT2:: .raw undef::avT clA::avT (.mk 5 0#256 0 (-1) [clA])::avT eT3:: .raw undef:: .top:: .top::[])):=by
 cases hops;refine⟨fun _=>z2k (ze _) hF rfl rfl rfl rfl (by simp[aM]) (by decide) (by decide) (by decide) (Nat.le_of_ble_eq_true rfl) (fun _=>rfl),?_⟩;refine⟨d_l (ze _) hF (by kernel_rfl) ztg (hb:=by kernel_rfl),?_⟩;refine⟨d_l (ze _) hF (by kernel_rfl) ztg (hb:=by kernel_rfl),?_⟩;refine⟨d_l (ze _) hF (by kernel_rfl) ztg (hb:=by kernel_rfl),?_⟩;refine⟨d_c (ze _) hF (ct0 (f:=17) (args:=[avT clC,avI 0,avI (-1)]) (r:=avT zoy) (by kernel_rfl)) (hb:=by kernel_rfl),?_⟩;refine⟨d_q (ze _) hF (fun _=>by kernel_rfl) (hb:=by kernel_rfl),?_⟩;refine⟨d_c (ze _) hF (ct0 (f:=15) (args:=[.raw (.int .u8 3),.list ((.mk 3 0#256 0 0 [clB,zoy]):Tr).l.length (Enc.cellsL ((.mk 3 0#256 0 0 [clB,zoy]):Tr).l) .none]) (r:=avT (.mk 3 0#256 0 0 [clB,zoy])) (by kernel_rfl)) (hb:=by kernel_rfl),?_⟩;refine⟨d_q (ze _) hF (fun _=>by kernel_rfl) (hb:=by kernel_rfl),?_⟩;refine⟨d_c (ze _) hF (ct0 (f:=15) (args:=[.raw (.int .u8 4),.list (eT0:Tr).l.length (Enc.cellsL (eT0:Tr).l) .none]) (r:=avT eT0) (by kernel_rfl)) (hb:=by kernel_rfl),?_⟩;refine⟨fun ho=>zhh (kd:= .string) (k:= .string (bs eS0)) (kt:=9) (et:=27) (j':=0) (tm:=22) (tv:=30) (f':=false) (ze _) hF rfl rfl rfl ho rfl rfl trivial (by decide) (by simp[aM]) (by simp[aM]) rfl (fun q hq=>aK 9 0 q hq (by simp[aL])) (by decide) (by decide) (fun _=>rfl),?_⟩;refine⟨d_l (ze _) hF (by kernel_rfl) ztg (hb:=by kernel_rfl),?_⟩;refine⟨d_l (ze _) hF (by kernel_rfl) ztg (hb:=by kernel_rfl),?_⟩;refine⟨d_l (ze _) hF (by kernel_rfl) ztg (hb:=by kernel_rfl),?_⟩;refine⟨d_q (ze _) hF (fun _=>by kernel_rfl) (hb:=by kernel_rfl),?_⟩;refine⟨d_c (ze _) hF (ct0 (f:=15) (args:=[.raw (.int .u8 4),.list ((.mk 4 0#256 0 0 [clB,emT]):Tr).l.length (Enc.cellsL ((.mk 4 0#256 0 0 [clB,emT]):Tr).l) .none]) (r:=avT (.mk 4 0#256 0 0 [clB,emT])) (by kernel_rfl)) (hb:=by kernel_rfl),?_⟩;refine⟨d_q (ze _) hF (fun _=>by kernel_rfl) (hb:=by kernel_rfl),?_⟩;refine⟨d_c (ze _) hF (ct0 (f:=15) (args:=[.raw (.int .u8 3),.list (eT1:Tr).l.length (Enc.cellsL (eT1:Tr).l) .none]) (r:=avT eT1) (by kernel_rfl)) (hb:=by kernel_rfl),?_⟩;refine⟨fun ho=>zhh (kd:= .string) (k:= .string (bs eS1)) (kt:=9) (et:=27) (j':=0) (tm:=22) (tv:=37) (f':=false) (ze _) hF rfl rfl rfl ho rfl rfl trivial (by decide) (by simp[aM]) (by simp[aM]) rfl (fun q hq=>aK 17 1 q hq (by simp[aL])) (by decide) (by decide) (fun _=>rfl),?_⟩;refine⟨d_l (ze _) hF (by kernel_rfl) ztg (hb:=by kernel_rfl),?_⟩;refine⟨d_q (ze _) hF (fun _=>by kernel_rfl) (hb:=by kernel_rfl),?_⟩;refine⟨d_c (ze _) hF (ct0 (f:=15) (args:=[.raw (.int .u8 6),.list ((.mk 6 0#256 0 0 [clA]):Tr).l.length (Enc.cellsL ((.mk 6 0#256 0 0 [clA]):Tr).l) .none]) (r:=avT (.mk 6 0#256 0 0 [clA])) (by kernel_rfl)) (hb:=by kernel_rfl),?_⟩;refine⟨d_c (ze _) hF (ct0 (f:=17) (args:=[avT (.mk 6 0#256 0 0 [clA]),avI 2,avI 3]) (r:=avT eT2) (by kernel_rfl)) (hb:=by kernel_rfl),?_⟩;refine⟨fun ho=>zhh (kd:= .string) (k:= .string (bs eS2)) (kt:=9) (et:=27) (j':=0) (tm:=22) (tv:=41) (f':=false) (ze _) hF rfl rfl rfl ho rfl rfl trivial (by decide) (by simp[aM]) (by simp[aM]) rfl (fun q hq=>aK 22 2 q hq (by simp[aL])) (by decide) (by decide) (fun _=>rfl),?_⟩;refine⟨d_l (ze _) hF (by kernel_rfl) ztg (hb:=by kernel_rfl),?_⟩;refine⟨d_c (ze _) hF (ct0 (f:=17) (args:=[avT clA,avI 0,avI (-1)]) (r:=avT (.mk 5 0#256 0 (-1) [clA])) (by kernel_rfl)) (hb:=by kernel_rfl),?_⟩;refine⟨d_c (ze _) hF (ct0 (f:=17) (args:=[avT (.mk 5 0#256 0 (-1) [clA]),avI 0,avI (-1)]) (r:=avT eT3) (by kernel_rfl)) (hb:=by kernel_rfl),?_⟩;refine⟨fun ho=>zhh (kd:= .string) (k:= .string (bs eS3)) (kt:=9) (et:=27) (j':=0) (tm:=22) (tv:=44) (f':=false) (ze _) hF rfl rfl rfl ho rfl rfl trivial (by decide) (by simp[aM]) (by simp[aM]) rfl (fun q hq=>aK 26 3 q hq (by simp[aL])) (by decide) (by decide) (fun _=>rfl),?_⟩;refine⟨fun ho=>du_mv (ze _) hF (t:=45) (t':=22) (j':=0) (f:=true) (f':=false) rfl rfl rfl ho (by decide) (by simp[aM]) (by simp[aM]) rfl (by decide) (by decide) (by decide) (Nat.le_of_ble_eq_true rfl) (fun _=>rfl) (fun _=>by kernel_rfl),?_⟩;refine⟨fun ho=>z3u (ze _) hF (j':=27) (t':=45) rfl rfl rfl ho rfl (by decide) rfl (by simp[aM]) rfl (by decide) (by decide) (Nat.le_of_ble_eq_true rfl) (fun _=>rfl),trivial⟩
def bE:List AV:=(.raw (.bool false):: .ptr 0 0:: .ptr 1 0:: .ptr 2 0:: .ptr 3 0:: .top:: .top:: .top:: .top:: .top:: .top:: .top:: .top:: .top:: .top:: .top:: .top:: .top:: .top:: .top:: .top:: .top:: .top:: .top:: .top:: .top:: .top:: .top:: .top:: .top:: .top:: .top:: .top:: .top:: .top:: .top:: .top:: .top:: .top:: .top:: .top:: .top:: .top:: .top:: .top:: .top:: .top:: .top:: .top:: .top:: .top:: .top:: .top:: .top:: .top:: .top:: .top:: .top:: .top:: .top:: .top:: .top:: .top:: .top:: .top::avU wU0::avU wU1::avU wU2::avU (bS 97)::avU wU3::avU (bS 10)::avU wU4::avU wU5::avU wU6::avU 0#256::avU wU7:: .top:: .top:: .top:: .top:: .top:: .top:: .top:: .top:: .top:: .top:: .top:: .top:: .top:: .top:: .top:: .top:: .top:: .top:: .top:: .top:: .top:: .top:: .top:: .top:: .top:: .top:: .top:: .top:: .top:: .top:: .top:: .top:: .top:: .top:: .top:: .top:: .top:: .top:: .top:: .top:: .top:: .top:: .top:: .top:: .top:: .top:: .top::[])
def bM:MI:=⟨0,[(0,64,false),(20,76,true)],[(2,.string (bs wS0),65),(4,.string (bs wS1),66),(6,.string (bs wS2),67),(9,.string (bs wS3),69),(12,.string (bs wS4),71),(14,.string (bs wS5),72),(16,.string (bs wS6),73),(19,.string (bs wS7),75)],[(21,77)]⟩
def bL:List (Nat×Nat):=[(2,0),(4,1),(6,2),(9,3),(12,4),(14,5),(16,6),(19,7)]
def bKs (n:Nat):List UInt8:=match n with|0=>wS0|1=>wS1|2=>wS2|3=>wS3|4=>wS4|5=>wS5|6=>wS6|_=>wS7
def bVs (n:Nat):Nat:=match n with|0=>65|1=>66|2=>67|3=>69|4=>71|5=>72|6=>73|_=>75
theorem bK (i n:Nat)(q:Nat×Value×Nat)(hq:q∈bM.ins)(h:(i,n)∈bL):q=(i,.string (bs (bKs n)),bVs n) \/(q.1≠i/\ zwd .string (.string (bs (bKs n))) q.2.1):=by
 simp only[bM,bL,mem_cons,List.not_mem_nil,or_false,Prod.mk.injEq] at hq h;rcases h with⟨rfl,rfl⟩|⟨rfl,rfl⟩|⟨rfl,rfl⟩|⟨rfl,rfl⟩|⟨rfl,rfl⟩|⟨rfl,rfl⟩|⟨rfl,rfl⟩|⟨rfl,rfl⟩<;>rcases hq with rfl|rfl|rfl|rfl|rfl|rfl|rfl|rfl<;>first|exact .inl rfl|exact .inr ⟨by decide,qct (by decide+kernel)⟩
def bMs:List Bool:=[true,true,true,true,true,true,true,true,true,true,true,true,true,true,true,true,true,true,true,true,true,true,true,true,true,true,true,true,true,true,true,true,true,true,true,true,true,true,true,true,true,true,true,true,true,true,true,true,true,true,true,true,true,true,true,true,true,true,true,true,true,true,true,true,false,false,false,false,false,false,false,false,false,false,false,false,false,true,true,true,true,true,true,true,true,true,true,true,true,true,true,true,true,true,true,true,true,true,true,true,true,true,true,true,true,true,true,true,true,true,true,true,true,true,true,true,true,true,true,true,true,true,true]
def bM2:List Bool:=[true,true,true,true,true,true,true,true,true,false,false,false,false,true,true,true,true,true,true,true,true,true,true,true,true,true,true,true,true,true,true,true,true,true,true,true,true,true,true,true,true,true,true,true,true,true,true,true,true,true,true,true,true,true,true,true,true,true,true,true,true,true,true,true,true,true,true,true,true,true,true,true,true,true,true,true,true,true,false,false,false,false,false,false,false,false,false,false,false,false,false,false,false,false,false,true,true,true,true,true,true,true,true,true,true,true,true,true,true,true,true,true,true,true,true,true,true,true,true,true,true,true,true]
def bM3:List Bool:=[true,true,true,true,true,true,true,true,true,true,true,true,true,true,true,true,true,true,true,true,true,true,true,true,true,true,true,true,true,true,true,true,true,true,true,true,true,true,true,true,true,true,true,true,true,true,true,true,true,true,true,true,true,true,true,true,true,true,true,true,true,true,true,true,true,true,true,true,true,true,true,true,true,true,true,true,true,false,true,true,true,true,true,true,true,true,true,true,true,true,true,true,true,true,true,true,true,true,true,true,true,true,true,true,true,true,true,true,true,true,true,true,true,true,true,true,true,true,true,true,true,true,true]
def bSL (r:Nat):List AV:=awS.set 77 (.raw (.pointer (some ⟨r,0,none⟩)))
theorem b_map {F:Fence} {nn B:Nat} (hops:(do let c<-Tryz.f19.body;ziu 8 c)=some ops)(hF:FenceOk F Tryz.prog):z8n (ITP Tryz.prog) Tryz.prog F nn B K X0 ops bE (sgL awσ []) (MpOk ops bM X0.w.heap.size) 0 ops.toList ((.top::avU wU0:: .raw undef::avU wU1:: .raw undef::avU wU2:: .raw undef::avU (bS 97)::avU wU3:: .raw undef::avU (bS 10)::avU wU4:: .raw undef::avU wU5:: .raw undef::avU wU6:: .raw undef::avU 0#256::avU wU7:: .raw undef:: .top:: .top::[])):=by
 cases hops;refine⟨fun _=>z2k (ze _) hF rfl rfl rfl rfl (by simp[bM]) (by decide) (by decide) (by decide) (Nat.le_of_ble_eq_true rfl) (fun _=>rfl),?_⟩;refine⟨d_c (ze _) hF (ct0 (f:=12) (args:=[avZ [97,98,99]]) (r:=avU wU0) (by kernel_rfl)) (hb:=by kernel_rfl),?_⟩;refine⟨fun ho=>zhh (kd:= .string) (k:= .string (bs wS0)) (kt:=9) (et:=24) (j':=0) (tm:=64) (tv:=65) (f':=false) (ze _) hF rfl rfl rfl ho rfl rfl trivial (by decide) (by simp[bM]) (by simp[bM]) rfl (fun q hq=>bK 2 0 q hq (by simp[bL])) (by decide) (by decide) (fun _=>rfl),?_⟩;refine⟨d_c (ze _) hF (ct0 (f:=12) (args:=[avZ [97,98]]) (r:=avU wU1) (by kernel_rfl)) (hb:=by kernel_rfl),?_⟩;refine⟨fun ho=>zhh (kd:= .string) (k:= .string (bs wS1)) (kt:=9) (et:=24) (j':=0) (tm:=64) (tv:=66) (f':=false) (ze _) hF rfl rfl rfl ho rfl rfl trivial (by decide) (by simp[bM]) (by simp[bM]) rfl (fun q hq=>bK 4 1 q hq (by simp[bL])) (by decide) (by decide) (fun _=>rfl),?_⟩;refine⟨d_c (ze _) hF (ct0 (f:=12) (args:=[avZ [97,45]]) (r:=avU wU2) (by kernel_rfl)) (hb:=by kernel_rfl),?_⟩;refine⟨fun ho=>zhh (kd:= .string) (k:= .string (bs wS2)) (kt:=9) (et:=24) (j':=0) (tm:=64) (tv:=67) (f':=false) (ze _) hF rfl rfl rfl ho rfl rfl trivial (by decide) (by simp[bM]) (by simp[bM]) rfl (fun q hq=>bK 6 2 q hq (by simp[bL])) (by decide) (by decide) (fun _=>rfl),?_⟩;refine⟨d_c (ze _) hF (ct0 (f:=12) (args:=[avZ [97]]) (r:=avU (bS 97)) (by kernel_rfl)) (hb:=by kernel_rfl),?_⟩;refine⟨d_c (ze _) hF (ct0 (f:=13) (args:=[avU (bS 97)]) (r:=avU wU3) (by kernel_rfl)) (hb:=by kernel_rfl),?_⟩;refine⟨fun ho=>zhh (kd:= .string) (k:= .string (bs wS3)) (kt:=9) (et:=24) (j':=0) (tm:=64) (tv:=69) (f':=false) (ze _) hF rfl rfl rfl ho rfl rfl trivial (by decide) (by simp[bM]) (by simp[bM]) rfl (fun q hq=>bK 9 3 q hq (by simp[bL])) (by decide) (by decide) (fun _=>rfl),?_⟩;refine⟨d_c (ze _) hF (ct0 (f:=12) (args:=[avZ [10]]) (r:=avU (bS 10)) (by kernel_rfl)) (hb:=by kernel_rfl),?_⟩;refine⟨d_c (ze _) hF (ct0 (f:=13) (args:=[avU (bS 10)]) (r:=avU wU4) (by kernel_rfl)) (hb:=by kernel_rfl),?_⟩;refine⟨fun ho=>zhh (kd:= .string) (k:= .string (bs wS4)) (kt:=9) (et:=24) (j':=0) (tm:=64) (tv:=71) (f':=false) (ze _) hF rfl rfl rfl ho rfl rfl trivial (by decide) (by simp[bM]) (by simp[bM]) rfl (fun q hq=>bK 12 4 q hq (by simp[bL])) (by decide) (by decide) (fun _=>rfl),?_⟩;refine⟨d_c (ze _) hF (ct0 (f:=12) (args:=[avZ [42]]) (r:=avU wU5) (by kernel_rfl)) (hb:=by kernel_rfl),?_⟩;refine⟨fun ho=>zhh (kd:= .string) (k:= .string (bs wS5)) (kt:=9) (et:=24) (j':=0) (tm:=64) (tv:=72) (f':=false) (ze _) hF rfl rfl rfl ho rfl rfl trivial (by decide) (by simp[bM]) (by simp[bM]) rfl (fun q hq=>bK 14 5 q hq (by simp[bL])) (by decide) (by decide) (fun _=>rfl),?_⟩;refine⟨d_c (ze _) hF (ct0 (f:=12) (args:=[avZ [10]]) (r:=avU wU6) (by kernel_rfl)) (hb:=by kernel_rfl),?_⟩;refine⟨fun ho=>zhh (kd:= .string) (k:= .string (bs wS6)) (kt:=9) (et:=24) (j':=0) (tm:=64) (tv:=73) (f':=false) (ze _) hF rfl rfl rfl ho rfl rfl trivial (by decide) (by simp[bM]) (by simp[bM]) rfl (fun q hq=>bK 16 6 q hq (by simp[bL])) (by decide) (by decide) (fun _=>rfl),?_⟩;refine⟨d_q (ze _) hF (fun _=>by kernel_rfl) (hb:=by kernel_rfl),?_⟩;refine⟨d_c (ze _) hF (ct0 (f:=13) (args:=[avU 0#256]) (r:=avU wU7) (by kernel_rfl)) (hb:=by kernel_rfl),?_⟩;refine⟨fun ho=>zhh (kd:= .string) (k:= .string (bs wS7)) (kt:=9) (et:=24) (j':=0) (tm:=64) (tv:=75) (f':=false) (ze _) hF rfl rfl rfl ho rfl rfl trivial (by decide) (by simp[bM]) (by simp[bM]) rfl (fun q hq=>bK 19 7 q hq (by simp[bL])) (by decide) (by decide) (fun _=>rfl),?_⟩;refine⟨fun ho=>du_mv (ze _) hF (t:=76) (t':=64) (j':=0) (f:=true) (f':=false) rfl rfl rfl ho (by decide) (by simp[bM]) (by simp[bM]) rfl (by decide) (by decide) (by decide) (Nat.le_of_ble_eq_true rfl) (fun _=>rfl) (fun _=>by kernel_rfl),?_⟩;refine⟨fun ho=>z3u (ze _) hF (j':=20) (t':=76) rfl rfl rfl ho rfl (by decide) rfl (by simp[bM]) rfl (by decide) (by decide) (Nat.le_of_ble_eq_true rfl) (fun _=>rfl),trivial⟩
end Go.Ab
