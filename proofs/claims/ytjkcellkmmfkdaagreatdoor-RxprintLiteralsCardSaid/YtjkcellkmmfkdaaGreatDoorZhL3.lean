import Derived.Test.YtjkcellkmmfkdaaGreatDoorZhTd
set_option linter.all false
set_option maxRecDepth 100000
set_option maxHeartbeats 4000000
open Sum (inl)
open Nat (le_refl le_of_ble_eq_true)
open List (length mem_append mem_cons mem_map mem_singleton)
open Go.Proofs.Tryz (prog)
namespace Go.Ab
open Go Go.RowKit Go.Fwd
open Go.ChangeMaps (setBlock)
section
variable {IT:IterP} {P:Program} {F:Fence} {nn B:Nat} {K:Exit->Act->World->Prop} {X0:Cx} {ops:Array Oper} {E:List AV} {sg:(Nat->Bool)->St} {Mi:MI} {i:Nat} {o:Oper} {x:AV}
theorem z7n (hIT:ITMono IT)(hF:FenceOk F P) {t kt et d t' j':Nat} (hg:o.guard=none)(hop:o.op= .range t (.tmp t'))(hd:o.dst=some d)(ho:ops[i]? =some o)(hu:P.underlying t=some (.map kt et))(hi:Mi.om≠i)(hm:Mi.it=[(i,d)])(hm':(j',t',true)∈Mi.mvs)(hj:zbp ops j'=some t')(hmv: ∀p∈Mi.mvs,p.1≠i/\ p.2.1≠d)(hin: ∀q∈Mi.ins,q.1≠i/\ q.2.2≠d)(htm:d<E.length)(hsg: ∀d,sg (zjy d i)=sg d):
 qak IT P F nn B K X0 ops E sg (MpOk ops Mi X0.w.heap.size) i o .top:=by
 refine⟨hg,fun d' S' X a next hs hd' hkk hbe hwt hwr hr hsz hn hΦ hK=> ?_⟩;have up: ∀j,j≠i->zjy d' i j=d' j:=fun j hj=>zba hj;have up': ∀j,d' j=true->zjy d' i j=true:=fun j hj=>by
  by_cases e:j=i
  ·subst e;rw[hd'] at hj;cases hj
  ·rw[up j e];exact hj
 have hj':d' j'=true:=hwr j' t' hj (by simp only[zgl,ho,hop];exact mem_append.2 (.inl (zfg (by simp[Op.operands]))));obtain⟨hom,hall⟩:=hΦ.mvs _ hm' hj';obtain⟨m,es,c,k1,k2,k3,k4,k5⟩:=hΦ.map hom;have e1:a.eval (.tmp t')= .map (some m):=k3 _ hm' hj';unfold Oper.wpIn;refine⟨fun f _=>hF.fn f,?_⟩;rw[Oper.semAt_plain F _ _ (by intro c hc;rw[hop] at hc;cases hc)];have r1:(execOp a.eval o).run P X.w= .ok (.value (.pointer (some ⟨X.w.heap.size,0,none⟩))) (X.w.alloc (.mapIter (some m) c #[] c)):=by
  simp only[execOp,hop,e1,Sem.run_bind,run_range_map X.w t kt et m es c hu k2];rfl
 rw[r1];have n1:=zso hIT hs hn (zwy X.w (.mapIter (some m) c #[] c) rfl);have n2:=zbz (P:=P) (M:=none) trivial hIT n1 (Ext.refl _) n1.inv ⟨rfl,rfl⟩ o.dst (x:= .top) (v:= .pointer (some ⟨X.w.heap.size,0,none⟩)) (by rw[Rep];trivial);refine hK _ _ (by rw[hsg];exact n2) ?_;have ne: ∀t1,t1≠d->(a.put o.dst (.pointer (some ⟨X.w.heap.size,0,none⟩))).eval (.tmp t1)=a.eval (.tmp t1):=fun t1 h=>zeq _ _ _ _ (by rw[hd];intro e;exact h (Option.some.inj e).symm);have old: ∀(k:Nat) (ob:Obj),X.w.heap[k]? =some ob->(X.w.alloc (.mapIter (some m) c #[] c)).heap[k]? =some ob:=fun k ob h=>(Below.heap_alloc _ _ _ (Array.getElem?_eq_some_iff.1 h).1).trans h;refine⟨fun q hq hqd=> ?_,fun p hp hpd=> ?_,fun p hp hpd=>⟨up' _ hom,fun q hq=>up' _ (hall rfl q hq)⟩,fun _=>⟨m,es,c,k1,old _ _ k2,fun p hp hpd=> ?_,⟨k4.born,k4.nd,fun e he=> ?_,fun q hq hqd=> ?_⟩,fun p hp hpd=> ?_⟩⟩
 ·rw[up _ (hin q hq).1] at hqd;exact⟨up' _ hom,fun j hj=>up' _ ((hΦ.ins q hq hqd).2 j hj)⟩
 ·rw[up _ (hmv p hp).1] at hpd;exact⟨up' _ hom,fun hf q hq=>up' _ ((hΦ.mvs p hp hpd).2 hf q hq)⟩
 ·rw[up _ (hmv p hp).1] at hpd;rw[ne _ (hmv p hp).2];exact k3 p hp hpd
 ·obtain⟨q,hq,q1,q2,q3⟩:=k4.of e he;exact⟨q,hq,up' _ q1,q2,by rw[ne _ (hin q hq).2];exact q3⟩
 ·rw[up _ (hin q hq).1] at hqd;exact k4.all q hq hqd
 ·rw[hm,mem_singleton] at hp;subst hp;refine⟨X.w.heap.size,hs,zea _ _ _ rfl,?_⟩;rw[hd];have hl:d<a.tmps.size:=by omega
  simp[Act.put,Act.eval,hl]
end
theorem qjo {a:Act} {t:Nat} {v:Value} (h:a.eval (.tmp t)=v)(hl:t<a.tmps.size):a.put (some t) v=a:=by
 have h1:a.tmps[t]=v:=by
  have:=h;simpa[Act.eval,hl] using this
 show({a with tmps:=a.tmps.setIfInBounds t v}:Act)=a
 have:a.tmps.setIfInBounds t v=a.tmps:=by
  rw[<-h1];apply Array.ext_getElem?;intro j;by_cases e:t=j
  ·subst e;simp[hl]
  ·rw[Array.getElem?_setIfInBounds_ne e]
 rw[this]
theorem z3o {P:Program} {F:Fence} (hF:FenceOk F P) {nn:Nat} {ops:Array Oper} {Q:Exit->Act->World->Prop} {o:Oper} {l:List Oper} {a:Act} {w w':World} {v:Value} (hg:o.guard=none)(hdf: ∀c,o.op≠ .defer c)(hrun:(execOp a.eval o).run P w= .ok (.value v) w')(h:wpListIn F nn P ops Q l (a.put o.dst v) w'):wpListIn F nn P ops Q (o::l) a w:=by
 simp only[wpListIn];rw[if_pos (by simp[Region.wanted,hg])];unfold Oper.wpIn;refine⟨fun f _=>hF.fn f,?_⟩;rw[Oper.semAt_plain F _ _ hdf,hrun];exact h
theorem seq_sem {IT:IterP} {P:Program} {F:Fence} {nn B:Nat} (hF:FenceOk F P) {id:Nat} {ops:Array Oper} {K:Exit->Act->World->Prop} {X0 X:Cx} {S E vs:List AV} {U:St} {a:Act} {sg:(Nat->Bool)->St} (Φ:(Nat->Bool)->Act->World->Prop)
 (hE:zgq ops.toList vs S=E) (hlen:ops.toList.length=vs.length) (hfl:qpo ops S.length=true) (hback:zyg ops=true) (hσ:sg (fun j=>Nat.ble ops.size j)=U) (hΦ:Φ (fun j=>Nat.ble ops.size j) a X.w) (hn:Now IT none F B X0 S U X a)
 (hop: ∀i o x,ops[i]? =some o->vs[i]? =some x->qak IT P F nn B K X0 ops E sg Φ i o x)
 (hQ: ∀X a,Now IT none F B X0 E (sg fun _=>true) X a->Φ (fun _=>true) a X.w->K .normal a X.w):(Code.region id ops false).wpIn F nn P K a X.w:=by
 have hdst: ∀ {j:Nat} {o:Oper},ops[j]? =some o->zbp ops j=o.dst:=fun {j o} ho=>by rw[zbp,ho];rfl
 have hEl:E.length=S.length:=by rw[<-hE,zhk]
 have hat: ∀ {j:Nat} {o:Oper},ops[j]? =some o-> ∃a,vs[j]? =some a:=fun {j o} ho=>by
  have:=(Array.getElem?_eq_some_iff.1 ho).1;exact⟨vs[j]'(by simp at hlen;omega),List.getElem?_eq_getElem _⟩
 have hEd: ∀ {j:Nat} {o:Oper} {a:AV} {t:Tmp},ops[j]? =some o->vs[j]? =some a->o.dst=some t->E[t]? =some a:=fun {j o a t} ho ha ht=>by
  obtain⟨s1,s2,_⟩:=zfd hfl ((hdst ho).trans ht);rw[<-hE];exact zkr _ _ _ j o a (by rw[<-ho,Array.getElem?_toList]) ha ht s1 fun i o' hi ho'=>by
   rw[Array.getElem?_toList] at hi;exact s2 i ((hdst hi).trans ho')
 have hlow: ∀i j,zhi ops i j=true->j<i:=fun i j hw=>by
  obtain⟨o',ho',e,he,hb,hon⟩:=zef hw;have hi:=(Array.getElem?_eq_some_iff.1 ho').1;have h1:=List.all_eq_true.1 hback i (List.mem_range.2 hi);rw[ho'] at h1;have h2:=Array.all_eq_true'.1 h1 e he;have h3:e.on<i:=by simpa[hb] using h2
  omega
 have key: ∀(l:List Oper) (k:Nat) (d:Nat->Bool) (S':List AV) (X:Cx) (a:Act),ops.toList.drop k=l->(∀j,d j=true↔(j<k \/ops.size<=j))->S'.length=E.length->
  (∀t,(∀j,zbp ops j=some t->d j=true)->S'[t]? =E[t]?)->Now IT none F B X0 S' (sg d) X a->Φ d a X.w->wpListIn F nn P ops K l a X.w:=by
  intro l;induction l with
  | nil=>
   intro k d S' X a hl hd hS hk hn hΦ;have hk':ops.size<=k:=by
    have:=List.drop_eq_nil_iff.1 hl;simpa using this
   have hg: ∀j,d j=true:=fun j=>(hd j).2 (by omega);have e1:S'=E:=List.ext_getElem? fun t=>hk t fun j _=>hg j;have e2:d=fun _=>true:=funext hg;subst e1 e2;exact hQ X a hn hΦ
  | cons o l ih=>
   intro k d S' X a hl hd hS hk hn hΦ;have ho:ops[k]? =some o:=by
    rw[<-Array.getElem?_toList, <-List.head?_drop,hl];rfl
   have hlt:k<ops.size:=(Array.getElem?_eq_some_iff.1 ho).1;have hl':ops.toList.drop (k+1)=l:=by rw[<-List.drop_drop,hl];rfl
   obtain⟨x,hx⟩:=hat ho;obtain⟨hgu,hone⟩:=hop k o x ho hx;have hun:d k=false:=by
    cases h:d k with
    |false=>rfl
    |true=>exact absurd ((hd k).1 h) (by omega)
   have hset: ∀t∈zgl ops k,S'[t]? =E[t]? :=fun t ht=>hk t fun j hj=>(hd j).2 (.inl (hlow _ _ ((zfd hfl hj).2.2 k ht)));have hopr: ∀y∈o.op.operands,Rep IT X (zbw E y) (a.eval y):=fun y hy=>by
    have e:zbw E y=zbw S' y:=by
     cases y with
     | tmp t=>
      have:t∈zgl ops k:=by
       simp only[zgl,ho];exact mem_append.2 (.inl (zfg (by simpa using hy)))
      simp only[zbw,hset t this]
     |const=>rfl
     |func=>rfl
     |global=>rfl
    rw[e];exact zde hn.reps y
   have hsz:a.tmps.size=E.length:=by
    have:=zq hn.reps;simp at this;omega
   simp only[wpListIn];rw[if_pos (by simp[Region.wanted,hgu])];refine hone d S' X a _ (Ext.size hn.ext) hun hk (fun j hj=> ?_) (fun j hj=>(hd j).2 (.inl (hlow _ _ hj))) (fun j t hj ht=>(hd j).2 (.inl (hlow _ _ ((zfd hfl hj).2.2 k ht)))) hopr hsz hn hΦ fun X' a' hn' hΦ'=> ?_
   ·cases h:d j with
    |false=>rfl
    | true=>
     have h1:=hlow _ _ hj;obtain⟨o',ho',_⟩:=zef hj;have h2:=(Array.getElem?_eq_some_iff.1 ho').1;exact absurd ((hd j).1 h) (by omega)
   ·refine ih (k+1) _ (zad S' o.dst x) X' a' hl' (fun j=> ?_) (by rw[zay];exact hS) (fun t ht=> ?_) hn' hΦ'
    ·by_cases e:j=k
     ·subst e;rw[zdk];simp
     ·rw[zba e,hd j];omega
    ·by_cases e:o.dst=some t
     ·rw[hEd ho hx e,e];have:t<S'.length:=by rw[hS,hEl];exact(zfd hfl ((hdst ho).trans e)).1
      exact List.getElem?_set_self this
     ·rw[zze e];refine hk t fun j hj=> ?_;have:=ht j hj;rwa[zba (fun eq=>e (by rw[<-hdst ho, <-eq];exact hj))] at this
 refine wpIn_region_list (key ops.toList 0 _ S X a rfl (fun j=> ?_) hEl.symm (fun t ht=> ?_) (hσ▸hn) hΦ)
 ·show Nat.ble ops.size j=true↔_;rw[Nat.ble_eq];omega
 ·have hno: ∀o∈ops.toList,o.dst≠some t:=fun o ho he=>by
   obtain⟨j,hj,rfl⟩:=List.mem_iff_getElem.1 ho;have hj':j<ops.size:=by simpa using hj
   have hjo:ops[j]? =some (ops.toList[j]):=by simp[hj']
   have:=ht j ((hdst hjo).trans he);rw[Nat.ble_eq] at this;omega
  rw[<-hE];exact(zgw _ _ _ hno).symm
set_option maxHeartbeats 1000000 in
theorem z4d {P:Program} {draw:Bool} (hmix:P.follows .mixedOrders=true) {id1 id2 id3 id4 id5:Nat} {ops ops5:Array Oper} {nx ex en:Oper} {rest:Code} {l5:List Oper} {S E vs:List AV} {SL:Nat->List AV} {U σL:St} {sg:(Nat->Bool)->St} (Mi:MI) {it d69 d70 d71 ri:Nat} (ms:List Bool)
 (hall: ∀ {F:Fence} {nn B:Nat} {K:Exit->Act->World->Prop} {X0:Cx},FenceOk F P->qcz (ITP P) P F nn B K X0 ops E sg (MpOk ops Mi X0.w.heap.size) 0 ops.toList vs)
 (hE:zgq ops.toList vs S=E) (hfl:(qpo ops S.length&&zyg ops)=true) (hσ:sg (fun j=>Nat.ble ops.size j)=U) (hσ':sg (fun _=>true)=σL) (hb:bndB Mi ops.size=true)
 (hit:Mi.it=[(ri,it)]) (hSL: ∀r,fgM ms (E.set it (.raw (.pointer (some ⟨r,0,none⟩))))=SL r)
 (hnx:nx.op= .next (.tmp it) false/\ nx.dst=some d69/\ nx.guard=none) (hex:ex.op= .extract (.tmp d69) 0/\ ex.dst=some d70/\ ex.guard=none) (hen:en.op= .entry (.tmp it)/\ en.dst=some d71/\ en.guard=none) (h5:ops5.toList=en::l5)
 (h69: ∀r,(SL r).set d69 .top=SL r) (h70: ∀r,(SL r).set d70 .top=SL r) (hne:it≠d69/\ it≠d70/\ it≠d71/\ d69≠d70/\ it<E.length/\ d69<E.length/\ d70<E.length/\ d71<E.length) (hgt: ∀r,(SL r)[it]? =some (.raw (.pointer (some ⟨r,0,none⟩)))) (hl: ∀r,(SL r).length=E.length) (hnr:zcj rest=true)
 (hbody: ∀(r:Nat) (q:Nat×Value×Nat),q∈Mi.ins->zcb (ITP P) P none ops5 (fun S2 U2=>awp (ITP P) P none σL.boxes.length rest (fun e S3 U3=>e= .normal/\ Wk σL.boxes.length S3 U3 (SL r) σL) S2 U2) l5 ((SL r).set d71 (.tup [.raw q.2.1,E[q.2.2]?.getD (.raw undef)])) σL)
 {S':List AV} (hS': ∀r,Fg (SL r) S'):
 qjg (ITP P) P (.seq (.region id1 ops draw) (.block id2 (.loop (.seq (.region id3 #[nx,ex] false) (.seq (.cond (.tmp d70) .skip (.exit id2)) (.block id4 (.seq (.region id5 ops5 false) rest))))))) S U S' σL:=by
 have hIT:=ze P;intro F nn B X0 X a hF hI0 hn hfe;rw[Bool.and_eq_true] at hfl;have hG:zuc P B none:=trivial;refine wpIn_seq ?_
 have KK: ∀(X:Cx) (a:Act),Now (ITP P) none F B X0 E σL X a->MpOk ops Mi X0.w.heap.size (fun _=>true) a X.w->
  (Code.block id2 (.loop (.seq (.region id3 #[nx,ex] false) (.seq (.cond (.tmp d70) .skip (.exit id2)) (.block id4 (.seq (.region id5 ops5 false) rest)))))).wpIn F nn P (fun e a' w'=>e= .normal/\ ∃X',X'.w=w'/\ Now (ITP P) none F B X0 S' σL X' a') a X.w:=by
  intro X a hn hΦ;obtain⟨m,es,c,k1,k2,k3,k4,k5⟩:=hΦ.map rfl;obtain⟨r,r1,r2,r3⟩:=k5 (ri,it) (by rw[hit];exact mem_singleton.2 rfl) rfl;refine wpIn_block ?_;refine wpIn_loop_rounds ((leftOf es #[]).size+1) ?_;have hsz: ∀ {X0 X:Cx} {S:List AV} {U:St} {a:Act},Now (ITP P) none F B X0 S U X a->a.tmps.size=S.length:=fun hn=>by
   have:=zq hn.reps;simpa using this.symm
  have key: ∀(n:Nat) (seen:Array Nat) (c0:Nat) (X:Cx) (a:Act),(leftOf es seen).size<=n->c<=c0->Now (ITP P) none F B X0 (SL r) σL X a->X.w.heap[m]? =some (.map es c)->X.w.heap[r]? =some (.mapIter (some m) c seen c0)->(∀e∈es.toList,∃q∈Mi.ins,e.key=q.2.1/\ Rep (ITP P) X (E[q.2.2]?.getD (.raw undef)) e.val)->
   Code.roundsIn F nn P (.seq (.region id3 #[nx,ex] false) (.seq (.cond (.tmp d70) .skip (.exit id2)) (.block id4 (.seq (.region id5 ops5 false) rest)))) (Exit.inBlock id2 fun e a' w'=>e= .normal/\ ∃X',X'.w=w'/\ Now (ITP P) none F B X0 S' σL X' a') (n+1) a X.w:=by
   intro n;induction n using Nat.strongRecOn with
   |_ n ih=>
   intro seen c0 X a hle hc hn hm hr hes;rw[roundsIn_succ];refine wpIn_seq (wpIn_region_list ?_);show wpListIn F nn P #[nx,ex] _ [nx,ex] a X.w;have hszl:=hsz hn;rw[hl] at hszl;have eit:a.eval (.tmp it)= .pointer (some ⟨r,0,none⟩):=by
    have:=zde hn.reps (.tmp it);rw[show zbw (SL r) (.tmp it)= .raw (.pointer (some ⟨r,0,none⟩)) by simp[zbw,hgt r],Rep] at this;exact this
   have ex_run: ∀(a1:Act) (w1:World) (t:Array Value) (b:Bool),a1.eval (.tmp d69)= .tuple t->t[0]? =some (.bool b)->(execOp a1.eval ex).run P w1= .ok (.value (.bool b)) w1:=fun a1 w1 t b h1 h2=>by
    simp[execOp,hex.1,h1,Instr.extract,h2]
   have put2: ∀ {X:Cx} {a:Act} (u v:Value),Now (ITP P) none F B X0 (SL r) σL X a->Now (ITP P) none F B X0 (SL r) σL X ((a.put nx.dst u).put ex.dst v):=fun {X a} u v hn=>by
    have n1:=zbz (P:=P) hG hIT hn (Ext.refl X) hn.inv ⟨rfl,rfl⟩ nx.dst (x:= .top) (v:=u) (by rw[Rep];trivial);rw[hnx.2.1] at n1;rw[show zad (SL r) (some d69) .top=SL r from h69 r] at n1;have n2:=zbz (P:=P) hG hIT n1 (Ext.refl X) n1.inv ⟨rfl,rfl⟩ ex.dst (x:= .top) (v:=v) (by rw[Rep];trivial);rw[hex.2.1] at n2;rw[show zad (SL r) (some d70) .top=SL r from h70 r] at n2;rw[hnx.2.1,hex.2.1];exact n2
   have ev69: ∀u:Value,(a.put nx.dst u).eval (.tmp d69)=u:=fun u=>by
    rw[hnx.2.1];have hl:d69<a.tmps.size:=by omega
    simp[Act.put,Act.eval,hl]
   have ev70: ∀u v:Value,((a.put nx.dst u).put ex.dst v).eval (.tmp d70)=v:=fun u v=>by
    rw[hex.2.1,hnx.2.1];have hl:d70<a.tmps.size:=by omega
    simp[Act.put,Act.eval,hl]
   rcases run_next_at (P:=P) X.w nx.type r m c c0 seen es c hr hm k4.born hc with⟨h0,hrun⟩|⟨e,he,w1,hw1,hrun⟩
   ·refine z3o hF hnx.2.2 (by intro c hc;rw[hnx.1] at hc;cases hc) (v:= .tuple #[.bool false]) (w':=X.w) (by simp[execOp,hnx.1,eit,hrun]) ?_;refine z3o hF hex.2.2 (by intro c hc;rw[hex.1] at hc;cases hc) (ex_run _ X.w _ false (ev69 _) rfl) ?_
    show(Code.seq _ _).wpIn F nn P _ _ _
    refine wpIn_seq (wpIn_cond_false (ev70 _ _) (wpIn_exit ?_));have n2:=put2 (.tuple #[.bool false]) (.bool false) hn;have:(if id2=id2 then Exit.normal else Exit.exit id2)=Exit.normal:=if_pos rfl;simp only[Exit.then,Exit.inBlock,this]
    first
     |exact⟨rfl,X,rfl,{n2 with reps:=zhz (hS' r) n2.reps}⟩
     |(simp;exact⟨X,rfl,{n2 with reps:=zhz (hS' r) n2.reps}⟩)
   ·have hne0: ∃n',n=n'+1:=by
     cases n with
     | zero=>
      have h1:=List.length_pos_of_mem he;simp at h1;omega
     |succ n'=>exact⟨n',rfl⟩
    obtain⟨n',rfl⟩:=hne0;have n0:Now (ITP P) none F B X0 (SL r) σL {X with w:=w1} a/\ w1.heap=X.w.heap/\ Ext X {X with w:=w1}:=by
     rcases hw1 with rfl|rfl
     ·exact⟨hn,rfl,Ext.refl X⟩
     ·obtain⟨hEx,hI⟩:=zjd hIT hn.inv;exact⟨⟨Ext.trans hn.ext hEx,hI,zam hIT hEx _ _ hn.reps,hn.marks.ext hEx hn.inv,trivial⟩,rfl,hEx⟩
    obtain⟨n0,hw,hE1⟩:=n0;have hr1:w1.heap[r]? =some (.mapIter (some m) c seen c0):=by rw[hw];exact hr
    have hsd:=z7v (.mapIter (some m) c (seen.push e.born) c) hr1 rfl (fun _ h=>by cases h);have n1:=zso hIT r1 n0 hsd;have hmr:m≠r:=fun e=>by rw[e,hr] at hm;cases hm
    have hm2:(setBlock w1 r (.mapIter (some m) c (seen.push e.born) c)).heap[m]? =some (.map es c):=(hsd.same m (by rw[hw];exact(Array.getElem?_eq_some_iff.1 hm).1) hmr).trans (by rw[hw];exact hm);have hrl:r<w1.heap.size:=(Array.getElem?_eq_some_iff.1 hr1).1;have hr2:(setBlock w1 r (.mapIter (some m) c (seen.push e.born) c)).heap[r]? =some (.mapIter (some m) c (seen.push e.born) c):=by simp[setBlock,hrl]
    obtain⟨he1,he2⟩:=mem_left he;obtain⟨q,hq,hkey,hval⟩:=hes e he1;refine z3o hF hnx.2.2 (by intro c hc;rw[hnx.1] at hc;cases hc) (v:= .tuple #[.bool true,e.key,e.val]) (w':=setBlock w1 r (.mapIter (some m) c (seen.push e.born) c)) (by simp[execOp,hnx.1,eit,hrun]) ?_;refine z3o hF hex.2.2 (by intro c hc;rw[hex.1] at hc;cases hc) (ex_run _ _ _ true (ev69 _) rfl) ?_
    show(Code.seq _ _).wpIn F nn P _ _ _
    refine wpIn_seq (wpIn_cond_true (ev70 _ _) (wpIn_skip ?_));have n2:=put2 (.tuple #[.bool true,e.key,e.val]) (.bool true) n1;obtain⟨a2,ha2⟩: ∃a2,a2=(a.put nx.dst (.tuple #[.bool true,e.key,e.val])).put ex.dst (.bool true):=⟨_,rfl⟩;rw[<-ha2] at n2;rw[<-ha2];obtain⟨X2,hX2⟩: ∃X2:Cx,X2={X with w:=setBlock w1 r (.mapIter (some m) c (seen.push e.born) c)}:=⟨_,rfl⟩;have hsub:Sub X X2:=by rw[hX2];exact Sub.trans hE1.toSub (z0a n0.inv hsd)
    have n2':Now (ITP P) none F B X0 (SL r) σL X2 a2:=by rw[hX2];exact n2
    show(Code.block id4 _).wpIn F nn P _ a2 (setBlock w1 r (.mapIter (some m) c (seen.push e.born) c))
    rw[show setBlock w1 r (.mapIter (some m) c (seen.push e.born) c)=X2.w by rw[hX2]];rw[show setBlock w1 r (.mapIter (some m) c (seen.push e.born) c)=X2.w by rw[hX2]] at hm2 hr2;refine wpIn_block (wpIn_seq (wpIn_region_list ?_));rw[h5];have eit2:a2.eval (.tmp it)= .pointer (some ⟨r,0,none⟩):=by
     have:=zde n2'.reps (.tmp it);rw[show zbw (SL r) (.tmp it)= .raw (.pointer (some ⟨r,0,none⟩)) by simp[zbw,hgt r],Rep] at this;exact this
    refine z3o hF hen.2.2 (by intro c hc;rw[hen.1] at hc;cases hc) (v:= .tuple #[e.key,e.val]) (w':=X2.w) (by simp[execOp,hen.1,eit2,run_entry_at X2.w r m c seen es c e hr2 hm2 he1 k4.nd]) ?_;have rq:Rep (ITP P) X2 (.tup [.raw q.2.1,E[q.2.2]?.getD (.raw undef)]) (.tuple #[e.key,e.val]):=by
     rw[Rep];refine⟨[e.key,e.val],rfl,e.key,[e.val],rfl,?_,e.val,[],rfl,zll hIT hsub _ _ hval,rfl⟩;rw[Rep];exact hkey
    have n3:=zbz (P:=P) hG hIT n2' (Ext.refl X2) n2'.inv ⟨rfl,rfl⟩ en.dst rq;rw[hen.2.1] at n3;have n4:=n3.from
    have hκ:X2.κ.length<=σL.boxes.length:=by rw[n2'.inv.κlen];exact le_refl _
    have hB2:B<=X2.w.heap.size:=Nat.le_trans hI0.1 (Ext.size n2'.ext);rw[hen.2.1];refine zgi (M:=none) hIT hF hG (X0:=X2) (Q:=fun S2 U2=>awp (ITP P) P none σL.boxes.length rest (fun e S3 U3=>e= .normal/\ Wk σL.boxes.length S3 U3 (SL r) σL) S2 U2) ?_ l5 _ _ _ _ (hbody r q hq) n4;intro S2 U2 X3 a3 hawp n5;refine zvs hmix rest (M:=none) hG hF σL.boxes.length _ S2 U2 X2 X3 a3 _ hκ ⟨hB2,_,n2'.inv⟩ hawp n5 (.inr hnr) ?_;rintro e3 S3 U3 X4 a4 ⟨rfl,hwk⟩ n6;obtain⟨X5,hw5,n7⟩:=z2p hIT hκ hwk n6;show Code.roundsIn F nn P _ _ (n'+1) a4 X4.w;rw[<-hw5];have hE5:Ext X2 X5:=n7.ext;refine ih n' (by omega) (seen.push e.born) c X5 a4 (by have:=left_shrinks es seen e he;omega) (le_refl _) (n2'.back n7) (hE5.noncells n2'.inv hm2 rfl) (hE5.noncells n2'.inv hr2 rfl) fun e' he'=> ?_;obtain⟨q',hq',y1,y2⟩:=hes e' he';exact⟨q',hq',y1,zfe hIT hE5 _ _ (zll hIT hsub _ _ y2)⟩
  have hszE:=hsz hn;have hn':Now (ITP P) none F B X0 (SL r) σL X a:=by
   have rp:znc (ITP P) X (E.set it (.raw (.pointer (some ⟨r,0,none⟩)))) a.tmps:=by
    have:=zpb (IT:=ITP P) (X:=X) hn.reps (some it) (x:= .raw (.pointer (some ⟨r,0,none⟩))) (v:= .pointer (some ⟨r,0,none⟩)) (by rw[Rep]);rw[qjo r3 (by rw[hszE];exact hne.2.2.2.2.1)] at this;exact this
   exact {hn with reps:=zhz (by rw[<-hSL r];exact znk ms _) rp}
  refine key _ #[] c X a (le_refl _) (le_refl _) hn' k2 r2 fun e he=> ?_;obtain⟨q,hq,q1,q2,q3⟩:=k4.of e he;exact⟨q,hq,q2,by rw[q3];exact zde hn.reps (.tmp q.2.2)⟩
 obtain⟨hll,hat⟩:=zyq _ _ _ (hall (nn:=nn) (B:=B) (K:=Exit.then (fun a w=>(Code.block id2 (.loop (.seq (.region id3 #[nx,ex] false) (.seq (.cond (.tmp d70) .skip (.exit id2)) (.block id4 (.seq (.region id5 ops5 false) rest)))))).wpIn F nn P (fun e a' w'=>e= .normal/\ ∃X',X'.w=w'/\ Now (ITP P) none F B X0 S' σL X' a') a w) (fun e a' w'=>e= .normal/\ ∃X',X'.w=w'/\ Now (ITP P) none F B X0 S' σL X' a')) (X0:=X0) hF);have hop:=fun i o x (ho:ops[i]? =some o) hx=>by
  have:=hat i o x (by rw[<-ho,Array.getElem?_toList]) hx (by rw[Nat.zero_add];exact ho);rw[Nat.zero_add] at this;exact this
 cases draw with
 |true=>exact qfi hIT hF hmix (MpOk ops Mi X0.w.heap.size) hE hll hfl.1 hfl.2 hσ (zyc hb) hn hop fun X a hn hΦ=>KK X a (hσ'▸hn) hΦ
 |false=>exact seq_sem hF (MpOk ops Mi X0.w.heap.size) hE hll hfl.1 hfl.2 hσ (zyc hb) hn hop fun X a hn hΦ=>KK X a (hσ'▸hn) hΦ
end Go.Ab
namespace Go.Ab
open Go Go.RowKit Go.Fwd Go.Proofs
variable {K:Exit->Act->World->Prop} {X0:Cx} {ops:Array Oper}
structure Ct where
 f:Nat
 args:List AV
 r:AV
def qmg (c:Ct):Prop:=Pure (ITP prog) prog c.f c.args c.r
def tbl (T:List Ct):CallP:=fun f args=>match T.find? (fun c=>c.f==f&&znu c.args args) with
 |some c=>some c.r
 |none=>none
theorem zsn {T:List Ct} (h: ∀c∈T,qmg c):Good prog (tbl T) bldS:=⟨mix,ents,(fun f args r e=>by
 unfold tbl at e;split at e
 ·rename_i c hc;cases e;have h1:=List.find?_some hc;simp only[Bool.and_eq_true,beq_iff_eq] at h1;have h2:=h c (List.mem_of_find?_eq_some hc);rw[qmg,h1.1,zgc _ _ h1.2] at h2;exact h2
 ·cases e),bldS_ok⟩
def avT (t:Tr):AV:= .agg (Enc.cells t)
def avG (t:Rg):AV:= .agg (Enc.cells t)
def avU (s:BS):AV:= .agg (Enc.cells s)
def avZ (l:List UInt8):AV:= .raw (.string (bs l))
def avI (n:Int):AV:= .raw (.int .i64 n)
section
variable {H:Bool} {P:Program} {Ω:CallP} {Ψ:CallS}
def sufC:Nat->Code->Code
 |0,c=>c
 |n+1,.seq _ y=>sufC n y
 |_+1,c=>c
def qfe (run:Run):Nat->Code->List AV->St->Option (List AV×St)
 |0,_,S,U=>some (S,U)
 | n+1,.seq x y,S,U=>match run x S.length S U with
  |some (.normal,S1,U1)=>qfe run n y S1 U1
  |_=>none
 |_+1,_,_,_=>none
theorem w_pre (hG:Good P Ω Ψ) {k k0:Nat} {Q:AQ} {S':List AV} {U':St}: ∀(n:Nat) (c:Code) (S:List AV) (U:St) (S1:List AV) (U1:St),qfe (evQ H P Ω Ψ k) (n+1) c S U=some (S1,U1)->Wk k0 S1 U1 S' U'->awp (ITP P) P none k0 (sufC (n+1) c) Q S' U'->awp (ITP P) P none k0 c Q S U
 | n,.seq x y,S,U,S1,U1,h,hw,hk=>by
  rw[qfe] at h;split at h
  ·rename_i S2 U2 h2;obtain⟨hl,h3⟩:=ztn (H:=H) hG k _ _ _ _ _ _ _ h2 rfl;refine .inl (zdd (h3 _ ?_));cases n with
   | zero=>
    rw[qfe] at h;cases h;exact⟨S',U',hw,hk⟩
   |succ n=>exact⟨S2,U2,Wk.refl _ _ _,w_pre hG n y S2 U2 S1 U1 h hw hk⟩
  ·cases h
 |_,.skip,_,_,_,_,h,_,_=>by cases h
 |_,.cond _ _ _,_,_,_,_,h,_,_=>by cases h
 |_,.block _ _,_,_,_,_,h,_,_=>by cases h
 |_,.loop _,_,_,_,_,h,_,_=>by cases h
 |_,.exit _,_,_,_,_,h,_,_=>by cases h
 |_,.ret,_,_,_,_,h,_,_=>by cases h
 |_,.label _,_,_,_,_,h,_,_=>by cases h
 |_,.scope _,_,_,_,_,h,_,_=>by cases h
 |_,.region _ _ _,_,_,_,_,h,_,_=>by cases h
 |_,.rangeFunc _ _ _ _,_,_,_,_,h,_,_=>by cases h
 |_,.goto _,_,_,_,_,h,_,_=>by cases h
 |_,.refuse _,_,_,_,_,h,_,_=>by cases h
def qpk:Option AV->Bool
 |some (.raw (.bool true))=>true
 |_=>false
def tailB (run:Run)(P:Program)(fn:Func)(c:Code)(S:List AV)(U:St):Bool:=match run c S.length S U with
 |some (.ret,S1,U1)=>qpk (zap P fn U1 S1)
 |_=>false
theorem w_tail (hG:Good P Ω Ψ) {k k0:Nat} {fn:Func} {c:Code} {S:List AV} {U:St} (h:tailB (evQ H P Ω Ψ k) P fn c S U=true):awp (ITP P) P none k0 c (zwb P fn (.raw (.bool true))) S U:=by
 unfold tailB at h;split at h
 ·rename_i S1 U1 h1;obtain⟨_,h2⟩:=ztn (H:=H) hG k _ _ _ _ _ _ _ h1 rfl;refine zdd (h2 _ ?_);unfold qpk at h;split at h
  ·rename_i h3;exact zbn (y:=true) rfl h3
  ·cases h
 ·cases h
def qpf (run:Run)(cp:CallP)(cs:CallS)(P:Program)(Ψ:CallS)(ops:Array Oper)(l:List Oper)(rest:Code)(n:Nat)(ms:List Bool)(S:List AV)(U:St):Option (List AV×St):=match zoh P Ψ cp cs ops l S U with
 | some (S1,U1)=>match run rest S1.length S1 U1 with
  |some (.normal,S2,U2)=>if z0t n U2=true/\ zac n (fgM ms S2)=true then some (fgM ms S2,zfb n U2) else none
  |_=>none
 |none=>none
theorem z7z (hG:Good P Ω Ψ) {k n:Nat} {ops:Array Oper} {l:List Oper} {rest:Code} {ms:List Bool} {S S':List AV} {U U':St} (h:qpf (evQ H P Ω Ψ k) (zjl P Ω (evQ H P Ω Ψ k)) (zro P Ψ (evQ H P Ω Ψ k)) P Ψ ops l rest n ms S U=some (S',U')):
 zcb (ITP P) P none ops (fun S2 U2=>awp (ITP P) P none n rest (fun e S3 U3=>e= .normal/\ Wk n S3 U3 S' U') S2 U2) l S U:=by
 unfold qpf at h;split at h
 ·rename_i S1 U1 h1;split at h
  ·rename_i S2 U2 h2;split at h
   ·rename_i hc;cases h;obtain⟨_,h3⟩:=zfp hG.oracleS (ztt hG (ztn (H:=H) hG k)) (z1m hG (ztn (H:=H) hG k)) l _ _ _ _ h1;obtain⟨_,h4⟩:=ztn (H:=H) hG k _ _ _ _ _ _ _ h2 rfl;exact h3 _ (zdd (h4 _ ⟨rfl,zfl ms n rfl (le_refl _) hc.1 hc.2 rfl⟩))
   ·cases h
  ·cases h
 ·cases h
end
def bS (n:Nat):BS:=1#256<<<n
def clT (s:BS):Tr:= .mk 2 s 0 0 []
def clA:Tr:=clT (bS 97)
def clB:Tr:=clT (bS 98)
def clC:Tr:=clT (bS 99)
def zqy:Tr:= .mk 5 0#256 0 (-1) [clC]
def starB:Tr:= .mk 5 0#256 0 (-1) [clB]
def emT:Tr:= .mk 1 0#256 0 0 []
def abU:BS:=bS 97|||bS 98
def abcU:BS:=abU|||bS 99
def daU:BS:=bS 97|||bS 45
def eS0:List UInt8:=[97,124,98,99,42]
def eT0:Tr:=(.mk 4 0#256 0 0 [clA,.mk 3 0#256 0 0 [clB,zqy]]:Tr)
def eS1:List UInt8:=[97,40,63,58,98,124,41]
def eT1:Tr:=(.mk 3 0#256 0 0 [clA,.mk 4 0#256 0 0 [clB,emT]]:Tr)
def eS2:List UInt8:=[40,97,41,123,50,44,51,125]
def eT2:Tr:=(.mk 5 0#256 2 3 [.mk 6 0#256 0 0 [clA]]:Tr)
def eS3:List UInt8:=[40,63,58,97,42,41,42]
def eT3:Tr:=(.mk 5 0#256 0 (-1) [.mk 5 0#256 0 (-1) [clA]]:Tr)
def wS0:List UInt8:=[91,97,45,99,93]
def wU0:BS:=abcU
def wS1:List UInt8:=[91,97,98,93]
def wU1:BS:=abU
def wS2:List UInt8:=[91,92,45,97,93]
def wU2:BS:=daU
def wS3:List UInt8:=[91,94,97,93]
def wU3:BS:=(~~~ bS 97)
def wS4:List UInt8:=[46]
def wU4:BS:=(~~~ bS 10)
def wS5:List UInt8:=[92,42]
def wU5:BS:=bS 42
def wS6:List UInt8:=[92,110]
def wU6:BS:=bS 10
def wS7:List UInt8:=[91,92,120,48,48,45,92,120,102,102,93]
def wU7:BS:=(~~~ 0#256)
def gAB:Rg:=Rg.mk false false (.mk 3 0#256 0 0 [clA,starB])
def gCl:Rg:=Rg.mk false false (clT abU)
def rdL:List (List UInt8×Rg):=[([91,97,93,123,49,125,98,123,48,44,125],gAB),([91,97,98,93],gCl),([91,98,45,98,97,93],gCl)]
def stL:List (BS×List UInt8):=[(bS 97,[97]),(bS 98,[98]),(bS 99,[99]),(abU,[91,97,98,93])]
def trL:List Tr:=[eT0,eT1,eT2,eT3]
def wsL:List (BS×List UInt8):=[(wU0,wS0),(wU1,wS1),(wU2,wS2),(wU3,wS3),(wU4,wS4),(wU5,wS5),(wU6,wS6),(wU7,wS7)]
def jnL:List (List (List UInt8)):=[[[97],[98,99,42]],[[98],[]]]
def tblA:List Ct:=(stL.map fun p=>⟨62,[avU p.1],avZ p.2⟩)++(trL.map fun t=>⟨54,[avT t],.raw (.bool true)⟩)++(jnL.map fun l=>⟨99,[.list l.length (Enc.cellsL l) .none,avZ [124]],avZ (Lib.join l [124])⟩)++([2,3].map fun n=>⟨146,[avI (n:Nat)],avZ (Lib.decDigits n)⟩)
theorem qdf: ∀c∈tblA,qmg c:=by
 intro c hc;simp only[tblA,mem_append,mem_map] at hc;rcases hc with((⟨p,hp,rfl⟩|⟨t,ht,rfl⟩)|⟨l,hl,rfl⟩)|⟨n,hn,rfl⟩
 ·simp only[stL,mem_cons,List.not_mem_nil,or_false] at hp;have h: ∀s:BS,s≠0#256->qmg ⟨62,[avU s],avZ (zjs s)⟩:=fun s hs=>z5b 1100 s _ (z5w s hs);rcases hp with rfl|rfl|rfl|rfl
  ·exact(show zjs (bS 97)=[97] by decide+kernel)▸h _ (by decide)
  ·exact(show zjs (bS 98)=[98] by decide+kernel)▸h _ (by decide)
  ·exact(show zjs (bS 99)=[99] by decide+kernel)▸h _ (by decide)
  ·exact(show zjs abU=[91,97,98,93] by decide+kernel)▸h _ (by decide)
 ·simp only[trL,mem_cons,List.not_mem_nil,or_false] at ht;have h: ∀t:Tr,(pre t).length<2^61->zdj t=true->qmg ⟨54,[avT t],.raw (.bool true)⟩:=fun t h1 h2=>h2▸zqg t h1;rcases ht with rfl|rfl|rfl|rfl<;>exact h _ (by decide+kernel) (by decide+kernel)
 ·simp only[jnL,mem_cons,List.not_mem_nil,or_false] at hl;rcases hl with rfl|rfl<;>exact z2q _ _ ⟨by decide+kernel,by decide+kernel⟩
 ·simp only[mem_cons,List.not_mem_nil,or_false] at hn;rcases hn with rfl|rfl<;>exact z3r _ (by decide)
def tblB:List Ct:=wsL.map fun p=>⟨27,[avU p.1],.tup [avZ p.2,avI 0]⟩
theorem tblB_ok: ∀c∈tblB,qmg c:=by
 intro c hc;simp only[tblB,mem_map] at hc;obtain⟨p,hp,rfl⟩:=hc;simp only[wsL,mem_cons,List.not_mem_nil,or_false] at hp;have h: ∀s:BS,s≠0#256->qmg ⟨27,[avU s],.tup [avZ (zjs s),avI 0]⟩:=fun s hs=>pSet_sh 1100 s (zjs s,0) ((pSet_eq s).trans (by rw[if_neg hs]));rcases hp with rfl|rfl|rfl|rfl|rfl|rfl|rfl|rfl
 ·exact(show zjs wU0=wS0 by decide+kernel)▸h _ (by decide+kernel)
 ·exact(show zjs wU1=wS1 by decide+kernel)▸h _ (by decide+kernel)
 ·exact(show zjs wU2=wS2 by decide+kernel)▸h _ (by decide+kernel)
 ·exact(show zjs wU3=wS3 by decide+kernel)▸h _ (by decide+kernel)
 ·exact(show zjs wU4=wS4 by decide+kernel)▸h _ (by decide+kernel)
 ·exact(show zjs wU5=wS5 by decide+kernel)▸h _ (by decide+kernel)
 ·exact(show zjs wU6=wS6 by decide+kernel)▸h _ (by decide+kernel)
 ·exact(show zjs wU7=wS7 by decide+kernel)▸h _ (by decide+kernel)
def tblC:List Ct:=tblA++(rdL.map fun p=>⟨23,[avZ p.1],.tup [avG p.2,avI (p.1.length:Int),avI 0]⟩)++(rdL.map fun p=>⟨56,[avG p.2],avI 0⟩)++[⟨72,[],avU zat⟩]++([(97,[97]),(46,[92,46]),(98,[98])].map fun(p:Int×List UInt8)=>⟨112,[.raw (.int .u8 p.1),avU zat],avZ p.2⟩)
theorem tblC_ok: ∀c∈tblC,qmg c:=by
 intro c hc;simp only[tblC,mem_append,mem_map] at hc;rcases hc with(((hc|⟨p,hp,rfl⟩)|⟨p,hp,rfl⟩)|hc)|⟨p,hp,rfl⟩
 ·exact qdf c hc
 ·refine qok 1100 10 p.1 (p.2,(p.1.length:Int),0) ?_;simp only[rdL,mem_cons,List.not_mem_nil,or_false] at hp;rcases hp with rfl|rfl|rfl<;>kernel_rfl
 ·refine z7x p.2 0 ?_;simp only[rdL,mem_cons,List.not_mem_nil,or_false] at hp;rcases hp with rfl|rfl|rfl<;>decide+kernel
 ·rw[mem_singleton.1 hc];exact z0m
 ·simp only[mem_cons,List.not_mem_nil,or_false] at hp;have h: ∀e:Int,0<=e/\ e<256->qmg ⟨112,[.raw (.int .u8 e),avU zat],avZ (byT zat (zkt e))⟩:=fun e he=>z4v he;rcases hp with rfl|rfl|rfl
  ·exact(show byT zat (zkt 97)=[97] by decide+kernel)▸h 97 (by decide)
  ·exact(show byT zat (zkt 46)=[92,46] by decide+kernel)▸h 46 (by decide)
  ·exact(show byT zat (zkt 98)=[98] by decide+kernel)▸h 98 (by decide)
theorem good0:Good prog (tbl []) bldS:=zsn fun c hc=>by cases hc
theorem qhm {a b:List UInt8} (h:((bs a)==(bs b))=false):zzc .string (.string (bs a)) (.string (bs b)):=by
 show some ((bs a)==(bs b))=some false;rw[h]
theorem ct0 {f:Nat} {args:List AV} {r:AV} (h:zjl prog (tbl []) (evQ true prog (tbl []) bldS 300) f args=some r):Pure (ITP prog) prog f args r:=zfc true good0 300 h
def emC:List AV:=[.raw (.int .u8 1),.raw (.int .u64 0),.raw (.int .u64 0),.raw (.int .u64 0),.raw (.int .u64 0),.raw (.int .i64 0),.raw (.int .i64 0),.list 0 [] .full]
def awS:List AV:=(.raw (.bool false):: .ptr 0 0:: .ptr 1 0:: .ptr 2 0:: .ptr 3 0:: .top:: .top:: .top:: .top:: .top:: .top:: .top:: .top:: .top:: .top:: .top:: .top:: .top:: .top:: .top:: .top:: .top:: .top:: .top:: .top:: .top:: .top:: .top:: .top:: .top:: .top:: .top:: .top:: .top:: .top:: .top:: .top:: .top:: .top:: .top:: .top:: .top:: .top:: .top:: .top:: .top:: .top:: .top:: .top:: .top:: .top:: .top:: .top:: .top:: .top:: .top:: .top:: .top:: .top:: .top:: .top:: .top:: .top:: .top:: .top:: .top:: .top:: .top:: .top:: .top:: .top:: .top:: .top:: .top:: .top:: .top:: .top:: .top:: .top:: .top:: .top:: .top:: .top:: .top:: .top:: .top:: .top:: .top:: .top:: .top:: .top:: .top:: .top:: .top:: .top:: .top:: .top:: .top:: .top:: .top:: .top:: .top:: .top:: .top:: .top:: .top:: .top:: .top:: .top:: .top:: .top:: .top:: .top:: .top:: .top:: .top:: .top:: .top:: .top:: .top:: .top:: .top:: .top::[])
def awσ:St:=⟨[(27,Enc.cells (clA:Tr)),(27,Enc.cells (clB:Tr)),(27,Enc.cells (clC:Tr)),(27,emC)],[],[],0,false⟩
def aE:List AV:=(.raw (.bool false):: .ptr 0 0:: .ptr 1 0:: .ptr 2 0:: .ptr 3 0:: .top:: .top:: .top:: .top:: .top:: .top:: .top:: .top:: .top:: .top:: .top:: .top:: .top:: .top:: .top:: .top:: .top:: .top::avT clA::avT clB::avT clC::avT zqy:: .list 2 (Enc.cells (clB:Tr)++Enc.cells (zqy:Tr)) .full::avT (.mk 3 0#256 0 0 [clB,zqy]):: .list 2 (Enc.cells (clA:Tr)++Enc.cells ((.mk 3 0#256 0 0 [clB,zqy]):Tr)) .full::avT eT0::avT clA::avT clB:: .agg emC:: .list 2 (Enc.cells (clB:Tr)++emC) .full::avT (.mk 4 0#256 0 0 [clB,emT]):: .list 2 (Enc.cells (clA:Tr)++Enc.cells ((.mk 4 0#256 0 0 [clB,emT]):Tr)) .full::avT eT1::avT clA:: .list 1 (Enc.cells (clA:Tr)) .full::avT (.mk 6 0#256 0 0 [clA])::avT eT2::avT clA::avT (.mk 5 0#256 0 (-1) [clA])::avT eT3:: .top:: .top:: .top:: .top:: .top:: .top:: .top:: .top:: .top:: .top:: .top:: .top:: .top:: .top:: .top:: .top:: .top:: .top:: .top:: .top:: .top:: .top:: .top:: .top:: .top:: .top:: .top:: .top:: .top:: .top:: .top:: .top:: .top:: .top:: .top:: .top:: .top:: .top:: .top:: .top:: .top:: .top:: .top:: .top:: .top:: .top:: .top:: .top:: .top:: .top:: .top:: .top:: .top:: .top:: .top:: .top:: .top:: .top:: .top:: .top:: .top:: .top:: .top:: .top:: .top:: .top:: .top:: .top:: .top:: .top:: .top:: .top:: .top:: .top:: .top:: .top:: .top:: .top::[])
def aM:MI:=⟨0,[(0,22,false),(27,45,true)],[(9,.string (bs eS0),30),(17,.string (bs eS1),37),(22,.string (bs eS2),41),(26,.string (bs eS3),44)],[(28,46)]⟩
def aL:List (Nat×Nat):=[(9,0),(17,1),(22,2),(26,3)]
def aKs (n:Nat):List UInt8:=match n with|0=>eS0|1=>eS1|2=>eS2|_=>eS3
def aVs (n:Nat):Nat:=match n with|0=>30|1=>37|2=>41|_=>44
theorem aK (i n:Nat)(q:Nat×Value×Nat)(hq:q∈aM.ins)(h:(i,n)∈aL):q=(i,.string (bs (aKs n)),aVs n) \/(q.1≠i/\ zzc .string (.string (bs (aKs n))) q.2.1):=by
 simp only[aM,aL,mem_cons,List.not_mem_nil,or_false,Prod.mk.injEq] at hq h;rcases h with⟨rfl,rfl⟩|⟨rfl,rfl⟩|⟨rfl,rfl⟩|⟨rfl,rfl⟩<;>rcases hq with rfl|rfl|rfl|rfl<;>first|exact .inl rfl|exact .inr ⟨by decide,qhm (by decide+kernel)⟩
def aMs:List Bool:=[true,true,true,true,true,true,true,true,true,true,true,true,true,true,true,true,true,true,true,true,true,true,false,false,false,false,false,false,false,false,false,false,false,false,false,false,false,false,false,false,false,false,false,false,false,false,true,true,true,true,true,true,true,true,true,true,true,true,true,true,true,true,true,true,true,true,true,true,true,true,true,true,true,true,true,true,true,true,true,true,true,true,true,true,true,true,true,true,true,true,true,true,true,true,true,true,true,true,true,true,true,true,true,true,true,true,true,true,true,true,true,true,true,true,true,true,true,true,true,true,true,true,true]
def aM2:List Bool:=[true,true,true,true,true,false,false,false,false,true,true,true,true,true,true,true,true,true,true,true,true,true,true,true,true,true,true,true,true,true,true,true,true,true,true,true,true,true,true,true,true,true,true,true,true,true,true,false,false,false,false,false,false,false,false,false,false,false,false,false,false,false,false,false,true,true,true,true,true,true,true,true,true,true,true,true,true,true,true,true,true,true,true,true,true,true,true,true,true,true,true,true,true,true,true,true,true,true,true,true,true,true,true,true,true,true,true,true,true,true,true,true,true,true,true,true,true,true,true,true,true,true,true]
def aM3:List Bool:=[true,true,true,true,true,true,true,true,true,true,true,true,true,true,true,true,true,true,true,true,true,true,true,true,true,true,true,true,true,true,true,true,true,true,true,true,true,true,true,true,true,true,true,true,true,true,false,true,true,true,true,true,true,true,true,true,true,true,true,true,true,true,true,true,true,true,true,true,true,true,true,true,true,true,true,true,true,true,true,true,true,true,true,true,true,true,true,true,true,true,true,true,true,true,true,true,true,true,true,true,true,true,true,true,true,true,true,true,true,true,true,true,true,true,true,true,true,true,true,true,true,true,true]
def aSL (r:Nat):List AV:=awS.set 46 (.raw (.pointer (some ⟨r,0,none⟩)))
theorem a_map {F:Fence} {nn B:Nat} (hops:(do let c<-Tryz.f19.body;zka 2 c)=some ops)(hF:FenceOk F Tryz.prog):qcz (ITP Tryz.prog) Tryz.prog F nn B K X0 ops aE (sgL awσ []) (MpOk ops aM X0.w.heap.size) 0 ops.toList ((.top::avT clA::avT clB::avT clC::avT zqy:: .list 2 (Enc.cells (clB:Tr)++Enc.cells (zqy:Tr)) .full::avT (.mk 3 0#256 0 0 [clB,zqy]):: .list 2 (Enc.cells (clA:Tr)++Enc.cells ((.mk 3 0#256 0 0 [clB,zqy]):Tr)) .full::avT eT0:: .raw undef::avT clA::avT clB:: .agg emC:: .list 2 (Enc.cells (clB:Tr)++emC) .full::avT (.mk 4 0#256 0 0 [clB,emT]):: .list 2 (Enc.cells (clA:Tr)++Enc.cells ((.mk 4 0#256 0 0 [clB,emT]):Tr)) .full::avT eT1:: .raw undef::avT clA:: .list 1 (Enc.cells (clA:Tr)) .full::avT (.mk 6 0#256 0 0 [clA])::avT eT2:: .raw undef::avT clA::avT (.mk 5 0#256 0 (-1) [clA])::avT eT3:: .raw undef:: .top:: .top::[])):=by
 cases hops;refine⟨fun _=>z6c (ze _) hF rfl rfl rfl rfl (by simp[aM]) (by decide) (by decide) (by decide) (Nat.le_of_ble_eq_true rfl) (fun _=>rfl),?_⟩;refine⟨d_l (ze _) hF (by kernel_rfl) zvu (hb:=by kernel_rfl),?_⟩;refine⟨d_l (ze _) hF (by kernel_rfl) zvu (hb:=by kernel_rfl),?_⟩;refine⟨d_l (ze _) hF (by kernel_rfl) zvu (hb:=by kernel_rfl),?_⟩;refine⟨d_c (ze _) hF (ct0 (f:=17) (args:=[avT clC,avI 0,avI (-1)]) (r:=avT zqy) (by kernel_rfl)) (hb:=by kernel_rfl),?_⟩;refine⟨d_q (ze _) hF (fun _=>by kernel_rfl) (hb:=by kernel_rfl),?_⟩;refine⟨d_c (ze _) hF (ct0 (f:=15) (args:=[.raw (.int .u8 3),.list ((.mk 3 0#256 0 0 [clB,zqy]):Tr).l.length (Enc.cellsL ((.mk 3 0#256 0 0 [clB,zqy]):Tr).l) .none]) (r:=avT (.mk 3 0#256 0 0 [clB,zqy])) (by kernel_rfl)) (hb:=by kernel_rfl),?_⟩;refine⟨d_q (ze _) hF (fun _=>by kernel_rfl) (hb:=by kernel_rfl),?_⟩;refine⟨d_c (ze _) hF (ct0 (f:=15) (args:=[.raw (.int .u8 4),.list (eT0:Tr).l.length (Enc.cellsL (eT0:Tr).l) .none]) (r:=avT eT0) (by kernel_rfl)) (hb:=by kernel_rfl),?_⟩;refine⟨fun ho=>zik (kd:= .string) (k:= .string (bs eS0)) (kt:=9) (et:=27) (j':=0) (tm:=22) (tv:=30) (f':=false) (ze _) hF rfl rfl rfl ho rfl rfl trivial (by decide) (by simp[aM]) (by simp[aM]) rfl (fun q hq=>aK 9 0 q hq (by simp[aL])) (by decide) (by decide) (fun _=>rfl),?_⟩;refine⟨d_l (ze _) hF (by kernel_rfl) zvu (hb:=by kernel_rfl),?_⟩;refine⟨d_l (ze _) hF (by kernel_rfl) zvu (hb:=by kernel_rfl),?_⟩;refine⟨d_l (ze _) hF (by kernel_rfl) zvu (hb:=by kernel_rfl),?_⟩;refine⟨d_q (ze _) hF (fun _=>by kernel_rfl) (hb:=by kernel_rfl),?_⟩;refine⟨d_c (ze _) hF (ct0 (f:=15) (args:=[.raw (.int .u8 4),.list ((.mk 4 0#256 0 0 [clB,emT]):Tr).l.length (Enc.cellsL ((.mk 4 0#256 0 0 [clB,emT]):Tr).l) .none]) (r:=avT (.mk 4 0#256 0 0 [clB,emT])) (by kernel_rfl)) (hb:=by kernel_rfl),?_⟩;refine⟨d_q (ze _) hF (fun _=>by kernel_rfl) (hb:=by kernel_rfl),?_⟩;refine⟨d_c (ze _) hF (ct0 (f:=15) (args:=[.raw (.int .u8 3),.list (eT1:Tr).l.length (Enc.cellsL (eT1:Tr).l) .none]) (r:=avT eT1) (by kernel_rfl)) (hb:=by kernel_rfl),?_⟩;refine⟨fun ho=>zik (kd:= .string) (k:= .string (bs eS1)) (kt:=9) (et:=27) (j':=0) (tm:=22) (tv:=37) (f':=false) (ze _) hF rfl rfl rfl ho rfl rfl trivial (by decide) (by simp[aM]) (by simp[aM]) rfl (fun q hq=>aK 17 1 q hq (by simp[aL])) (by decide) (by decide) (fun _=>rfl),?_⟩;refine⟨d_l (ze _) hF (by kernel_rfl) zvu (hb:=by kernel_rfl),?_⟩;refine⟨d_q (ze _) hF (fun _=>by kernel_rfl) (hb:=by kernel_rfl),?_⟩;refine⟨d_c (ze _) hF (ct0 (f:=15) (args:=[.raw (.int .u8 6),.list ((.mk 6 0#256 0 0 [clA]):Tr).l.length (Enc.cellsL ((.mk 6 0#256 0 0 [clA]):Tr).l) .none]) (r:=avT (.mk 6 0#256 0 0 [clA])) (by kernel_rfl)) (hb:=by kernel_rfl),?_⟩;refine⟨d_c (ze _) hF (ct0 (f:=17) (args:=[avT (.mk 6 0#256 0 0 [clA]),avI 2,avI 3]) (r:=avT eT2) (by kernel_rfl)) (hb:=by kernel_rfl),?_⟩;refine⟨fun ho=>zik (kd:= .string) (k:= .string (bs eS2)) (kt:=9) (et:=27) (j':=0) (tm:=22) (tv:=41) (f':=false) (ze _) hF rfl rfl rfl ho rfl rfl trivial (by decide) (by simp[aM]) (by simp[aM]) rfl (fun q hq=>aK 22 2 q hq (by simp[aL])) (by decide) (by decide) (fun _=>rfl),?_⟩;refine⟨d_l (ze _) hF (by kernel_rfl) zvu (hb:=by kernel_rfl),?_⟩;refine⟨d_c (ze _) hF (ct0 (f:=17) (args:=[avT clA,avI 0,avI (-1)]) (r:=avT (.mk 5 0#256 0 (-1) [clA])) (by kernel_rfl)) (hb:=by kernel_rfl),?_⟩;refine⟨d_c (ze _) hF (ct0 (f:=17) (args:=[avT (.mk 5 0#256 0 (-1) [clA]),avI 0,avI (-1)]) (r:=avT eT3) (by kernel_rfl)) (hb:=by kernel_rfl),?_⟩;refine⟨fun ho=>zik (kd:= .string) (k:= .string (bs eS3)) (kt:=9) (et:=27) (j':=0) (tm:=22) (tv:=44) (f':=false) (ze _) hF rfl rfl rfl ho rfl rfl trivial (by decide) (by simp[aM]) (by simp[aM]) rfl (fun q hq=>aK 26 3 q hq (by simp[aL])) (by decide) (by decide) (fun _=>rfl),?_⟩;refine⟨fun ho=>du_mv (ze _) hF (t:=45) (t':=22) (j':=0) (f:=true) (f':=false) rfl rfl rfl ho (by decide) (by simp[aM]) (by simp[aM]) rfl (by decide) (by decide) (by decide) (Nat.le_of_ble_eq_true rfl) (fun _=>rfl) (fun _=>by kernel_rfl),?_⟩;refine⟨fun ho=>z7n (ze _) hF (j':=27) (t':=45) rfl rfl rfl ho rfl (by decide) rfl (by simp[aM]) rfl (by decide) (by decide) (Nat.le_of_ble_eq_true rfl) (fun _=>rfl),trivial⟩
def bE:List AV:=(.raw (.bool false):: .ptr 0 0:: .ptr 1 0:: .ptr 2 0:: .ptr 3 0:: .top:: .top:: .top:: .top:: .top:: .top:: .top:: .top:: .top:: .top:: .top:: .top:: .top:: .top:: .top:: .top:: .top:: .top:: .top:: .top:: .top:: .top:: .top:: .top:: .top:: .top:: .top:: .top:: .top:: .top:: .top:: .top:: .top:: .top:: .top:: .top:: .top:: .top:: .top:: .top:: .top:: .top:: .top:: .top:: .top:: .top:: .top:: .top:: .top:: .top:: .top:: .top:: .top:: .top:: .top:: .top:: .top:: .top:: .top:: .top::avU wU0::avU wU1::avU wU2::avU (bS 97)::avU wU3::avU (bS 10)::avU wU4::avU wU5::avU wU6::avU 0#256::avU wU7:: .top:: .top:: .top:: .top:: .top:: .top:: .top:: .top:: .top:: .top:: .top:: .top:: .top:: .top:: .top:: .top:: .top:: .top:: .top:: .top:: .top:: .top:: .top:: .top:: .top:: .top:: .top:: .top:: .top:: .top:: .top:: .top:: .top:: .top:: .top:: .top:: .top:: .top:: .top:: .top:: .top:: .top:: .top:: .top:: .top:: .top:: .top::[])
def bM:MI:=⟨0,[(0,64,false),(20,76,true)],[(2,.string (bs wS0),65),(4,.string (bs wS1),66),(6,.string (bs wS2),67),(9,.string (bs wS3),69),(12,.string (bs wS4),71),(14,.string (bs wS5),72),(16,.string (bs wS6),73),(19,.string (bs wS7),75)],[(21,77)]⟩
def bL:List (Nat×Nat):=[(2,0),(4,1),(6,2),(9,3),(12,4),(14,5),(16,6),(19,7)]
def bKs (n:Nat):List UInt8:=match n with|0=>wS0|1=>wS1|2=>wS2|3=>wS3|4=>wS4|5=>wS5|6=>wS6|_=>wS7
def bVs (n:Nat):Nat:=match n with|0=>65|1=>66|2=>67|3=>69|4=>71|5=>72|6=>73|_=>75
theorem bK (i n:Nat)(q:Nat×Value×Nat)(hq:q∈bM.ins)(h:(i,n)∈bL):q=(i,.string (bs (bKs n)),bVs n) \/(q.1≠i/\ zzc .string (.string (bs (bKs n))) q.2.1):=by
 simp only[bM,bL,mem_cons,List.not_mem_nil,or_false,Prod.mk.injEq] at hq h;rcases h with⟨rfl,rfl⟩|⟨rfl,rfl⟩|⟨rfl,rfl⟩|⟨rfl,rfl⟩|⟨rfl,rfl⟩|⟨rfl,rfl⟩|⟨rfl,rfl⟩|⟨rfl,rfl⟩<;>rcases hq with rfl|rfl|rfl|rfl|rfl|rfl|rfl|rfl<;>first|exact .inl rfl|exact .inr ⟨by decide,qhm (by decide+kernel)⟩
def bMs:List Bool:=[true,true,true,true,true,true,true,true,true,true,true,true,true,true,true,true,true,true,true,true,true,true,true,true,true,true,true,true,true,true,true,true,true,true,true,true,true,true,true,true,true,true,true,true,true,true,true,true,true,true,true,true,true,true,true,true,true,true,true,true,true,true,true,true,false,false,false,false,false,false,false,false,false,false,false,false,false,true,true,true,true,true,true,true,true,true,true,true,true,true,true,true,true,true,true,true,true,true,true,true,true,true,true,true,true,true,true,true,true,true,true,true,true,true,true,true,true,true,true,true,true,true,true]
def bM2:List Bool:=[true,true,true,true,true,true,true,true,true,false,false,false,false,true,true,true,true,true,true,true,true,true,true,true,true,true,true,true,true,true,true,true,true,true,true,true,true,true,true,true,true,true,true,true,true,true,true,true,true,true,true,true,true,true,true,true,true,true,true,true,true,true,true,true,true,true,true,true,true,true,true,true,true,true,true,true,true,true,false,false,false,false,false,false,false,false,false,false,false,false,false,false,false,false,false,true,true,true,true,true,true,true,true,true,true,true,true,true,true,true,true,true,true,true,true,true,true,true,true,true,true,true,true]
def bM3:List Bool:=[true,true,true,true,true,true,true,true,true,true,true,true,true,true,true,true,true,true,true,true,true,true,true,true,true,true,true,true,true,true,true,true,true,true,true,true,true,true,true,true,true,true,true,true,true,true,true,true,true,true,true,true,true,true,true,true,true,true,true,true,true,true,true,true,true,true,true,true,true,true,true,true,true,true,true,true,true,false,true,true,true,true,true,true,true,true,true,true,true,true,true,true,true,true,true,true,true,true,true,true,true,true,true,true,true,true,true,true,true,true,true,true,true,true,true,true,true,true,true,true,true,true,true]
def bSL (r:Nat):List AV:=awS.set 77 (.raw (.pointer (some ⟨r,0,none⟩)))
theorem b_map {F:Fence} {nn B:Nat} (hops:(do let c<-Tryz.f19.body;zka 8 c)=some ops)(hF:FenceOk F Tryz.prog):qcz (ITP Tryz.prog) Tryz.prog F nn B K X0 ops bE (sgL awσ []) (MpOk ops bM X0.w.heap.size) 0 ops.toList ((.top::avU wU0:: .raw undef::avU wU1:: .raw undef::avU wU2:: .raw undef::avU (bS 97)::avU wU3:: .raw undef::avU (bS 10)::avU wU4:: .raw undef::avU wU5:: .raw undef::avU wU6:: .raw undef::avU 0#256::avU wU7:: .raw undef:: .top:: .top::[])):=by
 cases hops;refine⟨fun _=>z6c (ze _) hF rfl rfl rfl rfl (by simp[bM]) (by decide) (by decide) (by decide) (Nat.le_of_ble_eq_true rfl) (fun _=>rfl),?_⟩;refine⟨d_c (ze _) hF (ct0 (f:=12) (args:=[avZ [97,98,99]]) (r:=avU wU0) (by kernel_rfl)) (hb:=by kernel_rfl),?_⟩;refine⟨fun ho=>zik (kd:= .string) (k:= .string (bs wS0)) (kt:=9) (et:=24) (j':=0) (tm:=64) (tv:=65) (f':=false) (ze _) hF rfl rfl rfl ho rfl rfl trivial (by decide) (by simp[bM]) (by simp[bM]) rfl (fun q hq=>bK 2 0 q hq (by simp[bL])) (by decide) (by decide) (fun _=>rfl),?_⟩;refine⟨d_c (ze _) hF (ct0 (f:=12) (args:=[avZ [97,98]]) (r:=avU wU1) (by kernel_rfl)) (hb:=by kernel_rfl),?_⟩;refine⟨fun ho=>zik (kd:= .string) (k:= .string (bs wS1)) (kt:=9) (et:=24) (j':=0) (tm:=64) (tv:=66) (f':=false) (ze _) hF rfl rfl rfl ho rfl rfl trivial (by decide) (by simp[bM]) (by simp[bM]) rfl (fun q hq=>bK 4 1 q hq (by simp[bL])) (by decide) (by decide) (fun _=>rfl),?_⟩;refine⟨d_c (ze _) hF (ct0 (f:=12) (args:=[avZ [97,45]]) (r:=avU wU2) (by kernel_rfl)) (hb:=by kernel_rfl),?_⟩;refine⟨fun ho=>zik (kd:= .string) (k:= .string (bs wS2)) (kt:=9) (et:=24) (j':=0) (tm:=64) (tv:=67) (f':=false) (ze _) hF rfl rfl rfl ho rfl rfl trivial (by decide) (by simp[bM]) (by simp[bM]) rfl (fun q hq=>bK 6 2 q hq (by simp[bL])) (by decide) (by decide) (fun _=>rfl),?_⟩;refine⟨d_c (ze _) hF (ct0 (f:=12) (args:=[avZ [97]]) (r:=avU (bS 97)) (by kernel_rfl)) (hb:=by kernel_rfl),?_⟩;refine⟨d_c (ze _) hF (ct0 (f:=13) (args:=[avU (bS 97)]) (r:=avU wU3) (by kernel_rfl)) (hb:=by kernel_rfl),?_⟩;refine⟨fun ho=>zik (kd:= .string) (k:= .string (bs wS3)) (kt:=9) (et:=24) (j':=0) (tm:=64) (tv:=69) (f':=false) (ze _) hF rfl rfl rfl ho rfl rfl trivial (by decide) (by simp[bM]) (by simp[bM]) rfl (fun q hq=>bK 9 3 q hq (by simp[bL])) (by decide) (by decide) (fun _=>rfl),?_⟩;refine⟨d_c (ze _) hF (ct0 (f:=12) (args:=[avZ [10]]) (r:=avU (bS 10)) (by kernel_rfl)) (hb:=by kernel_rfl),?_⟩;refine⟨d_c (ze _) hF (ct0 (f:=13) (args:=[avU (bS 10)]) (r:=avU wU4) (by kernel_rfl)) (hb:=by kernel_rfl),?_⟩;refine⟨fun ho=>zik (kd:= .string) (k:= .string (bs wS4)) (kt:=9) (et:=24) (j':=0) (tm:=64) (tv:=71) (f':=false) (ze _) hF rfl rfl rfl ho rfl rfl trivial (by decide) (by simp[bM]) (by simp[bM]) rfl (fun q hq=>bK 12 4 q hq (by simp[bL])) (by decide) (by decide) (fun _=>rfl),?_⟩;refine⟨d_c (ze _) hF (ct0 (f:=12) (args:=[avZ [42]]) (r:=avU wU5) (by kernel_rfl)) (hb:=by kernel_rfl),?_⟩;refine⟨fun ho=>zik (kd:= .string) (k:= .string (bs wS5)) (kt:=9) (et:=24) (j':=0) (tm:=64) (tv:=72) (f':=false) (ze _) hF rfl rfl rfl ho rfl rfl trivial (by decide) (by simp[bM]) (by simp[bM]) rfl (fun q hq=>bK 14 5 q hq (by simp[bL])) (by decide) (by decide) (fun _=>rfl),?_⟩;refine⟨d_c (ze _) hF (ct0 (f:=12) (args:=[avZ [10]]) (r:=avU wU6) (by kernel_rfl)) (hb:=by kernel_rfl),?_⟩;refine⟨fun ho=>zik (kd:= .string) (k:= .string (bs wS6)) (kt:=9) (et:=24) (j':=0) (tm:=64) (tv:=73) (f':=false) (ze _) hF rfl rfl rfl ho rfl rfl trivial (by decide) (by simp[bM]) (by simp[bM]) rfl (fun q hq=>bK 16 6 q hq (by simp[bL])) (by decide) (by decide) (fun _=>rfl),?_⟩;refine⟨d_q (ze _) hF (fun _=>by kernel_rfl) (hb:=by kernel_rfl),?_⟩;refine⟨d_c (ze _) hF (ct0 (f:=13) (args:=[avU 0#256]) (r:=avU wU7) (by kernel_rfl)) (hb:=by kernel_rfl),?_⟩;refine⟨fun ho=>zik (kd:= .string) (k:= .string (bs wS7)) (kt:=9) (et:=24) (j':=0) (tm:=64) (tv:=75) (f':=false) (ze _) hF rfl rfl rfl ho rfl rfl trivial (by decide) (by simp[bM]) (by simp[bM]) rfl (fun q hq=>bK 19 7 q hq (by simp[bL])) (by decide) (by decide) (fun _=>rfl),?_⟩;refine⟨fun ho=>du_mv (ze _) hF (t:=76) (t':=64) (j':=0) (f:=true) (f':=false) rfl rfl rfl ho (by decide) (by simp[bM]) (by simp[bM]) rfl (by decide) (by decide) (by decide) (Nat.le_of_ble_eq_true rfl) (fun _=>rfl) (fun _=>by kernel_rfl),?_⟩;refine⟨fun ho=>z7n (ze _) hF (j':=20) (t':=76) rfl rfl rfl ho rfl (by decide) rfl (by simp[bM]) rfl (by decide) (by decide) (Nat.le_of_ble_eq_true rfl) (fun _=>rfl),trivial⟩
end Go.Ab
namespace Go.Ab
open Go Go.RowKit Go.Fwd Go.Proofs
def ztk (t:Tr):Option ((List UInt8)×Int):=
 (chk ((pre t).length<2^61) (zaz (zdj t) (fun x1=>(bif (!x1) then(some (([]:List UInt8),100)) else(chk (PR t) (zaz (tP t) (fun x2=>(some (x2,0)))))))))
theorem ent21:Ent prog 21:=enters_of Tryz.func21 (by kernel_rfl) rfl
theorem qma (t:Tr)(r:((List UInt8)×Int))(h:ztk t=some r):Pure (ITP prog) prog 21 [.A (t:Tr)] (.tup [.raw (.string (bs r.1)),.raw (.int .i64 r.2)]):=by
 unfold ztk at h;refine zbc 8 mix Tryz.func21 ent21 ?_;refine zj (zb ?_);refine zdl (Enc.cells (t:Tr)) ?_;refine w_r [.v (.s ([]:List UInt8)),.v (.i 0)] ?_;refine zj ?_;refine zr [.v (.A (t:Tr))] ?_;obtain⟨g1,h⟩:=zk h;obtain⟨x1,hx1,h⟩:=zn h;refine zbx (args':=[.A (t:Tr)]) (r:= .b x1) (by rw[<-hx1];exact(zqg t g1)) ?_;refine w_o (a:= .b (!x1)) ?_;refine zbv h (fun hc1 h=> ?_) (fun hc1 h=> ?_);refine zr [.v (.s ([]:List UInt8)),.v (.i 100)] ?_;exact zbs (fun(r:((List UInt8)×Int))=> .tup [.s r.1,.i r.2]) h (.tup [.s ([]:List UInt8),.i 100]);refine zr [.v (.A (t:Tr))] ?_;obtain⟨g2,h⟩:=zk h;obtain⟨x2,hx2,h⟩:=zn h;refine zbx (args':=[.A (t:Tr)]) (r:= .s x2) (by rw[<-hx2];exact(k_tree t g2)) ?_;refine w_r [.m _,.v (.i 0)] ?_;exact zbs (fun(r:((List UInt8)×Int))=> .tup [.s r.1,.i r.2]) h (.tup [.s x2,.i 0])
def zpt (fuel:Nat)(s:(List UInt8)):Option Tr:=
 (zda (τ:=(List Tr)) (zbk (β:=(List Tr)×Int) (fun s1=>(bif (decide (s1.2<(min (length s:Int) 10000))) then(chk (0<=s1.2/\ s1.2<(length s:Int)) (zaz (ix s s1.2) (fun x1=>(zaa (zkk fuel (((x1).toNat:Nat):Int)) (fun x2=>(chk ((length s1.1+length [x2])*80<=140737488355328) (chk (-9223372036854775808<=(s1.2+1)/\ (s1.2+1)<9223372036854775808) (some (inl ((s1.1++[x2]),(s1.2+1))))))))))) else(some (Sum.inr (inl (s1.1)))))) fuel (([]:(List Tr)),0)) (fun j1=>(zaa (zhj 3 j1 (Tr.mk 1 (0#256) 0 0 [])) (fun x3=>(some x3)))))
theorem ent32:Ent prog 32:=enters_of Tryz.func32 (by kernel_rfl) rfl
theorem qdx (fuel:Nat)(s:(List UInt8))(r:Tr)(h:zpt fuel s=some r):Pure (ITP prog) prog 32 [.raw (.string (bs s))] (.A (r:Tr)):=by
 unfold zpt at h;refine zbc 21 mix Tryz.func32 ent32 ?_;refine zj (zb ?_);refine zdl [.u 0,.raw (.int .u64 0),.raw (.int .u64 0),.raw (.int .u64 0),.raw (.int .u64 0),.i 0,.i 0,.list 0 [] .full] ?_;refine zr [.v (.list 0 [] .full)] ?_;refine zau h (bz 0 22 4194299) (fun j1=>[(3,(.O (j1:List Tr)))]) (fun j1=>(zar [(27,[.u 0,.raw (.int .u64 0),.raw (.int .u64 0),.raw (.int .u64 0),.raw (.int .u64 0),.i 0,.i 0,.list 0 [] .full])] 27 (length (j1:List Tr)) 8)) ?_ ?_;intro or1 h hr1;refine zr [.m _] ?_;refine w_o (a:= .i (length s:Int)) (h:=zbl (zdq rfl rfl rfl)) ?_;refine w_o (a:= .i (min (length s:Int) 10000)) (h:=zbl (qfr rfl rfl rfl rfl rfl)) ?_;refine w_o (a:= .i 0) ?_;refine zy ?_;refine zdg h (bz 0 22 4194170) (fun s1=>[(3,(.O (s1.1:List Tr))),(8,.i s1.2)]) (fun s1=>(zar [(27,[.u 0,.raw (.int .u64 0),.raw (.int .u64 0),.raw (.int .u64 0),.raw (.int .u64 0),.i 0,.i 0,.list 0 [] .full])] 27 (length (s1.1:List Tr)) 8)) ?_ ?_;exact zbh (bl 22 397);intro s1 p1 h;refine zdw ?_;refine zr [.v (.b (decide (s1.2<(min (length s:Int) 10000))))] ?_;refine zj ?_;refine zbv h (fun hc1 h=> ?_) (fun hc1 h=> ?_);refine zj ?_;refine zy ?_;refine zr [.m _,.m _] ?_;refine zb (k0:=0) (id:=5) ?_;refine w_r [.m _,.m _,.m _] ?_;obtain⟨g1,h⟩:=zk h;obtain⟨x1,hx1,h⟩:=zn h;refine w_o (a:= .u (((x1).toNat:Nat):Int)) (h:=zbl (by rw[<-hx1];exact(zdv (l:=s) (n:=s1.2) g1 rfl rfl rfl rfl))) ?_;obtain⟨x2,hx2,h⟩:=zm h;refine zbx (z4f fuel (((x1).toNat:Nat):Int) x2 hx2) ?_;refine w_o (a:= .F ([x2]:List Tr)) (h:=zbl (zhc (α:=Tr) (l:=[x2]) (cs:=Enc.cells (x2:Tr)++[]) rfl (by rw[Enc.cons,Enc.nil]))) ?_;obtain⟨g2,h⟩:=zk h;refine zis (a:=(.O ((s1.1++[x2]):List Tr))) (U'':=(zar [(27,[.u 0,.raw (.int .u64 0),.raw (.int .u64 0),.raw (.int .u64 0),.raw (.int .u64 0),.i 0,.i 0,.list 0 [] .full])] 27 (length ((s1.1++[x2]):List Tr)) 8)) rfl rfl rfl (zpa rfl rfl rfl rfl (zif (α:=Tr) (bs:=[(27,[.u 0,.raw (.int .u64 0),.raw (.int .u64 0),.raw (.int .u64 0),.raw (.int .u64 0),.i 0,.i 0,.list 0 [] .full])]) (a:=s1.1) (b:=[x2]) g2 rfl rfl rfl rfl rfl ⟨rfl,by decide⟩)) (by dsimp only[zad,List.set]) rfl ?_;refine zah ?_;refine zb (k0:=0) (id:=6) ?_;obtain⟨g3,h⟩:=zk h;refine zjg g3 ?_;refine zah ?_;refine zbr (p:=p1) ((s1.1++[x2]),(s1.2+1)) h ?_;exact zbh (bl 22 397);refine zae h (fun h=> ?_);refine zc (o:=or1) (s1.1) h ?_;exact zbh (bl 22 12);intro j1 h;refine zdw ?_;refine zr [.m _] ?_;refine w_qs (.A ((Tr.mk 1 (0#256) 0 0 []):Tr)) (a0:=(qhu (Tr.mk 1 (0#256) 0 0 []) .full)) rfl rfl rfl (by kernel_rfl) (zto _ _) (by dsimp only[zad,List.set]) ?_;obtain⟨x3,hx3,h⟩:=zm h;refine zbx (ztj 3 j1 (Tr.mk 1 (0#256) 0 0 []) x3 hx3) ?_;refine znb 8 (zar [(27,(Enc.cells (x3:Tr)))] 27 (length (j1:List Tr)) 8) ?_;exact zbs (fun(r:Tr)=> .A (r:Tr)) h (.A (x3:Tr))
section
variable {H:Bool} {P:Program} {Ω:CallP} {Ψ:CallS}
def preW (run:Run)(n:Nat)(ms:List Bool)(c:Code)(S:List AV)(U:St):Option (List AV×St):=match qfe run n c S U with
 |some (S1,U1)=>some (fgM ms S1,U1)
 |none=>none
theorem w_preW (hG:Good P Ω Ψ) {k k0:Nat} {Q:AQ} {S S':List AV} {U U':St} {ms:List Bool} (n:Nat)(c:Code)(h:preW (evQ H P Ω Ψ k) (n+1) ms c S U=some (S',U'))(hk:awp (ITP P) P none k0 (sufC (n+1) c) Q S' U'):awp (ITP P) P none k0 c Q S U:=by
 unfold preW at h;split at h
 ·rename_i S1 U1 h1;cases h;exact w_pre hG n c S U _ _ h1 (z5m ms rfl rfl) hk
 ·cases h
end
def awM0:List Bool:=[true,true,true,true,true,false,false,false,false,false,false,false,false,false,false,false,false,false,false,false,false,false,false,false,false,false,false,false,false,false,false,false,false,false,false,false,false,false,false,false,false,false,false,false,false,false,false,false,false,false,false,false,false,false,false,false,false,false,false,false,false,false,false,false,false,false,false,false,false,false,false,false,false,false,false,false,false,false,false,false,false,false,false,false,false,false,false,false,false,false,false,false,false,false,false,false,false,false,false,false,false,false,false,false,false,false,false,false,false,false,false,false,false,false,false,false,false,false,false,false,false,false,false]
theorem ent19:Ent prog 19:=enters_of Tryz.func19 (by kernel_rfl) rfl
theorem qaw:Pure (ITP prog) prog 19 [] (.raw (.bool true)):=by
 obtain⟨d,hd⟩: ∃d,Tryz.f19.body=some d:=⟨_,rfl⟩;refine zko mix Tryz.func19 hd ent19 ?_;cases hd;refine w_preW (H:=true) (S':=awS) (U':=awσ) (ms:=awM0) (k:=300) good0 1 _ (by kernel_rfl) ?_;show awp (ITP prog) prog none 0 (.seq _ _) _ _ _;refine qiz awS awσ (z4d mix aM (sg:=sgL awσ []) (SL:=aSL) (E:=aE) (it:=46) (d69:=47) (d70:=48) (d71:=49) (ri:=28) aMs (fun hF=>a_map rfl hF) (by kernel_rfl) (by kernel_rfl) (by kernel_rfl) (by kernel_rfl) (by kernel_rfl) rfl (fun r=>by kernel_rfl) ⟨rfl,rfl,rfl⟩ ⟨rfl,rfl,rfl⟩ ⟨rfl,rfl,rfl⟩ rfl (fun r=>by kernel_rfl) (fun r=>by kernel_rfl) ⟨by decide,by decide,by decide,by decide,le_of_ble_eq_true rfl,le_of_ble_eq_true rfl,le_of_ble_eq_true rfl,le_of_ble_eq_true rfl⟩ (fun r=>by kernel_rfl) (fun r=>by kernel_rfl) (by kernel_rfl) (by
  intro r q hq;simp only[aM,mem_cons,List.not_mem_nil,or_false] at hq;rcases hq with rfl|rfl|rfl|rfl<;>exact z7z (H:=true) (k:=300) (ms:=aM2) (zsn qdf) (by kernel_rfl)) (fun r=>(show fgM aM3 (aSL r)=awS by kernel_rfl)▸znk aM3 (aSL r))) ?_
 show awp (ITP prog) prog none 0 (.seq _ _) _ _ _;refine qiz awS awσ (z4d mix bM (sg:=sgL awσ []) (SL:=bSL) (E:=bE) (it:=77) (d69:=78) (d70:=79) (d71:=80) (ri:=21) bMs (fun hF=>b_map rfl hF) (by kernel_rfl) (by kernel_rfl) (by kernel_rfl) (by kernel_rfl) (by kernel_rfl) rfl (fun r=>by kernel_rfl) ⟨rfl,rfl,rfl⟩ ⟨rfl,rfl,rfl⟩ ⟨rfl,rfl,rfl⟩ rfl (fun r=>by kernel_rfl) (fun r=>by kernel_rfl) ⟨by decide,by decide,by decide,by decide,le_of_ble_eq_true rfl,le_of_ble_eq_true rfl,le_of_ble_eq_true rfl,le_of_ble_eq_true rfl⟩ (fun r=>by kernel_rfl) (fun r=>by kernel_rfl) (by kernel_rfl) (by
  intro r q hq;simp only[bM,mem_cons,List.not_mem_nil,or_false] at hq;rcases hq with rfl|rfl|rfl|rfl|rfl|rfl|rfl|rfl<;>exact z7z (H:=true) (k:=300) (ms:=bM2) (zsn tblB_ok) (by kernel_rfl)) (fun r=>(show fgM bM3 (bSL r)=awS by kernel_rfl)▸znk bM3 (bSL r))) ?_
 exact w_tail (H:=true) (k:=300) (zsn tblC_ok) (by kernel_rfl)
theorem same_eq (a b:Tr)(h:(pre a).length<2^61/\ (pre b).length<2^61):z8r a b=some (qbj a b):=by
 unfold z8r qbj;rw[zbo h.1,zaz];cases hl:zcw a with
 |false=>rfl
 | true=>
  show chk _ _=_;rw[zbo h.2,zaz];cases hl2:zcw b with
  |false=>rfl
  | true=>
   have h1:=z7i.1 hl;have h2:=z7i.1 hl2
   show chk _ _=_;rw[zbo ⟨by omega,by omega⟩];rfl
theorem k_same (a b:Tr)(h:(pre a).length<2^61/\ (pre b).length<2^61):Pure (ITP prog) prog 30 [.agg (Enc.cells a),.agg (Enc.cells b)] (.raw (.bool (qbj a b))):=same_sh a b _ (same_eq a b h)
end Go.Ab
namespace Go.Ab
open Go Go.RowKit Go.Fwd Go.Proofs
def z9e (fuel:Nat)(a:(List UInt8))(b:(List UInt8)):Option Bool:=
 (chk (0<=0/\ 0<=(min (length a:Int) 50)/\ (min (length a:Int) 50)<=(length a:Int)) (zaz (sub a 0 (min (length a:Int) 50)) (fun x1=>(chk (0<=0/\ 0<=(min (length b:Int) 50)/\ (min (length b:Int) 50)<=(length b:Int)) (zaz (sub b 0 (min (length b:Int) 50)) (fun x2=>(zaa (zin fuel x1) (fun x3=>(zaa (zin fuel x2) (fun x4=>(chk (length x3+length x4<=9223372036854775807) (zaa (qiv 1100 1100 (x3++x4)) (fun x5=>(zaa (ztk x5.1.t) (fun x6=>(zda (τ:=Bool) (chk (-9223372036854775808<=(x5.2.2+x6.2)/\ (x5.2.2+x6.2)<9223372036854775808) (bif ((x5.2.2+x6.2)==0) then(chk (-9223372036854775808<=((length x3:Int)+(length x4:Int))/\ ((length x3:Int)+(length x4:Int))<9223372036854775808) (bif (x5.2.1==((length x3:Int)+(length x4:Int))) then(chk (length x1+length x2<=9223372036854775807) (zaa (zin fuel (x1++x2)) (fun x7=>(chk (length x3+length x4<=9223372036854775807) (bif (x7==(x3++x4)) then(chk (length x1+length x2<=9223372036854775807) (zaa (zpt fuel (x1++x2)) (fun x8=>(chk ((pre x5.1.t).length<2^61/\ (pre x8).length<2^61) (zaz (qbj x5.1.t x8) (fun x9=>(bif x9 then(bif (!x5.1.b) then(bif (!x5.1.e) then(chk (length x3+length x4<=9223372036854775807) (some (inl ((x6.1==(x3++x4)))))) else(some (inl (false)))) else(some (inl (false)))) else(some (inl (false)))))))))) else(some (inl (false)))))))) else(some (inl (false))))) else(some (inl (false))))) (fun j1=>(some j1))))))))))))))))))
theorem ent10:Ent prog 10:=enters_of Tryz.func10 (by kernel_rfl) rfl
theorem rxpl_sh (fuel:Nat)(a:(List UInt8))(b:(List UInt8))(r:Bool)(h:z9e fuel a b=some r):Pure (ITP Tryz.prog) Tryz.prog 10 [.raw (.string (bs a)),.raw (.string (bs b))] (.raw (.bool r)):=by
 unfold z9e at h;refine zbc 89 mix Tryz.func10 ent10 ?_;refine zr [.v (.b false)] ?_;refine zj ?_;refine zj (zb ?_);refine zbx (r:= .b true) qaw ?_;refine w_o (a:= .b false) ?_;refine zce rfl ?_;refine zj ?_;refine zie (k0:=0) (id:=3) 11 (by kernel_rfl) (by kernel_rfl) ?_;iterate 2 refine zfo ?_
 refine h_o (a:= .i (List.length a:Int)) (h:=zdq rfl rfl rfl) ?_;refine h_o (a:= .i (min (List.length a:Int) 50)) (h:=qfr rfl rfl rfl rfl rfl) ?_;obtain⟨g1,h⟩:=zk h;obtain⟨x1,hx1,h⟩:=zn h;refine h_o (a:= .s x1) (h:=by rw[<-hx1];exact(z6l (l:=a) g1 rfl rfl rfl rfl)) ?_;iterate 2 refine zfo ?_
 refine h_o (a:= .i (List.length b:Int)) (h:=zdq rfl rfl rfl) ?_;refine h_o (a:= .i (min (List.length b:Int) 50)) (h:=qfr rfl rfl rfl rfl rfl) ?_;obtain⟨g2,h⟩:=zk h;obtain⟨x2,hx2,h⟩:=zn h;refine h_o (a:= .s x2) (h:=by rw[<-hx2];exact(z6l (l:=b) g2 rfl rfl rfl rfl)) ?_;refine zfo ?_;refine zgs ?_;refine zah ?_;refine zr [.m _] ?_;obtain⟨x3,hx3,h⟩:=zm h;refine zbx (zqo fuel x1 x3 hx3) ?_;refine zah ?_;obtain⟨x4,hx4,h⟩:=zm h;refine zbx (zqo fuel x2 x4 hx4) ?_;refine w_r [.m _,.m _] ?_;refine zr [.m _,.m _] ?_;obtain⟨g3,h⟩:=zk h;refine w_o (a:= .s (x3++x4)) (h:=zbl (zdz g3 rfl rfl rfl)) ?_;obtain⟨x5,hx5,h⟩:=zm h;refine zbx (r:= .tup [.A (x5.1:Rg),.i x5.2.1,.i x5.2.2]) (qok 1100 1100 (x3++x4) x5 hx5) ?_;refine w_r [.m _,.x _,.x _,.x _] ?_;refine zdl [.b false,.b false,.u 0,.raw (.int .u64 0),.raw (.int .u64 0),.raw (.int .u64 0),.raw (.int .u64 0),.i 0,.i 0,.list 0 [] .full] ?_;refine zfs 10 (Enc.cells (x5.1:Rg)) ?_;refine w_r [.m _,.m _] ?_;refine zr [.v (.ptr 0 2),.v (.A (x5.1.t:Tr))] ?_;obtain⟨x6,hx6,h⟩:=zm h;refine zbx (qma x5.1.t x6 hx6) ?_;refine w_r [.m _,.x _,.x _,.m _,.m _] ?_;refine zau h (bz 0 91 2475880078570760549798248447) (fun j1=>[(4,.b j1)]) (fun j1=>(.B [(47,(Enc.cells (x5.1:Rg)))])) ?_ ?_;intro or1 h hr1;refine zie (k0:=0) (id:=7) 47 (by kernel_rfl) (by kernel_rfl) ?_;iterate 2 refine zfo ?_
 obtain⟨g4,h⟩:=zk h;refine h_o (a:= .i (x5.2.2+x6.2)) (h:=qcd rfl rfl rfl rfl g4.1 g4.2) ?_;refine h_o (a:= .b ((x5.2.2+x6.2)==0)) ?_;refine zan h (fun hc1 h=> ?_) (fun hc1 h=> ?_);refine h_o (a:= .b true) (h:=zee rfl hc1) ?_;refine zcm rfl rfl ?_;refine zfo ?_;refine zcm rfl rfl ?_;refine zfo ?_;refine zcm rfl rfl ?_;refine h_o (a:= .i (List.length x3:Int)) (h:=zdq rfl rfl rfl) ?_;refine zcm rfl rfl ?_;refine zfo ?_;refine zcm rfl rfl ?_;refine h_o (a:= .i (List.length x4:Int)) (h:=zdq rfl rfl rfl) ?_;refine zcm rfl rfl ?_;obtain⟨g5,h⟩:=zk h;refine h_o (a:= .i ((List.length x3:Int)+(List.length x4:Int))) (h:=qcd rfl rfl rfl rfl g5.1 g5.2) ?_;refine zcm rfl rfl ?_;iterate 2 refine h_o (a:= .b (x5.2.1==((List.length x3:Int)+(List.length x4:Int)))) ?_
 refine zan h (fun hc2 h=> ?_) (fun hc2 h=> ?_);refine h_o (a:= .b true) (h:=zee rfl hc2) ?_;refine zcm rfl rfl ?_;refine zfo ?_;refine zcm rfl rfl ?_;refine zfo ?_;refine zcm rfl rfl ?_;obtain⟨g6,h⟩:=zk h;refine h_o (a:= .s (x1++x2)) (h:=zdz g6 rfl rfl rfl) ?_;refine zcm rfl rfl ?_;obtain⟨x7,hx7,h⟩:=zm h;refine qce (zqo fuel (x1++x2) x7 hx7) ?_;refine zcm rfl rfl ?_;refine zfo ?_;refine zcm rfl rfl ?_;refine zfo ?_;refine zcm rfl rfl ?_;obtain⟨g7,h⟩:=zk h;refine h_o (a:= .s (x3++x4)) (h:=zdz g7 rfl rfl rfl) ?_;refine zcm rfl rfl ?_;refine h_o (a:= .b (x7==(x3++x4))) (h:=zzz rfl rfl rfl) ?_;refine h_o (a:= .b (x7==(x3++x4))) ?_;refine zan h (fun hc3 h=> ?_) (fun hc3 h=> ?_);refine h_o (a:= .b true) (h:=zee rfl hc3) ?_;refine zcm rfl rfl ?_;refine h_o (a:= .ptr 0 2) ?_;refine zcm rfl rfl ?_;refine h_o (a:= .A (x5.1.t:Tr)) ?_;refine zcm rfl rfl ?_;refine zfo ?_;refine zcm rfl rfl ?_;refine zfo ?_;refine zcm rfl rfl ?_;obtain⟨g8,h⟩:=zk h;refine h_o (a:= .s (x1++x2)) (h:=zdz g8 rfl rfl rfl) ?_;refine zcm rfl rfl ?_;obtain⟨x8,hx8,h⟩:=zm h;refine qce (qdx fuel (x1++x2) x8 hx8) ?_;refine zcm rfl rfl ?_;obtain⟨g9,h⟩:=zk h;obtain⟨x9,hx9,h⟩:=zn h;refine qce (args':=[.A (x5.1.t:Tr),.A (x8:Tr)]) (r:= .b x9) (by rw[<-hx9];exact(k_same x5.1.t x8 g9)) ?_;refine h_o (a:= .b x9) ?_;refine zan h (fun hc4 h=> ?_) (fun hc4 h=> ?_);refine h_o (a:= .b true) (h:=zee rfl hc4) ?_;refine zcm rfl rfl ?_;refine h_o (a:= .ptr 0 0) ?_;refine zcm rfl rfl ?_;refine h_o (a:= .b x5.1.b) ?_;refine zcm rfl rfl ?_;iterate 2 refine h_o (a:= .b (!x5.1.b)) ?_
 refine zan h (fun hc5 h=> ?_) (fun hc5 h=> ?_);refine h_o (a:= .b true) (h:=zee rfl hc5) ?_;refine zcm rfl rfl ?_;refine h_o (a:= .ptr 0 1) ?_;refine zcm rfl rfl ?_;refine h_o (a:= .b x5.1.e) ?_;refine zcm rfl rfl ?_;iterate 2 refine h_o (a:= .b (!x5.1.e)) ?_
 refine zan h (fun hc6 h=> ?_) (fun hc6 h=> ?_);refine h_o (a:= .b true) (h:=zee rfl hc6) ?_;refine zcm rfl rfl ?_;refine zfo ?_;refine zcm rfl rfl ?_;refine zfo ?_;refine zcm rfl rfl ?_;refine zfo ?_;refine zcm rfl rfl ?_;obtain⟨g10,h⟩:=zk h;refine h_o (a:= .s (x3++x4)) (h:=zdz g10 rfl rfl rfl) ?_;refine zgs ?_;refine zbj rfl rfl ?_;refine w_o (a:= .b (x6.1==(x3++x4))) (h:=zbl (zzz rfl rfl rfl)) ?_;refine w_r [.v (.b (x6.1==(x3++x4))),.m _] ?_;refine zc (o:=or1) ((x6.1==(x3++x4))) h ?_;exact zbh (bl 91 16);refine h_o (a:= .b false) (h:=zee rfl hc6) ?_;iterate 4 refine zby ?_
 refine zgs ?_;refine w_r [.p,.v (.b false),.m _] ?_;refine zc (o:=or1) (false) h ?_;exact zbh (bl 91 16);refine h_o (a:= .b false) (h:=zee rfl hc5) ?_;iterate 3 refine zby ?_
 refine h_o (a:= .b false) ?_;refine zfo ?_;iterate 4 refine zby ?_
 refine zgs ?_;refine w_r [.p,.v (.b false),.m _] ?_;refine zc (o:=or1) (false) h ?_;exact zbh (bl 91 16);refine h_o (a:= .b false) (h:=zee rfl hc4) ?_;iterate 3 refine zby ?_
 refine h_o (a:= .b false) ?_;refine zfo ?_;iterate 3 refine zby ?_
 refine h_o (a:= .b false) ?_;refine zfo ?_;iterate 4 refine zby ?_
 refine zgs ?_;refine w_r [.p,.v (.b false),.m _] ?_;refine zc (o:=or1) (false) h ?_;exact zbh (bl 91 16);refine h_o (a:= .b false) (h:=zee rfl hc3) ?_;iterate 7 refine zby ?_
 refine h_o (a:= .b false) ?_;refine zfo ?_;iterate 3 refine zby ?_
 refine h_o (a:= .b false) ?_;refine zfo ?_;iterate 3 refine zby ?_
 refine h_o (a:= .b false) ?_;refine zfo ?_;iterate 4 refine zby ?_
 refine zgs ?_;refine w_r [.p,.v (.b false),.m _] ?_;refine zc (o:=or1) (false) h ?_;exact zbh (bl 91 16);refine h_o (a:= .b false) (h:=zee rfl hc2) ?_;iterate 8 refine zby ?_
 refine h_o (a:= .b false) ?_;refine zfo ?_;iterate 7 refine zby ?_
 refine h_o (a:= .b false) ?_;refine zfo ?_;iterate 3 refine zby ?_
 refine h_o (a:= .b false) ?_;refine zfo ?_;iterate 3 refine zby ?_
 refine h_o (a:= .b false) ?_;refine zfo ?_;iterate 4 refine zby ?_
 refine zgs ?_;refine w_r [.p,.v (.b false),.m _] ?_;refine zc (o:=or1) (false) h ?_;exact zbh (bl 91 16);refine h_o (a:= .b false) (h:=zee rfl hc1) ?_;iterate 7 refine zby ?_
 refine h_o (a:= .b false) ?_;refine zfo ?_;iterate 8 refine zby ?_
 refine h_o (a:= .b false) ?_;refine zfo ?_;iterate 7 refine zby ?_
 refine h_o (a:= .b false) ?_;refine zfo ?_;iterate 3 refine zby ?_
 refine h_o (a:= .b false) ?_;refine zfo ?_;iterate 3 refine zby ?_
 refine h_o (a:= .b false) ?_;refine zfo ?_;iterate 4 refine zby ?_
 refine zgs ?_;refine w_r [.p,.v (.b false),.m _] ?_;refine zc (o:=or1) (false) h ?_;exact zbh (bl 91 16);intro j1 h;refine zdw ?_;exact zbn h
end Go.Ab
