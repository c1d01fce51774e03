import Derived.Test.YtnoccnalocdldaaDoorZdMp
set_option linter.all false
namespace Go.Ab
open Go Go.RowKit Go.Fwd
open Go.ChangeMaps (setBlock)
section
variable {IT:IterP} {P:Program} {F:Fence} {nn B:Nat} {K:Exit→Act→World→Prop} {X0:Cx} {ops:Array Oper} {E:List AV} {sg:(Nat→Bool)→St} {Mi:MI} {i:Nat} {o:Oper} {x:AV}
theorem qfx (hIT:ITMono IT)(hF:FenceOk F P) {t kt et d t' j':Nat} (hg:o.guard=none)(hop:o.op= .range t (.tmp t'))(hd:o.dst=some d)(ho:ops[i]? =some o)(hu:P.underlying t=some (.map kt et))(hi:Mi.om≠i)(hm:Mi.it=[(i,d)])(hm':(j',t',true)∈Mi.mvs)(hj:zbl ops j'=some t')(hmv: ∀p∈Mi.mvs,p.1≠i∧p.2.1≠d)(hin: ∀q∈Mi.ins,q.1≠i∧q.2.2≠d)(htm:d<E.length)(hsg: ∀d,sg (ziz d i)=sg d):
 z8q IT P F nn B K X0 ops E sg (MpOk ops Mi X0.w.heap.size) i o .top:=by
 refine⟨hg,fun d' S' X a next hs hd' hkk hbe hwt hwr hr hsz hn hΦ hK=> ?_⟩
 have up: ∀j,j≠i→ziz d' i j=d' j:=fun j hj=>zbm hj
 have up': ∀j,d' j=true→ziz d' i j=true:=fun j hj=>by
  by_cases e:j=i
  ·subst e;rw[hd'] at hj;cases hj
  ·rw[up j e];exact hj
 have hj':d' j'=true:=hwr j' t' hj (by simp only[zgg,ho,hop];exact List.mem_append.2 (.inl (zgh (by simp[Op.operands]))))
 obtain⟨hom,hall⟩:=hΦ.mvs _ hm' hj'
 obtain⟨m,es,c,k1,k2,k3,k4,k5⟩:=hΦ.map hom
 have e1:a.eval (.tmp t')= .map (some m):=k3 _ hm' hj'
 unfold Oper.wpIn
 refine⟨fun f _=>hF.fn f,?_⟩
 rw[Oper.semAt_plain F _ _ (by intro c hc;rw[hop] at hc;cases hc)]
 have r1:(execOp a.eval o).run P X.w= .ok (.value (.pointer (some ⟨X.w.heap.size,0,none⟩))) (X.w.alloc (.mapIter (some m) c #[] c)):=by
  simp only[execOp,hop,e1,Sem.run_bind,run_range_map X.w t kt et m es c hu k2];rfl
 rw[r1]
 have n1:=zrb hIT hs hn (zui X.w (.mapIter (some m) c #[] c) rfl)
 have n2:=zcg (P:=P) (M:=none) trivial hIT n1 (Ext.refl _) n1.inv ⟨rfl,rfl⟩ o.dst (x:= .top) (v:= .pointer (some ⟨X.w.heap.size,0,none⟩)) (by rw[Rep];trivial)
 refine hK _ _ (by rw[hsg];exact n2) ?_
 have ne: ∀t1,t1≠d→(a.put o.dst (.pointer (some ⟨X.w.heap.size,0,none⟩))).eval (.tmp t1)=a.eval (.tmp t1):=fun t1 h=>zej _ _ _ _ (by rw[hd];intro e;exact h (Option.some.inj e).symm)
 have old: ∀(k:Nat) (ob:Obj),X.w.heap[k]? =some ob→(X.w.alloc (.mapIter (some m) c #[] c)).heap[k]? =some ob:=fun k ob h=>(Below.heap_alloc _ _ _ (Array.getElem?_eq_some_iff.1 h).1).trans h
 refine⟨fun q hq hqd=> ?_,fun p hp hpd=> ?_,fun p hp hpd=>⟨up' _ hom,fun q hq=>up' _ (hall rfl q hq)⟩,fun _=>⟨m,es,c,k1,old _ _ k2,fun p hp hpd=> ?_,⟨k4.born,k4.nd,fun e he=> ?_,fun q hq hqd=> ?_⟩,fun p hp hpd=> ?_⟩⟩
 ·rw[up _ (hin q hq).1] at hqd
  exact⟨up' _ hom,fun j hj=>up' _ ((hΦ.ins q hq hqd).2 j hj)⟩
 ·rw[up _ (hmv p hp).1] at hpd
  exact⟨up' _ hom,fun hf q hq=>up' _ ((hΦ.mvs p hp hpd).2 hf q hq)⟩
 ·rw[up _ (hmv p hp).1] at hpd
  rw[ne _ (hmv p hp).2];exact k3 p hp hpd
 ·obtain⟨q,hq,q1,q2,q3⟩:=k4.of e he
  exact⟨q,hq,up' _ q1,q2,by rw[ne _ (hin q hq).2];exact q3⟩
 ·rw[up _ (hin q hq).1] at hqd;exact k4.all q hq hqd
 ·rw[hm,List.mem_singleton] at hp
  subst hp
  refine⟨X.w.heap.size,hs,zeq _ _ _ rfl,?_⟩
  rw[hd]
  have hl:d<a.tmps.size:=by omega
  simp[Act.put,Act.eval,hl]
end
theorem qhb {a:Act} {t:Nat} {v:Value} (h:a.eval (.tmp t)=v)(hl:t<a.tmps.size):a.put (some t) v=a:=by
 have h1:a.tmps[t]=v:=by
  have:=h
  simpa[Act.eval,hl] using this
 show({a with tmps:=a.tmps.setIfInBounds t v}:Act)=a
 have:a.tmps.setIfInBounds t v=a.tmps:=by
  rw[←h1]
  apply Array.ext_getElem?
  intro j
  by_cases e:t=j
  ·subst e;simp[hl]
  ·rw[Array.getElem?_setIfInBounds_ne e]
 rw[this]
theorem z0m {P:Program} {F:Fence} (hF:FenceOk F P) {nn:Nat} {ops:Array Oper} {Q:Exit→Act→World→Prop} {o:Oper} {l:List Oper} {a:Act} {w w':World} {v:Value} (hg:o.guard=none)(hdf: ∀c,o.op≠ .defer c)(hrun:(execOp a.eval o).run P w= .ok (.value v) w')(h:wpListIn F nn P ops Q l (a.put o.dst v) w'):wpListIn F nn P ops Q (o::l) a w:=by
 simp only[wpListIn]
 rw[if_pos (by simp[Region.wanted,hg])]
 unfold Oper.wpIn
 refine⟨fun f _=>hF.fn f,?_⟩
 rw[Oper.semAt_plain F _ _ hdf,hrun]
 exact h
set_option maxHeartbeats 1000000 in
theorem qdh {P:Program} (hmix:P.follows .mixedOrders=true) {id1 id2 id3 id4 id5:Nat} {ops ops5:Array Oper} {nx ex en:Oper} {rest:Code} {l5:List Oper} {S E vs:List AV} {SL:Nat→List AV} {σ σL:St} {sg:(Nat→Bool)→St} (Mi:MI) {it d69 d70 d71 ri:Nat} (ms:List Bool)
 (hall: ∀ {F:Fence} {nn B:Nat} {K:Exit→Act→World→Prop} {X0:Cx},FenceOk F P→qbw (ITP P) P F nn B K X0 ops E sg (MpOk ops Mi X0.w.heap.size) 0 ops.toList vs)
 (hE:zgx ops.toList vs S=E) (hfl:(floB ops S.length&&zvp ops)=true) (hσ:sg (fun j=>Nat.ble ops.size j)=σ) (hσ':sg (fun _=>true)=σL) (hb:bndB Mi ops.size=true)
 (hit:Mi.it=[(ri,it)]) (hSL: ∀r,fgM ms (E.set it (.raw (.pointer (some ⟨r,0,none⟩))))=SL r)
 (hnx:nx.op= .next (.tmp it) false∧nx.dst=some d69∧nx.guard=none) (hex:ex.op= .extract (.tmp d69) 0∧ex.dst=some d70∧ex.guard=none) (hen:en.op= .entry (.tmp it)∧en.dst=some d71∧en.guard=none) (h5:ops5.toList=en::l5)
 (h69: ∀r,(SL r).set d69 .top=SL r) (h70: ∀r,(SL r).set d70 .top=SL r) (hne:it≠d69∧it≠d70∧it≠d71∧d69≠d70∧it<E.length∧d69<E.length∧d70<E.length∧d71<E.length) (hgt: ∀r,(SL r)[it]? =some (.raw (.pointer (some ⟨r,0,none⟩)))) (hl: ∀r,(SL r).length=E.length) (hnr:zcn rest=true)
 (hbody: ∀(r:Nat) (q:Nat×Value×Nat),q∈Mi.ins→zcq (ITP P) P none ops5 (fun S2 σ2=>awp (ITP P) P none σL.boxes.length rest (fun e S3 σ3=>e= .normal∧Wk σL.boxes.length S3 σ3 (SL r) σL) S2 σ2) l5 ((SL r).set d71 (.tup [.raw q.2.1,E[q.2.2]?.getD (.raw undef)])) σL)
 {S':List AV} (hS': ∀r,Fg (SL r) S'):
 qel (ITP P) P (.seq (.region id1 ops true) (.block id2 (.loop (.seq (.region id3 #[nx,ex] false) (.seq (.cond (.tmp d70) .skip (.exit id2)) (.block id4 (.seq (.region id5 ops5 false) rest))))))) S σ S' σL:=by
 have hIT:=zn P
 intro F nn B X0 X a hF hI0 hn hfe
 rw[Bool.and_eq_true] at hfl
 have hG:zrp P B none:=trivial
 refine wpIn_seq ?_
 have KK: ∀(X:Cx) (a:Act),Now (ITP P) none F B X0 E σL X a→MpOk ops Mi X0.w.heap.size (fun _=>true) a X.w→
  (Code.block id2 (.loop (.seq (.region id3 #[nx,ex] false) (.seq (.cond (.tmp d70) .skip (.exit id2)) (.block id4 (.seq (.region id5 ops5 false) rest)))))).wpIn F nn P (fun e a' w'=>e= .normal∧ ∃X',X'.w=w'∧Now (ITP P) none F B X0 S' σL X' a') a X.w:=by
  intro X a hn hΦ
  obtain⟨m,es,c,k1,k2,k3,k4,k5⟩:=hΦ.map rfl
  obtain⟨r,r1,r2,r3⟩:=k5 (ri,it) (by rw[hit];exact List.mem_singleton.2 rfl) rfl
  refine wpIn_block ?_
  refine wpIn_loop_rounds ((leftOf es #[]).size+1) ?_
  have hsz: ∀ {X0 X:Cx} {S:List AV} {σ:St} {a:Act},Now (ITP P) none F B X0 S σ X a→a.tmps.size=S.length:=fun hn=>by
   have:=zr hn.reps
   simpa using this.symm
  have key: ∀(n:Nat) (seen:Array Nat) (c0:Nat) (X:Cx) (a:Act),(leftOf es seen).size≤n→c≤c0→Now (ITP P) none F B X0 (SL r) σL X a→X.w.heap[m]? =some (.map es c)→X.w.heap[r]? =some (.mapIter (some m) c seen c0)→(∀e∈es.toList,∃q∈Mi.ins,e.key=q.2.1∧Rep (ITP P) X (E[q.2.2]?.getD (.raw undef)) e.val)→
   Code.roundsIn F nn P (.seq (.region id3 #[nx,ex] false) (.seq (.cond (.tmp d70) .skip (.exit id2)) (.block id4 (.seq (.region id5 ops5 false) rest)))) (Exit.inBlock id2 fun e a' w'=>e= .normal∧ ∃X',X'.w=w'∧Now (ITP P) none F B X0 S' σL X' a') (n+1) a X.w:=by
   intro n
   induction n using Nat.strongRecOn with
   |_ n ih=>
   intro seen c0 X a hle hc hn hm hr hes
   rw[roundsIn_succ]
   refine wpIn_seq (wpIn_region_list ?_)
   show wpListIn F nn P #[nx,ex] _ [nx,ex] a X.w
   have hszl:=hsz hn
   rw[hl] at hszl
   have eit:a.eval (.tmp it)= .pointer (some ⟨r,0,none⟩):=by
    have:=zdh hn.reps (.tmp it)
    rw[show zcc (SL r) (.tmp it)= .raw (.pointer (some ⟨r,0,none⟩)) by simp[zcc,hgt r],Rep] at this
    exact this
   have ex_run: ∀(a1:Act) (w1:World) (t:Array Value) (b:Bool),a1.eval (.tmp d69)= .tuple t→t[0]? =some (.bool b)→(execOp a1.eval ex).run P w1= .ok (.value (.bool b)) w1:=fun a1 w1 t b h1 h2=>by
    simp[execOp,hex.1,h1,Instr.extract,h2]
   have put2: ∀ {X:Cx} {a:Act} (u v:Value),Now (ITP P) none F B X0 (SL r) σL X a→Now (ITP P) none F B X0 (SL r) σL X ((a.put nx.dst u).put ex.dst v):=fun {X a} u v hn=>by
    have n1:=zcg (P:=P) hG hIT hn (Ext.refl X) hn.inv ⟨rfl,rfl⟩ nx.dst (x:= .top) (v:=u) (by rw[Rep];trivial)
    rw[hnx.2.1] at n1
    rw[show zy (SL r) (some d69) .top=SL r from h69 r] at n1
    have n2:=zcg (P:=P) hG hIT n1 (Ext.refl X) n1.inv ⟨rfl,rfl⟩ ex.dst (x:= .top) (v:=v) (by rw[Rep];trivial)
    rw[hex.2.1] at n2
    rw[show zy (SL r) (some d70) .top=SL r from h70 r] at n2
    rw[hnx.2.1,hex.2.1];exact n2
   have ev69: ∀u:Value,(a.put nx.dst u).eval (.tmp d69)=u:=fun u=>by
    rw[hnx.2.1]
    have hl:d69<a.tmps.size:=by omega
    simp[Act.put,Act.eval,hl]
   have ev70: ∀u v:Value,((a.put nx.dst u).put ex.dst v).eval (.tmp d70)=v:=fun u v=>by
    rw[hex.2.1,hnx.2.1]
    have hl:d70<a.tmps.size:=by omega
    simp[Act.put,Act.eval,hl]
   rcases run_next_at (P:=P) X.w nx.type r m c c0 seen es c hr hm k4.born hc with⟨h0,hrun⟩|⟨e,he,w1,hw1,hrun⟩
   ·refine z0m hF hnx.2.2 (by intro c hc;rw[hnx.1] at hc;cases hc) (v:= .tuple #[.bool false]) (w':=X.w) (by simp[execOp,hnx.1,eit,hrun]) ?_
    refine z0m hF hex.2.2 (by intro c hc;rw[hex.1] at hc;cases hc) (ex_run _ X.w _ false (ev69 _) rfl) ?_
    show(Code.seq _ _).wpIn F nn P _ _ _
    refine wpIn_seq (wpIn_cond_false (ev70 _ _) (wpIn_exit ?_))
    have n2:=put2 (.tuple #[.bool false]) (.bool false) hn
    have:(if id2=id2 then Exit.normal else Exit.exit id2)=Exit.normal:=if_pos rfl
    simp only[Exit.then,Exit.inBlock,this]
    first
     |exact⟨rfl,X,rfl,{n2 with reps:=zgu (hS' r) n2.reps}⟩
     |(simp;exact⟨X,rfl,{n2 with reps:=zgu (hS' r) n2.reps}⟩)
   ·have hne0: ∃n',n=n'+1:=by
     cases n with
     | zero=>
      have h1:=List.length_pos_of_mem he
      simp at h1;omega
     |succ n'=>exact⟨n',rfl⟩
    obtain⟨n',rfl⟩:=hne0
    have n0:Now (ITP P) none F B X0 (SL r) σL {X with w:=w1} a∧w1.heap=X.w.heap∧Ext X {X with w:=w1}:=by
     rcases hw1 with rfl|rfl
     ·exact⟨hn,rfl,Ext.refl X⟩
     ·obtain⟨hEx,hI⟩:=zjn hIT hn.inv
      exact⟨⟨Ext.trans hn.ext hEx,hI,zaw hIT hEx _ _ hn.reps,hn.marks.ext hEx hn.inv,trivial⟩,rfl,hEx⟩
    obtain⟨n0,hw,hE1⟩:=n0
    have hr1:w1.heap[r]? =some (.mapIter (some m) c seen c0):=by rw[hw];exact hr
    have hsd:=z5y (.mapIter (some m) c (seen.push e.born) c) hr1 rfl (fun _ h=>by cases h)
    have n1:=zrb hIT r1 n0 hsd
    have hmr:m≠r:=fun e=>by rw[e,hr] at hm;cases hm
    have hm2:(setBlock w1 r (.mapIter (some m) c (seen.push e.born) c)).heap[m]? =some (.map es c):=(hsd.same m (by rw[hw];exact(Array.getElem?_eq_some_iff.1 hm).1) hmr).trans (by rw[hw];exact hm)
    have hrl:r<w1.heap.size:=(Array.getElem?_eq_some_iff.1 hr1).1
    have hr2:(setBlock w1 r (.mapIter (some m) c (seen.push e.born) c)).heap[r]? =some (.mapIter (some m) c (seen.push e.born) c):=by simp[setBlock,hrl]
    obtain⟨he1,he2⟩:=mem_left he
    obtain⟨q,hq,hkey,hval⟩:=hes e he1
    refine z0m hF hnx.2.2 (by intro c hc;rw[hnx.1] at hc;cases hc) (v:= .tuple #[.bool true,e.key,e.val]) (w':=setBlock w1 r (.mapIter (some m) c (seen.push e.born) c)) (by simp[execOp,hnx.1,eit,hrun]) ?_
    refine z0m hF hex.2.2 (by intro c hc;rw[hex.1] at hc;cases hc) (ex_run _ _ _ true (ev69 _) rfl) ?_
    show(Code.seq _ _).wpIn F nn P _ _ _
    refine wpIn_seq (wpIn_cond_true (ev70 _ _) (wpIn_skip ?_))
    have n2:=put2 (.tuple #[.bool true,e.key,e.val]) (.bool true) n1
    obtain⟨a2,ha2⟩: ∃a2,a2=(a.put nx.dst (.tuple #[.bool true,e.key,e.val])).put ex.dst (.bool true):=⟨_,rfl⟩
    rw[←ha2] at n2
    rw[←ha2]
    obtain⟨X2,hX2⟩: ∃X2:Cx,X2={X with w:=setBlock w1 r (.mapIter (some m) c (seen.push e.born) c)}:=⟨_,rfl⟩
    have hsub:Sub X X2:=by rw[hX2];exact Sub.trans hE1.toSub (zwa n0.inv hsd)
    have n2':Now (ITP P) none F B X0 (SL r) σL X2 a2:=by rw[hX2];exact n2
    show(Code.block id4 _).wpIn F nn P _ a2 (setBlock w1 r (.mapIter (some m) c (seen.push e.born) c))
    rw[show setBlock w1 r (.mapIter (some m) c (seen.push e.born) c)=X2.w by rw[hX2]]
    rw[show setBlock w1 r (.mapIter (some m) c (seen.push e.born) c)=X2.w by rw[hX2]] at hm2 hr2
    refine wpIn_block (wpIn_seq (wpIn_region_list ?_))
    rw[h5]
    have eit2:a2.eval (.tmp it)= .pointer (some ⟨r,0,none⟩):=by
     have:=zdh n2'.reps (.tmp it)
     rw[show zcc (SL r) (.tmp it)= .raw (.pointer (some ⟨r,0,none⟩)) by simp[zcc,hgt r],Rep] at this
     exact this
    refine z0m hF hen.2.2 (by intro c hc;rw[hen.1] at hc;cases hc) (v:= .tuple #[e.key,e.val]) (w':=X2.w) (by simp[execOp,hen.1,eit2,run_entry_at X2.w r m c seen es c e hr2 hm2 he1 k4.nd]) ?_
    have rq:Rep (ITP P) X2 (.tup [.raw q.2.1,E[q.2.2]?.getD (.raw undef)]) (.tuple #[e.key,e.val]):=by
     rw[Rep]
     refine⟨[e.key,e.val],rfl,e.key,[e.val],rfl,?_,e.val,[],rfl,zht hIT hsub _ _ hval,rfl⟩
     rw[Rep];exact hkey
    have n3:=zcg (P:=P) hG hIT n2' (Ext.refl X2) n2'.inv ⟨rfl,rfl⟩ en.dst rq
    rw[hen.2.1] at n3
    have n4:=n3.from
    have hκ:X2.κ.length≤σL.boxes.length:=by rw[n2'.inv.κlen];exact Nat.le_refl _
    have hB2:B≤X2.w.heap.size:=Nat.le_trans hI0.1 (Ext.size n2'.ext)
    rw[hen.2.1]
    refine zfg (M:=none) hIT hF hG (X0:=X2) (Q:=fun S2 σ2=>awp (ITP P) P none σL.boxes.length rest (fun e S3 σ3=>e= .normal∧Wk σL.boxes.length S3 σ3 (SL r) σL) S2 σ2) ?_ l5 _ _ _ _ (hbody r q hq) n4
    intro S2 σ2 X3 a3 hawp n5
    refine ztt hmix rest (M:=none) hG hF σL.boxes.length _ S2 σ2 X2 X3 a3 _ hκ ⟨hB2,_,n2'.inv⟩ hawp n5 (.inr hnr) ?_
    rintro e3 S3 σ3 X4 a4 ⟨rfl,hwk⟩ n6
    obtain⟨X5,hw5,n7⟩:=z0w hIT hκ hwk n6
    show Code.roundsIn F nn P _ _ (n'+1) a4 X4.w
    rw[←hw5]
    have hE5:Ext X2 X5:=n7.ext
    refine ih n' (by omega) (seen.push e.born) c X5 a4 (by have:=left_shrinks es seen e he;omega) (Nat.le_refl _) (n2'.back n7) (hE5.noncells n2'.inv hm2 rfl) (hE5.noncells n2'.inv hr2 rfl) fun e' he'=> ?_
    obtain⟨q',hq',y1,y2⟩:=hes e' he'
    exact⟨q',hq',y1,zep hIT hE5 _ _ (zht hIT hsub _ _ y2)⟩
  have hszE:=hsz hn
  have hn':Now (ITP P) none F B X0 (SL r) σL X a:=by
   have rp:zmb (ITP P) X (E.set it (.raw (.pointer (some ⟨r,0,none⟩)))) a.tmps:=by
    have:=znl (IT:=ITP P) (X:=X) hn.reps (some it) (x:= .raw (.pointer (some ⟨r,0,none⟩))) (v:= .pointer (some ⟨r,0,none⟩)) (by rw[Rep])
    rw[qhb r3 (by rw[hszE];exact hne.2.2.2.2.1)] at this
    exact this
   exact {hn with reps:=zgu (by rw[←hSL r];exact znt ms _) rp}
  refine key _ #[] c X a (Nat.le_refl _) (Nat.le_refl _) hn' k2 r2 fun e he=> ?_
  obtain⟨q,hq,q1,q2,q3⟩:=k4.of e he
  exact⟨q,hq,q2,by rw[q3];exact zdh hn.reps (.tmp q.2.2)⟩
 obtain⟨hll,hat⟩:=zwy _ _ _ (hall (nn:=nn) (B:=B) (K:=Exit.then (fun a w=>(Code.block id2 (.loop (.seq (.region id3 #[nx,ex] false) (.seq (.cond (.tmp d70) .skip (.exit id2)) (.block id4 (.seq (.region id5 ops5 false) rest)))))).wpIn F nn P (fun e a' w'=>e= .normal∧ ∃X',X'.w=w'∧Now (ITP P) none F B X0 S' σL X' a') a w) (fun e a' w'=>e= .normal∧ ∃X',X'.w=w'∧Now (ITP P) none F B X0 S' σL X' a')) (X0:=X0) hF)
 refine qae hIT hF hmix (MpOk ops Mi X0.w.heap.size) hE hll hfl.1 hfl.2 hσ (z5f hb) hn (fun i o x ho hx=> ?_) fun X a hn hΦ=>KK X a (hσ'▸hn) hΦ
 have:=hat i o x (by rw[←ho,Array.getElem?_toList]) hx (by rw[Nat.zero_add];exact ho)
 rw[Nat.zero_add] at this
 exact this
end Go.Ab
