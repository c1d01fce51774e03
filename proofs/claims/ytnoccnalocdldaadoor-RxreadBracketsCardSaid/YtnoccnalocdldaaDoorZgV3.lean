import Derived.Test.YtnoccnalocdldaaDoorZgV1
import Derived.Test.YtnoccnalocdldaaDoorZgSx
set_option linter.all false
set_option maxRecDepth 100000
set_option maxHeartbeats 4000000
set_option maxRecDepth 100000
set_option maxHeartbeats 4000000
namespace Go.Ab
open Go Go.RowKit Go.Fwd Go.Proofs
def q2 {α:Type} (f:Tr→Tr→α)(n:Nat)(x y:Tr):Option α:=if(pre x).length<n∧(pre y).length<n then some (f x y) else none
def z7u:Nat→Tr→Tr→Option Bool:=q2 zfq
theorem q_some {α:Type} {f:Tr→Tr→α} {n:Nat} {x y:Tr} {z:α} (h:q2 f n x y=some z):((pre x).length<n∧(pre y).length<n)∧z=f x y:=by
 unfold q2 at h
 split at h
 ·rename_i h1;exact⟨h1,(Option.some.inj h).symm⟩
 ·cases h
def zyb (t:Tr):Option Bool:=
 (zdr (τ:=Int) (chk ((pre t).length<2^61) (zbi (pre t) (fun x1=>(zdr (zek (β:=Int) (fun s1 w1=>(chk (-9223372036854775808≤(s1+1)∧(s1+1)<9223372036854775808) (bif (decide ((s1+1)>10000)) then(some (Sum.inr (Sum.inl ((s1+1))))) else(some (Sum.inl ((s1+1))))))) x1 (0)) (fun s1=>(some (Sum.inl (s1)))))))) (fun j1=>(some (decide (j1≤10000)))))
theorem ent62:Ent Tryd.prog 62:=enters_of Tryd.func62 (by kernel_rfl) rfl
theorem qft (t:Tr)(r:Bool)(h:zyb t=some r):Pure (ITP Tryd.prog) Tryd.prog 62 [.A (t:Tr)] (.raw (.bool r)):=by
 unfold zyb at h
 refine zby 12 mix Tryd.func62 ent62 ?_
 refine zi (zc ?_)
 refine zcb (a:= .ptr 0 0) (σ'':=(.B [(33,(Enc.cells (t:Tr)))])) ?_
 refine w_o (a:= .b false) ?_
 refine qdk ?_
 refine zi (zc ?_)
 refine zcb (a:= .ptr 1 0) (σ'':=(.B [(33,(Enc.cells (t:Tr))),(3,[.i 0])])) ?_
 refine zco 1 (.B [(33,(Enc.cells (t:Tr))),(3,[.i 0])]) ?_
 refine zi ?_
 refine qad ?_
 refine zbh h (bz 0 13 8183) (fun j1=>[]) (fun j1=>(.B [(33,(Enc.cells (t:Tr))),(3,[.i j1])])) ?_ ?_
 intro or1 h hr1
 refine zx [.v (.A (t:Tr))] ?_
 obtain⟨g1,h⟩:=zp h
 obtain⟨x1,hx1,h⟩:=zt h
 refine zdb (args':=[.A (t:Tr)]) (r:= .iter (List.map zmr x1)) (by rw[←hx1];exact(zya t g1)) ?_
 refine zag ?_
 refine zlt h zmr (fun s1=>(.B [(33,(Enc.cells (t:Tr))),(3,[.i s1])])) rfl (fun _=>rfl) rfl rfl ?_ ?_
 intro s1 w1 p1 h
 refine zbj (by dsimp only[zlh,List.zip,List.zipWith,List.foldl,List.set,Array.toList,zmr]) rfl ?_
 refine zag ?_
 refine zx [.v (.i s1)] ?_
 obtain⟨g2,h⟩:=zp h
 refine zio g2 ?_
 refine zco 1 (.B [(33,(Enc.cells (t:Tr))),(3,[.i (s1+1)])]) ?_
 refine zx [.v (.i (s1+1)),.v (.b (decide ((s1+1)>10000)))] ?_
 refine zcd h (fun hc1 h=> ?_) (fun hc1 h=> ?_)
 refine zaj h (fun h=>⟨(zcw (zav (zal _ _ (Enc.clo _)) (zav (by kernel_rfl) rfl))),?_⟩)
 refine zg (o:=or1) ((s1+1)) h ?_
 exact zcs (bl 13 8)
 exact zfi (p:=p1) ((s1+1)) h (zcw (zav (zal _ _ (Enc.clo _)) (zav (by kernel_rfl) rfl))) (by kernel_rfl)
 intro s1 h
 refine zg (o:=or1) (s1) h ?_
 exact zcs (bl 13 8)
 intro j1 h
 refine zet ?_
 refine zx [.v (.i j1),.v (.b (decide (j1≤10000))),.m _] ?_
 exact zbe h
def zxr (fuel:Nat)(n:Nat)(a:Tr)(b:Tr):Option Bool:=
 (bif (((a.k:Nat):Int)==((b.k:Nat):Int)) then(bif (decide (a.s=b.s)) then(bif (a.mn==b.mn) then(bif (a.mx==b.mx) then(zar (z3v fuel (z7u n) a.l b.l) (fun x1=>(some x1))) else(some false)) else(some false)) else(some false)) else(some false))
theorem ent80:Ent Tryd.prog 80:=enters_of Tryd.func80 (by kernel_rfl) rfl
theorem qfj (fuel:Nat)(n:Nat)(a:Tr)(b:Tr)(r:Bool)(ih: ∀x y:Tr,(pre x).length<n∧(pre y).length<n→Pure (ITP Tryd.prog) Tryd.prog 80 [.A x,.A y] (.raw (.bool (zfq x y))))(h:zxr fuel n a b=some r):Pure (ITP Tryd.prog) Tryd.prog 80 [.A (a:Tr),.A (b:Tr)] (.raw (.bool r)):=by
 unfold zxr at h
 refine zby 36 mix Tryd.func80 ent80 ?_
 refine zi (zc ?_)
 refine zcb (a:= .ptr 0 0) (σ'':=(.B [(33,(Enc.cells (a:Tr)))])) ?_
 refine zcb (a:= .ptr 1 0) (σ'':=(.B [(33,(Enc.cells (a:Tr))),(33,(Enc.cells (b:Tr)))])) ?_
 refine w_o (a:= .b false) ?_
 refine zx [.v (.ptr 0 0),.v (.u ((a.k:Nat):Int)),.v (.ptr 1 0),.v (.u ((b.k:Nat):Int)),.v (.b (((a.k:Nat):Int)==((b.k:Nat):Int)))] ?_
 refine zaa h (fun hc1 h=> ?_) (fun hc1 h=> ?_)
 refine zak hc1 ?_
 refine w_r [.v (.ptr 0 1),.v (.A (a.s:BS)),.v (.ptr 1 1),.v (.A (b.s:BS))] ?_
 refine zan rfl rfl ?_
 refine zua (.b (decide (a.s=b.s))) rfl rfl rfl (zni a.s b.s rfl rfl rfl) (by dsimp only[zy,List.set]) ?_
 refine w_o (a:= .b (decide (a.s=b.s))) ?_
 refine zaa h (fun hc2 h=> ?_) (fun hc2 h=> ?_)
 refine zak hc2 ?_
 refine w_r [.v (.ptr 0 5),.v (.i a.mn),.v (.ptr 1 5),.v (.i b.mn),.v (.b (a.mn==b.mn))] ?_
 refine w_r [.v (.b (a.mn==b.mn))] ?_
 refine zaa h (fun hc3 h=> ?_) (fun hc3 h=> ?_)
 refine zak hc3 ?_
 refine w_r [.v (.ptr 0 6),.v (.i a.mx),.v (.ptr 1 6),.v (.i b.mx),.v (.b (a.mx==b.mx))] ?_
 refine w_r [.v (.b (a.mx==b.mx))] ?_
 refine zaa h (fun hc4 h=> ?_) (fun hc4 h=> ?_)
 refine zak hc4 ?_
 refine w_r [.v (.ptr 0 7),.v (.L (a.l:List Tr)),.v (.ptr 1 7),.v (.L (b.l:List Tr))] ?_
 refine zan rfl rfl ?_
 obtain⟨x1,hx1,h⟩:=zv h
 refine zct (args':=[.L (a.l:List Tr),.L (b.l:List Tr),.clos 80 []]) (r:= .b x1) (eqf_sh fuel (z7u n) a.l b.l x1 80 (fun x y z h=>by obtain⟨h1,rfl⟩:=q_some h;exact ih x y h1) hx1) rfl rfl (zh (zjw (Enc.cloL _)) (zh (zjw (Enc.cloL _)) (zh (show AV.clos _ (stripL _)=_ from congrArg (AV.clos _) rfl) rfl))) (za (zcl (Enc.cloL _)) (za (zcl (Enc.cloL _)) (za (show zad _ _=true from rfl) rfl))) (by dsimp only[zy,List.set]) ?_
 refine w_r [.v (.b x1),.m _] ?_
 exact zbe h
 refine zak hc4 ?_
 refine w_r [.p,.p,.p,.p,.p] ?_
 refine w_r [.v (.b false),.m _] ?_
 exact zbe h
 refine zak hc3 ?_
 refine w_r [.p,.p,.p,.p,.p] ?_
 refine w_r [.v (.b false),.m _,.p,.p,.p] ?_
 refine w_r [.p,.p,.v (.b false),.m _] ?_
 exact zbe h
 refine zak hc2 ?_
 refine w_r [.p,.p,.p,.p,.p] ?_
 refine w_r [.v (.b false),.m _,.p,.p,.p] ?_
 refine w_r [.p,.p,.v (.b false),.m _,.p] ?_
 refine w_r [.p,.p,.p,.p,.v (.b false)] ?_
 refine w_r [.m _] ?_
 exact zbe h
 refine zak hc1 ?_
 refine w_r [.p,.p,.p,.p,.p] ?_
 refine w_r [.v (.b false),.m _,.p,.p,.p] ?_
 refine w_r [.p,.p,.v (.b false),.m _,.p] ?_
 refine w_r [.p,.p,.p,.p,.v (.b false)] ?_
 refine w_r [.m _,.p,.p,.p,.p] ?_
 refine w_r [.p,.v (.b false),.m _] ?_
 exact zbe h
theorem z6l {ρ:Type} (M:Nat)(Z T:Int)(hZ:Z=M)(hT:T=M+1)(lo hi:Int)(hlo:lo≤0)(hhi:(M:Int)+1<hi)(l:List Tr): ∀(s:Nat),s≤M→zek (β:=Int) (ρ:=Int ⊕ ρ) (fun s1 w1=>(chk (lo≤(s1+1)∧(s1+1)<hi) (bif (decide ((s1+1)>Z)) then(some (Sum.inr (Sum.inl ((s1+1))))) else(some (Sum.inl ((s1+1))))))) l (s:Int)=if s+l.length≤M then some (.inl ((s+l.length:Nat):Int)) else some (.inr (.inl T)):=by
 induction l with
 |nil=>intro s h;rw[if_pos (by simpa using h)];rfl
 | cons x l ih=>
  intro s h
  have hb:(chk (lo≤((s:Int)+1)∧((s:Int)+1)<hi) (bif (decide (((s:Int)+1)>Z)) then(some (Sum.inr (Sum.inl (((s:Int)+1))))) else(some (Sum.inl (((s:Int)+1))))):Option (Int ⊕ (Int ⊕ ρ)))=if s+1≤M then some (.inl ((s+1:Nat):Int)) else some (.inr (.inl T)):=by
   refine zae (by omega) ?_
   by_cases h1:s+1≤M
   ·rw[if_pos h1,show decide ((s:Int)+1>Z)=false by simp;omega];rfl
   ·rw[if_neg h1,show decide ((s:Int)+1>Z)=true by simp;omega,show((s:Int)+1)=T by omega];rfl
  simp only[zek,hb]
  rw[List.length_cons]
  by_cases h1:s+1≤M
  ·simp only[if_pos h1]
   rw[ih (s+1) h1]
   simp only[show s+1+l.length=s+(l.length+1) by omega]
  ·simp only[if_neg h1];rw[if_neg (by omega)]
theorem qes (t:Tr)(h:(pre t).length<2^61):zyb t=some (zgk t):=by
 unfold zyb
 rw[zem h,zbi,show(0:Int)=((0:Nat):Int) from rfl,z6l 10000 10000 10001 (by omega) (by omega) _ _ (by omega) (by omega) (pre t) 0 (by omega)]
 unfold zgk
 by_cases h1:(pre t).length≤10000
 ·rw[if_pos (by omega)]
  show some _=some _
  congr 1
  rw[Bool.eq_iff_iff];simp;omega
 ·rw[if_neg (by omega)]
  show some _=some _
  congr 1
  rw[Bool.eq_iff_iff];simp;omega
theorem zwf (t:Tr)(h:(pre t).length<2^61):Pure (ITP Tryd.prog) Tryd.prog 62 [.agg (Enc.cells t)] (.raw (.bool (zgk t))):=qft t _ (qes t h)
theorem qer (n:Nat)(a b:List Tr)(hab:a.length=b.length)(hl:a.length<2^60)(ha: ∀x∈a,(pre x).length<n)(hb: ∀x∈b,(pre x).length<n)(m:Nat)(hm:a.length<m):z3v m (z7u n) a b=some (zka a b):=by
 unfold z3v
 refine zfy (by rw[hab];simp) ?_
 refine loopC_i a.length (fun i=>(i:Int)) (fun i=>some (zka (a.drop i) (b.drop i))) hm fun i hi=> ?_
 by_cases h:i<a.length
 ·have h2:i<b.length:=by omega
  have ea:a.drop i=a[i]::a.drop (i+1):=List.drop_eq_getElem_cons h
  have eb:b.drop i=b[i]::b.drop (i+1):=List.drop_eq_getElem_cons h2
  have hA:=ha a[i] (List.getElem_mem h)
  have hB:=hb b[i] (List.getElem_mem h2)
  cases h0:zfq a[i] b[i] with
  | true=>
   refine .inl ⟨h,?_,by simp only[ea,eb,zka,h0,Bool.true_and]⟩
   refine zgp (by simpa using h) (zae ⟨by omega,by omega⟩ (zap fun x1 e1=>zae ⟨by omega,by omega⟩ (zap fun x2 e2=> ?_)))
   rw[zzp h] at e1
   rw[zzp h2] at e2
   subst e1 e2
   refine zbq true (by unfold z7u q2;rw[if_pos ⟨hA,hB⟩,h0]) (zfy rfl (zae (by omega) ?_))
   simp
  | false=>
   refine .inr ⟨.inr false,?_,by simp only[ea,eb,zka,h0];rfl⟩
   refine zgp (by simpa using h) (zae ⟨by omega,by omega⟩ (zap fun x1 e1=>zae ⟨by omega,by omega⟩ (zap fun x2 e2=> ?_)))
   rw[zzp h] at e1
   rw[zzp h2] at e2
   subst e1 e2
   exact zbq false (by unfold z7u q2;rw[if_pos ⟨hA,hB⟩,h0]) (zgp rfl rfl)
 ·refine .inr ⟨.inl (),zfy (by simp;omega) rfl,?_⟩
  rw[List.drop_of_length_le (by omega),List.drop_of_length_le (by omega)]
  rfl
theorem z5b: ∀(a b:List Tr),a.length≠b.length→zka a b=false
 |[],[],h=>absurd rfl h
 |[],_::_,_=>rfl
 |_::_,[],_=>rfl
 |x::a,y::b,h=>by rw[zka,z5b a b (by simpa using h),Bool.and_false]
theorem qfz (n:Nat)(a b:List Tr)(hl:a.length<2^60)(ha: ∀x∈a,(pre x).length<n)(hb: ∀x∈b,(pre x).length<n)(m:Nat)(hm:a.length<m):z3v m (z7u n) a b=some (zka a b):=by
 by_cases hab:a.length=b.length
 ·exact qer n a b hab hl ha hb m hm
 ·unfold z3v
  rw[z5b a b hab]
  exact zgp (by simp;omega) rfl
theorem qie (n:Nat)(a b:Tr)(ha:(pre a).length<n+1)(hb:(pre b).length<n+1)(hn:n<2^60):zxr (n+1) n a b=some (zfq a b):=by
 obtain⟨k,s,mn,mx,l⟩:=a
 obtain⟨k',s',mn',mx',l'⟩:=b
 have sub: ∀(k:Nat) (s:BS) (mn mx:Int) (l:List Tr),(pre (Tr.mk k s mn mx l)).length<n+1→(∀x∈l,(pre x).length<n)∧l.length<n+1:=fun k s mn mx l h=>by
  rw[pre,List.length_cons] at h
  exact⟨fun x hx=>by have:=zfc hx;omega,by have:=zci l;omega⟩
 obtain⟨a1,a2⟩:=sub _ _ _ _ _ ha
 obtain⟨b1,b2⟩:=sub _ _ _ _ _ hb
 have hf:=qfz n l l' (by omega) a1 b1 (n+1) (by omega)
 unfold zxr
 simp only[Tr.k,Tr.s,Tr.mn,Tr.mx,Tr.l,hf,bindE_some,zfq]
 by_cases hs:s=s'<;>cases (k:Int)==k'<;>cases mn==mn'<;>cases mx==mx'<;>simp[hs]
theorem z4c: ∀(n:Nat),n<2^60+1→ ∀a b:Tr,(pre a).length<n∧(pre b).length<n→Pure (ITP Tryd.prog) Tryd.prog 80 [.agg (Enc.cells a),.agg (Enc.cells b)] (.raw (.bool (zfq a b)))
 |0,_=>fun a b h=>by omega
 |n+1,hn=>fun a b h=>qfj (n+1) n a b _ (fun x y hxy=>z4c n (by omega) x y hxy) (qie n a b h.1 h.2 (by omega))
theorem k_sameT (a b:Tr)(h:(pre a).length<2^60∧(pre b).length<2^60):Pure (ITP Tryd.prog) Tryd.prog 80 [.agg (Enc.cells a),.agg (Enc.cells b)] (.raw (.bool (zfq a b))):=z4c (2^60) (by decide) a b h
theorem ent98:Ent Tryd.prog 98:=enters_of Tryd.func98 (by kernel_rfl) rfl
theorem z2r (l:List Tr)(hl:List.isEmpty l=true):Snd (ITP Tryd.prog) Tryd.prog 98 [.list (List.length l) (Enc.cellsL l) .none] St.empty (.list 0 [] .full) ⟨[],[],[],0,false⟩:=by
 obtain rfl:l=[]:=List.isEmpty_iff.1 hl
 obtain⟨d,hd⟩: ∃d,Tryd.f98.body=some d:=⟨_,rfl⟩
 refine z9z mix Tryd.func98 hd ent98 ?_
 cases hd
 refine zbj (by dsimp only[zat,Tryd.f98,List.length_cons,List.length_nil,Nat.zero_add,Nat.reduceAdd,Nat.reduceSub,List.replicate,List.cons_append,List.nil_append]) (by dsimp only[St.empty]) ?_
 refine zi (zc ?_)
 refine zhw (a:= .list 0 [] .full) rfl rfl rfl rfl (by dsimp only[zy,List.set]) ?_
 refine zi ?_
 refine zi (zc ?_)
 refine zhw (a:= .list 0 [] .none) rfl rfl rfl rfl (by dsimp only[zy,List.set]) ?_
 refine w_nil 0 false rfl rfl rfl ⟨_,_,_,_,_,rfl,.inl ⟨rfl,rfl⟩,rfl,.inl ⟨_,_,rfl⟩⟩ (by dsimp only[zy,List.set]) (by dsimp only[zy,List.set]) (fun h1=> ?_) ?_
 ·refine zbf rfl ?_
  refine zi (zc ?_)
  refine zhw (a:= .list 0 [] .full) rfl rfl rfl rfl (by dsimp only[zy,List.set]) ?_
  exact zwm (n:=0) (m:=0) [] [] 1 rfl rfl rfl rfl
 ·refine zax rfl ?_
  refine zi (zc ?_)
  refine zhw (a:= .list 0 [] .full) rfl rfl rfl rfl (by dsimp only[zy,List.set]) ?_
  refine zhw (a:= .list 0 [] .none) rfl rfl rfl rfl (by dsimp only[zy,List.set]) ?_
  refine zhw (a:= .list 0 [] .full) rfl rfl rfl rfl (by dsimp only[zy,List.set]) ?_
  refine zhw (a:= .list 0 [] .full) rfl rfl rfl rfl (by dsimp only[zy,List.set]) ?_
  exact zwm (n:=0) (m:=0) [] [] 1 rfl rfl rfl rfl
theorem zzy (l:List Tr)(g:List.length l*80≤140737488355328)(hl:List.isEmpty l=false):Snd (ITP Tryd.prog) Tryd.prog 98 [.list (List.length l) (Enc.cellsL l) .none] St.empty (.bsl 0 0 (List.length l) 8 false) ⟨[(33,Enc.cellsL l)],[],[],0,false⟩:=by
 have h0:l≠[]:=fun e=>by rw[e] at hl;cases hl
 have hp:=List.length_pos_iff.2 h0
 obtain⟨d,hd⟩: ∃d,Tryd.f98.body=some d:=⟨_,rfl⟩
 refine z9z mix Tryd.func98 hd ent98 ?_
 cases hd
 refine zbj (by dsimp only[zat,Tryd.f98,List.length_cons,List.length_nil,Nat.zero_add,Nat.reduceAdd,Nat.reduceSub,List.replicate,List.cons_append,List.nil_append]) (by dsimp only[St.empty]) ?_
 refine zi (zc ?_)
 refine zhw (a:= .list 0 [] .full) rfl rfl rfl rfl (by dsimp only[zy,List.set]) ?_
 refine zi ?_
 refine zi (zc ?_)
 refine zhw (a:= .list l.length (Enc.cellsL l) .none) rfl rfl rfl rfl (by dsimp only[zy,List.set]) ?_
 refine w_nil l.length false rfl rfl rfl ⟨_,_,_,_,_,rfl,.inl ⟨rfl,rfl⟩,rfl,.inl ⟨_,_,rfl⟩⟩ (by dsimp only[zy,List.set]) (by dsimp only[zy,List.set]) (fun h1=> ?_) ?_
 ·omega
 ·refine zax rfl ?_
  refine zi (zc ?_)
  refine zhw (a:= .list 0 [] .full) rfl rfl rfl rfl (by dsimp only[zy,List.set]) ?_
  refine zhw (a:= .list l.length (Enc.cellsL l) .none) rfl rfl rfl rfl (by dsimp only[zy,List.set]) ?_
  refine z8k rfl rfl rfl (z5v rfl rfl rfl rfl rfl rfl rfl rfl rfl (zto ⟨rfl,Enc.lenL l,by decide⟩) ⟨by decide,rfl,hp⟩ ⟨rfl,by unfold maxLen;omega,by show(0+l.length)*80≤_;omega⟩) (by dsimp only[zy,List.set]) rfl ?_
  refine zhw rfl rfl rfl rfl (by dsimp only[zy,List.set,zcc,List.getElem?_cons_zero,List.getElem?_cons_succ,Option.getD]) ?_
  refine zwm (n:=0) (m:=0) [] [0] 1 rfl rfl ?_ ?_
  ·rw[Nat.zero_add];rfl
  ·exact zwt (zj (cs:=Enc.cellsL l) rfl (zau _ _ _ (Enc.cloL _)) zao) rfl
theorem z6p (l:List Tr)(hl:List.isEmpty l=true)(σ:St):Snd (ITP Tryd.prog) Tryd.prog 98 [.list (List.length l) (Enc.cellsL l) .none] σ (.list 0 [] .full) σ:=by
 have h:=z6f (zn _) (z2r l hl) (args:=[.list l.length (Enc.cellsL l) .none]) (by rw[stripL,zcv,Enc.stripL];rfl) (by rw[zad,zbp,zal _ _ (Enc.cloL l)];rfl) σ
 simpa[zhc,zaf,qba,shz,zgv] using h
theorem z3i (l:List Tr)(g:List.length l*80≤140737488355328)(hl:List.isEmpty l=false)(n:Nat)(σ:St)(hσ:σ.boxes.length=n):Snd (ITP Tryd.prog) Tryd.prog 98 [.list (List.length l) (Enc.cellsL l) .none] σ (.bsl n 0 (List.length l) 8 false) {σ with boxes:=σ.boxes++[(33,Enc.cellsL l)]}:=by
 subst hσ
 have h:=z6f (zn _) (zzy l g hl) (args:=[.list l.length (Enc.cellsL l) .none]) (by rw[stripL,zcv,Enc.stripL];rfl) (by rw[zad,zbp,zal _ _ (Enc.cloL l)];rfl) σ
 simpa[zhc,zaf,qba,shz,zgv,zau _ _ _ (Enc.cloL l)] using h
end Go.Ab
set_option maxRecDepth 100000
set_option maxHeartbeats 4000000
namespace Go.Ab
open Go Go.RowKit Go.Fwd Go.Proofs
def zwl (t:Tr):Option Bool:=
 (chk ((pre t).length<2^61) (zbi (zgk t) (fun x1=>(bif (!x1) then(some false) else(zdr (τ:=Unit) (chk ((pre t).length<2^61) (zbi (pre t) (fun x2=>(zdr (zek (β:=Unit) (fun s1 w1=>(chk ((pre w1).length<2^61) (zbi (zeu w1) (fun x3=>(bif (!x3) then(some (Sum.inr (Sum.inr false))) else(some (Sum.inl ()))))))) x2 ()) (fun s1=>(some (Sum.inl ()))))))) (fun j1=>(some true)))))))
theorem ent41:Ent Tryd.prog 41:=enters_of Tryd.func41 (by kernel_rfl) rfl
theorem qih (t:Tr)(r:Bool)(h:zwl t=some r):Pure (ITP Tryd.prog) Tryd.prog 41 [.A (t:Tr)] (.raw (.bool r)):=by
 unfold zwl at h
 refine zby 12 mix Tryd.func41 ent41 ?_
 refine zi (zc ?_)
 refine zcb (a:= .ptr 0 0) (σ'':=(.B [(33,(Enc.cells (t:Tr)))])) ?_
 refine zcb (a:= .ptr 1 0) (σ'':=(.B [(33,(Enc.cells (t:Tr))),(4,[.b false])])) ?_
 refine zi ?_
 refine zx [.v (.A (t:Tr))] ?_
 obtain⟨g1,h⟩:=zp h
 obtain⟨x1,hx1,h⟩:=zt h
 refine zdb (args':=[.A (t:Tr)]) (r:= .b x1) (by rw[←hx1];exact(zwf t g1)) ?_
 refine w_o (a:= .b (!x1)) ?_
 refine zcd h (fun hc1 h=> ?_) (fun hc1 h=> ?_)
 refine zi (zc ?_)
 refine zco 1 (.B [(33,(Enc.cells (t:Tr))),(4,[.b false])]) ?_
 exact zbe h
 refine zbh h (bz 0 13 8187) (fun j1=>[]) (fun j1=>(.B [(33,(Enc.cells (t:Tr))),(4,[.b false])])) ?_ ?_
 intro or1 h hr1
 refine zx [.v (.A (t:Tr))] ?_
 obtain⟨g2,h⟩:=zp h
 obtain⟨x2,hx2,h⟩:=zt h
 refine zdb (args':=[.A (t:Tr)]) (r:= .iter (List.map zmr x2)) (by rw[←hx2];exact(zya t g2)) ?_
 refine zag ?_
 refine zlt h zmr (fun s1=>(.B [(33,(Enc.cells (t:Tr))),(4,[.b false])])) rfl (fun _=>rfl) rfl rfl ?_ ?_
 intro s1 w1 p1 h
 refine zbj (by dsimp only[zlh,List.zip,List.zipWith,List.foldl,List.set,Array.toList,zmr]) rfl ?_
 refine zc (k0:=0) (id:=4) ?_
 refine zcb (a:= .ptr 2 0) (σ'':=(.B [(33,(Enc.cells (t:Tr))),(4,[.b false]),(33,[.u 0,.raw (.int .u64 0),.raw (.int .u64 0),.raw (.int .u64 0),.raw (.int .u64 0),.i 0,.i 0,.list 0 [] .full])])) ?_
 refine zco 8 (.B [(33,(Enc.cells (t:Tr))),(4,[.b false]),(33,(Enc.cells (w1:Tr)))]) ?_
 refine zag ?_
 refine zx [.v (.A (w1:Tr))] ?_
 obtain⟨g3,h⟩:=zp h
 obtain⟨x3,hx3,h⟩:=zt h
 refine zdb (args':=[.A (w1:Tr)]) (r:= .b x3) (by rw[←hx3];exact(k_right w1 g3)) ?_
 refine w_o (a:= .b (!x3)) ?_
 refine zcd h (fun hc2 h=> ?_) (fun hc2 h=> ?_)
 refine zi (zc ?_)
 refine zco 1 (.B [(33,(Enc.cells (t:Tr))),(4,[.b false]),(33,(Enc.cells (w1:Tr)))]) ?_
 refine zaj h (fun h=>⟨(zcw (zav (zal _ _ (Enc.clo _)) (zav (by kernel_rfl) rfl))),?_⟩)
 replace h:=zq h hr1
 exact zbe h
 exact zfi (p:=p1) () h (zcw (zav (zal _ _ (Enc.clo _)) (zav (by kernel_rfl) rfl))) (by kernel_rfl)
 intro s1 h
 refine zg (o:=or1) () h ?_
 exact zcs (bl 13 4)
 intro j1 h
 refine zet ?_
 refine zi (zc ?_)
 refine zco 1 (.B [(33,(Enc.cells (t:Tr))),(4,[.b true])]) ?_
 exact zbe h
def znd (fuel:Nat)(n:Nat)(t:Tr):Option Tr:=
 (bif (List.isEmpty t.l) then(zdr (τ:=Unit) (zbo (β:=Int) (fun s1=>(bif (decide (s1<0)) then none else(some (Sum.inr (Sum.inl ()))))) fuel (0)) (fun j1=>(some (Tr.mk t.k t.s t.mn t.mx [])))) else(chk (List.length t.l*80≤140737488355328) (zdr (τ:=(List Tr)) (zbo (β:=Int×(List Tr)) (fun s2=>(bif (decide (s2.1<(((List.length t.l):Nat):Int))) then(chk (0≤s2.1∧s2.1<(((List.length t.l):Nat):Int)) (chk (0≤s2.1∧s2.1<(List.length s2.2:Int)) (zbi (ix s2.2 s2.1) (fun x1=>(chk ((pre x1).length<n) (zbi x1 (fun x2=>(chk (0≤s2.1∧s2.1<(((List.length t.l):Nat):Int)) (chk (0≤s2.1∧s2.1<(List.length s2.2:Int)) (zbi (ix s2.2 s2.1) (fun x3=>(chk (-9223372036854775808≤(s2.1+1)∧(s2.1+1)<9223372036854775808) (some (Sum.inl ((s2.1+1),(List.set s2.2 (Int.toNat s2.1) x2)))))))))))))))) else(some (Sum.inr (Sum.inl (s2.2)))))) fuel (0,t.l)) (fun j2=>(chk (List.length j2=(List.length t.l)) (some (Tr.mk t.k t.s t.mn t.mx j2)))))))
theorem ent89:Ent Tryd.prog 89:=enters_of Tryd.func89 (by kernel_rfl) rfl
theorem z6r (fuel:Nat)(n:Nat)(t:Tr)(r:Tr)(ih: ∀x:Tr,(pre x).length<n→Pure (ITP Tryd.prog) Tryd.prog 89 [.A x] (.A x))(h:znd fuel n t=some r):Pure (ITP Tryd.prog) Tryd.prog 89 [.A (t:Tr)] (.A (r:Tr)):=by
 unfold znd at h
 refine zby 24 mix Tryd.func89 ent89 ?_
 refine zi (zc ?_)
 refine zcb (a:= .ptr 0 0) (σ'':=(.B [(33,(Enc.cells (t:Tr)))])) ?_
 refine zcb (a:= .ptr 1 0) (σ'':=(.B [(33,(Enc.cells (t:Tr))),(33,[.u 0,.raw (.int .u64 0),.raw (.int .u64 0),.raw (.int .u64 0),.raw (.int .u64 0),.i 0,.i 0,.list 0 [] .full])])) ?_
 refine zx [.v (.ptr 0 7),.v (.L (t.l:List Tr))] ?_
 refine zaa h (fun hc1 h=> ?_) (fun hc1 h=> ?_)
 refine zgm (r:= .list 0 [] .full) (σ':=(.B [(33,(Enc.cells (t:Tr))),(33,[.u 0,.raw (.int .u64 0),.raw (.int .u64 0),.raw (.int .u64 0),.raw (.int .u64 0),.i 0,.i 0,.list 0 [] .full])])) (z6p t.l hc1 _) rfl rfl ⟨rfl,rfl⟩ (by dsimp only[zy,List.set]) ?_
 refine w_o (a:= .ptr 0 7) ?_
 refine zcb (σ'':=(.B [(33,[.u ((t.k:Nat):Int),.raw (.int .u64 (wd t.s 0)),.raw (.int .u64 (wd t.s 1)),.raw (.int .u64 (wd t.s 2)),.raw (.int .u64 (wd t.s 3)),.i t.mn,.i t.mx,.list 0 [] .full]),(33,[.u 0,.raw (.int .u64 0),.raw (.int .u64 0),.raw (.int .u64 0),.raw (.int .u64 0),.i 0,.i 0,.list 0 [] .full])])) (h:=zcr (n:=1) rfl rfl rfl rfl rfl ⟨rfl,rfl,Nat.le_of_ble_eq_true rfl,by decide⟩) ?_
 refine zbh h (bz 0 25 33554425) (fun j1=>[]) (fun j1=>(.B [(33,[.u ((t.k:Nat):Int),.raw (.int .u64 (wd t.s 0)),.raw (.int .u64 (wd t.s 1)),.raw (.int .u64 (wd t.s 2)),.raw (.int .u64 (wd t.s 3)),.i t.mn,.i t.mx,.list 0 [] .full]),(33,[.u 0,.raw (.int .u64 0),.raw (.int .u64 0),.raw (.int .u64 0),.raw (.int .u64 0),.i 0,.i 0,.list 0 [] .full])])) ?_ ?_
 intro or1 h hr1
 refine zx [.v (.ptr 0 7),.v (.list 0 [] .full),.v (.i 0),.v (.i 0)] ?_
 refine zag ?_
 refine zcx h (bz 0 25 33551353) (fun s1=>[(12,.i s1)]) (fun s1=>(.B [(33,[.u ((t.k:Nat):Int),.raw (.int .u64 (wd t.s 0)),.raw (.int .u64 (wd t.s 1)),.raw (.int .u64 (wd t.s 2)),.raw (.int .u64 (wd t.s 3)),.i t.mn,.i t.mx,.list 0 [] .full]),(33,[.u 0,.raw (.int .u64 0),.raw (.int .u64 0),.raw (.int .u64 0),.raw (.int .u64 0),.i 0,.i 0,.list 0 [] .full])])) ?_ ?_
 exact zcs (bl 25 7174)
 intro s1 p1 h
 refine zet ?_
 refine zx [.v (.b (decide (s1<0)))] ?_
 refine zi ?_
 refine zcd h (fun hc2 h=> ?_) (fun hc2 h=> ?_)
 refine zi ?_
 refine zag ?_
 refine zx [.m _] ?_
 cases h
 refine zaj h (fun h=> ?_)
 refine zg (o:=or1) () h ?_
 exact zcs (bl 25 6)
 intro j1 h
 refine zet ?_
 refine zgn (zc ?_)
 refine w_o (a:= .agg [.u ((t.k:Nat):Int),.raw (.int .u64 (wd t.s 0)),.raw (.int .u64 (wd t.s 1)),.raw (.int .u64 (wd t.s 2)),.raw (.int .u64 (wd t.s 3)),.i t.mn,.i t.mx,.list 0 [] .full]) ?_
 refine zco 8 (.B [(33,[.u ((t.k:Nat):Int),.raw (.int .u64 (wd t.s 0)),.raw (.int .u64 (wd t.s 1)),.raw (.int .u64 (wd t.s 2)),.raw (.int .u64 (wd t.s 3)),.i t.mn,.i t.mx,.list 0 [] .full]),(33,[.u ((t.k:Nat):Int),.raw (.int .u64 (wd t.s 0)),.raw (.int .u64 (wd t.s 1)),.raw (.int .u64 (wd t.s 2)),.raw (.int .u64 (wd t.s 3)),.i t.mn,.i t.mx,.list 0 [] .full])]) ?_
 refine zki (S':=(.top:: .top:: .ptr 0 0:: .top:: .top:: .top:: .top:: .top:: .top:: .top:: .top:: .top:: .top:: .top:: .top:: .top:: .top:: .top:: .top:: .top:: .top:: .top:: .top:: .top:: .top::[])) (zdo (true::false::true::true::true::true::true::true::true::true::true::true::true::true::true::true::true::true::true::true::true::true::true::true::false::[]) 0 [] [1] 1 (Nat.le_refl _) rfl (zai rfl (zah (zai rfl (zai rfl (zai rfl (zai rfl (zai rfl (zai rfl (zai rfl (zai rfl (zai rfl (zai rfl (zai rfl (zai rfl (zai rfl (zai rfl (zai rfl (zai rfl (zai rfl (zai rfl (zai rfl (zai rfl (zai rfl (zai rfl (zah zcu))))))))))))))))))))))))) (zwt (zj rfl (zb (zd _ _ _ rfl) (zb (zd _ _ _ rfl) (zb (zd _ _ _ rfl) (zb (zd _ _ _ rfl) (zb (zd _ _ _ rfl) (zb (zd _ _ _ rfl) (zb (zd _ _ _ rfl) (zb rfl ze)))))))) zao) rfl)) ?_
 exact zaq (fun(r:Tr)=> .A (r:Tr)) h (.agg [.u ((t.k:Nat):Int),.raw (.int .u64 (wd t.s 0)),.raw (.int .u64 (wd t.s 1)),.raw (.int .u64 (wd t.s 2)),.raw (.int .u64 (wd t.s 3)),.i t.mn,.i t.mx,.list 0 [] .full])
 obtain⟨g1,h⟩:=zp h
 refine zgm (r:= .bsl 2 0 (List.length t.l) 8 false) (σ':=(.B [(33,(Enc.cells (t:Tr))),(33,[.u 0,.raw (.int .u64 0),.raw (.int .u64 0),.raw (.int .u64 0),.raw (.int .u64 0),.i 0,.i 0,.list 0 [] .full]),(33,(Enc.cellsL (t.l:List Tr)))])) (z3i t.l g1 hc1 2 _ rfl) rfl rfl ⟨rfl,rfl⟩ (by dsimp only[zy,List.set]) ?_
 refine w_o (a:= .ptr 0 7) ?_
 refine zcb (σ'':=(.B [(33,[.u ((t.k:Nat):Int),.raw (.int .u64 (wd t.s 0)),.raw (.int .u64 (wd t.s 1)),.raw (.int .u64 (wd t.s 2)),.raw (.int .u64 (wd t.s 3)),.i t.mn,.i t.mx,.bsl 2 0 (List.length t.l) 8 false]),(33,[.u 0,.raw (.int .u64 0),.raw (.int .u64 0),.raw (.int .u64 0),.raw (.int .u64 0),.i 0,.i 0,.list 0 [] .full]),(33,(Enc.cellsL (t.l:List Tr)))])) (h:=zcr (n:=1) rfl rfl rfl rfl rfl ⟨rfl,rfl,Nat.le_of_ble_eq_true rfl,by decide⟩) ?_
 refine zbh h (bz 0 25 33554425) (fun j2=>[]) (fun j2=>(.B [(33,[.u ((t.k:Nat):Int),.raw (.int .u64 (wd t.s 0)),.raw (.int .u64 (wd t.s 1)),.raw (.int .u64 (wd t.s 2)),.raw (.int .u64 (wd t.s 3)),.i t.mn,.i t.mx,.bsl 2 0 (List.length t.l) 8 false]),(33,[.u 0,.raw (.int .u64 0),.raw (.int .u64 0),.raw (.int .u64 0),.raw (.int .u64 0),.i 0,.i 0,.list 0 [] .full]),(33,(Enc.cellsL (j2:List Tr)))])) ?_ ?_
 intro or2 h hr2
 refine zx [.v (.ptr 0 7),.v (.bsl 2 0 (List.length t.l) 8 false),.v (.i (((List.length t.l):Nat):Int)),.v (.i 0)] ?_
 refine zag ?_
 refine zcx h (bz 0 25 33551353) (fun s2=>[(12,.i s2.1)]) (fun s2=>(.B [(33,[.u ((t.k:Nat):Int),.raw (.int .u64 (wd t.s 0)),.raw (.int .u64 (wd t.s 1)),.raw (.int .u64 (wd t.s 2)),.raw (.int .u64 (wd t.s 3)),.i t.mn,.i t.mx,.bsl 2 0 (List.length t.l) 8 false]),(33,[.u 0,.raw (.int .u64 0),.raw (.int .u64 0),.raw (.int .u64 0),.raw (.int .u64 0),.i 0,.i 0,.list 0 [] .full]),(33,(Enc.cellsL (s2.2:List Tr)))])) ?_ ?_
 exact zcs (bl 25 7174)
 intro s2 p2 h
 refine zet ?_
 refine zx [.v (.b (decide (s2.1<(((List.length t.l):Nat):Int))))] ?_
 refine zi ?_
 refine zcd h (fun hc3 h=> ?_) (fun hc3 h=> ?_)
 refine zi ?_
 refine zag ?_
 refine zx [.m _] ?_
 obtain⟨g2,h⟩:=zp h
 refine w_o (a:= .ptr 2 (0+Int.toNat s2.1*8)) (h:=zbb (qec (α:=Tr) g2 rfl rfl rfl rfl rfl)) ?_
 obtain⟨g3,h⟩:=zp h
 obtain⟨x1,hx1,h⟩:=zt h
 refine w_o (a:= .A (x1:Tr)) (h:=zbb (by rw[←hx1];exact(q_loadB (α:=Tr) (l:=s2.2) (i:=s2.1) (k:=0) (te:=33) g3 rfl rfl rfl rfl))) ?_
 refine zcb (a:= .ptr 3 0) (σ'':=(.B [(33,[.u ((t.k:Nat):Int),.raw (.int .u64 (wd t.s 0)),.raw (.int .u64 (wd t.s 1)),.raw (.int .u64 (wd t.s 2)),.raw (.int .u64 (wd t.s 3)),.i t.mn,.i t.mx,.bsl 2 0 (List.length t.l) 8 false]),(33,[.u 0,.raw (.int .u64 0),.raw (.int .u64 0),.raw (.int .u64 0),.raw (.int .u64 0),.i 0,.i 0,.list 0 [] .full]),(33,(Enc.cellsL (s2.2:List Tr))),(33,[.u 0,.raw (.int .u64 0),.raw (.int .u64 0),.raw (.int .u64 0),.raw (.int .u64 0),.i 0,.i 0,.list 0 [] .full])])) ?_
 refine zac ?_
 refine zco 8 (.B [(33,[.u ((t.k:Nat):Int),.raw (.int .u64 (wd t.s 0)),.raw (.int .u64 (wd t.s 1)),.raw (.int .u64 (wd t.s 2)),.raw (.int .u64 (wd t.s 3)),.i t.mn,.i t.mx,.bsl 2 0 (List.length t.l) 8 false]),(33,[.u 0,.raw (.int .u64 0),.raw (.int .u64 0),.raw (.int .u64 0),.raw (.int .u64 0),.i 0,.i 0,.list 0 [] .full]),(33,(Enc.cellsL (s2.2:List Tr))),(33,(Enc.cells (x1:Tr)))]) ?_
 refine zid (k0:=0) (id:=5) 5 (by kernel_rfl) (by kernel_rfl) ?_
 refine h_o (a:= .ptr 0 7) ?_
 refine h_o (a:= .bsl 2 0 (List.length t.l) 8 false) ?_
 refine zjj ?_
 refine h_o (a:= .A (x1:Tr)) ?_
 obtain⟨g4,h⟩:=zp h
 obtain⟨x2,hx2,h⟩:=zt h
 refine h_ck (args':=[.A (x1:Tr)]) (r:= .A (x2:Tr)) (by rw[←hx2];exact(ih x1 g4)) ?_
 refine ziy ?_
 obtain⟨g5,h⟩:=zp h
 refine w_o (a:= .ptr 2 (0+Int.toNat s2.1*8)) (h:=zbb (qec (α:=Tr) g5 rfl rfl rfl rfl rfl)) ?_
 obtain⟨g6,h⟩:=zp h
 obtain⟨x3,hx3,h⟩:=zt h
 refine zcb (σ'':=(.B [(33,[.u ((t.k:Nat):Int),.raw (.int .u64 (wd t.s 0)),.raw (.int .u64 (wd t.s 1)),.raw (.int .u64 (wd t.s 2)),.raw (.int .u64 (wd t.s 3)),.i t.mn,.i t.mx,.bsl 2 0 (List.length t.l) 8 false]),(33,[.u 0,.raw (.int .u64 0),.raw (.int .u64 0),.raw (.int .u64 0),.raw (.int .u64 0),.i 0,.i 0,.list 0 [] .full]),(33,(Enc.cellsL ((List.set s2.2 (Int.toNat s2.1) x2):List Tr))),(33,(Enc.cells (x1:Tr)))])) (h:=qbo (α:=Tr) (l:=s2.2) (i:=s2.1) (k:=0) (te:=33) (n:=8) x2 g6 rfl rfl rfl rfl rfl rfl rfl (by decide) (by decide) (by rw[hx3];rfl)) ?_
 refine zc (k0:=0) (id:=6) ?_
 obtain⟨g7,h⟩:=zp h
 refine zio g7 ?_
 refine zac ?_
 refine zbs (p:=p2) ((s2.1+1),(List.set s2.2 (Int.toNat s2.1) x2)) h ?_
 exact zfa (bl 25 7174) 3 (by kernel_rfl) (Nat.le_of_ble_eq_true rfl) (zcw (zav (by kernel_rfl) (zav rfl (zav (zal _ _ (Enc.cloL _)) rfl)))) (by dsimp only[zbg,zbz,List.foldl,List.set,bz,bzc,Nat.reduceMod,Nat.reduceDiv,Nat.reduceBEq,Nat.reduceAdd];exact(za rfl (za (by decide) (za (by decide) (by kernel_rfl))))) (by kernel_rfl)
 refine zaj h (fun h=> ?_)
 refine zg (o:=or2) (s2.2) h ?_
 exact zcs (bl 25 6)
 intro j2 h
 refine zet ?_
 refine zgn (zc ?_)
 refine w_o (a:= .agg [.u ((t.k:Nat):Int),.raw (.int .u64 (wd t.s 0)),.raw (.int .u64 (wd t.s 1)),.raw (.int .u64 (wd t.s 2)),.raw (.int .u64 (wd t.s 3)),.i t.mn,.i t.mx,.bsl 2 0 (List.length t.l) 8 false]) ?_
 refine zco 8 (.B [(33,[.u ((t.k:Nat):Int),.raw (.int .u64 (wd t.s 0)),.raw (.int .u64 (wd t.s 1)),.raw (.int .u64 (wd t.s 2)),.raw (.int .u64 (wd t.s 3)),.i t.mn,.i t.mx,.bsl 2 0 (List.length t.l) 8 false]),(33,[.u ((t.k:Nat):Int),.raw (.int .u64 (wd t.s 0)),.raw (.int .u64 (wd t.s 1)),.raw (.int .u64 (wd t.s 2)),.raw (.int .u64 (wd t.s 3)),.i t.mn,.i t.mx,.bsl 2 0 (List.length t.l) 8 false]),(33,(Enc.cellsL (j2:List Tr)))]) ?_
 obtain⟨g8,h⟩:=zp h
 refine zki (S':=(.top:: .top:: .ptr 0 0:: .top:: .top:: .top:: .top:: .top:: .top:: .top:: .top:: .top:: .top:: .top:: .top:: .top:: .top:: .top:: .top:: .top:: .top:: .top:: .top:: .top:: .top::[])) (zdo (true::false::true::true::true::true::true::true::true::true::true::true::true::true::true::true::true::true::true::true::true::true::true::true::false::[]) 0 [] [1] 1 (Nat.le_refl _) rfl (zai rfl (zah (zai rfl (zai rfl (zai rfl (zai rfl (zai rfl (zai rfl (zai rfl (zai rfl (zai rfl (zai rfl (zai rfl (zai rfl (zai rfl (zai rfl (zai rfl (zai rfl (zai rfl (zai rfl (zai rfl (zai rfl (zai rfl (zai rfl (zah zcu))))))))))))))))))))))))) (zwt (zj rfl (zb (zd _ _ _ rfl) (zb (zd _ _ _ rfl) (zb (zd _ _ _ rfl) (zb (zd _ _ _ rfl) (zb (zd _ _ _ rfl) (zb (zd _ _ _ rfl) (zb (zd _ _ _ rfl) (zb (kz_bsl (α:=Tr) (t:=33) (l:=j2) g8 rfl rfl) ze)))))))) zao) rfl)) ?_
 exact zaq (fun(r:Tr)=> .A (r:Tr)) h (.A ((Tr.mk t.k t.s t.mn t.mx j2):Tr))
theorem z1v {ρ:Type}: ∀(l:List Tr),(∀x∈l,(pre x).length<2^61)→zek (β:=Unit) (ρ:=Unit ⊕ Bool) (fun s1 w1=>(chk ((pre w1).length<2^61) (zbi (zeu w1) (fun x3=>(bif (!x3) then(some (Sum.inr (Sum.inr false))) else(some (Sum.inl ()))))))) l ()=if l.all zeu=true then some (.inl ()) else some (.inr (.inr false)):=by
 intro l
 induction l with
 |nil=>intro _;rfl
 | cons x l ih=>
  intro h
  have hb:(chk ((pre x).length<2^61) (zbi (zeu x) (fun x3=>(bif (!x3) then(some (Sum.inr (Sum.inr false))) else(some (Sum.inl ()))))):Option (Unit ⊕ (Unit ⊕ Bool)))=if zeu x=true then some (.inl ()) else some (.inr (.inr false)):=by
   rw[zem (h x (by simp)),zbi];cases zeu x<;>rfl
  simp only[zek,hb,List.all_cons]
  by_cases hr:zeu x=true
  ·simp only[hr,if_true,Bool.true_and];exact ih (fun y hy=>h y (by simp[hy]))
  ·simp[hr]
theorem qgy (t:Tr)(h:(pre t).length<2^61):zwl t=some (zga t):=by
 unfold zwl zga
 rw[zem h,zbi]
 cases hl:zgk t with
 |false=>rfl
 | true=>
  show zdr _ _=_
  rw[zem h,zbi,z1v (ρ:=Unit) (pre t) (fun x hx=>by have:=ztv hx;omega),Bool.true_and]
  cases (pre t).all zeu<;>rfl
theorem zxy (t:Tr)(h:(pre t).length<2^61):Pure (ITP Tryd.prog) Tryd.prog 41 [.agg (Enc.cells t)] (.raw (.bool (zga t))):=qih t _ (qgy t h)
theorem z6s (n:Nat)(t:Tr)(h:(pre t).length<n+1)(hl:(pre t).length<2^40):znd (n+1) n t=some t:=by
 have hlen:=z1u t
 have hp:(pre t).length=1+(zda t.l).length:=by rw[zfl,List.length_cons];omega
 unfold znd
 cases hn:t.l with
 | nil=>
  refine zgp rfl ?_
  refine zca () ?_ ?_
  ·rw[zbo];rfl
  ·obtain⟨k,s,mn,mx,l⟩:=t
   simp only[Tr.l] at hn;subst hn;rfl
 | cons x l=>
  rw[←hn]
  refine zfy (by rw[hn];rfl) (zae (by omega) ?_)
  refine zca t.l ?_ ?_
  ·refine zku t.l.length (fun i=>((i:Int),t.l)) rfl (fun i hi=> ?_) ?_ (by omega)
   ·refine zgp (by simp;omega) (zae (by simp only;omega) (zae (by simp only;omega) (zap fun x1 e1=> ?_)))
    simp only at e1
    rw[zjs hi] at e1
    have hm:x1∈t.l:=e1▸List.getElem_mem hi
    have hx:=zlu hm
    refine zae (by omega) (zap fun x2 e2=>(zae (by simp only;omega) (zae (by simp only;omega) (zap fun x3 e3=>zae (by simp only;omega) ?_))))
    subst e2
    simp only[Int.toNat_natCast]
    rw[←e1,List.set_getElem_self];rfl
   ·exact zfy (by simp) rfl
  ·refine zae rfl ?_
   rw[←Tr.eta t]
theorem zuk: ∀(n:Nat) (t:Tr),(pre t).length<n→n≤2^40→Pure (ITP Tryd.prog) Tryd.prog 89 [.agg (Enc.cells t)] (.agg (Enc.cells t))
 |0,t,h,_=>absurd h (Nat.not_lt_zero _)
 |n+1,t,h,hn=>z6r (n+1) n t t (fun x hx=>zuk n x hx (by omega)) (z6s n t h (by omega))
theorem zlx (t:Tr)(h:(pre t).length<2^40):Pure (ITP Tryd.prog) Tryd.prog 89 [.agg (Enc.cells t)] (.agg (Enc.cells t)):=zuk (2^40) t h (Nat.le_refl _)
end Go.Ab
