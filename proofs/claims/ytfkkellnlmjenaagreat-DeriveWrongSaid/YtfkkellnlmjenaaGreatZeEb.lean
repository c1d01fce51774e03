/-
  derive: contracts of Size, Positions, Groups, Sets, none, first, classes.
-/
import Derived.Test.YtfkkellnlmjenaaGreatZeEa
set_option linter.unusedSimpArgs false
set_option linter.unusedVariables false
namespace Go.Ab
open Go Go.RowKit Go.Fwd Go.Proofs
theorem zse {α β ρ:Type} {body:β→α→Option (β ⊕ ρ)} (f:β→α→β)(I:β→Nat→Prop): ∀(xs:List α) (s:β),I s xs.length→(∀s x k,x∈xs→k<xs.length→I s (k+1)→body s x=some (.inl (f s x))∧I (f s x) k)→zgo body xs s=some (.inl (xs.foldl f s))
 |[],s,_,_=>rfl
 | x::xs,s,h0,h=>by
  obtain⟨h1,h2⟩:=h s x xs.length (by simp) (by simp) h0
  rw[zgo,h1]
  exact zse f I xs (f s x) h2 fun s y k hy hk=>h s y k (by simp[hy]) (by simp;omega)
theorem z4x {α:Type} (p:α→Bool): ∀(xs:List α) (s:Int),xs.foldl (fun s x=>bif p x then s+1 else s) s=s+(xs.countP p:Int)
 |[],s=>by simp
 | x::xs,s=>by
  rw[List.foldl_cons,z4x p xs,List.countP_cons]
  cases p x<;>simp<;>omega
theorem k_size (t:Tr)(h:(pre t).length<2^61):Pure (ITP Tryz.prog) Tryz.prog 22 [.agg (Enc.cells t)] (.raw (.int .i64 (z9p t))):=by
 refine qdf t _ ?_
 unfold zzo z9p
 refine zq h (zai fun x1 e1=> ?_)
 subst e1
 cases hl:zcj t with
 |false=>rfl
 | true=>
  refine zay rfl (zcb ((pre t).length:Int) (zq h (zai fun x2 e2=> ?_)) rfl)
  subst e2
  refine zcb ((pre t).length:Int) ?_ rfl
  refine Eq.trans (zse (fun(s:Int) _=>s+1) (fun s k=>0≤s∧s+k≤(pre t).length) (pre t) 0 (by omega) (fun s x k _ hk hI=>⟨zq (by omega) rfl,by omega⟩)) ?_
  have: ∀(xs:List Tr) (s:Int),xs.foldl (fun s _=>s+1) s=s+(xs.length:Int):=fun xs=>by
   induction xs with
   |nil=>intro s;simp
   |cons x xs ih=>intro s;rw[List.foldl_cons,ih,List.length_cons];omega
  rw[this,Int.zero_add]
theorem qkw (t:Tr)(h:(pre t).length<2^61):Pure (ITP Tryz.prog) Tryz.prog 21 [.agg (Enc.cells t)] (.raw (.int .i64 (zuo t))):=by
 refine z5u t _ ?_
 unfold zpq zuo
 refine zq h (zai fun x1 e1=> ?_)
 subst e1
 cases hl:zcj t with
 |false=>rfl
 | true=>
  refine zay rfl (zcb (((pre t).countP fun x=>decide (x.k=6)):Int) (zq h (zai fun x2 e2=> ?_)) rfl)
  subst e2
  refine zcb (((pre t).countP fun x=>decide (x.k=6)):Int) ?_ rfl
  refine Eq.trans (zse (fun(s:Int) x=>bif decide (x.k=6) then s+1 else s) (fun s k=>0≤s∧s+k≤(pre t).length) (pre t) 0 (by omega) (fun s x k _ hk hI=> ?_)) ?_
  rotate_left
  ·rw[z4x (fun x:Tr=>decide (x.k=6)),Int.zero_add]
  ·by_cases h6:x.k=6
   ·simp only[h6,decide_true,cond_true]
    exact⟨zq (by omega) rfl,by omega⟩
   ·rw[show decide (x.k=6)=false by simpa using h6]
    exact⟨zay (by simp;omega) rfl,by simp only[cond_false];omega⟩
theorem posn_eq {fuel:Nat} (n:Nat)(t:Tr)(h:(pre t).length≤10000)(hn:(pre t).length<n+1)(hf:10001<fuel):z9z fuel n t=some (zkv t):=by
 have hp:(pre t).length=1+(zap t.l).length:=by rw[zcw,List.length_cons];omega
 have hlen:=zaq t.l
 have hpl:=z5l t.l
 have hpn:=zem t.l
 unfold z9z
 have hpos:zkv t=min (if t.k=5 then((if t.k=2 then 1 else 0)+zfe t.l)*min (if t.mx= -1 then max (max t.mn 0) 1 else max (max t.mn 0) t.mx) 10001 else(if t.k=2 then 1 else 0)+zfe t.l) 10001:=by
  obtain⟨k,s,mn,mx,l⟩:=t;rw[zkv];rfl
 rw[hpos]
 refine zcb (if t.k=2 then 1 else 0) ?_ ?_
 ·by_cases h2:t.k=2
  ·rw[if_pos h2];exact zbe (by simp[h2]) rfl
  ·rw[if_neg h2];exact zay (by simp;omega) rfl
 ·generalize hb:(if t.k=2 then(1:Int) else 0)=b
  have hb1:0≤b∧b≤1:=by rw[←hb];split<;>omega
  refine zcb (b+zfe t.l) ?_ ?_
  ·refine zew t.l.length (fun i=>(b+zfe (t.l.take i),(i:Int))) (by simp[zfe]) (fun i hi=> ?_) ?_ (by omega)
   ·refine zbe (by simpa using hi) (zq (by simp only;omega) (zai fun x1 e1=> ?_))
    simp only at e1
    rw[zel hi] at e1
    have hm:x1∈t.l:=e1▸List.getElem_mem hi
    have hx:=zck hm
    have q1:=z5l (t.l.take i)
    have q2:=zem (t.l.take i)
    have q3:=qhl x1
    have q4:=zkp x1
    have q5:(t.l.take i).length≤t.l.length:=List.length_take_le' _ _
    refine zq (by omega) (zai fun x2 e2=>zq (by simp only;omega) (zq (by simp only;omega) ?_))
    rw[qhv _ _ hi,e1,←e2]
    simp only[Int.add_assoc];rfl
   ·refine zay (by simp) ?_
    simp
  ·generalize hj:b+zfe t.l=j
   have hj1:0≤j∧j≤200000000:=by omega
   by_cases h5:t.k=5
   ·rw[if_pos h5]
    generalize hq:(if t.mx= -1 then max (max t.mn 0) 1 else max (max t.mn 0) t.mx)=q
    have hm:0≤min q 10001∧min q 10001≤10001:=by
     have:0≤q:=by rw[←hq];split<;>omega
     omega
    have hmul:0≤j*min q 10001∧j*min q 10001≤200000000*10001:=⟨Int.mul_nonneg hj1.1 hm.1,Int.mul_le_mul hj1.2 hm.2 hm.1 (by omega)⟩
    refine zcb (j*min q 10001) (zbe (by simp[h5]) (zcb q ?_ (zq (by omega) rfl))) rfl
    by_cases hx:t.mx= -1
    ·rw[if_pos hx] at hq;exact zbe (by simp[hx]) (by rw[hq])
    ·rw[if_neg hx] at hq;exact zay (by simpa using hx) (by rw[hq])
   ·rw[if_neg h5]
    exact zcb j (zay (by simp;omega) rfl) rfl
theorem z8i: ∀(n:Nat) (t:Tr),(pre t).length<n→(pre t).length≤10000→Pure (ITP Tryz.prog) Tryz.prog 69 [.agg (Enc.cells t)] (.raw (.int .i64 (zkv t)))
 |0,t,h,_=>absurd h (Nat.not_lt_zero _)
 | n+1,t,h,hl=>by
  have hp:(pre t).length=1+(zap t.l).length:=by rw[zcw,List.length_cons];omega
  exact posn_sh 10002 (min n 10000) t _ (fun x hx=>z8i n x (by omega) (by omega)) (posn_eq (min n 10000) t hl (by omega) (by decide))
theorem k_posn (t:Tr)(h:(pre t).length≤10000):Pure (ITP Tryz.prog) Tryz.prog 69 [.agg (Enc.cells t)] (.raw (.int .i64 (zkv t))):=z8i 10001 t (by omega) h
theorem ixs_eq {fuel:Nat} (l:List BS)(s:BS)(hf:l.length<fuel)(hl:l.length<2^60):qeg fuel l s=some (match l.findIdx? (fun x=>decide (s=x)) with|some i=>(i:Int)|none=> -1):=by
 unfold qeg
 have key: ∀(k i:Nat),i+k=l.length→(∀x∈l.take i,s≠x)→ ∀n,k<n→zbv (β:=Int) (fun s1=>(bif (decide (s1<(List.length l:Int))) then(chk (0≤s1∧s1<(List.length l:Int)) (zbc (ix l s1) (fun x1=>(bif (decide (s=x1)) then(some (Sum.inr (Sum.inr s1))) else(chk (-9223372036854775808≤(s1+1)∧(s1+1)<9223372036854775808) (some (Sum.inl ((s1+1))))))))) else(some (Sum.inr (Sum.inl ()))))) n (i:Int)=some (match l.findIdx? (fun x=>decide (s=x)) with|some i=>Sum.inr (i:Int)|none=>Sum.inl ()):=by
  intro k
  induction k with
  | zero=>
   intro i hi hno n hn
   match n,hn with
   | n+1,_=>
    have:l.findIdx? (fun x=>decide (s=x))=none:=by
     rw[List.findIdx?_eq_none_iff]
     intro x hx
     have:=hno x (by rw[List.take_of_length_le (by omega)];exact hx)
     simpa using this
    rw[zbv,this,show decide ((i:Int)<(l.length:Int))=false by simp;omega];rfl
  | succ k ih=>
   intro i hi hno n hn
   match n,hn with
   | n +1,hn=>
    have hil:i<l.length:=by omega
    rw[zbv,show decide ((i:Int)<(l.length:Int))=true by simp;omega,cond_true,zdk (by omega),zbc,zel hil]
    by_cases he:s=l[i]
    ·have:l.findIdx? (fun x=>decide (s=x))=some i:=by
      rw[List.findIdx?_eq_some_iff_getElem]
      refine⟨hil,by simpa using he,fun j hj=> ?_⟩
      have hne:=hno l[j] (List.mem_take_iff_getElem.2 ⟨j,by omega,rfl⟩)
      simpa using hne
     rw[this,show decide (s=l[i])=true by simpa using he];rfl
    ·rw[show decide (s=l[i])=false by simpa using he,cond_false,zdk (by omega)]
     have:=ih (i+1) (by omega) (fun x hx=>by
      rw[List.take_succ_eq_append_getElem hil,List.mem_append] at hx
      rcases hx with hx|hx
      ·exact hno x hx
      ·rw[List.mem_singleton] at hx;rw[hx];exact he) n (by omega)
     simp only[Int.natCast_add,Int.natCast_one] at this
     exact this
 have h0:=key l.length 0 (by omega) (fun x hx=>by simp at hx) fuel hf
 simp only[Int.natCast_zero] at h0
 unfold zdn
 rw[h0]
 cases l.findIdx? (fun x=>decide (s=x))<;>rfl
theorem cts_eq {fuel : Nat} (l:List BS)(s:BS)(hf:l.length<fuel)(hl:l.length<2^60):qcw fuel l s=some (decide (s∈l)):=by
  unfold qcw
  refine zaw _ (ixs_eq l s hf hl) ?_
  cases h:l.findIdx? (fun x=>decide (s=x)) with
  | none=>
    rw[List.findIdx?_eq_none_iff] at h
    have:s∉l:=fun hm=>by have:=h s hm;simp at this
    simp[this]
  | some i=>
    rw[List.findIdx?_eq_some_iff_getElem] at h
    obtain⟨hi,h1,_⟩:=h
    have : s ∈ l := by have h1:s=l[i]:=by simpa using h1
                       rw[h1];exact List.getElem_mem hi
    simp[this]
def zop (l:List BS):List Tr→List BS
 |[]=>l
 |x::xs=>zop (if x.k=2∧x.s∉l then l++[x.s] else l) xs
def zqv (t:Tr):List BS:=if zcj t=true then zop [] (pre t) else[]
theorem ztv: ∀(xs:List Tr) (l:List BS),xs.foldl (fun l x=>if x.k=2∧x.s∉l then l++[x.s] else l) l=zop l xs
 |[],l=>rfl
 |x::xs,l=>by rw[List.foldl_cons,ztv xs,zop]
theorem zwa: ∀(xs:List Tr) (l:List BS),(zop l xs).length≤l.length+xs.length
 |[],l=>by simp[zop]
 | x::xs,l=>by
  rw[zop]
  have:=zwa xs (if x.k=2∧x.s∉l then l++[x.s] else l)
  have h1:(if x.k=2∧x.s∉l then l++[x.s] else l).length≤l.length+1:=by split<;>simp
  rw[List.length_cons];omega
theorem zwx (t:Tr):(zqv t).length≤10000:=by
 unfold zqv
 split
 ·rename_i h
  have h:(pre t).length≤10000:=by simpa[zcj] using h
  have:=zwa (pre t) [];simp at this;omega
 ·simp
theorem qht {fuel:Nat} (t:Tr)(h:(pre t).length<2^61)(hf:10001<fuel):zog fuel t=some (zqv t):=by
 unfold zog zqv
 refine zcb (if zcj t=true then zop [] (pre t) else[]) (zq h (zai fun x1 e1=> ?_)) rfl
 subst e1
 cases hl:zcj t with
 |false=>rfl
 | true=>
  have hl:(pre t).length≤10000:=by simpa[zcj] using hl
  refine zbe rfl (zq h (zai fun x2 e2=> ?_))
  subst e2
  rw[if_pos rfl]
  refine zcb (zop [] (pre t)) ?_ rfl
  rw[←ztv]
  refine zse (fun l x=>if x.k=2∧x.s∉l then l++[x.s] else l) (fun s k=>s.length+k≤(pre t).length) (pre t) [] (by simp) (fun s x k _ hk hI=> ?_)
  by_cases h2:x.k=2
  ·have hc:=cts_eq (fuel:=fuel) s x.s (by omega) (by omega)
   by_cases hm:x.s∈s
   ·rw[if_neg (by simp[hm])]
    refine⟨zbe (by simp[h2]) (zaw _ hc (by simp[hm])),by omega⟩
   ·rw[if_pos ⟨h2,hm⟩]
    refine⟨zbe (by simp[h2]) (zaw _ hc (zbe (by simp[hm]) (zq (by simp only[List.length_cons,List.length_nil];omega) rfl))),by simp only[List.length_append,List.length_cons,List.length_nil];omega⟩
  ·rw[if_neg (by simp[h2])]
   exact⟨zay (by simp;omega) rfl,by omega⟩
def isNone (t:Tr):Bool:=zfo t noneT
theorem zly (t:Tr):isNone t=true↔t=noneT:=z3p _ _
theorem z8b (t:Tr)(h:(pre t).length<2^61):zss t=some (isNone t):=by
 unfold zss
 by_cases h0:t.k=0
 ·refine zbe (by simp[h0]) (zq ⟨h,by decide⟩ (zai fun x e=> ?_))
  subst e
  cases hs:isNone t with
  | true=>
   have:=(zly t).1 hs
   subst this;rfl
  | false=>
   have hs:zfo t noneT=false:=hs
   rw[zrq,hs,Bool.and_false]
 ·cases hs:isNone t with
  | true=>
   have:=(zly t).1 hs
   subst this;exact absurd rfl h0
  |false=>exact zay (by simp;omega) rfl
theorem qgk (t:Tr)(h:(pre t).length<2^61):Pure (ITP Tryz.prog) Tryz.prog 66 [.agg (Enc.cells t)] (.raw (.bool (isNone t))):=z8y t _ (z8b t h)
def z8p (t:Tr):List Tr:=if isNone t=true then[] else[t]
theorem k_first (t:Tr)(h:(pre t).length<2^61):Pure (ITP Tryz.prog) Tryz.prog 61 [.agg (Enc.cells t)] (.list (z8p t).length (Enc.cellsL (z8p t)) .none):=by
 refine qen t _ ?_
 unfold zyy z8p
 refine zaw _ (z8b t h) ?_
 cases isNone t<;>rfl
def znm (l:List Tr):List BS:=zlb (l.flatMap zqv)
theorem z1d (l:List Tr)(h:l.length<2^20∧ ∀x∈l,(pre x).length<2^61):Pure (ITP Tryz.prog) Tryz.prog 53 [.list l.length (Enc.cellsL l) .none] (.list (znm l).length (Enc.cellsL (znm l)) .none):=by
 refine qat (2^20+10002) l _ ?_
 have hlen: ∀m:List Tr,(m.flatMap zqv).length≤10000*m.length:=fun m=>by
  induction m with
  |nil=>simp
  |cons x m ih=>rw[List.flatMap_cons,List.length_append,List.length_cons];have:=zwx x;omega
 unfold zso znm
 refine zcb (l.flatMap zqv) ?_ (zq (by have:=hlen l;omega) rfl)
 refine zew l.length (fun i=>((l.take i).flatMap zqv,(i:Int))) (by simp) (fun i hi=> ?_) ?_ (by omega)
 ·refine zbe (by simpa using hi) (zq (by simp only;omega) (zai fun x1 e1=> ?_))
  simp only at e1
  rw[zel hi] at e1
  have hm:x1∈l:=e1▸List.getElem_mem hi
  have q1:=hlen (l.take i)
  have q2:=zwx x1
  have q3:(l.take i).length≤l.length:=List.length_take_le' _ _
  refine zaw _ (qht x1 (h.2 x1 hm) (by omega)) (zq (by simp only;omega) (zq (by simp only;omega) ?_))
  rw[List.take_succ_eq_append_getElem hi,List.flatMap_append,e1]
  simp
 ·refine zay (by simp) ?_
  simp
end Go.Ab
