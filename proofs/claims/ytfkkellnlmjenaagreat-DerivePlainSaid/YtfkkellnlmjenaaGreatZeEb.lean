/-
  derive: contracts of Size, Positions, Groups, Sets, none, first, classes.
-/
import Derived.Test.YtfkkellnlmjenaaGreatZeEa
set_option linter.unusedSimpArgs false
set_option linter.unusedVariables false
namespace Go.Ab
open Go Go.RowKit Go.Fwd Go.Proofs
theorem zsr {α β ρ:Type} {body:β→α→Option (β ⊕ ρ)} (f:β→α→β)(I:β→Nat→Prop): ∀(xs:List α) (s:β),I s xs.length→(∀s x k,x∈xs→k<xs.length→I s (k+1)→body s x=some (.inl (f s x))∧I (f s x) k)→zgv body xs s=some (.inl (xs.foldl f s))
 |[],s,_,_=>rfl
 | x::xs,s,h0,h=>by
  obtain⟨h1,h2⟩:=h s x xs.length (by simp) (by simp) h0
  rw[zgv,h1]
  exact zsr f I xs (f s x) h2 fun s y k hy hk=>h s y k (by simp[hy]) (by simp;omega)
theorem z2t {α:Type} (p:α→Bool): ∀(xs:List α) (s:Int),xs.foldl (fun s x=>bif p x then s+1 else s) s=s+(xs.countP p:Int)
 |[],s=>by simp
 | x::xs,s=>by
  rw[List.foldl_cons,z2t p xs,List.countP_cons]
  cases p x<;>simp<;>omega
theorem qft (t:Tr)(h:(pre t).length<2^61):Pure (ITP Tryz.prog) Tryz.prog 22 [.agg (Enc.cells t)] (.raw (.int .i64 (ztc t))):=by
 refine qdx t _ ?_
 unfold zzf ztc
 refine zm h (zad fun x1 e1=> ?_)
 subst e1
 cases hl:zbj t with
 |false=>rfl
 | true=>
  refine zaw rfl (zbw ((pre t).length:Int) (zm h (zad fun x2 e2=> ?_)) rfl)
  subst e2
  refine zbw ((pre t).length:Int) ?_ rfl
  refine Eq.trans (zsr (fun(s:Int) _=>s+1) (fun s k=>0≤s∧s+k≤(pre t).length) (pre t) 0 (by omega) (fun s x k _ hk hI=>⟨zm (by omega) rfl,by omega⟩)) ?_
  have: ∀(xs:List Tr) (s:Int),xs.foldl (fun s _=>s+1) s=s+(xs.length:Int):=fun xs=>by
   induction xs with
   |nil=>intro s;simp
   |cons x xs ih=>intro s;rw[List.foldl_cons,ih,List.length_cons];omega
  rw[this,Int.zero_add]
theorem qnm (t:Tr)(h:(pre t).length<2^61):Pure (ITP Tryz.prog) Tryz.prog 21 [.agg (Enc.cells t)] (.raw (.int .i64 (ztv t))):=by
 refine z7r t _ ?_
 unfold zqb ztv
 refine zm h (zad fun x1 e1=> ?_)
 subst e1
 cases hl:zbj t with
 |false=>rfl
 | true=>
  refine zaw rfl (zbw (((pre t).countP fun x=>decide (x.k=6)):Int) (zm h (zad fun x2 e2=> ?_)) rfl)
  subst e2
  refine zbw (((pre t).countP fun x=>decide (x.k=6)):Int) ?_ rfl
  refine Eq.trans (zsr (fun(s:Int) x=>bif decide (x.k=6) then s+1 else s) (fun s k=>0≤s∧s+k≤(pre t).length) (pre t) 0 (by omega) (fun s x k _ hk hI=> ?_)) ?_
  rotate_left
  ·rw[z2t (fun x:Tr=>decide (x.k=6)),Int.zero_add]
  ·by_cases h6:x.k=6
   ·simp only[h6,decide_true,cond_true]
    exact⟨zm (by omega) rfl,by omega⟩
   ·rw[show decide (x.k=6)=false by simpa using h6]
    exact⟨zaw (by simp;omega) rfl,by simp only[cond_false];omega⟩
theorem posn_eq {fuel:Nat} (n:Nat)(t:Tr)(h:(pre t).length≤10000)(hn:(pre t).length<n+1)(hf:10001<fuel):z8y fuel n t=some (zdf t):=by
 have hp:(pre t).length=1+(zae t.l).length:=by rw[zcq,List.length_cons];omega
 have hlen:=zan t.l
 have hpl:=z7p t.l
 have hpn:=zck t.l
 unfold z8y
 have hpos:zdf t=min (if t.k=5 then((if t.k=2 then 1 else 0)+zcy t.l)*min (if t.mx= -1 then max (max t.mn 0) 1 else max (max t.mn 0) t.mx) 10001 else(if t.k=2 then 1 else 0)+zcy t.l) 10001:=by
  obtain⟨k,s,mn,mx,l⟩:=t;rw[zdf];rfl
 rw[hpos]
 refine zbw (if t.k=2 then 1 else 0) ?_ ?_
 ·by_cases h2:t.k=2
  ·rw[if_pos h2];exact zbp (by simp[h2]) rfl
  ·rw[if_neg h2];exact zaw (by simp;omega) rfl
 ·generalize hb:(if t.k=2 then(1:Int) else 0)=b
  have hb1:0≤b∧b≤1:=by rw[←hb];split<;>omega
  refine zbw (b+zcy t.l) ?_ ?_
  ·refine zet t.l.length (fun i=>(b+zcy (t.l.take i),(i:Int))) (by simp[zcy]) (fun i hi=> ?_) ?_ (by omega)
   ·refine zbp (by simpa using hi) (zm (by simp only;omega) (zad fun x1 e1=> ?_))
    simp only at e1
    rw[zdw hi] at e1
    have hm:x1∈t.l:=e1▸List.getElem_mem hi
    have hx:=zbq hm
    have q1:=z7p (t.l.take i)
    have q2:=zck (t.l.take i)
    have q3:=qff x1
    have q4:=zcu x1
    have q5:(t.l.take i).length≤t.l.length:=List.length_take_le' _ _
    refine zm (by omega) (zad fun x2 e2=>zm (by simp only;omega) (zm (by simp only;omega) ?_))
    rw[qfg _ _ hi,e1,←e2]
    simp only[Int.add_assoc];rfl
   ·refine zaw (by simp) ?_
    simp
  ·generalize hj:b+zcy t.l=j
   have hj1:0≤j∧j≤200000000:=by omega
   by_cases h5:t.k=5
   ·rw[if_pos h5]
    generalize hq:(if t.mx= -1 then max (max t.mn 0) 1 else max (max t.mn 0) t.mx)=q
    have hm:0≤min q 10001∧min q 10001≤10001:=by
     have:0≤q:=by rw[←hq];split<;>omega
     omega
    have hmul:0≤j*min q 10001∧j*min q 10001≤200000000*10001:=⟨Int.mul_nonneg hj1.1 hm.1,Int.mul_le_mul hj1.2 hm.2 hm.1 (by omega)⟩
    refine zbw (j*min q 10001) (zbp (by simp[h5]) (zbw q ?_ (zm (by omega) rfl))) rfl
    by_cases hx:t.mx= -1
    ·rw[if_pos hx] at hq;exact zbp (by simp[hx]) (by rw[hq])
    ·rw[if_neg hx] at hq;exact zaw (by simpa using hx) (by rw[hq])
   ·rw[if_neg h5]
    exact zbw j (zaw (by simp;omega) rfl) rfl
theorem qam: ∀(n:Nat) (t:Tr),(pre t).length<n→(pre t).length≤10000→Pure (ITP Tryz.prog) Tryz.prog 69 [.agg (Enc.cells t)] (.raw (.int .i64 (zdf t)))
 |0,t,h,_=>absurd h (Nat.not_lt_zero _)
 | n+1,t,h,hl=>by
  have hp:(pre t).length=1+(zae t.l).length:=by rw[zcq,List.length_cons];omega
  exact posn_sh 10002 (min n 10000) t _ (fun x hx=>qam n x (by omega) (by omega)) (posn_eq (min n 10000) t hl (by omega) (by decide))
theorem k_posn (t:Tr)(h:(pre t).length≤10000):Pure (ITP Tryz.prog) Tryz.prog 69 [.agg (Enc.cells t)] (.raw (.int .i64 (zdf t))):=qam 10001 t (by omega) h
theorem ixs_eq {fuel:Nat} (l:List BS)(s:BS)(hf:l.length<fuel)(hl:l.length<2^60):qhu fuel l s=some (match l.findIdx? (fun x=>decide (s=x)) with|some i=>(i:Int)|none=> -1):=by
 unfold qhu
 have key: ∀(k i:Nat),i+k=l.length→(∀x∈l.take i,s≠x)→ ∀n,k<n→zcc (β:=Int) (fun s1=>(bif (decide (s1<(List.length l:Int))) then(chk (0≤s1∧s1<(List.length l:Int)) (zba (ix l s1) (fun x1=>(bif (decide (s=x1)) then(some (Sum.inr (Sum.inr s1))) else(chk (-9223372036854775808≤(s1+1)∧(s1+1)<9223372036854775808) (some (Sum.inl ((s1+1))))))))) else(some (Sum.inr (Sum.inl ()))))) n (i:Int)=some (match l.findIdx? (fun x=>decide (s=x)) with|some i=>Sum.inr (i:Int)|none=>Sum.inl ()):=by
  intro k
  induction k with
  | zero=>
   intro i hi hno n hn
   match n,hn with
   | n+1,_=>
    have:l.findIdx? (fun x=>decide (s=x))=none:=by
     rw[List.findIdx?_eq_none_iff]
     intro x hx
     have:=hno x (by rw[List.take_of_length_le (by omega)];exact hx)
     simpa using this
    rw[zcc,this,show decide ((i:Int)<(l.length:Int))=false by simp;omega];rfl
  | succ k ih=>
   intro i hi hno n hn
   match n,hn with
   | n +1,hn=>
    have hil:i<l.length:=by omega
    rw[zcc,show decide ((i:Int)<(l.length:Int))=true by simp;omega,cond_true,zdg (by omega),zba,zdw hil]
    by_cases he:s=l[i]
    ·have:l.findIdx? (fun x=>decide (s=x))=some i:=by
      rw[List.findIdx?_eq_some_iff_getElem]
      refine⟨hil,by simpa using he,fun j hj=> ?_⟩
      have hne:=hno l[j] (List.mem_take_iff_getElem.2 ⟨j,by omega,rfl⟩)
      simpa using hne
     rw[this,show decide (s=l[i])=true by simpa using he];rfl
    ·rw[show decide (s=l[i])=false by simpa using he,cond_false,zdg (by omega)]
     have:=ih (i+1) (by omega) (fun x hx=>by
      rw[List.take_succ_eq_append_getElem hil,List.mem_append] at hx
      rcases hx with hx|hx
      ·exact hno x hx
      ·rw[List.mem_singleton] at hx;rw[hx];exact he) n (by omega)
     simp only[Int.natCast_add,Int.natCast_one] at this
     exact this
 have h0:=key l.length 0 (by omega) (fun x hx=>by simp at hx) fuel hf
 simp only[Int.natCast_zero] at h0
 unfold zeb
 rw[h0]
 cases l.findIdx? (fun x=>decide (s=x))<;>rfl
theorem cts_eq {fuel : Nat} (l:List BS)(s:BS)(hf:l.length<fuel)(hl:l.length<2^60):qfr fuel l s=some (decide (s∈l)):=by
  unfold qfr
  refine zbh _ (ixs_eq l s hf hl) ?_
  cases h:l.findIdx? (fun x=>decide (s=x)) with
  | none=>
    rw[List.findIdx?_eq_none_iff] at h
    have:s∉l:=fun hm=>by have:=h s hm;simp at this
    simp[this]
  | some i=>
    rw[List.findIdx?_eq_some_iff_getElem] at h
    obtain⟨hi,h1,_⟩:=h
    have : s ∈ l := by have h1:s=l[i]:=by simpa using h1
                       rw[h1];exact List.getElem_mem hi
    simp[this]
def zop (l:List BS):List Tr→List BS
 |[]=>l
 |x::xs=>zop (if x.k=2∧x.s∉l then l++[x.s] else l) xs
def zrd (t:Tr):List BS:=if zbj t=true then zop [] (pre t) else[]
theorem ztt: ∀(xs:List Tr) (l:List BS),xs.foldl (fun l x=>if x.k=2∧x.s∉l then l++[x.s] else l) l=zop l xs
 |[],l=>rfl
 |x::xs,l=>by rw[List.foldl_cons,ztt xs,zop]
theorem zxj: ∀(xs:List Tr) (l:List BS),(zop l xs).length≤l.length+xs.length
 |[],l=>by simp[zop]
 | x::xs,l=>by
  rw[zop]
  have:=zxj xs (if x.k=2∧x.s∉l then l++[x.s] else l)
  have h1:(if x.k=2∧x.s∉l then l++[x.s] else l).length≤l.length+1:=by split<;>simp
  rw[List.length_cons];omega
theorem zxk (t:Tr):(zrd t).length≤10000:=by
 unfold zrd
 split
 ·rename_i h
  have h:(pre t).length≤10000:=by simpa[zbj] using h
  have:=zxj (pre t) [];simp at this;omega
 ·simp
theorem qic {fuel:Nat} (t:Tr)(h:(pre t).length<2^61)(hf:10001<fuel):zno fuel t=some (zrd t):=by
 unfold zno zrd
 refine zbw (if zbj t=true then zop [] (pre t) else[]) (zm h (zad fun x1 e1=> ?_)) rfl
 subst e1
 cases hl:zbj t with
 |false=>rfl
 | true=>
  have hl:(pre t).length≤10000:=by simpa[zbj] using hl
  refine zbp rfl (zm h (zad fun x2 e2=> ?_))
  subst e2
  rw[if_pos rfl]
  refine zbw (zop [] (pre t)) ?_ rfl
  rw[←ztt]
  refine zsr (fun l x=>if x.k=2∧x.s∉l then l++[x.s] else l) (fun s k=>s.length+k≤(pre t).length) (pre t) [] (by simp) (fun s x k _ hk hI=> ?_)
  by_cases h2:x.k=2
  ·have hc:=cts_eq (fuel:=fuel) s x.s (by omega) (by omega)
   by_cases hm:x.s∈s
   ·rw[if_neg (by simp[hm])]
    refine⟨zbp (by simp[h2]) (zbh _ hc (by simp[hm])),by omega⟩
   ·rw[if_pos ⟨h2,hm⟩]
    refine⟨zbp (by simp[h2]) (zbh _ hc (zbp (by simp[hm]) (zm (by simp only[List.length_cons,List.length_nil];omega) rfl))),by simp only[List.length_append,List.length_cons,List.length_nil];omega⟩
  ·rw[if_neg (by simp[h2])]
   exact⟨zaw (by simp;omega) rfl,by omega⟩
def isNone (t:Tr):Bool:=zfo t noneT
theorem zqo (t:Tr):isNone t=true↔t=noneT:=zlh _ _
theorem z9c (t:Tr)(h:(pre t).length<2^61):zvl t=some (isNone t):=by
 unfold zvl
 by_cases h0:t.k=0
 ·refine zbp (by simp[h0]) (zm ⟨h,by decide⟩ (zad fun x e=> ?_))
  subst e
  cases hs:isNone t with
  | true=>
   have:=(zqo t).1 hs
   subst this;rfl
  | false=>
   have hs:zfo t noneT=false:=hs
   rw[zkm,hs,Bool.and_false]
 ·cases hs:isNone t with
  | true=>
   have:=(zqo t).1 hs
   subst this;exact absurd rfl h0
  |false=>exact zaw (by simp;omega) rfl
theorem qpf (t:Tr)(h:(pre t).length<2^61):Pure (ITP Tryz.prog) Tryz.prog 66 [.agg (Enc.cells t)] (.raw (.bool (isNone t))):=qak t _ (z9c t h)
def z3j (t:Tr):List Tr:=if isNone t=true then[] else[t]
theorem k_first (t:Tr)(h:(pre t).length<2^61):Pure (ITP Tryz.prog) Tryz.prog 61 [.agg (Enc.cells t)] (.list (z3j t).length (Enc.cellsL (z3j t)) .none):=by
 refine qfc t _ ?_
 unfold z0z z3j
 refine zbh _ (z9c t h) ?_
 cases isNone t<;>rfl
def zog (l:List Tr):List BS:=zld (l.flatMap zrd)
theorem z2n (l:List Tr)(h:l.length<2^20∧ ∀x∈l,(pre x).length<2^61):Pure (ITP Tryz.prog) Tryz.prog 53 [.list l.length (Enc.cellsL l) .none] (.list (zog l).length (Enc.cellsL (zog l)) .none):=by
 refine qdq (2^20+10002) l _ ?_
 have hlen: ∀m:List Tr,(m.flatMap zrd).length≤10000*m.length:=fun m=>by
  induction m with
  |nil=>simp
  |cons x m ih=>rw[List.flatMap_cons,List.length_append,List.length_cons];have:=zxk x;omega
 unfold zue zog
 refine zbw (l.flatMap zrd) ?_ (zm (by have:=hlen l;omega) rfl)
 refine zet l.length (fun i=>((l.take i).flatMap zrd,(i:Int))) (by simp) (fun i hi=> ?_) ?_ (by omega)
 ·refine zbp (by simpa using hi) (zm (by simp only;omega) (zad fun x1 e1=> ?_))
  simp only at e1
  rw[zdw hi] at e1
  have hm:x1∈l:=e1▸List.getElem_mem hi
  have q1:=hlen (l.take i)
  have q2:=zxk x1
  have q3:(l.take i).length≤l.length:=List.length_take_le' _ _
  refine zbh _ (qic x1 (h.2 x1 hm) (by omega)) (zm (by simp only;omega) (zm (by simp only;omega) ?_))
  rw[List.take_succ_eq_append_getElem hi,List.flatMap_append,e1]
  simp
 ·refine zaw (by simp) ?_
  simp
end Go.Ab
