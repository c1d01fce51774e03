/-
  sets.Parts: its contract.
-/
import Derived.Test.YtfkkellnlmjenaaGreatZeE9
set_option linter.unusedSimpArgs false
set_option linter.unusedVariables false
namespace Go.Ab
open Go Go.RowKit Go.Fwd
def zmr (S p:BS):List BS:=[p&&&S,p&&& ~~~S]
def zjy (S:BS)(L:List BS):List BS:=L.flatMap fun p=>(zmr S p).filter fun x=> !(x==0#256)
def zhk (l:List BS):List BS:=l.foldl (fun L S=>zjy S L) [BitVec.allOnes 256]
def zlb (l:List BS):List BS:=z7d (zhk l)
theorem z7k (l:List BS)(S:BS):zhk (l++[S])=zjy S (zhk l):=by simp[zhk]
structure Cls (m L:List BS):Prop where
 ne: ∀p∈L,p≠0#256
 all: ∀c,c<256→ ∃p∈L,p.getLsbD c=true
 cls: ∀p∈L,∀c d,c<256→d<256→p.getLsbD c=true→(p.getLsbD d=true↔ ∀s∈m,s.getLsbD c=s.getLsbD d)
 dis:L.Pairwise fun p q=>p&&&q=0#256
theorem zpv {p:BS}:p=0#256↔ ∀c,c<256→p.getLsbD c=false:=
 ⟨fun h c _=>by rw[h];simp,fun h=>BitVec.eq_of_getLsbD_eq fun c hc=>by rw[h c hc];simp⟩
theorem bs_ne {p:BS} (h:p≠0#256): ∃c,c<256∧p.getLsbD c=true:=by
 rcases Classical.em (∃c,c<256∧p.getLsbD c=true) with h'|h'
 ·exact h'
 ·exfalso;refine h (zpv.2 fun c hc=> ?_)
  cases hb:p.getLsbD c
  ·rfl
  ·exact absurd ⟨c,hc,hb⟩ h'
theorem cls_nil:Cls [] [BitVec.allOnes 256] where
 ne p hp:=by
  simp at hp;subst hp
  intro h
  have:=zpv.1 h 0 (by decide)
  simp at this
 all c hc:=⟨BitVec.allOnes 256,List.mem_singleton.2 rfl,by rw[BitVec.getLsbD_allOnes];simpa using hc⟩
 cls p hp c d hc hd h:=by
  rw[List.mem_singleton] at hp;subst hp
  rw[BitVec.getLsbD_allOnes]
  simp only[hd,decide_true,true_iff]
  intro s hs;cases hs
 dis:=by simp
theorem zsa {S x:BS} {L:List BS}:x∈zjy S L↔x≠0#256∧ ∃p∈L,x=p&&&S∨x=p&&& ~~~S:=by
 simp only[zjy,zmr,List.mem_flatMap,List.mem_filter,List.mem_cons,List.not_mem_nil,or_false,Bool.not_eq_true',beq_eq_false_iff_ne,ne_eq]
 constructor
 ·rintro⟨p,hp,h,hn⟩;exact⟨hn,p,hp,h⟩
 ·rintro⟨hn,p,hp,h⟩;exact⟨p,hp,h,hn⟩
theorem qjz {m L:List BS} (h:Cls m L)(S:BS):Cls (m++[S]) (zjy S L) where
 ne p hp:=(zsa.1 hp).1
 all c hc:=by
  obtain⟨p,hp,hb⟩:=h.all c hc
  cases hS:S.getLsbD c
  ·have hx:(p&&& ~~~S).getLsbD c=true:=by rw[BitVec.getLsbD_and,BitVec.getLsbD_not,hb,hS];simp[hc]
   exact⟨_,zsa.2 ⟨fun e=>(by rw[e] at hx;simp at hx),p,hp,.inr rfl⟩,hx⟩
  ·have hx:(p&&&S).getLsbD c=true:=by simp[hb,hS]
   exact⟨_,zsa.2 ⟨fun e=>(by rw[e] at hx;simp at hx),p,hp,.inl rfl⟩,hx⟩
 cls x hx c d hc hd hb:=by
  obtain⟨_,p,hp,he⟩:=zsa.1 hx
  have spl: ∀s,s∈m++[S]↔s∈m∨s=S:=fun s=>by simp
  rcases he with rfl|rfl
  ·simp only[BitVec.getLsbD_and,Bool.and_eq_true] at hb⊢
   rw[h.cls p hp c d hc hd hb.1]
   constructor
   ·rintro⟨h1,h2⟩ s hs
    rcases(spl s).1 hs with hs|rfl
    ·exact h1 s hs
    ·rw[hb.2,h2]
   ·intro h1
    exact⟨fun s hs=>h1 s ((spl s).2 (.inl hs)),by rw[←h1 S ((spl S).2 (.inr rfl)),hb.2]⟩
  ·simp only[BitVec.getLsbD_and,BitVec.getLsbD_not,hc,hd,decide_true,Bool.true_and,Bool.and_eq_true,Bool.not_eq_true'] at hb⊢
   rw[h.cls p hp c d hc hd hb.1]
   constructor
   ·rintro⟨h1,h2⟩ s hs
    rcases(spl s).1 hs with hs|rfl
    ·exact h1 s hs
    ·rw[hb.2,h2]
   ·intro h1
    exact⟨fun s hs=>h1 s ((spl s).2 (.inl hs)),by rw[←h1 S ((spl S).2 (.inr rfl)),hb.2]⟩
 dis :=by
  unfold zjy
  rw[List.pairwise_flatMap]
  constructor
  ·intro p _
   refine List.Pairwise.filter _ ?_
   simp only[zmr,List.pairwise_cons,List.mem_cons,List.not_mem_nil,or_false,forall_eq,List.Pairwise.nil,and_true,false_implies,implies_true]
   refine zpv.2 fun c hc=> ?_
   simp only[BitVec.getLsbD_and,BitVec.getLsbD_not,hc,decide_true,Bool.true_and]
   cases p.getLsbD c<;>cases S.getLsbD c<;>rfl
  ·refine h.dis.imp fun {p q} hpq x hx y hy=> ?_
   have hx':=(List.mem_filter.1 hx).1
   have hy':=(List.mem_filter.1 hy).1
   refine zpv.2 fun c hc=> ?_
   have h0:=zpv.1 hpq c hc
   rw[BitVec.getLsbD_and] at h0⊢
   have sub: ∀z w:BS,z∈zmr S w→z.getLsbD c=true→w.getLsbD c=true:=by
    intro z w hz hb
    simp only[zmr,List.mem_cons,List.not_mem_nil,or_false] at hz
    rcases hz with rfl|rfl<;> · rw[BitVec.getLsbD_and,Bool.and_eq_true] at hb;exact hb.1
   cases hxc:x.getLsbD c
   ·rfl
   ·cases hyc:y.getLsbD c
    ·rfl
    ·rw[sub x p hx' hxc,sub y q hy' hyc] at h0;cases h0
theorem z2p (m:List BS):Cls m (zhk m):=by
 suffices ∀(k m0 L:List BS),Cls m0 L→Cls (m0++k) (k.foldl (fun L S=>zjy S L) L) by
  have:=this m [] _ cls_nil
  simpa[zhk] using this
 intro k
 induction k with
 |nil=>intro m0 L h;simpa using h
 | cons S k ih=>
  intro m0 L h
  have:=ih (m0++[S]) _ (qjz h S)
  simpa using this
theorem z8j (m:List BS):Cls m (zlb m):=by
 have h:=z2p m
 have hp:(zlb m).Perm (zhk m):=zjz _
 refine⟨fun p hm=>h.ne p (hp.mem_iff.1 hm),fun c hc=> ?_,fun p hm=>h.cls p (hp.mem_iff.1 hm),?_⟩
 ·obtain⟨p,h1,h2⟩:=h.all c hc
  exact⟨p,hp.mem_iff.2 h1,h2⟩
 ·refine(hp.pairwise_iff fun {a b} hab=> ?_).2 h.dis
  rw[BitVec.and_comm];exact hab
def lst (p:BS)(c:Nat):Prop:=c<256∧p.getLsbD c=true∧ ∀j,j<c→p.getLsbD j=false
theorem cmpS_lt {p q:BS} (h:zws p q≤0):p=q∨ ∃c,c<256∧p.getLsbD c=true∧q.getLsbD c=false∧ ∀j,j<c→p.getLsbD j=q.getLsbD j:=by
 unfold zws at h
 rw[zxi _ _ (fun j=>p.getLsbD j !=q.getLsbD j) _ (fun _ _=>rfl)] at h
 cases hf:(List.range 256).filter (fun j=>p.getLsbD j !=q.getLsbD j) with
 | nil=>
  left
  apply BitVec.eq_of_getLsbD_eq
  intro j hj
  have:=List.filter_eq_nil_iff.1 hf j (by simpa using hj)
  simpa using this
 | cons c r=>
  right
  rw[hf] at h
  obtain⟨l1,l2,e1,e2,e3,_⟩:=List.filter_eq_cons_iff.1 hf
  have hlen:l1.length<256:=by
   have:=congrArg List.length e1
   simp only[List.length_range,List.length_append,List.length_cons] at this;omega
  have hc:l1.length=c:=by
   have h1:(List.range 256)[l1.length]? =some l1.length:=by rw[List.getElem?_range hlen]
   rw[e1,List.getElem?_append_right (Nat.le_refl _),Nat.sub_self] at h1
   simpa using h1.symm
  have hlow: ∀j,j<c→p.getLsbD j=q.getLsbD j:=fun j hj=>by
   have h1:(List.range 256)[j]? =some j:=by rw[List.getElem?_range (by omega)]
   rw[e1,List.getElem?_append_left (by omega)] at h1
   have:=e2 j (List.mem_of_getElem? h1)
   simpa using this
  have hp:p.getLsbD c=true:=by
   have h:(if p.getLsbD c=true then(-1:Int) else 1)≤0:=h
   cases hpc:p.getLsbD c with
   |true=>rfl
   |false=>rw[hpc] at h;simp at h
  have hq:q.getLsbD c=false:=by
   have e3:(p.getLsbD c !=q.getLsbD c)=true:=e3
   rw[hp] at e3;cases hqc:q.getLsbD c with
   |false=>rfl
   |true=>rw[hqc] at e3;cases e3
  exact⟨c,by omega,hp,hq,hlow⟩
theorem qld (m:List BS):(zlb m).Pairwise fun p q=>p&&&q=0#256∧ ∀c d,lst p c→lst q d→c<d:=by
 have h:=z8j m
 have hs:(zlb m).Pairwise fun x y=>zws x y≤0:=zlj _
 have hn:(zlb m).Pairwise fun p q=>p≠0#256∧q≠0#256:=List.pairwise_iff_forall_sublist.2 fun {a b} hab=>⟨h.ne a (hab.subset (by simp)),h.ne b (hab.subset (by simp))⟩
 refine((h.dis.and hs).and hn).imp ?_
 rintro p q ⟨⟨hd,hl⟩,hp,hq⟩
 refine⟨hd,fun c d hc hdd=> ?_⟩
 rcases cmpS_lt hl with rfl|⟨e,he,h1,h2,h3⟩
 ·exfalso;rw[BitVec.and_self] at hd;exact hp hd
 ·have low: ∀j,j<e→p.getLsbD j=false:=fun j hj=>by
   have h0:=zpv.1 hd j (by omega)
   rw[BitVec.getLsbD_and,←h3 j hj,Bool.and_self] at h0
   exact h0
  have hce:c=e:=by
   rcases Nat.lt_trichotomy c e with hlt|rfl|hgt
   ·have:=hc.2.1;rw[low c hlt] at this;cases this
   ·rfl
   ·have:=hc.2.2 e hgt;rw[h1] at this;cases this
  subst hce
  rcases Nat.lt_or_ge c d with hlt|hge
  ·exact hlt
  ·exfalso
   rcases Nat.lt_or_ge d c with hlt|hge2
   ·have:=hdd.2.1;rw[←h3 d hlt,low d hlt] at this;cases this
   ·obtain rfl:d=c:=by omega
    have:=hdd.2.1;rw[h2] at this;cases this
theorem qca (P:Nat→Bool): ∀(n:Nat),P n=true→ ∃c,c≤n∧P c=true∧ ∀j,j<c→P j=false:=by
 intro n
 induction n using Nat.strongRecOn with
 | _ n ih=>
  intro h
  by_cases hj: ∃j,j<n∧P j=true
  ·obtain⟨j,hj,hp⟩:=hj
   obtain⟨c,h1,h2,h3⟩:=ih j hj hp
   exact⟨c,by omega,h2,h3⟩
  ·exact⟨n,Nat.le_refl _,h,fun j hjn=>by
    cases hp:P j with
    |false=>rfl
    |true=>exact absurd ⟨j,hjn,hp⟩ hj⟩
theorem lst_of {p:BS} (h:p≠0#256): ∃c,lst p c:=by
 obtain⟨c,hc,hb⟩:=bs_ne h
 obtain⟨d,h1,h2,h3⟩:=qca p.getLsbD c hb
 exact⟨d,by omega,h2,h3⟩
theorem z9a: ∀(L:List BS) (a:Nat),(∀p∈L,∃c,lst p c∧a≤c)→L.Pairwise (fun p q=> ∀c d,lst p c→lst q d→c<d)→a+L.length≤256∨L=[]
 |[],a,_,_=> .inr rfl
 | p::L,a,h,hp=>by
  obtain⟨c,hc,hac⟩:=h p (by simp)
  have hp':=List.pairwise_cons.1 hp
  have:=hc.1
  rcases z9a L (c+1) (fun q hq=>by
   obtain⟨d,hd,_⟩:=h q (List.mem_cons_of_mem _ hq)
   exact⟨d,hd,hp'.1 q hq c d hc hd⟩) hp'.2 with h1|rfl
  ·left;simp only[List.length_cons];omega
  ·left;simp only[List.length_cons,List.length_nil];omega
theorem qbk (m:List BS):(zlb m).length≤256:=by
 have h:=z8j m
 rcases z9a (zlb m) 0 (fun p hp=>by obtain⟨c,hc⟩:=lst_of (h.ne p hp);exact⟨c,hc,Nat.zero_le _⟩) ((qld m).imp fun h=>h.2) with h1|h1
 ·omega
 ·rw[h1];simp
theorem zxe (m:List BS):(zhk m).length≤256:=by rw[←(zjz (zhk m)).length_eq];exact qbk m
theorem z2t (m:List BS):zhk m≠[]:=fun e=>by
 obtain⟨p,hp,_⟩:=(z2p m).all 0 (by decide)
 rw[e] at hp;cases hp
end Go.Ab
namespace Go.Ab
open Go Go.RowKit Go.Fwd Go.Proofs
theorem qgo (S:BS)(L:List BS)(i:Nat)(hi:i<L.length):zjy S (L.take (i+1))=zjy S (L.take i)++(zmr S L[i]).filter fun x=> !(x==0#256):=by
 unfold zjy;rw[List.take_succ_eq_append_getElem hi,List.flatMap_append];simp
theorem qkq (S:BS)(L:List BS):(zjy S L).length≤2*L.length:=by
 induction L with
 |nil=>simp[zjy]
 | cons p L ih=>
  have h1:zjy S (p::L)=((zmr S p).filter fun x=> !(x==0#256))++zjy S L:=by simp[zjy]
  have h2:=List.length_filter_le (fun x=> !(x==0#256)) (zmr S p)
  rw[h1,List.length_append,List.length_cons]
  simp only[zmr,List.length_cons,List.length_nil] at h2
  simp only[zmr];omega
theorem qkp {fuel:Nat} (l:List BS)(hl:l.length<2^40)(hf:l.length<fuel∧300<fuel):zyo fuel l=some (zlb l):=by
 unfold zyo
 refine zcb (zhk l) ?_ ?_
 ·refine zew l.length (fun i=>((i:Int),zhk (l.take i))) (by simp[zhk,allS]) (fun i hi=> ?_) ?_ hf.1
  ·refine zbe (by simpa using hi) (zcb (zhk (l.take (i+1))) (zq (by simp only;omega) (zai fun x1 e1=> ?_)) (zq (by simp only;omega) rfl))
   simp only at e1
   rw[zel hi] at e1
   rw[List.take_succ_eq_append_getElem hi,z7k,e1]
   have hne:=z2t (l.take i)
   have hL:=zxe (l.take i)
   generalize zhk (l.take i)=L at hne hL
   refine zcb (zjy x1 L) ?_ rfl
   have hemp:List.isEmpty L=false:=by cases L with|nil=>exact absurd rfl hne|cons a L=>rfl
   refine zew L.length (fun j=>((j:Int),zjy x1 (L.take j))) (by simp[zjy]) (fun j hj=> ?_) ?_ (by omega)
   ·have hs:=qkq x1 (L.take j)
    rw[List.length_take,Nat.min_eq_left (by omega)] at hs
    refine zbe (by simpa using hj) (zcb (zjy x1 (L.take (j+1))) ?_ (zq (by simp only;omega) rfl))
    rw[qgo _ _ _ hj]
    generalize zjy x1 (L.take j)=N at hs
    refine zay hemp (zq (by simp only;omega) (zq (by simp only;omega) (zai fun x2 e2=> ?_)))
    simp only at e2
    rw[zel hj] at e2
    subst e2
    refine zai fun x3 e3=>zai fun x4 e4=> ?_
    refine zew 2 (fun k=>((k:Int),N++(([x3,x4].take k).filter fun x=> !(x==0#256)))) (by simp) (fun k hk=> ?_) ?_ (by omega)
    ·have hk2:k<[x3,x4].length:=hk
     have hflt:=List.length_filter_le (fun x=> !(x==0#256)) ([x3,x4].take k)
     have htk:([x3,x4].take k).length≤2:=by simp;omega
     refine zbe (by simp;omega) (zcb (N++(([x3,x4].take (k+1)).filter fun x=> !(x==0#256))) ?_ (zq (by simp only;omega) rfl))
     rw[List.take_succ_eq_append_getElem hk2,List.filter_append,←List.append_assoc]
     have hM:(N++(([x3,x4].take k).filter fun x=> !(x==0#256))).length≤1000:=by rw[List.length_append];omega
     simp only
     generalize N++(([x3,x4].take k).filter fun x=> !(x==0#256))=M at hM
     refine zq (by simp only[List.length_cons,List.length_nil];omega) (zai fun x5 e5=> ?_)
     rw[zel hk2] at e5
     rw[e5]
     by_cases hx:x5=0#256
     ·rw[show[x5].filter (fun x=> !(x==0#256))=[] by simp[hx],List.append_nil];exact zay (by simpa using hx) rfl
     ·rw[show[x5].filter (fun x=> !(x==0#256))=[x5] by simp[hx]]
      refine zbe (by simpa using hx) ?_
      cases M with
      |nil=>exact zbe rfl (zq (by simp) rfl)
      |cons m M=>exact zay rfl (zq (by simp only[List.length_cons,List.length_nil] at hM⊢;exact⟨trivial,by omega,by omega,by omega⟩) rfl)
    ·refine zay (by simp) ?_
     subst e3 e4;rfl
   ·refine zay (by simp) ?_
    simp
  ·refine zay (by simp) ?_
   simp
 ·have hne:=z2t l
  have hL:=zxe l
  have hemp:List.isEmpty (zhk l)=false:=by cases h:zhk l with|nil=>exact absurd h hne|cons a L=>rfl
  refine zay hemp (zq ⟨List.length_pos_iff.2 hne,by omega⟩ (zai fun x6 e6=>zq ?_ ?_))
  ·subst e6;exact(zjz _).length_eq
  ·subst e6;rfl
theorem k_parts (l:List BS)(hl:l.length<2^40):Pure (ITP Tryz.prog) Tryz.prog 96 [.list l.length (Enc.cellsL l) .none] (.list (zlb l).length (Enc.cellsL (zlb l)) .none):=qkt (l.length+301) l _ (qkp l hl (by omega))
end Go.Ab
