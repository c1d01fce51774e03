/-
  derive, in plain words: what the plain tree has of the tree.
-/
import Derived.Test.YtfkkellnlmjenaaGreatZeLe
set_option linter.unusedSimpArgs false
set_option linter.unusedVariables false
namespace Go.Ab
open Go Go.RowKit Go.Fwd Go.Proofs
theorem z4l {α:Type}: ∀(l m:List α),l.Nodup→(∀x∈l,x∈m)→l.length≤m.length
 |[],m,_,_=>Nat.zero_le _
 | x::l,m,hn,hs=>by
  obtain⟨h1,h2⟩:=List.nodup_cons.1 hn
  obtain⟨a,b,rfl⟩:=List.append_of_mem (hs x (by simp))
  have:=z4l l (a++b) h2 fun y hy=>by
   have hy2:=hs y (List.mem_cons_of_mem _ hy)
   have hne:y≠x:=fun e=>h1 (e▸hy)
   simp only[List.mem_append,List.mem_cons] at hy2⊢
   rcases hy2 with h|h|h
   ·exact .inl h
   ·exact absurd h hne
   ·exact .inr h
  simp only[List.length_append,List.length_cons] at this⊢
  omega
def RS (p:Tr)(D l:List Tr):Prop:=l.Nodup∧ ∀y∈l,y=p∨y∈D
theorem RS.len {p:Tr} {D l:List Tr} (h:RS p D l):l.length≤D.length+1:=by
 have:=z4l l (p::D) h.1 fun y hy=>by rw[List.mem_cons];exact h.2 y hy
 simpa using this
theorem qhc {l:List Tr} (h: ∀x∈l,BO x):(qll l).Nodup∧ ∀z,z∈qll l↔z∈l:=by
 have hg:GdL l:=fun x hx=>⟨(h x hx).1,by have:=zeh (h x hx);omega⟩
 obtain⟨h1,h2⟩:=qbx hg
 exact⟨h1.imp fun {a b} hab e=>by subst e;rw[qai] at hab;omega,h2⟩
structure TD (p:Tr)(D:List Tr):Prop where
 cr:CR p
 tb:tbT p≤3900
 pd:PD p D
theorem TD.bo {p:Tr} {D l:List Tr} (h:TD p D)(hl:RS p D l): ∀y∈l,BO y:=fun y hy=>by
 have:=h.tb
 rcases hl.2 y hy with rfl|hy
 ·exact⟨h.cr,by omega⟩
 ·obtain⟨⟨k1,k2⟩,_⟩:=h.pd.2 y hy;exact⟨k1,by omega⟩
theorem TD.beh {p:Tr} {D l:List Tr} (h:TD p D)(hl:RS p D l)(c:Nat):RS p D (qme l c):=by
 have hb: ∀y∈l.flatMap (byT c),y∈D:=fun y hy=>by
  obtain⟨x,hx,hy⟩:=List.mem_flatMap.1 hy
  rcases hl.2 x hx with rfl|hx
  ·exact h.pd.1 c y hy
  ·exact(h.pd.2 x hx).2 c y hy
 have ht:=h.tb
 obtain⟨h1,h2⟩:=qhc (l:=l.flatMap (byT c)) fun y hy=>by
  obtain⟨⟨k1,k2⟩,_⟩:=h.pd.2 y (hb y hy);exact⟨k1,by omega⟩
 exact⟨h1,fun y hy=> .inr (hb y ((h2 y).1 hy))⟩
def znw (l:List Tr)(s:List UInt8):List Tr:=s.foldl (fun l c=>qme l c.toNat) l
theorem qgn (l:List Tr)(s:List UInt8)(c:UInt8):znw l (s++[c])=qme (znw l s) c.toNat:=by simp[znw]
theorem TD.word {p:Tr} {D:List Tr} (h:TD p D): ∀(s:List UInt8) (l:List Tr),RS p D l→RS p D (znw l s)
 |[],l,hl=>hl
 |c::s,l,hl=>TD.word h s _ (h.beh hl c.toNat)
theorem qdi {l:List Tr} (h: ∀y∈l,BO y)(c:Nat):(l.flatMap (byT c)).length≤4000*l.length:=by
 induction l with
 |nil=>simp
 | cons x l ih=>
  have:=qlt (h x (by simp)) c
  have:=ih fun y hy=>h y (List.mem_cons_of_mem _ hy)
  rw[List.flatMap_cons,List.length_append,List.length_cons];omega
theorem zvp {fuel:Nat} {t:Tr} {D:List Tr} {s:List UInt8} (h:Gd t)(hD:TD (plT t) D)(hl:D.length≤1000)(hs:s.length≤4096)(hf:s.length<fuel):znl fuel t s=some (znw [plT t] s,0):=by
 obtain⟨h1,h2,h3⟩:=qiq h
 unfold znl
 refine zbh _ (zov h) (zaw rfl (zaw (by simp;omega) (zm h.cs (zad fun x e=> ?_))))
 subst e
 refine zm (by omega) (zad fun x3 e3=> ?_)
 rw[z3j,if_neg (by rw[Gd.notNone h1];exact Bool.false_ne_true)] at e3
 subst e3
 have h0:RS (plT t) D [plT t]:=⟨by simp,fun y hy=>by rw[List.mem_singleton] at hy;exact .inl hy⟩
 refine zbw (znw [plT t] s) ?_ rfl
 refine zet s.length (fun i=>(znw [plT t] (s.take i),(i:Int))) (by simp[znw]) (fun i hi=> ?_) ?_ (by omega)
 ·refine zbp (by simpa using hi) (zm (by simp only;omega) (zad fun x4 e4=> ?_))
  simp only at e4
  rw[zdw hi] at e4
  subst e4
  have hr:=hD.word (s.take i) _ h0
  have hb:=hD.bo hr
  have hlen:=hr.len
  have hc:=qdi hb s[i].toNat
  refine zm ⟨by omega,⟨⟨by rw[Int.toNat_natCast];exact UInt8.toNat_lt _,hb⟩,by simp only[Int.toNat_natCast];omega,by simp only;omega⟩⟩ (zad fun x5 e5=>zm (by simp only;omega) ?_)
  rw[Int.toNat_natCast] at e5
  rw[List.take_add_one,List.getElem?_eq_getElem hi,Option.toList,qgn,e5]
  simp
 ·refine zaw (by simp) ?_
  simp
theorem qdw {t x:Tr} (h:x∈zae t.l):x∈pre t:=by rw[zcq];exact List.mem_cons_of_mem _ h
theorem zyr (k:Nat): ∀(l:List Tr) (x:Tr),x∈zae (zar k l)→x∈zae l
 |[],x,h=>h
 | y ::l,x,h=>by
  rw[zbv,zbg] at h
  rw[zae]
  rcases List.mem_append.1 h with h|h
  ·refine List.mem_append_left _ ?_
   cases hk:((y.k:Int)==(k:Int)) with
   |true=>rw[hk] at h;exact qdw h
   | false=>
    rw[hk] at h
    cases h1:(((k:Int)==3)&&((y.k:Int)==1)) with
    |true=>rw[h1] at h;simp[zae] at h
    |false=>rw[h1] at h;simpa[zae] using h
  ·exact List.mem_append_right _ (zyr k l x h)
theorem qkl (k:Nat): ∀(m:List Tr) (x:Tr),x∈pre (zmw k m)→x∈zae m∨x.k=1∨x.k=k
 | [],x,h=>by
  have h:x∈pre emptyT:=h
  simp[emptyT,pre,zae] at h
  subst h;exact .inr (.inl rfl)
 |[a],x,h=>by rw[zga] at h;exact .inl (by simpa[zae] using h)
 | a::b::m,x,h=>by
  rw[zen,pre] at h
  rcases List.mem_cons.1 h with rfl|h
  ·exact .inr (.inr rfl)
  ·exact .inl h
theorem z7v {x:Tr} {k:Nat} (hk:x.k=k)(h:k=3∨k=4):zdf x=min (zcy x.l) 10001:=zlo x (by omega) (by omega)
theorem z0o {k:Nat} (hk:k=3∨k=4): ∀l:List Tr,zcy l≤400→zcy (zar k l)≤zcy l
 |[],_=>Int.le_refl _
 | y ::l,h=>by
  have h1:=zcu y
  have h2:=zck l
  rw[zcy] at h⊢
  have ih:=z0o hk l (by omega)
  rw[zbv,zcv]
  have:zcy (bif ((y.k:Int)==(k:Int)) then y.l else bif (((k:Int)==3)&&((y.k:Int)==1)) then[] else[y])≤zdf y:=by
   cases hy:((y.k:Int)==(k:Int)) with
   | true=>
    have e:y.k=k:=by simp at hy;omega
    have:=z7v e hk
    show zcy y.l≤zdf y
    omega
   | false=>
    cases (((k:Int)==3)&&((y.k:Int)==1)) with
    |true=>show zcy []≤zdf y;simpa[zcy] using h1
    |false=>show zcy [y]≤zdf y;simp[zcy]
  omega
theorem qfy {k:Nat} (hk:k=3∨k=4): ∀m:List Tr,zdf (zmw k m)≤zcy m
 |[]=>by rw[show zmw k []=emptyT from rfl,zmd];simp[zcy]
 |[a]=>by rw[zga];simp[zcy]
 | a::b::m=>by
  rw[zen,zlo _ (by simp[Tr.k];omega) (by simp[Tr.k];omega)]
  simp only[Tr.l];omega
theorem z0f {t:Tr} (h:zdr t=true)(hk:t.k=2):t.l=[]:=by
 cases t with
 | mk k s mn mx l=>
  simp only[Tr.k] at hk
  subst hk
  cases l with
  |nil=>rfl
  | cons a l=>
   exfalso
   rw[zdq,zju] at h
   simp at h
theorem qqj : ∀ (n : Nat) (t : Tr), (pre t).length≤n→CS 998 t→(∀x∈pre (plT t),x.k≠6)∧nullT (plT t)=nullT t∧(zdf t≤400→zdf (plT t)≤zdf t)
  |0,t,hn,_=>by have:=zsm t;omega
  | n + 1, t,hn,h=>by
    have hp:(pre t).length=1+(zae t.l).length:=by rw[zcq,List.length_cons];omega
    have hcl:=((zbc t).1 h.1).2
    have hh:=h.2
    obtain⟨k1,k2⟩:=qiu h
    have ih: ∀x∈t.l,(∀y∈pre (plT x),y.k≠6)∧nullT (plT x)=nullT x∧(zdf x≤400→zdf (plT x)≤zdf x):=fun x hx=>by
      have:=zbq hx
      exact qqj n x (by omega) ⟨(zdi _).1 hcl x hx,by omega⟩
    have g6: ∀y∈zae (t.l.map plT),y.k≠6:=by
      have : ∀l:List Tr,(∀x∈l,∀y∈pre (plT x),y.k≠6)→ ∀y∈zae (l.map plT),y.k≠6:=by
        intro l
        induction l with
        |nil=>intro _ y hy;simp[zae] at hy
        | cons x l ih2=>
          intro hl y hy
          rw[List.map_cons,zae] at hy
          rcases List.mem_append.1 hy with hy|hy
          · exact hl x (by simp) y hy
          · exact ih2 (fun z hz=>hl z (List.mem_cons_of_mem _ hz)) y hy
      exact this t.l fun x hx=>(ih x hx).1
    have gp:zcy t.l≤400→zcy (t.l.map plT)≤zcy t.l:=by
      have : ∀l:List Tr,(∀x∈l,zdf x≤400→zdf (plT x)≤zdf x)→zcy l≤400→zcy (l.map plT)≤zcy l:=by
        intro l
        induction l with
        |nil=>intro _ _;exact Int.le_refl _
        | cons x l ih2=>
          intro hl hp
          have h1:=zcu x
          have h2:=zck l
          rw[zcy] at hp
          rw[List.map_cons,zcy,zcy]
          have a:=hl x (by simp) (by omega)
          have b:=ih2 (fun z hz=>hl z (List.mem_cons_of_mem _ hz)) (by omega)
          omega
      exact this t.l fun x hx=>(ih x hx).2.2
    rw[z9j]
    rcases zib ((zbc t).1 h.1).1 with hk|hk|hk|hk|hk|hk<;>rw[hk]
    · show(∀x∈pre (zje t),x.k≠6)∧nullT (zje t)=nullT t∧(zdf t≤400→zdf (zje t)≤zdf t)
      rw[zje,if_pos (by simp[zbj];omega)]
      have e:=qew h.1 hk
      refine⟨fun x hx=> ?_,rfl,fun _=>Int.le_refl _⟩
      rw[e] at hx;simp[emptyT,pre,zae] at hx;subst hx;decide
    · show(∀x∈pre (zje t),x.k≠6)∧nullT (zje t)=nullT t∧(zdf t≤400→zdf (zje t)≤zdf t)
      rw[zje,if_pos (by simp[zbj];omega)]
      refine⟨fun x hx=> ?_,rfl,fun _=>Int.le_refl _⟩
      rw[zcq] at hx
      rcases List.mem_cons.1 hx with rfl|hx
      · omega
      · exfalso
        have hl:t.l=[]:=z0f ((zbc t).1 h.1).1 hk
        rw[hl] at hx;simp[zae] at hx
    · show(∀x∈pre (zfc _),x.k≠6)∧nullT (zfc _)=nullT t∧(zdf t≤400→zdf (zfc _)≤zdf t)
      rw[zrh k1 (by omega)]
      refine⟨fun x hx=> ?_,?_,fun hp4=> ?_⟩
      · rcases qkl 3 _ x hx with h|h|h
        · exact g6 x (zyr 3 _ x h)
        · omega
        · omega
      · rw[qfj,zxx,qdv hk,List.all_map]
        rw[Bool.eq_iff_iff,List.all_eq_true,List.all_eq_true]
        exact⟨fun h x hx=>by rw[←(ih x hx).2.1];exact h x hx,fun h x hx=>by show nullT (plT x)=true;rw[(ih x hx).2.1];exact h x hx⟩
      · have e:=z7v hk (.inl rfl)
        have a:=gp (by omega)
        have b:=z0o (.inl rfl) (t.l.map plT) (by omega)
        have c:=qfy (.inl rfl) (zar 3 (t.l.map plT))
        omega
    · show(∀x∈pre (orT _),x.k≠6)∧nullT (orT _)=nullT t∧(zdf t≤400→zdf (orT _)≤zdf t)
      have hl:=(zgo ((zbc t).1 h.1).1 hk).1
      have hne:t.l.map plT≠[]:=fun e=>by have:=congrArg List.length e;simp at this;simp[this] at hl
      rw[or_eq k1 hne (by omega)]
      refine⟨fun x hx=> ?_,?_,fun hp4=> ?_⟩
      · rcases qkl 4 _ x hx with h|h|h
        · exact g6 x (zyr 4 _ x h)
        · omega
        · omega
      · rw[qjq _ (z9n k1 hne),zwx,qgu hk,List.any_map]
        rw[Bool.eq_iff_iff,List.any_eq_true,List.any_eq_true]
        exact⟨fun⟨x,hx,h⟩=>⟨x,hx,by rw[←(ih x hx).2.1];exact h⟩,fun⟨x,hx,h⟩=>⟨x,hx,by show nullT (plT x)=true;rw[(ih x hx).2.1];exact h⟩⟩
      · have e:=z7v hk (.inr rfl)
        have a:=gp (by omega)
        have b:=z0o (.inr rfl) (t.l.map plT) (by omega)
        have c:=qfy (.inr rfl) (zar 4 (t.l.map plT))
        omega
    · obtain ⟨y, e, hb, _, hy⟩ := zvo h.1 hk
      have hl:t.l=[y]:=by rw[e];rfl
      obtain⟨i1,i2,i3⟩:=ih y (by rw[hl];simp)
      rw[hl] at k1 k2 hp⊢
      show(∀x∈pre (zdp (plT y) t.mn t.mx),x.k≠6)∧nullT (zdp (plT y) t.mn t.mx)=nullT t∧(zdf t≤400→zdf (zdp (plT y) t.mn t.mx)≤zdf t)
      have hc:CR (plT y):=((zaq _ _).1 k1).1
      have hs:(pre (plT y)).length≤(pre y).length:=by simpa[zae] using k2
      simp only[zae,List.append_nil] at hp
      have hbb:=(zdn _ _).1 hb
      have hnt:nullT t=(t.mn==0||nullT y):=by rw[e];exact z8x y
      rw[zlr hc (by omega) ((zgu _ _).2 (by omega)),hnt]
      split
      · rename_i h1
        have hk1 : (plT y).k = 1 := by rcases h1 with h1|h1; · omega
                                       · exact h1
        refine⟨fun x hx=> ?_,?_,fun _=> ?_⟩
        · simp[emptyT,pre,zae] at hx;subst hx;decide
        · rw[zww,←i2,qid hk1,Bool.or_true]
        · rw[zmd];exact zcu t
      · rename_i hn1
        rw[if_neg (by omega)]
        refine⟨fun x hx=> ?_,?_,fun hp4=> ?_⟩
        · rw[pre] at hx
          rcases List.mem_cons.1 hx with rfl|hx
          · show(5:Nat)≠6;decide
          · exact i1 x (by simpa[zae] using hx)
        · rw[z8x,i2]
        · rw [e] at hp4
          obtain⟨q1,q2,q3⟩:=qaw hb hp4
          have i4:=i3 q2
          have hpt:zdf t=zdf y*(zkw t.mn t.mx:Int):=by rw[q1];exact congrArg zdf e
          have h0:=zcu (plT y)
          have hJ:(if t.mx= -1 then max (max t.mn 0) 1 else max (max t.mn 0) t.mx)=(zkw t.mn t.mx:Int):=by
            by_cases h:t.mx= -1
            · rw[if_pos h];unfold zkw;rw[if_pos h];omega
            · rw[if_neg h];unfold zkw;rw[if_neg h];omega
          have e2:zdf (.mk 5 0#256 t.mn t.mx [plT y])=min (zdf (plT y)*min (zkw t.mn t.mx:Int) 10001) 10001:=by rw[←hJ];simp[zdf,zcy]
          have e3:min (zkw t.mn t.mx:Int) 10001=(zkw t.mn t.mx:Int):=by unfold zkw;split<;>omega
          rw[e2,e3,hpt]
          have:=Int.mul_le_mul_of_nonneg_right i4 (show(0:Int)≤(zkw t.mn t.mx:Int) by omega)
          omega
    · obtain⟨y,e,hy⟩:=qkj h.1 hk
      have hl:t.l=[y]:=by rw[e];rfl
      obtain⟨i1,i2,i3⟩:=ih y (by rw[hl];simp)
      rw[hl]
      show(∀x∈pre (plT y),x.k≠6)∧nullT (plT y)=nullT t∧(zdf t≤400→zdf (plT y)≤zdf t)
      have hpe:zdf t=min (zdf y) 10001:=by rw[zlo t (by omega) (by omega),hl];simp[zcy]
      refine⟨i1,?_,fun hp4=> ?_⟩
      · rw[i2];have:nullT t=nullT y:=by rw[e];exact qof y
        exact this.symm
      · have:=i3 (by omega);omega
theorem z4q: ∀ {l:List Tr} {x y:Tr},x∈l→y∈pre x→y∈zae l
 | a::l,x,y,hx,hy=>by
  rw[zae]
  rcases List.mem_cons.1 hx with rfl|hx
  ·exact List.mem_append_left _ hy
  ·exact List.mem_append_right _ (z4q hx hy)
theorem z1w: ∀ {l:List Tr},(∀x∈l,x.k≠4)→zar 4 l=l
 |[],_=>rfl
 | x::l,h=>by
  have hx:=h x (by simp)
  rw[zbv,z1w fun y hy=>h y (List.mem_cons_of_mem _ hy),show((x.k:Int)==((4:Nat):Int))=false by simp;omega,show((((4:Nat):Int)==3)&&((x.k:Int)==1))=false by simp];simp
theorem z9k {t:Tr} {k:Nat} (h:zdr t=true)(hk:t.k=k)(h2:k≠2∧k≠5)(hl:1<t.l.length):t=zmw k t.l:=by
 obtain⟨k',s,mn,mx,l⟩:=t
 simp only[Tr.k] at hk
 subst hk
 rw[zdq,zju,Bool.and_eq_true] at h
 have h1:=h.1
 have e2:((k':Int) !=2)=true:=by simp;omega
 have e5:((k':Int) !=5)=true:=by simp;omega
 rw[e2,e5] at h1
 simp at h1
 obtain⟨⟨hs,hm,hx⟩,_⟩:=h1
 subst hs hm hx
 match l,hl with
 |a::b::m,_=>rw[show(Tr.mk k' 0#256 0 0 (a::b::m)).l=a::b::m from rfl,zen]
theorem pl_id: ∀(n:Nat) (t:Tr),(pre t).length≤n→CS 998 t→(∀x∈pre t,x.k≠6)→plT t=t
 |0,t,hn,_,_=>by have:=zsm t;omega
 | n +1,t,hn,h,h6=>by
  have hp:(pre t).length=1+(zae t.l).length:=by rw[zcq,List.length_cons];omega
  have hcl:=((zbc t).1 h.1).2
  have hh:=h.2
  have hm:t.l.map plT=t.l:=by
   have: ∀l:List Tr,(∀x∈l,plT x=x)→l.map plT=l:=by
    intro l
    induction l with
    |nil=>intro _;rfl
    |cons x l ih=>intro hl;rw[List.map_cons,hl x (by simp),ih fun y hy=>hl y (List.mem_cons_of_mem _ hy)]
   refine this t.l fun x hx=> ?_
   have:=zbq hx
   exact pl_id n x (by omega) ⟨(zdi _).1 hcl x hx,by omega⟩ fun y hy=>h6 y (qdw (z4q hx hy))
  rw[z9j,hm]
  rcases zib ((zbc t).1 h.1).1 with hk|hk|hk|hk|hk|hk
  ·rw[hk];show zje t=t;rw[zje,if_pos (by simp[zbj];omega)]
  ·rw[hk];show zje t=t;rw[zje,if_pos (by simp[zbj];omega)]
  ·rw[hk];show zfc t.l=t
   obtain⟨h1,h2⟩:=zer ((zbc t).1 h.1).1 hk
   rw[zrh hcl (by omega),z7q h2]
   exact(z9k ((zbc t).1 h.1).1 hk (by omega) h1).symm
  ·rw[hk];show orT t.l=t
   obtain⟨h1,h2⟩:=zgo ((zbc t).1 h.1).1 hk
   rw[or_eq hcl (fun e=>by rw[e] at h1;simp at h1) (by omega),z1w h2]
   exact(z9k ((zbc t).1 h.1).1 hk (by omega) h1).symm
  ·rw[hk];show zdp (hdT t.l) t.mn t.mx=t
   obtain⟨y,e,hb,hy1,hy⟩:=zvo h.1 hk
   have hl:t.l=[y]:=by rw[e];rfl
   have hbb:=(zdn _ _).1 hb
   rw[hl] at hp⊢
   simp only[zae,List.append_nil] at hp
   show zdp y t.mn t.mx=t
   rw[zlr hy (by omega) ((zgu _ _).2 (by omega)),if_neg (by simp[hy1];omega),if_neg (by omega)]
   exact e.symm
  ·exact absurd hk (h6 t (by rw[zcq];exact List.mem_cons_self ..))
end Go.Ab
