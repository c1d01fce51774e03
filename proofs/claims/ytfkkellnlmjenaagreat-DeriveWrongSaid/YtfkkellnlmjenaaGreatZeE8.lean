/-
  derive: behind.
-/
import Derived.Test.YtfkkellnlmjenaaGreatZeE5
import Derived.Shelf.SlGeneric
import Derived.Shelf.SlLaysF0
import Derived.Test.YtfkkellnlmjenaaGreatProg
import Derived.Shelf.SlSortCmp.WholeK
set_option linter.unusedSimpArgs false
set_option linter.unusedVariables false
set_option maxRecDepth 100000
namespace Go.Ab
open Go Go.RowKit Go.Fwd Go.Proofs
theorem qib {IT:IterP} {P:Program} {f:FuncId} {args:List AV} {σ σ':St} {r:AV} (h:Snd IT P f args σ r σ'):Snd IT P f args σ .top σ':=⟨h.1,fun X vs hI hr=>(h.2 X vs hI hr).mono fun e w' ⟨v,Y,h1,h2,h3,h4,_⟩=>⟨v,Y,h1,h2,h3,h4,by rw[Rep];trivial⟩⟩
abbrev Bx:=List (TypeId×List AV)
def PI (bs:Bx)(p:Nat)(l:List Tr):Prop:=(l=[]∧bs[0]? =some (27,[.list 0 [] .full]))∨(l≠[]∧0<p∧bs[0]? =some (27,[.bsl p 0 l.length 8 false])∧bs[p]? =some (29,Enc.cellsL l))
theorem qcd {l:List Tr} (h:l≠[]):Enc.cellsL l≠[]:=zup h
theorem zhs {α:Type} {l:List α} {i:Nat} {a:α} (h:l[i]? =some a):i<l.length:=(List.getElem?_eq_some_iff.1 h).1
theorem qmo (bs:Bx)(p:Nat)(l:List Tr)(t:Tr)(h:PI bs p l)(hl:(l.length+1)*80≤140737488355328): ∃bs' p',PI bs' p' (l++[t])∧Snd (ITP Tryz.prog) Tryz.prog 98 [.agg (Enc.cells t),.ptr 0 0] ⟨bs,[],[],0,false⟩ .top ⟨bs',[],[],0,false⟩:=by
 rcases h with⟨rfl,h0⟩|⟨hne,hp,h0,h1⟩
 ·have hs:=beh0_s0 t (by
   unfold qgr
   exact zq (by simp) (zq (by simp) (zq (by simp) (zai fun x e=>rfl))))
  have hl0:=zhs h0
  refine⟨bs.set 0 (27,[.bsl bs.length 0 1 8 false])++[(29,Enc.cellsL [t])],bs.length,.inr ⟨by simp,by omega,?_,?_⟩,qib (r:= .tup []) (zst (zat _) [0] hs (zbu (zk _ _ _ (zl (Enc.clo _))) rfl) rfl rfl (by decide) (by simp) ?_ ?_ ?_ ?_ rfl rfl)⟩
  ·rw[List.getElem?_append_left (by simpa using hl0),List.getElem?_set_self hl0];rfl
  ·rw[List.getElem?_append_right (by simp)];simp
  ·intro i t1 cs hi
   match i,hi with
   |0,hi=>cases hi;exact⟨_,h0,rfl,by simp⟩
   |i+1,hi=>cases hi
  ·intro i t1 cs hi
   match i,hi with
   | 0,hi=>
    cases hi
    show(bs.set 0 _++_)[0]? =_
    rw[List.getElem?_append_left (by simpa using hl0),List.getElem?_set_self hl0];rfl
   | 1,hi=>
    cases hi
    show(bs.set 0 _++_)[bs.length+(1-1)]? =_
    rw[List.getElem?_append_right (by simp),zam _ _ _ (Enc.cloL _)];simp
   |i+2,hi=>cases hi
  ·intro s hs1 hs2
   show(bs.set 0 _++_)[s]? =bs[s]?
   rw[List.getElem?_append_left (by simpa using hs1),List.getElem?_set_ne (by intro e;exact hs2 (by simp[←e]))]
  ·simp
 ·have hs:=beh1_s0 l t (by
   have hpos:0<l.length:=List.length_pos_iff.2 hne
   unfold qdu
   exact zq ⟨rfl,hpos,by simp,by simpa using hl⟩ (zq (by simp;omega) (zq (by simp;omega) (zai fun x e=>rfl))))
  have hl0:=zhs h0
  have hl1:=zhs h1
  refine⟨(bs.set 0 (27,[.bsl bs.length 0 (l.length+1) 8 false])).set p (29,[])++[(29,Enc.cellsL (l++[t]))],bs.length,.inr ⟨by simp,by omega,?_,?_⟩,qib (r:= .tup []) (zst (zat _) [0,p] hs (zbu (zk _ _ _ (zl (Enc.clo _))) (by rw[zby,zmo];simp[bwz,zby])) rfl rfl (by simp;omega) (by simp) ?_ ?_ ?_ ?_ rfl rfl)⟩
  ·rw[List.getElem?_append_left (by simpa using hl0),List.getElem?_set_ne (by omega),List.getElem?_set_self hl0];simp
  ·rw[List.getElem?_append_right (by simp)];simp
  ·intro i t1 cs hi
   match i,hi with
   | 0,hi=>
    cases hi
    refine⟨_,h0,?_,by simp⟩
    have e:([0,p].idxOf p)=1:=by rw[List.idxOf_cons,show((0:Nat)==p)=false by simp;omega,List.idxOf_cons];simp
    rw[zby,zmo,zby]
    simp only[bwz,List.contains_cons,beq_self_eq_true,Bool.true_or,Bool.or_true,if_true,e]
   |1,hi=>cases hi;exact⟨_,h1,zam _ _ _ (Enc.cloL _),qcd hne⟩
   |i+2,hi=>cases hi
  ·intro i t1 cs hi
   match i,hi with
   | 0,hi=>
    cases hi
    show((bs.set 0 _).set p _++_)[0]? =_
    rw[List.getElem?_append_left (by simpa using hl0),List.getElem?_set_ne (by omega),List.getElem?_set_self hl0];rfl
   | 1,hi=>
    cases hi
    show((bs.set 0 _).set p _++_)[p]? =_
    rw[List.getElem?_append_left (by simpa using hl1),List.getElem?_set_self (by simpa using hl1)];rfl
   | 2,hi=>
    cases hi
    show((bs.set 0 _).set p _++_)[bs.length+(2-2)]? =_
    rw[List.getElem?_append_right (by simp),zam _ _ _ (Enc.cloL _)];simp
   |i+3,hi=>cases hi
  ·intro s hs1 hs2
   show((bs.set 0 _).set p _++_)[s]? =bs[s]?
   simp only[List.mem_cons,List.not_mem_nil,or_false,not_or] at hs2
   rw[List.getElem?_append_left (by simpa using hs1),List.getElem?_set_ne (by omega),List.getElem?_set_ne (by omega)]
  ·simp
theorem z1k: ∀(rows:List Tr) (bs:Bx) (p:Nat) (l:List Tr),PI bs p l→(l.length+rows.length)*80≤140737488355328→ ∃σ:Nat→Bx,σ 0=bs∧(∃p',PI (σ rows.length) p' (l++rows))∧
 ∀k,k<rows.length→Snd (ITP Tryz.prog) Tryz.prog 98 ([.agg (Enc.cells (rows.getD k noneT))]++[.ptr 0 0]) ⟨σ k,[],[],0,false⟩ .top ⟨σ (k+1),[],[],0,false⟩
 |[],bs,p,l,h,_=>⟨fun _=>bs,rfl,⟨p,by rw[List.append_nil];exact h⟩,fun k hk=>absurd hk (Nat.not_lt_zero _)⟩
 | t::rows,bs,p,l,h,hl=>by
  rw[List.length_cons] at hl
  obtain⟨bs1,p1,h1,s1⟩:=qmo bs p l t h (by omega)
  obtain⟨σ,e0,⟨p',hp'⟩,hc⟩:=z1k rows bs1 p1 (l++[t]) h1 (by rw[List.length_append,List.length_cons,List.length_nil];omega)
  refine⟨fun k=>match k with|0=>bs|k+1=>σ k,rfl,⟨p',by rw[List.append_assoc] at hp';exact hp'⟩,fun k hk=> ?_⟩
  match k,hk with
  |0,_=>show Snd _ _ 98 _ ⟨bs,_,_,_,_⟩ _ ⟨σ 0,_,_,_,_⟩;rw[e0];exact s1
  |k+1,hk=>exact hc k (by simpa using hk)
theorem qow (x:Tr)(c:Nat)(hc:c<256)(hx:BO x)(bs:Bx)(p:Nat)(l:List Tr)(h:PI bs p l)(hl:(l.length+(byT c x).length)*80≤140737488355328): ∃bs' p',PI bs' p' (l++byT c x)∧
 Snd (ITP Tryz.prog) Tryz.prog 97 [.agg (Enc.cells x),.raw (.int .u8 (c:Int)),.clos 98 [.ptr 0 0]] ⟨bs,[],[],0,false⟩ .top ⟨bs',[],[],0,false⟩:=by
 obtain⟨σ,e0,⟨p',hp'⟩,hch⟩:=z1k (byT c x) bs p l h hl
 refine⟨σ (byT c x).length,p',hp',?_⟩
 have h1:=snd_sw (P:=Tryz.prog) (f:=97) (g:=98) (pre:=[.agg (Enc.cells x),.raw (.int .u8 (c:Int))]) (pre':=[.agg (Enc.cells x),.raw (.int .u8 (c:Int))]) (caps:=[.ptr 0 0]) (σ:=fun k=>⟨σ k,[],[],0,false⟩) (rows:=fun k=>[.agg (Enc.cells ((byT c x).getD k noneT))]) (m:=(byT c x).length) ent97
  (zd (zaj (zl (Enc.clo _))) (zd rfl rfl)) (za (zn _ _ (zl (Enc.clo _))) (za rfl rfl)) (fun k hk=>za (zn _ _ (zl (Enc.clo _))) rfl) (fun G cv hG ho hR=> ?_) hch
 ·have h1:Snd (ITP Tryz.prog) Tryz.prog 97 [.agg (Enc.cells x),.raw (.int .u8 (c:Int)),.clos 98 [.ptr 0 0]] ⟨σ 0,[],[],0,false⟩ .top ⟨σ (byT c x).length,[],[],0,false⟩:=h1
  rw[e0] at h1;exact h1
 ·have h2:=k_by x c hc hx G 98 cv 0 hG ho ent98 (fun i t hi=>by
   rw[Int.toNat_natCast] at hi
   have hli:=zhs hi
   have:=hR i hli
   rw[List.getD_eq_getElem?_getD,hi] at this
   rw[Nat.zero_add];exact this)
  rw[Nat.zero_add,Int.toNat_natCast] at h2;exact h2
end Go.Ab
namespace Go.Proofs
open Go.Shelf
def Tryz.sortL_ren:Go.Shelf.Ren:=⟨fun|6=>105|15=>149|14=>148|28=>182|29=>183|20=>174|21=>175|22=>176|23=>177|24=>178|25=>179|26=>180|27=>181|46=>196|47=>197|48=>198|49=>199|50=>200|57=>204|n=>n,fun|22=>27|24=>29|25=>59|3=>3|39=>95|0=>0|53=>176|55=>24|4=>4|46=>186|45=>185|50=>190|5=>5|9=>9|66=>201|70=>205|76=>209|77=>210|n=>n,fun|n=>n⟩
theorem Tryz.sortL:Go.Proofs.SlLaysF0.n6 Tryz.prog Tryz.sortL_ren:={
 mixed:=by kernel_rfl
 f6:=⟨Tryz.f105.name,by decide,Tryz.func105.trans (congrArg some (by kernel_rfl))⟩
 f14:=⟨Tryz.f148.name,by decide,Tryz.func148.trans (congrArg some (by kernel_rfl))⟩
 f15:=Tryz.func149.trans (congrArg some (by kernel_rfl))
 f20:=⟨Tryz.f174.name,by decide,Tryz.func174.trans (congrArg some (by kernel_rfl))⟩
 f21:=⟨Tryz.f175.name,by decide,Tryz.func175.trans (congrArg some (by kernel_rfl))⟩
 f22:=⟨Tryz.f176.name,by decide,Tryz.func176.trans (congrArg some (by kernel_rfl))⟩
 f23:=⟨Tryz.f177.name,by decide,Tryz.func177.trans (congrArg some (by kernel_rfl))⟩
 f24:=⟨Tryz.f178.name,by decide,Tryz.func178.trans (congrArg some (by kernel_rfl))⟩
 f25:=⟨Tryz.f179.name,by decide,Tryz.func179.trans (congrArg some (by kernel_rfl))⟩
 f26:=⟨Tryz.f180.name,by decide,Tryz.func180.trans (congrArg some (by kernel_rfl))⟩
 f27:=⟨Tryz.f181.name,by decide,Tryz.func181.trans (congrArg some (by kernel_rfl))⟩
 f28:=Tryz.func182.trans (congrArg some (by kernel_rfl))
 f29:=Tryz.func183.trans (congrArg some (by kernel_rfl))
 f46:=⟨Tryz.f196.name,by decide,Tryz.func196.trans (congrArg some (by kernel_rfl))⟩
 f47:=Tryz.func197.trans (congrArg some (by kernel_rfl))
 f48:=Tryz.func198.trans (congrArg some (by kernel_rfl))
 f49:=⟨Tryz.f199.name,by decide,Tryz.func199.trans (congrArg some (by kernel_rfl))⟩
 f50:=⟨Tryz.f200.name,by decide,Tryz.func200.trans (congrArg some (by kernel_rfl))⟩
 f57:=⟨Tryz.f204.name,by decide,Tryz.func204.trans (congrArg some (by kernel_rfl))⟩
 t0:=Tryz.underlying0
 a0:=Tryz.isAgg0
 z0:=Tryz.sizeOf0
 v0:=Tryz.zeroValue0
 t3:=Tryz.underlying3
 a3:=Tryz.isAgg3
 z3:=Tryz.sizeOf3
 v3:=Tryz.zeroValue3
 t4:=Tryz.underlying4
 a4:=Tryz.isAgg4
 z4:=Tryz.sizeOf4
 v4:=Tryz.zeroValue4
 t5:=Tryz.underlying5
 a5:=Tryz.isAgg5
 z5:=Tryz.sizeOf5
 v5:=Tryz.zeroValue5
 t9:=Tryz.underlying9
 a9:=Tryz.isAgg9
 z9:=Tryz.sizeOf9
 v9:=Tryz.zeroValue9
 t22:=Tryz.underlying27
 a22:=Tryz.isAgg27
 z22:=Tryz.sizeOf27
 v22:=Tryz.zeroValue27
 t25:=Tryz.underlying59
 a25:=Tryz.isAgg59
 z25:=Tryz.sizeOf59
 v25:=Tryz.zeroValue59
 t39:=Tryz.underlying95
 a39:=Tryz.isAgg95
 z39:=Tryz.sizeOf95
 v39:=Tryz.zeroValue95
 t45:=Tryz.underlying185
 a45:=Tryz.isAgg185
 z45:=Tryz.sizeOf185
 v45:=Tryz.zeroValue185
 t46:=Tryz.underlying186
 a46:=Tryz.isAgg186
 z46:=Tryz.sizeOf186
 v46:=Tryz.zeroValue186
 t50:=Tryz.underlying190
 a50:=Tryz.isAgg190
 z50:=Tryz.sizeOf190
 v50:=Tryz.zeroValue190
 t53:=Tryz.underlying176
 a53:=Tryz.isAgg176
 z53:=Tryz.sizeOf176
 v53:=Tryz.zeroValue176
 t55:=Tryz.underlying24
 a55:=Tryz.isAgg24
 z55:=Tryz.sizeOf24
 v55:=Tryz.zeroValue24
 t66:=Tryz.underlying201
 a66:=Tryz.isAgg201
 z66:=Tryz.sizeOf201
 v66:=Tryz.zeroValue201
 t70:=Tryz.underlying205
 a70:=Tryz.isAgg205
 z70:=Tryz.sizeOf205
 v70:=Tryz.zeroValue205
 t76:=Tryz.underlying209
 a76:=Tryz.isAgg209
 z76:=Tryz.sizeOf209
 v76:=Tryz.zeroValue209
 t77:=Tryz.underlying210
 a77:=Tryz.isAgg210
 z77:=Tryz.sizeOf210
 v77:=Tryz.zeroValue210}
end Go.Proofs
namespace Go.Ab
open Go Go.RowKit Go.Fwd Go.Proofs Go.Sort
def leT (x y:Tr):Bool:=decide (zla x y≤0)
theorem qgj (a b c:Tr)(h:leT a b=true)(k:leT b c=true):leT a c=true:=by
 simp only[leT,decide_eq_true_eq] at*
 exact zhp a b c h k
theorem qip (a b:Tr):leT a b=true∨leT b a=true:=by
 have:=zhg a b
 simp only[leT,decide_eq_true_eq];omega
def insT (x:Tr):List Tr→List Tr
 |[]=>[x]
 |y::l=>if leT x y=true then x::y::l else y::insT x l
def zzi (l:List Tr):List Tr:=l.foldr insT []
theorem zsw (x:Tr): ∀l:List Tr,(insT x l).Perm (x::l)
 |[]=>List.Perm.refl _
 | y::l=>by
  unfold insT
  split
  ·exact List.Perm.refl _
  ·exact((zsw x l).cons y).trans (List.Perm.swap x y l)
theorem zid: ∀l:List Tr,(zzi l).Perm l
 |[]=>List.Perm.refl _
 |x::l=>(zsw x (zzi l)).trans ((zid l).cons x)
theorem zuu (x:Tr): ∀l:List Tr,l.Pairwise (fun a b=>leT a b=true)→(insT x l).Pairwise fun a b=>leT a b=true
 |[],_=>by simp[insT]
 | y::l,h=>by
  obtain⟨h1,h2⟩:=List.pairwise_cons.1 h
  unfold insT
  split
  ·rename_i hxy
   refine List.pairwise_cons.2 ⟨fun z hz=> ?_,h⟩
   rcases List.mem_cons.1 hz with rfl|hz
   ·exact hxy
   ·exact qgj _ _ _ hxy (h1 z hz)
  ·rename_i hxy
   refine List.pairwise_cons.2 ⟨fun z hz=> ?_,zuu x l h2⟩
   rcases List.mem_cons.1 ((zsw x l).subset hz) with rfl|hz
   ·exact(qip z y).resolve_left hxy
   ·exact h1 z hz
theorem z8l: ∀l:List Tr,(zzi l).Pairwise fun a b=>leT a b=true
 |[]=>List.Pairwise.nil
 |x::l=>zuu x _ (z8l l)
theorem z1t (l:List Tr):(zzi l).Pairwise fun x y=>zla x y≤0:=(z8l l).imp fun h=>by simpa[leT] using h
theorem zvc {t:Tr} (h:zcd t=true):CR t:=by rw[zcd,Bool.and_eq_true] at h;exact h.2
theorem zdu {a b:Tr} (ha:zcd a=true)(hb:zcd b=true):zkh a b=zla a b:=by
 have l1:zcj a=true:=zku.2 (zeq ha)
 have l2:zcj b=true:=zku.2 (zeq hb)
 rw[zkh,l1,l2];rfl
theorem qio (l:List Tr)(g:(0<l.length∧l.length<4611686018427387904)∧ ∀y∈l,zcd y=true) {x:List Tr} (hx:zzi l=x) {σ:St} {s n:Nat} {fl:Bool} (hb:σ.boxes[s]? =some (29,Enc.cellsL l))(hn:l.length=n):
 Snd (ITP Tryz.prog) Tryz.prog 105 [.bsl s 0 n 8 fl,.clos 31 []] σ (.tup []) {σ with boxes:=σ.boxes.set s (29,Enc.cellsL x)}:=by
 subst hx hn
 refine z9b (α:=Tr) (g:=31) (zat _) (enters_of Tryz.func105 (by kernel_rfl) rfl) (enters_of Tryz.func31 (by kernel_rfl) rfl) ?_ zkh (fun y=>zcd y=true) ?_ ?_ ?_ ?_ ?_ l (zzi l) g.2 g.1 (zid l) ?_ hb
 ·intro β _ enc hk h1 cf hO blk off cap d w hcmp hH hblk hsz
  exact AnyQ.slices_SortFunc Tryz.sortL 8 Tryz.isAgg29 Tryz.sizeOf29 enc hk h1 cf hO 31 #[] blk off cap d w (enters_of Tryz.func31 (by kernel_rfl) rfl) hcmp hH hblk hsz
 ·intro a b ha hb
  have h1:=zeq ha;have h2:=zeq hb
  exact z3o a b ⟨by omega,by omega⟩
 ·intro a ha
  rw[zdu ha ha,qmn];decide
 ·intro a b c ha hb hc h1 h2
  rw[zdu ha hb] at h1
  rw[zdu hb hc] at h2
  rw[zdu ha hc]
  have q1:=zhp c b a;have q2:=zhg a b;have q3:=zhg b c;have q4:=zhg a c
  have q5:=zhp b a c
  have q6:=zhp b c a
  have q7:=zhp a b c
  have q8:=zhp a c b
  have q9:=zhp c a b
  omega
 ·intro a b c ha hb hc h1 h2
  rw[zdu ha hb] at h1
  rw[zdu hb hc] at h2
  rw[zdu ha hc]
  have q1:=zhp c b a;have q2:=zhg a b;have q3:=zhg b c;have q4:=zhg a c
  omega
 ·intro a b ha hb h1 h2
  rw[zdu ha hb] at h1
  rw[zdu hb ha] at h2
  have q:=zhg a b
  exact qex a b (zvc ha) (zvc hb) (by omega)
 ·refine(z1t l).imp_of_mem fun {a b} ha hb h=> ?_
  have ca:=g.2 a ((zid l).mem_iff.1 ha);have cb:=g.2 b ((zid l).mem_iff.1 hb)
  rw[zdu cb ca]
  have q:=zhg a b
  omega
theorem qhk:Pure (ITP Tryz.prog) Tryz.prog 105 [.list 0 [] .none,.clos 31 []] (.tup []):=zao true zyt 300 (by kernel_rfl)
theorem qjg:Pure (ITP Tryz.prog) Tryz.prog 106 [.list 0 [] .none,.clos 23 []] (.list 0 [] .none):=zao true zyt 300 (by kernel_rfl)
end Go.Ab
set_option maxRecDepth 100000
set_option maxHeartbeats 4000000
namespace Go.Ab
open Go Go.RowKit Go.Fwd Go.Proofs
def qkk (l:List Tr):Option (List Tr):=
 (chk ((0<List.length l∧List.length l<4611686018427387904)∧ ∀y∈l,zcd y=true) (zbc (zzi l) (fun x1=>(chk (List.length x1=(List.length l)) (chk ((0<List.length x1∧List.length x1<2^60)∧ ∀y∈x1,(pre y).length<2^61) (zbc (ztk x1) (fun x2=>(some x2))))))))
theorem ent68:Ent Tryz.prog 68:=enters_of Tryz.func68 (by kernel_rfl) rfl
set_option maxHeartbeats 4000000 in
theorem set_s0 (l:List Tr)(r:List Tr)(h:qkk l=some r):Snd (ITP Tryz.prog) Tryz.prog 68 [.bsl 0 0 (List.length l) 8 false] ⟨[(29,Enc.cellsL l)],[],[],0,false⟩ (.bsl 0 0 r.length 8 false) ⟨[(29,Enc.cellsL r)],[],[],0,false⟩:=by
 obtain⟨d,hd⟩: ∃d,Tryz.f68.body=some d:=⟨_,rfl⟩
 refine zrd mix Tryz.func68 hd ent68 ?_
 cases hd
 unfold qkk at h
 refine zah (by dsimp only[zbf,Tryz.f68,List.length_cons,List.length_nil,Nat.zero_add,Nat.reduceAdd,Nat.reduceSub,List.replicate,List.cons_append,List.nil_append]) rfl ?_
 refine zf (zb ?_)
 refine w_o (a:= .list 0 [] .full) ?_
 refine zf (zb ?_)
 refine zab ?_
 obtain⟨g1,h⟩:=zi h
 obtain⟨x1,hx1,h⟩:=zo h
 refine z3i (r:= .tup []) (σ':=⟨[(29,(Enc.cellsL (x1:List Tr)))],[],[],0,false⟩) (qio l g1 hx1 rfl rfl) rfl rfl ⟨rfl,rfl⟩ (by dsimp only[zh,List.set]) ?_
 refine zf (zb ?_)
 refine zab ?_
 obtain⟨g2,h⟩:=zi h
 obtain⟨g3,h⟩:=zi h
 obtain⟨x2,hx2,h⟩:=zo h
 refine z3i (r:= .bsl 0 0 (List.length x2) 8 false) (σ':=⟨[(29,(Enc.cellsL (x2:List Tr)))],[],[],0,false⟩) (qcz x1 g2 g3 hx2 rfl) rfl rfl ⟨rfl,rfl⟩ (by dsimp only[zh,List.set]) ?_
 refine zab ?_
 exact zyn (R:=x2) h rfl (zbi (zt (zm _ _ (Enc.cloL _)) rfl)) rfl rfl
end Go.Ab
set_option maxRecDepth 100000
set_option maxHeartbeats 4000000
namespace Go.Ab
open Go Go.RowKit Go.Fwd Go.Proofs
def setT (l:List Tr):List Tr:=ztk (zzi l)
theorem qif (l:List Tr):(zzi l).length=l.length:=(zid l).length_eq
theorem set_eq {l:List Tr} (hne:l≠[])(hl:l.length<2^60)(hc: ∀y∈l,zcd y=true):qkk l=some (setT l):=by
 have hpos:0<l.length:=List.length_pos_iff.2 hne
 unfold qkk
 refine zq ⟨⟨hpos,by omega⟩,hc⟩ (zai fun x1 e1=> ?_)
 subst e1
 have hlen:=qif l
 refine zq hlen (zq ⟨⟨by omega,by omega⟩,fun y hy=> ?_⟩ rfl)
 have:=zeq (hc y ((zid l).mem_iff.1 hy))
 omega
def stB (l:List Tr):St:=match l with
 |[]=>⟨[(27,[.list 0 [] .full])],[],[],0,false⟩
 |x::l=>⟨[(27,[.bsl 1 0 (l.length+1) 8 false]),(29,Enc.cellsL (x::l))],[],[],0,false⟩
theorem qdh {l:List Tr} (h:l.isEmpty=false):stB l=⟨[(27,[.bsl 1 0 l.length 8 false]),(29,Enc.cellsL l)],[],[],0,false⟩:=by cases l with|nil=>cases h|cons x l=>rfl
theorem qig {l:List Tr} (h:l.isEmpty=true):stB l=⟨[(27,[.list 0 [] .full])],[],[],0,false⟩:=by cases l with|nil=>rfl|cons x l=>cases h
theorem qdp {bs:Bx} {p:Nat} {l:List Tr} (h:PI bs p l) {S S':List AV} (ms:List Bool)(hS: ∀js:List Nat,(js=[0]∨js=[0,p])→fgM ms (zby 0 (kz bs 0 0 [] js 1) S)=S'):Wk 0 S ⟨bs,[],[],0,false⟩ S' (stB l):=by
 rcases h with⟨rfl,h0⟩|⟨hne,hp,h0,h1⟩
 ·have hl:=zhs h0
  refine zdx ms 0 [] [0] 1 (Nat.le_refl _) (by simp[zfb];omega) (hS [0] (.inl rfl)) (zdp (zal h0 rfl zcr) rfl)
 ·have hl0:=zhs h0
  have hl1:=zhs h1
  refine zdx ms 0 [] [0,p] 1 (Nat.le_refl _) (by simp[zfb];omega) (hS [0,p] (.inr rfl)) ?_
  rw[qdh (by cases l with|nil=>exact absurd rfl hne|cons x l=>rfl)]
  refine zdp (zal h0 ?_ (zal h1 (zam _ _ _ (Enc.cloL _)) zcr)) rfl
  have e:([0,p].idxOf p)=1:=by rw[List.idxOf_cons,show((0:Nat)==p)=false by simp;omega,List.idxOf_cons];simp
  have hc:[0,p].contains p=true:=by simp
  rw[zby,zmo,zby]
  show[match zfn 0 [] [0,p] p with|some s'=>AV.bsl s' 0 l.length 8 false|none=>_]=_
  rw[show zfn 0 [] [0,p] p=some 1 by unfold zfn;rw[if_neg (Nat.not_lt_zero _),hc,if_pos rfl,e]]
theorem qlt:Pure (ITP Tryz.prog) Tryz.prog 68 [.list 0 [] .none] (.list 0 [] .none):=by
 obtain⟨d,hd⟩: ∃d,Tryz.f68.body=some d:=⟨_,rfl⟩
 refine zgk mix Tryz.func68 hd ent68 ?_
 cases hd
 refine zah (by dsimp only[zbf,Tryz.f68,List.length_cons,List.length_nil,Nat.zero_add,Nat.reduceAdd,Nat.reduceSub,List.replicate,List.cons_append,List.nil_append]) (by dsimp only[St.empty]) ?_
 refine zf (zb ?_)
 refine w_o (a:= .list 0 [] .full) ?_
 refine zf (zb ?_)
 refine zab ?_
 refine zbr (args':=[.list 0 [] .none,.clos 31 []]) (r:= .tup []) qhk rfl rfl (zd rfl (zd rfl rfl)) rfl (by dsimp only[zh,List.set]) ?_
 refine zf (zb ?_)
 refine zab ?_
 refine zbr (args':=[.list 0 [] .none,.clos 23 []]) (r:= .list 0 [] .none) qjg rfl rfl (zd rfl (zd rfl rfl)) rfl (by dsimp only[zh,List.set]) ?_
 refine zab ?_
 exact z8q rfl rfl rfl
theorem qgl {l r:List Tr} (hne:l≠[])(hl:l.length<2^60)(hc: ∀y∈l,zcd y=true)(hr:setT l=r) {σ:St} {s:Nat} {fl:Bool} (hb:σ.boxes[s]? =some (29,Enc.cellsL l)):Snd (ITP Tryz.prog) Tryz.prog 68 [.bsl s 0 l.length 8 fl] σ (.bsl s 0 r.length 8 false) {σ with boxes:=σ.boxes.set s (29,Enc.cellsL r)}:=by
 subst hr
 exact qgc (zat _) (set_s0 l _ (set_eq hne hl hc)) (ar:=[]) rfl rfl (Enc.cloL _) (Enc.cloL _) (zup hne) hb
def zyr (fuel:Nat)(l:List Tr)(c:Nat):Option (List Tr):=
 zdn (τ:=List Tr) (zbv (β:=List Tr×Int) (fun s=>(bif (decide (s.2<(List.length l:Int))) then(chk (0≤s.2∧s.2<(List.length l:Int)) (zbc (ix l s.2) (fun x=>(chk ((c<256∧BO x)∧(s.1.length+(byT c x).length)*80≤140737488355328) (chk (-9223372036854775808≤(s.2+1)∧(s.2+1)<9223372036854775808) (some (Sum.inl (s.1++byT c x,s.2+1)))))))) else(some (Sum.inr (Sum.inl s.1))))) fuel ([],0)) (fun j=>(bif (List.isEmpty j) then(some []) else(chk (j.length<2^60∧ ∀y∈j,zcd y=true) (zbc (setT j) (fun x=>(some x))))))
theorem ent54:Ent Tryz.prog 54:=enters_of Tryz.func54 (by kernel_rfl) rfl
theorem qfu (fuel:Nat)(l:List Tr)(c:Nat)(r:List Tr)(h:zyr fuel l c=some r):Pure (ITP Tryz.prog) Tryz.prog 54 [.L l,.raw (.int .u8 (c:Int))] (.list r.length (Enc.cellsL r) .none):=by
 unfold zyr at h
 refine zbd 19 mix Tryz.func54 ent54 ?_
 refine zr [.v (.list 0 [] .full)] ?_
 refine zf (zb ?_)
 refine zbz (a:= .ptr 0 0) (σ'':=(.B [(27,[.list 0 [] .full])])) ?_
 refine zau h (bz 0 19 524160) (fun _=>[]) (fun j=>stB j) ?_ ?_
 intro or1 h hr1
 refine zr [.m _,.v (.i (List.length l:Int)),.v (.i 0)] ?_
 refine zp ?_
 refine zbx h (bz 0 19 523392) (fun s=>[(10,.i s.2)]) (fun s=>stB s.1) ?_ ?_
 exact zdl (bl 21 1574783)
 intro s1 p1 h
 refine zfj ?_
 refine zr [.v (.b (decide (s1.2<(List.length l:Int))))] ?_
 refine zf ?_
 refine zci h (fun hc1 h=> ?_) (fun hc1 h=> ?_)
 obtain⟨g1,h⟩:=zi h
 obtain⟨x1,hx1,h⟩:=zo h
 obtain⟨g2,h⟩:=zi h
 obtain⟨g3,h⟩:=zi h
 cases hem:List.isEmpty s1.1 with
 | true=>
  rw[qig hem]
  refine zf ?_
  refine zp ?_
  refine zf (zb ?_)
  refine zvo hx1 g1 ?_
  refine w_o (a:= .A (x1:Tr)) ?_
  refine zbz (a:= .ptr 1 0) (σ'':=(.B [(27,[.list 0 [] .full]),(29,[.u 0,.raw (.int .u64 0),.raw (.int .u64 0),.raw (.int .u64 0),.raw (.int .u64 0),.i 0,.i 0,.list 0 [] .full])])) ?_
  refine zcx 8 (.B [(27,[.list 0 [] .full]),(29,(Enc.cells (x1:Tr)))]) ?_
  refine zb (k0:=0) (id:=5) ?_
  refine w_r [.v (.A (x1:Tr)),.m _,.v (.clos 98 [.ptr 0 0])] ?_
  obtain⟨bs',p',hPI,hS⟩:=qow x1 c g2.1.1 g2.1.2 [(27,[.list 0 [] .full]),(29,(Enc.cells (x1:Tr)))] 1 s1.1 (.inl ⟨List.isEmpty_iff.1 hem,rfl⟩) g2.2
  refine z3i (r:= .top) (σ':=⟨bs',[],[],0,false⟩) hS rfl rfl ⟨rfl,rfl⟩ (by dsimp only[zh,List.set]) ?_
  refine zb (k0:=0) (id:=6) ?_
  refine zpe g3 ?_
  refine zab ?_
  refine zas (p:=p1) (s1.1++byT c x1,(s1.2+1)) h ?_
  refine qdp hPI [true,true,true,true,true,true,true,false,true,true,true,false,false,false,false,false,false,false,false,true,true] (fun js hjs=> ?_)
  dsimp only[zac,zag,List.foldl,List.set,bz,bzc,Nat.reduceMod,Nat.reduceDiv,Nat.reduceBEq,Nat.reduceAdd]
  exact(zc (zk _ _ _ (zcs (Enc.cloL _))) (zc rfl (zc rfl (zc rfl (zc rfl (zc (by rcases hjs with rfl|rfl<;>rfl) (zc rfl (zak (zc (zk _ _ _ (zcs (Enc.cloL _))) (zc rfl (zc rfl (ze (zc rfl (zc rfl zdw))))))))))))))
 | false=>
  rw[qdh hem]
  refine zf ?_
  refine zp ?_
  refine zf (zb ?_)
  refine zvo hx1 g1 ?_
  refine w_o (a:= .A (x1:Tr)) ?_
  refine zbz (a:= .ptr 2 0) (σ'':=(.B [(27,[.bsl 1 0 (List.length s1.1) 8 false]),(29,Enc.cellsL s1.1),(29,[.u 0,.raw (.int .u64 0),.raw (.int .u64 0),.raw (.int .u64 0),.raw (.int .u64 0),.i 0,.i 0,.list 0 [] .full])])) ?_
  refine zcx 8 (.B [(27,[.bsl 1 0 (List.length s1.1) 8 false]),(29,Enc.cellsL s1.1),(29,(Enc.cells (x1:Tr)))]) ?_
  refine zb (k0:=0) (id:=5) ?_
  refine w_r [.v (.A (x1:Tr)),.m _,.v (.clos 98 [.ptr 0 0])] ?_
  obtain⟨bs',p',hPI,hS⟩:=qow x1 c g2.1.1 g2.1.2 [(27,[.bsl 1 0 (List.length s1.1) 8 false]),(29,Enc.cellsL s1.1),(29,(Enc.cells (x1:Tr)))] 1 s1.1 (.inr ⟨(fun e=>by rw[e] at hem;cases hem),Nat.zero_lt_one,rfl,rfl⟩) g2.2
  refine z3i (r:= .top) (σ':=⟨bs',[],[],0,false⟩) hS rfl rfl ⟨rfl,rfl⟩ (by dsimp only[zh,List.set]) ?_
  refine zb (k0:=0) (id:=6) ?_
  refine zpe g3 ?_
  refine zab ?_
  refine zas (p:=p1) (s1.1++byT c x1,(s1.2+1)) h ?_
  refine qdp hPI [true,true,true,true,true,true,true,false,true,true,true,false,false,false,false,false,false,false,false,true,true] (fun js hjs=> ?_)
  dsimp only[zac,zag,List.foldl,List.set,bz,bzc,Nat.reduceMod,Nat.reduceDiv,Nat.reduceBEq,Nat.reduceAdd]
  exact(zc (zk _ _ _ (zcs (Enc.cloL _))) (zc rfl (zc rfl (zc rfl (zc rfl (zc (by rcases hjs with rfl|rfl<;>rfl) (zc rfl (zak (zc (zk _ _ _ (zcs (Enc.cloL _))) (zc rfl (zc rfl (ze (zc rfl (zc rfl zdw))))))))))))))
 refine zw h (fun h=> ?_)
 refine zg (o:=or1) (s1.1) h ?_
 exact zdl (bl 21 1572991)
 intro j1 h
 refine zfj ?_
 refine zf (zb ?_)
 refine zae h (fun hc1 h=> ?_) (fun hc1 h=> ?_)
 rw[qig hc1]
 refine w_o (a:= .list 0 [] .full) ?_
 refine zcq (r:= .list 0 [] .none) qlt ?_
 refine zab ?_
 exact zdi (fun(r:List Tr)=>(.L r:AV)) h rfl rfl rfl
 rw[qdh hc1]
 obtain⟨g4,h⟩:=zi h
 obtain⟨x2,hx2,h⟩:=zo h
 refine w_o (a:= .bsl 1 0 (List.length j1) 8 false) ?_
 refine z3i (r:= .bsl 1 0 (List.length x2) 8 false) (σ':=(.B [(27,[.bsl 1 0 (List.length j1) 8 false]),(29,Enc.cellsL x2)])) (qgl (fun e=>by rw[e] at hc1;cases hc1) g4.1 g4.2 hx2 rfl) rfl rfl ⟨rfl,rfl⟩ (by dsimp only[zh,List.set]) ?_
 refine zab ?_
 have hxr:=Option.some.inj h
 subst hxr
 exact z5c 1 rfl (qgu (α:=Tr) (t:=29) (l:=x2) rfl rfl)
theorem qka (l:List Tr)(c:Nat)(h:(c<256∧ ∀x∈l,BO x)∧(l.flatMap (byT c)).length<2^40∧l.length<2^40):Pure (ITP Tryz.prog) Tryz.prog 54 [.list (List.length l) (Enc.cellsL l) .none,.raw (.int .u8 (c:Int))] (.list (setT (l.flatMap (byT c))).length (Enc.cellsL (setT (l.flatMap (byT c)))) .none):=by
 refine qfu (l.length+1) l c _ ?_
 unfold zyr
 refine zcb (l.flatMap (byT c)) ?_ ?_
 ·refine zew l.length (fun i=>((l.take i).flatMap (byT c),(i:Int))) (by simp) (fun i hi=> ?_) ?_ (by omega)
  ·refine zbe (by simpa using hi) (zq (by simp only;omega) (zai fun x1 e1=> ?_))
   simp only at e1
   rw[zel hi] at e1
   have hm:x1∈l:=e1▸List.getElem_mem hi
   have hlen:((l.take i).flatMap (byT c)).length+(byT c x1).length≤(l.flatMap (byT c)).length:=by
    have:l.flatMap (byT c)=(l.take i).flatMap (byT c)++(l.drop i).flatMap (byT c):=by rw[←List.flatMap_append,List.take_append_drop]
    rw[this,List.drop_eq_getElem_cons hi,List.flatMap_cons,e1,List.length_append,List.length_append];omega
   refine zq ⟨⟨h.1.1,h.1.2 x1 hm⟩,by simp only;omega⟩ (zq (by simp only;omega) ?_)
   rw[List.take_succ_eq_append_getElem hi,List.flatMap_append,e1]
   simp
  ·refine zay (by simp) ?_
   simp
 ·have hc: ∀y∈l.flatMap (byT c),zcd y=true:=fun y hy=>by
   obtain⟨x,hx,hy⟩:=List.mem_flatMap.1 hy
   have hb:=(qmh (h.1.2 x hx) hy).1
   have:=zif hb
   exact zhw hb.1 (by omega)
  refine z7o (fun he=> ?_) (fun he=>zq ⟨by omega,hc⟩ rfl)
  rw[List.isEmpty_iff.1 he];rfl
end Go.Ab
