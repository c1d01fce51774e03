import Derived.RowKit
import Derived.Laws.Bits64
import Derived.Laws.Shifts
import Derived.Test.YtjkcellkmmfkdaaGreatDoorRows
import Derived.WalkKit
import Derived.WalkSpells
import Derived.WalkLawsBesides
import Derived.StillTailTactics
import Derived.Outline
import Derived.RangeFuncNested
import Derived.Lib.Hide
import Derived.RangeFuncBound
import Derived.RangeFuncCalls
import Derived.RangeFuncLeaves
import Derived.Shelf.RegionOpen
import Derived.OwnWalkIn
import Derived.TacticsInMore
import Derived.LoopNIn
import Derived.LoopIn
import Derived.Test.YtjkcellkmmfkdaaGreatDoorZhTc
set_option linter.all false
set_option maxRecDepth 100000
set_option maxHeartbeats 4000000
open Nat (le_refl zero_add)
open List (length length_cons length_append length_nil foldl cons_append nil_append map_cons getElem_mem foldl_cons)
open Go.Proofs.Tryz (prog)
namespace Go.Proofs.YtjkcellkmmfkdaaGreatDoor
open Go
abbrev BS:=BitVec 256
def W (S:BS)(i:Nat):BitVec 64:=S.extractLsb' (64*i) 64
def wn (x:BitVec 64):Int:=(x.toNat:Int)
def wd (S:BS)(i:Nat):Int:=wn (W S i)
def sv (S:BS):Value:= .agg #[.int .u64 (wd S 0),.int .u64 (wd S 1),.int .u64 (wd S 2),.int .u64 (wd S 3)]
theorem W_get (S:BS)(i j:Nat)(hj:j<64):(W S i).getLsbD j=S.getLsbD (64*i+j):=by
 simp[W,hj]
theorem W_zero (i:Nat):W 0#256 i=0#64:=by
 apply BitVec.eq_of_getLsbD_eq;intro j hj;simp only[BitVec.getLsbD_zero,W_get _ _ _ hj]
theorem wd_zero (i:Nat):wd 0#256 i=0:=by simp[wd,wn,W_zero]
theorem zus (x:BitVec 64):BitVec.ofInt 64 (x.toNat:Int)=x:=by
 apply BitVec.eq_of_toNat_eq;simp
theorem qaz (x:BitVec 64):IntKind.u64.wrap (x.toNat:Int)=(x.toNat:Int):=by
 rw[IntKind.wrap_u64];have:=x.isLt;omega
theorem qno (x y:BitVec 64):bits .and .u64 x.toNat y.toNat=((x&&&y).toNat:Int):=by
 unfold bits;simp only[IntKind.bits];rw[zus,zus];exact qaz _
theorem has_bit (S:BS)(x:Nat):(bits .and .u64 (wd S (x/64)/2^(x%64)) 1==1)=S.getLsbD x:=by
 have e1:(1:Int)=((1#64).toNat:Int):=by decide
 have e2:wd S (x/64)/2^(x%64)=((W S (x/64)>>>(x%64)).toNat:Int):=by
  unfold wd wn;rw[BitVec.toNat_ushiftRight,Nat.shiftRight_eq_div_pow];push_cast;rfl
 rw[e2];rw[show bits .and .u64 (((W S (x/64)>>>(x%64)).toNat:Nat):Int) 1=bits .and .u64 ((W S (x/64)>>>(x%64)).toNat:Int) ((1#64).toNat:Int) from by rw[<-e1]];rw[qno];have e3:W S (x/64)>>>(x%64)&&&1#64=if S.getLsbD x then 1#64 else 0#64:=by
  apply BitVec.eq_of_getLsbD_eq;intro j hj;have hx:64*(x/64)+x%64=x:=by omega
  rw[BitVec.getLsbD_and,BitVec.getLsbD_ushiftRight];by_cases h0:j=0
  ·subst h0;rw[Nat.add_zero,W_get _ _ _ (by omega),hx];split<;>simp_all
  ·split<;>simp[h0]
 rw[e3];split<;>simp_all
end Go.Proofs.YtjkcellkmmfkdaaGreatDoor
namespace Go.Proofs.YtjkcellkmmfkdaaGreatDoor
open Go.RowKit Go.Fwd
theorem look4 (S:BS)(i:Nat)(h:i<4):[Value.int .u64 (wd S 0),.int .u64 (wd S 1),.int .u64 (wd S 2),.int .u64 (wd S 3)][i]? =some (.int .u64 (wd S i)):=by
 match i,h with
 |0,_=>rfl
 |1,_=>rfl
 |2,_=>rfl
 |3,_=>rfl
theorem qgz (S:BS)(x:Nat)(w:World)(h1:x<256):
 Calls prog 163 #[sv S,.int .u8 x] w (Ret (.bool (S.getLsbD x)) w):=by
 unfold sv;have hl:=look4 S (x/64) (by omega)
 go_enter Tryz.func163,Tryz.ntmps163
 go_wp2
 go_ret
 exact⟨by rw[<-has_bit];rfl,(Ex.refl _ _).alloc (le_refl _) _⟩
end Go.Proofs.YtjkcellkmmfkdaaGreatDoor
namespace Go.Proofs.YtjkcellkmmfkdaaGreatDoor
open Go.RowKit Go.Fwd Go.Shelf
attribute [local go_sem] Oper.semAt_some
def sc (S:BS):Array Value:= #[.int .u64 (wd S 0),.int .u64 (wd S 1),.int .u64 (wd S 2),.int .u64 (wd S 3)]
def zeh (S:BS)(k:Nat):List Nat:=(List.range k).filter fun c=>S.getLsbD c
def bytesOf (S:BS):List Nat:=zeh S 256
theorem zlk (S:BS)(k:Nat):zeh S (k+1)=zeh S k++(if S.getLsbD k then[k] else[]):=by
 unfold zeh;rw[List.range_succ,List.filter_append];congr 1;simp only[List.filter_cons,List.filter_nil]
theorem zvv (S:BS) {j k:Nat} (h:j<=k):zeh S j<+:zeh S k:=by
 induction k with
 | zero=>
  obtain rfl:j=0:=by omega
  exact List.prefix_refl _
 | succ k ih=>
  by_cases hj:j=k+1
  ·subst hj;exact List.prefix_refl _
  ·exact(ih (by omega)).trans (by rw[zlk];exact List.prefix_append _ _)
theorem z5o (S:BS)(k:Nat):(zeh S k).length<=k:=by
 unfold zeh;exact Nat.le_trans (List.length_filter_le _ _) (by simp)
set_option maxHeartbeats 1000000 in
theorem qkk (A:BS)(w:World):Calls prog 118 #[sv A] w fun e w'=>e= .returned (.func (.func 162) #[] #[.pointer (some ⟨w.heap.size,0,none⟩)])/\ w'=w.alloc (.cells (sc A) 24):=by
 unfold sv sc
 go_enter Tryz.func118,Tryz.ntmps118
 go_wp2
 go_ret
 exact⟨rfl,rfl⟩
theorem qla {w:World} {b:Nat} {S:BS} {t:TypeId} {f:Nat×Nat} (h:w.heap[b]? =some (.cells (sc S) t f)):
 w.cell? ⟨b,0,none⟩=some (.int .u64 (wd S 0))/\ w.cell? ⟨b,1,none⟩=some (.int .u64 (wd S 1))/\ w.cell? ⟨b,2,none⟩=some (.int .u64 (wd S 2))/\ w.cell? ⟨b,3,none⟩=some (.int .u64 (wd S 3)):=
 ⟨(cell_of_row _ _ _ _ _ _ h).trans rfl,(cell_of_row _ _ _ _ _ _ h).trans rfl,(cell_of_row _ _ _ _ _ _ h).trans rfl,(cell_of_row _ _ _ _ _ _ h).trans rfl⟩
set_option maxHeartbeats 2000000 in
theorem qdg (Bs:Nat)(S:BS)(w:World)(hBs:w.heap[Bs]? =some (.cells (sc S) 24 (0,0))):
 Iter prog 162 #[.pointer (some ⟨Bs,0,none⟩)] (fun x:Nat=> #[Value.int .u8 (x:Int)]) (zpi Bs) (fun xs=>xs=bytesOf S) (fun pre=>pre<+:bytesOf S) w:=by
 intro l J Jx W hW hJ hJx hY h0;have hBs1:=(hW.block Bs (Array.getElem?_eq_some_iff.1 hBs).1).trans hBs;clear hBs hW;refine(callsIn_wide (n:=3)).1 ?_;have hw1: ∀f,Fence.wide.fn f:=fun _=>trivial;have hw2:Fence.wide.depth=none:=rfl;refine callsIn_of_wp Tryz.func162 rfl trivial ?_ rfl;simp only[Tryz.ntmps162,List.size_toArray,length_cons,length_nil,Nat.reduceAdd,Nat.reduceSub,Array.replicate_succ,Array.replicate_zero,List.push_toArray,List.append_toArray,nil_append,cons_append]
 gi_wp2
 gi_loopw [4] (fun i wr=> ∃(k:Nat),k<=256/\ i= .int .i64 k/\ J (zeh S k) wr/\ wr.heap[Bs]? =some (.cells (sc S) 24 (0,0))/\ W.heap.size<=wr.heap.size)
  (fun i _=>256-(intOf i).toNat)
 case atStart=>exact⟨0,Nat.zero_le _,rfl,h0,hBs1,le_refl _⟩
 case round=>
  obtain⟨k,hk,rfl,hJs,hrow,hsz⟩:=hrel;have hblt:Bs<wr.heap.size:=(Array.getElem?_eq_some_iff.1 hrow).1;obtain⟨c0,c1,c2,c3⟩:=qla hrow;by_cases hlt:k<256
  ·by_cases hbit:S.getLsbD k=true
   ·have hh: ∀W,Calls prog 163 #[sv S,.int .u8 k] W (Ret (.bool true) W):=fun W=>hbit▸qgz S k W hlt;have hbs:zeh S (k+1)=zeh S k++[k]:=by rw[zlk,if_pos hbit]
    have HB:=Lib.hid hbs;have hsp:zeh S k++[k]<+:bytesOf S:=hbs▸zvv S (show k+1<=256 by omega);have HSP:=Lib.hid hsp;clear hbit hbs hsp
    gi_wp2_with (gi_at_call 163;refine(callsIn_wide.2 (hh _)).mono ?_;rintro e w1 ⟨rfl,hb1⟩;have hJ1:J (zeh S k) w1:=hJ _ _ _ hJs ((Turn.of_ex _ hb1));have hsz1:=hb1.size;obtain⟨fn,tmps,assign,body,hy,hR⟩:=hY (zeh S k) k w1 hJ1 HSP.out 2)
    refine hR.mono ?_;rintro e W3 ⟨hkf,(⟨rfl,hJ3,hk3⟩|⟨rfl,hJx3⟩)⟩
    ·gi_wp2
     go_roundw
     case rel=>exact⟨k+1,by omega,by go_num,by rw[HB.out];exact hJ3,hk3.trans ((hb1.block _ hblt).trans hrow),by have:=hkf.size;omega⟩
     case measure=>simp[intOf];omega
    ·gi_wp2
     refine bodyPost_ret (results_none rfl _ _ _) rfl ?_;exact⟨⟨_,rfl⟩,.inr ⟨_,HSP.out,hJx3⟩⟩
   ·have hbf:S.getLsbD k=false:=by simpa using hbit
    have hh: ∀W,Calls prog 163 #[sv S,.int .u8 k] W (Ret (.bool false) W):=fun W=>hbf▸qgz S k W hlt;have HB:=Lib.hid hbf;clear hbf hbit
    gi_wp2_with (gi_at_call 163;refine(callsIn_wide.2 (hh _)).mono ?_;rintro e w1 ⟨rfl,hb1⟩)
    go_roundw
    case rel=>exact⟨k+1,by omega,by go_num,by rw[zlk,HB.out];simpa using hJ _ _ _ hJs (Turn.of_ex _ hb1),(hb1.block _ hblt).trans hrow,by have:=hb1.size;omega⟩
    case measure=>simp[intOf];omega
  ·obtain rfl:k=256:=by omega
   gi_wp2
   go_end0
   exact⟨⟨_,rfl⟩,.inl ⟨_,rfl,hJs⟩⟩
theorem ent162: ∀args w,(callFunc 162 args).run prog w= .ok (.enter 162 args) w:=enters_of Tryz.func162 (by kernel_rfl) rfl
end Go.Proofs.YtjkcellkmmfkdaaGreatDoor
namespace Go.Proofs.YtjkcellkmmfkdaaGreatDoor
open Go.RowKit Go.Fwd Go.Shelf
attribute [local go_sem] Oper.semAt_some
def z3t (L:List (Nat×Nat))(c:Nat):List (Nat×Nat):=
 match L.getLast? with
 |some (lo,hi)=>if hi=(c+255)%256 then L.dropLast++[(lo,c)] else L++[(c,c)]
 |none=>[(c,c)]
def zkv (l:List Nat):List (Nat×Nat):=l.foldl z3t []
def spansOf (S:BS):List (Nat×Nat):=zkv (bytesOf S)
def spc (L:List (Nat×Nat)):List Value:=L.flatMap fun p=>[.int .u8 (p.1:Int),.int .u8 (p.2:Int)]
theorem ztp (A B:List (Nat×Nat)):spc (A++B)=spc A++spc B:=by simp[spc]
theorem z0e (A:List (Nat×Nat)):(spc A).length=2*A.length:=by
 induction A with
 |nil=>rfl
 |cons x l ih=>rw[show x::l=[x]++l from rfl,ztp,length_append,ih];simp[spc];omega
theorem z5r (l:List Nat)(c:Nat):zkv (l++[c])=z3t (zkv l) c:=by simp[zkv]
theorem qko (c:Nat):z3t [] c=[(c,c)]:=rfl
theorem z8o (L:List (Nat×Nat))(lo hi c:Nat)(h:hi=(c+255)%256):z3t (L++[(lo,hi)]) c=L++[(lo,c)]:=by simp[z3t,h]
theorem z2m (L:List (Nat×Nat))(lo hi c:Nat)(h: ¬hi=(c+255)%256):z3t (L++[(lo,hi)]) c=L++[(lo,hi)]++[(c,c)]:=by simp[z3t,h]
theorem qnm (L:List (Nat×Nat))(c:Nat):(z3t L c).length<=L.length+1:=by
 rcases List.eq_nil_or_concat L with rfl|⟨A,p,rfl⟩
 ·simp[z3t]
 ·obtain⟨lo,hi⟩:=p;rw[List.concat_eq_append];by_cases h:hi=(c+255)%256
  ·rw[z8o _ _ _ _ h];simp
  ·rw[z2m _ _ _ _ h];simp
theorem qap (l:List Nat):(zkv l).length<=l.length:=by
 suffices ∀(l:List Nat) (L:List (Nat×Nat)),(l.foldl z3t L).length<=L.length+l.length by simpa[zkv] using this l []
 intro l;induction l with
 |nil=>intro L;simp
 |cons c l ih=>intro L;rw[foldl_cons];have:=ih (z3t L c);have:=qnm L c;simp;omega
section
variable {P:Program} {b:Frame} {a:Act} {k:List Item} {cs:List Frame} {w:World} {Q:Exit->Act->World->Prop} {F:Fence} {n:Nat}
theorem stepR_scope {c:Code}:step P (lone (b.atR a (.code (.scope c)::k)) cs w)= .next (lone (b.atR a (.code c:: .inScope c::k)) cs w):=
 step_lone_go (by simp[stepG,stepG.exec,Frame.atR])
theorem stepR_inScope {c:Code}:step P (lone (b.atR a (.inScope c::k)) cs w)= .next (lone (b.atR a k) cs w):=
 step_lone_go (by simp[stepG,stepG.exec,Frame.atR])
theorem wpIn_scope_straight {c:Code} (h:c.wpIn F n P (Exit.noGoto Q) a w):(Code.scope c).wpIn F n P Q a w:=by
 intro b k cs hro hb hr;have h0:(lone (b.atR a (.code (.scope c)::k)) cs w).fenced P F:=fenced_calm hb hr rfl;obtain⟨e,a₁,w₁,hq,harr⟩:=h b (.inScope c::k) cs hro hb hr;cases e with
 |normal=>exact⟨.normal,a₁,w₁,hq,.head h0 stepR_scope (StepsIn.trans harr (.one (fenced_calm hb hr rfl) stepR_inScope))⟩
 | exit id=>
  have hx:exitTo id (.inScope c::k)=exitTo id k:=by simp[exitTo]
  exact⟨.exit id,a₁,w₁,hq,fun k' hk=> .head h0 stepR_scope (harr.1 k' (by rw[hx];exact hk)),
   fun hr' hk=>let⟨k₁,h1,h2⟩:=harr.2 hr' (by rw[hx];exact hk);⟨k₁,h1,.head h0 stepR_scope h2⟩⟩
 |goto l=>exact hq.elim
 |ret=>exact⟨_,a₁,w₁,hq,.of_steps (.one h0 stepR_scope) harr⟩
 |panic ch=>exact⟨_,a₁,w₁,hq,.of_steps (.one h0 stepR_scope) harr⟩
 |outgrown=>exact⟨_,a₁,w₁,hq,.of_steps (.one h0 stepR_scope) harr⟩
end
theorem info227:(prog.info? 227).map (fun i=>(i.zero,i.size,i.bytes))=some (some (.agg #[.int .u8 0,.int .u8 0]),2,2):=by kernel_rfl
set_option maxHeartbeats 2000000 in
theorem spans_any (S:BS)(w:World):Calls prog 188 #[sv S] w (RetV (fun v w1=>World.ownsRow w1 w.heap.size 227 2 v (spansOf S).length (spc (spansOf S))) w):=by
 refine(callsIn_wide (n:=3)).1 ?_;have hw1: ∀f,Fence.wide.fn f:=fun _=>trivial;have hw2:Fence.wide.depth=none:=rfl;obtain⟨i0,hi0,hz0,hz1,hz2⟩:=info_parts info227;refine callsIn_of_wp_marks Tryz.func188 rfl trivial ?_ rfl;simp only[Tryz.ntmps188,List.size_toArray,length_cons,length_nil,Nat.reduceAdd,Nat.reduceSub,Array.replicate_succ,Array.replicate_zero,List.push_toArray,List.append_toArray,nil_append,cons_append];unfold sv
 gi_wp2
 refine wpIn_scope_straight ?_
 gi_wp2
 refine wpIn_label ?_
 gi_wp2_with (gi_at_call 118;refine(callsIn_wide.2 (qkk S _)).mono ?_;rintro e w' ⟨rfl,rfl⟩)
 obtain⟨w1,hw1e⟩: ∃w1,w1=(((w.alloc (.cells #[.int .u64 (wd S 0),.int .u64 (wd S 1),.int .u64 (wd S 2),.int .u64 (wd S 3)] 24)).alloc (.cells #[.slice none 0 0] 224)).alloc (.cells (sc S) 24)):=⟨_,rfl⟩;have hB0:Ex w.heap.size w w1:=by rw[hw1e];exact(((Ex.refl _ w).alloc (le_refl _) _).alloc (by simp) _).alloc (by simp;omega) _
 have hb1:Boxed w1 (w.heap.size+1) 224 (.slice none 0 0):=by rw[hw1e];exact(Below.heap_alloc _ _ _ (by simp)).trans (zea _ _ _ (by simp))
 have hrs:w1.heap[w.heap.size+1+1]? =some (.cells (sc S) 24 (0,0)):=by rw[hw1e];exact zea _ _ _ (by simp)
 have hs0:=qdg (w.heap.size+1+1) S w1 hrs;have hsz:w1.heap.size=w.heap.size+3:=by rw[hw1e];simp
 show Code.wpIn _ _ _ _ _ _ (((w.alloc (.cells #[.int .u64 (wd S 0),.int .u64 (wd S 1),.int .u64 (wd S 2),.int .u64 (wd S 3)] 24)).alloc (.cells #[.slice none 0 0] 224)).alloc (.cells (sc S) 24));rw[<-hw1e];clear hw1e
 refine qan rfl ent162 hs0 (fun _=>rfl) (fun _=>rfl) qao (qca (by omega))
  (fun pre W=>(∃v,Boxed W (w.heap.size+1) 224 v/\ W.ownsRow w.heap.size 227 2 v (zkv pre).length (spc (zkv pre)))/\ (W.heap[w.heap.size+1+1]? =some (.cells (sc S) 24 (0,0))/\ Ex w.heap.size w W))
  (fun _ _ _=>False)
  (Stable.and (zvw _ _ _ _ _ _ _) (Stable.and (qbc _ _ _ _ _) (qft (by omega) (le_refl _))))
  (fun _=>z2z _)
  ⟨⟨_,hb1,World.ownsRow_nil _ _ _ _⟩,hrs,hB0⟩
  ?a1 ?assign ?body ?done ?stop
 case assign=>
  intro l x W K hK
  gi_wp2
  exact hK
 case body=>
  rintro l pre x W hl hr ⟨⟨v,hv,hrow⟩,hset,hB⟩ hsp;have hc:=hv.cell;have hx:x<256:=by
   have:x∈bytesOf S:=hsp.subset (by simp);simp[bytesOf,zeh] at this;exact this.1
  have hlen:pre.length+1<=256:=by have:=hsp.length_le;have:=z5o S 256;simp[bytesOf] at*;omega
  have hsn:=z5r pre x;have hln:=qap pre;generalize hL:zkv pre=L at*
  have HS:=Lib.hid hsn;have HL:=Lib.hid hL;clear hsn hL;obtain⟨a,cap,rfl⟩:=qbw hrow;rcases List.eq_nil_or_concat L with rfl|⟨A,p,hp⟩
  ·have HM1:([]:List (Nat×Nat)).length+1<=maxLen:=by simp[maxLen]
   have HM2:(([]:List (Nat×Nat)).length+1)*2<=140737488355328:=by simp
   gi_wp2_with (gi_at_builtin;refine zme _ rfl _ _ 224 rfl w.heap.size 227 i0 (.agg #[.int .u8 0,.int .u8 0]) 2 2 Tryz.underlying224 hi0 hz0 hz1 hz2 rfl (by decide) _ _ _ rfl (hrow.alloc _) ⟨W.heap.size,0,none⟩ 1 1 [.int .u8 (x:Int),.int .u8 (x:Int)] rfl rfl (z0y _ _ _) (by simp[Value.oneCell']) HM1 HM2 (by have:=hB.size;simp;omega) ?_;intro v' w1 hown' hgrow _;obtain⟨g',cap',rfl⟩:=ownsRow_succ hown';obtain⟨hv1,hv2,hr2,hk2,hb2⟩:=zrj hv (by decide) hrow (Ex.refl _ W) hB.size (le_refl _) (by omega) hown' hgrow;have hc1:=hv1.cell;have hf1:=hv1.frozen;have hset1:=zls hset (by decide) hrow hgrow)
   have hset2:=(Below.heap_setCell w1 ⟨w.heap.size+1,0,none⟩ (.slice (some ⟨g',0,none⟩) 1 cap') (w.heap.size+1+1) (by simp)).trans hset1;refine⟨hk2.from _,hset2.trans hset.symm,⟨_,hv2,?_⟩,hset2,hB.trans hb2⟩;rw[HS.out,qko];exact hr2
  ·obtain⟨lo,hi⟩:=p;rw[List.concat_eq_append] at hp;subst hp;rw[length_append,List.length_singleton] at hrow hv hc hln;obtain⟨g,cap2,he⟩:=ownsRow_succ hrow;obtain⟨rfl,rfl⟩:a=some ⟨g,0,none⟩/\ cap=cap2:=by simpa using he
   clear he;have hc1:W.cell? ⟨g,A.length*2+1,none⟩=some (.int .u8 (hi:Int)):=by
    rw[hrow.cellAt _ (by omega),ztp];rw[List.getElem?_append_right (by rw[z0e];omega),z0e,show A.length*2+1-2*A.length=1 by omega];rfl
   have hf1:=hrow.frozenAt (A.length*2+1);have hgb:w.heap.size<=g:=by
    rcases hrow.2 with⟨h,_⟩|⟨g',_,_,h,hb,_⟩
    ·cases h
    ·cases h;exact hb
   have HM1:A.length+1+1<=maxLen:=by unfold maxLen;omega
   have HM2:(A.length+1+1)*2<=140737488355328:=by omega
   gi_wp2_with (gi_at_builtin;refine zme _ rfl _ _ 224 rfl w.heap.size 227 i0 (.agg #[.int .u8 0,.int .u8 0]) 2 2 Tryz.underlying224 hi0 hz0 hz1 hz2 rfl (by decide) _ _ _ rfl (hrow.alloc _) ⟨W.heap.size,0,none⟩ 1 1 [.int .u8 (x:Int),.int .u8 (x:Int)] rfl rfl (z0y _ _ _) (by simp[Value.oneCell']) HM1 HM2 (by have:=hB.size;simp;omega) ?_;intro v' w1 hown' hgrow _;obtain⟨g',cap',rfl⟩:=ownsRow_succ hown';obtain⟨hv1,hv2,hr2,hk2,hb2⟩:=zrj hv (by decide) hrow (Ex.refl _ W) hB.size (le_refl _) (by omega) hown' hgrow;have hc1:=hv1.cell;have hf1:=hv1.frozen;have hset1:=zls hset (by decide) hrow hgrow)
   ·have ht:(hi:Int)=((x:Int)-1)%256:=by
     have h:((hi:Int)==((x:Int)-1)%256)=true:=by assumption
     simpa using h
    have hne1:w.heap.size+1≠g:=fun e=>hv.not_row (by decide) hrow (by rw[e];rfl);have hne2:w.heap.size+1+1≠g:=fun e=>zud hset (by decide) hrow (by rw[e];rfl);have hset2:=(Below.heap_setCell W ⟨g,A.length*2+1,none⟩ (.int .u8 (x:Int)) (w.heap.size+1+1) hne2).trans hset;refine⟨(KeepsOthers.setCell _ _ _).from _,hset2.trans hset.symm,⟨_,(Below.heap_setCell W _ _ _ hne1).trans hv,?_⟩,hset2,hB.setCell hgb _⟩;rw[HS.out,z8o _ _ _ _ (by omega)];have:=(hrow.stored (A.length*2+1) (.int .u8 (x:Int))).1;rw[ztp,List.set_append_right _ _ (by rw[z0e];omega),z0e,show A.length*2+1-2*A.length=1 by omega] at this;rw[length_append,List.length_singleton,ztp];exact this
   ·have ht: ¬(hi:Int)=((x:Int)-1)%256:=by
     have h:((hi:Int)==((x:Int)-1)%256)=false:=by assumption
     simpa using h
    have hset2:=(Below.heap_setCell w1 ⟨w.heap.size+1,0,none⟩ (.slice (some ⟨g',0,none⟩) (A.length+1+1) cap') (w.heap.size+1+1) (by simp)).trans hset1;refine⟨hk2.from _,hset2.trans hset.symm,⟨_,hv2,?_⟩,hset2,hB.trans hb2⟩;rw[HS.out,z2m _ _ _ _ (by omega),ztp,length_append,length_append];exact hr2
 case done=>
  rintro D ys W hD rfl ⟨⟨v,hv,hrow⟩,hset,hB⟩ hK;have hc:=hv.cell
  gi_wp2
  exact qfl (.inr rfl) rfl hK (results_tmp rfl _ _ _) ⟨v,rfl,ex_put hB _ hK rfl (by omega) hB.size,ownsRow_putObj hrow (.deferred none) hK rfl⟩
 case stop=>
  rintro D c pre W _ _ h _;exact h.elim
end Go.Proofs.YtjkcellkmmfkdaaGreatDoor
namespace Go.Ab
open Go Go.RowKit Go.Fwd Go.Proofs
theorem qpl {IT:IterP} {X:Cx} {b:Nat}: ∀(cs:List AV) (vs:List Value) (o:Nat),zbf IT X cs vs->(∀(i:Nat) (x:Value),vs[i]? =some x->X.F b (o+i)/\ X.w.cell? ⟨b,o+i,none⟩=some x/\ x.oneCell'=true)->At IT X cs b o
 |[],_,_,_,_=>trivial
 | c::cs,vs,o,hr,h=>by
  obtain⟨v,r,rfl,hv,hr⟩:=hr;obtain⟨h1,h2,h3⟩:=h 0 v rfl;refine⟨⟨h1,v,h2,h3,hv⟩,qpl cs r (o+1) hr fun i x hx=> ?_⟩;have:=h (i+1) x (by simpa using hx);rw[show o+1+i=o+(i+1) by omega];exact this
theorem qjz {w:World} {b o:Nat} {v:Value} (h:w.cell? ⟨b,o,none⟩=some v):b<w.heap.size:=by
 rcases Nat.lt_or_ge b w.heap.size with h1|h1
 ·exact h1
 ·exfalso
  have:w.heap[b]? =none:=Array.getElem?_eq_none h1;simp[World.cell?,this] at h
theorem qmn {P:Program} {f:FuncId} {args:List AV} {α:Type} [Enc α] {l:List α} {e:TypeId} (vs cells:List Value)(he:Ent P f)(ha: ∀X us,zbf (ITP P) X args us->us=vs)
 (hc: ∀X:Cx,zbf (ITP P) X (Enc.cellsL l) cells) (hone: ∀v∈cells,v.oneCell'=true)
 (h: ∀w,Calls P f vs.toArray w fun e1 w'=> ∃v,e1= .returned v/\ (Below w.heap.size w w'/\ drn w<=drn w')/\ w'.ownsRow w.heap.size e (Enc.sz α) v l.length cells):
 Pure (ITP P) P f args (.list l.length (Enc.cellsL l) .none):=by
 refine⟨he,fun X us hI hr=> ?_⟩;rw[ha X us hr];refine(h X.w).mono ?_;rintro e1 w' ⟨v,rfl,⟨hB,hd⟩,hlen,hown⟩;have hκ:X.κ=[]:=List.length_eq_zero_iff.1 hI.κlen;have hl0:X.lens=[]:=hI.lens;have hβ:X.β=[]:=List.length_eq_zero_iff.1 (by rw[hI.βlen,hl0];rfl)
 -- the block
 obtain⟨G,hG,hcell,hv⟩: ∃G,X.w.heap.size<=G/\ (∀(i:Nat) (x:Value),cells[i]? =some x->w'.cell? ⟨G,i,none⟩=some x)/\ ∃a cap,v= .slice a l.length cap/\ (l.length<=cap/\ (a=none->cap=0))/\ (cells=[] \/a=some ⟨G,0,none⟩):=by
  rcases hown with⟨rfl,h0⟩|⟨g,cap,cur,rfl,hg,hrow,hnc,_,hcs,ht⟩
  ·have hc0:cells=[]:=List.length_eq_zero_iff.1 (by rw[hlen,h0];simp);exact⟨X.w.heap.size,le_refl _,fun i x hx=>by rw[hc0] at hx;simp at hx,none,0,by rw[h0],⟨by omega,fun _=>rfl⟩,.inl hc0⟩
  ·refine⟨g,hg,fun i x hx=> ?_,_,cap,rfl,⟨hnc,fun h=>by cases h⟩,.inr rfl⟩;rw[cell_of_row _ _ _ _ _ _ hrow];have hi:i<l.length*Enc.sz α:=by
    have:=(List.getElem?_eq_some_iff.1 hx).1;omega
   rw[<-ht,List.getElem?_take,if_pos hi] at hx;simpa using hx
 have hFc: ∀b o,X.F b o->w'.cell? ⟨b,o,none⟩=X.w.cell? ⟨b,o,none⟩:=fun b o hF=>by
  obtain⟨u,hu⟩:=hI.Fcell b o hF;exact hB.cell (p:=⟨b,o,none⟩) (qjz hu)
 have hE:Ext X ⟨fun b o=>X.F b o \/(b=G/\ o<cells.length),X.κ,X.β,X.lens,w',X.O,X.C⟩:={
  F:=fun b o hF=> .inl hF
  cell:=hFc
  κ:=fun _ _ h=>h
  lens:=fun s L h=>⟨L,h,le_refl _,fun _=>rfl⟩
  blk:=fun s b hs=>by rw[hκ] at hs;simp at hs
  szs:=Szs.old fun k hk=>hB.block k hk
  os:=hB.os
  tape:=hB.tape
  output:=hB.output
  size:=hB.size
  drawn:=(by first|exact hd|exact le_refl _)
  frame:=fun b hb _ _=>hB.block b hb
  κnew:=fun b hb=> .inl hb
  βnew:=fun r hr=> .inl ⟨r,hr,rfl⟩
  O:=rfl
  C:=rfl
  Fnew:=fun b o hF=>hF.imp id fun h=> .inl (by rw[h.1];exact hG)}
 refine⟨v,_,rfl,rfl,hE,{
  lens:=hI.lens
  elems:=hI.elems
  κlen:=hI.κlen
  κnd:=fun s s' b h=>by rw[hκ] at h;simp at h
  box:=fun s b t cs h=>by rw[hκ] at h;simp at h
  κF:=fun s b t cs h=>by rw[hκ] at h;simp at h
  βlen:=hI.βlen
  βnd:=hI.βnd
  βκ:=hI.βκ
  row:=fun s r L h=>by rw[hβ] at h;simp at h
  Ok:=fun b hO=>by
   obtain⟨⟨cs,t,fz,h1⟩,h2,h3,h4⟩:=hI.Ok b hO;have hb:=(Array.getElem?_eq_some_iff.1 h1).1;refine⟨⟨cs,t,fz,(hB.block b hb).trans h1⟩,h2,h3,fun o hF=> ?_⟩;rcases hF with hF|⟨rfl,_⟩
   ·exact h4 o hF
   ·omega
  Fcell:=fun b o hF=>by
   rcases hF with hF|⟨rfl,ho⟩
   ·rw[hFc b o hF];exact hI.Fcell b o hF
   ·exact⟨cells[o],hcell o _ (List.getElem?_eq_getElem ho)⟩
  gv:=z3s (ze _) hE hI.gv},?_⟩
 obtain⟨a,cap,rfl,hcap,hcs⟩:=hv;refine⟨a,cap,rfl,hcap,?_,trivial⟩;rcases hcs with h0|rfl
 ·left
  have:=hc X;rw[h0] at this;cases hcl:Enc.cellsL l with
  |nil=>rfl
  | cons c cs=>
   rw[hcl] at this;obtain⟨_,_,h,_⟩:=this;cases h
 ·right
  refine⟨G,0,rfl,qpl _ cells 0 (hc _) fun i x hx=> ?_⟩;have hi:=(List.getElem?_eq_some_iff.1 hx).1;rw[zero_add];exact⟨.inr ⟨rfl,hi⟩,hcell i x hx,hone x (List.mem_of_getElem? hx)⟩
structure Sn where
 lo:Int
 hi:Int
 deriving DecidableEq
def qhf (e:Sn):List AV:=[.raw (.int .u8 e.lo),.raw (.int .u8 e.hi)]
instance:Enc Sn where
 inh:=⟨0,0⟩
 cells:=qhf
 cellsL l:=l.flatMap qhf
 sz:=2
 pos:=by decide
 nil:=rfl
 cons _ _:=rfl
 len _:=rfl
 clo _:=rfl
def zky (s:BS):List Sn:=(zgd s).map fun x=>⟨(x.1:Int),(x.2:Int)⟩
open Go.Proofs.YtjkcellkmmfkdaaGreatDoor (spansOf zkv z3t spc bytesOf zeh spans_any) in
theorem add_put (out:List Spn)(c:Nat)(hc:c<256)(h: ∀x∈out,x.2<256)(h0:out=[] \/1<=c):z3t out c=zyj out c:=by
 unfold z3t zyj;rcases List.eq_nil_or_concat out with rfl|⟨o,x,rfl⟩
 ·rfl
 ·rw[List.concat_eq_append] at*;obtain⟨lo,hi⟩:=x;have hh:=h (lo,hi) (by simp);simp only at hh;have h1:1<=c:=by
   rcases h0 with h0|h0
   ·simp at h0
   ·exact h0
  rw[List.getLast?_append,List.getLast?_singleton];simp only[Option.some_or];by_cases e:hi+1=c
  ·rw[if_pos e,if_pos (by omega)]
  ·rw[if_neg e,if_neg (by omega)]
open Go.Proofs.YtjkcellkmmfkdaaGreatDoor (spansOf zkv z3t spc bytesOf zeh spans_any) in
theorem z8j: ∀(l pre:List Nat) (out:List Spn),SpI pre out->(∀c∈l,c<256)->l.Pairwise (· < ·)->(out=[] \/ ∀c∈l,1<=c)->l.foldl z3t out=l.foldl zyj out
 |[],_,_,_,_,_,_=>rfl
 | c::l,pre,out,hI,hl,hp,h0=>by
  have hc:=hl c (by simp);rw[foldl_cons,foldl_cons,add_put out c hc (fun x hx=>(hI.ord x hx).2) (h0.imp id fun h=>h c (by simp))];rw[List.pairwise_cons] at hp;exact z8j l (pre++[c]) (zyj out c) (qoc hI hc) (fun x hx=>hl x (by simp[hx])) hp.2 (.inr fun x hx=>by have:=hp.1 x hx;omega)
open Go.Proofs.YtjkcellkmmfkdaaGreatDoor (spansOf zkv z3t spc bytesOf zeh spans_any) in
theorem zws (s:BS):spansOf s=zgd s:=by
 have hp:(elN s 256).Pairwise (· < ·):=List.Pairwise.sublist List.filter_sublist List.pairwise_lt_range;exact z8j (elN s 256) [] [] ⟨fun k=>by simp[cov],fun x hx=>by simp at hx,rfl⟩ (fun c hc=>el_lt hc) hp (.inl rfl)
theorem z2o (X:Cx): ∀l:List Spn,zbf (ITP prog) X (Enc.cellsL (l.map fun x=>(⟨(x.1:Int),(x.2:Int)⟩:Sn))) (l.flatMap fun p=>[.int .u8 (p.1:Int),.int .u8 (p.2:Int)])
 |[]=>rfl
 |x::l=>⟨_,_,rfl,rfl,_,_,rfl,rfl,z2o X l⟩
theorem k_spans (s:BS):Pure (ITP prog) prog 188 [.agg (Enc.cells s)] (.list (length (zky s:List Sn)) (Enc.cellsL (zky s:List Sn)) .none):=by
 refine qmn (e:=227) [Go.Proofs.YtjkcellkmmfkdaaGreatDoor.sv s] (Go.Proofs.YtjkcellkmmfkdaaGreatDoor.spc (Go.Proofs.YtjkcellkmmfkdaaGreatDoor.spansOf s)) (enters_of Tryz.func188 (by kernel_rfl) rfl) (fun X us h=> ?_) (fun X=> ?_) (fun v hv=> ?_) fun w=> ?_
 ·obtain⟨v,r,rfl,⟨vs,rfl,hvs,_⟩,hr⟩:=h;obtain⟨_,_,rfl,h0,_,_,rfl,h1,_,_,rfl,h2,_,_,rfl,h3,h4⟩:=hvs;have hr:r=[]:=hr;have h4:_=[]:=h4;rw[hr,h4,h0,h1,h2,h3];rfl
 ·rw[zws];exact z2o X (zgd s)
 ·unfold Go.Proofs.YtjkcellkmmfkdaaGreatDoor.spc at hv;rw[List.mem_flatMap] at hv;obtain⟨x,_,hv⟩:=hv;simp at hv;rcases hv with rfl|rfl<;>rfl
 ·refine(Go.Proofs.YtjkcellkmmfkdaaGreatDoor.spans_any s w).mono ?_;rintro e1 w' ⟨v,rfl,hE,hown⟩;refine⟨v,rfl,⟨hE.toBelow,hE.drawn⟩,?_⟩;have:(Go.Proofs.YtjkcellkmmfkdaaGreatDoor.spansOf s).length=(zky s).length:=by rw[zws];simp[zky]
  rw[<-this];exact hown
end Go.Ab
namespace Go.Ab
open Go Go.RowKit Go.Fwd Go.Proofs
def zsj  :Option BS:=
 (zaz (~~~(0#256)) (fun x1=>(some x1)))
theorem ent113:Ent prog 113:=enters_of Tryz.func113 (by kernel_rfl) rfl
theorem qfk  (r:BS)(h:zsj  =some r):Pure (ITP prog) prog 113 [] (.A (r:BS)):=by
 unfold zsj at h;refine zbc 3 mix Tryz.func113 ent113 ?_;refine zj (zb ?_);refine zdl (Enc.cells (0#256:BS)) ?_;refine zr [.v (.A (0#256:BS))] ?_;obtain⟨x1,hx1,h⟩:=zn h;refine zbx (args':=[.A (0#256:BS)]) (r:= .A (x1:BS)) (by rw[<-hx1];exact(qep (0#256))) ?_;refine zfs 4 (Enc.cells (x1:BS)) ?_;exact zbs (fun(r:BS)=> .A (r:BS)) h (.A (x1:BS))
def znd (s:BS):List (List UInt8):=(zgd s).map fun x=>gts (z4w x)
def qjc (l:List UInt8):List AV:=[.raw (.string (bs l))]
theorem rowS_ne (l:List (List UInt8)):List.map qjc l≠errRows:=by
 cases l with
 |nil=>simp[errRows]
 |cons a l=>simp[errRows,qjc,List.replicate]
end Go.Ab
namespace Go.Ab
open Go Go.RowKit Go.Fwd Go.Proofs
noncomputable def zpf (fuel:Nat)(s:BS)(rows:List (List UInt8)):Option Nat:=
 (zaz (zky s) (fun x1=>(zbk (β:=Int×Nat) (fun s1=>(bif (decide (s1.1<(length x1:Int))) then(chk (0<=s1.1/\ s1.1<(length x1:Int)) (zaz (ix x1 s1.1) (fun x2=>(chk (0<=x2.lo/\ x2.lo<256) (zaz (byT zaw (zkt x2.lo)) (fun x3=>(zda (τ:=(List UInt8)) (bif (decide ((IntKind.u8.wrap (x2.hi-x2.lo))>1)) then(chk (0<=x2.hi/\ x2.hi<256) (zaz (byT zaw (zkt x2.hi)) (fun x4=>(chk (length ([45]:List UInt8)+length x4<=9223372036854775807) (chk (length x3+length (([45]:List UInt8)++x4)<=9223372036854775807) (some (Sum.inl ((x3++(([45]:List UInt8)++x4)))))))))) else(bif (x2.hi !=x2.lo) then(chk (0<=x2.hi/\ x2.hi<256) (zaz (byT zaw (zkt x2.hi)) (fun x5=>(chk (length x3+length x5<=9223372036854775807) (some (Sum.inl ((x3++x5)))))))) else(some (Sum.inl (x3))))) (fun j1=>(qar (rows[s1.2]? =some j1) (chk (-9223372036854775808<=(s1.1+1)/\ (s1.1+1)<9223372036854775808) (some (Sum.inl ((s1.1+1),(s1.2+1)))))))))))))) else(some (Sum.inr s1.2)))) fuel (0,0))))
theorem ent187:Ent prog 187:=enters_of Tryz.func187 (by kernel_rfl) rfl
theorem qec (fuel:Nat)(s:BS)(rows:List (List UInt8))(h:zpf fuel s rows=some rows.length)(c:Code)(hc:Tryz.f187.body=some c)(G:Gen)(hGr:G.rows=rows.map qjc)(l:Nat)(hGl:G.l=l):awp (ITP prog) prog (some G) 0 c (z7e prog Tryz.f187 rows.length) (zai Tryz.f187 [.yld l,.iptr (Enc.cells (s:BS)),.iptr (Enc.cells (zaw:BS))]) St.empty:=by
 cases hc;unfold zpf at h;refine zbt (by dsimp only[zai,Tryz.f187,length_cons,length_nil,zero_add,Nat.reduceAdd,Nat.reduceSub,List.replicate,cons_append,nil_append]) (by dsimp only[St.empty]) ?_;refine zr [.v (.A (s:BS))] ?_;obtain⟨x1,hx1,h⟩:=zn h;refine zbx (args':=[.A (s:BS)]) (r:= .L (x1:List Sn)) (by rw[<-hx1];exact(k_spans s)) ?_;refine w_r [.v (.i (length x1:Int)),.v (.i 0)] ?_;refine zy ?_;refine zdg h (bz 0 49 562949953420538) (fun s1=>[(10,.i s1.1)]) (fun s1=>⟨[],[],[],s1.2,false⟩) ?_ ?_;exact zbh (bl 49 1797);intro s1 p1 h;refine zdw ?_;refine zr [.v (.b (decide (s1.1<(length x1:Int))))] ?_;refine zj ?_;refine zbv h (fun hc1 h=> ?_) (fun hc1 h=> ?_);refine zj ?_;refine zy ?_;refine zj (zb ?_);obtain⟨g1,h⟩:=zk h;obtain⟨x2,hx2,h⟩:=zn h;refine qbx hx2 g1 ?_;refine w_o (a:= .A (x2:Sn)) ?_;refine zoc (a:= .ptr 0 0) (U'':=⟨[(227,(Enc.cells ((Sn.mk 0 0):Sn)))],[],[],s1.2,false⟩) ?_;refine znb 2 ⟨[(227,(Enc.cells (x2:Sn)))],[],[],s1.2,false⟩ ?_;refine zr [.v (.ptr 0 0),.v (.u x2.lo),.v (.A (zaw:BS))] ?_;obtain⟨g2,h⟩:=zk h;obtain⟨x3,hx3,h⟩:=zn h;refine zbx (args':=[.u x2.lo,.A (zaw:BS)]) (r:= .s x3) (by rw[<-hx3];exact(z5g g2)) ?_;refine zah ?_;refine zau h (bz 0 44 17592186042464) (fun j1=>[(6,.s j1)]) (fun j1=>⟨[(227,(Enc.cells (x2:Sn)))],[],[],s1.2,false⟩) ?_ ?_;intro or1 h hr1;refine zy ?_;refine zr [.v (.ptr 0 1),.v (.u x2.hi),.v (.ptr 0 0),.v (.u x2.lo),.v (.u (IntKind.u8.wrap (x2.hi-x2.lo)))] ?_;refine w_r [.v (.b (decide ((IntKind.u8.wrap (x2.hi-x2.lo))>1))),.m _] ?_;refine zbv h (fun hc2 h=> ?_) (fun hc2 h=> ?_);refine zb (k0:=0) (id:=5) ?_;refine w_r [.m _,.v (.ptr 0 1),.v (.u x2.hi),.v (.A (zaw:BS))] ?_;obtain⟨g3,h⟩:=zk h;obtain⟨x4,hx4,h⟩:=zn h;refine zbx (args':=[.u x2.hi,.A (zaw:BS)]) (r:= .s x4) (by rw[<-hx4];exact(z5g g3)) ?_;obtain⟨g4,h⟩:=zk h;refine w_o (a:= .s (([45]:List UInt8)++x4)) (h:=zbl (zdz g4 rfl rfl rfl)) ?_;obtain⟨g5,h⟩:=zk h;refine w_o (a:= .s (x3++(([45]:List UInt8)++x4))) (h:=zbl (zdz g5 rfl rfl rfl)) ?_;refine zah ?_;refine zc (o:=or1) ((x3++(([45]:List UInt8)++x4))) h ?_;exact zbh (bl 49 545357767378911);refine zr [.v (.ptr 0 1),.v (.u x2.hi),.v (.ptr 0 0),.v (.u x2.lo),.v (.b (x2.hi !=x2.lo))] ?_;refine w_r [.m _] ?_;refine zbv h (fun hc3 h=> ?_) (fun hc3 h=> ?_);refine zb (k0:=0) (id:=7) ?_;refine w_r [.m _,.v (.ptr 0 1),.v (.u x2.hi),.v (.A (zaw:BS))] ?_;obtain⟨g6,h⟩:=zk h;obtain⟨x5,hx5,h⟩:=zn h;refine zbx (args':=[.u x2.hi,.A (zaw:BS)]) (r:= .s x5) (by rw[<-hx5];exact(z5g g6)) ?_;obtain⟨g7,h⟩:=zk h;refine w_o (a:= .s (x3++x5)) (h:=zbl (zdz g7 rfl rfl rfl)) ?_;refine zah ?_;refine zc (o:=or1) ((x3++x5)) h ?_;exact zbh (bl 49 545357767378911);refine zc (o:=or1) (x3) h ?_;exact zbh (bl 49 545357767378911);intro j1 h;refine zdw ?_;refine zr [.m _,.m _] ?_;obtain⟨g8,h⟩:=z1r h;refine zpj (row:=qjc) (x:=j1) (U1:=⟨[(227,(Enc.cells (x2:Sn)))],[],[],(s1.2+1),false⟩) (U2:=⟨[(227,(Enc.cells (x2:Sn)))],[],[],s1.2,true⟩) g8 (zu rfl rfl) (by kernel_rfl) (z7r rfl) rfl hGl hGr rfl rfl rfl rfl (by dsimp only[zad,List.set]) (by dsimp only[zad,List.set]) rfl rfl ?_ ?_;refine w_o (a:= .b false) ?_;refine zce rfl ?_;refine zb (k0:=0) (id:=9) ?_;obtain⟨g9,h⟩:=zk h;refine zjg g9 ?_;refine zah ?_;refine zbr (p:=p1) ((s1.1+1),(s1.2+1)) h ?_;exact zfl (bl 49 1797) 0 (by kernel_rfl) (Nat.le_of_ble_eq_true rfl) (zci rfl) (by dsimp only[zbq,zdf,foldl,List.set,bz,bzc,Nat.reduceMod,Nat.reduceDiv,Nat.reduceBEq,Nat.reduceAdd];exact(za rfl (za rfl (za rfl (za rfl (za rfl (za rfl (za rfl (za rfl (za (zca (Enc.cloL _)) (by kernel_rfl))))))))))) (by kernel_rfl);refine w_o (a:= .b true) ?_;refine zel rfl ?_;refine .inr ?_;exact⟨⟨.tup [],rfl⟩,.inl rfl⟩;refine zae h (fun h=> ?_);exact⟨⟨.tup [],rfl⟩,.inr (Option.some.inj h)⟩
theorem ent160:Ent prog 160:=enters_of Tryz.func160 (by kernel_rfl) rfl
theorem qlh (fuel:Nat)(s:BS)(rows:List (List UInt8))(h:zpf fuel s rows=some rows.length):Pure (ITP prog) prog 160 [.A (s:BS)] (.iter (rows.map qjc)):=by
 obtain⟨d,hd⟩: ∃d,Tryz.f160.body=some d:=⟨_,rfl⟩;refine zko mix Tryz.func160 hd ent160 ?_;cases hd;refine zbt (by dsimp only[zai,Tryz.f160,length_cons,length_nil,zero_add,Nat.reduceAdd,Nat.reduceSub,List.replicate,cons_append,nil_append]) (by dsimp only[St.empty]) ?_;refine zj (zb ?_);refine zdl (Enc.cells (s:BS)) ?_;refine w_o (a:= .raw Value.nilFunc) ?_;refine zj (zb ?_);refine zbx (r:= .A (zaw:BS)) qgl ?_;refine zdl (Enc.cells (0#256:BS)) ?_;refine zfs 4 (Enc.cells (zaw:BS)) ?_;refine zr [.v (.clos 187 [.ptr 0 0,.ptr 1 0]),.m _] ?_;exact zti 2 (row:=qjc) (caps:=[.iptr (Enc.cells (s:BS)),.iptr (Enc.cells (zaw:BS))]) mix rfl (congr (congrArg (fun z w=>AV.clos 187 [.iptr z,.iptr w]) (zcy _ _ (Enc.clo _))) (zcy _ _ (Enc.clo _))) Tryz.func187 rfl ent187 (by first|rfl|simp[cloL,clo,Enc.clo,zfk,Enc.cloL]) (rowS_ne _) (fun G hGr=>qec fuel s rows h _ rfl G hGr _ rfl)
theorem gts_one (c:Nat):gts [(c,none)]=byT zaw (UInt8.ofNat c):=by simp[gts,gtI]
theorem zsz (c:Nat):zkt (c:Int)=UInt8.ofNat c:=by unfold zkt;simp
theorem qkj {a b:Nat} (h:a<=b)(hb:b<256):IntKind.u8.wrap ((b:Int)-(a:Int))=((b-a:Nat):Int):=by
 have:((List.range 256).all fun c=>decide (IntKind.u8.wrap (c:Int)=(c:Int)))=true:=by decide+kernel
 have:=List.all_eq_true.1 this (b-a) (List.mem_range.2 (by omega));rw[decide_eq_true_eq] at this;rw[show(b:Int)-(a:Int)=((b-a:Nat):Int) by omega];exact this
theorem qgj (s:BS):zpf 1100 s (znd s)=some (znd s).length:=by
 unfold zpf;refine zv fun x1 hx1=> ?_;subst hx1;have hlen:(zky s).length=(zgd s).length:=by simp[zky]
 have hle:(zgd s).length<=256:=by
  have h:=z3z s;have h1:=zol s;rw[<-h.sum] at h1;have h2: ∀l:List Spn,(∀x∈l,x.1<=x.2)->l.length<=zki l:=by
   intro l;induction l with
   |nil=>intro _;simp[zki]
   | cons x l ih=>
    intro hx;have:=hx x (by simp);have:=ih fun y hy=>hx y (by simp[hy]);rw[zki,length_cons];omega
  have:=h2 (zgd s) fun x hx=>(h.ord x hx).1;omega
 refine zpy (zgd s).length (fun i=>((i:Int),i)) rfl (fun i hi=> ?_) ?_ (by omega)
 ·have hget:(zky s)[i]? =some ⟨((zgd s)[i].1:Int),((zgd s)[i].2:Int)⟩:=by simp[zky,hi]
  have hord:=(z3z s).ord (zgd s)[i] (getElem_mem hi);have hix:ix (zky s) (i:Int)=⟨((zgd s)[i].1:Int),((zgd s)[i].2:Int)⟩:=by
   unfold ix;rw[Int.toNat_natCast,List.getD_eq_getElem?_getD,hget];rfl
  have hrow:(znd s)[i]? =some (gts (z4w (zgd s)[i])):=by simp[znd,hi]
  obtain⟨x,hx⟩: ∃x,x=(zgd s)[i]:=⟨_,rfl⟩;rw[<-hx] at hix hrow hord;obtain⟨lo,hi'⟩:=x;simp only at hix hord;have hb1:=z8l lo;have hb2:=z8l hi';simp only;rw[decide_eq_true (show(i:Int)<((zky s).length:Int) by omega),cond_true];refine zt (by omega) (zv fun x2 hx2=> ?_);rw[hix] at hx2;subst hx2;simp only;refine zt (by omega) (zv fun x3 hx3=> ?_);rw[zsz] at hx3;subst hx3;refine zbg (gts (z4w (lo,hi'))) ?_ ?_
  ·unfold z4w;simp only;rw[qkj hord.1 hord.2];by_cases h1:hi'-lo>1
   ·rw[decide_eq_true (show((hi'-lo:Nat):Int)>1 by omega),cond_true,if_pos h1];refine zt (by omega) (zv fun x4 hx4=> ?_);rw[zsz] at hx4;subst hx4;refine zt (by simp;omega) (zt (by simp;omega) ?_);simp[gts,gtI]
   ·rw[decide_eq_false (show ¬((hi'-lo:Nat):Int)>1 by omega),cond_false,if_neg h1];by_cases h2:hi'=lo
    ·rw[h2,show(((lo:Int)) !=(lo:Int))=false by simp,cond_false,if_neg (by simp),gts_one]
    ·rw[show(((hi':Int)) !=(lo:Int))=true by simp;omega,cond_true,if_pos h2];refine zt (by omega) (zv fun x5 hx5=> ?_);rw[zsz] at hx5;subst hx5;refine zt (by omega) ?_;simp[gts,gtI]
  ·refine z9h hrow (zt (by omega) ?_);simp
 ·simp only;rw[decide_eq_false (show ¬((zgd s).length:Int)<((zky s).length:Int) by omega),cond_false];simp[znd]
theorem k_items (s:BS):Pure (ITP prog) prog 160 [.agg (Enc.cells s)] (.iter (List.map qjc (znd s))):=qlh 1100 s (znd s) (qgj s)
end Go.Ab
namespace Go.Ab
open Go Go.RowKit Go.Fwd Go.Proofs
def zhu (b:(List UInt8))(s:BS):Option (List UInt8):=
 (zda (τ:=(List UInt8)) (zaz (znd s) (fun x1=>(zda (zcp (β:=(List UInt8)) (fun s1 w1=>(chk (length s1+length w1<=9223372036854775807) (some (Sum.inl ((s1++w1)))))) x1 (b)) (fun s1=>(some (Sum.inl (s1))))))) (fun j1=>(chk (length j1+length ([93]:List UInt8)<=9223372036854775807) (some (j1++([93]:List UInt8))))))
theorem ent114:Ent prog 114:=enters_of Tryz.func114 (by kernel_rfl) rfl
theorem zvk (b:(List UInt8))(s:BS)(r:(List UInt8))(h:zhu b s=some r):Pure (ITP prog) prog 114 [.raw (.string (bs b)),.A (s:BS)] (.raw (.string (bs r))):=by
 unfold zhu at h;refine zbc 12 mix Tryz.func114 ent114 ?_;refine zj (zb ?_);refine zdl [.s b] ?_;refine zdl (Enc.cells (s:BS)) ?_;refine w_o (a:= .s ([]:List UInt8)) ?_;refine zau h (bz 0 14 16379) (fun j1=>[]) (fun j1=>(.B [(9,[.s j1]),(24,(Enc.cells (s:BS)))])) ?_ ?_;intro or1 h hr1;refine zr [.v (.A (s:BS))] ?_;obtain⟨x1,hx1,h⟩:=zn h;refine zbx (args':=[.A (s:BS)]) (r:= .iter (List.map qjc x1)) (by rw[<-hx1];exact(k_items s)) ?_;refine zy ?_;refine zjc h qjc (fun s1=>(.B [(9,[.s s1]),(24,(Enc.cells (s:BS)))])) rfl (fun _=>rfl) rfl rfl ?_ ?_;intro s1 w1 p1 h;refine zbt (by dsimp only[zkc,List.zip,List.zipWith,foldl,List.set,Array.toList,qjc]) rfl ?_;refine zb (k0:=0) (id:=2) ?_;refine zah ?_;refine zy ?_;refine zb (k0:=0) (id:=3) ?_;refine w_r [.v (.s s1),.m _] ?_;obtain⟨g1,h⟩:=zk h;refine w_o (a:= .s (s1++w1)) (h:=zbl (zdz g1 rfl rfl rfl)) ?_;refine zfs 1 [.s (s1++w1)] ?_;exact zes (p:=p1) ((s1++w1)) h (zci (zaj (by kernel_rfl) (zaj (zab _ _ (Enc.clo _)) rfl))) (by kernel_rfl);intro s1 h;refine zc (o:=or1) (s1) h ?_;exact zbh (bl 14 4);intro j1 h;refine zdw ?_;refine zr [.v (.s j1)] ?_;obtain⟨g2,h⟩:=zk h;refine w_o (a:= .s (j1++([93]:List UInt8))) (h:=zbl (zdz g2 rfl rfl rfl)) ?_;refine zah ?_;exact znx h
def zxi (fuel:Nat)(s:BS):Option (List UInt8):=
 (zaa (zty s) (fun x1=>(chk (0<=x1.1/\ x1.1<256) (zaa (zex fuel ([(zkt x1.1)]:List UInt8)) (fun x2=>(bif (decide (s=x2)) then(chk (0<=x1.1/\ x1.1<256) (zaz (byT zat (zkt x1.1)) (fun x3=>(some x3)))) else(zaa (zex fuel ([10]:List UInt8)) (fun x4=>(zaz (~~~x4) (fun x5=>(bif (decide (s=x5)) then(some ([46]:List UInt8)) else(zda (τ:=Bool) (zaa (zim s) (fun x6=>(bif (decide (x6>128)) then(zaa (zsj) (fun x7=>(some (Sum.inl ((decide (s≠x7))))))) else(some (Sum.inl (false)))))) (fun j1=>(bif j1 then(zaz (~~~s) (fun x8=>(zaa (zhu ([91,94]:List UInt8) x8) (fun x9=>(some x9))))) else(zaa (zhu ([91]:List UInt8) s) (fun x10=>(some x10)))))))))))))))))
theorem ent62:Ent prog 62:=enters_of Tryz.func62 (by kernel_rfl) rfl
theorem z5b (fuel:Nat)(s:BS)(r:(List UInt8))(h:zxi fuel s=some r):Pure (ITP prog) prog 62 [.A (s:BS)] (.raw (.string (bs r))):=by
 unfold zxi at h;refine zbc 38 mix Tryz.func62 ent62 ?_;refine zj (zb ?_);refine zdl (Enc.cells (s:BS)) ?_;refine w_o (a:= .s ([]:List UInt8)) ?_;refine zr [.v (.A (s:BS))] ?_;obtain⟨x1,hx1,h⟩:=zm h;refine zbx (qji s x1 hx1) ?_;refine w_r [.m _,.x _,.x _,.m _,.m _] ?_;refine zj ?_;refine zy ?_;refine zj ?_;refine zie (k0:=0) (id:=2) 4 (by kernel_rfl) (by kernel_rfl) ?_;refine h_o (a:= .A (s:BS)) ?_;refine zfo ?_;obtain⟨g1,h⟩:=zk h;refine h_o (a:= .F (([(zkt x1.1)]:List UInt8):List UInt8)) (h:=zhc (α:=UInt8) (l:=([(zkt x1.1)]:List UInt8)) (cs:=[.u x1.1]) rfl (by show List.map _ _=_;simp only[map_cons,List.map_nil,u8c g1])) ?_;obtain⟨x2,hx2,h⟩:=zm h;refine qce (zhn fuel ([(zkt x1.1)]:List UInt8) x2 hx2) ?_;refine zgs ?_;refine zzi (.b (decide (s=x2))) rfl rfl rfl (zmk s x2 rfl rfl rfl) (by dsimp only[zad,List.set]) ?_;refine zah ?_;refine zbv h (fun hc1 h=> ?_) (fun hc1 h=> ?_);refine zr [.m _] ?_;refine zbx (r:= .A (zat:BS)) z0m ?_;obtain⟨g2,h⟩:=zk h;obtain⟨x3,hx3,h⟩:=zn h;refine zbx (args':=[.u x1.1,.A (zat:BS)]) (r:= .s x3) (by rw[<-hx3];exact(z4v g2)) ?_;refine zah ?_;exact znx h;refine zj ?_;refine zie (k0:=0) (id:=4) 4 (by kernel_rfl) (by kernel_rfl) ?_;refine h_o (a:= .A (s:BS)) ?_;refine h_o (a:= .F (([10]:List UInt8):List UInt8)) (h:=zhc (α:=UInt8) (l:=([10]:List UInt8)) (cs:=[.u 10]) rfl rfl) ?_;obtain⟨x4,hx4,h⟩:=zm h;refine qce (zhn fuel ([10]:List UInt8) x4 hx4) ?_;obtain⟨x5,hx5,h⟩:=zn h;refine qce (args':=[.A (x4:BS)]) (r:= .A (x5:BS)) (by rw[<-hx5];exact(qep x4)) ?_;refine zgs ?_;refine zzi (.b (decide (s=x5))) rfl rfl rfl (zmk s x5 rfl rfl rfl) (by dsimp only[zad,List.set]) ?_;refine zah ?_;refine zbv h (fun hc2 h=> ?_) (fun hc2 h=> ?_);refine zr [.v (.s ([46]:List UInt8))] ?_;exact znx h;refine zau h (bz 0 39 549755813885) (fun j1=>[(25,.b j1)]) (fun j1=>(.B [(24,(Enc.cells (s:BS)))])) ?_ ?_;intro or1 h hr1;refine zie (k0:=0) (id:=6) 6 (by kernel_rfl) (by kernel_rfl) ?_;refine h_o (a:= .A (s:BS)) ?_;obtain⟨x6,hx6,h⟩:=zm h;refine qce (zyf s x6 hx6) ?_;refine h_o (a:= .b (decide (x6>128))) ?_;refine zan h (fun hc3 h=> ?_) (fun hc3 h=> ?_);refine h_o (a:= .b true) (h:=zee rfl hc3) ?_;refine zcm rfl rfl ?_;refine h_o (a:= .A (s:BS)) ?_;refine zcm rfl rfl ?_;obtain⟨x7,hx7,h⟩:=zm h;refine qce (qfk  x7 hx7) ?_;refine zgs ?_;refine zbj rfl rfl ?_;refine zzi (.b (decide (s≠x7))) rfl rfl rfl (zug s x7 rfl rfl rfl) (by dsimp only[zad,List.set]) ?_;refine w_r [.v (.b (decide (s≠x7))),.m _] ?_;refine zc (o:=or1) ((decide (s≠x7))) h ?_;exact zbh (bl 39 33554434);refine h_o (a:= .b false) (h:=zee rfl hc3) ?_;iterate 2 refine zby ?_
 refine zgs ?_;refine w_r [.p,.v (.b false),.m _] ?_;refine zc (o:=or1) (false) h ?_;exact zbh (bl 39 33554434);intro j1 h;refine zdw ?_;refine zbv h (fun hc4 h=> ?_) (fun hc4 h=> ?_);refine zr [.v (.A (s:BS))] ?_;obtain⟨x8,hx8,h⟩:=zn h;refine zbx (args':=[.A (s:BS)]) (r:= .A (x8:BS)) (by rw[<-hx8];exact(qep s)) ?_;obtain⟨x9,hx9,h⟩:=zm h;refine zbx (zvk ([91,94]:List UInt8) x8 x9 hx9) ?_;refine zah ?_;exact znx h;refine zr [.v (.A (s:BS))] ?_;obtain⟨x10,hx10,h⟩:=zm h;refine zbx (zvk ([91]:List UInt8) s x10 hx10) ?_;refine zah ?_;exact znx h
def z9y (fuel:Nat)(s:BS):Option ((List UInt8)×Int):=
 (bif (decide (s=(0#256))) then(some (([]:List UInt8),100)) else(zaa (zxi fuel s) (fun x1=>(some (x1,0)))))
theorem ent27:Ent prog 27:=enters_of Tryz.func27 (by kernel_rfl) rfl
theorem pSet_sh (fuel:Nat)(s:BS)(r:((List UInt8)×Int))(h:z9y fuel s=some r):Pure (ITP prog) prog 27 [.A (s:BS)] (.tup [.raw (.string (bs r.1)),.raw (.int .i64 r.2)]):=by
 unfold z9y at h;refine zbc 8 mix Tryz.func27 ent27 ?_;refine zj (zb ?_);refine zdl (Enc.cells (s:BS)) ?_;refine w_r [.v (.s ([]:List UInt8)),.v (.i 0)] ?_;refine zj ?_;refine zr [.v (.A (s:BS)),.v (.A (0#256:BS))] ?_;refine zzi (.b (decide (s=(0#256)))) rfl rfl rfl (zmk s (0#256) rfl rfl rfl) (by dsimp only[zad,List.set]) ?_;refine zbv h (fun hc1 h=> ?_) (fun hc1 h=> ?_);refine zr [.v (.s ([]:List UInt8)),.v (.i 100)] ?_;exact zbs (fun(r:((List UInt8)×Int))=> .tup [.s r.1,.i r.2]) h (.tup [.s ([]:List UInt8),.i 100]);refine zr [.v (.A (s:BS))] ?_;obtain⟨x1,hx1,h⟩:=zm h;refine zbx (z5b fuel s x1 hx1) ?_;refine w_r [.m _,.v (.i 0)] ?_;exact zbs (fun(r:((List UInt8)×Int))=> .tup [.s r.1,.i r.2]) h (.tup [.s x1,.i 0])
end Go.Ab
namespace Go.Ab
open Go Go.RowKit Go.Fwd Go.Proofs
def zmw (fuel:Nat)(n:Nat)(t:Tr)(ks:(List UInt8)):Option (List UInt8):=
 (zda (τ:=Unit) (zbk (β:=Int) (fun s1=>(bif (decide (s1<(length ks:Int))) then(chk (0<=s1/\ s1<(length ks:Int)) (bif (((t.k:Nat):Int)==((((ix ks s1)).toNat:Nat):Int)) then(chk ((pre t).length<n/\ PR t) (zaz (tP t) (fun x1=>(chk (length ([40,63,58]:List UInt8)+length x1<=9223372036854775807) (chk (length (([40,63,58]:List UInt8)++x1)+length ([41]:List UInt8)<=9223372036854775807) (some (Sum.inr (Sum.inr ((([40,63,58]:List UInt8)++x1)++([41]:List UInt8)))))))))) else(chk (-9223372036854775808<=(s1+1)/\ (s1+1)<9223372036854775808) (some (Sum.inl ((s1+1))))))) else(some (Sum.inr (Sum.inl ()))))) fuel (0)) (fun j1=>(chk ((pre t).length<n/\ PR t) (zaz (tP t) (fun x2=>(some x2))))))
theorem ent97:Ent prog 97:=enters_of Tryz.func97 (by kernel_rfl) rfl
theorem z3b (fuel:Nat)(n:Nat)(t:Tr)(ks:(List UInt8))(r:(List UInt8))(ih: ∀x:Tr,(pre x).length<n/\ PR x->Pure (ITP prog) prog 55 [.A x] (.raw (.string (bs (tP x)))))(h:zmw fuel n t ks=some r):Pure (ITP prog) prog 97 [.A (t:Tr),.L (ks:List UInt8)] (.raw (.string (bs r))):=by
 unfold zmw at h;refine zbc 22 mix Tryz.func97 ent97 ?_;refine zj (zb ?_);refine zdl (Enc.cells (t:Tr)) ?_;refine w_o (a:= .s ([]:List UInt8)) ?_;refine zau h (bz 0 24 16777211) (fun j1=>[]) (fun j1=>(.B [(27,(Enc.cells (t:Tr)))])) ?_ ?_;intro or1 h hr1;refine zr [.m _,.v (.i (length ks:Int)),.v (.i 0)] ?_;refine zy ?_;refine zdg h (bz 0 24 16776827) (fun s1=>[(9,.i s1)]) (fun s1=>(.B [(27,(Enc.cells (t:Tr)))])) ?_ ?_;exact zbh (bl 24 900);intro s1 p1 h;refine zdw ?_;refine zr [.v (.b (decide (s1<(length ks:Int))))] ?_;refine zj ?_;refine zbv h (fun hc1 h=> ?_) (fun hc1 h=> ?_);refine zj ?_;refine zy ?_;refine zj (zb ?_);obtain⟨g1,h⟩:=zk h;refine w_o (a:= .iptr (Enc.cells (ix ks s1)++Enc.cellsL (List.drop (Int.toNat s1+1) ks))) (h:=zbl (qmt (α:=UInt8) (l:=ks) g1 rfl rfl rfl rfl rfl)) ?_;refine w_r [.v (.u ((((ix ks s1)).toNat:Nat):Int)),.m _] ?_;refine zr [.v (.ptr 0 0),.v (.u ((t.k:Nat):Int)),.m _,.v (.b (((t.k:Nat):Int)==((((ix ks s1)).toNat:Nat):Int)))] ?_;refine zbv h (fun hc2 h=> ?_) (fun hc2 h=> ?_);refine zr [.v (.A (t:Tr))] ?_;obtain⟨g2,h⟩:=zk h;obtain⟨x1,hx1,h⟩:=zn h;refine zbx (args':=[.A (t:Tr)]) (r:= .s x1) (by rw[<-hx1];exact(ih t g2)) ?_;obtain⟨g3,h⟩:=zk h;refine w_o (a:= .s (([40,63,58]:List UInt8)++x1)) (h:=zbl (zdz g3 rfl rfl rfl)) ?_;obtain⟨g4,h⟩:=zk h;refine w_o (a:= .s ((([40,63,58]:List UInt8)++x1)++([41]:List UInt8))) (h:=zbl (zdz g4 rfl rfl rfl)) ?_;refine zah ?_;refine zae h (fun h=> ?_);replace h:=zaq h hr1;exact znx h;refine zb (k0:=0) (id:=6) ?_;obtain⟨g5,h⟩:=zk h;refine zjg g5 ?_;refine zah ?_;refine zbr (p:=p1) ((s1+1)) h ?_;exact zbh (bl 24 900);refine zae h (fun h=> ?_);refine zc (o:=or1) () h ?_;exact zbh (bl 24 4);intro j1 h;refine zdw ?_;refine zr [.v (.A (t:Tr))] ?_;obtain⟨g6,h⟩:=zk h;obtain⟨x2,hx2,h⟩:=zn h;refine zbx (args':=[.A (t:Tr)]) (r:= .s x2) (by rw[<-hx2];exact(ih t g6)) ?_;refine zah ?_;exact znx h
def zsr (fuel:Nat)(n:Nat)(t:Tr):Option (List UInt8):=
 (zda (τ:=Unit) (bif (((t.k:Nat):Int)==2) then(zaa (zxi fuel t.s) (fun x1=>(some (Sum.inr x1)))) else(bif (((t.k:Nat):Int)==6) then(chk (0<=(0:Int)/\ (0:Int)<(length t.l:Int)) (zaz (ix t.l (0:Int)) (fun x2=>(chk ((pre x2).length<n/\ PR x2) (zaz (tP x2) (fun x3=>(chk (length ([40]:List UInt8)+length x3<=9223372036854775807) (chk (length (([40]:List UInt8)++x3)+length ([41]:List UInt8)<=9223372036854775807) (some (Sum.inr ((([40]:List UInt8)++x3)++([41]:List UInt8)))))))))))) else(bif (((t.k:Nat):Int)==5) then(chk (0<=(0:Int)/\ (0:Int)<(length t.l:Int)) (zaz (ix t.l (0:Int)) (fun x4=>(zaa (zmw fuel n x4 ([3,4,5]:List UInt8)) (fun x5=>(chk ((0<=(Bd.mk t.mn t.mx).lo/\ (Bd.mk t.mn t.mx).lo<17)/\ (-1<=(Bd.mk t.mn t.mx).mo/\ (Bd.mk t.mn t.mx).mo<17)) (zaz (z5f (Bd.mk t.mn t.mx).lo (Bd.mk t.mn t.mx).mo) (fun x6=>(chk (length x5+length x6<=9223372036854775807) (some (Sum.inr (x5++x6)))))))))))) else(bif (((t.k:Nat):Int)==3) then(zda (τ:=(Bool×List UInt8)) (zbk (β:=Int×(Bool×List UInt8)) (fun s1=>(bif (decide (s1.1<(length t.l:Int))) then(chk (0<=s1.1/\ s1.1<(length t.l:Int)) (zaz (ix t.l s1.1) (fun x7=>(zaa (zmw fuel n x7 ([4]:List UInt8)) (fun x8=>(chk ((length s1.2.2+length x8)*1<=140737488355328) (chk (-9223372036854775808<=(s1.1+1)/\ (s1.1+1)<9223372036854775808) (some (Sum.inl ((s1.1+1),(true,(s1.2.2++x8)))))))))))) else(some (Sum.inr (Sum.inl ((s1.2.1,s1.2.2))))))) fuel (0,(false,([]:List UInt8)))) (fun j2=>(some (Sum.inr j2.2)))) else(bif (((t.k:Nat):Int)==4) then(zda (τ:=(List (List UInt8))) (zbk (β:=(List (List UInt8))×Int) (fun s2=>(bif (decide (s2.2<(length t.l:Int))) then(chk (0<=s2.2/\ s2.2<(length t.l:Int)) (zaz (ix t.l s2.2) (fun x9=>(chk ((pre x9).length<n/\ PR x9) (zaz (tP x9) (fun x10=>(chk ((length s2.1+length [x10])*16<=140737488355328) (chk (-9223372036854775808<=(s2.2+1)/\ (s2.2+1)<9223372036854775808) (some (Sum.inl ((s2.1++[x10]),(s2.2+1)))))))))))) else(some (Sum.inr (Sum.inl (s2.1)))))) fuel (([]:(List (List UInt8))),0)) (fun j3=>(chk ((length j3:Int)<=140737488355328/\ (length (Lib.join j3 ([124]:List UInt8)):Int)<=140737488355328) (zaz (Lib.join j3 ([124]:List UInt8)) (fun x11=>(some (Sum.inr x11))))))) else(some (Sum.inl ()))))))) (fun j1=>(some ([]:List UInt8))))
theorem ent55:Ent prog 55:=enters_of Tryz.func55 (by kernel_rfl) rfl
theorem qfs (fuel:Nat)(n:Nat)(t:Tr)(r:(List UInt8))(ih: ∀x:Tr,(pre x).length<n/\ PR x->Pure (ITP prog) prog 55 [.A x] (.raw (.string (bs (tP x)))))(h:zsr fuel n t=some r):Pure (ITP prog) prog 55 [.A (t:Tr)] (.raw (.string (bs r))):=by
 unfold zsr at h;refine zbc 71 mix Tryz.func55 ent55 ?_;refine zj (zb ?_);refine zdl (Enc.cells (t:Tr)) ?_;refine w_o (a:= .s ([]:List UInt8)) ?_;refine zau h (bz 0 72 4722366482869645213695) (fun j1=>[]) (fun j1=>(.B [(27,(Enc.cells (t:Tr)))])) ?_ ?_;intro or1 h hr1;refine zr [.v (.ptr 0 0),.v (.u ((t.k:Nat):Int))] ?_;refine zy ?_;refine zr [.v (.b (((t.k:Nat):Int)==2)),.m _] ?_;refine zbv h (fun hc1 h=> ?_) (fun hc1 h=> ?_);refine zr [.v (.ptr 0 1),.v (.A (t.s:BS))] ?_;obtain⟨x1,hx1,h⟩:=zm h;refine zbx (z5b fuel t.s x1 hx1) ?_;refine zah ?_;replace h:=zaq h hr1;exact znx h;refine zr [.v (.b (((t.k:Nat):Int)==6)),.m _] ?_;refine zbv h (fun hc2 h=> ?_) (fun hc2 h=> ?_);refine zr [.v (.ptr 0 7),.v (.L (t.l:List Tr))] ?_;obtain⟨g1,h⟩:=zk h;obtain⟨x2,hx2,h⟩:=zn h;refine qbx hx2 g1 ?_;refine w_o (a:= .A (x2:Tr)) ?_;obtain⟨g2,h⟩:=zk h;obtain⟨x3,hx3,h⟩:=zn h;refine zbx (args':=[.A (x2:Tr)]) (r:= .s x3) (by rw[<-hx3];exact(ih x2 g2)) ?_;obtain⟨g3,h⟩:=zk h;refine w_o (a:= .s (([40]:List UInt8)++x3)) (h:=zbl (zdz g3 rfl rfl rfl)) ?_;obtain⟨g4,h⟩:=zk h;refine w_o (a:= .s ((([40]:List UInt8)++x3)++([41]:List UInt8))) (h:=zbl (zdz g4 rfl rfl rfl)) ?_;refine zah ?_;replace h:=zaq h hr1;exact znx h;refine zr [.v (.b (((t.k:Nat):Int)==5)),.m _] ?_;refine zbv h (fun hc3 h=> ?_) (fun hc3 h=> ?_);refine zj ?_;refine zie (k0:=0) (id:=7) 11 (by kernel_rfl) (by kernel_rfl) ?_;refine h_o (a:= .ptr 0 7) ?_;refine h_o (a:= .L (t.l:List Tr)) ?_;obtain⟨g5,h⟩:=zk h;obtain⟨x4,hx4,h⟩:=zn h;refine h_ix hx4 g5 ?_;refine h_o (a:= .A (x4:Tr)) ?_;refine h_o (a:= .F (([3,4,5]:List UInt8):List UInt8)) (h:=zhc (α:=UInt8) (l:=([3,4,5]:List UInt8)) (cs:=[.u 3,.u 4,.u 5]) (by kernel_rfl) rfl) ?_;obtain⟨x5,hx5,h⟩:=zm h;refine qce (z3b fuel n x4 ([3,4,5]:List UInt8) x5 ih hx5) ?_;refine h_o (a:= .ptr 0 5) ?_;refine h_o (a:= .i t.mn) ?_;refine h_o (a:= .ptr 0 6) ?_;refine h_o (a:= .i t.mx) ?_;refine h_o (a:= .A ((Bd.mk t.mn t.mx):Bd)) ?_;refine zgs ?_;obtain⟨g6,h⟩:=zk h;obtain⟨x6,hx6,h⟩:=zn h;refine zbx (args':=[.A ((Bd.mk t.mn t.mx):Bd)]) (r:= .s x6) (by rw[<-hx6];exact(k_count (Bd.mk t.mn t.mx) g6)) ?_;obtain⟨g7,h⟩:=zk h;refine w_o (a:= .s (x5++x6)) (h:=zbl (zdz g7 rfl rfl rfl)) ?_;refine zah ?_;replace h:=zaq h hr1;exact znx h;refine zr [.v (.b (((t.k:Nat):Int)==3)),.m _] ?_;refine zbv h (fun hc4 h=> ?_) (fun hc4 h=> ?_);refine zj (zb ?_);refine z1v (a:= .ptr 1 0) (U'':=(zar [(27,(Enc.cells (t:Tr))),(88,(zwh 1 false ([]:List UInt8)))] 5 (length (([]:List UInt8):List UInt8)) 1)) rfl rfl rfl rfl (by dsimp only[zad,List.set]) rfl ?_;refine zau h (bz 0 72 4722366482869645213687) (fun j2=>[]) (fun j2=>(zar [(27,(Enc.cells (t:Tr))),(88,(zwh 1 j2.1 j2.2))] 5 (length (j2.2:List UInt8)) 1)) ?_ ?_;intro or2 h hr2;refine zr [.v (.ptr 0 7),.v (.L (t.l:List Tr)),.v (.i (length t.l:Int)),.v (.i 0)] ?_;refine zy ?_;refine zdg h (bz 0 72 4722366456481366147063) (fun s1=>[(45,.i s1.1)]) (fun s1=>(zar [(27,(Enc.cells (t:Tr))),(88,(zwh 1 s1.2.1 s1.2.2))] 5 (length (s1.2.2:List UInt8)) 1)) ?_ ?_;exact zbh (bl 72 61572651155464);intro s1 p1 h;refine zdw ?_;refine zr [.v (.b (decide (s1.1<(length t.l:Int))))] ?_;refine zj ?_;refine zbv h (fun hc5 h=> ?_) (fun hc5 h=> ?_);refine zj ?_;refine zy ?_;refine zj (zb ?_);obtain⟨g8,h⟩:=zk h;obtain⟨x7,hx7,h⟩:=zn h;refine qbx hx7 g8 ?_;refine w_o (a:= .A (x7:Tr)) ?_;refine zoc (a:= .ptr 2 0) (U'':=(zar [(27,(Enc.cells (t:Tr))),(88,(zwh 1 s1.2.1 s1.2.2)),(27,[.u 0,.raw (.int .u64 0),.raw (.int .u64 0),.raw (.int .u64 0),.raw (.int .u64 0),.i 0,.i 0,.list 0 [] .full])] 5 (length (s1.2.2:List UInt8)) 1)) ?_;refine znb 8 (zar [(27,(Enc.cells (t:Tr))),(88,(zwh 1 s1.2.1 s1.2.2)),(27,(Enc.cells (x7:Tr)))] 5 (length (s1.2.2:List UInt8)) 1) ?_;refine zb (k0:=0) (id:=13) ?_;refine w_o (a:= .A (x7:Tr)) ?_;refine w_o (a:= .F (([4]:List UInt8):List UInt8)) (h:=zbl (zhc (α:=UInt8) (l:=([4]:List UInt8)) (cs:=[.u 4]) rfl rfl)) ?_;obtain⟨x8,hx8,h⟩:=zm h;refine zbx (z3b fuel n x7 ([4]:List UInt8) x8 ih hx8) ?_;obtain⟨g9,h⟩:=zk h;refine zfj (r:= .tup [.i (length x8:Int),.raw .nilIface]) (U':=(zar [(27,(Enc.cells (t:Tr))),(88,(zwh 1 true (s1.2.2++x8))),(27,(Enc.cells (x7:Tr)))] 5 (length ((s1.2.2++x8):List UInt8)) 1)) (z1h (u:=s1.2.1) (l:=s1.2.2) (b:=x8) g9 rfl) rfl rfl ⟨rfl,rfl⟩ (by dsimp only[zad,List.set]) ?_;refine zb (k0:=0) (id:=14) ?_;obtain⟨g10,h⟩:=zk h;refine zjg g10 ?_;refine zah ?_;refine zbr (p:=p1) ((s1.1+1),(true,(s1.2.2++x8))) h ?_;exact zfl (bl 72 61572651155464) 2 (by kernel_rfl) (Nat.le_of_ble_eq_true rfl) (zci (zaj (zab _ _ (Enc.clo _)) (zaj (okT_bld (by decide)) rfl))) (by dsimp only[zbq,zdf,foldl,List.set,bz,bzc,Nat.reduceMod,Nat.reduceDiv,Nat.reduceBEq,Nat.reduceAdd];exact(za rfl (za rfl (za rfl (za (by decide) (za rfl (za rfl (za rfl (za rfl (za rfl (za rfl (za rfl (za rfl (za rfl (za rfl (za rfl (za rfl (za rfl (za rfl (za rfl (za rfl (za rfl (za rfl (za rfl (za rfl (za rfl (za rfl (za rfl (za rfl (za rfl (za rfl (za rfl (za rfl (za rfl (za rfl (za rfl (za rfl (za rfl (za rfl (za rfl (za rfl (za rfl (za rfl (za rfl (za (zca (Enc.cloL _)) (by kernel_rfl)))))))))))))))))))))))))))))))))))))))))))))) (by kernel_rfl);refine zae h (fun h=> ?_);refine zc (o:=or2) ((s1.2.1,s1.2.2)) h ?_;exact zbh (bl 72 8);intro j2 h;refine zdw ?_;refine zj (zb ?_);refine zfj (r:= .s j2.2) (U':=(zar [(27,(Enc.cells (t:Tr))),(88,(zwh 1 j2.1 j2.2))] 5 (length (j2.2:List UInt8)) 1)) (zxl (u:=j2.1) (l:=j2.2) rfl) rfl rfl ⟨rfl,rfl⟩ (by dsimp only[zad,List.set]) ?_;refine zah ?_;replace h:=zaq h hr1;exact znx h;refine zr [.v (.b (((t.k:Nat):Int)==4)),.m _] ?_;refine zbv h (fun hc6 h=> ?_) (fun hc6 h=> ?_);refine zr [.v (.list 0 [] .full)] ?_;refine zau h (bz 0 72 4722366482869645213695) (fun j3=>[(6,(.O (j3:List (List UInt8))))]) (fun j3=>(zar [(27,(Enc.cells (t:Tr)))] 9 (length (j3:List (List UInt8))) 1)) ?_ ?_;intro or3 h hr3;refine zr [.v (.ptr 0 7),.v (.L (t.l:List Tr)),.v (.i (length t.l:Int)),.v (.i 0)] ?_;refine zy ?_;refine zdg h (bz 0 72 4721501791741190078463) (fun s2=>[(6,(.O (s2.1:List (List UInt8)))),(60,.i s2.2)]) (fun s2=>(zar [(27,(Enc.cells (t:Tr)))] 9 (length (s2.1:List (List UInt8))) 1)) ?_ ?_;exact zbh (bl 72 2017612633061982272);intro s2 p2 h;refine zdw ?_;refine zr [.v (.b (decide (s2.2<(length t.l:Int))))] ?_;refine zj ?_;refine zbv h (fun hc7 h=> ?_) (fun hc7 h=> ?_);refine zj ?_;refine zy ?_;refine zj (zb ?_);obtain⟨g11,h⟩:=zk h;obtain⟨x9,hx9,h⟩:=zn h;refine qbx hx9 g11 ?_;refine w_o (a:= .A (x9:Tr)) ?_;refine zoc (a:= .ptr 1 0) (U'':=(zar [(27,(Enc.cells (t:Tr))),(27,[.u 0,.raw (.int .u64 0),.raw (.int .u64 0),.raw (.int .u64 0),.raw (.int .u64 0),.i 0,.i 0,.list 0 [] .full])] 9 (length (s2.1:List (List UInt8))) 1)) ?_;refine znb 8 (zar [(27,(Enc.cells (t:Tr))),(27,(Enc.cells (x9:Tr)))] 9 (length (s2.1:List (List UInt8))) 1) ?_;refine zb (k0:=0) (id:=21) ?_;refine w_r [.m _,.v (.A (x9:Tr))] ?_;obtain⟨g12,h⟩:=zk h;obtain⟨x10,hx10,h⟩:=zn h;refine zbx (args':=[.A (x9:Tr)]) (r:= .s x10) (by rw[<-hx10];exact(ih x9 g12)) ?_;refine w_o (a:= .F ([x10]:List (List UInt8))) (h:=zbl (zhc (α:=(List UInt8)) (l:=[x10]) (cs:=Enc.cells (x10:(List UInt8))++[]) rfl (by rw[Enc.cons,Enc.nil]))) ?_;obtain⟨g13,h⟩:=zk h;refine zis (a:=(.O ((s2.1++[x10]):List (List UInt8)))) (U'':=(zar [(27,(Enc.cells (t:Tr))),(27,(Enc.cells (x9:Tr)))] 9 (length ((s2.1++[x10]):List (List UInt8))) 1)) rfl rfl rfl (zpa rfl rfl rfl rfl (zif (α:=(List UInt8)) (bs:=[(27,(Enc.cells (t:Tr))),(27,(Enc.cells (x9:Tr)))]) (a:=s2.1) (b:=[x10]) g13 rfl rfl rfl rfl rfl ⟨rfl,by decide⟩)) (by dsimp only[zad,List.set]) rfl ?_;refine zah ?_;refine zb (k0:=0) (id:=22) ?_;obtain⟨g14,h⟩:=zk h;refine zjg g14 ?_;refine zah ?_;refine zbr (p:=p2) ((s2.1++[x10]),(s2.2+1)) h ?_;exact zfl (bl 72 2017612633061982272) 1 (by kernel_rfl) (Nat.le_of_ble_eq_true rfl) (zci (zaj (zab _ _ (Enc.clo _)) rfl)) (by dsimp only[zbq,zdf,foldl,List.set,bz,bzc,Nat.reduceMod,Nat.reduceDiv,Nat.reduceBEq,Nat.reduceAdd];exact(za rfl (za rfl (za rfl (za rfl (za rfl (za rfl (za (zeg (Enc.cloL _)) (za rfl (za rfl (za rfl (za rfl (za rfl (za rfl (za rfl (za rfl (za rfl (za rfl (za rfl (za rfl (za rfl (za rfl (za rfl (za rfl (za rfl (za rfl (za rfl (za rfl (za rfl (za rfl (za rfl (za rfl (za rfl (za rfl (za rfl (za rfl (za rfl (za rfl (za rfl (za rfl (za rfl (za rfl (za rfl (za rfl (za rfl (za rfl (za rfl (za rfl (za rfl (za rfl (za rfl (za rfl (za rfl (za rfl (za rfl (za rfl (za rfl (za rfl (za rfl (za (zca (Enc.cloL _)) (by kernel_rfl))))))))))))))))))))))))))))))))))))))))))))))))))))))))))))) (by kernel_rfl);refine zae h (fun h=> ?_);refine zc (o:=or3) (s2.1) h ?_;exact zbh (bl 72 64);intro j3 h;refine zdw ?_;refine zr [.m _] ?_;obtain⟨g15,h⟩:=zk h;obtain⟨x11,hx11,h⟩:=zn h;refine zbx (args':=[.L (j3:List (List UInt8)),.s ([124]:List UInt8)]) (r:= .s x11) (by rw[<-hx11];exact(z2q j3 ([124]:List UInt8) g15)) ?_;refine zah ?_;replace h:=zaq h hr1;exact znx h;refine zc (o:=or1) () h ?_;exact zbh (bl 72 0);intro j1 h;refine zdw ?_;refine zr [.v (.s ([]:List UInt8))] ?_;exact znx h
theorem qax (s:BS):(znd s).flatten=gts (zek s):=by
 have h: ∀l:List Spn,(l.map fun x=>gts (z4w x)).flatten=gts (l.flatMap z4w):=by
  intro l;induction l with
  |nil=>rfl
  |cons x l ih=>rw[map_cons,List.flatten_cons,ih,List.flatMap_cons,zxn]
 exact h _
theorem qed {ρ:Type}: ∀(l:List (List UInt8)) (acc:List UInt8),acc.length+l.flatten.length<2^40->zcp (β:=List UInt8) (ρ:=ρ) (fun s1 w1=>(chk (length s1+length w1<=9223372036854775807) (some (Sum.inl ((s1++w1)))))) l acc=some (.inl (acc++l.flatten))
 |[],acc,_=>by simp[zcp]
 | x::l,acc,h=>by
  rw[List.flatten_cons,length_append] at h;rw[zcp,zbo (by omega)];simp only;rw[qed l (acc++x) (by rw[length_append];omega),List.flatten_cons,List.append_assoc]
theorem zuj (b:List UInt8)(hb:b.length<1000)(s:BS):zhu b s=some (b++gts (zek s)++[93]):=by
 have h1:=(zoy s).1;have h2:=zol s;have h3:=qax s;unfold zhu;refine zbg (b++gts (zek s)) ?_ ?_
 ·refine zv fun x hx=> ?_;subst hx;refine zbg (b++gts (zek s)) ?_ rfl;rw[qed (znd s) b (by rw[h3];omega),h3]
 ·refine zt (by simp;omega) rfl
theorem z3d {ρ:Type}: ∀(l:List Int) (k:Int),0<=k->k+l.length<2^40->zcp (ρ:=ρ) (fun(s1:Int) (w1:Int)=>(chk (-9223372036854775808<=(s1+1)/\ (s1+1)<9223372036854775808) (some (Sum.inl ((s1+1)))))) l k=some (.inl (k+(l.length:Int)))
 |[],k,_,_=>by simp[zcp]
 | x::l,k,h0,h1=>by
  simp only[length_cons] at h1;rw[zcp,zbo (by omega)];simp only;rw[z3d l (k+1) (by omega) (by omega),length_cons];congr 2
  omega
theorem qkc (s:BS):zim s=some ((elN s 256).length:Int):=by
 have h2:=zol s;have hl:(els s).length=(elN s 256).length:=by simp[els]
 unfold zim;refine zbg ((elN s 256).length:Int) ?_ rfl;refine zv fun x hx=> ?_;subst hx;refine zbg ((elN s 256).length:Int) ?_ rfl;rw[z3d (els s) 0 (by omega) (by omega),hl];simp
theorem qku (s:BS): ∃b,zty s=some ((((elN s 256).headD 0:Nat):Int),b):=by
 unfold zty els;cases h:elN s 256 with
 |nil=>exact⟨_,rfl⟩
 |cons c l=>exact⟨_,rfl⟩
theorem z5w (s:BS)(hs:s≠0#256):zxi 1100 s=some (zjs s):=by
 obtain⟨fb,hf⟩:=qku s;have hh:=qgd s;obtain⟨f,hfe⟩: ∃f,f=(elN s 256).headD 0:=⟨_,rfl⟩;rw[<-hfe] at hf hh;have hset:=(z6d f hh).2.2.2.2.1;unfold zxi zjs;rw[<-hfe];refine zaf _ hf ?_;simp only;refine zt (by omega) ?_;rw[zsz];refine zaf _ hset ?_;by_cases h1:s=bit f
 ·rw[decide_eq_true h1,cond_true,if_pos h1];exact zt (by omega) (zv fun x hx=>by rw[hx])
 ·rw [decide_eq_false h1,cond_false,if_neg h1];refine zaf _ set10 (zv fun x hx=> ?_);subst hx;by_cases h2:s= ~~~ bit 10
  ·rw[decide_eq_true h2,cond_true,if_pos h2]
  ·rw [decide_eq_false h2,cond_false,if_neg h2];have hall:zsj=some (~~~ 0#256):=rfl;refine zbg (decide ((elN s 256).length>128/\ s≠ ~~~ 0#256)) ?_ ?_
   ·refine zaf _ (qkc s) ?_;by_cases h3:(elN s 256).length>128
    ·rw[decide_eq_true (show((elN s 256).length:Int)>128 by omega),cond_true];refine zaf _ hall ?_;simp[h3]
    ·rw[decide_eq_false (show ¬((elN s 256).length:Int)>128 by omega),cond_false];simp[h3]
   ·by_cases h3:(elN s 256).length>128/\ s≠ ~~~ 0#256
    ·rw[decide_eq_true h3,cond_true,if_pos h3];refine zv fun x hx=> ?_;subst hx;exact zaf _ (zuj [91,94] (by simp) (~~~ s)) rfl
    ·rw[decide_eq_false h3,cond_false,if_neg h3];exact zaf _ (zuj [91] (by simp) s) rfl
theorem pSet_eq (s:BS):z9y 1100 s=some (if s=0#256 then([],100) else(zjs s,0)):=by
 unfold z9y;by_cases h:s=0#256
 ·rw[decide_eq_true h,cond_true,if_pos h]
 ·rw[decide_eq_false h,cond_false,if_neg h];exact zaf _ (z5w s h) rfl
end Go.Ab
namespace Go.Ab
open Go Go.RowKit Go.Fwd
abbrev cutQ {τ α:Type} (R:τ->Prop)(Q:α->Prop)(o:τ ⊕ α):Prop:=match o with| .inl t=>R t| .inr y=>Q y
def Ok {α:Type} (Q:α->Prop)(x:Option α):Prop:= ∃r,x=some r/\ Q r
section
variable {α β τ ρ:Type} {Q:α->Prop}
theorem zdp {p:Prop} [Decidable p] {k:Option α} (h:p)(hk:Ok Q k):Ok Q (chk p k):=by rw[zbo h];exact hk
theorem zgk {e:β} {k:β->Option α} (h: ∀x,e=x->Ok Q (k x)):Ok Q (zaz e k):=h e rfl
theorem zpl {x:Option β} {k:β->Option α} {R:β->Prop} (h:Ok R x)(hk: ∀a,R a->Ok Q (k a)):Ok Q (zaa x k):=by
 obtain⟨a,rfl,ha⟩:=h;exact hk a ha
theorem zlm {c:Bool} {A B:Option α} (ht:c=true->Ok Q A)(hf:c=false->Ok Q B):Ok Q (bif c then A else B):=by
 cases c with
 |true=>exact ht rfl
 |false=>exact hf rfl
theorem zdm {r:α} (h:Q r):Ok Q (some r):=⟨r,rfl,h⟩
theorem zxr {x:Option (τ ⊕ α)} {k:τ->Option α} (R:τ->Prop)(h:Ok (cutQ R Q) x)(hk: ∀t,R t->Ok Q (k t)):Ok Q (zda x k):=by
 obtain⟨o,rfl,h⟩:=h;cases o with
 |inl t=>exact hk t h
 |inr y=>exact⟨y,rfl,h⟩
theorem zqv {body:β->Option (β ⊕ α)} (T:β->Prop)(m:β->Nat)(hs: ∀s,T s->Ok (cutQ (fun s'=>T s'/\ m s'<m s) Q) (body s)): ∀(n:Nat) (s0:β),m s0<n->T s0->Ok Q (zbk body n s0)
 |0,s0,h,_=>absurd h (Nat.not_lt_zero _)
 | n+1,s0,h,h0=>by
  obtain⟨o,ho,h1⟩:=hs s0 h0;cases o with
  | inl s'=>
   obtain⟨r,h2,h3⟩:=zqv T m hs n s' (by have:=h1.2;omega) h1.1;exact⟨r,by simp only[zbk,ho,h2],h3⟩
  |inr y=>exact⟨y,by simp only[zbk,ho],h1⟩
theorem Ok.mono {R:α->Prop} {x:Option α} (h:Ok Q x)(hR: ∀r,Q r->R r):Ok R x:=by
 obtain⟨r,h1,h2⟩:=h;exact⟨r,h1,hR r h2⟩
theorem Ok.eq {x:Option α} {v:α} (h:Ok (fun r=>r=v) x):x=some v:=by
 obtain⟨r,h1,rfl⟩:=h;exact h1
theorem qfv {x:Option α} {v:α} (h:x=some v):Ok (fun r=>r=v) x:=⟨v,h,rfl⟩
end
end Go.Ab
namespace Go.Ab
open Go Go.RowKit Go.Fwd Go.Proofs
theorem ix_get {l:List UInt8} {i:Nat} (h:i<l.length):ix l (i:Int)=l[i]:=by
 simp[ix,h]
theorem z1g (n:Nat)(x:Tr)(ks:List UInt8)(hx:(pre x).length<n/\ PR x)(hk:ks.length<1000):zmw 1100 n x ks=some (wP (ks.any fun k=>(x.k:Int)==((k.toNat:Nat):Int)) (tP x)):=by
 have hl:=z3n x;have hp:=hx.2.1;apply Ok.eq;unfold zmw;refine zxr (fun _=> ∀i (h:i<ks.length),((x.k:Int)==((ks[i].toNat:Nat):Int))=false) (zqv (fun s:Int=>0<=s/\ s<=(ks.length:Int)/\ ∀i (h:i<ks.length),(i:Int)<s->((x.k:Int)==((ks[i].toNat:Nat):Int))=false) (fun s:Int=>ks.length-s.toNat) (fun s hs=> ?_) 1100 0 (by omega) ⟨by omega,by omega,fun i h h2=>by omega⟩) (fun _ hn=> ?_)
 ·obtain⟨h0,h1,h2⟩:=hs;refine zlm (fun hc=> ?_) (fun hc=> ?_)
  ·rw[decide_eq_true_eq] at hc;obtain⟨i,rfl⟩: ∃i:Nat,(i:Int)=s:=⟨s.toNat,by omega⟩;have hi:i<ks.length:=by omega
   refine zdp ⟨by omega,by omega⟩ ?_;rw[ix_get hi];refine zlm (fun hc=> ?_) (fun hc=> ?_)
   ·refine zdp hx (zgk fun y hy=> ?_);subst hy;refine zdp (by simp only[length_cons,length_nil];omega) (zdp (by simp only[length_append,length_cons,length_nil];omega) (zdm ?_));show _=wP _ _;have:(ks.any fun k=>(x.k:Int)==((k.toNat:Nat):Int))=true:=List.any_eq_true.2 ⟨ks[i],getElem_mem hi,hc⟩;rw[this];rfl
   ·refine zdp (by omega) (zdm ⟨⟨by omega,by omega,fun j hj h3=> ?_⟩,by(try simp only);omega⟩);by_cases e:j=i
    ·subst e;exact hc
    ·exact h2 j hj (by omega)
  ·rw[decide_eq_false_iff_not] at hc;refine zdm ?_;exact fun i hi=>h2 i hi (by omega)
 ·refine zdp hx (zgk fun y hy=>zdm ?_);subst hy;have:(ks.any fun k=>(x.k:Int)==((k.toNat:Nat):Int))=false:=by
   rw[List.any_eq_false];intro k hk';obtain⟨i,hi,rfl⟩:=List.mem_iff_getElem.1 hk';rw[hn i hi];decide
  rw[this];rfl
theorem zzj {l:List Tr} {i:Nat} (h:i<l.length):ix l (i:Int)=l[i]:=by
 simp[ix,h]
theorem kq {a b:Nat}:((a:Int)==(b:Int))=(a==b):=by
 rw[Bool.eq_iff_iff,beq_iff_eq,beq_iff_eq];omega
theorem z5q: ∀(a b:List Tr),tPc (a++b)=tPc a++tPc b
 |[],b=>by simp[tPc]
 |x::a,b=>by rw[cons_append,tPc,tPc,z5q a b,List.append_assoc]
theorem z8h: ∀(x:Tr) (l:List Tr),tPa true (x::l)=Lib.join ((x::l).map tP) [124]
 |x,[]=>by simp[tPa,Lib.join,List.intercalate]
 | x,y::l=>by
  have h:=z8h y l;have h1:tPa true (y::l)=tP y++tPa false l:=by simp[tPa]
  have h2:tPa true (x::y::l)=tP x++([124]++(tP y++tPa false l)):=by simp[tPa]
  rw[h1] at h;rw[h2];rw[map_cons,map_cons];have e:Lib.join (tP x::tP y::l.map tP) [124]=tP x++[124]++Lib.join (tP y::l.map tP) [124]:=by
   simp[Lib.join,List.intercalate,List.intersperse]
  rw[e, <-map_cons, <-h];simp
theorem z3x (l:List Tr):tPa true l=Lib.join (l.map tP) [124]:=by
 cases l with
 |nil=>rfl
 |cons x l=>exact z8h x l
theorem qmh (t:Tr)(h:PR t):zsr 1100 (pre t).length t=some (tP t):=by
 have hr:=((ztf t).1 h.2).1;have hlen:=z3n t;have hp:=h.1;have hll:t.l.length<1000:=by have:=zru t;omega
 have sub: ∀ {i:Nat} (hi:i<t.l.length),(pre t.l[i]).length<(pre t).length/\ PR t.l[i]:=fun hi=>(h.sub (getElem_mem hi)).symm;have hk:=znz hr;have tpe:tP t=if t.k=2 then zjs t.s else if t.k=6 then[40]++tP1 t.l++[41] else if t.k=5 then tPr t.l++z5f t.mn t.mx else if t.k=3 then tPc t.l else if t.k=4 then tPa true t.l else[]:=by
  obtain⟨k,s,mn,mx,l⟩:=t;rw[tP];rfl
 apply Ok.eq;unfold zsr;refine zxr (fun _=>tP t=[]) ?_ (fun _ hn=>zdm hn.symm);refine zlm (fun hc=> ?_) (fun h2=> ?_)
 ·have hc:t.k=2:=by rw[beq_iff_eq] at hc;omega
  have hs:t.s≠0#256:=(ztu hr hc).2;refine zpl (qfv (z5w t.s hs)) (fun x hx=>zdm ?_);rw[hx,tpe,if_pos hc]
 have h2:t.k≠2:=by rw[beq_eq_false_iff_ne] at h2;omega
 refine zlm (fun hc=> ?_) (fun h6=> ?_)
 ·have hc:t.k=6:=by rw[beq_iff_eq] at hc;omega
  obtain⟨x,hx⟩:=zoq hr (.inr hc);have hx0:0<t.l.length:=by rw[hx];simp
  have hi:ix t.l (0:Int)=x:=by rw[show(0:Int)=((0:Nat):Int) from rfl,zzj hx0];simp[hx]
  have hsx:=h.sub (x:=x) (by rw[hx];simp);have hlx:=z3n x;refine zdp (by omega) ?_;rw[hi];refine zgk fun y hy=> ?_;subst hy;refine zdp ⟨hsx.2,hsx.1⟩ (zgk fun y hy=> ?_);subst hy;have:=hsx.1.1;refine zdp (by simp only[length_cons,length_nil];omega) (zdp (by simp only[length_append,length_cons,length_nil];omega) (zdm ?_));show _=tP t;rw[tpe,if_neg h2,if_pos hc,hx,tP1]
 have h6:t.k≠6:=by rw[beq_eq_false_iff_ne] at h6;omega
 refine zlm (fun hc=> ?_) (fun h5=> ?_)
 ·have hc:t.k=5:=by rw[beq_iff_eq] at hc;omega
  obtain⟨x,hx⟩:=zoq hr (.inl hc);have hx0:0<t.l.length:=by rw[hx];simp
  have hi:ix t.l (0:Int)=x:=by rw[show(0:Int)=((0:Nat):Int) from rfl,zzj hx0];simp[hx]
  have hsx:=h.sub (x:=x) (by rw[hx];simp);have hlx:=z3n x;have hb:=zvl (zxv hr hc);have hcl:=qaf t.mn t.mx;refine zdp (by omega) ?_;rw[hi];refine zgk fun y hy=> ?_;subst hy;refine zpl (qfv (z1g _ x _ ⟨hsx.2,hsx.1⟩ (by simp))) (fun y hy=> ?_);subst hy;have:=hsx.1.1;have hw:=qgk (List.any ([3,4,5]:List UInt8) fun k=>(x.k:Int)==((k.toNat:Nat):Int)) (tP x);refine zdp (by simp only;omega) (zgk fun y hy=> ?_);simp only at hy;subst hy;refine zdp (by omega) (zdm ?_);show _=tP t;rw[tpe,if_neg h2,if_neg h6,if_pos hc,hx,tPr];congr 2
  simp only[List.any_cons,List.any_nil,Bool.or_false];rw[show(((3:UInt8).toNat:Nat):Int)=((3:Nat):Int) from rfl,show(((4:UInt8).toNat:Nat):Int)=((4:Nat):Int) from rfl,show(((5:UInt8).toNat:Nat):Int)=((5:Nat):Int) from rfl,kq,kq,kq,Bool.or_assoc]
 have h5:t.k≠5:=by rw[beq_eq_false_iff_ne] at h5;omega
 refine zlm (fun hc=> ?_) (fun h3=> ?_)
 ·have hc:t.k=3:=by rw[beq_iff_eq] at hc;omega
  have te:tP t=tPc t.l:=by rw[tpe,if_neg h2,if_neg h6,if_neg h5,if_pos hc]
  have hcl: ∀i,(tPc (t.l.take i)).length<=(tPc t.l).length:=fun i=>by
   have:=congrArg length (z5q (t.l.take i) (t.l.drop i));rw[List.take_append_drop,length_append] at this;omega
  refine zxr (fun s=>s.2=tPc t.l) (zqv (fun s=>0<=s.1/\ s.1<=(t.l.length:Int)/\ s.2.2=tPc (t.l.take s.1.toNat)) (fun s=>t.l.length-s.1.toNat) (fun s hs=> ?_) 1100 _ (by simp only;omega) ⟨by simp,by simp,by simp[tPc]⟩) (fun s hs=>zdm (hs.trans te.symm));obtain⟨i,b,u⟩:=s;obtain⟨g0,g1,g2⟩:=hs;simp only at g0 g1 g2⊢;refine zlm (fun hc=> ?_) (fun hc=> ?_)
  ·rw[decide_eq_true_eq] at hc;obtain⟨j,rfl⟩: ∃j:Nat,(j:Int)=i:=⟨i.toNat,by omega⟩;have hj:j<t.l.length:=by omega
   rw[Int.toNat_natCast] at g2;refine zdp ⟨by omega,by omega⟩ (zgk fun y hy=> ?_);rw[zzj hj] at hy;subst hy;refine zpl (qfv (z1g _ _ _ (sub hj) (by simp))) (fun y hy=> ?_);have ey:y=wP (t.l[j].k==4) (tP t.l[j]):=by
    rw[hy];congr 1
    simp only[List.any_cons,List.any_nil,Bool.or_false];rw[show(((4:UInt8).toNat:Nat):Int)=((4:Nat):Int) from rfl,kq]
   have e1:tPc (t.l.take (j+1))=u++y:=by
    rw[List.take_add_one,List.getElem?_eq_getElem hj,Option.toList_some,z5q, <-g2,tPc,tPc,List.append_nil,ey]
   have e2:=hcl (j+1);rw[e1,length_append] at e2;rw[te] at hlen;refine zdp (by omega) (zdp (by omega) (zdm ⟨⟨by simp only;omega,by simp only;omega,?_⟩,by simp only;omega⟩));simp only;rw[show((j:Int)+1).toNat=j+1 by omega,e1]
  ·rw[decide_eq_false_iff_not] at hc;refine zdm ?_;show u=_;rw[g2,List.take_of_length_le (by omega)]
 have h3:t.k≠3:=by rw[beq_eq_false_iff_ne] at h3;omega
 refine zlm (fun hc=> ?_) (fun h4=> ?_)
 ·have hc:t.k=4:=by rw[beq_iff_eq] at hc;omega
  have te:tP t=tPa true t.l:=by rw[tpe,if_neg h2,if_neg h6,if_neg h5,if_neg h3,if_pos hc]
  refine zxr (fun s=>s=t.l.map tP) (zqv (fun s=>0<=s.2/\ s.2<=(t.l.length:Int)/\ s.1=(t.l.take s.2.toNat).map tP) (fun s=>t.l.length-s.2.toNat) (fun s hs=> ?_) 1100 _ (by simp only;omega) ⟨by simp,by simp,by simp⟩) (fun s hs=> ?_)
  ·obtain⟨u,i⟩:=s;obtain⟨g0,g1,g2⟩:=hs;simp only at g0 g1 g2⊢;refine zlm (fun hc=> ?_) (fun hc=> ?_)
   ·rw[decide_eq_true_eq] at hc;obtain⟨j,rfl⟩: ∃j:Nat,(j:Int)=i:=⟨i.toNat,by omega⟩;have hj:j<t.l.length:=by omega
    rw[Int.toNat_natCast] at g2;refine zdp ⟨by omega,by omega⟩ (zgk fun y hy=> ?_);rw[zzj hj] at hy;subst hy;refine zdp (sub hj) (zgk fun y hy=> ?_);subst hy;have hul:u.length=j:=by rw[g2,List.length_map,List.length_take];omega
    refine zdp (by simp only[length_cons,length_nil];omega) (zdp (by omega) (zdm ⟨⟨by simp only;omega,by simp only;omega,?_⟩,by simp only;omega⟩));simp only;rw[show((j:Int)+1).toNat=j+1 by omega,List.take_add_one,List.getElem?_eq_getElem hj,Option.toList_some,List.map_append, <-g2,map_cons,List.map_nil]
   ·rw[decide_eq_false_iff_not] at hc;refine zdm ?_;show u=_;rw[g2,List.take_of_length_le (by omega)]
  ·subst hs;rw[te,z3x] at hlen;refine zdp ⟨by rw[List.length_map];omega,by omega⟩ (zgk fun y hy=>zdm ?_);show y=tP t;rw[te,z3x,hy]
 have h4:t.k≠4:=by rw[beq_eq_false_iff_ne] at h4;omega
 refine zdm ?_;show tP t=[];rw[tpe,if_neg h2,if_neg h6,if_neg h5,if_neg h3,if_neg h4]
theorem zwo: ∀(n:Nat) (t:Tr),(pre t).length<=n->PR t->Pure (ITP prog) prog 55 [.agg (Enc.cells t)] (.raw (.string (bs (tP t))))
 | 0,t,h,_=>by
  have:0<(pre t).length:=by rw[zgh];simp
  omega
 |n+1,t,h,hs=>qfs 1100 (pre t).length t (tP t) (fun x hx=>zwo n x (by have:=hx.1;omega) hx.2) (qmh t hs)
theorem k_tree (t:Tr)(h:PR t):Pure (ITP prog) prog 55 [.agg (Enc.cells t)] (.raw (.string (bs (tP t)))):=zwo _ t (le_refl _) h
end Go.Ab
