import Derived.RowKit
import Derived.Laws.Bits64
import Derived.Laws.Shifts
import Derived.Test.YtjkcellkmmfkdaaGreatDoorRows
import Derived.WalkKit
import Derived.WalkSpells
import Derived.WalkLawsBesides
import Derived.StillTailTactics
import Derived.Outline
import Derived.RangeFuncNested
import Derived.Lib.Hide
import Derived.RangeFuncBound
import Derived.RangeFuncCalls
import Derived.RangeFuncLeaves
import Derived.Shelf.RegionOpen
import Derived.OwnWalkIn
import Derived.TacticsInMore
import Derived.LoopNIn
import Derived.LoopIn
import Derived.Test.YtjkcellkmmfkdaaGreatDoorZhDa
set_option linter.all false
set_option maxRecDepth 100000
open Nat (le_refl)
open List (length_cons length_append length_nil mem_append all_eq_true cons_append nil_append mem_range mem_singleton foldl_cons)
open Go.Proofs.Tryz (prog)
namespace Go.Proofs.YtjkcellkmmfkdaaGreatDoor
open Go
abbrev BS:=BitVec 256
def W (S:BS)(i:Nat):BitVec 64:=S.extractLsb' (64*i) 64
def wn (x:BitVec 64):Int:=(x.toNat:Int)
def wd (S:BS)(i:Nat):Int:=wn (W S i)
def sv (S:BS):Value:= .agg #[.int .u64 (wd S 0),.int .u64 (wd S 1),.int .u64 (wd S 2),.int .u64 (wd S 3)]
theorem W_get (S:BS)(i j:Nat)(hj:j<64):(W S i).getLsbD j=S.getLsbD (64*i+j):=by
 simp[W,hj]
theorem W_zero (i:Nat):W 0#256 i=0#64:=by
 apply BitVec.eq_of_getLsbD_eq;intro j hj;simp only[BitVec.getLsbD_zero,W_get _ _ _ hj]
theorem wd_zero (i:Nat):wd 0#256 i=0:=by simp[wd,wn,W_zero]
theorem zse (x:BitVec 64):BitVec.ofInt 64 (x.toNat:Int)=x:=by
 apply BitVec.eq_of_toNat_eq;simp
theorem z6u (x:BitVec 64):IntKind.u64.wrap (x.toNat:Int)=(x.toNat:Int):=by
 rw[IntKind.wrap_u64];have:=x.isLt;omega
theorem qhx (x y:BitVec 64):bits .and .u64 x.toNat y.toNat=((x&&&y).toNat:Int):=by
 unfold bits;simp only[IntKind.bits];rw[zse,zse];exact z6u _
theorem has_bit (S:BS)(x:Nat):(bits .and .u64 (wd S (x/64)/2^(x%64)) 1==1)=S.getLsbD x:=by
 have e1:(1:Int)=((1#64).toNat:Int):=by decide
 have e2:wd S (x/64)/2^(x%64)=((W S (x/64)>>>(x%64)).toNat:Int):=by
  unfold wd wn;rw[BitVec.toNat_ushiftRight,Nat.shiftRight_eq_div_pow];push_cast;rfl
 rw[e2];rw[show bits .and .u64 (((W S (x/64)>>>(x%64)).toNat:Nat):Int) 1=bits .and .u64 ((W S (x/64)>>>(x%64)).toNat:Int) ((1#64).toNat:Int) from by rw[<-e1]];rw[qhx];have e3:W S (x/64)>>>(x%64)&&&1#64=if S.getLsbD x then 1#64 else 0#64:=by
  apply BitVec.eq_of_getLsbD_eq;intro j hj;have hx:64*(x/64)+x%64=x:=by omega
  rw[BitVec.getLsbD_and,BitVec.getLsbD_ushiftRight];by_cases h0:j=0
  ·subst h0;rw[Nat.add_zero,W_get _ _ _ (by omega),hx];split<;>simp_all
  ·split<;>simp[h0]
 rw[e3];split<;>simp_all
end Go.Proofs.YtjkcellkmmfkdaaGreatDoor
namespace Go.Proofs.YtjkcellkmmfkdaaGreatDoor
open Go.RowKit Go.Fwd
theorem look4 (S:BS)(i:Nat)(h:i<4):[Value.int .u64 (wd S 0),.int .u64 (wd S 1),.int .u64 (wd S 2),.int .u64 (wd S 3)][i]? =some (.int .u64 (wd S i)):=by
 match i,h with
 |0,_=>rfl
 |1,_=>rfl
 |2,_=>rfl
 |3,_=>rfl
theorem qch (S:BS)(x:Nat)(w:World)(h1:x<256):
 Calls prog 163 #[sv S,.int .u8 x] w (Ret (.bool (S.getLsbD x)) w):=by
 unfold sv;have hl:=look4 S (x/64) (by omega)
 go_enter Tryz.func163,Tryz.ntmps163
 go_wp2
 go_ret
 exact⟨by rw[<-has_bit];rfl,(Ex.refl _ _).alloc (le_refl _) _⟩
end Go.Proofs.YtjkcellkmmfkdaaGreatDoor
namespace Go.Proofs.YtjkcellkmmfkdaaGreatDoor
open Go.RowKit Go.Fwd Go.Shelf
attribute [local go_sem] Oper.semAt_some
def sc (S:BS):Array Value:= #[.int .u64 (wd S 0),.int .u64 (wd S 1),.int .u64 (wd S 2),.int .u64 (wd S 3)]
def zdv (S:BS)(k:Nat):List Nat:=(List.range k).filter fun c=>S.getLsbD c
def zib (S:BS):List Nat:=zdv S 256
theorem zke (S:BS)(k:Nat):zdv S (k+1)=zdv S k++(if S.getLsbD k then[k] else[]):=by
 unfold zdv;rw[List.range_succ,List.filter_append];congr 1;simp only[List.filter_cons,List.filter_nil]
theorem zth (S:BS) {j k:Nat} (h:j<=k):zdv S j<+:zdv S k:=by
 induction k with
 | zero=>
  obtain rfl:j=0:=by omega
  exact List.prefix_refl _
 | succ k ih=>
  by_cases hj:j=k+1
  ·subst hj;exact List.prefix_refl _
  ·exact(ih (by omega)).trans (by rw[zke];exact List.prefix_append _ _)
theorem z1x (S:BS)(k:Nat):(zdv S k).length<=k:=by
 unfold zdv;exact Nat.le_trans (List.length_filter_le _ _) (by simp)
set_option maxHeartbeats 1000000 in
theorem qfg (A:BS)(w:World):Calls prog 118 #[sv A] w fun e w'=>e= .returned (.func (.func 162) #[] #[.pointer (some ⟨w.heap.size,0,none⟩)])/\ w'=w.alloc (.cells (sc A) 24):=by
 unfold sv sc
 go_enter Tryz.func118,Tryz.ntmps118
 go_wp2
 go_ret
 exact⟨rfl,rfl⟩
theorem qfu {w:World} {b:Nat} {S:BS} {t:TypeId} {f:Nat×Nat} (h:w.heap[b]? =some (.cells (sc S) t f)):
 w.cell? ⟨b,0,none⟩=some (.int .u64 (wd S 0))/\ w.cell? ⟨b,1,none⟩=some (.int .u64 (wd S 1))/\ w.cell? ⟨b,2,none⟩=some (.int .u64 (wd S 2))/\ w.cell? ⟨b,3,none⟩=some (.int .u64 (wd S 3)):=
 ⟨(cell_of_row _ _ _ _ _ _ h).trans rfl,(cell_of_row _ _ _ _ _ _ h).trans rfl,(cell_of_row _ _ _ _ _ _ h).trans rfl,(cell_of_row _ _ _ _ _ _ h).trans rfl⟩
set_option maxHeartbeats 2000000 in
theorem z8u (Bs:Nat)(S:BS)(w:World)(hBs:w.heap[Bs]? =some (.cells (sc S) 24 (0,0))):
 Iter prog 162 #[.pointer (some ⟨Bs,0,none⟩)] (fun x:Nat=> #[Value.int .u8 (x:Int)]) (zns Bs) (fun xs=>xs=zib S) (fun pre=>pre<+:zib S) w:=by
 intro l J Jx W hW hJ hJx hY h0;have hBs1:=(hW.block Bs (Array.getElem?_eq_some_iff.1 hBs).1).trans hBs;clear hBs hW;refine(callsIn_wide (n:=3)).1 ?_;have hw1: ∀f,Fence.wide.fn f:=fun _=>trivial;have hw2:Fence.wide.depth=none:=rfl;refine callsIn_of_wp Tryz.func162 rfl trivial ?_ rfl;simp only[Tryz.ntmps162,List.size_toArray,length_cons,length_nil,Nat.reduceAdd,Nat.reduceSub,Array.replicate_succ,Array.replicate_zero,List.push_toArray,List.append_toArray,nil_append,cons_append]
 gi_wp2
 gi_loopw [4] (fun i wr=> ∃(k:Nat),k<=256/\ i= .int .i64 k/\ J (zdv S k) wr/\ wr.heap[Bs]? =some (.cells (sc S) 24 (0,0))/\ W.heap.size<=wr.heap.size)
  (fun i _=>256-(intOf i).toNat)
 case atStart=>exact⟨0,Nat.zero_le _,rfl,h0,hBs1,le_refl _⟩
 case round=>
  obtain⟨k,hk,rfl,hJs,hrow,hsz⟩:=hrel;have hblt:Bs<wr.heap.size:=(Array.getElem?_eq_some_iff.1 hrow).1;obtain⟨c0,c1,c2,c3⟩:=qfu hrow;by_cases hlt:k<256
  ·by_cases hbit:S.getLsbD k=true
   ·have hh: ∀W,Calls prog 163 #[sv S,.int .u8 k] W (Ret (.bool true) W):=fun W=>hbit▸qch S k W hlt;have hbs:zdv S (k+1)=zdv S k++[k]:=by rw[zke,if_pos hbit]
    have HB:=Lib.hid hbs;have hsp:zdv S k++[k]<+:zib S:=hbs▸zth S (show k+1<=256 by omega);have HSP:=Lib.hid hsp;clear hbit hbs hsp
    gi_wp2_with (gi_at_call 163;refine(callsIn_wide.2 (hh _)).mono ?_;rintro e w1 ⟨rfl,hb1⟩;have hJ1:J (zdv S k) w1:=hJ _ _ _ hJs ((Turn.of_ex _ hb1));have hsz1:=hb1.size;obtain⟨fn,tmps,assign,body,hy,hR⟩:=hY (zdv S k) k w1 hJ1 HSP.out 2)
    refine hR.mono ?_;rintro e W3 ⟨hkf,(⟨rfl,hJ3,hk3⟩|⟨rfl,hJx3⟩)⟩
    ·gi_wp2
     go_roundw
     case rel=>exact⟨k+1,by omega,by go_num,by rw[HB.out];exact hJ3,hk3.trans ((hb1.block _ hblt).trans hrow),by have:=hkf.size;omega⟩
     case measure=>simp[intOf];omega
    ·gi_wp2
     refine bodyPost_ret (results_none rfl _ _ _) rfl ?_;exact⟨⟨_,rfl⟩,.inr ⟨_,HSP.out,hJx3⟩⟩
   ·have hbf:S.getLsbD k=false:=by simpa using hbit
    have hh: ∀W,Calls prog 163 #[sv S,.int .u8 k] W (Ret (.bool false) W):=fun W=>hbf▸qch S k W hlt;have HB:=Lib.hid hbf;clear hbf hbit
    gi_wp2_with (gi_at_call 163;refine(callsIn_wide.2 (hh _)).mono ?_;rintro e w1 ⟨rfl,hb1⟩)
    go_roundw
    case rel=>exact⟨k+1,by omega,by go_num,by rw[zke,HB.out];simpa using hJ _ _ _ hJs (Turn.of_ex _ hb1),(hb1.block _ hblt).trans hrow,by have:=hb1.size;omega⟩
    case measure=>simp[intOf];omega
  ·obtain rfl:k=256:=by omega
   gi_wp2
   go_end0
   exact⟨⟨_,rfl⟩,.inl ⟨_,rfl,hJs⟩⟩
theorem ent162: ∀args w,(callFunc 162 args).run prog w= .ok (.enter 162 args) w:=enters_of Tryz.func162 (by kernel_rfl) rfl
end Go.Proofs.YtjkcellkmmfkdaaGreatDoor
namespace Go.Proofs.YtjkcellkmmfkdaaGreatDoor
open Go.RowKit Go.Fwd Go.Shelf
attribute [local go_sem] Oper.semAt_some
def z0m (L:List (Nat×Nat))(c:Nat):List (Nat×Nat):=
 match L.getLast? with
 |some (lo,hi)=>if hi=(c+255)%256 then L.dropLast++[(lo,c)] else L++[(c,c)]
 |none=>[(c,c)]
def zjp (l:List Nat):List (Nat×Nat):=l.foldl z0m []
def spansOf (S:BS):List (Nat×Nat):=zjp (zib S)
def spc (L:List (Nat×Nat)):List Value:=L.flatMap fun p=>[.int .u8 (p.1:Int),.int .u8 (p.2:Int)]
theorem zre (A B:List (Nat×Nat)):spc (A++B)=spc A++spc B:=by simp[spc]
theorem zxf (A:List (Nat×Nat)):(spc A).length=2*A.length:=by
 induction A with
 |nil=>rfl
 |cons x l ih=>rw[show x::l=[x]++l from rfl,zre,length_append,ih];simp[spc];omega
theorem z1z (l:List Nat)(c:Nat):zjp (l++[c])=z0m (zjp l) c:=by simp[zjp]
theorem qfk (c:Nat):z0m [] c=[(c,c)]:=rfl
theorem z4p (L:List (Nat×Nat))(lo hi c:Nat)(h:hi=(c+255)%256):z0m (L++[(lo,hi)]) c=L++[(lo,c)]:=by simp[z0m,h]
theorem zzf (L:List (Nat×Nat))(lo hi c:Nat)(h: ¬hi=(c+255)%256):z0m (L++[(lo,hi)]) c=L++[(lo,hi)]++[(c,c)]:=by simp[z0m,h]
theorem qhv (L:List (Nat×Nat))(c:Nat):(z0m L c).length<=L.length+1:=by
 rcases List.eq_nil_or_concat L with rfl|⟨A,p,rfl⟩
 ·simp[z0m]
 ·obtain⟨lo,hi⟩:=p;rw[List.concat_eq_append];by_cases h:hi=(c+255)%256
  ·rw[z4p _ _ _ _ h];simp
  ·rw[zzf _ _ _ _ h];simp
theorem z6l (l:List Nat):(zjp l).length<=l.length:=by
 suffices ∀(l:List Nat) (L:List (Nat×Nat)),(l.foldl z0m L).length<=L.length+l.length by simpa[zjp] using this l []
 intro l;induction l with
 |nil=>intro L;simp
 |cons c l ih=>intro L;rw[foldl_cons];have:=ih (z0m L c);have:=qhv L c;simp;omega
section
variable {P:Program} {b:Frame} {a:Act} {k:List Item} {cs:List Frame} {w:World} {Q:Exit->Act->World->Prop} {F:Fence} {n:Nat}
theorem stepR_scope {c:Code}:step P (lone (b.atR a (.code (.scope c)::k)) cs w)= .next (lone (b.atR a (.code c:: .inScope c::k)) cs w):=
 step_lone_go (by simp[stepG,stepG.exec,Frame.atR])
theorem stepR_inScope {c:Code}:step P (lone (b.atR a (.inScope c::k)) cs w)= .next (lone (b.atR a k) cs w):=
 step_lone_go (by simp[stepG,stepG.exec,Frame.atR])
theorem wpIn_scope_straight {c:Code} (h:c.wpIn F n P (Exit.noGoto Q) a w):(Code.scope c).wpIn F n P Q a w:=by
 intro b k cs hro hb hr;have h0:(lone (b.atR a (.code (.scope c)::k)) cs w).fenced P F:=fenced_calm hb hr rfl;obtain⟨e,a₁,w₁,hq,harr⟩:=h b (.inScope c::k) cs hro hb hr;cases e with
 |normal=>exact⟨.normal,a₁,w₁,hq,.head h0 stepR_scope (StepsIn.trans harr (.one (fenced_calm hb hr rfl) stepR_inScope))⟩
 | exit id=>
  have hx:exitTo id (.inScope c::k)=exitTo id k:=by simp[exitTo]
  exact⟨.exit id,a₁,w₁,hq,fun k' hk=> .head h0 stepR_scope (harr.1 k' (by rw[hx];exact hk)),
   fun hr' hk=>let⟨k₁,h1,h2⟩:=harr.2 hr' (by rw[hx];exact hk);⟨k₁,h1,.head h0 stepR_scope h2⟩⟩
 |goto l=>exact hq.elim
 |ret=>exact⟨_,a₁,w₁,hq,.of_steps (.one h0 stepR_scope) harr⟩
 |panic ch=>exact⟨_,a₁,w₁,hq,.of_steps (.one h0 stepR_scope) harr⟩
 |outgrown=>exact⟨_,a₁,w₁,hq,.of_steps (.one h0 stepR_scope) harr⟩
end
theorem info227:(prog.info? 227).map (fun i=>(i.zero,i.size,i.bytes))=some (some (.agg #[.int .u8 0,.int .u8 0]),2,2):=by kernel_rfl
set_option maxHeartbeats 2000000 in
theorem spans_any (S:BS)(w:World):Calls prog 188 #[sv S] w (RetV (fun v w1=>World.ownsRow w1 w.heap.size 227 2 v (spansOf S).length (spc (spansOf S))) w):=by
 refine(callsIn_wide (n:=3)).1 ?_;have hw1: ∀f,Fence.wide.fn f:=fun _=>trivial;have hw2:Fence.wide.depth=none:=rfl;obtain⟨i0,hi0,hz0,hz1,hz2⟩:=info_parts info227;refine callsIn_of_wp_marks Tryz.func188 rfl trivial ?_ rfl;simp only[Tryz.ntmps188,List.size_toArray,length_cons,length_nil,Nat.reduceAdd,Nat.reduceSub,Array.replicate_succ,Array.replicate_zero,List.push_toArray,List.append_toArray,nil_append,cons_append];unfold sv
 gi_wp2
 refine wpIn_scope_straight ?_
 gi_wp2
 refine wpIn_label ?_
 gi_wp2_with (gi_at_call 118;refine(callsIn_wide.2 (qfg S _)).mono ?_;rintro e w' ⟨rfl,rfl⟩)
 obtain⟨w1,hw1e⟩: ∃w1,w1=(((w.alloc (.cells #[.int .u64 (wd S 0),.int .u64 (wd S 1),.int .u64 (wd S 2),.int .u64 (wd S 3)] 24)).alloc (.cells #[.slice none 0 0] 224)).alloc (.cells (sc S) 24)):=⟨_,rfl⟩;have hB0:Ex w.heap.size w w1:=by rw[hw1e];exact(((Ex.refl _ w).alloc (le_refl _) _).alloc (by simp) _).alloc (by simp;omega) _
 have hb1:Boxed w1 (w.heap.size+1) 224 (.slice none 0 0):=by rw[hw1e];exact(Below.heap_alloc _ _ _ (by simp)).trans (zdp _ _ _ (by simp))
 have hrs:w1.heap[w.heap.size+1+1]? =some (.cells (sc S) 24 (0,0)):=by rw[hw1e];exact zdp _ _ _ (by simp)
 have hs0:=z8u (w.heap.size+1+1) S w1 hrs;have hsz:w1.heap.size=w.heap.size+3:=by rw[hw1e];simp
 show Code.wpIn _ _ _ _ _ _ (((w.alloc (.cells #[.int .u64 (wd S 0),.int .u64 (wd S 1),.int .u64 (wd S 2),.int .u64 (wd S 3)] 24)).alloc (.cells #[.slice none 0 0] 224)).alloc (.cells (sc S) 24));rw[<-hw1e];clear hw1e
 refine z6j rfl ent162 hs0 (fun _=>rfl) (fun _=>rfl) z6k (z7r (by omega))
  (fun pre W=>(∃v,Boxed W (w.heap.size+1) 224 v/\ W.ownsRow w.heap.size 227 2 v (zjp pre).length (spc (zjp pre)))/\ (W.heap[w.heap.size+1+1]? =some (.cells (sc S) 24 (0,0))/\ Ex w.heap.size w W))
  (fun _ _ _=>False)
  (Stable.and (zti _ _ _ _ _ _ _) (Stable.and (z6x _ _ _ _ _) (qbe (by omega) (le_refl _))))
  (fun _=>zzo _)
  ⟨⟨_,hb1,World.ownsRow_nil _ _ _ _⟩,hrs,hB0⟩
  ?a1 ?assign ?body ?done ?stop
 case assign=>
  intro l x W K hK
  gi_wp2
  exact hK
 case body=>
  rintro l pre x W hl hr ⟨⟨v,hv,hrow⟩,hset,hB⟩ hsp;have hc:=hv.cell;have hx:x<256:=by
   have:x∈zib S:=hsp.subset (by simp);simp[zib,zdv] at this;exact this.1
  have hlen:pre.length+1<=256:=by have:=hsp.length_le;have:=z1x S 256;simp[zib] at*;omega
  have hsn:=z1z pre x;have hln:=z6l pre;generalize hL:zjp pre=L at*
  have HS:=Lib.hid hsn;have HL:=Lib.hid hL;clear hsn hL;obtain⟨a,cap,rfl⟩:=z7o hrow;rcases List.eq_nil_or_concat L with rfl|⟨A,p,hp⟩
  ·have HM1:([]:List (Nat×Nat)).length+1<=maxLen:=by simp[maxLen]
   have HM2:(([]:List (Nat×Nat)).length+1)*2<=140737488355328:=by simp
   gi_wp2_with (gi_at_builtin;refine zkv _ rfl _ _ 224 rfl w.heap.size 227 i0 (.agg #[.int .u8 0,.int .u8 0]) 2 2 Tryz.underlying224 hi0 hz0 hz1 hz2 rfl (by decide) _ _ _ rfl (hrow.alloc _) ⟨W.heap.size,0,none⟩ 1 1 [.int .u8 (x:Int),.int .u8 (x:Int)] rfl rfl (zxx _ _ _) (by simp[Value.oneCell']) HM1 HM2 (by have:=hB.size;simp;omega) ?_;intro v' w1 hown' hgrow _;obtain⟨g',cap',rfl⟩:=ownsRow_succ hown';obtain⟨hv1,hv2,hr2,hk2,hb2⟩:=zpj hv (by decide) hrow (Ex.refl _ W) hB.size (le_refl _) (by omega) hown' hgrow;have hc1:=hv1.cell;have hf1:=hv1.frozen;have hset1:=zkl hset (by decide) hrow hgrow)
   have hset2:=(Below.heap_setCell w1 ⟨w.heap.size+1,0,none⟩ (.slice (some ⟨g',0,none⟩) 1 cap') (w.heap.size+1+1) (by simp)).trans hset1;refine⟨hk2.from _,hset2.trans hset.symm,⟨_,hv2,?_⟩,hset2,hB.trans hb2⟩;rw[HS.out,qfk];exact hr2
  ·obtain⟨lo,hi⟩:=p;rw[List.concat_eq_append] at hp;subst hp;rw[length_append,List.length_singleton] at hrow hv hc hln;obtain⟨g,cap2,he⟩:=ownsRow_succ hrow;obtain⟨rfl,rfl⟩:a=some ⟨g,0,none⟩/\ cap=cap2:=by simpa using he
   clear he;have hc1:W.cell? ⟨g,A.length*2+1,none⟩=some (.int .u8 (hi:Int)):=by
    rw[hrow.cellAt _ (by omega),zre];rw[List.getElem?_append_right (by rw[zxf];omega),zxf,show A.length*2+1-2*A.length=1 by omega];rfl
   have hf1:=hrow.frozenAt (A.length*2+1);have hgb:w.heap.size<=g:=by
    rcases hrow.2 with⟨h,_⟩|⟨g',_,_,h,hb,_⟩
    ·cases h
    ·cases h;exact hb
   have HM1:A.length+1+1<=maxLen:=by unfold maxLen;omega
   have HM2:(A.length+1+1)*2<=140737488355328:=by omega
   gi_wp2_with (gi_at_builtin;refine zkv _ rfl _ _ 224 rfl w.heap.size 227 i0 (.agg #[.int .u8 0,.int .u8 0]) 2 2 Tryz.underlying224 hi0 hz0 hz1 hz2 rfl (by decide) _ _ _ rfl (hrow.alloc _) ⟨W.heap.size,0,none⟩ 1 1 [.int .u8 (x:Int),.int .u8 (x:Int)] rfl rfl (zxx _ _ _) (by simp[Value.oneCell']) HM1 HM2 (by have:=hB.size;simp;omega) ?_;intro v' w1 hown' hgrow _;obtain⟨g',cap',rfl⟩:=ownsRow_succ hown';obtain⟨hv1,hv2,hr2,hk2,hb2⟩:=zpj hv (by decide) hrow (Ex.refl _ W) hB.size (le_refl _) (by omega) hown' hgrow;have hc1:=hv1.cell;have hf1:=hv1.frozen;have hset1:=zkl hset (by decide) hrow hgrow)
   ·have ht:(hi:Int)=((x:Int)-1)%256:=by
     have h:((hi:Int)==((x:Int)-1)%256)=true:=by assumption
     simpa using h
    have hne1:w.heap.size+1≠g:=fun e=>hv.not_row (by decide) hrow (by rw[e];rfl);have hne2:w.heap.size+1+1≠g:=fun e=>zrq hset (by decide) hrow (by rw[e];rfl);have hset2:=(Below.heap_setCell W ⟨g,A.length*2+1,none⟩ (.int .u8 (x:Int)) (w.heap.size+1+1) hne2).trans hset;refine⟨(KeepsOthers.setCell _ _ _).from _,hset2.trans hset.symm,⟨_,(Below.heap_setCell W _ _ _ hne1).trans hv,?_⟩,hset2,hB.setCell hgb _⟩;rw[HS.out,z4p _ _ _ _ (by omega)];have:=(hrow.stored (A.length*2+1) (.int .u8 (x:Int))).1;rw[zre,List.set_append_right _ _ (by rw[zxf];omega),zxf,show A.length*2+1-2*A.length=1 by omega] at this;rw[length_append,List.length_singleton,zre];exact this
   ·have ht: ¬(hi:Int)=((x:Int)-1)%256:=by
     have h:((hi:Int)==((x:Int)-1)%256)=false:=by assumption
     simpa using h
    have hset2:=(Below.heap_setCell w1 ⟨w.heap.size+1,0,none⟩ (.slice (some ⟨g',0,none⟩) (A.length+1+1) cap') (w.heap.size+1+1) (by simp)).trans hset1;refine⟨hk2.from _,hset2.trans hset.symm,⟨_,hv2,?_⟩,hset2,hB.trans hb2⟩;rw[HS.out,zzf _ _ _ _ (by omega),zre,length_append,length_append];exact hr2
 case done=>
  rintro D ys W hD rfl ⟨⟨v,hv,hrow⟩,hset,hB⟩ hK;have hc:=hv.cell
  gi_wp2
  exact qay (.inr rfl) rfl hK (results_tmp rfl _ _ _) ⟨v,rfl,ex_put hB _ hK rfl (by omega) hB.size,ownsRow_putObj hrow (.deferred none) hK rfl⟩
 case stop=>
  rintro D c pre W _ _ h _;exact h.elim
end Go.Proofs.YtjkcellkmmfkdaaGreatDoor
namespace Go.Ab
open Go Go.RowKit Go.Fwd Go.Proofs
def markP (m:BS)(c:UInt8):Bool:=zfi m ((c.toNat:Nat):Int)==some true
def byT (m:BS)(c:UInt8):List UInt8:=
 if c=10 then[92,110] else if c=13 then[92,114] else if c=9 then[92,116]
 else if c<32||c>126 then hexS c.toNat
 else if c==92||markP m c then[92,c] else[c]
def byOk (m:BS)(c:UInt8):Bool:=
 decide (zas (byT m c) m=some (((c.toNat:Nat):Int),((byT m c).length:Int),0))&& !(zgo (byT m c)).2&&decide (1<=(byT m c).length)&&decide ((byT m c).length<=4)&&(byT m c).all fun x=>decide (32<=x)&&decide (x<=126)
theorem qau:((List.range 256).all fun n=>byOk zat (UInt8.ofNat n)&&(byT zat (UInt8.ofNat n)).head?.all fun x=>x !=45&&x !=93&&x !=94)=true:=by decide+kernel
theorem qcs:((List.range 256).all fun n=>byOk zbo (UInt8.ofNat n))=true:=by decide+kernel
theorem zwz (c:UInt8):UInt8.ofNat c.toNat=c:=by simp
theorem z5n (c:UInt8):byOk zat c=true/\ ∃x l,byT zat c=x::l/\ x≠45/\ x≠93/\ x≠94:=by
 have ht:=all_eq_true.1 qau c.toNat (mem_range.2 c.toNat_lt);rw[zwz,Bool.and_eq_true] at ht;refine⟨ht.1,?_⟩;have h1:=ht.1;unfold byOk at h1;simp only[Bool.and_eq_true,decide_eq_true_eq] at h1;cases h:byT zat c with
 |nil=>rw[h] at h1;simp at h1
 | cons x l=>
  have h2:=ht.2;rw[h] at h2;simp at h2;exact⟨x,l,rfl,h2.1.1,h2.1.2,h2.2⟩
theorem qen (c:UInt8):byOk zbo c=true:=by
 have ht:=all_eq_true.1 qcs c.toNat (mem_range.2 c.toNat_lt);rw[zwz] at ht;exact ht
theorem qir (x rest:List UInt8):Ag x.length x (x++rest):=⟨le_refl _,by simp,fun i hi=>(List.getElem?_append_left hi).symm⟩
structure ByR (m:BS)(c:UInt8):Prop where
 run: ∀rest,zas (byT m c++rest) m=some (((c.toNat:Nat):Int),((byT m c).length:Int),0)
 short: ∀rest,(zgo (byT m c++rest)).2=false
 lo:1<=(byT m c).length
 hi:(byT m c).length<=4
 ascii: ∀x∈byT m c,32<=x/\ x<=126
theorem qjc (m:BS)(c:UInt8)(h:byOk m c=true):ByR m c:=by
 unfold byOk at h;simp only[Bool.and_eq_true,decide_eq_true_eq,Bool.not_eq_true',all_eq_true] at h;obtain⟨⟨⟨⟨h1,h2⟩,h3⟩,h4⟩,h5⟩:=h;obtain⟨r,hr⟩:=rb_all m (byT m c);have er:r=(((c.toNat:Nat):Int),((byT m c).length:Int),0):=Option.some.inj (hr.run.symm.trans h1);subst er;refine⟨fun rest=>hr.same rfl _ (by simpa using qir (byT m c) rest),fun rest=> ?_,h3,h4,h5⟩;by_cases hl:(byT m c).length<2
 ·obtain⟨a,t,e,hn⟩:=hr.one rfl (by simp only;omega);rw[e]
  show(zgo (a::(t++rest))).2=false
  rw[qcy hn]
 ·rw[qdl ((qir (byT m c) rest).mono (by omega))];exact h2
theorem zmu (c:UInt8):ByR zat c:=qjc _ _ (z5n c).1
theorem z5u (c:UInt8):ByR zbo c:=qjc _ _ (qen c)
theorem z3l (c:UInt8)(rest:List UInt8):zkr 1100 (byT zat c++rest)=some (bit c.toNat,((c.toNat:Nat):Int),((byT zat c).length:Int),0):=by
 have h:=zmu c;have hl:=c.toNat_lt;have:=qez (h.short rest) (h.run rest) (by simp) (by simp only;omega);simpa using this
theorem zwi (k:Nat): ∀(l:List It) (s:BS),(zva s l).getLsbD k=(s.getLsbD k||l.any fun i=>(qhy i).getLsbD k)
 |[],s=>by simp[zva]
 | i::l,s=>by
  show(zva (s|||qhy i) l).getLsbD k=_
  rw[zwi k l];simp[Bool.or_assoc]
theorem zxb (c:Nat)(hc:c<256):(bit c).getLsbD c=true:=by
 unfold bit;simp[BitVec.getLsbD_shiftLeft,hc]
theorem val_ne (i:It)(h:gdI i):(qhy i).getLsbD i.1=true:=by
 obtain⟨c,d⟩:=i;cases d with
 |none=>exact zxb c h
 | some d=>
  have h:c<=d/\ d<256:=h
  show(bits c (d+1-c)).getLsbD c=true
  obtain⟨k,hk⟩: ∃k,d+1-c=k+1:=⟨d-c,by omega⟩;rw[hk,bits];simp[zxb c (by omega)]
theorem vals_ne (l:List It)(hl:l≠[])(h: ∀i∈l,gdI i):zva 0#256 l≠0#256:=by
 cases l with
 |nil=>exact absurd rfl hl
 | cons i l=>
  intro e;have h1:=zwi i.1 (i::l) 0#256;rw[e,List.any_cons,val_ne i (h i (by simp))] at h1;simp at h1
def gtI:It->List UInt8
 |(c,none)=>byT zat (UInt8.ofNat c)
 |(c,some d)=>byT zat (UInt8.ofNat c)++45::byT zat (UInt8.ofNat d)
def gts (l:List It):List UInt8:=l.flatMap gtI
theorem znz (i:It)(l:List It):gts (i::l)=gtI i++gts l:=by simp[gts]
theorem z2o (i:It): ∃x l,gtI i=x::l/\ x≠45/\ x≠93/\ x≠94:=by
 obtain⟨c,d⟩:=i;obtain⟨_,x,l,h,h1,h2,h3⟩:=z5n (UInt8.ofNat c);cases d with
 |none=>exact⟨x,l,h,h1,h2,h3⟩
 |some d=>exact⟨x,l++45::byT zat (UInt8.ofNat d),by simp[gtI,h],h1,h2,h3⟩
theorem qhk (a:List UInt8)(i:It)(hg:gdI i)(b:List UInt8)(hb: ∃c t,b=c::t/\ c≠45)(first:Bool)(out:BS)(hlen:(a++gtI i++b).length<2^40):
 zun (a++gtI i++b) ((a.length:Int),first,out)=some (.inl (((a++gtI i).length:Int),false,out|||qhy i)):=by
 obtain⟨s,hs⟩: ∃s,s=a++gtI i++b:=⟨_,rfl⟩;rw[<-hs] at hlen⊢;have hls:(s.length:Int)=(a.length:Int)+((gtI i).length:Int)+(b.length:Int):=by rw[hs];simp only[length_append];omega
 obtain⟨h0,l,hl,hh45,hh93,hh94⟩:=z2o i;have hl1:0<(gtI i).length:=by rw[hl];simp
 have hat:ix s (a.length:Int)=h0:=by rw[hs,hl,List.append_assoc];exact qeh a _ h0
 have hdrop:s.drop a.length=gtI i++b:=by rw[hs,List.append_assoc,List.drop_left]
 obtain⟨c0,t0,hb1,hb2⟩:=hb;have hbl:0<b.length:=by rw[hb1];simp
 unfold zun;refine zbj () ?_ ?_
 ·cases first with
  |true=>rfl
  | false=>
   simp only[cond_false];rw[show decide ((a.length:Int)<(s.length:Int))=true by simp;omega,cond_true];refine zal (by omega) (zaj fun x hx=> ?_);rw[hat] at hx;subst hx;rw[show(((h0.toNat:Nat):Int) !=93)=true by
    rw[bne_iff_ne];intro e;exact hh93 (UInt8.toNat_inj.1 (show h0.toNat=93 by omega))]
   rfl
 refine zal (by simp only;omega) (zaj fun x hx=> ?_);simp only at hx;rw[zmm,hdrop] at hx;subst hx;obtain⟨c,d⟩:=i;cases d with
 | none=>
  have hc:c<256:=hg;obtain⟨n4,hn4⟩: ∃n,n=(byT zat (UInt8.ofNat c)).length:=⟨_,rfl⟩;have ht:(gtI (c,none)).length=n4:=by rw[hn4];rfl
  have hb4:n4<=4:=by rw[hn4];exact(zmu _).hi
  have hun:(UInt8.ofNat c).toNat=c:=by simp;omega
  have hit:=z3l (UInt8.ofNat c) b;rw[hun, <-hn4] at hit;refine zai _ hit ?_;simp only;rw[show((0:Int) !=0)=false from rfl,cond_false];refine zal (by omega) ?_;have hat2:ix s ((a.length:Int)+(n4:Int))=c0:=by
   have:=qeh (a++gtI (c,none)) t0 c0;rw[<-hb1, <-hs,length_append,ht] at this;exact_mod_cast this
  refine zbj ((a.length:Int)+(n4:Int),bit c) ?_ ?_
  ·rw [show decide ((a.length:Int)+(n4:Int)<(s.length:Int))=true by simp;omega,cond_true];refine zal (by omega) (zaj fun x hx=> ?_);rw[hat2] at hx;subst hx;rw [show((((c0).toNat:Nat):Int)==45)=false by
    cases hq:((((c0).toNat:Nat):Int)==45) with
    |false=>rfl
    | true=>
     simp only[beq_iff_eq] at hq;exact absurd (UInt8.toNat_inj.1 (show c0.toNat=45 by omega)) hb2,cond_false]
  ·refine zaj fun x hx=> ?_;subst hx;simp only[length_append,ht,qhy];rfl
 | some d=>
  have hcd:c<=d/\ d<256:=hg;obtain⟨n4,hn4⟩: ∃n,n=(byT zat (UInt8.ofNat c)).length:=⟨_,rfl⟩;obtain⟨m4,hm4⟩: ∃n,n=(byT zat (UInt8.ofNat d)).length:=⟨_,rfl⟩;have ht:(gtI (c,some d)).length=n4+1+m4:=by rw[hn4,hm4];simp[gtI];omega
  have hb4:n4<=4:=by rw[hn4];exact(zmu _).hi
  have hbm:m4<=4:=by rw[hm4];exact(zmu _).hi
  have hun:(UInt8.ofNat c).toNat=c:=by simp;omega
  have hud:(UInt8.ofNat d).toNat=d:=by simp;omega
  have he:gtI (c,some d)++b=byT zat (UInt8.ofNat c)++(45::byT zat (UInt8.ofNat d)++b):=by simp[gtI]
  rw[he];have hit:=z3l (UInt8.ofNat c) (45::byT zat (UInt8.ofNat d)++b);rw[hun, <-hn4] at hit;have hit2:=z3l (UInt8.ofNat d) b;rw[hud, <-hm4] at hit2;refine zai _ hit ?_;simp only;rw[show((0:Int) !=0)=false from rfl,cond_false];refine zal (by omega) ?_;have hat2:ix s ((a.length:Int)+(n4:Int))=45:=by
   have:=qeh (a++byT zat (UInt8.ofNat c)) (byT zat (UInt8.ofNat d)++b) 45;rw[show a++byT zat (UInt8.ofNat c)++45::(byT zat (UInt8.ofNat d)++b)=s by rw[hs];simp[gtI],length_append, <-hn4] at this;exact_mod_cast this
  have hd2:s.drop (a.length+n4+1)=byT zat (UInt8.ofNat d)++b:=by
   rw[hs,show a++gtI (c,some d)++b=(a++byT zat (UInt8.ofNat c)++[45])++(byT zat (UInt8.ofNat d)++b) by simp[gtI],show a.length+n4+1=(a++byT zat (UInt8.ofNat c)++[45]).length by simp[hn4];omega,List.drop_left]
  refine zbj ((a.length:Int)+(n4:Int)+(1+(m4:Int)),bits c (d+1-c)) ?_ ?_
  ·rw[show decide ((a.length:Int)+(n4:Int)<(s.length:Int))=true by simp;omega,cond_true];refine zal (by omega) (zaj fun x hx=> ?_);rw[hat2] at hx;subst hx;rw[show((((45:UInt8).toNat:Nat):Int)==45)=true from rfl,cond_true];refine zal (by omega) (zal (by omega) (zaj fun x hx=> ?_));rw[show(a.length:Int)+(n4:Int)+1=((a.length+n4+1:Nat):Int) by omega,zmm,hd2] at hx;subst hx;refine zai _ hit2 ?_;simp only;rw[show((0:Int) !=0)=false from rfl,cond_false];refine zai _ (z2l c (by omega)).2.2.2.2.2 ?_;rw[show((1:Int) !=1)=false from rfl,cond_false];refine zai _ (z2l d hcd.2).2.2.2.2.2 ?_;rw[show((1:Int) !=1)=false from rfl,cond_false,show decide (((c:Nat):Int)>((d:Nat):Int))=false by simp;omega,cond_false];refine zal (by omega) (zal (by omega) ?_);exact zai _ (z2f c d hcd.1 hcd.2) rfl
  ·refine zaj fun x hx=> ?_;subst hx;simp only[length_append,ht,qhy];rw[show(a.length:Int)+(n4:Int)+(1+(m4:Int))=((a.length+(n4+1+m4):Nat):Int) by omega]
theorem zux (s rest:List UInt8)(hlen:s.length<2^40): ∀(its:List It) (a:List UInt8) (first:Bool) (out:BS) (fuel:Nat),s=a++gts its++93::rest->(∀i∈its,gdI i)->its.length<fuel->(first=true->its≠[])->
 zcf (zun s) fuel ((a.length:Int),first,out)=some (.inl (((a++gts its).length:Int),zva out its))
 | [],a,first,out,fuel,hs,_,hf,hn=>by
  obtain⟨f,rfl⟩: ∃f,fuel=f+1:=⟨fuel-1,by omega⟩;have h1:first=false:=by
   cases first with
   |false=>rfl
   |true=>exact absurd rfl (hn rfl)
  subst h1;have e:s=a++93::rest:=by rw[hs];simp[gts]
  have hl:(s.length:Int)=(a.length:Int)+1+(rest.length:Int):=by rw[e];simp only[length_append,length_cons];omega
  have hat:ix s (a.length:Int)=93:=by rw[e];exact qeh a rest 93
  have hb:zun s ((a.length:Int),false,out)=some (.inr (.inl ((a.length:Int),out))):=by
   unfold zun;refine qbs (.inr (.inl ((a.length:Int),out))) ?_ rfl;simp only[cond_false];rw[show decide ((a.length:Int)<(s.length:Int))=true by simp;omega,cond_true];refine zal (by omega) (zaj fun x hx=> ?_);rw[hat] at hx;subst hx;rfl
  rw[zcf,hb];simp[gts,zva]
 | i ::its,a,first,out,fuel,hs,hg,hf,hn=>by
  obtain⟨f,rfl⟩: ∃f,fuel=f+1:=⟨fuel-1,by omega⟩;have e:s=a++gtI i++(gts its++93::rest):=by rw[hs,znz];simp
  have hb: ∃c t,gts its++93::rest=c::t/\ c≠45:=by
   cases its with
   |nil=>exact⟨93,rest,rfl,by decide⟩
   | cons j its=>
    obtain⟨h0,l,hl,hh45,hh93,hh94⟩:=z2o j;exact⟨h0,l++(gts its++93::rest),by rw[znz,hl];simp,hh45⟩
  have h1:=qhk a i (hg i (by simp)) _ hb first out (by rw[<-e];exact hlen)
  rw[<-e] at h1;rw[zcf,h1];show zcf (zun s) f _=_;have:=zux s rest hlen its (a++gtI i) false (out|||qhy i) f (by rw[hs,znz];simp) (fun j hj=>hg j (by simp[hj])) (by simp only[length_cons] at hf;omega) (fun h=>by cases h);rw[this,znz];simp[zva]
theorem gbr_eq (its:List It)(rest:List UInt8)(hn:its≠[])(hg: ∀i∈its,gdI i)(hl:its.length<1000)(hlen:(gts its).length+rest.length<2^39):
 zci 1100 (([91]:List UInt8)++gts its++[93]++rest)=some (zva 0#256 its,((gts its).length:Int)+2,0):=by
 obtain⟨s,hs⟩: ∃s,s=([91]:List UInt8)++gts its++[93]++rest:=⟨_,rfl⟩;rw[<-hs];have e:s=[91]++gts its++93::rest:=by rw[hs];simp
 have hsl:s.length=(gts its).length+rest.length+2:=by rw[e];simp only[length_append,length_cons,length_nil];omega
 obtain⟨i0,its',hi⟩: ∃i l,its=i::l:=by
  cases its with
  |nil=>exact absurd rfl hn
  |cons i l=>exact⟨i,l,rfl⟩
 obtain⟨h0,l0,hl0,hh45,hh93,hh94⟩:=z2o i0;have hd1:s.drop 1=h0::(l0++gts its'++93::rest):=by rw[e,hi,znz,hl0];simp
 have hloop:=zux s rest (by omega) its [91] true 0#256 1100 e hg (by omega) (fun _=>hn);unfold zci;refine zaj fun x1 hx1=> ?_;have:x1=true:=by rw[<-hx1,e];rfl
 subst this;rw[show(!true)=false from rfl,cond_false];refine zal (by omega) (zaj fun x2 hx2=> ?_);rw[show(1:Int)=((1:Nat):Int) from rfl,zmm,hd1] at hx2;refine zaj fun x3 hx3=> ?_;have:x3=false:=by
  rw[<-hx3, <-hx2];simp[Lib.hasPrefix,List.isPrefixOf];exact fun h=>hh94 h.symm
 subst this;rw[cond_false];refine zbj 1 rfl ?_;refine zbj (((([91]:List UInt8)++gts its).length:Int),zva 0#256 its) hloop ?_;have hla:((([91]:List UInt8)++gts its).length:Int)=((gts its).length:Int)+1:=by simp only[length_append,length_cons,length_nil];omega
 rw[hla];rw[show(((gts its).length:Int)+1==(s.length:Int))=false by simp;omega,cond_false];refine zbj (zva 0#256 its) rfl ?_;rw[show decide (zva 0#256 its=0#256)=false by simpa using vals_ne its hn hg,cond_false];refine zal (by simp only;omega) ?_;simp only;rw[show((gts its).length:Int)+1+1=((gts its).length:Int)+2 by omega]
theorem gbrN_eq (its:List It)(rest:List UInt8)(hn:its≠[])(hg: ∀i∈its,gdI i)(hl:its.length<1000)(hlen:(gts its).length+rest.length<2^39):
 zci 1100 (([91,94]:List UInt8)++gts its++[93]++rest)=some (if ~~~ zva 0#256 its=0#256 then(0#256,0,94) else(~~~ zva 0#256 its,((gts its).length:Int)+3,0)):=by
 obtain⟨s,hs⟩: ∃s,s=([91,94]:List UInt8)++gts its++[93]++rest:=⟨_,rfl⟩;rw[<-hs];have e:s=[91,94]++gts its++93::rest:=by rw[hs];simp
 have hsl:s.length=(gts its).length+rest.length+3:=by rw[e];simp only[length_append,length_cons,length_nil];omega
 have hd1:s.drop 1=94::(gts its++93::rest):=by rw[e];simp
 have hloop:=zux s rest (by omega) its [91,94] true 0#256 1100 e hg (by omega) (fun _=>hn);unfold zci;refine zaj fun x1 hx1=> ?_;have:x1=true:=by rw[<-hx1,e];rfl
 subst this;rw[show(!true)=false from rfl,cond_false];refine zal (by omega) (zaj fun x2 hx2=> ?_);rw[show(1:Int)=((1:Nat):Int) from rfl,zmm,hd1] at hx2;refine zaj fun x3 hx3=> ?_;have:x3=true:=by rw[<-hx3, <-hx2];rfl
 subst this;rw[cond_true];refine zbj 2 rfl ?_;refine zbj (((([91,94]:List UInt8)++gts its).length:Int),zva 0#256 its) hloop ?_;have hla:((([91,94]:List UInt8)++gts its).length:Int)=((gts its).length:Int)+2:=by simp only[length_append,length_cons,length_nil];omega
 rw[hla];rw[show(((gts its).length:Int)+2==(s.length:Int))=false by simp;omega,cond_false];refine zbj (~~~ zva 0#256 its) rfl ?_;by_cases hz: ~~~ zva 0#256 its=0#256
 ·rw[show decide (~~~ zva 0#256 its=0#256)=true by simpa using hz,cond_true,if_pos hz]
 ·rw[show decide (~~~ zva 0#256 its=0#256)=false by simpa using hz,cond_false,if_neg hz];refine zal (by simp only;omega) ?_;simp only;rw[show((gts its).length:Int)+2+1=((gts its).length:Int)+3 by omega]
abbrev Spn:=Nat×Nat
def zvm (out:List Spn)(c:Nat):List Spn:=
 match out.getLast? with
 |some (lo,hi)=>if hi+1=c then out.dropLast++[(lo,c)] else out++[(c,c)]
 |none=>[(c,c)]
def spOf (l:List Nat):List Spn:=l.foldl zvm []
def zfn (s:BS):List Spn:=spOf (elN s 256)
def cov (out:List Spn)(k:Nat):Prop:= ∃x∈out,x.1<=k/\ k<=x.2
def zje:List Spn->Nat
 |[]=>0
 |x::l=>(x.2+1-x.1)+zje l
theorem zkw: ∀a b:List Spn,zje (a++b)=zje a+zje b
 |[],b=>by simp[zje]
 |x::a,b=>by rw[cons_append,zje,zje,zkw a b];omega
structure SpI (l:List Nat)(out:List Spn):Prop where
 cov: ∀k,cov out k↔k∈l
 ord: ∀x∈out,x.1<=x.2/\ x.2<256
 sum:zje out=l.length
theorem qih {l:List Nat} {out:List Spn} (h:SpI l out) {c:Nat} (hc:c<256):SpI (l++[c]) (zvm out c):=by
 unfold zvm;rcases List.eq_nil_or_concat out with rfl|⟨o,x,rfl⟩
 ·have hl:l=[]:=by
   have:=h.sum;simp only[zje] at this;exact List.length_eq_zero_iff.1 this.symm
  subst hl;simp only[List.getLast?_nil];refine⟨fun k=> ?_,fun x hx=> ?_,by simp[zje]⟩
  ·unfold cov;simp;omega
  ·simp at hx;subst hx;exact⟨le_refl _,hc⟩
 ·rw [List.concat_eq_append] at h⊢;obtain⟨lo,hi⟩:=x;have hx:=h.ord (lo,hi) (by simp);simp only at hx;rw[List.getLast?_append,List.getLast?_singleton];simp only[Option.some_or];by_cases e:hi+1=c
  ·rw [if_pos e,List.dropLast_concat];refine⟨fun k=> ?_,fun x hx'=> ?_,?_⟩
   ·have hk:=h.cov k;unfold cov at hk⊢;simp only[mem_append,mem_singleton] at hk⊢;rw[<-hk];constructor
    ·rintro⟨x,hx|rfl,h1,h2⟩
     ·exact .inl ⟨x,.inl hx,h1,h2⟩
     ·simp only at h1 h2;by_cases hkc:k=c
      ·exact .inr hkc
      ·exact .inl ⟨(lo,hi),.inr rfl,h1,by simp only;omega⟩
    ·rintro(⟨x,hx|rfl,h1,h2⟩|rfl)
     ·exact⟨x,.inl hx,h1,h2⟩
     ·exact⟨(lo,c),.inr rfl,h1,by simp only at h2⊢;omega⟩
     ·exact⟨(lo,k),.inr rfl,by simp only;omega,le_refl _⟩
   ·rw[mem_append,mem_singleton] at hx';rcases hx' with hx'|rfl
    ·exact h.ord x (by simp[hx'])
    ·exact⟨by simp only;omega,hc⟩
   ·have hs:=h.sum;simp only[zkw,zje,length_append,List.length_singleton] at hs⊢;omega
  ·rw [if_neg e];refine⟨fun k=> ?_,fun x hx'=> ?_,?_⟩
   ·have hk:=h.cov k;unfold cov at hk⊢;rw[mem_append, <-hk];constructor
    ·rintro⟨x,hx',h1,h2⟩;rw[mem_append,mem_singleton] at hx';rcases hx' with hx'|rfl
     ·exact .inl ⟨x,hx',h1,h2⟩
     ·simp only at h1 h2;exact .inr (by simp;omega)
    ·rintro(⟨x,hx',h1,h2⟩|h')
     ·exact⟨x,by simp only[mem_append] at hx'⊢;exact .inl hx',h1,h2⟩
     ·rw[mem_singleton] at h';subst h';exact⟨(k,k),by simp,le_refl _,le_refl _⟩
   ·rw[mem_append,mem_singleton] at hx';rcases hx' with hx'|rfl
    ·exact h.ord x hx'
    ·exact⟨le_refl _,hc⟩
   ·have hs:=h.sum;simp only[zkw,zje,length_append,List.length_singleton] at hs⊢;omega
theorem qcp: ∀(m l:List Nat) (out:List Spn),SpI l out->(∀c∈m,c<256)->SpI (l++m) (m.foldl zvm out)
 |[],l,out,h,_=>by simpa using h
 | c::m,l,out,h,hm=>by
  have:=qcp m (l++[c]) (zvm out c) (qih h (hm c (by simp))) (fun x hx=>hm x (by simp[hx]));simpa using this
theorem el_lt {s:BS} {c:Nat} (h:c∈elN s 256):c<256:=by
 unfold elN at h;rw[List.mem_filter,mem_range] at h;exact h.1
theorem z0r (s:BS):SpI (elN s 256) (zfn s):=by
 have:=qcp (elN s 256) [] [] ⟨fun k=>by simp[cov],fun x hx=>by simp at hx,rfl⟩ (fun c hc=>el_lt hc);rw[nil_append] at this;exact this
theorem el_mem (s:BS)(k:Nat):k∈elN s 256↔k<256/\ s.getLsbD k=true:=by
 unfold elN;rw[List.mem_filter,mem_range]
def z1i (x:Spn):List It:=if x.2-x.1>1 then[(x.1,some x.2)] else if x.2≠x.1 then[(x.1,none),(x.2,none)] else[(x.1,none)]
def zdi (s:BS):List It:=(zfn s).flatMap z1i
theorem zvf (c k:Nat)(hk:k<256):(bit c).getLsbD k=decide (k=c):=by
 unfold bit;rw[BitVec.getLsbD_shiftLeft];by_cases h:k=c
 ·subst h;simp[hk]
 ·rw[decide_eq_false h];by_cases h2:k<c
  ·simp[h2]
  ·have h3:k-c≠0:=by omega
   simp[hk,h2,BitVec.getLsbD_one,h3]
theorem z5e (k:Nat)(hk:k<256): ∀(n c:Nat),(bits c n).getLsbD k=decide (c<=k/\ k<c+n)
 | 0,c=>by
  rw[decide_eq_false (by omega)];simp[bits]
 | n+1,c=>by
  rw[bits,BitVec.getLsbD_or,zvf c k hk,z5e k hk n (c+1),Bool.eq_iff_iff];simp only[Bool.or_eq_true,decide_eq_true_eq];omega
theorem z5w (x:Spn)(h:x.1<=x.2/\ x.2<256)(k:Nat)(hk:k<256):((z1i x).any fun i=>(qhy i).getLsbD k)=decide (x.1<=k/\ k<=x.2):=by
 obtain⟨lo,hi⟩:=x;simp only at h;unfold z1i;simp only;split
 ·simp only[List.any_cons,List.any_nil,Bool.or_false]
  show(bits lo (hi+1-lo)).getLsbD k=_
  rw[z5e k hk,Bool.eq_iff_iff];simp only[decide_eq_true_eq];omega
 ·split
  ·simp only[List.any_cons,List.any_nil,Bool.or_false]
   show((bit lo).getLsbD k||(bit hi).getLsbD k)=_
   rw[zvf lo k hk,zvf hi k hk,Bool.eq_iff_iff];simp only[Bool.or_eq_true,decide_eq_true_eq];omega
  ·simp only[List.any_cons,List.any_nil,Bool.or_false]
   show(bit lo).getLsbD k=_
   rw[zvf lo k hk,Bool.eq_iff_iff];simp only[decide_eq_true_eq];omega
theorem z4n {α β:Type} (f:α->List β)(p:β->Bool): ∀l:List α,((l.flatMap f).any p)=l.any fun x=>(f x).any p
 |[]=>rfl
 |x::l=>by rw[List.flatMap_cons,List.any_append,List.any_cons,z4n f p l]
theorem zoj (s:BS):zva 0#256 (zdi s)=s:=by
 apply BitVec.eq_of_getLsbD_eq;intro k hk;rw[zwi];unfold zdi;rw[z4n,Bool.eq_iff_iff];simp only[BitVec.getLsbD_zero,Bool.false_or,List.any_eq_true];have h:=z0r s;have hc:=(h.cov k).trans (el_mem s k);unfold cov at hc;constructor
 ·rintro⟨x,hx,h1⟩;have hb:=z5w x (h.ord x hx) k hk;rw[Bool.eq_iff_iff,List.any_eq_true,decide_eq_true_eq] at hb;exact(hc.1 ⟨x,hx,hb.1 h1⟩).2
 ·intro h1;obtain⟨x,hx,h2⟩:=hc.2 ⟨hk,h1⟩;have hb:=z5w x (h.ord x hx) k hk;rw[Bool.eq_iff_iff,List.any_eq_true,decide_eq_true_eq] at hb;exact⟨x,hx,hb.2 h2⟩
theorem z4j (s:BS): ∀i∈zdi s,gdI i:=by
 intro i hi;unfold zdi at hi;rw[List.mem_flatMap] at hi;obtain⟨x,hx,hi⟩:=hi;have h:=(z0r s).ord x hx;obtain⟨lo,hi'⟩:=x;simp only at h;unfold z1i at hi;simp only at hi;split at hi
 ·simp at hi;subst hi;exact⟨h.1,h.2⟩
 ·split at hi
  ·simp at hi;rcases hi with rfl|rfl
   ·show lo<256;omega
   ·show hi'<256;omega
  ·simp at hi;subst hi;show lo<256;omega
theorem z4m (c:Nat):(byT zat (UInt8.ofNat c)).length<=4:=(zmu _).hi
theorem qgi (x:Spn)(h:x.1<=x.2):(gts (z1i x)).length<=4*(x.2+1-x.1)/\ (z1i x).length<=x.2+1-x.1:=by
 obtain⟨lo,hi⟩:=x;simp only at h;have h1:=z4m lo;have h2:=z4m hi;unfold z1i;simp only;split
 ·simp[gts,gtI];omega
 ·split
  ·simp[gts,gtI];omega
  ·simp[gts,gtI];omega
theorem zur (a b:List It):gts (a++b)=gts a++gts b:=by simp[gts]
theorem zyq: ∀l:List Spn,(∀x∈l,x.1<=x.2)->(gts (l.flatMap z1i)).length<=4*zje l/\ (l.flatMap z1i).length<=zje l
 |[],_=>by simp[gts,zje]
 | x::l,h=>by
  have h1:=qgi x (h x (by simp));have h2:=zyq l fun y hy=>h y (by simp[hy]);rw[List.flatMap_cons,zur,zje,length_append,length_append];omega
theorem zmv (s:BS):(elN s 256).length<=256:=by
 unfold elN;have:=List.length_filter_le (fun i=>s.getLsbD i) (List.range 256);simpa using this
theorem znk (s:BS):(gts (zdi s)).length<=4*(elN s 256).length/\ (zdi s).length<=(elN s 256).length:=by
 have h:=z0r s;have:=zyq (zfn s) fun x hx=>(h.ord x hx).1;rw[h.sum] at this;exact this
theorem z4v {s:BS} (h:s≠0#256):zdi s≠[]:=by
 intro e;have:=zoj s;rw[e] at this;exact h this.symm
theorem qje (s:BS)(h:s≠0#256)(rest:List UInt8)(hr:rest.length<2^38):zci 1100 (([91]:List UInt8)++gts (zdi s)++[93]++rest)=some (s,((gts (zdi s)).length:Int)+2,0):=by
 have h1:=znk s;have h2:=zmv s;rw[gbr_eq (zdi s) rest (z4v h) (z4j s) (by omega) (by omega),zoj]
theorem qdr (s:BS)(h:s≠0#256)(hn: ~~~ s≠0#256)(rest:List UInt8)(hr:rest.length<2^38):zci 1100 (([91,94]:List UInt8)++gts (zdi s)++[93]++rest)=some (~~~ s,((gts (zdi s)).length:Int)+3,0):=by
 have h1:=znk s;have h2:=zmv s;rw[gbrN_eq (zdi s) rest (z4v h) (z4j s) (by omega) (by omega),zoj,if_neg hn]
theorem qjh {IT:IterP} {X:Cx} {b:Nat}: ∀(cs:List AV) (vs:List Value) (o:Nat),zbe IT X cs vs->(∀(i:Nat) (x:Value),vs[i]? =some x->X.F b (o+i)/\ X.w.cell? ⟨b,o+i,none⟩=some x/\ x.oneCell'=true)->At IT X cs b o
 |[],_,_,_,_=>trivial
 | c::cs,vs,o,hr,h=>by
  obtain⟨v,r,rfl,hv,hr⟩:=hr;obtain⟨h1,h2,h3⟩:=h 0 v rfl;refine⟨⟨h1,v,h2,h3,hv⟩,qjh cs r (o+1) hr fun i x hx=> ?_⟩;have:=h (i+1) x (by simpa using hx);rw[show o+1+i=o+(i+1) by omega];exact this
theorem qev {w:World} {b o:Nat} {v:Value} (h:w.cell? ⟨b,o,none⟩=some v):b<w.heap.size:=by
 rcases Nat.lt_or_ge b w.heap.size with h1|h1
 ·exact h1
 ·exfalso
  have:w.heap[b]? =none:=Array.getElem?_eq_none h1;simp[World.cell?,this] at h
theorem qhb {P:Program} {f:FuncId} {args:List AV} {α:Type} [Enc α] {l:List α} {e:TypeId} (vs cells:List Value)(he:Ent P f)(ha: ∀X us,zbe (ITP P) X args us->us=vs)
 (hc: ∀X:Cx,zbe (ITP P) X (Enc.cellsL l) cells) (hone: ∀v∈cells,v.oneCell'=true)
 (h: ∀w,Calls P f vs.toArray w fun e1 w'=> ∃v,e1= .returned v/\ (Below w.heap.size w w'/\ drn w<=drn w')/\ w'.ownsRow w.heap.size e (Enc.sz α) v l.length cells):
 Pure (ITP P) P f args (.list l.length (Enc.cellsL l) .none):=by
 refine⟨he,fun X us hI hr=> ?_⟩;rw[ha X us hr];refine(h X.w).mono ?_;rintro e1 w' ⟨v,rfl,⟨hB,hd⟩,hlen,hown⟩;have hκ:X.κ=[]:=List.length_eq_zero_iff.1 hI.κlen;have hl0:X.lens=[]:=hI.lens;have hβ:X.β=[]:=List.length_eq_zero_iff.1 (by rw[hI.βlen,hl0];rfl)
 -- the block
 obtain⟨G,hG,hcell,hv⟩: ∃G,X.w.heap.size<=G/\ (∀(i:Nat) (x:Value),cells[i]? =some x->w'.cell? ⟨G,i,none⟩=some x)/\ ∃a cap,v= .slice a l.length cap/\ (l.length<=cap/\ (a=none->cap=0))/\ (cells=[] \/a=some ⟨G,0,none⟩):=by
  rcases hown with⟨rfl,h0⟩|⟨g,cap,cur,rfl,hg,hrow,hnc,_,hcs,ht⟩
  ·have hc0:cells=[]:=List.length_eq_zero_iff.1 (by rw[hlen,h0];simp);exact⟨X.w.heap.size,le_refl _,fun i x hx=>by rw[hc0] at hx;simp at hx,none,0,by rw[h0],⟨by omega,fun _=>rfl⟩,.inl hc0⟩
  ·refine⟨g,hg,fun i x hx=> ?_,_,cap,rfl,⟨hnc,fun h=>by cases h⟩,.inr rfl⟩;rw[cell_of_row _ _ _ _ _ _ hrow];have hi:i<l.length*Enc.sz α:=by
    have:=(List.getElem?_eq_some_iff.1 hx).1;omega
   rw[<-ht,List.getElem?_take,if_pos hi] at hx;simpa using hx
 have hFc: ∀b o,X.F b o->w'.cell? ⟨b,o,none⟩=X.w.cell? ⟨b,o,none⟩:=fun b o hF=>by
  obtain⟨u,hu⟩:=hI.Fcell b o hF;exact hB.cell (p:=⟨b,o,none⟩) (qev hu)
 have hE:Ext X ⟨fun b o=>X.F b o \/(b=G/\ o<cells.length),X.κ,X.β,X.lens,w',X.O,X.C⟩:={
  F:=fun b o hF=> .inl hF
  cell:=hFc
  κ:=fun _ _ h=>h
  lens:=fun s L h=>⟨L,h,le_refl _,fun _=>rfl⟩
  blk:=fun s b hs=>by rw[hκ] at hs;simp at hs
  szs:=Szs.old fun k hk=>hB.block k hk
  os:=hB.os
  tape:=hB.tape
  output:=hB.output
  size:=hB.size
  drawn:=(by first|exact hd|exact le_refl _)
  frame:=fun b hb _ _=>hB.block b hb
  κnew:=fun b hb=> .inl hb
  βnew:=fun r hr=> .inl ⟨r,hr,rfl⟩
  O:=rfl
  C:=rfl
  Fnew:=fun b o hF=>hF.imp id fun h=> .inl (by rw[h.1];exact hG)}
 refine⟨v,_,rfl,rfl,hE,{
  lens:=hI.lens
  elems:=hI.elems
  κlen:=hI.κlen
  κnd:=fun s s' b h=>by rw[hκ] at h;simp at h
  box:=fun s b t cs h=>by rw[hκ] at h;simp at h
  κF:=fun s b t cs h=>by rw[hκ] at h;simp at h
  βlen:=hI.βlen
  βnd:=hI.βnd
  βκ:=hI.βκ
  row:=fun s r L h=>by rw[hβ] at h;simp at h
  Ok:=fun b hO=>by
   obtain⟨⟨cs,t,fz,h1⟩,h2,h3,h4⟩:=hI.Ok b hO;have hb:=(Array.getElem?_eq_some_iff.1 h1).1;refine⟨⟨cs,t,fz,(hB.block b hb).trans h1⟩,h2,h3,fun o hF=> ?_⟩;rcases hF with hF|⟨rfl,_⟩
   ·exact h4 o hF
   ·omega
  Fcell:=fun b o hF=>by
   rcases hF with hF|⟨rfl,ho⟩
   ·rw[hFc b o hF];exact hI.Fcell b o hF
   ·exact⟨cells[o],hcell o _ (List.getElem?_eq_getElem ho)⟩
  gv:=z0l (ze _) hE hI.gv},?_⟩
 obtain⟨a,cap,rfl,hcap,hcs⟩:=hv;refine⟨a,cap,rfl,hcap,?_,trivial⟩;rcases hcs with h0|rfl
 ·left
  have:=hc X;rw[h0] at this;cases hcl:Enc.cellsL l with
  |nil=>rfl
  | cons c cs=>
   rw[hcl] at this;obtain⟨_,_,h,_⟩:=this;cases h
 ·right
  refine⟨G,0,rfl,qjh _ cells 0 (hc _) fun i x hx=> ?_⟩;have hi:=(List.getElem?_eq_some_iff.1 hx).1;rw[Nat.zero_add];exact⟨.inr ⟨rfl,hi⟩,hcell i x hx,hone x (List.mem_of_getElem? hx)⟩
structure Sn where
 lo:Int
 hi:Int
 deriving DecidableEq
def qcm (e:Sn):List AV:=[.raw (.int .u8 e.lo),.raw (.int .u8 e.hi)]
instance:Enc Sn where
 inh:=⟨0,0⟩
 cells:=qcm
 cellsL l:=l.flatMap qcm
 sz:=2
 pos:=by decide
 nil:=rfl
 cons _ _:=rfl
 len _:=rfl
 clo _:=rfl
def zjs (s:BS):List Sn:=(zfn s).map fun x=>⟨(x.1:Int),(x.2:Int)⟩
open Go.Proofs.YtjkcellkmmfkdaaGreatDoor (spansOf zjp z0m spc zib zdv spans_any) in
theorem add_put (out:List Spn)(c:Nat)(hc:c<256)(h: ∀x∈out,x.2<256)(h0:out=[] \/1<=c):z0m out c=zvm out c:=by
 unfold z0m zvm;rcases List.eq_nil_or_concat out with rfl|⟨o,x,rfl⟩
 ·rfl
 ·rw[List.concat_eq_append] at*;obtain⟨lo,hi⟩:=x;have hh:=h (lo,hi) (by simp);simp only at hh;have h1:1<=c:=by
   rcases h0 with h0|h0
   ·simp at h0
   ·exact h0
  rw[List.getLast?_append,List.getLast?_singleton];simp only[Option.some_or];by_cases e:hi+1=c
  ·rw[if_pos e,if_pos (by omega)]
  ·rw[if_neg e,if_neg (by omega)]
open Go.Proofs.YtjkcellkmmfkdaaGreatDoor (spansOf zjp z0m spc zib zdv spans_any) in
theorem z4l: ∀(l pre:List Nat) (out:List Spn),SpI pre out->(∀c∈l,c<256)->l.Pairwise (· < ·)->(out=[] \/ ∀c∈l,1<=c)->l.foldl z0m out=l.foldl zvm out
 |[],_,_,_,_,_,_=>rfl
 | c::l,pre,out,hI,hl,hp,h0=>by
  have hc:=hl c (by simp);rw[foldl_cons,foldl_cons,add_put out c hc (fun x hx=>(hI.ord x hx).2) (h0.imp id fun h=>h c (by simp))];rw[List.pairwise_cons] at hp;exact z4l l (pre++[c]) (zvm out c) (qih hI hc) (fun x hx=>hl x (by simp[hx])) hp.2 (.inr fun x hx=>by have:=hp.1 x hx;omega)
open Go.Proofs.YtjkcellkmmfkdaaGreatDoor (spansOf zjp z0m spc zib zdv spans_any) in
theorem zua (s:BS):spansOf s=zfn s:=by
 have hp:(elN s 256).Pairwise (· < ·):=List.Pairwise.sublist List.filter_sublist List.pairwise_lt_range;exact z4l (elN s 256) [] [] ⟨fun k=>by simp[cov],fun x hx=>by simp at hx,rfl⟩ (fun c hc=>el_lt hc) hp (.inl rfl)
theorem zzh (X:Cx): ∀l:List Spn,zbe (ITP prog) X (Enc.cellsL (l.map fun x=>(⟨(x.1:Int),(x.2:Int)⟩:Sn))) (l.flatMap fun p=>[.int .u8 (p.1:Int),.int .u8 (p.2:Int)])
 |[]=>rfl
 |x::l=>⟨_,_,rfl,rfl,_,_,rfl,rfl,zzh X l⟩
theorem k_spans (s:BS):Pure (ITP prog) prog 188 [.agg (Enc.cells s)] (.list (List.length (zjs s:List Sn)) (Enc.cellsL (zjs s:List Sn)) .none):=by
 refine qhb (e:=227) [Go.Proofs.YtjkcellkmmfkdaaGreatDoor.sv s] (Go.Proofs.YtjkcellkmmfkdaaGreatDoor.spc (Go.Proofs.YtjkcellkmmfkdaaGreatDoor.spansOf s)) (enters_of Tryz.func188 (by kernel_rfl) rfl) (fun X us h=> ?_) (fun X=> ?_) (fun v hv=> ?_) fun w=> ?_
 ·obtain⟨v,r,rfl,⟨vs,rfl,hvs,_⟩,hr⟩:=h;obtain⟨_,_,rfl,h0,_,_,rfl,h1,_,_,rfl,h2,_,_,rfl,h3,h4⟩:=hvs;have hr:r=[]:=hr;have h4:_=[]:=h4;rw[hr,h4,h0,h1,h2,h3];rfl
 ·rw[zua];exact zzh X (zfn s)
 ·unfold Go.Proofs.YtjkcellkmmfkdaaGreatDoor.spc at hv;rw[List.mem_flatMap] at hv;obtain⟨x,_,hv⟩:=hv;simp at hv;rcases hv with rfl|rfl<;>rfl
 ·refine(Go.Proofs.YtjkcellkmmfkdaaGreatDoor.spans_any s w).mono ?_;rintro e1 w' ⟨v,rfl,hE,hown⟩;refine⟨v,rfl,⟨hE.toBelow,hE.drawn⟩,?_⟩;have:(Go.Proofs.YtjkcellkmmfkdaaGreatDoor.spansOf s).length=(zjs s).length:=by rw[zua];simp[zjs]
  rw[<-this];exact hown
def ixP:CallP:=fun f args=>match f,args with
 |158,[.raw (.string s),.raw (.int .u8 c)]=>if 0<=c/\ c<256 then some (.raw (.int .i64 (Lib.indexByte s.data.toList (zkx c)))) else none
 |_,_=>none
theorem ixP_ok:qbf prog ixP:=by
 intro f args a h;unfold ixP at h;split at h
 ·split at h
  ·rename_i s c hc;cases h;have:=zrs s.data.toList hc;have e:bs s.data.toList=s:=by cases s;simp[bs]
   rw[e] at this;exact this
  ·cases h
 ·cases h
theorem goodI:Good prog ixP noS:=⟨mix,ents,ixP_ok,(fun _ _ _ _ _ h=>nomatch h)⟩
noncomputable def qgv (f:Nat)(args:List AV)(r:AV):Bool:=match zjn prog ixP (evQ true prog ixP noS 300) f args with
 |some x=>z2b x r
 |none=>false
theorem z5l {f:Nat} {args:List AV} {r:AV} (h:qgv f args r=true):Pure (ITP prog) prog f args r:=by
 unfold qgv at h;split at h
 ·rename_i x hx;rw[z9s _ _ h] at hx;exact zfz true goodI 300 hx
 ·cases h
noncomputable def bqI (n:Nat):Bool:=qgv 112 [.raw (.int .u8 (n:Int)),.agg (Enc.cells zat)] (.raw (.string (bs (byT zat (UInt8.ofNat n)))))
theorem bqI_0:((List.range 32).all fun n=>bqI (0+n))=true:=by kernel_rfl
theorem bqI_1:((List.range 32).all fun n=>bqI (32+n))=true:=by kernel_rfl
theorem bqI_2:((List.range 32).all fun n=>bqI (64+n))=true:=by kernel_rfl
theorem bqI_3:((List.range 32).all fun n=>bqI (96+n))=true:=by kernel_rfl
theorem bqI_4:((List.range 32).all fun n=>bqI (128+n))=true:=by kernel_rfl
theorem bqI_5:((List.range 32).all fun n=>bqI (160+n))=true:=by kernel_rfl
theorem bqI_6:((List.range 32).all fun n=>bqI (192+n))=true:=by kernel_rfl
theorem bqI_7:((List.range 32).all fun n=>bqI (224+n))=true:=by kernel_rfl
theorem qbI_tab (n:Nat)(h:n<256):bqI n=true:=by
 have g: ∀b:Nat,((List.range 32).all fun n=>bqI (b+n))=true->b<=n->n<b+32->bqI n=true:=fun b hb h1 h2=>by
  have:=all_eq_true.1 hb (n-b) (mem_range.2 (by omega));rwa[show b+(n-b)=n by omega] at this
 by_cases h0:n<32
 ·exact g 0 bqI_0 (by omega) (by omega)
 by_cases h1:n<64
 ·exact g 32 bqI_1 (by omega) (by omega)
 by_cases h2:n<96
 ·exact g 64 bqI_2 (by omega) (by omega)
 by_cases h3:n<128
 ·exact g 96 bqI_3 (by omega) (by omega)
 by_cases h4:n<160
 ·exact g 128 bqI_4 (by omega) (by omega)
 by_cases h5:n<192
 ·exact g 160 bqI_5 (by omega) (by omega)
 by_cases h6:n<224
 ·exact g 192 bqI_6 (by omega) (by omega)
 exact g 224 bqI_7 (by omega) (by omega)
theorem z1r {e:Int} (h:0<=e/\ e<256):Pure (ITP prog) prog 112 [.raw (.int .u8 e),.agg (Enc.cells zat)] (.raw (.string (bs (byT zat (zkx e))))):=by
 obtain⟨m,rfl⟩: ∃m:Nat,(m:Int)=e:=⟨e.toNat,by omega⟩;exact z5l (qbI_tab m (by omega))
noncomputable def bqM (n:Nat):Bool:=qgv 112 [.raw (.int .u8 (n:Int)),.agg (Enc.cells zbo)] (.raw (.string (bs (byT zbo (UInt8.ofNat n)))))
theorem bqM_0:((List.range 32).all fun n=>bqM (0+n))=true:=by kernel_rfl
theorem bqM_1:((List.range 32).all fun n=>bqM (32+n))=true:=by kernel_rfl
theorem bqM_2:((List.range 32).all fun n=>bqM (64+n))=true:=by kernel_rfl
theorem bqM_3:((List.range 32).all fun n=>bqM (96+n))=true:=by kernel_rfl
theorem bqM_4:((List.range 32).all fun n=>bqM (128+n))=true:=by kernel_rfl
theorem bqM_5:((List.range 32).all fun n=>bqM (160+n))=true:=by kernel_rfl
theorem bqM_6:((List.range 32).all fun n=>bqM (192+n))=true:=by kernel_rfl
theorem bqM_7:((List.range 32).all fun n=>bqM (224+n))=true:=by kernel_rfl
theorem qbM_tab (n:Nat)(h:n<256):bqM n=true:=by
 have g: ∀b:Nat,((List.range 32).all fun n=>bqM (b+n))=true->b<=n->n<b+32->bqM n=true:=fun b hb h1 h2=>by
  have:=all_eq_true.1 hb (n-b) (mem_range.2 (by omega));rwa[show b+(n-b)=n by omega] at this
 by_cases h0:n<32
 ·exact g 0 bqM_0 (by omega) (by omega)
 by_cases h1:n<64
 ·exact g 32 bqM_1 (by omega) (by omega)
 by_cases h2:n<96
 ·exact g 64 bqM_2 (by omega) (by omega)
 by_cases h3:n<128
 ·exact g 96 bqM_3 (by omega) (by omega)
 by_cases h4:n<160
 ·exact g 128 bqM_4 (by omega) (by omega)
 by_cases h5:n<192
 ·exact g 160 bqM_5 (by omega) (by omega)
 by_cases h6:n<224
 ·exact g 192 bqM_6 (by omega) (by omega)
 exact g 224 bqM_7 (by omega) (by omega)
theorem z9e {e:Int} (h:0<=e/\ e<256):Pure (ITP prog) prog 112 [.raw (.int .u8 e),.agg (Enc.cells zbo)] (.raw (.string (bs (byT zbo (zkx e))))):=by
 obtain⟨m,rfl⟩: ∃m:Nat,(m:Int)=e:=⟨e.toNat,by omega⟩;exact z5l (qbM_tab m (by omega))
def zls (s:BS):List (List UInt8):=(zfn s).map fun x=>gts (z1i x)
def qea (l:List UInt8):List AV:=[.raw (.string (bs l))]
theorem rowS_ne (l:List (List UInt8)):List.map qea l≠errRows:=by
 cases l with
 |nil=>simp[errRows]
 |cons a l=>simp[errRows,qea,List.replicate]
end Go.Ab
