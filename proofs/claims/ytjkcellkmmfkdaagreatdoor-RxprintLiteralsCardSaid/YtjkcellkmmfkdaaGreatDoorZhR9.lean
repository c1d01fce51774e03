import Derived.Test.YtjkcellkmmfkdaaGreatDoorRows
import Derived.WalkKit
import Derived.WalkSpells
import Derived.WalkLawsBesides
import Derived.StillTailTactics
import Derived.Outline
import Derived.Shelf.Strings.BuilderK
import Derived.Test.YtjkcellkmmfkdaaGreatDoorZhR7
set_option linter.all false
set_option maxRecDepth 100000
set_option maxHeartbeats 4000000
open Sum (inl inr)
open Nat (le_refl)
open List (length length_cons all_eq_true foldl mem_range)
open Go.Proofs.Tryz (prog)
namespace Go.Ab
open Go Go.RowKit Go.Shelf Go.Proofs
theorem qou:(prog.info? 88).map (·.size)=some 2:=by kernel_rfl
set_option maxHeartbeats 1000000 in
theorem cc_used (b:Nat)(w:World)(h0:w.cell? ⟨b,0,none⟩=some (.pointer (some ⟨b,0,none⟩))):
 Calls prog 93 #[.pointer (some ⟨b,0,none⟩)] w fun e w'=>e= .returned (.tuple #[])/\ w'=w:=by
 obtain⟨j,hj,hjs⟩:=Option.map_eq_some_iff.1 qou
 go_enter Tryz.func93,Tryz.ntmps93
 go_wp2
 rw[Lib.run_neq_ptr_same w _ Tryz.underlying86 hj]
 go_wp2
 go_end0
 exact⟨rfl,rfl⟩
theorem lies71 (n:Nat):liesAt prog prog.depth 88 ((n+2)/prog.cellsOf 88) 0 88 1=true:=by
 obtain⟨d,hd⟩: ∃d,prog.depth=d+1:=⟨prog.depth-1,by
  have h:decide (0<prog.depth)=true:=by kernel_rfl
  have:=of_decide_eq_true h;omega⟩
 have hc:prog.cellsOf 88=2:=by kernel_rfl
 have hsl:sameLayout prog prog.depth 88 88=true:=by kernel_rfl
 rw[hc,show(n+2)/2=n/2+1 from by omega,hd];rw[liesAt];have hr:rowAt prog (fun x=>sameLayout prog prog.depth x 88) (d+1) 88 (n/2+1) 0 1=true:=by
  rw[rowAt];simp[hc,hsl]
 rw[hd] at hr;simp only[hr,Bool.true_or,hd]
set_option maxHeartbeats 1000000 in
theorem qkq (b n:Nat)(w:World)(h0:w.cell? ⟨b,0,none⟩=some (.pointer none))(hsh:w.shape? b=some (88,n+2))(hfz:w.frozen? ⟨b,0,none⟩=false):
 Calls prog 93 #[.pointer (some ⟨b,0,none⟩)] w fun e w'=>e= .returned (.tuple #[])/\ w'=w.setCell ⟨b,0,none⟩ (.pointer (some ⟨b,0,none⟩)):=by
 obtain⟨j,hj,hjs⟩:=Option.map_eq_some_iff.1 qou
 go_enter Tryz.func93,Tryz.ntmps93
 go_wp2
 rw[Lib.run_to_unsafe w ⟨b,0,none⟩ Tryz.underlying86 Tryz.underlying186 hj (by rw[hjs];decide) hsh (Nat.zero_lt_succ _)];simp only[Result.andThen];rw[Oper.upon_value]
 go_wp2
 rw[run_callFunc_extern Tryz.func141 (by kernel_rfl) (by kernel_rfl) (by kernel_rfl) (e:=Extern.AbiNoEscape.same) (by kernel_rfl)];rw[Lib.run_noEscape];simp only[Result.andThen];rw[Oper.upon_value]
 go_wp2
 rw[Lib.run_from_unsafe w ⟨b,0,none⟩ Tryz.underlying186 Tryz.underlying86 hj hsh (lies71 n)];simp only[Result.andThen];rw[Oper.upon_value]
 go_wp2
 go_end0
 exact⟨rfl,rfl⟩
set_option maxHeartbeats 1000000 in
theorem qnd (b g cap:Nat)(cur:Array Value)(fz:Nat×Nat)(l:List UInt8)(w:World)(h1:w.cell? ⟨b,1,none⟩=some (.slice (some ⟨g,0,none⟩) l.length cap))(h0:l≠[])(hg:w.heap[g]? =some (.cells cur 5 fz))(hlc:l.length<=cur.size)(hcm:cur.size<=maxLen)
 (hcap:cap≠0) (hc: ∀j x,l[j]? =some x->w.cell? ⟨g,j,none⟩=some (.int .u8 (x.toNat:Int))):
 Calls prog 48 #[.pointer (some ⟨b,0,none⟩)] w fun e w'=>e= .returned (.string ⟨l.toArray⟩)/\ w'=w.drew.freeze ⟨g,0,none⟩ l.length:=by
 have c1:w.drew.cell? ⟨b,1,none⟩=some (.slice (some ⟨g,0,none⟩) l.length cap):=h1;have hSD:(Builtin.unsafeSliceData_ #[30] 143 #[.slice (some ⟨g,0,none⟩) l.length cap]).run prog w.drew= .ok (.pointer (some ⟨g,0,none⟩)) w.drew:=Lib.run_unsafeSliceData_row _ _ _ _ _ _ hcap;have hUS:(Builtin.unsafeString_ #[143,3] 9 #[.pointer (some ⟨g,0,none⟩),.int .i64 l.length]).run prog w.drew= .ok (.string ⟨l.toArray⟩) (w.drew.freeze ⟨g,0,none⟩ l.length):=by
  refine Lib.run_unsafeString_row w.drew 143 3 9 5 Tryz.underlying143 (by kernel_rfl) g cur.size (by have hg':w.drew.heap[g]? =some (.cells cur 5 fz):=hg;simp[World.shape?,hg']) l h0 hlc (by unfold maxLen at hcm;omega) ?_;intro j x hx;rw[show({block:=g,off:=0}:Addr).add j=⟨g,j,none⟩ from by simp[Addr.add];try omega];exact hc j x hx
 go_enter Tryz.func48,Tryz.ntmps48
 go_wp2
 go_region
 all_goals(go_wp2;go_ret;exact⟨rfl,rfl⟩)
end Go.Ab
namespace Go.Ab
open Go Go.RowKit Go.Fwd Go.Proofs
variable {IT:IterP} {U:St}
theorem qgn (w:World)(a:Addr)(n:Nat):w.drawn<=(w.freeze a n).drawn:=by
 unfold World.freeze;repeat' split
 all_goals exact le_refl _
theorem qlb (hIT:ITMono IT) {U:St} {X:Cx} (hI:Inv IT U X) {s:Nat} {r:Row} {L:Nat} {cur:Array Value} {fz fz':Nat×Nat} {W:World} (hs:X.β[s]? =some r)(hL:X.lens[s]? =some L)
 (hcur:X.w.heap[r.block]? =some (.cells cur r.elem fz)) (hle:fz'.2<=L) (h1:W.os=X.w.os) (h2:W.tape=X.w.tape) (h3:W.output=X.w.output) (h4:W.heap.size=X.w.heap.size)
 (h5: ∀b,b≠r.block->W.heap[b]? =X.w.heap[b]?) (h6:W.heap[r.block]? =some (.cells cur r.elem fz')) (hdr:X.w.drawn<=W.drawn):Ext X {X with w:=W}/\ Inv IT U {X with w:=W}:=by
 have hrm:=List.mem_of_getElem? hs;have hcell: ∀b o,W.cell? ⟨b,o,none⟩=X.w.cell? ⟨b,o,none⟩:=fun b o=>by
  by_cases e:b=r.block
  ·subst e;simp[World.cell?,h6,hcur]
  ·simp[World.cell?,h5 b e]
 have hE:Ext X {X with w:=W}:={
  os:=h1,tape:=h2,output:=h3,size:=by show _<=W.heap.size;omega
  drawn:=(by first|exact hdr|exact le_refl _)
  F:=fun _ _ h=>h
  cell:=fun b i _=>hcell b i
  κ:=fun _ _ h=>h
  lens:=fun s L h=>⟨L,h,le_refl _,fun _=>rfl⟩
  blk:=fun s' b hs' cu t f h=>⟨cu,(h5 b (fun e=>hI.βκ r hrm (e▸List.mem_of_getElem? hs'))).trans h,rfl⟩
  szs:=Szs.one r.block (fun k _ e=>h5 k e) fun cs t f h=>by rw[hcur] at h;cases h;exact⟨_,_,_,h6,rfl⟩
  frame:=fun b _ _ hβ=>h5 b fun e=>hβ r hrm e.symm
  κnew:=fun _ h=> .inl h
  βnew:=fun q h=> .inl ⟨q,h,rfl⟩
  O:=rfl
  C:=rfl
  Fnew:=fun b i h=> .inl h}
 have hother: ∀(s':Nat) (q:Row),X.β[s']? =some q->s'≠s->q.block≠r.block:=fun s' q hq hne e=>hne (by
  have h1:=(List.getElem?_eq_some_iff.1 hq).1;have h2:=(List.getElem?_eq_some_iff.1 hs).1;have e1:(X.β.map (·.block))[s']'(by simpa using h1)=q.block:=by simp[(List.getElem?_eq_some_iff.1 hq).2]
  have e2:(X.β.map (·.block))[s]'(by simpa using h2)=r.block:=by simp[(List.getElem?_eq_some_iff.1 hs).2]
  exact(List.getElem_inj hI.βnd).1 (e1.trans (e.trans e2.symm)))
 refine⟨hE,{lens:=hI.lens,elems:=hI.elems,κlen:=hI.κlen,κnd:=hI.κnd,box:= ?_,κF:=hI.κF,βlen:=hI.βlen,βnd:=hI.βnd,βκ:=hI.βκ,row:= ?_,Ok:= ?_,Fcell:=fun b o hf=> ?_,gv:=z3s hIT hE hI.gv}⟩
 ·intro s' b t' c hs' hb;obtain⟨ws,zs',u1,u2,u3⟩:=hI.box s' b t' c hs' hb;have hne:b≠r.block:=fun e=>hI.βκ r hrm (e▸List.mem_of_getElem? hs');exact⟨ws,zs',(h5 b hne).trans u1,zam hIT hE _ _ u2,u3⟩
 ·intro s' q L' hq hL';by_cases e:s'=s
  ·subst e;have hq':q=r:=by have:=hq;rw[hs] at this;exact(Option.some.inj this).symm
   have hLL:L'=L:=by have:=hL';rw[hL] at this;exact(Option.some.inj this).symm
   subst hq';subst hLL;obtain⟨cu,fz0,d1,d2,d3,d4,d5,d6,d7⟩:=hI.row s' q L' hs hL;have hcc:cu=cur:=by rw[hcur] at d1;cases d1;rfl
   subst hcc;exact⟨cu,fz',h6,d2,d3,d4,d5,d6,hle⟩
  ·obtain⟨cu,fz0,d1,d2,d3,d4,d5,d6,d7⟩:=hI.row s' q L' hq hL';exact⟨cu,fz0,(h5 _ (hother s' q hq e)).trans d1,d2,d3,d4,d5,d6,d7⟩
 ·intro b ho;obtain⟨⟨cs0,t0,f0,h0⟩,k2,k3,k4⟩:=hI.Ok b ho;exact⟨⟨cs0,t0,f0,(h5 b (Ne.symm (k3 r hrm))).trans h0⟩,k2,k3,k4⟩
 ·obtain⟨v,hv⟩:=hI.Fcell b o hf;exact⟨v,(hcell b o).trans hv⟩
def zhm:List AV->Option (List UInt8)
 |[]=>some []
 | .raw (.int .u8 i)::l=>if 0<=i/\ i<256 then(zhm l).map (UInt8.ofNat i.toNat:: ·) else none
 |_=>none
theorem zua {X:Cx}: ∀ {cs:List AV} {l:List UInt8} {b o:Nat},zhm cs=some l->At IT X cs b o->cs.length=l.length/\ ∀j x,l[j]? =some x->X.w.cell? ⟨b,o+j,none⟩=some (.int .u8 (x.toNat:Int))
 |[],l,b,o,h,_=>by simp only[zhm,Option.some.injEq] at h;subst h;exact⟨rfl,fun j x h=>by simp at h⟩
 | .raw (.int .u8 i)::cs,l,b,o,h,ha=>by
  rw[zhm] at h;split at h
  ·rename_i hi;obtain⟨m,hm,rfl⟩:=Option.map_eq_some_iff.1 h;rw[At] at ha;obtain⟨⟨_,v,hv,_,hr⟩,ht⟩:=ha;obtain⟨h1,h2⟩:=zua hm ht;have hvi:v= .int .u8 i:=hr;subst hvi;refine⟨by simp[h1],fun j x hx=> ?_⟩;cases j with
   | zero=>
    simp only[List.getElem?_cons_zero,Option.some.injEq] at hx;subst hx;rw[Nat.add_zero,hv];have:((UInt8.ofNat i.toNat).toNat:Int)=i:=by
     rw[UInt8.toNat_ofNat'];have:i.toNat%2^8=i.toNat:=Nat.mod_eq_of_lt (by omega);rw[this];omega
    rw[this]
   | succ j=>
    simp only[List.getElem?_cons_succ] at hx;rw[show o+(j+1)=o+1+j from by omega];exact h2 j x hx
  ·cases h
theorem zun (w:World)(g n:Nat)(cur:Array Value)(t:TypeId)(fz:Nat×Nat)(hg:w.heap[g]? =some (.cells cur t fz))(hfz:fz.2<=n): ∃fz':Nat×Nat,fz'.2<=n/\ (w.freeze ⟨g,0,none⟩ n).heap[g]? =some (.cells cur t fz')/\
 (∀b,b≠g->(w.freeze ⟨g,0,none⟩ n).heap[b]? =w.heap[b]?)/\ (w.freeze ⟨g,0,none⟩ n).os=w.os/\ (w.freeze ⟨g,0,none⟩ n).tape=w.tape/\ (w.freeze ⟨g,0,none⟩ n).output=w.output/\ (w.freeze ⟨g,0,none⟩ n).heap.size=w.heap.size:=by
 unfold World.freeze;by_cases h:n=0
 ·rw[if_pos h];exact⟨fz,hfz,hg,fun _ _=>rfl,rfl,rfl,rfl,rfl⟩
 ·rw[if_neg h];obtain⟨lo,hi⟩:=fz;refine⟨if lo==hi then(0,0+n) else(min lo 0,max hi (0+n)),?_,?_,fun b hb=> ?_,rfl,rfl,rfl,by simp⟩
  ·split
   ·simp
   ·simp at hfz⊢;omega
  ·simp[Array.getElem?_modify,hg]
  ·simp[Array.getElem?_modify,Ne.symm hb]
theorem z4x (w:World)(b:Nat)(cs:Array Value)(t:TypeId)(f:Nat×Nat)(v:Value)(h:w.heap[b]? =some (.cells cs t f)):w.setCell ⟨b,0,none⟩ v=w.setRow b (cs.setIfInBounds 0 v):=by
 unfold World.setCell World.setRow;congr 1
 apply Array.ext_getElem?;intro i;rw[Array.getElem?_modify,Array.getElem?_modify];by_cases e:b=i
 ·subst e;rw[if_pos rfl,if_pos rfl,h];rfl
 ·rw[if_neg e,if_neg e]
def bldS:CallS:=fun f args U=>
 match args with
 | [.ptr s 0]=>match U.boxes[s]? with
  | some (88,[c,x])=>
   if f=93 then(match c with
    | .raw (.pointer none)=>some (.tup [],{U with boxes:=U.boxes.set s (88,[.ptr s 0,x])})
    | .ptr s' 0=>if s'=s then some (.tup [],U) else none
    |_=>none)
   else if f=48 then(match x with
    | .list n cs (.own k)=>(match zhm cs with
     |some l=>if U.lens[k]? =some n/\ cs.length=n/\ 0<n/\ U.elems[k]? =some 5 then some (.raw (.string ⟨l.toArray⟩),U) else none
     |none=>none)
    |_=>none)
   else none
  |_=>none
 |_=>none
theorem ent93:Ent prog 93:=enters_of Tryz.func93 (by kernel_rfl) rfl
theorem ent48:Ent prog 48:=enters_of Tryz.func48 (by kernel_rfl) rfl
theorem qjb {s:Nat} {x:AV} (hb:U.boxes[s]? =some (88,[.raw (.pointer none),x])):Snd (ITP prog) prog 93 [.ptr s 0] U (.tup []) {U with boxes:=U.boxes.set s (88,[.ptr s 0,x])}:=by
 refine⟨ent93,fun X us hI hr=> ?_⟩;obtain⟨a,l,rfl,⟨b,hκ,rfl⟩,hl⟩:=hr;have hl:l=[]:=hl;subst hl;obtain⟨vs,zs,u1,u2,u3⟩:=hI.box s b 88 _ hκ hb;obtain⟨a0,r0,rfl,h0,a1,r1,rfl,h1,h2⟩:=u2;have h0:a0= .pointer none:=h0;have h2:r1=[]:=h2;subst h0;subst h2;have hc:=qkq b zs.length X.w (by simp[World.cell?,u1]) (by simp[World.shape?,u1]) (by simp[World.frozen?,u1]);refine hc.mono ?_;rintro e w' ⟨rfl,rfl⟩
 obtain⟨e1,e2⟩:=zur (ze _) hI (vs':=[.pointer (some ⟨b,0,none⟩),a1]) (cs':=[.ptr s 0,x]) (zs:=zs) hκ hb (by simp) (fun cur t f hc=>by rw[u1] at hc;cases hc;simp) ⟨_,_,rfl,⟨b,hκ,rfl⟩,_,_,rfl,h1,rfl⟩
  (fun v hv=>by
   rcases List.mem_cons.1 hv with rfl|hv
   ·rfl
   ·exact u3 v (List.mem_cons_of_mem _ hv))
 have hw:=z4x X.w b _ _ _ (.pointer (some ⟨b,0,none⟩)) u1;refine⟨_,_,rfl,?_,e1,e2,⟨[],rfl,rfl⟩⟩;rw[hw];congr 1
theorem qil {s:Nat} {x:AV} (hb:U.boxes[s]? =some (88,[.ptr s 0,x])):Snd (ITP prog) prog 93 [.ptr s 0] U (.tup []) U:=by
 refine⟨ent93,fun X us hI hr=> ?_⟩;obtain⟨a,l,rfl,⟨b,hκ,rfl⟩,hl⟩:=hr;have hl:l=[]:=hl;subst hl;obtain⟨vs,zs,u1,u2,u3⟩:=hI.box s b 88 _ hκ hb;obtain⟨a0,r0,rfl,⟨b',hκ',rfl⟩,h2⟩:=u2;have hbb:b'=b:=by rw[hκ] at hκ';exact(Option.some.inj hκ').symm
 subst hbb;refine(cc_used b' X.w (by simp[World.cell?,u1])).mono ?_;rintro e w' ⟨rfl,rfl⟩;exact⟨_,X,rfl,rfl,Ext.refl X,hI,⟨[],rfl,rfl⟩⟩
theorem qgx {s n k:Nat} {c:AV} {cs:List AV} {l:List UInt8} (hb:U.boxes[s]? =some (88,[c,.list n cs (.own k)]))(hl:zhm cs=some l)(h1:U.lens[k]? =some n)(h2:cs.length=n)(h3:0<n)(h4:U.elems[k]? =some 5):
 Snd (ITP prog) prog 48 [.ptr s 0] U (.raw (.string ⟨l.toArray⟩)) U:=by
 refine⟨ent48,fun X us hI hr=> ?_⟩;obtain⟨a,l',rfl,⟨b,hκ,rfl⟩,hl'⟩:=hr;have hl':l'=[]:=hl';subst hl';obtain⟨vs,zs,u1,u2,u3⟩:=hI.box s b 88 _ hκ hb;obtain⟨a0,r0,rfl,h0,a1,r1,rfl,hx,h5⟩:=u2;have h5:r1=[]:=h5;subst h5;rw[Rep] at hx;obtain⟨ad,cap,rfl,⟨hcap,_⟩,hc,L,hL,hle,hrow⟩:=hx;have hLn:L=n:=by have:=hI.lens▸hL;rw[h1] at this;exact(Option.some.inj this).symm
 subst hLn;obtain⟨r,hr,had,hcr,hsz⟩:=hrow h2;subst had;obtain⟨cur,fz,c1,c2,c3,c4,c5,c6,c7⟩:=hI.row k r L hr hL;have hel:r.elem=5:=by
  have:(X.β.map (·.elem))[k]? =some 5:=by rw[hI.elems];exact h4
  rw[List.getElem?_map,hr] at this;exact Option.some.inj this
 have hat:At (ITP prog) X cs r.block 0:=by
  rcases hc with rfl|⟨b',o',e,h⟩
  ·simp at h2;omega
  ·cases e;exact h
 obtain⟨q1,q2⟩:=zua hl hat
 have hlL:l.length=L:=by omega
 have hsize:cur.size<=maxLen:=by
  have:r.size=1:=by
   rw[h2] at hsz;have:L*1=L*r.size:=by omega
   exact(Nat.eq_of_mul_eq_mul_left h3 this).symm
  rw[c2,this];omega
 have hst:=qnd b r.block cap cur fz l X.w (by simp[World.cell?,u1,hlL]) (by intro e;subst e;simp at hlL;omega) (by rw[c1,hel]) (by omega) hsize (by omega) (fun j x hx=>by have:=q2 j x hx;simpa using this);refine hst.mono ?_;rintro e w' ⟨rfl,rfl⟩;obtain⟨d1,d2⟩:=zjd (ze _) hI;obtain⟨fz',f1,f2,f3,f4,f5,f6,f7⟩:=zun X.w.drew r.block l.length cur r.elem fz c1 (by omega);obtain⟨g1,g2⟩:=qlb (ze _) d2 (s:=k) (r:=r) (L:=L) (W:=X.w.drew.freeze ⟨r.block,0,none⟩ l.length) hr hL c1 (by omega) f4 f5 f6 f7 f3 f2 (qgn _ _ _);exact⟨_,_,rfl,rfl,d1.trans g1,g2,rfl⟩
theorem bldS_ok:qgm prog bldS:=by
 intro f args U r U' h;unfold bldS at h;split at h<;>try cases h
 rename_i s;split at h<;>try cases h
 rename_i c x hb;split at h
 ·rename_i hf;subst hf;split at h
  ·cases h;exact qjb hb
  ·split at h
   ·rename_i e;cases h;subst e;exact qil hb
   ·cases h
  ·cases h
 ·split at h
  ·rename_i hf;subst hf;split at h
   ·rename_i n cs k;split at h
    ·rename_i l hl;split at h
     ·rename_i hc;cases h;exact qgx hb hl hc.1 hc.2.1 hc.2.2.1 hc.2.2.2
     ·cases h
    ·cases h
   ·cases h
  ·cases h
end Go.Ab
namespace Go.Ab
open Go Go.RowKit Go.Fwd Go.Proofs
variable {o:Oper} {S:List AV} {U:St} {n:Nat}
set_option maxHeartbeats 1000000 in
theorem qjj (b:Nat)(w:World)(h1:w.cell? ⟨b,1,none⟩=some (.slice none 0 0)):
 Calls prog 48 #[.pointer (some ⟨b,0,none⟩)] w fun e w'=>e= .returned (.string ⟨#[]⟩)/\ w'=w.drew:=by
 have c1:w.drew.cell? ⟨b,1,none⟩=some (.slice none 0 0):=h1;have hSD:(Builtin.unsafeSliceData_ #[30] 143 #[.slice none 0 0]).run prog w.drew= .ok (.pointer none) w.drew:=Lib.run_unsafeSliceData_nil _ _ _ _ _;have hUS:(Builtin.unsafeString_ #[143,3] 9 #[.pointer none,.int .i64 0]).run prog w.drew= .ok (.string .empty) w.drew:=Lib.run_unsafeString_none _ _ _ _ _
 go_enter Tryz.func48,Tryz.ntmps48
 go_wp2
 go_region
 all_goals(go_wp2;go_ret;exact⟨rfl,rfl⟩)
theorem und9b:prog.underlying 9=some .string:=by kernel_rfl
def zvx (l:List UInt8):AV:=if l.length=0 then .raw (.slice none 0 0) else .list l.length (Enc.cellsL l) (.own 0)
def zwh (s:Nat)(u:Bool)(l:List UInt8):List AV:=[bif u then .ptr s 0 else .raw (.pointer none),zvx l]
theorem zey {l:List UInt8} (h: ¬l.length=0):zvx l= .list l.length (Enc.cellsL l) (.own 0):=by unfold zvx;rw[if_neg h]
theorem z2y (b:List UInt8):(byteCells (bs b)).map AV.raw=Enc.cellsL b:=by
 simp[byteCells,bs];rfl
theorem rd_buf (l:List UInt8):rd prog 30 [zvx l]=some (zvx l):=by
 unfold zvx;split<;>rfl
theorem qie (l:List UInt8):ziw (zvx l)=true/\ cellsOf (zvx l)=[zvx l]:=by
 unfold zvx;split<;>exact⟨rfl,rfl⟩
theorem app_buf {bx:List (TypeId×List AV)} {ρ:Operand->AV} {x y:Operand} (l b:List UInt8)(g:(l.length+b.length)*1<=140737488355328)(ho:o.op= .call ⟨.builtin .append, #[x,y], #[30,9]⟩)(hx:ρ x=zvx l)(hy:ρ y= .raw (.string (bs b))):
 qpe prog ρ (zar bx 5 l.length 1) o (zvx (l++b)) (zar bx 5 (l++b).length 1):=by
 have hmax:140737488355328<=maxLen:=by decide
 have hbs:(bs b).size=b.length:=rfl;have hbc:=z2y b;by_cases hl:l.length=0
 ·have hl0:=List.length_eq_zero_iff.1 hl;subst hl0;refine .inr (.inr (.inl ?_));have hn:zry (ρ x)=true:=by rw[hx];rfl
  simp only[zwg,ho,hn,if_true];rw[hy];by_cases hb:b.length=0
  ·have hb0:=List.length_eq_zero_iff.1 hb;subst hb0;rfl
  ·have h1: ¬(bs b).size=0:=by rw[hbs];exact hb
   simp only[qbe,if_neg h1];have hc:([]:List AV).length=0*1/\ True/\ 0<(bs b).size/\ True/\ 0<1/\ 0+(bs b).size<=maxLen/\ (0+(bs b).size)*1<=140737488355328:=⟨rfl,trivial,by rw[hbs];omega,trivial,by decide,by rw[hbs];omega,by rw[hbs];omega⟩;have hi: ∃i z,prog.info? 5=some i/\ i.zero=some z/\ i.size=1/\ z.cells.size=1/\ i.bytes=1:=⟨_,_,rfl,rfl,rfl,rfl,rfl⟩;obtain⟨i,z,i1,i2,i3,i4,i5⟩:=hi;have u1:prog.underlying 30=some (.slice 5):=by kernel_rfl
   simp only[zym,u1,und9b,i1,i2,i3,i4,i5];rw[if_neg (fun h=>h1 h.1),if_pos hc,hbc,zey (by simpa using hb)];simp[zar,hb,hbs]
 ·by_cases hb:b.length=0
  ·have hb0:=List.length_eq_zero_iff.1 hb;subst hb0;refine .inl ?_;have hq:qop prog ρ (zar bx 5 l.length 1) o=none:=by
    simp only[qop,ho,hx,hy,zey hl];first|done|simp[zfi,ho,Op.operands,Call.operands,hx,hy,zey hl,zdr]
   have hi: ∃i z,prog.info? 5=some i/\ i.zero=some z/\ i.size=1:=⟨_,_,rfl,rfl,rfl⟩;obtain⟨i,z,i1,i2,i3⟩:=hi;have u1:prog.underlying 30=some (.slice 5):=by kernel_rfl
   simp only[aop,hq,ho];rw[if_neg (by decide),hx,hy,zey hl];simp only[zym,u1,und9b,i1,i2,i3];rw[if_pos ⟨rfl,trivial⟩,List.append_nil,zey hl]
  ·refine .inl ?_;have hq:qop prog ρ (zar bx 5 l.length 1) o=none:=by
    simp only[qop,ho,hx,hy,zey hl];first|done|simp[zfi,ho,Op.operands,Call.operands,hx,hy,zey hl,zdr]
   have hi: ∃i z,prog.info? 5=some i/\ i.zero=some z/\ i.size=1/\ z.cells.size=1/\ i.bytes=1:=⟨_,_,rfl,rfl,rfl,rfl,rfl⟩;obtain⟨i,z,i1,i2,i3,i4,i5⟩:=hi;have u1:prog.underlying 30=some (.slice 5):=by kernel_rfl
   have h1: ¬(bs b).size=0:=by rw[hbs];exact hb
   have hc:(Enc.cellsL l).length=l.length*1/\ True/\ 0<(bs b).size/\ True/\ 0<1/\ l.length+(bs b).size<=maxLen/\ (l.length+(bs b).size)*1<=140737488355328:=⟨Enc.lenL l,trivial,by rw[hbs];omega,trivial,by decide,by rw[hbs];omega,by rw[hbs];omega⟩;have hlen:(Enc.cellsL l).length=l.length:=by rw[hc.1,Nat.mul_one]
   simp only[aop,hq,ho];rw[if_neg (by decide),hx,hy,zey hl];simp only[zym,u1,und9b,i1,i2,i3,i4,i5];have hown:(zar bx 5 l.length 1).lens[0]? =some (Enc.cellsL l).length/\ (zar bx 5 l.length 1).elems[0]? =some 5/\ 0<l.length:=⟨by simp[zar,hl,hlen],by simp[zar,hl],by omega⟩;rw[if_neg (fun h=>h1 h.1),if_pos hc,hbc,if_pos hown,zey (by rw[List.length_append];omega),Enc.app];simp[zar,hl,hbs]
section
variable {IT:IterP} {P:Program} {W:Owed} {k0:Nat}
theorem w_opRb {ops:Array Oper} {Q:List AV->St->Prop} {l:List Oper} {S':List AV} {U':St} {a:AV} (hg:o.guard=none)(hc:zct S o=none)(hy:zcv S o=none)(h:qpe P (zbw S) U o a U')(hS:zad S o.dst a=S')(k:zcb IT P W ops Q l S' U'):zcb IT P W ops Q (o::l) S U:=by
 simp only[zcb,hg,zfq,hc,hy];exact .inl ⟨a,U',h,by rw[hS];exact k⟩
theorem ends_id {P:Program} {m:Nat} {a:AV}:z3w P n m U a a U:=fun X Y v hE _ _ hI hv=>⟨Y,rfl,hE,hI,hv⟩
theorem end_id {P:Program} {fn:Func} {m:Nat} {a r:AV} (h:zap P fn U S=some a)(hr:a=r):qlq P fn n m r U .ret S U:=⟨a,h,hr▸ends_id⟩
end
theorem qlz {α:Type} {l:List α} {s:Nat} {a:α} (h:l[s]? =some a):l.set s a=l:=by
 apply List.ext_getElem?;intro i;by_cases e:s=i
 ·subst e;have:=(List.getElem?_eq_some_iff.1 h).1;rw[List.getElem?_set_self this,h]
 ·rw[List.getElem?_set_ne e]
theorem cc_snd {bx:List (TypeId×List AV)} {s:Nat} {u:Bool} {x:AV} (hb:bx[s]? =some (88,[bif u then .ptr s 0 else .raw (.pointer none),x])):Snd (ITP prog) prog 93 [.ptr s 0] (zar bx 5 n 1) (.tup []) (zar (bx.set s (88,[.ptr s 0,x])) 5 n 1):=by
 cases u with
 |false=>exact qjb (U:=zar bx 5 n 1) (s:=s) (x:=x) hb
 | true=>
  have hb':bx[s]? =some (88,[.ptr s 0,x]):=hb;rw[qlz hb'];exact qil (U:=zar bx 5 n 1) (s:=s) (x:=x) hb
theorem ent46:Ent prog 46:=enters_of Tryz.func46 (by kernel_rfl) rfl
theorem z1h {bx:List (TypeId×List AV)} {s:Nat} {u:Bool} {l b:List UInt8} (g:(l.length+b.length)*1<=140737488355328)(hb:bx[s]? =some (88,zwh s u l)):
 Snd (ITP prog) prog 46 [.ptr s 0,.raw (.string (bs b))] (zar bx 5 l.length 1) (.tup [.raw (.int .i64 b.length),.raw .nilIface]) (zar (bx.set s (88,zwh s true (l++b))) 5 (l++b).length 1):=by
 obtain⟨d,hd⟩: ∃d,Tryz.f46.body=some d:=⟨_,rfl⟩;refine z8c mix Tryz.func46 hd ent46 ?_;cases hd;have hs:s<bx.length:=(List.getElem?_eq_some_iff.1 hb).1;refine zbt (by dsimp only[zai,Tryz.f46,length_cons,List.length_nil,Nat.zero_add,Nat.reduceAdd,Nat.reduceSub,List.replicate,List.cons_append,List.nil_append]) rfl ?_;refine zj (zb ?_);refine zhp (a:= .raw (.int .i64 0)) rfl rfl rfl rfl (by dsimp only[zad,List.set]) ?_;refine zhp (a:= .raw .nilIface) rfl rfl rfl rfl (by dsimp only[zad,List.set]) ?_;refine zj (zb ?_);refine zhp (a:= .ptr s 0) rfl rfl rfl rfl (by dsimp only[zad,List.set]) ?_;refine zfj (cc_snd hb) rfl rfl ⟨rfl,rfl⟩ (by dsimp only[zad,List.set]) ?_;have hb1:(bx.set s (88,[.ptr s 0,zvx l]))[s]? =some (88,[.ptr s 0,zvx l]):=List.getElem?_set_self hs;have hfin:(bx.set s (88,[.ptr s 0,zvx l])).set s (88,zwh s true (l++b))=bx.set s (88,zwh s true (l++b)):=List.set_set ..;generalize bx.set s (88,[.ptr s 0,zvx l])=bx1 at hb1 hfin
 rw[<-hfin];refine zj (zb ?_);iterate 3 refine zhp (a:= .ptr s 0) rfl rfl rfl rfl (by dsimp only[zad,List.set]) ?_
 refine zhp (a:= .ptr s 1) rfl rfl rfl rfl (by dsimp only[zad,List.set]) ?_;refine zhp rfl rfl rfl (op_load (a:=zvx l) (.ptr s 1) rfl rfl (by show(match bx1[s]? with|some bx=>rd prog 30 (bx.2.drop 1)|none=>none)=_;rw[hb1];exact rd_buf l)) (by dsimp only[zad,List.set]) ?_;refine zhp (a:= .raw (.string (bs b))) rfl rfl rfl rfl (by dsimp only[zad,List.set]) ?_;refine w_opRb rfl rfl rfl (app_buf l b g rfl rfl rfl) (by dsimp only[zad,List.set]) ?_;refine zhp (a:= .ptr s 0) rfl rfl rfl rfl (by dsimp only[zad,List.set]) ?_;refine zhp (a:= .ptr s 1) rfl rfl rfl rfl (by dsimp only[zad,List.set]) ?_;refine zis (U'':=zar (bx1.set s (88,zwh s true (l++b))) 5 (l++b).length 1) rfl rfl rfl (zco (n:=1) (v:=zvx (l++b)) (bx:=(88,[.ptr s 0,zvx l])) rfl rfl rfl hb1 rfl ⟨(qie _).1,by rw[(qie _).2];rfl,le_refl 2,Nat.one_pos⟩) (by dsimp only[zad,List.set]) (by rw[(qie _).2];rfl) ?_;refine zj (zb ?_);refine zhp (a:= .raw (.string (bs b))) rfl rfl rfl rfl (by dsimp only[zad,List.set]) ?_;refine zhp (a:= .raw (.int .i64 b.length)) rfl rfl rfl (zbl (zdq rfl rfl rfl)) (by dsimp only[zad,List.set]) ?_;refine zhp (a:= .raw (.int .i64 b.length)) rfl rfl rfl rfl (by dsimp only[zad,List.set]) ?_;refine zhp (a:= .raw .nilIface) rfl rfl rfl rfl (by dsimp only[zad,List.set]) ?_;exact end_id rfl rfl
theorem okT_bld {s:Nat} {u:Bool} {l:List UInt8} (h:s<n):zac n (zwh s u l)=true:=by
 have h1:zbe n (zvx l)=true:=by
  unfold zvx;split
  ·rfl
  ·rw[zbe,zab n _ (Enc.cloL l)]
 have h2:zbe n (bif u then .ptr s 0 else .raw (.pointer none))=true:=by
  cases u with
  |true=>show decide (s<n)=true;exact decide_eq_true h
  |false=>rfl
 unfold zwh;rw[zac,zac,h1,h2,zac];rfl
theorem znm: ∀l:List UInt8,zhm (Enc.cellsL l)=some l
 |[]=>rfl
 | a::l=>by
  show zhm (.raw (.int .u8 ((a.toNat:Nat):Int))::Enc.cellsL l)=_;have h:=a.toNat_lt;have h1:(0:Int)<=((a.toNat:Nat):Int)/\ ((a.toNat:Nat):Int)<256:=by omega
  rw[zhm,if_pos h1,znm l];simp
theorem zxl {bx:List (TypeId×List AV)} {s:Nat} {u:Bool} {l:List UInt8} (hb:bx[s]? =some (88,zwh s u l)):Snd (ITP prog) prog 48 [.ptr s 0] (zar bx 5 l.length 1) (.raw (.string (bs l))) (zar bx 5 l.length 1):=by
 by_cases hl:l.length=0
 ·have hl0:=List.length_eq_zero_iff.1 hl;subst hl0;refine⟨ent48,fun X us hI hr=> ?_⟩;obtain⟨a,l',rfl,⟨b,hκ,rfl⟩,hl'⟩:=hr;have hl':l'=[]:=hl';subst hl';obtain⟨vs,zs,u1,u2,u3⟩:=hI.box s b 88 _ hκ hb;obtain⟨a0,r0,rfl,h0,a1,r1,rfl,hx,h5⟩:=u2;have h5:r1=[]:=h5;subst h5;have hx:a1= .slice none 0 0:=hx;subst hx;refine(qjj b X.w (by simp[World.cell?,u1])).mono ?_;rintro e w' ⟨rfl,rfl⟩;obtain⟨d1,d2⟩:=zjd (ze _) hI;exact⟨_,_,rfl,rfl,d1,d2,rfl⟩
 ·have hb':(zar bx 5 l.length 1).boxes[s]? =some (88,[bif u then .ptr s 0 else .raw (.pointer none),.list l.length (Enc.cellsL l) (.own 0)]):=by
   rw[<-zey hl];exact hb
  exact qgx (s:=s) (k:=0) hb' (znm l) (by simp[zar,hl]) (by rw[Enc.lenL];show l.length*1=_;omega) (by omega) (by simp[zar,hl])
end Go.Ab
namespace Go.Ab
open Go Go.RowKit Go.Fwd Go.Proofs
def z7u (fuel:Nat)(n:Nat)(t:Tr):Option Int:=
 (zda (τ:=Int) (bif (((t.k:Nat):Int)==2) then(some (inl (1))) else(some (inl (0)))) (fun j1=>(zda (τ:=Int) (zbk (β:=Int×Int) (fun s1=>(bif (decide (s1.2<(length t.l:Int))) then(chk (0<=s1.2/\ s1.2<(length t.l:Int)) (zaz (ix t.l s1.2) (fun x1=>(chk (((pre x1).length<n)) (zaz (zzu x1) (fun x2=>(chk (-9223372036854775808<=(s1.1+x2)/\ (s1.1+x2)<9223372036854775808) (chk (-9223372036854775808<=(s1.2+1)/\ (s1.2+1)<9223372036854775808) (some (inl ((s1.1+x2),(s1.2+1)))))))))))) else(some (inr (inl (s1.1)))))) fuel (j1,0)) (fun j2=>(zda (τ:=Int) (bif (((t.k:Nat):Int)==5) then(zda (τ:=Int) (bif (t.mx==(-1)) then(some (inl ((max (max t.mn 0) 1)))) else(some (inl ((max (max t.mn 0) t.mx))))) (fun j4=>(chk (-9223372036854775808<=(j2*(min j4 10001))/\ (j2*(min j4 10001))<9223372036854775808) (some (inl ((j2*(min j4 10001)))))))) else(some (inl (j2)))) (fun j3=>(some (min j3 10001))))))))
theorem ent147:Ent prog 147:=enters_of Tryz.func147 (by kernel_rfl) rfl
theorem posn_sh (fuel:Nat)(n:Nat)(t:Tr)(r:Int)(ih: ∀x:Tr,((pre x).length<n)->Pure (ITP prog) prog 147 [.A x] (.raw (.int .i64 (zzu x))))(h:z7u fuel n t=some r):Pure (ITP prog) prog 147 [.A (t:Tr)] (.raw (.int .i64 r)):=by
 unfold z7u at h;refine zbc 43 mix Tryz.func147 ent147 ?_;refine zj (zb ?_);refine zdl (Enc.cells (t:Tr)) ?_;refine w_o (a:= .i 0) ?_;refine zr [.v (.i 0)] ?_;refine zau h (bz 0 44 17592186044413) (fun j1=>[(3,.i j1)]) (fun j1=>(.B [(27,(Enc.cells (t:Tr)))])) ?_ ?_;intro or1 h hr1;refine zr [.v (.ptr 0 0),.v (.u ((t.k:Nat):Int)),.v (.b (((t.k:Nat):Int)==2))] ?_;refine zbv h (fun hc1 h=> ?_) (fun hc1 h=> ?_);refine zb (k0:=0) (id:=3) ?_;refine w_o (a:= .i 1) ?_;refine zc (o:=or1) (1) h ?_;exact zbh (bl 44 10);refine zc (o:=or1) (0) h ?_;exact zbh (bl 44 10);intro j1 h;refine zdw ?_;refine zau h (bz 0 23 8386600) (fun j2=>[(3,.i j2)]) (fun j2=>(.B [(27,(Enc.cells (t:Tr)))])) ?_ ?_;intro or2 h hr2;refine zr [.v (.ptr 0 7),.v (.L (t.l:List Tr)),.v (.i (length t.l:Int)),.v (.i 0)] ?_;refine zy ?_;refine zdg h (bz 0 23 8374312) (fun s1=>[(3,.i s1.1),(14,.i s1.2)]) (fun s1=>(.B [(27,(Enc.cells (t:Tr)))])) ?_ ?_;exact zbh (bl 44 17592177686495);intro s1 p1 h;refine zdw ?_;refine zr [.v (.b (decide (s1.2<(length t.l:Int))))] ?_;refine zj ?_;refine zbv h (fun hc2 h=> ?_) (fun hc2 h=> ?_);refine zj ?_;refine zy ?_;refine zj (zb ?_);obtain⟨g1,h⟩:=zk h;obtain⟨x1,hx1,h⟩:=zn h;refine qbx hx1 g1 ?_;refine w_o (a:= .A (x1:Tr)) ?_;refine zdl zN ?_;refine zfs 8 (Enc.cells (x1:Tr)) ?_;refine zb (k0:=0) (id:=7) ?_;refine w_r [.m _,.v (.A (x1:Tr))] ?_;obtain⟨g2,h⟩:=zk h;obtain⟨x2,hx2,h⟩:=zn h;refine zbx (args':=[.A (x1:Tr)]) (r:= .i x2) (by rw[<-hx2];exact(ih x1 g2)) ?_;obtain⟨g3,h⟩:=zk h;refine zjg g3 ?_;refine zah ?_;refine zb (k0:=0) (id:=8) ?_;obtain⟨g4,h⟩:=zk h;refine zjg g4 ?_;refine zah ?_;refine zbr (p:=p1) ((s1.1+x2),(s1.2+1)) h ?_;exact zfl (bl 44 17592177686495) 1 (by kernel_rfl) (Nat.le_of_ble_eq_true rfl) (zci (zaj (zab _ _ (Enc.clo _)) rfl)) (by dsimp only[zbq,zdf,foldl,List.set,bz,bzc,Nat.reduceMod,Nat.reduceDiv,Nat.reduceBEq,Nat.reduceAdd];exact(za rfl (za (by decide) (za rfl (za rfl (za rfl (za rfl (za rfl (za rfl (za rfl (za rfl (za rfl (za rfl (za (zca (Enc.cloL _)) (by kernel_rfl))))))))))))))) (by kernel_rfl);refine zae h (fun h=> ?_);refine zc (o:=or2) (s1.1) h ?_;exact zbh (bl 44 17592177657823);intro j2 h;refine zdw ?_;refine zau h (bz 0 42 4398038122698) (fun j3=>[(3,.i j3)]) (fun j3=>(.B [(27,(Enc.cells (t:Tr)))])) ?_ ?_;intro or3 h hr3;refine zr [.v (.ptr 0 0),.v (.u ((t.k:Nat):Int)),.v (.b (((t.k:Nat):Int)==5))] ?_;refine zbv h (fun hc3 h=> ?_) (fun hc3 h=> ?_);refine zr [.v (.ptr 0 5),.v (.i t.mn)] ?_;refine w_o (a:= .i (max t.mn 0)) (h:=zbl (q_max rfl rfl rfl rfl rfl)) ?_;refine zah ?_;refine zr [.m _,.v (.ptr 0 6),.v (.i t.mx)] ?_;refine w_o (a:= .i (max (max t.mn 0) t.mx)) (h:=zbl (q_max rfl rfl rfl rfl rfl)) ?_;refine zah ?_;refine zau h (bz 0 38 274869518530) (fun j4=>[(7,.i j4)]) (fun j4=>(.B [(27,(Enc.cells (t:Tr)))])) ?_ ?_;intro or4 h hr4;refine zr [.v (.ptr 0 6),.v (.i t.mx),.v (.b (t.mx==(-1)))] ?_;refine zbv h (fun hc4 h=> ?_) (fun hc4 h=> ?_);refine zb (k0:=0) (id:=13) ?_;refine zah ?_;refine w_o (a:= .i (max (max t.mn 0) 1)) (h:=zbl (q_max rfl rfl rfl rfl rfl)) ?_;refine zah ?_;refine zc (o:=or4) ((max (max t.mn 0) 1)) h ?_;exact zbh (bl 44 17317316526013);refine zc (o:=or4) ((max (max t.mn 0) t.mx)) h ?_;exact zbh (bl 44 17317316526013);intro j4 h;refine zdw ?_;refine zb (k0:=0) (id:=14) ?_;refine w_r [.m _,.m _] ?_;refine w_o (a:= .i (min j4 10001)) (h:=zbl (qfr rfl rfl rfl rfl rfl)) ?_;obtain⟨g5,h⟩:=zk h;refine w_o (a:= .i (j2*(min j4 10001))) (h:=zbl (q_mul rfl rfl rfl rfl g5.1 g5.2)) ?_;refine zah ?_;refine zc (o:=or3) ((j2*(min j4 10001))) h ?_;exact zbh (bl 44 13194147921725);refine zc (o:=or3) (j2) h ?_;exact zbh (bl 44 13194147921725);intro j3 h;refine zdw ?_;refine zr [.m _] ?_;refine w_o (a:= .i (min j3 10001)) (h:=zbl (qfr rfl rfl rfl rfl rfl)) ?_;refine zah ?_;exact zkq h
def zzo (t:Tr):Option Int:=
 (chk ((pre t).length<2^61) (zaz (zcw t) (fun x1=>(bif (!x1) then(some 10001) else(zda (τ:=Int) (chk ((pre t).length<2^61) (zaz (pre t) (fun x2=>(zda (zcp (β:=Int) (fun s1 w1=>(chk (-9223372036854775808<=(s1+1)/\ (s1+1)<9223372036854775808) (some (inl ((s1+1)))))) x2 (0)) (fun s1=>(some (inl (s1)))))))) (fun j1=>(some j1)))))))
theorem ent100:Ent prog 100:=enters_of Tryz.func100 (by kernel_rfl) rfl
theorem qfx (t:Tr)(r:Int)(h:zzo t=some r):Pure (ITP prog) prog 100 [.A (t:Tr)] (.raw (.int .i64 r)):=by
 unfold zzo at h;refine zbc 12 mix Tryz.func100 ent100 ?_;refine zj (zb ?_);refine zdl (Enc.cells (t:Tr)) ?_;refine w_o (a:= .i 0) ?_;refine zj ?_;refine zr [.v (.A (t:Tr))] ?_;obtain⟨g1,h⟩:=zk h;obtain⟨x1,hx1,h⟩:=zn h;refine zbx (args':=[.A (t:Tr)]) (r:= .b x1) (by rw[<-hx1];exact(zqa t g1)) ?_;refine w_o (a:= .b (!x1)) ?_;refine zbv h (fun hc1 h=> ?_) (fun hc1 h=> ?_);refine zr [.v (.i 10001)] ?_;exact zkq h;refine zj (zb ?_);refine zdl [.i 0] ?_;refine znb 1 (.B [(27,(Enc.cells (t:Tr))),(3,[.i 0])]) ?_;refine zau h (bz 0 13 8183) (fun j1=>[]) (fun j1=>(.B [(27,(Enc.cells (t:Tr))),(3,[.i j1])])) ?_ ?_;intro or1 h hr1;refine zr [.v (.A (t:Tr))] ?_;obtain⟨g2,h⟩:=zk h;obtain⟨x2,hx2,h⟩:=zn h;refine zbx (args':=[.A (t:Tr)]) (r:= .iter (List.map znp x2)) (by rw[<-hx2];exact(zyp t g2)) ?_;refine zy ?_;refine zjc h znp (fun s1=>(.B [(27,(Enc.cells (t:Tr))),(3,[.i s1])])) rfl (fun _=>rfl) rfl rfl ?_ ?_;intro s1 w1 p1 h;refine zbt (by dsimp only[zkc,List.zip,List.zipWith,foldl,List.set,Array.toList,znp]) rfl ?_;refine zy ?_;refine zb (k0:=0) (id:=5) ?_;refine w_o (a:= .i s1) ?_;obtain⟨g3,h⟩:=zk h;refine zjg g3 ?_;refine zfs 1 [.i (s1+1)] ?_;exact zes (p:=p1) ((s1+1)) h (zci (zaj (zab _ _ (Enc.clo _)) (zaj (by kernel_rfl) rfl))) (by kernel_rfl);intro s1 h;refine zc (o:=or1) (s1) h ?_;exact zbh (bl 13 8);intro j1 h;refine zdw ?_;refine zr [.v (.i j1),.m _] ?_;exact zkq h
def zqu (t:Tr):Option Int:=
 (chk ((pre t).length<2^61) (zaz (zcw t) (fun x1=>(bif (!x1) then(some 10001) else(zda (τ:=Int) (chk ((pre t).length<2^61) (zaz (pre t) (fun x2=>(zda (zcp (β:=Int) (fun s1 w1=>(bif (((w1.k:Nat):Int)==6) then(chk (-9223372036854775808<=(s1+1)/\ (s1+1)<9223372036854775808) (some (inl ((s1+1))))) else(some (inl (s1))))) x2 (0)) (fun s1=>(some (inl (s1)))))))) (fun j1=>(some j1)))))))
theorem ent102:Ent prog 102:=enters_of Tryz.func102 (by kernel_rfl) rfl
theorem z6k (t:Tr)(r:Int)(h:zqu t=some r):Pure (ITP prog) prog 102 [.A (t:Tr)] (.raw (.int .i64 r)):=by
 unfold zqu at h;refine zbc 16 mix Tryz.func102 ent102 ?_;refine zj (zb ?_);refine zdl (Enc.cells (t:Tr)) ?_;refine w_o (a:= .i 0) ?_;refine zj ?_;refine zr [.v (.A (t:Tr))] ?_;obtain⟨g1,h⟩:=zk h;obtain⟨x1,hx1,h⟩:=zn h;refine zbx (args':=[.A (t:Tr)]) (r:= .b x1) (by rw[<-hx1];exact(zqa t g1)) ?_;refine w_o (a:= .b (!x1)) ?_;refine zbv h (fun hc1 h=> ?_) (fun hc1 h=> ?_);refine zr [.v (.i 10001)] ?_;exact zkq h;refine zj (zb ?_);refine zdl [.i 0] ?_;refine znb 1 (.B [(27,(Enc.cells (t:Tr))),(3,[.i 0])]) ?_;refine zau h (bz 0 17 131063) (fun j1=>[]) (fun j1=>(.B [(27,(Enc.cells (t:Tr))),(3,[.i j1])])) ?_ ?_;intro or1 h hr1;refine zr [.v (.A (t:Tr))] ?_;obtain⟨g2,h⟩:=zk h;obtain⟨x2,hx2,h⟩:=zn h;refine zbx (args':=[.A (t:Tr)]) (r:= .iter (List.map znp x2)) (by rw[<-hx2];exact(zyp t g2)) ?_;refine zy ?_;refine zjc h znp (fun s1=>(.B [(27,(Enc.cells (t:Tr))),(3,[.i s1])])) rfl (fun _=>rfl) rfl rfl ?_ ?_;intro s1 w1 p1 h;refine zbt (by dsimp only[zkc,List.zip,List.zipWith,foldl,List.set,Array.toList,znp]) rfl ?_;refine zb (k0:=0) (id:=5) ?_;refine zdl zN ?_;refine zfs 8 (Enc.cells (w1:Tr)) ?_;refine zy ?_;refine zr [.v (.ptr 2 0),.v (.u ((w1.k:Nat):Int)),.v (.b (((w1.k:Nat):Int)==6))] ?_;refine zbv h (fun hc2 h=> ?_) (fun hc2 h=> ?_);refine zb (k0:=0) (id:=7) ?_;refine w_o (a:= .i s1) ?_;obtain⟨g3,h⟩:=zk h;refine zjg g3 ?_;refine zfs 1 [.i (s1+1)] ?_;exact zes (p:=p1) ((s1+1)) h (zci (zaj (zab _ _ (Enc.clo _)) (zaj (by kernel_rfl) rfl))) (by kernel_rfl);exact zes (p:=p1) (s1) h (zci (zaj (zab _ _ (Enc.clo _)) (zaj (by kernel_rfl) rfl))) (by kernel_rfl);intro s1 h;refine zc (o:=or1) (s1) h ?_;exact zbh (bl 17 8);intro j1 h;refine zdw ?_;refine zr [.v (.i j1),.m _] ?_;exact zkq h
end Go.Ab
namespace Go.Ab
open Go Go.RowKit Go.Fwd Go.Proofs
theorem zzf {α β ρ:Type} {body:β->α->Option (β ⊕ ρ)} (f:β->α->β)(I:β->Nat->Prop): ∀(xs:List α) (s:β),I s xs.length->(∀s x k,x∈xs->k<xs.length->I s (k+1)->body s x=some (.inl (f s x))/\ I (f s x) k)->zcp body xs s=some (.inl (xs.foldl f s))
 |[],s,_,_=>rfl
 | x::xs,s,h0,h=>by
  obtain⟨h1,h2⟩:=h s x xs.length (by simp) (by simp) h0;rw[zcp,h1];exact zzf f I xs (f s x) h2 fun s y k hy hk=>h s y k (by simp[hy]) (by simp;omega)
theorem z3l {α:Type} (p:α->Bool): ∀(xs:List α) (s:Int),xs.foldl (fun s x=>bif p x then s+1 else s) s=s+(xs.countP p:Int)
 |[],s=>by simp
 | x::xs,s=>by
  rw[List.foldl_cons,z3l p xs,List.countP_cons];cases p x<;>simp<;>omega
theorem k_size (t:Tr)(h:(pre t).length<2^61):Pure (ITP prog) prog 100 [.agg (Enc.cells t)] (.raw (.int .i64 (zrw t))):=by
 refine qfx t _ ?_;unfold zzo zrw;refine zt h (zv fun x1 e1=> ?_);subst e1;cases hl:zcw t with
 |false=>rfl
 | true=>
  refine zig rfl (zbg ((pre t).length:Int) (zt h (zv fun x2 e2=> ?_)) rfl);subst e2;refine zbg ((pre t).length:Int) ?_ rfl;refine Eq.trans (zzf (fun(s:Int) _=>s+1) (fun s k=>0<=s/\ s+k<=(pre t).length) (pre t) 0 (by omega) (fun s x k _ hk hI=>⟨zt (by omega) rfl,by omega⟩)) ?_;have: ∀(xs:List Tr) (s:Int),xs.foldl (fun s _=>s+1) s=s+(xs.length:Int):=fun xs=>by
   induction xs with
   |nil=>intro s;simp
   |cons x xs ih=>intro s;rw[List.foldl_cons,ih,length_cons];omega
  rw[this,Int.zero_add]
theorem qnn (t:Tr)(h:(pre t).length<2^61):Pure (ITP prog) prog 102 [.agg (Enc.cells t)] (.raw (.int .i64 (zmg t))):=by
 refine z6k t _ ?_;unfold zqu zmg;refine zt h (zv fun x1 e1=> ?_);subst e1;cases hl:zcw t with
 |false=>rfl
 | true=>
  refine zig rfl (zbg (((pre t).countP fun x=>decide (x.k=6)):Int) (zt h (zv fun x2 e2=> ?_)) rfl);subst e2;refine zbg (((pre t).countP fun x=>decide (x.k=6)):Int) ?_ rfl;refine Eq.trans (zzf (fun(s:Int) x=>bif decide (x.k=6) then s+1 else s) (fun s k=>0<=s/\ s+k<=(pre t).length) (pre t) 0 (by omega) (fun s x k _ hk hI=> ?_)) ?_
  rotate_left
  ·rw[z3l (fun x:Tr=>decide (x.k=6)),Int.zero_add]
  ·by_cases h6:x.k=6
   ·simp only[h6,decide_true,cond_true];exact⟨zt (by omega) rfl,by omega⟩
   ·rw[show decide (x.k=6)=false by simpa using h6];exact⟨zig (by simp;omega) rfl,by simp only[cond_false];omega⟩
theorem posn_eq {fuel:Nat} (n:Nat)(t:Tr)(h:(pre t).length<=10000)(hn:(pre t).length<n+1)(hf:10001<fuel):z7u fuel n t=some (zzu t):=by
 have hp:(pre t).length=1+(zck t.l).length:=by rw[zgh,length_cons];omega
 have hlen:=zdo t.l;have hpl:=z6m t.l;have hpn:=zkp t.l;unfold z7u;have hpos:zzu t=min (if t.k=5 then((if t.k=2 then 1 else 0)+zod t.l)*min (if t.mx= -1 then max (max t.mn 0) 1 else max (max t.mn 0) t.mx) 10001 else(if t.k=2 then 1 else 0)+zod t.l) 10001:=by
  obtain⟨k,s,mn,mx,l⟩:=t;rw[zzu];rfl
 rw[hpos];refine zbg (if t.k=2 then 1 else 0) ?_ ?_
 ·by_cases h2:t.k=2
  ·rw[if_pos h2];exact zkb (by simp[h2]) rfl
  ·rw[if_neg h2];exact zig (by simp;omega) rfl
 ·generalize hb:(if t.k=2 then(1:Int) else 0)=b
  have hb1:0<=b/\ b<=1:=by rw[<-hb];split<;>omega
  refine zbg (b+zod t.l) ?_ ?_
  ·refine zpy t.l.length (fun i=>(b+zod (t.l.take i),(i:Int))) (by simp[zod]) (fun i hi=> ?_) ?_ (by omega)
   ·refine zkb (by simpa using hi) (zt (by simp only;omega) (zv fun x1 e1=> ?_));simp only at e1;rw[znq hi] at e1;have hm:x1∈t.l:=e1▸List.getElem_mem hi;have hx:=zgj hm;have q1:=z6m (t.l.take i);have q2:=zkp (t.l.take i);have q3:=qet x1;have q4:=zth x1;have q5:(t.l.take i).length<=t.l.length:=List.length_take_le' _ _;refine zt (by omega) (zv fun x2 e2=>zt (by simp only;omega) (zt (by simp only;omega) ?_));rw[qit _ _ hi,e1, <-e2];simp only[Int.add_assoc];rfl
   ·refine zig (by simp) ?_;simp
  ·generalize hj:b+zod t.l=j
   have hj1:0<=j/\ j<=200000000:=by omega
   by_cases h5:t.k=5
   ·rw[if_pos h5];generalize hq:(if t.mx= -1 then max (max t.mn 0) 1 else max (max t.mn 0) t.mx)=q
    have hm:0<=min q 10001/\ min q 10001<=10001:=by
     have:0<=q:=by rw[<-hq];split<;>omega
     omega
    have hmul:0<=j*min q 10001/\ j*min q 10001<=200000000*10001:=⟨Int.mul_nonneg hj1.1 hm.1,Int.mul_le_mul hj1.2 hm.2 hm.1 (by omega)⟩;refine zbg (j*min q 10001) (zkb (by simp[h5]) (zbg q ?_ (zt (by omega) rfl))) rfl;by_cases hx:t.mx= -1
    ·rw[if_pos hx] at hq;exact zkb (by simp[hx]) (by rw[hq])
    ·rw[if_neg hx] at hq;exact zig (by simpa using hx) (by rw[hq])
   ·rw[if_neg h5];exact zbg j (zig (by simp;omega) rfl) rfl
theorem z7o: ∀(n:Nat) (t:Tr),(pre t).length<n->(pre t).length<=10000->Pure (ITP prog) prog 147 [.agg (Enc.cells t)] (.raw (.int .i64 (zzu t)))
 |0,t,h,_=>absurd h (Nat.not_lt_zero _)
 | n+1,t,h,hl=>by
  have hp:(pre t).length=1+(zck t.l).length:=by rw[zgh,length_cons];omega
  exact posn_sh 10002 (min n 10000) t _ (fun x hx=>z7o n x (by omega) (by omega)) (posn_eq (min n 10000) t hl (by omega) (by decide))
theorem k_posn (t:Tr)(h:(pre t).length<=10000):Pure (ITP prog) prog 147 [.agg (Enc.cells t)] (.raw (.int .i64 (zzu t))):=z7o 10001 t (by omega) h
structure Rg where
 b:Bool
 e:Bool
 t:Tr
def qge (r:Rg):List AV:= .raw (.bool r.b):: .raw (.bool r.e)::Enc.cells r.t
instance:Enc Rg where
 inh:=⟨false,false,zax⟩
 cells:=qge
 cellsL l:=l.flatMap qge
 sz:=10
 pos:=by decide
 nil:=rfl
 cons _ _:=rfl
 len r:=by show(Enc.cells r.t).length+2=10;rw[Enc.len];rfl
 clo r:=by show cloL (.raw _:: .raw _::Enc.cells r.t)=true;rw[cloL,cloL,Enc.clo];rfl
end Go.Ab
namespace Go.Ab
open Go Go.RowKit Go.Fwd Go.Proofs
def zhy (t:Tr):Option Int:=
 (chk ((pre t).length<2^61) (zaz (zcw t) (fun x1=>(bif (!x1) then(some 10001) else(chk ((pre t).length<=10000) (zaz (zzu t) (fun x2=>(some x2))))))))
theorem ent101:Ent prog 101:=enters_of Tryz.func101 (by kernel_rfl) rfl
theorem z2w (t:Tr)(r:Int)(h:zhy t=some r):Pure (ITP prog) prog 101 [.A (t:Tr)] (.raw (.int .i64 r)):=by
 unfold zhy at h;refine zbc 7 mix Tryz.func101 ent101 ?_;refine zj (zb ?_);refine zdl (Enc.cells (t:Tr)) ?_;refine w_o (a:= .i 0) ?_;refine zj ?_;refine zr [.v (.A (t:Tr))] ?_;obtain⟨g1,h⟩:=zk h;obtain⟨x1,hx1,h⟩:=zn h;refine zbx (args':=[.A (t:Tr)]) (r:= .b x1) (by rw[<-hx1];exact(zqa t g1)) ?_;refine w_o (a:= .b (!x1)) ?_;refine zbv h (fun hc1 h=> ?_) (fun hc1 h=> ?_);refine zr [.v (.i 10001)] ?_;exact zkq h;refine zr [.v (.A (t:Tr))] ?_;obtain⟨g2,h⟩:=zk h;obtain⟨x2,hx2,h⟩:=zn h;refine zbx (args':=[.A (t:Tr)]) (r:= .i x2) (by rw[<-hx2];exact(k_posn t g2)) ?_;refine zah ?_;exact zkq h
def znn (x:Rg):Option Int:=
 (chk ((pre x.t).length<2^61) (zaz (zdj x.t) (fun x1=>(bif (!x1) then(some 80) else(chk ((pre x.t).length<2^61) (zaz (zrw x.t) (fun x2=>(bif (decide (x2>120)) then(some 81) else(zaa (zhy x.t) (fun x3=>(bif (decide (x3>400)) then(some 82) else(chk ((pre x.t).length<2^61) (zaz (zmg x.t) (fun x4=>(bif (decide (x4>9)) then(some 83) else(some 0))))))))))))))))
theorem ent56:Ent prog 56:=enters_of Tryz.func56 (by kernel_rfl) rfl
theorem z7x (x:Rg)(r:Int)(h:znn x=some r):Pure (ITP prog) prog 56 [.A (x:Rg)] (.raw (.int .i64 r)):=by
 unfold znn at h;refine zbc 22 mix Tryz.func56 ent56 ?_;refine zj (zb ?_);refine zdl (Enc.cells (x:Rg)) ?_;refine w_o (a:= .i 0) ?_;refine zj ?_;refine zy ?_;refine zr [.v (.ptr 0 2),.v (.A (x.t:Tr))] ?_;obtain⟨g1,h⟩:=zk h;obtain⟨x1,hx1,h⟩:=zn h;refine zbx (args':=[.A (x.t:Tr)]) (r:= .b x1) (by rw[<-hx1];exact(zqg x.t g1)) ?_;refine w_r [.v (.b (!x1)),.m _] ?_;refine zbv h (fun hc1 h=> ?_) (fun hc1 h=> ?_);refine zr [.v (.i 80)] ?_;exact zkq h;refine zr [.v (.ptr 0 2),.v (.A (x.t:Tr))] ?_;obtain⟨g2,h⟩:=zk h;obtain⟨x2,hx2,h⟩:=zn h;refine zbx (args':=[.A (x.t:Tr)]) (r:= .i x2) (by rw[<-hx2];exact(k_size x.t g2)) ?_;refine w_r [.v (.b (decide (x2>120))),.m _] ?_;refine zbv h (fun hc2 h=> ?_) (fun hc2 h=> ?_);refine zr [.v (.i 81)] ?_;exact zkq h;refine zr [.v (.ptr 0 2),.v (.A (x.t:Tr))] ?_;obtain⟨x3,hx3,h⟩:=zm h;refine zbx (z2w x.t x3 hx3) ?_;refine w_r [.v (.b (decide (x3>400))),.m _] ?_;refine zbv h (fun hc3 h=> ?_) (fun hc3 h=> ?_);refine zr [.v (.i 82)] ?_;exact zkq h;refine zr [.v (.ptr 0 2),.v (.A (x.t:Tr))] ?_;obtain⟨g3,h⟩:=zk h;obtain⟨x4,hx4,h⟩:=zn h;refine zbx (args':=[.A (x.t:Tr)]) (r:= .i x4) (by rw[<-hx4];exact(qnn x.t g3)) ?_;refine w_r [.v (.b (decide (x4>9))),.m _] ?_;refine zbv h (fun hc4 h=> ?_) (fun hc4 h=> ?_);refine zr [.v (.i 83)] ?_;exact zkq h;refine zr [.v (.i 0)] ?_;exact zkq h
def markP (m:BS)(c:UInt8):Bool:=zfy m ((c.toNat:Nat):Int)==some true
def byT (m:BS)(c:UInt8):List UInt8:=
 if c=10 then[92,110] else if c=13 then[92,114] else if c=9 then[92,116]
 else if c<32||c>126 then hexS c.toNat
 else if c==92||markP m c then[92,c] else[c]
def byOk (m:BS)(c:UInt8):Bool:=
 decide (zas (byT m c) m=some (((c.toNat:Nat):Int),((byT m c).length:Int),0))&& !(zhe (byT m c)).2&&decide (1<=(byT m c).length)&&decide ((byT m c).length<=4)&&(byT m c).all fun x=>decide (32<=x)&&decide (x<=126)
theorem qfg:((List.range 256).all fun n=>byOk zaw (UInt8.ofNat n)&&(byT zaw (UInt8.ofNat n)).head?.all fun x=>x !=45&&x !=93&&x !=94)=true:=by decide+kernel
theorem qhl:((List.range 256).all fun n=>byOk zat (UInt8.ofNat n))=true:=by decide+kernel
theorem zmy (c:UInt8):UInt8.ofNat c.toNat=c:=by simp
theorem z9q (c:UInt8):byOk zaw c=true/\ ∃x l,byT zaw c=x::l/\ x≠45/\ x≠93/\ x≠94:=by
 have ht:=all_eq_true.1 qfg c.toNat (mem_range.2 c.toNat_lt);rw[zmy,Bool.and_eq_true] at ht;refine⟨ht.1,?_⟩;have h1:=ht.1;unfold byOk at h1;simp only[Bool.and_eq_true,decide_eq_true_eq] at h1;cases h:byT zaw c with
 |nil=>rw[h] at h1;simp at h1
 | cons x l=>
  have h2:=ht.2;rw[h] at h2;simp at h2;exact⟨x,l,rfl,h2.1.1,h2.1.2,h2.2⟩
theorem qjq (c:UInt8):byOk zat c=true:=by
 have ht:=all_eq_true.1 qhl c.toNat (mem_range.2 c.toNat_lt);rw[zmy] at ht;exact ht
theorem qoq (x rest:List UInt8):Ag x.length x (x++rest):=⟨le_refl _,by simp,fun i hi=>(List.getElem?_append_left hi).symm⟩
structure ByR (m:BS)(c:UInt8):Prop where
 run: ∀rest,zas (byT m c++rest) m=some (((c.toNat:Nat):Int),((byT m c).length:Int),0)
 short: ∀rest,(zhe (byT m c++rest)).2=false
 lo:1<=(byT m c).length
 hi:(byT m c).length<=4
 ascii: ∀x∈byT m c,32<=x/\ x<=126
theorem qpg (m:BS)(c:UInt8)(h:byOk m c=true):ByR m c:=by
 unfold byOk at h;simp only[Bool.and_eq_true,decide_eq_true_eq,Bool.not_eq_true',all_eq_true] at h;obtain⟨⟨⟨⟨h1,h2⟩,h3⟩,h4⟩,h5⟩:=h;obtain⟨r,hr⟩:=rb_all m (byT m c);have er:r=(((c.toNat:Nat):Int),((byT m c).length:Int),0):=Option.some.inj (hr.run.symm.trans h1);subst er;refine⟨fun rest=>hr.same rfl _ (by simpa using qoq (byT m c) rest),fun rest=> ?_,h3,h4,h5⟩;by_cases hl:(byT m c).length<2
 ·obtain⟨a,t,e,hn⟩:=hr.one rfl (by simp only;omega);rw[e]
  show(zhe (a::(t++rest))).2=false
  rw[qhr hn]
 ·rw[qii ((qoq (byT m c) rest).mono (by omega))];exact h2
theorem zok (c:UInt8):ByR zaw c:=qpg _ _ (z9q c).1
theorem ztb (c:UInt8):ByR zat c:=qpg _ _ (qjq c)
theorem z7c (c:UInt8)(rest:List UInt8):zlz 1100 (byT zaw c++rest)=some (bit c.toNat,((c.toNat:Nat):Int),((byT zaw c).length:Int),0):=by
 have h:=zok c;have hl:=c.toNat_lt;have:=qke (h.short rest) (h.run rest) (by simp) (by simp only;omega);simpa using this
def ixP:CallP:=fun f args=>match f,args with
 |158,[.raw (.string s),.raw (.int .u8 c)]=>if 0<=c/\ c<256 then some (.raw (.int .i64 (Lib.indexByte s.data.toList (zkt c)))) else none
 |_,_=>none
theorem ixP_ok:qdd prog ixP:=by
 intro f args a h;unfold ixP at h;split at h
 ·split at h
  ·rename_i s c hc;cases h;have:=zuf s.data.toList hc;have e:bs s.data.toList=s:=by cases s;simp[bs]
   rw[e] at this;exact this
  ·cases h
 ·cases h
theorem goodI:Good prog ixP noS:=⟨mix,ents,ixP_ok,(fun _ _ _ _ _ h=>nomatch h)⟩
noncomputable def qmf (f:Nat)(args:List AV)(r:AV):Bool:=match zjl prog ixP (evQ true prog ixP noS 300) f args with
 |some x=>z4q x r
 |none=>false
theorem z9n {f:Nat} {args:List AV} {r:AV} (h:qmf f args r=true):Pure (ITP prog) prog f args r:=by
 unfold qmf at h;split at h
 ·rename_i x hx;rw[z5i _ _ h] at hx;exact zfc true goodI 300 hx
 ·cases h
noncomputable def bqI (n:Nat):Bool:=qmf 112 [.raw (.int .u8 (n:Int)),.agg (Enc.cells zaw)] (.raw (.string (bs (byT zaw (UInt8.ofNat n)))))
theorem bqI_0:((List.range 32).all fun n=>bqI (0+n))=true:=by kernel_rfl
theorem bqI_1:((List.range 32).all fun n=>bqI (32+n))=true:=by kernel_rfl
theorem bqI_2:((List.range 32).all fun n=>bqI (64+n))=true:=by kernel_rfl
theorem bqI_3:((List.range 32).all fun n=>bqI (96+n))=true:=by kernel_rfl
theorem bqI_4:((List.range 32).all fun n=>bqI (128+n))=true:=by kernel_rfl
theorem bqI_5:((List.range 32).all fun n=>bqI (160+n))=true:=by kernel_rfl
theorem bqI_6:((List.range 32).all fun n=>bqI (192+n))=true:=by kernel_rfl
theorem bqI_7:((List.range 32).all fun n=>bqI (224+n))=true:=by kernel_rfl
theorem qbI_tab (n:Nat)(h:n<256):bqI n=true:=by
 have g: ∀b:Nat,((List.range 32).all fun n=>bqI (b+n))=true->b<=n->n<b+32->bqI n=true:=fun b hb h1 h2=>by
  have:=all_eq_true.1 hb (n-b) (mem_range.2 (by omega));rwa[show b+(n-b)=n by omega] at this
 by_cases h0:n<32
 ·exact g 0 bqI_0 (by omega) (by omega)
 by_cases h1:n<64
 ·exact g 32 bqI_1 (by omega) (by omega)
 by_cases h2:n<96
 ·exact g 64 bqI_2 (by omega) (by omega)
 by_cases h3:n<128
 ·exact g 96 bqI_3 (by omega) (by omega)
 by_cases h4:n<160
 ·exact g 128 bqI_4 (by omega) (by omega)
 by_cases h5:n<192
 ·exact g 160 bqI_5 (by omega) (by omega)
 by_cases h6:n<224
 ·exact g 192 bqI_6 (by omega) (by omega)
 exact g 224 bqI_7 (by omega) (by omega)
theorem z5g {e:Int} (h:0<=e/\ e<256):Pure (ITP prog) prog 112 [.raw (.int .u8 e),.agg (Enc.cells zaw)] (.raw (.string (bs (byT zaw (zkt e))))):=by
 obtain⟨m,rfl⟩: ∃m:Nat,(m:Int)=e:=⟨e.toNat,by omega⟩;exact z9n (qbI_tab m (by omega))
noncomputable def bqM (n:Nat):Bool:=qmf 112 [.raw (.int .u8 (n:Int)),.agg (Enc.cells zat)] (.raw (.string (bs (byT zat (UInt8.ofNat n)))))
theorem bqM_0:((List.range 32).all fun n=>bqM (0+n))=true:=by kernel_rfl
theorem bqM_1:((List.range 32).all fun n=>bqM (32+n))=true:=by kernel_rfl
theorem bqM_2:((List.range 32).all fun n=>bqM (64+n))=true:=by kernel_rfl
theorem bqM_3:((List.range 32).all fun n=>bqM (96+n))=true:=by kernel_rfl
theorem bqM_4:((List.range 32).all fun n=>bqM (128+n))=true:=by kernel_rfl
theorem bqM_5:((List.range 32).all fun n=>bqM (160+n))=true:=by kernel_rfl
theorem bqM_6:((List.range 32).all fun n=>bqM (192+n))=true:=by kernel_rfl
theorem bqM_7:((List.range 32).all fun n=>bqM (224+n))=true:=by kernel_rfl
theorem qbM_tab (n:Nat)(h:n<256):bqM n=true:=by
 have g: ∀b:Nat,((List.range 32).all fun n=>bqM (b+n))=true->b<=n->n<b+32->bqM n=true:=fun b hb h1 h2=>by
  have:=all_eq_true.1 hb (n-b) (mem_range.2 (by omega));rwa[show b+(n-b)=n by omega] at this
 by_cases h0:n<32
 ·exact g 0 bqM_0 (by omega) (by omega)
 by_cases h1:n<64
 ·exact g 32 bqM_1 (by omega) (by omega)
 by_cases h2:n<96
 ·exact g 64 bqM_2 (by omega) (by omega)
 by_cases h3:n<128
 ·exact g 96 bqM_3 (by omega) (by omega)
 by_cases h4:n<160
 ·exact g 128 bqM_4 (by omega) (by omega)
 by_cases h5:n<192
 ·exact g 160 bqM_5 (by omega) (by omega)
 by_cases h6:n<224
 ·exact g 192 bqM_6 (by omega) (by omega)
 exact g 224 bqM_7 (by omega) (by omega)
theorem z4v {e:Int} (h:0<=e/\ e<256):Pure (ITP prog) prog 112 [.raw (.int .u8 e),.agg (Enc.cells zat)] (.raw (.string (bs (byT zat (zkt e))))):=by
 obtain⟨m,rfl⟩: ∃m:Nat,(m:Int)=e:=⟨e.toNat,by omega⟩;exact z9n (qbM_tab m (by omega))
end Go.Ab
namespace Go.Ab
open Go Go.RowKit Go.Fwd
def sg1 (p:Nat)(U0 U1:St):(Nat->Bool)->St:=fun d=>bif d p then U1 else U0
def sg2 (p q:Nat)(U0 U1 U2 U3:St):(Nat->Bool)->St:=fun d=>bif d p then(bif d q then U3 else U1) else(bif d q then U2 else U0)
def pvO:Option (Nat×AV)->AV
 |some q=>q.2
 |none=> .raw undef
def psO:List (Option (Nat×AV))->List (Nat×AV)
 |some q::l=>q::psO l
 |none::l=>psO l
 |[]=>[]
def gOk (ops:Array Oper)(E:List AV)(o:Oper):Bool:=
 match o.guard with
 |none=>true
 |some (k,b)=>match zdx ops E k with|some (some c)=>c==b|_=>false
section
variable {IT:IterP} {P:Program} {W:Owed} {k0:Nat}
theorem qdr {id:Nat} {ops:Array Oper} {Q:AQ} {S E:List AV} {U:St} (sg:(Nat->Bool)->St)(U1:St)(ps:List (Option (Nat×AV)))(h:zkh IT P ops E sg 0 ops.toList (ps.map pvO))(hk:Q .normal E U1)
 (hE:zbq S (psO ps)=E:=by dsimp only[psO,zbq,List.foldl,List.set]) (hp:zgq ops.toList (ps.map pvO) S=E:=by kernel_rfl) (hb:(qpo ops S.length&&zyg ops)=true:=by kernel_rfl)
 (h0:sg (fun j=>Nat.ble ops.size j)=U:=by kernel_rfl) (h1:sg (fun _=>true)=U1:=by kernel_rfl):awp IT P W k0 (.region id ops true) Q S U:=
 .inr (.inr (.inr (.inl ⟨sg,_,E,hp,hb,h0,h,by rw[h1];exact hk⟩)))
variable {ops:Array Oper} {E:List AV} {sg:(Nat->Bool)->St} {i p q:Nat} {o:Oper} {l:List Oper} {a:AV} {vs:List AV} {U0 U1 U2 U3:St}
theorem fl_gOk (h:gOk ops E o=true):(match o.guard with|none=>True|some (k,b)=>zdx ops E k=some (some b)):=by
 unfold gOk at h;cases hg:o.guard with
 |none=>trivial
 | some p=>
  obtain⟨k,b⟩:=p;rw[hg] at h;simp only at h⊢;split at h
  ·rename_i c hc;simp at h;subst h;exact hc
  ·cases h
theorem f_w (hk:zkh IT P ops E sg (i+1) l vs)(h: ∀d,d i=false->z2a IT P o E (sg d) a (sg (zjy d i)))(hg:gOk ops E o=true:=by exact rfl):zkh IT P ops E sg i (o::l) (a::vs):=
 ⟨.inl ⟨fl_gOk hg,h⟩,hk⟩
theorem f_o (hk:zkh IT P ops E sg (i+1) l vs)(h: ∀U,qop P (zbw E) U o=some a:=by exact fun _=>rfl)(hg:gOk ops E o=true:=by exact rfl)(hs: ∀d,sg (zjy d i)=sg d:=by exact fun _=>rfl):zkh IT P ops E sg i (o::l) (a::vs):=
 f_w hk (fun d _=>by rw[hs];exact .inr (.inl (by unfold aop;rw[h]))) hg
theorem f_l (hk:zkh IT P ops E (sg1 p U0 U1) (i+1) l vs)(h0:qop P (zbw E) U0 o=some a:=by exact rfl)(h1:qop P (zbw E) U1 o=some a:=by exact rfl)(hg:gOk ops E o=true:=by exact rfl)(hs: ∀d,sg1 p U0 U1 (zjy d i)=sg1 p U0 U1 d:=by exact fun _=>rfl):
 zkh IT P ops E (sg1 p U0 U1) i (o::l) (a::vs):=
 f_w hk (fun d _=>by
  rw[hs];unfold sg1;cases d p
  ·exact .inr (.inl (by unfold aop;rw[show(bif false then U1 else U0)=U0 from rfl,h0]))
  ·exact .inr (.inl (by unfold aop;rw[show(bif true then U1 else U0)=U1 from rfl,h1]))) hg
theorem f_s (hk:zkh IT P ops E (sg1 p U0 U1) (i+1) l vs)(h:aop P (zbw E) U0 o=some (.raw undef,U1):=by exact rfl)(hi:i=p:=by exact rfl)(hg:gOk ops E o=true:=by exact rfl):zkh IT P ops E (sg1 p U0 U1) i (o::l) (.raw undef::vs):=by
 subst hi;refine f_w hk (fun d hd=> ?_) hg;unfold sg1;rw[hd,zdk];exact .inr (.inl h)
theorem f_l2 (hk:zkh IT P ops E (sg2 p q U0 U1 U2 U3) (i+1) l vs)(h0:qop P (zbw E) U0 o=some a:=by exact rfl)(h1:qop P (zbw E) U1 o=some a:=by exact rfl)(h2:qop P (zbw E) U2 o=some a:=by exact rfl)(h3:qop P (zbw E) U3 o=some a:=by exact rfl)(hg:gOk ops E o=true:=by exact rfl)(hs: ∀d,sg2 p q U0 U1 U2 U3 (zjy d i)=sg2 p q U0 U1 U2 U3 d:=by exact fun _=>rfl):
 zkh IT P ops E (sg2 p q U0 U1 U2 U3) i (o::l) (a::vs):=
 f_w hk (fun d _=>by
  rw[hs];unfold sg2;cases d p<;>cases d q
  ·exact .inr (.inl (by unfold aop;rw[show(bif false then(bif false then U3 else U1) else(bif false then U2 else U0))=U0 from rfl,h0]))
  ·exact .inr (.inl (by unfold aop;rw[show(bif false then(bif true then U3 else U1) else(bif true then U2 else U0))=U2 from rfl,h2]))
  ·exact .inr (.inl (by unfold aop;rw[show(bif true then(bif false then U3 else U1) else(bif false then U2 else U0))=U1 from rfl,h1]))
  ·exact .inr (.inl (by unfold aop;rw[show(bif true then(bif true then U3 else U1) else(bif true then U2 else U0))=U3 from rfl,h3]))) hg
theorem f_sp (hk:zkh IT P ops E (sg2 p q U0 U1 U2 U3) (i+1) l vs)(h:aop P (zbw E) U0 o=some (.raw undef,U1):=by exact rfl)(h':aop P (zbw E) U2 o=some (.raw undef,U3):=by exact rfl)(hi:i=p:=by exact rfl)(hne:q≠p:=by decide)(hg:gOk ops E o=true:=by exact rfl):zkh IT P ops E (sg2 p q U0 U1 U2 U3) i (o::l) (.raw undef::vs):=by
 subst hi;refine f_w hk (fun d hd=> ?_) hg;unfold sg2;rw[hd,zdk,zba hne];cases d q
 ·exact .inr (.inl h)
 ·exact .inr (.inl h')
theorem f_sq (hk:zkh IT P ops E (sg2 p q U0 U1 U2 U3) (i+1) l vs)(h:aop P (zbw E) U0 o=some (.raw undef,U2):=by exact rfl)(h':aop P (zbw E) U1 o=some (.raw undef,U3):=by exact rfl)(hi:i=q:=by exact rfl)(hne:p≠q:=by decide)(hg:gOk ops E o=true:=by exact rfl):zkh IT P ops E (sg2 p q U0 U1 U2 U3) i (o::l) (.raw undef::vs):=by
 subst hi;refine f_w hk (fun d hd=> ?_) hg;unfold sg2;rw[hd,zdk,zba hne];cases d p
 ·exact .inr (.inl h)
 ·exact .inr (.inl h')
theorem f_e:zkh IT P ops E sg i [] []:=trivial
end
end Go.Ab
namespace Go.Ab
open Go Go.RowKit Go.Fwd Go.Proofs
def zsv (fuel:Nat)(b:(List UInt8)):Option (List UInt8):=
 (zda (τ:=(Bool×List UInt8)) (zbk (β:=Int×(Bool×List UInt8)) (fun s1=>(bif (decide (s1.1<(length b:Int))) then(chk (0<=s1.1/\ s1.1<(length b:Int)) (zaz (ix b s1.1) (fun x1=>(chk (0<=(((x1).toNat:Nat):Int)/\ (((x1).toNat:Nat):Int)<256) (zaz (byT zat (zkt (((x1).toNat:Nat):Int))) (fun x2=>(chk ((length s1.2.2+length x2)*1<=140737488355328) (chk (-9223372036854775808<=(s1.1+1)/\ (s1.1+1)<9223372036854775808) (some (inl ((s1.1+1),(true,(s1.2.2++x2))))))))))))) else(some (inr (inl ((s1.2.1,s1.2.2))))))) fuel (0,(false,([]:List UInt8)))) (fun j1=>(some j1.2)))
theorem ent71:Ent prog 71:=enters_of Tryz.func71 (by kernel_rfl) rfl
theorem qfz (fuel:Nat)(b:(List UInt8))(r:(List UInt8))(h:zsv fuel b=some r):Pure (ITP Tryz.prog) Tryz.prog 71 [.raw (.string (bs b)),.A (zat:BS)] (.raw (.string (bs r))):=by
 unfold zsv at h;refine zbc 18 mix Tryz.func71 ent71 ?_;refine zj (zb ?_);refine zdl (Enc.cells (zat:BS)) ?_;refine w_o (a:= .s ([]:List UInt8)) ?_;refine zj (zb ?_);refine z1v (a:= .ptr 1 0) (U'':=(zar [(24,(Enc.cells (zat:BS))),(88,(zwh 1 false ([]:List UInt8)))] 5 (List.length (([]:List UInt8):List UInt8)) 1)) rfl rfl rfl rfl (by dsimp only[zad,List.set]) rfl ?_;refine zau h (bz 0 20 1048543) (fun j1=>[]) (fun j1=>(zar [(24,(Enc.cells (zat:BS))),(88,(zwh 1 j1.1 j1.2))] 5 (List.length (j1.2:List UInt8)) 1)) ?_ ?_;intro or1 h hr1;refine zr [.m _] ?_;refine w_o (a:= .i (List.length b:Int)) (h:=zbl (zdq rfl rfl rfl)) ?_;refine w_o (a:= .i 0) ?_;refine zy ?_;refine zdg h (bz 0 20 1048278) (fun s1=>[(9,.i s1.1)]) (fun s1=>(zar [(24,(Enc.cells (zat:BS))),(88,(zwh 1 s1.2.1 s1.2.2))] 5 (List.length (s1.2.2:List UInt8)) 1)) ?_ ?_;exact zbh (bl 20 809);intro s1 p1 h;refine zdw ?_;refine zr [.v (.b (decide (s1.1<(List.length b:Int))))] ?_;refine zj ?_;refine zbv h (fun hc1 h=> ?_) (fun hc1 h=> ?_);refine zj ?_;refine zy ?_;refine zr [.m _,.m _] ?_;refine zie (k0:=0) (id:=5) 4 (by kernel_rfl) (by kernel_rfl) ?_;iterate 2 refine zfo ?_
 obtain⟨g1,h⟩:=zk h;obtain⟨x1,hx1,h⟩:=zn h;refine h_o (a:= .u (((x1).toNat:Nat):Int)) (h:=by rw[<-hx1];exact(zdv (l:=b) (n:=s1.1) g1 rfl rfl rfl rfl)) ?_;refine h_o (a:= .A (zat:BS)) ?_;refine zgs ?_;obtain⟨g2,h⟩:=zk h;obtain⟨x2,hx2,h⟩:=zn h;refine zbx (args':=[.u (((x1).toNat:Nat):Int),.A (zat:BS)]) (r:= .s x2) (by rw[<-hx2];exact(z4v g2)) ?_;obtain⟨g3,h⟩:=zk h;refine zfj (r:= .tup [.i (List.length x2:Int),.raw .nilIface]) (U':=(zar [(24,(Enc.cells (zat:BS))),(88,(zwh 1 true (s1.2.2++x2)))] 5 (List.length ((s1.2.2++x2):List UInt8)) 1)) (z1h (u:=s1.2.1) (l:=s1.2.2) (b:=x2) g3 rfl) rfl rfl ⟨rfl,rfl⟩ (by dsimp only[zad,List.set]) ?_;refine zb (k0:=0) (id:=6) ?_;obtain⟨g4,h⟩:=zk h;refine zjg g4 ?_;refine zah ?_;refine zbr (p:=p1) ((s1.1+1),(true,(s1.2.2++x2))) h ?_;exact zbh (bl 20 809);refine zae h (fun h=> ?_);refine zc (o:=or1) ((s1.2.1,s1.2.2)) h ?_;exact zbh (bl 20 32);intro j1 h;refine zdw ?_;refine zj (zb ?_);refine zfj (r:= .s j1.2) (U':=(zar [(24,(Enc.cells (zat:BS))),(88,(zwh 1 j1.1 j1.2))] 5 (List.length (j1.2:List UInt8)) 1)) (zxl (u:=j1.1) (l:=j1.2) rfl) rfl rfl ⟨rfl,rfl⟩ (by dsimp only[zad,List.set]) ?_;refine zah ?_;exact znx h
def zin (fuel:Nat)(s:(List UInt8)):Option (List UInt8):=
 (zaa (zsv fuel s) (fun x1=>(some x1)))
theorem ent31:Ent prog 31:=enters_of Tryz.func31 (by kernel_rfl) rfl
theorem zqo (fuel:Nat)(s:(List UInt8))(r:(List UInt8))(h:zin fuel s=some r):Pure (ITP prog) prog 31 [.raw (.string (bs s))] (.raw (.string (bs r))):=by
 unfold zin at h;refine zbc 5 mix Tryz.func31 ent31 ?_;refine zr [.v (.s ([]:List UInt8))] ?_;refine zr [.m _] ?_;refine zbx (r:= .A (zat:BS)) z0m ?_;obtain⟨x1,hx1,h⟩:=zm h;refine zbx (qfz fuel s x1 hx1) ?_;refine zah ?_;exact znx h
theorem wk_two {n0:Nat} {S S':List AV} {U U':St} (s:Nat) {t:TypeId} {cs:List AV} (hb:U.boxes[s]? =some (t,cs))(k:Wk n0 S {U with boxes:=U.boxes++[(t,[])]++[(t,[])]} S' U'):Wk n0 S U S' U':=by
 refine .step (S1:=S) (U1:={U with boxes:=U.boxes++[(t,[])]}) (.inr (.inr (.inl ⟨s,t,cs,hb,Fg.refl _,rfl⟩))) (.step (S1:=S) (.inr (.inr (.inl ⟨s,t,cs,?_,Fg.refl _,rfl⟩))) k)
 show(U.boxes++[(t,[])])[s]? =_
 rw[List.getElem?_append_left (List.getElem?_eq_some_iff.1 hb).1];exact hb
section
variable {ρ:Operand->AV} {U:St} {o:Oper}
theorem q_lastQ {x i:Operand} {b:Nat} {q:Stk} {k:Int} (g:0<=k/\ k<((zdh q).length:Int))(ho:o.op= .indexAddr 37 x i)(hx:ρ x=zbb b q)(hi:ρ i= .raw (.int .i64 k)):qop prog ρ U o=some (.ptr b (0+k.toNat*1)):=by
 cases q with
 |none=>simp[zdh] at g;omega
 |some q=>exact qls (j:=q.1) (l:=q.2) g ho hx hi
theorem rd_int {P:Program} {t:TypeId} {k:IntKind} {cs:List AV} {n:Nat} (hu:P.underlying t=some (.int k))(hs:zfh P t=some n):rd P t cs=cs.head? :=by
 unfold zfh at hs;cases hi:P.info? t with
 |none=>simp[hi] at hs
 |some i=>simp[rd,hu,hi]
theorem zta {x:Operand} {b:Nat} {q:Stk} {k:Int} (g:0<=k/\ k<((zdh q).length:Int))(ho:o.op= .load 3 x)(hx:ρ x= .ptr b (0+k.toNat*1))(hb:U.boxes[b]? =some (zh q)):qop prog ρ U o=some (.raw (.int .i64 (ix (zdh q) k))):=by
 cases q with
 |none=>simp[zdh] at g;omega
 | some q=>
  obtain⟨j,l⟩:=q;cases l with
  |nil=>simp[zdh] at g;omega
  | cons c l=>
   have h1:=Enc.at (l:=c::l) g;have e:(zh (some (j,c::l))).2=Enc.cellsL (c::l):=rfl;have hs:zfh prog 3=some 1:=by kernel_rfl
   have hu:prog.underlying 3=some (.int .i64):=by kernel_rfl
   simp only[qop,ho,zzk,hx,hb,e];rw[Nat.zero_add,show k.toNat*1=k.toNat*Enc.sz Int from rfl,h1];show rd prog 3 (.raw (.int .i64 (ix (c::l) k))::_)=_;exact rd_int hu hs
end
end Go.Ab
namespace Go.Ab
open Go Go.RowKit Go.Fwd Go.Proofs
def z8w (p:Rd->Option (Tr×Rd))(s:(List UInt8)):Option (Rg×Int×Int):=
 (bif (decide ((length s:Int)>1000)) then(some ((Rg.mk false false zax),0,3)) else(zaz (Lib.trimPrefix s ([94]:List UInt8),Lib.hasPrefix s ([94]:List UInt8)) (fun x1=>(chk (-9223372036854775808<=((length s:Int)-(length x1.1:Int))/\ ((length s:Int)-(length x1.1:Int))<9223372036854775808) (zaa (zly x1.1) (fun x2=>(zda (τ:=(List UInt8)) (bif x2 then(chk (-9223372036854775808<=((length x1.1:Int)-1)/\ ((length x1.1:Int)-1)<9223372036854775808) (chk (0<=0/\ 0<=((length x1.1:Int)-1)/\ ((length x1.1:Int)-1)<=(length x1.1:Int)) (zaz (sub x1.1 0 ((length x1.1:Int)-1)) (fun x3=>(some (inl (x3))))))) else(some (inl (x1.1)))) (fun j1=>(zaa (p (Rd.mk j1 0 0 none)) (fun x4=>(zda (τ:=Rd) (bif (x4.2.e !=0) then(some (inl (x4.2))) else(bif (decide (x4.2.a<(length j1:Int))) then(chk (0<=x4.2.a/\ x4.2.a<(length j1:Int)) (zaz (ix j1 x4.2.a) (fun x5=>(bif ((((x5).toNat:Nat):Int)==41) then(some (inl ((Rd.mk x4.2.s x4.2.a 91 x4.2.q)))) else(some (inl ((Rd.mk x4.2.s x4.2.a 90 x4.2.q)))))))) else(bif (decide ((length (zdh x4.2.q):Int)>0)) then(chk (-9223372036854775808<=((length (zdh x4.2.q):Int)-1)/\ ((length (zdh x4.2.q):Int)-1)<9223372036854775808) (chk (0<=((length (zdh x4.2.q):Int)-1)/\ ((length (zdh x4.2.q):Int)-1)<(length (zdh x4.2.q):Int)) (some (inl ((Rd.mk x4.2.s (ix (zdh x4.2.q) ((length (zdh x4.2.q):Int)-1)) 91 x4.2.q)))))) else(some (inl (x4.2)))))) (fun j2=>(bif (j2.e !=0) then(chk (-9223372036854775808<=(((length s:Int)-(length x1.1:Int))+j2.a)/\ (((length s:Int)-(length x1.1:Int))+j2.a)<9223372036854775808) (some ((Rg.mk false false zax),(((length s:Int)-(length x1.1:Int))+j2.a),j2.e))) else(zaa (znn (Rg.mk x1.2 x2 x4.1)) (fun x6=>(bif (x6 !=0) then(some ((Rg.mk false false zax),(length s:Int),x6)) else(some ((Rg.mk x1.2 x2 x4.1),(length s:Int),0))))))))))))))))))
theorem ent23:Ent prog 23:=enters_of Tryz.func23 (by kernel_rfl) rfl
theorem read_sh (p:Rd->Option (Tr×Rd))(s:(List UInt8))(r:(Rg×Int×Int))(hp: ∀(r:Rd)(y:Tr×Rd),p r=some y->RdC Tryz.prog 59 [] r (.A y.1) y.2)(h:z8w p s=some r):Pure (ITP Tryz.prog) Tryz.prog 23 [.raw (.string (bs s))] (.tup [.A (r.1:Rg),.raw (.int .i64 r.2.1),.raw (.int .i64 r.2.2)]):=by
 unfold z8w at h;refine zbc 130 mix Tryz.func23 ent23 ?_;refine zj (zb ?_);refine zdl [.b false,.b false,.u 0,.raw (.int .u64 0),.raw (.int .u64 0),.raw (.int .u64 0),.raw (.int .u64 0),.i 0,.i 0,.list 0 [] .full] ?_;refine w_r [.v (.i 0),.v (.i 0)] ?_;refine zj ?_;refine zr [.m _] ?_;refine w_o (a:= .i (List.length s:Int)) (h:=zbl (zdq rfl rfl rfl)) ?_;refine w_o (a:= .b (decide ((List.length s:Int)>1000))) ?_;refine zbv h (fun hc1 h=> ?_) (fun hc1 h=> ?_);refine zj (zb ?_);refine w_qs (.A ((Rg.mk false false zax):Rg)) rfl rfl rfl rfl (by simp only[zcz,stripL,Enc.stripL]<;>rfl) (by dsimp only[zad,List.set]) ?_;refine zfs 10 (Enc.cells ((Rg.mk false false zax):Rg)) ?_;refine w_r [.v (.i 0),.v (.i 3)] ?_;exact zbs (fun(r:(Rg×Int×Int))=> .tup [.A (r.1:Rg),.i r.2.1,.i r.2.2]) h (.tup [.A ((Rg.mk false false zax):Rg),.i 0,.i 3]);refine zr [.m _] ?_;obtain⟨x1,hx1,h⟩:=zn h;refine zbx (args':=[.s s,.s ([94]:List UInt8)]) (r:= .tup [.s x1.1,.b x1.2]) (by rw[<-hx1];exact(qez s ([94]:List UInt8))) ?_;refine w_r [.m _,.x _,.x _,.m _,.m _] ?_;refine zr [.m _] ?_;refine w_o (a:= .i (List.length s:Int)) (h:=zbl (zdq rfl rfl rfl)) ?_;refine zah ?_;refine w_o (a:= .i (List.length x1.1:Int)) (h:=zbl (zdq rfl rfl rfl)) ?_;obtain⟨g1,h⟩:=zk h;refine w_sb g1 ?_;refine zah ?_;refine zr [.m _] ?_;obtain⟨x2,hx2,h⟩:=zm h;refine zbx (ends_sh x1.1 x2 hx2) ?_;refine zah ?_;refine zau h (bz 0 131 2722258935367507707706996859454145691194) (fun j1=>[(5,.s j1)]) (fun j1=>(.B [(47,[.b false,.b false,.u 0,.raw (.int .u64 0),.raw (.int .u64 0),.raw (.int .u64 0),.raw (.int .u64 0),.i 0,.i 0,.list 0 [] .full])])) ?_ ?_;intro or1 h hr1;refine zr [.m _] ?_;refine zbv h (fun hc2 h=> ?_) (fun hc2 h=> ?_);refine zb (k0:=0) (id:=7) ?_;refine w_r [.m _,.m _] ?_;refine w_o (a:= .i (List.length x1.1:Int)) (h:=zbl (zdq rfl rfl rfl)) ?_;obtain⟨g2,h⟩:=zk h;refine w_sb g2 ?_;obtain⟨g3,h⟩:=zk h;obtain⟨x3,hx3,h⟩:=zn h;refine w_o (a:= .s x3) (h:=zbl (by rw[<-hx3];exact(z6l (l:=x1.1) g3 rfl rfl rfl rfl))) ?_;refine zah ?_;refine zc (o:=or1) (x3) h ?_;exact zbh (bl 131 485);refine zc (o:=or1) (x1.1) h ?_;exact zbh (bl 131 485);intro j1 h;refine zdw ?_;refine zgt (zb ?_);refine w_r [.m _,.v (.agg [.s j1,.i 0,.i 0,(zbb 0 none)])] ?_;refine zdl [.s j1,.i 0,.i 0,(zbb 0 none)] ?_;refine zah ?_;refine zjo 131 [(0,.s s),(2,.ptr 3 0),(5,.s j1),(6,.b x1.2),(7,.i ((List.length s:Int)-(List.length x1.1:Int))),(8,.b x2),(9,.ptr 0 0)] (U':=(.B [(110,[.s j1,.i 0,.i 0,(zbb 2 none)]),(110,[]),((zh none).1,(zh none).2),(47,[.b false,.b false,.u 0,.raw (.int .u64 0),.raw (.int .u64 0),.raw (.int .u64 0),.raw (.int .u64 0),.i 0,.i 0,.list 0 [] .full])])) (wk_two 1 rfl (wmk (bl 131 997) 0 [] [1,2,3,0] 1 (Nat.le_refl _) (zyb (zg rfl (zf (zo _ _ _ rfl) (zf (zo _ _ _ rfl) (zf (zo _ _ _ rfl) (zf rfl zi)))) (zg rfl zi (zg rfl zi (zg rfl rfl zag)))) rfl))) ?_;have hk0:0<=2:=by decide
 refine zgt (zb ?_);refine w_r [.m _,.m _,.m _] ?_;obtain⟨x4,hx4,h⟩:=zm h;refine zfj (r:= .A (x4.1:Tr)) (U':=(.B [(110,[.s x4.2.s,.i x4.2.a,.i x4.2.e,(zbb 4 x4.2.q)]),(110,[]),((zh none).1,[]),(47,[.b false,.b false,.u 0,.raw (.int .u64 0),.raw (.int .u64 0),.raw (.int .u64 0),.raw (.int .u64 0),.i 0,.i 0,.list 0 [] .full]),((zh x4.2.q).1,(zh x4.2.q).2)])) ((hp (Rd.mk j1 0 0 none) x4 hx4) _ 2 (by decide) rfl rfl) rfl rfl ⟨rfl,rfl⟩ (by dsimp only[zad,List.set]) ?_;refine w_qs (.A ((Rg.mk x1.2 x2 x4.1):Rg)) rfl rfl rfl rfl (show zcz (.A ((Rg.mk x1.2 x2 x4.1):Rg))=_ from congrArg AV.agg (zds _ (Enc.clo ((Rg.mk x1.2 x2 x4.1):Rg)))) (by dsimp only[zad,List.set]) ?_;refine zdl [.b false,.b false,.u 0,.raw (.int .u64 0),.raw (.int .u64 0),.raw (.int .u64 0),.raw (.int .u64 0),.i 0,.i 0,.list 0 [] .full] ?_;refine zfs 10 (Enc.cells ((Rg.mk x1.2 x2 x4.1):Rg)) ?_;refine zjo 131 [(0,.s s),(2,.ptr 3 0),(5,.s j1),(7,.i ((List.length s:Int)-(List.length x1.1:Int))),(9,.ptr 0 0),(10,.ptr 4 0)] (U':=(.B [(110,[.s x4.2.s,.i x4.2.a,.i x4.2.e,(zbb 2 x4.2.q)]),(110,[]),((zh x4.2.q).1,(zh x4.2.q).2),(47,[.b false,.b false,.u 0,.raw (.int .u64 0),.raw (.int .u64 0),.raw (.int .u64 0),.raw (.int .u64 0),.i 0,.i 0,.list 0 [] .full]),(47,(Enc.cells ((Rg.mk x1.2 x2 x4.1):Rg)))])) (wmk (bl 131 1701) 2 [] [4,3,5] 1 hk0 (zao rfl (zmo fun _=>rfl) zi (zg rfl (zp _ _ _) (zg rfl rfl (zg rfl (zal _ _ _ (Enc.clo _)) zag))) rfl)) ?_;refine zau h (bz 0 104 20282409603651670419549204774944) (fun j2=>[]) (fun j2=>(.B [(110,[.s j2.s,.i j2.a,.i j2.e,(zbb 2 j2.q)]),(110,[]),((zh j2.q).1,(zh j2.q).2),(47,[.b false,.b false,.u 0,.raw (.int .u64 0),.raw (.int .u64 0),.raw (.int .u64 0),.raw (.int .u64 0),.i 0,.i 0,.list 0 [] .full]),(47,(Enc.cells ((Rg.mk x1.2 x2 x4.1):Rg)))])) ?_ ?_;intro or2 h hr2;refine zy ?_;refine zr [.m _,.v (.ptr 0 0),.v (.ptr 0 2),.v (.i x4.2.e),.v (.b (x4.2.e !=0))] ?_;refine w_r [.m _] ?_;refine zbv h (fun hc3 h=> ?_) (fun hc3 h=> ?_);refine zc (o:=or2) (x4.2) h ?_;exact zbh (bl 131 2722258915085098104055326439904940916703);refine zr [.m _,.v (.ptr 0 0),.v (.ptr 0 1),.v (.i x4.2.a),.m _] ?_;refine w_o (a:= .i (List.length j1:Int)) (h:=zbl (zdq rfl rfl rfl)) ?_;refine w_o (a:= .b (decide (x4.2.a<(List.length j1:Int)))) ?_;refine zan h (fun hc4 h=> ?_) (fun hc4 h=> ?_);refine zav hc4 ?_;refine w_r [.m _,.m _,.v (.ptr 0 0),.v (.ptr 0 1),.v (.i x4.2.a)] ?_;refine zbj rfl rfl ?_;obtain⟨g4,h⟩:=zk h;obtain⟨x5,hx5,h⟩:=zn h;refine w_o (a:= .u (((x5).toNat:Nat):Int)) (h:=zbl (by rw[<-hx5];exact(zdv (l:=j1) (n:=x4.2.a) g4 rfl rfl rfl rfl))) ?_;refine w_r [.v (.b ((((x5).toNat:Nat):Int)==41)),.v (.b ((((x5).toNat:Nat):Int)==41)),.m _] ?_;refine zbv h (fun hc5 h=> ?_) (fun hc5 h=> ?_);refine zb (k0:=0) (id:=12) ?_;refine w_r [.m _,.v (.ptr 0 0),.v (.ptr 0 2)] ?_;refine zoc (U'':=(.B [(110,[.s x4.2.s,.i x4.2.a,.i 91,(zbb 2 x4.2.q)]),(110,[]),((zh x4.2.q).1,(zh x4.2.q).2),(47,[.b false,.b false,.u 0,.raw (.int .u64 0),.raw (.int .u64 0),.raw (.int .u64 0),.raw (.int .u64 0),.i 0,.i 0,.list 0 [] .full]),(47,(Enc.cells ((Rg.mk x1.2 x2 x4.1):Rg)))])) (h:=zco (n:=1) rfl rfl rfl rfl rfl ⟨rfl,rfl,Nat.le_of_ble_eq_true rfl,by decide⟩) ?_;refine zc (o:=or2) ((Rd.mk x4.2.s x4.2.a 91 x4.2.q)) h ?_;exact zbh (bl 131 2722258915085098104055326439904940916703);refine zr [.m _,.v (.ptr 0 0),.v (.ptr 0 1),.v (.i x4.2.a),.m _] ?_;refine w_o (a:= .i (List.length j1:Int)) (h:=zbl (zdq rfl rfl rfl)) ?_;refine w_r [.v (.b (decide (x4.2.a<(List.length j1:Int)))),.m _] ?_;refine zum hc4 rfl ?_;refine zb (k0:=0) (id:=14) ?_;refine w_r [.m _,.v (.ptr 0 0),.v (.ptr 0 2)] ?_;refine zoc (U'':=(.B [(110,[.s x4.2.s,.i x4.2.a,.i 90,(zbb 2 x4.2.q)]),(110,[]),((zh x4.2.q).1,(zh x4.2.q).2),(47,[.b false,.b false,.u 0,.raw (.int .u64 0),.raw (.int .u64 0),.raw (.int .u64 0),.raw (.int .u64 0),.i 0,.i 0,.list 0 [] .full]),(47,(Enc.cells ((Rg.mk x1.2 x2 x4.1):Rg)))])) (h:=zco (n:=1) rfl rfl rfl rfl rfl ⟨rfl,rfl,Nat.le_of_ble_eq_true rfl,by decide⟩) ?_;refine zc (o:=or2) ((Rd.mk x4.2.s x4.2.a 90 x4.2.q)) h ?_;exact zbh (bl 131 2722258915085098104055326439904940916703);refine zav hc4 ?_;refine w_r [.p,.p,.p,.p,.p] ?_;refine w_r [.p,.p,.v (.b false),.m _] ?_;refine zce rfl ?_;refine zr [.m _,.v (.ptr 0 0),.v (.ptr 0 1),.v (.i x4.2.a),.m _] ?_;refine w_o (a:= .i (List.length j1:Int)) (h:=zbl (zdq rfl rfl rfl)) ?_;refine w_r [.v (.b (decide (x4.2.a<(List.length j1:Int)))),.m _] ?_;refine zvc hc4 rfl ?_;refine zr [.m _,.v (.ptr 0 0),.v (.ptr 0 3),.v (zbb 2 x4.2.q)] ?_;refine w_o (a:= .i (List.length (zdh x4.2.q):Int)) (h:=zbl (zgz (b:=2) (q:=x4.2.q) rfl rfl)) ?_;refine w_r [.v (.b (decide ((List.length (zdh x4.2.q):Int)>0))),.m _] ?_;refine zbv h (fun hc6 h=> ?_) (fun hc6 h=> ?_);obtain⟨g5,h⟩:=zk h;obtain⟨g6,h⟩:=zk h;refine qdr (id:=16) (sg2 16 19 (.B [(110,[.s x4.2.s,.i x4.2.a,.i x4.2.e,(zbb 2 x4.2.q)]),(110,[]),((zh x4.2.q).1,(zh x4.2.q).2),(47,[.b false,.b false,.u 0,.raw (.int .u64 0),.raw (.int .u64 0),.raw (.int .u64 0),.raw (.int .u64 0),.i 0,.i 0,.list 0 [] .full]),(47,(Enc.cells ((Rg.mk x1.2 x2 x4.1):Rg)))]) (.B [(110,[.s x4.2.s,.i (ix (zdh x4.2.q) ((List.length (zdh x4.2.q):Int)-1)),.i x4.2.e,(zbb 2 x4.2.q)]),(110,[]),((zh x4.2.q).1,(zh x4.2.q).2),(47,[.b false,.b false,.u 0,.raw (.int .u64 0),.raw (.int .u64 0),.raw (.int .u64 0),.raw (.int .u64 0),.i 0,.i 0,.list 0 [] .full]),(47,(Enc.cells ((Rg.mk x1.2 x2 x4.1):Rg)))]) (.B [(110,[.s x4.2.s,.i x4.2.a,.i 91,(zbb 2 x4.2.q)]),(110,[]),((zh x4.2.q).1,(zh x4.2.q).2),(47,[.b false,.b false,.u 0,.raw (.int .u64 0),.raw (.int .u64 0),.raw (.int .u64 0),.raw (.int .u64 0),.i 0,.i 0,.list 0 [] .full]),(47,(Enc.cells ((Rg.mk x1.2 x2 x4.1):Rg)))]) (.B [(110,[.s x4.2.s,.i (ix (zdh x4.2.q) ((List.length (zdh x4.2.q):Int)-1)),.i 91,(zbb 2 x4.2.q)]),(110,[]),((zh x4.2.q).1,(zh x4.2.q).2),(47,[.b false,.b false,.u 0,.raw (.int .u64 0),.raw (.int .u64 0),.raw (.int .u64 0),.raw (.int .u64 0),.i 0,.i 0,.list 0 [] .full]),(47,(Enc.cells ((Rg.mk x1.2 x2 x4.1):Rg)))])) (.B [(110,[.s x4.2.s,.i (ix (zdh x4.2.q) ((List.length (zdh x4.2.q):Int)-1)),.i 91,(zbb 2 x4.2.q)]),(110,[]),((zh x4.2.q).1,(zh x4.2.q).2),(47,[.b false,.b false,.u 0,.raw (.int .u64 0),.raw (.int .u64 0),.raw (.int .u64 0),.raw (.int .u64 0),.i 0,.i 0,.list 0 [] .full]),(47,(Enc.cells ((Rg.mk x1.2 x2 x4.1):Rg)))]) [some (86,.ptr 0 0),some (87,.ptr 0 0),some (88,.ptr 0 0),some (89,.ptr 0 0),some (90,.ptr 0 3),some (91,(zbb 2 x4.2.q)),some (92,.ptr 0 0),some (93,.ptr 0 0),some (94,.ptr 0 3),some (95,(zbb 2 x4.2.q)),some (96,.i (List.length (zdh x4.2.q):Int)),some (97,.i ((List.length (zdh x4.2.q):Int)-1)),some (98,.ptr 2 (0+Int.toNat ((List.length (zdh x4.2.q):Int)-1)*1)),some (99,.i (ix (zdh x4.2.q) ((List.length (zdh x4.2.q):Int)-1))),some (100,.ptr 0 0),some (101,.ptr 0 1),none,some (102,.ptr 0 0),some (103,.ptr 0 2),none] ?_ ?_;iterate 5 refine f_o ?_
 refine f_l2 ?_;iterate 3 refine f_o ?_
 refine f_l2 ?_;refine f_o ?_ (h:=fun _=>(zgz (b:=2) (q:=x4.2.q) rfl rfl));refine f_o ?_ (h:=fun _=>(zsa rfl rfl rfl rfl g5.1 g5.2));refine f_o ?_ (h:=fun _=>(q_lastQ (b:=2) (q:=x4.2.q) g6 rfl rfl rfl));refine f_l2 ?_ (h0:=(zta (b:=2) (q:=x4.2.q) g6 rfl rfl rfl)) (h1:=(zta (b:=2) (q:=x4.2.q) g6 rfl rfl rfl)) (h2:=(zta (b:=2) (q:=x4.2.q) g6 rfl rfl rfl)) (h3:=(zta (b:=2) (q:=x4.2.q) g6 rfl rfl rfl));iterate 2 refine f_o ?_
 refine f_sp ?_ (h:=by kernel_rfl) (h':=by kernel_rfl);iterate 2 refine f_o ?_
 refine f_sq ?_ (h:=by kernel_rfl) (h':=by kernel_rfl);exact f_e;refine zc (o:=or2) ((Rd.mk x4.2.s (ix (zdh x4.2.q) ((List.length (zdh x4.2.q):Int)-1)) 91 x4.2.q)) h ?_;exact zbh (bl 131 2722258915085098104055326439904940916703);refine zc (o:=or2) (x4.2) h ?_;exact zbh (bl 131 2722258915085098104055326439904940916703);intro j2 h;refine zdw ?_;refine zj ?_;refine zr [.m _,.v (.ptr 0 0),.v (.ptr 0 2),.v (.i j2.e),.v (.b (j2.e !=0))] ?_;refine zbv h (fun hc7 h=> ?_) (fun hc7 h=> ?_);obtain⟨g7,h⟩:=zk h;refine zj ?_;refine qdr (id:=18) (sg1 11 (.B [(110,[.s j2.s,.i j2.a,.i j2.e,(zbb 2 j2.q)]),(110,[]),((zh j2.q).1,(zh j2.q).2),(47,[.b false,.b false,.u 0,.raw (.int .u64 0),.raw (.int .u64 0),.raw (.int .u64 0),.raw (.int .u64 0),.i 0,.i 0,.list 0 [] .full]),(47,(Enc.cells ((Rg.mk x1.2 x2 x4.1):Rg)))]) (.B [(110,[.s j2.s,.i j2.a,.i j2.e,(zbb 2 j2.q)]),(110,[]),((zh j2.q).1,(zh j2.q).2),(47,[.b false,.b false,.u 0,.raw (.int .u64 0),.raw (.int .u64 0),.raw (.int .u64 0),.raw (.int .u64 0),.i 0,.i 0,.list 0 [] .full]),(47,(Enc.cells ((Rg.mk x1.2 x2 x4.1):Rg)))])) (.B [(110,[.s j2.s,.i j2.a,.i j2.e,(zbb 2 j2.q)]),(110,[]),((zh j2.q).1,(zh j2.q).2),(47,[.b false,.b false,.u 0,.raw (.int .u64 0),.raw (.int .u64 0),.raw (.int .u64 0),.raw (.int .u64 0),.i 0,.i 0,.list 0 [] .full]),(47,(Enc.cells ((Rg.mk x1.2 x2 x4.1):Rg)))]) [some (109,.agg [.b false,.b false,.u 0,.raw (.int .u64 0),.raw (.int .u64 0),.raw (.int .u64 0),.raw (.int .u64 0),.i 0,.i 0,.list 0 [] .full]),some (110,.i ((List.length s:Int)-(List.length x1.1:Int))),some (111,.ptr 0 0),some (112,.ptr 0 0),some (113,.ptr 0 1),some (114,.i j2.a),some (115,.i (((List.length s:Int)-(List.length x1.1:Int))+j2.a)),some (116,.ptr 0 0),some (117,.ptr 0 0),some (118,.ptr 0 2),some (119,.i j2.e),none,some (3,.i (((List.length s:Int)-(List.length x1.1:Int))+j2.a)),some (4,.i j2.e)] ?_ ?_;iterate 5 refine f_o ?_
 refine f_l ?_;refine f_o ?_ (h:=fun _=>(qcd rfl rfl rfl rfl g7.1 g7.2));iterate 3 refine f_o ?_
 refine f_l ?_;refine f_s ?_ (h:=by kernel_rfl);iterate 2 refine f_o ?_
 exact f_e;exact zez (fun(r:(Rg×Int×Int))=>(.tup [.agg (Enc.cells (r.1:Rg)),.raw (.int .i64 r.2.1),.raw (.int .i64 r.2.2)]:AV)) h (a:= .tup [.agg [.raw (.bool false),.raw (.bool false),.raw (.int .u8 0),.raw (.int .u64 0),.raw (.int .u64 0),.raw (.int .u64 0),.raw (.int .u64 0),.raw (.int .i64 0),.raw (.int .i64 0),.list 0 [] .full],.raw (.int .i64 (((List.length s:Int)-(List.length x1.1:Int))+j2.a)),.raw (.int .i64 j2.e)]) rfl (show zac _ _=true from(za (by kernel_rfl) (za rfl (za rfl rfl)))) (show AV.tup (stripL _)=_ from congrArg AV.tup (zu (by kernel_rfl) (zu rfl (zu rfl rfl))));refine zj ?_;refine zr [.v (.A ((Rg.mk x1.2 x2 x4.1):Rg))] ?_;obtain⟨x6,hx6,h⟩:=zm h;refine zbx (z7x (Rg.mk x1.2 x2 x4.1) x6 hx6) ?_;refine zah ?_;refine zr [.m _,.v (.b (x6 !=0))] ?_;refine zbv h (fun hc8 h=> ?_) (fun hc8 h=> ?_);refine zj (zb ?_);refine w_qs (.A ((Rg.mk false false zax):Rg)) rfl rfl rfl rfl (by simp only[zcz,stripL,Enc.stripL]<;>rfl) (by dsimp only[zad,List.set]) ?_;refine zah ?_;refine w_o (a:= .i (List.length s:Int)) (h:=zbl (zdq rfl rfl rfl)) ?_;refine zah ?_;refine zfs 10 (Enc.cells ((Rg.mk false false zax):Rg)) ?_;refine w_r [.m _,.m _] ?_;exact zbs (fun(r:(Rg×Int×Int))=> .tup [.A (r.1:Rg),.i r.2.1,.i r.2.2]) h (.tup [.A ((Rg.mk false false zax):Rg),.i (List.length s:Int),.i x6]);refine zr [.v (.A ((Rg.mk x1.2 x2 x4.1):Rg)),.m _] ?_;refine w_o (a:= .i (List.length s:Int)) (h:=zbl (zdq rfl rfl rfl)) ?_;refine zfs 10 (Enc.cells ((Rg.mk x1.2 x2 x4.1):Rg)) ?_;refine w_r [.m _,.v (.i 0)] ?_;exact zbs (fun(r:(Rg×Int×Int))=> .tup [.A (r.1:Rg),.i r.2.1,.i r.2.2]) h (.tup [.A ((Rg.mk x1.2 x2 x4.1):Rg),.i (List.length s:Int),.i 0])
end Go.Ab
