/-
  The law DeriveWrong of the given program returns true, whatever the input, and what came in reads as it did. No condition.
-/
import Derived.Test.YtfkkellnlmjenaaGreatZeLi
import Derived.ProofKit
import Derived.Laws.IdiomArrays
import Derived.Deep.Slices
import Derived.Deep.Fields
import Derived.ChangeSame
import Derived.HandedShaped
import Derived.Shelf.Vars
set_option linter.unusedSimpArgs false
set_option linter.unusedVariables false
set_option maxRecDepth 100000
namespace Go.Ab
open Go Go.RowKit Go.Fwd Go.Proofs
theorem made_gd (l:List Sm):Gd (zuw l):=by obtain⟨h1,h2,_,h4⟩:=made_ok l;exact⟨h1,by omega,h2⟩
end Go.Ab
set_option maxRecDepth 100000
namespace Go.Ab
open Go Go.RowKit Go.Fwd Go.Proofs
def wideT:Tr:=ctT (List.replicate 121 dA)
def deepT:Tr:=rpT (rpT (rpT dA 16 16) 16 16) 2 2
def badL (t:Tr):List Tr:=[.mk 7 0#256 0 0 [],.mk 2 0#256 0 0 [],ctT [t],ctT [noneT,t],wideT,deepT]
theorem notNone {t:Tr} (h:t.k≠0):isNone t=false:=by
 cases e:isNone t with
 |false=>rfl
 |true=>exact absurd (congrArg Tr.k ((zly t).1 e)) h
theorem qew {b y:Tr} (hy:y∈pre b)(h:zds y=false):zcd b=false:=by
 cases e:zcd b with
 |false=>rfl
 | true=>
  rw[zcd,Bool.and_eq_true,List.all_eq_true] at e
  rw[e.2 y hy] at h;cases h
theorem zus {b:Tr} (hs:(pre b).length<2^61)(h0:b.k≠0)(h:zcd b=false):zgf b=some false:=by
 unfold zgf
 refine zq hs (zai fun x1 e1=> ?_)
 rw[notNone h0] at e1;subst e1
 refine zay rfl (zq hs (zai fun x2 e2=> ?_))
 rw[h] at e2;subst e2
 exact zay rfl rfl
theorem z9c (t:Tr):t∈pre t:=by rw[zcw];exact List.mem_cons_self
theorem zuq (t:Tr):zcd (ctT [t])=false:=qew (z9c _) (by rw[ctT,zdt];simp)
theorem z6j (t:Tr):zcd (ctT [noneT,t])=false:=qew (y:=noneT) (by rw[zcw];exact List.mem_cons_of_mem _ (by show noneT∈zap [noneT,t];rw[zap];exact List.mem_append_left _ (z9c _))) (by kernel_rfl)
theorem qhi (t:Tr):(pre (ctT [t])).length=1+(pre t).length:=by rw[ctT,zcw,List.length_cons];simp only[Tr.l,zap,List.append_nil];omega
theorem pre_gp1 (t:Tr):(pre (gpT t)).length=1+(pre t).length:=by rw[gpT,zcw,List.length_cons];simp only[Tr.l,zap,List.append_nil];omega
theorem pre_ct2 (t:Tr):(pre (ctT [noneT,t])).length=2+(pre t).length:=by
 rw[ctT,zcw,List.length_cons]
 simp only[Tr.l,zap,List.append_nil,List.length_append]
 rw[show(pre noneT).length=1 from by kernel_rfl];omega
theorem k7_fit:zgf (.mk 7 0#256 0 0 [])=some false:=by kernel_rfl
theorem k2_fit:zgf (.mk 2 0#256 0 0 [])=some false:=by kernel_rfl
theorem tmod6 (n:Nat):Int.tmod (n:Int) 6=((n%6:Nat):Int):=rfl
theorem qmx:zgf wideT=some false:=by kernel_rfl
theorem qke:zgf deepT=some false:=by kernel_rfl
theorem loopE_l {β ρ:Type} {body:β→Option (β ⊕ ρ)} {n:Nat} {s s':β} (h:body s=some (.inl s')):zbv body (n+1) s=zbv body n s':=by rw[zbv,h]
theorem loopE_r {β ρ:Type} {body:β→Option (β ⊕ ρ)} {n:Nat} {s:β} {y:ρ} (h:body s=some (.inr y)):zbv body (n+1) s=some y:=by rw[zbv,h]
theorem bad_fit {t:Tr} (hs:(pre t).length≤60): ∀b∈badL t,zgf b=some false:=by
 intro b hb
 have h1:=qhi t
 have h2:=pre_ct2 t
 simp only[badL,List.mem_cons,List.not_mem_nil,or_false] at hb
 rcases hb with rfl|rfl|rfl|rfl|rfl|rfl
 ·exact k7_fit
 ·exact k2_fit
 ·exact zus (by omega) (by show(3:Nat)≠0;decide) (zuq t)
 ·exact zus (by omega) (by show(3:Nat)≠0;decide) (z6j t)
 ·exact qmx
 ·exact qke
def NoT (y:Tr):Prop:=(pre y).length<2^61∧y.k≠0∧(zcd y=false∨zuo y>0)
theorem z5s {fuel:Nat} {y:Tr} {c:Int} (h:NoT y):zml (fuel+2) [dA,y] c=some ([],120):=by
 obtain⟨h1,h2,h3⟩:=h
 unfold zml
 have hN:=notNone h2
 refine z7y ([],120) ((loopE_l (s':=(1:Int)) (by kernel_rfl)).trans (loopE_r ?_)) rfl
 refine zbe (by simp) (z7y (.inr (.inr ([],120))) ?_ rfl)
 have hx:ix [dA,y] (1:Int)=y:=rfl
 refine zq (by simp) (zai fun x1 e=> ?_)
 rw[hx] at e;subst e
 refine zq h1 (zai fun x2 e2=> ?_)
 rw[hN] at e2;subst e2
 refine zbe rfl (zq h1 (zai fun x3 e3=> ?_))
 rcases h3 with h3|h3
 ·rw[h3] at e3;subst e3
  exact zbe rfl rfl
 ·cases x3 with
  |false=>exact zbe rfl rfl
  | true=>
   refine zay rfl (zq h1 (zai fun x4 e4=> ?_))
   subst e4
   exact zbe (by simpa using h3) rfl
theorem qmj {t:Tr} (hs:(pre t).length≤60): ∀y∈[gpT t,ctT [t],.mk 7 0#256 0 0 []],NoT y:=by
 intro y hy
 have h1:=qhi t
 have h2:=pre_gp1 t
 simp only[List.mem_cons,List.not_mem_nil,or_false] at hy
 rcases hy with rfl|rfl|rfl
 ·refine⟨by omega,by show(6:Nat)≠0;decide,.inr ?_⟩
  rw[zuo,if_pos (zoi (by omega)),zcw,List.countP_cons]
  have:(if decide ((gpT t).k=6)=true then 1 else 0)=1:=rfl
  rw[this];omega
 ·exact⟨by omega,by show(3:Nat)≠0;decide,.inl (zuq t)⟩
 ·exact⟨by decide,by decide,.inl (by kernel_rfl)⟩
theorem z5e {b:Tr} (h:zgf b=some false):zlz b=some (noneT,120):=by unfold zlz;exact zaw _ h (zbe rfl rfl)
theorem qaw {b:Tr} (h:zgf b=some false):zil b=some (false,120):=by unfold zil;exact zaw _ h (zbe rfl rfl)
theorem qml {b:Tr} (h:zgf b=some false)(c:Int):zvv b c=some ([],120):=by unfold zvv;exact zaw _ h (zbe rfl rfl)
theorem qba {b:Tr} {f:Nat} (h:zgf b=some false):zpo f b=some ([],120):=by unfold zpo;exact zaw _ h (zbe rfl rfl)
theorem zwv {b:Tr} {f:Nat} {s:List UInt8} (h:zgf b=some false):zkq f b s=some ([],120):=by unfold zkq;exact zaw _ h (zbe rfl rfl)
theorem z6o {b:Tr} {f:Nat} {s:List UInt8} (h:zgf b=some false):zer f b s=some (false,120):=by unfold zer;exact zaw _ (zwv h) (zay rfl rfl)
theorem z5j {b:Tr} {n:Int} (h:zgf b=some false):zjd b n=some ([],120):=by unfold zjd;exact zaw _ h (zbe rfl rfl)
theorem z1j {b:Tr} {f:Nat} {s:List UInt8} (h:zgf b=some true)(hs:(s.length:Int)>4096):zkq f b s=some ([],3):=by unfold zkq;exact zaw _ h (zay rfl (zbe (by simpa using hs) rfl))
theorem qbd {b:Tr} {f:Nat} {s:List UInt8} (h:zgf b=some true)(hs:(s.length:Int)>4096):zer f b s=some (false,3):=by unfold zer;exact zaw _ (z1j h hs) (zay rfl rfl)
theorem qid {b:Tr} {n:Int} (h:zgf b=some true)(hn:n<0):zjd b n=some ([],2):=by unfold zjd;exact zaw _ h (zay rfl (zbe (by simpa using hn) rfl))
theorem qek:(((List.replicate (Int.toNat (4097:Int)) (0:UInt8)).length:Nat):Int)>4096:=by rw[List.length_replicate];decide
theorem ix_badL (l:List Tr)(n:Nat)(hl:l.length=6):ix l (Int.tmod (n:Int) 6)∈l:=by
 have e:=tmod6 n
 have hm:n%6<l.length:=by rw[hl];omega
 rw[e,zlu hm];exact List.getElem_mem _
theorem wrong3 {t:Tr} {c:Int} (hs:(pre t).length≤60): ∀i:Nat,i<3→ ∃y,ix [gpT t,ctT [t],.mk 7 0#256 0 0 []] (i:Int)=y∧zml 5001 [dA,y] c=some ([],120):=fun i hi=>by
 refine⟨_,rfl,z5s (fuel:=4999) (qmj hs _ ?_)⟩
 rw[zlu (by simpa using hi)];exact List.getElem_mem _
theorem qey (x:List Sm)(way:Nat)(c n:Int)(hl:x.length<2^63)(hu: ∀y∈x,y.2.1<256):zrw 5001 x (way:Int) c n=some true:=by
 obtain⟨t,ht⟩: ∃t,zuw x=t:=⟨_,rfl⟩
 have hg:Gd t:=ht▸made_gd x
 have hf:=qnc hg
 unfold zrw
 refine zq ⟨hl,hu⟩ (zai fun x1 e1=> ?_)
 rw[ht] at e1;subst e1
 refine zcb wideT (by kernel_rfl) (zaw (ctT [t]) rfl (zaw (ctT [noneT,t]) rfl (zaw (rpT dA 16 16) rfl (zaw (rpT (rpT dA 16 16) 16 16) rfl (zaw deepT rfl (zq ?_ (zai fun x7 e7=> ?_)))))))
 ·rw[tmod6];simp only[List.length_cons,List.length_nil];omega
 have e7:ix (badL t) (Int.tmod (way:Int) 6)=x7:=e7
 have hb:zgf x7=some false:=e7▸bad_fit hg.2.1 _ (ix_badL (badL t) way rfl)
 clear e7
 refine zaw _ (z5e hb) (zaw _ (qaw hb) (zaw _ (qml hb c) (zaw _ (qba hb) (zq (by decide) (zaw _ (zwv hb) (zaw _ (z6o hb) (zaw _ (z5j hb) ?_)))))))
 refine zcb () (by kernel_rfl) (zaw _ hb (zay rfl (zaw _ hf (zay rfl (zq (of_decide_eq_true (by kernel_rfl)) (zai fun x18 e18=> ?_))))))
 have e18:true=x18:=e18▸(show true=zrq noneT noneT from by kernel_rfl)
 subst e18
 refine zay rfl (zay rfl (zay rfl (zq (by simp) (zq (by simp) (zq (by simp) (zay rfl ?_))))))
 refine zcb () (zaw (ctT [t]) rfl (zew 3 (fun i=>(i:Int)) rfl (fun i hi=> ?_) (zay (by simp) rfl) (by decide))) ?_
 ·obtain⟨y,hy,e⟩:=wrong3 (c:=c) hg.2.1 i hi
  refine zbe (by simp only[List.length_cons,List.length_nil];exact decide_eq_true (by omega)) (zq (by simp only[List.length_cons,List.length_nil];omega) (zai fun x20 e20=> ?_))
  have e20:y=x20:=hy▸e20
  subst e20
  exact zaw _ e (zay rfl (zay rfl (zq (by omega) (by simp))))
 ·refine zq (by decide) (zaw _ (z1j hf qek) (zq (by decide) (zaw _ (qbd hf qek) (zaw _ (qid hf (by omega)) ?_))))
  exact zbe rfl (zbe rfl (zbe rfl (zbe rfl (zq (by simp) rfl))))
theorem qis (x:List Sm)(way c:Nat)(n:Int)(hl:x.length<2^63)(hu: ∀y∈x,y.2.1<256):Pure (ITP Tryz.prog) Tryz.prog 6 [.list x.length (Enc.cellsL x) .none,.raw (.int .u8 way),.raw (.int .u8 c),.raw (.int .i64 n)] (.raw (.bool true)):=qgq 5001 x way c n true (qey x way c n hl hu)
end Go.Ab
namespace Go.Ab
open Go Go.RowKit Go.Fwd Go.Proofs Go.ChangeShapes Go.WideShapes Go.ChangeAt Go.Deep
theorem ownLess:ownKnob Tryz.prog.godebug=none:=by kernel_rfl
theorem laidOut:laidOutB Tryz.prog=true:=by kernel_rfl
def qax (W:World):Cx:=⟨fun b o=> ∃v,W.cell? ⟨b,o,none⟩=some v,[],[],[],W,fun _=>False,fun _ _=>False⟩
theorem gv_base (W:World)(hS:W.ShapedOpen Tryz.prog):gvBase Tryz.prog W where
 err:=fun n g h e=>by
  have h1:Tryz.prog.globalNamed "strconv.ErrSyntax" =none:=by kernel_rfl
  have h2:Tryz.prog.globalNamed "strconv.ErrRange" =none:=by kernel_rfl
  rcases h with rfl|rfl
  ·rw[h1] at e;cases e
  ·rw[h2] at e;cases e
 pow:=fun g e=>by
  have h1:Tryz.prog.globalNamed "internal/strconv.uint64pow10" =none:=by kernel_rfl
  rw[h1] at e;cases e
 max:=fun g e=>by
  have h1:Tryz.prog.globalNamed "internal/bytealg.MaxLen" =some 0:=by kernel_rfl
  rw[h1] at e;cases e
  exact Go.Proofs.cell_of_shapedOpen_int (zero:= #[.int .i64 0]) (t:=3) hS (of_decide_eq_true (by kernel_rfl)) (by kernel_rfl) rfl (by kernel_rfl) (by kernel_rfl) (by kernel_rfl)
theorem inv_top (W:World)(hS:W.ShapedOpen Tryz.prog):Inv (ITP Tryz.prog) St.empty (qax W) where
 lens:=rfl
 elems:=rfl
 κlen:=rfl
 κnd:=fun s s' b h=>by simp[qax] at h
 box:=fun s b t cs h=>by simp[qax] at h
 κF:=fun s b t cs h=>by simp[qax] at h
 βlen:=rfl
 βnd:=by simp[qax]
 βκ:=fun r h=>by simp[qax] at h
 row:=fun s r L h=>by simp[qax] at h
 Ok:=fun b h=>h.elim
 Fcell:=fun b o h=>h
 gv:=⟨W,gv_base W hS,Szs.refl _,fun b o v _ hv=>⟨⟨v,hv⟩,hv⟩⟩
theorem qkz {f:FuncId} {args:List AV} {u:Value} (h:Pure (ITP Tryz.prog) Tryz.prog f args (.raw u))(W:World)(hS:W.ShapedOpen Tryz.prog) {vs:List Value} (hr:zbl (ITP Tryz.prog) (qax W) args vs):
 Calls Tryz.prog f vs.toArray W fun e W'=>e= .returned u∧Ex W.heap.size W W':=by
 refine(h.2 (qax W) vs (inv_top W hS) hr).mono ?_
 rintro e w' ⟨v,Y,rfl,rfl,hE,hIY,hv⟩
 rw[Rep] at hv;subst hv
 exact⟨rfl,⟨⟨hE.os,hE.tape,hE.output,hE.size,fun b hb=>hE.frame b hb (by simp[qax]) (by simp[qax])⟩,hE.drawn⟩⟩
theorem z1r {n:Int} (h:(Lit.int .u8 n).wf=true):0≤n∧n≤255:=by
 have h1:IntKind.u8.min=0:=rfl
 have h2:IntKind.u8.max=255:=rfl
 simp only[Lit.wf,Bool.and_eq_true,decide_eq_true_eq] at h
 omega
theorem qnw:Tryz.prog.underlying 22=some (.slice 81):=rfl
theorem cells49:Tryz.prog.cellsOf 81=3:=by kernel_rfl
theorem qmv: ∃f0 f1 f2:Field,Tryz.prog.underlying 81=some (.struct #[f0,f1,f2])∧oneCellFields Tryz.prog #[f0,f1,f2]=true∧Tryz.prog.underlying f0.type=some (.int .u8)∧Tryz.prog.underlying f1.type=some (.int .u8)∧Tryz.prog.underlying f2.type=some (.int .u8):=⟨_,_,_,rfl,by kernel_rfl,rfl,rfl,rfl⟩
section
variable {H:Type} {enc:TypeId×Value→H}
theorem z6v {W:World} {base:Nat} {spare:Nat→Bool} {held:Bool} {n:Nat} {cs:List Value} {x:DataW H×List MemPlace} (h:DataW.trod enc Tryz.prog W base spare held n 81 cs=some x)(hl:cs.length=3):
 ∃s:Sm,cs=[.int .u8 (s.1:Int),.int .u8 (s.2.1:Int),.int .u8 (s.2.2:Int)]∧s.2.1<256:=by
 obtain⟨f0,f1,f2,hu,hone,t0,t1,t2⟩:=qmv
 obtain⟨ys,m,_,_,_,hyl,hf⟩:=DataW.trod_struct hu h
 obtain⟨o0,k0⟩:=hone_of hone 0 f0 rfl
 obtain⟨o1,k1⟩:=hone_of hone 1 f1 rfl
 obtain⟨o2,k2⟩:=hone_of hone 2 f2 rfl
 match cs,hl with
 | [c0,c1,c2],_=>
  match ys,hyl with
  | [y0,y1,y2],_=>
   have g0:DataW.trod enc Tryz.prog W base spare held m f0.type [c0]=some y0:=by simpa[o0,k0] using hf 0 f0 rfl
   have g1:DataW.trod enc Tryz.prog W base spare held m f1.type [c1]=some y1:=by simpa[o1,k1] using hf 1 f1 rfl
   have g2:DataW.trod enc Tryz.prog W base spare held m f2.type [c2]=some y2:=by simpa[o2,k2] using hf 2 f2 rfl
   obtain⟨n0,e0,_,w0⟩:=DataW.trod_int t0 g0
   obtain⟨n1,e1,_,w1⟩:=DataW.trod_int t1 g1
   obtain⟨n2,e2,_,w2⟩:=DataW.trod_int t2 g2
   simp at e0 e1 e2
   subst e0 e1 e2
   have b0:=z1r w0
   have b1:=z1r w1
   have b2:=z1r w2
   exact⟨(n0.toNat,n1.toNat,n2.toNat),by simp only[Int.toNat_of_nonneg b0.1,Int.toNat_of_nonneg b1.1,Int.toNat_of_nonneg b2.1],by simp only;omega⟩
theorem z3c (W:World)(b:Nat): ∀(len o:Nat) (g:Nat→Sm),(∀i,i<len→W.cell? ⟨b,o+i*3,none⟩=some (.int .u8 ((g i).1:Int))∧W.cell? ⟨b,o+i*3+1,none⟩=some (.int .u8 ((g i).2.1:Int))∧W.cell? ⟨b,o+i*3+2,none⟩=some (.int .u8 ((g i).2.2:Int)))→
 At (ITP Tryz.prog) (qax W) (qnu ((List.range len).map g)) b o
 |0,o,g,_=>by simp[qnu,At]
 | len+1,o,g,h=>by
  rw[List.range_succ_eq_map,List.map_cons,List.map_map,qnu,smc]
  have h0:=h 0 (by omega)
  simp only[Nat.zero_mul,Nat.add_zero] at h0
  obtain⟨a0,a1,a2⟩:=h0
  have ih:=z3c W b len (o+3) (g∘Nat.succ) (fun i hi=>by
   have:=h (i+1) (by omega)
   rw[show o+(i+1)*3=o+3+i*3 by omega] at this
   exact this)
  simp only[List.cons_append,List.nil_append,At]
  exact⟨⟨⟨_,a0⟩,_,a0,rfl,by rw[Rep]⟩,⟨⟨_,a1⟩,_,a1,rfl,by rw[Rep]⟩,⟨⟨_,a2⟩,_,a2,rfl,by rw[Rep]⟩,ih⟩
theorem qcf {W:World} {base:Nat} {v:Value} {d:DataW H} {p:List MemPlace} (hv:Value.okWide Tryz.prog W .any base 22 v)(h:DataW.Trod enc Tryz.prog W 0 (fun _=>true) true 22 v d p):
 ∃l:List Sm,(l.length<2^63∧ ∀x∈l,x.2.1<256)∧Rep (ITP Tryz.prog) (qax W) (.list l.length (qnu l) .none) v:=by
 obtain⟨fuel,hf⟩:=h
 obtain⟨a0,len,cap,rfl⟩:=okWide_slice qnw hv
 rcases open_slice qnw hf with⟨h0,_⟩|⟨a,len',cap',m,n,D,Pl,hcs,hb,hl,hm,hmm,hx,hi⟩
 ·simp[Value.cells] at h0
  obtain⟨rfl,rfl,rfl⟩:=h0
  refine⟨[],by simp,?_⟩
  rw[Rep]
  exact⟨none,0,rfl,⟨Nat.le_refl _,fun _=>rfl⟩,.inl rfl,trivial⟩
 ·simp [Value.cells] at hcs
  obtain⟨rfl,rfl,rfl⟩:=hcs
  rw[cells49] at hi
  have hm':m=cap:=by simpa using hmm
  have hcell: ∀i,i<m→ ∃s:Sm,W.cell? (a.add (i*3))=some (.int .u8 (s.1:Int))∧W.cell? (a.add (i*3+1))=some (.int .u8 (s.2.1:Int))∧W.cell? (a.add (i*3+2))=some (.int .u8 (s.2.2:Int))∧s.2.1<256:=fun i him=>by
   obtain⟨cs',hc,ht⟩:=hi i him
   obtain⟨_,hcl,hat⟩:=World.cells?_some hc
   obtain⟨s,rfl,hs⟩:=z6v ht hcl
   refine⟨s,?_,?_,?_,hs⟩
   ·have:=hat 0 (by omega);rw[Go.Deep.add_add] at this;simpa using this
   ·have:=hat 1 (by omega);rw[Go.Deep.add_add] at this;simpa using this
   ·have:=hat 2 (by omega);rw[Go.Deep.add_add] at this;simpa using this
  by_cases hz:len=0
  ·subst hz
   refine⟨[],by simp,?_⟩
   rw[Rep]
   exact⟨some a,cap,rfl,⟨hl,fun h=>by cases h⟩,.inl rfl,trivial⟩
  ·obtain⟨s0,c0,_⟩:=hcell 0 (by omega)
   have hspot:a=⟨a.block,a.off,none⟩:=by
    cases a with
    | mk b o sp=>
     cases sp with
     |none=>rfl
     | some k=>
      exfalso
      simp[Addr.add,World.cell?] at c0
      split at c0<;>simp at c0
   have hadd: ∀j,a.add j=⟨a.block,a.off+j,none⟩:=fun j=>by
    by_cases hj:j=0
    ·subst hj;simp[Addr.add];exact hspot
    ·simp[Addr.add,hj]
   let g:Nat→Sm:=fun i=>if h:i<m then Classical.choose (hcell i h) else(0,0,0)
   have hg: ∀i (him:i<m),W.cell? (a.add (i*3))=some (.int .u8 ((g i).1:Int))∧W.cell? (a.add (i*3+1))=some (.int .u8 ((g i).2.1:Int))∧W.cell? (a.add (i*3+2))=some (.int .u8 ((g i).2.2:Int))∧(g i).2.1<256:=fun i him=>by
    have e:g i=Classical.choose (hcell i him):=dif_pos him
    rw[e];exact Classical.choose_spec (hcell i him)
   have hml:maxLen<2^63:=by decide
   refine⟨(List.range len).map g,⟨by simp;omega,fun x hx=> ?_⟩,?_⟩
   ·obtain⟨i,hi',rfl⟩:=List.mem_map.1 hx
    exact(hg i (by have:=List.mem_range.1 hi';omega)).2.2.2
   rw[Rep]
   refine⟨some a,cap,by simp,⟨by simpa using hl,fun h=>by cases h⟩,.inr ⟨a.block,a.off,by rw[←hspot],z3c W a.block len a.off g fun i hi=> ?_⟩,trivial⟩
   have:=hg i (by omega)
   rw[hadd,hadd,hadd] at this
   exact⟨this.1,this.2.1,this.2.2.1⟩
end
theorem trodAll_four {H:Type} {enc:TypeId×Value→H} {P:Program} {w:World} {base:Nat} {spare:Nat→Bool} {held:Bool} {t0 t1 t2 t3:TypeId} {args:Array Value} {ds:List (DataW H)} {ps:List MemPlace} (h:DataW.TrodAll enc P w base spare held [t0,t1,t2,t3] args.toList ds ps):
 ∃v0 v1 v2 v3 d0 d1 d2 d3 p0 p1 p2 p3,args= #[v0,v1,v2,v3]∧ds=[d0,d1,d2,d3]∧ps=p0++p1++p2++p3∧DataW.Trod enc P w base spare held t0 v0 d0 p0∧DataW.Trod enc P w base spare held t1 v1 d1 p1∧DataW.Trod enc P w base spare held t2 v2 d2 p2∧DataW.Trod enc P w base spare held t3 v3 d3 p3:=by
 obtain⟨v0,a0,d0,s0,p0,q0,hargs,rfl,rfl,g0,h⟩:=trodAll_cons h
 obtain⟨v1,a1,d1,s1,p1,q1,rfl,rfl,rfl,g1,h⟩:=trodAll_cons h
 obtain⟨v2,a2,d2,s2,p2,q2,rfl,rfl,rfl,g2,h⟩:=trodAll_cons h
 obtain⟨v3,a3,d3,s3,p3,q3,rfl,rfl,rfl,g3,h⟩:=trodAll_cons h
 obtain⟨rfl,rfl,rfl⟩:=trodAll_nil h
 exact⟨v0,v1,v2,v3,d0,d1,d2,d3,p0,p1,p2,p3,by cases args;simp_all,rfl,by simp,g0,g1,g2,g3⟩
theorem zny {H:Type} {enc:TypeId×Value→H} {P:Program} (hl:laidOutB P=true) {W W':World} (hb:Below W.heap.size W W'): ∀ {ts:List TypeId} {vs:List Value} {ds:List (DataW H)} {ps:List MemPlace},
 (ts.all fun t=>P.readableRec t&&decide (t<P.types.size))=true→DataW.TrodAll enc P W 0 (fun _=>true) true ts vs ds ps→(∀x∈ps,x.block<W.heap.size)→DataW.TrodAll enc P W' 0 (fun b=>decide (b<W.heap.size)) true ts vs ds ps
 | [],vs,ds,ps,_,h,_=>by
  cases vs with
  | nil=>
   cases ds with
   |nil=>exact h
   |cons=>exact h.elim
  |cons=>exact h.elim
 | t::ts,vs,ds,ps,ht,h,hlt=>by
  obtain⟨v,vs',d,ds',p,q,rfl,rfl,rfl,hd,hr⟩:=trodAll_cons h
  simp only[List.all_cons,Bool.and_eq_true,decide_eq_true_eq] at ht
  exact⟨p,q,Below.trod hl ht.1.1 ht.1.2 hd hb fun x hx=>hlt x (by simp[hx]),zny hl hb ht.2 hr fun x hx=>hlt x (by simp[hx]),rfl⟩
end Go.Ab
set_option maxRecDepth 100000
namespace Go.Ab
open Go Go.RowKit Go.Fwd Go.Proofs Go.ChangeShapes Go.WideShapes Go.ChangeAt Go.Deep
section
variable {H:Type} {enc:TypeId×Value→H} {P:Program} {α:Type} [Enc α]
end
section
variable {H:Type} {enc:TypeId×Value→H}
end
end Go.Ab
namespace Go.Proofs.YtfkkellnlmjenaaGreat
open Go Go.Ab Go.ChangeShapes Go.WideShapes Go.ChangeAt Go.RowKit Go.Fwd
theorem deriveWrong_lifted (os:Os)(started:os.Started)(H:Type)(enc:TypeId×Value→H):
 ReturnsInHanded {} Tryz.checked os 6 .any (Rows.deriveWrongSpec.pre6 enc Tryz.prog Tryz.f6 Rows.deriveWrongRow.domain false) (Rows.deriveWrongSpec.post enc Tryz.prog Tryz.f6 false true false false):=by
 refine returnsInHanded_of_change_shaped (C:=Tryz.checked) ownLess started (by kernel_rfl) Tryz.func6
  (ChangeSpec.witness6 (enc:=enc) (C:=Tryz.checked) false ⟨#[], #[.slice .none 0 0,.int .u8 0,.int .u8 0,.int .i64 0],[]⟩ 8 (by kernel_rfl) (by kernel_rfl) (by kernel_rfl) (by kernel_rfl)) ?_
 intro W base args ds gs before hval0 hW _ _ hS _
 have hval: ∀(j:Nat) t v,Tryz.f6.params[j]? =some t→args[j]? =some v→Value.okWide Tryz.prog W .any base t v:=hval0
 have hW':=hW
 obtain⟨p,q,hA0,hV,rfl,_,_⟩:=hW
 have hA:DataW.TrodAll enc Tryz.prog W 0 (fun _=>true) true Tryz.f6.params.toList args.toList ds p:=hA0
 rw[show Tryz.f6.params.toList=[22,5,5,3] from by kernel_rfl] at hA
 have hA1:=hA
 obtain⟨v0,v1,v2,v3,d0,d1,d2,d3,p0,p1,p2,p3,rfl,rfl,rfl,h0,h1,h2,h3⟩:=Ab.trodAll_four hA
 obtain⟨rfl,rfl⟩:=trodVars_none hV
 obtain⟨l0,hl0,hr0⟩:=qcf (hval 0 22 v0 (by kernel_rfl) rfl) h0
 obtain⟨m1,rfl,_,_,w1⟩:=open_int (show Tryz.prog.underlying 5=some (.int .u8) from by kernel_rfl) (hval 1 5 v1 (by kernel_rfl) rfl) h1
 have w1:=z1r w1
 obtain⟨n1,rfl⟩: ∃n:Nat,m1=(n:Int):=⟨m1.toNat,by omega⟩
 have hn1:n1<256:=by omega
 obtain⟨m2,rfl,_,_,w2⟩:=open_int (show Tryz.prog.underlying 5=some (.int .u8) from by kernel_rfl) (hval 2 5 v2 (by kernel_rfl) rfl) h2
 have w2:=z1r w2
 obtain⟨n2,rfl⟩: ∃n:Nat,m2=(n:Int):=⟨m2.toNat,by omega⟩
 have hn2:n2<256:=by omega
 obtain⟨i3,rfl,_,_,w3⟩:=open_int (show Tryz.prog.underlying 3=some (.int .i64) from by kernel_rfl) (hval 3 3 v3 (by kernel_rfl) rfl) h3
 clear hA0 hval0
 simp only[List.append_nil] at hW'
 have hlt:=hW'.lt
 refine(qkz (qis l0 n1 n2 i3 hl0.1 hl0.2) W hS (vs:=[v0,.int .u8 n1,.int .u8 n2,.int .i64 i3]) ⟨_,_,rfl,hr0,_,_,rfl,rfl,_,_,rfl,rfl,_,_,rfl,rfl,rfl⟩).mono fun e W' ⟨he,hw⟩=> ?_
 subst he
 refine⟨_,rfl,?_⟩
 refine⟨_,_,_,[]++[],p0++p1++p2++p3,[],hW',?_,?_,rfl,hw.toBelow.frame _,fun h=>by cases h⟩
 ·exact trodAll_mk1 (shut_bool (show Tryz.prog.underlying 4=some .bool from by kernel_rfl) true)
 ·exact zny laidOut hw.toBelow (by kernel_rfl) hA1 (fun x hx=>hlt x (by simpa using hx))
theorem deriveWrong_holds:Rows.DeriveWrongSaid:=
 OpenClaim.holds_of_wide 6 Tryz.f6 rfl rfl rfl rfl rfl rfl rfl ⟨rfl,rfl,rfl,rfl,rfl⟩ rfl rfl rfl rfl rfl (by kernel_rfl) Tryz.func6 (by kernel_rfl)
  (of_decide_eq_true (by kernel_rfl)) (by unfold Func.isWrapper;rw[if_neg (by decide+kernel)];exact⟨rfl,rfl⟩)
  (fun os started H enc _=>deriveWrong_lifted os started H enc)
end Go.Proofs.YtfkkellnlmjenaaGreat
