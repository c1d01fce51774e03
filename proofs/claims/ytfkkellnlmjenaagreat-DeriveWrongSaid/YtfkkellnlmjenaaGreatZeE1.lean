/-
  derive: nullable, plain.
-/
import Derived.Test.YtfkkellnlmjenaaGreatZeBx
set_option linter.unusedSimpArgs false
set_option linter.unusedVariables false
namespace Go.Ab
open Go Go.RowKit Go.Fwd
def hdT (l:List Tr):Tr:=l.getD 0 noneT
mutual
def plT:Tr→Tr
 | .mk k s mn mx l=>bif (k:Int)==3 then zlc (plL l) else bif (k:Int)==4 then orT (plL l) else bif (k:Int)==5 then zis (hdT (plL l)) mn mx else bif (k:Int)==6 then hdT (plL l) else zvs (.mk k s mn mx l)
def plL:List Tr→List Tr
 |[]=>[]
 |x::l=>plT x::plL l
end
theorem qoc: ∀l:List Tr,plL l=l.map plT
 |[]=>rfl
 |x::l=>by rw[plL,qoc l,List.map_cons]
def zmp (x:Tr)(mn mx:Int):Tr:=zis x (max (mn-1) 0) (bif mx != -1 then mx-1 else mx)
mutual
def byT (c:Nat):Tr→List Tr
 | .mk k s mn mx l=>bif (k:Int)==2 then(bif s.getLsbD c then[emptyT] else[]) else bif (k:Int)==3 then zia c l else bif (k:Int)==4 then znn c l else bif (k:Int)==5 then(z5b c l).map (fun t=>zlc [t,zmp (hdT l) mn mx]) else[]
def znn (c:Nat):List Tr→List Tr
 |[]=>[]
 |x::l=>byT c x++znn c l
def z5b (c:Nat):List Tr→List Tr
 |[]=>[]
 |x::_=>byT c x
def zia (c:Nat):List Tr→List Tr
 |[]=>[]
 |x::l=>(byT c x).map (fun t=>zlc [t,zlc l])++(bif zeu x then zia c l else[])
end
theorem qao (c:Nat): ∀l:List Tr,znn c l=l.flatMap (byT c)
 |[]=>rfl
 |x::l=>by rw[znn,qao c l,List.flatMap_cons]
theorem qgx (c:Nat)(t:Tr):byT c t=(bif (t.k:Int)==2 then(bif t.s.getLsbD c then[emptyT] else[]) else bif (t.k:Int)==3 then zia c t.l else bif (t.k:Int)==4 then t.l.flatMap (byT c) else bif (t.k:Int)==5 then(z5b c t.l).map (fun x=>zlc [x,zmp (hdT t.l) t.mn t.mx]) else[]):=by
 obtain⟨k,s,mn,mx,l⟩:=t
 rw[byT,qao];rfl
theorem qpd (t:Tr):plT t=(bif (t.k:Int)==3 then zlc (t.l.map plT) else bif (t.k:Int)==4 then orT (t.l.map plT) else bif (t.k:Int)==5 then zis (hdT (t.l.map plT)) t.mn t.mx else bif (t.k:Int)==6 then hdT (t.l.map plT) else zvs t):=by
 obtain⟨k,s,mn,mx,l⟩:=t
 rw[plT,qoc];rfl
instance (l:List Tr):Decidable (CRL l):=inferInstanceAs (Decidable (_=true))
instance (t:Tr):Decidable (CR t):=inferInstanceAs (Decidable (_=true))
instance (n:Nat)(t:Tr):Decidable (CS n t):=inferInstanceAs (Decidable (_∧_))
mutual
def tbT:Tr→Nat
 | .mk k s mn mx l=>bif (k:Int)==3 then tbL l else bif (k:Int)==5 then zkj l+(zap l).length+2 else max (1+(zap l).length) (zkj l)
def tbL:List Tr→Nat
 |[]=>1
 |x::l=>max (tbT x+(zap l).length+(if l.isEmpty=true then 0 else 1)) (tbL l)
def zkj:List Tr→Nat
 |[]=>0
 |x::l=>max (tbT x) (zkj l)
end
def BO (t:Tr):Prop:=CR t∧tbT t≤4000
instance (t:Tr):Decidable (BO t):=inferInstanceAs (Decidable (_∧_))
theorem qbl {t:Tr} (h:t.k=3):tbT t=tbL t.l:=by obtain⟨k,s,mn,mx,l⟩:=t;simp only[Tr.k] at h;subst h;rw[tbT];rfl
theorem qdc {t:Tr} (h:t.k=5):tbT t=zkj t.l+(zap t.l).length+2:=by obtain⟨k,s,mn,mx,l⟩:=t;simp only[Tr.k] at h;subst h;rw[tbT];rfl
theorem z0a {t:Tr} (h3:t.k≠3)(h5:t.k≠5):tbT t=max (1+(zap t.l).length) (zkj t.l):=by
 obtain⟨k,s,mn,mx,l⟩:=t
 simp only[Tr.k] at h3 h5
 rw[tbT,show((k:Int)==3)=false by simp;omega,show((k:Int)==5)=false by simp;omega];rfl
theorem zue: ∀ {l:List Tr} {x:Tr},x∈l→tbT x≤zkj l
 | y::l,x,h=>by
  rw[zkj]
  rcases List.mem_cons.1 h with rfl|h
  ·omega
  ·have:=zue h;omega
theorem qjh: ∀l:List Tr,1≤tbL l
 |[]=>by rw[tbL];omega
 |x::l=>by rw[tbL];have:=qjh l;omega
theorem z5r (t:Tr):1≤tbT t:=by
 by_cases h3:t.k=3
 ·rw[qbl h3];exact qjh _
 ·by_cases h5:t.k=5
  ·rw[qdc h5];omega
  ·rw[z0a h3 h5];omega
theorem qol: ∀a b:List Tr,tbL (a++b)≤max (tbL a+(zap b).length+(if b.isEmpty=true then 0 else 1)) (tbL b)
 |[],b=>by rw[List.nil_append];omega
 | x::a,b=>by
  have ih:=qol a b
  rw[List.cons_append,tbL,tbL,zch,List.length_append]
  cases b with
  |nil=>simp only[List.append_nil,List.isEmpty_nil,if_true] at ih⊢;omega
  | cons y b=>
   have e:(a++y::b).isEmpty=false:=by simp
   rw[e]
   simp only[List.isEmpty_cons,Bool.false_eq_true,if_false] at ih⊢
   split<;>omega
theorem qiv : ∀ (n : Nat) (t:Tr),(pre t).length≤n→CR t→(pre t).length≤tbT t
  | 0, t, hn, _ => by have:0<(pre t).length:=by rw[zcw];simp
                      omega
  | n + 1,t,hn,h=>by
    have hp:(pre t).length=1+(zap t.l).length:=by rw[zcw,List.length_cons];omega
    by_cases h3:t.k=3
    · have hc:=zgl ((zcn t).1 h).1 h3
      have hs:=((zcn t).1 h).2
      rw[qbl h3]
      cases hl:t.l with
      |nil=>rw[hl] at hc;simp at hc
      | cons x l=>
        rw[hl] at hc hp hs
        have:=qiv n x (by rw[zap,List.length_append] at hp;omega) ((zbb _ _).1 hs).1
        have he:l.isEmpty=false:=by cases l with|nil=>simp at hc|cons y l=>rfl
        rw[tbL,he]
        rw[zap,List.length_append] at hp
        simp only[Bool.false_eq_true,if_false];omega
    · by_cases h5:t.k=5
      · rw[qdc h5];omega
      · rw[z0a h3 h5];omega
theorem CR.tb {t:Tr} (h:CR t):(pre t).length≤tbT t:=qiv _ t (Nat.le_refl _) h
theorem z4u {l:List Tr} (h:CRL l)(hl:(zap l).length≤9998):zlc l=zrn 3 (zcc 3 l):=by
 have hcl: ∀x∈l,zcd x=true:=fun x hx=>zhw ((zeo l).1 h x hx) (by have:=zck hx;omega)
 have hno:(l.any fun x=>(x.k:Int)==0|| !zcd x)=false:=by
  rw[List.any_eq_false]
  intro x hx
  have h1:=((zeo l).1 h x hx).k0
  have h2:=hcl x hx
  simp[h2];omega
 have hG:=zjw h
 have hs:=zgb 3 l
 have hE:=zot hG
 have hL:=zmi 3 (zcc 3 l)
 have hce:zcd (zrn 3 (zcc 3 l))=true:=zhw hE (by omega)
 unfold zlc
 rw[if_neg (by rw[hno];simp),flatT3]
 unfold zps
 unfold zrn at hce⊢
 cases c1:((zcc 3 l).length:Int)==0 with
 |true=>rfl
 | false=>
  rw[c1] at hce
  simp only[cond_false] at hce⊢
  cases c2:((zcc 3 l).length:Int)==1 with
  |true=>rw[c2] at hce;simp only[cond_true] at hce⊢;exact zkb hce
  |false=>rw[c2] at hce;simp only[cond_false] at hce⊢;exact zkb hce
theorem flat1 {t:Tr} (h:CR t):tbL (zcc 3 [t])=tbT t:=by
 by_cases h3:t.k=3
 ·rw[qbl h3];simp[zdb,zir,h3]
 ·by_cases h1:t.k=1
  ·have:=qob h h1;subst this;simp[zdb,zir,emptyT,Tr.k,tbL,tbT,zap,zkj]
  ·have e:zcc 3 [t]=[t]:=by rw[zdb,zir,show((t.k:Int)==((3:Nat):Int))=false by simp;omega,show((t.k:Int)==1)=false by simp;omega];rfl
   rw[e,tbL,tbL,zap];have:=z5r t;simp;omega
theorem qnp: ∀m:List Tr,tbT (zrn 3 m)=tbL m
 |[]=>by rw[show zrn 3 []=emptyT from rfl];simp[emptyT,tbT,tbL,zap,zkj]
 |[x]=>by rw[zja,tbL,tbL,zap];have:=z5r x;simp;omega
 |x::y::l=>by rw[zhh,qbl rfl];rfl
theorem qdm {a z:Tr} (ha:CR a)(hz:CR z)(hl:(pre a).length+(pre z).length≤9998):
 CR (zlc [a,z])∧tbT (zlc [a,z])≤max (tbT a+(zap (zcc 3 [z])).length+(if(zcc 3 [z]).isEmpty=true then 0 else 1)) (tbT z):=by
 have hc:CRL [a,z]:=(zeo _).2 (by simp[ha,hz])
 have hL:(zap [a,z]).length≤9998:=by simp[zap];omega
 rw[z4u hc hL]
 refine⟨zot (zjw hc),?_⟩
 rw[qnp,show zcc 3 [a,z]=zcc 3 [a]++zcc 3 [z] by rw[←zqu];rfl]
 have:=qol (zcc 3 [a]) (zcc 3 [z])
 rw[flat1 ha,flat1 hz] at this
 exact this
end Go.Ab
namespace Go.Ab
open Go Go.RowKit Go.Fwd Go.Proofs
theorem qox {α:Type} [Enc α] {P:Program} {ρ:Operand→AV} {σ:St} {o:Oper} {c:Call} {x:Operand} {t e:TypeId} {l:List α} {b sz:Nat} (ho:o.op= .call c)(hc:c.callee= .builtin .len)(ha:c.args.toList=[x])(ht:c.argTypes.toList=[t])(hx:ρ x=zvn b l.length sz)(hu:P.underlying t=some (.slice e)):
 qop P ρ σ o=some (.raw (.int .i64 (l.length:Int))):=by
 cases l with
 | nil=>
  have hx:ρ x= .list 0 [] .full:=hx
  simp[qop,ho,hc,ha,ht,hx,qjs,hu]
 | cons y l=>
  have hx:ρ x= .bsl b 0 (l.length+1) sz false:=hx
  simp[qop,ho,hc,ha,ht,hx,qjs,hu]
theorem qfl {α:Type} [Enc α] {l:List α} (h:0<l.length):zcm l.length (Enc.cellsL l)= .list l.length (Enc.cellsL l) (.own 0):=by
 unfold zcm;rw[if_neg (by omega)]
theorem qeh {α:Type} [Enc α] {P:Program} {ρ:Operand→AV} {σ:St} {o:Oper} {t e:TypeId} {x i:Operand} {l:List α} {k:IntKind} {n:Int} (hb:0≤n∧n<l.length)(ho:o.op= .indexAddr t x i)(hx:ρ x=zcm l.length (Enc.cellsL l))(hi:ρ i= .raw (.int k n))(hu:P.underlying t=some (.slice e))(hs:zdq P e=some (Enc.sz α)):
 qop P ρ σ o=some (.iptr (Enc.cells (ix l n)++Enc.cellsL (l.drop (n.toNat+1)))):=ztq hb ho (hx.trans (qfl (by omega))) hi hu hs
theorem pos_of0 {α:Type} {l:List α} (h:((l.length:Int)==0)=false):0<l.length:=by
 have: ¬((l.length:Int)=0):=by simpa using h
 omega
def lbU (n:Nat):List UInt8:=(zxg (n%12)).map UInt8.ofNat
def clsU (l:List UInt8):Tr:=qap (l.map UInt8.toNat)
def clsA:List (List UInt8):=[[97],[98],[97,98],[99],[97,98,99],[98,99],[10],[0,255],[]]
theorem qjl: ∀n:Nat,n<256→lbU n∈clsA∧bsOf ((lbU n).map UInt8.toNat)=bsOf (zxg (n%12)):=by decide+kernel
theorem clsU_lb (n:Nat)(h:n<256):clsU (lbU n)=qap (zxg (n%12)):=by rw[clsU,qap,(qjl n h).2];rfl
noncomputable def run1 (f:Nat)(args:List AV)(r:AV):Bool:=match zms Tryz.prog noP (evQ true Tryz.prog noP noS 300) f args with
 |some x=>z6z x r
 |none=>false
theorem qgm {f:Nat} {args:List AV} {r:AV} (h:run1 f args r=true):Pure (ITP Tryz.prog) Tryz.prog f args r:=by
 unfold run1 at h
 split at h
 ·rename_i x hx
  rw[qee _ _ h] at hx
  exact zao true zyt 300 hx
 ·cases h
theorem let_tab:((List.range 256).all fun n=>run1 48 [.raw (.int .u8 (n:Int))] (.raw (.string (bs (lbU n)))))=true:=by kernel_rfl
theorem qhm (n:Int)(h:0≤n∧n<256):Pure (ITP Tryz.prog) Tryz.prog 48 [.raw (.int .u8 n)] (.raw (.string (bs (lbU n.toNat)))):=by
 obtain⟨m,rfl⟩: ∃m:Nat,n=m:=⟨n.toNat,by omega⟩
 rw[Int.toNat_natCast]
 exact qgm (List.all_eq_true.1 let_tab m (List.mem_range.2 (by omega)))
theorem cls_tab:(clsA.all fun l=>run1 47 [.raw (.string (bs l))] (.agg (Enc.cells (clsU l))))=true:=by kernel_rfl
theorem zvl (l:List UInt8)(h:l∈clsA):Pure (ITP Tryz.prog) Tryz.prog 47 [.raw (.string (bs l))] (.agg (Enc.cells (clsU l))):=qgm (List.all_eq_true.1 cls_tab l h)
end Go.Ab
set_option maxRecDepth 100000
set_option maxHeartbeats 4000000
namespace Go.Ab
open Go Go.RowKit Go.Fwd Go.Proofs
def z5o (n:Nat)(x:Tr):Option Bool:=
 (chk (((pre x).length<n∧crT x=true)) (zbc (zeu x) (fun x1=>(some (!x1)))))
theorem ent101:Ent Tryz.prog 101:=enters_of Tryz.func101 (by kernel_rfl) rfl
theorem nu1_sh (n:Nat)(x:Tr)(r:Bool)(ih: ∀x:Tr,((pre x).length<n∧crT x=true)→Pure (ITP Tryz.prog) Tryz.prog 60 [.A x] (.raw (.bool (zeu x))))(h:z5o n x=some r):Pure (ITP Tryz.prog) Tryz.prog 101 [.A (x:Tr)] (.raw (.bool r)):=by
 unfold z5o at h
 refine zbd 5 mix Tryz.func101 ent101 ?_
 refine zf (zb ?_)
 refine zbz (a:= .ptr 0 0) (σ'':=(.B [(29,(Enc.cells (x:Tr)))])) ?_
 refine w_o (a:= .b false) ?_
 refine zr [.v (.A (x:Tr))] ?_
 obtain⟨g1,h⟩:=zi h
 obtain⟨x1,hx1,h⟩:=zo h
 refine zcq (args':=[.A (x:Tr)]) (r:= .b x1) (by rw[←hx1];exact(ih x g1)) ?_
 refine w_r [.v (.b (!x1)),.m _] ?_
 exact zbg h
def z0h (fuel:Nat)(n:Nat)(t:Tr):Option Bool:=
 (bif (((t.k:Nat):Int)==1) then(some true) else(bif (((t.k:Nat):Int)==3) then(zav (z7i fuel (fun x=>z5o n x) t.l) (fun x1=>(some (!x1)))) else(bif (((t.k:Nat):Int)==4) then(zav (z7i fuel (q1 zeu n) t.l) (fun x2=>(some x2))) else(bif (((t.k:Nat):Int)==5) then(bif (t.mn==0) then(some true) else(chk (0≤(0:Int)∧(0:Int)<(List.length t.l:Int)) (zbc (ix t.l (0:Int)) (fun x3=>(chk (((pre x3).length<n∧crT x3=true)) (zbc (zeu x3) (fun x4=>(some x4)))))))) else(bif (((t.k:Nat):Int)==6) then(chk (0≤(0:Int)∧(0:Int)<(List.length t.l:Int)) (zbc (ix t.l (0:Int)) (fun x5=>(chk (((pre x5).length<n∧crT x5=true)) (zbc (zeu x5) (fun x6=>(some x6))))))) else(some false))))))
theorem ent60:Ent Tryz.prog 60:=enters_of Tryz.func60 (by kernel_rfl) rfl
theorem qnm (fuel:Nat)(n:Nat)(t:Tr)(r:Bool)(ih: ∀x:Tr,((pre x).length<n∧crT x=true)→Pure (ITP Tryz.prog) Tryz.prog 60 [.A x] (.raw (.bool (zeu x))))(h:z0h fuel n t=some r):Pure (ITP Tryz.prog) Tryz.prog 60 [.A (t:Tr)] (.raw (.bool r)):=by
 unfold z0h at h
 refine zbd 36 mix Tryz.func60 ent60 ?_
 refine zf (zb ?_)
 refine zbz (a:= .ptr 0 0) (σ'':=(.B [(29,(Enc.cells (t:Tr)))])) ?_
 refine w_o (a:= .b false) ?_
 refine zf ?_
 refine zr [.v (.ptr 0 0),.v (.u ((t.k:Nat):Int))] ?_
 refine zp ?_
 refine zr [.v (.b (((t.k:Nat):Int)==1)),.m _] ?_
 refine zci h (fun hc1 h=> ?_) (fun hc1 h=> ?_)
 refine zr [.v (.b true)] ?_
 exact zbg h
 refine zr [.v (.b (((t.k:Nat):Int)==3)),.m _] ?_
 refine zci h (fun hc2 h=> ?_) (fun hc2 h=> ?_)
 refine zr [.v (.ptr 0 7),.v (.L (t.l:List Tr))] ?_
 obtain⟨x1,hx1,h⟩:=zu h
 refine zbr (args':=[.L (t.l:List Tr),.clos 101 []]) (r:= .b x1) (qfe fuel (fun x=>z5o n x) t.l x1 101 (fun x y h=>nu1_sh n x y ih h) hx1) rfl rfl (zd (zet (Enc.cloL _)) (zd (show AV.clos _ (stripL _)=_ from congrArg (AV.clos _) rfl) rfl)) (za (zan (Enc.cloL _)) (za (show zaa _ _=true from rfl) rfl)) (by dsimp only[zh,List.set]) ?_
 refine w_r [.v (.b (!x1)),.m _] ?_
 exact zbg h
 refine zr [.v (.b (((t.k:Nat):Int)==4)),.m _] ?_
 refine zci h (fun hc3 h=> ?_) (fun hc3 h=> ?_)
 refine zr [.v (.ptr 0 7),.v (.L (t.l:List Tr))] ?_
 obtain⟨x2,hx2,h⟩:=zu h
 refine zbr (args':=[.L (t.l:List Tr),.clos 60 []]) (r:= .b x2) (qfe fuel (q1 zeu n) t.l x2 60 (fun x y h=>by obtain⟨h1,rfl⟩:=q1_some h;exact ih x h1) hx2) rfl rfl (zd (zet (Enc.cloL _)) (zd (show AV.clos _ (stripL _)=_ from congrArg (AV.clos _) rfl) rfl)) (za (zan (Enc.cloL _)) (za (show zaa _ _=true from rfl) rfl)) (by dsimp only[zh,List.set]) ?_
 refine zab ?_
 exact zbg h
 refine zr [.v (.b (((t.k:Nat):Int)==5)),.m _] ?_
 refine zci h (fun hc4 h=> ?_) (fun hc4 h=> ?_)
 refine zr [.v (.ptr 0 5),.v (.i t.mn),.v (.b (t.mn==0))] ?_
 refine zae h (fun hc5 h=> ?_) (fun hc5 h=> ?_)
 refine zbj hc5 ?_
 refine w_r [.p,.p,.p,.p,.p] ?_
 refine w_r [.v (.b true),.m _] ?_
 exact zbg h
 refine zbj hc5 ?_
 refine w_r [.v (.ptr 0 7),.v (.L (t.l:List Tr))] ?_
 refine zaf rfl rfl ?_
 obtain⟨g1,h⟩:=zi h
 obtain⟨x3,hx3,h⟩:=zo h
 refine zvo hx3 g1 ?_
 refine zaf rfl rfl ?_
 refine w_o (a:= .A (x3:Tr)) ?_
 refine zaf rfl rfl ?_
 obtain⟨g2,h⟩:=zi h
 obtain⟨x4,hx4,h⟩:=zo h
 refine zcq (args':=[.A (x3:Tr)]) (r:= .b x4) (by rw[←hx4];exact(ih x3 g2)) ?_
 refine w_r [.v (.b x4),.m _] ?_
 exact zbg h
 refine zr [.v (.b (((t.k:Nat):Int)==6)),.m _] ?_
 refine zci h (fun hc6 h=> ?_) (fun hc6 h=> ?_)
 refine zr [.v (.ptr 0 7),.v (.L (t.l:List Tr))] ?_
 obtain⟨g3,h⟩:=zi h
 obtain⟨x5,hx5,h⟩:=zo h
 refine zvo hx5 g3 ?_
 refine w_o (a:= .A (x5:Tr)) ?_
 obtain⟨g4,h⟩:=zi h
 obtain⟨x6,hx6,h⟩:=zo h
 refine zcq (args':=[.A (x5:Tr)]) (r:= .b x6) (by rw[←hx6];exact(ih x5 g4)) ?_
 refine zab ?_
 exact zbg h
 refine zr [.v (.b false)] ?_
 exact zbg h
def zsh (fuel:Nat)(n:Nat)(t:Tr):Option Tr:=
 (zdn (τ:=(List Tr)) (zbv (β:=(List Tr)×Int) (fun s1=>(bif (decide (s1.2<(List.length t.l:Int))) then(chk (0≤s1.2∧s1.2<(List.length t.l:Int)) (zbc (ix t.l s1.2) (fun x1=>(chk (((pre x1).length<n∧CS 998 x1)) (zbc (plT x1) (fun x2=>(chk ((List.length s1.1+List.length [x2])*80≤140737488355328) (chk (-9223372036854775808≤(s1.2+1)∧(s1.2+1)<9223372036854775808) (some (Sum.inl ((s1.1++[x2]),(s1.2+1)))))))))))) else(some (Sum.inr (Sum.inl (s1.1)))))) fuel (([]:(List Tr)),0)) (fun j1=>(bif (((t.k:Nat):Int)==3) then(chk ((zap j1).length≤2^40) (zbc (zlc j1) (fun x3=>(some x3)))) else(bif (((t.k:Nat):Int)==4) then(chk ((zap j1).length≤2^40) (zbc (orT j1) (fun x4=>(some x4)))) else(bif (((t.k:Nat):Int)==5) then(chk (0≤(0:Int)∧(0:Int)<(List.length j1:Int)) (zbc (ix j1 (0:Int)) (fun x5=>(chk ((pre x5).length<2^40) (zbc (zis x5 t.mn t.mx) (fun x6=>(some x6))))))) else(bif (((t.k:Nat):Int)==6) then(chk (0≤(0:Int)∧(0:Int)<(List.length j1:Int)) (zbc (ix j1 (0:Int)) (fun x7=>(some x7)))) else(chk ((pre t).length<2^61) (zbc (zvs t) (fun x8=>(some x8))))))))))
theorem ent52:Ent Tryz.prog 52:=enters_of Tryz.func52 (by kernel_rfl) rfl
theorem qgt (fuel:Nat)(n:Nat)(t:Tr)(r:Tr)(ih: ∀x:Tr,((pre x).length<n∧CS 998 x)→Pure (ITP Tryz.prog) Tryz.prog 52 [.A x] (.A (plT x)))(h:zsh fuel n t=some r):Pure (ITP Tryz.prog) Tryz.prog 52 [.A (t:Tr)] (.A (r:Tr)):=by
 unfold zsh at h
 refine zbd 45 mix Tryz.func52 ent52 ?_
 refine zf (zb ?_)
 refine zbz (a:= .ptr 0 0) (σ'':=(.B [(29,(Enc.cells (t:Tr)))])) ?_
 refine zbz (a:= .ptr 1 0) (σ'':=(.B [(29,(Enc.cells (t:Tr))),(29,[.u 0,.raw (.int .u64 0),.raw (.int .u64 0),.raw (.int .u64 0),.raw (.int .u64 0),.i 0,.i 0,.list 0 [] .full])])) ?_
 refine zr [.v (.list 0 [] .full)] ?_
 refine zau h (bz 0 46 70368744177657) (fun j1=>[(3,(.O (j1:List Tr)))]) (fun j1=>(zbs [(29,(Enc.cells (t:Tr))),(29,[.u 0,.raw (.int .u64 0),.raw (.int .u64 0),.raw (.int .u64 0),.raw (.int .u64 0),.i 0,.i 0,.list 0 [] .full])] 29 (List.length (j1:List Tr)) 8)) ?_ ?_
 intro or1 h hr1
 refine zr [.v (.ptr 0 7),.v (.L (t.l:List Tr)),.v (.i (List.length t.l:Int)),.v (.i 0)] ?_
 refine zp ?_
 refine zbx h (bz 0 46 70368744177273) (fun s1=>[(3,(.O (s1.1:List Tr))),(9,.i s1.2)]) (fun s1=>(zbs [(29,(Enc.cells (t:Tr))),(29,[.u 0,.raw (.int .u64 0),.raw (.int .u64 0),.raw (.int .u64 0),.raw (.int .u64 0),.i 0,.i 0,.list 0 [] .full])] 29 (List.length (s1.1:List Tr)) 8)) ?_ ?_
 exact zdl (bl 46 910)
 intro s1 p1 h
 refine zfj ?_
 refine zr [.v (.b (decide (s1.2<(List.length t.l:Int))))] ?_
 refine zf ?_
 refine zci h (fun hc1 h=> ?_) (fun hc1 h=> ?_)
 refine zf ?_
 refine zp ?_
 refine zf (zb ?_)
 obtain⟨g1,h⟩:=zi h
 obtain⟨x1,hx1,h⟩:=zo h
 refine zvo hx1 g1 ?_
 refine w_o (a:= .A (x1:Tr)) ?_
 refine zbz (a:= .ptr 2 0) (σ'':=(zbs [(29,(Enc.cells (t:Tr))),(29,[.u 0,.raw (.int .u64 0),.raw (.int .u64 0),.raw (.int .u64 0),.raw (.int .u64 0),.i 0,.i 0,.list 0 [] .full]),(29,[.u 0,.raw (.int .u64 0),.raw (.int .u64 0),.raw (.int .u64 0),.raw (.int .u64 0),.i 0,.i 0,.list 0 [] .full])] 29 (List.length (s1.1:List Tr)) 8)) ?_
 refine zcx 8 (zbs [(29,(Enc.cells (t:Tr))),(29,[.u 0,.raw (.int .u64 0),.raw (.int .u64 0),.raw (.int .u64 0),.raw (.int .u64 0),.i 0,.i 0,.list 0 [] .full]),(29,(Enc.cells (x1:Tr)))] 29 (List.length (s1.1:List Tr)) 8) ?_
 refine zb (k0:=0) (id:=5) ?_
 refine w_r [.m _,.v (.A (x1:Tr))] ?_
 obtain⟨g2,h⟩:=zi h
 obtain⟨x2,hx2,h⟩:=zo h
 refine zcq (args':=[.A (x1:Tr)]) (r:= .A (x2:Tr)) (by rw[←hx2];exact(ih x1 g2)) ?_
 refine w_o (a:= .F ([x2]:List Tr)) (h:=zbh (zev (α:=Tr) (l:=[x2]) (cs:=Enc.cells (x2:Tr)++[]) rfl (by rw[Enc.cons,Enc.nil]))) ?_
 obtain⟨g3,h⟩:=zi h
 refine zfp (a:=(.O ((s1.1++[x2]):List Tr))) (σ'':=(zbs [(29,(Enc.cells (t:Tr))),(29,[.u 0,.raw (.int .u64 0),.raw (.int .u64 0),.raw (.int .u64 0),.raw (.int .u64 0),.i 0,.i 0,.list 0 [] .full]),(29,(Enc.cells (x1:Tr)))] 29 (List.length ((s1.1++[x2]):List Tr)) 8)) rfl rfl rfl (zft rfl rfl rfl rfl (zdy (α:=Tr) (bs:=[(29,(Enc.cells (t:Tr))),(29,[.u 0,.raw (.int .u64 0),.raw (.int .u64 0),.raw (.int .u64 0),.raw (.int .u64 0),.i 0,.i 0,.list 0 [] .full]),(29,(Enc.cells (x1:Tr)))]) (a:=s1.1) (b:=[x2]) g3 rfl rfl rfl rfl rfl ⟨rfl,by decide⟩)) (by dsimp only[zh,List.set]) rfl ?_
 refine zab ?_
 refine zb (k0:=0) (id:=6) ?_
 obtain⟨g4,h⟩:=zi h
 refine zpe g4 ?_
 refine zab ?_
 refine zas (p:=p1) ((s1.1++[x2]),(s1.2+1)) h ?_
 exact zdd (bl 46 910) 2 (by kernel_rfl) (Nat.le_of_ble_eq_true rfl) (zbi (zt (zm _ _ (Enc.clo _)) (zt rfl rfl))) (by dsimp only[zac,zag,List.foldl,List.set,bz,bzc,Nat.reduceMod,Nat.reduceDiv,Nat.reduceBEq,Nat.reduceAdd];exact(za rfl (za (by decide) (za (by decide) (za (zcf (Enc.cloL _)) (za rfl (za rfl (za rfl (za (zan (Enc.cloL _)) (by kernel_rfl)))))))))) (by kernel_rfl)
 refine zw h (fun h=> ?_)
 refine zg (o:=or1) (s1.1) h ?_
 exact zdl (bl 46 14)
 intro j1 h
 refine zfj ?_
 refine zf ?_
 refine zr [.v (.ptr 0 0),.v (.u ((t.k:Nat):Int))] ?_
 refine zp ?_
 refine zr [.v (.b (((t.k:Nat):Int)==3)),.m _] ?_
 refine zci h (fun hc2 h=> ?_) (fun hc2 h=> ?_)
 refine zr [.m _] ?_
 obtain⟨g5,h⟩:=zi h
 obtain⟨x3,hx3,h⟩:=zo h
 refine zcq (args':=[.L (j1:List Tr)]) (r:= .A (x3:Tr)) (by rw[←hx3];exact(k_seq j1 g5)) ?_
 refine zcx 8 (zbs [(29,(Enc.cells (t:Tr))),(29,(Enc.cells (x3:Tr)))] 29 (List.length (j1:List Tr)) 8) ?_
 exact zax (fun(r:Tr)=> .A (r:Tr)) h (.A (x3:Tr))
 refine zr [.v (.b (((t.k:Nat):Int)==4)),.m _] ?_
 refine zci h (fun hc3 h=> ?_) (fun hc3 h=> ?_)
 refine zr [.m _] ?_
 obtain⟨g6,h⟩:=zi h
 obtain⟨x4,hx4,h⟩:=zo h
 refine zcq (args':=[.L (j1:List Tr)]) (r:= .A (x4:Tr)) (by rw[←hx4];exact(k_or j1 g6)) ?_
 refine zcx 8 (zbs [(29,(Enc.cells (t:Tr))),(29,(Enc.cells (x4:Tr)))] 29 (List.length (j1:List Tr)) 8) ?_
 exact zax (fun(r:Tr)=> .A (r:Tr)) h (.A (x4:Tr))
 refine zr [.v (.b (((t.k:Nat):Int)==5)),.m _] ?_
 refine zci h (fun hc4 h=> ?_) (fun hc4 h=> ?_)
 refine zf ?_
 refine zgc (k0:=0) (id:=13) 7 (by kernel_rfl) (by kernel_rfl) ?_
 refine zhd ?_
 obtain⟨g7,h⟩:=zi h
 obtain⟨x5,hx5,h⟩:=zo h
 refine h_o (a:= .iptr (Enc.cells x5++Enc.cellsL (List.drop (Int.toNat (0:Int)+1) j1))) (h:=by rw[←hx5];exact(qeh (α:=Tr) (l:=j1) g7 rfl rfl rfl rfl rfl)) ?_
 refine h_o (a:= .A (x5:Tr)) ?_
 refine h_o (a:= .ptr 0 5) ?_
 refine h_o (a:= .i t.mn) ?_
 refine h_o (a:= .ptr 0 6) ?_
 refine h_o (a:= .i t.mx) ?_
 refine zjo ?_
 obtain⟨g8,h⟩:=zi h
 obtain⟨x6,hx6,h⟩:=zo h
 refine zcq (args':=[.A (x5:Tr),.i t.mn,.i t.mx]) (r:= .A (x6:Tr)) (by rw[←hx6];exact(qde x5 t.mn t.mx g8)) ?_
 refine zcx 8 (zbs [(29,(Enc.cells (t:Tr))),(29,(Enc.cells (x6:Tr)))] 29 (List.length (j1:List Tr)) 8) ?_
 exact zax (fun(r:Tr)=> .A (r:Tr)) h (.A (x6:Tr))
 refine zr [.v (.b (((t.k:Nat):Int)==6)),.m _] ?_
 refine zci h (fun hc5 h=> ?_) (fun hc5 h=> ?_)
 refine zr [.m _] ?_
 obtain⟨g9,h⟩:=zi h
 obtain⟨x7,hx7,h⟩:=zo h
 refine w_o (a:= .iptr (Enc.cells x7++Enc.cellsL (List.drop (Int.toNat (0:Int)+1) j1))) (h:=zbh (by rw[←hx7];exact(qeh (α:=Tr) (l:=j1) g9 rfl rfl rfl rfl rfl))) ?_
 refine w_o (a:= .A (x7:Tr)) ?_
 refine zcx 8 (zbs [(29,(Enc.cells (t:Tr))),(29,(Enc.cells (x7:Tr)))] 29 (List.length (j1:List Tr)) 8) ?_
 exact zax (fun(r:Tr)=> .A (r:Tr)) h (.A (x7:Tr))
 refine zr [.v (.A (t:Tr))] ?_
 obtain⟨g10,h⟩:=zi h
 obtain⟨x8,hx8,h⟩:=zo h
 refine zcq (args':=[.A (t:Tr)]) (r:= .A (x8:Tr)) (by rw[←hx8];exact(k_copy t g10)) ?_
 refine zcx 8 (zbs [(29,(Enc.cells (t:Tr))),(29,(Enc.cells (x8:Tr)))] 29 (List.length (j1:List Tr)) 8) ?_
 exact zax (fun(r:Tr)=> .A (r:Tr)) h (.A (x8:Tr))
end Go.Ab
