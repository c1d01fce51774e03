/-
  derive: nullable, plain.
-/
import Derived.Test.YtfkkellnlmjenaaGreatZeBx
set_option linter.unusedSimpArgs false
set_option linter.unusedVariables false
namespace Go.Ab
open Go Go.RowKit Go.Fwd
def hdT (l:List Tr):Tr:=l.getD 0 noneT
mutual
def plT:Tr→Tr
 | .mk k s mn mx l=>bif (k:Int)==3 then zfc (plL l) else bif (k:Int)==4 then orT (plL l) else bif (k:Int)==5 then zdp (hdT (plL l)) mn mx else bif (k:Int)==6 then hdT (plL l) else zje (.mk k s mn mx l)
def plL:List Tr→List Tr
 |[]=>[]
 |x::l=>plT x::plL l
end
theorem qpu: ∀l:List Tr,plL l=l.map plT
 |[]=>rfl
 |x::l=>by rw[plL,qpu l,List.map_cons]
def zid (x:Tr)(mn mx:Int):Tr:=zdp x (max (mn-1) 0) (bif mx != -1 then mx-1 else mx)
mutual
def byT (c:Nat):Tr→List Tr
 | .mk k s mn mx l=>bif (k:Int)==2 then(bif s.getLsbD c then[emptyT] else[]) else bif (k:Int)==3 then zfw c l else bif (k:Int)==4 then zns c l else bif (k:Int)==5 then(z5t c l).map (fun t=>zfc [t,zid (hdT l) mn mx]) else[]
def zns (c:Nat):List Tr→List Tr
 |[]=>[]
 |x::l=>byT c x++zns c l
def z5t (c:Nat):List Tr→List Tr
 |[]=>[]
 |x::_=>byT c x
def zfw (c:Nat):List Tr→List Tr
 |[]=>[]
 |x::l=>(byT c x).map (fun t=>zfc [t,zfc l])++(bif nullT x then zfw c l else[])
end
theorem qbj (c:Nat): ∀l:List Tr,zns c l=l.flatMap (byT c)
 |[]=>rfl
 |x::l=>by rw[zns,qbj c l,List.flatMap_cons]
theorem z2x (c:Nat)(t:Tr):byT c t=(bif (t.k:Int)==2 then(bif t.s.getLsbD c then[emptyT] else[]) else bif (t.k:Int)==3 then zfw c t.l else bif (t.k:Int)==4 then t.l.flatMap (byT c) else bif (t.k:Int)==5 then(z5t c t.l).map (fun x=>zfc [x,zid (hdT t.l) t.mn t.mx]) else[]):=by
 obtain⟨k,s,mn,mx,l⟩:=t
 rw[byT,qbj];rfl
theorem z9j (t:Tr):plT t=(bif (t.k:Int)==3 then zfc (t.l.map plT) else bif (t.k:Int)==4 then orT (t.l.map plT) else bif (t.k:Int)==5 then zdp (hdT (t.l.map plT)) t.mn t.mx else bif (t.k:Int)==6 then hdT (t.l.map plT) else zje t):=by
 obtain⟨k,s,mn,mx,l⟩:=t
 rw[plT,qpu];rfl
instance (l:List Tr):Decidable (CRL l):=inferInstanceAs (Decidable (_=true))
instance (t:Tr):Decidable (CR t):=inferInstanceAs (Decidable (_=true))
instance (n:Nat)(t:Tr):Decidable (CS n t):=inferInstanceAs (Decidable (_∧_))
mutual
def tbT:Tr→Nat
 | .mk k s mn mx l=>bif (k:Int)==3 then tbL l else bif (k:Int)==5 then zic l+(zae l).length+2 else max (1+(zae l).length) (zic l)
def tbL:List Tr→Nat
 |[]=>1
 |x::l=>max (tbT x+(zae l).length+(if l.isEmpty=true then 0 else 1)) (tbL l)
def zic:List Tr→Nat
 |[]=>0
 |x::l=>max (tbT x) (zic l)
end
def BO (t:Tr):Prop:=CR t∧tbT t≤4000
instance (t:Tr):Decidable (BO t):=inferInstanceAs (Decidable (_∧_))
theorem z2c {t:Tr} (h:t.k=3):tbT t=tbL t.l:=by obtain⟨k,s,mn,mx,l⟩:=t;simp only[Tr.k] at h;subst h;rw[tbT];rfl
theorem z2w {t:Tr} (h:t.k=5):tbT t=zic t.l+(zae t.l).length+2:=by obtain⟨k,s,mn,mx,l⟩:=t;simp only[Tr.k] at h;subst h;rw[tbT];rfl
theorem zuj {t:Tr} (h3:t.k≠3)(h5:t.k≠5):tbT t=max (1+(zae t.l).length) (zic t.l):=by
 obtain⟨k,s,mn,mx,l⟩:=t
 simp only[Tr.k] at h3 h5
 rw[tbT,show((k:Int)==3)=false by simp;omega,show((k:Int)==5)=false by simp;omega];rfl
theorem zlu: ∀ {l:List Tr} {x:Tr},x∈l→tbT x≤zic l
 | y::l,x,h=>by
  rw[zic]
  rcases List.mem_cons.1 h with rfl|h
  ·omega
  ·have:=zlu h;omega
theorem qgx: ∀l:List Tr,1≤tbL l
 |[]=>by rw[tbL];omega
 |x::l=>by rw[tbL];have:=qgx l;omega
theorem z0v (t:Tr):1≤tbT t:=by
 by_cases h3:t.k=3
 ·rw[z2c h3];exact qgx _
 ·by_cases h5:t.k=5
  ·rw[z2w h5];omega
  ·rw[zuj h3 h5];omega
theorem qpw: ∀a b:List Tr,tbL (a++b)≤max (tbL a+(zae b).length+(if b.isEmpty=true then 0 else 1)) (tbL b)
 |[],b=>by rw[List.nil_append];omega
 | x::a,b=>by
  have ih:=qpw a b
  rw[List.cons_append,tbL,tbL,zbg,List.length_append]
  cases b with
  |nil=>simp only[List.append_nil,List.isEmpty_nil,if_true] at ih⊢;omega
  | cons y b=>
   have e:(a++y::b).isEmpty=false:=by simp
   rw[e]
   simp only[List.isEmpty_cons,Bool.false_eq_true,if_false] at ih⊢
   split<;>omega
theorem qfk : ∀ (n : Nat) (t:Tr),(pre t).length≤n→CR t→(pre t).length≤tbT t
  | 0, t, hn, _ => by have:0<(pre t).length:=by rw[zcq];simp
                      omega
  | n + 1,t,hn,h=>by
    have hp:(pre t).length=1+(zae t.l).length:=by rw[zcq,List.length_cons];omega
    by_cases h3:t.k=3
    · have hc:=zer ((zbc t).1 h).1 h3
      have hs:=((zbc t).1 h).2
      rw[z2c h3]
      cases hl:t.l with
      |nil=>rw[hl] at hc;simp at hc
      | cons x l=>
        rw[hl] at hc hp hs
        have:=qfk n x (by rw[zae,List.length_append] at hp;omega) ((zaq _ _).1 hs).1
        have he:l.isEmpty=false:=by cases l with|nil=>simp at hc|cons y l=>rfl
        rw[tbL,he]
        rw[zae,List.length_append] at hp
        simp only[Bool.false_eq_true,if_false];omega
    · by_cases h5:t.k=5
      · rw[z2w h5];omega
      · rw[zuj h3 h5];omega
theorem CR.tb {t:Tr} (h:CR t):(pre t).length≤tbT t:=qfk _ t (Nat.le_refl _) h
theorem zrh {l:List Tr} (h:CRL l)(hl:(zae l).length≤9998):zfc l=zmw 3 (zar 3 l):=by
 have hcl: ∀x∈l,zch x=true:=fun x hx=>zij ((zdi l).1 h x hx) (by have:=zbq hx;omega)
 have hno:(l.any fun x=>(x.k:Int)==0|| !zch x)=false:=by
  rw[List.any_eq_false]
  intro x hx
  have h1:=((zdi l).1 h x hx).k0
  have h2:=hcl x hx
  simp[h2];omega
 have hG:=ziq h
 have hs:=zez 3 l
 have hE:=zmc hG
 have hL:=zhm 3 (zar 3 l)
 have hce:zch (zmw 3 (zar 3 l))=true:=zij hE (by omega)
 unfold zfc
 rw[if_neg (by rw[hno];simp),flatT3]
 unfold zpx
 unfold zmw at hce⊢
 cases c1:((zar 3 l).length:Int)==0 with
 |true=>rfl
 | false=>
  rw[c1] at hce
  simp only[cond_false] at hce⊢
  cases c2:((zar 3 l).length:Int)==1 with
  |true=>rw[c2] at hce;simp only[cond_true] at hce⊢;exact zkh hce
  |false=>rw[c2] at hce;simp only[cond_false] at hce⊢;exact zkh hce
theorem qcn {t:Tr} (h:CR t):tbL (zar 3 [t])=tbT t:=by
 by_cases h3:t.k=3
 ·rw[z2c h3];simp[zbv,zhz,h3]
 ·by_cases h1:t.k=1
  ·have:=qew h h1;subst this;simp[zbv,zhz,emptyT,Tr.k,tbL,tbT,zae,zic]
  ·have e:zar 3 [t]=[t]:=by rw[zbv,zhz,show((t.k:Int)==((3:Nat):Int))=false by simp;omega,show((t.k:Int)==1)=false by simp;omega];rfl
   rw[e,tbL,tbL,zae];have:=z0v t;simp;omega
theorem qpa: ∀m:List Tr,tbT (zmw 3 m)=tbL m
 |[]=>by rw[show zmw 3 []=emptyT from rfl];simp[emptyT,tbT,tbL,zae,zic]
 |[x]=>by rw[zga,tbL,tbL,zae];have:=z0v x;simp;omega
 |x::y::l=>by rw[zen,z2c rfl];rfl
theorem zzi {a z:Tr} (ha:CR a)(hz:CR z)(hl:(pre a).length+(pre z).length≤9998):
 CR (zfc [a,z])∧tbT (zfc [a,z])≤max (tbT a+(zae (zar 3 [z])).length+(if(zar 3 [z]).isEmpty=true then 0 else 1)) (tbT z):=by
 have hc:CRL [a,z]:=(zdi _).2 (by simp[ha,hz])
 have hL:(zae [a,z]).length≤9998:=by simp[zae];omega
 rw[zrh hc hL]
 refine⟨zmc (ziq hc),?_⟩
 rw[qpa,show zar 3 [a,z]=zar 3 [a]++zar 3 [z] by rw[←zlq];rfl]
 have:=qpw (zar 3 [a]) (zar 3 [z])
 rw[qcn ha,qcn hz] at this
 exact this
end Go.Ab
namespace Go.Ab
open Go Go.RowKit Go.Fwd Go.Proofs
theorem qoy {α:Type} [Enc α] {P:Program} {ρ:Operand→AV} {σ:St} {o:Oper} {c:Call} {x:Operand} {t e:TypeId} {l:List α} {b sz:Nat} (ho:o.op= .call c)(hc:c.callee= .builtin .len)(ha:c.args.toList=[x])(ht:c.argTypes.toList=[t])(hx:ρ x=zvu b l.length sz)(hu:P.underlying t=some (.slice e)):
 qop P ρ σ o=some (.raw (.int .i64 (l.length:Int))):=by
 cases l with
 | nil=>
  have hx:ρ x= .list 0 [] .full:=hx
  simp[qop,ho,hc,ha,ht,hx,qkr,hu]
 | cons y l=>
  have hx:ρ x= .bsl b 0 (l.length+1) sz false:=hx
  simp[qop,ho,hc,ha,ht,hx,qkr,hu]
theorem qgb {α:Type} [Enc α] {l:List α} (h:0<l.length):zfs l.length (Enc.cellsL l)= .list l.length (Enc.cellsL l) (.own 0):=by
 unfold zfs;rw[if_neg (by omega)]
theorem qhw {α:Type} [Enc α] {P:Program} {ρ:Operand→AV} {σ:St} {o:Oper} {t e:TypeId} {x i:Operand} {l:List α} {k:IntKind} {n:Int} (hb:0≤n∧n<l.length)(ho:o.op= .indexAddr t x i)(hx:ρ x=zfs l.length (Enc.cellsL l))(hi:ρ i= .raw (.int k n))(hu:P.underlying t=some (.slice e))(hs:zds P e=some (Enc.sz α)):
 qop P ρ σ o=some (.iptr (Enc.cells (ix l n)++Enc.cellsL (l.drop (n.toNat+1)))):=z3w hb ho (hx.trans (qgb (by omega))) hi hu hs
theorem pos_of0 {α:Type} {l:List α} (h:((l.length:Int)==0)=false):0<l.length:=by
 have: ¬((l.length:Int)=0):=by simpa using h
 omega
def lbU (n:Nat):List UInt8:=(zwj (n%12)).map UInt8.ofNat
def clsU (l:List UInt8):Tr:=z9p (l.map UInt8.toNat)
def clsA:List (List UInt8):=[[97],[98],[97,98],[99],[97,98,99],[98,99],[10],[0,255],[]]
theorem qkf: ∀n:Nat,n<256→lbU n∈clsA∧bsOf ((lbU n).map UInt8.toNat)=bsOf (zwj (n%12)):=by decide+kernel
theorem clsU_lb (n:Nat)(h:n<256):clsU (lbU n)=z9p (zwj (n%12)):=by rw[clsU,z9p,(qkf n h).2];rfl
noncomputable def run1 (f:Nat)(args:List AV)(r:AV):Bool:=match zna Tryz.prog noP (evQ true Tryz.prog noP noS 300) f args with
 |some x=>z7y x r
 |none=>false
theorem qfz {f:Nat} {args:List AV} {r:AV} (h:run1 f args r=true):Pure (ITP Tryz.prog) Tryz.prog f args r:=by
 unfold run1 at h
 split at h
 ·rename_i x hx
  rw[qex _ _ h] at hx
  exact zam true z2a 300 hx
 ·cases h
theorem let_tab:((List.range 256).all fun n=>run1 48 [.raw (.int .u8 (n:Int))] (.raw (.string (bs (lbU n)))))=true:=by kernel_rfl
theorem qeq (n:Int)(h:0≤n∧n<256):Pure (ITP Tryz.prog) Tryz.prog 48 [.raw (.int .u8 n)] (.raw (.string (bs (lbU n.toNat)))):=by
 obtain⟨m,rfl⟩: ∃m:Nat,n=m:=⟨n.toNat,by omega⟩
 rw[Int.toNat_natCast]
 exact qfz (List.all_eq_true.1 let_tab m (List.mem_range.2 (by omega)))
theorem cls_tab:(clsA.all fun l=>run1 47 [.raw (.string (bs l))] (.agg (Enc.cells (clsU l))))=true:=by kernel_rfl
theorem zvs (l:List UInt8)(h:l∈clsA):Pure (ITP Tryz.prog) Tryz.prog 47 [.raw (.string (bs l))] (.agg (Enc.cells (clsU l))):=qfz (List.all_eq_true.1 cls_tab l h)
end Go.Ab
set_option maxRecDepth 100000
set_option maxHeartbeats 4000000
namespace Go.Ab
open Go Go.RowKit Go.Fwd Go.Proofs
def z6j (n:Nat)(x:Tr):Option Bool:=
 (chk (((pre x).length<n∧crT x=true)) (zba (nullT x) (fun x1=>(some (!x1)))))
theorem ent101:Ent Tryz.prog 101:=enters_of Tryz.func101 (by kernel_rfl) rfl
theorem nu1_sh (n:Nat)(x:Tr)(r:Bool)(ih: ∀x:Tr,((pre x).length<n∧crT x=true)→Pure (ITP Tryz.prog) Tryz.prog 60 [.A x] (.raw (.bool (nullT x))))(h:z6j n x=some r):Pure (ITP Tryz.prog) Tryz.prog 101 [.A (x:Tr)] (.raw (.bool r)):=by
 unfold z6j at h
 refine zav 5 mix Tryz.func101 ent101 ?_
 refine zf (zb ?_)
 refine zbs (a:= .ptr 0 0) (σ'':=(.B [(29,(Enc.cells (x:Tr)))])) ?_
 refine w_o (a:= .b false) ?_
 refine zo [.v (.A (x:Tr))] ?_
 obtain⟨g1,h⟩:=zh h
 obtain⟨x1,hx1,h⟩:=zl h
 refine zce (args':=[.A (x:Tr)]) (r:= .b x1) (by rw[←hx1];exact(ih x g1)) ?_
 refine w_r [.v (.b (!x1)),.m _] ?_
 exact zbb h
def z0s (fuel:Nat)(n:Nat)(t:Tr):Option Bool:=
 (bif (((t.k:Nat):Int)==1) then(some true) else(bif (((t.k:Nat):Int)==3) then(zau (z7w fuel (fun x=>z6j n x) t.l) (fun x1=>(some (!x1)))) else(bif (((t.k:Nat):Int)==4) then(zau (z7w fuel (q1 nullT n) t.l) (fun x2=>(some x2))) else(bif (((t.k:Nat):Int)==5) then(bif (t.mn==0) then(some true) else(chk (0≤(0:Int)∧(0:Int)<(List.length t.l:Int)) (zba (ix t.l (0:Int)) (fun x3=>(chk (((pre x3).length<n∧crT x3=true)) (zba (nullT x3) (fun x4=>(some x4)))))))) else(bif (((t.k:Nat):Int)==6) then(chk (0≤(0:Int)∧(0:Int)<(List.length t.l:Int)) (zba (ix t.l (0:Int)) (fun x5=>(chk (((pre x5).length<n∧crT x5=true)) (zba (nullT x5) (fun x6=>(some x6))))))) else(some false))))))
theorem ent60:Ent Tryz.prog 60:=enters_of Tryz.func60 (by kernel_rfl) rfl
theorem qob (fuel:Nat)(n:Nat)(t:Tr)(r:Bool)(ih: ∀x:Tr,((pre x).length<n∧crT x=true)→Pure (ITP Tryz.prog) Tryz.prog 60 [.A x] (.raw (.bool (nullT x))))(h:z0s fuel n t=some r):Pure (ITP Tryz.prog) Tryz.prog 60 [.A (t:Tr)] (.raw (.bool r)):=by
 unfold z0s at h
 refine zav 36 mix Tryz.func60 ent60 ?_
 refine zf (zb ?_)
 refine zbs (a:= .ptr 0 0) (σ'':=(.B [(29,(Enc.cells (t:Tr)))])) ?_
 refine w_o (a:= .b false) ?_
 refine zf ?_
 refine zo [.v (.ptr 0 0),.v (.u ((t.k:Nat):Int))] ?_
 refine zn ?_
 refine zo [.v (.b (((t.k:Nat):Int)==1)),.m _] ?_
 refine zbz h (fun hc1 h=> ?_) (fun hc1 h=> ?_)
 refine zo [.v (.b true)] ?_
 exact zbb h
 refine zo [.v (.b (((t.k:Nat):Int)==3)),.m _] ?_
 refine zbz h (fun hc2 h=> ?_) (fun hc2 h=> ?_)
 refine zo [.v (.ptr 0 7),.v (.L (t.l:List Tr))] ?_
 obtain⟨x1,hx1,h⟩:=zt h
 refine zdk (args':=[.L (t.l:List Tr),.clos 101 []]) (r:= .b x1) (qgp fuel (fun x=>z6j n x) t.l x1 101 (fun x y h=>nu1_sh n x y ih h) hx1) rfl rfl (ze (zge (Enc.cloL _)) (ze (show AV.clos _ (stripL _)=_ from congrArg (AV.clos _) rfl) rfl)) (za (zao (Enc.cloL _)) (za (show zu _ _=true from rfl) rfl)) (by dsimp only[zab,List.set]) ?_
 refine w_r [.v (.b (!x1)),.m _] ?_
 exact zbb h
 refine zo [.v (.b (((t.k:Nat):Int)==4)),.m _] ?_
 refine zbz h (fun hc3 h=> ?_) (fun hc3 h=> ?_)
 refine zo [.v (.ptr 0 7),.v (.L (t.l:List Tr))] ?_
 obtain⟨x2,hx2,h⟩:=zt h
 refine zdk (args':=[.L (t.l:List Tr),.clos 60 []]) (r:= .b x2) (qgp fuel (q1 nullT n) t.l x2 60 (fun x y h=>by obtain⟨h1,rfl⟩:=q1_some h;exact ih x h1) hx2) rfl rfl (ze (zge (Enc.cloL _)) (ze (show AV.clos _ (stripL _)=_ from congrArg (AV.clos _) rfl) rfl)) (za (zao (Enc.cloL _)) (za (show zu _ _=true from rfl) rfl)) (by dsimp only[zab,List.set]) ?_
 refine zaj ?_
 exact zbb h
 refine zo [.v (.b (((t.k:Nat):Int)==5)),.m _] ?_
 refine zbz h (fun hc4 h=> ?_) (fun hc4 h=> ?_)
 refine zo [.v (.ptr 0 5),.v (.i t.mn),.v (.b (t.mn==0))] ?_
 refine zac h (fun hc5 h=> ?_) (fun hc5 h=> ?_)
 refine zbe hc5 ?_
 refine w_r [.p,.p,.p,.p,.p] ?_
 refine w_r [.v (.b true),.m _] ?_
 exact zbb h
 refine zbe hc5 ?_
 refine w_r [.v (.ptr 0 7),.v (.L (t.l:List Tr))] ?_
 refine zak rfl rfl ?_
 obtain⟨g1,h⟩:=zh h
 obtain⟨x3,hx3,h⟩:=zl h
 refine zwc hx3 g1 ?_
 refine zak rfl rfl ?_
 refine w_o (a:= .A (x3:Tr)) ?_
 refine zak rfl rfl ?_
 obtain⟨g2,h⟩:=zh h
 obtain⟨x4,hx4,h⟩:=zl h
 refine zce (args':=[.A (x3:Tr)]) (r:= .b x4) (by rw[←hx4];exact(ih x3 g2)) ?_
 refine w_r [.v (.b x4),.m _] ?_
 exact zbb h
 refine zo [.v (.b (((t.k:Nat):Int)==6)),.m _] ?_
 refine zbz h (fun hc6 h=> ?_) (fun hc6 h=> ?_)
 refine zo [.v (.ptr 0 7),.v (.L (t.l:List Tr))] ?_
 obtain⟨g3,h⟩:=zh h
 obtain⟨x5,hx5,h⟩:=zl h
 refine zwc hx5 g3 ?_
 refine w_o (a:= .A (x5:Tr)) ?_
 obtain⟨g4,h⟩:=zh h
 obtain⟨x6,hx6,h⟩:=zl h
 refine zce (args':=[.A (x5:Tr)]) (r:= .b x6) (by rw[←hx6];exact(ih x5 g4)) ?_
 refine zaj ?_
 exact zbb h
 refine zo [.v (.b false)] ?_
 exact zbb h
def zsj (fuel:Nat)(n:Nat)(t:Tr):Option Tr:=
 (zeb (τ:=(List Tr)) (zcc (β:=(List Tr)×Int) (fun s1=>(bif (decide (s1.2<(List.length t.l:Int))) then(chk (0≤s1.2∧s1.2<(List.length t.l:Int)) (zba (ix t.l s1.2) (fun x1=>(chk (((pre x1).length<n∧CS 998 x1)) (zba (plT x1) (fun x2=>(chk ((List.length s1.1+List.length [x2])*80≤140737488355328) (chk (-9223372036854775808≤(s1.2+1)∧(s1.2+1)<9223372036854775808) (some (Sum.inl ((s1.1++[x2]),(s1.2+1)))))))))))) else(some (Sum.inr (Sum.inl (s1.1)))))) fuel (([]:(List Tr)),0)) (fun j1=>(bif (((t.k:Nat):Int)==3) then(chk ((zae j1).length≤2^40) (zba (zfc j1) (fun x3=>(some x3)))) else(bif (((t.k:Nat):Int)==4) then(chk ((zae j1).length≤2^40) (zba (orT j1) (fun x4=>(some x4)))) else(bif (((t.k:Nat):Int)==5) then(chk (0≤(0:Int)∧(0:Int)<(List.length j1:Int)) (zba (ix j1 (0:Int)) (fun x5=>(chk ((pre x5).length<2^40) (zba (zdp x5 t.mn t.mx) (fun x6=>(some x6))))))) else(bif (((t.k:Nat):Int)==6) then(chk (0≤(0:Int)∧(0:Int)<(List.length j1:Int)) (zba (ix j1 (0:Int)) (fun x7=>(some x7)))) else(chk ((pre t).length<2^61) (zba (zje t) (fun x8=>(some x8))))))))))
theorem ent52:Ent Tryz.prog 52:=enters_of Tryz.func52 (by kernel_rfl) rfl
theorem qka (fuel:Nat)(n:Nat)(t:Tr)(r:Tr)(ih: ∀x:Tr,((pre x).length<n∧CS 998 x)→Pure (ITP Tryz.prog) Tryz.prog 52 [.A x] (.A (plT x)))(h:zsj fuel n t=some r):Pure (ITP Tryz.prog) Tryz.prog 52 [.A (t:Tr)] (.A (r:Tr)):=by
 unfold zsj at h
 refine zav 45 mix Tryz.func52 ent52 ?_
 refine zf (zb ?_)
 refine zbs (a:= .ptr 0 0) (σ'':=(.B [(29,(Enc.cells (t:Tr)))])) ?_
 refine zbs (a:= .ptr 1 0) (σ'':=(.B [(29,(Enc.cells (t:Tr))),(29,[.u 0,.raw (.int .u64 0),.raw (.int .u64 0),.raw (.int .u64 0),.raw (.int .u64 0),.i 0,.i 0,.list 0 [] .full])])) ?_
 refine zo [.v (.list 0 [] .full)] ?_
 refine zas h (bz 0 46 70368744177657) (fun j1=>[(3,(.O (j1:List Tr)))]) (fun j1=>(zcx [(29,(Enc.cells (t:Tr))),(29,[.u 0,.raw (.int .u64 0),.raw (.int .u64 0),.raw (.int .u64 0),.raw (.int .u64 0),.i 0,.i 0,.list 0 [] .full])] 29 (List.length (j1:List Tr)) 8)) ?_ ?_
 intro or1 h hr1
 refine zo [.v (.ptr 0 7),.v (.L (t.l:List Tr)),.v (.i (List.length t.l:Int)),.v (.i 0)] ?_
 refine zn ?_
 refine zcb h (bz 0 46 70368744177273) (fun s1=>[(3,(.O (s1.1:List Tr))),(9,.i s1.2)]) (fun s1=>(zcx [(29,(Enc.cells (t:Tr))),(29,[.u 0,.raw (.int .u64 0),.raw (.int .u64 0),.raw (.int .u64 0),.raw (.int .u64 0),.i 0,.i 0,.list 0 [] .full])] 29 (List.length (s1.1:List Tr)) 8)) ?_ ?_
 exact zdo (bl 46 910)
 intro s1 p1 h
 refine zfu ?_
 refine zo [.v (.b (decide (s1.2<(List.length t.l:Int))))] ?_
 refine zf ?_
 refine zbz h (fun hc1 h=> ?_) (fun hc1 h=> ?_)
 refine zf ?_
 refine zn ?_
 refine zf (zb ?_)
 obtain⟨g1,h⟩:=zh h
 obtain⟨x1,hx1,h⟩:=zl h
 refine zwc hx1 g1 ?_
 refine w_o (a:= .A (x1:Tr)) ?_
 refine zbs (a:= .ptr 2 0) (σ'':=(zcx [(29,(Enc.cells (t:Tr))),(29,[.u 0,.raw (.int .u64 0),.raw (.int .u64 0),.raw (.int .u64 0),.raw (.int .u64 0),.i 0,.i 0,.list 0 [] .full]),(29,[.u 0,.raw (.int .u64 0),.raw (.int .u64 0),.raw (.int .u64 0),.raw (.int .u64 0),.i 0,.i 0,.list 0 [] .full])] 29 (List.length (s1.1:List Tr)) 8)) ?_
 refine zcs 8 (zcx [(29,(Enc.cells (t:Tr))),(29,[.u 0,.raw (.int .u64 0),.raw (.int .u64 0),.raw (.int .u64 0),.raw (.int .u64 0),.i 0,.i 0,.list 0 [] .full]),(29,(Enc.cells (x1:Tr)))] 29 (List.length (s1.1:List Tr)) 8) ?_
 refine zb (k0:=0) (id:=5) ?_
 refine w_r [.m _,.v (.A (x1:Tr))] ?_
 obtain⟨g2,h⟩:=zh h
 obtain⟨x2,hx2,h⟩:=zl h
 refine zce (args':=[.A (x1:Tr)]) (r:= .A (x2:Tr)) (by rw[←hx2];exact(ih x1 g2)) ?_
 refine w_o (a:= .F ([x2]:List Tr)) (h:=zbu (zhc (α:=Tr) (l:=[x2]) (cs:=Enc.cells (x2:Tr)++[]) rfl (by rw[Enc.cons,Enc.nil]))) ?_
 obtain⟨g3,h⟩:=zh h
 refine znz (a:=(.O ((s1.1++[x2]):List Tr))) (σ'':=(zcx [(29,(Enc.cells (t:Tr))),(29,[.u 0,.raw (.int .u64 0),.raw (.int .u64 0),.raw (.int .u64 0),.raw (.int .u64 0),.i 0,.i 0,.list 0 [] .full]),(29,(Enc.cells (x1:Tr)))] 29 (List.length ((s1.1++[x2]):List Tr)) 8)) rfl rfl rfl (zgx rfl rfl rfl rfl (zep (α:=Tr) (bs:=[(29,(Enc.cells (t:Tr))),(29,[.u 0,.raw (.int .u64 0),.raw (.int .u64 0),.raw (.int .u64 0),.raw (.int .u64 0),.i 0,.i 0,.list 0 [] .full]),(29,(Enc.cells (x1:Tr)))]) (a:=s1.1) (b:=[x2]) g3 rfl rfl rfl rfl rfl ⟨rfl,by decide⟩)) (by dsimp only[zab,List.set]) rfl ?_
 refine zaj ?_
 refine zb (k0:=0) (id:=6) ?_
 obtain⟨g4,h⟩:=zh h
 refine zql g4 ?_
 refine zaj ?_
 refine zat (p:=p1) ((s1.1++[x2]),(s1.2+1)) h ?_
 exact zdt (bl 46 910) 2 (by kernel_rfl) (Nat.le_of_ble_eq_true rfl) (zbl (zr (zk _ _ (Enc.clo _)) (zr rfl rfl))) (by dsimp only[zz,zai,List.foldl,List.set,bz,bzc,Nat.reduceMod,Nat.reduceDiv,Nat.reduceBEq,Nat.reduceAdd];exact(za rfl (za (by decide) (za (by decide) (za (zca (Enc.cloL _)) (za rfl (za rfl (za rfl (za (zao (Enc.cloL _)) (by kernel_rfl)))))))))) (by kernel_rfl)
 refine zaa h (fun h=> ?_)
 refine zg (o:=or1) (s1.1) h ?_
 exact zdo (bl 46 14)
 intro j1 h
 refine zfu ?_
 refine zf ?_
 refine zo [.v (.ptr 0 0),.v (.u ((t.k:Nat):Int))] ?_
 refine zn ?_
 refine zo [.v (.b (((t.k:Nat):Int)==3)),.m _] ?_
 refine zbz h (fun hc2 h=> ?_) (fun hc2 h=> ?_)
 refine zo [.m _] ?_
 obtain⟨g5,h⟩:=zh h
 obtain⟨x3,hx3,h⟩:=zl h
 refine zce (args':=[.L (j1:List Tr)]) (r:= .A (x3:Tr)) (by rw[←hx3];exact(k_seq j1 g5)) ?_
 refine zcs 8 (zcx [(29,(Enc.cells (t:Tr))),(29,(Enc.cells (x3:Tr)))] 29 (List.length (j1:List Tr)) 8) ?_
 exact zax (fun(r:Tr)=> .A (r:Tr)) h (.A (x3:Tr))
 refine zo [.v (.b (((t.k:Nat):Int)==4)),.m _] ?_
 refine zbz h (fun hc3 h=> ?_) (fun hc3 h=> ?_)
 refine zo [.m _] ?_
 obtain⟨g6,h⟩:=zh h
 obtain⟨x4,hx4,h⟩:=zl h
 refine zce (args':=[.L (j1:List Tr)]) (r:= .A (x4:Tr)) (by rw[←hx4];exact(k_or j1 g6)) ?_
 refine zcs 8 (zcx [(29,(Enc.cells (t:Tr))),(29,(Enc.cells (x4:Tr)))] 29 (List.length (j1:List Tr)) 8) ?_
 exact zax (fun(r:Tr)=> .A (r:Tr)) h (.A (x4:Tr))
 refine zo [.v (.b (((t.k:Nat):Int)==5)),.m _] ?_
 refine zbz h (fun hc4 h=> ?_) (fun hc4 h=> ?_)
 refine zf ?_
 refine zgs (k0:=0) (id:=13) 7 (by kernel_rfl) (by kernel_rfl) ?_
 refine zel ?_
 obtain⟨g7,h⟩:=zh h
 obtain⟨x5,hx5,h⟩:=zl h
 refine h_o (a:= .iptr (Enc.cells x5++Enc.cellsL (List.drop (Int.toNat (0:Int)+1) j1))) (h:=by rw[←hx5];exact(qhw (α:=Tr) (l:=j1) g7 rfl rfl rfl rfl rfl)) ?_
 refine h_o (a:= .A (x5:Tr)) ?_
 refine h_o (a:= .ptr 0 5) ?_
 refine h_o (a:= .i t.mn) ?_
 refine h_o (a:= .ptr 0 6) ?_
 refine h_o (a:= .i t.mx) ?_
 refine zhw ?_
 obtain⟨g8,h⟩:=zh h
 obtain⟨x6,hx6,h⟩:=zl h
 refine zce (args':=[.A (x5:Tr),.i t.mn,.i t.mx]) (r:= .A (x6:Tr)) (by rw[←hx6];exact(qdy x5 t.mn t.mx g8)) ?_
 refine zcs 8 (zcx [(29,(Enc.cells (t:Tr))),(29,(Enc.cells (x6:Tr)))] 29 (List.length (j1:List Tr)) 8) ?_
 exact zax (fun(r:Tr)=> .A (r:Tr)) h (.A (x6:Tr))
 refine zo [.v (.b (((t.k:Nat):Int)==6)),.m _] ?_
 refine zbz h (fun hc5 h=> ?_) (fun hc5 h=> ?_)
 refine zo [.m _] ?_
 obtain⟨g9,h⟩:=zh h
 obtain⟨x7,hx7,h⟩:=zl h
 refine w_o (a:= .iptr (Enc.cells x7++Enc.cellsL (List.drop (Int.toNat (0:Int)+1) j1))) (h:=zbu (by rw[←hx7];exact(qhw (α:=Tr) (l:=j1) g9 rfl rfl rfl rfl rfl))) ?_
 refine w_o (a:= .A (x7:Tr)) ?_
 refine zcs 8 (zcx [(29,(Enc.cells (t:Tr))),(29,(Enc.cells (x7:Tr)))] 29 (List.length (j1:List Tr)) 8) ?_
 exact zax (fun(r:Tr)=> .A (r:Tr)) h (.A (x7:Tr))
 refine zo [.v (.A (t:Tr))] ?_
 obtain⟨g10,h⟩:=zh h
 obtain⟨x8,hx8,h⟩:=zl h
 refine zce (args':=[.A (t:Tr)]) (r:= .A (x8:Tr)) (by rw[←hx8];exact(k_copy t g10)) ?_
 refine zcs 8 (zcx [(29,(Enc.cells (t:Tr))),(29,(Enc.cells (x8:Tr)))] 29 (List.length (j1:List Tr)) 8) ?_
 exact zax (fun(r:Tr)=> .A (r:Tr)) h (.A (x8:Tr))
end Go.Ab
