import Derived.Test.YtnoccnalocdldaaDoorZgL1
import Derived.Deep.Slices
import Derived.Deep.Fields
import Derived.ChangeSame
import Derived.Test.YtnoccnalocdldaaDoorRows
import Derived.Deep.DeepHandedRow
import Derived.Deep.DeepWitnessRowRef
import Derived.ProofKit
import Derived.SizedLaws
import Derived.Laws.IdiomArrays
import Derived.HandedShaped
import Derived.Shelf.Vars
import Derived.ChangeMaps
import Derived.Test.YtnoccnalocdldaaDoorCards
import Derived.Test.YtnoccnalocdldaaDoorTie
import Derived.SevenTiedAt
set_option linter.all false
set_option maxRecDepth 100000
namespace Go.Ab
open Go Go.RowKit Go.Fwd Go.Proofs
def z3r (L ways:List UInt8):List UInt8×Int×BS→Option ((List UInt8×Int×BS) ⊕ ((List UInt8×BS) ⊕ Bool)):=
 (fun s1=>(bif (decide (s1.2.1<(List.length L:Int))) then(zdr (τ:=(List UInt8)×Int×BS) (chk (0≤s1.2.1∧s1.2.1<(List.length L:Int)) (zbi (ix L s1.2.1) (fun x2=>(chk (0≤s1.2.1∧s1.2.1<(List.length L:Int)) (zbi (ix L s1.2.1) (fun x3=>(chk (0≤(((x2).toNat:Nat):Int)∧(((x2).toNat:Nat):Int)<256) (zbi (zji (Int.toNat (((x2).toNat:Nat):Int))) (fun x4=>(chk (List.length s1.1+List.length x4≤9223372036854775807) (zdr (τ:=(List UInt8)×Int×Int) (chk (-9223372036854775808≤(s1.2.1+1)∧(s1.2.1+1)<9223372036854775808) (bif (decide ((s1.2.1+1)<(List.length L:Int))) then(bif (decide ((List.length ways:Int)>0)) then(chk ((0≤s1.2.1∧s1.2.1<9223372036854775808)∧0<(List.length ways:Int)) (chk (0≤(Int.tmod s1.2.1 (List.length ways:Int))∧(Int.tmod s1.2.1 (List.length ways:Int))<(List.length ways:Int)) (zbi (ix ways (Int.tmod s1.2.1 (List.length ways:Int))) (fun x5=>(bif ((Int.tmod (((x5).toNat:Nat):Int) 3)==0) then(chk (-9223372036854775808≤(s1.2.1+1)∧(s1.2.1+1)<9223372036854775808) (chk (0≤(s1.2.1+1)∧(s1.2.1+1)<(List.length L:Int)) (zbi (ix L (s1.2.1+1)) (fun x6=>(bif (decide ((((x6).toNat:Nat):Int)≥(((x2).toNat:Nat):Int))) then(chk (-9223372036854775808≤(s1.2.1+1)∧(s1.2.1+1)<9223372036854775808) (chk (0≤(s1.2.1+1)∧(s1.2.1+1)<(List.length L:Int)) (zbi (ix L (s1.2.1+1)) (fun x7=>(chk (0≤(((x7).toNat:Nat):Int)∧(((x7).toNat:Nat):Int)<256) (zbi (zji (Int.toNat (((x7).toNat:Nat):Int))) (fun x8=>(chk (List.length ([45]:List UInt8)+List.length x8≤9223372036854775807) (chk (List.length (s1.1++x4)+List.length (([45]:List UInt8)++x8)≤9223372036854775807) (chk (-9223372036854775808≤(s1.2.1+1)∧(s1.2.1+1)<9223372036854775808) (some (Sum.inl (((s1.1++x4)++(([45]:List UInt8)++x8)),(s1.2.1+1),(((x7).toNat:Nat):Int)))))))))))))) else(some (Sum.inl ((s1.1++x4),s1.2.1,(((x3).toNat:Nat):Int))))))))) else(some (Sum.inl ((s1.1++x4),s1.2.1,(((x3).toNat:Nat):Int))))))))) else(some (Sum.inl ((s1.1++x4),s1.2.1,(((x3).toNat:Nat):Int))))) else(some (Sum.inl ((s1.1++x4),s1.2.1,(((x3).toNat:Nat):Int)))))) (fun j3=>(chk (-9223372036854775808≤(((x2).toNat:Nat):Int)∧(((x2).toNat:Nat):Int)<9223372036854775808) (zbo (β:=Int×BS) (fun s2=>(chk (-9223372036854775808≤j3.2.2∧j3.2.2<9223372036854775808) (bif (decide (s2.1≤j3.2.2)) then(chk (0≤(IntKind.i64.wrap (Int.tdiv s2.1 64))∧(IntKind.i64.wrap (Int.tdiv s2.1 64))<4) (chk (0≤(Int.tmod s2.1 64)) (chk (0≤(IntKind.i64.wrap (Int.tdiv s2.1 64))∧(IntKind.i64.wrap (Int.tdiv s2.1 64))<4) (chk (0≤(orI .u64 (wd s2.2 (Int.toNat (IntKind.i64.wrap (Int.tdiv s2.1 64)))) (zkd .u64 1 (Int.tmod s2.1 64)))∧(orI .u64 (wd s2.2 (Int.toNat (IntKind.i64.wrap (Int.tdiv s2.1 64)))) (zkd .u64 1 (Int.tmod s2.1 64)))<18446744073709551616) (zbi (stW s2.2 (Int.toNat (IntKind.i64.wrap (Int.tdiv s2.1 64))) (orI .u64 (wd s2.2 (Int.toNat (IntKind.i64.wrap (Int.tdiv s2.1 64)))) (zkd .u64 1 (Int.tmod s2.1 64)))) (fun x9=>(chk (-9223372036854775808≤(s2.1+1)∧(s2.1+1)<9223372036854775808) (some (Sum.inl ((s2.1+1),x9)))))))))) else(some (Sum.inr (Sum.inl (j3.1,j3.2.1,s2.2))))))) 1100 ((((x2).toNat:Nat):Int),s1.2.2))))))))))))))) (fun j2=>(chk (-9223372036854775808≤(j2.2.1+1)∧(j2.2.1+1)<9223372036854775808) (some (Sum.inl (j2.1,(j2.2.1+1),j2.2.2)))))) else(some (Sum.inr (Sum.inl (s1.1,s1.2.2))))))
def z1i (L ways:List UInt8)(str:List UInt8)(i:Int)(x2 x3:UInt8)(x4:List UInt8):Option ((List UInt8×Int×Int) ⊕ ((List UInt8×Int×BS) ⊕ ((List UInt8×Int×BS) ⊕ ((List UInt8×BS) ⊕ Bool)))):=
 (chk (-9223372036854775808≤(i+1)∧(i+1)<9223372036854775808) (bif (decide ((i+1)<(List.length L:Int))) then(bif (decide ((List.length ways:Int)>0)) then(chk ((0≤i∧i<9223372036854775808)∧0<(List.length ways:Int)) (chk (0≤(Int.tmod i (List.length ways:Int))∧(Int.tmod i (List.length ways:Int))<(List.length ways:Int)) (zbi (ix ways (Int.tmod i (List.length ways:Int))) (fun x5=>(bif ((Int.tmod (((x5).toNat:Nat):Int) 3)==0) then(chk (-9223372036854775808≤(i+1)∧(i+1)<9223372036854775808) (chk (0≤(i+1)∧(i+1)<(List.length L:Int)) (zbi (ix L (i+1)) (fun x6=>(bif (decide ((((x6).toNat:Nat):Int)≥(((x2).toNat:Nat):Int))) then(chk (-9223372036854775808≤(i+1)∧(i+1)<9223372036854775808) (chk (0≤(i+1)∧(i+1)<(List.length L:Int)) (zbi (ix L (i+1)) (fun x7=>(chk (0≤(((x7).toNat:Nat):Int)∧(((x7).toNat:Nat):Int)<256) (zbi (zji (Int.toNat (((x7).toNat:Nat):Int))) (fun x8=>(chk (List.length ([45]:List UInt8)+List.length x8≤9223372036854775807) (chk (List.length (str++x4)+List.length (([45]:List UInt8)++x8)≤9223372036854775807) (chk (-9223372036854775808≤(i+1)∧(i+1)<9223372036854775808) (some (Sum.inl (((str++x4)++(([45]:List UInt8)++x8)),(i+1),(((x7).toNat:Nat):Int)))))))))))))) else(some (Sum.inl ((str++x4),i,(((x3).toNat:Nat):Int))))))))) else(some (Sum.inl ((str++x4),i,(((x3).toNat:Nat):Int))))))))) else(some (Sum.inl ((str++x4),i,(((x3).toNat:Nat):Int))))) else(some (Sum.inl ((str++x4),i,(((x3).toNat:Nat):Int))))))
def z7s:Int×BS→Option ((Int×BS) ⊕ (BS ⊕ Bool)):=
 (fun s3=>(bif (decide (s3.1<4)) then(chk (0≤s3.1∧s3.1<4) (chk (0≤s3.1∧s3.1<4) (chk (0≤(zvz .u64 18446744073709551615 (wd s3.2 (Int.toNat s3.1)))∧(zvz .u64 18446744073709551615 (wd s3.2 (Int.toNat s3.1)))<18446744073709551616) (zbi (stW s3.2 (Int.toNat s3.1) (zvz .u64 18446744073709551615 (wd s3.2 (Int.toNat s3.1)))) (fun x10=>(chk (-9223372036854775808≤(s3.1+1)∧(s3.1+1)<9223372036854775808) (some (Sum.inl ((s3.1+1),x10))))))))) else(some (Sum.inr (Sum.inl (s3.2))))))
theorem qif {ρ:Type} (st:List UInt8)(ii:Int)(c d:Nat)(s:BS)(hcd:c≤d)(hd:d<256):
 zbo (β:=Int×BS) (ρ:=(List UInt8×Int×BS) ⊕ ρ) (fun s2=>(chk (-9223372036854775808≤((d:Nat):Int)∧((d:Nat):Int)<9223372036854775808) (bif (decide (s2.1≤((d:Nat):Int))) then(chk (0≤(IntKind.i64.wrap (Int.tdiv s2.1 64))∧(IntKind.i64.wrap (Int.tdiv s2.1 64))<4) (chk (0≤(Int.tmod s2.1 64)) (chk (0≤(IntKind.i64.wrap (Int.tdiv s2.1 64))∧(IntKind.i64.wrap (Int.tdiv s2.1 64))<4) (chk (0≤(orI .u64 (wd s2.2 (Int.toNat (IntKind.i64.wrap (Int.tdiv s2.1 64)))) (zkd .u64 1 (Int.tmod s2.1 64)))∧(orI .u64 (wd s2.2 (Int.toNat (IntKind.i64.wrap (Int.tdiv s2.1 64)))) (zkd .u64 1 (Int.tmod s2.1 64)))<18446744073709551616) (zbi (stW s2.2 (Int.toNat (IntKind.i64.wrap (Int.tdiv s2.1 64))) (orI .u64 (wd s2.2 (Int.toNat (IntKind.i64.wrap (Int.tdiv s2.1 64)))) (zkd .u64 1 (Int.tmod s2.1 64)))) (fun x9=>(chk (-9223372036854775808≤(s2.1+1)∧(s2.1+1)<9223372036854775808) (some (Sum.inl ((s2.1+1),x9)))))))))) else(some (Sum.inr (Sum.inl (st,ii,s2.2))))))) 1100 (((c:Nat):Int),s)=some (.inl (st,ii,s|||bits c (d+1-c))):=by
 refine zwc (ρ:=(List UInt8×Int×BS) ⊕ ρ) _ (fun s=>Sum.inl (st,ii,s)) d ?_ ?_ (d+1-c) c s 1100 (by omega) (by omega)
 ·intro e s he
  obtain⟨_,_,q1,q2,_⟩:=qcu e (by omega)
  refine zae (by omega) ?_
  rw[show decide (((e:Nat):Int)≤((d:Nat):Int))=true by simp;omega,cond_true]
  simp only[q1,q2,Int.toNat_natCast]
  refine zae (by omega) (zae (by omega) (zae (by omega) (zae (qiz s e (by omega)) ?_)))
  refine zap fun x hx=> ?_
  rw[qjm s e (by omega)] at hx
  subst hx
  exact zae (by omega) rfl
 ·intro s
  refine zae (by omega) ?_
  rw[show decide (((d+1:Nat):Int)≤((d:Nat):Int))=false by simp;omega,cond_false]
theorem qff (s:BS):zbo (β:=Int×BS) z7s 1100 (0,s)=some (.inl (~~~ s)):=by
 have st: ∀(s:BS) (i:Nat),i<4→z7s (((i:Nat):Int),s)=some (.inl (((i:Nat):Int)+1,stW s i (zvz .u64 18446744073709551615 (wd s i)))):=fun s i hi=>by
  unfold z7s
  rw[show decide (((i:Nat):Int)<4)=true by simp;omega,cond_true]
  simp only[Int.toNat_natCast]
  have hx:0≤zvz .u64 18446744073709551615 (wd s i)∧zvz .u64 18446744073709551615 (wd s i)<18446744073709551616:=by
   rw[zsu s i hi];exact zzw _ _
  exact zae (by omega) (zae (by omega) (zae hx (zap fun x hx=>by subst hx;exact zae (by omega) rfl)))
 have en: ∀s:BS,z7s (((4:Nat):Int),s)=some (.inr (.inl s)):=fun s=>rfl
 rw[show(1100:Nat)=1095+1+1+1+1+1 from rfl]
 have go: ∀(n i:Nat) (s:BS),i<4→zbo z7s (n+1) (((i:Nat):Int),s)=zbo z7s n (((i+1:Nat):Int),stW s i (zvz .u64 18446744073709551615 (wd s i))):=fun n i s hi=>by
  rw[zbo,st s i hi];simp
 have g0:=go (1095+1+1+1+1) 0 s (by decide)
 rw[show(0:Int)=((0:Nat):Int) from rfl,g0,go _ 1 _ (by decide),go _ 2 _ (by decide),go _ 3 _ (by decide),zbo,en]
 refine congrArg (fun x=>some (Sum.inl x)) ?_
 have xl: ∀(s:BS) (i:Nat),i<4→0≤zvz .u64 18446744073709551615 (wd s i)∧zvz .u64 18446744073709551615 (wd s i)<2^64:=fun s i hi=>by rw[zsu s i hi];exact zzw _ _
 refine qjd fun j hj=> ?_
 rw[zmp _ 3 _ (xl _ 3 (by decide)) j hj,zmp _ 2 _ (xl _ 2 (by decide)) j hj,zmp _ 1 _ (xl _ 1 (by decide)) j hj,zmp _ 0 _ (xl _ 0 (by decide)) j hj]
 rw[zmp _ 2 _ (xl _ 2 (by decide)) 3 (by decide),zmp _ 1 _ (xl _ 1 (by decide)) 3 (by decide),zmp _ 0 _ (xl _ 0 (by decide)) 3 (by decide),zmp _ 1 _ (xl _ 1 (by decide)) 2 (by decide),zmp _ 0 _ (xl _ 0 (by decide)) 2 (by decide),zmp _ 0 _ (xl _ 0 (by decide)) 1 (by decide)]
 have hj4:j=0∨j=1∨j=2∨j=3:=by omega
 rcases hj4 with rfl|rfl|rfl|rfl<;>simp[zsu]
theorem tmod_lt (i:Nat)(w:List UInt8)(h:0<w.length):0≤Int.tmod ((i:Nat):Int) (w.length:Int)∧Int.tmod ((i:Nat):Int) (w.length:Int)<(w.length:Int):=by
 have e:Int.tmod ((i:Nat):Int) (w.length:Int)=((i%w.length:Nat):Int):=rfl
 rw[e]
 have:=Nat.mod_lt i h
 omega
theorem z0j (l:List It)(i:It):zds (l++[i])=zds l++zrn i:=by simp[zds]
theorem qcs (l:List It)(i:It)(s:BS):zhb s (l++[i])=zhb s l|||qek i:=by simp[zhb]
theorem qge (i:It):(zrn i).length≤9:=by
 obtain⟨c,d⟩:=i
 cases d<;>simp[zrn,zji]
theorem qez (c:Nat):bits c (c+1-c)=bit c:=by
 rw[show c+1-c=1 by omega,bits,bits];simp
theorem o_step (L ways:List UInt8)(its:List It)(i:Nat)(hi:i<L.length)(hL:L.length≤20)(hw:(ways.length:Int)<9223372036854775808)(ht:(zds its).length<2^40):
 ∃(it:It) (i':Nat),gdI it∧i<i'∧i'≤L.length∧z3r L ways (zds its,((i:Nat):Int),zhb 0#256 its)=some (.inl (zds (its++[it]),((i':Nat):Int),zhb 0#256 (its++[it]))):=by
 obtain⟨c,hc⟩: ∃c,ix L ((i:Nat):Int)=c:=⟨_,rfl⟩
 have hc256:c.toNat<256:=c.toNat_lt
 have key: ∀(st:List UInt8) (ii:Nat) (d:Nat) (it:It),c.toNat≤d→d<256→ii<L.length→(zds its++zji c.toNat).length<2^41→st=zds (its++[it])→qek it=bits c.toNat (d+1-c.toNat)→
  z1i L ways (zds its) ((i:Nat):Int) c c (zji c.toNat)=some (.inl (st,((ii:Nat):Int),((d:Nat):Int)))→
  z3r L ways (zds its,((i:Nat):Int),zhb 0#256 its)=some (.inl (zds (its++[it]),((ii+1:Nat):Int),zhb 0#256 (its++[it]))):=by
  intro st ii d it hcd hd hii h41 hst hval hX
  unfold z3r
  rw[show decide (((zds its,((i:Nat):Int),zhb 0#256 its):List UInt8×Int×BS).2.1<(List.length L:Int))=true by simp;omega,cond_true]
  refine zca (st,((ii:Nat):Int),zhb 0#256 its|||bits c.toNat (d+1-c.toNat)) ?_ ?_
  ·refine zae (by simp only;omega) (zap fun x2 hx2=> ?_)
   simp only at hx2
   rw[hc] at hx2
   subst hx2
   refine zae (by simp only;omega) (zap fun x3 hx3=> ?_)
   simp only at hx3
   rw[hc] at hx3
   subst hx3
   refine zae (by omega) (zap fun x4 hx4=> ?_)
   rw[Int.toNat_natCast] at hx4
   subst hx4
   refine zae (by simp only[zji,List.length_cons,List.length_nil];omega) ?_
   unfold z1i at hX
   dsimp only
   refine zca (st,((ii:Nat):Int),((d:Nat):Int)) hX ?_
   refine zae (by omega) ?_
   exact qif st ((ii:Nat):Int) c.toNat d (zhb 0#256 its) hcd hd
  ·refine zae (by simp only;omega) ?_
   rw[hst,qcs,hval]
   simp
 have h41:(zds its++zji c.toNat).length<2^41:=by simp only[List.length_append,zji,List.length_cons,List.length_nil];omega
 have single:z1i L ways (zds its) ((i:Nat):Int) c c (zji c.toNat)=some (.inl (zds its++zji c.toNat,((i:Nat):Int),((c.toNat:Nat):Int)))→ ∃(it:It) (i':Nat),gdI it∧i<i'∧i'≤L.length∧z3r L ways (zds its,((i:Nat):Int),zhb 0#256 its)=some (.inl (zds (its++[it]),((i':Nat):Int),zhb 0#256 (its++[it]))):=fun h=>
  ⟨(c.toNat,none),i+1,hc256,by omega,by omega,key (zds its++zji c.toNat) i c.toNat (c.toNat,none) (Nat.le_refl _) hc256 hi h41 (by rw[z0j];rfl) (by rw[qez];rfl) h⟩
 by_cases h1:i+1<L.length
 ·by_cases h2:0<ways.length
  ·obtain⟨x5,hx5⟩: ∃x5,ix ways (Int.tmod ((i:Nat):Int) (List.length ways:Int))=x5:=⟨_,rfl⟩
   have ht2:=tmod_lt i ways h2
   cases h3:(Int.tmod ((x5.toNat:Nat):Int) 3==0) with
   | false=>
    refine single ?_
    unfold z1i
    refine zae (by omega) ?_
    rw[show decide (((i:Nat):Int)+1<(List.length L:Int))=true by simp;omega,cond_true,show decide ((List.length ways:Int)>0)=true by simp;omega,cond_true]
    refine zae (by omega) (zae ht2 (zap fun x hx=> ?_))
    rw[hx5] at hx
    subst hx
    rw[h3,cond_false]
   | true=>
    obtain⟨x6,hx6⟩: ∃x6,ix L (((i:Nat):Int)+1)=x6:=⟨_,rfl⟩
    have h6:x6.toNat<256:=x6.toNat_lt
    by_cases h4:c.toNat≤x6.toNat
    ·refine⟨(c.toNat,some x6.toNat),i+1+1,⟨h4,h6⟩,by omega,by omega,key (zds its++zji c.toNat++([45]++zji x6.toNat)) (i+1) x6.toNat (c.toNat,some x6.toNat) h4 h6 h1 h41 (by rw[z0j];simp[zrn]) rfl ?_⟩
     unfold z1i
     refine zae (by omega) ?_
     rw[show decide (((i:Nat):Int)+1<(List.length L:Int))=true by simp;omega,cond_true,show decide ((List.length ways:Int)>0)=true by simp;omega,cond_true]
     refine zae (by omega) (zae ht2 (zap fun x hx=> ?_))
     rw[hx5] at hx
     subst hx
     rw[h3,cond_true]
     refine zae (by omega) (zae (by omega) (zap fun x hx=> ?_))
     rw[hx6] at hx
     subst hx
     rw[show decide (((x6.toNat:Nat):Int)≥((c.toNat:Nat):Int))=true by simp;omega,cond_true]
     refine zae (by omega) (zae (by omega) (zap fun x hx=> ?_))
     rw[hx6] at hx
     subst hx
     refine zae (by omega) (zap fun x hx=> ?_)
     rw[Int.toNat_natCast] at hx
     subst hx
     refine zae (by simp only[zji,List.length_cons,List.length_nil];omega) (zae (by have e1:(zji c.toNat).length=4:=rfl;have e2:(zji x6.toNat).length=4:=rfl;rw[List.length_append,List.length_append,e1,e2];simp only[List.length_cons,List.length_nil];omega) (zae (by omega) ?_))
     simp
    ·refine single ?_
     unfold z1i
     refine zae (by omega) ?_
     rw[show decide (((i:Nat):Int)+1<(List.length L:Int))=true by simp;omega,cond_true,show decide ((List.length ways:Int)>0)=true by simp;omega,cond_true]
     refine zae (by omega) (zae ht2 (zap fun x hx=> ?_))
     rw[hx5] at hx
     subst hx
     rw[h3,cond_true]
     refine zae (by omega) (zae (by omega) (zap fun x hx=> ?_))
     rw[hx6] at hx
     subst hx
     rw[show decide (((x6.toNat:Nat):Int)≥((c.toNat:Nat):Int))=false by simp;omega,cond_false]
  ·refine single ?_
   unfold z1i
   refine zae (by omega) ?_
   rw[show decide (((i:Nat):Int)+1<(List.length L:Int))=true by simp;omega,cond_true,show decide ((List.length ways:Int)>0)=false from decide_eq_false (by omega),cond_false]
 ·refine single ?_
  unfold z1i
  refine zae (by omega) ?_
  rw[show decide (((i:Nat):Int)+1<(List.length L:Int))=false by simp;omega,cond_false]
theorem zxw: ∀l:List It,(zds l).length≤9*l.length
 |[]=>by simp[zds]
 | i::l=>by
  have:=zxw l
  have h:=qge i
  rw[zix,List.length_append,List.length_cons]
  omega
theorem qjc (L ways:List UInt8)(hL:L.length≤20)(hw:(ways.length:Int)<9223372036854775808): ∀(n i:Nat) (its:List It) (fuel:Nat),n=L.length-i→i≤L.length→its.length≤i→n<fuel→(∀it∈its,gdI it)→
 ∃its',zbo (z3r L ways) fuel (zds its,((i:Nat):Int),zhb 0#256 its)=some (.inl (zds (its++its'),zhb 0#256 (its++its')))∧(∀it∈its++its',gdI it)∧(its++its').length≤20∧(i<L.length→its'≠[])
 |n,i,its,0,_,_,_,hf,_=>absurd hf (Nat.not_lt_zero _)
 | n, i,its,fuel+1,hn,hi,hl,hf,hg=>by
  by_cases hlt:i<L.length
  ·have htl:=zxw its
   obtain⟨it,i',g1,g2,g3,g4⟩:=o_step L ways its i hlt hL hw (by omega)
   obtain⟨its',q1,q2,q3,_⟩:=qjc L ways hL hw (L.length-i') i' (its++[it]) fuel rfl g3 (by simp only[List.length_append,List.length_cons,List.length_nil];omega) (by omega) (by
    intro x hx
    rcases List.mem_append.1 hx with hx|hx
    ·exact hg x hx
    ·rw[List.mem_singleton] at hx
     subst hx
     exact g1)
   refine⟨it::its',?_,?_,?_,fun _ h=>by cases h⟩
   ·rw[zbo,g4]
    rw[show its++it::its'=its++[it]++its' by simp]
    exact q1
   ·rw[show its++it::its'=its++[it]++its' by simp]
    exact q2
   ·rw[show its++it::its'=its++[it]++its' by simp]
    exact q3
  ·refine⟨[],?_,by simpa using hg,by simp;omega,fun h=>absurd h hlt⟩
   rw[List.append_nil,zbo]
   have:z3r L ways (zds its,((i:Nat):Int),zhb 0#256 its)=some (.inr (.inl (zds its,zhb 0#256 its))):=by
    unfold z3r
    rw[show decide (((zds its,((i:Nat):Int),zhb 0#256 its):List UInt8×Int×BS).2.1<(List.length L:Int))=false by simp;omega,cond_false]
   rw[this]
theorem brk_eq (b ways behind:List UInt8)(hb:(b.length:Int)<9223372036854775808)(hw:(ways.length:Int)<9223372036854775808)(hd:(behind.length:Int)<9223372036854775808):qhi 1100 b ways behind=some true:=by
 unfold qhi
 refine zae (by omega) (zae (by omega) (zap fun x1 hx1=> ?_))
 have hx1l:x1.length≤50:=by rw[←hx1,sub];simp only[List.drop_zero,List.length_take,Int.toNat_zero];omega
 obtain⟨L,hL⟩: ∃L,sub b 0 (min (List.length b:Int) 20)=L:=⟨_,rfl⟩
 have hLl:L.length≤20:=by rw[←hL,sub];simp only[List.drop_zero,List.length_take,Int.toNat_zero];omega
 rw[hL]
 by_cases h0:L.length=0
 ·rw[show((List.length L:Int)==0)=true by rw[h0];rfl,cond_true]
 rw[show((List.length L:Int)==0)=false by rw[beq_eq_false_iff_ne];omega,cond_false]
 obtain⟨its,q1,q2,q3,q4⟩:=qjc L ways hLl hw L.length 0 [] 1100 (by omega) (by omega) (by simp) (by omega) (by simp)
 rw[List.nil_append] at q1 q2 q3
 have hn:its≠[]:=q4 (by omega)
 have htl:=zxw its
 have c1:=zul its x1 hn q2 (by omega) (by omega)
 have c2:=z2f its x1 hn q2 (by omega) (by omega)
 have c3:=zul its [] hn q2 (by omega) (by simp only[List.length_nil];omega)
 rw[List.append_nil] at c3
 refine zca (zds its,zhb 0#256 its) q1 ?_
 refine zca (~~~ zhb 0#256 its) (qff (zhb 0#256 its)) ?_
 dsimp only
 have l1:(([91]:List UInt8)++zds its).length=(zds its).length+1:=by simp only[List.length_append,List.length_cons,List.length_nil];omega
 have l2:(([91]:List UInt8)++zds its++[93]).length=(zds its).length+2:=by simp only[List.length_append,List.length_cons,List.length_nil];omega
 have l3:(([91,94]:List UInt8)++zds its).length=(zds its).length+2:=by simp only[List.length_append,List.length_cons,List.length_nil];omega
 have l4:(([91,94]:List UInt8)++zds its++[93]).length=(zds its).length+3:=by simp only[List.length_append,List.length_cons,List.length_nil];omega
 refine zae (by simp only[List.length_cons,List.length_nil];omega) (zae (by rw[l1];simp only[List.length_cons,List.length_nil];omega) (zae (by rw[l2];omega) ?_))
 refine zbq _ c1 ?_
 refine zae (by simp only[List.length_cons,List.length_nil];omega) (zae (by rw[l3];simp only[List.length_cons,List.length_nil];omega) (zae (by rw[l4];omega) ?_))
 refine zbq _ c2 ?_
 dsimp only
 rw[show((0:Int) !=0)=false from rfl,cond_false,show decide (zhb 0#256 its≠zhb 0#256 its)=false by simp,cond_false]
 refine zae (by omega) ?_
 rw[show(((zds its).length:Int)+2 !=((zds its).length:Int)+2)=false by simp,cond_false]
 by_cases hz: ~~~ zhb 0#256 its=0#256
 ·rw[show decide (~~~ zhb 0#256 its=0#256)=true by simpa using hz,cond_true,if_pos hz]
  rfl
 ·rw[show decide (~~~ zhb 0#256 its=0#256)=false by simpa using hz,cond_false,if_neg hz]
  refine zae (by simp only[List.length_cons,List.length_nil];omega) (zae (by rw[l1];simp only[List.length_cons,List.length_nil];omega) ?_)
  have hr:=read_br (zds its) (zhb 0#256 its) (qcq its hn q2) (by
   have e:(91:UInt8)::zds its++[93]=([91]:List UInt8)++zds its++[93]:=rfl
   rw[e,c3,l2]
   rfl) (by omega)
  refine zbq _ hr ?_
  dsimp only
  have e:((((91:UInt8)::zds its++[93]).length:Nat):Int)=((zds its).length:Int)+2:=by
   have:=l2
   have e:(91:UInt8)::zds its++[93]=([91]:List UInt8)++zds its++[93]:=rfl
   rw[e,this];rfl
  rw[e]
  rw[show((0:Int)==0)=true from rfl,cond_true,show decide (~~~ zhb 0#256 its= ~~~ zhb 0#256 its)=true by simp,cond_true]
  refine zae (by omega) ?_
  rw[show(((zds its).length:Int)+3==((zds its).length:Int)+2+1)=true by simp;omega,cond_true,cond_true]
  rw[show(((zds its).length:Int)+2==((zds its).length:Int)+2)=true by simp,cond_true]
  rw[show((((brT (zhb 0#256 its)).k:Nat):Int)==2)=true from rfl,cond_true]
  rw[show decide ((brT (zhb 0#256 its)).s=zhb 0#256 its)=true by simp[brT,Tr.s]]
end Go.Ab
namespace Go.Ab
open Go Go.RowKit Go.Fwd Go.Proofs Go.ChangeShapes Go.WideShapes Go.Deep
def zvx (W:World):Cx:=⟨fun b o=> ∃v,W.cell? ⟨b,o,none⟩=some v,[],[],[],W,fun _=>False,fun _ _=>False⟩
theorem inv_top (P:Program)(W:World)(hg:gvBase P W):Inv (ITP P) St.empty (zvx W) where
 lens:=rfl
 elems:=rfl
 κlen:=rfl
 κnd:=fun s s' b h=>by simp[zvx] at h
 box:=fun s b t cs h=>by simp[zvx] at h
 κF:=fun s b t cs h=>by simp[zvx] at h
 βlen:=rfl
 βnd:=by simp[zvx]
 βκ:=fun r h=>by simp[zvx] at h
 row:=fun s r L h=>by simp[zvx] at h
 Ok:=fun b h=>h.elim
 Fcell:=fun b o h=>h
 gv:=⟨W,hg,Szs.refl _,fun b o v _ hv=>⟨⟨v,hv⟩,hv⟩⟩
theorem qfs {P:Program} {f:FuncId} {args:List AV} {u:Value} (h:Pure (ITP P) P f args (.raw u))(W:World)(hg:gvBase P W) {vs:List Value} (hr:zbk (ITP P) (zvx W) args vs):
 Calls P f vs.toArray W fun e W'=>e= .returned u∧Below W.heap.size W W':=by
 refine(h.2 (zvx W) vs (inv_top P W hg) hr).mono ?_
 rintro e w' ⟨v,Y,rfl,rfl,hE,hIY,hv⟩
 rw[Rep] at hv;subst hv
 exact⟨rfl,hE.os,hE.tape,hE.output,hE.size,fun b hb=>hE.frame b hb (by simp[zvx]) (by simp[zvx])⟩
section
variable {H:Type} {enc:TypeId×Value→H} {P:Program} {α:Type} [Enc α]
theorem qje (W:World)(b:Nat): ∀(len o:Nat) (g:Nat→α),(∀i,i<len→ ∃cs:List Value,zbk (ITP P) (zvx W) (Enc.cells (g i)) cs∧(∀u∈cs,u.oneCell'=true)∧ ∀j c,cs[j]? =some c→W.cell? ⟨b,o+i*Enc.sz α+j,none⟩=some c)→
 At (ITP P) (zvx W) (Enc.cellsL ((List.range len).map g)) b o
 |0,o,g,_=>by simp only[List.range_zero,List.map_nil];rw[Enc.nil,At];trivial
 | len+1,o,g,h=>by
  rw[List.range_succ_eq_map,List.map_cons,List.map_map,Enc.cons]
  obtain⟨cs,h1,h2,h3⟩:=h 0 (by omega)
  simp only[Nat.zero_mul,Nat.add_zero] at h3
  have ih:=qje W b len (o+Enc.sz α) (g∘Nat.succ) (fun i hi=>by
   obtain⟨cs,k1,k2,k3⟩:=h (i+1) (by omega)
   refine⟨cs,k1,k2,fun j c hc=> ?_⟩
   have:=k3 j c hc
   rw[show o+(i+1)*Enc.sz α+j=o+Enc.sz α+i*Enc.sz α+j by rw[Nat.add_mul];omega] at this
   exact this)
  refine zkx (zws (vs:=cs) (fun j hj=> ?_) h2 h1 (fun j u hu=>h3 j u hu)) (by rw[Enc.len];exact ih)
  obtain⟨c,hc⟩: ∃c,cs[j]? =some c:=⟨_,List.getElem?_eq_getElem hj⟩
  exact⟨c,h3 j c hc⟩
theorem qio {W:World} {t e:TypeId} (hu:P.underlying t=some (.slice e))(ce:P.cellsOf e=Enc.sz α)
 (el: ∀(n:Nat) (cs:List Value) (x:DataW H×List MemPlace),DataW.trod enc P W 0 (fun _=>true) true n e cs=some x→cs.length=Enc.sz α→ ∃s:α,zbk (ITP P) (zvx W) (Enc.cells s) cs∧ ∀u∈cs,u.oneCell'=true)
 {fuel:Nat} {v:Value} {x:DataW H×List MemPlace} (h:DataW.trod enc P W 0 (fun _=>true) true fuel t [v]=some x): ∃l:List α,l.length<2^63∧Rep (ITP P) (zvx W) (.list l.length (Enc.cellsL l) .none) v:=by
 rcases open_slice hu h with⟨h0,_⟩|⟨a,len,cap,m,n,D,Pl,hcs,hb,hl,hm,hmm,hx,hi⟩
 ·simp at h0
  subst h0
  refine⟨[],by simp,?_⟩
  rw[Rep]
  exact⟨none,0,rfl,⟨Nat.le_refl _,fun _=>rfl⟩,.inl (by rw[Enc.nil]),trivial⟩
 ·simp at hcs
  subst hcs
  rw[ce] at hi
  have hm':m=cap:=by simpa using hmm
  by_cases hz:len=0
  ·subst hz
   refine⟨[],by simp,?_⟩
   rw[Rep]
   exact⟨some a,cap,rfl,⟨hl,fun h=>by cases h⟩,.inl (by rw[Enc.nil]),trivial⟩
  ·have hcell: ∀i,i<m→ ∃s:α,∃cs:List Value,zbk (ITP P) (zvx W) (Enc.cells s) cs∧(∀u∈cs,u.oneCell'=true)∧cs.length=Enc.sz α∧ ∀j c,cs[j]? =some c→W.cell? (a.add (i*Enc.sz α+j))=some c:=fun i him=>by
    obtain⟨cs',hc,ht⟩:=hi i him
    obtain⟨_,hcl,hat⟩:=World.cells?_some hc
    obtain⟨s,k1,k2⟩:=el n cs' _ ht hcl
    refine⟨s,cs',k1,k2,hcl,fun j c hj=> ?_⟩
    have hjl:j<Enc.sz α:=by have:=(List.getElem?_eq_some_iff.1 hj).1;omega
    have:=hat j hjl
    rw[Go.Deep.add_add] at this
    rw[this]
    simpa using hj
   have hspot:a=⟨a.block,a.off,none⟩:=by
    obtain⟨s,cs,_,_,k3,k4⟩:=hcell 0 (by omega)
    obtain⟨c,hc⟩: ∃c,cs[0]? =some c:=⟨_,List.getElem?_eq_getElem (by rw[k3];exact Enc.pos)⟩
    have c0:=k4 0 c hc
    cases a with
    | mk b o sp=>
     cases sp with
     |none=>rfl
     | some k=>
      exfalso
      simp[Addr.add,World.cell?] at c0
      split at c0<;>simp at c0
   have hadd: ∀j,a.add j=⟨a.block,a.off+j,none⟩:=fun j=>by
    by_cases hj:j=0
    ·subst hj;simp[Addr.add];exact hspot
    ·simp[Addr.add,hj]
   let g:Nat→α:=fun i=>if h:i<m then Classical.choose (hcell i h) else Enc.inh
   have hg: ∀i (him:i<m),∃cs:List Value,zbk (ITP P) (zvx W) (Enc.cells (g i)) cs∧(∀u∈cs,u.oneCell'=true)∧cs.length=Enc.sz α∧ ∀j c,cs[j]? =some c→W.cell? (a.add (i*Enc.sz α+j))=some c:=fun i him=>by
    have e:g i=Classical.choose (hcell i him):=dif_pos him
    rw[e];exact Classical.choose_spec (hcell i him)
   have hml:maxLen<2^63:=by decide
   refine⟨(List.range len).map g,by simp;omega,?_⟩
   rw[Rep]
   refine⟨some a,cap,by simp,⟨by simpa using hl,fun h=>by cases h⟩,.inr ⟨a.block,a.off,by rw[←hspot],qje W a.block len a.off g fun i hi=> ?_⟩,trivial⟩
   obtain⟨cs,k1,k2,k3,k4⟩:=hg i (by omega)
   refine⟨cs,k1,k2,fun j c hc=> ?_⟩
   have:=k4 j c hc
   rw[hadd] at this
   rw[Nat.add_assoc];exact this
end
end Go.Ab
set_option maxRecDepth 100000
namespace Go.Ab
open Go Go.RowKit Go.Fwd Go.Proofs Go.ChangeShapes Go.WideShapes Go.Deep
theorem bnd_u8 {n:Int} (h:(Lit.int .u8 n).wf=true):0≤n∧n≤255:=by
 have h1:IntKind.u8.min=0:=rfl
 have h2:IntKind.u8.max=255:=rfl
 simp only[Lit.wf,Bool.and_eq_true,decide_eq_true_eq] at h
 omega
theorem und5:Tryd.prog.underlying 5=some (.int .u8):=by kernel_rfl
theorem und9:Tryd.prog.underlying 9=some .string:=by kernel_rfl
theorem cells5:Tryd.prog.cellsOf 5=Enc.sz UInt8:=by kernel_rfl
theorem undB:Tryd.prog.underlying 22=some (.slice 5):=by kernel_rfl
section
variable {H:Type} {enc:TypeId×Value→H}
theorem el_u8 {W:World} (n:Nat)(cs:List Value)(x:DataW H×List MemPlace)(h:DataW.trod enc Tryd.prog W 0 (fun _=>true) true n 5 cs=some x)(hl:cs.length=Enc.sz UInt8): ∃s:UInt8,zbk (ITP Tryd.prog) (zvx W) (Enc.cells s) cs∧ ∀u∈cs,u.oneCell'=true:=by
 match cs,hl with
 | [c],_=>
  obtain⟨n0,e0,_,w0⟩:=DataW.trod_int und5 h
  simp at e0
  subst e0
  have hb:=bnd_u8 w0
  refine⟨UInt8.ofNat n0.toNat,?_,fun u hu=>by rw[List.mem_singleton.1 hu];rfl⟩
  have:(((UInt8.ofNat n0.toNat).toNat:Nat):Int)=n0:=by rw[UInt8.toNat_ofNat'];omega
  show zbk _ _ [.raw (.int .u8 (((UInt8.ofNat n0.toNat).toNat:Nat):Int))] _
  rw[this]
  exact⟨_,_,rfl,rfl,rfl⟩
theorem z4e {W:World} {base:Nat} {v:Value} {d:DataW H} {p:List MemPlace} (hv:Value.okWide Tryd.prog W .any base 22 v)(h:DataW.Trod enc Tryd.prog W 0 (fun _=>true) true 22 v d p):
 ∃l:List UInt8,l.length<2^63∧Rep (ITP Tryd.prog) (zvx W) (.list l.length (Enc.cellsL l) .none) v:=by
 obtain⟨fuel,hf⟩:=h
 obtain⟨a0,len,cap,rfl⟩:=okWide_slice undB hv
 exact qio (α:=UInt8) undB cells5 (fun n cs x h hl=>el_u8 n cs x h hl) hf
end
end Go.Ab
set_option maxRecDepth 100000
namespace Go.Ab
open Go Go.RowKit Go.Fwd Go.Proofs Go.Proofs.YtnoccnalocdldaaDoor Go.ChangeShapes Go.WideShapes Go.ChangeAt
theorem gv_of {W:World} (hL:laidMet Tryd.prog Rows.rxreadBracketsRow.laid W)(hS:W.ShapedOpen Tryd.prog):gvBase Tryd.prog W where
 err:=fun n g h e=>by
  have h1:Tryd.prog.globalNamed "strconv.ErrSyntax" =none:=by kernel_rfl
  have h2:Tryd.prog.globalNamed "strconv.ErrRange" =none:=by kernel_rfl
  rcases h with rfl|rfl
  ·rw[h1] at e;cases e
  ·rw[h2] at e;cases e
 pow:=fun g e=>by
  have h1:Tryd.prog.globalNamed "internal/strconv.uint64pow10" =none:=by kernel_rfl
  rw[h1] at e;cases e
 max:=fun g e=>by
  have h1:Tryd.prog.globalNamed "internal/bytealg.MaxLen" =some 0:=by kernel_rfl
  rw[h1] at e;cases e
  exact Go.Proofs.cell_of_shapedOpen_int (zero:= #[.int .i64 0]) (t:=3) hS (of_decide_eq_true (by kernel_rfl)) (by kernel_rfl) rfl (by kernel_rfl) (by kernel_rfl) (by kernel_rfl)
noncomputable def qix:DataW Unit→List Value
 | .agg l=>l.flatMap fun d=>match d with
  | .lit (.int k n)=>[Value.int k n]
  | .agg l=>l.map fun d=>match d with| .lit (.int k n)=>Value.int k n|_=>undef
  |_=>[undef]
 |_=>[]
noncomputable def zry (os:Os):World:=
 let w0:=World.holding Tryd.prog os ⟨#[], #[],[]⟩
 let put (h:Array Obj) (g:Nat) (cs:Array Value):Array Obj:=h.modify g fun
  | .cells _ t frozen=> .cells cs t frozen
  |o=>o
 let h1:=put w0.heap 1 (qix Rows.laid_unicode_utf8_first).toArray
 let h2:=put h1 2 (qix Rows.laid_unicode_utf8_acceptRanges).toArray
 {w0 with heap:=h2}
theorem qgs (os:Os)(args:Array Value):laidMet Tryd.prog Rows.rxreadBracketsRow.laid ((zry os).forCall (fun _ _=>0) ⟨#[],args,[]⟩).memory:=
 laidMet_of_run (ps:=MemPlace.row ⟨2,0,none⟩ 32++MemPlace.row ⟨1,0,none⟩ 256) 8 (by kernel_rfl) (by kernel_rfl) (by kernel_rfl)
end Go.Ab
set_option maxRecDepth 100000
namespace Go.Proofs.YtnoccnalocdldaaDoor
open Go Go.Ab Go.ChangeShapes Go.WideShapes Go.ChangeAt Go.RowKit Go.Fwd
theorem zmy {H:Type} {enc:TypeId×Value→H} {P:Program} (hl:laidOutB P=true) {W W':World} (hb:Below W.heap.size W W'): ∀ {ts:List TypeId} {vs:List Value} {ds:List (DataW H)} {ps:List MemPlace},
 (ts.all fun t=>P.readableRec t&&decide (t<P.types.size))=true→DataW.TrodAll enc P W 0 (fun _=>true) true ts vs ds ps→(∀x∈ps,x.block<W.heap.size)→DataW.TrodAll enc P W' 0 (fun b=>decide (b<W.heap.size)) true ts vs ds ps
 | [],vs,ds,ps,_,h,_=>by
  cases vs with
  | nil=>
   cases ds with
   |nil=>exact h
   |cons=>exact h.elim
  |cons=>exact h.elim
 | t::ts,vs,ds,ps,ht,h,hlt=>by
  obtain⟨v,vs',d,ds',p,q,rfl,rfl,rfl,hd,hr⟩:=trodAll_cons h
  simp only[List.all_cons,Bool.and_eq_true,decide_eq_true_eq] at ht
  exact⟨p,q,Below.trod hl ht.1.1 ht.1.2 hd hb fun x hx=>hlt x (by simp[hx]),zmy hl hb ht.2 hr fun x hx=>hlt x (by simp[hx]),rfl⟩
theorem own':ownKnob Tryd.prog.godebug=none:=by kernel_rfl
theorem qhw:laidOutB Tryd.prog=true:=by kernel_rfl
theorem len_str {s:ByteArray} {l:List UInt8} (hx:l=s.data.toList)(h:s.size≤maxLen):l.length<2^63:=by
 have:l.length=s.size:=by rw[hx];rfl
 have h2:maxLen<2^63:=by decide
 omega
theorem rep_str {IT:IterP} {X:Cx} {s:ByteArray} {l:List UInt8} (hx:l=s.data.toList):Rep IT X (.raw (.string (bs l))) (.string s):=by
 subst hx;rfl
end Go.Proofs.YtnoccnalocdldaaDoor
set_option maxRecDepth 100000
namespace Go.Proofs.YtnoccnalocdldaaDoor
open Go Go.Ab Go.ChangeShapes Go.WideShapes Go.ChangeAt Go.RowKit Go.Fwd
theorem trods_rxreadBrackets {H:Type} {enc:TypeId×Value→H} {P:Program} {w:World} {base:Nat} {spare:Nat→Bool} {held:Bool} {t0 t1 t2:TypeId} {args:Array Value} {ds:List (DataW H)} {ps:List MemPlace} (h:DataW.TrodAll enc P w base spare held [t0,t1,t2] args.toList ds ps):
 ∃v0 v1 v2 d0 d1 d2 p0 p1 p2,args= #[v0,v1,v2]∧ds=[d0,d1,d2]∧ps=p0++p1++p2∧DataW.Trod enc P w base spare held t0 v0 d0 p0∧DataW.Trod enc P w base spare held t1 v1 d1 p1∧DataW.Trod enc P w base spare held t2 v2 d2 p2:=by
 obtain⟨v0,a0,d0,s0,p0,q0,hargs,rfl,rfl,g0,h⟩:=trodAll_cons h
 obtain⟨v1,a1,d1,s1,p1,q1,rfl,rfl,rfl,g1,h⟩:=trodAll_cons h
 obtain⟨v2,a2,d2,s2,p2,q2,rfl,rfl,rfl,g2,h⟩:=trodAll_cons h
 obtain⟨rfl,rfl,rfl⟩:=trodAll_nil h
 exact⟨v0,v1,v2,d0,d1,d2,p0,p1,p2,by cases args;simp_all,rfl,by simp,g0,g1,g2⟩
theorem witness_rxreadBrackets (os:Os) {H:Type} (enc:TypeId×Value→H):
 (OpenSpec.ofChange Rows.rxreadBracketsSpec).preRow enc Tryd.prog Tryd.f3 Rows.rxreadBracketsRow.domain false Rows.rxreadBracketsRow.laid ((zry os).forCall (fun _ _=>0) ⟨#[], #[.slice none 0 0,.slice none 0 0,.string ⟨#[]⟩],[]⟩).memory #[.slice none 0 0,.slice none 0 0,.string ⟨#[]⟩]:=
 OpenSpec.preRow_of_B rfl 8 (by kernel_rfl) (by kernel_rfl) (qgs os _)
theorem rxreadBrackets_lifted (os:Os)(started:os.Started)(H:Type)(enc:TypeId×Value→H)(F:Stop.Interp):
 ReturnsInHanded {} Tryd.checked os 3 .any ((OpenSpec.ofChange Rows.rxreadBracketsSpec).preRow enc Tryd.prog Tryd.f3 Rows.rxreadBracketsRow.domain false Rows.rxreadBracketsRow.laid) (((OpenSpec.ofChange Rows.rxreadBracketsSpec).at F).post enc Tryd.prog Tryd.f3 false true false false):=by
 refine returnsInHanded_of_row (C:=Tryd.checked) (s:=OpenSpec.ofChange Rows.rxreadBracketsSpec) own' started (by kernel_rfl) Tryd.func3
  (witness_row_atRef (enc:=enc) (C:=Tryd.checked) false (zry os) #[.slice none 0 0,.slice none 0 0,.string ⟨#[]⟩] rfl (by kernel_rfl) (by kernel_rfl) (by kernel_rfl) (witness_rxreadBrackets os enc)) ?_
 intro W base args ds gs before hval0 hW hcnd0 _ hsz0 hL hS _
 have hval: ∀(j:Nat) t v,Tryd.f3.params[j]? =some t→args[j]? =some v→Value.okWide Tryd.prog W .any base t v:=hval0
 have hW':=hW
 obtain⟨p,q,hA0,hV,rfl,_,_⟩:=hW
 have hA:DataW.TrodAll enc Tryd.prog W 0 (fun _=>true) true Tryd.f3.params.toList args.toList ds p:=hA0
 rw[show Tryd.f3.params.toList=[22,22,9] from by kernel_rfl] at hA
 have hA1:=hA
 obtain⟨v0,v1,v2,d0,d1,d2,p0,p1,p2,rfl,rfl,rfl,h0,h1,h2⟩:=trods_rxreadBrackets hA
 obtain⟨rfl,rfl⟩:=trodVars_none hV
 obtain⟨x0,r0,hr0⟩:=z4e (hval 0 22 v0 (by kernel_rfl) rfl) h0
 obtain⟨x1,r1,hr1⟩:=z4e (hval 1 22 v1 (by kernel_rfl) rfl) h1
 obtain⟨s2,rfl,rfl,rfl,w2⟩:=Go.ChangeMaps.open_string und9 (hval 2 9 v2 (by kernel_rfl) rfl) h2
 obtain⟨x2,hx2⟩: ∃l:List UInt8,l=s2.data.toList:=⟨_,rfl⟩
 have r2:x2.length<2^63:=len_str hx2 w2
 clear hA0 hval0
 simp only[List.append_nil,List.nil_append] at hW' hA1
 have hlt:=hW'.lt
 refine(qfs (brk_sh 1100 x0 x1 x2 true (brk_eq x0 x1 x2 (by omega) (by omega) (by omega))) W (gv_of hL hS) (vs:=[v0,v1,.string s2]) ⟨_,_,rfl,hr0,_,_,rfl,hr1,_,_,rfl,rep_str hx2,rfl⟩).mono fun e W' ⟨he,hw⟩=> ?_
 subst he
 refine⟨_,rfl,?_⟩
 refine⟨_,_,_,[]++[],p0++p1,[],hW',?_,?_,rfl,hw.frame _,fun h=>by cases h⟩
 ·exact trodAll_mk1 (shut_bool (show Tryd.prog.underlying 4=some .bool from by kernel_rfl) true)
 ·exact zmy qhw hw (by kernel_rfl) hA1 hlt
theorem rxreadBrackets_holds:Rows.RxreadBracketsSaid:=
 OpenClaim.holds_of_cond 3 Tryd.f3 rfl rfl rfl rfl rfl rfl rfl ⟨rfl,rfl,rfl,rfl,rfl⟩ rfl rfl rfl rfl rfl (by kernel_rfl) Tryd.func3 (by kernel_rfl)
  (of_decide_eq_true (by kernel_rfl)) (by unfold Func.isWrapper;rw[if_neg (of_decide_eq_false (by kernel_rfl))];exact⟨rfl,rfl⟩)
  (fun os started H enc _ F0=>by rw[OpenClaim.pre_eq_preRow];exact rxreadBrackets_lifted os started H enc F0)
theorem rxreadBrackets_card:Rows.RxreadBracketsCardSaid:=
 Claim7.holds_tied_plain_at .later [] [.data,.pinned] true (true, "1f6a05b9e1cb067fa71eb3eff6af42f534da8190dca4e69fad110c4cc7f307ad") false
  rxreadBrackets_holds (fun _ h=>by cases h) (by kernel_rfl) (fun _ h=>by cases h) rxreadBrackets_row_tie rfl ⟨rfl,rfl⟩ (by kernel_rfl) rfl
  (fun f fn hf hfn=>by
   obtain rfl:f=3:=Option.some.inj ((show Tryd.prog.funcNamed "repartee/reparteelaw09.RxreadBrackets" =some 3 by kernel_rfl).symm.trans hf)|>.symm
   obtain rfl:fn=Tryd.f3:=(Option.some.inj (Tryd.func3.symm.trans hfn)).symm
   exact⟨by kernel_rfl,fun j t ht=>by
    have hm:t∈[22,22,9]:=by
     have h:=Array.mem_of_getElem? ht
     rw[←Array.mem_toList_iff,show Tryd.f3.params.toList=[22,22,9] from by kernel_rfl] at h
     exact h
    have hall:([22,22,9].all fun u=> !Tryd.prog.wantsStandIn u)=true:=by kernel_rfl
    exact(show Tryd.prog.wantsStandIn t=false by simpa using List.all_eq_true.1 hall t hm)⟩)
  (by kernel_rfl)
#print axioms rxreadBrackets_card
end Go.Proofs.YtnoccnalocdldaaDoor
