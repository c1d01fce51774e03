import Derived.Test.YtnoccnalocdldaaDoorZgAw
set_option linter.all false
namespace Go.Ab
open Go Go.RowKit Go.Fwd Go.Proofs
theorem undS4:Tryd.prog.underlying 25=some (.array 4 24):=by kernel_rfl
theorem eqInS4' (d:Nat)(a0 a1 a2 a3 b0 b1 b2 b3:Int)(w:World):(Op.equalIn (d+1+1) 25 (.agg #[.int .u64 a0,.int .u64 a1,.int .u64 a2,.int .u64 a3]) (.agg #[.int .u64 b0,.int .u64 b1,.int .u64 b2,.int .u64 b3])).run Tryd.prog w=
 .ok (a0==b0&&a1==b1&&a2==b2&&a3==b3) w:=by
 rw[Op.equalIn]
 simp only[Sem.run_bind,run_underlying undS4,Result.andThen_ok,sizeW]
 have hq: ∀(a b:Int) (w:World),(Op.equalIn (d+1) 24 (.int .u64 a) (.int .u64 b)).run Tryd.prog w= .ok (a==b) w:=fun a b w=>run_equalIn_int w d 24 .u64 .u64 a b undW
 have hr:List.range' 0 4=[0,1,2,3]:=rfl
 simp[part,hr,aggW,Sem.run_bind,hq,Result.andThen]
 by_cases h0:a0=b0<;>by_cases h1:a1=b1<;>by_cases h2:a2=b2<;>by_cases h3:a3=b3<;>simp[h0,h1,h2,h3,hq,Result.andThen]
theorem eqInS4 (a0 a1 a2 a3 b0 b1 b2 b3:Int)(w:World):(Op.equalIn 10000 25 (.agg #[.int .u64 a0,.int .u64 a1,.int .u64 a2,.int .u64 a3]) (.agg #[.int .u64 b0,.int .u64 b1,.int .u64 b2,.int .u64 b3])).run Tryd.prog w=
 .ok (a0==b0&&a1==b1&&a2==b2&&a3==b3) w:=eqInS4' 9998 _ _ _ _ _ _ _ _ w
theorem guardS4:Tryd.prog.eqGuardType Tryd.prog.depth 25=false:=by kernel_rfl
theorem z7q {ρ:Operand→AV} {o:Oper} {x y:Operand} {c} (s t:BS)(ho:o.op= .binOp .eql 25 x y c)(hx:ρ x=z2b s)(hy:ρ y=z2b t):zla Tryd.prog ρ o (.raw (.bool (decide (s=t)))):=by
 refine⟨?_,by rw[ho];intros;simp,by rw[ho];intros;simp,.bool (decide (s=t)),fun w=> ?_,rfl,rfl⟩
 ·rw[ho];simp[Op.operands,hx,hy,z2b,zdi,zdg,zgs]
 ·have h1:zbt ρ x= .agg #[.int .u64 (wd s 0),.int .u64 (wd s 1),.int .u64 (wd s 2),.int .u64 (wd s 3)]:=by simp[zbt,hx,z2b,zdi,zdg,zgs]
  have h2:zbt ρ y= .agg #[.int .u64 (wd t 0),.int .u64 (wd t 1),.int .u64 (wd t 2),.int .u64 (wd t 3)]:=by simp[zbt,hy,z2b,zdi,zdg,zgs]
  have h3:=eqInS4 (wd s 0) (wd s 1) (wd s 2) (wd s 3) (wd t 0) (wd t 1) (wd t 2) (wd t 3) w
  rw[z4q] at h3
  simp[execOp,ho,h1,h2,eqGuard,binOp,Op.equal,Op.maxDepth,program,Sem.run,guardS4,h3]
theorem qed {ρ:Operand→AV} {o:Oper} {x y:Operand} {c} (s t:BS)(ho:o.op= .binOp .eql 25 x y c)(hx:ρ x= .agg (Enc.cells s))(hy:ρ y= .agg (Enc.cells t)):zla Tryd.prog ρ o (.raw (.bool (decide (s=t)))):=z7q s t ho hx hy
end Go.Ab
set_option maxRecDepth 100000
set_option maxHeartbeats 4000000
namespace Go.Ab
open Go Go.RowKit Go.Fwd Go.Proofs
def qhi (fuel:Nat)(b:(List UInt8))(ways:(List UInt8))(behind:(List UInt8)):Option Bool:=
 (chk (0≤0∧0≤(min (List.length b:Int) 20)∧(min (List.length b:Int) 20)≤(List.length b:Int)) (chk (0≤0∧0≤(min (List.length behind:Int) 50)∧(min (List.length behind:Int) 50)≤(List.length behind:Int)) (zbi (sub behind 0 (min (List.length behind:Int) 50)) (fun x1=>(bif ((List.length (sub b 0 (min (List.length b:Int) 20)):Int)==0) then(some true) else(zdr (τ:=(List UInt8)×BS) (zbo (β:=(List UInt8)×Int×BS) (fun s1=>(bif (decide (s1.2.1<(List.length (sub b 0 (min (List.length b:Int) 20)):Int))) then(zdr (τ:=(List UInt8)×Int×BS) (chk (0≤s1.2.1∧s1.2.1<(List.length (sub b 0 (min (List.length b:Int) 20)):Int)) (zbi (ix (sub b 0 (min (List.length b:Int) 20)) s1.2.1) (fun x2=>(chk (0≤s1.2.1∧s1.2.1<(List.length (sub b 0 (min (List.length b:Int) 20)):Int)) (zbi (ix (sub b 0 (min (List.length b:Int) 20)) s1.2.1) (fun x3=>(chk (0≤(((x2).toNat:Nat):Int)∧(((x2).toNat:Nat):Int)<256) (zbi (zji (Int.toNat (((x2).toNat:Nat):Int))) (fun x4=>(chk (List.length s1.1+List.length x4≤9223372036854775807) (zdr (τ:=(List UInt8)×Int×Int) (chk (-9223372036854775808≤(s1.2.1+1)∧(s1.2.1+1)<9223372036854775808) (bif (decide ((s1.2.1+1)<(List.length (sub b 0 (min (List.length b:Int) 20)):Int))) then(bif (decide ((List.length ways:Int)>0)) then(chk ((0≤s1.2.1∧s1.2.1<9223372036854775808)∧0<(List.length ways:Int)) (chk (0≤(Int.tmod s1.2.1 (List.length ways:Int))∧(Int.tmod s1.2.1 (List.length ways:Int))<(List.length ways:Int)) (zbi (ix ways (Int.tmod s1.2.1 (List.length ways:Int))) (fun x5=>(bif ((Int.tmod (((x5).toNat:Nat):Int) 3)==0) then(chk (-9223372036854775808≤(s1.2.1+1)∧(s1.2.1+1)<9223372036854775808) (chk (0≤(s1.2.1+1)∧(s1.2.1+1)<(List.length (sub b 0 (min (List.length b:Int) 20)):Int)) (zbi (ix (sub b 0 (min (List.length b:Int) 20)) (s1.2.1+1)) (fun x6=>(bif (decide ((((x6).toNat:Nat):Int)≥(((x2).toNat:Nat):Int))) then(chk (-9223372036854775808≤(s1.2.1+1)∧(s1.2.1+1)<9223372036854775808) (chk (0≤(s1.2.1+1)∧(s1.2.1+1)<(List.length (sub b 0 (min (List.length b:Int) 20)):Int)) (zbi (ix (sub b 0 (min (List.length b:Int) 20)) (s1.2.1+1)) (fun x7=>(chk (0≤(((x7).toNat:Nat):Int)∧(((x7).toNat:Nat):Int)<256) (zbi (zji (Int.toNat (((x7).toNat:Nat):Int))) (fun x8=>(chk (List.length ([45]:List UInt8)+List.length x8≤9223372036854775807) (chk (List.length (s1.1++x4)+List.length (([45]:List UInt8)++x8)≤9223372036854775807) (chk (-9223372036854775808≤(s1.2.1+1)∧(s1.2.1+1)<9223372036854775808) (some (Sum.inl (((s1.1++x4)++(([45]:List UInt8)++x8)),(s1.2.1+1),(((x7).toNat:Nat):Int)))))))))))))) else(some (Sum.inl ((s1.1++x4),s1.2.1,(((x3).toNat:Nat):Int))))))))) else(some (Sum.inl ((s1.1++x4),s1.2.1,(((x3).toNat:Nat):Int))))))))) else(some (Sum.inl ((s1.1++x4),s1.2.1,(((x3).toNat:Nat):Int))))) else(some (Sum.inl ((s1.1++x4),s1.2.1,(((x3).toNat:Nat):Int)))))) (fun j3=>(chk (-9223372036854775808≤(((x2).toNat:Nat):Int)∧(((x2).toNat:Nat):Int)<9223372036854775808) (zbo (β:=Int×BS) (fun s2=>(chk (-9223372036854775808≤j3.2.2∧j3.2.2<9223372036854775808) (bif (decide (s2.1≤j3.2.2)) then(chk (0≤(IntKind.i64.wrap (Int.tdiv s2.1 64))∧(IntKind.i64.wrap (Int.tdiv s2.1 64))<4) (chk (0≤(Int.tmod s2.1 64)) (chk (0≤(IntKind.i64.wrap (Int.tdiv s2.1 64))∧(IntKind.i64.wrap (Int.tdiv s2.1 64))<4) (chk (0≤(orI .u64 (wd s2.2 (Int.toNat (IntKind.i64.wrap (Int.tdiv s2.1 64)))) (zkd .u64 1 (Int.tmod s2.1 64)))∧(orI .u64 (wd s2.2 (Int.toNat (IntKind.i64.wrap (Int.tdiv s2.1 64)))) (zkd .u64 1 (Int.tmod s2.1 64)))<18446744073709551616) (zbi (stW s2.2 (Int.toNat (IntKind.i64.wrap (Int.tdiv s2.1 64))) (orI .u64 (wd s2.2 (Int.toNat (IntKind.i64.wrap (Int.tdiv s2.1 64)))) (zkd .u64 1 (Int.tmod s2.1 64)))) (fun x9=>(chk (-9223372036854775808≤(s2.1+1)∧(s2.1+1)<9223372036854775808) (some (Sum.inl ((s2.1+1),x9)))))))))) else(some (Sum.inr (Sum.inl (j3.1,j3.2.1,s2.2))))))) fuel ((((x2).toNat:Nat):Int),s1.2.2))))))))))))))) (fun j2=>(chk (-9223372036854775808≤(j2.2.1+1)∧(j2.2.1+1)<9223372036854775808) (some (Sum.inl (j2.1,(j2.2.1+1),j2.2.2)))))) else(some (Sum.inr (Sum.inl (s1.1,s1.2.2)))))) fuel (([]:List UInt8),0,0#256)) (fun j1=>(zdr (τ:=BS) (zbo (β:=Int×BS) (fun s3=>(bif (decide (s3.1<4)) then(chk (0≤s3.1∧s3.1<4) (chk (0≤s3.1∧s3.1<4) (chk (0≤(zvz .u64 18446744073709551615 (wd s3.2 (Int.toNat s3.1)))∧(zvz .u64 18446744073709551615 (wd s3.2 (Int.toNat s3.1)))<18446744073709551616) (zbi (stW s3.2 (Int.toNat s3.1) (zvz .u64 18446744073709551615 (wd s3.2 (Int.toNat s3.1)))) (fun x10=>(chk (-9223372036854775808≤(s3.1+1)∧(s3.1+1)<9223372036854775808) (some (Sum.inl ((s3.1+1),x10))))))))) else(some (Sum.inr (Sum.inl (s3.2)))))) fuel (0,j1.2)) (fun j4=>(chk (List.length ([91]:List UInt8)+List.length j1.1≤9223372036854775807) (chk (List.length (([91]:List UInt8)++j1.1)+List.length ([93]:List UInt8)≤9223372036854775807) (chk (List.length ((([91]:List UInt8)++j1.1)++([93]:List UInt8))+List.length x1≤9223372036854775807) (zar (zec fuel (((([91]:List UInt8)++j1.1)++([93]:List UInt8))++x1)) (fun x11=>(chk (List.length ([91,94]:List UInt8)+List.length j1.1≤9223372036854775807) (chk (List.length (([91,94]:List UInt8)++j1.1)+List.length ([93]:List UInt8)≤9223372036854775807) (chk (List.length ((([91,94]:List UInt8)++j1.1)++([93]:List UInt8))+List.length x1≤9223372036854775807) (zar (zec fuel (((([91,94]:List UInt8)++j1.1)++([93]:List UInt8))++x1)) (fun x12=>(bif (x11.2.2 !=0) then(some false) else(bif (decide (x11.1≠j1.2)) then(some false) else(chk (-9223372036854775808≤((List.length j1.1:Int)+2)∧((List.length j1.1:Int)+2)<9223372036854775808) (bif (x11.2.1 !=((List.length j1.1:Int)+2)) then(some false) else(bif (decide (j4=(0#256))) then(bif (x12.2.2==94) then(some (x12.2.1==0)) else(some false)) else(chk (List.length ([91]:List UInt8)+List.length j1.1≤9223372036854775807) (chk (List.length (([91]:List UInt8)++j1.1)+List.length ([93]:List UInt8)≤9223372036854775807) (zar (qhv 1100 60 ((([91]:List UInt8)++j1.1)++([93]:List UInt8))) (fun x13=>(bif (x12.2.2==0) then(bif (decide (x12.1=j4)) then(chk (-9223372036854775808≤(x11.2.1+1)∧(x11.2.1+1)<9223372036854775808) (bif (x12.2.1==(x11.2.1+1)) then(bif (x13.2.2==0) then(bif (x13.2.1==x11.2.1) then(bif (((x13.1.t.k:Nat):Int)==2) then(some (decide (x13.1.t.s=j1.2))) else(some false)) else(some false)) else(some false)) else(some false))) else(some false)) else(some false))))))))))))))))))))))))))))))
theorem ent3:Ent Tryd.prog 3:=enters_of Tryd.func3 (by kernel_rfl) rfl
theorem brk_sh (fuel:Nat)(b:(List UInt8))(ways:(List UInt8))(behind:(List UInt8))(r:Bool)(h:qhi fuel b ways behind=some r):Pure (ITP Tryd.prog) Tryd.prog 3 [.L (b:List UInt8),.L (ways:List UInt8),.raw (.string (bs behind))] (.raw (.bool r)):=by
 unfold qhi at h
 refine zby 210 mix Tryd.func3 ent3 ?_
 refine zx [.v (.b false)] ?_
 refine zi ?_
 refine zi (zc ?_)
 refine zdb (r:= .b true) z6u ?_
 refine w_o (a:= .b false) ?_
 refine zax rfl ?_
 refine zi ?_
 refine zid (k0:=0) (id:=3) 11 (by kernel_rfl) (by kernel_rfl) ?_
 refine zjj ?_
 refine zjj ?_
 refine h_o (a:= .i (List.length b:Int)) ?_
 refine h_o (a:= .i (min (List.length b:Int) 20)) (h:=qhg rfl rfl rfl rfl rfl) ?_
 obtain⟨g1,h⟩:=zp h
 refine h_opS (a:= .L ((sub b 0 (min (List.length b:Int) 20)):List UInt8)) rfl rfl rfl (q_sub_H (α:=UInt8) (l:=b) g1 rfl rfl rfl rfl rfl) (qbj _ _ _) (by dsimp only[zy,List.set]) ?_
 refine zjj ?_
 refine zjj ?_
 refine h_o (a:= .i (List.length behind:Int)) (h:=zdv rfl rfl rfl) ?_
 refine h_o (a:= .i (min (List.length behind:Int) 50)) (h:=qhg rfl rfl rfl rfl rfl) ?_
 obtain⟨g2,h⟩:=zp h
 obtain⟨x1,hx1,h⟩:=zt h
 refine h_o (a:= .s x1) (h:=by rw[←hx1];exact(qco (l:=behind) g2 rfl rfl rfl rfl)) ?_
 refine zjj ?_
 refine ziy ?_
 refine zac ?_
 refine zi ?_
 refine zx [.m _,.v (.i (List.length (sub b 0 (min (List.length b:Int) 20)):Int)),.v (.b ((List.length (sub b 0 (min (List.length b:Int) 20)):Int)==0))] ?_
 refine zcd h (fun hc1 h=> ?_) (fun hc1 h=> ?_)
 refine zx [.v (.b true)] ?_
 exact zbe h
 refine zx [.v (.s ([]:List UInt8))] ?_
 refine zi (zc ?_)
 refine zcb (a:= .ptr 0 0) (σ'':=(.B [(25,(Enc.cells (0#256:BS)))])) ?_
 refine zbh h (bz 0 213 13164036458569648337239753460458804039861886925068638906788871931) (fun j1=>[(7,.s j1.1)]) (fun j1=>(.B [(25,(Enc.cells (j1.2:BS)))])) ?_ ?_
 intro or1 h hr1
 refine zx [.v (.i 0)] ?_
 refine zag ?_
 refine zcx h (bz 0 213 13164036458569648337239753460458804039861886925068638906788871928) (fun s1=>[(7,.s s1.1),(9,.i s1.2.1)]) (fun s1=>(.B [(25,(Enc.cells (s1.2.2:BS)))])) ?_ ?_
 exact zdq (bl 213 903) (by kernel_rfl) (by kernel_rfl)
 intro s1 p1 h
 refine zet ?_
 refine zi ?_
 refine zx [.m _,.m _,.v (.i (List.length (sub b 0 (min (List.length b:Int) 20)):Int)),.v (.b (decide (s1.2.1<(List.length (sub b 0 (min (List.length b:Int) 20)):Int))))] ?_
 refine zcd h (fun hc2 h=> ?_) (fun hc2 h=> ?_)
 refine zbh h (bz 0 116 83076749736557242056461003232648832) (fun j2=>[(7,.s j2.1),(9,.i j2.2.1)]) (fun j2=>(.B [(25,(Enc.cells (j2.2.2:BS)))])) ?_ ?_
 intro or2 h hr2
 refine zag ?_
 refine zi ?_
 refine zid (k0:=0) (id:=11) 9 (by kernel_rfl) (by kernel_rfl) ?_
 refine zjj ?_
 refine zjj ?_
 obtain⟨g3,h⟩:=zp h
 obtain⟨x2,hx2,h⟩:=zt h
 refine h_ix hx2 g3 ?_
 refine h_o (a:= .u (((x2).toNat:Nat):Int)) ?_
 refine zjj ?_
 refine zjj ?_
 obtain⟨g4,h⟩:=zp h
 obtain⟨x3,hx3,h⟩:=zt h
 refine h_ix hx3 g4 ?_
 refine h_o (a:= .u (((x3).toNat:Nat):Int)) ?_
 refine zjj ?_
 refine ziy ?_
 refine zac ?_
 refine zx [.m _,.m _] ?_
 obtain⟨g5,h⟩:=zp h
 obtain⟨x4,hx4,h⟩:=zt h
 refine zdb (args':=[.u (((x2).toNat:Nat):Int)]) (r:= .s x4) (by rw[←hx4];exact(k_hex (((x2).toNat:Nat):Int) g5)) ?_
 obtain⟨g6,h⟩:=zp h
 refine w_o (a:= .s (s1.1++x4)) (h:=zbb (zfw g6 rfl rfl rfl)) ?_
 refine zac ?_
 refine zbh h (bz 0 99 633825300114114673810316724864) (fun j3=>[(7,.s j3.1),(9,.i j3.2.1),(11,.u j3.2.2)]) (fun j3=>(.B [(25,(Enc.cells (s1.2.2:BS)))])) ?_ ?_
 intro or3 h hr3
 refine zx [.m _] ?_
 obtain⟨g7,h⟩:=zp h
 refine zio g7 ?_
 refine w_r [.m _,.v (.i (List.length (sub b 0 (min (List.length b:Int) 20)):Int)),.v (.b (decide ((s1.2.1+1)<(List.length (sub b 0 (min (List.length b:Int) 20)):Int))))] ?_
 refine zaa h (fun hc3 h=> ?_) (fun hc3 h=> ?_)
 refine zak hc3 ?_
 refine w_r [.m _,.v (.i (List.length ways:Int)),.v (.b (decide ((List.length ways:Int)>0))),.v (.b (decide ((List.length ways:Int)>0)))] ?_
 refine zaa h (fun hc4 h=> ?_) (fun hc4 h=> ?_)
 refine zak hc4 ?_
 refine w_r [.m _,.m _,.m _,.v (.i (List.length ways:Int))] ?_
 refine zan rfl rfl ?_
 obtain⟨g8,h⟩:=zp h
 refine w_o (a:= .i (Int.tmod s1.2.1 (List.length ways:Int))) (h:=zbb (q_rem64 g8 rfl rfl rfl)) ?_
 refine zan rfl rfl ?_
 obtain⟨g9,h⟩:=zp h
 obtain⟨x5,hx5,h⟩:=zt h
 refine z6x hx5 g9 ?_
 refine w_r [.v (.u (((x5).toNat:Nat):Int)),.v (.u (Int.tmod (((x5).toNat:Nat):Int) 3)),.v (.b ((Int.tmod (((x5).toNat:Nat):Int) 3)==0)),.v (.b ((Int.tmod (((x5).toNat:Nat):Int) 3)==0))] ?_
 refine zaa h (fun hc5 h=> ?_) (fun hc5 h=> ?_)
 refine zak hc5 ?_
 refine w_r [.m _,.m _] ?_
 refine zan rfl rfl ?_
 obtain⟨g10,h⟩:=zp h
 refine zio g10 ?_
 refine zan rfl rfl ?_
 obtain⟨g11,h⟩:=zp h
 obtain⟨x6,hx6,h⟩:=zt h
 refine z6x hx6 g11 ?_
 refine w_r [.v (.u (((x6).toNat:Nat):Int)),.m _,.v (.b (decide ((((x6).toNat:Nat):Int)≥(((x2).toNat:Nat):Int)))),.v (.b (decide ((((x6).toNat:Nat):Int)≥(((x2).toNat:Nat):Int))))] ?_
 refine zcd h (fun hc6 h=> ?_) (fun hc6 h=> ?_)
 refine zx [.m _,.m _] ?_
 obtain⟨g12,h⟩:=zp h
 refine zio g12 ?_
 obtain⟨g13,h⟩:=zp h
 obtain⟨x7,hx7,h⟩:=zt h
 refine z6x hx7 g13 ?_
 refine w_r [.v (.u (((x7).toNat:Nat):Int)),.m _] ?_
 refine zx [.m _,.m _] ?_
 obtain⟨g14,h⟩:=zp h
 obtain⟨x8,hx8,h⟩:=zt h
 refine zdb (args':=[.u (((x7).toNat:Nat):Int)]) (r:= .s x8) (by rw[←hx8];exact(k_hex (((x7).toNat:Nat):Int) g14)) ?_
 obtain⟨g15,h⟩:=zp h
 refine w_o (a:= .s (([45]:List UInt8)++x8)) (h:=zbb (zfw g15 rfl rfl rfl)) ?_
 obtain⟨g16,h⟩:=zp h
 refine w_o (a:= .s ((s1.1++x4)++(([45]:List UInt8)++x8))) (h:=zbb (zfw g16 rfl rfl rfl)) ?_
 refine zac ?_
 refine zc (k0:=0) (id:=16) ?_
 refine zac ?_
 obtain⟨g17,h⟩:=zp h
 refine zio g17 ?_
 refine zac ?_
 refine zg (o:=or3) (((s1.1++x4)++(([45]:List UInt8)++x8)),(s1.2.1+1),(((x7).toNat:Nat):Int)) h ?_
 exact zdq (bl 213 13164036458569648337239753460458803406036586810953965096472150015) (by kernel_rfl) (by kernel_rfl)
 refine zg (o:=or3) ((s1.1++x4),s1.2.1,(((x3).toNat:Nat):Int)) h ?_
 exact zdq (bl 213 13164036458569648337239753460458803406036586810953965096472150015) (by kernel_rfl) (by kernel_rfl)
 refine zak hc5 ?_
 refine w_r [.p,.p,.p,.p,.p] ?_
 refine w_r [.p,.p,.v (.b false)] ?_
 refine zax rfl ?_
 refine zg (o:=or3) ((s1.1++x4),s1.2.1,(((x3).toNat:Nat):Int)) h ?_
 exact zdq (bl 213 13164036458569648337239753460458803406036586810953965096472150015) (by kernel_rfl) (by kernel_rfl)
 refine zak hc4 ?_
 refine w_r [.p,.p,.p,.p,.p] ?_
 refine w_r [.p,.p,.p,.p,.v (.b false)] ?_
 refine w_r [.m _,.p,.p,.p,.p] ?_
 refine w_r [.p,.p,.p,.v (.b false)] ?_
 refine zax rfl ?_
 refine zg (o:=or3) ((s1.1++x4),s1.2.1,(((x3).toNat:Nat):Int)) h ?_
 exact zdq (bl 213 13164036458569648337239753460458803406036586810953965096472150015) (by kernel_rfl) (by kernel_rfl)
 refine zak hc3 ?_
 refine w_r [.p,.p,.p,.v (.b false),.m _] ?_
 refine w_r [.p,.p,.p,.p,.p] ?_
 refine w_r [.p,.p,.p,.p,.v (.b false)] ?_
 refine w_r [.m _,.p,.p,.p,.p] ?_
 refine w_r [.p,.p,.p,.v (.b false)] ?_
 refine zax rfl ?_
 refine zg (o:=or3) ((s1.1++x4),s1.2.1,(((x3).toNat:Nat):Int)) h ?_
 exact zdq (bl 213 13164036458569648337239753460458803406036586810953965096472150015) (by kernel_rfl) (by kernel_rfl)
 intro j3 h
 refine zet ?_
 refine zx [.m _] ?_
 obtain⟨g18,h⟩:=zp h
 refine w_o (a:= .i (((x2).toNat:Nat):Int)) (h:=zbb (zib g18 rfl rfl rfl)) ?_
 refine zac ?_
 refine zag ?_
 refine zcx h (bz 0 116 83076115911257127941787192915923968) (fun s2=>[(12,.i s2.1)]) (fun s2=>(.B [(25,(Enc.cells (s2.2:BS)))])) ?_ ?_
 exact zdq (bl 213 13164036458569648337239753460375727923950629797126851713872952319) (by kernel_rfl) (by kernel_rfl)
 intro s2 p2 h
 refine zet ?_
 refine zi ?_
 refine zx [.m _,.m _] ?_
 obtain⟨g19,h⟩:=zp h
 refine w_o (a:= .i j3.2.2) (h:=zbb (zib g19 rfl rfl rfl)) ?_
 refine w_o (a:= .b (decide (s2.1≤j3.2.2))) ?_
 refine zcd h (fun hc7 h=> ?_) (fun hc7 h=> ?_)
 refine zi ?_
 refine zag ?_
 refine zid (k0:=0) (id:=20) 7 (by kernel_rfl) (by kernel_rfl) ?_
 refine zjj ?_
 refine h_o (a:= .i (IntKind.i64.wrap (Int.tdiv s2.1 64))) ?_
 obtain⟨g20,h⟩:=zp h
 refine h_o (a:= .ptr 0 (0+Int.toNat (IntKind.i64.wrap (Int.tdiv s2.1 64))*1)) (h:=zko g20 rfl rfl rfl rfl rfl) ?_
 refine h_o (a:= .raw (.int .u64 (wd s2.2 (Int.toNat (IntKind.i64.wrap (Int.tdiv s2.1 64)))))) (h:=zom s2.2 (by omega) rfl rfl rfl) ?_
 refine zjj ?_
 refine h_o (a:= .i (Int.tmod s2.1 64)) ?_
 obtain⟨g21,h⟩:=zp h
 refine h_o (a:= .raw (.int .u64 (zkd .u64 1 (Int.tmod s2.1 64)))) (h:=qgr g21 rfl rfl rfl) ?_
 refine ziy ?_
 refine w_o (a:= .raw (.int .u64 (orI .u64 (wd s2.2 (Int.toNat (IntKind.i64.wrap (Int.tdiv s2.1 64)))) (zkd .u64 1 (Int.tmod s2.1 64))))) ?_
 obtain⟨g22,h⟩:=zp h
 refine w_o (a:= .ptr 0 (0+Int.toNat (IntKind.i64.wrap (Int.tdiv s2.1 64))*1)) (h:=zbb (zko g22 rfl rfl rfl rfl rfl)) ?_
 obtain⟨g23,h⟩:=zp h
 obtain⟨x9,hx9,h⟩:=zt h
 refine zfs (σ'':=(.B [(25,(Enc.cells (x9:BS)))])) rfl rfl rfl (znb s2.2 g22 g23 rfl rfl rfl rfl) (by dsimp only[zy,List.set]) (by subst hx9;rfl) ?_
 refine zc (k0:=0) (id:=19) ?_
 refine zac ?_
 obtain⟨g24,h⟩:=zp h
 refine zio g24 ?_
 refine zac ?_
 refine zbs (p:=p2) ((s2.1+1),x9) h ?_
 exact zdq (bl 213 13164036458569648337239753460375727923950629797126851713872952319) (by kernel_rfl) (by kernel_rfl)
 refine zaj h (fun h=> ?_)
 refine zg (o:=or2) (j3.1,j3.2.1,s2.2) h ?_
 exact zdq (bl 213 13164036458569648337239753460375727290125329683012177903556223999) (by kernel_rfl) (by kernel_rfl)
 intro j2 h
 refine zet ?_
 refine zc (k0:=0) (id:=10) ?_
 refine zac ?_
 obtain⟨g25,h⟩:=zp h
 refine zio g25 ?_
 refine zac ?_
 refine zbs (p:=p1) (j2.1,(j2.2.1+1),j2.2.2) h ?_
 exact zdq (bl 213 903) (by kernel_rfl) (by kernel_rfl)
 refine zaj h (fun h=> ?_)
 refine zg (o:=or1) (s1.1,s1.2.2) h ?_
 exact zdq (bl 213 388) (by kernel_rfl) (by kernel_rfl)
 intro j1 h
 refine zet ?_
 refine zx [.v (.A (j1.2:BS))] ?_
 refine zcb (a:= .ptr 1 0) (σ'':=(.B [(25,(Enc.cells (j1.2:BS))),(25,(Enc.cells (0#256:BS)))])) ?_
 refine zco 4 (.B [(25,(Enc.cells (j1.2:BS))),(25,(Enc.cells (j1.2:BS)))]) ?_
 refine zbh h (bz 0 127 170058106710732674489630815774616600576) (fun j4=>[]) (fun j4=>(.B [(25,(Enc.cells (j1.2:BS))),(25,(Enc.cells (j4:BS)))])) ?_ ?_
 intro or4 h hr4
 refine zx [.v (.i 0)] ?_
 refine zag ?_
 refine zcx h (bz 0 127 170058106710732674489630815774616600576) (fun s3=>[(117,.i s3.1)]) (fun s3=>(.B [(25,(Enc.cells (j1.2:BS))),(25,(Enc.cells (s3.2:BS)))])) ?_ ?_
 exact zdq (bl 213 13164036458569648337239753290566850828602326919550799014707314687) (by kernel_rfl) (by kernel_rfl)
 intro s3 p3 h
 refine zet ?_
 refine zx [.v (.b (decide (s3.1<4)))] ?_
 refine zi ?_
 refine zcd h (fun hc8 h=> ?_) (fun hc8 h=> ?_)
 refine zi ?_
 refine zag ?_
 refine zx [.m _,.m _] ?_
 refine zc (k0:=0) (id:=25) ?_
 refine w_r [.m _,.m _] ?_
 obtain⟨g26,h⟩:=zp h
 refine w_o (a:= .ptr 1 (0+Int.toNat s3.1*1)) (h:=zbb (zko g26 rfl rfl rfl rfl rfl)) ?_
 refine w_o (a:= .raw (.int .u64 (wd s3.2 (Int.toNat s3.1)))) (h:=zbb (zom s3.2 (by omega) rfl rfl rfl)) ?_
 refine w_o (a:= .raw (.int .u64 (zvz .u64 18446744073709551615 (wd s3.2 (Int.toNat s3.1))))) ?_
 obtain⟨g27,h⟩:=zp h
 refine w_o (a:= .ptr 1 (0+Int.toNat s3.1*1)) (h:=zbb (zko g27 rfl rfl rfl rfl rfl)) ?_
 obtain⟨g28,h⟩:=zp h
 obtain⟨x10,hx10,h⟩:=zt h
 refine zfs (σ'':=(.B [(25,(Enc.cells (j1.2:BS))),(25,(Enc.cells (x10:BS)))])) rfl rfl rfl (znb s3.2 g27 g28 rfl rfl rfl rfl) (by dsimp only[zy,List.set]) (by subst hx10;rfl) ?_
 refine zc (k0:=0) (id:=26) ?_
 obtain⟨g29,h⟩:=zp h
 refine zio g29 ?_
 refine zac ?_
 refine zbs (p:=p3) ((s3.1+1),x10) h ?_
 exact zdq (bl 213 13164036458569648337239753290566850828602326919550799014707314687) (by kernel_rfl) (by kernel_rfl)
 refine zaj h (fun h=> ?_)
 refine zg (o:=or4) (s3.2) h ?_
 exact zdq (bl 213 13164036458569648337239753290400697329129212435437823132172271615) (by kernel_rfl) (by kernel_rfl)
 intro j4 h
 refine zet ?_
 refine zx [.m _] ?_
 obtain⟨g30,h⟩:=zp h
 refine w_o (a:= .s (([91]:List UInt8)++j1.1)) (h:=zbb (zfw g30 rfl rfl rfl)) ?_
 obtain⟨g31,h⟩:=zp h
 refine w_o (a:= .s ((([91]:List UInt8)++j1.1)++([93]:List UInt8))) (h:=zbb (zfw g31 rfl rfl rfl)) ?_
 refine zac ?_
 obtain⟨g32,h⟩:=zp h
 refine w_o (a:= .s (((([91]:List UInt8)++j1.1)++([93]:List UInt8))++x1)) (h:=zbb (zfw g32 rfl rfl rfl)) ?_
 obtain⟨x11,hx11,h⟩:=zv h
 refine zdb (zpc fuel (((([91]:List UInt8)++j1.1)++([93]:List UInt8))++x1) x11 hx11) ?_
 refine w_r [.m _,.x _,.x _,.x _] ?_
 refine zcb (a:= .ptr 2 0) (σ'':=(.B [(25,(Enc.cells (j1.2:BS))),(25,(Enc.cells (j4:BS))),(27,(Enc.cells (0#256:BS)))])) ?_
 refine zco 4 (.B [(25,(Enc.cells (j1.2:BS))),(25,(Enc.cells (j4:BS))),(27,(Enc.cells (x11.1:BS)))]) ?_
 refine w_r [.m _,.m _] ?_
 refine zx [.m _] ?_
 obtain⟨g33,h⟩:=zp h
 refine w_o (a:= .s (([91,94]:List UInt8)++j1.1)) (h:=zbb (zfw g33 rfl rfl rfl)) ?_
 obtain⟨g34,h⟩:=zp h
 refine w_o (a:= .s ((([91,94]:List UInt8)++j1.1)++([93]:List UInt8))) (h:=zbb (zfw g34 rfl rfl rfl)) ?_
 refine zac ?_
 obtain⟨g35,h⟩:=zp h
 refine w_o (a:= .s (((([91,94]:List UInt8)++j1.1)++([93]:List UInt8))++x1)) (h:=zbb (zfw g35 rfl rfl rfl)) ?_
 obtain⟨x12,hx12,h⟩:=zv h
 refine zdb (zpc fuel (((([91,94]:List UInt8)++j1.1)++([93]:List UInt8))++x1) x12 hx12) ?_
 refine w_r [.m _,.x _,.x _,.x _] ?_
 refine zcb (a:= .ptr 3 0) (σ'':=(.B [(25,(Enc.cells (j1.2:BS))),(25,(Enc.cells (j4:BS))),(27,(Enc.cells (x11.1:BS))),(27,(Enc.cells (0#256:BS)))])) ?_
 refine zco 4 (.B [(25,(Enc.cells (j1.2:BS))),(25,(Enc.cells (j4:BS))),(27,(Enc.cells (x11.1:BS))),(27,(Enc.cells (x12.1:BS)))]) ?_
 refine w_r [.m _,.m _] ?_
 refine zi ?_
 refine zx [.m _,.v (.b (x11.2.2 !=0))] ?_
 refine zaa h (fun hc9 h=> ?_) (fun hc9 h=> ?_)
 refine zak hc9 ?_
 refine w_r [.p,.p,.p,.v (.b true),.m _] ?_
 refine w_r [.p,.p,.p,.p,.p] ?_
 refine w_r [.v (.b true)] ?_
 refine zbf rfl ?_
 refine zx [.v (.b false)] ?_
 exact zbe h
 refine zak hc9 ?_
 refine w_r [.v (.A (x11.1:BS)),.v (.A (j1.2:BS))] ?_
 refine zan rfl rfl ?_
 refine zua (.b (decide (x11.1≠j1.2))) rfl rfl rfl (zsr x11.1 j1.2 rfl rfl rfl) (by dsimp only[zy,List.set]) ?_
 refine w_o (a:= .b (decide (x11.1≠j1.2))) ?_
 refine zaa h (fun hc10 h=> ?_) (fun hc10 h=> ?_)
 refine zak hc10 ?_
 refine w_r [.p,.p,.p,.p,.p] ?_
 refine w_r [.v (.b true)] ?_
 refine zbf rfl ?_
 refine zx [.v (.b false)] ?_
 exact zbe h
 refine zak hc10 ?_
 refine w_r [.m _,.m _] ?_
 refine zan rfl rfl ?_
 refine w_o (a:= .i (List.length j1.1:Int)) (h:=zbb (zdv rfl rfl rfl)) ?_
 refine zan rfl rfl ?_
 obtain⟨g36,h⟩:=zp h
 refine zio g36 ?_
 refine w_r [.v (.b (x11.2.1 !=((List.length j1.1:Int)+2))),.v (.b (x11.2.1 !=((List.length j1.1:Int)+2)))] ?_
 refine zcd h (fun hc11 h=> ?_) (fun hc11 h=> ?_)
 refine zx [.v (.b false)] ?_
 exact zbe h
 refine zi ?_
 refine zx [.v (.A (j4:BS)),.v (.A (0#256:BS))] ?_
 refine zua (.b (decide (j4=(0#256)))) rfl rfl rfl (qed j4 (0#256) rfl rfl rfl) (by dsimp only[zy,List.set]) ?_
 refine zcd h (fun hc12 h=> ?_) (fun hc12 h=> ?_)
 refine zx [.m _,.v (.b (x12.2.2==94))] ?_
 refine zaa h (fun hc13 h=> ?_) (fun hc13 h=> ?_)
 refine zak hc13 ?_
 refine w_r [.m _,.v (.b (x12.2.1==0)),.v (.b (x12.2.1==0)),.m _] ?_
 exact zbe h
 refine zak hc13 ?_
 refine w_r [.p,.p,.v (.b false),.m _] ?_
 exact zbe h
 refine zx [.m _] ?_
 obtain⟨g37,h⟩:=zp h
 refine w_o (a:= .s (([91]:List UInt8)++j1.1)) (h:=zbb (zfw g37 rfl rfl rfl)) ?_
 obtain⟨g38,h⟩:=zp h
 refine w_o (a:= .s ((([91]:List UInt8)++j1.1)++([93]:List UInt8))) (h:=zbb (zfw g38 rfl rfl rfl)) ?_
 obtain⟨x13,hx13,h⟩:=zv h
 refine zdb (r:= .tup [.A (x13.1:Rg),.i x13.2.1,.i x13.2.2]) (qaq 1100 60 ((([91]:List UInt8)++j1.1)++([93]:List UInt8)) x13 hx13) ?_
 refine w_r [.m _,.x _,.x _,.x _] ?_
 refine zcb (a:= .ptr 4 0) (σ'':=(.B [(25,(Enc.cells (j1.2:BS))),(25,(Enc.cells (j4:BS))),(27,(Enc.cells (x11.1:BS))),(27,(Enc.cells (x12.1:BS))),(35,[.b false,.b false,.u 0,.raw (.int .u64 0),.raw (.int .u64 0),.raw (.int .u64 0),.raw (.int .u64 0),.i 0,.i 0,.list 0 [] .full])])) ?_
 refine zco 10 (.B [(25,(Enc.cells (j1.2:BS))),(25,(Enc.cells (j4:BS))),(27,(Enc.cells (x11.1:BS))),(27,(Enc.cells (x12.1:BS))),(35,(Enc.cells (x13.1:Rg)))]) ?_
 refine w_r [.m _,.m _] ?_
 refine zx [.m _,.v (.b (x12.2.2==0))] ?_
 refine zaa h (fun hc14 h=> ?_) (fun hc14 h=> ?_)
 refine zak hc14 ?_
 refine w_r [.v (.A (x12.1:BS)),.v (.A (j4:BS))] ?_
 refine zan rfl rfl ?_
 refine zua (.b (decide (x12.1=j4))) rfl rfl rfl (zni x12.1 j4 rfl rfl rfl) (by dsimp only[zy,List.set]) ?_
 refine w_o (a:= .b (decide (x12.1=j4))) ?_
 refine zaa h (fun hc15 h=> ?_) (fun hc15 h=> ?_)
 refine zak hc15 ?_
 refine w_r [.m _,.m _] ?_
 refine zan rfl rfl ?_
 obtain⟨g39,h⟩:=zp h
 refine zio g39 ?_
 refine w_r [.v (.b (x12.2.1==(x11.2.1+1))),.v (.b (x12.2.1==(x11.2.1+1)))] ?_
 refine zaa h (fun hc16 h=> ?_) (fun hc16 h=> ?_)
 refine zak hc16 ?_
 refine w_r [.m _,.v (.b (x13.2.2==0)),.v (.b (x13.2.2==0))] ?_
 refine zaa h (fun hc17 h=> ?_) (fun hc17 h=> ?_)
 refine zak hc17 ?_
 refine w_r [.m _,.m _,.v (.b (x13.2.1==x11.2.1)),.v (.b (x13.2.1==x11.2.1))] ?_
 refine zaa h (fun hc18 h=> ?_) (fun hc18 h=> ?_)
 refine zak hc18 ?_
 refine w_r [.v (.ptr 4 2),.v (.ptr 4 2),.v (.u ((x13.1.t.k:Nat):Int)),.v (.b (((x13.1.t.k:Nat):Int)==2)),.v (.b (((x13.1.t.k:Nat):Int)==2))] ?_
 refine zaa h (fun hc19 h=> ?_) (fun hc19 h=> ?_)
 refine zak hc19 ?_
 refine w_r [.v (.ptr 4 2),.v (.ptr 4 3),.v (.A (x13.1.t.s:BS)),.v (.A (j1.2:BS))] ?_
 refine zan rfl rfl ?_
 refine zua (.b (decide (x13.1.t.s=j1.2))) rfl rfl rfl (zni x13.1.t.s j1.2 rfl rfl rfl) (by dsimp only[zy,List.set]) ?_
 refine w_r [.v (.b (decide (x13.1.t.s=j1.2))),.m _] ?_
 exact zbe h
 refine zak hc19 ?_
 refine w_r [.p,.p,.p,.p,.p] ?_
 refine w_r [.v (.b false),.m _] ?_
 exact zbe h
 refine zak hc18 ?_
 refine w_r [.p,.p,.p,.p,.v (.b false)] ?_
 refine w_r [.m _,.p,.p,.p,.p] ?_
 refine w_r [.p,.v (.b false),.m _] ?_
 exact zbe h
 refine zak hc17 ?_
 refine w_r [.p,.p,.p,.v (.b false),.m _] ?_
 refine w_r [.p,.p,.p,.p,.v (.b false)] ?_
 refine w_r [.m _,.p,.p,.p,.p] ?_
 refine w_r [.p,.v (.b false),.m _] ?_
 exact zbe h
 refine zak hc16 ?_
 refine w_r [.p,.p,.v (.b false),.m _,.p] ?_
 refine w_r [.p,.p,.v (.b false),.m _,.p] ?_
 refine w_r [.p,.p,.p,.v (.b false),.m _] ?_
 refine w_r [.p,.p,.p,.p,.p] ?_
 refine w_r [.v (.b false),.m _] ?_
 exact zbe h
 refine zak hc15 ?_
 refine w_r [.p,.p,.p,.p,.v (.b false)] ?_
 refine w_r [.m _,.p,.p,.v (.b false),.m _] ?_
 refine w_r [.p,.p,.p,.v (.b false),.m _] ?_
 refine w_r [.p,.p,.p,.p,.v (.b false)] ?_
 refine w_r [.m _,.p,.p,.p,.p] ?_
 refine w_r [.p,.v (.b false),.m _] ?_
 exact zbe h
 refine zak hc14 ?_
 refine w_r [.p,.p,.p,.v (.b false),.m _] ?_
 refine w_r [.p,.p,.p,.p,.v (.b false)] ?_
 refine w_r [.m _,.p,.p,.v (.b false),.m _] ?_
 refine w_r [.p,.p,.p,.v (.b false),.m _] ?_
 refine w_r [.p,.p,.p,.p,.v (.b false)] ?_
 refine w_r [.m _,.p,.p,.p,.p] ?_
 refine w_r [.p,.v (.b false),.m _] ?_
 exact zbe h
end Go.Ab
