/-
  rx, rxnorm: functions without loops.
-/
import Derived.Test.YtfkkellnlmjenaaGreatZdQr
set_option linter.unusedSimpArgs false
set_option linter.unusedVariables false
set_option maxRecDepth 100000
set_option maxHeartbeats 4000000
namespace Go.Ab
open Go Go.RowKit Go.Fwd Go.Proofs
def zor (x:Int):Option Bool:=
 (some (x !=x))
theorem ent150:Ent Tryz.prog 150:=enters_of Tryz.func150 (by kernel_rfl) rfl
theorem z1z (x:Int)(r:Bool)(h:zor x=some r):Pure (ITP Tryz.prog) Tryz.prog 150 [.raw (.int .u8 x)] (.raw (.bool r)):=by
 unfold zor at h
 refine zbd 5 mix Tryz.func150 ent150 ?_
 refine zr [.v (.b false)] ?_
 refine zr [.m _,.m _,.v (.b (x !=x)),.m _] ?_
 exact zbg h
def zva (x:Int):Option Bool:=
 (some (x !=x))
theorem ent151:Ent Tryz.prog 151:=enters_of Tryz.func151 (by kernel_rfl) rfl
theorem z9x (x:Int)(r:Bool)(h:zva x=some r):Pure (ITP Tryz.prog) Tryz.prog 151 [.raw (.int .i64 x)] (.raw (.bool r)):=by
 unfold zva at h
 refine zbd 5 mix Tryz.func151 ent151 ?_
 refine zr [.v (.b false)] ?_
 refine zr [.m _,.m _,.v (.b (x !=x)),.m _] ?_
 exact zbg h
def z4e (x:Int)(y:Int):Option Int:=
 (zav (zor x) (fun x1=>(zav (zor y) (fun x2=>(bif x1 then(bif x2 then(some 0) else(some (-1))) else(bif x2 then(some 1) else(bif (decide (x<y)) then(some (-1)) else(bif (decide (x>y)) then(some 1) else(some 0)))))))))
theorem ent107:Ent Tryz.prog 107:=enters_of Tryz.func107 (by kernel_rfl) rfl
theorem cmp8_sh (x:Int)(y:Int)(r:Int)(h:z4e x y=some r):Pure (ITP Tryz.prog) Tryz.prog 107 [.raw (.int .u8 x),.raw (.int .u8 y)] (.raw (.int .i64 r)):=by
 unfold z4e at h
 refine zbd 18 mix Tryz.func107 ent107 ?_
 refine zr [.v (.i 0)] ?_
 refine zr [.m _] ?_
 obtain⟨x1,hx1,h⟩:=zu h
 refine zcq (z1z x x1 hx1) ?_
 refine zab ?_
 refine zr [.m _] ?_
 obtain⟨x2,hx2,h⟩:=zu h
 refine zcq (z1z y x2 hx2) ?_
 refine zab ?_
 refine zf ?_
 refine zr [.m _] ?_
 refine zci h (fun hc1 h=> ?_) (fun hc1 h=> ?_)
 refine zf ?_
 refine zr [.m _] ?_
 refine zci h (fun hc2 h=> ?_) (fun hc2 h=> ?_)
 refine zr [.v (.i 0)] ?_
 exact zdr h
 refine zr [.v (.i (-1))] ?_
 exact zdr h
 refine zf ?_
 refine zr [.m _] ?_
 refine zci h (fun hc3 h=> ?_) (fun hc3 h=> ?_)
 refine zr [.v (.i 1)] ?_
 exact zdr h
 refine zf ?_
 refine zr [.m _,.m _,.v (.b (decide (x<y)))] ?_
 refine zci h (fun hc4 h=> ?_) (fun hc4 h=> ?_)
 refine zr [.v (.i (-1))] ?_
 exact zdr h
 refine zf ?_
 refine zr [.m _,.m _,.v (.b (decide (x>y)))] ?_
 refine zci h (fun hc5 h=> ?_) (fun hc5 h=> ?_)
 refine zr [.v (.i 1)] ?_
 exact zdr h
 refine zr [.v (.i 0)] ?_
 exact zdr h
def zpf (x:Int)(y:Int):Option Int:=
 (zav (zva x) (fun x1=>(zav (zva y) (fun x2=>(bif x1 then(bif x2 then(some 0) else(some (-1))) else(bif x2 then(some 1) else(bif (decide (x<y)) then(some (-1)) else(bif (decide (x>y)) then(some 1) else(some 0)))))))))
theorem ent110:Ent Tryz.prog 110:=enters_of Tryz.func110 (by kernel_rfl) rfl
theorem z8n (x:Int)(y:Int)(r:Int)(h:zpf x y=some r):Pure (ITP Tryz.prog) Tryz.prog 110 [.raw (.int .i64 x),.raw (.int .i64 y)] (.raw (.int .i64 r)):=by
 unfold zpf at h
 refine zbd 18 mix Tryz.func110 ent110 ?_
 refine zr [.v (.i 0)] ?_
 refine zr [.m _] ?_
 obtain⟨x1,hx1,h⟩:=zu h
 refine zcq (z9x x x1 hx1) ?_
 refine zab ?_
 refine zr [.m _] ?_
 obtain⟨x2,hx2,h⟩:=zu h
 refine zcq (z9x y x2 hx2) ?_
 refine zab ?_
 refine zf ?_
 refine zr [.m _] ?_
 refine zci h (fun hc1 h=> ?_) (fun hc1 h=> ?_)
 refine zf ?_
 refine zr [.m _] ?_
 refine zci h (fun hc2 h=> ?_) (fun hc2 h=> ?_)
 refine zr [.v (.i 0)] ?_
 exact zdr h
 refine zr [.v (.i (-1))] ?_
 exact zdr h
 refine zf ?_
 refine zr [.m _] ?_
 refine zci h (fun hc3 h=> ?_) (fun hc3 h=> ?_)
 refine zr [.v (.i 1)] ?_
 exact zdr h
 refine zf ?_
 refine zr [.m _,.m _,.v (.b (decide (x<y)))] ?_
 refine zci h (fun hc4 h=> ?_) (fun hc4 h=> ?_)
 refine zr [.v (.i (-1))] ?_
 exact zdr h
 refine zf ?_
 refine zr [.m _,.m _,.v (.b (decide (x>y)))] ?_
 refine zci h (fun hc5 h=> ?_) (fun hc5 h=> ?_)
 refine zr [.v (.i 1)] ?_
 exact zdr h
 refine zr [.v (.i 0)] ?_
 exact zdr h
def zwd (t:Tr):Option Int:=
 (bif (t.mx==(-1)) then(some 9223372036854775807) else(some t.mx))
theorem ent111:Ent Tryz.prog 111:=enters_of Tryz.func111 (by kernel_rfl) rfl
theorem qfk (t:Tr)(r:Int)(h:zwd t=some r):Pure (ITP Tryz.prog) Tryz.prog 111 [.A (t:Tr)] (.raw (.int .i64 r)):=by
 unfold zwd at h
 refine zbd 7 mix Tryz.func111 ent111 ?_
 refine zf (zb ?_)
 refine zbz (a:= .ptr 0 0) (σ'':=(.B [(29,(Enc.cells (t:Tr)))])) ?_
 refine w_o (a:= .i 0) ?_
 refine zf ?_
 refine zr [.v (.ptr 0 6),.v (.i t.mx),.v (.b (t.mx==(-1)))] ?_
 refine zci h (fun hc1 h=> ?_) (fun hc1 h=> ?_)
 refine zr [.v (.i 9223372036854775807)] ?_
 exact zdr h
 refine zr [.v (.ptr 0 6),.v (.i t.mx),.m _] ?_
 exact zdr h
def zvk (fuel:Nat)(l:(List Int)):Option Int:=
 (zdn (τ:=Unit) (zbv (β:=Int) (fun s1=>(bif (decide (s1<(List.length l:Int))) then(chk (0≤s1∧s1<(List.length l:Int)) (bif ((ix l s1) !=0) then(some (Sum.inr (Sum.inr (ix l s1)))) else(chk (-9223372036854775808≤(s1+1)∧(s1+1)<9223372036854775808) (some (Sum.inl ((s1+1))))))) else(some (Sum.inr (Sum.inl ()))))) fuel (0)) (fun j1=>(some 0)))
theorem ent109:Ent Tryz.prog 109:=enters_of Tryz.func109 (by kernel_rfl) rfl
theorem qlm (fuel:Nat)(l:(List Int))(r:Int)(h:zvk fuel l=some r):Pure (ITP Tryz.prog) Tryz.prog 109 [.L (l:List Int)] (.raw (.int .i64 r)):=by
 unfold zvk at h
 refine zbd 17 mix Tryz.func109 ent109 ?_
 refine zr [.v (.i 0)] ?_
 refine zr [.v (.i 0)] ?_
 refine zau h (bz 0 18 262135) (fun j1=>[]) (fun j1=>(.B [])) ?_ ?_
 intro or1 h hr1
 refine zr [.m _,.v (.i (List.length l:Int)),.v (.i 0)] ?_
 refine zp ?_
 refine zbx h (bz 0 18 261943) (fun s1=>[(8,.i s1)]) (fun s1=>(.B [])) ?_ ?_
 exact zdl (bl 18 456)
 intro s1 p1 h
 refine zfj ?_
 refine zr [.v (.b (decide (s1<(List.length l:Int))))] ?_
 refine zf ?_
 refine zci h (fun hc1 h=> ?_) (fun hc1 h=> ?_)
 refine zf ?_
 refine zp ?_
 refine zf (zb ?_)
 obtain⟨g1,h⟩:=zi h
 refine w_o (a:= .iptr (Enc.cells (ix l s1)++Enc.cellsL (List.drop (Int.toNat s1+1) l))) (h:=zbh (ztq (α:=Int) (l:=l) g1 rfl rfl rfl rfl rfl)) ?_
 refine w_r [.v (.i (ix l s1)),.m _] ?_
 refine zr [.m _,.m _,.v (.b ((ix l s1) !=0))] ?_
 refine zci h (fun hc2 h=> ?_) (fun hc2 h=> ?_)
 refine zr [.m _,.m _] ?_
 refine zw h (fun h=> ?_)
 replace h:=zz h hr1
 exact zdr h
 refine zb (k0:=0) (id:=7) ?_
 obtain⟨g2,h⟩:=zi h
 refine zpe g2 ?_
 refine zab ?_
 refine zas (p:=p1) ((s1+1)) h ?_
 exact zdl (bl 18 456)
 refine zw h (fun h=> ?_)
 refine zg (o:=or1) () h ?_
 exact zdl (bl 18 8)
 intro j1 h
 refine zfj ?_
 refine zr [.m _,.m _] ?_
 exact zdr h
def zgn (lo:Int)(hi:Int):Option Bool:=
 (zdn (τ:=Unit) (bif (decide (lo<0)) then(some (Sum.inr false)) else(bif (decide (lo>16)) then(some (Sum.inr false)) else(bif (lo==1) then(bif (hi==1) then(some (Sum.inr false)) else(some (Sum.inl ()))) else(some (Sum.inl ()))))) (fun j1=>(bif (hi==(-1)) then(some true) else(bif (decide (hi≥1)) then(bif (decide (hi≤16)) then(some (decide (hi≥lo))) else(some false)) else(some false)))))
theorem ent104:Ent Tryz.prog 104:=enters_of Tryz.func104 (by kernel_rfl) rfl
theorem zjp (lo:Int)(hi:Int)(r:Bool)(h:zgn lo hi=some r):Pure (ITP Tryz.prog) Tryz.prog 104 [.raw (.int .i64 lo),.raw (.int .i64 hi)] (.raw (.bool r)):=by
 unfold zgn at h
 refine zbd 32 mix Tryz.func104 ent104 ?_
 refine zr [.v (.b false)] ?_
 refine zau h (bz 0 34 17179869180) (fun j1=>[]) (fun j1=>(.B [])) ?_ ?_
 intro or1 h hr1
 refine zr [.m _,.v (.b (decide (lo<0)))] ?_
 refine zae h (fun hc1 h=> ?_) (fun hc1 h=> ?_)
 refine zbj hc1 ?_
 refine w_r [.p,.p,.v (.b true),.m _,.p] ?_
 refine w_r [.p,.p,.p,.p,.p] ?_
 refine w_r [.v (.b true)] ?_
 refine zce rfl ?_
 refine zr [.v (.b false)] ?_
 replace h:=zz h hr1
 exact zbg h
 refine zbj hc1 ?_
 refine w_r [.m _,.v (.b (decide (lo>16))),.v (.b (decide (lo>16)))] ?_
 refine zae h (fun hc2 h=> ?_) (fun hc2 h=> ?_)
 refine zbj hc2 ?_
 refine w_r [.p,.p,.p,.p,.p] ?_
 refine w_r [.p,.v (.b true)] ?_
 refine zce rfl ?_
 refine zr [.v (.b false)] ?_
 replace h:=zz h hr1
 exact zbg h
 refine zbj hc2 ?_
 refine w_r [.m _,.v (.b (lo==1))] ?_
 refine zaf rfl rfl ?_
 refine zae h (fun hc3 h=> ?_) (fun hc3 h=> ?_)
 refine zbj hc3 ?_
 refine w_r [.m _,.v (.b (hi==1)),.v (.b (hi==1)),.v (.b (hi==1))] ?_
 refine zci h (fun hc4 h=> ?_) (fun hc4 h=> ?_)
 refine zr [.v (.b false)] ?_
 replace h:=zz h hr1
 exact zbg h
 refine zg (o:=or1) () h ?_
 exact zdl (bl 34 3)
 refine zbj hc3 ?_
 refine w_r [.p,.p,.v (.b false),.v (.b false)] ?_
 refine zcl rfl ?_
 refine zg (o:=or1) () h ?_
 exact zdl (bl 34 3)
 intro j1 h
 refine zfj ?_
 refine zr [.m _,.v (.b (hi==(-1)))] ?_
 refine zae h (fun hc5 h=> ?_) (fun hc5 h=> ?_)
 refine zbj hc5 ?_
 refine w_r [.p,.p,.p,.p,.p] ?_
 refine w_r [.p,.p,.p,.p,.p] ?_
 refine w_r [.p,.v (.b true),.m _] ?_
 exact zbg h
 refine zbj hc5 ?_
 refine w_r [.m _,.v (.b (decide (hi≥1)))] ?_
 refine zaf rfl rfl ?_
 refine zae h (fun hc6 h=> ?_) (fun hc6 h=> ?_)
 refine zbj hc6 ?_
 refine w_r [.m _,.v (.b (decide (hi≤16))),.v (.b (decide (hi≤16)))] ?_
 refine zaf rfl rfl ?_
 refine zae h (fun hc7 h=> ?_) (fun hc7 h=> ?_)
 refine zbj hc7 ?_
 refine w_r [.m _,.m _,.v (.b (decide (hi≥lo))),.v (.b (decide (hi≥lo))),.v (.b (decide (hi≥lo)))] ?_
 refine w_r [.m _] ?_
 exact zbg h
 refine zbj hc7 ?_
 refine w_r [.p,.p,.p,.v (.b false),.v (.b false)] ?_
 refine w_r [.m _] ?_
 exact zbg h
 refine zbj hc6 ?_
 refine w_r [.p,.p,.v (.b false),.m _,.p] ?_
 refine w_r [.p,.p,.v (.b false),.v (.b false),.m _] ?_
 exact zbg h
def zzc (t:Tr):Option Tr:=
 (some (Tr.mk 6 (0#256) 0 0 [t]))
theorem ent50:Ent Tryz.prog 50:=enters_of Tryz.func50 (by kernel_rfl) rfl
theorem qgf (t:Tr)(r:Tr)(h:zzc t=some r):Pure (ITP Tryz.prog) Tryz.prog 50 [.A (t:Tr)] (.A (r:Tr)):=by
 unfold zzc at h
 refine zbd 5 mix Tryz.func50 ent50 ?_
 refine zf (zb ?_)
 refine zbz (a:= .ptr 0 0) (σ'':=(.B [(29,(Enc.cells (t:Tr)))])) ?_
 refine zbz (a:= .ptr 1 0) (σ'':=(.B [(29,(Enc.cells (t:Tr))),(29,[.u 0,.raw (.int .u64 0),.raw (.int .u64 0),.raw (.int .u64 0),.raw (.int .u64 0),.i 0,.i 0,.list 0 [] .full])])) ?_
 refine zr [.v (.A (t:Tr))] ?_
 refine w_o (a:= .F ([t]:List Tr)) (h:=zbh (zev (α:=Tr) (l:=[t]) (cs:=Enc.cells (t:Tr)++[]) rfl (by rw[Enc.cons,Enc.nil]))) ?_
 refine zeh (.A ((Tr.mk 6 (0#256) 0 0 [t]):Tr)) (a0:=(zca (Tr.mk 6 (0#256) 0 0 [t]) .full)) rfl rfl rfl (by kernel_rfl) (zj _ _) (by dsimp only[zh,List.set]) ?_
 refine zcx 8 (.B [(29,(Enc.cells (t:Tr))),(29,(Enc.cells ((Tr.mk 6 (0#256) 0 0 [t]):Tr)))]) ?_
 exact zax (fun(r:Tr)=> .A (r:Tr)) h (.A ((Tr.mk 6 (0#256) 0 0 [t]):Tr))
def qez (t:Tr)(lo:Int)(hi:Int):Option Tr:=
 (some (Tr.mk 5 (0#256) lo hi [t]))
theorem ent51:Ent Tryz.prog 51:=enters_of Tryz.func51 (by kernel_rfl) rfl
theorem rep8_sh (t:Tr)(lo:Int)(hi:Int)(r:Tr)(h:qez t lo hi=some r):Pure (ITP Tryz.prog) Tryz.prog 51 [.A (t:Tr),.raw (.int .i64 lo),.raw (.int .i64 hi)] (.A (r:Tr)):=by
 unfold qez at h
 refine zbd 9 mix Tryz.func51 ent51 ?_
 refine zf (zb ?_)
 refine zbz (a:= .ptr 0 0) (σ'':=(.B [(29,(Enc.cells (t:Tr)))])) ?_
 refine zbz (a:= .ptr 1 0) (σ'':=(.B [(29,(Enc.cells (t:Tr))),(29,[.u 0,.raw (.int .u64 0),.raw (.int .u64 0),.raw (.int .u64 0),.raw (.int .u64 0),.i 0,.i 0,.list 0 [] .full])])) ?_
 refine zr [.m _,.m _,.v (.A (t:Tr))] ?_
 refine w_o (a:= .F ([t]:List Tr)) (h:=zbh (zev (α:=Tr) (l:=[t]) (cs:=Enc.cells (t:Tr)++[]) rfl (by rw[Enc.cons,Enc.nil]))) ?_
 refine zeh (.A ((Tr.mk 5 (0#256) lo hi [t]):Tr)) (a0:=(zca (Tr.mk 5 (0#256) lo hi [t]) .full)) rfl rfl rfl (by kernel_rfl) (zj _ _) (by dsimp only[zh,List.set]) ?_
 refine zcx 8 (.B [(29,(Enc.cells (t:Tr))),(29,(Enc.cells ((Tr.mk 5 (0#256) lo hi [t]):Tr)))]) ?_
 exact zax (fun(r:Tr)=> .A (r:Tr)) h (.A ((Tr.mk 5 (0#256) lo hi [t]):Tr))
def zum (s:BS)(c:Int):Option Bool:=
 (chk (0≤(zzw .u8 c 6)∧(zzw .u8 c 6)<4) (chk (0≤(z4j .u8 c 63)) (some ((z4j .u64 (zzw .u64 (wd s (Int.toNat (zzw .u8 c 6))) (z4j .u8 c 63)) 1)==1))))
theorem ent16:Ent Tryz.prog 16:=enters_of Tryz.func16 (by kernel_rfl) rfl
theorem z6u (s:BS)(c:Int)(r:Bool)(h:zum s c=some r):Pure (ITP Tryz.prog) Tryz.prog 16 [.A (s:BS),.raw (.int .u8 c)] (.raw (.bool r)):=by
 unfold zum at h
 refine zbd 12 mix Tryz.func16 ent16 ?_
 refine zf (zb ?_)
 refine zbz (a:= .ptr 0 0) (σ'':=(.B [(26,(Enc.cells (s:BS)))])) ?_
 refine w_o (a:= .b false) ?_
 refine zr [.m _] ?_
 refine w_o (a:= .u (zzw .u8 c 6)) (h:=zbh (q_shr (by decide) rfl rfl rfl)) ?_
 obtain⟨g1,h⟩:=zi h
 refine w_o (a:= .ptr 0 (0+Int.toNat (zzw .u8 c 6)*1)) (h:=zbh (qfi g1 rfl rfl rfl rfl rfl)) ?_
 refine w_o (a:= .raw (.int .u64 (wd s (Int.toNat (zzw .u8 c 6))))) (h:=zbh (qdz s (by omega) rfl rfl rfl)) ?_
 refine w_r [.m _,.v (.u (z4j .u8 c 63))] ?_
 obtain⟨g2,h⟩:=zi h
 refine w_o (a:= .raw (.int .u64 (zzw .u64 (wd s (Int.toNat (zzw .u8 c 6))) (z4j .u8 c 63)))) (h:=zbh (q_shr g2 rfl rfl rfl)) ?_
 refine w_r [.v (.raw (.int .u64 (z4j .u64 (zzw .u64 (wd s (Int.toNat (zzw .u8 c 6))) (z4j .u8 c 63)) 1))),.v (.b ((z4j .u64 (zzw .u64 (wd s (Int.toNat (zzw .u8 c 6))) (z4j .u8 c 63)) 1)==1)),.m _] ?_
 exact zbg h
end Go.Ab
