/-
  rx: functions of closures, has, right, nodes, bytes of sets, as plain functions.
-/
import Derived.Test.YtfkkellnlmjenaaGreatZeW2
set_option linter.unusedSimpArgs false
set_option linter.unusedVariables false
set_option maxRecDepth 100000
set_option maxHeartbeats 4000000
namespace Go.Ab
open Go Go.RowKit Go.Fwd Go.Proofs
theorem zsk {t:Tr} {l:List AV} (h:zco l=true):zco (.agg (Enc.cells t)::l)=true:=by
 rw[zco,h,Bool.and_true];have:=qbx t;rw[enc_eq] at this;exact this
theorem rowT_ne (l:List Tr):List.map zqw l≠errRows:=by
 cases l with
 |nil=>simp[errRows]
 |cons a l=>simp[errRows,zqw,List.replicate]
theorem rowB_ne (l:List Int):List.map qmk l≠errRows:=by
 cases l with
 |nil=>simp[errRows]
 |cons a l=>simp[errRows,qmk,List.replicate]
noncomputable def z2n (fuel:Nat)(s:BS)(rows:List Int):Option Nat:=
 (zbv (β:=Int×Nat) (fun s1=>(bif (decide (s1.1<256)) then(zdn (τ:=Nat) (zav (zum s (IntKind.u8.wrap s1.1)) (fun x1=>(bif x1 then(z7n (rows[s1.2]? =some (IntKind.u8.wrap s1.1)) (some (Sum.inl ((s1.2+1))))) else(some (Sum.inl (s1.2)))))) (fun j1=>(chk (-9223372036854775808≤(s1.1+1)∧(s1.1+1)<9223372036854775808) (some (Sum.inl ((s1.1+1),j1)))))) else(some (Sum.inr s1.2)))) fuel (0,0))
theorem ent99:Ent Tryz.prog 99:=enters_of Tryz.func99 (by kernel_rfl) rfl
theorem all1_sh (fuel:Nat)(s:BS)(rows:List Int)(h:z2n fuel s rows=some rows.length)(c:Code)(hc:Tryz.f99.body=some c)(G:Gen)(hGr:G.rows=rows.map qmk)(l:Nat)(hGl:G.l=l):awp (ITP Tryz.prog) Tryz.prog (some G) 0 c (qct Tryz.prog Tryz.f99 rows.length) (zbf Tryz.f99 [.yld l,.iptr (Enc.cells (s:BS))]) St.empty:=by
 cases hc
 unfold z2n at h
 refine zah (by dsimp only[zbf,Tryz.f99,List.length_cons,List.length_nil,Nat.zero_add,Nat.reduceAdd,Nat.reduceSub,List.replicate,List.cons_append,List.nil_append]) (by dsimp only[St.empty]) ?_
 refine zr [.v (.i 0)] ?_
 refine zp ?_
 refine zbx h (bz 0 19 524284) (fun s1=>[(4,.i s1.1)]) (fun s1=>⟨[],[],[],s1.2,false⟩) ?_ ?_
 exact zdl (bl 19 19)
 intro s1 p1 h
 refine zfj ?_
 refine zr [.v (.b (decide (s1.1<256)))] ?_
 refine zf ?_
 refine zci h (fun hc1 h=> ?_) (fun hc1 h=> ?_)
 refine zau h (bz 0 18 262120) (fun j1=>[]) (fun j1=>⟨[],[],[],j1,false⟩) ?_ ?_
 intro or1 h hr1
 refine zp ?_
 refine zr [.m _,.m _] ?_
 refine zr [.v (.A (s:BS)),.m _,.v (.u (IntKind.u8.wrap s1.1))] ?_
 obtain⟨x1,hx1,h⟩:=zu h
 refine zcq (z6u s (IntKind.u8.wrap s1.1) x1 hx1) ?_
 refine zae h (fun hc2 h=> ?_) (fun hc2 h=> ?_)
 refine zbj hc2 ?_
 refine w_r [.m _,.m _,.v (.u (IntKind.u8.wrap s1.1))] ?_
 refine zaf rfl rfl ?_
 obtain⟨g1,h⟩:=zoh h
 refine zyl (row:=qmk) (x:=(IntKind.u8.wrap s1.1)) (σ1:=⟨[],[],[],(s1.2+1),false⟩) (σ2:=⟨[],[],[],s1.2,true⟩) g1 (zd rfl rfl) (by kernel_rfl) (qko rfl) rfl hGl hGr rfl rfl rfl rfl (by dsimp only[zh,List.set]) (by dsimp only[zh,List.set]) rfl rfl ?_ ?_
 refine w_r [.v (.b false),.v (.b false)] ?_
 refine zcl rfl ?_
 refine zg (o:=or1) ((s1.2+1)) h ?_
 exact zdl (bl 19 262167)
 refine w_r [.v (.b true),.v (.b true)] ?_
 refine zce rfl ?_
 refine .inr ?_
 exact⟨⟨.tup [],rfl⟩,.inl rfl⟩
 refine zbj hc2 ?_
 refine w_r [.p,.p,.p,.p,.p] ?_
 refine w_r [.v (.b false)] ?_
 refine zcl rfl ?_
 refine zg (o:=or1) (s1.2) h ?_
 exact zdl (bl 19 262167)
 intro j1 h
 refine zfj ?_
 refine zb (k0:=0) (id:=4) ?_
 obtain⟨g2,h⟩:=zi h
 refine zpe g2 ?_
 refine zab ?_
 refine zas (p:=p1) ((s1.1+1),j1) h ?_
 exact zdl (bl 19 19)
 refine zw h (fun h=> ?_)
 exact⟨⟨.tup [],rfl⟩,.inr (Option.some.inj h)⟩
theorem ent55:Ent Tryz.prog 55:=enters_of Tryz.func55 (by kernel_rfl) rfl
theorem all_sh (fuel:Nat)(s:BS)(rows:List Int)(h:z2n fuel s rows=some rows.length):Pure (ITP Tryz.prog) Tryz.prog 55 [.A (s:BS)] (.iter (rows.map qmk)):=by
 obtain⟨d,hd⟩: ∃d,Tryz.f55.body=some d:=⟨_,rfl⟩
 refine zgk mix Tryz.func55 hd ent55 ?_
 cases hd
 refine zah (by dsimp only[zbf,Tryz.f55,List.length_cons,List.length_nil,Nat.zero_add,Nat.reduceAdd,Nat.reduceSub,List.replicate,List.cons_append,List.nil_append]) (by dsimp only[St.empty]) ?_
 refine zf (zb ?_)
 refine zbz (a:= .ptr 0 0) (σ'':=(.B [(26,(Enc.cells (s:BS)))])) ?_
 refine w_o (a:= .raw Value.nilFunc) ?_
 refine zr [.v (.clos 99 [.ptr 0 0]),.m _] ?_
 exact z0x 1 (row:=qmk) (caps:=[.iptr (Enc.cells (s:BS))]) mix rfl (congrArg (fun z=>AV.clos 99 [.iptr z]) (zdg _ _ (Enc.clo _))) Tryz.func99 rfl ent99 (by first|rfl|simp[cloL,clo,Enc.clo,zfc,Enc.cloL]) (rowB_ne _) (fun G hGr=>all1_sh fuel s rows h _ rfl G hGr _ rfl)
noncomputable def zof (fuel:Nat)(n:Nat)(t:Tr)(rows:List Tr):Option Nat:=
 (z7n (rows[0]? =some t) (zbv (β:=Int×Nat) (fun s1=>(bif (decide (s1.1<(List.length t.l:Int))) then(zdn (τ:=Nat) (chk (0≤s1.1∧s1.1<(List.length t.l:Int)) (zbc (ix t.l s1.1) (fun x1=>(chk ((pre x1).length<n) (zbc (pre x1) (fun x2=>(zdn (zgo (β:=Nat) (fun s2 w1=>(z7n (rows[s2]? =some w1) (some (Sum.inl ((s2+1)))))) x2 (s1.2)) (fun s2=>(some (Sum.inl (s2))))))))))) (fun j1=>(chk (-9223372036854775808≤(s1.1+1)∧(s1.1+1)<9223372036854775808) (some (Sum.inl ((s1.1+1),j1)))))) else(some (Sum.inr s1.2)))) fuel (0,(0+1))))
theorem ent102:Ent Tryz.prog 102:=enters_of Tryz.func102 (by kernel_rfl) rfl
theorem qgb (fuel:Nat)(n:Nat)(t:Tr)(rows:List Tr)(ih: ∀x:Tr,(pre x).length<n→Pure (ITP Tryz.prog) Tryz.prog 63 [.A x] (.iter (List.map zqw (pre x))))(h:zof fuel n t rows=some rows.length)(c:Code)(hc:Tryz.f102.body=some c)(G:Gen)(hGr:G.rows=rows.map zqw)(l:Nat)(hGl:G.l=l):awp (ITP Tryz.prog) Tryz.prog (some G) 0 c (qct Tryz.prog Tryz.f102 rows.length) (zbf Tryz.f102 [.yld l,.iptr (Enc.cells (t:Tr))]) St.empty:=by
 cases hc
 unfold zof at h
 refine zah (by dsimp only[zbf,Tryz.f102,List.length_cons,List.length_nil,Nat.zero_add,Nat.reduceAdd,Nat.reduceSub,List.replicate,List.cons_append,List.nil_append]) (by dsimp only[St.empty]) ?_
 refine zf (zb ?_)
 refine zbz (a:= .ptr 0 0) (σ'':=(.B [(52,[.yld l])])) ?_
 refine zf ?_
 refine zr [.v (.yld l),.v (.A (t:Tr))] ?_
 obtain⟨g1,h⟩:=zoh h
 refine zyl (row:=zqw) (x:=t) (σ1:=⟨[(52,[.yld l])],[],[],(0+1),false⟩) (σ2:=⟨[(52,[.yld l])],[],[],0,true⟩) g1 (zd (zaj (zl (Enc.clo _))) rfl) (za (zn _ _ (zl (Enc.clo _))) rfl) (zsk rfl) rfl hGl hGr rfl rfl rfl rfl (by dsimp only[zh,List.set]) (by dsimp only[zh,List.set]) rfl rfl ?_ ?_
 refine w_o (a:= .b false) ?_
 refine zcl rfl ?_
 refine zr [.v (.iptr (List.drop 7 (Enc.cells (t:Tr)))),.v (.L (t.l:List Tr)),.v (.i (List.length t.l:Int)),.v (.i 0)] ?_
 refine zp ?_
 refine zbx h (bz 0 25 33548283) (fun s1=>[(13,.i s1.1)]) (fun s1=>⟨[(52,[.yld l])],[],[],s1.2,false⟩) ?_ ?_
 exact zdl (bl 25 14340)
 intro s1 p1 h
 refine zfj ?_
 refine zr [.v (.b (decide (s1.1<(List.length t.l:Int))))] ?_
 refine zf ?_
 refine zci h (fun hc1 h=> ?_) (fun hc1 h=> ?_)
 refine zau h (bz 0 24 16760880) (fun j1=>[]) (fun j1=>⟨[(52,[.yld l])],[],[],j1,false⟩) ?_ ?_
 intro or1 h hr1
 refine zp ?_
 refine zf (zb ?_)
 obtain⟨g2,h⟩:=zi h
 obtain⟨x1,hx1,h⟩:=zo h
 refine zvo hx1 g2 ?_
 refine w_o (a:= .A (x1:Tr)) ?_
 refine zbz (a:= .ptr 1 0) (σ'':=⟨[(52,[.yld l]),(29,[.u 0,.raw (.int .u64 0),.raw (.int .u64 0),.raw (.int .u64 0),.raw (.int .u64 0),.i 0,.i 0,.list 0 [] .full])],[],[],s1.2,false⟩) ?_
 refine zcx 8 ⟨[(52,[.yld l]),(29,(Enc.cells (x1:Tr)))],[],[],s1.2,false⟩ ?_
 refine zr [.v (.A (x1:Tr))] ?_
 obtain⟨g3,h⟩:=zi h
 obtain⟨x2,hx2,h⟩:=zo h
 refine zcq (args':=[.A (x1:Tr)]) (r:= .iter (List.map zqw x2)) (by rw[←hx2];exact(ih x1 g3)) ?_
 refine zp ?_
 refine zks h zqw (fun s2=>⟨[(52,[.yld l]),(29,(Enc.cells (x1:Tr)))],[],[],s2,false⟩) rfl (fun _=>rfl) rfl rfl ?_ ?_
 intro s2 w1 p2 h
 refine zah (by dsimp only[znd,List.zip,List.zipWith,List.foldl,List.set,Array.toList]) rfl ?_
 refine zb (k0:=0) (id:=6) ?_
 refine zbz (a:= .ptr 2 0) (σ'':=⟨[(52,[.yld l]),(29,(Enc.cells (x1:Tr))),(29,[.u 0,.raw (.int .u64 0),.raw (.int .u64 0),.raw (.int .u64 0),.raw (.int .u64 0),.i 0,.i 0,.list 0 [] .full])],[],[],s2,false⟩) ?_
 refine zcx 8 ⟨[(52,[.yld l]),(29,(Enc.cells (x1:Tr))),(29,(Enc.cells (w1:Tr)))],[],[],s2,false⟩ ?_
 refine zp ?_
 refine zr [.v (.yld l),.v (.A (w1:Tr))] ?_
 obtain⟨g4,h⟩:=zoh h
 refine zyl (row:=zqw) (x:=w1) (σ1:=⟨[(52,[.yld l]),(29,(Enc.cells (x1:Tr))),(29,(Enc.cells (w1:Tr)))],[],[],(s2+1),false⟩) (σ2:=⟨[(52,[.yld l]),(29,(Enc.cells (x1:Tr))),(29,(Enc.cells (w1:Tr)))],[],[],s2,true⟩) g4 (zd (zaj (zl (Enc.clo _))) rfl) (za (zn _ _ (zl (Enc.clo _))) rfl) (zsk rfl) rfl hGl hGr rfl rfl rfl rfl (by dsimp only[zh,List.set]) (by dsimp only[zh,List.set]) rfl rfl ?_ ?_
 refine w_o (a:= .b false) ?_
 refine zcl rfl ?_
 exact zfg (p:=p2) ((s2+1)) h (zbi (zt (by kernel_rfl) (zt (zm _ _ (Enc.clo _)) rfl))) (by kernel_rfl)
 refine w_o (a:= .b true) ?_
 refine zce rfl ?_
 refine .inr ⟨(zbi (zt (by kernel_rfl) (zt (zm _ _ (Enc.clo _)) rfl))),?_⟩
 refine .inr ?_
 exact⟨⟨.tup [],rfl⟩,.inl rfl⟩
 intro s2 h
 refine zg (o:=or1) (s2) h ?_
 exact zdd (bl 25 16793551) 1 (by kernel_rfl) (Nat.le_of_ble_eq_true rfl) (zbi (zt (by kernel_rfl) rfl)) (by dsimp only[zac,zag,List.foldl,List.set,bz,bzc,Nat.reduceMod,Nat.reduceDiv,Nat.reduceBEq,Nat.reduceAdd];exact(za rfl (za rfl (za (by decide) (za rfl (za rfl (za rfl (za rfl (za rfl (za rfl (za rfl (za rfl (za (zan (Enc.cloL _)) (by kernel_rfl)))))))))))))) (by kernel_rfl)
 intro j1 h
 refine zfj ?_
 refine zb (k0:=0) (id:=8) ?_
 obtain⟨g5,h⟩:=zi h
 refine zpe g5 ?_
 refine zab ?_
 refine zas (p:=p1) ((s1.1+1),j1) h ?_
 exact zdl (bl 25 14340)
 refine zw h (fun h=> ?_)
 exact⟨⟨.tup [],rfl⟩,.inr (Option.some.inj h)⟩
 refine w_o (a:= .b true) ?_
 refine zce rfl ?_
 exact⟨⟨.tup [],rfl⟩,.inl rfl⟩
theorem ent63:Ent Tryz.prog 63:=enters_of Tryz.func63 (by kernel_rfl) rfl
theorem qjt (fuel:Nat)(n:Nat)(t:Tr)(rows:List Tr)(ih: ∀x:Tr,(pre x).length<n→Pure (ITP Tryz.prog) Tryz.prog 63 [.A x] (.iter (List.map zqw (pre x))))  (h:zof fuel n t rows=some rows.length):Pure (ITP Tryz.prog) Tryz.prog 63 [.A (t:Tr)] (.iter (rows.map zqw)):=by
 obtain⟨d,hd⟩: ∃d,Tryz.f63.body=some d:=⟨_,rfl⟩
 refine zgk mix Tryz.func63 hd ent63 ?_
 cases hd
 refine zah (by dsimp only[zbf,Tryz.f63,List.length_cons,List.length_nil,Nat.zero_add,Nat.reduceAdd,Nat.reduceSub,List.replicate,List.cons_append,List.nil_append]) (by dsimp only[St.empty]) ?_
 refine zf (zb ?_)
 refine zbz (a:= .ptr 0 0) (σ'':=(.B [(29,(Enc.cells (t:Tr)))])) ?_
 refine w_o (a:= .raw Value.nilFunc) ?_
 refine zr [.v (.clos 102 [.ptr 0 0]),.m _] ?_
 exact z0x 1 (row:=zqw) (caps:=[.iptr (Enc.cells (t:Tr))]) mix rfl (congrArg (fun z=>AV.clos 102 [.iptr z]) (zdg _ _ (Enc.clo _))) Tryz.func102 rfl ent102 (by first|rfl|simp[cloL,clo,Enc.clo,zfc,Enc.cloL]) (rowT_ne _) (fun G hGr=>qgb fuel n t rows ih h _ rfl G hGr _ rfl)
theorem zel {α:Type} [Enc α] {l:List α} {i:Nat} (h:i<l.length):ix l (i:Int)=l[i]:=by simp[ix,h]
theorem qmu (p:Tr→Option Bool)(q:Tr→Bool)(l:List Tr)(hl:l.length<2^62)(hp: ∀x∈l,p x=some (q x)) {body:Int→Option (Int ⊕ (Unit ⊕ Int))}
 (hb:body=fun s1=>(bif (decide (s1<(List.length l:Int))) then(chk (0≤s1∧s1<(List.length l:Int)) (zbc (ix l s1) (fun x1=>(zav (p x1) (fun x2=>(bif x2 then(some (Sum.inr (Sum.inr s1))) else(chk (-9223372036854775808≤(s1+1)∧(s1+1)<9223372036854775808) (some (Sum.inl ((s1+1))))))))))) else(some (Sum.inr (Sum.inl ()))))):
 ∀(k i n:Nat),i+k=l.length→k<n→ ∃o:Unit ⊕ Int,zbv body n (i:Int)=some o∧((o= .inl ()∧(l.drop i).any q=false)∨(∃j:Int,o= .inr j∧0≤j∧(l.drop i).any q=true)):=by
 intro k
 induction k with
 | zero=>
  intro i n hi hn
  match n,hn with
  | n+1,_=>
   refine⟨.inl (),?_,.inl ⟨rfl,?_⟩⟩
   ·rw[zbv,hb];simp only
    rw[show decide ((i:Int)<(l.length:Int))=false from by simp;omega];rfl
   ·rw[List.drop_of_length_le (by omega)];rfl
 | succ k ih=>
  intro i n hi hn
  match n,hn with
  | n+1,hn=>
   have hil:i<l.length:=by omega
   have hx:=hp l[i] (List.getElem_mem hil)
   have hd:l.drop i=l[i]::l.drop (i+1):=List.drop_eq_getElem_cons hil
   have hb1:body (i:Int)=bif q l[i] then some (Sum.inr (Sum.inr (i:Int))) else some (Sum.inl (((i+1:Nat):Int))):=by
    rw[hb];simp only
    rw[show decide ((i:Int)<(l.length:Int))=true from by simp;omega]
    show chk _ _=_
    rw[zdk (by omega),zbc,zel hil,hx,bindE_some]
    rw[zdk (by omega),show((i+1:Nat):Int)=(i:Int)+1 from by omega]
   cases hq:q l[i] with
   | true=>
    refine⟨.inr (i:Int),?_,.inr ⟨_,rfl,by omega,?_⟩⟩
    ·rw[zbv,hb1,hq];rfl
    ·rw[hd,List.any_cons,hq];rfl
   | false=>
    obtain⟨o,h1,h2⟩:=ih (i+1) n (by omega) (by omega)
    refine⟨o,?_,?_⟩
    ·rw[zbv,hb1,hq];exact h1
    ·rw[hd,List.any_cons,hq,Bool.false_or];exact h2
theorem qjf {fuel:Nat} {p:Tr→Option Bool} (q:Tr→Bool) {l:List Tr} (hf:l.length<fuel)(hl:l.length<2^62)(hp: ∀x∈l,p x=some (q x)):z7i fuel p l=some (l.any q):=by
 unfold z7i qna
 obtain⟨o,h1,h2⟩:=qmu p q l hl hp rfl l.length 0 fuel (by omega) hf
 rw[show((0:Nat):Int)=0 from rfl] at h1
 rw[h1]
 rw[List.drop_zero] at h2
 rcases h2 with⟨rfl,h⟩|⟨j,rfl,hj,h⟩
 ·rw[h];rfl
 ·rw[h];show zav (some j) _=_
  rw[bindE_some];simp[hj]
theorem ctc_eq {fuel:Nat} {p:Tr→Option Bool} (q:Tr→Bool) {l:List Tr} (hf:l.length<fuel)(hl:l.length<2^62)(hp: ∀x∈l,p x=some (q x)):qmq fuel p l=some (l.any q):=qjf q hf hl hp
theorem z6p {fuel:Nat} {t:Tr} (hf:t.l.length<fuel)(hl:t.l.length<2^62)(k:Nat):zsu fuel t k=some (zug t k):=by
 unfold zsu
 rw[ctc_eq (fun x=>decide (x.k=k)) hf hl]
 ·rfl
 ·intro x hx
  unfold z3d
  congr 1
  rw[Bool.eq_iff_iff];simp;omega
theorem zwz (lo hi:Int):zgn lo hi=some (zdv lo hi):=by
 unfold zgn zdv
 have k1: ∀n m:Int,(n==m)=decide (n=m):=fun n m=>rfl
 simp only[k1]
 have key: ∀a b c d e f g h:Bool,(zdn (τ:=Unit) (bif a then(some (Sum.inr false)) else(bif b then(some (Sum.inr false)) else(bif c then(bif d then(some (Sum.inr false)) else(some (Sum.inl ()))) else(some (Sum.inl ()))))) (fun _=>(bif e then(some true) else(bif f then(bif g then(some h) else(some false)) else(some false)))))=some (!(a||b||c&&d)&&(e||f&&g&&h)):=by decide
 exact key _ _ _ _ _ _ _ _
theorem qnf {fuel:Nat} {t:Tr} (hf:t.l.length<fuel)(hl:t.l.length<2^62):zzz fuel t=some (zds t):=by
 have e1:zsu fuel t 1=some (zug t 1):=z6p hf hl 1
 have e3:zsu fuel t 3=some (zug t 3):=z6p hf hl 3
 have e4:zsu fuel t 4=some (zug t 4):=z6p hf hl 4
 have eb:=zwz t.mn t.mx
 unfold zzz
 have hodd: ∀a b c d e f g:Bool,(bif a then(bif b then(some (Sum.inr false)) else(bif c then(bif d then(some (Sum.inr false)) else(bif e then(some (Sum.inr false)) else(bif f then(bif g then(some (Sum.inr false)) else(some (Sum.inl ()))) else(some (Sum.inl ()))))) else(bif f then(bif g then(some (Sum.inr false)) else(some (Sum.inl ()))) else(some (Sum.inl ()))))) else(bif c then(bif d then(some (Sum.inr false)) else(bif e then(some (Sum.inr false)) else(bif f then(bif g then(some (Sum.inr false)) else(some (Sum.inl ()))) else(some (Sum.inl ()))))) else(bif f then(bif g then(some (Sum.inr false)) else(some (Sum.inl ()))) else(some (Sum.inl ())))):Option (Unit ⊕ Bool))=bif (a&&b)||(c&&(d||e))||(f&&g) then some (.inr false) else some (.inl ()):=by decide
 rw[hodd]
 show zdn (bif oddT t then _ else _) _=some (zds t)
 rw[zds]
 cases oddT t with
 |true=>rfl
 | false=>
  show(bif _ then _ else _)=_
  rw[Bool.not_false,Bool.true_and]
  cases (t.k:Int)==1 with
  |true=>rfl
  | false=>
   show(bif _ then _ else _)=some (bif _ then _ else _)
   cases (t.k:Int)==2 with
   |true=>rfl
   | false=>
    show(bif _ then _ else _)=some (bif _ then _ else _)
    rw[e1,e3,e4,eb]
    cases (t.k:Int)==3 with
    | true=>
     show(bif _ then _ else _)=some _
     cases decide ((t.l.length:Int)>1)<;>cases zug t 1<;>cases zug t 3<;>rfl
    | false=>
     show(bif _ then _ else _)=some (bif _ then _ else _)
     cases (t.k:Int)==4 with
     | true=>
      show(bif _ then _ else _)=some _
      cases decide ((t.l.length:Int)>1)<;>cases zug t 4<;>rfl
     | false=>
      show(bif _ then _ else _)=some (bif _ then _ else _)
      cases (t.k:Int)==5 with
      | true=>
       show(bif _ then _ else _)=some _
       cases (t.l.length:Int)==1<;>cases zdv t.mn t.mx<;>cases zug t 1<;>rfl
      | false=>
       show(bif _ then _ else _)=some _
       cases (t.k:Int)==6<;>cases (t.l.length:Int)==1<;>rfl
theorem z5d (t:Tr):t.l.length<(pre t).length:=by have:=zjg t;have:=qja t.l;omega
theorem k_right (t:Tr)(h:(pre t).length<2^61):Pure (ITP Tryz.prog) Tryz.prog 64 [.agg (Enc.cells t)] (.raw (.bool (zds t))):=by
 have:=z5d t
 exact qkh (t.l.length+1) t _ (qnf (by omega) (by omega))
theorem z9g: ∀(l:List Tr) (i:Nat) (hi:i<l.length) (j:Nat),j<(pre l[i]).length→(zap l)[(zap (l.take i)).length+j]? =(pre l[i])[j]?
 |[],i,hi,_,_=>by simp at hi
 | t::l,0,hi,j,hj=>by
  simp only[List.take_zero,zap,List.length_nil,Nat.zero_add,List.getElem_cons_zero]
  simp only[List.getElem_cons_zero] at hj
  rw[List.getElem?_append_left hj]
 | t::l,i+1,hi,j,hj=>by
  simp only[List.take_succ_cons,zap,List.length_append,List.getElem_cons_succ]
  simp only[List.getElem_cons_succ] at hj
  rw[List.getElem?_append_right (by omega),show(pre t).length+(zap (l.take i)).length+j-(pre t).length=(zap (l.take i)).length+j by omega]
  exact z9g l i (by simpa using hi) j hj
theorem qet {fuel n:Nat} (t:Tr)(hf:t.l.length<fuel)(hn:(pre t).length≤n)(hl:(pre t).length<2^61):zof fuel n t (pre t)=some (pre t).length:=by
 have hlen:=z5d t
 unfold zof
 refine znz (by rw[zcw];rfl) ?_
 refine zew t.l.length (fun i=>((i:Int),1+(zap (t.l.take i)).length)) rfl (fun i hi=> ?_) ?_ hf
 ·refine zbe (by simp;omega) ?_
  refine zcb (1+(zap (t.l.take (i+1))).length) ?_ ?_
  ·refine zq (by simp only;omega) (zai fun x1 e1=> ?_)
   simp only at e1
   rw[zel hi] at e1
   have hm:x1∈t.l:=e1▸List.getElem_mem hi
   have hx:=zhb hm
   have hp:(pre t).length=1+(zap t.l).length:=by rw[zcw,List.length_cons];omega
   refine zq (by omega) (zai fun x2 e2=> ?_)
   subst e2
   refine zcb (1+(zap (t.l.take (i+1))).length) ?_ rfl
   have hsucc:(zap (t.l.take (i+1))).length=(zap (t.l.take i)).length+(pre x1).length:=by rw[←e1];exact zmt t.l i hi
   have key: ∀ {ρ:Type} (l:List Tr) (j:Nat),(∀m,m<l.length→(pre t)[j+m]? =l[m]?)→zgo (β:=Nat) (ρ:=ρ) (fun s2 w1=>(z7n ((pre t)[s2]? =some w1) (some (Sum.inl ((s2+1)))))) l j=some (.inl (j+l.length)):=by
    intro ρ l
    induction l with
    |nil=>intro j _;rfl
    | cons y l ih=>
     intro j hj
     have h0:(pre t)[j]? =some y:=by simpa using hj 0 (by simp)
     have hb:z7n ((pre t)[j]? =some y) (some (Sum.inl (j+1)))=(some (Sum.inl (j+1)):Option (Nat ⊕ ρ)):=znz h0 rfl
     simp only[zgo,hb]
     rw[ih (j+1) (fun m hm=>by have:=hj (m+1) (by simp;omega);rw[show j+1+m=j+(m+1) by omega,this];rfl)]
     simp;omega
   rw[hsucc,←Nat.add_assoc]
   refine key (pre x1) (1+(zap (t.l.take i)).length) (fun m hm=> ?_)
   subst e1
   rw[zcw t,show 1+(zap (t.l.take i)).length+m=(zap (t.l.take i)).length+m+1 by omega,List.getElem?_cons_succ]
   exact z9g t.l i hi m hm
  ·refine zq (by simp only;omega) ?_
   simp only
   rfl
 ·refine zay (by simp) ?_
  have hp:(pre t).length=1+(zap t.l).length:=by rw[zcw,List.length_cons];omega
  simp only[List.take_length];rw[hp]
theorem z3r: ∀(n:Nat) (t:Tr),(pre t).length<n→n≤2^61→Pure (ITP Tryz.prog) Tryz.prog 63 [.agg (Enc.cells t)] (.iter (List.map zqw (pre t)))
 |0,t,h,_=>absurd h (Nat.not_lt_zero _)
 |n+1,t,h,hn=>qjt (t.l.length+1) n t (pre t) (fun x hx=>z3r n x hx (by omega)) (qet t (by omega) (by omega) (by omega))
theorem zut (t:Tr)(h:(pre t).length<2^61):Pure (ITP Tryz.prog) Tryz.prog 63 [.agg (Enc.cells t)] (.iter (List.map zqw (pre t))):=z3r (2^61) t h (Nat.le_refl _)
theorem z6q (s:BS)(j:Nat)(hj:j<256):zum s (j:Int)=some (s.getLsbD j):=by
 obtain⟨h1,h2,_⟩:=z6f j hj
 unfold zum
 rw[h1,h2]
 refine zq (by omega) (zq (by omega) ?_)
 congr 1
 have:=qkg (W64 s (j/64)) (j%64) (Nat.mod_lt _ (by decide))
 rw[show wd s (Int.toNat ((j/64:Nat):Int))=((W64 s (j/64)).toNat:Int) from rfl,this]
 simp only[W64,BitVec.getLsbD_extractLsb',Nat.mod_lt _ (show 0<64 by decide),decide_true,Bool.true_and]
 rw[show 64*(j/64)+j%64=j by omega]
theorem all1_eq (s:BS):z2n 257 s (els s)=some (els s).length:=by
 unfold z2n
 refine zew 256 (fun i=>((i:Int),(elN s i).length)) rfl (fun i hi=> ?_) ?_ (by decide)
 ·refine zbe (by simp;omega) ?_
  refine zcb (elN s (i+1)).length ?_ ?_
  ·refine zaw (s.getLsbD i) ?_ ?_
   ·simp only[(z6f i hi).2.2];exact z6q s i hi
   ·rw[z9l]
    refine z7o (fun hb=> ?_) (fun hb=> ?_)
    ·refine znz ?_ ?_
     ·simp only[(z6f i hi).2.2,els,List.getElem?_map,qdx s hb 256 hi,Option.map_some]
     ·rw[if_pos hb];simp
    ·rw[if_neg (by rw[hb];decide)];simp
  ·refine zq (by simp only;omega) ?_
   simp
 ·refine zay (by simp) ?_
  simp[els]
theorem k_all (s:BS):Pure (ITP Tryz.prog) Tryz.prog 55 [.agg (Enc.cells s)] (.iter (List.map qmk (els s))):=all_sh 257 s _ (all1_eq s)
end Go.Ab
