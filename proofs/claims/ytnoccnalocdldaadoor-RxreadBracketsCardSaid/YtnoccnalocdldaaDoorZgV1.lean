import Derived.Test.YtnoccnalocdldaaDoorZgW2
set_option linter.all false
set_option maxRecDepth 100000
set_option maxHeartbeats 4000000
namespace Go.Ab
open Go Go.RowKit Go.Fwd Go.Proofs
theorem zwi {t:Tr} {l:List AV} (h:zck l=true):zck (.agg (Enc.cells t)::l)=true:=by
 rw[zck,h,Bool.and_true];have:=z6v t;rw[enc_eq] at this;exact this
theorem rowT_ne (l:List Tr):List.map zmg l≠errRows:=by
 cases l with
 |nil=>simp[errRows]
 |cons a l=>simp[errRows,zmg,List.replicate]
theorem rowB_ne (l:List Int):List.map qem l≠errRows:=by
 cases l with
 |nil=>simp[errRows]
 |cons a l=>simp[errRows,qem,List.replicate]
noncomputable def zzq (fuel:Nat)(s:BS)(rows:List Int):Option Nat:=
 (zbo (β:=Int×Nat) (fun s1=>(bif (decide (s1.1<256)) then(zds (τ:=Nat) (zaq (zoc s (IntKind.u8.wrap s1.1)) (fun x1=>(bif x1 then(z8q (rows[s1.2]? =some (IntKind.u8.wrap s1.1)) (some (Sum.inl ((s1.2+1))))) else(some (Sum.inl (s1.2)))))) (fun j1=>(chk (-9223372036854775808≤(s1.1+1)∧(s1.1+1)<9223372036854775808) (some (Sum.inl ((s1.1+1),j1)))))) else(some (Sum.inr s1.2)))) fuel (0,0))
theorem ent49:Ent Tryd.prog 49:=enters_of Tryd.func49 (by kernel_rfl) rfl
theorem all1_sh (fuel:Nat)(s:BS)(rows:List Int)(h:zzq fuel s rows=some rows.length)(c:Code)(hc:Tryd.f49.body=some c)(G:Gen)(hGr:G.rows=rows.map qem)(l:Nat)(hGl:G.l=l):awp (ITP Tryd.prog) Tryd.prog (some G) 0 c (z8f Tryd.prog Tryd.f49 rows.length) (zat Tryd.f49 [.yld l,.iptr (Enc.cells (s:BS))]) St.empty:=by
 cases hc
 unfold zzq at h
 refine zbk (by dsimp only[zat,Tryd.f49,List.length_cons,List.length_nil,Nat.zero_add,Nat.reduceAdd,Nat.reduceSub,List.replicate,List.cons_append,List.nil_append]) (by dsimp only[St.empty]) ?_
 refine zx [.v (.i 0)] ?_
 refine zag ?_
 refine zcx h (bz 0 19 524284) (fun s1=>[(4,.i s1.1)]) (fun s1=>⟨[],[],[],s1.2,false⟩) ?_ ?_
 exact zcs (bl 19 19)
 intro s1 p1 h
 refine zes ?_
 refine zx [.v (.b (decide (s1.1<256)))] ?_
 refine zi ?_
 refine zce h (fun hc1 h=> ?_) (fun hc1 h=> ?_)
 refine zbh h (bz 0 18 262120) (fun j1=>[]) (fun j1=>⟨[],[],[],j1,false⟩) ?_ ?_
 intro or1 h hr1
 refine zag ?_
 refine zx [.m _,.m _] ?_
 refine zx [.v (.A (s:BS)),.m _,.v (.u (IntKind.u8.wrap s1.1))] ?_
 obtain⟨x1,hx1,h⟩:=zv h
 refine zda (zrx s (IntKind.u8.wrap s1.1) x1 hx1) ?_
 refine zaa h (fun hc2 h=> ?_) (fun hc2 h=> ?_)
 refine zak hc2 ?_
 refine w_r [.m _,.m _,.v (.u (IntKind.u8.wrap s1.1))] ?_
 refine zao rfl rfl ?_
 obtain⟨g1,h⟩:=z4a h
 refine zri (row:=qem) (x:=(IntKind.u8.wrap s1.1)) (σ1:=⟨[],[],[],(s1.2+1),false⟩) (σ2:=⟨[],[],[],s1.2,true⟩) g1 (zh rfl rfl) (by kernel_rfl) (qhf rfl) rfl hGl hGr rfl rfl rfl rfl (by dsimp only[zy,List.set]) (by dsimp only[zy,List.set]) rfl rfl ?_ ?_
 refine w_r [.v (.b false),.v (.b false)] ?_
 refine zax rfl ?_
 refine zg (o:=or1) ((s1.2+1)) h ?_
 exact zcs (bl 19 262167)
 refine w_r [.v (.b true),.v (.b true)] ?_
 refine zbf rfl ?_
 refine .inr ?_
 exact⟨⟨.tup [],rfl⟩,.inl rfl⟩
 refine zak hc2 ?_
 refine w_r [.p,.p,.p,.p,.p] ?_
 refine w_r [.v (.b false)] ?_
 refine zax rfl ?_
 refine zg (o:=or1) (s1.2) h ?_
 exact zcs (bl 19 262167)
 intro j1 h
 refine zes ?_
 refine zc (k0:=0) (id:=4) ?_
 obtain⟨g2,h⟩:=zp h
 refine zio g2 ?_
 refine zac ?_
 refine zbs (p:=p1) ((s1.1+1),j1) h ?_
 exact zcs (bl 19 19)
 refine zaj h (fun h=> ?_)
 exact⟨⟨.tup [],rfl⟩,.inr (Option.some.inj h)⟩
theorem ent30:Ent Tryd.prog 30:=enters_of Tryd.func30 (by kernel_rfl) rfl
theorem all_sh (fuel:Nat)(s:BS)(rows:List Int)(h:zzq fuel s rows=some rows.length):Pure (ITP Tryd.prog) Tryd.prog 30 [.A (s:BS)] (.iter (rows.map qem)):=by
 obtain⟨d,hd⟩: ∃d,Tryd.f30.body=some d:=⟨_,rfl⟩
 refine zik mix Tryd.func30 hd ent30 ?_
 cases hd
 refine zbk (by dsimp only[zat,Tryd.f30,List.length_cons,List.length_nil,Nat.zero_add,Nat.reduceAdd,Nat.reduceSub,List.replicate,List.cons_append,List.nil_append]) (by dsimp only[St.empty]) ?_
 refine zi (zc ?_)
 refine zcb (a:= .ptr 0 0) (σ'':=(.B [(27,(Enc.cells (s:BS)))])) ?_
 refine w_o (a:= .raw Value.nilFunc) ?_
 refine zx [.v (.clos 49 [.ptr 0 0]),.m _] ?_
 exact zzt 1 (row:=qem) (caps:=[.iptr (Enc.cells (s:BS))]) mix rfl (congrArg (fun z=>AV.clos 49 [.iptr z]) (zdw _ _ (Enc.clo _))) Tryd.func49 rfl ent49 (by first|rfl|simp[cloL,clo,Enc.clo,zdx,Enc.cloL]) (rowB_ne _) (fun G hGr=>all1_sh fuel s rows h _ rfl G hGr _ rfl)
noncomputable def znu (fuel:Nat)(n:Nat)(t:Tr)(rows:List Tr):Option Nat:=
 (z8q (rows[0]? =some t) (zbo (β:=Int×Nat) (fun s1=>(bif (decide (s1.1<(List.length t.l:Int))) then(zds (τ:=Nat) (chk (0≤s1.1∧s1.1<(List.length t.l:Int)) (zbi (ix t.l s1.1) (fun x1=>(chk ((pre x1).length<n) (zbi (pre x1) (fun x2=>(zds (zen (β:=Nat) (fun s2 w1=>(z8q (rows[s2]? =some w1) (some (Sum.inl ((s2+1)))))) x2 (s1.2)) (fun s2=>(some (Sum.inl (s2))))))))))) (fun j1=>(chk (-9223372036854775808≤(s1.1+1)∧(s1.1+1)<9223372036854775808) (some (Sum.inl ((s1.1+1),j1)))))) else(some (Sum.inr s1.2)))) fuel (0,(0+1))))
theorem ent81:Ent Tryd.prog 81:=enters_of Tryd.func81 (by kernel_rfl) rfl
theorem qbt (fuel:Nat)(n:Nat)(t:Tr)(rows:List Tr)(ih: ∀x:Tr,(pre x).length<n→Pure (ITP Tryd.prog) Tryd.prog 63 [.A x] (.iter (List.map zmg (pre x))))(h:znu fuel n t rows=some rows.length)(c:Code)(hc:Tryd.f81.body=some c)(G:Gen)(hGr:G.rows=rows.map zmg)(l:Nat)(hGl:G.l=l):awp (ITP Tryd.prog) Tryd.prog (some G) 0 c (z8f Tryd.prog Tryd.f81 rows.length) (zat Tryd.f81 [.yld l,.iptr (Enc.cells (t:Tr))]) St.empty:=by
 cases hc
 unfold znu at h
 refine zbk (by dsimp only[zat,Tryd.f81,List.length_cons,List.length_nil,Nat.zero_add,Nat.reduceAdd,Nat.reduceSub,List.replicate,List.cons_append,List.nil_append]) (by dsimp only[St.empty]) ?_
 refine zi (zc ?_)
 refine zcb (a:= .ptr 0 0) (σ'':=(.B [(87,[.yld l])])) ?_
 refine zi ?_
 refine zx [.v (.yld l),.v (.A (t:Tr))] ?_
 obtain⟨g1,h⟩:=z4a h
 refine zri (row:=zmg) (x:=t) (σ1:=⟨[(87,[.yld l])],[],[],(0+1),false⟩) (σ2:=⟨[(87,[.yld l])],[],[],0,true⟩) g1 (zh (zbu (zab (Enc.clo _))) rfl) (za (zam _ _ (zab (Enc.clo _))) rfl) (zwi rfl) rfl hGl hGr rfl rfl rfl rfl (by dsimp only[zy,List.set]) (by dsimp only[zy,List.set]) rfl rfl ?_ ?_
 refine w_o (a:= .b false) ?_
 refine zax rfl ?_
 refine zx [.v (.iptr (List.drop 7 (Enc.cells (t:Tr)))),.v (.L (t.l:List Tr)),.v (.i (List.length t.l:Int)),.v (.i 0)] ?_
 refine zag ?_
 refine zcx h (bz 0 25 33548283) (fun s1=>[(13,.i s1.1)]) (fun s1=>⟨[(87,[.yld l])],[],[],s1.2,false⟩) ?_ ?_
 exact zcs (bl 25 14340)
 intro s1 p1 h
 refine zes ?_
 refine zx [.v (.b (decide (s1.1<(List.length t.l:Int))))] ?_
 refine zi ?_
 refine zce h (fun hc1 h=> ?_) (fun hc1 h=> ?_)
 refine zbh h (bz 0 24 16760880) (fun j1=>[]) (fun j1=>⟨[(87,[.yld l])],[],[],j1,false⟩) ?_ ?_
 intro or1 h hr1
 refine zag ?_
 refine zi (zc ?_)
 obtain⟨g2,h⟩:=zp h
 obtain⟨x1,hx1,h⟩:=zt h
 refine z6y hx1 g2 ?_
 refine w_o (a:= .A (x1:Tr)) ?_
 refine zcb (a:= .ptr 1 0) (σ'':=⟨[(87,[.yld l]),(33,[.u 0,.raw (.int .u64 0),.raw (.int .u64 0),.raw (.int .u64 0),.raw (.int .u64 0),.i 0,.i 0,.list 0 [] .full])],[],[],s1.2,false⟩) ?_
 refine zcp 8 ⟨[(87,[.yld l]),(33,(Enc.cells (x1:Tr)))],[],[],s1.2,false⟩ ?_
 refine zx [.v (.A (x1:Tr))] ?_
 obtain⟨g3,h⟩:=zp h
 obtain⟨x2,hx2,h⟩:=zt h
 refine zda (args':=[.A (x1:Tr)]) (r:= .iter (List.map zmg x2)) (by rw[←hx2];exact(ih x1 g3)) ?_
 refine zag ?_
 refine zma h zmg (fun s2=>⟨[(87,[.yld l]),(33,(Enc.cells (x1:Tr)))],[],[],s2,false⟩) rfl (fun _=>rfl) rfl rfl ?_ ?_
 intro s2 w1 p2 h
 refine zbk (by dsimp only[zlg,List.zip,List.zipWith,List.foldl,List.set,Array.toList,zmg]) rfl ?_
 refine zc (k0:=0) (id:=6) ?_
 refine zcb (a:= .ptr 2 0) (σ'':=⟨[(87,[.yld l]),(33,(Enc.cells (x1:Tr))),(33,[.u 0,.raw (.int .u64 0),.raw (.int .u64 0),.raw (.int .u64 0),.raw (.int .u64 0),.i 0,.i 0,.list 0 [] .full])],[],[],s2,false⟩) ?_
 refine zcp 8 ⟨[(87,[.yld l]),(33,(Enc.cells (x1:Tr))),(33,(Enc.cells (w1:Tr)))],[],[],s2,false⟩ ?_
 refine zag ?_
 refine zx [.v (.yld l),.v (.A (w1:Tr))] ?_
 obtain⟨g4,h⟩:=z4a h
 refine zri (row:=zmg) (x:=w1) (σ1:=⟨[(87,[.yld l]),(33,(Enc.cells (x1:Tr))),(33,(Enc.cells (w1:Tr)))],[],[],(s2+1),false⟩) (σ2:=⟨[(87,[.yld l]),(33,(Enc.cells (x1:Tr))),(33,(Enc.cells (w1:Tr)))],[],[],s2,true⟩) g4 (zh (zbu (zab (Enc.clo _))) rfl) (za (zam _ _ (zab (Enc.clo _))) rfl) (zwi rfl) rfl hGl hGr rfl rfl rfl rfl (by dsimp only[zy,List.set]) (by dsimp only[zy,List.set]) rfl rfl ?_ ?_
 refine w_o (a:= .b false) ?_
 refine zax rfl ?_
 exact zfi (p:=p2) ((s2+1)) h (zcv (zav (by kernel_rfl) (zav (zal _ _ (Enc.clo _)) rfl))) (by kernel_rfl)
 refine w_o (a:= .b true) ?_
 refine zbf rfl ?_
 refine .inr ⟨(zcv (zav (by kernel_rfl) (zav (zal _ _ (Enc.clo _)) rfl))),?_⟩
 refine .inr ?_
 exact⟨⟨.tup [],rfl⟩,.inl rfl⟩
 intro s2 h
 refine zg (o:=or1) (s2) h ?_
 exact zfb (bl 25 16793551) 1 (by kernel_rfl) (Nat.le_of_ble_eq_true rfl) (zcv (zav (by kernel_rfl) rfl)) (by dsimp only[zbg,zca,List.foldl,List.set,bz,bzc,Nat.reduceMod,Nat.reduceDiv,Nat.reduceBEq,Nat.reduceAdd];exact(za rfl (za rfl (za (by decide) (za rfl (za rfl (za rfl (za rfl (za rfl (za rfl (za rfl (za rfl (za (zcj (Enc.cloL _)) (by kernel_rfl)))))))))))))) (by kernel_rfl)
 intro j1 h
 refine zes ?_
 refine zc (k0:=0) (id:=8) ?_
 obtain⟨g5,h⟩:=zp h
 refine zio g5 ?_
 refine zac ?_
 refine zbs (p:=p1) ((s1.1+1),j1) h ?_
 exact zcs (bl 25 14340)
 refine zaj h (fun h=> ?_)
 exact⟨⟨.tup [],rfl⟩,.inr (Option.some.inj h)⟩
 refine w_o (a:= .b true) ?_
 refine zbf rfl ?_
 exact⟨⟨.tup [],rfl⟩,.inl rfl⟩
theorem ent63:Ent Tryd.prog 63:=enters_of Tryd.func63 (by kernel_rfl) rfl
theorem qer (fuel:Nat)(n:Nat)(t:Tr)(rows:List Tr)(ih: ∀x:Tr,(pre x).length<n→Pure (ITP Tryd.prog) Tryd.prog 63 [.A x] (.iter (List.map zmg (pre x))))  (h:znu fuel n t rows=some rows.length):Pure (ITP Tryd.prog) Tryd.prog 63 [.A (t:Tr)] (.iter (rows.map zmg)):=by
 obtain⟨d,hd⟩: ∃d,Tryd.f63.body=some d:=⟨_,rfl⟩
 refine zik mix Tryd.func63 hd ent63 ?_
 cases hd
 refine zbk (by dsimp only[zat,Tryd.f63,List.length_cons,List.length_nil,Nat.zero_add,Nat.reduceAdd,Nat.reduceSub,List.replicate,List.cons_append,List.nil_append]) (by dsimp only[St.empty]) ?_
 refine zi (zc ?_)
 refine zcb (a:= .ptr 0 0) (σ'':=(.B [(33,(Enc.cells (t:Tr)))])) ?_
 refine w_o (a:= .raw Value.nilFunc) ?_
 refine zx [.v (.clos 81 [.ptr 0 0]),.m _] ?_
 exact zzt 1 (row:=zmg) (caps:=[.iptr (Enc.cells (t:Tr))]) mix rfl (congrArg (fun z=>AV.clos 81 [.iptr z]) (zdw _ _ (Enc.clo _))) Tryd.func81 rfl ent81 (by first|rfl|simp[cloL,clo,Enc.clo,zdx,Enc.cloL]) (rowT_ne _) (fun G hGr=>qbt fuel n t rows ih h _ rfl G hGr _ rfl)
theorem zjv {α:Type} [Enc α] {l:List α} {i:Nat} (h:i<l.length):ix l (i:Int)=l[i]:=by simp[ix,h]
theorem qgy (p:Tr→Option Bool)(q:Tr→Bool)(l:List Tr)(hl:l.length<2^62)(hp: ∀x∈l,p x=some (q x)) {body:Int→Option (Int ⊕ (Unit ⊕ Int))}
 (hb:body=fun s1=>(bif (decide (s1<(List.length l:Int))) then(chk (0≤s1∧s1<(List.length l:Int)) (zbi (ix l s1) (fun x1=>(zaq (p x1) (fun x2=>(bif x2 then(some (Sum.inr (Sum.inr s1))) else(chk (-9223372036854775808≤(s1+1)∧(s1+1)<9223372036854775808) (some (Sum.inl ((s1+1))))))))))) else(some (Sum.inr (Sum.inl ()))))):
 ∀(k i n:Nat),i+k=l.length→k<n→ ∃o:Unit ⊕ Int,zbo body n (i:Int)=some o∧((o= .inl ()∧(l.drop i).any q=false)∨(∃j:Int,o= .inr j∧0≤j∧(l.drop i).any q=true)):=by
 intro k
 induction k with
 | zero=>
  intro i n hi hn
  match n,hn with
  | n+1,_=>
   refine⟨.inl (),?_,.inl ⟨rfl,?_⟩⟩
   ·rw[zbo,hb];simp only
    rw[show decide ((i:Int)<(l.length:Int))=false from by simp;omega];rfl
   ·rw[List.drop_of_length_le (by omega)];rfl
 | succ k ih=>
  intro i n hi hn
  match n,hn with
  | n+1,hn=>
   have hil:i<l.length:=by omega
   have hx:=hp l[i] (List.getElem_mem hil)
   have hd:l.drop i=l[i]::l.drop (i+1):=List.drop_eq_getElem_cons hil
   have hb1:body (i:Int)=bif q l[i] then some (Sum.inr (Sum.inr (i:Int))) else some (Sum.inl (((i+1:Nat):Int))):=by
    rw[hb];simp only
    rw[show decide ((i:Int)<(l.length:Int))=true from by simp;omega]
    show chk _ _=_
    rw[zem (by omega),zbi,zjv hil,hx,bindE_some]
    rw[zem (by omega),show((i+1:Nat):Int)=(i:Int)+1 from by omega]
   cases hq:q l[i] with
   | true=>
    refine⟨.inr (i:Int),?_,.inr ⟨_,rfl,by omega,?_⟩⟩
    ·rw[zbo,hb1,hq];rfl
    ·rw[hd,List.any_cons,hq];rfl
   | false=>
    obtain⟨o,h1,h2⟩:=ih (i+1) n (by omega) (by omega)
    refine⟨o,?_,?_⟩
    ·rw[zbo,hb1,hq];exact h1
    ·rw[hd,List.any_cons,hq,Bool.false_or];exact h2
theorem ctf_eq {fuel:Nat} {p:Tr→Option Bool} (q:Tr→Bool) {l:List Tr} (hf:l.length<fuel)(hl:l.length<2^62)(hp: ∀x∈l,p x=some (q x)):F_ctf fuel p l=some (l.any q):=by
 unfold F_ctf F_ixf
 obtain⟨o,h1,h2⟩:=qgy p q l hl hp rfl l.length 0 fuel (by omega) hf
 rw[show((0:Nat):Int)=0 from rfl] at h1
 rw[h1]
 rw[List.drop_zero] at h2
 rcases h2 with⟨rfl,h⟩|⟨j,rfl,hj,h⟩
 ·rw[h];rfl
 ·rw[h];show zaq (some j) _=_
  rw[bindE_some];simp[hj]
theorem ctc_eq {fuel:Nat} {p:Tr→Option Bool} (q:Tr→Bool) {l:List Tr} (hf:l.length<fuel)(hl:l.length<2^62)(hp: ∀x∈l,p x=some (q x)):qho fuel p l=some (l.any q):=ctf_eq q hf hl hp
theorem z3d {fuel:Nat} {t:Tr} (hf:t.l.length<fuel)(hl:t.l.length<2^62)(k:Nat):zry fuel t k=some (z1m t k):=by
 unfold zry
 rw[ctc_eq (fun x=>decide (x.k=k)) hf hl]
 ·rfl
 ·intro x hx
  unfold zyl
  congr 1
  rw[Bool.eq_iff_iff];simp;omega
theorem zuw (lo hi:Int):zfs lo hi=some (zku lo hi):=by
 unfold zfs zku
 have k1: ∀n m:Int,(n==m)=decide (n=m):=fun n m=>rfl
 simp only[k1]
 have key: ∀a b c d e f g h:Bool,(zds (τ:=Unit) (bif a then(some (Sum.inr false)) else(bif b then(some (Sum.inr false)) else(bif c then(bif d then(some (Sum.inr false)) else(some (Sum.inl ()))) else(some (Sum.inl ()))))) (fun _=>(bif e then(some true) else(bif f then(bif g then(some h) else(some false)) else(some false)))))=some (!(a||b||c&&d)&&(e||f&&g&&h)):=by decide
 exact key _ _ _ _ _ _ _ _
theorem qgk {fuel:Nat} {t:Tr} (hf:t.l.length<fuel)(hl:t.l.length<2^62):zxj fuel t=some (zev t):=by
 have e1:zry fuel t 1=some (z1m t 1):=z3d hf hl 1
 have e3:zry fuel t 3=some (z1m t 3):=z3d hf hl 3
 have e4:zry fuel t 4=some (z1m t 4):=z3d hf hl 4
 have eb:=zuw t.mn t.mx
 unfold zxj
 have hodd: ∀a b c d e f g:Bool,(bif a then(bif b then(some (Sum.inr false)) else(bif c then(bif d then(some (Sum.inr false)) else(bif e then(some (Sum.inr false)) else(bif f then(bif g then(some (Sum.inr false)) else(some (Sum.inl ()))) else(some (Sum.inl ()))))) else(bif f then(bif g then(some (Sum.inr false)) else(some (Sum.inl ()))) else(some (Sum.inl ()))))) else(bif c then(bif d then(some (Sum.inr false)) else(bif e then(some (Sum.inr false)) else(bif f then(bif g then(some (Sum.inr false)) else(some (Sum.inl ()))) else(some (Sum.inl ()))))) else(bif f then(bif g then(some (Sum.inr false)) else(some (Sum.inl ()))) else(some (Sum.inl ())))):Option (Unit ⊕ Bool))=bif (a&&b)||(c&&(d||e))||(f&&g) then some (.inr false) else some (.inl ()):=by decide
 rw[hodd]
 show zds (bif oddT t then _ else _) _=some (zev t)
 rw[zev]
 cases oddT t with
 |true=>rfl
 | false=>
  show(bif _ then _ else _)=_
  rw[Bool.not_false,Bool.true_and]
  cases (t.k:Int)==1 with
  |true=>rfl
  | false=>
   show(bif _ then _ else _)=some (bif _ then _ else _)
   cases (t.k:Int)==2 with
   |true=>rfl
   | false=>
    show(bif _ then _ else _)=some (bif _ then _ else _)
    rw[e1,e3,e4,eb]
    cases (t.k:Int)==3 with
    | true=>
     show(bif _ then _ else _)=some _
     cases decide ((t.l.length:Int)>1)<;>cases z1m t 1<;>cases z1m t 3<;>rfl
    | false=>
     show(bif _ then _ else _)=some (bif _ then _ else _)
     cases (t.k:Int)==4 with
     | true=>
      show(bif _ then _ else _)=some _
      cases decide ((t.l.length:Int)>1)<;>cases z1m t 4<;>rfl
     | false=>
      show(bif _ then _ else _)=some (bif _ then _ else _)
      cases (t.k:Int)==5 with
      | true=>
       show(bif _ then _ else _)=some _
       cases (t.l.length:Int)==1<;>cases zku t.mn t.mx<;>cases z1m t 1<;>rfl
      | false=>
       show(bif _ then _ else _)=some _
       cases (t.k:Int)==6<;>cases (t.l.length:Int)==1<;>rfl
theorem z3p (t:Tr):t.l.length<(pre t).length:=by have:=zqn t;have:=qcw t.l;omega
theorem k_right (t:Tr)(h:(pre t).length<2^61):Pure (ITP Tryd.prog) Tryd.prog 64 [.agg (Enc.cells t)] (.raw (.bool (zev t))):=by
 have:=z3p t
 exact qgg (t.l.length+1) t _ (qgk (by omega) (by omega))
theorem z6b: ∀(l:List Tr) (i:Nat) (hi:i<l.length) (j:Nat),j<(pre l[i]).length→(zdb l)[(zdb (l.take i)).length+j]? =(pre l[i])[j]?
 |[],i,hi,_,_=>by simp at hi
 | t::l,0,hi,j,hj=>by
  simp only[List.take_zero,zdb,List.length_nil,Nat.zero_add,List.getElem_cons_zero]
  simp only[List.getElem_cons_zero] at hj
  rw[List.getElem?_append_left hj]
 | t::l,i+1,hi,j,hj=>by
  simp only[List.take_succ_cons,zdb,List.length_append,List.getElem_cons_succ]
  simp only[List.getElem_cons_succ] at hj
  rw[List.getElem?_append_right (by omega),show(pre t).length+(zdb (l.take i)).length+j-(pre t).length=(zdb (l.take i)).length+j by omega]
  exact z6b l i (by simpa using hi) j hj
theorem qdd {fuel n:Nat} (t:Tr)(hf:t.l.length<fuel)(hn:(pre t).length≤n)(hl:(pre t).length<2^61):znu fuel n t (pre t)=some (pre t).length:=by
 have hlen:=z3p t
 unfold znu
 refine z9z (by rw[zfm];rfl) ?_
 refine zkx t.l.length (fun i=>((i:Int),1+(zdb (t.l.take i)).length)) rfl (fun i hi=> ?_) ?_ hf
 ·refine zgq (by simp;omega) ?_
  refine zbz (1+(zdb (t.l.take (i+1))).length) ?_ ?_
  ·refine zae (by simp only;omega) (zap fun x1 e1=> ?_)
   simp only at e1
   rw[zjv hi] at e1
   have hm:x1∈t.l:=e1▸List.getElem_mem hi
   have hx:=zlq hm
   have hp:(pre t).length=1+(zdb t.l).length:=by rw[zfm,List.length_cons];omega
   refine zae (by omega) (zap fun x2 e2=> ?_)
   subst e2
   refine zbz (1+(zdb (t.l.take (i+1))).length) ?_ rfl
   have hsucc:(zdb (t.l.take (i+1))).length=(zdb (t.l.take i)).length+(pre x1).length:=by rw[←e1];exact zmf t.l i hi
   have key: ∀ {ρ:Type} (l:List Tr) (j:Nat),(∀m,m<l.length→(pre t)[j+m]? =l[m]?)→zen (β:=Nat) (ρ:=ρ) (fun s2 w1=>(z8q ((pre t)[s2]? =some w1) (some (Sum.inl ((s2+1)))))) l j=some (.inl (j+l.length)):=by
    intro ρ l
    induction l with
    |nil=>intro j _;rfl
    | cons y l ih=>
     intro j hj
     have h0:(pre t)[j]? =some y:=by simpa using hj 0 (by simp)
     have hb:z8q ((pre t)[j]? =some y) (some (Sum.inl (j+1)))=(some (Sum.inl (j+1)):Option (Nat ⊕ ρ)):=z9z h0 rfl
     simp only[zen,hb]
     rw[ih (j+1) (fun m hm=>by have:=hj (m+1) (by simp;omega);rw[show j+1+m=j+(m+1) by omega,this];rfl)]
     simp;omega
   rw[hsucc,←Nat.add_assoc]
   refine key (pre x1) (1+(zdb (t.l.take i)).length) (fun m hm=> ?_)
   subst e1
   rw[zfm t,show 1+(zdb (t.l.take i)).length+m=(zdb (t.l.take i)).length+m+1 by omega,List.getElem?_cons_succ]
   exact z6b t.l i hi m hm
  ·refine zae (by simp only;omega) ?_
   simp only
   rfl
 ·refine zfx (by simp) ?_
  have hp:(pre t).length=1+(zdb t.l).length:=by rw[zfm,List.length_cons];omega
  simp only[List.take_length];rw[hp]
theorem z0k: ∀(n:Nat) (t:Tr),(pre t).length<n→n≤2^61→Pure (ITP Tryd.prog) Tryd.prog 63 [.agg (Enc.cells t)] (.iter (List.map zmg (pre t)))
 |0,t,h,_=>absurd h (Nat.not_lt_zero _)
 |n+1,t,h,hn=>qer (t.l.length+1) n t (pre t) (fun x hx=>z0k n x hx (by omega)) (qdd t (by omega) (by omega) (by omega))
theorem zxs (t:Tr)(h:(pre t).length<2^61):Pure (ITP Tryd.prog) Tryd.prog 63 [.agg (Enc.cells t)] (.iter (List.map zmg (pre t))):=z0k (2^61) t h (Nat.le_refl _)
theorem hasS_eq (s:BS)(j:Nat)(hj:j<256):zoc s (j:Int)=some (s.getLsbD j):=by
 obtain⟨h1,h2,_⟩:=z3q j hj
 unfold zoc
 rw[h1,h2]
 refine zae (by omega) (zae (by omega) ?_)
 congr 1
 have:=qgl (W64 s (j/64)) (j%64) (Nat.mod_lt _ (by decide))
 rw[show wd s (Int.toNat ((j/64:Nat):Int))=((W64 s (j/64)).toNat:Int) from rfl,this]
 simp only[W64,BitVec.getLsbD_extractLsb',Nat.mod_lt _ (show 0<64 by decide),decide_true,Bool.true_and]
 rw[show 64*(j/64)+j%64=j by omega]
theorem all1_eq (s:BS):zzq 257 s (els s)=some (els s).length:=by
 unfold zzq
 refine zkx 256 (fun i=>((i:Int),(elN s i).length)) rfl (fun i hi=> ?_) ?_ (by decide)
 ·refine zgq (by simp;omega) ?_
  refine zbz (elN s (i+1)).length ?_ ?_
  ·refine zbr (s.getLsbD i) ?_ ?_
   ·simp only[(z3q i hi).2.2];exact hasS_eq s i hi
   ·rw[z4h]
    refine bif_i (fun hb=> ?_) (fun hb=> ?_)
    ·refine z9z ?_ ?_
     ·simp only[(z3q i hi).2.2,els,List.getElem?_map,qdv s hb 256 hi,Option.map_some]
     ·rw[if_pos hb];simp
    ·rw[if_neg (by rw[hb];decide)];simp
  ·refine zae (by simp only;omega) ?_
   simp
 ·refine zfx (by simp) ?_
  simp[els]
theorem k_all (s:BS):Pure (ITP Tryd.prog) Tryd.prog 30 [.agg (Enc.cells s)] (.iter (List.map qem (els s))):=all_sh 257 s _ (all1_eq s)
end Go.Ab
