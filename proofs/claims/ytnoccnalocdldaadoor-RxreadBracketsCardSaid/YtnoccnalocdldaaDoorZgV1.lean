import Derived.Test.YtnoccnalocdldaaDoorZgW2
set_option linter.all false
set_option maxRecDepth 100000
set_option maxHeartbeats 4000000
namespace Go.Ab
open Go Go.RowKit Go.Fwd Go.Proofs
theorem zwp {t:Tr} {l:List AV} (h:zcj l=true):zcj (.agg (Enc.cells t)::l)=true:=by
 rw[zcj,h,Bool.and_true];have:=z8b t;rw[enc_eq] at this;exact this
theorem rowT_ne (l:List Tr):List.map zmr l≠errRows:=by
 cases l with
 |nil=>simp[errRows]
 |cons a l=>simp[errRows,zmr,List.replicate]
theorem rowB_ne (l:List Int):List.map qem l≠errRows:=by
 cases l with
 |nil=>simp[errRows]
 |cons a l=>simp[errRows,qem,List.replicate]
noncomputable def z1j (fuel:Nat)(s:BS)(rows:List Int):Option Nat:=
 (zbo (β:=Int×Nat) (fun s1=>(bif (decide (s1.1<256)) then(zdr (τ:=Nat) (zar (znc s (IntKind.u8.wrap s1.1)) (fun x1=>(bif x1 then(z8p (rows[s1.2]? =some (IntKind.u8.wrap s1.1)) (some (Sum.inl ((s1.2+1))))) else(some (Sum.inl (s1.2)))))) (fun j1=>(chk (-9223372036854775808≤(s1.1+1)∧(s1.1+1)<9223372036854775808) (some (Sum.inl ((s1.1+1),j1)))))) else(some (Sum.inr s1.2)))) fuel (0,0))
theorem ent49:Ent Tryd.prog 49:=enters_of Tryd.func49 (by kernel_rfl) rfl
theorem all1_sh (fuel:Nat)(s:BS)(rows:List Int)(h:z1j fuel s rows=some rows.length)(c:Code)(hc:Tryd.f49.body=some c)(G:Gen)(hGr:G.rows=rows.map qem)(l:Nat)(hGl:G.l=l):awp (ITP Tryd.prog) Tryd.prog (some G) 0 c (z7h Tryd.prog Tryd.f49 rows.length) (zat Tryd.f49 [.yld l,.iptr (Enc.cells (s:BS))]) St.empty:=by
 cases hc
 unfold z1j at h
 refine zbj (by dsimp only[zat,Tryd.f49,List.length_cons,List.length_nil,Nat.zero_add,Nat.reduceAdd,Nat.reduceSub,List.replicate,List.cons_append,List.nil_append]) (by dsimp only[St.empty]) ?_
 refine zx [.v (.i 0)] ?_
 refine zag ?_
 refine zcx h (bz 0 19 524284) (fun s1=>[(4,.i s1.1)]) (fun s1=>⟨[],[],[],s1.2,false⟩) ?_ ?_
 exact zcs (bl 19 19)
 intro s1 p1 h
 refine zet ?_
 refine zx [.v (.b (decide (s1.1<256)))] ?_
 refine zi ?_
 refine zcd h (fun hc1 h=> ?_) (fun hc1 h=> ?_)
 refine zbh h (bz 0 18 262120) (fun j1=>[]) (fun j1=>⟨[],[],[],j1,false⟩) ?_ ?_
 intro or1 h hr1
 refine zag ?_
 refine zx [.m _,.m _] ?_
 refine zx [.v (.A (s:BS)),.m _,.v (.u (IntKind.u8.wrap s1.1))] ?_
 obtain⟨x1,hx1,h⟩:=zv h
 refine zdb (zsp s (IntKind.u8.wrap s1.1) x1 hx1) ?_
 refine zaa h (fun hc2 h=> ?_) (fun hc2 h=> ?_)
 refine zak hc2 ?_
 refine w_r [.m _,.m _,.v (.u (IntKind.u8.wrap s1.1))] ?_
 refine zan rfl rfl ?_
 obtain⟨g1,h⟩:=z4p h
 refine zrd (row:=qem) (x:=(IntKind.u8.wrap s1.1)) (σ1:=⟨[],[],[],(s1.2+1),false⟩) (σ2:=⟨[],[],[],s1.2,true⟩) g1 (zh rfl rfl) (by kernel_rfl) (qhk rfl) rfl hGl hGr rfl rfl rfl rfl (by dsimp only[zy,List.set]) (by dsimp only[zy,List.set]) rfl rfl ?_ ?_
 refine w_r [.v (.b false),.v (.b false)] ?_
 refine zax rfl ?_
 refine zg (o:=or1) ((s1.2+1)) h ?_
 exact zcs (bl 19 262167)
 refine w_r [.v (.b true),.v (.b true)] ?_
 refine zbf rfl ?_
 refine .inr ?_
 exact⟨⟨.tup [],rfl⟩,.inl rfl⟩
 refine zak hc2 ?_
 refine w_r [.p,.p,.p,.p,.p] ?_
 refine w_r [.v (.b false)] ?_
 refine zax rfl ?_
 refine zg (o:=or1) (s1.2) h ?_
 exact zcs (bl 19 262167)
 intro j1 h
 refine zet ?_
 refine zc (k0:=0) (id:=4) ?_
 obtain⟨g2,h⟩:=zp h
 refine zio g2 ?_
 refine zac ?_
 refine zbs (p:=p1) ((s1.1+1),j1) h ?_
 exact zcs (bl 19 19)
 refine zaj h (fun h=> ?_)
 exact⟨⟨.tup [],rfl⟩,.inr (Option.some.inj h)⟩
theorem ent30:Ent Tryd.prog 30:=enters_of Tryd.func30 (by kernel_rfl) rfl
theorem all_sh (fuel:Nat)(s:BS)(rows:List Int)(h:z1j fuel s rows=some rows.length):Pure (ITP Tryd.prog) Tryd.prog 30 [.A (s:BS)] (.iter (rows.map qem)):=by
 obtain⟨d,hd⟩: ∃d,Tryd.f30.body=some d:=⟨_,rfl⟩
 refine zik mix Tryd.func30 hd ent30 ?_
 cases hd
 refine zbj (by dsimp only[zat,Tryd.f30,List.length_cons,List.length_nil,Nat.zero_add,Nat.reduceAdd,Nat.reduceSub,List.replicate,List.cons_append,List.nil_append]) (by dsimp only[St.empty]) ?_
 refine zi (zc ?_)
 refine zcb (a:= .ptr 0 0) (σ'':=(.B [(27,(Enc.cells (s:BS)))])) ?_
 refine w_o (a:= .raw Value.nilFunc) ?_
 refine zx [.v (.clos 49 [.ptr 0 0]),.m _] ?_
 exact zym 1 (row:=qem) (caps:=[.iptr (Enc.cells (s:BS))]) mix rfl (congrArg (fun z=>AV.clos 49 [.iptr z]) (zdx _ _ (Enc.clo _))) Tryd.func49 rfl ent49 (by first|rfl|simp[cloL,clo,Enc.clo,zdw,Enc.cloL]) (rowB_ne _) (fun G hGr=>all1_sh fuel s rows h _ rfl G hGr _ rfl)
noncomputable def znm (fuel:Nat)(n:Nat)(t:Tr)(rows:List Tr):Option Nat:=
 (z8p (rows[0]? =some t) (zbo (β:=Int×Nat) (fun s1=>(bif (decide (s1.1<(List.length t.l:Int))) then(zdr (τ:=Nat) (chk (0≤s1.1∧s1.1<(List.length t.l:Int)) (zbi (ix t.l s1.1) (fun x1=>(chk ((pre x1).length<n) (zbi (pre x1) (fun x2=>(zdr (zek (β:=Nat) (fun s2 w1=>(z8p (rows[s2]? =some w1) (some (Sum.inl ((s2+1)))))) x2 (s1.2)) (fun s2=>(some (Sum.inl (s2))))))))))) (fun j1=>(chk (-9223372036854775808≤(s1.1+1)∧(s1.1+1)<9223372036854775808) (some (Sum.inl ((s1.1+1),j1)))))) else(some (Sum.inr s1.2)))) fuel (0,(0+1))))
theorem ent81:Ent Tryd.prog 81:=enters_of Tryd.func81 (by kernel_rfl) rfl
theorem qde (fuel:Nat)(n:Nat)(t:Tr)(rows:List Tr)(ih: ∀x:Tr,(pre x).length<n→Pure (ITP Tryd.prog) Tryd.prog 63 [.A x] (.iter (List.map zmr (pre x))))(h:znm fuel n t rows=some rows.length)(c:Code)(hc:Tryd.f81.body=some c)(G:Gen)(hGr:G.rows=rows.map zmr)(l:Nat)(hGl:G.l=l):awp (ITP Tryd.prog) Tryd.prog (some G) 0 c (z7h Tryd.prog Tryd.f81 rows.length) (zat Tryd.f81 [.yld l,.iptr (Enc.cells (t:Tr))]) St.empty:=by
 cases hc
 unfold znm at h
 refine zbj (by dsimp only[zat,Tryd.f81,List.length_cons,List.length_nil,Nat.zero_add,Nat.reduceAdd,Nat.reduceSub,List.replicate,List.cons_append,List.nil_append]) (by dsimp only[St.empty]) ?_
 refine zi (zc ?_)
 refine zcb (a:= .ptr 0 0) (σ'':=(.B [(87,[.yld l])])) ?_
 refine zi ?_
 refine zx [.v (.yld l),.v (.A (t:Tr))] ?_
 obtain⟨g1,h⟩:=z4p h
 refine zrd (row:=zmr) (x:=t) (σ1:=⟨[(87,[.yld l])],[],[],(0+1),false⟩) (σ2:=⟨[(87,[.yld l])],[],[],0,true⟩) g1 (zh (zbu (zab (Enc.clo _))) rfl) (za (zam _ _ (zab (Enc.clo _))) rfl) (zwp rfl) rfl hGl hGr rfl rfl rfl rfl (by dsimp only[zy,List.set]) (by dsimp only[zy,List.set]) rfl rfl ?_ ?_
 refine w_o (a:= .b false) ?_
 refine zax rfl ?_
 refine zx [.v (.iptr (List.drop 7 (Enc.cells (t:Tr)))),.v (.L (t.l:List Tr)),.v (.i (List.length t.l:Int)),.v (.i 0)] ?_
 refine zag ?_
 refine zcx h (bz 0 25 33548283) (fun s1=>[(13,.i s1.1)]) (fun s1=>⟨[(87,[.yld l])],[],[],s1.2,false⟩) ?_ ?_
 exact zcs (bl 25 14340)
 intro s1 p1 h
 refine zet ?_
 refine zx [.v (.b (decide (s1.1<(List.length t.l:Int))))] ?_
 refine zi ?_
 refine zcd h (fun hc1 h=> ?_) (fun hc1 h=> ?_)
 refine zbh h (bz 0 24 16760880) (fun j1=>[]) (fun j1=>⟨[(87,[.yld l])],[],[],j1,false⟩) ?_ ?_
 intro or1 h hr1
 refine zag ?_
 refine zi (zc ?_)
 obtain⟨g2,h⟩:=zp h
 obtain⟨x1,hx1,h⟩:=zt h
 refine z6x hx1 g2 ?_
 refine w_o (a:= .A (x1:Tr)) ?_
 refine zcb (a:= .ptr 1 0) (σ'':=⟨[(87,[.yld l]),(33,[.u 0,.raw (.int .u64 0),.raw (.int .u64 0),.raw (.int .u64 0),.raw (.int .u64 0),.i 0,.i 0,.list 0 [] .full])],[],[],s1.2,false⟩) ?_
 refine zco 8 ⟨[(87,[.yld l]),(33,(Enc.cells (x1:Tr)))],[],[],s1.2,false⟩ ?_
 refine zx [.v (.A (x1:Tr))] ?_
 obtain⟨g3,h⟩:=zp h
 obtain⟨x2,hx2,h⟩:=zt h
 refine zdb (args':=[.A (x1:Tr)]) (r:= .iter (List.map zmr x2)) (by rw[←hx2];exact(ih x1 g3)) ?_
 refine zag ?_
 refine zlt h zmr (fun s2=>⟨[(87,[.yld l]),(33,(Enc.cells (x1:Tr)))],[],[],s2,false⟩) rfl (fun _=>rfl) rfl rfl ?_ ?_
 intro s2 w1 p2 h
 refine zbj (by dsimp only[zlh,List.zip,List.zipWith,List.foldl,List.set,Array.toList,zmr]) rfl ?_
 refine zc (k0:=0) (id:=6) ?_
 refine zcb (a:= .ptr 2 0) (σ'':=⟨[(87,[.yld l]),(33,(Enc.cells (x1:Tr))),(33,[.u 0,.raw (.int .u64 0),.raw (.int .u64 0),.raw (.int .u64 0),.raw (.int .u64 0),.i 0,.i 0,.list 0 [] .full])],[],[],s2,false⟩) ?_
 refine zco 8 ⟨[(87,[.yld l]),(33,(Enc.cells (x1:Tr))),(33,(Enc.cells (w1:Tr)))],[],[],s2,false⟩ ?_
 refine zag ?_
 refine zx [.v (.yld l),.v (.A (w1:Tr))] ?_
 obtain⟨g4,h⟩:=z4p h
 refine zrd (row:=zmr) (x:=w1) (σ1:=⟨[(87,[.yld l]),(33,(Enc.cells (x1:Tr))),(33,(Enc.cells (w1:Tr)))],[],[],(s2+1),false⟩) (σ2:=⟨[(87,[.yld l]),(33,(Enc.cells (x1:Tr))),(33,(Enc.cells (w1:Tr)))],[],[],s2,true⟩) g4 (zh (zbu (zab (Enc.clo _))) rfl) (za (zam _ _ (zab (Enc.clo _))) rfl) (zwp rfl) rfl hGl hGr rfl rfl rfl rfl (by dsimp only[zy,List.set]) (by dsimp only[zy,List.set]) rfl rfl ?_ ?_
 refine w_o (a:= .b false) ?_
 refine zax rfl ?_
 exact zfi (p:=p2) ((s2+1)) h (zcw (zav (by kernel_rfl) (zav (zal _ _ (Enc.clo _)) rfl))) (by kernel_rfl)
 refine w_o (a:= .b true) ?_
 refine zbf rfl ?_
 refine .inr ⟨(zcw (zav (by kernel_rfl) (zav (zal _ _ (Enc.clo _)) rfl))),?_⟩
 refine .inr ?_
 exact⟨⟨.tup [],rfl⟩,.inl rfl⟩
 intro s2 h
 refine zg (o:=or1) (s2) h ?_
 exact zfa (bl 25 16793551) 1 (by kernel_rfl) (Nat.le_of_ble_eq_true rfl) (zcw (zav (by kernel_rfl) rfl)) (by dsimp only[zbg,zbz,List.foldl,List.set,bz,bzc,Nat.reduceMod,Nat.reduceDiv,Nat.reduceBEq,Nat.reduceAdd];exact(za rfl (za rfl (za (by decide) (za rfl (za rfl (za rfl (za rfl (za rfl (za rfl (za rfl (za rfl (za (zcl (Enc.cloL _)) (by kernel_rfl)))))))))))))) (by kernel_rfl)
 intro j1 h
 refine zet ?_
 refine zc (k0:=0) (id:=8) ?_
 obtain⟨g5,h⟩:=zp h
 refine zio g5 ?_
 refine zac ?_
 refine zbs (p:=p1) ((s1.1+1),j1) h ?_
 exact zcs (bl 25 14340)
 refine zaj h (fun h=> ?_)
 exact⟨⟨.tup [],rfl⟩,.inr (Option.some.inj h)⟩
 refine w_o (a:= .b true) ?_
 refine zbf rfl ?_
 exact⟨⟨.tup [],rfl⟩,.inl rfl⟩
theorem ent63:Ent Tryd.prog 63:=enters_of Tryd.func63 (by kernel_rfl) rfl
theorem qik (fuel:Nat)(n:Nat)(t:Tr)(rows:List Tr)(ih: ∀x:Tr,(pre x).length<n→Pure (ITP Tryd.prog) Tryd.prog 63 [.A x] (.iter (List.map zmr (pre x))))  (h:znm fuel n t rows=some rows.length):Pure (ITP Tryd.prog) Tryd.prog 63 [.A (t:Tr)] (.iter (rows.map zmr)):=by
 obtain⟨d,hd⟩: ∃d,Tryd.f63.body=some d:=⟨_,rfl⟩
 refine zik mix Tryd.func63 hd ent63 ?_
 cases hd
 refine zbj (by dsimp only[zat,Tryd.f63,List.length_cons,List.length_nil,Nat.zero_add,Nat.reduceAdd,Nat.reduceSub,List.replicate,List.cons_append,List.nil_append]) (by dsimp only[St.empty]) ?_
 refine zi (zc ?_)
 refine zcb (a:= .ptr 0 0) (σ'':=(.B [(33,(Enc.cells (t:Tr)))])) ?_
 refine w_o (a:= .raw Value.nilFunc) ?_
 refine zx [.v (.clos 81 [.ptr 0 0]),.m _] ?_
 exact zym 1 (row:=zmr) (caps:=[.iptr (Enc.cells (t:Tr))]) mix rfl (congrArg (fun z=>AV.clos 81 [.iptr z]) (zdx _ _ (Enc.clo _))) Tryd.func81 rfl ent81 (by first|rfl|simp[cloL,clo,Enc.clo,zdw,Enc.cloL]) (rowT_ne _) (fun G hGr=>qde fuel n t rows ih h _ rfl G hGr _ rfl)
theorem zjs {α:Type} [Enc α] {l:List α} {i:Nat} (h:i<l.length):ix l (i:Int)=l[i]:=by simp[ix,h]
theorem qgq (p:Tr→Option Bool)(q:Tr→Bool)(l:List Tr)(hl:l.length<2^62)(hp: ∀x∈l,p x=some (q x)) {body:Int→Option (Int ⊕ (Unit ⊕ Int))}
 (hb:body=fun s1=>(bif (decide (s1<(List.length l:Int))) then(chk (0≤s1∧s1<(List.length l:Int)) (zbi (ix l s1) (fun x1=>(zar (p x1) (fun x2=>(bif x2 then(some (Sum.inr (Sum.inr s1))) else(chk (-9223372036854775808≤(s1+1)∧(s1+1)<9223372036854775808) (some (Sum.inl ((s1+1))))))))))) else(some (Sum.inr (Sum.inl ()))))):
 ∀(k i n:Nat),i+k=l.length→k<n→ ∃o:Unit ⊕ Int,zbo body n (i:Int)=some o∧((o= .inl ()∧(l.drop i).any q=false)∨(∃j:Int,o= .inr j∧0≤j∧(l.drop i).any q=true)):=by
 intro k
 induction k with
 | zero=>
  intro i n hi hn
  match n,hn with
  | n+1,_=>
   refine⟨.inl (),?_,.inl ⟨rfl,?_⟩⟩
   ·rw[zbo,hb];simp only
    rw[show decide ((i:Int)<(l.length:Int))=false from by simp;omega];rfl
   ·rw[List.drop_of_length_le (by omega)];rfl
 | succ k ih=>
  intro i n hi hn
  match n,hn with
  | n+1,hn=>
   have hil:i<l.length:=by omega
   have hx:=hp l[i] (List.getElem_mem hil)
   have hd:l.drop i=l[i]::l.drop (i+1):=List.drop_eq_getElem_cons hil
   have hb1:body (i:Int)=bif q l[i] then some (Sum.inr (Sum.inr (i:Int))) else some (Sum.inl (((i+1:Nat):Int))):=by
    rw[hb];simp only
    rw[show decide ((i:Int)<(l.length:Int))=true from by simp;omega]
    show chk _ _=_
    rw[zem (by omega),zbi,zjs hil,hx,bindE_some]
    rw[zem (by omega),show((i+1:Nat):Int)=(i:Int)+1 from by omega]
   cases hq:q l[i] with
   | true=>
    refine⟨.inr (i:Int),?_,.inr ⟨_,rfl,by omega,?_⟩⟩
    ·rw[zbo,hb1,hq];rfl
    ·rw[hd,List.any_cons,hq];rfl
   | false=>
    obtain⟨o,h1,h2⟩:=ih (i+1) n (by omega) (by omega)
    refine⟨o,?_,?_⟩
    ·rw[zbo,hb1,hq];exact h1
    ·rw[hd,List.any_cons,hq,Bool.false_or];exact h2
theorem ctf_eq {fuel:Nat} {p:Tr→Option Bool} (q:Tr→Bool) {l:List Tr} (hf:l.length<fuel)(hl:l.length<2^62)(hp: ∀x∈l,p x=some (q x)):F_ctf fuel p l=some (l.any q):=by
 unfold F_ctf F_ixf
 obtain⟨o,h1,h2⟩:=qgq p q l hl hp rfl l.length 0 fuel (by omega) hf
 rw[show((0:Nat):Int)=0 from rfl] at h1
 rw[h1]
 rw[List.drop_zero] at h2
 rcases h2 with⟨rfl,h⟩|⟨j,rfl,hj,h⟩
 ·rw[h];rfl
 ·rw[h];show zar (some j) _=_
  rw[bindE_some];simp[hj]
theorem ctc_eq {fuel:Nat} {p:Tr→Option Bool} (q:Tr→Bool) {l:List Tr} (hf:l.length<fuel)(hl:l.length<2^62)(hp: ∀x∈l,p x=some (q x)):qhe fuel p l=some (l.any q):=ctf_eq q hf hl hp
theorem z2x {fuel:Nat} {t:Tr} (hf:t.l.length<fuel)(hl:t.l.length<2^62)(k:Nat):zst fuel t k=some (z1m t k):=by
 unfold zst
 rw[ctc_eq (fun x=>decide (x.k=k)) hf hl]
 ·rfl
 ·intro x hx
  unfold zzh
  congr 1
  rw[Bool.eq_iff_iff];simp;omega
theorem zve (lo hi:Int):zfo lo hi=some (zkv lo hi):=by
 unfold zfo zkv
 have k1: ∀n m:Int,(n==m)=decide (n=m):=fun n m=>rfl
 simp only[k1]
 have key: ∀a b c d e f g h:Bool,(zdr (τ:=Unit) (bif a then(some (Sum.inr false)) else(bif b then(some (Sum.inr false)) else(bif c then(bif d then(some (Sum.inr false)) else(some (Sum.inl ()))) else(some (Sum.inl ()))))) (fun _=>(bif e then(some true) else(bif f then(bif g then(some h) else(some false)) else(some false)))))=some (!(a||b||c&&d)&&(e||f&&g&&h)):=by decide
 exact key _ _ _ _ _ _ _ _
theorem qga {fuel:Nat} {t:Tr} (hf:t.l.length<fuel)(hl:t.l.length<2^62):zxh fuel t=some (zeu t):=by
 have e1:zst fuel t 1=some (z1m t 1):=z2x hf hl 1
 have e3:zst fuel t 3=some (z1m t 3):=z2x hf hl 3
 have e4:zst fuel t 4=some (z1m t 4):=z2x hf hl 4
 have eb:=zve t.mn t.mx
 unfold zxh
 have hodd: ∀a b c d e f g:Bool,(bif a then(bif b then(some (Sum.inr false)) else(bif c then(bif d then(some (Sum.inr false)) else(bif e then(some (Sum.inr false)) else(bif f then(bif g then(some (Sum.inr false)) else(some (Sum.inl ()))) else(some (Sum.inl ()))))) else(bif f then(bif g then(some (Sum.inr false)) else(some (Sum.inl ()))) else(some (Sum.inl ()))))) else(bif c then(bif d then(some (Sum.inr false)) else(bif e then(some (Sum.inr false)) else(bif f then(bif g then(some (Sum.inr false)) else(some (Sum.inl ()))) else(some (Sum.inl ()))))) else(bif f then(bif g then(some (Sum.inr false)) else(some (Sum.inl ()))) else(some (Sum.inl ())))):Option (Unit ⊕ Bool))=bif (a&&b)||(c&&(d||e))||(f&&g) then some (.inr false) else some (.inl ()):=by decide
 rw[hodd]
 show zdr (bif oddT t then _ else _) _=some (zeu t)
 rw[zeu]
 cases oddT t with
 |true=>rfl
 | false=>
  show(bif _ then _ else _)=_
  rw[Bool.not_false,Bool.true_and]
  cases (t.k:Int)==1 with
  |true=>rfl
  | false=>
   show(bif _ then _ else _)=some (bif _ then _ else _)
   cases (t.k:Int)==2 with
   |true=>rfl
   | false=>
    show(bif _ then _ else _)=some (bif _ then _ else _)
    rw[e1,e3,e4,eb]
    cases (t.k:Int)==3 with
    | true=>
     show(bif _ then _ else _)=some _
     cases decide ((t.l.length:Int)>1)<;>cases z1m t 1<;>cases z1m t 3<;>rfl
    | false=>
     show(bif _ then _ else _)=some (bif _ then _ else _)
     cases (t.k:Int)==4 with
     | true=>
      show(bif _ then _ else _)=some _
      cases decide ((t.l.length:Int)>1)<;>cases z1m t 4<;>rfl
     | false=>
      show(bif _ then _ else _)=some (bif _ then _ else _)
      cases (t.k:Int)==5 with
      | true=>
       show(bif _ then _ else _)=some _
       cases (t.l.length:Int)==1<;>cases zkv t.mn t.mx<;>cases z1m t 1<;>rfl
      | false=>
       show(bif _ then _ else _)=some _
       cases (t.k:Int)==6<;>cases (t.l.length:Int)==1<;>rfl
theorem z1u (t:Tr):t.l.length<(pre t).length:=by have:=zpz t;have:=qby t.l;omega
theorem k_right (t:Tr)(h:(pre t).length<2^61):Pure (ITP Tryd.prog) Tryd.prog 64 [.agg (Enc.cells t)] (.raw (.bool (zeu t))):=by
 have:=z1u t
 exact qij (t.l.length+1) t _ (qga (by omega) (by omega))
theorem z4f: ∀(l:List Tr) (i:Nat) (hi:i<l.length) (j:Nat),j<(pre l[i]).length→(zda l)[(zda (l.take i)).length+j]? =(pre l[i])[j]?
 |[],i,hi,_,_=>by simp at hi
 | t::l,0,hi,j,hj=>by
  simp only[List.take_zero,zda,List.length_nil,Nat.zero_add,List.getElem_cons_zero]
  simp only[List.getElem_cons_zero] at hj
  rw[List.getElem?_append_left hj]
 | t::l,i+1,hi,j,hj=>by
  simp only[List.take_succ_cons,zda,List.length_append,List.getElem_cons_succ]
  simp only[List.getElem_cons_succ] at hj
  rw[List.getElem?_append_right (by omega),show(pre t).length+(zda (l.take i)).length+j-(pre t).length=(zda (l.take i)).length+j by omega]
  exact z4f l i (by simpa using hi) j hj
theorem qdd {fuel n:Nat} (t:Tr)(hf:t.l.length<fuel)(hn:(pre t).length≤n)(hl:(pre t).length<2^61):znm fuel n t (pre t)=some (pre t).length:=by
 have hlen:=z1u t
 unfold znm
 refine qdg (by rw[zfl];rfl) ?_
 refine zku t.l.length (fun i=>((i:Int),1+(zda (t.l.take i)).length)) rfl (fun i hi=> ?_) ?_ hf
 ·refine zgp (by simp;omega) ?_
  refine zca (1+(zda (t.l.take (i+1))).length) ?_ ?_
  ·refine zae (by simp only;omega) (zap fun x1 e1=> ?_)
   simp only at e1
   rw[zjs hi] at e1
   have hm:x1∈t.l:=e1▸List.getElem_mem hi
   have hx:=zlu hm
   have hp:(pre t).length=1+(zda t.l).length:=by rw[zfl,List.length_cons];omega
   refine zae (by omega) (zap fun x2 e2=> ?_)
   subst e2
   refine zca (1+(zda (t.l.take (i+1))).length) ?_ rfl
   have hsucc:(zda (t.l.take (i+1))).length=(zda (t.l.take i)).length+(pre x1).length:=by rw[←e1];exact zmd t.l i hi
   have key: ∀ {ρ:Type} (l:List Tr) (j:Nat),(∀m,m<l.length→(pre t)[j+m]? =l[m]?)→zek (β:=Nat) (ρ:=ρ) (fun s2 w1=>(z8p ((pre t)[s2]? =some w1) (some (Sum.inl ((s2+1)))))) l j=some (.inl (j+l.length)):=by
    intro ρ l
    induction l with
    |nil=>intro j _;rfl
    | cons y l ih=>
     intro j hj
     have h0:(pre t)[j]? =some y:=by simpa using hj 0 (by simp)
     have hb:z8p ((pre t)[j]? =some y) (some (Sum.inl (j+1)))=(some (Sum.inl (j+1)):Option (Nat ⊕ ρ)):=qdg h0 rfl
     simp only[zek,hb]
     rw[ih (j+1) (fun m hm=>by have:=hj (m+1) (by simp;omega);rw[show j+1+m=j+(m+1) by omega,this];rfl)]
     simp;omega
   rw[hsucc,←Nat.add_assoc]
   refine key (pre x1) (1+(zda (t.l.take i)).length) (fun m hm=> ?_)
   subst e1
   rw[zfl t,show 1+(zda (t.l.take i)).length+m=(zda (t.l.take i)).length+m+1 by omega,List.getElem?_cons_succ]
   exact z4f t.l i hi m hm
  ·refine zae (by simp only;omega) ?_
   simp only
   rfl
 ·refine zfy (by simp) ?_
  have hp:(pre t).length=1+(zda t.l).length:=by rw[zfl,List.length_cons];omega
  simp only[List.take_length];rw[hp]
theorem zyz: ∀(n:Nat) (t:Tr),(pre t).length<n→n≤2^61→Pure (ITP Tryd.prog) Tryd.prog 63 [.agg (Enc.cells t)] (.iter (List.map zmr (pre t)))
 |0,t,h,_=>absurd h (Nat.not_lt_zero _)
 |n+1,t,h,hn=>qik (t.l.length+1) n t (pre t) (fun x hx=>zyz n x hx (by omega)) (qdd t (by omega) (by omega) (by omega))
theorem zya (t:Tr)(h:(pre t).length<2^61):Pure (ITP Tryd.prog) Tryd.prog 63 [.agg (Enc.cells t)] (.iter (List.map zmr (pre t))):=zyz (2^61) t h (Nat.le_refl _)
theorem hasS_eq (s:BS)(j:Nat)(hj:j<256):znc s (j:Int)=some (s.getLsbD j):=by
 obtain⟨h1,h2,_⟩:=z2p j hj
 unfold znc
 rw[h1,h2]
 refine zae (by omega) (zae (by omega) ?_)
 congr 1
 have:=qfu (W64 s (j/64)) (j%64) (Nat.mod_lt _ (by decide))
 rw[show wd s (Int.toNat ((j/64:Nat):Int))=((W64 s (j/64)).toNat:Int) from rfl,this]
 simp only[W64,BitVec.getLsbD_extractLsb',Nat.mod_lt _ (show 0<64 by decide),decide_true,Bool.true_and]
 rw[show 64*(j/64)+j%64=j by omega]
theorem all1_eq (s:BS):z1j 257 s (els s)=some (els s).length:=by
 unfold z1j
 refine zku 256 (fun i=>((i:Int),(elN s i).length)) rfl (fun i hi=> ?_) ?_ (by decide)
 ·refine zgp (by simp;omega) ?_
  refine zca (elN s (i+1)).length ?_ ?_
  ·refine zbq (s.getLsbD i) ?_ ?_
   ·simp only[(z2p i hi).2.2];exact hasS_eq s i hi
   ·rw[z5g]
    refine bif_i (fun hb=> ?_) (fun hb=> ?_)
    ·refine qdg ?_ ?_
     ·simp only[(z2p i hi).2.2,els,List.getElem?_map,qai s hb 256 hi,Option.map_some]
     ·rw[if_pos hb];simp
    ·rw[if_neg (by rw[hb];decide)];simp
  ·refine zae (by simp only;omega) ?_
   simp
 ·refine zfy (by simp) ?_
  simp[els]
theorem k_all (s:BS):Pure (ITP Tryd.prog) Tryd.prog 30 [.agg (Enc.cells s)] (.iter (List.map qem (els s))):=all_sh 257 s _ (all1_eq s)
end Go.Ab
