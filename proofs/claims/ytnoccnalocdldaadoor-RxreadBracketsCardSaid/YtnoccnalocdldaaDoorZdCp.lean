import Derived.Test.YtnoccnalocdldaaDoorZdF2
import Derived.Test.YtnoccnalocdldaaDoorZdH
import Derived.Laws.CopyRow
set_option linter.all false
namespace Go.Ab
open Go Go.RowKit Go.Fwd
def z9a (σ:St)(sz:Nat):AV→Option (Nat×List AV)
 | .list m ds _=>if ds.length=m*sz∧0<sz then some (m,ds) else none
 | .bsl s off m sz' _=>match σ.boxes[s]? with
  |some bx=>if sz'=sz∧off+m*sz≤bx.2.length then some (m,(bx.2.drop off).take (m*sz)) else none
  |none=>none
 |_=>none
theorem zzt {IT:IterP} {P:Program} {σ:St} {X:Cx} {sz m:Nat} {y:AV} {u:Value} {ds:List AV} (h:z9a σ sz y=some (m,ds))(hy:Rep IT X y u)(hI:Inv IT σ X):
 ∃us,zbk IT X ds us∧(∀v∈us,v.oneCell'=true)∧(∀w:World,(Builtin.lenOf u).run P w= .ok m w)∧us.length=m*sz∧ ∀k,k≤m→(Builtin.firstCells sz k u).run P X.w= .ok (us.take (k*sz)).toArray X.w:=by
 unfold z9a at h
 split at h
 ·rename_i m' ds' st
  split at h<;>cases h
  rename_i hc
  obtain⟨hl,hp⟩:=hc
  rw[Rep] at hy
  obtain⟨ad,cap,rfl,⟨hcap,hnil⟩,hc,_⟩:=hy
  rcases hc with rfl|⟨b,o,rfl,hat⟩
  ·have hm:m=0:=by
    rcases Nat.eq_zero_or_pos m with h|h
    ·exact h
    ·have:=Nat.mul_pos h hp;simp at hl;omega
   subst hm
   refine⟨[],by rw[zbk],(fun v hv=>by cases hv),fun w=>rfl,by simp,fun k hk=> ?_⟩
   have hk0:k=0:=by omega
   subst hk0
   rw[List.take_nil]
   cases ad with
   |none=>rfl
   |some a=>exact run_firstCells_some X.w sz 0 a 0 cap [] (by simp) (by simp)
  ·obtain⟨us,u1,u2,u3⟩:=zft hat
   have hul:=zr u1
   refine⟨us,u1,u2,fun w=>rfl,by omega,fun k hk=> ?_⟩
   have hkm:k*sz≤m*sz:=Nat.mul_le_mul_right _ hk
   refine run_firstCells_some X.w sz k ⟨b,o,none⟩ m cap (us.take (k*sz)) (by rw[List.length_take];omega) (fun j w hj=> ?_)
   rw[zfh]
   rw[List.getElem?_take] at hj
   split at hj
   ·exact u3 j w hj
   ·cases hj
 ·rename_i s off m' sz' f
  split at h<;>try cases h
  rename_i bx hbx
  split at h<;>cases h
  rename_i hc
  obtain⟨rfl,hl⟩:=hc
  rw[Rep] at hy
  obtain⟨b,cap,cur,t0,hk,rfl,hcap,hful,hrow,hfit⟩:=hy
  obtain⟨us,u1,u2,u3⟩:=zob hI hk hbx off
  have hul:=zr u1
  have hul2:(us.take (m*sz')).length=m*sz':=by simp at hul⊢;omega
  refine⟨us.take (m*sz'),zdz u1 _,fun v hv=>u2 v (List.mem_of_mem_take hv),fun w=>rfl,hul2,fun k hkm=> ?_⟩
  have hkm:k*sz'≤m*sz':=Nat.mul_le_mul_right _ hkm
  refine run_firstCells_some X.w sz' k ⟨b,off,none⟩ m cap ((us.take (m*sz')).take (k*sz')) (by rw[List.length_take];omega) (fun j w hj=> ?_)
  rw[zfh]
  rw[List.take_take,List.getElem?_take] at hj
  split at hj
  ·exact u3 j w hj
  ·cases hj
 ·cases h
def qha (P:Program)(σ:St)(t:TypeId)(x y:AV):Option (AV×St):=
 match P.underlying t,x with
 | some (.slice e),.bsl s off n sz _=>match P.info? e,σ.boxes[s]?,z9a σ sz y with
  | some i,some (t0,cells),some (m,ds)=>
   if i.size=sz∧cells.isEmpty=false∧off+Nat.min m n*sz≤cells.length then
    some (.raw (.int .i64 (Nat.min m n:Nat)),{σ with boxes:=σ.boxes.set s (t0,cells.take off++ds.take (Nat.min m n*sz)++cells.drop (off+Nat.min m n*sz))})
   else none
  |_,_,_=>none
 |_,_=>none
theorem z2v {IT:IterP} (hIT:ITMono IT) {P:Program} {X:Cx} {σ σ':St} {t tx ty:TypeId} {x y a:AV} {v u:Value} (h:qha P σ t x y=some (a,σ'))(hx:Rep IT X x v)(hy:Rep IT X y u)(hI:Inv IT σ X):
 ∃r X',(Builtin.copy_ #[t,tx] ty #[v,u]).run P X.w= .ok r X'.w∧Ext X X'∧Inv IT σ' X'∧Rep IT X' a r:=by
 unfold qha at h
 split at h<;>try cases h
 rename_i e s off n sz f hu
 split at h<;>try cases h
 rename_i i t0 cells m ds hi hbx hsrc
 split at h<;>cases h
 rename_i hc
 obtain⟨rfl,hne,hfit2⟩:=hc
 have hne:cells≠[]:=fun e=>by rw[e] at hne;simp at hne
 rw[Rep] at hx
 obtain⟨b,cap,cur,t1,hk,rfl,hcap,hful,hrow,hfit⟩:=hx
 obtain⟨us,u1,u2,u3,u4,u5⟩:=zzt (P:=P) hsrc hy hI
 obtain⟨vs,zs,k1,k2,k3⟩:=hI.box s b t0 cells hk hbx
 have hkl:=zr k2
 generalize hkk:Nat.min m n=k at*
 have hkm:k≤m:=by rw[←hkk];exact Nat.min_le_left _ _
 have hkms:k*i.size≤m*i.size:=Nat.mul_le_mul_right _ hkm
 have hlen:(us.take (k*i.size)).length=k*i.size:=by rw[List.length_take];omega
 have hst:=run_storeCells_at P b off t0 (us.take (k*i.size)) 0 (vs++zs).toArray X.w k1 (by simp;omega) (fun v hv=>u2 v (List.mem_of_mem_take hv))
 have hrow2:(vs++zs).toArray.toList.take (off+0)++us.take (k*i.size)++(vs++zs).toArray.toList.drop (off+0+(us.take (k*i.size)).length)=(vs.take off++us.take (k*i.size)++vs.drop (off+k*i.size))++zs:=by
  simp only[Nat.add_zero,hlen]
  rw[List.take_append_of_le_length (by omega),List.drop_append_of_le_length (by omega),List.append_assoc,List.append_assoc,List.append_assoc]
 rw[hrow2] at hst
 have hrun:(Builtin.copy_ #[t,tx] ty #[.slice (some ⟨b,off,none⟩) n cap,u]).run P X.w= .ok (goInt k) (X.w.setRow b (vs.take off++us.take (k*i.size)++vs.drop (off+k*i.size)++zs).toArray):=by
  simp[Builtin.copy_,run_underlying hu,sizeOf,typeInfo,program,Sem.run,hi,u3,hkk,u5 k hkm,hst]
 obtain⟨e1,e2⟩:=zmt hIT hI (cs':=cells.take off++ds.take (k*i.size)++cells.drop (off+k*i.size)) (vs':=vs.take off++us.take (k*i.size)++vs.drop (off+k*i.size)) (zs:=zs) hk hbx hne
  (fun cur t f hc=>by rw[k1] at hc;cases hc;simp;omega) (zbn (zbn (zdz k2 _) (zdz u1 _)) (zgo k2 _))
  (fun v hv=>by
   simp only[List.mem_append] at hv
   rcases hv with(hv|hv)|hv
   ·exact k3 v (List.mem_of_mem_take hv)
   ·exact u2 v (List.mem_of_mem_take hv)
   ·exact k3 v (List.mem_of_mem_drop hv))
 exact⟨_,_,hrun,e1,e2,by rw[Rep];rfl⟩
def z4i (P:Program)(σ:St)(t:TypeId)(x:AV):Option (AV×St):=
 match P.underlying t,x with
 | some (.slice e),.bsl s off n sz _=>match P.info? e,σ.boxes[s]? with
  | some i,some (t0,cells)=>match i.zero with
   |some z=>if i.size=sz∧z.cells.size=sz∧cells.isEmpty=false∧off≤cells.length∧0<n∧z.cells.toList.all (·.oneCell')=true then some (.tup [],{σ with boxes:=σ.boxes.set s (t0,cells.take off)}) else none
   |none=>none
  |_,_=>none
 |_,_=>none
theorem z0a {IT:IterP} (hIT:ITMono IT) {P:Program} {X:Cx} {σ σ':St} {t ty:TypeId} {x a:AV} {v:Value} (h:z4i P σ t x=some (a,σ'))(hx:Rep IT X x v)(hI:Inv IT σ X):
 ∃r X',(Builtin.clear_ #[t] ty #[v]).run P X.w= .ok r X'.w∧Ext X X'∧Inv IT σ' X'∧Rep IT X' a r:=by
 unfold z4i at h
 split at h<;>try cases h
 rename_i e s off n sz f hu
 split at h<;>try cases h
 rename_i i t0 cells hi hbx
 split at h<;>try cases h
 rename_i z hz
 split at h<;>cases h
 rename_i hc
 obtain⟨rfl,hzs,hne,hoff,hn,h1z⟩:=hc
 have hne:cells≠[]:=fun e=>by rw[e] at hne;simp at hne
 rw[Rep] at hx
 obtain⟨b,cap,cur,t1,hk,rfl,hcap,hful,hrow,hfit⟩:=hx
 obtain⟨vs,zs,k1,k2,k3⟩:=hI.box s b t0 cells hk hbx
 rw[k1] at hrow
 cases hrow
 have hkl:=zr k2
 have hcs:n*i.size≤cap*i.size:=Nat.mul_le_mul_right _ hcap
 simp only[List.size_toArray,List.length_append] at hfit
 obtain⟨Z,hZ⟩: ∃Z,Z=(Builtin.zeroCells z.cells n).toList:=⟨_,rfl⟩
 have hZl:Z.length=n*i.size:=by rw[hZ,Array.length_toList,size_zeroCells,hzs]
 rcases Nat.eq_zero_or_pos i.size with h0|h0
 ·have hZ0:Z=[]:=List.length_eq_zero_iff.1 (by rw[hZl,h0,Nat.mul_zero])
  obtain⟨m,rfl⟩: ∃m,n=m+1:=⟨n-1,by omega⟩
  have hrun:(Builtin.clear_ #[t] ty #[.slice (some ⟨b,off,none⟩) (m+1) cap]).run P X.w= .ok (.tuple #[]) X.w:=by
   simp[Builtin.clear_,run_underlying hu,zeroValue,typeInfo,program,Sem.run,hi,hz,←hZ,hZ0,storeCells]
  have hset:X.w.setRow b (vs.take off++(vs.drop off++zs)).toArray=X.w:=by
   rw[←List.append_assoc,List.take_append_drop]
   exact setRow_self _ _ _ _ _ k1
  obtain⟨e1,e2⟩:=zmt hIT hI (cs':=cells.take off) (vs':=vs.take off) (zs:=vs.drop off++zs) hk hbx hne (fun cur t f hc=>by rw[k1] at hc;cases hc;simp;omega) (zdz k2 _) (fun v hv=>k3 v (List.mem_of_mem_take hv))
  rw[hset] at e1 e2
  exact⟨_,_,hrun,e1,e2,⟨[],rfl,rfl⟩⟩
 have hone: ∀v∈Z,v.oneCell'=true:=fun v hv=>by
  rw[hZ] at hv
  unfold Builtin.zeroCells at hv
  rw[Array.mem_toList_iff,Array.mem_map] at hv
  obtain⟨j,_,rfl⟩:=hv
  have hm:j%z.cells.size<z.cells.size:=Nat.mod_lt _ (by omega)
  rw[getElem!_pos z.cells _ hm]
  exact List.all_eq_true.1 h1z _ (Array.mem_toList_iff.2 (Array.getElem_mem _))
 have hst:=run_storeCells_at P b off t0 Z 0 (vs++zs).toArray X.w k1 (by simp;omega) hone
 have hrow2:(vs++zs).toArray.toList.take (off+0)++Z++(vs++zs).toArray.toList.drop (off+0+Z.length)=vs.take off++(Z++(vs++zs).drop (off+Z.length)):=by
  simp only[Nat.add_zero]
  rw[List.take_append_of_le_length (by omega),List.append_assoc]
 rw[hrow2] at hst
 obtain⟨m,rfl⟩: ∃m,n=m+1:=⟨n-1,by omega⟩
 have hrun:(Builtin.clear_ #[t] ty #[.slice (some ⟨b,off,none⟩) (m+1) cap]).run P X.w= .ok (.tuple #[]) (X.w.setRow b (vs.take off++(Z++(vs++zs).drop (off+Z.length))).toArray):=by
  simp[Builtin.clear_,run_underlying hu,zeroValue,typeInfo,program,Sem.run,hi,hz,←hZ,hst]
 obtain⟨e1,e2⟩:=zmt hIT hI (cs':=cells.take off) (vs':=vs.take off) (zs:=Z++(vs++zs).drop (off+Z.length)) hk hbx hne (fun cur t f hc=>by rw[k1] at hc;cases hc;simp;omega) (zdz k2 _) (fun v hv=>k3 v (List.mem_of_mem_take hv))
 exact⟨_,_,hrun,e1,e2,⟨[],rfl,rfl⟩⟩
theorem z0b (z:List Value)(d:Value): ∀n:Nat,(List.range (n*z.length)).map (fun i=>z[i%z.length]?.getD d)=(List.replicate n z).flatten
 |0=>by simp
 | n+1=>by
  rw[Nat.add_mul,Nat.one_mul,List.range_add,List.map_append,z0b z d n,List.replicate_succ',List.flatten_append]
  congr 1
  simp only[List.flatten_cons,List.flatten_nil,List.append_nil]
  apply List.ext_getElem?
  intro j
  rcases Nat.lt_or_ge j z.length with hj|hj
  ·simp[hj,Nat.add_mod,Nat.mod_eq_of_lt hj]
  ·simp[hj]
def z2i (v:Value):AV:=zcv (zih v)
theorem zuu {IT:IterP} (hIT:ITMono IT) {X:Cx}: ∀l:List Value,zbk IT X (l.map z2i) l
 |[]=>rfl
 |v::l=>⟨v,l,rfl,zhh (X:=X) (Y:=X) hIT rfl rfl _ _ (.inr rfl) (ziq v),zuu hIT l⟩
def z5s (P:Program)(σ:St)(t:TypeId):AV→AV→Option (AV×St)
 | .raw (.int _ l),.raw (.int _ c)=>match P.underlying t with
  | some (.slice e)=>match P.info? e with
   | some i=>match i.zero with
    | some z=>if l=c∧0≤l∧l≤9223372036854775807∧(i.bytes:Int)*l≤281474976710656∧z.cells.toList.all (·.oneCell')=true∧z.cells.size=i.size then
     some (.bsl σ.boxes.length 0 l.toNat i.size true,{σ with boxes:=σ.boxes++[(e,((List.replicate l.toNat z.cells.toList).flatten).map z2i)]}) else none
    |none=>none
   |none=>none
  |_=>none
 |_,_=>none
theorem zzf {IT:IterP} (hIT:ITMono IT) {P:Program} {X:Cx} {σ σ':St} {t:TypeId} {x y a:AV} {v u:Value} (h:z5s P σ t x y=some (a,σ'))(hx:Rep IT X x v)(hy:Rep IT X y u)(hI:Inv IT σ X):
 ∃r X',(Instr.makeSlice t v u).run P X.w= .ok r X'.w∧Ext X X'∧Inv IT σ' X'∧Rep IT X' a r:=by
 unfold z5s at h
 split at h<;>try cases h
 rename_i k1 l k2 c
 split at h<;>try cases h
 rename_i e hu
 split at h<;>try cases h
 rename_i i hi
 split at h<;>try cases h
 rename_i z hz
 split at h<;>cases h
 rename_i hc
 obtain⟨rfl,h0,h63,hb,h1,hzs⟩:=hc
 rw[Rep] at hx hy
 subst hx hy
 have hrun:=run_make (P:=P) X.w t e i z hu hi hz k1 k2 l l h0 (Int.le_refl _) hb h63
 have hcells:madeCells z.cells (l.toNat*i.size)=((List.replicate l.toNat z.cells.toList).flatten).toArray:=by
  apply Array.ext'
  have:=z0b z.cells.toList default l.toNat
  simp only[Array.length_toList] at this
  rw[←this,←hzs]
  simp only[madeCells,Array.toList_map,Array.toList_range]
  apply List.map_congr_left
  intro j hj
  simp[getElem!_def,Array.getElem?_toList]
  split<;>simp_all
 have hone: ∀v∈(List.replicate l.toNat z.cells.toList).flatten,v.oneCell'=true:=fun v hv=>by
  obtain⟨q,h2,h3⟩:=List.mem_flatten.1 hv
  rw[List.eq_of_mem_replicate h2] at h3
  exact List.all_eq_true.1 h1 _ h3
 obtain⟨X',x1,x2,x3,x4⟩:=zso hIT hI (t:=e) (cs:=((List.replicate l.toNat z.cells.toList).flatten).map z2i) (vs:=(List.replicate l.toNat z.cells.toList).flatten) (zuu hIT _) hone
 refine⟨_,X',(by rw[x1,←hcells];exact hrun),x2,x3,?_⟩
 ·obtain⟨b,hb1,hb2⟩: ∃b,X'.κ[σ.boxes.length]? =some b∧Value.pointer (some ⟨X.w.heap.size,0,none⟩)= .pointer (some ⟨b,0,none⟩):=x4
  have hb3:b=X.w.heap.size:=by simp at hb2;exact hb2.symm
  subst hb3
  show Bsl X' _ _ _ _ _ _
  refine⟨_,_,((List.replicate l.toNat z.cells.toList).flatten).toArray,e,hb1,rfl,Nat.le_refl _,fun _=>rfl,?_,?_⟩
  ·rw[x1];exact zeq _ _ _ rfl
  ·rw[←hcells,size_madeCells,Nat.zero_add]
   exact Nat.le_refl _
end Go.Ab
