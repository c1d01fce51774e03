import Derived.Test.YtnoccnalocdldaaDoorZdE
import Derived.Lib.FrozenHead2
set_option linter.all false
namespace Go.Ab
open Go Go.RowKit Go.Fwd
def zkw:AV→Nat→Option Nat
 | .raw (.int k n),y=>if 0≤n∧n≤y then some n.toNat else none
 |_,_=>none
theorem zgl {IT:IterP} {P:Program} {X:Cx} {x:AV} {v:Value} {y y' n:Nat} {c:BoundsCode} (h:zkw x y=some n)(hx:Rep IT X x v)(hy:y≤y'):(Instr.sliceBound v y' c).run P X.w= .ok n X.w∧n≤y:=by
 unfold zkw at h
 split at h<;>try cases h
 rename_i k i
 split at h<;>cases h
 rename_i hc
 rw[Rep] at hx;subst hx
 refine⟨?_,by omega⟩
 have:0≤i∧i≤(y':Int):=⟨hc.1,by have:=hc.2;omega⟩
 simp only[Instr.sliceBound,asIntOf,Sem.run_bind,Sem.run_pure,Result.andThen_ok,if_pos this]
def zin (n:Nat)(lo hi mx:Option AV):Option (Nat×Nat×Bool):=
 match mx with
 | some m=>match hi with
  | some h=>match zkw m n with
   | some m=>match zkw h m with
    | some h=>match lo with
     |some l=>match zkw l h with|some l=>some (l,h,m==h)|none=>none
     |none=>some (0,h,m==h)
    |none=>none
   |none=>none
  |none=>none
 | none=>
  match(match hi with|some h=>zkw h n|none=>some n) with
  | some h=>match lo with
   |some l=>match zkw l h with|some l=>some (l,h,false)|none=>none
   |none=>some (0,h,false)
  |none=>none
def z9k (IT:IterP)(X:Cx):Option AV→Option Value→Prop
 |none,v=>v=none
 |some a,v=> ∃u,v=some u∧Rep IT X a u
theorem zjo {IT:IterP} {P:Program} {X:Cx} {n cap:Nat} {lo hi mx:Option AV} {l h:Nat} {f:Bool} {lo' hi' mx':Option Value} (hb:zin n lo hi mx=some (l,h,f))(hl:z9k IT X lo lo')(hh:z9k IT X hi hi')(hm:z9k IT X mx mx')
 (hc:n≤cap): ∃m,(Instr.sliceBounds true n cap lo' hi' mx').run P X.w= .ok (l,h,m) X.w∧l≤h∧h≤n∧h≤m∧m≤cap∧(f=true→m=h)∧(mx=none→m=cap):=by
 unfold zin at hb
 cases mx with
 | some am=>
  obtain⟨m',rfl,hm⟩:=hm
  cases hi with
  |none=>simp at hb
  | some ah=>
   obtain⟨h',rfl,hh⟩:=hh
   simp only at hb
   split at hb<;>try cases hb
   rename_i m em
   split at hb<;>try cases hb
   rename_i hv eh
   obtain⟨r1,q1⟩:=zgl (P:=P) (c:= .slice3Acap) em hm hc
   obtain⟨r2,q2⟩:=zgl (P:=P) (c:= .slice3B) eh hh (Nat.le_refl m)
   cases lo with
   | none=>
    cases hl
    simp at hb
    obtain⟨rfl,rfl,rfl⟩:=hb
    exact⟨m,by simp[Instr.sliceBounds,r1,r2],by omega,by omega,by omega,by omega,by simp,by simp⟩
   | some al=>
    obtain⟨l',rfl,hl⟩:=hl
    simp only at hb
    split at hb<;>try cases hb
    rename_i lv el
    obtain⟨r3,q3⟩:=zgl (P:=P) (c:= .slice3C) el hl (Nat.le_refl _)
    exact⟨m,by simp[Instr.sliceBounds,r1,r2,r3],by omega,by omega,by omega,by omega,by simp,by simp⟩
 | none=>
  cases hm
  have hhi: ∀hv,(match hi with|some h=>zkw h n|none=>some n)=some hv→((match hi',(none:Option Value) with|some v,some _=>Instr.sliceBound v cap .slice3B|some v,none=>Instr.sliceBound v cap .sliceAcap|none,none=>pure n|none,some _=>stuck "Slice: max without high" :Sem Nat).run P X.w= .ok hv X.w)∧hv≤n:=fun hv e=>by
   cases hi with
   |none=>cases hh;simp at e;subst e;exact⟨by simp,Nat.le_refl _⟩
   | some ah=>
    obtain⟨h',rfl,hh⟩:=hh
    exact zgl e hh hc
  simp only at hb
  split at hb<;>try cases hb
  rename_i hv eh
  obtain⟨r2,q2⟩:=hhi hv eh
  cases lo with
  | none=>
   cases hl
   simp at hb
   obtain⟨rfl,rfl,rfl⟩:=hb
   refine⟨cap,?_,by omega,by omega,by omega,by omega,by simp,by simp⟩
   cases hi'<;>simp at r2<;>simp[Instr.sliceBounds,r2]
  | some al=>
   obtain⟨l',rfl,hl⟩:=hl
   simp only at hb
   split at hb<;>try cases hb
   rename_i lv el
   obtain⟨r3,q3⟩:=zgl (P:=P) (c:= .sliceB) el hl (Nat.le_refl _)
   refine⟨cap,?_,by omega,by omega,by omega,by omega,by simp,by simp⟩
   cases hi'<;>simp at r2<;>simp[Instr.sliceBounds,r2,r3]
def zqi (P:Program)(t:TypeId)(x:AV)(lo hi mx:Option AV):Option AV:=
 match P.underlying t,x with
 | some (.slice e),.list n cs st=>match zdk P e,zin n lo hi mx with
  | some sz,some (l,h,f)=>
   if cs.length=n*sz then
    some (.list (h-l) ((cs.drop (l*sz)).take ((h-l)*sz))
     (if f then .full else if l=0∧h=n∧mx.isNone then st else if h=n∧mx.isNone∧st= .full then .full else .none))
   else none
  |_,_=>none
 | some (.slice e),.bsl s off n sz f=>match zdk P e,zin n lo hi mx with
  | some sz',some (l,h,g)=>
   if sz'=sz then
    (if l<h then some (.bsl s (off+l*sz) (h-l) sz (g||(f&&h==n&&mx.isNone))) else some (.list 0 [] (if g||(f&&h==n&&mx.isNone) then .full else .none)))
   else none
  |_,_=>none
 |_,_=>none
theorem zpr {IT:IterP} {P:Program} {X:Cx} {t e:TypeId} {n:Nat} {cs:List AV} {st:Room} {a:AV} {v:Value} {lo hi mx:Option AV} {lo' hi' mx':Option Value} (hu:P.underlying t=some (.slice e))(h:(match zdk P e,zin n lo hi mx with
 | some sz,some (l,h,f)=>
  if cs.length=n*sz then
   some (AV.list (h-l) ((cs.drop (l*sz)).take ((h-l)*sz))
    (if f then .full else if l=0∧h=n∧mx.isNone then st else if h=n∧mx.isNone∧st= .full then .full else .none))
  else none
 |_,_=>none)=some a) (hx:Rep IT X (.list n cs st) v) (hl:z9k IT X lo lo') (hh:z9k IT X hi hi') (hm:z9k IT X mx mx'):
 ∃u,(Instr.sliceAt t v lo' hi' mx').run P X.w= .ok u X.w∧Rep IT X a u:=by
 split at h<;>try cases h
 rename_i sz l hv f hsz hb
 split at h<;>try cases h
 rename_i hlen
 rw[Rep] at hx
 obtain⟨ad,cap,rfl,⟨hcap,hnil⟩,hc,hst⟩:=hx
 obtain⟨m,r,b1,b2,b3,b4,b5,b6⟩:=zjo (P:=P) hb hl hh hm hcap
 refine⟨.slice (if m=l then ad else ad.map (·.add (l*sz))) (hv-l) (m-l),?_,?_⟩
 ·simp[Instr.sliceAt,Instr.slice,underlying,program,Sem.run,hu,r,zea hsz]
 ·rw [Rep]
  refine⟨_,_,rfl,⟨by omega,fun hn=> ?_⟩,?_,?_⟩
  ·split at hn
   ·omega
   ·have:=hnil (by simpa using hn);omega
  ·rcases hc with rfl|⟨b,o,rfl,hat⟩
   ·left;simp
   ·by_cases hml:m=l
    ·left
     have:hv-l=0:=by omega
     simp[this]
    ·right
     rw[if_neg hml]
     exact⟨b,o+l*sz,by rw[Option.map_some,zfh],zvm _ (zxv _ hat)⟩
  ·split
   ·trivial
   ·rename_i hs
    split at hs
    ·rename_i hf;have:=b5 hf;omega
    ·split at hs
     ·rename_i h1 h2
      obtain⟨rfl,rfl,hmx⟩:=h2
      subst hs
      have:=b6 (by simpa using hmx)
      simp only at hst;omega
     ·split at hs
      ·rename_i h3
       obtain⟨rfl,hmx,rfl⟩:=h3
       have:=b6 (by simpa using hmx)
       simp only at hst;omega
      ·cases hs
   ·rename_i s hs
    split at hs
    ·cases hs
    ·split at hs
     ·rename_i h1 h2
      obtain⟨rfl,rfl,hmx⟩:=h2
      subst hs
      obtain⟨L,k1,k2,k3⟩:=hst
      have e0:(cs.drop (0*sz)).take ((hv-0)*sz)=cs:=by
       rw[Nat.zero_mul,List.drop_zero,Nat.sub_zero,←hlen,List.take_length]
      rw[e0]
      refine⟨L,k1,k2,fun e'=> ?_⟩
      obtain⟨r',k4,rfl,rfl,k6⟩:=k3 e'
      have hmc:=b6 (by simpa using hmx)
      refine⟨r',k4,?_,by omega,by simpa using k6⟩
      split
      ·rfl
      ·simp[Addr.add]
     ·split at hs
      ·cases hs
      ·cases hs
theorem z0d {IT:IterP} {P:Program} {X:Cx} {t:TypeId} {x a:AV} {v:Value} {lo hi mx:Option AV} {lo' hi' mx':Option Value} (h:zqi P t x lo hi mx=some a)(hx:Rep IT X x v)(hl:z9k IT X lo lo')(hh:z9k IT X hi hi')(hm:z9k IT X mx mx'):
 ∃u,(Instr.sliceAt t v lo' hi' mx').run P X.w= .ok u X.w∧Rep IT X a u:=by
 unfold zqi at h
 split at h<;>try cases h
 ·exact zpr ‹_› h hx hl hh hm
 rename_i e s off n sz f hu
 split at h<;>try cases h
 rename_i sz' l hv g hsz hb
 split at h<;>try cases h
 rename_i hlen
 subst hlen
 rw[Rep] at hx
 obtain⟨b,cap,cur,t0,hk,rfl,hcap,hful,hrow,hfit⟩:=hx
 obtain⟨m,r,b1,b2,b3,b4,b5,b6⟩:=zjo (P:=P) hb hl hh hm hcap
 have hrun:(Instr.sliceAt t (.slice (some ⟨b,off,none⟩) n cap) lo' hi' mx').run P X.w= .ok (.slice (if m=l then some ⟨b,off,none⟩ else some ((⟨b,off,none⟩:Addr).add (l*sz'))) (hv-l) (m-l)) X.w:=by
  simp only[Instr.sliceAt,Instr.slice,underlying,program,Sem.run,hu,r,zea hsz,Sem.run_bind,Result.andThen_ok,Sem.run_pure]
  split<;>rfl
 have hg:(g||(f&&hv==n&&mx.isNone))=true→m=hv:=fun hh2=>by
  rw[Bool.or_eq_true] at hh2
  rcases hh2 with h2|h2
  ·exact b5 h2
  ·simp only[Bool.and_eq_true,beq_iff_eq,Option.isNone_iff_eq_none] at h2
   obtain⟨⟨h3,h4⟩,h5⟩:=h2
   rw[b6 h5,hful h3,h4]
 refine⟨_,hrun,?_⟩
 split at h
 ·rename_i hlt
  cases h
  rw[Rep]
  refine⟨b,m-l,cur,t0,hk,by rw[if_neg (by omega),zfh],by omega,fun e=>by have:=hg e;omega,hrow,?_⟩
  have h1:off+m*sz'≤cur.size:=Nat.le_trans (Nat.add_le_add_left (Nat.mul_le_mul_right _ b4) _) hfit
  have h2:l*sz'+(m-l)*sz'=m*sz':=by rw[←Nat.add_mul];congr 1;omega
  omega
 ·rename_i hlt
  cases h
  have hlv:hv=l:=by omega
  subst hlv
  rw[Rep]
  refine⟨_,m-hv,by rw[Nat.sub_self],⟨by omega,fun hn=>by split at hn<;>cases hn⟩,.inl rfl,?_⟩
  split
  ·trivial
  ·rename_i hs
   split at hs
   ·rename_i hg2;have:=hg hg2;omega
   ·cases hs
  ·rename_i s0 hs
   split at hs<;>cases hs
def qei (P:Program)(t:TypeId):AV→Option AV
 | .list n _ _=>match P.underlying t with|some (.slice _)=>some (.raw (.int .i64 n))|_=>none
 | .bsl _ _ n _ _=>match P.underlying t with|some (.slice _)=>some (.raw (.int .i64 n))|_=>none
 |_=>none
theorem z7e {IT:IterP} {P:Program} {X:Cx} {t ty:TypeId} {x a:AV} {v:Value} (h:qei P t x=some a)(hx:Rep IT X x v): ∃u,(Builtin.len_ #[t] ty #[v]).run P X.w= .ok u X.w∧Rep IT X a u:=by
 cases x with
 | list n cs st=>
  simp only[qei] at h
  split at h<;>cases h
  rename_i e hu
  rw[Rep] at hx
  obtain⟨ad,cap,rfl,_⟩:=hx
  exact⟨.int .i64 n,by simp[Builtin.len_,underlying,program,Sem.run,hu,goInt],by rw[Rep]⟩
 | bsl s off n sz f=>
  simp only[qei] at h
  split at h<;>cases h
  rename_i e hu
  rw[Rep] at hx
  obtain⟨b,cap,cur,t0,_,rfl,_⟩:=hx
  exact⟨.int .i64 n,by simp[Builtin.len_,underlying,program,Sem.run,hu,goInt],by rw[Rep]⟩
 |_=>cases h
def zfm (P:Program)(σ:St)(t:TypeId)(x y:AV):Option (AV×St):=
 match P.underlying t,x,y with
 | some (.slice e),.list n cs st,.list m ds _=>match P.info? e with
  | some i=>match i.zero with
   | some z=>
    if m=0∧ds=[] then some (.list n cs st,σ)
    else if cs.length=n*i.size∧ds.length=m*i.size∧0<m∧z.cells.size=i.size∧0<i.size∧n+m≤maxLen∧(n+m)*i.bytes≤140737488355328 then
     match st with
     | .none=>none
     | .full=>some (.list (n+m) (cs++ds) (.own σ.lens.length),{σ with lens:=σ.lens++[(n+m)*i.size],elems:=σ.elems++[e]})
     | .own s=>if σ.lens[s]? =some cs.length∧σ.elems[s]? =some e∧0<n then some (.list (n+m) (cs++ds) (.own s),{σ with lens:=σ.lens.set s ((n+m)*i.size)}) else none
    else none
   |none=>none
  |none=>none
 |_,_,_=>none
theorem zpa {IT:IterP} (hIT:ITMono IT) {σ:St} {X:Cx} (hI:Inv IT σ X) {e:TypeId} {vs zs:List Value} {cs:List AV} (hr:zbk IT X cs vs)(h1: ∀v∈vs,v.oneCell'=true)(size cap:Nat)(hsz:0<size)(hcap:cap≤maxLen)(hlen:(vs++zs).length=cap*size)
 {β':List Row} {lens':List Nat} {elems':List TypeId} (hlens: ∀(s L:Nat),X.lens[s]? =some L→ ∃L',lens'[s]? =some L'∧L≤L'∧(L'=L→β'[s]? =X.β[s]?)) (hbl:β'.length=lens'.length) (hel:β'.map (·.elem)=elems')
 (hrow: ∀(s:Nat) (r:Row) (L:Nat),β'[s]? =some r→lens'[s]? =some L→(X.β[s]? =some r∧X.lens[s]? =some L)∨(r=⟨X.w.heap.size,e,size,cap⟩∧L=vs.length)) (hnd:(β'.map (·.block)).Nodup):
 ∃X',X'.w=X.w.drew.alloc (.cells (vs++zs).toArray e)∧Ext X X'∧Inv IT {σ with lens:=lens',elems:=elems'} X'∧At IT X' cs X.w.heap.size 0∧X'.β=β'∧X'.lens=lens':=by
 have hnw:(X.w.drew.alloc (.cells (vs++zs).toArray e)).heap[X.w.heap.size]? =some (.cells (vs++zs).toArray e (0,0)):=heap_alloc_new X.w.drew _
 have hmem: ∀r∈β',r∈X.β∨r.block=X.w.heap.size:=fun r hr'=>by
  obtain⟨s,hs,rfl⟩:=List.mem_iff_getElem.1 hr'
  rcases hrow s _ (lens'[s]'(by omega)) (List.getElem?_eq_getElem hs) (List.getElem?_eq_getElem _) with h|⟨h,_⟩
  ·exact .inl (List.mem_of_getElem? h.1)
  ·exact .inr (by rw[h])
 have hE:Ext X {F:=fun b i=>X.F b i∨(b=X.w.heap.size∧i<vs.length),κ:=X.κ,β:=β',lens:=lens',w:=X.w.drew.alloc (.cells (vs++zs).toArray e),O:=X.O,C:=X.C}:={
  os:=rfl,tape:=rfl,output:=rfl,size:=by simp,drawn:=Nat.le_succ _
  F:=fun _ _ h=> .inl h
  cell:=fun b i hf=>World.cell?_of_block (heap_alloc_old X.w.drew _ _ (hI.Flt hf))
  κ:=fun _ _ h=>h
  lens:=hlens
  blk:=fun s b hs cur t f h=>⟨cur,(heap_alloc_old X.w.drew _ _ (hI.κlt (List.mem_of_getElem? hs))).trans h,rfl⟩
  szs:=Szs.old fun k hk=>heap_alloc_old X.w.drew _ _ hk
  frame:=fun b hb _ _=>heap_alloc_old X.w.drew _ _ hb
  κnew:=fun _ h=> .inl h
  βnew:=fun r hr'=>by
   rcases hmem r hr' with h|h
   ·exact .inl ⟨r,h,rfl⟩
   ·exact .inr (Nat.le_of_eq h.symm)
  O:=rfl
  C:=rfl
  Fnew:=fun b i h=>by
   rcases h with h|⟨h,_⟩
   ·exact .inl h
   ·exact .inr (.inl (Nat.le_of_eq h.symm))}
 refine⟨_,rfl,hE,?_,?_,rfl,rfl⟩
 ·refine {lens:=rfl,elems:=hel,κlen:=hI.κlen,κnd:=hI.κnd,box:= ?_,κF:= ?_,βlen:=hbl,βnd:=hnd,βκ:= ?_,row:= ?_,Ok:= ?_,Fcell:= ?_}
  ·intro s b t' c hs hb
   obtain⟨us,zs',u1,u2,u3⟩:=hI.box s b t' c hs hb
   exact⟨us,zs',(heap_alloc_old X.w.drew _ _ (hI.κlt (List.mem_of_getElem? hs))).trans u1,zaw hIT hE _ _ u2,u3⟩
  ·intro s b t' c hs hb hc o hf
   rcases hf with hf|⟨e,_⟩
   ·exact hI.κF s b t' c hs hb hc o hf
   ·have:=hI.κlt (List.mem_of_getElem? hs);omega
  ·intro r hr' hm
   rcases hmem r hr' with h|h
   ·exact hI.βκ r h hm
   ·have:=hI.κlt hm;omega
  ·intro s r L hr' hL
   rcases hrow s r L hr' hL with⟨k1,k2⟩|⟨rfl,rfl⟩
   ·obtain⟨cur,fz,c1,c2,c3,c4,c5,c6,c7⟩:=hI.row s r L k1 k2
    have hlt:=hI.βlt (List.mem_of_getElem? k1)
    refine⟨cur,fz,(heap_alloc_old X.w.drew _ _ hlt).trans c1,c2,c3,c4,c5,fun o hf=> ?_,c7⟩
    rcases hf with hf|⟨e,_⟩
    ·exact c6 o hf
    ·omega
   ·refine⟨(vs++zs).toArray,(0,0),heap_alloc_new X.w.drew _,by simpa using hlen,hcap,hsz,by simp,fun o hf=> ?_,Nat.zero_le _⟩
    rcases hf with hf|⟨_,hf⟩
    ·have:=hI.Flt hf;simp at this
    ·exact hf
  ·intro b ho
   obtain⟨⟨cs0,t0,f0,h0⟩,h2,h3,h4⟩:=hI.Ok b ho
   have hlt:=hI.Olt ho
   refine⟨⟨cs0,t0,f0,(heap_alloc_old X.w.drew _ _ hlt).trans h0⟩,h2,fun r hr'=> ?_,fun o hf=>hf.elim (h4 o) fun h=>by omega⟩
   rcases hmem r hr' with h|h
   ·exact h3 r h
   ·omega
  ·intro b o hf
   rcases hf with hf|⟨e,hf⟩
   ·obtain⟨v,hv⟩:=hI.Fcell b o hf
    exact⟨v,(hE.cell b o hf).trans hv⟩
   ·subst e
    refine⟨vs[o],?_⟩
    show(X.w.drew.alloc _).cell? _=_
    rw[cell_of_row _ _ _ _ _ _ hnw]
    simp[List.getElem?_append_left hf,hf]
 ·refine zws (fun j hj=> .inr ⟨rfl,by omega⟩) h1 (zaw hIT hE _ _ hr) fun j u hu=> ?_
  show(X.w.drew.alloc _).cell? _=_
  rw[cell_of_row _ _ _ _ _ _ hnw,Nat.zero_add]
  have:=(List.getElem?_eq_some_iff.1 hu).1
  simpa[List.getElem?_append_left this] using hu
theorem zou {IT:IterP} (hIT:ITMono IT) {σ:St} {X:Cx} (hI:Inv IT σ X) {s:Nat} {r:Row} {L:Nat} {us:List Value} {ds:List AV} {cur:Array Value} {fz:Nat×Nat} (hs:X.β[s]? =some r)(hL:X.lens[s]? =some L)
 (hcur:X.w.heap[r.block]? =some (.cells cur r.elem fz)) (hr:zbk IT X ds us) (h1: ∀v∈us,v.oneCell'=true) (hpos:0<us.length) (hfit:L+us.length≤cur.size):
 ∃X',X'.w=X.w.setRow r.block (cur.toList.take L++us++cur.toList.drop (L+us.length)).toArray∧Ext X X'∧Inv IT {σ with lens:=σ.lens.set s (L+us.length)} X'∧At IT X' ds r.block L∧X'.β=X.β∧X'.lens=X.lens.set s (L+us.length):=by
 have hrm:=List.mem_of_getElem? hs
 obtain⟨cur',fz',c1,c2,c3,c4,c5,c6,c7⟩:=hI.row s r L hs hL
 obtain⟨rfl,rfl⟩:cur'=cur∧fz'=fz:=by rw[hcur] at c1;cases c1;exact⟨rfl,rfl⟩
 have hsl:s<X.lens.length:=(List.getElem?_eq_some_iff.1 hL).1
 have hsz:(cur'.toList.take L++us++cur'.toList.drop (L+us.length)).length=cur'.size:=by simp;omega
 have hnew:(X.w.setRow r.block (cur'.toList.take L++us++cur'.toList.drop (L+us.length)).toArray).heap[r.block]? =some (.cells (cur'.toList.take L++us++cur'.toList.drop (L+us.length)).toArray r.elem fz'):=setRow_heap _ _ _ _ _ _ hcur
 have hE:Ext X {F:=fun b i=>X.F b i∨(b=r.block∧i<L+us.length),κ:=X.κ,β:=X.β,lens:=X.lens.set s (L+us.length),w:=X.w.setRow r.block (cur'.toList.take L++us++cur'.toList.drop (L+us.length)).toArray,O:=X.O,C:=X.C}:={
  os:=rfl,tape:=rfl,output:=rfl,size:=by simp,drawn:=(by first|exact Nat.le_refl _|exact Nat.le_succ _)
  F:=fun _ _ h=> .inl h
  cell:=fun b i hf=>by
   show(X.w.setRow _ _).cell? _=_
   by_cases e:b=r.block
   ·subst e
    have:=c6 i hf
    rw[cell_of_row _ _ _ _ _ _ hnew,cell_of_row _ _ _ _ _ _ hcur]
    rw[←Array.getElem?_toList,←Array.getElem?_toList]
    simp only[List.append_assoc]
    rw[List.getElem?_append_left (by simp;omega),List.getElem?_take,if_pos this]
   ·exact cell_setRow_other _ _ _ _ e
  κ:=fun _ _ h=>h
  lens:=fun s' L' h=>by
   by_cases e:s'=s
   ·subst e
    rw[hL] at h;cases h
    exact⟨L+us.length,by simp[hsl],by omega,fun e=>by omega⟩
   ·exact⟨L',by rw[List.getElem?_set_ne (Ne.symm e)];exact h,Nat.le_refl _,fun _=>rfl⟩
  blk:=fun s' b hs' cu t f h=>⟨cu,(setRow_other _ _ _ _ (show b≠r.block from fun e=>hI.βκ r hrm (e▸List.mem_of_getElem? hs'))).trans h,rfl⟩
  szs:=Szs.one r.block (fun k _ e=>setRow_other _ _ _ _ e) fun cs t f h=>by
   rw[hcur] at h
   cases h
   exact⟨_,_,_,hnew,by simpa using hsz⟩
  frame:=fun b _ _ hβ=>setRow_other _ _ _ _ fun e=>hβ r hrm e.symm
  κnew:=fun _ h=> .inl h
  βnew:=fun q h=> .inl ⟨q,h,rfl⟩
  O:=rfl
  C:=rfl
  Fnew:=fun b i h=>by
   rcases h with h|⟨h,_⟩
   ·exact .inl h
   ·exact .inr (.inr (.inl ⟨r,hrm,h.symm⟩))}
 have hother: ∀(s':Nat) (q:Row),X.β[s']? =some q→s'≠s→q.block≠r.block:=fun s' q hq hne e=>hne (by
  have h1:=(List.getElem?_eq_some_iff.1 hq).1
  have h2:=(List.getElem?_eq_some_iff.1 hs).1
  have e1:(X.β.map (·.block))[s']'(by simpa using h1)=q.block:=by simp[(List.getElem?_eq_some_iff.1 hq).2]
  have e2:(X.β.map (·.block))[s]'(by simpa using h2)=r.block:=by simp[(List.getElem?_eq_some_iff.1 hs).2]
  exact(List.getElem_inj hI.βnd).1 (e1.trans (e.trans e2.symm)))
 refine⟨_,rfl,hE,?_,?_,rfl,rfl⟩
 ·refine {lens:=by rw[hI.lens],elems:=hI.elems,κlen:=hI.κlen,κnd:=hI.κnd,box:= ?_,κF:= ?_,βlen:=by simpa using hI.βlen,βnd:=hI.βnd,βκ:=hI.βκ,row:= ?_,Ok:= ?_,Fcell:= ?_}
  ·intro s' b t' c hs' hb
   obtain⟨ws,zs',u1,u2,u3⟩:=hI.box s' b t' c hs' hb
   have hne:b≠r.block:=fun e=>hI.βκ r hrm (e▸List.mem_of_getElem? hs')
   exact⟨ws,zs',(setRow_other _ _ _ _ hne).trans u1,zaw hIT hE _ _ u2,u3⟩
  ·intro s' b t' c hs' hb hc o hf
   rcases hf with hf|⟨e,_⟩
   ·exact hI.κF s' b t' c hs' hb hc o hf
   ·exact hI.βκ r hrm (e▸List.mem_of_getElem? hs')
  ·intro s' q L' hq hL'
   by_cases e:s'=s
   ·subst e
    rw[hs] at hq;cases hq
    have:L'=L+us.length:=by
     have:(X.lens.set s' (L+us.length))[s']? =some L':=hL'
     rw[List.getElem?_set_self hsl] at this;simpa using this.symm
    subst this
    refine⟨_,_,hnew,by simp only[List.size_toArray,hsz];exact c2,c3,c4,by simp only[List.size_toArray,hsz];exact hfit,fun o hf=> ?_,by omega⟩
    rcases hf with hf|⟨_,hf⟩
    ·have:=c6 o hf;omega
    ·exact hf
   ·have hL2:X.lens[s']? =some L':=by
     have:(X.lens.set s (L+us.length))[s']? =some L':=hL'
     rwa[List.getElem?_set_ne (Ne.symm e)] at this
    obtain⟨cu,fz,d1,d2,d3,d4,d5,d6,d7⟩:=hI.row s' q L' hq hL2
    have hne:=hother s' q hq e
    refine⟨cu,fz,(setRow_other _ _ _ _ hne).trans d1,d2,d3,d4,d5,fun o hf=> ?_,d7⟩
    rcases hf with hf|⟨e,_⟩
    ·exact d6 o hf
    ·exact absurd e hne
  ·intro b ho
   obtain⟨⟨cs0,t0,f0,h0⟩,h2,h3,h4⟩:=hI.Ok b ho
   have hne:=h3 r hrm
   exact⟨⟨cs0,t0,f0,(setRow_other _ _ _ _ (Ne.symm hne)).trans h0⟩,h2,h3,fun o hf=>hf.elim (h4 o) fun h=>absurd h.1.symm hne⟩
  ·intro b o hf
   rcases hf with hf|⟨rfl,hf⟩
   ·obtain⟨v,hv⟩:=hI.Fcell b o hf
    exact⟨v,(hE.cell b o hf).trans hv⟩
   ·refine⟨(cur'.toList.take L++us++cur'.toList.drop (L+us.length))[o]'(by omega),?_⟩
    show(X.w.setRow _ _).cell? _=_
    rw[cell_of_row _ _ _ _ _ _ hnew,←Array.getElem?_toList]
    exact List.getElem?_eq_getElem _
 ·refine zws (fun j hj=> .inr ⟨rfl,by omega⟩) h1 (zaw hIT hE _ _ hr) fun j u hu=> ?_
  have hj:=(List.getElem?_eq_some_iff.1 hu).1
  show(X.w.setRow _ _).cell? _=_
  rw[cell_of_row _ _ _ _ _ _ hnew,←Array.getElem?_toList]
  simp only[List.append_assoc]
  rw[List.getElem?_append_right (by simp;omega)]
  have:L+j-(cur'.toList.take L).length=j:=by simp;omega
  rw[this,List.getElem?_append_left hj];exact hu
theorem zkx {IT:IterP} {X:Cx} {b:Nat}: ∀ {cs ds:List AV} {o:Nat},At IT X cs b o→At IT X ds b (o+cs.length)→At IT X (cs++ds) b o
 |[],ds,o,_,h=>by simpa using h
 | c::cs,ds,o,h1,h2=>by
  rw[At] at h1
  rw[List.cons_append,At]
  exact⟨h1.1,zkx h1.2 (by rw[List.length_cons] at h2;rwa[show o+1+cs.length=o+(cs.length+1) by omega])⟩
theorem zfu: ∀(l:List Nat) (s b:Nat),l.Nodup→b∉l→(l.set s b).Nodup
 |[],s,b,_,_=>by simp
 | c::l,0,b,h,hf=>by
  rw[List.nodup_cons] at h
  simp only[List.mem_cons,not_or] at hf
  rw[List.set_cons_zero,List.nodup_cons];exact⟨hf.2,h.2⟩
 | c::l,s+1,b,h,hf=>by
  rw[List.nodup_cons] at h
  simp only[List.mem_cons,not_or] at hf
  rw[List.set_cons_succ,List.nodup_cons]
  refine⟨fun hm=> ?_,zfu l s b h.2 hf.2⟩
  rcases List.mem_or_eq_of_mem_set hm with h'|h'
  ·exact h.1 h'
  ·exact hf.1 h'.symm
theorem zww {IT:IterP} (hIT:ITMono IT) {P:Program} {X:Cx} {σ σ':St} {t ty:TypeId} {x y a:AV} {v u:Value} (h:zfm P σ t x y=some (a,σ'))(hx:Rep IT X x v)(hy:Rep IT X y u)(hI:Inv IT σ X):
 ∃r X',(Builtin.append_ #[t,t] ty #[v,u]).run P X.w= .ok r X'.w∧Ext X X'∧Inv IT σ' X'∧Rep IT X' a r:=by
 unfold zfm at h
 split at h<;>try cases h
 rename_i e n cs st m ds st2 hu
 split at h<;>try cases h
 rename_i i hi
 split at h<;>try cases h
 rename_i z hz
 have hx0:=hx
 rw[Rep] at hx hy
 obtain⟨ad,cap,rfl,⟨hcap,hnil⟩,hc,hst⟩:=hx
 obtain⟨ad2,cap2,rfl,⟨hcap2,hnil2⟩,hc2,_⟩:=hy
 split at h
 ·rename_i hm
  obtain⟨rfl,rfl⟩:=hm
  cases h
  refine⟨.slice ad n cap,X,?_,Ext.refl X,hI,hx0⟩
  have hn:n+0≤cap:=by omega
  cases ad<;>cases ad2<;>simp[Builtin.append_,run_underlying hu,sizeOf,typeInfo,program,Sem.run,hi,Builtin.lenOf,Builtin.firstCells,loadCells,loadCellsFrom,storeCells,hcap]
 ·split at h<;>try cases h
  rename_i hcond
  obtain⟨q1,q2,q3,q4,q5,q6,q7⟩:=hcond
  have hds:ds≠[]:=fun e=>by
   rw[e] at q2
   have:=Nat.mul_pos q3 q5
   simp at q2;omega
  obtain⟨b2,o2,rfl,hat2⟩:=hc2.resolve_left hds
  obtain⟨us,u1,u2,u3⟩:=zft hat2
  have hul:=zr u1
  have hnews: ∀(j:Nat) w,us[j]? =some w→X.w.cell? ((⟨b2,o2,none⟩:Addr).add j)=some w:=fun j w hj=>by rw[zfh];exact u3 j w hj
  have hup:0<us.length:=by have:=Nat.mul_pos q3 q5;omega
  have hml:((n+m:Nat):Int)≤9223372036854775807:=by unfold maxLen at q6;omega
  have hnm:(n+m)*i.size=n*i.size+m*i.size:=Nat.add_mul _ _ _
  -- the old cells
  obtain⟨vs,v1,v2,v3⟩: ∃vs:List Value,zbk IT X cs vs∧(∀w∈vs,w.oneCell'=true)∧ ∀b o,ad=some ⟨b,o,none⟩→ ∀(j:Nat) w,vs[j]? =some w→X.w.cell? ((⟨b,o,none⟩:Addr).add j)=some w:=by
   rcases hc with rfl|⟨b,o,rfl,hat⟩
   ·exact⟨[],by rw[zbk],by simp,by simp⟩
   ·obtain⟨vs,w1,w2,w3⟩:=zft hat
    exact⟨vs,w1,w2,fun b' o' e' j w hj=>by cases e';rw[zfh];exact w3 j w hj⟩
  have hvl:=zr v1
  have hone: ∀w∈vs++us,w.oneCell'=true:=fun w hw=>(List.mem_append.1 hw).elim (v2 w) (u2 w)
  have hz2: ∀c,n+m≤c→(vs++us++(Builtin.zeroCells z.cells (c-(n+m))).toList).length=c*i.size:=fun c hcc=>by
   have:=size_zeroCells z.cells (c-(n+m))
   simp only[List.length_append,Array.length_toList,this,q4,←hvl,←hul,q1,q2,←Nat.add_mul]
   congr 1;omega
  -- where it grows
  have grow: ∀(c0:Nat) (hlt:c0<n+m),c0=cap→ ∃r,(Builtin.append_ #[t,t] ty #[.slice ad n cap,.slice (some ⟨b2,o2,none⟩) m cap2]).run P X.w=
   .ok (.slice (some ⟨X.w.heap.size,0,none⟩) (n+m) r) (X.w.drew.alloc (.cells (vs++us++(Builtin.zeroCells z.cells (r-(n+m))).toList).toArray e))∧n+m≤r∧r≤maxLen:=fun c0 hlt ec=>by
   subst ec
   refine⟨grownCap X.w (n+m) c0 e,?_,grownCap_ge _ _ _ _,grownCap_le_maxLen _ _ _ _ q6⟩
   rcases hc with rfl|⟨b,o,rfl,hat⟩
   ·have hn0:n=0:=by
     have:n*i.size=0:=by simpa using q1.symm
     rcases Nat.mul_eq_zero.1 this with h|h
     ·exact h
     ·omega
    subst hn0
    have hvs:vs=[]:=by rw[zbk] at v1;exact v1
    subst hvs
    cases ad with
    | none=>
     obtain rfl:c0=0:=hnil rfl
     have hr:=run_append_nil (P:=P) X.w t ty e i z hu hi hz ⟨b2,o2,none⟩ m cap2 us (by omega) hnews q3 (by omega) (by simp at q7;omega)
     simp only[Nat.zero_add] at hr⊢
     rw[hr]
     congr 2
     simp
    | some ad=>
     have hr:=run_append_grow (P:=P) X.w t ty e i z hu hi hz ad 0 c0 [] (by simp) (by simp) ⟨b2,o2,none⟩ m cap2 us (by omega) hnews (by omega) (by omega) (growslice_fits hlt q7)
     rw[hr]
     congr 2
     simp
   ·have hr:=run_append_grow (P:=P) X.w t ty e i z hu hi hz ⟨b,o,none⟩ n c0 vs (by omega) (v3 b o rfl) ⟨b2,o2,none⟩ m cap2 us (by omega) hnews (by omega) (by omega) (growslice_fits hlt q7)
    rw[hr]
    congr 2
    simp
  have hlens:X.lens=σ.lens:=hI.lens
  have hbl:=hI.βlen
  have hvu:(vs++us).length=(n+m)*i.size:=by rw[List.length_append,←hvl,←hul];omega
  have hcd:(cs++ds).length=(n+m)*i.size:=by rw[List.length_append];omega
  cases st with
  |none=>cases h
  | full=>
   simp only[Option.some.injEq,Prod.mk.injEq] at h
   obtain⟨rfl,rfl⟩:=h
   simp only at hst;subst hst
   obtain⟨r,g1,g2,g3⟩:=grow cap (by omega) rfl
   obtain⟨X',x1,x2,x3,x4,x5,x6⟩:=zpa hIT hI (e:=e) (zbn v1 u1) hone i.size r q5 g3 (hz2 r g2)
    (β':=X.β++[⟨X.w.heap.size,e,i.size,r⟩]) (lens':=σ.lens++[(cap+m)*i.size]) (elems':=σ.elems++[e])
    (fun s L hs=>⟨L,by rw[←hlens,List.getElem?_append_left (List.getElem?_eq_some_iff.1 hs).1];exact hs,Nat.le_refl _,fun _=>by
     rw[List.getElem?_append_left];rw[hbl];exact(List.getElem?_eq_some_iff.1 hs).1⟩)
    (by simp[hbl,hlens]) (by simp[hI.elems])
    (fun s q L hq hL=>by
     rcases Nat.lt_or_ge s X.β.length with hlt|hge
     ·rw[List.getElem?_append_left hlt] at hq
      rw[←hlens,List.getElem?_append_left (by omega)] at hL
      exact .inl ⟨hq,hL⟩
     ·right
      have h0:s=X.β.length:=by
       have:=(List.getElem?_eq_some_iff.1 hq).1
       simp at this;omega
      subst h0
      rw[←hlens,hbl] at hL
      simp at hq hL
      exact⟨hq.symm,by rw[hvu];exact hL.symm⟩)
    (by
     rw[List.map_append]
     refine List.nodup_append.2 ⟨hI.βnd,by simp,fun a ha b hb e=> ?_⟩
     obtain⟨q,hq,rfl⟩:=List.mem_map.1 ha
     have:=hI.βlt hq
     simp at hb;omega)
   refine⟨_,X',by rw[x1];exact g1,x2,x3,?_⟩
   rw[Rep]
   refine⟨_,_,rfl,⟨g2,fun e=>by cases e⟩,.inr ⟨_,_,rfl,x4⟩,(cap+m)*i.size,?_,by omega,fun _=>⟨⟨X.w.heap.size,e,i.size,r⟩,?_,rfl,rfl,hcd⟩⟩
   ·rw[x6];simp
   ·rw[x5,←hlens,←hbl];simp
  | own s=>
   simp only at h
   split at h<;>try cases h
   rename_i hown
   obtain⟨w1,w2,w3⟩:=hown
   obtain⟨L,k1,k2,k3⟩:=hst
   have hLc:cs.length=L:=by rw[hlens] at k1;rw[k1] at w1;exact(Option.some.inj w1).symm
   obtain⟨r,k4,k5,rfl,k7⟩:=k3 hLc
   subst hLc
   have hsr:r.size=i.size:=by
    have:n*r.size=n*i.size:=by omega
    exact Nat.eq_of_mul_eq_mul_left w3 this
   have hre:r.elem=e:=by
    have h1:(X.β.map (·.elem))[s]? =some e:=by rw[hI.elems];exact w2
    rw[List.getElem?_map,k4] at h1
    simpa using h1
   have hsl:s<X.lens.length:=(List.getElem?_eq_some_iff.1 k1).1
   obtain⟨cur,fz,c1,c2,c3,c4,c5,c6,c7⟩:=hI.row s r cs.length k4 k1
   subst k5
   by_cases hroom:n+m≤r.cap
   ·have hfit:cs.length+us.length≤cur.size:=by
     rw[c2,hsr]
     have:=Nat.mul_le_mul_right i.size hroom
     omega
    obtain⟨X',x1,x2,x3,x4,x5,x6⟩:=zou hIT hI k4 k1 c1 u1 u2 hup hfit
    have hr:=run_append_roomF (P:=P) X.w t ty e i hu hi r.block n r.cap cur fz (by rw[←hre];exact c1) (by omega) ⟨b2,o2,none⟩ m cap2 us (by omega) hnews u2 hroom (by omega)
    have hlen2:cs.length+us.length=(n+m)*i.size:=by omega
    rw[hlen2] at x3 x6
    refine⟨.slice (some ⟨r.block,0,none⟩) (n+m) r.cap,X',?_,x2,x3,?_⟩
    ·rw[x1,hr,q1]
    ·rw[Rep]
     have hold:At IT X' cs r.block 0:=z2s hIT x2 _ _ _ (by
      rcases hc with rfl|⟨b,o,e1,hat⟩
      ·rw[At];trivial
      ·cases e1;exact hat)
     refine⟨_,_,rfl,⟨hroom,fun e=>by cases e⟩,.inr ⟨_,_,rfl,zkx hold (by rw[Nat.zero_add];exact x4)⟩,(n+m)*i.size,?_,by omega,fun _=>⟨r,by rw[x5];exact k4,rfl,rfl,by rw[hcd,hsr]⟩⟩
     rw[x6];simp[hsl]
   ·obtain⟨c,g1,g2,g3⟩:=grow r.cap (by omega) rfl
    obtain⟨X',x1,x2,x3,x4,x5,x6⟩:=zpa hIT hI (e:=e) (zbn v1 u1) hone i.size c q5 g3 (hz2 c g2)
     (β':=X.β.set s ⟨X.w.heap.size,e,i.size,c⟩) (lens':=σ.lens.set s ((n+m)*i.size)) (elems':=σ.elems)
     (fun s' L hs=>by
      by_cases es:s'=s
      ·subst es
       rw[k1] at hs;cases hs
       have:=Nat.mul_pos q3 q5
       exact⟨(n+m)*i.size,by rw[←hlens];simp[hsl],by omega,fun e=>by omega⟩
      ·exact⟨L,by rw[←hlens,List.getElem?_set_ne (Ne.symm es)];exact hs,Nat.le_refl _,fun _=>by rw[List.getElem?_set_ne (Ne.symm es)]⟩)
     (by simp[hbl,hlens])
     (by
      rw[←hI.elems,List.map_set]
      apply List.ext_getElem?
      intro j
      by_cases ej:s=j
      ·subst ej
       rw[List.getElem?_set_self (by simp;omega),List.getElem?_map,k4];simp[hre]
      ·rw[List.getElem?_set_ne ej])
     (fun s' q L hq hL=>by
      by_cases es:s'=s
      ·subst es
       right
       rw[List.getElem?_set_self (by omega)] at hq
       rw[←hlens,List.getElem?_set_self hsl] at hL
       cases hq;cases hL
       exact⟨rfl,hvu.symm⟩
      ·left
       rw[List.getElem?_set_ne (Ne.symm es)] at hq
       rw[←hlens,List.getElem?_set_ne (Ne.symm es)] at hL
       exact⟨hq,hL⟩)
     (by
      rw[List.map_set]
      have hnd:=hI.βnd
      have hfresh:X.w.heap.size∉X.β.map (·.block):=fun hm=>by
       obtain⟨q,hq,e'⟩:=List.mem_map.1 hm
       have:=hI.βlt hq;omega
      exact zfu _ _ _ hnd hfresh)
    refine⟨_,X',by rw[x1];exact g1,x2,x3,?_⟩
    rw[Rep]
    refine⟨_,_,rfl,⟨g2,fun e=>by cases e⟩,.inr ⟨_,_,rfl,x4⟩,(n+m)*i.size,?_,by omega,fun _=>⟨⟨X.w.heap.size,e,i.size,c⟩,?_,rfl,rfl,hcd⟩⟩
    ·rw[x6,←hlens];simp[hsl]
    ·rw[x5,List.getElem?_set_self (by omega)]
end Go.Ab
