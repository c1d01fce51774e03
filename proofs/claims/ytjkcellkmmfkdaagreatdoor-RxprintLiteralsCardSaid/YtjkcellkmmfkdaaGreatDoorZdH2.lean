import Derived.Test.YtjkcellkmmfkdaaGreatDoorZdE
import Derived.Lib.FrozenHead2
import Derived.Laws.IdiomStrings
import Derived.Lib.BufferRead
import Derived.OrdersIn
import Derived.LoopNIn
set_option linter.all false
open Bool (and_eq_true)
open Nat (le_refl zero_add lt_or_ge)
open Option (map_some getD_some)
open List (length_append mem_of_getElem? getElem?_eq_getElem getElem?_append_left all_eq_true mem_cons getElem?_set_ne getElem?_set_self getElem?_take getElem?_map mem_map map_cons)
namespace Go.Ab
open Go Go.RowKit Go.Fwd
variable {IT:IterP} {P:Program} {X:Cx} {n:Nat}
def zng:AV->Nat->Option Nat
 | .raw (.int k n),y=>if 0<=n/\ n<=y then some n.toNat else none
 |_,_=>none
theorem zgx {x:AV} {v:Value} {y y':Nat} {c:BoundsCode} (h:zng x y=some n)(hx:Rep IT X x v)(hy:y<=y'):(Instr.sliceBound v y' c).run P X.w= .ok n X.w/\ n<=y:=by
 unfold zng at h;split at h<;>try cases h
 rename_i k i;split at h<;>cases h
 rename_i hc;rw[Rep] at hx;subst hx;refine⟨?_,by omega⟩;have:0<=i/\ i<=(y':Int):=⟨hc.1,by have:=hc.2;omega⟩;simp only[Instr.sliceBound,asIntOf,Sem.run_bind,Sem.run_pure,Result.andThen_ok,if_pos this]
def zkg (n:Nat)(lo hi mx:Option AV):Option (Nat×Nat×Bool):=
 match mx with
 | some m=>match hi with
  | some h=>match zng m n with
   | some m=>match zng h m with
    | some h=>match lo with
     |some l=>match zng l h with|some l=>some (l,h,m==h)|none=>none
     |none=>some (0,h,m==h)
    |none=>none
   |none=>none
  |none=>none
 | none=>
  match(match hi with|some h=>zng h n|none=>some n) with
  | some h=>match lo with
   |some l=>match zng l h with|some l=>some (l,h,false)|none=>none
   |none=>some (0,h,false)
  |none=>none
def qfu (IT:IterP)(X:Cx):Option AV->Option Value->Prop
 |none,v=>v=none
 |some a,v=> ∃u,v=some u/\ Rep IT X a u
theorem zkj {cap:Nat} {lo hi mx:Option AV} {l h:Nat} {f:Bool} {lo' hi' mx':Option Value} (hb:zkg n lo hi mx=some (l,h,f))(hl:qfu IT X lo lo')(hh:qfu IT X hi hi')(hm:qfu IT X mx mx')
 (hc:n<=cap): ∃m,(Instr.sliceBounds true n cap lo' hi' mx').run P X.w= .ok (l,h,m) X.w/\ l<=h/\ h<=n/\ h<=m/\ m<=cap/\ (f=true->m=h)/\ (mx=none->m=cap):=by
 unfold zkg at hb;cases mx with
 | some am=>
  obtain⟨m',rfl,hm⟩:=hm;cases hi with
  |none=>simp at hb
  | some ah=>
   obtain⟨h',rfl,hh⟩:=hh;simp only at hb;split at hb<;>try cases hb
   rename_i m em;split at hb<;>try cases hb
   rename_i hv eh;obtain⟨r1,q1⟩:=zgx (P:=P) (c:= .slice3Acap) em hm hc;obtain⟨r2,q2⟩:=zgx (P:=P) (c:= .slice3B) eh hh (le_refl m);cases lo with
   | none=>
    cases hl;simp at hb;obtain⟨rfl,rfl,rfl⟩:=hb;exact⟨m,by simp[Instr.sliceBounds,r1,r2],by omega,by omega,by omega,by omega,by simp,by simp⟩
   | some al=>
    obtain⟨l',rfl,hl⟩:=hl;simp only at hb;split at hb<;>try cases hb
    rename_i lv el;obtain⟨r3,q3⟩:=zgx (P:=P) (c:= .slice3C) el hl (le_refl _);exact⟨m,by simp[Instr.sliceBounds,r1,r2,r3],by omega,by omega,by omega,by omega,by simp,by simp⟩
 | none=>
  cases hm;have hhi: ∀hv,(match hi with|some h=>zng h n|none=>some n)=some hv->((match hi',(none:Option Value) with|some v,some _=>Instr.sliceBound v cap .slice3B|some v,none=>Instr.sliceBound v cap .sliceAcap|none,none=>pure n|none,some _=>stuck "Slice: max without high" :Sem Nat).run P X.w= .ok hv X.w)/\ hv<=n:=fun hv e=>by
   cases hi with
   |none=>cases hh;simp at e;subst e;exact⟨by simp,le_refl _⟩
   | some ah=>
    obtain⟨h',rfl,hh⟩:=hh;exact zgx e hh hc
  simp only at hb;split at hb<;>try cases hb
  rename_i hv eh;obtain⟨r2,q2⟩:=hhi hv eh;cases lo with
  | none=>
   cases hl;simp at hb;obtain⟨rfl,rfl,rfl⟩:=hb;refine⟨cap,?_,by omega,by omega,by omega,by omega,by simp,by simp⟩;cases hi'<;>simp at r2<;>simp[Instr.sliceBounds,r2]
  | some al=>
   obtain⟨l',rfl,hl⟩:=hl;simp only at hb;split at hb<;>try cases hb
   rename_i lv el;obtain⟨r3,q3⟩:=zgx (P:=P) (c:= .sliceB) el hl (le_refl _);refine⟨cap,?_,by omega,by omega,by omega,by omega,by simp,by simp⟩;cases hi'<;>simp at r2<;>simp[Instr.sliceBounds,r2,r3]
def zwd (P:Program)(t:TypeId)(x:AV)(lo hi mx:Option AV):Option AV:=
 match P.underlying t,x with
 | some (.slice e),.list n cs st=>match zfh P e,zkg n lo hi mx with
  | some sz,some (l,h,f)=>
   if cs.length=n*sz then
    some (.list (h-l) ((cs.drop (l*sz)).take ((h-l)*sz))
     (if f then .full else if l=0/\ h=n/\ mx.isNone then st else if h=n/\ mx.isNone/\ st= .full then .full else .none))
   else none
  |_,_=>none
 | some (.slice e),.bsl s off n sz f=>match zfh P e,zkg n lo hi mx with
  | some sz',some (l,h,g)=>
   if sz'=sz then
    (if l<h then some (.bsl s (off+l*sz) (h-l) sz (g||(f&&h==n&&mx.isNone))) else some (.list 0 [] (if g||(f&&h==n&&mx.isNone) then .full else .none)))
   else none
  |_,_=>none
 |_,_=>none
theorem zqe {t e:TypeId} {cs:List AV} {st:Room} {a:AV} {v:Value} {lo hi mx:Option AV} {lo' hi' mx':Option Value} (hu:P.underlying t=some (.slice e))(h:(match zfh P e,zkg n lo hi mx with
 | some sz,some (l,h,f)=>
  if cs.length=n*sz then
   some (AV.list (h-l) ((cs.drop (l*sz)).take ((h-l)*sz))
    (if f then .full else if l=0/\ h=n/\ mx.isNone then st else if h=n/\ mx.isNone/\ st= .full then .full else .none))
  else none
 |_,_=>none)=some a) (hx:Rep IT X (.list n cs st) v) (hl:qfu IT X lo lo') (hh:qfu IT X hi hi') (hm:qfu IT X mx mx'):
 ∃u,(Instr.sliceAt t v lo' hi' mx').run P X.w= .ok u X.w/\ Rep IT X a u:=by
 split at h<;>try cases h
 rename_i sz l hv f hsz hb;split at h<;>try cases h
 rename_i hlen;rw[Rep] at hx;obtain⟨ad,cap,rfl,⟨hcap,hnil⟩,hc,hst⟩:=hx;obtain⟨m,r,b1,b2,b3,b4,b5,b6⟩:=zkj (P:=P) hb hl hh hm hcap;refine⟨.slice (if m=l then ad else ad.map (·.add (l*sz))) (hv-l) (m-l),?_,?_⟩
 ·simp[Instr.sliceAt,Instr.slice,underlying,program,Sem.run,hu,r,zeb hsz]
 ·rw [Rep];refine⟨_,_,rfl,⟨by omega,fun hn=> ?_⟩,?_,?_⟩
  ·split at hn
   ·omega
   ·have:=hnil (by simpa using hn);omega
  ·rcases hc with rfl|⟨b,o,rfl,hat⟩
   ·left;simp
   ·by_cases hml:m=l
    ·left
     have:hv-l=0:=by omega
     simp[this]
    ·right
     rw[if_neg hml];exact⟨b,o+l*sz,by rw[map_some,zgg],zzn _ (zza _ hat)⟩
  ·split
   ·trivial
   ·rename_i hs;split at hs
    ·rename_i hf;have:=b5 hf;omega
    ·split at hs
     ·rename_i h1 h2;obtain⟨rfl,rfl,hmx⟩:=h2;subst hs;have:=b6 (by simpa using hmx);simp only at hst;omega
     ·split at hs
      ·rename_i h3;obtain⟨rfl,hmx,rfl⟩:=h3;have:=b6 (by simpa using hmx);simp only at hst;omega
      ·cases hs
   ·rename_i s hs;split at hs
    ·cases hs
    ·split at hs
     ·rename_i h1 h2;obtain⟨rfl,rfl,hmx⟩:=h2;subst hs;obtain⟨L,k1,k2,k3⟩:=hst;have e0:(cs.drop (0*sz)).take ((hv-0)*sz)=cs:=by
       rw[Nat.zero_mul,List.drop_zero,Nat.sub_zero, <-hlen,List.take_length]
      rw[e0];refine⟨L,k1,k2,fun e'=> ?_⟩;obtain⟨r',k4,rfl,rfl,k6⟩:=k3 e';have hmc:=b6 (by simpa using hmx);refine⟨r',k4,?_,by omega,by simpa using k6⟩;split
      ·rfl
      ·simp[Addr.add]
     ·split at hs
      ·cases hs
      ·cases hs
theorem z1f {t:TypeId} {x a:AV} {v:Value} {lo hi mx:Option AV} {lo' hi' mx':Option Value} (h:zwd P t x lo hi mx=some a)(hx:Rep IT X x v)(hl:qfu IT X lo lo')(hh:qfu IT X hi hi')(hm:qfu IT X mx mx'):
 ∃u,(Instr.sliceAt t v lo' hi' mx').run P X.w= .ok u X.w/\ Rep IT X a u:=by
 unfold zwd at h;split at h<;>try cases h
 ·exact zqe ‹_› h hx hl hh hm
 rename_i e s off n sz f hu;split at h<;>try cases h
 rename_i sz' l hv g hsz hb;split at h<;>try cases h
 rename_i hlen;subst hlen;rw[Rep] at hx;obtain⟨b,cap,cur,t0,hk,rfl,hcap,hful,hrow,hfit⟩:=hx;obtain⟨m,r,b1,b2,b3,b4,b5,b6⟩:=zkj (P:=P) hb hl hh hm hcap;have hrun:(Instr.sliceAt t (.slice (some ⟨b,off,none⟩) n cap) lo' hi' mx').run P X.w= .ok (.slice (if m=l then some ⟨b,off,none⟩ else some ((⟨b,off,none⟩:Addr).add (l*sz'))) (hv-l) (m-l)) X.w:=by
  simp only[Instr.sliceAt,Instr.slice,underlying,program,Sem.run,hu,r,zeb hsz,Sem.run_bind,Result.andThen_ok,Sem.run_pure];split<;>rfl
 have hg:(g||(f&&hv==n&&mx.isNone))=true->m=hv:=fun hh2=>by
  rw[Bool.or_eq_true] at hh2;rcases hh2 with h2|h2
  ·exact b5 h2
  ·simp only[and_eq_true,beq_iff_eq,Option.isNone_iff_eq_none] at h2;obtain⟨⟨h3,h4⟩,h5⟩:=h2;rw[b6 h5,hful h3,h4]
 refine⟨_,hrun,?_⟩;split at h
 ·rename_i hlt;cases h;rw[Rep];refine⟨b,m-l,cur,t0,hk,by rw[if_neg (by omega),zgg],by omega,fun e=>by have:=hg e;omega,hrow,?_⟩;have h1:off+m*sz'<=cur.size:=Nat.le_trans (Nat.add_le_add_left (Nat.mul_le_mul_right _ b4) _) hfit;have h2:l*sz'+(m-l)*sz'=m*sz':=by rw[<-Nat.add_mul];congr 1;omega
  omega
 ·rename_i hlt;cases h;have hlv:hv=l:=by omega
  subst hlv;rw[Rep];refine⟨_,m-hv,by rw[Nat.sub_self],⟨by omega,fun hn=>by split at hn<;>cases hn⟩,.inl rfl,?_⟩;split
  ·trivial
  ·rename_i hs;split at hs
   ·rename_i hg2;have:=hg hg2;omega
   ·cases hs
  ·rename_i s0 hs;split at hs<;>cases hs
def qjh (P:Program)(t:TypeId):AV->Option AV
 | .list n _ _=>match P.underlying t with|some (.slice _)=>some (.raw (.int .i64 n))|_=>none
 | .bsl _ _ n _ _=>match P.underlying t with|some (.slice _)=>some (.raw (.int .i64 n))|_=>none
 |_=>none
theorem qba {t ty:TypeId} {x a:AV} {v:Value} (h:qjh P t x=some a)(hx:Rep IT X x v): ∃u,(Builtin.len_ #[t] ty #[v]).run P X.w= .ok u X.w/\ Rep IT X a u:=by
 cases x with
 | list n cs st=>
  simp only[qjh] at h;split at h<;>cases h
  rename_i e hu;rw[Rep] at hx;obtain⟨ad,cap,rfl,_⟩:=hx;exact⟨.int .i64 n,by simp[Builtin.len_,underlying,program,Sem.run,hu,goInt],by rw[Rep]⟩
 | bsl s off n sz f=>
  simp only[qjh] at h;split at h<;>cases h
  rename_i e hu;rw[Rep] at hx;obtain⟨b,cap,cur,t0,_,rfl,_⟩:=hx;exact⟨.int .i64 n,by simp[Builtin.len_,underlying,program,Sem.run,hu,goInt],by rw[Rep]⟩
 |_=>cases h
def zfv (P:Program)(U:St)(t:TypeId)(x y:AV):Option (AV×St):=
 match P.underlying t,x,y with
 | some (.slice e),.list n cs st,.list m ds _=>match P.info? e with
  | some i=>match i.zero with
   | some z=>
    if m=0/\ ds=[] then some (.list n cs st,U)
    else if cs.length=n*i.size/\ ds.length=m*i.size/\ 0<m/\ z.cells.size=i.size/\ 0<i.size/\ n+m<=maxLen/\ (n+m)*i.bytes<=140737488355328 then
     match st with
     | .none=>none
     | .full=>some (.list (n+m) (cs++ds) (.own U.lens.length),{U with lens:=U.lens++[(n+m)*i.size],elems:=U.elems++[e]})
     | .own s=>if U.lens[s]? =some cs.length/\ U.elems[s]? =some e/\ 0<n then some (.list (n+m) (cs++ds) (.own s),{U with lens:=U.lens.set s ((n+m)*i.size)}) else none
    else none
   |none=>none
  |none=>none
 |_,_,_=>none
theorem zqx (hIT:ITMono IT) {U:St} {X:Cx} (hI:Inv IT U X) {e:TypeId} {vs zs:List Value} {cs:List AV} (hr:zbf IT X cs vs)(h1: ∀v∈vs,v.oneCell'=true)(size cap:Nat)(hsz:0<size)(hcap:cap<=maxLen)(hlen:(vs++zs).length=cap*size)
 {β':List Row} {lens':List Nat} {elems':List TypeId} (hlens: ∀(s L:Nat),X.lens[s]? =some L-> ∃L',lens'[s]? =some L'/\ L<=L'/\ (L'=L->β'[s]? =X.β[s]?)) (hbl:β'.length=lens'.length) (hel:β'.map (·.elem)=elems')
 (hrow: ∀(s:Nat) (r:Row) (L:Nat),β'[s]? =some r->lens'[s]? =some L->(X.β[s]? =some r/\ X.lens[s]? =some L) \/(r=⟨X.w.heap.size,e,size,cap⟩/\ L=vs.length)) (hnd:(β'.map (·.block)).Nodup):
 ∃X',X'.w=X.w.drew.alloc (.cells (vs++zs).toArray e)/\ Ext X X'/\ Inv IT {U with lens:=lens',elems:=elems'} X'/\ At IT X' cs X.w.heap.size 0/\ X'.β=β'/\ X'.lens=lens':=by
 have hnw:(X.w.drew.alloc (.cells (vs++zs).toArray e)).heap[X.w.heap.size]? =some (.cells (vs++zs).toArray e (0,0)):=heap_alloc_new X.w.drew _;have hmem: ∀r∈β',r∈X.β \/r.block=X.w.heap.size:=fun r hr'=>by
  obtain⟨s,hs,rfl⟩:=List.mem_iff_getElem.1 hr';rcases hrow s _ (lens'[s]'(by omega)) (getElem?_eq_getElem hs) (getElem?_eq_getElem _) with h|⟨h,_⟩
  ·exact .inl (mem_of_getElem? h.1)
  ·exact .inr (by rw[h])
 have hE:Ext X {F:=fun b i=>X.F b i \/(b=X.w.heap.size/\ i<vs.length),κ:=X.κ,β:=β',lens:=lens',w:=X.w.drew.alloc (.cells (vs++zs).toArray e),O:=X.O,C:=X.C}:={
  os:=rfl,tape:=rfl,output:=rfl,size:=by simp,drawn:=(by first|exact le_refl _|exact Nat.le_succ _)
  F:=fun _ _ h=> .inl h
  cell:=fun b i hf=>World.cell?_of_block (heap_alloc_old X.w.drew _ _ (hI.Flt hf))
  κ:=fun _ _ h=>h
  lens:=hlens
  blk:=fun s b hs cur t f h=>⟨cur,(heap_alloc_old X.w.drew _ _ (hI.κlt (mem_of_getElem? hs))).trans h,rfl⟩
  szs:=Szs.old fun k hk=>heap_alloc_old X.w.drew _ _ hk
  frame:=fun b hb _ _=>heap_alloc_old X.w.drew _ _ hb
  κnew:=fun _ h=> .inl h
  βnew:=fun r hr'=>by
   rcases hmem r hr' with h|h
   ·exact .inl ⟨r,h,rfl⟩
   ·exact .inr (Nat.le_of_eq h.symm)
  O:=rfl
  C:=rfl
  Fnew:=fun b i h=>by
   rcases h with h|⟨h,_⟩
   ·exact .inl h
   ·exact .inr (.inl (Nat.le_of_eq h.symm))}
 refine⟨_,rfl,hE,?_,?_,rfl,rfl⟩
 ·refine {lens:=rfl,elems:=hel,κlen:=hI.κlen,κnd:=hI.κnd,box:= ?_,κF:= ?_,βlen:=hbl,βnd:=hnd,βκ:= ?_,row:= ?_,Ok:= ?_,Fcell:= ?_}
  ·intro s b t' c hs hb;obtain⟨us,zs',u1,u2,u3⟩:=hI.box s b t' c hs hb;exact⟨us,zs',(heap_alloc_old X.w.drew _ _ (hI.κlt (mem_of_getElem? hs))).trans u1,zam hIT hE _ _ u2,u3⟩
  ·intro s b t' c hs hb hc o hf;rcases hf with hf|⟨e,_⟩
   ·exact hI.κF s b t' c hs hb hc o hf
   ·have:=hI.κlt (mem_of_getElem? hs);omega
  ·intro r hr' hm;rcases hmem r hr' with h|h
   ·exact hI.βκ r h hm
   ·have:=hI.κlt hm;omega
  ·intro s r L hr' hL;rcases hrow s r L hr' hL with⟨k1,k2⟩|⟨rfl,rfl⟩
   ·obtain⟨cur,fz,c1,c2,c3,c4,c5,c6,c7⟩:=hI.row s r L k1 k2;have hlt:=hI.βlt (mem_of_getElem? k1);refine⟨cur,fz,(heap_alloc_old X.w.drew _ _ hlt).trans c1,c2,c3,c4,c5,fun o hf=> ?_,c7⟩;rcases hf with hf|⟨e,_⟩
    ·exact c6 o hf
    ·omega
   ·refine⟨(vs++zs).toArray,(0,0),heap_alloc_new X.w.drew _,by simpa using hlen,hcap,hsz,by simp,fun o hf=> ?_,Nat.zero_le _⟩;rcases hf with hf|⟨_,hf⟩
    ·have:=hI.Flt hf;simp at this
    ·exact hf
  ·intro b ho;obtain⟨⟨cs0,t0,f0,h0⟩,h2,h3,h4⟩:=hI.Ok b ho;have hlt:=hI.Olt ho;refine⟨⟨cs0,t0,f0,(heap_alloc_old X.w.drew _ _ hlt).trans h0⟩,h2,fun r hr'=> ?_,fun o hf=>hf.elim (h4 o) fun h=>by omega⟩;rcases hmem r hr' with h|h
   ·exact h3 r h
   ·omega
  ·intro b o hf;rcases hf with hf|⟨e,hf⟩
   ·obtain⟨v,hv⟩:=hI.Fcell b o hf;exact⟨v,(hE.cell b o hf).trans hv⟩
   ·subst e;refine⟨vs[o],?_⟩
    show(X.w.drew.alloc _).cell? _=_
    rw[cell_of_row _ _ _ _ _ _ hnw];simp[getElem?_append_left hf,hf]
 ·refine z1d (fun j hj=> .inr ⟨rfl,by omega⟩) h1 (zam hIT hE _ _ hr) fun j u hu=> ?_
  show(X.w.drew.alloc _).cell? _=_
  rw[cell_of_row _ _ _ _ _ _ hnw,zero_add];have:=(List.getElem?_eq_some_iff.1 hu).1;simpa[getElem?_append_left this] using hu
theorem zqk (hIT:ITMono IT) {U:St} {X:Cx} (hI:Inv IT U X) {s:Nat} {r:Row} {L:Nat} {us:List Value} {ds:List AV} {cur:Array Value} {fz:Nat×Nat} (hs:X.β[s]? =some r)(hL:X.lens[s]? =some L)
 (hcur:X.w.heap[r.block]? =some (.cells cur r.elem fz)) (hr:zbf IT X ds us) (h1: ∀v∈us,v.oneCell'=true) (hpos:0<us.length) (hfit:L+us.length<=cur.size):
 ∃X',X'.w=X.w.setRow r.block (cur.toList.take L++us++cur.toList.drop (L+us.length)).toArray/\ Ext X X'/\ Inv IT {U with lens:=U.lens.set s (L+us.length)} X'/\ At IT X' ds r.block L/\ X'.β=X.β/\ X'.lens=X.lens.set s (L+us.length):=by
 have hrm:=mem_of_getElem? hs;obtain⟨cur',fz',c1,c2,c3,c4,c5,c6,c7⟩:=hI.row s r L hs hL;obtain⟨rfl,rfl⟩:cur'=cur/\ fz'=fz:=by rw[hcur] at c1;cases c1;exact⟨rfl,rfl⟩
 have hsl:s<X.lens.length:=(List.getElem?_eq_some_iff.1 hL).1;have hsz:(cur'.toList.take L++us++cur'.toList.drop (L+us.length)).length=cur'.size:=by simp;omega
 have hnew:(X.w.setRow r.block (cur'.toList.take L++us++cur'.toList.drop (L+us.length)).toArray).heap[r.block]? =some (.cells (cur'.toList.take L++us++cur'.toList.drop (L+us.length)).toArray r.elem fz'):=setRow_heap _ _ _ _ _ _ hcur
 have hE:Ext X {F:=fun b i=>X.F b i \/(b=r.block/\ i<L+us.length),κ:=X.κ,β:=X.β,lens:=X.lens.set s (L+us.length),w:=X.w.setRow r.block (cur'.toList.take L++us++cur'.toList.drop (L+us.length)).toArray,O:=X.O,C:=X.C}:={
  os:=rfl,tape:=rfl,output:=rfl,size:=by simp,drawn:=(by first|exact le_refl _|exact Nat.le_succ _)
  F:=fun _ _ h=> .inl h
  cell:=fun b i hf=>by
   show(X.w.setRow _ _).cell? _=_
   by_cases e:b=r.block
   ·subst e;have:=c6 i hf;rw[cell_of_row _ _ _ _ _ _ hnew,cell_of_row _ _ _ _ _ _ hcur];rw[<-Array.getElem?_toList, <-Array.getElem?_toList];simp only[List.append_assoc];rw[getElem?_append_left (by simp;omega),getElem?_take,if_pos this]
   ·exact cell_setRow_other _ _ _ _ e
  κ:=fun _ _ h=>h
  lens:=fun s' L' h=>by
   by_cases e:s'=s
   ·subst e;rw[hL] at h;cases h;exact⟨L+us.length,by simp[hsl],by omega,fun e=>by omega⟩
   ·exact⟨L',by rw[getElem?_set_ne (Ne.symm e)];exact h,le_refl _,fun _=>rfl⟩
  blk:=fun s' b hs' cu t f h=>⟨cu,(setRow_other _ _ _ _ (show b≠r.block from fun e=>hI.βκ r hrm (e▸mem_of_getElem? hs'))).trans h,rfl⟩
  szs:=Szs.one r.block (fun k _ e=>setRow_other _ _ _ _ e) fun cs t f h=>by
   rw[hcur] at h;cases h;exact⟨_,_,_,hnew,by simpa using hsz⟩
  frame:=fun b _ _ hβ=>setRow_other _ _ _ _ fun e=>hβ r hrm e.symm
  κnew:=fun _ h=> .inl h
  βnew:=fun q h=> .inl ⟨q,h,rfl⟩
  O:=rfl
  C:=rfl
  Fnew:=fun b i h=>by
   rcases h with h|⟨h,_⟩
   ·exact .inl h
   ·exact .inr (.inr (.inl ⟨r,hrm,h.symm⟩))}
 have hother: ∀(s':Nat) (q:Row),X.β[s']? =some q->s'≠s->q.block≠r.block:=fun s' q hq hne e=>hne (by
  have h1:=(List.getElem?_eq_some_iff.1 hq).1;have h2:=(List.getElem?_eq_some_iff.1 hs).1;have e1:(X.β.map (·.block))[s']'(by simpa using h1)=q.block:=by simp[(List.getElem?_eq_some_iff.1 hq).2]
  have e2:(X.β.map (·.block))[s]'(by simpa using h2)=r.block:=by simp[(List.getElem?_eq_some_iff.1 hs).2]
  exact(List.getElem_inj hI.βnd).1 (e1.trans (e.trans e2.symm)))
 refine⟨_,rfl,hE,?_,?_,rfl,rfl⟩
 ·refine {lens:=by rw[hI.lens],elems:=hI.elems,κlen:=hI.κlen,κnd:=hI.κnd,box:= ?_,κF:= ?_,βlen:=by simpa using hI.βlen,βnd:=hI.βnd,βκ:=hI.βκ,row:= ?_,Ok:= ?_,Fcell:= ?_}
  ·intro s' b t' c hs' hb;obtain⟨ws,zs',u1,u2,u3⟩:=hI.box s' b t' c hs' hb;have hne:b≠r.block:=fun e=>hI.βκ r hrm (e▸mem_of_getElem? hs');exact⟨ws,zs',(setRow_other _ _ _ _ hne).trans u1,zam hIT hE _ _ u2,u3⟩
  ·intro s' b t' c hs' hb hc o hf;rcases hf with hf|⟨e,_⟩
   ·exact hI.κF s' b t' c hs' hb hc o hf
   ·exact hI.βκ r hrm (e▸mem_of_getElem? hs')
  ·intro s' q L' hq hL';by_cases e:s'=s
   ·subst e;rw[hs] at hq;cases hq;have:L'=L+us.length:=by
     have:(X.lens.set s' (L+us.length))[s']? =some L':=hL';rw[getElem?_set_self hsl] at this;simpa using this.symm
    subst this;refine⟨_,_,hnew,by simp only[List.size_toArray,hsz];exact c2,c3,c4,by simp only[List.size_toArray,hsz];exact hfit,fun o hf=> ?_,by omega⟩;rcases hf with hf|⟨_,hf⟩
    ·have:=c6 o hf;omega
    ·exact hf
   ·have hL2:X.lens[s']? =some L':=by
     have:(X.lens.set s (L+us.length))[s']? =some L':=hL';rwa[getElem?_set_ne (Ne.symm e)] at this
    obtain⟨cu,fz,d1,d2,d3,d4,d5,d6,d7⟩:=hI.row s' q L' hq hL2;have hne:=hother s' q hq e;refine⟨cu,fz,(setRow_other _ _ _ _ hne).trans d1,d2,d3,d4,d5,fun o hf=> ?_,d7⟩;rcases hf with hf|⟨e,_⟩
    ·exact d6 o hf
    ·exact absurd e hne
  ·intro b ho;obtain⟨⟨cs0,t0,f0,h0⟩,h2,h3,h4⟩:=hI.Ok b ho;have hne:=h3 r hrm;exact⟨⟨cs0,t0,f0,(setRow_other _ _ _ _ (Ne.symm hne)).trans h0⟩,h2,h3,fun o hf=>hf.elim (h4 o) fun h=>absurd h.1.symm hne⟩
  ·intro b o hf;rcases hf with hf|⟨rfl,hf⟩
   ·obtain⟨v,hv⟩:=hI.Fcell b o hf;exact⟨v,(hE.cell b o hf).trans hv⟩
   ·refine⟨(cur'.toList.take L++us++cur'.toList.drop (L+us.length))[o]'(by omega),?_⟩
    show(X.w.setRow _ _).cell? _=_
    rw[cell_of_row _ _ _ _ _ _ hnew, <-Array.getElem?_toList];exact getElem?_eq_getElem _
 ·refine z1d (fun j hj=> .inr ⟨rfl,by omega⟩) h1 (zam hIT hE _ _ hr) fun j u hu=> ?_;have hj:=(List.getElem?_eq_some_iff.1 hu).1
  show(X.w.setRow _ _).cell? _=_
  rw[cell_of_row _ _ _ _ _ _ hnew, <-Array.getElem?_toList];simp only[List.append_assoc];rw[List.getElem?_append_right (by simp;omega)];have:L+j-(cur'.toList.take L).length=j:=by simp;omega
  rw[this,getElem?_append_left hj];exact hu
theorem zov {b:Nat}: ∀ {cs ds:List AV} {o:Nat},At IT X cs b o->At IT X ds b (o+cs.length)->At IT X (cs++ds) b o
 |[],ds,o,_,h=>by simpa using h
 | c::cs,ds,o,h1,h2=>by
  rw[At] at h1;rw[List.cons_append,At];exact⟨h1.1,zov h1.2 (by rw[List.length_cons] at h2;rwa[show o+1+cs.length=o+(cs.length+1) by omega])⟩
theorem zfu: ∀(l:List Nat) (s b:Nat),l.Nodup->b∉l->(l.set s b).Nodup
 |[],s,b,_,_=>by simp
 | c::l,0,b,h,hf=>by
  rw[List.nodup_cons] at h;simp only[mem_cons,not_or] at hf;rw[List.set_cons_zero,List.nodup_cons];exact⟨hf.2,h.2⟩
 | c::l,s+1,b,h,hf=>by
  rw[List.nodup_cons] at h;simp only[mem_cons,not_or] at hf;rw[List.set_cons_succ,List.nodup_cons];refine⟨fun hm=> ?_,zfu l s b h.2 hf.2⟩;rcases List.mem_or_eq_of_mem_set hm with h'|h'
  ·exact h.1 h'
  ·exact hf.1 h'.symm
theorem zzd (hIT:ITMono IT) {P:Program} {X:Cx} {U U':St} {t ty:TypeId} {x y a:AV} {v u:Value} (h:zfv P U t x y=some (a,U'))(hx:Rep IT X x v)(hy:Rep IT X y u)(hI:Inv IT U X):
 ∃r X',(Builtin.append_ #[t,t] ty #[v,u]).run P X.w= .ok r X'.w/\ Ext X X'/\ Inv IT U' X'/\ Rep IT X' a r:=by
 unfold zfv at h;split at h<;>try cases h
 rename_i e n cs st m ds st2 hu;split at h<;>try cases h
 rename_i i hi;split at h<;>try cases h
 rename_i z hz;have hx0:=hx;rw[Rep] at hx hy;obtain⟨ad,cap,rfl,⟨hcap,hnil⟩,hc,hst⟩:=hx;obtain⟨ad2,cap2,rfl,⟨hcap2,hnil2⟩,hc2,_⟩:=hy;split at h
 ·rename_i hm;obtain⟨rfl,rfl⟩:=hm;cases h;refine⟨.slice ad n cap,X,?_,Ext.refl X,hI,hx0⟩;have hn:n+0<=cap:=by omega
  cases ad<;>cases ad2<;>simp[Builtin.append_,run_underlying hu,sizeOf,typeInfo,program,Sem.run,hi,Builtin.lenOf,Builtin.firstCells,loadCells,loadCellsFrom,storeCells,hcap]
 ·split at h<;>try cases h
  rename_i hcond;obtain⟨q1,q2,q3,q4,q5,q6,q7⟩:=hcond;have hds:ds≠[]:=fun e=>by
   rw[e] at q2;have:=Nat.mul_pos q3 q5;simp at q2;omega
  obtain⟨b2,o2,rfl,hat2⟩:=hc2.resolve_left hds;obtain⟨us,u1,u2,u3⟩:=zgp hat2;have hul:=zq u1;have hnews: ∀(j:Nat) w,us[j]? =some w->X.w.cell? ((⟨b2,o2,none⟩:Addr).add j)=some w:=fun j w hj=>by rw[zgg];exact u3 j w hj
  have hup:0<us.length:=by have:=Nat.mul_pos q3 q5;omega
  have hml:((n+m:Nat):Int)<=9223372036854775807:=by unfold maxLen at q6;omega
  have hnm:(n+m)*i.size=n*i.size+m*i.size:=Nat.add_mul _ _ _
  -- the old cells
  obtain⟨vs,v1,v2,v3⟩: ∃vs:List Value,zbf IT X cs vs/\ (∀w∈vs,w.oneCell'=true)/\ ∀b o,ad=some ⟨b,o,none⟩-> ∀(j:Nat) w,vs[j]? =some w->X.w.cell? ((⟨b,o,none⟩:Addr).add j)=some w:=by
   rcases hc with rfl|⟨b,o,rfl,hat⟩
   ·exact⟨[],by rw[zbf],by simp,by simp⟩
   ·obtain⟨vs,w1,w2,w3⟩:=zgp hat
    exact⟨vs,w1,w2,fun b' o' e' j w hj=>by cases e';rw[zgg];exact w3 j w hj⟩
  have hvl:=zq v1;have hone: ∀w∈vs++us,w.oneCell'=true:=fun w hw=>(List.mem_append.1 hw).elim (v2 w) (u2 w);have hz2: ∀c,n+m<=c->(vs++us++(Builtin.zeroCells z.cells (c-(n+m))).toList).length=c*i.size:=fun c hcc=>by
   have:=size_zeroCells z.cells (c-(n+m));simp only[length_append,Array.length_toList,this,q4, <-hvl, <-hul,q1,q2, <-Nat.add_mul];congr 1;omega
  -- where it grows
  have grow: ∀(c0:Nat) (hlt:c0<n+m),c0=cap-> ∃r,(Builtin.append_ #[t,t] ty #[.slice ad n cap,.slice (some ⟨b2,o2,none⟩) m cap2]).run P X.w=
   .ok (.slice (some ⟨X.w.heap.size,0,none⟩) (n+m) r) (X.w.drew.alloc (.cells (vs++us++(Builtin.zeroCells z.cells (r-(n+m))).toList).toArray e))/\ n+m<=r/\ r<=maxLen:=fun c0 hlt ec=>by
   subst ec;refine⟨grownCap X.w (n+m) c0 e,?_,grownCap_ge _ _ _ _,grownCap_le_maxLen _ _ _ _ q6⟩;rcases hc with rfl|⟨b,o,rfl,hat⟩
   ·have hn0:n=0:=by
     have:n*i.size=0:=by simpa using q1.symm
     rcases Nat.mul_eq_zero.1 this with h|h
     ·exact h
     ·omega
    subst hn0;have hvs:vs=[]:=by rw[zbf] at v1;exact v1
    subst hvs;cases ad with
    | none=>
     obtain rfl:c0=0:=hnil rfl;have hr:=run_append_nil (P:=P) X.w t ty e i z hu hi hz ⟨b2,o2,none⟩ m cap2 us (by omega) hnews q3 (by omega) (by simp at q7;omega);simp only[zero_add] at hr⊢;rw[hr];congr 2
     simp
    | some ad=>
     have hr:=run_append_grow (P:=P) X.w t ty e i z hu hi hz ad 0 c0 [] (by simp) (by simp) ⟨b2,o2,none⟩ m cap2 us (by omega) hnews (by omega) (by omega) (growslice_fits hlt q7);rw[hr];congr 2
     simp
   ·have hr:=run_append_grow (P:=P) X.w t ty e i z hu hi hz ⟨b,o,none⟩ n c0 vs (by omega) (v3 b o rfl) ⟨b2,o2,none⟩ m cap2 us (by omega) hnews (by omega) (by omega) (growslice_fits hlt q7);rw[hr];congr 2
    simp
  have hlens:X.lens=U.lens:=hI.lens;have hbl:=hI.βlen;have hvu:(vs++us).length=(n+m)*i.size:=by rw[length_append, <-hvl, <-hul];omega
  have hcd:(cs++ds).length=(n+m)*i.size:=by rw[length_append];omega
  cases st with
  |none=>cases h
  | full=>
   simp only[Option.some.injEq,Prod.mk.injEq] at h;obtain⟨rfl,rfl⟩:=h;simp only at hst;subst hst;obtain⟨r,g1,g2,g3⟩:=grow cap (by omega) rfl
   obtain⟨X',x1,x2,x3,x4,x5,x6⟩:=zqx hIT hI (e:=e) (zbm v1 u1) hone i.size r q5 g3 (hz2 r g2)
    (β':=X.β++[⟨X.w.heap.size,e,i.size,r⟩]) (lens':=U.lens++[(cap+m)*i.size]) (elems':=U.elems++[e])
    (fun s L hs=>⟨L,by rw[<-hlens,getElem?_append_left (List.getElem?_eq_some_iff.1 hs).1];exact hs,le_refl _,fun _=>by
     rw[getElem?_append_left];rw[hbl];exact(List.getElem?_eq_some_iff.1 hs).1⟩)
    (by simp[hbl,hlens]) (by simp[hI.elems])
    (fun s q L hq hL=>by
     rcases lt_or_ge s X.β.length with hlt|hge
     ·rw[getElem?_append_left hlt] at hq;rw[<-hlens,getElem?_append_left (by omega)] at hL;exact .inl ⟨hq,hL⟩
     ·right
      have h0:s=X.β.length:=by
       have:=(List.getElem?_eq_some_iff.1 hq).1;simp at this;omega
      subst h0;rw[<-hlens,hbl] at hL;simp at hq hL;exact⟨hq.symm,by rw[hvu];exact hL.symm⟩)
    (by
     rw[List.map_append];refine List.nodup_append.2 ⟨hI.βnd,by simp,fun a ha b hb e=> ?_⟩;obtain⟨q,hq,rfl⟩:=mem_map.1 ha;have:=hI.βlt hq;simp at hb;omega)
   refine⟨_,X',by rw[x1];exact g1,x2,x3,?_⟩;rw[Rep];refine⟨_,_,rfl,⟨g2,fun e=>by cases e⟩,.inr ⟨_,_,rfl,x4⟩,(cap+m)*i.size,?_,by omega,fun _=>⟨⟨X.w.heap.size,e,i.size,r⟩,?_,rfl,rfl,hcd⟩⟩
   ·rw[x6];simp
   ·rw[x5, <-hlens, <-hbl];simp
  | own s=>
   simp only at h;split at h<;>try cases h
   rename_i hown;obtain⟨w1,w2,w3⟩:=hown;obtain⟨L,k1,k2,k3⟩:=hst;have hLc:cs.length=L:=by rw[hlens] at k1;rw[k1] at w1;exact(Option.some.inj w1).symm
   obtain⟨r,k4,k5,rfl,k7⟩:=k3 hLc;subst hLc;have hsr:r.size=i.size:=by
    have:n*r.size=n*i.size:=by omega
    exact Nat.eq_of_mul_eq_mul_left w3 this
   have hre:r.elem=e:=by
    have h1:(X.β.map (·.elem))[s]? =some e:=by rw[hI.elems];exact w2
    rw[getElem?_map,k4] at h1;simpa using h1
   have hsl:s<X.lens.length:=(List.getElem?_eq_some_iff.1 k1).1;obtain⟨cur,fz,c1,c2,c3,c4,c5,c6,c7⟩:=hI.row s r cs.length k4 k1;subst k5;by_cases hroom:n+m<=r.cap
   ·have hfit:cs.length+us.length<=cur.size:=by
     rw[c2,hsr];have:=Nat.mul_le_mul_right i.size hroom;omega
    obtain⟨X',x1,x2,x3,x4,x5,x6⟩:=zqk hIT hI k4 k1 c1 u1 u2 hup hfit;have hr:=run_append_roomF (P:=P) X.w t ty e i hu hi r.block n r.cap cur fz (by rw[<-hre];exact c1) (by omega) ⟨b2,o2,none⟩ m cap2 us (by omega) hnews u2 hroom (by omega);have hlen2:cs.length+us.length=(n+m)*i.size:=by omega
    rw[hlen2] at x3 x6;refine⟨.slice (some ⟨r.block,0,none⟩) (n+m) r.cap,X',?_,x2,x3,?_⟩
    ·rw[x1,hr,q1]
    ·rw[Rep];have hold:At IT X' cs r.block 0:=z5j hIT x2 _ _ _ (by
      rcases hc with rfl|⟨b,o,e1,hat⟩
      ·rw[At];trivial
      ·cases e1;exact hat)
     refine⟨_,_,rfl,⟨hroom,fun e=>by cases e⟩,.inr ⟨_,_,rfl,zov hold (by rw[zero_add];exact x4)⟩,(n+m)*i.size,?_,by omega,fun _=>⟨r,by rw[x5];exact k4,rfl,rfl,by rw[hcd,hsr]⟩⟩;rw[x6];simp[hsl]
   ·obtain⟨c,g1,g2,g3⟩:=grow r.cap (by omega) rfl
    obtain⟨X',x1,x2,x3,x4,x5,x6⟩:=zqx hIT hI (e:=e) (zbm v1 u1) hone i.size c q5 g3 (hz2 c g2)
     (β':=X.β.set s ⟨X.w.heap.size,e,i.size,c⟩) (lens':=U.lens.set s ((n+m)*i.size)) (elems':=U.elems)
     (fun s' L hs=>by
      by_cases es:s'=s
      ·subst es;rw[k1] at hs;cases hs;have:=Nat.mul_pos q3 q5;exact⟨(n+m)*i.size,by rw[<-hlens];simp[hsl],by omega,fun e=>by omega⟩
      ·exact⟨L,by rw[<-hlens,getElem?_set_ne (Ne.symm es)];exact hs,le_refl _,fun _=>by rw[getElem?_set_ne (Ne.symm es)]⟩)
     (by simp[hbl,hlens])
     (by
      rw[<-hI.elems,List.map_set];apply List.ext_getElem?;intro j;by_cases ej:s=j
      ·subst ej;rw[getElem?_set_self (by simp;omega),getElem?_map,k4];simp[hre]
      ·rw[getElem?_set_ne ej])
     (fun s' q L hq hL=>by
      by_cases es:s'=s
      ·subst es;right
       rw[getElem?_set_self (by omega)] at hq;rw[<-hlens,getElem?_set_self hsl] at hL;cases hq;cases hL;exact⟨rfl,hvu.symm⟩
      ·left
       rw[getElem?_set_ne (Ne.symm es)] at hq;rw[<-hlens,getElem?_set_ne (Ne.symm es)] at hL;exact⟨hq,hL⟩)
     (by
      rw[List.map_set];have hnd:=hI.βnd;have hfresh:X.w.heap.size∉X.β.map (·.block):=fun hm=>by
       obtain⟨q,hq,e'⟩:=mem_map.1 hm;have:=hI.βlt hq;omega
      exact zfu _ _ _ hnd hfresh)
    refine⟨_,X',by rw[x1];exact g1,x2,x3,?_⟩;rw[Rep];refine⟨_,_,rfl,⟨g2,fun e=>by cases e⟩,.inr ⟨_,_,rfl,x4⟩,(n+m)*i.size,?_,by omega,fun _=>⟨⟨X.w.heap.size,e,i.size,c⟩,?_,rfl,rfl,hcd⟩⟩
    ·rw[x6, <-hlens];simp[hsl]
    ·rw[x5,getElem?_set_self (by omega)]
variable {IT:IterP} {X:Cx} {S:List AV} {P:Program} {U:St} {ρ:Operand->AV}
def zbw (S:List AV):Operand->AV
 | .tmp t=>(S[t]?).getD (.raw undef)
 | .const v=>if zpx v then zlu v else .raw v
 | .func f=> .clos f []
 | .global g=> .raw (.pointer (some ⟨g,0,none⟩))
def znc (IT:IterP)(X:Cx)(S:List AV)(tmps:Array Value):Prop:=zbf IT X S tmps.toList
theorem zde {a:Act} (h:znc IT X S a.tmps)(x:Operand):Rep IT X (zbw S x) (a.eval x):=by
 cases x with
 | tmp t=>
  simp only[zbw,Act.eval];have hl:S.length=a.tmps.size:=by have:=zq h;simpa using this
  rcases lt_or_ge t S.length with hlt|hge
  ·obtain⟨v,hv,hr⟩:=zei h t S[t] (by simp[hlt]);have:a.tmps[t]? =some v:=by simpa using hv
   simpa[this,hlt] using hr
  ·have h1:S[t]? =none:=List.getElem?_eq_none hge;have h2:a.tmps[t]? =none:=Array.getElem?_eq_none (by omega);simp[h1,h2,Rep]
 | const v=>
  simp only[zbw,Act.eval];split
  ·rename_i h;exact zjr v h
  ·rw[Rep]
 |func f=>simp only[zbw,Act.eval,Rep];exact⟨[],rfl,by rw[zbf]⟩
 |global g=>simp[zbw,Act.eval,Rep]
theorem zpb {a:Act} (h:znc IT X S a.tmps)(d:Option Tmp) {x:AV} {v:Value} (hx:Rep IT X x v):znc IT X (match d with|some t=>S.set t x|none=>S) (a.put d v).tmps:=by
 cases d with
 |none=>exact h
 | some t=>
  have hl:=zq h;refine zfw (by simp[Act.put];simpa using hl) fun i b u h1 h2=> ?_;simp only[Act.put,Array.toList_setIfInBounds] at h2;by_cases e:t=i
  ·subst e;have hlt:t<S.length:=by have:=(List.getElem?_eq_some_iff.1 h1).1;simpa using this
   rw[getElem?_set_self hlt] at h1;rw[getElem?_set_self (by rw[<-hl];exact hlt)] at h2;cases h1;cases h2;exact hx
  ·rw[getElem?_set_ne e] at h1 h2;obtain⟨u',e',hr⟩:=zei h i b h1;rw[h2] at e';cases e';exact hr
def zvy:List AV->Option (List UInt8)
 |[]=>some []
 | .raw (.int .u8 k)::l=>match zvy l with
  |some r=>if 0<=k/\ k<256 then some (UInt8.ofNat k.toNat::r) else none
  |none=>none
 |_=>none
theorem zzb: ∀ {cs:List AV} {l:List UInt8},zvy cs=some l->cs=l.map fun x=> .raw (.int .u8 ((x.toNat:Nat):Int))
 |[],l,h=>by simp only[zvy,Option.some.injEq] at h;subst h;rfl
 | a ::cs,l,h=>by
  cases a with
  | raw u=>
   cases u with
   | int k n=>
    cases k<;>try(simp only[zvy] at h;cases h)
    rw[zvy] at h;cases hr:zvy cs with
    |none=>rw[hr] at h;cases h
    | some r=>
     rw[hr] at h;simp only at h;split at h<;>cases h
     rename_i hk;rw[map_cons, <-zzb hr];congr 3
     rw[UInt8.toNat_ofNat'];omega
   |_=>simp only[zvy] at h;cases h
  |_=>simp only[zvy] at h;cases h
def zpv (P:Program)(s t:TypeId):AV->Option AV
 | .list n cs _=>match P.underlying s,P.underlying t with
  | some (.slice e),some .string=>match P.underlying e,zvy cs with
   |some (.int .u8),some l=>if l.length=n then some (.raw (.string ⟨l.toArray⟩)) else none
   |_,_=>none
  |_,_=>none
 |_=>none
theorem z0p: ∀ {l:List UInt8} {vs:List Value},zbf IT X (l.map fun x=> .raw (.int .u8 ((x.toNat:Nat):Int))) vs->vs=l.map fun x=> .int .u8 ((x.toNat:Nat):Int)
 |[],vs,h=>by rw[List.map_nil,zbf] at h;exact h
 | x::l,vs,h=>by
  rw[map_cons,zbf] at h;obtain⟨v,r,rfl,h1,h2⟩:=h;rw[Rep] at h1;rw[h1,z0p h2];rfl
theorem zuh {s t:TypeId} {x a:AV} {v:Value} (h:zpv P s t x=some a)(hx:Rep IT X x v): ∃r,(convert s t v).run P X.w= .ok r X.w/\ Rep IT X a r:=by
 unfold zpv at h;split at h<;>try cases h
 rename_i n cs st;split at h<;>try cases h
 rename_i e hs ht;split at h<;>try cases h
 rename_i l he hl;split at h<;>cases h
 rename_i hn;subst hn;have hcs:=zzb hl;rw[Rep] at hx;obtain⟨ad,cap,rfl,_,hc,_⟩:=hx;refine⟨_,?_,by rw[Rep]⟩;rcases hc with hc|⟨b,o,rfl,hat⟩
 ·have:l=[]:=by rw[hc] at hcs;exact List.map_eq_nil_iff.1 hcs.symm
  subst this;cases ad with
  |none=>exact Go.Lib.run_convert_nil_bytes X.w s t e cap hs he ht
  |some ad=>exact Go.run_convert_bytes_back X.w s t e ad cap [] hs he ht (fun j hj=>by simp at hj)
 ·subst hcs;obtain⟨us,u1,u2,u3⟩:=zgp hat
  have hus:=z0p u1;subst hus;exact Go.run_convert_bytes_back X.w s t e ⟨b,o,none⟩ cap l hs he ht (fun j hj=>by rw[zgg];exact u3 j _ (by simp[hj]))
def qop (P:Program)(ρ:Operand->AV)(U:St)(o:Oper):Option AV:=
 match o.op with
 | .move x| .assign x=>some (ρ x)
 | .pick c a b=>match ρ c with| .raw (.bool t)=>some (bif t then ρ a else ρ b)|_=>none
 | .build t parts=>match qfw P t (parts.toList.map fun p=>(p.1,ρ p.2)) with|some a=>some a|none=>zfi P ρ o
 | .buildSlice t n parts=>zux P t n (parts.toList.map fun p=>(p.1,ρ p.2))
 | .load t x=>zzk P U t (ρ x)
 | .fieldAddr t x f=>zqb P t f (ρ x)
 | .indexAddr t x i=>zhv P t (ρ x) (ρ i)
 | .field t x f=>match qgo P t f (ρ x) with|some a=>some a|none=>zfi P ρ o
 | .index t x i=>match qgs P t (ρ x) (ρ i) with|some a=>some a|none=>zfi P ρ o
 | .slice t x lo hi mx=>match zwd P t (ρ x) (lo.map ρ) (hi.map ρ) (mx.map ρ) with|some a=>some a|none=>zfi P ρ o
 | .extract x i=>match ρ x with| .tup vs=>vs[i]? |_=>none
 | .makeFunc (.func f) first caps=>if first.size=0 then some (.clos f (caps.toList.map ρ)) else none
 | .call c=>match c.callee with
  | .builtin .len=>match c.args.toList,c.argTypes.toList with
   |[x],[t]=>match qjh P t (ρ x) with|some a=>some a|none=>zfi P ρ o
   |_,_=>none
  | .builtin .append=>none
  | .builtin _=>zfi P ρ o
  |_=>none
 | .convert s t x=>match zpv P s t (ρ x) with|some a=>some a|none=>zfi P ρ o
 | .nilCheck x=>match ρ x with| .ptr s off=>some (.ptr s off)| .iptr cs=>some (.iptr cs)|_=>zfi P ρ o
 | .alloc _| .box _ _| .store _ _ _=>none
 |_=>zfi P ρ o
def ResQ (IT:IterP)(X:Cx)(U:St)(a:AV)(r:Result Next):Prop:=
 ∃v X',r= .ok (.value v) X'.w/\ Ext X X'/\ Inv IT U X'/\ Rep IT X' a v/\ Grows X.w X'.w/\ X'.κ=X.κ/\ X'.β=X.β/\ X'.lens=X.lens/\ (X'.O=X.O/\ X'.C=X.C)/\ ∀b i,X'.F b i->X.F b i \/X.w.heap.size<=b
theorem zcg {a:AV} {r:Result Next} (v:Value)(h:r= .ok (.value v) X.w)(hI:Inv IT U X)(hr:Rep IT X a v):ResQ IT X U a r:=
 ⟨v,X,h,Ext.refl X,hI,hr,Grows.refl _,rfl,rfl,rfl,⟨rfl,rfl⟩,fun _ _ h=> .inl h⟩
theorem z0v {ρc:Operand->Value} {o:Oper} {a:AV} (h:zfi P ρ o=some a)(hρ: ∀x∈o.op.operands,Rep IT X (ρ x) (ρc x))(hI:Inv IT U X):
 ResQ IT X U a ((execOp ρc o).run P X.w):=by
 unfold zfi at h;split at h
 ·rename_i hall;have hcongr:(∀cs b,o.op≠ .select cs b)->execOp (zch ρ) o=execOp ρc o:=fun hs=>execOp_congr o hs fun x hx=>by
   have h1:=all_eq_true.1 hall x (Array.mem_toList_iff.2 hx);obtain⟨u,hu⟩:=Option.isSome_iff_exists.1 h1;rw[z4p hu (hρ x hx)];simp[zch,hu]
  have fin:(∀cs b,o.op≠ .select cs b)->(match val? P (execOp (zch ρ) o) with|some (.value v)=>if zpx v then some (zlu v) else none|_=>none)=some a->ResQ IT X U a ((execOp ρc o).run P X.w):=fun hs h=>by
   rw[hcongr hs] at h;split at h
   ·rename_i v hv;split at h
    ·rename_i hok;cases h;exact zcg v (val?_run _ _ hv _) hI (zjr v hok)
    ·cases h
   ·cases h
  revert h;split
  ·intro h;cases h
  ·rename_i hne;exact fin fun cs b e=>hne cs b e
 ·cases h
theorem zlv {ρc:Operand->Value}: ∀l:List (Nat×Operand),(∀p∈l,Rep IT X (ρ p.2) (ρc p.2))->zsc IT X (l.map fun p=>(p.1,ρ p.2)) (l.map fun p=>(p.1,ρc p.2))
 |[],_=>by simp[zsc]
 |p::l,h=>by rw[map_cons,map_cons,zsc];exact⟨_,_,rfl,h p (by simp),zlv l fun q hq=>h q (by simp[hq])⟩
theorem zss {ρc:Operand->Value}: ∀l:List Operand,(∀x∈l,Rep IT X (ρ x) (ρc x))->zbf IT X (l.map ρ) (l.map ρc)
 |[],_=>by simp[zbf]
 |x::l,h=>by rw[map_cons,map_cons,zbf];exact⟨_,_,rfl,h x (by simp),zss l fun y hy=>h y (by simp[hy])⟩
theorem zzw {ρc:Operand->Value} (x:Option Operand)(hρ: ∀y,x=some y->Rep IT X (ρ y) (ρc y)):qfu IT X (x.map ρ) (x.map ρc):=by
 cases x with
 |none=>rfl
 |some x=>exact⟨_,rfl,hρ x rfl⟩
theorem zpo (hIT:ITMono IT) {P:Program} {X:Cx} {U:St} {ρ:Operand->AV} {ρc:Operand->Value} {o:Oper} {a:AV} (h:qop P ρ U o=some a)(hρ: ∀x∈o.op.operands,Rep IT X (ρ x) (ρc x))(hI:Inv IT U X):
 ResQ IT X U a ((execOp ρc o).run P X.w):=by
 have raw:zfi P ρ o=some a->ResQ IT X U a ((execOp ρc o).run P X.w):=fun h=>z0v h hρ hI;unfold qop at h;split at h
 ·rename_i x ho;cases h;exact zcg _ (by simp[execOp,ho]) hI (hρ x (by simp[ho,Op.operands]))
 ·rename_i x ho;cases h;exact zcg _ (by simp[execOp,ho]) hI (hρ x (by simp[ho,Op.operands]))
 ·rename_i c x y ho;split at h<;>try cases h
  rename_i t hc;have hcv:=hρ c (by simp[ho,Op.operands]);rw[hc,Rep] at hcv;refine zcg (if t then ρc x else ρc y) (by simp[execOp,ho,hcv,asBool]) hI ?_;cases t
  ·exact hρ y (by simp[ho,Op.operands])
  ·exact hρ x (by simp[ho,Op.operands])
 ·rename_i t parts ho;split at h
  ·rename_i b hb;cases h;obtain⟨v,h1,h2⟩:=z3m (P:=P) (qs:=parts.map fun(i,x)=>(i,ρc x)) hb (by simpa using zlv (IT:=IT) (X:=X) (ρ:=ρ) (ρc:=ρc) parts.toList fun p hp=>hρ p.2 (by rw[ho];simp only[Op.operands,List.mem_toArray,mem_map];exact⟨p,hp,rfl⟩));exact zcg v (by simp[execOp,ho,h1]) hI h2
  ·exact raw h
 ·rename_i t n parts ho
  obtain⟨v,X',h1,h2,h3,h4,h5⟩: ∃v X',(Instr.buildSlice t n (parts.map fun(i,x)=>(i,ρc x))).run P X.w= .ok v X'.w/\ Ext X X'/\ Inv IT U X'/\ Rep IT X' a v/\
   Grows X.w X'.w/\ X'.κ=X.κ/\ X'.β=X.β/\ X'.lens=X.lens/\ (X'.O=X.O/\ X'.C=X.C)/\ ∀b i,X'.F b i->X.F b i \/X.w.heap.size<=b:=ztm hIT h (by simpa using zlv (IT:=IT) (X:=X) (ρ:=ρ) (ρc:=ρc) parts.toList fun p hp=>hρ p.2 (by rw[ho];simp only[Op.operands,List.mem_toArray,mem_map];exact⟨p,hp,rfl⟩)) hI
  exact⟨v,X',by simp[execOp,ho,h1],h2,h3,h4,h5⟩
 ·rename_i t x ho;obtain⟨v,h1,h2⟩:=ztd h (hρ x (by simp[ho,Op.operands])) hI;exact zcg v (by simp[execOp,ho,h1]) hI h2
 ·rename_i t x f ho;obtain⟨v,h1,h2⟩:=zsh h (hρ x (by simp[ho,Op.operands]));exact zcg v (by simp[execOp,ho,h1]) hI h2
 ·rename_i t x i ho;obtain⟨v,h1,h2⟩:=zsf h (hρ x (by simp[ho,Op.operands])) (hρ i (by simp[ho,Op.operands]));exact zcg v (by simp[execOp,ho,h1]) hI h2
 ·rename_i t x f ho;split at h
  ·rename_i b hb;cases h;obtain⟨v,h1,h2⟩:=z3k hb (hρ x (by simp[ho,Op.operands]));exact zcg v (by simp[execOp,ho,h1]) hI h2
  ·exact raw h
 ·rename_i t x i ho;split at h
  ·rename_i b hb;cases h;obtain⟨v,h1,h2⟩:=z0x hb (hρ x (by simp[ho,Op.operands])) (hρ i (by simp[ho,Op.operands]));exact zcg v (by simp[execOp,ho,h1]) hI h2
  ·exact raw h
 ·rename_i t x lo hi mx ho;split at h
  ·rename_i b hb;cases h;obtain⟨v,h1,h2⟩:=z1f (P:=P) hb (hρ x (by simp[ho,Op.operands])) (zzw lo fun y e=>hρ y (by simp[ho,Op.operands,e])) (zzw hi fun y e=>hρ y (by simp[ho,Op.operands,e])) (zzw mx fun y e=>hρ y (by simp[ho,Op.operands,e]));exact zcg v (by simp[execOp,ho,h1]) hI h2
  ·exact raw h
 ·rename_i x i ho;split at h<;>try cases h
  rename_i vs hx;have hv:=hρ x (by simp[ho,Op.operands]);rw[hx,Rep] at hv;obtain⟨us,e,hr⟩:=hv;obtain⟨u,hu,hr2⟩:=zei hr i a h;exact zcg u (by simp[execOp,ho,e,Instr.extract,hu]) hI hr2
 ·rename_i f first caps ho
  split at h<;>cases h
  rename_i h0;refine zcg (.func (.func f) #[] (caps.map ρc)) ?_ hI ?_
  ·have:first= #[]:=Array.eq_empty_of_size_eq_zero h0
   simp[execOp,ho,Instr.makeFunc,this]
  ·rw[Rep];refine⟨caps.toList.map ρc,by congr 1;apply Array.ext';simp,zss _ fun y hy=>hρ y (by simp[ho,Op.operands];exact .inr (by simpa using hy))⟩
 ·rename_i c ho;split at h
  ·rename_i hc;split at h
   ·rename_i x t hargs htys;split at h
    ·rename_i b hb;cases h;have e1:c.args= #[x]:=by apply Array.ext';simpa using hargs
     obtain⟨v,h1,h2⟩:=qba (P:=P) (ty:=o.type) hb (hρ x (by simp[ho,Op.operands,Call.operands,e1]));have e2:c.argTypes= #[t]:=by apply Array.ext';simpa using htys
     exact zcg v (by simp[execOp,ho,resolve,hc,invoke,builtin,e1,e2,h1]) hI h2
    ·exact raw h
   ·cases h
  ·cases h
  ·exact raw h
  ·cases h
 ·rename_i s t x ho;split at h
  ·rename_i b hb;cases h;obtain⟨v,h1,h2⟩:=zuh (P:=P) hb (hρ x (by simp[ho,Op.operands]));exact zcg v (by simp[execOp,ho,h1]) hI h2
  ·exact raw h
 ·rename_i x ho;have hx:=hρ x (by simp[ho,Op.operands]);split at h
  ·rename_i s off he;cases h;rw[he] at hx;have hx2:=hx;rw[Rep] at hx2;obtain⟨b,_,hv⟩:=hx2;exact zcg (ρc x) (by simp[execOp,ho,hv]) hI hx
  ·rename_i cs he;cases h;rw[he] at hx;have hx2:=hx;rw[Rep] at hx2;obtain⟨b,o',hv,_⟩:=hx2;exact zcg (ρc x) (by simp[execOp,ho,hv]) hI hx
  ·exact raw h
 ·cases h
 ·cases h
 ·cases h
 ·exact raw h
end Go.Ab
namespace Go.Fwd
open Go Go.RowKit
structure FenceOk (F:Fence)(P:Program):Prop where
 fn: ∀f,F.fn f
 depth:F.depth=none
 calls: ∀(n:Nat) (f:FuncId) (args:Array Value) (w:World) (R:Ending->World->Prop),Calls P f args w R->CallsIn F n P f args w R
 rows: ∀(n:Nat) (row:String) (args:Array Value) (w:World) (R:Value->World->Prop),Rows P row args w R->RowsIn F n P row args w R
 rounds: ∀(n l:Nat) (f:FuncId) (tmps:Array Value) (asg body:Code) (w:World) (R:Ending->World->Prop),RoundIn Fence.wide n P l f tmps asg body w R->RoundIn F n P l f tmps asg body w R
theorem ztg {n:Nat} {P:Program} {row:String} {args:Array Value} {w:World} {R:Value->World->Prop} (h:Rows P row args w R):RowsIn Fence.wide n P row args w R:=
 fun c cs _=>let⟨v,w',r,s⟩:=h c cs;⟨v,w',r,stepsIn_wide.2 s⟩
theorem zrv (P:Program):FenceOk Fence.wide P:=⟨fun _=>trivial,rfl,fun _ _ _ _ _ h=>callsIn_wide.2 h,fun _ _ _ _ _ h=>ztg h,fun _ _ _ _ _ _ _ _ h=>h⟩
theorem zoe (P:Program)(l:Nat):FenceOk (Fence.wide.inRound l) P:=⟨fun _=>trivial,rfl,fun _ _ _ _ _ h=>CallsIn.inRound l (callsIn_wide.2 h),fun n _ _ _ _ h=>(ztg (n:=n) h:RowsIn Fence.wide n _ _ _ _ _),fun _ _ _ _ _ _ _ _ h=>h⟩
section
variable {F:Fence} {nn:Nat} {P:Program} {ops:Array Oper} {w0:World} {a0:Act} {md:Region.Mode}
theorem znl {Q':Exit->Act->World->Prop}: ∀(l:List Oper) (k:Nat) (listed:Array Bool) (a:Act) (w:World),(∀j,l[j]? =ops[k+j]?)->
 Region.seqB md ops l.length k listed=true->wpListIn F nn P ops Q' l a w->wpAnyIn F nn P md ops Q' l.length listed a w
 |[],_,_,_,_,_,hB,h=>⟨by simpa[Region.seqB] using hB,h⟩
 | o::l,k,listed,a,w,hl,hB,h=>by
  have h0:ops[k]? =some o:=by simpa using(hl 0).symm
  simp only[List.length_cons,Region.seqB,and_eq_true,decide_eq_true_eq] at hB;refine⟨fun h1=>(by rw[hB.1] at h1;cases h1),fun i hi=> ?_⟩;rw[hB.1] at hi;have hik:i=k:=by simpa using hi
  subst hik;have hw:wpOpIn F nn P ops Q' i (wpListIn F nn P ops Q' l) a w:=by unfold wpOpIn;simp only[h0];exact h
  exact wpOpIn_mono (fun a' w' h'=>znl l (i+1) _ a' w' (fun j=>by have:=hl (j+1);simpa[Nat.add_assoc,Nat.add_comm 1 j] using this) hB.2 h') hw
end
end Go.Fwd
namespace Go.Ab
open Go Go.RowKit Go.Fwd
variable {IT:IterP} {X Y:Cx}
mutual
def zbe (n:Nat):AV->Bool
 | .agg cs=>zac n cs
 | .tup cs=>zac n cs
 | .list _ cs _=>zac n cs
 | .ptr s _=>decide (s<n)
 | .bsl s _ _ _ _=>decide (s<n)
 | .iptr cs=>zac n cs
 | .clos _ cs=>zac n cs
 | .iter _=>true
 | .yld _=>true
 | .raw _=>true
 | .top=>true
 | .bad=>true
def zac (n:Nat):List AV->Bool
 |[]=>true
 |a::l=>zbe n a&&zac n l
end
mutual
def zcz:AV->AV
 | .agg cs=> .agg (stripL cs)
 | .tup cs=> .tup (stripL cs)
 | .list n cs _=> .list n (stripL cs) .none
 | .ptr s o=> .ptr s o
 | .bsl s o n sz f=> .bsl s o n sz f
 | .iptr cs=> .iptr (stripL cs)
 | .clos f cs=> .clos f (stripL cs)
 | .iter xs=> .iter xs
 | .yld l=> .yld l
 | .raw v=> .raw v
 | .top=> .top
 | .bad=> .bad
def stripL:List AV->List AV
 |[]=>[]
 |a::l=>zcz a::stripL l
end
theorem zms: ∀l,stripL l=l.map zcz
 |[]=>by simp[stripL]
 |a::l=>by rw[stripL,zms l,map_cons]
theorem zuq (n:Nat): ∀l,zac n l=l.all (zbe n)
 |[]=>by simp[zac]
 |a::l=>by rw[zac,zuq n l,List.all_cons]
mutual
theorem zsk (hIT:ITMono IT) {X Y:Cx} {n:Nat} (hF:Y.F=X.F)(hw:Y.w=X.w)(hβ:Y.β=X.β)(hl:Y.lens=X.lens)(hκ:Y.κ=X.κ.take n): ∀(a:AV) (v:Value),zbe n a=true->Rep IT X a v->Rep IT Y a v
 | .raw u,v,_,hr=>hr
 | .agg cs,v,ho,⟨vs,e,hr,h1⟩=>⟨vs,e,zlt hIT hF hw hβ hl hκ cs vs (by simpa[zbe] using ho) hr,h1⟩
 | .tup cs,v,ho,⟨vs,e,hr⟩=>⟨vs,e,zlt hIT hF hw hβ hl hκ cs vs (by simpa[zbe] using ho) hr⟩
 | .list m cs st,v,ho,⟨a,cap,e,hcap,hc,hs⟩=>⟨a,cap,e,hcap,hc.imp id fun⟨b,o,e1,e2⟩=>⟨b,o,e1,z4t hIT hF hw hβ hl hκ cs b o (by simpa[zbe] using ho) e2⟩,by cases st<;>simp only[hl,hβ]<;>exact hs⟩
 | .ptr s off,v,ho,⟨b,e1,e2⟩=>⟨b,by rw[hκ,getElem?_take,if_pos (by simpa[zbe] using ho)];exact e1,e2⟩
 | .bsl s off m sz f,v,ho,hr=>Bsl.mono (fun b e1=>by rw[hκ,getElem?_take,if_pos (by simpa[zbe] using ho)];exact e1) hw hr
 | .iptr cs,v,ho,⟨b,o,e,hc⟩=>⟨b,o,e,z4t hIT hF hw hβ hl hκ cs b o (by simpa[zbe] using ho) hc⟩
 | .clos f caps,v,ho,⟨vs,e,hr⟩=>⟨vs,e,zlt hIT hF hw hβ hl hκ caps vs (by simpa[zbe] using ho) hr⟩
 | .iter xs,v,ho,h2=>hIT.it _ _ _ _ (fun b o h=>by rw[hF];exact h) (fun b o h=>by rw[hw]) (Szs.eq hw) h2
 | .yld _,_,_,hr=>hr
 | .top,_,_,hr=>hr
 | .bad,_,_,hr=>hr
theorem zlt (hIT:ITMono IT) {X Y:Cx} {n:Nat} (hF:Y.F=X.F)(hw:Y.w=X.w)(hβ:Y.β=X.β)(hl:Y.lens=X.lens)(hκ:Y.κ=X.κ.take n): ∀(l:List AV) (vs:List Value),zac n l=true->zbf IT X l vs->zbf IT Y l vs
 |[],_,_,hr=>hr
 | a::l,vs,ho,⟨v,r,e,h1,h2⟩=>by
  rw[zac,and_eq_true] at ho;exact⟨v,r,e,zsk hIT hF hw hβ hl hκ a v ho.1 h1,zlt hIT hF hw hβ hl hκ l r ho.2 h2⟩
theorem z4t (hIT:ITMono IT) {X Y:Cx} {n:Nat} (hF:Y.F=X.F)(hw:Y.w=X.w)(hβ:Y.β=X.β)(hl:Y.lens=X.lens)(hκ:Y.κ=X.κ.take n): ∀(cs:List AV) (b o:Nat),zac n cs=true->At IT X cs b o->At IT Y cs b o
 |[],_,_,_,_=>trivial
 | c::cs,b,o,ho,⟨⟨hf,v,hv,h1,hr⟩,ht⟩=>by
  rw[zac,and_eq_true] at ho;exact⟨⟨by rw[hF];exact hf,v,by rw[hw];exact hv,h1,zsk hIT hF hw hβ hl hκ c v ho.1 hr⟩,z4t hIT hF hw hβ hl hκ cs b (o+1) ho.2 ht⟩
end
mutual
theorem zio (hIT:ITMono IT) {X Y:Cx} (hF:Y.F=X.F)(hw:Y.w=X.w): ∀(a:AV) (v:Value),(zbe 0 a=true \/Y.κ=X.κ)->Rep IT X a v->Rep IT Y (zcz a) v
 | .raw u,v,_,hr=>hr
 | .agg cs,v,ho,⟨vs,e,hr,h1⟩=>⟨vs,e,zfm hIT hF hw cs vs (by simpa[zbe] using ho) hr,h1⟩
 | .tup cs,v,ho,⟨vs,e,hr⟩=>⟨vs,e,zfm hIT hF hw cs vs (by simpa[zbe] using ho) hr⟩
 | .list m cs st,v,ho,⟨a,cap,e,hcap,hc,hs⟩=>⟨a,cap,e,hcap,by
  rcases hc with rfl|⟨b,o,e1,e2⟩
  ·exact .inl (by simp[stripL])
  ·exact .inr ⟨b,o,e1,zzp hIT hF hw cs b o (by simpa[zbe] using ho) e2⟩,trivial⟩
 | .ptr s off,v,ho,⟨b,e1,e2⟩=>by
  rcases ho with ho|ho
  ·simp[zbe] at ho
  ·exact⟨b,by rw[ho];exact e1,e2⟩
 | .bsl s off m sz f,v,ho,hr=>by
  rcases ho with ho|ho
  ·simp[zbe] at ho
  ·exact Bsl.mono (fun b e1=>by rw[ho];exact e1) hw hr
 | .iptr cs,v,ho,⟨b,o,e,hc⟩=>⟨b,o,e,zzp hIT hF hw cs b o (by simpa[zbe] using ho) hc⟩
 | .clos f caps,v,ho,⟨vs,e,hr⟩=>⟨vs,e,zfm hIT hF hw caps vs (by simpa[zbe] using ho) hr⟩
 | .iter xs,v,ho,h2=>hIT.it _ _ _ _ (fun b o h=>by rw[hF];exact h) (fun b o h=>by rw[hw]) (Szs.eq hw) h2
 | .yld _,_,_,hr=>hr
 | .top,_,_,hr=>hr
 | .bad,_,_,hr=>hr
theorem zfm (hIT:ITMono IT) {X Y:Cx} (hF:Y.F=X.F)(hw:Y.w=X.w): ∀(l:List AV) (vs:List Value),(zac 0 l=true \/Y.κ=X.κ)->zbf IT X l vs->zbf IT Y (stripL l) vs
 |[],_,_,hr=>hr
 | a::l,vs,ho,⟨v,r,e,h1,h2⟩=>by
  rw[zac,and_eq_true] at ho;exact⟨v,r,e,zio hIT hF hw a v (ho.imp And.left id) h1,zfm hIT hF hw l r (ho.imp And.right id) h2⟩
theorem zzp (hIT:ITMono IT) {X Y:Cx} (hF:Y.F=X.F)(hw:Y.w=X.w): ∀(cs:List AV) (b o:Nat),(zac 0 cs=true \/Y.κ=X.κ)->At IT X cs b o->At IT Y (stripL cs) b o
 |[],_,_,_,_=>trivial
 | c::cs,b,o,ho,⟨⟨hf,v,hv,h1,hr⟩,ht⟩=>by
  rw[zac,and_eq_true] at ho;exact⟨⟨by rw[hF];exact hf,v,by rw[hw];exact hv,h1,zio hIT hF hw c v (ho.imp And.left id) hr⟩,zzp hIT hF hw cs b (o+1) (ho.imp And.right id) ht⟩
end
mutual
theorem z0f (hIT:ITMono IT) {X Y:Cx} (hF:Y.F=X.F)(hw:Y.w=X.w)(h0:X.κ=[])(hl:X.lens=[]): ∀(a:AV) (v:Value),Rep IT X a v->Rep IT Y a v
 | .raw u,v,hr=>hr
 | .agg cs,v,⟨vs,e,hr,h1⟩=>⟨vs,e,zph hIT hF hw h0 hl cs vs hr,h1⟩
 | .tup cs,v,⟨vs,e,hr⟩=>⟨vs,e,zph hIT hF hw h0 hl cs vs hr⟩
 | .list m cs st,v,⟨a,cap,e,hcap,hc,hs⟩=>⟨a,cap,e,hcap,hc.imp id fun⟨b,o,e1,e2⟩=>⟨b,o,e1,z7b hIT hF hw h0 hl cs b o e2⟩,by
  cases st with
  |none=>trivial
  |full=>exact hs
  |own s=>obtain⟨L,k1,_⟩:=hs;rw[hl] at k1;simp at k1⟩
 | .ptr s off,v,⟨b,e1,e2⟩=>by rw[h0] at e1;simp at e1
 | .bsl s off m sz f,v,⟨b,_,_,_,e1,_⟩=>by rw[h0] at e1;simp at e1
 | .iptr cs,v,⟨b,o,e,hc⟩=>⟨b,o,e,z7b hIT hF hw h0 hl cs b o hc⟩
 | .clos f caps,v,⟨vs,e,hr⟩=>⟨vs,e,zph hIT hF hw h0 hl caps vs hr⟩
 | .iter xs,v,h2=>hIT.it _ _ _ _ (fun b o h=>by rw[hF];exact h) (fun b o h=>by rw[hw]) (Szs.eq hw) h2
 | .yld _,_,hr=>hr
 | .top,_,hr=>hr
 | .bad,_,hr=>hr
theorem zph (hIT:ITMono IT) {X Y:Cx} (hF:Y.F=X.F)(hw:Y.w=X.w)(h0:X.κ=[])(hl:X.lens=[]): ∀(l:List AV) (vs:List Value),zbf IT X l vs->zbf IT Y l vs
 |[],_,hr=>hr
 |a::l,vs,⟨v,r,e,h1,h2⟩=>⟨v,r,e,z0f hIT hF hw h0 hl a v h1,zph hIT hF hw h0 hl l r h2⟩
theorem z7b (hIT:ITMono IT) {X Y:Cx} (hF:Y.F=X.F)(hw:Y.w=X.w)(h0:X.κ=[])(hl:X.lens=[]): ∀(cs:List AV) (b o:Nat),At IT X cs b o->At IT Y cs b o
 |[],_,_,_=>trivial
 |c::cs,b,o,⟨⟨hf,v,hv,h1,hr⟩,ht⟩=>⟨⟨by rw[hF];exact hf,v,by rw[hw];exact hv,h1,z0f hIT hF hw h0 hl c v hr⟩,z7b hIT hF hw h0 hl cs b (o+1) ht⟩
end
def St.empty:St:=⟨[],[],[],0,false⟩
def Ent (P:Program)(f:FuncId):Prop:= ∀args w,(callFunc f args).run P w= .ok (.enter f args) w
def Snd (IT:IterP)(P:Program)(f:FuncId)(args:List AV)(U:St)(r:AV)(U':St):Prop:=
 Ent P f/\ ∀(X:Cx) (vs:List Value),Inv IT U X->zbf IT X args vs->Calls P f vs.toArray X.w fun e w'=> ∃v X',e= .returned v/\ X'.w=w'/\ Ext X X'/\ Inv IT U' X'/\ Rep IT X' r v
def Pure (IT:IterP)(P:Program)(f:FuncId)(args:List AV)(r:AV):Prop:=Snd IT P f args St.empty r St.empty
theorem zvd {U:St} (hI:Inv IT U X):Inv IT St.empty ⟨X.F,[],[],[],X.w,fun _=>False,fun _ _=>False⟩ where
 lens:=rfl
 elems:=rfl
 κlen:=rfl
 κnd:=fun s s' b h=>by simp at h
 box:=fun s b t cs h=>by simp at h
 κF:=fun s b t cs h=>by simp at h
 βlen:=rfl
 βnd:=List.nodup_nil
 βκ:=fun r h=>by simp at h
 row:=fun s r L h=>by simp at h
 Ok:=fun b h=>h.elim
 Fcell:=hI.Fcell
 gv:=hI.gv
theorem zle (hIT:ITMono IT) {P:Program} {f:FuncId} {args args':List AV} {r:AV} (h:Pure IT P f args' r)(hargs:stripL args=args')(hok:zac 0 args=true) {U:St} {X:Cx} (hI:Inv IT U X) {vs:List Value} (hr:zbf IT X args vs):
 Calls P f vs.toArray X.w fun e w'=> ∃v X',e= .returned v/\ X'.w=w'/\ Ext X X'/\ Inv IT U X'/\ Rep IT X' r v/\ Grows X.w X'.w/\ X'.κ=X.κ/\ X'.β=X.β/\ X'.lens=X.lens/\ (X'.O=X.O/\ X'.C=X.C)/\ ∀b i,X'.F b i->X.F b i \/X.w.heap.size<=b:=by
 subst hargs;have h0:zbf IT ⟨X.F,[],[],[],X.w,fun _=>False,fun _ _=>False⟩ (stripL args) vs:=zfm (X:=X) (Y:=⟨X.F,[],[],[],X.w,fun _=>False,fun _ _=>False⟩) hIT rfl rfl args vs (.inl hok) hr;refine(h.2 ⟨X.F,[],[],[],X.w,fun _=>False,fun _ _=>False⟩ vs (zvd hI) h0).mono ?_;rintro e w' ⟨v,Y,rfl,rfl,hE,hIY,hv⟩;have hκ:Y.κ=[]:=by have:=hIY.κlen;simpa[St.empty] using this
 have hl:Y.lens=[]:=hIY.lens;have hblk: ∀b,b<X.w.heap.size->Y.w.heap[b]? =X.w.heap[b]? :=fun b hb=>hE.frame b hb (by simp) (by simp);have hg:Grows X.w Y.w:=⟨⟨hE.os,hE.tape,hE.output,hE.size,hblk⟩,hE.drawn⟩;have hFn: ∀b i,Y.F b i->X.F b i \/X.w.heap.size<=b:=fun b i hf=>by
  rcases hE.Fnew b i hf with h|h|⟨q,hq,_⟩|h
  ·exact .inl h
  ·exact .inr h
  ·simp at hq
  ·simp at h
 have hX:Ext X ⟨Y.F,X.κ,X.β,X.lens,Y.w,X.O,X.C⟩:={
  os:=hE.os,tape:=hE.tape,output:=hE.output,size:=hE.size,drawn:=hE.drawn,F:=hE.F,cell:=hE.cell
  κ:=fun _ _ h=>h
  lens:=fun s L h=>⟨L,h,le_refl _,fun _=>rfl⟩
  blk:=fun s b hs cur t f h=>⟨cur,(hblk b (hI.κlt (mem_of_getElem? hs))).trans h,rfl⟩
  szs:=Szs.old hblk
  frame:=fun b hb _ _=>hblk b hb
  κnew:=fun _ h=> .inl h
  βnew:=fun r h=> .inl ⟨r,h,rfl⟩
  O:=rfl
  C:=rfl
  Fnew:=fun b i hf=>(hFn b i hf).imp id .inl}
 refine⟨v,⟨Y.F,X.κ,X.β,X.lens,Y.w,X.O,X.C⟩,rfl,rfl,hX,?_,z0f (X:=Y) (Y:=⟨Y.F,X.κ,X.β,X.lens,Y.w,X.O,X.C⟩) hIT rfl rfl hκ hl r v hv,hg,rfl,rfl,rfl,⟨rfl,rfl⟩,hFn⟩;refine {lens:=hI.lens,elems:=hI.elems,κlen:=hI.κlen,κnd:=hI.κnd,box:= ?_,κF:= ?_,βlen:=hI.βlen,βnd:=hI.βnd,βκ:=hI.βκ,row:= ?_,Ok:= ?_,Fcell:=hIY.Fcell}
 ·intro s b t cs hs hb;obtain⟨us,zs,u1,u2,u3⟩:=hI.box s b t cs hs hb;exact⟨us,zs,(hblk b (hI.κlt (mem_of_getElem? hs))).trans u1,zam hIT hX _ _ u2,u3⟩
 ·intro s b t cs hs hb hc o hf;rcases hFn b o hf with h|h
  ·exact hI.κF s b t cs hs hb hc o h
  ·have:=hI.κlt (mem_of_getElem? hs);omega
 ·intro s q L hq hL;obtain⟨cur,fz,c1,c2,c3,c4,c5,c6,c7⟩:=hI.row s q L hq hL;have hlt:=hI.βlt (mem_of_getElem? hq);refine⟨cur,fz,(hblk _ hlt).trans c1,c2,c3,c4,c5,fun o hf=> ?_,c7⟩;rcases hFn _ o hf with h|h
  ·exact c6 o h
  ·omega
 ·intro b ho;obtain⟨⟨cs0,t0,f0,h0⟩,h2,h3,h4⟩:=hI.Ok b ho;have hlt:=hI.Olt ho;exact⟨⟨cs0,t0,f0,(hblk b hlt).trans h0⟩,h2,h3,fun o hf=>(hFn b o hf).elim (h4 o) fun h=>by omega⟩
abbrev FZ:=(Nat->Nat->AV)×(Nat->Nat->Nat->Nat->AV)
mutual
def zgu (g:FZ):AV->AV
 | .raw u=> .raw u
 | .agg cs=> .agg (zcs g cs)
 | .tup cs=> .tup (zcs g cs)
 | .list n cs _=> .list n (zcs g cs) .none
 | .ptr s off=>g.1 s off
 | .bsl s off n sz _=>g.2 s off n sz
 | .iptr cs=> .iptr (zcs g cs)
 | .clos f caps=> .clos f (zcs g caps)
 | .iter xs=> .iter xs
 | .yld l=> .yld l
 | .top=> .top
 | .bad=> .bad
def zcs (g:FZ):List AV->List AV
 |[]=>[]
 |a::l=>zgu g a::zcs g l
end
def frz (bs:List (TypeId×List AV)):Nat->FZ
 |0=>(fun _ _=> .top,fun _ _ _ _=> .top)
 | n+1=>(fun s off=> .iptr (zcs (frz bs n) (((bs[s]?).map fun b=>b.2.drop off).getD [])),
  fun s off m sz=> .list m ((zcs (frz bs n) (((bs[s]?).map fun b=>b.2.drop off).getD [])).take (m*sz)) .none)
mutual
theorem zre (hIT:ITMono IT) {X Y:Cx} {g:FZ} (hF: ∀b o,X.F b o->Y.F b o)(hw:Y.w=X.w)(hg:(∀s off v,Rep IT X (.ptr s off) v->Rep IT Y (g.1 s off) v)/\ ∀s off n sz f v,Rep IT X (.bsl s off n sz f) v->Rep IT Y (g.2 s off n sz) v): ∀(a:AV) (v:Value),Rep IT X a v->Rep IT Y (zgu g a) v
 | .raw u,v,hr=>hr
 | .agg cs,v,⟨vs,e,hr,h1⟩=>⟨vs,e,zgm hIT hF hw hg cs vs hr,h1⟩
 | .tup cs,v,⟨vs,e,hr⟩=>⟨vs,e,zgm hIT hF hw hg cs vs hr⟩
 | .list m cs st,v,⟨a,cap,e,hcap,hc,hs⟩=>⟨a,cap,e,hcap,hc.imp (fun h=>by subst h;rfl) fun⟨b,o,e1,e2⟩=>⟨b,o,e1,zut hIT hF hw hg cs b o e2⟩,trivial⟩
 | .ptr s off,v,hr=>hg.1 s off v hr
 | .bsl s off n sz f,v,hr=>hg.2 s off n sz f v hr
 | .iptr cs,v,⟨b,o,e,hc⟩=>⟨b,o,e,zut hIT hF hw hg cs b o hc⟩
 | .clos f caps,v,⟨vs,e,hr⟩=>⟨vs,e,zgm hIT hF hw hg caps vs hr⟩
 | .iter xs,v,h2=>hIT.it _ _ _ _ hF (fun b o h=>by rw[hw]) (Szs.eq hw) h2
 | .yld _,_,hr=>hr
 | .top,_,hr=>hr
 | .bad,_,hr=>hr
theorem zgm (hIT:ITMono IT) {X Y:Cx} {g:FZ} (hF: ∀b o,X.F b o->Y.F b o)(hw:Y.w=X.w)(hg:(∀s off v,Rep IT X (.ptr s off) v->Rep IT Y (g.1 s off) v)/\ ∀s off n sz f v,Rep IT X (.bsl s off n sz f) v->Rep IT Y (g.2 s off n sz) v): ∀(l:List AV) (vs:List Value),zbf IT X l vs->zbf IT Y (zcs g l) vs
 |[],_,hr=>hr
 |a::l,vs,⟨v,r,e,h1,h2⟩=>⟨v,r,e,zre hIT hF hw hg a v h1,zgm hIT hF hw hg l r h2⟩
theorem zut (hIT:ITMono IT) {X Y:Cx} {g:FZ} (hF: ∀b o,X.F b o->Y.F b o)(hw:Y.w=X.w)(hg:(∀s off v,Rep IT X (.ptr s off) v->Rep IT Y (g.1 s off) v)/\ ∀s off n sz f v,Rep IT X (.bsl s off n sz f) v->Rep IT Y (g.2 s off n sz) v): ∀(cs:List AV) (b o:Nat),At IT X cs b o->At IT Y (zcs g cs) b o
 |[],_,_,_=>trivial
 |c::cs,b,o,⟨⟨hf,v,hv,h1,hr⟩,ht⟩=>⟨⟨hF b o hf,v,by rw[hw];exact hv,h1,zre hIT hF hw hg c v hr⟩,zut hIT hF hw hg cs b (o+1) ht⟩
end
def qjd (Y:Cx)(b o:Nat):Prop:=Y.F b o \/b∈Y.κ/\ ∃v,Y.w.cell? ⟨b,o,none⟩=some v
theorem qhy (hIT:ITMono IT) {U:St} {Y:Cx} {O C} (hI:Inv IT U Y): ∀n,(∀s off v,Rep IT Y (.ptr s off) v->Rep IT ⟨qjd Y,[],[],[],Y.w,O,C⟩ ((frz U.boxes n).1 s off) v)/\
 ∀s off m sz f v,Rep IT Y (.bsl s off m sz f) v->Rep IT ⟨qjd Y,[],[],[],Y.w,O,C⟩ ((frz U.boxes n).2 s off m sz) v:=by
 intro n;induction n with
 |zero=>exact⟨fun _ _ _ _=>trivial,fun _ _ _ _ _ _ _=>trivial⟩
 | succ n ih=>
  have key: ∀(s b off:Nat),Y.κ[s]? =some b->At IT ⟨qjd Y,[],[],[],Y.w,O,C⟩ (zcs (frz U.boxes n) (((U.boxes[s]?).map fun b=>b.2.drop off).getD [])) b off:=fun s b off hb=>by
   have hs:s<U.boxes.length:=by rw[<-hI.κlen];exact(List.getElem?_eq_some_iff.1 hb).1
   obtain⟨us,zs,u1,u2,u3⟩:=hI.box s b (U.boxes[s]).1 (U.boxes[s]).2 hb (by simp[hs]);simp only[getElem?_eq_getElem hs,map_some,getD_some];have hcell: ∀(i:Nat) v,(us.drop off)[i]? =some v->Y.w.cell? ⟨b,off+i,none⟩=some v:=fun i v hv=>by
    rw[List.getElem?_drop] at hv;have:=(List.getElem?_eq_some_iff.1 hv).1;unfold World.cell?;simp[u1,getElem?_append_left this,hv]
   exact z1d (fun i hi=> .inr ⟨mem_of_getElem? hb,_,hcell i _ (getElem?_eq_getElem hi)⟩) (fun v hv=>u3 v (List.mem_of_mem_drop hv)) (zgm (Y:=⟨qjd Y,[],[],[],Y.w,O,C⟩) hIT (fun b o h=>Or.inl h) rfl ih _ _ (zih u2 off)) hcell
  refine⟨?_,?_⟩
  ·rintro s off v ⟨b,hb,rfl⟩;exact⟨b,off,rfl,key s b off hb⟩
  ·rintro s off m sz f v ⟨b,cap,cur,t,hb,rfl,hcap,hful,_⟩;exact⟨_,cap,rfl,⟨hcap,fun h=>by cases h⟩,.inr ⟨b,off,rfl,zzn _ (key s b off hb)⟩,trivial⟩
def zyn:AV->Bool
 | .raw _=>true
 |_=>false
def z4m:AV->Bool
 | .raw _=>true
 | .agg cs=>cs.all zyn
 | .tup cs=>cs.all zyn
 |_=>false
theorem zmc: ∀(l:List AV) (vs:List Value),l.all zyn=true->zbf IT X l vs->zbf IT Y l vs
 |[],_,_,h=>h
 | a::l,vs,ho,⟨v,r,e,h1,h2⟩=>by
  rw[List.all_cons,and_eq_true] at ho;refine⟨v,r,e,?_,zmc l r ho.2 h2⟩;cases a with
  |raw u=>exact h1
  |_=>simp[zyn] at ho
theorem qay {a:AV} {v:Value} (ho:z4m a=true)(h:Rep IT X a v):Rep IT Y a v:=by
 cases a with
 |raw u=>exact h
 |agg cs=>obtain⟨vs,e,h1,h2⟩:=h;exact⟨vs,e,zmc cs vs ho h1,h2⟩
 |tup cs=>obtain⟨vs,e,h1⟩:=h;exact⟨vs,e,zmc cs vs ho h1⟩
 |_=>simp[z4m] at ho
theorem qml (hIT:ITMono IT) {P:Program} {f:FuncId} {args args':List AV} {r:AV} (n:Nat) {U:St} (h:Pure IT P f args' r)(hargs:zcs (frz U.boxes n) args=args')(hraw:z4m r=true) {X:Cx} (hI:Inv IT U X) {vs:List Value} (hr:zbf IT X args vs):
 Calls P f vs.toArray X.w fun e w'=> ∃v X',e= .returned v/\ X'.w=w'/\ Ext X X'/\ Inv IT U X'/\ Rep IT X' r v:=by
 subst hargs;have h0:zbf IT ⟨qjd X,[],[],[],X.w,fun _=>False,fun _ _=>False⟩ (zcs (frz U.boxes n) args) vs:=zgm (Y:=⟨qjd X,[],[],[],X.w,fun _=>False,fun _ _=>False⟩) hIT (fun b o h=>Or.inl h) rfl (qhy hIT hI n) args vs hr
 have hI0:Inv IT St.empty ⟨qjd X,[],[],[],X.w,fun _=>False,fun _ _=>False⟩:={zvd hI with
  gv:=hIT.gv _ _ _ _ (fun b o h=>Or.inl h) (fun _ _ _=>rfl) (Szs.refl _) hI.gv
  box:=fun s b t cs h=>by simp at h
  κF:=fun s b t cs h=>by simp at h
  row:=fun s r L h=>by simp at h
  Ok:=fun b h=>h.elim
  Fcell:=fun b o hf=>hf.elim (hI.Fcell b o) And.right}
 refine(h.2 ⟨qjd X,[],[],[],X.w,fun _=>False,fun _ _=>False⟩ vs hI0 h0).mono ?_;rintro e w' ⟨v,Y,rfl,rfl,hE,hIY,hv⟩;have hblk: ∀b,b<X.w.heap.size->Y.w.heap[b]? =X.w.heap[b]? :=fun b hb=>hE.frame b hb (by simp) (by simp);have hFn: ∀b i,((Y.F b i/\ b∉X.κ) \/X.F b i)->X.F b i \/X.w.heap.size<=b:=fun b i h=>by
  rcases h with⟨hf,hk⟩|h
  ·rcases hE.Fnew b i hf with(h|⟨h,_⟩)|h|⟨q,hq,_⟩|h
   ·exact .inl h
   ·exact absurd h hk
   ·exact .inr h
   ·simp at hq
   ·simp at h
  ·exact .inl h
 have hX:Ext X ⟨fun b o=>(Y.F b o/\ b∉X.κ) \/X.F b o,X.κ,X.β,X.lens,Y.w,X.O,X.C⟩:={
  os:=hE.os,tape:=hE.tape,output:=hE.output,size:=hE.size,drawn:=hE.drawn
  F:=fun b o h=> .inr h
  cell:=fun b o h=>hE.cell b o (.inl h)
  κ:=fun _ _ h=>h
  lens:=fun s L h=>⟨L,h,le_refl _,fun _=>rfl⟩
  blk:=fun s b hs cur t f h=>⟨cur,(hblk b (hI.κlt (mem_of_getElem? hs))).trans h,rfl⟩
  szs:=Szs.old hblk
  frame:=fun b hb _ _=>hblk b hb
  κnew:=fun _ h=> .inl h
  βnew:=fun r h=> .inl ⟨r,h,rfl⟩
  O:=rfl
  C:=rfl
  Fnew:=fun b i hf=>(hFn b i hf).imp id .inl}
 refine⟨v,⟨fun b o=>(Y.F b o/\ b∉X.κ) \/X.F b o,X.κ,X.β,X.lens,Y.w,X.O,X.C⟩,rfl,rfl,hX,?_,qay hraw hv⟩;refine {lens:=hI.lens,elems:=hI.elems,κlen:=hI.κlen,κnd:=hI.κnd,box:= ?_,κF:= ?_,βlen:=hI.βlen,βnd:=hI.βnd,βκ:=hI.βκ,row:= ?_,Ok:= ?_,Fcell:=fun b o hf=>hIY.Fcell b o (hf.elim And.left fun h=>hE.F b o (.inl h))}
 ·intro s b t cs hs hb;obtain⟨us,zs,u1,u2,u3⟩:=hI.box s b t cs hs hb;exact⟨us,zs,(hblk b (hI.κlt (mem_of_getElem? hs))).trans u1,zam hIT hX _ _ u2,u3⟩
 ·intro s b t cs hs hb hc o hf;rcases hf with⟨_,hf⟩|hf
  ·exact hf (mem_of_getElem? hs)
  ·exact hI.κF s b t cs hs hb hc o hf
 ·intro s q L hq hL;obtain⟨cur,fz,c1,c2,c3,c4,c5,c6,c7⟩:=hI.row s q L hq hL;have hlt:=hI.βlt (mem_of_getElem? hq);refine⟨cur,fz,(hblk _ hlt).trans c1,c2,c3,c4,c5,fun o hf=> ?_,c7⟩;rcases hFn _ o hf with h|h
  ·exact c6 o h
  ·omega
 ·intro b ho;obtain⟨⟨cs0,t0,f0,h0⟩,h2,h3,h4⟩:=hI.Ok b ho;have hlt:=hI.Olt ho;exact⟨⟨cs0,t0,f0,(hblk b hlt).trans h0⟩,h2,h3,fun o hf=>(hFn b o hf).elim (h4 o) fun h=>by omega⟩
variable {IT:IterP} {U:St} {Y:Cx} {n:Nat}
mutual
def clo:AV->Bool
 | .agg cs=>cloL cs
 | .tup cs=>cloL cs
 | .list _ cs st=>(match st with| .none=>true|_=>false)&&cloL cs
 | .ptr _ _=>false
 | .bsl _ _ _ _ _=>false
 | .iptr cs=>cloL cs
 | .clos _ cs=>cloL cs
 | .iter _=>true
 | .yld _=>true
 | .raw _=>true
 | .top=>true
 | .bad=>true
def cloL:List AV->Bool
 |[]=>true
 |a::l=>clo a&&cloL l
end
theorem zfk: ∀l m,cloL (l++m)=(cloL l&&cloL m)
 |[],m=>by simp[cloL]
 |a::l,m=>by rw[List.cons_append,cloL,cloL,zfk l m,Bool.and_assoc]
mutual
theorem z2t: ∀a:AV,clo a=true->zcz a=a
 | .agg cs,h=>by rw[zcz,zds cs (by simpa[clo] using h)]
 | .tup cs,h=>by rw[zcz,zds cs (by simpa[clo] using h)]
 | .list n cs st,h=>by
  simp only[clo,and_eq_true] at h;rw[zcz,zds cs h.2];cases st<;>first|rfl|simp at h
 | .ptr _ _,h=>by simp[clo] at h
 | .bsl _ _ _ _ _,h=>by simp[clo] at h
 | .iptr cs,h=>by rw[zcz,zds cs (by simpa[clo] using h)]
 | .clos f cs,h=>by rw[zcz,zds cs (by simpa[clo] using h)]
 | .iter _,_=>by rw[zcz]
 | .yld _,_=>by rw[zcz]
 | .raw _,_=>by rw[zcz]
 | .top,_=>by rw[zcz]
 | .bad,_=>by rw[zcz]
theorem zds: ∀l:List AV,cloL l=true->stripL l=l
 |[],_=>by rw[stripL]
 | a::l,h=>by
  rw[cloL,and_eq_true] at h;rw[stripL,z2t a h.1,zds l h.2]
end
mutual
theorem zbd (n:Nat): ∀a:AV,clo a=true->zbe n a=true
 | .agg cs,h=>by rw[zbe,zab n cs (by simpa[clo] using h)]
 | .tup cs,h=>by rw[zbe,zab n cs (by simpa[clo] using h)]
 | .list m cs st,h=>by
  simp only[clo,and_eq_true] at h;rw[zbe,zab n cs h.2]
 | .ptr _ _,h=>by simp[clo] at h
 | .bsl _ _ _ _ _,h=>by simp[clo] at h
 | .iptr cs,h=>by rw[zbe,zab n cs (by simpa[clo] using h)]
 | .clos f cs,h=>by rw[zbe,zab n cs (by simpa[clo] using h)]
 | .iter _,_=>by rw[zbe]
 | .yld _,_=>by rw[zbe]
 | .raw _,_=>by rw[zbe]
 | .top,_=>by rw[zbe]
 | .bad,_=>by rw[zbe]
theorem zab (n:Nat): ∀l:List AV,cloL l=true->zac n l=true
 |[],_=>by rw[zac]
 | a::l,h=>by
  rw[cloL,and_eq_true] at h;rw[zac,zbd n a h.1,zab n l h.2];rfl
end
mutual
theorem qcg (g:FZ): ∀a:AV,clo a=true->zgu g a=a
 | .agg cs,h=>by rw[zgu,zcy g cs (by simpa[clo] using h)]
 | .tup cs,h=>by rw[zgu,zcy g cs (by simpa[clo] using h)]
 | .list n cs st,h=>by
  simp only[clo,and_eq_true] at h;rw[zgu,zcy g cs h.2];cases st<;>first|rfl|simp at h
 | .ptr _ _,h=>by simp[clo] at h
 | .bsl _ _ _ _ _,h=>by simp[clo] at h
 | .iptr cs,h=>by rw[zgu,zcy g cs (by simpa[clo] using h)]
 | .clos f cs,h=>by rw[zgu,zcy g cs (by simpa[clo] using h)]
 | .iter _,_=>by rw[zgu]
 | .yld _,_=>by rw[zgu]
 | .raw _,_=>by rw[zgu]
 | .top,_=>by rw[zgu]
 | .bad,_=>by rw[zgu]
theorem zcy (g:FZ): ∀l:List AV,cloL l=true->zcs g l=l
 |[],_=>by rw[zcs]
 | a::l,h=>by
  rw[cloL,and_eq_true] at h;rw[zcs,qcg g a h.1,zcy g l h.2]
end
def qem (m:Nat):Room->Room
 | .own s=>if s<m then .own s else .none
 |r=>r
mutual
def zhq (m:Nat)(g:FZ):AV->AV
 | .raw u=> .raw u
 | .agg cs=> .agg (zx m g cs)
 | .tup cs=> .tup (zx m g cs)
 | .list n cs st=> .list n (zx m g cs) (match zx m g cs with|c=>qem m st)
 | .ptr s off=>g.1 s off
 | .bsl s off n sz _=>g.2 s off n sz
 | .iptr cs=> .iptr (zx m g cs)
 | .clos f caps=> .clos f (zx m g caps)
 | .iter xs=> .iter xs
 | .yld l=> .yld l
 | .top=> .top
 | .bad=> .bad
def zx (m:Nat)(g:FZ):List AV->List AV
 |[]=>[]
 |a::l=>zhq m g a::zx m g l
end
theorem zrt (m:Nat)(g:FZ): ∀l,(zx m g l).length=l.length
 |[]=>by simp[zx]
 |a::l=>by simp[zx,zrt m g l]
mutual
theorem zo (m:Nat)(g:FZ): ∀a:AV,clo a=true->zhq m g a=a
 | .agg cs,h=>by rw[zhq,zal m g cs (by simpa[clo] using h)]
 | .tup cs,h=>by rw[zhq,zal m g cs (by simpa[clo] using h)]
 | .list n cs st,h=>by
  simp only[clo,and_eq_true] at h;rw[zhq,zal m g cs h.2];cases st<;>first|rfl|simp at h
 | .ptr _ _,h=>by simp[clo] at h
 | .bsl _ _ _ _ _,h=>by simp[clo] at h
 | .iptr cs,h=>by rw[zhq,zal m g cs (by simpa[clo] using h)]
 | .clos f cs,h=>by rw[zhq,zal m g cs (by simpa[clo] using h)]
 | .iter _,_=>by rw[zhq]
 | .yld _,_=>by rw[zhq]
 | .raw _,_=>by rw[zhq]
 | .top,_=>by rw[zhq]
 | .bad,_=>by rw[zhq]
theorem zal (m:Nat)(g:FZ): ∀l:List AV,cloL l=true->zx m g l=l
 |[],_=>by rw[zx]
 | a::l,h=>by
  rw[cloL,and_eq_true] at h;rw[zx,zo m g a h.1,zal m g l h.2]
end
mutual
theorem zkm (hIT:ITMono IT) {X Y:Cx} {m:Nat} {g:FZ} (hF: ∀b o,X.F b o->Y.F b o)(hw:Y.w=X.w)(hl: ∀s,s<m->Y.lens[s]? =X.lens[s]? /\ Y.β[s]? =X.β[s]?)
 (hg:(∀s off v,Rep IT X (.ptr s off) v->Rep IT Y (g.1 s off) v)/\ ∀s off n sz f v,Rep IT X (.bsl s off n sz f) v->Rep IT Y (g.2 s off n sz) v): ∀(a:AV) (v:Value),Rep IT X a v->Rep IT Y (zhq m g a) v
 | .raw u,v,hr=>hr
 | .agg cs,v,⟨vs,e,hr,h1⟩=>⟨vs,e,zdb hIT hF hw hl hg cs vs hr,h1⟩
 | .tup cs,v,⟨vs,e,hr⟩=>⟨vs,e,zdb hIT hF hw hl hg cs vs hr⟩
 | .list n cs st,v,⟨a,cap,e,hcap,hc,hs⟩=>⟨a,cap,e,hcap,hc.imp (fun h=>by subst h;rfl) fun⟨b,o,e1,e2⟩=>⟨b,o,e1,z5v hIT hF hw hl hg cs b o e2⟩,by
  cases st with
  |none=>trivial
  |full=>exact hs
  | own s=>
   simp only[qem];split
   ·trivial
   ·rename_i h2;split at h2<;>cases h2
   ·rename_i s' h2;split at h2<;>cases h2
    rename_i hlt;obtain⟨L,k1,k2,k3⟩:=hs;rw[zrt];exact⟨L,by rw[(hl s hlt).1];exact k1,k2,fun e'=>by
     obtain⟨r,r1,r2⟩:=k3 e';exact⟨r,by rw[(hl s hlt).2];exact r1,r2⟩⟩⟩
 | .ptr s off,v,hr=>hg.1 s off v hr
 | .bsl s off n sz f,v,hr=>hg.2 s off n sz f v hr
 | .iptr cs,v,⟨b,o,e,hc⟩=>⟨b,o,e,z5v hIT hF hw hl hg cs b o hc⟩
 | .clos f caps,v,⟨vs,e,hr⟩=>⟨vs,e,zdb hIT hF hw hl hg caps vs hr⟩
 | .iter xs,v,h2=>hIT.it _ _ _ _ hF (fun b o h=>by rw[hw]) (Szs.eq hw) h2
 | .yld _,_,hr=>hr
 | .top,_,hr=>hr
 | .bad,_,hr=>hr
theorem zdb (hIT:ITMono IT) {X Y:Cx} {m:Nat} {g:FZ} (hF: ∀b o,X.F b o->Y.F b o)(hw:Y.w=X.w)(hl: ∀s,s<m->Y.lens[s]? =X.lens[s]? /\ Y.β[s]? =X.β[s]?)
 (hg:(∀s off v,Rep IT X (.ptr s off) v->Rep IT Y (g.1 s off) v)/\ ∀s off n sz f v,Rep IT X (.bsl s off n sz f) v->Rep IT Y (g.2 s off n sz) v): ∀(l:List AV) (vs:List Value),zbf IT X l vs->zbf IT Y (zx m g l) vs
 |[],_,hr=>hr
 |a::l,vs,⟨v,r,e,h1,h2⟩=>⟨v,r,e,zkm hIT hF hw hl hg a v h1,zdb hIT hF hw hl hg l r h2⟩
theorem z5v (hIT:ITMono IT) {X Y:Cx} {m:Nat} {g:FZ} (hF: ∀b o,X.F b o->Y.F b o)(hw:Y.w=X.w)(hl: ∀s,s<m->Y.lens[s]? =X.lens[s]? /\ Y.β[s]? =X.β[s]?)
 (hg:(∀s off v,Rep IT X (.ptr s off) v->Rep IT Y (g.1 s off) v)/\ ∀s off n sz f v,Rep IT X (.bsl s off n sz f) v->Rep IT Y (g.2 s off n sz) v): ∀(cs:List AV) (b o:Nat),At IT X cs b o->At IT Y (zx m g cs) b o
 |[],_,_,_=>trivial
 |c::cs,b,o,⟨⟨hf,v,hv,h1,hr⟩,ht⟩=>⟨⟨hF b o hf,v,by rw[hw];exact hv,h1,zkm hIT hF hw hl hg c v hr⟩,z5v hIT hF hw hl hg cs b (o+1) ht⟩
end
def zft (n:Nat)(fs js:List Nat)(s:Nat):Option Nat:=
 if s<n then(if fs.contains s then none else some s) else(if js.contains s then some (n+js.idxOf s) else none)
def kz (bs:List (TypeId×List AV))(m n:Nat)(fs js:List Nat):Nat->FZ
 |0=>(fun s off=>match zft n fs js s with|some s'=> .ptr s' off|none=> .top,fun s off k sz=>match zft n fs js s with|some s'=> .bsl s' off k sz false|none=> .top)
 | d+1=>(fun s off=>match zft n fs js s with|some s'=> .ptr s' off|none=> .iptr (zx m (kz bs m n fs js d) (((bs[s]?).map fun b=>b.2.drop off).getD [])),
  fun s off k sz=>match zft n fs js s with|some s'=> .bsl s' off k sz false|none=> .list k ((zx m (kz bs m n fs js d) (((bs[s]?).map fun b=>b.2.drop off).getD [])).take (k*sz)) .none)
def zcd (bs:List (TypeId×List AV))(m n:Nat)(fs js:List Nat)(d:Nat):List (TypeId×List AV):=
 ((bs.take n).mapIdx fun i b=>(b.1,if fs.contains i then[] else zx m (kz bs m n fs js d) b.2))++js.map fun j=>((bs[j]?).map fun b=>(b.1,zx m (kz bs m n fs js d) b.2)).getD (0,[.bad])
def zeo (U:St)(m n:Nat)(fs js:List Nat)(d:Nat):St:={U with boxes:=zcd U.boxes m n fs js d,lens:=U.lens.take m,elems:=U.elems.take m}
def zcu (U:St)(n:Nat)(js:List Nat):Bool:=decide (n<=U.boxes.length)&&js.all (fun j=>decide (n<=j)&&decide (j<U.boxes.length))&&decide js.Nodup
def FrzK (U:St)(n:Nat)(fs js:List Nat)(Y:Cx)(b o:Nat):Prop:=Y.F b o \/ ∃s bx,Y.κ[s]? =some b/\ U.boxes[s]? =some bx/\ zft n fs js s=none/\ o<bx.2.length
def zcx (U:St)(m n:Nat)(fs js:List Nat)(Y:Cx):Cx:=
 {Y with F:=FrzK U n fs js Y,κ:=Y.κ.take n++js.map fun j=>Y.κ[j]?.getD 0,β:=Y.β.take m,lens:=Y.lens.take m}
theorem qhz {m:Nat} {fs js:List Nat} (hI:Inv IT U Y)(hok:zcu U n js=true) {s s' b:Nat} (hp:zft n fs js s=some s')(hs:Y.κ[s]? =some b):(zcx U m n fs js Y).κ[s']? =some b:=by
 simp only[zcu,and_eq_true,decide_eq_true_eq] at hok;obtain⟨⟨h1,h2⟩,h3⟩:=hok;have hl:=hI.κlen
 show(Y.κ.take n++js.map fun j=>Y.κ[j]?.getD 0)[s']? =some b
 unfold zft at hp;split at hp
 ·rename_i hlt;split at hp<;>cases hp
  rw[getElem?_append_left (by simp;omega),getElem?_take,if_pos hlt];exact hs
 ·split at hp<;>cases hp
  rename_i hc;have hm:s∈js:=by simpa using hc
  have hi:=List.idxOf_lt_length_of_mem hm;have hlen:(Y.κ.take n).length=n:=by simp;omega
  rw[List.getElem?_append_right (by omega),hlen,Nat.add_sub_cancel_left,getElem?_map,getElem?_eq_getElem hi,map_some,List.getElem_idxOf,hs];rfl
theorem z1a {m:Nat} {fs js:List Nat} (hI:Inv IT U Y)(hok:zcu U n js=true) {s' b:Nat} (hs:(zcx U m n fs js Y).κ[s']? =some b):
 ∃s,Y.κ[s]? =some b/\ ((s'<n/\ s=s') \/(n<=s'/\ js[s'-n]? =some s)):=by
 simp only[zcu,and_eq_true,decide_eq_true_eq] at hok;obtain⟨⟨h1,h2⟩,h3⟩:=hok;have hl:=hI.κlen;have hs:(Y.κ.take n++js.map fun j=>Y.κ[j]?.getD 0)[s']? =some b:=hs;have hlen:(Y.κ.take n).length=n:=by simp;omega
 rcases lt_or_ge s' n with hlt|hge
 ·rw[getElem?_append_left (by omega),getElem?_take,if_pos hlt] at hs;exact⟨s',hs,.inl ⟨hlt,rfl⟩⟩
 ·rw[List.getElem?_append_right (by omega),hlen,getElem?_map] at hs;cases hj:js[s'-n]? with
  |none=>rw[hj] at hs;cases hs
  | some j=>
   rw[hj] at hs;have hjm:=mem_of_getElem? hj;have hjl:=all_eq_true.1 h2 j hjm;simp only[and_eq_true,decide_eq_true_eq] at hjl;have hjk:Y.κ[j]? =some (Y.κ[j]'(by omega)):=getElem?_eq_getElem _;rw[map_some,hjk] at hs;exact⟨j,by rw[hjk];simpa using hs,.inr ⟨hge,rfl⟩⟩
theorem z0n {m d:Nat} {fs js:List Nat} (hok:zcu U n js=true) {s':Nat} {t:TypeId} {cs:List AV} (hb:(zcd U.boxes m n fs js d)[s']? =some (t,cs)) {s:Nat} (hs:(s'<n/\ s=s') \/(n<=s'/\ js[s'-n]? =some s)):
 ∃cs0,U.boxes[s]? =some (t,cs0)/\ ((zft n fs js s=none/\ cs=[]) \/cs=zx m (kz U.boxes m n fs js d) cs0)/\ (cs≠[]->zft n fs js s≠none):=by
 simp only[zcu,and_eq_true,decide_eq_true_eq] at hok;obtain⟨⟨h1,h2⟩,h3⟩:=hok;unfold zcd at hb;have hlen:((U.boxes.take n).mapIdx fun i b=>(b.1,if fs.contains i=true then[] else zx m (kz U.boxes m n fs js d) b.2)).length=n:=by simp;omega
 rcases hs with⟨hlt,rfl⟩|⟨hge,hj⟩
 ·rw[getElem?_append_left (by omega),List.getElem?_mapIdx,getElem?_take,if_pos hlt,getElem?_eq_getElem (by omega)] at hb;simp only[map_some,Option.some.injEq,Prod.mk.injEq] at hb;obtain⟨hb1,hb2⟩:=hb;refine⟨U.boxes[s].2,by rw[getElem?_eq_getElem (by omega), <-hb1],?_,?_⟩
  ·by_cases hf:fs.contains s=true
   ·rw[if_pos hf] at hb2;exact .inl ⟨by rw[zft,if_pos hlt,if_pos hf],hb2.symm⟩
   ·rw[if_neg hf] at hb2;exact .inr hb2.symm
  ·intro hne;by_cases hf:fs.contains s=true
   ·rw[if_pos hf] at hb2;exact absurd hb2.symm hne
   ·rw[zft,if_pos hlt,if_neg hf];simp
 ·have hjm:=mem_of_getElem? hj;have hjl:=all_eq_true.1 h2 s hjm;simp only[and_eq_true,decide_eq_true_eq] at hjl;rw[List.getElem?_append_right (by omega),hlen,getElem?_map,hj,map_some,getElem?_eq_getElem hjl.2] at hb;simp only[map_some,getD_some,Option.some.injEq,Prod.mk.injEq] at hb;refine⟨U.boxes[s].2,by rw[getElem?_eq_getElem hjl.2, <-hb.1],.inr hb.2.symm,fun _=> ?_⟩;rw[zft,if_neg (by omega),if_pos (by simpa using hjm)];simp
theorem zpm (hIT:ITMono IT) {U:St} {Y:Cx} (hI:Inv IT U Y) {m n:Nat} {fs js:List Nat} (hok:zcu U n js=true): ∀d,
 (∀s off v,Rep IT Y (.ptr s off) v->Rep IT (zcx U m n fs js Y) ((kz U.boxes m n fs js d).1 s off) v)/\ ∀s off k sz f v,Rep IT Y (.bsl s off k sz f) v->Rep IT (zcx U m n fs js Y) ((kz U.boxes m n fs js d).2 s off k sz) v:=by
 have hrows: ∀s,s<m->(zcx U m n fs js Y).lens[s]? =Y.lens[s]? /\ (zcx U m n fs js Y).β[s]? =Y.β[s]? :=fun s hs=>by
  constructor
  ·show(Y.lens.take m)[s]? =_
   rw[getElem?_take,if_pos hs]
  ·show(Y.β.take m)[s]? =_
   rw[getElem?_take,if_pos hs]
 have kept1: ∀s s' off v,zft n fs js s=some s'->Rep IT Y (.ptr s off) v->Rep IT (zcx U m n fs js Y) (.ptr s' off) v:=by
  rintro s s' off v hp ⟨b,hb,rfl⟩;exact⟨b,qhz hI hok hp hb,rfl⟩
 have kept2: ∀s s' off k sz f v,zft n fs js s=some s'->Rep IT Y (.bsl s off k sz f) v->Rep IT (zcx U m n fs js Y) (.bsl s' off k sz false) v:=by
  rintro s s' off k sz f v hp ⟨b,cap,cur,t,hb,rfl,hcap,hful,hrow⟩;exact⟨b,cap,cur,t,qhz hI hok hp hb,rfl,hcap,(fun h=>by cases h),hrow⟩
 intro d;induction d with
 | zero=>
  refine⟨fun s off v hr=> ?_,fun s off k sz f v hr=> ?_⟩
  ·simp only[kz];split
   ·rename_i s' hp;exact kept1 s s' off v hp hr
   ·trivial
  ·simp only[kz];split
   ·rename_i s' hp;exact kept2 s s' off k sz f v hp hr
   ·trivial
 | succ d ih=>
  have key: ∀(s b off:Nat),Y.κ[s]? =some b->zft n fs js s=none->At IT (zcx U m n fs js Y) (zx m (kz U.boxes m n fs js d) (((U.boxes[s]?).map fun b=>b.2.drop off).getD [])) b off:=fun s b off hb hp=>by
   have hs:s<U.boxes.length:=by rw[<-hI.κlen];exact(List.getElem?_eq_some_iff.1 hb).1
   obtain⟨us,zs,u1,u2,u3⟩:=hI.box s b (U.boxes[s]).1 (U.boxes[s]).2 hb (by simp[hs]);have hul:=zq u2;simp only[getElem?_eq_getElem hs,map_some,getD_some];have hcell: ∀(i:Nat) v,(us.drop off)[i]? =some v->Y.w.cell? ⟨b,off+i,none⟩=some v:=fun i v hv=>by
    rw[List.getElem?_drop] at hv;have:=(List.getElem?_eq_some_iff.1 hv).1;unfold World.cell?;simp[u1,getElem?_append_left this,hv]
   exact z1d (fun i hi=> .inr ⟨s,U.boxes[s],hb,by simp[hs],hp,by simp at hi;omega⟩) (fun v hv=>u3 v (List.mem_of_mem_drop hv)) (zdb (X:=Y) (Y:=zcx U m n fs js Y) hIT (fun b o h=>Or.inl h) rfl hrows ih _ _ (zih u2 off)) hcell
  refine⟨fun s off v hr=> ?_,fun s off k sz f v hr=> ?_⟩
  ·simp only[kz];split
   ·rename_i s' hp;exact kept1 s s' off v hp hr
   ·rename_i hp;obtain⟨b,hb,rfl⟩:=hr;exact⟨b,off,rfl,key s b off hb hp⟩
  ·simp only[kz];split
   ·rename_i s' hp;exact kept2 s s' off k sz f v hp hr
   ·rename_i hp;obtain⟨b,cap,cur,t,hb,rfl,hcap,hful,_⟩:=hr;exact⟨_,cap,rfl,⟨hcap,fun h=>by cases h⟩,.inr ⟨b,off,rfl,zzn _ (key s b off hb hp)⟩,trivial⟩
theorem zic {m:Nat} {fs js:List Nat}: ∀s,s<m->(zcx U m n fs js Y).lens[s]? =Y.lens[s]? /\ (zcx U m n fs js Y).β[s]? =Y.β[s]? :=fun s hs=>by
 constructor
 ·show(Y.lens.take m)[s]? =_
  rw[getElem?_take,if_pos hs]
 ·show(Y.β.take m)[s]? =_
  rw[getElem?_take,if_pos hs]
theorem keepF (hI:Inv IT U Y) {m n:Nat} {fs js:List Nat} {b o:Nat} (h:(zcx U m n fs js Y).F b o):Y.F b o \/b∈Y.κ:=by
 rcases h with h|⟨s,bx,h1,_⟩
 ·exact .inl h
 ·exact .inr (mem_of_getElem? h1)
theorem qbr (hI:Inv IT U Y) {m n:Nat} {fs js:List Nat} (hok:zcu U n js=true) {b:Nat} (h:b∈(zcx U m n fs js Y).κ):b∈Y.κ:=by
 obtain⟨s',hs,rfl⟩:=List.mem_iff_getElem.1 h;obtain⟨s,h1,_⟩:=z1a hI hok (getElem?_eq_getElem hs);exact mem_of_getElem? h1
theorem zsl (hIT:ITMono IT) {U:St} {Y:Cx} (hI:Inv IT U Y) {m n:Nat} {fs js:List Nat} (hok:zcu U n js=true)(d:Nat):Inv IT (zeo U m n fs js d) (zcx U m n fs js Y):=by
 have hok':=hok;simp only[zcu,and_eq_true,decide_eq_true_eq] at hok';obtain⟨⟨h1,h2⟩,h3⟩:=hok';have hl:=hI.κlen;have hrep:=zpm hIT hI (m:=m) (fs:=fs) hok d;refine {lens:= ?_,elems:= ?_,κlen:= ?_,κnd:= ?_,box:= ?_,κF:= ?_,βlen:= ?_,βnd:= ?_,βκ:= ?_,row:= ?_,Ok:= ?_,Fcell:= ?_,gv:=hIT.gv _ _ _ _ (fun b o h=>Or.inl h) (fun _ _ _=>rfl) (Szs.refl _) hI.gv}
 ·show Y.lens.take m=U.lens.take m;rw[hI.lens]
 ·show(Y.β.take m).map (·.elem)=U.elems.take m
  rw[<-hI.elems,List.map_take]
 ·show(Y.κ.take n++js.map fun j=>Y.κ[j]?.getD 0).length=(zcd U.boxes m n fs js d).length
  simp[zcd];omega
 ·intro s1 s2 b k1 k2 hne;obtain⟨r1,a1,b1⟩:=z1a hI hok k1;obtain⟨r2,a2,b2⟩:=z1a hI hok k2;have hne':r1≠r2:=fun e=>by
   subst e;rcases b1 with⟨c1,rfl⟩|⟨c1,c2⟩<;>rcases b2 with⟨d1,d2⟩|⟨d1,d2⟩
   ·exact hne d2
   ·have hjl:=all_eq_true.1 h2 _ (mem_of_getElem? d2);simp only[and_eq_true,decide_eq_true_eq] at hjl;omega
   ·have hjl:=all_eq_true.1 h2 _ (mem_of_getElem? c2);simp only[and_eq_true,decide_eq_true_eq] at hjl;omega
   ·obtain⟨x1,x2⟩:=List.getElem?_eq_some_iff.1 c2;obtain⟨y1,y2⟩:=List.getElem?_eq_some_iff.1 d2;have:=(List.getElem_inj h3 (h₀:=x1) (h₁:=y1)).1 (x2.trans y2.symm);omega
  have fin: ∀(s r:Nat),(zcx U m n fs js Y).κ[s]? =some b->((s<n/\ r=s) \/(n<=s/\ js[s-n]? =some r))->(∃t,U.boxes[r]? =some (t,[]))-> ∃t,(zcd U.boxes m n fs js d)[s]? =some (t,[]):=by
   rintro s r ks hs ⟨t,hb⟩;have hlen:s<(zcd U.boxes m n fs js d).length:=by
    have h4:=(List.getElem?_eq_some_iff.1 ks).1;have h5:s<(Y.κ.take n++js.map fun j=>Y.κ[j]?.getD 0).length:=h4;simp[zcd] at h5⊢;omega
   obtain⟨cs0,e1,e2,_⟩:=z0n (t:=((zcd U.boxes m n fs js d)[s]).1) (cs:=((zcd U.boxes m n fs js d)[s]).2) hok (getElem?_eq_getElem hlen) hs;rw[hb] at e1;cases e1;refine⟨((zcd U.boxes m n fs js d)[s]).1,?_⟩;rw[getElem?_eq_getElem hlen];have:((zcd U.boxes m n fs js d)[s]).2=[]:=by
    rcases e2 with⟨_,e2⟩|e2
    ·exact e2
    ·rw[e2,zx]
   rw[<-this]
  exact(hI.κnd r1 r2 b a1 a2 hne').imp (fin s1 r1 k1 b1) (fin s2 r2 k2 b2)
 ·intro s b t cs hs hb;obtain⟨r,a1,b1⟩:=z1a hI hok hs;obtain⟨cs0,e1,e2,_⟩:=z0n hok hb b1;obtain⟨us,zs,u1,u2,u3⟩:=hI.box r b t cs0 a1 e1;rcases e2 with⟨_,rfl⟩|rfl
  ·exact⟨[],us++zs,u1,by rw[zbf],by simp⟩
  ·exact⟨us,zs,u1,zdb (X:=Y) (Y:=zcx U m n fs js Y) hIT (fun b o h=>Or.inl h) rfl zic hrep _ _ u2,u3⟩
 ·intro s b t cs hs hb hne o hf;obtain⟨r,a1,b1⟩:=z1a hI hok hs;obtain⟨cs0,e1,e2,e3⟩:=z0n hok hb b1;have hp:=e3 hne;have hne0:cs0≠[]:=fun e=>by
   subst e;rcases e2 with⟨_,e2⟩|e2
   ·exact hne e2
   ·exact hne (by rw[e2,zx])
  rcases hf with hf|⟨s2,bx,f1,f2,f3,f4⟩
  ·exact hI.κF r b t cs0 a1 e1 hne0 o hf
  ·have hne2:r≠s2:=fun e=>by subst e;exact hp f3
   rcases hI.κnd r s2 b a1 f1 hne2 with⟨t2,h⟩|⟨t2,h⟩
   ·rw[e1] at h;cases h;exact hne0 rfl
   ·rw[f2] at h;cases h;simp at f4
 ·show(Y.β.take m).length=(Y.lens.take m).length
  simp[hI.βlen]
 ·show((Y.β.take m).map (·.block)).Nodup
  rw[List.map_take];exact hI.βnd.sublist (List.take_sublist _ _)
 ·intro r hr hm;exact hI.βκ r (List.mem_of_mem_take hr) (qbr hI hok hm)
 ·intro s r L hr hL;have hr:(Y.β.take m)[s]? =some r:=hr;have hL:(Y.lens.take m)[s]? =some L:=hL;rw[getElem?_take] at hr hL;split at hr<;>try cases hr
  rename_i hs;rw[if_pos hs] at hL;obtain⟨cur,fz,c1,c2,c3,c4,c5,c6,c7⟩:=hI.row s r L hr hL;refine⟨cur,fz,c1,c2,c3,c4,c5,fun o hf=> ?_,c7⟩;rcases hf with hf|⟨s2,bx,f1,_⟩
  ·exact c6 o hf
  ·exact absurd (mem_of_getElem? f1) (hI.βκ r (mem_of_getElem? hr))
 ·intro b ho;obtain⟨k1,k2,k3,k4⟩:=hI.Ok b ho;refine⟨k1,fun hm=>k2 (qbr hI hok hm),fun r hr=>k3 r (List.mem_of_mem_take hr),fun o hf=> ?_⟩;rcases hf with hf|⟨s2,bx,f1,_⟩
  ·exact k4 o hf
  ·exact absurd (mem_of_getElem? f1) k2
 ·intro b o hf;rcases hf with hf|⟨s,bx,f1,f2,f3,f4⟩
  ·exact hI.Fcell b o hf
  ·obtain⟨t,cs⟩:=bx;obtain⟨us,zs,u1,u2,u3⟩:=hI.box s b t cs f1 f2;have hul:=zq u2;simp only at f4;refine⟨us[o]'(by omega),?_⟩;show Y.w.cell? _=_;rw[cell_of_row _ _ _ _ _ _ u1];rw[List.getElem?_toArray,getElem?_append_left (by omega)];exact getElem?_eq_getElem _
theorem zsi {X:Cx} (hE:Ext X Y)(hI:Inv IT U Y) {m n:Nat} {fs js:List Nat} (hok:zcu U n js=true)(hn:X.κ.length<=n)(hm:X.lens.length<=m):Ext X (zcx U m n fs js Y):=by
  have hok':=hok;simp only[zcu,and_eq_true,decide_eq_true_eq] at hok';have hl:=hI.κlen
  exact { os :=hE.os,tape:=hE.tape,output:=hE.output,size:=hE.size,drawn:=hE.drawn,cell:=hE.cell
          F:=fun b o h=> .inl (hE.F b o h)
          κ :=fun s b hs=>by
            have:=(List.getElem?_eq_some_iff.1 hs).1
            show(Y.κ.take n++js.map fun j=>Y.κ[j]?.getD 0)[s]? =some b
            rw[getElem?_append_left (by simp;omega),getElem?_take,if_pos (by omega)];exact hE.κ s b hs
          lens:=fun s L hs=>by
            have hsm:s<m:=by have:=(List.getElem?_eq_some_iff.1 hs).1;omega
            obtain⟨L',k1,k2,k3⟩:=hE.lens s L hs;obtain⟨q1,q2⟩:=zic (U:=U) (Y:=Y) (n:=n) (fs:=fs) (js:=js) s hsm;exact⟨L',by rw[q1];exact k1,k2,fun e=>by rw[q2];exact k3 e⟩
          blk:=hE.blk
          szs:=hE.szs
          frame:=hE.frame
          κnew:=fun b hb=>hE.κnew b (qbr hI hok hb)
          βnew:=fun r hr=>hE.βnew r (List.mem_of_mem_take hr)
          O:=hE.O
          C:=hE.C
          Fnew :=fun b o h=>by
            rcases keepF hI h with h|h
            . exact hE.Fnew b o h
            . rcases hE.κnew b h with h|h
              . exact .inr (.inr (.inr h))
              . exact .inr (.inl h)}
end Go.Ab
