import Derived.Test.YtnoccnalocdldaaDoorZgEi
import Derived.Test.YtnoccnalocdldaaDoorZgBn
import Derived.Test.YtnoccnalocdldaaDoorZdMr
set_option linter.all false
set_option maxRecDepth 100000
set_option maxHeartbeats 4000000
namespace Go.Ab
open Go Go.RowKit Go.Fwd Go.Proofs
structure Ct where
 f:Nat
 args:List AV
 r:AV
def CtOk (c:Ct):Prop:=Pure (ITP Tryd.prog) Tryd.prog c.f c.args c.r
def tbl (T:List Ct):CallP:=fun f args=>match T.find? (fun c=>c.f==f&&zmi c.args args) with
 |some c=>some c.r
 |none=>none
theorem zic {T:List Ct} (h: ∀c∈T,CtOk c):Good Tryd.prog (tbl T) noS:=⟨mix,ents,(fun f args r e=>by
 unfold tbl at e
 split at e
 ·rename_i c hc
  cases e
  have h1:=List.find?_some hc
  simp only[Bool.and_eq_true,beq_iff_eq] at h1
  have h2:=h c (List.mem_of_find?_eq_some hc)
  rw[CtOk,h1.1,zfp _ _ h1.2] at h2
  exact h2
 ·cases e),(fun _ _ _ _ _ h=>nomatch h)⟩
def avT (t:Tr):AV:= .agg (Enc.cells t)
def avG (t:Rg):AV:= .agg (Enc.cells t)
def avZ (l:List UInt8):AV:= .raw (.string (bs l))
def avI (n:Int):AV:= .raw (.int .i64 n)
section
variable {H:Bool} {P:Program} {Ω:CallP} {Ψ:CallS}
def sufC:Nat→Code→Code
 |0,c=>c
 |n+1,.seq _ y=>sufC n y
 |_+1,c=>c
def z8u (run:Run):Nat→Code→List AV→St→Option (List AV×St)
 |0,_,S,σ=>some (S,σ)
 | n+1,.seq x y,S,σ=>match run x S.length S σ with
  |some (.normal,S1,σ1)=>z8u run n y S1 σ1
  |_=>none
 |_+1,_,_,_=>none
theorem w_pre (hG:Good P Ω Ψ) {k k0:Nat} {Q:AQ} {S':List AV} {σ':St}: ∀(n:Nat) (c:Code) (S:List AV) (σ:St) (S1:List AV) (σ1:St),z8u (evQ H P Ω Ψ k) (n+1) c S σ=some (S1,σ1)→Wk k0 S1 σ1 S' σ'→awp (ITP P) P none k0 (sufC (n+1) c) Q S' σ'→awp (ITP P) P none k0 c Q S σ
 | n,.seq x y,S,σ,S1,σ1,h,hw,hk=>by
  rw[z8u] at h
  split at h
  ·rename_i S2 σ2 h2
   obtain⟨hl,h3⟩:=zte (H:=H) hG k _ _ _ _ _ _ _ h2 rfl
   refine .inl (zdf (h3 _ ?_))
   cases n with
   | zero=>
    rw[z8u] at h
    cases h
    exact⟨S',σ',hw,hk⟩
   |succ n=>exact⟨S2,σ2,Wk.refl _ _ _,w_pre hG n y S2 σ2 S1 σ1 h hw hk⟩
  ·cases h
 |_,.skip,_,_,_,_,h,_,_=>by cases h
 |_,.cond _ _ _,_,_,_,_,h,_,_=>by cases h
 |_,.block _ _,_,_,_,_,h,_,_=>by cases h
 |_,.loop _,_,_,_,_,h,_,_=>by cases h
 |_,.exit _,_,_,_,_,h,_,_=>by cases h
 |_,.ret,_,_,_,_,h,_,_=>by cases h
 |_,.label _,_,_,_,_,h,_,_=>by cases h
 |_,.scope _,_,_,_,_,h,_,_=>by cases h
 |_,.region _ _ _,_,_,_,_,h,_,_=>by cases h
 |_,.rangeFunc _ _ _ _,_,_,_,_,h,_,_=>by cases h
 |_,.goto _,_,_,_,_,h,_,_=>by cases h
 |_,.refuse _,_,_,_,_,h,_,_=>by cases h
def qjs:Option AV→Bool
 |some (.raw (.bool true))=>true
 |_=>false
def tailB (run:Run)(P:Program)(fn:Func)(c:Code)(S:List AV)(σ:St):Bool:=match run c S.length S σ with
 |some (.ret,S1,σ1)=>qjs (zba P fn σ1 S1)
 |_=>false
theorem w_tail (hG:Good P Ω Ψ) {k k0:Nat} {fn:Func} {c:Code} {S:List AV} {σ:St} (h:tailB (evQ H P Ω Ψ k) P fn c S σ=true):awp (ITP P) P none k0 c (zxk P fn (.raw (.bool true))) S σ:=by
 unfold tailB at h
 split at h
 ·rename_i S1 σ1 h1
  obtain⟨_,h2⟩:=zte (H:=H) hG k _ _ _ _ _ _ _ h1 rfl
  refine zdf (h2 _ ?_)
  unfold qjs at h
  split at h
  ·rename_i h3
   exact zbe (y:=true) rfl h3
  ·cases h
 ·cases h
def qiw (run:Run)(cp:CallP)(cs:CallS)(P:Program)(Ψ:CallS)(ops:Array Oper)(l:List Oper)(rest:Code)(n:Nat)(ms:List Bool)(S:List AV)(σ:St):Option (List AV×St):=match zoi P Ψ cp cs ops l S σ with
 | some (S1,σ1)=>match run rest S1.length S1 σ1 with
  |some (.normal,S2,σ2)=>if zwb n σ2=true∧zad n (fgM ms S2)=true then some (fgM ms S2,zes n σ2) else none
  |_=>none
 |none=>none
theorem zll (hG:Good P Ω Ψ) {k n:Nat} {ops:Array Oper} {l:List Oper} {rest:Code} {ms:List Bool} {S S':List AV} {σ σ':St} (h:qiw (evQ H P Ω Ψ k) (zkh P Ω (evQ H P Ω Ψ k)) (zqa P Ψ (evQ H P Ω Ψ k)) P Ψ ops l rest n ms S σ=some (S',σ')):
 zcq (ITP P) P none ops (fun S2 σ2=>awp (ITP P) P none n rest (fun e S3 σ3=>e= .normal∧Wk n S3 σ3 S' σ') S2 σ2) l S σ:=by
 unfold qiw at h
 split at h
 ·rename_i S1 σ1 h1
  split at h
  ·rename_i S2 σ2 h2
   split at h
   ·rename_i hc
    cases h
    obtain⟨_,h3⟩:=zff hG.oracleS (zsj hG (zte (H:=H) hG k)) (z1k hG (zte (H:=H) hG k)) l _ _ _ _ h1
    obtain⟨_,h4⟩:=zte (H:=H) hG k _ _ _ _ _ _ _ h2 rfl
    exact h3 _ (zdf (h4 _ ⟨rfl,zfa ms n rfl (Nat.le_refl _) hc.1 hc.2 rfl⟩))
   ·cases h
  ·cases h
 ·cases h
end
def clT (s:BS):Tr:= .mk 2 s 0 0 []
def bS (n:Nat):BS:=1#256<<<n
def z3d:Tr:= .mk 5 0#256 0 (-1) [clT (bS 98)]
def twoT:Tr:= .mk 5 0#256 2 3 [clT (bS 99)]
def emT:Tr:= .mk 1 0#256 0 0 []
def abcU:BS:=bS 97|||bS 98|||bS 99
def qgo:Tr:=clT (~~~ abcU)
def digU:BS:=digS|||bS 95
def eS0:List UInt8:=[97,124,98,42,99]
def eG0:Rg:=Rg.mk false false (.mk 4 0#256 0 0 [clT (bS 97),.mk 3 0#256 0 0 [z3d,clT (bS 99)]])
def eS1:List UInt8:=[94,97,98,36]
def eG1:Rg:=Rg.mk true true (.mk 3 0#256 0 0 [clT (bS 97),clT (bS 98)])
def eS2:List UInt8:=[40,97,41,40,63,58,98,124,41,99,123,50,44,51,125]
def eG2:Rg:=Rg.mk false false (.mk 3 0#256 0 0 [.mk 6 0#256 0 0 [clT (bS 97)],.mk 4 0#256 0 0 [clT (bS 98),emT],twoT])
def eS3:List UInt8:=[91,94,97,45,99,93]
def eG3:Rg:=Rg.mk false false qgo
def eS4:List UInt8:=[91,92,100,95,93]
def eG4:Rg:=Rg.mk false false (clT digU)
def eS5:List UInt8:=[97,123,49,125]
def eG5:Rg:=Rg.mk false false (clT (bS 97))
def exL:List (List UInt8×Rg):=[(eS0,eG0),(eS1,eG1),(eS2,eG2),(eS3,eG3),(eS4,eG4),(eS5,eG5)]
def erL:List (List UInt8×Int×Int):=[([97,42,42],2,92),([42,97],0,92),([40,97],0,91),([97,41],1,91),([97,94],1,95),([97,36,98],1,95),([91,93],1,94),([91,98,45,97,93],2,94),([97,123,48,125],1,93),([97,123,51,44,50,125],1,93),([97,123,120],2,93),([97,93],1,90),([92,113],0,90)]
def tblR:List Ct:=(exL.map fun p=>⟨8,[avZ p.1],.tup [avG p.2,avI (p.1.length:Int),avI 0]⟩)++(exL.map fun p=>⟨11,[avT p.2.t,avT p.2.t],.raw (.bool true)⟩)++erL.map fun p=>⟨8,[avZ p.1],.tup [avG (Rg.mk false false zz),avI p.2.1,avI p.2.2]⟩
theorem zmw: ∀c∈tblR,CtOk c:=by
 intro c hc
 simp only[tblR,List.mem_append,List.mem_map] at hc
 rcases hc with(⟨p,hp,rfl⟩|⟨p,hp,rfl⟩)|⟨p,hp,rfl⟩
 ·refine qaq 1100 10 p.1 (p.2,(p.1.length:Int),0) ?_
  simp only[exL,List.mem_cons,List.not_mem_nil,or_false] at hp
  rcases hp with rfl|rfl|rfl|rfl|rfl|rfl<;>kernel_rfl
 ·refine qfk p.2.t p.2.t true ?_
  simp only[exL,List.mem_cons,List.not_mem_nil,or_false] at hp
  rcases hp with rfl|rfl|rfl|rfl|rfl|rfl<;>decide+kernel
 ·refine qaq 1100 10 p.1 (Rg.mk false false zz,p.2.1,p.2.2) ?_
  simp only[erL,List.mem_cons,List.not_mem_nil,or_false] at hp
  rcases hp with rfl|rfl|rfl|rfl|rfl|rfl|rfl|rfl|rfl|rfl|rfl|rfl|rfl<;>kernel_rfl
theorem z6o:Good Tryd.prog (tbl []) noS:=zic fun c hc=>by cases hc
theorem cls0:CtOk ⟨9,[avZ [98]],avT (clT (bS 98))⟩:=zcy true z6o 300 (by kernel_rfl)
theorem cls1:CtOk ⟨9,[avZ [99]],avT (clT (bS 99))⟩:=zcy true z6o 300 (by kernel_rfl)
theorem cls3:CtOk ⟨9,[avZ [97]],avT (clT (bS 97))⟩:=zcy true z6o 300 (by kernel_rfl)
theorem cls4:CtOk ⟨9,[avZ [48,49,50,51,52,53,54,55,56,57,95]],avT (clT (digU))⟩:=zcy true z6o 300 (by kernel_rfl)
def z9y:List AV:=[.raw (.int .u8 5),.raw (.int .u64 0),.raw (.int .u64 0),.raw (.int .u64 0),.raw (.int .u64 0),.raw (.int .i64 0),.raw (.int .i64 (-1)),.list 1 (Enc.cells (clT (bS 98))) .full]
def twoC:List AV:=[.raw (.int .u8 5),.raw (.int .u64 0),.raw (.int .u64 0),.raw (.int .u64 0),.raw (.int .u64 0),.raw (.int .i64 2),.raw (.int .i64 3),.list 1 (Enc.cells (clT (bS 99))) .full]
def emC:List AV:=[.raw (.int .u8 1),.raw (.int .u64 0),.raw (.int .u64 0),.raw (.int .u64 0),.raw (.int .u64 0),.raw (.int .i64 0),.raw (.int .i64 0),.list 0 [] .full]
def awS:List AV:=(.raw (.bool false):: .ptr 0 0:: .ptr 1 0:: .ptr 2 0:: .ptr 3 0:: .top:: .top:: .top:: .top:: .top:: .top:: .top:: .top:: .top:: .top:: .top:: .top:: .top:: .top:: .top:: .top:: .top:: .top:: .top:: .top:: .top:: .top:: .top:: .top:: .top:: .top:: .top:: .top:: .top:: .top:: .top:: .top:: .top:: .top:: .top:: .top:: .top:: .top:: .top:: .top:: .top:: .top:: .top:: .top:: .top:: .top:: .top:: .top:: .top:: .top:: .top:: .top:: .top:: .top:: .top:: .top:: .top:: .top:: .top:: .top:: .top:: .top:: .top:: .top:: .top:: .top:: .top:: .top:: .top:: .top:: .top:: .top:: .top:: .top:: .top:: .top:: .top:: .top:: .top:: .top:: .top:: .top:: .top:: .top:: .top:: .top:: .top:: .top:: .top:: .top:: .top:: .top:: .top:: .top:: .top:: .top:: .top:: .top:: .top:: .top:: .top:: .top:: .top:: .top:: .top:: .top:: .top:: .top:: .top:: .top:: .top:: .top:: .top:: .top:: .top:: .top:: .top:: .top:: .top:: .top:: .top:: .top:: .top:: .top:: .top:: .top:: .top:: .top:: .top:: .top:: .top:: .top:: .top:: .top:: .top:: .top:: .top:: .top:: .top:: .top:: .top:: .top::[])
def awE:List AV:=(.raw (.bool false):: .ptr 0 0:: .ptr 1 0:: .ptr 2 0:: .ptr 3 0:: .top:: .top:: .top:: .top:: .top:: .top:: .top:: .top:: .top:: .top:: .top:: .top:: .top:: .top:: .top:: .top:: .top:: .top:: .top:: .top:: .top:: .top:: .top:: .top:: .top:: .top:: .top:: .top:: .top:: .top:: .top:: .top::avT (clT (bS 97)):: .agg z9y::avT (clT (bS 99)):: .list 2 (z9y++Enc.cells ((clT (bS 99)):Tr)) .full::avT (.mk 3 0#256 0 0 [z3d,(clT (bS 99))]):: .list 2 (Enc.cells ((clT (bS 97)):Tr)++Enc.cells ((.mk 3 0#256 0 0 [z3d,(clT (bS 99))]):Tr)) .full::avT eG0.t::avG eG0::avT (clT (bS 97))::avT (clT (bS 98)):: .list 2 (Enc.cells ((clT (bS 97)):Tr)++Enc.cells ((clT (bS 98)):Tr)) .full::avT eG1.t::avG eG1::avT (clT (bS 97)):: .list 1 (Enc.cells ((clT (bS 97)):Tr)) .full::avT (.mk 6 0#256 0 0 [(clT (bS 97))])::avT (clT (bS 98)):: .agg emC:: .list 2 (Enc.cells ((clT (bS 98)):Tr)++emC) .full::avT (.mk 4 0#256 0 0 [(clT (bS 98)),emT]):: .agg twoC:: .list 3 (Enc.cells ((.mk 6 0#256 0 0 [(clT (bS 97))]):Tr)++Enc.cells ((.mk 4 0#256 0 0 [(clT (bS 98)),emT]):Tr)++twoC) .full::avT eG2.t::avG eG2::avT qgo::avG eG3::avT (clT digU)::avG eG4::avT (clT (bS 97))::avG eG5:: .top:: .top:: .top:: .top:: .top:: .top:: .top:: .top:: .top:: .top:: .top:: .top:: .top:: .top:: .top:: .top:: .top:: .top:: .top:: .top:: .top:: .top:: .top:: .top:: .top:: .top:: .top:: .top:: .top:: .top:: .top:: .top:: .top:: .top:: .top:: .top:: .top:: .top:: .top:: .top:: .top:: .top:: .top:: .top:: .top:: .top:: .top:: .top:: .top:: .top:: .top:: .top:: .top:: .top:: .top:: .top:: .top:: .top:: .top:: .top:: .top:: .top:: .top:: .top:: .top:: .top:: .top:: .top:: .top:: .top:: .top:: .top:: .top:: .top:: .top:: .top:: .top:: .top:: .top:: .top::[])
def awσ:St:=⟨[(33,z9y),(33,twoC),(33,emC),(33,Enc.cells qgo)],[],[],0,false⟩
def awM:MI:=⟨0,[(0,36,false),(37,67,true)],[(9,.string (bs eS0),44),(15,.string (bs eS1),49),(27,.string (bs eS2),60),(30,.string (bs eS3),62),(33,.string (bs eS4),64),(36,.string (bs eS5),66)],[(38,68)]⟩
theorem zuf (k:Nat)(l:List AV)(t:Tr)(h:zkh Tryd.prog (tbl []) (evQ true Tryd.prog (tbl []) noS 300) 10 [.raw (.int .u8 k),.list t.l.length l .none]=some (avT t)):Pure (ITP Tryd.prog) Tryd.prog 10 [.raw (.int .u8 k),.list t.l.length l .none] (avT t):=zcy true z6o 300 h
theorem keyNe_s {a b:List UInt8} (h:((bs a)==(bs b))=false):z0x .string (.string (bs a)) (.string (bs b)):=by
 show some ((bs a)==(bs b))=some false
 rw[h]
def qjx:List (Nat×Nat):=[(9,0),(15,1),(27,2),(30,3),(33,4),(36,5)]
def insS (n:Nat):List UInt8:=match n with|0=>eS0|1=>eS1|2=>eS2|3=>eS3|4=>eS4|_=>eS5
def insV (n:Nat):Nat:=match n with|0=>44|1=>49|2=>60|3=>62|4=>64|_=>66
theorem insK (i n:Nat)(q:Nat×Value×Nat)(hq:q∈awM.ins)(h:(i,n)∈qjx):q=(i,.string (bs (insS n)),insV n)∨(q.1≠i∧z0x .string (.string (bs (insS n))) q.2.1):=by
 simp only[awM,qjx,List.mem_cons,List.not_mem_nil,or_false,Prod.mk.injEq] at hq h
 rcases h with⟨rfl,rfl⟩|⟨rfl,rfl⟩|⟨rfl,rfl⟩|⟨rfl,rfl⟩|⟨rfl,rfl⟩|⟨rfl,rfl⟩<;>rcases hq with rfl|rfl|rfl|rfl|rfl|rfl<;>first|exact .inl rfl|exact .inr ⟨by decide,keyNe_s (by decide+kernel)⟩
def awMs:List Bool:=[true,true,true,true,true,true,true,true,true,true,true,true,true,true,true,true,true,true,true,true,true,true,true,true,true,true,true,true,true,true,true,true,true,true,true,true,false,false,false,false,false,false,false,false,false,false,false,false,false,false,false,false,false,false,false,false,false,false,false,false,false,false,false,false,false,false,false,false,true,true,true,true,true,true,true,true,true,true,true,true,true,true,true,true,true,true,true,true,true,true,true,true,true,true,true,true,true,true,true,true,true,true,true,true,true,true,true,true,true,true,true,true,true,true,true,true,true,true,true,true,true,true,true,true,true,true,true,true,true,true,true,true,true,true,true,true,true,true,true,true,true,true,true,true,true,true,true]
def awM2:List Bool:=[true,true,true,true,true,true,false,false,false,false,false,true,true,true,true,true,true,true,true,true,true,true,true,true,true,true,true,true,true,true,true,true,true,true,true,true,true,true,true,true,true,true,true,true,true,true,true,true,true,true,true,true,true,true,true,true,true,true,true,true,true,true,true,true,true,true,true,true,true,false,false,false,false,false,false,false,false,false,false,false,false,false,false,false,false,false,false,false,false,false,false,false,false,false,false,false,false,false,false,false,false,false,false,false,false,false,false,false,false,false,true,true,true,true,true,true,true,true,true,true,true,true,true,true,true,true,true,true,true,true,true,true,true,true,true,true,true,true,true,true,true,true,true,true,true,true,true]
def awSL (r:Nat):List AV:=awS.set 68 (.raw (.pointer (some ⟨r,0,none⟩)))
theorem aw_map {F:Fence} {nn B:Nat} {K:Exit→Act→World→Prop} {X0:Cx} {ops:Array Oper} (hops:(do let c ←Tryd.f5.body;zkf 10 c)=some ops)(hF:FenceOk F Tryd.prog):qbw (ITP Tryd.prog) Tryd.prog F nn B K X0 ops awE (sgL awσ []) (MpOk ops awM X0.w.heap.size) 0 ops.toList ((.top::avT (clT (bS 97)):: .agg z9y::avT (clT (bS 99)):: .list 2 (z9y++Enc.cells ((clT (bS 99)):Tr)) .full::avT (.mk 3 0#256 0 0 [z3d,(clT (bS 99))]):: .list 2 (Enc.cells ((clT (bS 97)):Tr)++Enc.cells ((.mk 3 0#256 0 0 [z3d,(clT (bS 99))]):Tr)) .full::avT eG0.t::avG eG0:: .raw undef::avT (clT (bS 97))::avT (clT (bS 98)):: .list 2 (Enc.cells ((clT (bS 97)):Tr)++Enc.cells ((clT (bS 98)):Tr)) .full::avT eG1.t::avG eG1:: .raw undef::avT (clT (bS 97)):: .list 1 (Enc.cells ((clT (bS 97)):Tr)) .full::avT (.mk 6 0#256 0 0 [(clT (bS 97))])::avT (clT (bS 98)):: .agg emC:: .list 2 (Enc.cells ((clT (bS 98)):Tr)++emC) .full::avT (.mk 4 0#256 0 0 [(clT (bS 98)),emT]):: .agg twoC:: .list 3 (Enc.cells ((.mk 6 0#256 0 0 [(clT (bS 97))]):Tr)++Enc.cells ((.mk 4 0#256 0 0 [(clT (bS 98)),emT]):Tr)++twoC) .full::avT eG2.t::avG eG2:: .raw undef::avT qgo::avG eG3:: .raw undef::avT (clT digU)::avG eG4:: .raw undef::avT (clT (bS 97))::avG eG5:: .raw undef:: .top:: .top::[])):=by
 cases hops
 refine⟨fun _=>qbx (zn _) hF rfl rfl rfl rfl (by simp[awM]) (by decide) (by decide) (by decide) (Nat.le_of_ble_eq_true rfl) (fun _=>rfl),?_⟩
 refine⟨d_c (zn _) hF cls3 (hb:=by kernel_rfl),?_⟩
 refine⟨d_l (zn _) hF (by kernel_rfl) z8g (hb:=by kernel_rfl),?_⟩
 refine⟨d_c (zn _) hF cls1 (hb:=by kernel_rfl),?_⟩
 refine⟨d_q (zn _) hF (fun _=>by kernel_rfl) (hb:=by kernel_rfl),?_⟩
 refine⟨d_c (zn _) hF (zuf 3 (Enc.cellsL ((.mk 3 0#256 0 0 [z3d,(clT (bS 99))]):Tr).l) (.mk 3 0#256 0 0 [z3d,(clT (bS 99))]) (by kernel_rfl)) (hb:=by kernel_rfl),?_⟩
 refine⟨d_q (zn _) hF (fun _=>by kernel_rfl) (hb:=by kernel_rfl),?_⟩
 refine⟨d_c (zn _) hF (zuf 4 (Enc.cellsL (eG0.t:Tr).l) eG0.t (by kernel_rfl)) (hb:=by kernel_rfl),?_⟩
 refine⟨d_q (zn _) hF (fun _=>by kernel_rfl) (hb:=by kernel_rfl),?_⟩
 refine⟨fun ho=>znu (kd:= .string) (k:= .string (bs eS0)) (kt:=9) (et:=35) (j':=0) (tm:=36) (tv:=44) (f':=false) (zn _) hF rfl rfl rfl ho rfl rfl trivial (by decide) (by simp[awM]) (by simp[awM]) rfl (fun q hq=>insK 9 0 q hq (by simp[qjx])) (by decide) (by decide) (fun _=>rfl),?_⟩
 refine⟨d_c (zn _) hF cls3 (hb:=by kernel_rfl),?_⟩
 refine⟨d_c (zn _) hF cls0 (hb:=by kernel_rfl),?_⟩
 refine⟨d_q (zn _) hF (fun _=>by kernel_rfl) (hb:=by kernel_rfl),?_⟩
 refine⟨d_c (zn _) hF (zuf 3 (Enc.cellsL (eG1.t:Tr).l) eG1.t (by kernel_rfl)) (hb:=by kernel_rfl),?_⟩
 refine⟨d_q (zn _) hF (fun _=>by kernel_rfl) (hb:=by kernel_rfl),?_⟩
 refine⟨fun ho=>znu (kd:= .string) (k:= .string (bs eS1)) (kt:=9) (et:=35) (j':=0) (tm:=36) (tv:=49) (f':=false) (zn _) hF rfl rfl rfl ho rfl rfl trivial (by decide) (by simp[awM]) (by simp[awM]) rfl (fun q hq=>insK 15 1 q hq (by simp[qjx])) (by decide) (by decide) (fun _=>rfl),?_⟩
 refine⟨d_c (zn _) hF cls3 (hb:=by kernel_rfl),?_⟩
 refine⟨d_q (zn _) hF (fun _=>by kernel_rfl) (hb:=by kernel_rfl),?_⟩
 refine⟨d_c (zn _) hF (zuf 6 (Enc.cellsL ((.mk 6 0#256 0 0 [(clT (bS 97))]):Tr).l) (.mk 6 0#256 0 0 [(clT (bS 97))]) (by kernel_rfl)) (hb:=by kernel_rfl),?_⟩
 refine⟨d_c (zn _) hF cls0 (hb:=by kernel_rfl),?_⟩
 refine⟨d_l (zn _) hF (by kernel_rfl) z8g (hb:=by kernel_rfl),?_⟩
 refine⟨d_q (zn _) hF (fun _=>by kernel_rfl) (hb:=by kernel_rfl),?_⟩
 refine⟨d_c (zn _) hF (zuf 4 (Enc.cellsL ((.mk 4 0#256 0 0 [(clT (bS 98)),emT]):Tr).l) (.mk 4 0#256 0 0 [(clT (bS 98)),emT]) (by kernel_rfl)) (hb:=by kernel_rfl),?_⟩
 refine⟨d_l (zn _) hF (by kernel_rfl) z8g (hb:=by kernel_rfl),?_⟩
 refine⟨d_q (zn _) hF (fun _=>by kernel_rfl) (hb:=by kernel_rfl),?_⟩
 refine⟨d_c (zn _) hF (zuf 3 (Enc.cellsL (eG2.t:Tr).l) eG2.t (by kernel_rfl)) (hb:=by kernel_rfl),?_⟩
 refine⟨d_q (zn _) hF (fun _=>by kernel_rfl) (hb:=by kernel_rfl),?_⟩
 refine⟨fun ho=>znu (kd:= .string) (k:= .string (bs eS2)) (kt:=9) (et:=35) (j':=0) (tm:=36) (tv:=60) (f':=false) (zn _) hF rfl rfl rfl ho rfl rfl trivial (by decide) (by simp[awM]) (by simp[awM]) rfl (fun q hq=>insK 27 2 q hq (by simp[qjx])) (by decide) (by decide) (fun _=>rfl),?_⟩
 refine⟨d_l (zn _) hF (by kernel_rfl) z8g (hb:=by kernel_rfl),?_⟩
 refine⟨d_q (zn _) hF (fun _=>by kernel_rfl) (hb:=by kernel_rfl),?_⟩
 refine⟨fun ho=>znu (kd:= .string) (k:= .string (bs eS3)) (kt:=9) (et:=35) (j':=0) (tm:=36) (tv:=62) (f':=false) (zn _) hF rfl rfl rfl ho rfl rfl trivial (by decide) (by simp[awM]) (by simp[awM]) rfl (fun q hq=>insK 30 3 q hq (by simp[qjx])) (by decide) (by decide) (fun _=>rfl),?_⟩
 refine⟨d_c (zn _) hF cls4 (hb:=by kernel_rfl),?_⟩
 refine⟨d_q (zn _) hF (fun _=>by kernel_rfl) (hb:=by kernel_rfl),?_⟩
 refine⟨fun ho=>znu (kd:= .string) (k:= .string (bs eS4)) (kt:=9) (et:=35) (j':=0) (tm:=36) (tv:=64) (f':=false) (zn _) hF rfl rfl rfl ho rfl rfl trivial (by decide) (by simp[awM]) (by simp[awM]) rfl (fun q hq=>insK 33 4 q hq (by simp[qjx])) (by decide) (by decide) (fun _=>rfl),?_⟩
 refine⟨d_c (zn _) hF cls3 (hb:=by kernel_rfl),?_⟩
 refine⟨d_q (zn _) hF (fun _=>by kernel_rfl) (hb:=by kernel_rfl),?_⟩
 refine⟨fun ho=>znu (kd:= .string) (k:= .string (bs eS5)) (kt:=9) (et:=35) (j':=0) (tm:=36) (tv:=66) (f':=false) (zn _) hF rfl rfl rfl ho rfl rfl trivial (by decide) (by simp[awM]) (by simp[awM]) rfl (fun q hq=>insK 36 5 q hq (by simp[qjx])) (by decide) (by decide) (fun _=>rfl),?_⟩
 refine⟨fun ho=>du_mv (zn _) hF (t:=67) (t':=36) (j':=0) (f:=true) (f':=false) rfl rfl rfl ho (by decide) (by simp[awM]) (by simp[awM]) rfl (by decide) (by decide) (by decide) (Nat.le_of_ble_eq_true rfl) (fun _=>rfl) (fun _=>by kernel_rfl),?_⟩
 refine⟨fun ho=>qfx (zn _) hF (j':=37) (t':=67) rfl rfl rfl ho rfl (by decide) rfl (by simp[awM]) rfl (by decide) (by decide) (Nat.le_of_ble_eq_true rfl) (fun _=>rfl),trivial⟩
section
variable {H:Bool} {P:Program} {Ω:CallP} {Ψ:CallS}
def preW (run:Run)(n:Nat)(ms:List Bool)(c:Code)(S:List AV)(σ:St):Option (List AV×St):=match z8u run n c S σ with
 |some (S1,σ1)=>some (fgM ms S1,σ1)
 |none=>none
theorem w_preW (hG:Good P Ω Ψ) {k k0:Nat} {Q:AQ} {S S':List AV} {σ σ':St} {ms:List Bool} (n:Nat)(c:Code)(h:preW (evQ H P Ω Ψ k) (n+1) ms c S σ=some (S',σ'))(hk:awp (ITP P) P none k0 (sufC (n+1) c) Q S' σ'):awp (ITP P) P none k0 c Q S σ:=by
 unfold preW at h
 split at h
 ·rename_i S1 σ1 h1
  cases h
  exact w_pre hG n c S σ _ _ h1 (zdq ms rfl rfl) hk
 ·cases h
end
def awM0:List Bool:=[true,true,true,true,true,false,false,false,false,false,false,false,false,false,false,false,false,false,false,false,false,false,false,false,false,false,false,false,false,false,false,false,false,false,false,false,false,false,false,false,false,false,false,false,false,false,false,false,false,false,false,false,false,false,false,false,false,false,false,false,false,false,false,false,false,false,false,false,false,false,false,false,false,false,false,false,false,false,false,false,false,false,false,false,false,false,false,false,false,false,false,false,false,false,false,false,false,false,false,false,false,false,false,false,false,false,false,false,false,false,false,false,false,false,false,false,false,false,false,false,false,false,false,false,false,false,false,false,false,false,false,false,false,false,false,false,false,false,false,false,false,false,false,false,false,false,false]
def awM3:List Bool:=[true,true,true,true,true,true,true,true,true,true,true,true,true,true,true,true,true,true,true,true,true,true,true,true,true,true,true,true,true,true,true,true,true,true,true,true,true,true,true,true,true,true,true,true,true,true,true,true,true,true,true,true,true,true,true,true,true,true,true,true,true,true,true,true,true,true,true,true,false,true,true,true,true,true,true,true,true,true,true,true,true,true,true,true,true,true,true,true,true,true,true,true,true,true,true,true,true,true,true,true,true,true,true,true,true,true,true,true,true,true,true,true,true,true,true,true,true,true,true,true,true,true,true,true,true,true,true,true,true,true,true,true,true,true,true,true,true,true,true,true,true,true,true,true,true,true,true]
theorem ent5:Ent Tryd.prog 5:=enters_of Tryd.func5 (by kernel_rfl) rfl
theorem z6u:Pure (ITP Tryd.prog) Tryd.prog 5 [] (.raw (.bool true)):=by
 obtain⟨d,hd⟩: ∃d,Tryd.f5.body=some d:=⟨_,rfl⟩
 refine zik mix Tryd.func5 hd ent5 ?_
 cases hd
 refine w_preW (H:=true) (S':=awS) (σ':=awσ) (ms:=awM0) (k:=300) z6o 5 _ (by kernel_rfl) ?_
 show awp (ITP Tryd.prog) Tryd.prog none 0 (.seq _ _) _ _ _
 refine qew awS awσ (qdh mix awM (sg:=sgL awσ []) (SL:=awSL) (E:=awE) (it:=68) (d69:=69) (d70:=70) (d71:=71) (ri:=38) awMs (fun hF=>aw_map rfl hF) (by kernel_rfl) (by kernel_rfl) (by kernel_rfl) (by kernel_rfl) (by kernel_rfl) rfl (fun r=>by kernel_rfl) ⟨rfl,rfl,rfl⟩ ⟨rfl,rfl,rfl⟩ ⟨rfl,rfl,rfl⟩ rfl (fun r=>by kernel_rfl) (fun r=>by kernel_rfl) ⟨by decide,by decide,by decide,by decide,Nat.le_of_ble_eq_true rfl,Nat.le_of_ble_eq_true rfl,Nat.le_of_ble_eq_true rfl,Nat.le_of_ble_eq_true rfl⟩ (fun r=>by kernel_rfl) (fun r=>by kernel_rfl) (by kernel_rfl) ?_ (fun r=>(show fgM awM3 (awSL r)=awS by kernel_rfl)▸znt awM3 (awSL r))) ?_
 ·intro r q hq
  simp only[awM,List.mem_cons,List.not_mem_nil,or_false] at hq
  rcases hq with rfl|rfl|rfl|rfl|rfl|rfl
  ·exact zll (H:=true) (k:=300) (ms:=awM2) (zic zmw) (by kernel_rfl)
  ·exact zll (H:=true) (k:=300) (ms:=awM2) (zic zmw) (by kernel_rfl)
  ·exact zll (H:=true) (k:=300) (ms:=awM2) (zic zmw) (by kernel_rfl)
  ·exact zll (H:=true) (k:=300) (ms:=awM2) (zic zmw) (by kernel_rfl)
  ·exact zll (H:=true) (k:=300) (ms:=awM2) (zic zmw) (by kernel_rfl)
  ·exact zll (H:=true) (k:=300) (ms:=awM2) (zic zmw) (by kernel_rfl)
 ·exact w_tail (H:=true) (k:=300) (zic zmw) (by kernel_rfl)
end Go.Ab
