import Derived.Test.YtnoccnalocdldaaDoorRows
import Derived.Test.YtnoccnalocdldaaDoorZgP
import Derived.Shelf.Strings.Trim
import Derived.Shelf.Small.Strs
import Derived.Shelf.Small.Wraps
import Derived.Shelf.Strings.Search1
import Derived.Shelf.Strings.Prefix
import Derived.Test.YtnoccnalocdldaaDoorProg
set_option linter.all false
namespace Go.Ab
open Go Go.RowKit Go.Fwd Go.Proofs
theorem mix:Tryd.prog.follows .mixedOrders=true:=by kernel_rfl
theorem ents (f:Nat)(fn:Func)(hf:Tryd.prog.funcs[f]? =some fn)(hb:fn.body.isSome=true):Ent Tryd.prog f:=by
 obtain⟨c,hc⟩:=Option.isSome_iff_exists.1 hb
 have hall:(Tryd.prog.funcs.toList.all fun fn=> !(fn.name== "runtime.NumGoroutine"))=true:=by kernel_rfl
 have:=List.all_eq_true.1 hall fn (Array.mem_toList_iff.2 (Array.mem_of_getElem? hf))
 exact enters_of hf (by simpa using this) hc
def noP:CallP:=fun _ _=>none
def noS:CallS:=fun _ _ _=>none
theorem goodN:Good Tryd.prog noP noS:=⟨mix,ents,(fun _ _ _ h=>nomatch h),(fun _ _ _ _ _ h=>nomatch h)⟩
theorem undS:Tryd.prog.underlying 27=some (.array 4 24):=by kernel_rfl
theorem undW:Tryd.prog.underlying 24=some (.int .u64):=by kernel_rfl
theorem sizeW (w:World):(sizeOf 24).run Tryd.prog w= .ok 1 w:=by kernel_rfl
theorem aggW (w:World):(isAgg 24).run Tryd.prog w= .ok false w:=by kernel_rfl
theorem eqInS' (d:Nat)(a0 a1 a2 a3 b0 b1 b2 b3:Int)(w:World):(Op.equalIn (d+1+1) 27 (.agg #[.int .u64 a0,.int .u64 a1,.int .u64 a2,.int .u64 a3]) (.agg #[.int .u64 b0,.int .u64 b1,.int .u64 b2,.int .u64 b3])).run Tryd.prog w=
 .ok (a0==b0&&a1==b1&&a2==b2&&a3==b3) w:=by
 rw[Op.equalIn]
 simp only[Sem.run_bind,run_underlying undS,Result.andThen_ok,sizeW]
 have hq: ∀(a b:Int) (w:World),(Op.equalIn (d+1) 24 (.int .u64 a) (.int .u64 b)).run Tryd.prog w= .ok (a==b) w:=fun a b w=>run_equalIn_int w d 24 .u64 .u64 a b undW
 have hr:List.range' 0 4=[0,1,2,3]:=rfl
 simp[part,hr,aggW,Sem.run_bind,hq,Result.andThen]
 by_cases h0:a0=b0<;>by_cases h1:a1=b1<;>by_cases h2:a2=b2<;>by_cases h3:a3=b3<;>simp[h0,h1,h2,h3,hq,Result.andThen]
theorem eqInS (a0 a1 a2 a3 b0 b1 b2 b3:Int)(w:World):(Op.equalIn 10000 27 (.agg #[.int .u64 a0,.int .u64 a1,.int .u64 a2,.int .u64 a3]) (.agg #[.int .u64 b0,.int .u64 b1,.int .u64 b2,.int .u64 b3])).run Tryd.prog w=
 .ok (a0==b0&&a1==b1&&a2==b2&&a3==b3) w:=eqInS' 9998 _ _ _ _ _ _ _ _ w
theorem qis:Tryd.prog.eqGuardType Tryd.prog.depth 27=false:=by kernel_rfl
theorem qbv {ρ:Operand→AV} {o:Oper} {x y:Operand} {c} (s t:BS)(ho:o.op= .binOp .eql 27 x y c)(hx:ρ x=z2b s)(hy:ρ y=z2b t):zla Tryd.prog ρ o (.raw (.bool (decide (s=t)))):=by
 refine⟨?_,by rw[ho];intros;simp,by rw[ho];intros;simp,.bool (decide (s=t)),fun w=> ?_,rfl,rfl⟩
 ·rw[ho];simp[Op.operands,hx,hy,z2b,zdi,zdg,zgs]
 ·have h1:zbt ρ x= .agg #[.int .u64 (wd s 0),.int .u64 (wd s 1),.int .u64 (wd s 2),.int .u64 (wd s 3)]:=by simp[zbt,hx,z2b,zdi,zdg,zgs]
  have h2:zbt ρ y= .agg #[.int .u64 (wd t 0),.int .u64 (wd t 1),.int .u64 (wd t 2),.int .u64 (wd t 3)]:=by simp[zbt,hy,z2b,zdi,zdg,zgs]
  have h3:=eqInS (wd s 0) (wd s 1) (wd s 2) (wd s 3) (wd t 0) (wd t 1) (wd t 2) (wd t 3) w
  rw[z4q] at h3
  simp[execOp,ho,h1,h2,eqGuard,binOp,Op.equal,Op.maxDepth,program,Sem.run,qis,h3]
theorem z7v {ρ:Operand→AV} {o:Oper} {x y:Operand} {c} (s t:BS)(ho:o.op= .binOp .neq 27 x y c)(hx:ρ x=z2b s)(hy:ρ y=z2b t):zla Tryd.prog ρ o (.raw (.bool (decide (s≠t)))):=by
 refine⟨?_,by rw[ho];intros;simp,by rw[ho];intros;simp,.bool (decide (s≠t)),fun w=> ?_,rfl,rfl⟩
 ·rw[ho];simp[Op.operands,hx,hy,z2b,zdi,zdg,zgs]
 ·have h1:zbt ρ x= .agg #[.int .u64 (wd s 0),.int .u64 (wd s 1),.int .u64 (wd s 2),.int .u64 (wd s 3)]:=by simp[zbt,hx,z2b,zdi,zdg,zgs]
  have h2:zbt ρ y= .agg #[.int .u64 (wd t 0),.int .u64 (wd t 1),.int .u64 (wd t 2),.int .u64 (wd t 3)]:=by simp[zbt,hy,z2b,zdi,zdg,zgs]
  have h3:=eqInS (wd s 0) (wd s 1) (wd s 2) (wd s 3) (wd t 0) (wd t 1) (wd t 2) (wd t 3) w
  rw[z4q] at h3
  simp[execOp,ho,h1,h2,eqGuard,binOp,Op.equal,Op.maxDepth,program,Sem.run,qis,h3]
theorem zni {ρ:Operand→AV} {o:Oper} {x y:Operand} {c} (s t:BS)(ho:o.op= .binOp .eql 27 x y c)(hx:ρ x= .agg (Enc.cells s))(hy:ρ y= .agg (Enc.cells t)):zla Tryd.prog ρ o (.raw (.bool (decide (s=t)))):=qbv s t ho hx hy
theorem zsr {ρ:Operand→AV} {o:Oper} {x y:Operand} {c} (s t:BS)(ho:o.op= .binOp .neq 27 x y c)(hx:ρ x= .agg (Enc.cells s))(hy:ρ y= .agg (Enc.cells t)):zla Tryd.prog ρ o (.raw (.bool (decide (s≠t)))):=z7v s t ho hx hy
theorem or_run (a b:BS):Pure (ITP Tryd.prog) Tryd.prog 16 [.agg (Enc.cells a),.agg (Enc.cells b)] (.agg [.raw (.int .u64 (orI .u64 (wd a 0) (wd b 0))),.raw (.int .u64 (orI .u64 (wd a 1) (wd b 1))),.raw (.int .u64 (orI .u64 (wd a 2) (wd b 2))),.raw (.int .u64 (orI .u64 (wd a 3) (wd b 3)))]):=zcy true goodN 100 (by kernel_rfl)
theorem qgk (a b:BS):Pure (ITP Tryd.prog) Tryd.prog 16 [.agg (Enc.cells a),.agg (Enc.cells b)] (.agg (Enc.cells (a|||b))):=by
 have:=or_run a b
 simp only[qcr] at this;exact this
end Go.Ab
namespace Go.Ab
open Go Go.RowKit Go.Fwd
end Go.Ab
namespace Go.Ab
open Go Go.RowKit Go.Fwd
def z1n (n:Nat)(i j:Int)(st:Room):Room:=if i.toNat=0∧j.toNat=n then st else if j.toNat=n∧st= .full then .full else .none
theorem qfl {α:Type} (l:List α) {i j:Int} (g:0≤i∧i≤j∧j≤(l.length:Int)):(sub l i j).length=j.toNat-i.toNat:=by
 simp only[sub,List.length_take,List.length_drop];omega
theorem qch {α:Type} [Enc α] (l:List α) {i j:Int} (g:0≤i∧i≤j∧j≤(l.length:Int)):((Enc.cellsL l).drop (i.toNat*Enc.sz α)).take ((j.toNat-i.toNat)*Enc.sz α)=Enc.cellsL (sub l i j):=by
 rw[Enc.drop,Enc.take];rfl
section
variable {P:Program} {ρ:Operand→AV} {σ:St} {o:Oper}
theorem qbj {α:Type} [Enc α] (l:List α)(n:Nat)(st:Room):zcv (.list n (Enc.cellsL l) st)= .list n (Enc.cellsL l) .none:=by
 rw[zcv,Enc.stripL]
theorem q_sub_H {α:Type} [Enc α] {l:List α} {x y:Operand} {t e:TypeId} {st:Room} {j:Int} (g:0≤0∧0≤j∧j≤(l.length:Int))(ho:o.op= .slice t x none (some y) none)(hx:ρ x= .list l.length (Enc.cellsL l) st)(hy:ρ y= .raw (.int .i64 j))(hu:P.underlying t=some (.slice e))(hs:zdk P e=some (Enc.sz α)):
 qop P ρ σ o=some (.list (sub l 0 j).length (Enc.cellsL (sub l 0 j)) (z1n l.length 0 j st)):=by
 have hg:(0:Int)≤0∧0≤j∧j≤(l.length:Int):=⟨Int.le_refl 0,g.2⟩
 have h1:zqi P t (ρ x) none (some (ρ y)) none=some (.list (sub l 0 j).length (Enc.cellsL (sub l 0 j)) (z1n l.length 0 j st)):=by
  have hj:=g.2
  rw[qfl l hg,←qch l hg,hx,hy]
  simp[zqi,hu,hs,zin,zkw,Enc.lenL,z1n,hj]
 simp only[qop,ho,Option.map,h1]
theorem zib {x:Operand} {s t:TypeId} {k:IntKind} {n:Int} (g: -9223372036854775808≤n∧n<9223372036854775808)(ho:o.op= .convert s t x)(hx:ρ x= .raw (.int k n))(hs:val? P (Next.value<$>convert s t (.int k n))=some (.value (.int .i64 (IntKind.i64.wrap n)))):qop P ρ σ o=some (.raw (.int .i64 n)):=by
 have h:=zlk g.1 g.2
 rw[h] at hs
 simp[qop,zfj,ho,Op.operands,hx,zdi,execOp,zbt,hs,znf]
 exact⟨rfl,rfl⟩
theorem q_rem64 {x y:Operand} {t:TypeId} {c} {m n:Int} (g:(0≤m∧m<9223372036854775808)∧0<n)(ho:o.op= .binOp .rem t x y c)(hx:ρ x= .raw (.int .i64 m))(hy:ρ y= .raw (.int .i64 n)):qop P ρ σ o=some (.raw (.int .i64 (Int.tmod m n))):=by
 obtain⟨⟨h1,h2⟩,h3⟩:=g
 have h0: ¬n=0:=by omega
 have hb:0≤Int.tmod m n∧Int.tmod m n≤m:=by
  rw[Int.tmod_eq_emod_of_nonneg h1]
  exact⟨Int.emod_nonneg _ h0,by
   have:=Int.emod_emod_of_dvd m (Int.dvd_refl n)
   have h4:=Int.mul_ediv_add_emod m n
   have h5:0≤n*(m/n):=Int.mul_nonneg (by omega) (Int.ediv_nonneg h1 (by omega))
   omega⟩
 have h:=zlk (x:=Int.tmod m n) (by omega) (by omega)
 simp[qop,zfj,ho,Op.operands,hx,hy,zdi,execOp,zbt,eqGuard,binOp,Op.intDiv,h0,h]
 try rfl
end
section
variable {P:Program} {ρ:Operand→AV} {σ:St} {o:Oper}
end
end Go.Ab
namespace Go.Ab
open Go Go.RowKit Go.Fwd Go.Proofs
structure Bd where
 lo:Int
 mo:Int
 deriving DecidableEq
def qbn (e:Bd):List AV:=[.raw (.int .i64 e.lo),.raw (.int .i64 e.mo)]
instance:Enc Bd where
 inh:=⟨0,0⟩
 cells:=qbn
 cellsL l:=l.flatMap qbn
 sz:=2
 pos:=by decide
 nil:=rfl
 cons _ _:=rfl
 len _:=rfl
 clo _:=rfl
set_option maxRecDepth 100000 in
theorem zom {ρ:Operand→AV} {σ:St} {o:Oper} {x:Operand} {b:Nat} {t:TypeId} {i:Int} (s:BS)(hi:0≤i∧i<4)(ho:o.op= .load 24 x)(hx:ρ x= .ptr b (0+i.toNat*1))(hb:σ.boxes[b]? =some (t,Enc.cells s)):qop Tryd.prog ρ σ o=some (.raw (.int .u64 (wd s i.toNat))):=by
 have key: ∀j:Nat,j<4→rd Tryd.prog 24 ((Enc.cells s).drop (0+j*1))=some (.raw (.int .u64 (wd s j))):=by
  intro j hj
  match j,hj with
  |0,_=>rfl
  |1,_=>rfl
  |2,_=>rfl
  |3,_=>rfl
 simp only[qop,ho,zlb,hx,hb]
 exact key i.toNat (by omega)
end Go.Ab
namespace Go.Proofs
open Go.Shelf
def Tryd.lays162_ren:Go.Shelf.Ren:=⟨fun|162=>36|232=>52|227=>53|234=>54|236=>55|228=>68|271=>69|151=>70|120=>85|197=>86|152=>87|260=>93|137=>47|119=>94|224=>95|225=>96|217=>66|266=>84|n=>n,fun|9=>9|4=>4|3=>3|5=>5|117=>98|116=>97|0=>0|124=>101|21=>21|105=>106|46=>46|119=>128|139=>131|138=>130|n=>n,fun|3=>1|4=>2|n=>n⟩
theorem Tryd.lays162:Go.Proofs.Lays.n162 Tryd.prog Tryd.lays162_ren:={
 mixed:=by kernel_rfl
 f119:=Tryd.func94.trans (congrArg some (by kernel_rfl))
 f120:=Tryd.func85.trans (congrArg some (by kernel_rfl))
 f137:=Tryd.func47.trans (congrArg some (by kernel_rfl))
 f151:=Tryd.func70.trans (congrArg some (by kernel_rfl))
 f152:=Tryd.func87.trans (congrArg some (by kernel_rfl))
 f162:=Tryd.func36.trans (congrArg some (by kernel_rfl))
 f197:=Tryd.func86.trans (congrArg some (by kernel_rfl))
 f217:=Tryd.func66.trans (congrArg some (by kernel_rfl))
 f224:=Tryd.func95.trans (congrArg some (by kernel_rfl))
 f225:=Tryd.func96.trans (congrArg some (by kernel_rfl))
 f227:=Tryd.func53.trans (congrArg some (by kernel_rfl))
 f228:=Tryd.func68.trans (congrArg some (by kernel_rfl))
 f232:=Tryd.func52.trans (congrArg some (by kernel_rfl))
 f234:=Tryd.func54.trans (congrArg some (by kernel_rfl))
 f236:=Tryd.func55.trans (congrArg some (by kernel_rfl))
 f260:=Tryd.func93.trans (congrArg some (by kernel_rfl))
 f266:=Tryd.func84.trans (congrArg some (by kernel_rfl))
 f271:=Tryd.func69.trans (congrArg some (by kernel_rfl))
 t0:=Tryd.underlying0
 a0:=Tryd.isAgg0
 z0:=Tryd.sizeOf0
 v0:=Tryd.zeroValue0
 t3:=Tryd.underlying3
 a3:=Tryd.isAgg3
 z3:=Tryd.sizeOf3
 v3:=Tryd.zeroValue3
 t4:=Tryd.underlying4
 a4:=Tryd.isAgg4
 z4:=Tryd.sizeOf4
 v4:=Tryd.zeroValue4
 t5:=Tryd.underlying5
 a5:=Tryd.isAgg5
 z5:=Tryd.sizeOf5
 v5:=Tryd.zeroValue5
 t9:=Tryd.underlying9
 a9:=Tryd.isAgg9
 z9:=Tryd.sizeOf9
 v9:=Tryd.zeroValue9
 t21:=Tryd.underlying21
 a21:=Tryd.isAgg21
 z21:=Tryd.sizeOf21
 v21:=Tryd.zeroValue21
 t46:=Tryd.underlying46
 a46:=Tryd.isAgg46
 z46:=Tryd.sizeOf46
 v46:=Tryd.zeroValue46
 t105:=Tryd.underlying106
 a105:=Tryd.isAgg106
 z105:=Tryd.sizeOf106
 v105:=Tryd.zeroValue106
 t116:=Tryd.underlying97
 a116:=Tryd.isAgg97
 z116:=Tryd.sizeOf97
 t117:=Tryd.underlying98
 a117:=Tryd.isAgg98
 z117:=Tryd.sizeOf98
 v117:=Tryd.zeroValue98
 t119:=Tryd.underlying128
 a119:=Tryd.isAgg128
 z119:=Tryd.sizeOf128
 t124:=Tryd.underlying101
 a124:=Tryd.isAgg101
 z124:=Tryd.sizeOf101
 v124:=Tryd.zeroValue101
 t138:=Tryd.underlying130
 a138:=Tryd.isAgg130
 z138:=Tryd.sizeOf130
 v138:=Tryd.zeroValue130
 t139:=Tryd.underlying131
 a139:=Tryd.isAgg131
 z139:=Tryd.sizeOf131
 v139:=Tryd.zeroValue131
 g3:=by kernel_rfl
 g4:=by kernel_rfl}
open Go.RowKit in
theorem Tryd.strings_TrimRight_one (s:ByteArray)(c:UInt8)(hc:c.toNat<128)(w:World)(hs:s.size≤9223372036854775807):
 Calls Tryd.prog 36 #[.string s,.string ⟨#[c]⟩] w fun e w'=>e= .returned (.string ⟨(Lib.trimRightB s.data.toList c).toArray⟩)∧w'=w:=Any.strings_TrimRight_one Tryd.lays162 s c hc w hs
def Tryd.lays137_ren:Go.Shelf.Ren:=⟨fun|137=>47|217=>66|266=>84|n=>n,fun|9=>9|5=>5|3=>3|n=>n,fun|n=>n⟩
theorem Tryd.lays137:Go.Proofs.Lays.n137 Tryd.prog Tryd.lays137_ren:={
 mixed:=by kernel_rfl
 f137:=Tryd.func47.trans (congrArg some (by kernel_rfl))
 f217:=Tryd.func66.trans (congrArg some (by kernel_rfl))
 f266:=Tryd.func84.trans (congrArg some (by kernel_rfl))
 t3:=Tryd.underlying3
 a3:=Tryd.isAgg3
 z3:=Tryd.sizeOf3
 v3:=Tryd.zeroValue3
 t5:=Tryd.underlying5
 a5:=Tryd.isAgg5
 z5:=Tryd.sizeOf5
 v5:=Tryd.zeroValue5
 t9:=Tryd.underlying9
 a9:=Tryd.isAgg9
 z9:=Tryd.sizeOf9
 v9:=Tryd.zeroValue9}
open Go.RowKit in
theorem Tryd.strings_IndexByte (s:ByteArray)(c:Int)(w:World):
 Calls Tryd.prog 47 #[.string s,.int .u8 c] w fun e w'=>e= .returned (.int .i64 (Lib.indexByte s.data.toList c.toNat.toUInt8))∧w'=w:=Any.strings_IndexByte Tryd.lays137 s c w
def Tryd.lays103_ren:Go.Shelf.Ren:=⟨fun|103=>18|210=>34|206=>25|n=>n,fun|9=>9|4=>4|24=>53|3=>3|n=>n,fun|n=>n⟩
theorem Tryd.lays103:Go.Proofs.Lays.n103 Tryd.prog Tryd.lays103_ren:={
 mixed:=by kernel_rfl
 f103:=Tryd.func18.trans (congrArg some (by kernel_rfl))
 f206:=Tryd.func25.trans (congrArg some (by kernel_rfl))
 f210:=Tryd.func34.trans (congrArg some (by kernel_rfl))
 t3:=Tryd.underlying3
 a3:=Tryd.isAgg3
 z3:=Tryd.sizeOf3
 v3:=Tryd.zeroValue3
 t4:=Tryd.underlying4
 a4:=Tryd.isAgg4
 z4:=Tryd.sizeOf4
 v4:=Tryd.zeroValue4
 t9:=Tryd.underlying9
 a9:=Tryd.isAgg9
 z9:=Tryd.sizeOf9
 v9:=Tryd.zeroValue9
 t24:=Tryd.underlying53
 a24:=Tryd.isAgg53
 z24:=Tryd.sizeOf53
 v24:=Tryd.zeroValue53}
open Go.RowKit in
theorem Tryd.strings_CutPrefix (s p:ByteArray)(w:World):
 Calls Tryd.prog 18 #[.string s,.string p] w fun e w'=>e= .returned (.tuple #[.string ⟨(Lib.trimPrefix s.data.toList p.data.toList).toArray⟩,.bool (Lib.hasPrefix s.data.toList p.data.toList)])∧w'=w:=Any.strings_CutPrefix Tryd.lays103 s p w
def Tryd.lays104_ren:Go.Shelf.Ren:=⟨fun|104=>35|211=>51|207=>67|n=>n,fun|9=>9|4=>4|24=>53|3=>3|n=>n,fun|n=>n⟩
theorem Tryd.lays104:Go.Proofs.Lays.n104 Tryd.prog Tryd.lays104_ren:={
 mixed:=by kernel_rfl
 f104:=Tryd.func35.trans (congrArg some (by kernel_rfl))
 f207:=Tryd.func67.trans (congrArg some (by kernel_rfl))
 f211:=Tryd.func51.trans (congrArg some (by kernel_rfl))
 t3:=Tryd.underlying3
 a3:=Tryd.isAgg3
 z3:=Tryd.sizeOf3
 v3:=Tryd.zeroValue3
 t4:=Tryd.underlying4
 a4:=Tryd.isAgg4
 z4:=Tryd.sizeOf4
 v4:=Tryd.zeroValue4
 t9:=Tryd.underlying9
 a9:=Tryd.isAgg9
 z9:=Tryd.sizeOf9
 v9:=Tryd.zeroValue9
 t24:=Tryd.underlying53
 a24:=Tryd.isAgg53
 z24:=Tryd.sizeOf53
 v24:=Tryd.zeroValue53}
open Go.RowKit in
theorem Tryd.strings_CutSuffix (s p:ByteArray)(w:World)(hs:s.size≤9223372036854775807):
 Calls Tryd.prog 35 #[.string s,.string p] w fun e w'=>e= .returned (.tuple #[.string ⟨(Lib.trimSuffix s.data.toList p.data.toList).toArray⟩,.bool (Lib.hasSuffix s.data.toList p.data.toList)])∧w'=w:=Any.strings_CutSuffix Tryd.lays104 s p w hs
def Tryd.lays99_ren:Go.Shelf.Ren:=⟨fun|99=>12|206=>25|n=>n,fun|9=>9|4=>4|3=>3|n=>n,fun|n=>n⟩
theorem Tryd.lays99:Go.Proofs.Lays.n99 Tryd.prog Tryd.lays99_ren:={
 mixed:=by kernel_rfl
 f99:=Tryd.func12.trans (congrArg some (by kernel_rfl))
 f206:=Tryd.func25.trans (congrArg some (by kernel_rfl))
 t3:=Tryd.underlying3
 a3:=Tryd.isAgg3
 z3:=Tryd.sizeOf3
 v3:=Tryd.zeroValue3
 t4:=Tryd.underlying4
 a4:=Tryd.isAgg4
 z4:=Tryd.sizeOf4
 v4:=Tryd.zeroValue4
 t9:=Tryd.underlying9
 a9:=Tryd.isAgg9
 z9:=Tryd.sizeOf9
 v9:=Tryd.zeroValue9}
open Go.RowKit Go.Lib in
theorem Tryd.strings_HasPrefix (s p:ByteArray)(w:World):
 Calls Tryd.prog 12 #[.string s,.string p] w fun e w'=>e= .returned (.bool (Lib.hasPrefix s.data.toList p.data.toList))∧w'=w:=Any.strings_HasPrefix Tryd.lays99 s p w
end Go.Proofs
namespace Go.Ab
open Go Go.RowKit Go.Fwd Go.Proofs
theorem zkr {P:Program} {f:FuncId} {args:List AV} {r:AV} (vs:List Value)(he:Ent P f)(ha: ∀X us,zbk (ITP P) X args us→us=vs)
 (h: ∀X,Inv (ITP P) St.empty X→Calls P f vs.toArray X.w fun e w'=> ∃u,e= .returned u∧w'=X.w∧ ∀Y,Rep (ITP P) Y r u):Pure (ITP P) P f args r:=by
 refine⟨he,fun X us hI hr=> ?_⟩
 rw[ha X us hr]
 refine(h X hI).mono ?_
 rintro e w' ⟨u,rfl,rfl,hu⟩
 exact⟨u,X,rfl,rfl,Ext.refl X,hI,hu _⟩
theorem qcp {P:Program} {X:Cx} {u v:Value} {us:List Value} (h:zbk (ITP P) X [.raw u,.raw v] us):us=[u,v]:=by
 obtain⟨a,l,rfl,ha,b,l',rfl,hb,hl⟩:=h
 have ha:a=u:=ha
 have hb:b=v:=hb
 have hl:l'=[]:=hl
 rw[ha,hb,hl]
theorem ent47:Ent Tryd.prog 47:=enters_of Tryd.func47 (by kernel_rfl) rfl
theorem ent12:Ent Tryd.prog 12:=enters_of Tryd.func12 (by kernel_rfl) rfl
theorem ent18:Ent Tryd.prog 18:=enters_of Tryd.func18 (by kernel_rfl) rfl
theorem ent35:Ent Tryd.prog 35:=enters_of Tryd.func35 (by kernel_rfl) rfl
theorem ent36:Ent Tryd.prog 36:=enters_of Tryd.func36 (by kernel_rfl) rfl
theorem z4d (l:List UInt8)(c:UInt8):Pure (ITP Tryd.prog) Tryd.prog 47 [.raw (.string (bs l)),.raw (.int .u8 ((c.toNat:Nat):Int))] (.raw (.int .i64 (Lib.indexByte l c))):=by
 have h:Pure (ITP Tryd.prog) Tryd.prog 47 [.raw (.string (bs l)),.raw (.int .u8 ((c.toNat:Nat):Int))] (.raw (.int .i64 (Lib.indexByte l ((c.toNat:Nat):Int).toNat.toUInt8))):=
  zkr [.string (bs l),.int .u8 _] ent47 (fun X us h=>qcp h) fun X hI=>(Tryd.strings_IndexByte (bs l) _ X.w).mono fun e w' ⟨h1,h2⟩=>⟨_,h1,h2,fun Y=>rfl⟩
 rwa[show((c.toNat:Nat):Int).toNat.toUInt8=c by simp] at h
def z1o (e:Int):UInt8:=UInt8.ofNat e.toNat
theorem u8c {e:Int} (g:0≤e∧e<256):((z1o e).toNat:Int)=e:=by
 unfold z1o
 have h:e.toNat<256:=by omega
 rw[show(UInt8.ofNat e.toNat).toNat=e.toNat by simp;omega]
 omega
theorem zyl (l:List UInt8) {e:Int} (h:0≤e∧e<256):Pure (ITP Tryd.prog) Tryd.prog 47 [.raw (.string (bs l)),.raw (.int .u8 e)] (.raw (.int .i64 (Lib.indexByte l (z1o e)))):=by
 have:=z4d l (z1o e)
 rwa[u8c h] at this
theorem zsc (l p:List UInt8):Pure (ITP Tryd.prog) Tryd.prog 12 [.raw (.string (bs l)),.raw (.string (bs p))] (.raw (.bool (Lib.hasPrefix l p))):=
 zkr [.string (bs l),.string (bs p)] ent12 (fun X us h=>qcp h) fun X hI=>(Tryd.strings_HasPrefix (bs l) (bs p) X.w).mono fun e w' ⟨h1,h2⟩=>⟨_,h1,h2,fun Y=>rfl⟩
theorem qap (l p:List UInt8):Pure (ITP Tryd.prog) Tryd.prog 18 [.raw (.string (bs l)),.raw (.string (bs p))] (.tup [.raw (.string (bs (Lib.trimPrefix l p,Lib.hasPrefix l p).1)),.raw (.bool (Lib.trimPrefix l p,Lib.hasPrefix l p).2)]):=
 zkr [.string (bs l),.string (bs p)] ent18 (fun X us h=>qcp h) fun X hI=>(Tryd.strings_CutPrefix (bs l) (bs p) X.w).mono fun e w' ⟨h1,h2⟩=>⟨_,h1,h2,fun Y=>⟨_,rfl,_,_,rfl,rfl,_,_,rfl,rfl,rfl⟩⟩
theorem qbt (l p:List UInt8)(h:l.length≤9223372036854775807):Pure (ITP Tryd.prog) Tryd.prog 35 [.raw (.string (bs l)),.raw (.string (bs p))] (.tup [.raw (.string (bs (Lib.trimSuffix l p,Lib.hasSuffix l p).1)),.raw (.bool (Lib.trimSuffix l p,Lib.hasSuffix l p).2)]):=
 zkr [.string (bs l),.string (bs p)] ent35 (fun X us h=>qcp h) fun X hI=>(Tryd.strings_CutSuffix (bs l) (bs p) X.w h).mono fun e w' ⟨h1,h2⟩=>⟨_,h1,h2,fun Y=>⟨_,rfl,_,_,rfl,rfl,_,_,rfl,rfl,rfl⟩⟩
theorem z6v (l:List UInt8)(c:UInt8)(hc:c.toNat<128)(h:l.length≤9223372036854775807):Pure (ITP Tryd.prog) Tryd.prog 36 [.raw (.string (bs l)),.raw (.string (bs [c]))] (.raw (.string (bs (Lib.trimRightB l c)))):=
 zkr [.string (bs l),.string (bs [c])] ent36 (fun X us h=>qcp h) fun X hI=>(Tryd.strings_TrimRight_one (bs l) c hc X.w h).mono fun e w' ⟨h1,h2⟩=>⟨_,h1,h2,fun Y=>rfl⟩
end Go.Ab
namespace Go.Ab
open Go Go.RowKit Go.Fwd
section
variable {IT:IterP} {P:Program} {W:Owed} {k0:Nat}
theorem qgf {id:Nat} {ops:Array Oper} {y:Code} {Q:AQ} {S:List AV} {σ:St} (S1:List AV)(σ1:St)(h:zqt IT P W ops (fun S σ=>Wk k0 S σ S1 σ1) ops.size (Array.replicate ops.size false) S σ)(hrest:awp IT P W k0 y Q S1 σ1):awp IT P W k0 (.seq (.region id ops true) y) Q S σ:=
 .inl (.inr (.inr (.inl (zgq (fun S σ hw=>⟨S1,σ1,hw,hrest⟩) _ _ _ _ h))))
theorem zpw {ops0:Array Oper} {FIN0:List AV→St→Prop} {k:Nat} {l:Array Bool} {S:List AV} {σ:St} (h: ∀ops,ops=ops0→ ∀FIN:List AV→St→Prop,(∀S σ,FIN0 S σ→FIN S σ)→ ∀S0,S0=S→zqt IT P W ops FIN k l S0 σ):zqt IT P W ops0 FIN0 k l S σ:=h ops0 rfl FIN0 (fun _ _ h=>h) S rfl
theorem aopAt_s {ops ops0:Array Oper} {K:List AV→St→Prop} {i:Nat} {o:Oper} {S:List AV} {σ:St} (hops:ops=ops0)(ho:ops0[i]? =some o)(h:zcq IT P W ops K [o] S σ):zvu IT P W ops K i S σ:=by
 subst hops
 unfold zvu
 rw[ho]
 simp only[zcq] at h
 exact h
theorem aany_n {ops ops0:Array Oper} {FIN:List AV→St→Prop} {k:Nat} {bs:List Bool} {S:List AV} {σ:St} (hops:ops=ops0)(is:List Nat)(hr:Region.ready .any ops0 ⟨bs⟩=is)(hne:is≠[])(h: ∀i∈is,zvu IT P W ops (fun S σ=>zqt IT P W ops FIN k ⟨bs.set i true⟩ S σ) i S σ):zqt IT P W ops FIN (k+1) ⟨bs⟩ S σ:=by
 subst hops
 refine⟨fun e=>absurd (hr.symm.trans e) hne,fun i hi=> ?_⟩
 have h1:=h i (hr▸hi)
 have e:(⟨bs⟩:Array Bool).setIfInBounds i true=⟨bs.set i true⟩:=by
  apply Array.ext'
  simp
 rw[e];exact h1
theorem aany_0 {ops ops0:Array Oper} {FIN:List AV→St→Prop} {bs:List Bool} {S:List AV} {σ:St} (hops:ops=ops0)(hr:Region.ready .any ops0 ⟨bs⟩=[])(h:FIN S σ):zqt IT P W ops FIN 0 ⟨bs⟩ S σ:=by
 subst hops
 exact⟨hr,h⟩
theorem all_nil {p:Nat→Prop}: ∀i∈([]:List Nat),p i:=fun i h=>by cases h
theorem all_cons {p:Nat→Prop} {a:Nat} {l:List Nat} (h:p a)(t: ∀i∈l,p i): ∀i∈a::l,p i:=fun i hi=>by
 rcases List.mem_cons.1 hi with rfl|hi
 ·exact h
 ·exact t i hi
end
section
variable {P:Program} {ρ:Operand→AV} {σ:St} {o:Oper} {α:Type} [Enc α]
theorem Enc.atK {l:List α} {i:Int} (g:0≤i∧i<l.length)(k:Nat):(Enc.cellsL l).drop (0+i.toNat*Enc.sz α+k)=(Enc.cells (ix l i)++Enc.cellsL (l.drop (i.toNat+1))).drop k:=by
 rw[Nat.zero_add,←List.drop_drop,Enc.at g]
theorem qec {t e:TypeId} {x i:Operand} {s n:Nat} {f:Bool} {k:IntKind} {j:Int} (g:0≤j∧j<n)(ho:o.op= .indexAddr t x i)(hx:ρ x= .bsl s 0 n (Enc.sz α) f)(hi:ρ i= .raw (.int k j))(hu:P.underlying t=some (.slice e))(hs:zdk P e=some (Enc.sz α)):
 qop P ρ σ o=some (.ptr s (0+j.toNat*Enc.sz α)):=qfa ho hx hi hu hs g
theorem q_loadB {l:List α} {i:Int} {k s:Nat} {te t:TypeId} {x:Operand} {a:AV} (g:0≤i∧i<l.length)(ho:o.op= .load t x)(hx:ρ x= .ptr s (0+i.toNat*Enc.sz α+k))(hb:σ.boxes[s]? =some (te,Enc.cellsL l))(hr:rd P t ((Enc.cells (ix l i)++Enc.cellsL (l.drop (i.toNat+1))).drop k)=some a):
 qop P ρ σ o=some a:=by
 rw[←Enc.atK g] at hr
 simp only[qop,ho,hx,zlb,hb,hr]
theorem Enc.putK {l:List α} {i:Int} {x:α} {k n:Nat} {cs:List AV} (g:0≤i∧i<l.length)(hl:cs.length=n)(hk:k+n≤Enc.sz α)(hx:Enc.cells x=(Enc.cells (ix l i)).take k++cs++(Enc.cells (ix l i)).drop (k+n)):
 (Enc.cellsL l).take (0+i.toNat*Enc.sz α+k)++cs++(Enc.cellsL l).drop (0+i.toNat*Enc.sz α+k+n)=Enc.cellsL (l.set i.toNat x):=by
 have hi:i.toNat<l.length:=by omega
 have hset:l.set i.toNat x=l.take i.toNat++[x]++l.drop (i.toNat+1):=by
  rw[List.set_eq_take_append_cons_drop,if_pos hi];simp
 have hlen:=Enc.len (ix l i)
 have e1:(Enc.cellsL l).drop (i.toNat*Enc.sz α)=Enc.cells (ix l i)++Enc.cellsL (l.drop (i.toNat+1)):=Enc.at g
 have e2:(Enc.cellsL l).take (0+i.toNat*Enc.sz α+k)=Enc.cellsL (l.take i.toNat)++(Enc.cells (ix l i)).take k:=by
  rw[Nat.zero_add,List.take_add,Enc.take,e1,List.take_append_of_le_length (by omega)]
 have e3:(Enc.cellsL l).drop (0+i.toNat*Enc.sz α+k+n)=(Enc.cells (ix l i)).drop (k+n)++Enc.cellsL (l.drop (i.toNat+1)):=by
  rw[Nat.zero_add,Nat.add_assoc,←List.drop_drop,e1,List.drop_append_of_le_length (by omega)]
 rw[e2,e3,hset,Enc.app,Enc.app,Enc.cons,Enc.nil,hx]
 simp
theorem qbo {l:List α} {i:Int} {k s n:Nat} {te t:TypeId} {x y:Operand} {v:AV} (x':α)(g:0≤i∧i<l.length)(ho:o.op= .store t x y)(hx:ρ x= .ptr s (0+i.toNat*Enc.sz α+k))(hy:ρ y=v)(hb:σ.boxes[s]? =some (te,Enc.cellsL l))(hn:zdk P t=some n)(hc:zhn v=true)(hl:(cellsOf v).length=n)(h0:0<n)(hk:k+n≤Enc.sz α)
 (hx':Enc.cells x'=(Enc.cells (ix l i)).take k++cellsOf v++(Enc.cells (ix l i)).drop (k+n)):aop P ρ σ o=some (.raw undef,{σ with boxes:=σ.boxes.set s (te,Enc.cellsL (l.set i.toNat x'))}):=by
 have hfit:0+i.toNat*Enc.sz α+k+n≤(Enc.cellsL l).length:=by
  rw[Enc.lenL]
  have h1:i.toNat+1≤l.length:=by omega
  have h2:=Nat.mul_le_mul_right (Enc.sz α) h1
  rw[Nat.succ_mul] at h2
  omega
 rw[zcr (n:=n) ho hx hy hb hn ⟨hc,hl,hfit,h0⟩,Enc.putK g hl hk hx']
theorem opB_bsl {c:Call} {x y:Operand} {t e:TypeId} {i:TypeInfo} {z:Value} {s n by':Nat} {l r:List α} {st:Room} (hn:l.length=n∧0<n∧0<r.length∧(n+r.length)*by'≤140737488355328)(ho:o.op= .call c)(hc:c.callee= .builtin .append)(ha:c.args.toList=[x,y])(ht:c.argTypes.toList=[t,t])
 (hx:ρ x= .bsl s 0 n (Enc.sz α) false) (hy:ρ y= .list r.length (Enc.cellsL r) st) (hb:σ.boxes[s]? =some (e,Enc.cellsL l)) (hu:P.underlying t=some (.slice e)) (hi:P.info? e=some i) (hz:i.zero=some z) (hsz:i.size=Enc.sz α) (hzs:z.cells.size=Enc.sz α) (hby:i.bytes=by'∧0<by'):
 zvw P ρ σ o=some (.bsl σ.boxes.length 0 (n+r.length) (Enc.sz α) false,{σ with boxes:=σ.boxes.set s (e,[])++[(e,Enc.cellsL (l++r))]}):=by
 obtain⟨h1,h2,h3,h4⟩:=hn
 have hp:=Enc.pos (α:=α)
 have hsrc:z8z P σ i.size t t (ρ y)=some (r.length,Enc.cellsL r):=by rw[hy];exact zto ⟨rfl,by rw[Enc.lenL,hsz],by omega⟩
 have hmax:n+r.length≤maxLen:=by
  have h5:n+r.length≤(n+r.length)*by':=Nat.le_mul_of_pos_right _ hby.2
  have h6:140737488355328≤maxLen:=by decide
  omega
 have hcond:Enc.sz α=i.size∧n+r.length≤maxLen∧(n+r.length)*i.bytes≤140737488355328∧0+n*Enc.sz α≤(Enc.cellsL l).length:=⟨hsz.symm,hmax,by rw[hby.1];exact h4,by rw[Enc.lenL,h1];omega⟩
 have hcond2:(0:Nat)=0∧n*Enc.sz α=(Enc.cellsL l).length∧e=e∧0<n:=⟨rfl,by rw[Enc.lenL,h1],rfl,h2⟩
 have hcond0:0<i.size∧z.cells.size=i.size∧0<r.length:=⟨by omega,by omega,h3⟩
 have key:zov P σ t t (ρ x) (ρ y)=some (.bsl σ.boxes.length 0 (n+r.length) (Enc.sz α) false,{σ with boxes:=σ.boxes.set s (e,[])++[(e,Enc.cellsL (l++r))]}):=by
  rw[zov]
  simp only[hu,hi,hz,hsrc,if_pos hcond0,hx,hb,if_pos hcond,Bool.false_eq_true,if_false,Enc.app]
  rw[if_pos ⟨trivial,hcond2.2.1,trivial,h2⟩]
 have hnn:ztb (ρ x)=false:=by rw[hx];rfl
 simp only[zvw,ho,hc,ha,ht,key,hnn,Bool.false_eq_true,if_false]
end
section
variable {m:Nat} {g:FZ}
theorem zcu:fgM [] (zaf m g [])=[]:=by rw[zaf];rfl
theorem zai {a b:AV} {S S':List AV} {ms:List Bool} (h:zhc m g a=b)(r:fgM ms (zaf m g S)=S'):fgM (true::ms) (zaf m g (a::S))=b::S':=by
 rw[zaf];show(bif true then zhc m g a else .top)::_=_;rw[r,h];rfl
theorem zah {a:AV} {S S':List AV} {ms:List Bool} (r:fgM ms (zaf m g S)=S'):fgM (false::ms) (zaf m g (a::S))= .top::S':=by
 rw[zaf];show(bif false then zhc m g a else .top)::_=_;rw[r];rfl
theorem zk {a b c d e f x y:AV} {S S':List AV} {ms:List Bool} (r:fgM ms (zaf m g S)=S'):fgM (false::false::false::false::false::false::false::false::ms) (zaf m g (a::b::c::d::e::f::x::y::S))= .top:: .top:: .top:: .top:: .top:: .top:: .top:: .top::S':=zah (zah (zah (zah (zah (zah (zah (zah r)))))))
theorem ze:zaf m g []=[]:=by rw[zaf]
theorem zb {a b:AV} {l l':List AV} (h:zhc m g a=b)(r:zaf m g l=l'):zaf m g (a::l)=b::l':=by rw[zaf,h,r]
theorem z0v:zbr g []=[]:=by rw[zbr]
theorem zns {a b:AV} {l l':List AV} (h:zgb g a=b)(r:zbr g l=l'):zbr g (a::l)=b::l':=by rw[zbr,h,r]
theorem z1x {a:AV} (h:clo a=true):zgb g a=a:=by
 have:=zdx g [a] (by rw[cloL,h];rfl)
 rw[zbr] at this
 exact(List.cons.inj this).1
theorem kz_bsl {α:Type} [Enc α] {bs:List (TypeId×List AV)} {js:List Nat} {d s n:Nat} {f:Bool} {t:TypeId} {l:List α} (hn:l.length=n)(hb:bs[s]? =some (t,Enc.cellsL l))(hp:zfr 0 [] js s=none):zhc m (kz bs m 0 [] js (d+1)) (.bsl s 0 n (Enc.sz α) f)= .list l.length (Enc.cellsL l) .none:=by
 subst hn
 rw[zhc]
 simp only[kz,hp,hb,Option.map_some,Option.getD_some,List.drop_zero,zau _ _ _ (Enc.cloL l)]
 rw[List.take_of_length_le (by rw[Enc.lenL];exact Nat.le_refl _)]
theorem zao {bs:List (TypeId×List AV)} {n d:Nat} {fs js0:List Nat}:(([]:List Nat).map fun j=>((bs[j]?).map fun b=>(b.1,zaf m (kz bs m n fs js0 d) b.2)).getD (0,[.bad]))=[]:=rfl
theorem zj {bs:List (TypeId×List AV)} {n d j:Nat} {fs js js0:List Nat} {t:TypeId} {cs cs':List AV} {r:List (TypeId×List AV)} (hb:bs[j]? =some (t,cs))(hc:zaf m (kz bs m n fs js0 d) cs=cs')(hr:(js.map fun j=>((bs[j]?).map fun b=>(b.1,zaf m (kz bs m n fs js0 d) b.2)).getD (0,[.bad]))=r):
 ((j::js).map fun j=>((bs[j]?).map fun b=>(b.1,zaf m (kz bs m n fs js0 d) b.2)).getD (0,[.bad]))=(t,cs')::r:=by
 rw[List.map_cons,hr,hb]
 simp only[Option.map_some,Option.getD_some,hc]
theorem zwt {σ σ':St} {d:Nat} {js:List Nat} {bs':List (TypeId×List AV)} (h:(js.map fun j=>((σ.boxes[j]?).map fun b=>(b.1,zaf m (kz σ.boxes m 0 [] js d) b.2)).getD (0,[.bad]))=bs')(h2:{σ with boxes:=bs',lens:=σ.lens.take m,elems:=σ.elems.take m}=σ'):zer σ m 0 [] js d=σ':=by
 subst h2
 unfold zer zck
 rw[h]
 rfl
end
section
variable {P:Program} {ρ:Operand→AV} {σ:St} {o:Oper}
theorem bs_get (l:List UInt8)(i:Nat):(bs l)[i]? =l[i]? :=by
 simp only[bs]
 by_cases h:i<l.length
 ·rw[List.getElem?_eq_getElem h]
  have h2:i<(ByteArray.mk l.toArray).size:=h
  rw[getElem?_pos (ByteArray.mk l.toArray) i h2]
  rfl
 ·rw[List.getElem?_eq_none (by omega)]
  have h2: ¬i<(ByteArray.mk l.toArray).size:=h
  rw[getElem?_neg (ByteArray.mk l.toArray) i h2]
theorem zur (l:List UInt8)(i j:Nat):(bs l).extract i j=bs ((l.drop i).take (j-i)):=by
 apply ByteArray.ext
 rw[ByteArray.data_extract]
 simp[bs,List.extract_eq_take_drop]
theorem z2u {v:Value} (h1:o.op.operands.toList.all (fun x=>(zdi (ρ x)).isSome)=true)(h2: ∀cs b,o.op≠ .select cs b)(h3:val? P (execOp (zbt ρ) o)=some (.value v))(h4:zpp v=true):zfj P ρ o=some (ziu v):=by
 unfold zfj
 rw[if_pos h1]
 split
 ·rename_i cs b ho;exact absurd ho (h2 cs b)
 ·rw[h3];simp only[h4,if_true]
theorem zdd {t:TypeId} {x i:Operand} {l:List UInt8} {k:IntKind} {n:Int} (g:0≤n∧n<l.length)(ho:o.op= .index t x i)(hx:ρ x= .raw (.string (bs l)))(hi:ρ i= .raw (.int k n))(hu:P.underlying t=some .string):
 qop P ρ σ o=some (.raw (.int .u8 (((ix l n).toNat:Nat):Int))):=by
 have hn:n.toNat<l.length:=by omega
 have h3:val? P (execOp (zbt ρ) o)=some (.value (.int .u8 (((ix l n).toNat:Nat):Int))):=by
  have hg:(bs l)[n.toNat]? =some (ix l n):=by
   rw[bs_get,List.getElem?_eq_getElem hn];simp[ix,hn]
  simp only[execOp,ho,zbt,hx,hi,zdi,Option.getD_some,Instr.index,asIntOf,underlying]
  simp only[program,Bind.bind,Pure.pure,Functor.map,Sem.bind,val?,hu,if_pos g.1,hg]
 have h1:o.op.operands.toList.all (fun x=>(zdi (ρ x)).isSome)=true:=by rw[ho];simp[Op.operands,hx,hi,zdi]
 have h4:=z2u h1 (by rw[ho];intros;simp) h3 rfl
 simp only[qop,ho,hx,hi,h4]
 first|rfl|(simp;rfl)
theorem zmg {t:TypeId} {x y:Operand} {l:List UInt8} {i:Int} (g:0≤i∧i≤(l.length:Int)∧(l.length:Int)≤(l.length:Int))(ho:o.op= .slice t x (some y) none none)(hx:ρ x= .raw (.string (bs l)))(hy:ρ y= .raw (.int .i64 i))(hu:P.underlying t=some .string):
 qop P ρ σ o=some (.raw (.string (bs (sub l i l.length)))):=by
 have hsz:(bs l).size=l.length:=rfl
 have c2:0≤i∧i≤((bs l).size:Int):=by rw[hsz];omega
 have h3:val? P (execOp (zbt ρ) o)=some (.value (.string (bs (sub l i l.length)))):=by
  have he:sub l i l.length=(l.drop i.toNat).take (l.length-i.toNat):=rfl
  rw[he,←zur]
  simp only[execOp,ho,zbt,hx,hy,zdi,Option.getD_some,Option.map_some,Option.map_none,Instr.sliceAt,Instr.slice,Instr.sliceBounds,Instr.sliceBound,asIntOf,underlying]
  simp[program,Bind.bind,Pure.pure,Functor.map,Sem.bind,val?,hu,if_pos c2]
  try rfl
 have h1:o.op.operands.toList.all (fun x=>(zdi (ρ x)).isSome)=true:=by rw[ho];simp[Op.operands,hx,hy,zdi]
 have h4:=z2u h1 (by rw[ho];intros;simp) h3 rfl
 simp only[qop,ho,hx,hy,h4,Option.map_some,Option.map_none,zqi,hu]
 try rfl
theorem qco {t:TypeId} {x z:Operand} {l:List UInt8} {j:Int} (g:0≤0∧0≤j∧j≤(l.length:Int))(ho:o.op= .slice t x none (some z) none)(hx:ρ x= .raw (.string (bs l)))(hz:ρ z= .raw (.int .i64 j))(hu:P.underlying t=some .string):
 qop P ρ σ o=some (.raw (.string (bs (sub l 0 j)))):=by
 have hsz:(bs l).size=l.length:=rfl
 have c1:0≤j∧j≤((bs l).size:Int):=by rw[hsz];omega
 have h3:val? P (execOp (zbt ρ) o)=some (.value (.string (bs (sub l 0 j)))):=by
  have he:sub l 0 j=(l.drop 0).take (j.toNat-0):=rfl
  rw[he,←zur]
  simp only[execOp,ho,zbt,hx,hz,zdi,Option.getD_some,Option.map_some,Option.map_none,Instr.sliceAt,Instr.slice,Instr.sliceBounds,Instr.sliceBound,asIntOf,underlying]
  simp[program,Bind.bind,Pure.pure,Functor.map,Sem.bind,val?,hu,if_pos c1]
  try rfl
 have h1:o.op.operands.toList.all (fun x=>(zdi (ρ x)).isSome)=true:=by rw[ho];simp[Op.operands,hx,hz,zdi]
 have h4:=z2u h1 (by rw[ho];intros;simp) h3 rfl
 simp only[qop,ho,hx,hz,h4,Option.map_some,Option.map_none,zqi,hu]
 try rfl
end
section
variable {P:Program} {ρ:Operand→AV} {σ:St} {o:Oper}
theorem zdv {x:Operand} {t:TypeId} {l:List UInt8} (ho:o.op= .call ⟨.builtin .len, #[x], #[t]⟩)(hx:ρ x= .raw (.string (bs l)))(hu:P.underlying t=some .string):qop P ρ σ o=some (.raw (.int .i64 (l.length:Int))):=by
 have h2:qei P t (.raw (.string (bs l)))=none:=rfl
 have h1:o.op.operands.toList.all (fun x=>(zdi (ρ x)).isSome)=true:=by rw[ho];simp[Op.operands,Call.operands,hx,zdi]
 have h3:val? P (execOp (zbt ρ) o)=some (.value (.int .i64 (l.length:Int))):=by
  have hsz:(bs l).size=l.length:=rfl
  simp[execOp,ho,resolve,invoke,zbt,hx,zdi,builtin,Builtin.len_,underlying,goInt,hsz]
  simp only[program,Bind.bind,Pure.pure,Functor.map,Sem.bind,val?,hu,hsz]
  rfl
 have h4:zfj P ρ o=some (.raw (.int .i64 (l.length:Int))):=by
  unfold zfj;rw[if_pos h1,ho,h3];rfl
 simp only[qop,ho,hx,h2,h4]
end
theorem bs_beq (a b:List UInt8):((bs a).toList==(bs b).toList)=decide (a=b):=by
 rw[ByteArray.toList_eq,ByteArray.toList_eq]
 show((a.toArray.toList)==(b.toArray.toList))=_
 by_cases h:a=b<;>simp[h]
section
variable {P:Program} {ρ:Operand→AV} {σ:St} {o:Oper}
theorem bs_app (a b:List UInt8):bs a++bs b=bs (a++b):=by
 apply ByteArray.ext
 show(bs a++bs b).data=_
 rw[ByteArray.data_append]
 simp[bs]
theorem qdp {t:TypeId} {x y:Operand} {c} {a b:List UInt8} (ho:o.op= .binOp .eql t x y c)(hx:ρ x= .raw (.string (bs a)))(hy:ρ y= .raw (.string (bs b))):qop P ρ σ o=some (.raw (.bool (a==b))):=by
 have hst:(a==b)=decide (a=b):=by by_cases h:a=b<;>simp[h]
 have h3:val? P (execOp (zbt ρ) o)=some (.value (.bool (a==b))):=by
  rw[hst,←bs_beq]
  simp[execOp,ho,zbt,hx,hy,zdi,eqGuard,binOp,Op.stringOp]
  rfl
 have h1:o.op.operands.toList.all (fun x=>(zdi (ρ x)).isSome)=true:=by rw[ho];simp[Op.operands,hx,hy,zdi]
 have h4:zfj P ρ o=some (.raw (.bool (a==b))):=by
  unfold zfj;rw[if_pos h1,ho,h3];rfl
 simp only[qop,ho,hx,hy,h4]
end
end Go.Ab
