import Derived.Test.YtnoccnalocdldaaDoorRows
import Derived.Test.YtnoccnalocdldaaDoorZgP
import Derived.Shelf.Strings.Trim
import Derived.Shelf.Small.Strs
import Derived.Shelf.Small.Wraps
import Derived.Shelf.Strings.Search1
import Derived.Shelf.Strings.Prefix
import Derived.Test.YtnoccnalocdldaaDoorProg
set_option linter.all false
set_option maxRecDepth 100000
set_option maxHeartbeats 4000000
open Sum (inl inr)
open Int (toNat)
open Option (map_some getD_some)
open Go.Proofs.Tryd (prog)
namespace Go.Ab
open Go Go.RowKit Go.Fwd Go.Proofs
variable {ρ:Operand->AV} {o:Oper} {y:Operand}
theorem mix:prog.follows .mixedOrders=true:=by kernel_rfl
theorem ents (f:Nat)(fn:Func)(hf:prog.funcs[f]? =some fn)(hb:fn.body.isSome=true):Ent prog f:=by
 obtain⟨c,hc⟩:=Option.isSome_iff_exists.1 hb;have hall:(prog.funcs.toList.all fun fn=> !(fn.name== "runtime.NumGoroutine"))=true:=by kernel_rfl
 have:=List.all_eq_true.1 hall fn (Array.mem_toList_iff.2 (Array.mem_of_getElem? hf));exact enters_of hf (by simpa using this) hc
def noP:CallP:=fun _ _=>none
def noS:CallS:=fun _ _ _=>none
theorem goodN:Good prog noP noS:=⟨mix,ents,(fun _ _ _ h=>nomatch h),(fun _ _ _ _ _ h=>nomatch h)⟩
theorem undS:prog.underlying 27=some (.array 4 24):=by kernel_rfl
theorem undW:prog.underlying 24=some (.int .u64):=by kernel_rfl
theorem sizeW (w:World):(sizeOf 24).run prog w= .ok 1 w:=by kernel_rfl
theorem aggW (w:World):(isAgg 24).run prog w= .ok false w:=by kernel_rfl
theorem eqInS' (d:Nat)(a0 a1 a2 a3 b0 b1 b2 b3:Int)(w:World):(Op.equalIn (d+1+1) 27 (.agg #[.int .u64 a0,.int .u64 a1,.int .u64 a2,.int .u64 a3]) (.agg #[.int .u64 b0,.int .u64 b1,.int .u64 b2,.int .u64 b3])).run prog w=
 .ok (a0==b0&&a1==b1&&a2==b2&&a3==b3) w:=by
 rw[Op.equalIn];simp only[Sem.run_bind,run_underlying undS,Result.andThen_ok,sizeW];have hq: ∀(a b:Int) (w:World),(Op.equalIn (d+1) 24 (.int .u64 a) (.int .u64 b)).run prog w= .ok (a==b) w:=fun a b w=>run_equalIn_int w d 24 .u64 .u64 a b undW;have hr:List.range' 0 4=[0,1,2,3]:=rfl;simp[part,hr,aggW,Sem.run_bind,hq,Result.andThen];by_cases h0:a0=b0<;>by_cases h1:a1=b1<;>by_cases h2:a2=b2<;>by_cases h3:a3=b3<;>simp[h0,h1,h2,h3,hq,Result.andThen]
theorem eqInS (a0 a1 a2 a3 b0 b1 b2 b3:Int)(w:World):(Op.equalIn 10000 27 (.agg #[.int .u64 a0,.int .u64 a1,.int .u64 a2,.int .u64 a3]) (.agg #[.int .u64 b0,.int .u64 b1,.int .u64 b2,.int .u64 b3])).run prog w=
 .ok (a0==b0&&a1==b1&&a2==b2&&a3==b3) w:=eqInS' 9998 _ _ _ _ _ _ _ _ w
theorem qjx:prog.eqGuardType prog.depth 27=false:=by kernel_rfl
theorem qaw {x:Operand} {c} (s t:BS)(ho:o.op= .binOp .eql 27 x y c)(hx:ρ x=qek s)(hy:ρ y=qek t):zns prog ρ o (.raw (.bool (decide (s=t)))):=by
 refine⟨?_,by rw[ho];intros;simp,by rw[ho];intros;simp,.bool (decide (s=t)),fun w=> ?_,rfl,rfl⟩
 ·rw[ho];simp[Op.operands,hx,hy,qek,zdv,zea,zjp]
 ·have h1:zce ρ x= .agg #[.int .u64 (wd s 0),.int .u64 (wd s 1),.int .u64 (wd s 2),.int .u64 (wd s 3)]:=by simp[zce,hx,qek,zdv,zea,zjp]
  have h2:zce ρ y= .agg #[.int .u64 (wd t 0),.int .u64 (wd t 1),.int .u64 (wd t 2),.int .u64 (wd t 3)]:=by simp[zce,hy,qek,zdv,zea,zjp]
  have h3:=eqInS (wd s 0) (wd s 1) (wd s 2) (wd s 3) (wd t 0) (wd t 1) (wd t 2) (wd t 3) w;rw[qal] at h3;simp[execOp,ho,h1,h2,eqGuard,binOp,Op.equal,Op.maxDepth,program,Sem.run,qjx,h3]
theorem z6d {x:Operand} {c} (s t:BS)(ho:o.op= .binOp .neq 27 x y c)(hx:ρ x=qek s)(hy:ρ y=qek t):zns prog ρ o (.raw (.bool (decide (s≠t)))):=by
 refine⟨?_,by rw[ho];intros;simp,by rw[ho];intros;simp,.bool (decide (s≠t)),fun w=> ?_,rfl,rfl⟩
 ·rw[ho];simp[Op.operands,hx,hy,qek,zdv,zea,zjp]
 ·have h1:zce ρ x= .agg #[.int .u64 (wd s 0),.int .u64 (wd s 1),.int .u64 (wd s 2),.int .u64 (wd s 3)]:=by simp[zce,hx,qek,zdv,zea,zjp]
  have h2:zce ρ y= .agg #[.int .u64 (wd t 0),.int .u64 (wd t 1),.int .u64 (wd t 2),.int .u64 (wd t 3)]:=by simp[zce,hy,qek,zdv,zea,zjp]
  have h3:=eqInS (wd s 0) (wd s 1) (wd s 2) (wd s 3) (wd t 0) (wd t 1) (wd t 2) (wd t 3) w;rw[qal] at h3;simp[execOp,ho,h1,h2,eqGuard,binOp,Op.equal,Op.maxDepth,program,Sem.run,qjx,h3]
theorem zvq {x:Operand} {c} (s t:BS)(ho:o.op= .binOp .eql 27 x y c)(hx:ρ x= .agg (Enc.cells s))(hy:ρ y= .agg (Enc.cells t)):zns prog ρ o (.raw (.bool (decide (s=t)))):=qaw s t ho hx hy
theorem zyz {x:Operand} {c} (s t:BS)(ho:o.op= .binOp .neq 27 x y c)(hx:ρ x= .agg (Enc.cells s))(hy:ρ y= .agg (Enc.cells t)):zns prog ρ o (.raw (.bool (decide (s≠t)))):=z6d s t ho hx hy
theorem or_run (a b:BS):Pure (ITP prog) prog 16 [.agg (Enc.cells a),.agg (Enc.cells b)] (.agg [.raw (.int .u64 (orI .u64 (wd a 0) (wd b 0))),.raw (.int .u64 (orI .u64 (wd a 1) (wd b 1))),.raw (.int .u64 (orI .u64 (wd a 2) (wd b 2))),.raw (.int .u64 (orI .u64 (wd a 3) (wd b 3)))]):=zdt true goodN 100 (by kernel_rfl)
theorem qge (a b:BS):Pure (ITP prog) prog 16 [.agg (Enc.cells a),.agg (Enc.cells b)] (.agg (Enc.cells (a|||b))):=by
 have:=or_run a b;simp only[qbi] at this;exact this
end Go.Ab
namespace Go.Ab
open Go Go.RowKit Go.Fwd
end Go.Ab
namespace Go.Ab
open Go Go.RowKit Go.Fwd
section
variable {P:Program} {ρ:Operand->AV} {U:St} {o:Oper}
theorem zmf {x:Operand} {s t:TypeId} {k:IntKind} {n:Int} (g: -9223372036854775808<=n/\ n<9223372036854775808)(ho:o.op= .convert s t x)(hx:ρ x= .raw (.int k n))(hs:val? P (Next.value<$>convert s t (.int k n))=some (.value (.int .i64 (IntKind.i64.wrap n)))):qop P ρ U o=some (.raw (.int .i64 n)):=by
 have h:=zog g.1 g.2;rw[h] at hs;simp[qop,zfs,ho,Op.operands,hx,zdv,execOp,zce,hs,zos];exact⟨rfl,rfl⟩
end
section
variable {P:Program} {ρ:Operand->AV} {U:St} {o:Oper}
end
end Go.Ab
namespace Go.Ab
open Go Go.RowKit Go.Fwd Go.Proofs
structure Bd where
 lo:Int
 mo:Int
 deriving DecidableEq
def qbm (e:Bd):List AV:=[.raw (.int .i64 e.lo),.raw (.int .i64 e.mo)]
instance:Enc Bd where
 inh:=⟨0,0⟩
 cells:=qbm
 cellsL l:=l.flatMap qbm
 sz:=2
 pos:=by decide
 nil:=rfl
 cons _ _:=rfl
 len _:=rfl
 clo _:=rfl
theorem zwz {ρ:Operand->AV} {U:St} {o:Oper} {x:Operand} {b:Nat} {t:TypeId} {i:Int} (s:BS)(hi:0<=i/\ i<4)(ho:o.op= .load 24 x)(hx:ρ x= .ptr b (0+i.toNat*1))(hb:U.boxes[b]? =some (t,Enc.cells s)):qop prog ρ U o=some (.raw (.int .u64 (wd s i.toNat))):=by
 have key: ∀j:Nat,j<4->rd prog 24 ((Enc.cells s).drop (0+j*1))=some (.raw (.int .u64 (wd s j))):=by
  intro j hj
  match j,hj with
  |0,_=>rfl
  |1,_=>rfl
  |2,_=>rfl
  |3,_=>rfl
 simp only[qop,ho,zlg,hx,hb];exact key i.toNat (by omega)
end Go.Ab
namespace Go.Proofs
open Go.Shelf
def Tryd.lays162_ren:Go.Shelf.Ren:=⟨fun|162=>36|232=>52|227=>53|234=>54|236=>55|228=>68|271=>69|151=>70|120=>85|197=>86|152=>87|260=>93|137=>47|119=>94|224=>95|225=>96|217=>66|266=>84|n=>n,fun|9=>9|4=>4|3=>3|5=>5|117=>98|116=>97|0=>0|124=>101|21=>21|105=>106|46=>46|119=>128|139=>131|138=>130|n=>n,fun|3=>1|4=>2|n=>n⟩
theorem Tryd.lays162:Go.Proofs.Lays.n162 prog Tryd.lays162_ren:={
 mixed:=by kernel_rfl
 f119:=Tryd.func94.trans (congrArg some (by kernel_rfl))
 f120:=Tryd.func85.trans (congrArg some (by kernel_rfl))
 f137:=Tryd.func47.trans (congrArg some (by kernel_rfl))
 f151:=Tryd.func70.trans (congrArg some (by kernel_rfl))
 f152:=Tryd.func87.trans (congrArg some (by kernel_rfl))
 f162:=Tryd.func36.trans (congrArg some (by kernel_rfl))
 f197:=Tryd.func86.trans (congrArg some (by kernel_rfl))
 f217:=Tryd.func66.trans (congrArg some (by kernel_rfl))
 f224:=Tryd.func95.trans (congrArg some (by kernel_rfl))
 f225:=Tryd.func96.trans (congrArg some (by kernel_rfl))
 f227:=Tryd.func53.trans (congrArg some (by kernel_rfl))
 f228:=Tryd.func68.trans (congrArg some (by kernel_rfl))
 f232:=Tryd.func52.trans (congrArg some (by kernel_rfl))
 f234:=Tryd.func54.trans (congrArg some (by kernel_rfl))
 f236:=Tryd.func55.trans (congrArg some (by kernel_rfl))
 f260:=Tryd.func93.trans (congrArg some (by kernel_rfl))
 f266:=Tryd.func84.trans (congrArg some (by kernel_rfl))
 f271:=Tryd.func69.trans (congrArg some (by kernel_rfl))
 t0:=Tryd.underlying0
 a0:=Tryd.isAgg0
 z0:=Tryd.sizeOf0
 v0:=Tryd.zeroValue0
 t3:=Tryd.underlying3
 a3:=Tryd.isAgg3
 z3:=Tryd.sizeOf3
 v3:=Tryd.zeroValue3
 t4:=Tryd.underlying4
 a4:=Tryd.isAgg4
 z4:=Tryd.sizeOf4
 v4:=Tryd.zeroValue4
 t5:=Tryd.underlying5
 a5:=Tryd.isAgg5
 z5:=Tryd.sizeOf5
 v5:=Tryd.zeroValue5
 t9:=Tryd.underlying9
 a9:=Tryd.isAgg9
 z9:=Tryd.sizeOf9
 v9:=Tryd.zeroValue9
 t21:=Tryd.underlying21
 a21:=Tryd.isAgg21
 z21:=Tryd.sizeOf21
 v21:=Tryd.zeroValue21
 t46:=Tryd.underlying46
 a46:=Tryd.isAgg46
 z46:=Tryd.sizeOf46
 v46:=Tryd.zeroValue46
 t105:=Tryd.underlying106
 a105:=Tryd.isAgg106
 z105:=Tryd.sizeOf106
 v105:=Tryd.zeroValue106
 t116:=Tryd.underlying97
 a116:=Tryd.isAgg97
 z116:=Tryd.sizeOf97
 t117:=Tryd.underlying98
 a117:=Tryd.isAgg98
 z117:=Tryd.sizeOf98
 v117:=Tryd.zeroValue98
 t119:=Tryd.underlying128
 a119:=Tryd.isAgg128
 z119:=Tryd.sizeOf128
 t124:=Tryd.underlying101
 a124:=Tryd.isAgg101
 z124:=Tryd.sizeOf101
 v124:=Tryd.zeroValue101
 t138:=Tryd.underlying130
 a138:=Tryd.isAgg130
 z138:=Tryd.sizeOf130
 v138:=Tryd.zeroValue130
 t139:=Tryd.underlying131
 a139:=Tryd.isAgg131
 z139:=Tryd.sizeOf131
 v139:=Tryd.zeroValue131
 g3:=by kernel_rfl
 g4:=by kernel_rfl}
open Go.RowKit in
theorem Tryd.strings_TrimRight_one (s:ByteArray)(c:UInt8)(hc:c.toNat<128)(w:World)(hs:s.size<=9223372036854775807):
 Calls prog 36 #[.string s,.string ⟨#[c]⟩] w fun e w'=>e= .returned (.string ⟨(Lib.trimRightB s.data.toList c).toArray⟩)/\ w'=w:=Any.strings_TrimRight_one Tryd.lays162 s c hc w hs
def Tryd.lays137_ren:Go.Shelf.Ren:=⟨fun|137=>47|217=>66|266=>84|n=>n,fun|9=>9|5=>5|3=>3|n=>n,fun|n=>n⟩
theorem Tryd.lays137:Go.Proofs.Lays.n137 prog Tryd.lays137_ren:={
 mixed:=by kernel_rfl
 f137:=Tryd.func47.trans (congrArg some (by kernel_rfl))
 f217:=Tryd.func66.trans (congrArg some (by kernel_rfl))
 f266:=Tryd.func84.trans (congrArg some (by kernel_rfl))
 t3:=Tryd.underlying3
 a3:=Tryd.isAgg3
 z3:=Tryd.sizeOf3
 v3:=Tryd.zeroValue3
 t5:=Tryd.underlying5
 a5:=Tryd.isAgg5
 z5:=Tryd.sizeOf5
 v5:=Tryd.zeroValue5
 t9:=Tryd.underlying9
 a9:=Tryd.isAgg9
 z9:=Tryd.sizeOf9
 v9:=Tryd.zeroValue9}
open Go.RowKit in
theorem Tryd.strings_IndexByte (s:ByteArray)(c:Int)(w:World):
 Calls prog 47 #[.string s,.int .u8 c] w fun e w'=>e= .returned (.int .i64 (Lib.indexByte s.data.toList c.toNat.toUInt8))/\ w'=w:=Any.strings_IndexByte Tryd.lays137 s c w
def Tryd.lays103_ren:Go.Shelf.Ren:=⟨fun|103=>18|210=>34|206=>25|n=>n,fun|9=>9|4=>4|24=>53|3=>3|n=>n,fun|n=>n⟩
theorem Tryd.lays103:Go.Proofs.Lays.n103 prog Tryd.lays103_ren:={
 mixed:=by kernel_rfl
 f103:=Tryd.func18.trans (congrArg some (by kernel_rfl))
 f206:=Tryd.func25.trans (congrArg some (by kernel_rfl))
 f210:=Tryd.func34.trans (congrArg some (by kernel_rfl))
 t3:=Tryd.underlying3
 a3:=Tryd.isAgg3
 z3:=Tryd.sizeOf3
 v3:=Tryd.zeroValue3
 t4:=Tryd.underlying4
 a4:=Tryd.isAgg4
 z4:=Tryd.sizeOf4
 v4:=Tryd.zeroValue4
 t9:=Tryd.underlying9
 a9:=Tryd.isAgg9
 z9:=Tryd.sizeOf9
 v9:=Tryd.zeroValue9
 t24:=Tryd.underlying53
 a24:=Tryd.isAgg53
 z24:=Tryd.sizeOf53
 v24:=Tryd.zeroValue53}
open Go.RowKit in
theorem Tryd.strings_CutPrefix (s p:ByteArray)(w:World):
 Calls prog 18 #[.string s,.string p] w fun e w'=>e= .returned (.tuple #[.string ⟨(Lib.trimPrefix s.data.toList p.data.toList).toArray⟩,.bool (Lib.hasPrefix s.data.toList p.data.toList)])/\ w'=w:=Any.strings_CutPrefix Tryd.lays103 s p w
def Tryd.lays104_ren:Go.Shelf.Ren:=⟨fun|104=>35|211=>51|207=>67|n=>n,fun|9=>9|4=>4|24=>53|3=>3|n=>n,fun|n=>n⟩
theorem Tryd.lays104:Go.Proofs.Lays.n104 prog Tryd.lays104_ren:={
 mixed:=by kernel_rfl
 f104:=Tryd.func35.trans (congrArg some (by kernel_rfl))
 f207:=Tryd.func67.trans (congrArg some (by kernel_rfl))
 f211:=Tryd.func51.trans (congrArg some (by kernel_rfl))
 t3:=Tryd.underlying3
 a3:=Tryd.isAgg3
 z3:=Tryd.sizeOf3
 v3:=Tryd.zeroValue3
 t4:=Tryd.underlying4
 a4:=Tryd.isAgg4
 z4:=Tryd.sizeOf4
 v4:=Tryd.zeroValue4
 t9:=Tryd.underlying9
 a9:=Tryd.isAgg9
 z9:=Tryd.sizeOf9
 v9:=Tryd.zeroValue9
 t24:=Tryd.underlying53
 a24:=Tryd.isAgg53
 z24:=Tryd.sizeOf53
 v24:=Tryd.zeroValue53}
open Go.RowKit in
theorem Tryd.strings_CutSuffix (s p:ByteArray)(w:World)(hs:s.size<=9223372036854775807):
 Calls prog 35 #[.string s,.string p] w fun e w'=>e= .returned (.tuple #[.string ⟨(Lib.trimSuffix s.data.toList p.data.toList).toArray⟩,.bool (Lib.hasSuffix s.data.toList p.data.toList)])/\ w'=w:=Any.strings_CutSuffix Tryd.lays104 s p w hs
def Tryd.lays99_ren:Go.Shelf.Ren:=⟨fun|99=>12|206=>25|n=>n,fun|9=>9|4=>4|3=>3|n=>n,fun|n=>n⟩
theorem Tryd.lays99:Go.Proofs.Lays.n99 prog Tryd.lays99_ren:={
 mixed:=by kernel_rfl
 f99:=Tryd.func12.trans (congrArg some (by kernel_rfl))
 f206:=Tryd.func25.trans (congrArg some (by kernel_rfl))
 t3:=Tryd.underlying3
 a3:=Tryd.isAgg3
 z3:=Tryd.sizeOf3
 v3:=Tryd.zeroValue3
 t4:=Tryd.underlying4
 a4:=Tryd.isAgg4
 z4:=Tryd.sizeOf4
 v4:=Tryd.zeroValue4
 t9:=Tryd.underlying9
 a9:=Tryd.isAgg9
 z9:=Tryd.sizeOf9
 v9:=Tryd.zeroValue9}
open Go.RowKit Go.Lib in
theorem Tryd.strings_HasPrefix (s p:ByteArray)(w:World):
 Calls prog 12 #[.string s,.string p] w fun e w'=>e= .returned (.bool (Lib.hasPrefix s.data.toList p.data.toList))/\ w'=w:=Any.strings_HasPrefix Tryd.lays99 s p w
end Go.Proofs
namespace Go.Ab
open Go Go.RowKit Go.Fwd Go.Proofs
variable {P:Program}
theorem zkw {f:FuncId} {args:List AV} {r:AV} (vs:List Value)(he:Ent P f)(ha: ∀X us,zbr (ITP P) X args us->us=vs)
 (h: ∀X,Inv (ITP P) St.empty X->Calls P f vs.toArray X.w fun e w'=> ∃u,e= .returned u/\ w'=X.w/\ ∀Y,Rep (ITP P) Y r u):Pure (ITP P) P f args r:=by
 refine⟨he,fun X us hI hr=> ?_⟩;rw[ha X us hr];refine(h X hI).mono ?_;rintro e w' ⟨u,rfl,rfl,hu⟩;exact⟨u,X,rfl,rfl,Ext.refl X,hI,hu _⟩
theorem qah {X:Cx} {u v:Value} {us:List Value} (h:zbr (ITP P) X [.raw u,.raw v] us):us=[u,v]:=by
 obtain⟨a,l,rfl,ha,b,l',rfl,hb,hl⟩:=h;have ha:a=u:=ha;have hb:b=v:=hb;have hl:l'=[]:=hl;rw[ha,hb,hl]
theorem ent47:Ent prog 47:=enters_of Tryd.func47 (by kernel_rfl) rfl
theorem ent12:Ent prog 12:=enters_of Tryd.func12 (by kernel_rfl) rfl
theorem ent18:Ent prog 18:=enters_of Tryd.func18 (by kernel_rfl) rfl
theorem ent35:Ent prog 35:=enters_of Tryd.func35 (by kernel_rfl) rfl
theorem ent36:Ent prog 36:=enters_of Tryd.func36 (by kernel_rfl) rfl
theorem z5t (l:List UInt8)(c:UInt8):Pure (ITP prog) prog 47 [.raw (.string (bs l)),.raw (.int .u8 ((c.toNat:Nat):Int))] (.raw (.int .i64 (Lib.indexByte l c))):=by
 have h:Pure (ITP prog) prog 47 [.raw (.string (bs l)),.raw (.int .u8 ((c.toNat:Nat):Int))] (.raw (.int .i64 (Lib.indexByte l ((c.toNat:Nat):Int).toNat.toUInt8))):=
  zkw [.string (bs l),.int .u8 _] ent47 (fun X us h=>qah h) fun X hI=>(Tryd.strings_IndexByte (bs l) _ X.w).mono fun e w' ⟨h1,h2⟩=>⟨_,h1,h2,fun Y=>rfl⟩
 rwa[show((c.toNat:Nat):Int).toNat.toUInt8=c by simp] at h
def z1e (e:Int):UInt8:=UInt8.ofNat e.toNat
theorem u8c {e:Int} (g:0<=e/\ e<256):((z1e e).toNat:Int)=e:=by
 unfold z1e;have h:e.toNat<256:=by omega
 rw[show(UInt8.ofNat e.toNat).toNat=e.toNat by simp;omega];omega
theorem zyx (l:List UInt8) {e:Int} (h:0<=e/\ e<256):Pure (ITP prog) prog 47 [.raw (.string (bs l)),.raw (.int .u8 e)] (.raw (.int .i64 (Lib.indexByte l (z1e e)))):=by
 have:=z5t l (z1e e);rwa[u8c h] at this
theorem zsd (l p:List UInt8):Pure (ITP prog) prog 12 [.raw (.string (bs l)),.raw (.string (bs p))] (.raw (.bool (Lib.hasPrefix l p))):=
 zkw [.string (bs l),.string (bs p)] ent12 (fun X us h=>qah h) fun X hI=>(Tryd.strings_HasPrefix (bs l) (bs p) X.w).mono fun e w' ⟨h1,h2⟩=>⟨_,h1,h2,fun Y=>rfl⟩
theorem qai (l p:List UInt8):Pure (ITP prog) prog 18 [.raw (.string (bs l)),.raw (.string (bs p))] (.tup [.raw (.string (bs (Lib.trimPrefix l p,Lib.hasPrefix l p).1)),.raw (.bool (Lib.trimPrefix l p,Lib.hasPrefix l p).2)]):=
 zkw [.string (bs l),.string (bs p)] ent18 (fun X us h=>qah h) fun X hI=>(Tryd.strings_CutPrefix (bs l) (bs p) X.w).mono fun e w' ⟨h1,h2⟩=>⟨_,h1,h2,fun Y=>⟨_,rfl,_,_,rfl,rfl,_,_,rfl,rfl,rfl⟩⟩
theorem z9k (l p:List UInt8)(h:l.length<=9223372036854775807):Pure (ITP prog) prog 35 [.raw (.string (bs l)),.raw (.string (bs p))] (.tup [.raw (.string (bs (Lib.trimSuffix l p,Lib.hasSuffix l p).1)),.raw (.bool (Lib.trimSuffix l p,Lib.hasSuffix l p).2)]):=
 zkw [.string (bs l),.string (bs p)] ent35 (fun X us h=>qah h) fun X hI=>(Tryd.strings_CutSuffix (bs l) (bs p) X.w h).mono fun e w' ⟨h1,h2⟩=>⟨_,h1,h2,fun Y=>⟨_,rfl,_,_,rfl,rfl,_,_,rfl,rfl,rfl⟩⟩
theorem z7b (l:List UInt8)(c:UInt8)(hc:c.toNat<128)(h:l.length<=9223372036854775807):Pure (ITP prog) prog 36 [.raw (.string (bs l)),.raw (.string (bs [c]))] (.raw (.string (bs (Lib.trimRightB l c)))):=
 zkw [.string (bs l),.string (bs [c])] ent36 (fun X us h=>qah h) fun X hI=>(Tryd.strings_TrimRight_one (bs l) c hc X.w h).mono fun e w' ⟨h1,h2⟩=>⟨_,h1,h2,fun Y=>rfl⟩
end Go.Ab
namespace Go.Ab
open Go Go.RowKit Go.Fwd
variable {ops:Array Oper} {S S' l':List AV} {n d:Nat} {y:Operand}
section
variable {IT:IterP} {P:Program} {W:Owed} {k0:Nat}
theorem qfu {id:Nat} {y:Code} {Q:AQ} {U:St} (S1:List AV)(U1:St)(h:zqw IT P W ops (fun S U=>Wk k0 S U S1 U1) ops.size (Array.replicate ops.size false) S U)(hrest:awp IT P W k0 y Q S1 U1):awp IT P W k0 (.seq (.region id ops true) y) Q S U:=
 .inl (.inr (.inr (.inl (zgq (fun S U hw=>⟨S1,U1,hw,hrest⟩) _ _ _ _ h))))
theorem zpk {ops0:Array Oper} {FIN0:List AV->St->Prop} {k:Nat} {l:Array Bool} {U:St} (h: ∀ops,ops=ops0-> ∀FIN:List AV->St->Prop,(∀S U,FIN0 S U->FIN S U)-> ∀S0,S0=S->zqw IT P W ops FIN k l S0 U):zqw IT P W ops0 FIN0 k l S U:=h ops0 rfl FIN0 (fun _ _ h=>h) S rfl
theorem aopAt_s {ops0:Array Oper} {K:List AV->St->Prop} {i:Nat} {o:Oper} {U:St} (hops:ops=ops0)(ho:ops0[i]? =some o)(h:zcs IT P W ops K [o] S U):zvw IT P W ops K i S U:=by
 subst hops;unfold zvw;rw[ho];simp only[zcs] at h;exact h
theorem aany_n {ops0:Array Oper} {FIN:List AV->St->Prop} {k:Nat} {bs:List Bool} {U:St} (hops:ops=ops0)(is:List Nat)(hr:Region.ready .any ops0 ⟨bs⟩=is)(hne:is≠[])(h: ∀i∈is,zvw IT P W ops (fun S U=>zqw IT P W ops FIN k ⟨bs.set i true⟩ S U) i S U):zqw IT P W ops FIN (k+1) ⟨bs⟩ S U:=by
 subst hops;refine⟨fun e=>absurd (hr.symm.trans e) hne,fun i hi=> ?_⟩;have h1:=h i (hr▸hi);have e:(⟨bs⟩:Array Bool).setIfInBounds i true=⟨bs.set i true⟩:=by
  apply Array.ext';simp
 rw[e];exact h1
theorem aany_0 {ops0:Array Oper} {FIN:List AV->St->Prop} {bs:List Bool} {U:St} (hops:ops=ops0)(hr:Region.ready .any ops0 ⟨bs⟩=[])(h:FIN S U):zqw IT P W ops FIN 0 ⟨bs⟩ S U:=by
 subst hops;exact⟨hr,h⟩
theorem all_nil {p:Nat->Prop}: ∀i∈([]:List Nat),p i:=fun i h=>by cases h
theorem all_cons {p:Nat->Prop} {a:Nat} {l:List Nat} (h:p a)(t: ∀i∈l,p i): ∀i∈a::l,p i:=fun i hi=>by
 rcases List.mem_cons.1 hi with rfl|hi
 ·exact h
 ·exact t i hi
end
section
variable {P:Program} {ρ:Operand->AV} {U:St} {o:Oper} {α:Type} [Enc α]
theorem Enc.atK {l:List α} {i:Int} (g:0<=i/\ i<l.length)(k:Nat):(Enc.cellsL l).drop (0+i.toNat*Enc.sz α+k)=(Enc.cells (ix l i)++Enc.cellsL (l.drop (i.toNat+1))).drop k:=by
 rw[Nat.zero_add, <-List.drop_drop,Enc.at g]
theorem qdi {t e:TypeId} {x i:Operand} {s:Nat} {f:Bool} {k:IntKind} {j:Int} (g:0<=j/\ j<n)(ho:o.op= .indexAddr t x i)(hx:ρ x= .bsl s 0 n (Enc.sz α) f)(hi:ρ i= .raw (.int k j))(hu:P.underlying t=some (.slice e))(hs:zdm P e=some (Enc.sz α)):
 qop P ρ U o=some (.ptr s (0+j.toNat*Enc.sz α)):=qgl ho hx hi hu hs g
theorem q_loadB {l:List α} {i:Int} {k s:Nat} {te t:TypeId} {x:Operand} {a:AV} (g:0<=i/\ i<l.length)(ho:o.op= .load t x)(hx:ρ x= .ptr s (0+i.toNat*Enc.sz α+k))(hb:U.boxes[s]? =some (te,Enc.cellsL l))(hr:rd P t ((Enc.cells (ix l i)++Enc.cellsL (l.drop (i.toNat+1))).drop k)=some a):
 qop P ρ U o=some a:=by
 rw[<-Enc.atK g] at hr;simp only[qop,ho,hx,zlg,hb,hr]
theorem Enc.putK {l:List α} {i:Int} {x:α} {k:Nat} {cs:List AV} (g:0<=i/\ i<l.length)(hl:cs.length=n)(hk:k+n<=Enc.sz α)(hx:Enc.cells x=(Enc.cells (ix l i)).take k++cs++(Enc.cells (ix l i)).drop (k+n)):
 (Enc.cellsL l).take (0+i.toNat*Enc.sz α+k)++cs++(Enc.cellsL l).drop (0+i.toNat*Enc.sz α+k+n)=Enc.cellsL (l.set i.toNat x):=by
 have hi:i.toNat<l.length:=by omega
 have hset:l.set i.toNat x=l.take i.toNat++[x]++l.drop (i.toNat+1):=by
  rw[List.set_eq_take_append_cons_drop,if_pos hi];simp
 have hlen:=Enc.len (ix l i);have e1:(Enc.cellsL l).drop (i.toNat*Enc.sz α)=Enc.cells (ix l i)++Enc.cellsL (l.drop (i.toNat+1)):=Enc.at g;have e2:(Enc.cellsL l).take (0+i.toNat*Enc.sz α+k)=Enc.cellsL (l.take i.toNat)++(Enc.cells (ix l i)).take k:=by
  rw[Nat.zero_add,List.take_add,Enc.take,e1,List.take_append_of_le_length (by omega)]
 have e3:(Enc.cellsL l).drop (0+i.toNat*Enc.sz α+k+n)=(Enc.cells (ix l i)).drop (k+n)++Enc.cellsL (l.drop (i.toNat+1)):=by
  rw[Nat.zero_add,Nat.add_assoc, <-List.drop_drop,e1,List.drop_append_of_le_length (by omega)]
 rw[e2,e3,hset,Enc.app,Enc.app,Enc.cons,Enc.nil,hx];simp
theorem z9w {l:List α} {i:Int} {k s:Nat} {te t:TypeId} {x:Operand} {v:AV} (x':α)(g:0<=i/\ i<l.length)(ho:o.op= .store t x y)(hx:ρ x= .ptr s (0+i.toNat*Enc.sz α+k))(hy:ρ y=v)(hb:U.boxes[s]? =some (te,Enc.cellsL l))(hn:zdm P t=some n)(hc:zht v=true)(hl:(zcg v).length=n)(h0:0<n)(hk:k+n<=Enc.sz α)
 (hx':Enc.cells x'=(Enc.cells (ix l i)).take k++zcg v++(Enc.cells (ix l i)).drop (k+n)):aop P ρ U o=some (.raw undef,{U with boxes:=U.boxes.set s (te,Enc.cellsL (l.set i.toNat x'))}):=by
 have hfit:0+i.toNat*Enc.sz α+k+n<=(Enc.cellsL l).length:=by
  rw[Enc.lenL];have h1:i.toNat+1<=l.length:=by omega
  have h2:=Nat.mul_le_mul_right (Enc.sz α) h1;rw[Nat.succ_mul] at h2;omega
 rw[zcv (n:=n) ho hx hy hb hn ⟨hc,hl,hfit,h0⟩,Enc.putK g hl hk hx']
theorem opB_bsl {c:Call} {x:Operand} {t e:TypeId} {i:TypeInfo} {z:Value} {s by':Nat} {l r:List α} {st:Room} (hn:l.length=n/\ 0<n/\ 0<r.length/\ (n+r.length)*by'<=140737488355328)(ho:o.op= .call c)(hc:c.callee= .builtin .append)(ha:c.args.toList=[x,y])(ht:c.argTypes.toList=[t,t])
 (hx:ρ x= .bsl s 0 n (Enc.sz α) false) (hy:ρ y= .list r.length (Enc.cellsL r) st) (hb:U.boxes[s]? =some (e,Enc.cellsL l)) (hu:P.underlying t=some (.slice e)) (hi:P.info? e=some i) (hz:i.zero=some z) (hsz:i.size=Enc.sz α) (hzs:z.cells.size=Enc.sz α) (hby:i.bytes=by'/\ 0<by'):
 zvm P ρ U o=some (.bsl U.boxes.length 0 (n+r.length) (Enc.sz α) false,{U with boxes:=U.boxes.set s (e,[])++[(e,Enc.cellsL (l++r))]}):=by
 obtain⟨h1,h2,h3,h4⟩:=hn;have hp:=Enc.pos (α:=α);have hsrc:z9x P U i.size t t (ρ y)=some (r.length,Enc.cellsL r):=by rw[hy];exact zsx ⟨rfl,by rw[Enc.lenL,hsz],by omega⟩
 have hmax:n+r.length<=maxLen:=by
  have h5:n+r.length<=(n+r.length)*by':=Nat.le_mul_of_pos_right _ hby.2
  have h6:140737488355328<=maxLen:=by decide
  omega
 have hcond:Enc.sz α=i.size/\ n+r.length<=maxLen/\ (n+r.length)*i.bytes<=140737488355328/\ 0+n*Enc.sz α<=(Enc.cellsL l).length:=⟨hsz.symm,hmax,by rw[hby.1];exact h4,by rw[Enc.lenL,h1];omega⟩;have hcond2:(0:Nat)=0/\ n*Enc.sz α=(Enc.cellsL l).length/\ e=e/\ 0<n:=⟨rfl,by rw[Enc.lenL,h1],rfl,h2⟩;have hcond0:0<i.size/\ z.cells.size=i.size/\ 0<r.length:=⟨by omega,by omega,h3⟩;have key:zpv P U t t (ρ x) (ρ y)=some (.bsl U.boxes.length 0 (n+r.length) (Enc.sz α) false,{U with boxes:=U.boxes.set s (e,[])++[(e,Enc.cellsL (l++r))]}):=by
  rw[zpv];simp only[hu,hi,hz,hsrc,if_pos hcond0,hx,hb,if_pos hcond,Bool.false_eq_true,if_false,Enc.app];rw[if_pos ⟨trivial,hcond2.2.1,trivial,h2⟩]
 have hnn:ztq (ρ x)=false:=by rw[hx];rfl
 simp only[zvm,ho,hc,ha,ht,key,hnn,Bool.false_eq_true,if_false]
end
section
variable {m:Nat} {g:FZ}
theorem zcw:fgM [] (zad m g [])=[]:=by rw[zad];rfl
theorem zah {a b:AV} {ms:List Bool} (h:zhl m g a=b)(r:fgM ms (zad m g S)=S'):fgM (true::ms) (zad m g (a::S))=b::S':=by
 rw[zad];show(bif true then zhl m g a else .top)::_=_;rw[r,h];rfl
theorem zag {a:AV} {ms:List Bool} (r:fgM ms (zad m g S)=S'):fgM (false::ms) (zad m g (a::S))= .top::S':=by
 rw[zad];show(bif false then zhl m g a else .top)::_=_;rw[r];rfl
theorem zj {a b c d e f x y:AV} {ms:List Bool} (r:fgM ms (zad m g S)=S'):fgM (false::false::false::false::false::false::false::false::ms) (zad m g (a::b::c::d::e::f::x::y::S))= .top:: .top:: .top:: .top:: .top:: .top:: .top:: .top::S':=zag (zag (zag (zag (zag (zag (zag (zag r)))))))
theorem zf:zad m g []=[]:=by rw[zad]
theorem zb {a b:AV} {l:List AV} (h:zhl m g a=b)(r:zad m g l=l'):zad m g (a::l)=b::l':=by rw[zad,h,r]
theorem z0n:zct g []=[]:=by rw[zct]
theorem zoh {a b:AV} {l:List AV} (h:zgu g a=b)(r:zct g l=l'):zct g (a::l)=b::l':=by rw[zct,h,r]
theorem z3j {a:AV} (h:clo a=true):zgu g a=a:=by
 have:=zeb g [a] (by rw[cloL,h];rfl);rw[zct] at this;exact(List.cons.inj this).1
theorem kz_bsl {α:Type} [Enc α] {bs:List (TypeId×List AV)} {js:List Nat} {d s n:Nat} {f:Bool} {t:TypeId} {l:List α} (hn:l.length=n)(hb:bs[s]? =some (t,Enc.cellsL l))(hp:zfm 0 [] js s=none):zhl m (kz bs m 0 [] js (d+1)) (.bsl s 0 n (Enc.sz α) f)= .list l.length (Enc.cellsL l) .none:=by
 subst hn;rw[zhl];simp only[kz,hp,hb,map_some,getD_some,List.drop_zero,zau _ _ _ (Enc.cloL l)];rw[List.take_of_length_le (by rw[Enc.lenL];exact Nat.le_refl _)]
theorem zaq {bs:List (TypeId×List AV)} {fs js0:List Nat}:(([]:List Nat).map fun j=>((bs[j]?).map fun b=>(b.1,zad m (kz bs m n fs js0 d) b.2)).getD (0,[.bad]))=[]:=rfl
theorem zi {bs:List (TypeId×List AV)} {j:Nat} {fs js js0:List Nat} {t:TypeId} {cs cs':List AV} {r:List (TypeId×List AV)} (hb:bs[j]? =some (t,cs))(hc:zad m (kz bs m n fs js0 d) cs=cs')(hr:(js.map fun j=>((bs[j]?).map fun b=>(b.1,zad m (kz bs m n fs js0 d) b.2)).getD (0,[.bad]))=r):
 ((j::js).map fun j=>((bs[j]?).map fun b=>(b.1,zad m (kz bs m n fs js0 d) b.2)).getD (0,[.bad]))=(t,cs')::r:=by
 rw[List.map_cons,hr,hb];simp only[map_some,getD_some,hc]
theorem zvs {U U':St} {js:List Nat} {bs':List (TypeId×List AV)} (h:(js.map fun j=>((U.boxes[j]?).map fun b=>(b.1,zad m (kz U.boxes m 0 [] js d) b.2)).getD (0,[.bad]))=bs')(h2:{U with boxes:=bs',lens:=U.lens.take m,elems:=U.elems.take m}=U'):zew U m 0 [] js d=U':=by
 subst h2;unfold zew zcn;rw[h];rfl
end
section
variable {P:Program} {ρ:Operand->AV} {U:St} {o:Oper}
theorem bs_get (l:List UInt8)(i:Nat):(bs l)[i]? =l[i]? :=by
 simp only[bs];by_cases h:i<l.length
 ·rw[List.getElem?_eq_getElem h];have h2:i<(ByteArray.mk l.toArray).size:=h;rw[getElem?_pos (ByteArray.mk l.toArray) i h2];rfl
 ·rw[List.getElem?_eq_none (by omega)];have h2: ¬i<(ByteArray.mk l.toArray).size:=h;rw[getElem?_neg (ByteArray.mk l.toArray) i h2]
theorem zuh (l:List UInt8)(i j:Nat):(bs l).extract i j=bs ((l.drop i).take (j-i)):=by
 apply ByteArray.ext;rw[ByteArray.data_extract];simp[bs,List.extract_eq_take_drop]
theorem z1d {v:Value} (h1:o.op.operands.toList.all (fun x=>(zdv (ρ x)).isSome)=true)(h2: ∀cs b,o.op≠ .select cs b)(h3:val? P (execOp (zce ρ) o)=some (.value v))(h4:zou v=true):zfs P ρ o=some (zje v):=by
 unfold zfs;rw[if_pos h1];split
 ·rename_i cs b ho;exact absurd ho (h2 cs b)
 ·rw[h3];simp only[h4,if_true]
theorem zdd {t:TypeId} {x i:Operand} {l:List UInt8} {k:IntKind} {n:Int} (g:0<=n/\ n<l.length)(ho:o.op= .index t x i)(hx:ρ x= .raw (.string (bs l)))(hi:ρ i= .raw (.int k n))(hu:P.underlying t=some .string):
 qop P ρ U o=some (.raw (.int .u8 (((ix l n).toNat:Nat):Int))):=by
 have hn:n.toNat<l.length:=by omega
 have h3:val? P (execOp (zce ρ) o)=some (.value (.int .u8 (((ix l n).toNat:Nat):Int))):=by
  have hg:(bs l)[n.toNat]? =some (ix l n):=by
   rw[bs_get,List.getElem?_eq_getElem hn];simp[ix,hn]
  simp only[execOp,ho,zce,hx,hi,zdv,getD_some,Instr.index,asIntOf,underlying];simp only[program,Bind.bind,Pure.pure,Functor.map,Sem.bind,val?,hu,if_pos g.1,hg]
 have h1:o.op.operands.toList.all (fun x=>(zdv (ρ x)).isSome)=true:=by rw[ho];simp[Op.operands,hx,hi,zdv]
 have h4:=z1d h1 (by rw[ho];intros;simp) h3 rfl;simp only[qop,ho,hx,hi,h4];first|rfl|(simp;rfl)
theorem zmu {t:TypeId} {x y:Operand} {l:List UInt8} {i:Int} (g:0<=i/\ i<=(l.length:Int)/\ (l.length:Int)<=(l.length:Int))(ho:o.op= .slice t x (some y) none none)(hx:ρ x= .raw (.string (bs l)))(hy:ρ y= .raw (.int .i64 i))(hu:P.underlying t=some .string):
 qop P ρ U o=some (.raw (.string (bs (sub l i l.length)))):=by
 have hsz:(bs l).size=l.length:=rfl;have c2:0<=i/\ i<=((bs l).size:Int):=by rw[hsz];omega
 have h3:val? P (execOp (zce ρ) o)=some (.value (.string (bs (sub l i l.length)))):=by
  have he:sub l i l.length=(l.drop i.toNat).take (l.length-i.toNat):=rfl;rw[he, <-zuh];simp only[execOp,ho,zce,hx,hy,zdv,getD_some,map_some,Option.map_none,Instr.sliceAt,Instr.slice,Instr.sliceBounds,Instr.sliceBound,asIntOf,underlying];simp[program,Bind.bind,Pure.pure,Functor.map,Sem.bind,val?,hu,if_pos c2];try rfl
 have h1:o.op.operands.toList.all (fun x=>(zdv (ρ x)).isSome)=true:=by rw[ho];simp[Op.operands,hx,hy,zdv]
 have h4:=z1d h1 (by rw[ho];intros;simp) h3 rfl;simp only[qop,ho,hx,hy,h4,map_some,Option.map_none,zub,hu];try rfl
theorem zwo {t:TypeId} {x z:Operand} {l:List UInt8} {j:Int} (g:0<=0/\ 0<=j/\ j<=(l.length:Int))(ho:o.op= .slice t x none (some z) none)(hx:ρ x= .raw (.string (bs l)))(hz:ρ z= .raw (.int .i64 j))(hu:P.underlying t=some .string):
 qop P ρ U o=some (.raw (.string (bs (sub l 0 j)))):=by
 have hsz:(bs l).size=l.length:=rfl;have c1:0<=j/\ j<=((bs l).size:Int):=by rw[hsz];omega
 have h3:val? P (execOp (zce ρ) o)=some (.value (.string (bs (sub l 0 j)))):=by
  have he:sub l 0 j=(l.drop 0).take (j.toNat-0):=rfl;rw[he, <-zuh];simp only[execOp,ho,zce,hx,hz,zdv,getD_some,map_some,Option.map_none,Instr.sliceAt,Instr.slice,Instr.sliceBounds,Instr.sliceBound,asIntOf,underlying];simp[program,Bind.bind,Pure.pure,Functor.map,Sem.bind,val?,hu,if_pos c1];try rfl
 have h1:o.op.operands.toList.all (fun x=>(zdv (ρ x)).isSome)=true:=by rw[ho];simp[Op.operands,hx,hz,zdv]
 have h4:=z1d h1 (by rw[ho];intros;simp) h3 rfl;simp only[qop,ho,hx,hz,h4,map_some,Option.map_none,zub,hu];try rfl
end
section
variable {P:Program} {ρ:Operand->AV} {U:St} {o:Oper}
theorem zdk {x:Operand} {t:TypeId} {l:List UInt8} (ho:o.op= .call ⟨.builtin .len, #[x], #[t]⟩)(hx:ρ x= .raw (.string (bs l)))(hu:P.underlying t=some .string):qop P ρ U o=some (.raw (.int .i64 (l.length:Int))):=by
 have h2:qen P t (.raw (.string (bs l)))=none:=rfl;have h1:o.op.operands.toList.all (fun x=>(zdv (ρ x)).isSome)=true:=by rw[ho];simp[Op.operands,Call.operands,hx,zdv]
 have h3:val? P (execOp (zce ρ) o)=some (.value (.int .i64 (l.length:Int))):=by
  have hsz:(bs l).size=l.length:=rfl;simp[execOp,ho,resolve,invoke,zce,hx,zdv,builtin,Builtin.len_,underlying,goInt,hsz];simp only[program,Bind.bind,Pure.pure,Functor.map,Sem.bind,val?,hu,hsz];rfl
 have h4:zfs P ρ o=some (.raw (.int .i64 (l.length:Int))):=by
  unfold zfs;rw[if_pos h1,ho,h3];rfl
 simp only[qop,ho,hx,h2,h4]
end
theorem bs_beq (a b:List UInt8):((bs a).toList==(bs b).toList)=decide (a=b):=by
 rw[ByteArray.toList_eq,ByteArray.toList_eq]
 show((a.toArray.toList)==(b.toArray.toList))=_
 by_cases h:a=b<;>simp[h]
section
variable {P:Program} {ρ:Operand->AV} {U:St} {o:Oper}
theorem bs_app (a b:List UInt8):bs a++bs b=bs (a++b):=by
 apply ByteArray.ext
 show(bs a++bs b).data=_
 rw[ByteArray.data_append];simp[bs]
theorem qdp {t:TypeId} {x y:Operand} {c} {a b:List UInt8} (ho:o.op= .binOp .eql t x y c)(hx:ρ x= .raw (.string (bs a)))(hy:ρ y= .raw (.string (bs b))):qop P ρ U o=some (.raw (.bool (a==b))):=by
 have hst:(a==b)=decide (a=b):=by by_cases h:a=b<;>simp[h]
 have h3:val? P (execOp (zce ρ) o)=some (.value (.bool (a==b))):=by
  rw[hst, <-bs_beq];simp[execOp,ho,zce,hx,hy,zdv,eqGuard,binOp,Op.stringOp];rfl
 have h1:o.op.operands.toList.all (fun x=>(zdv (ρ x)).isSome)=true:=by rw[ho];simp[Op.operands,hx,hy,zdv]
 have h4:zfs P ρ o=some (.raw (.bool (a==b))):=by
  unfold zfs;rw[if_pos h1,ho,h3];rfl
 simp only[qop,ho,hx,hy,h4]
end
def bl:Nat->Nat->List Bool
 |0,_=>[]
 |n+1,m=>(m%2==1)::bl n (m/2)
section
variable {IT:IterP} {P:Program} {W:Owed} {ops ops0:Array Oper} {Q:List AV->St->Prop} {K:List AV->Prop} {o:Oper} {l:List Oper} {S S':List AV} {U U' U'':St} {a:AV} {kb:Nat} {b:Bool} {c:Option Bool}
theorem w_o (k:zcs IT P W ops Q l S' U')(hg:o.guard=none:=by exact rfl)(hc:zdn S o=none:=by exact rfl)(hy:zdw S o=none:=by exact rfl)(h:aop P (zcb S) U o=some (a,U'):=by exact rfl)(hS:zy S o.dst a=S':=by dsimp only[zy,List.set]):zcs IT P W ops Q (o::l) S U:=
 zif hg hc hy h hS k
theorem zcc (k:zcs IT P W ops Q l S' U'')(hg:o.guard=none:=by exact rfl)(hc:zdn S o=none:=by exact rfl)(hy:zdw S o=none:=by exact rfl)(h:aop P (zcb S) U o=some (a,U'):=by exact rfl)(hS:zy S o.dst a=S':=by dsimp only[zy,List.set])(hσ:U'=U'':=by exact rfl):zcs IT P W ops Q (o::l) S U:=
 zgl hg hc hy h hS hσ k
theorem zxq (k:zcs IT P W ops Q l S' U)(hg:o.guard=some (kb,b):=by exact rfl)(hk:zdu ops S kb=some c:=by exact rfl)(hcb:c≠some b:=by decide)(hS:zy S o.dst (.raw undef)=S':=by dsimp only[zy,List.set]):zcs IT P W ops Q (o::l) S U:=
 zxu hg hk hcb hS k
theorem h_o (k:zex IT P ops U K l S')(hd:(o.dst.all fun d=>decide (d<S.length))=true:=by exact rfl)(hg:o.guard=none:=by exact rfl)(hc:zdn S o=none:=by exact rfl)(h:qop P (zcb S) U o=some a:=by exact rfl)(hS:zy S o.dst a=S':=by dsimp only[zy,List.set]):zex IT P ops U K (o::l) S:=
 qit hd hg hc h hS k
theorem zkp (k:zex IT P ops U K l S')(hd:(o.dst.all fun d=>decide (d<S.length))=true:=by exact rfl)(hg:o.guard=some (kb,b):=by exact rfl)(hk:zdu ops S kb=some c:=by exact rfl)(hcb:c≠some b:=by decide)(hS:zy S o.dst (.raw undef)=S':=by dsimp only[zy,List.set]):zex IT P ops U K (o::l) S:=
 h_pass hd hg hk hcb hS k
end
theorem zox {IT:IterP} {P:Program} {W:Owed} {ops ops0:Array Oper} {K:List AV->St->Prop} {i:Nat} {o:Oper} {S:List AV} {U:St} (hops:ops=ops0)(ho:ops0.toList[i]? =some o)(h:zcs IT P W ops K [o] S U):zvw IT P W ops K i S U:=
 aopAt_s hops (by rw[<-ho,Array.getElem?_toList]) h
def upS:List (Option (Nat×AV))->List Bool->List (Nat×AV)
 |some q::ps,true::bs=>q::upS ps bs
 |none::ps,true::bs=>upS ps bs
 |_::ps,false::bs=>upS ps bs
 |_,_=>[]
def aN (IT:IterP)(P:Program)(W:Owed)(ops:Array Oper)(FIN:List AV->St->Prop)(S0:List AV)(ps:List (Option (Nat×AV)))(n k m:Nat)(U:St):Prop:=
 zqw IT P W ops FIN k ⟨bl n m⟩ (zbh S0 (upS ps (bl n m))) U
section
variable {IT:IterP} {P:Program} {W:Owed} {ops ops0:Array Oper} {FIN:List AV->St->Prop} {S0 L S:List AV} {ps PL:List (Option (Nat×AV))} {n k m m':Nat} {U:St}
theorem aN_n (hops:ops=ops0)(hS:S0=L)(hps:ps=PL)(is:List Nat)
 (h: ∀i∈is,zvw IT P W ops (fun S U=>zqw IT P W ops FIN k ⟨(bl n m).set i true⟩ S U) i S U)
 (hr:Region.ready .any ops0 ⟨bl n m⟩=is:=by kernel_rfl) (hne:is≠[]:=by decide) (e:zbh L (upS PL (bl n m))=S:=by dsimp only[zbh,List.foldl,List.set,upS,bl,Nat.reduceMod,Nat.reduceDiv,Nat.reduceBEq]):aN IT P W ops FIN S0 ps n (k+1) m U:=by
 subst hS hps e;exact aany_n hops is hr hne h
theorem aN_0 (hops:ops=ops0)(hS:S0=L)(hps:ps=PL)(h:FIN S U)(hr:Region.ready .any ops0 ⟨bl n m⟩=[]:=by kernel_rfl)(e:zbh L (upS PL (bl n m))=S:=by dsimp only[zbh,List.foldl,List.set,upS,bl,Nat.reduceMod,Nat.reduceDiv,Nat.reduceBEq]):aN IT P W ops FIN S0 ps n 0 m U:=by
 subst hS hps e;exact aany_0 hops hr h
theorem zg {i:Nat} (h:aN IT P W ops FIN S0 ps n k m' U)(hS:S0=L)(hps:ps=PL)(hb:(bl n m).set i true=bl n m':=by kernel_rfl)(e:zbh L (upS PL (bl n m'))=S:=by kernel_rfl):zqw IT P W ops FIN k ⟨(bl n m).set i true⟩ S U:=by
 subst hS hps e;rw[hb];exact h
theorem zvj {k':Nat} {l:Array Bool} (h:aN IT P W ops FIN S0 ps n k 0 U)(hps:ps=PL)(hk:k=k':=by kernel_rfl)(hb:(⟨bl n 0⟩:Array Bool)=l:=by kernel_rfl)(e:upS PL (bl n 0)=[]:=by kernel_rfl):zqw IT P W ops FIN k' l S0 U:=by
 subst hps hk hb;have h':zqw IT P W ops FIN k ⟨bl n 0⟩ (zbh S0 (upS ps (bl n 0))) U:=h;rw[e] at h';exact h'
end
@[reducible] def AV.i (x:Int):AV:= .raw (.int .i64 x)
@[reducible] def AV.u (x:Int):AV:= .raw (.int .u8 x)
@[reducible] def AV.b (x:Bool):AV:= .raw (.bool x)
@[reducible] def AV.s (x:List UInt8):AV:= .raw (.string (bs x))
def mvOf:Op->Option Nat
 | .move (.tmp k)=>some k
 | .assign (.tmp k)=>some k
 |_=>none
section
variable {IT:IterP} {P:Program} {W:Owed} {ops ops0:Array Oper} {Q:List AV->St->Prop} {K:List AV->Prop} {o:Oper} {l:List Oper} {S S':List AV} {U U' U'':St} {a:AV} {k:Nat}
theorem zxd (ho:mvOf o.op=some k)(hv:S[k]? =some a):zdn S o=none/\ zdw S o=none/\ qop P (zcb S) U o=some a:=by
 have h:o.op= .move (.tmp k) \/o.op= .assign (.tmp k):=by
  unfold mvOf at ho;split at ho<;>cases ho
  ·rename_i h;exact .inl h
  ·rename_i h;exact .inr h
 rcases h with h|h<;>simp[zdn,zdw,qop,h,zcb,hv]
theorem zac (kk:zcs IT P W ops Q l S' U)(ho:mvOf o.op=some k:=by exact rfl)(hg:o.guard=none:=by exact rfl)(hv:S[k]? =some a:=by exact rfl)(hS:zy S o.dst a=S':=by dsimp only[zy,List.set]):zcs IT P W ops Q (o::l) S U:=by
 obtain⟨h1,h2,h3⟩:=zxd (P:=P) (U:=U) ho hv;exact zif hg h1 h2 (zbf h3) hS kk
theorem zmh (kk:zex IT P ops U K l S')(ho:mvOf o.op=some k:=by exact rfl)(hd:(o.dst.all fun d=>decide (d<S.length))=true:=by exact rfl)(hg:o.guard=none:=by exact rfl)(hv:S[k]? =some a:=by exact rfl)(hS:zy S o.dst a=S':=by dsimp only[zy,List.set]):zex IT P ops U K (o::l) S:=by
 obtain⟨h1,h2,h3⟩:=zxd (P:=P) (U:=U) ho hv;exact qit hd hg h1 h3 hS kk
def exOf:Op->Option (Nat×Nat)
 | .extract (.tmp k) i=>some (k,i)
 |_=>none
theorem zxe {i:Nat} {vs:List AV} (ho:exOf o.op=some (k,i))(hv:S[k]? =some (.tup vs))(hi:vs[i]? =some a):zdn S o=none/\ zdw S o=none/\ qop P (zcb S) U o=some a:=by
 have h:o.op= .extract (.tmp k) i:=by
  unfold exOf at ho;split at ho<;>cases ho
  rename_i h;exact h
 simp[zdn,zdw,qop,h,zcb,hv,hi]
theorem qem {i:Nat} {vs:List AV} (kk:zcs IT P W ops Q l S' U)(ho:exOf o.op=some (k,i):=by exact rfl)(hg:o.guard=none:=by exact rfl)(hv:S[k]? =some (.tup vs):=by exact rfl)(hi:vs[i]? =some a:=by exact rfl)(hS:zy S o.dst a=S':=by dsimp only[zy,List.set]):zcs IT P W ops Q (o::l) S U:=by
 obtain⟨h1,h2,h3⟩:=zxe (P:=P) (U:=U) ho hv hi;exact zif hg h1 h2 (zbf h3) hS kk
theorem h_ex {i:Nat} {vs:List AV} (kk:zex IT P ops U K l S')(ho:exOf o.op=some (k,i):=by exact rfl)(hd:(o.dst.all fun d=>decide (d<S.length))=true:=by exact rfl)(hg:o.guard=none:=by exact rfl)(hv:S[k]? =some (.tup vs):=by exact rfl)(hi:vs[i]? =some a:=by exact rfl)(hS:zy S o.dst a=S':=by dsimp only[zy,List.set]):zex IT P ops U K (o::l) S:=by
 obtain⟨h1,h2,h3⟩:=zxe (P:=P) (U:=U) ho hv hi;exact qit hd hg h1 h3 hS kk
end
section
variable {P:Program} {fn:Func} {S:List AV} {U:St}
theorem zbm {y r:Bool} (hr:some y=some r)(h:zaz P fn U S=some (.raw (.bool y)):=by exact rfl):zxk P fn (.raw (.bool r)) .ret S U:=zee (fun(r:Bool)=>(.raw (.bool r):AV)) hr h rfl rfl
theorem zjh {k:IntKind} {y r:Int} (hr:some y=some r)(h:zaz P fn U S=some (.raw (.int k y)):=by exact rfl):zxk P fn (.raw (.int k r)) .ret S U:=zee (fun(r:Int)=>(.raw (.int k r):AV)) hr h rfl rfl
end
section
variable {IT:IterP} {P:Program} {W:Owed} {ops ops0:Array Oper} {FIN:List AV->St->Prop} {S0 L S:List AV} {ps PL:List (Option (Nat×AV))} {n k m m':Nat} {U:St} {o o' o'':Oper}
theorem zkl (hops:ops=ops0)(hS:S0=L)(hps:ps=PL)(i:Nat)(h:zcs IT P W ops (fun S U=>zqw IT P W ops FIN k ⟨(bl n m).set i true⟩ S U) [o] S U)
 (ho:ops0.toList[i]? =some o:=by exact rfl) (hr:Region.ready .any ops0 ⟨bl n m⟩=[i]:=by kernel_rfl) (e:zbh L (upS PL (bl n m))=S:=by dsimp only[zbh,List.foldl,List.set,upS,bl,Nat.reduceMod,Nat.reduceDiv,Nat.reduceBEq]):aN IT P W ops FIN S0 ps n (k+1) m U:=
 aN_n hops hS hps [i] (all_cons (zox hops ho h) all_nil) hr (by simp) e
theorem zel (hops:ops=ops0)(hS:S0=L)(hps:ps=PL)(i j:Nat)(h:zcs IT P W ops (fun S U=>zqw IT P W ops FIN k ⟨(bl n m).set i true⟩ S U) [o] S U)(h':zcs IT P W ops (fun S U=>zqw IT P W ops FIN k ⟨(bl n m).set j true⟩ S U) [o'] S U)
 (ho:ops0.toList[i]? =some o:=by exact rfl) (ho':ops0.toList[j]? =some o':=by exact rfl) (hr:Region.ready .any ops0 ⟨bl n m⟩=[i,j]:=by kernel_rfl) (e:zbh L (upS PL (bl n m))=S:=by dsimp only[zbh,List.foldl,List.set,upS,bl,Nat.reduceMod,Nat.reduceDiv,Nat.reduceBEq]):aN IT P W ops FIN S0 ps n (k+1) m U:=
 aN_n hops hS hps [i,j] (all_cons (zox hops ho h) (all_cons (zox hops ho' h') all_nil)) hr (by simp) e
theorem zie (hops:ops=ops0)(hS:S0=L)(hps:ps=PL)(i j q:Nat)(h:zcs IT P W ops (fun S U=>zqw IT P W ops FIN k ⟨(bl n m).set i true⟩ S U) [o] S U)(h':zcs IT P W ops (fun S U=>zqw IT P W ops FIN k ⟨(bl n m).set j true⟩ S U) [o'] S U)(h'':zcs IT P W ops (fun S U=>zqw IT P W ops FIN k ⟨(bl n m).set q true⟩ S U) [o''] S U)
 (ho:ops0.toList[i]? =some o:=by exact rfl) (ho':ops0.toList[j]? =some o':=by exact rfl) (ho'':ops0.toList[q]? =some o'':=by exact rfl) (hr:Region.ready .any ops0 ⟨bl n m⟩=[i,j,q]:=by kernel_rfl) (e:zbh L (upS PL (bl n m))=S:=by dsimp only[zbh,List.foldl,List.set,upS,bl,Nat.reduceMod,Nat.reduceDiv,Nat.reduceBEq]):aN IT P W ops FIN S0 ps n (k+1) m U:=
 aN_n hops hS hps [i,j,q] (all_cons (zox hops ho h) (all_cons (zox hops ho' h') (all_cons (zox hops ho'' h'') all_nil))) hr (by simp) e
end
def bzc:Bool->Nat->List Nat->List Nat
 |true,i,l=>i::l
 |false,_,l=>l
def bz:Nat->Nat->Nat->List Nat
 |_,0,_=>[]
 |i,n+1,m=>bzc (m%2==1) i (bz (i+1) n (m/2))
section
variable {IT:IterP} {P:Program} {W:Owed} {k0:Nat} {ops:Array Oper} {Q:List AV->St->Prop} {o:Oper} {l:List Oper} {S S':List AV} {U U':St} {f:FuncId} {args args':List AV} {r:AV}
theorem zfa {c:Code} {Q:AQ} (h:awp IT P W k0 c Q S' U)(hS:S=S':=by dsimp only[zbh,zca,List.foldl,List.set,bz,bzc,Nat.reduceMod,Nat.reduceDiv,Nat.reduceBEq,Nat.reduceAdd]):awp IT P W k0 c Q S U:=zbn hS rfl h
theorem zbt {n0:Nat} (m:List Bool)(h:fgM m S=S':=by kernel_rfl)(hσ:U'=U:=by kernel_rfl):Wk n0 S U S' U':=zgb m h hσ
end
variable {c:Bool} {y:Operand} {n:Int} {args':List AV}
inductive RV where
 |v (a:AV)|m (a:AV)|x (a:AV)|p
def RV.val:RV->AV
 | .v a=>a
 | .m a=>a
 | .x a=>a
 | .p=> .raw undef
def gst (ops:Array Oper)(S:List AV)(o:Oper):Option Bool:=match o.guard with
 |none=>some true
 | some (k,b)=>match zdu ops S k with
  |some (some c)=>some (c==b)
  |some none=>some false
  |none=>none
def oneV (P:Program)(ops:Array Oper)(U:St)(S:List AV)(o:Oper):RV->Option (AV×St)
 | .v _=>match gst ops S o,zdn S o,zdw S o with
  |some true,none,none=>aop P (zcb S) U o
  |_,_,_=>none
 | .m _=>match gst ops S o with
  | some true=>match mvOf o.op with
   | some k=>match S[k]? with
    |some a=>some (a,U)
    |none=>none
   |none=>none
  |_=>none
 | .x _=>match gst ops S o with
  | some true=>match exOf o.op with
   | some (k,i)=>match S[k]? with
    | some (.tup vs)=>match vs[i]? with
     |some a=>some (a,U)
     |none=>none
    |_=>none
   |none=>none
  |_=>none
 | .p=>match gst ops S o with
  |some false=>some (.raw undef,U)
  |_=>none
def outV (P:Program)(ops:Array Oper)(U:St):List RV->List Oper->List AV->List (Option (AV×St))
 |x::vs,o::l,S=>oneV P ops U S o x::outV P ops U vs l (zy S o.dst x.val)
 |_::_,[],_=>[none]
 |[],_,_=>[]
def putV:List RV->List Oper->List AV->List AV
 |x::vs,o::l,S=>putV vs l (zy S o.dst x.val)
 |_,_,S=>S
def z1n:List RV->List Oper->List Oper
 |_::vs,_::l=>z1n vs l
 |_,l=>l
def expV (U:St):List RV->List (Option (AV×St))
 |x::vs=>some (x.val,U)::expV U vs
 |[]=>[]
section
variable {IT:IterP} {P:Program} {W:Owed} {ops:Array Oper} {Q:List AV->St->Prop} {o:Oper} {l L l':List Oper} {S S':List AV} {U U' U'':St} {a:AV} {k0:Nat}
theorem qcf (h:gst ops S o=some c):o.guard=none/\ c=true \/ ∃k b d,o.guard=some (k,b)/\ zdu ops S k=some d/\ (c=true->d=some b)/\ (c=false->d≠some b):=by
 unfold gst at h;split at h
 ·exact .inl ⟨‹_›,(Option.some.inj h).symm⟩
 ·rename_i k b hg;split at h
  ·rename_i d hd;cases h;refine .inr ⟨k,b,_,hg,hd,fun e=> ?_,fun e=> ?_⟩
   ·rw[beq_iff_eq] at e;rw[e]
   ·intro e';cases e';simp at e
  ·rename_i hd;cases h;exact .inr ⟨k,b,_,hg,hd,nofun,nofun⟩
  ·cases h
theorem z1z (h:gst ops S o=some true)(k:zgc IT P W o S U fun a U'=>zcs IT P W ops Q l (zy S o.dst a) U'):zcs IT P W ops Q (o::l) S U:=by
 rcases qcf h with⟨hg,_⟩|⟨kk,b,d,hg,hd,h1,_⟩
 ·simp only[zcs,hg];exact k
 ·simp only[zcs,hg];exact⟨d,hd,by rw[h1 rfl,if_pos rfl];exact k⟩
theorem w_one {x:RV} (h:oneV P ops U S o x=some (x.val,U))(k:zcs IT P W ops Q l (zy S o.dst x.val) U):zcs IT P W ops Q (o::l) S U:=by
 cases x with
 | v a=>
  simp only[oneV] at h;split at h
  ·rename_i h1 h2 h3;refine z1z h1 ?_;simp only[zgc,h2,h3];exact .inl ⟨_,_,.inl h,k⟩
  ·cases h
 | m a=>
  simp only[oneV] at h;split at h
  ·rename_i h1;split at h
   ·rename_i kk h2;split at h
    ·rename_i b h3;obtain⟨q1,q2,q3⟩:=zxd (P:=P) (U:=U) h2 h3;have e:b=a:=congrArg Prod.fst (Option.some.inj h);subst e;refine z1z h1 ?_;simp only[zgc,q1,q2];exact .inl ⟨_,_,.inl (zbf q3),k⟩
    ·cases h
   ·cases h
  ·cases h
 | x a =>
  simp only[oneV] at h;split at h
  ·rename_i h1;split at h
   ·rename_i kk i h2;split at h
    ·rename_i vs h3;split at h
     ·rename_i b h4;obtain⟨q1,q2,q3⟩:=zxe (P:=P) (U:=U) h2 h3 h4;have e:b=a:=congrArg Prod.fst (Option.some.inj h);subst e;refine z1z h1 ?_;simp only[zgc,q1,q2];exact .inl ⟨_,_,.inl (zbf q3),k⟩
     ·cases h
    ·cases h
   ·cases h
  ·cases h
 | p=>
  simp only[oneV] at h;split at h
  ·rename_i h1;rcases qcf h1 with⟨_,e⟩|⟨kk,b,d,hg,hd,_,h2⟩
   ·cases e
   ·exact zxu hg hd (h2 rfl) rfl k
  ·cases h
theorem w_r (vs:List RV)(k:zcs IT P W ops Q l' S' U)(h:outV P ops U vs l S=expV U vs:=by exact rfl)(hl:z1n vs l=l':=by dsimp only[z1n,List.toList_toArray,List.drop])(hS:putV vs l S=S':=by dsimp only[putV,RV.val,zy,List.set,List.toList_toArray,List.drop]):zcs IT P W ops Q l S U:=by
 subst hl hS;induction vs generalizing l S with
 |nil=>simpa[putV,z1n] using k
 | cons x vs ih=>
  cases l with
  |nil=>simp[outV,expV] at h
  | cons o l=>
   simp only[outV,expV,List.cons.injEq] at h;exact w_one h.1 (ih h.2 (by simpa[putV,z1n] using k))
theorem zaa {id:Nat} {x y:Code} {Q:AQ} (vs:List RV)(k:zcs IT P W ops (ztu (awp IT P W k0 y Q) Q .normal) l' S' U)(hx:x= .region id ops false:=by exact rfl)(h:outV P ops U vs ops.toList S=expV U vs:=by exact rfl)(hl:z1n vs ops.toList=l':=by dsimp only[z1n,List.toList_toArray])(hS:putV vs ops.toList S=S':=by dsimp only[putV,RV.val,zy,List.set,List.toList_toArray]):awp IT P W k0 (.seq x y) Q S U:=by
 subst hx;exact zm (zc (w_r vs k h hl hS))
theorem zae {t b:Bool} (e:t=b)(k:zcs IT P W ops Q l S' U)(hg:o.guard=none:=by exact rfl)(hc:zdn S o=none:=by exact rfl)(hy:zdw S o=none:=by exact rfl)(h:qop P (zcb S) U o=some (.raw (.bool t)):=by exact rfl)(hS:zy S o.dst (.raw (.bool b))=S':=by dsimp only[zy,List.set]):zcs IT P W ops Q (o::l) S U:=
 zif hg hc hy (zbf (zeq h e)) hS k
theorem zlt {x:Operand} {t:TypeId} {c} {m:Int} (g: -9223372036854775808<=m+n/\ m+n<9223372036854775808)(k:zcs IT P W ops Q l S' U)(hg:o.guard=none:=by exact rfl)(ho:o.op= .binOp .add t x y c:=by exact rfl)(hx:zcb S x= .raw (.int .i64 m):=by exact rfl)(hv:zcb S y= .raw (.int .i64 n):=by exact rfl)(hS:zy S o.dst (.raw (.int .i64 (m+n)))=S':=by dsimp only[zy,List.set]):zcs IT P W ops Q (o::l) S U:=
 zif hg (by simp[zdn,ho]) (by simp[zdw,ho]) (zbf (znz ho hx hv rfl g.1 g.2)) hS k
theorem w_sb {x:Operand} {t:TypeId} {c} {m:Int} (g: -9223372036854775808<=m-n/\ m-n<9223372036854775808)(k:zcs IT P W ops Q l S' U)(hg:o.guard=none:=by exact rfl)(ho:o.op= .binOp .sub t x y c:=by exact rfl)(hx:zcb S x= .raw (.int .i64 m):=by exact rfl)(hv:zcb S y= .raw (.int .i64 n):=by exact rfl)(hS:zy S o.dst (.raw (.int .i64 (m-n)))=S':=by dsimp only[zy,List.set]):zcs IT P W ops Q (o::l) S U:=
 zif hg (by simp[zdn,ho]) (by simp[zdw,ho]) (zbf (zno ho hx hv rfl g.1 g.2)) hS k
theorem qej {α:Type} [Enc α] {t e:TypeId} {x i:Operand} {u:α} {xs:List α} {st:Room} {kd:IntKind} {n:Int} (hu:ix xs n=u)(g:0<=n/\ n<xs.length)(k:zcs IT P W ops Q l S' U)(hg:o.guard=none:=by exact rfl)(ho:o.op= .indexAddr t x i:=by exact rfl)(hx:zcb S x= .list xs.length (Enc.cellsL xs) st:=by exact rfl)(hi:zcb S i= .raw (.int kd n):=by exact rfl)(ht:P.underlying t=some (.slice e):=by exact rfl)(hs:zdm P e=some (Enc.sz α):=by exact rfl)
 (hS:zy S o.dst (.iptr (Enc.cells u++Enc.cellsL (xs.drop (n.toNat+1))))=S':=by dsimp only[zy,List.set]):zcs IT P W ops Q (o::l) S U:=by
 subst hu;exact zif hg (by simp[zdn,ho]) (by simp[zdw,ho]) (zbf (qhp g ho hx hi ht hs)) hS k
theorem zcu {t:TypeId} {x:Operand} {s:Nat} {v:AV} {bx:TypeId×List AV} (n:Nat)(U'':St)(k:zcs IT P W ops Q l S' U'')(hg:o.guard=none:=by exact rfl)(ho:o.op= .store t x y:=by exact rfl)(hx:zcb S x= .ptr s 0:=by exact rfl)(hv:zcb S y=v:=by exact rfl)(hb:U.boxes[s]? =some bx:=by exact rfl)(hn:zdm P t=some n:=by exact rfl)(hl:bx.2.length=n:=by exact rfl)(hc:zht v=true:=by exact rfl)(hvl:(zcg v).length=n:=by exact rfl)(h0:0<n:=by decide)
 (hS:zy S o.dst (.raw undef)=S':=by dsimp only[zy,List.set]) (hσ:{U with boxes:=U.boxes.set s (bx.1,zcg v)}=U'':=by exact rfl):zcs IT P W ops Q (o::l) S U:=
 zgl hg (by simp[zdn,ho]) (by simp[zdw,ho]) (zay ho hx hv hb hn hl hc hvl h0) hS hσ k
theorem zdh {f:FuncId} {args:List AV} {r:AV} (hp:Pure IT P f args' r)(k:zcs IT P W ops Q l S' U)(hg:o.guard=none:=by exact rfl)(hc:zdn S o=some (f,args):=by exact rfl)
 (hs:stripL args=args':=by repeat(first|exact rfl|refine zh (by first|exact zbu (zab (Enc.clo _))|exact zjs (Enc.cloL _)|exact zqb (Enc.cloL _) Enc.z|exact rfl) ?_))
 (hok:zaf 0 args=true:=by repeat(first|exact rfl|refine za (by first|exact zao _ _ (zab (Enc.clo _))|exact zcl (Enc.cloL _)|exact zei (Enc.cloL _)|exact rfl) ?_)) (hS:zy S o.dst r=S':=by dsimp only[zy,List.set]):zcs IT P W ops Q (o::l) S U:=
 zcx hp hg hc hs hok hS k
theorem h_ix {α:Type} [Enc α] {K:List AV->Prop} {t e:TypeId} {x i:Operand} {u:α} {xs:List α} {st:Room} {kd:IntKind} {n:Int} (hu:ix xs n=u)(g:0<=n/\ n<xs.length)(k:zex IT P ops U K l S')(hd:(o.dst.all fun d=>decide (d<S.length))=true:=by exact rfl)(hg:o.guard=none:=by exact rfl)(ho:o.op= .indexAddr t x i:=by exact rfl)(hx:zcb S x= .list xs.length (Enc.cellsL xs) st:=by exact rfl)(hi:zcb S i= .raw (.int kd n):=by exact rfl)(ht:P.underlying t=some (.slice e):=by exact rfl)(hs:zdm P e=some (Enc.sz α):=by exact rfl)
 (hS:zy S o.dst (.iptr (Enc.cells u++Enc.cellsL (xs.drop (n.toNat+1))))=S':=by dsimp only[zy,List.set]):zex IT P ops U K (o::l) S:=by
 subst hu;exact qit hd hg (by simp[zdn,ho]) (qhp g ho hx hi ht hs) hS k
theorem h_ck {K:List AV->Prop} {f:FuncId} {args:List AV} {r:AV} (hp:Pure IT P f args' r)(k:zex IT P ops U K l S')(hd:(o.dst.all fun d=>decide (d<S.length))=true:=by exact rfl)(hg:o.guard=none:=by exact rfl)(hc:zdn S o=some (f,args):=by exact rfl)
 (hs:stripL args=args':=by repeat(first|exact rfl|refine zh (by first|exact zbu (zab (Enc.clo _))|exact zjs (Enc.cloL _)|exact zqb (Enc.cloL _) Enc.z|exact rfl) ?_))
 (hok:zaf 0 args=true:=by repeat(first|exact rfl|refine za (by first|exact zao _ _ (zab (Enc.clo _))|exact zcl (Enc.cloL _)|exact zei (Enc.cloL _)|exact rfl) ?_)) (hS:zy S o.dst r=S':=by dsimp only[zy,List.set]):zex IT P ops U K (o::l) S:=
 qcc hp hd hg hc hs hok hS k
end
theorem strip_t {vs us:List AV} (h:stripL vs=us):zde (.tup vs)= .tup us:=by rw[zde,h]
theorem strip_a {vs us:List AV} (h:stripL vs=us):zde (.agg vs)= .agg us:=by rw[zde,h]
theorem qim {k:Nat} {vs:List AV} (h:zaf k vs=true):zbs k (.tup vs)=true:=h
theorem zar {P:Program} {fn:Func} {S:List AV} {U:St} {R:Type} {y r:R} (E:R->AV)(hr:some y=some r)(a:AV)(h:zaz P fn U S=some a:=by exact rfl)
 (hok:zbs 0 a=true:=by first|exact zao _ _ (zab (Enc.clo _))|exact zcl (Enc.cloL _)|exact zei (Enc.cloL _)|((first|refine qim ?_|refine okTrim_a ?_);repeat(first|exact rfl|refine za (by first|exact zao _ _ (zab (Enc.clo _))|exact zcl (Enc.cloL _)|exact zei (Enc.cloL _)|exact rfl) ?_)))
 (hs:zde a=E y:=by first|exact zjs (Enc.cloL _)|exact zqb (Enc.cloL _) Enc.z|exact zbu (zab (Enc.clo _))|((first|refine strip_t ?_|refine strip_a ?_);repeat(first|exact rfl|refine zh (by first|exact zbu (zab (Enc.clo _))|exact zjs (Enc.cloL _)|exact zqb (Enc.cloL _) Enc.z|exact rfl) ?_))):zxk P fn (E r) .ret S U:=
 zee E hr h hok hs
theorem zcj {IT:IterP} {P:Program} {W:Owed} {k0:Nat} {α:Type} {A B:Option α} {r:α} {d:Operand} {x y:Code} {Q:AQ} {S:List AV} {U:St} (h:(bif c then A else B)=some r)(kt:c=true->A=some r->awp IT P W k0 x Q S U)(kf:c=false->B=some r->awp IT P W k0 y Q S U)(hc:zcb S d= .raw (.bool c):=by exact rfl):awp IT P W k0 (.cond d x y) Q S U:=
 zt h (fun e h=>zbv e hc (kt e h)) (fun e h=>zbw e hc (kf e h))
@[reducible] def AV.L {α:Type} [Enc α] (l:List α):AV:= .list l.length (Enc.cellsL l) .none
@[reducible] def AV.F {α:Type} [Enc α] (l:List α):AV:= .list l.length (Enc.cellsL l) .full
@[reducible] def AV.O {α:Type} [Enc α] (l:List α):AV:=zci l.length (Enc.cellsL l)
@[reducible] def AV.A {α:Type} [Enc α] (x:α):AV:= .agg (Enc.cells x)
@[reducible] def St.B (l:List (TypeId×List AV)):St:=⟨l,[],[],0,false⟩
theorem zbx {P:Program} {f:FuncId} {fn:Func} {c:Code} {args S':List AV} {r:AV} (n:Nat)(hmix:P.follows .mixedOrders=true)(hf:P.funcs[f]? =some fn)(he:Ent P f)(h:awp (ITP P) P none 0 c (zxk P fn r) S' (St.B []))(hb:fn.body=some c:=by exact rfl)(hn:Nat.sub fn.ntmps args.length=n:=by exact rfl)(hS:args++List.replicate n (.raw undef)=S':=by dsimp only[List.replicate,List.cons_append,List.nil_append]):Pure (ITP P) P f args r:=
 ziu hmix hf hb he (by unfold zat;rw[show fn.ntmps-args.length=n from hn,hS];exact h)
section
variable {P:Program} {ρ:Operand->AV} {U:St} {o:Oper} {α:Type} [Enc α]
theorem q_bslH {t e:TypeId} {x i:Operand} {s n:Nat} {f:Bool} {k:IntKind} {j:Int} (g:0<j/\ j<=n)(ho:o.op= .slice t x none (some i) none)(hx:ρ x= .bsl s 0 n (Enc.sz α) f)(hi:ρ i= .raw (.int k j))(hu:P.underlying t=some (.slice e))(hs:zdm P e=some (Enc.sz α)):
 qop P ρ U o=some (.bsl s 0 j.toNat (Enc.sz α) (f&&(j.toNat==n))):=by
 have h4:zjr n none (some (.raw (.int k j))) none=some (0,j.toNat,false):=by
  have c:0<=j/\ j<=(n:Int):=by omega
  simp only[zjr,zml,if_pos c]
 have hlt:0<j.toNat:=by omega
 simp only[qop,ho,hx,hi,map_some,Option.map_none,zub,hu,hs,h4,if_true,if_pos hlt,Nat.zero_add,Nat.zero_mul,Nat.sub_zero];simp
end
theorem qgp {IT:IterP} {P:Program} {W:Owed} {k0:Nat} {id:Nat} {ops:Array Oper} {Q:AQ} {S:List AV} {U:St} (S1:List AV)(U1:St)(h:zqw IT P W ops (fun S U=>S=S1/\ U=U1) ops.size (Array.replicate ops.size false) S U)(hrest:Q .normal S1 U1):awp IT P W k0 (.region id ops true) Q S U:=
 .inr (.inr (.inl (zgq (fun S U hw=>by obtain⟨rfl,rfl⟩:=hw;exact hrest) _ _ _ _ h)))
end Go.Ab
namespace Go.Ab
open Go Go.RowKit Go.Fwd Go.Proofs
theorem xorM64 (x:BitVec 64):xorI .u64 18446744073709551615 (x.toNat:Int)=((~~~ x).toNat:Int):=by
 show IntKind.u64.wrap (((BitVec.ofInt 64 (18446744073709551615:Int)^^^BitVec.ofInt 64 (x.toNat:Int)).toNat:Nat):Int)=_;rw[z1s];have:BitVec.ofInt 64 (18446744073709551615:Int)^^^x= ~~~ x:=by
  rw[show BitVec.ofInt 64 (18446744073709551615:Int)=BitVec.allOnes 64 by decide,BitVec.allOnes_xor]
 rw[this];exact z5f _
theorem z4s (a:BS)(i:Nat)(hi:i<4):xorI .u64 18446744073709551615 (wd a i)=wd (~~~ a) i:=by
 unfold wd;rw[xorM64];have: ~~~ W64 a i=W64 (~~~ a) i:=by
  apply BitVec.eq_of_getLsbD_eq;intro j hj;simp only[W64,BitVec.getLsbD_not,BitVec.getLsbD_extractLsb',hj,decide_true,Bool.true_and];have:64*i+j<256:=by omega
  simp[this]
 rw[this]
theorem not_run (a:BS):Pure (ITP prog) prog 17 [.agg (Enc.cells a)] (.agg [.raw (.int .u64 (xorI .u64 18446744073709551615 (wd a 0))),.raw (.int .u64 (xorI .u64 18446744073709551615 (wd a 1))),.raw (.int .u64 (xorI .u64 18446744073709551615 (wd a 2))),.raw (.int .u64 (xorI .u64 18446744073709551615 (wd a 3)))]):=zdt true goodN 100 (by kernel_rfl)
theorem k_not (a:BS):Pure (ITP prog) prog 17 [.agg (Enc.cells a)] (.agg (Enc.cells (~~~ a))):=by
 have:=not_run a;rw[z4s _ 0 (by decide),z4s _ 1 (by decide),z4s _ 2 (by decide),z4s _ 3 (by decide)] at this;exact this
def stW (s:BS)(i:Nat)(v:Int):BS:=BitVec.ofNat 256 ((if 0=i then v else wd s 0).toNat+2^64*(if 1=i then v else wd s 1).toNat+2^128*(if 2=i then v else wd s 2).toNat+2^192*(if 3=i then v else wd s 3).toNat)
theorem z6o (s:BS)(i:Nat):0<=wd s i/\ wd s i<2^64:=by
 unfold wd;have:=(W64 s i).isLt;omega
theorem qia (n i:Nat)(hi:i<4):wd (BitVec.ofNat 256 n) i=((n/2^(64*i)%2^64:Nat):Int):=by
 unfold wd W64;rw[BitVec.extractLsb'_toNat,BitVec.toNat_ofNat,Nat.shiftRight_eq_div_pow];congr 1
 have h:(2:Nat)^256=2^(64*i)*2^(256-64*i):=by rw[<-Nat.pow_add];congr 1;omega
 have h2:(2:Nat)^(256-64*i)=2^64*2^(192-64*i):=by rw[<-Nat.pow_add];congr 1;omega
 rw[h,Nat.mod_mul_right_div_self,h2,Nat.mod_mul_right_mod]
theorem qat (s:BS)(i:Nat)(v:Int)(hv:0<=v/\ v<2^64)(j:Nat)(hj:j<4):wd (stW s i v) j=if j=i then v else wd s j:=by
 unfold stW;rw[qia _ _ hj];have a0:0<=(if 0=i then v else wd s 0)/\ (if 0=i then v else wd s 0)<2^64:=by split;exact hv;exact z6o s 0
 have a1:0<=(if 1=i then v else wd s 1)/\ (if 1=i then v else wd s 1)<2^64:=by split;exact hv;exact z6o s 1
 have a2:0<=(if 2=i then v else wd s 2)/\ (if 2=i then v else wd s 2)<2^64:=by split;exact hv;exact z6o s 2
 have a3:0<=(if 3=i then v else wd s 3)/\ (if 3=i then v else wd s 3)<2^64:=by split;exact hv;exact z6o s 3
 have key: ∀x0 x1 x2 x3:Int,0<=x0/\ x0<2^64->0<=x1/\ x1<2^64->0<=x2/\ x2<2^64->0<=x3/\ x3<2^64-> ∀n:Nat,n=x0.toNat+18446744073709551616*x1.toNat+340282366920938463463374607431768211456*x2.toNat+6277101735386680763835789423207666416102355444464034512896*x3.toNat->
  ((n%18446744073709551616:Nat):Int)=x0/\ ((n/18446744073709551616%18446744073709551616:Nat):Int)=x1/\ ((n/340282366920938463463374607431768211456%18446744073709551616:Nat):Int)=x2/\ ((n/6277101735386680763835789423207666416102355444464034512896%18446744073709551616:Nat):Int)=x3:=by
  intro x0 x1 x2 x3 h0 h1 h2 h3 n hn;obtain⟨y0,rfl⟩:=Int.eq_ofNat_of_zero_le h0.1;obtain⟨y1,rfl⟩:=Int.eq_ofNat_of_zero_le h1.1;obtain⟨y2,rfl⟩:=Int.eq_ofNat_of_zero_le h2.1;obtain⟨y3,rfl⟩:=Int.eq_ofNat_of_zero_le h3.1;simp only[Int.toNat_natCast] at hn;subst hn;refine⟨?_,?_,?_,?_⟩<;>congr 1<;>omega
 obtain⟨k0,k1,k2,k3⟩:=key _ _ _ _ a0 a1 a2 a3 _ rfl
 match j,hj with
 |0,_=>rw[Nat.mul_zero,Nat.pow_zero,Nat.div_one];exact k0
 |1,_=>exact k1
 |2,_=>exact k2
 |3,_=>exact k3
theorem zzd {ρ:Operand->AV} {U:St} {o:Oper} {x y:Operand} {b:Nat} {tt:TypeId} {i v:Int} (s:BS)(h:0<=i/\ i<4)(hv:0<=v/\ v<2^64)(ho:o.op= .store 24 x y)(hx:ρ x= .ptr b (0+i.toNat*1))(hy:ρ y= .raw (.int .u64 v))(hb:U.boxes[b]? =some (tt,Enc.cells s)):
 aop prog ρ U o=some (.raw undef,{U with boxes:=U.boxes.set b (tt,Enc.cells (stW s i.toNat v))}):=by
 have hl:(Enc.cells s).length=4:=Enc.len s;rw[zcv (n:=1) ho hx hy hb (by kernel_rfl) ⟨rfl,rfl,by simp only[hl];omega,by decide⟩];have e:(Enc.cells s).take (0+i.toNat*1)++zcg (.raw (.int .u64 v))++(Enc.cells s).drop (0+i.toNat*1+1)=Enc.cells (stW s i.toNat v):=by
  have hj:i.toNat<4:=by omega
  generalize i.toNat=j at hj
  show _=[_,_,_,_];rw[qat s j v hv 0 (by decide),qat s j v hv 1 (by decide),qat s j v hv 2 (by decide),qat s j v hv 3 (by decide)]
  match j,hj with
  |0,_=>rfl
  |1,_=>rfl
  |2,_=>rfl
  |3,_=>rfl
 simp only[e]
end Go.Ab
namespace Go.Ab
open Go Go.RowKit Go.Fwd Go.Proofs
def zfr (lo:Int)(hi:Int):Option Bool:=
 (zdl (τ:=Unit) (bif (decide (lo<0)) then(some (inr false)) else(bif (decide (lo>16)) then(some (inr false)) else(bif (lo==1) then(bif (hi==1) then(some (inr false)) else(some (inl ()))) else(some (inl ()))))) (fun j1=>(bif (hi==(-1)) then(some true) else(bif (decide (hi>=1)) then(bif (decide (hi<=16)) then(some (decide (hi>=lo))) else(some false)) else(some false)))))
theorem ent83:Ent prog 83:=enters_of Tryd.func83 (by kernel_rfl) rfl
theorem zjd (lo:Int)(hi:Int)(r:Bool)(h:zfr lo hi=some r):Pure (ITP prog) prog 83 [.raw (.int .i64 lo),.raw (.int .i64 hi)] (.raw (.bool r)):=by
 unfold zfr at h;refine zbx 32 mix Tryd.func83 ent83 ?_;refine zaa [.v (.b false)] ?_;refine zbk h (bz 0 34 17179869180) (fun j1=>[]) (fun j1=>(.B [])) ?_ ?_;intro or1 h hr1;refine zaa [.m _,.v (.b (decide (lo<0)))] ?_;refine zt h (fun hc1 h=> ?_) (fun hc1 h=> ?_);refine zae hc1 ?_;refine w_r [.p,.p,.v (.b true),.m _,.p] ?_;refine w_r [.p,.p,.p,.p,.p] ?_;refine w_r [.v (.b true)] ?_;refine zbi rfl ?_;refine zaa [.v (.b false)] ?_;replace h:=zp h hr1;exact zbm h;refine zae hc1 ?_;refine w_r [.m _,.v (.b (decide (lo>16))),.v (.b (decide (lo>16)))] ?_;refine zt h (fun hc2 h=> ?_) (fun hc2 h=> ?_);refine zae hc2 ?_;refine w_r [.p,.p,.p,.p,.p] ?_;refine w_r [.p,.v (.b true)] ?_;refine zbi rfl ?_;refine zaa [.v (.b false)] ?_;replace h:=zp h hr1;exact zbm h;refine zae hc2 ?_;refine w_r [.m _,.v (.b (lo==1))] ?_;refine zal rfl rfl ?_;refine zt h (fun hc3 h=> ?_) (fun hc3 h=> ?_);refine zae hc3 ?_;refine w_r [.m _,.v (.b (hi==1)),.v (.b (hi==1)),.v (.b (hi==1))] ?_;refine zcj h (fun hc4 h=> ?_) (fun hc4 h=> ?_);refine zaa [.v (.b false)] ?_;replace h:=zp h hr1;exact zbm h;refine ze (o:=or1) () h ?_;exact zbt (bl 34 3);refine zae hc3 ?_;refine w_r [.p,.p,.v (.b false),.v (.b false)] ?_;refine zba rfl ?_;refine ze (o:=or1) () h ?_;exact zbt (bl 34 3);intro j1 h;refine zfa ?_;refine zaa [.m _,.v (.b (hi==(-1)))] ?_;refine zt h (fun hc5 h=> ?_) (fun hc5 h=> ?_);refine zae hc5 ?_;iterate 2 refine w_r [.p,.p,.p,.p,.p] ?_
 refine w_r [.p,.v (.b true),.m _] ?_;exact zbm h;refine zae hc5 ?_;refine w_r [.m _,.v (.b (decide (hi>=1)))] ?_;refine zal rfl rfl ?_;refine zt h (fun hc6 h=> ?_) (fun hc6 h=> ?_);refine zae hc6 ?_;refine w_r [.m _,.v (.b (decide (hi<=16))),.v (.b (decide (hi<=16)))] ?_;refine zal rfl rfl ?_;refine zt h (fun hc7 h=> ?_) (fun hc7 h=> ?_);refine zae hc7 ?_;refine w_r [.m _,.m _,.v (.b (decide (hi>=lo))),.v (.b (decide (hi>=lo))),.v (.b (decide (hi>=lo)))] ?_;refine w_r [.m _] ?_;exact zbm h;refine zae hc7 ?_;refine w_r [.p,.p,.p,.v (.b false),.v (.b false)] ?_;refine w_r [.m _] ?_;exact zbm h;refine zae hc6 ?_;refine w_r [.p,.p,.v (.b false),.m _,.p] ?_;refine w_r [.p,.p,.v (.b false),.v (.b false),.m _] ?_;exact zbm h
def z5w (s:BS):Option Tr:=
 (bif (decide (s=(0#256))) then(some noneT) else(some (Tr.mk 2 s 0 0 [])))
theorem ent76:Ent prog 76:=enters_of Tryd.func76 (by kernel_rfl) rfl
theorem rxof_sh (s:BS)(r:Tr)(h:z5w s=some r):Pure (ITP prog) prog 76 [.A (s:BS)] (.A (r:Tr)):=by
 unfold z5w at h;refine zbx 8 mix Tryd.func76 ent76 ?_;refine zm (zc ?_);refine zcc (a:= .ptr 0 0) (U'':=(.B [(27,(Enc.cells (s:BS)))])) ?_;refine zcc (a:= .ptr 1 0) (U'':=(.B [(27,(Enc.cells (s:BS))),(33,[.u 0,.raw (.int .u64 0),.raw (.int .u64 0),.raw (.int .u64 0),.raw (.int .u64 0),.i 0,.i 0,.list 0 [] .full])])) ?_;refine zm ?_;refine zaa [.v (.A (s:BS)),.v (.A (0#256:BS))] ?_;refine z7m (.b (decide (s=(0#256)))) rfl rfl rfl (zvq s (0#256) rfl rfl rfl) (by dsimp only[zy,List.set]) ?_;refine zcj h (fun hc1 h=> ?_) (fun hc1 h=> ?_);refine zm (zc ?_);refine zfb (.A (noneT:Tr)) (a0:=(zcd noneT .full)) rfl rfl rfl (by kernel_rfl) (zo _ _) (by dsimp only[zy,List.set]) ?_;refine zcu 8 (.B [(27,(Enc.cells (s:BS))),(33,(Enc.cells (noneT:Tr)))]) ?_;exact zar (fun(r:Tr)=> .A (r:Tr)) h (.A (noneT:Tr));refine zaa [.v (.A (s:BS))] ?_;refine zfb (.A ((Tr.mk 2 s 0 0 []):Tr)) (a0:=(zcd (Tr.mk 2 s 0 0 []) .full)) rfl rfl rfl (by kernel_rfl) (zo _ _) (by dsimp only[zy,List.set]) ?_;refine zcu 8 (.B [(27,(Enc.cells (s:BS))),(33,(Enc.cells ((Tr.mk 2 s 0 0 []):Tr)))]) ?_;exact zar (fun(r:Tr)=> .A (r:Tr)) h (.A ((Tr.mk 2 s 0 0 []):Tr))
def zkv (s:BS)(c:Int):Option Bool:=
 (chk (0<=(zge .u8 c 6)/\ (zge .u8 c 6)<4) (chk (0<=(zmk .u8 c 63)) (some ((zmk .u64 (zge .u64 (wd s (toNat (zge .u8 c 6))) (zmk .u8 c 63)) 1)==1))))
theorem ent50:Ent prog 50:=enters_of Tryd.func50 (by kernel_rfl) rfl
theorem ztd (s:BS)(c:Int)(r:Bool)(h:zkv s c=some r):Pure (ITP prog) prog 50 [.A (s:BS),.raw (.int .u8 c)] (.raw (.bool r)):=by
 unfold zkv at h;refine zbx 12 mix Tryd.func50 ent50 ?_;refine zm (zc ?_);refine zcc (a:= .ptr 0 0) (U'':=(.B [(27,(Enc.cells (s:BS)))])) ?_;refine w_o (a:= .b false) ?_;refine zaa [.m _] ?_;refine w_o (a:= .u (zge .u8 c 6)) (h:=zbf (qex (by decide) rfl rfl rfl)) ?_;obtain⟨g1,h⟩:=zr h;refine w_o (a:= .ptr 0 (0+toNat (zge .u8 c 6)*1)) (h:=zbf (zsp g1 rfl rfl rfl rfl rfl)) ?_;refine w_o (a:= .raw (.int .u64 (wd s (toNat (zge .u8 c 6))))) (h:=zbf (zwz s (by omega) rfl rfl rfl)) ?_;refine w_r [.m _,.v (.u (zmk .u8 c 63))] ?_;obtain⟨g2,h⟩:=zr h;refine w_o (a:= .raw (.int .u64 (zge .u64 (wd s (toNat (zge .u8 c 6))) (zmk .u8 c 63)))) (h:=zbf (qex g2 rfl rfl rfl)) ?_;refine w_r [.v (.raw (.int .u64 (zmk .u64 (zge .u64 (wd s (toNat (zge .u8 c 6))) (zmk .u8 c 63)) 1))),.v (.b ((zmk .u64 (zge .u64 (wd s (toNat (zge .u8 c 6))) (zmk .u8 c 63)) 1)==1)),.m _] ?_;exact zbm h
end Go.Ab
