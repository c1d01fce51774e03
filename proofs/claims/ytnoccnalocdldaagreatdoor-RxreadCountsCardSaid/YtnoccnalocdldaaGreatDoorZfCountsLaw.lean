import Derived.Test.YtnoccnalocdldaaGreatDoorZfFr
import Derived.Test.YtnoccnalocdldaaGreatDoorRows
import Derived.Deep.DeepHandedRow
import Derived.Deep.DeepWitnessRowRef
import Derived.ProofKit
import Derived.SizedLaws
import Derived.Laws.IdiomArrays
import Derived.HandedShaped
import Derived.Shelf.Vars
import Derived.ChangeMaps
import Derived.Test.YtnoccnalocdldaaGreatDoorCards
import Derived.Test.YtnoccnalocdldaaGreatDoorTie
import Derived.SevenTiedAt
set_option linter.all false
set_option maxRecDepth 100000
set_option maxHeartbeats 4000000
open Sum (inl inr)
open Int (tmod tdiv)
open Bool (and_eq_true)
open Nat (le_of_ble_eq_true)
open List (length length_cons length_append length_nil foldl nil_append append_nil isEmpty map_cons mem_singleton append_assoc)
open Go.Proofs.Tryz (prog)
namespace Go.Ab
open Go Go.RowKit Go.Fwd Go.Proofs
structure Cn where
 s:List UInt8
 lo:Int
 hi:Int
def qfl (r:Cn):List AV:=[.raw (.string (bs r.s)),.raw (.int .i64 r.lo),.raw (.int .i64 r.hi)]
instance:Enc Cn where
 inh:=⟨[],0,0⟩
 cells:=qfl
 cellsL l:=l.flatMap qfl
 sz:=3
 pos:=by decide
 nil:=rfl
 cons _ _:=rfl
 len r:=rfl
 clo r:=rfl
end Go.Ab
namespace Go.Ab
open Go Go.RowKit Go.Fwd Go.Proofs
def z1u (n:Int):Option (List UInt8):=
 (chk (0<=(IntKind.u8.wrap (48+(IntKind.u8.wrap (IntKind.i64.wrap (tdiv n 10)))))/\ (IntKind.u8.wrap (48+(IntKind.u8.wrap (IntKind.i64.wrap (tdiv n 10)))))<256) (chk (0<=(IntKind.u8.wrap (48+(IntKind.u8.wrap (tmod n 10))))/\ (IntKind.u8.wrap (48+(IntKind.u8.wrap (tmod n 10))))<256) (some ([(zpa (IntKind.u8.wrap (48+(IntKind.u8.wrap (IntKind.i64.wrap (tdiv n 10)))))),(zpa (IntKind.u8.wrap (48+(IntKind.u8.wrap (tmod n 10)))))]:List UInt8))))
theorem ent18:Ent prog 18:=enters_of Tryz.func18 (by kernel_rfl) rfl
theorem z7x (n:Int)(r:(List UInt8))(h:z1u n=some r):Pure (ITP prog) prog 18 [.raw (.int .i64 n)] (.raw (.string (bs r))):=by
 unfold z1u at h;refine zbl 12 mix Tryz.func18 ent18 ?_;refine zbb [.v (.s ([]:List UInt8))] ?_;refine zbb [.m _,.v (.i (IntKind.i64.wrap (tdiv n 10))),.v (.u (IntKind.u8.wrap (IntKind.i64.wrap (tdiv n 10)))),.v (.u (IntKind.u8.wrap (48+(IntKind.u8.wrap (IntKind.i64.wrap (tdiv n 10)))))),.m _] ?_;refine w_r [.v (.i (tmod n 10)),.v (.u (IntKind.u8.wrap (tmod n 10))),.v (.u (IntKind.u8.wrap (48+(IntKind.u8.wrap (tmod n 10)))))] ?_;obtain⟨g1,h⟩:=ze h;obtain⟨g2,h⟩:=ze h;refine w_o (a:= .F (([(zpa (IntKind.u8.wrap (48+(IntKind.u8.wrap (IntKind.i64.wrap (tdiv n 10)))))),(zpa (IntKind.u8.wrap (48+(IntKind.u8.wrap (tmod n 10)))))]:List UInt8):List UInt8)) (h:=zaz (zho (α:=UInt8) (l:=([(zpa (IntKind.u8.wrap (48+(IntKind.u8.wrap (IntKind.i64.wrap (tdiv n 10)))))),(zpa (IntKind.u8.wrap (48+(IntKind.u8.wrap (tmod n 10)))))]:List UInt8)) (cs:=[.u (IntKind.u8.wrap (48+(IntKind.u8.wrap (IntKind.i64.wrap (tdiv n 10))))),.u (IntKind.u8.wrap (48+(IntKind.u8.wrap (tmod n 10))))]) rfl (by show List.map _ _=_;simp only[map_cons,List.map_nil,u8c g1,u8c g2]))) ?_;refine w_o (a:= .s ([(zpa (IntKind.u8.wrap (48+(IntKind.u8.wrap (IntKind.i64.wrap (tdiv n 10)))))),(zpa (IntKind.u8.wrap (48+(IntKind.u8.wrap (tmod n 10)))))]:List UInt8)) (h:=zaz (q_bstr (l:=([(zpa (IntKind.u8.wrap (48+(IntKind.u8.wrap (IntKind.i64.wrap (tdiv n 10)))))),(zpa (IntKind.u8.wrap (48+(IntKind.u8.wrap (tmod n 10)))))]:List UInt8)) rfl rfl ⟨rfl,rfl⟩ rfl)) ?_;refine zar ?_;exact qja h
def qls (fuel:Nat)(l:(List Sm))(least:Int)(most:Int):Option Bool:=
 (chk (length l<2^63/\ ∀y∈l,y.2.1<256) (zba (zta l) (fun x1=>(zag (qgl fuel [x1]) (fun x2=>(bif (!x2) then(some true) else(chk (I64 (tmod least 100)) (chk (I64 (tmod most 100)) (chk ((pre x1).length<2^40/\ SY x1) (zba (zdx x1) (fun x3=>(chk (length ([40,63,58]:List UInt8)+length x3<=9223372036854775807) (chk (length (([40,63,58]:List UInt8)++x3)+length ([41]:List UInt8)<=9223372036854775807) (zcu (τ:=Unit) (zag (z1u (tmod least 100)) (fun x4=>(chk (length ([123]:List UInt8)+length x4<=9223372036854775807) (chk (length (([123]:List UInt8)++x4)+length ([125]:List UInt8)<=9223372036854775807) (zag (z1u (tmod least 100)) (fun x5=>(chk (length ([123]:List UInt8)+length x5<=9223372036854775807) (chk (length (([123]:List UInt8)++x5)+length ([44,125]:List UInt8)<=9223372036854775807) (zag (z1u (tmod least 100)) (fun x6=>(chk (length ([123]:List UInt8)+length x6<=9223372036854775807) (chk (length (([123]:List UInt8)++x6)+length ([44]:List UInt8)<=9223372036854775807) (zag (z1u (tmod most 100)) (fun x7=>(chk (length ((([123]:List UInt8)++x6)++([44]:List UInt8))+length x7<=9223372036854775807) (chk (length (((([123]:List UInt8)++x6)++([44]:List UInt8))++x7)+length ([125]:List UInt8)<=9223372036854775807) (zax (β:=Int) (fun s1=>(bif (decide (s1<(length [(Cn.mk ([42]:List UInt8) 0 (-1)),(Cn.mk ([43]:List UInt8) 1 (-1)),(Cn.mk ([63]:List UInt8) 0 1),(Cn.mk ((([123]:List UInt8)++x4)++([125]:List UInt8)) (tmod least 100) (tmod least 100)),(Cn.mk ((([123]:List UInt8)++x5)++([44,125]:List UInt8)) (tmod least 100) (-1)),(Cn.mk ((((([123]:List UInt8)++x6)++([44]:List UInt8))++x7)++([125]:List UInt8)) (tmod least 100) (tmod most 100)),(Cn.mk ([123,49,125]:List UInt8) 1 1)]:Int))) then(zcu (τ:=Unit) (chk (0<=s1/\ s1<(length [(Cn.mk ([42]:List UInt8) 0 (-1)),(Cn.mk ([43]:List UInt8) 1 (-1)),(Cn.mk ([63]:List UInt8) 0 1),(Cn.mk ((([123]:List UInt8)++x4)++([125]:List UInt8)) (tmod least 100) (tmod least 100)),(Cn.mk ((([123]:List UInt8)++x5)++([44,125]:List UInt8)) (tmod least 100) (-1)),(Cn.mk ((((([123]:List UInt8)++x6)++([44]:List UInt8))++x7)++([125]:List UInt8)) (tmod least 100) (tmod most 100)),(Cn.mk ([123,49,125]:List UInt8) 1 1)]:Int)) (zba (ix [(Cn.mk ([42]:List UInt8) 0 (-1)),(Cn.mk ([43]:List UInt8) 1 (-1)),(Cn.mk ([63]:List UInt8) 0 1),(Cn.mk ((([123]:List UInt8)++x4)++([125]:List UInt8)) (tmod least 100) (tmod least 100)),(Cn.mk ((([123]:List UInt8)++x5)++([44,125]:List UInt8)) (tmod least 100) (-1)),(Cn.mk ((((([123]:List UInt8)++x6)++([44]:List UInt8))++x7)++([125]:List UInt8)) (tmod least 100) (tmod most 100)),(Cn.mk ([123,49,125]:List UInt8) 1 1)] s1) (fun x8=>(chk (length ((([40,63,58]:List UInt8)++x3)++([41]:List UInt8))+length x8.s<=9223372036854775807) (zag (zwf 1100 2000 (((([40,63,58]:List UInt8)++x3)++([41]:List UInt8))++x8.s)) (fun x9=>(chk (length x8.s+length ([97]:List UInt8)<=9223372036854775807) (zag (zeq fuel (x8.s++([97]:List UInt8))) (fun x10=>(bif (decide (x8.lo<=16)) then(bif (x8.hi==(-1)) then(chk ((pre x1).length<2^40) (zba (zde x1 x8.lo x8.hi) (fun x11=>(bif (x10.1 !=x8.lo) then(some (inr (inr (inr false)))) else(bif (x10.2.1 !=x8.hi) then(some (inr (inr (inr false)))) else(bif (x10.2.2.1 !=(length x8.s:Int)) then(some (inr (inr (inr false)))) else(bif (x10.2.2.2 !=0) then(some (inr (inr (inr false)))) else(zag (zjs (Rg.mk false false x11)) (fun x12=>(bif (x12 !=0) then(bif (x9.2.2 !=x12) then(some (inr (inr (inr false)))) else(chk (I64 ((length ((([40,63,58]:List UInt8)++x3)++([41]:List UInt8)):Int)+(length x8.s:Int))) (bif (x9.2.1 !=((length ((([40,63,58]:List UInt8)++x3)++([41]:List UInt8)):Int)+(length x8.s:Int))) then(some (inr (inr (inr false)))) else(some (inl ()))))) else(bif (x9.2.2 !=0) then(some (inr (inr (inr false)))) else(zag (zkz x9.1.t x11) (fun x13=>(bif (!x13) then(some (inr (inr (inr false)))) else(some (inl ())))))))))))))))) else(bif (decide (x8.hi>0)) then(bif (decide (x8.hi<=16)) then(bif (!(decide (x8.hi>=x8.lo))) then(bif (x9.2.2 !=93) then(some (inr (inr (inr false)))) else(bif (x9.2.1 !=(length ((([40,63,58]:List UInt8)++x3)++([41]:List UInt8)):Int)) then(some (inr (inr (inr false)))) else(bif (x10.2.2.2 !=93) then(some (inr (inr (inr false)))) else(bif (x10.1 !=0) then(some (inr (inr (inr false)))) else(bif (x10.2.1 !=0) then(some (inr (inr (inr false)))) else(bif (x10.2.2.1 !=0) then(some (inr (inr (inr false)))) else(some (inl ())))))))) else(chk ((pre x1).length<2^40) (zba (zde x1 x8.lo x8.hi) (fun x14=>(bif (x10.1 !=x8.lo) then(some (inr (inr (inr false)))) else(bif (x10.2.1 !=x8.hi) then(some (inr (inr (inr false)))) else(bif (x10.2.2.1 !=(length x8.s:Int)) then(some (inr (inr (inr false)))) else(bif (x10.2.2.2 !=0) then(some (inr (inr (inr false)))) else(zag (zjs (Rg.mk false false x14)) (fun x15=>(bif (x15 !=0) then(bif (x9.2.2 !=x15) then(some (inr (inr (inr false)))) else(chk (I64 ((length ((([40,63,58]:List UInt8)++x3)++([41]:List UInt8)):Int)+(length x8.s:Int))) (bif (x9.2.1 !=((length ((([40,63,58]:List UInt8)++x3)++([41]:List UInt8)):Int)+(length x8.s:Int))) then(some (inr (inr (inr false)))) else(some (inl ()))))) else(bif (x9.2.2 !=0) then(some (inr (inr (inr false)))) else(zag (zkz x9.1.t x14) (fun x16=>(bif (!x16) then(some (inr (inr (inr false)))) else(some (inl ()))))))))))))))))) else(bif (x9.2.2 !=93) then(some (inr (inr (inr false)))) else(bif (x9.2.1 !=(length ((([40,63,58]:List UInt8)++x3)++([41]:List UInt8)):Int)) then(some (inr (inr (inr false)))) else(bif (x10.2.2.2 !=93) then(some (inr (inr (inr false)))) else(bif (x10.1 !=0) then(some (inr (inr (inr false)))) else(bif (x10.2.1 !=0) then(some (inr (inr (inr false)))) else(bif (x10.2.2.1 !=0) then(some (inr (inr (inr false)))) else(some (inl ()))))))))) else(bif (x9.2.2 !=93) then(some (inr (inr (inr false)))) else(bif (x9.2.1 !=(length ((([40,63,58]:List UInt8)++x3)++([41]:List UInt8)):Int)) then(some (inr (inr (inr false)))) else(bif (x10.2.2.2 !=93) then(some (inr (inr (inr false)))) else(bif (x10.1 !=0) then(some (inr (inr (inr false)))) else(bif (x10.2.1 !=0) then(some (inr (inr (inr false)))) else(bif (x10.2.2.1 !=0) then(some (inr (inr (inr false)))) else(some (inl ())))))))))) else(bif (x9.2.2 !=93) then(some (inr (inr (inr false)))) else(bif (x9.2.1 !=(length ((([40,63,58]:List UInt8)++x3)++([41]:List UInt8)):Int)) then(some (inr (inr (inr false)))) else(bif (x10.2.2.2 !=93) then(some (inr (inr (inr false)))) else(bif (x10.1 !=0) then(some (inr (inr (inr false)))) else(bif (x10.2.1 !=0) then(some (inr (inr (inr false)))) else(bif (x10.2.2.1 !=0) then(some (inr (inr (inr false)))) else(some (inl ())))))))))))))))))) (fun j2=>(chk (I64 (s1+1)) (some (inl ((s1+1))))))) else(some (inr (inl ()))))) fuel (0)))))))))))))))))) (fun j1=>(some true))))))))))))))))
theorem ent4:Ent prog 4:=enters_of Tryz.func4 (by kernel_rfl) rfl
theorem rxc_sh (fuel:Nat)(l:(List Sm))(least:Int)(most:Int)(r:Bool)(h:qls fuel l least most=some r):Pure (ITP prog) prog 4 [.L (l:List Sm),.raw (.int .u8 least),.raw (.int .u8 most)] (.raw (.bool r)):=by
 unfold qls at h;refine zbl 201 mix Tryz.func4 ent4 ?_;refine zbb [.v (.b false)] ?_;refine zj ?_;refine zj (zb ?_);refine zch (r:= .b true) qax ?_;refine w_o (a:= .b false) ?_;refine zcd rfl ?_;refine zbb [.m _] ?_;obtain⟨g1,h⟩:=ze h;obtain⟨x1,hx1,h⟩:=zk h;refine zch (args':=[.L (l:List Sm)]) (r:= .A (x1:Tr)) (by rw[<-hx1];exact(k_made l g1)) ?_;refine zdf zN ?_;refine zes 8 (Enc.cells (x1:Tr)) ?_;refine zj ?_;refine zbb [.v (.A (x1:Tr))] ?_;refine w_o (a:= .F ([x1]:List Tr)) (h:=zaz (zho (α:=Tr) (l:=[x1]) (cs:=Enc.cells (x1:Tr)++[]) rfl (by rw[Enc.cons,Enc.nil]))) ?_;obtain⟨x2,hx2,h⟩:=zr h;refine zch (few_sh fuel [x1] x2 hx2) ?_;refine w_o (a:= .b (!x2)) ?_;refine zbn h (fun hc1 h=> ?_) (fun hc1 h=> ?_);refine zbb [.v (.b true)] ?_;exact zal h;refine zbb [.m _,.v (.u (tmod least 100))] ?_;obtain⟨g2,h⟩:=ze h;refine w_o (a:= .i (tmod least 100)) (h:=zaz (zgz g2 rfl rfl rfl)) ?_;refine w_r [.m _,.v (.u (tmod most 100))] ?_;obtain⟨g3,h⟩:=ze h;refine w_o (a:= .i (tmod most 100)) (h:=zaz (zgz g3 rfl rfl rfl)) ?_;refine w_r [.m _,.m _] ?_;refine zbb [.v (.clos 18 [])] ?_;refine zbb [.v (.A (x1:Tr))] ?_;obtain⟨g4,h⟩:=ze h;obtain⟨x3,hx3,h⟩:=zk h;refine zch (args':=[.A (x1:Tr)]) (r:= .s x3) (by rw[<-hx3];exact(k_say x1 g4)) ?_;obtain⟨g5,h⟩:=ze h;refine w_o (a:= .s (([40,63,58]:List UInt8)++x3)) (h:=zaz (zbm g5 rfl rfl rfl)) ?_;obtain⟨g6,h⟩:=ze h;refine w_o (a:= .s ((([40,63,58]:List UInt8)++x3)++([41]:List UInt8))) (h:=zaz (zbm g6 rfl rfl rfl)) ?_;refine zar ?_;refine zan h (bz 0 204 25711008708143844408671393477458601640355247900524685364822015) (fun j1=>[]) (fun j1=>(.B [(29,(Enc.cells (x1:Tr)))])) ?_ ?_;intro or1 h hr1;refine zbb [.v (.A ((Cn.mk ([42]:List UInt8) 0 (-1)):Cn)),.v (.A ((Cn.mk ([43]:List UInt8) 1 (-1)):Cn)),.v (.A ((Cn.mk ([63]:List UInt8) 0 1):Cn)),.m _,.m _] ?_;obtain⟨x4,hx4,h⟩:=zr h;refine zch (z7x (tmod least 100) x4 hx4) ?_;obtain⟨g7,h⟩:=ze h;refine w_o (a:= .s (([123]:List UInt8)++x4)) (h:=zaz (zbm g7 rfl rfl rfl)) ?_;obtain⟨g8,h⟩:=ze h;refine w_o (a:= .s ((([123]:List UInt8)++x4)++([125]:List UInt8))) (h:=zaz (zbm g8 rfl rfl rfl)) ?_;refine w_r [.m _,.m _,.v (.A ((Cn.mk ((([123]:List UInt8)++x4)++([125]:List UInt8)) (tmod least 100) (tmod least 100)):Cn)),.m _,.m _] ?_;obtain⟨x5,hx5,h⟩:=zr h;refine zch (z7x (tmod least 100) x5 hx5) ?_;obtain⟨g9,h⟩:=ze h;refine w_o (a:= .s (([123]:List UInt8)++x5)) (h:=zaz (zbm g9 rfl rfl rfl)) ?_;obtain⟨g10,h⟩:=ze h;refine w_o (a:= .s ((([123]:List UInt8)++x5)++([44,125]:List UInt8))) (h:=zaz (zbm g10 rfl rfl rfl)) ?_;refine w_r [.m _,.v (.A ((Cn.mk ((([123]:List UInt8)++x5)++([44,125]:List UInt8)) (tmod least 100) (-1)):Cn)),.m _,.m _] ?_;obtain⟨x6,hx6,h⟩:=zr h;refine zch (z7x (tmod least 100) x6 hx6) ?_;obtain⟨g11,h⟩:=ze h;refine w_o (a:= .s (([123]:List UInt8)++x6)) (h:=zaz (zbm g11 rfl rfl rfl)) ?_;obtain⟨g12,h⟩:=ze h;refine w_o (a:= .s ((([123]:List UInt8)++x6)++([44]:List UInt8))) (h:=zaz (zbm g12 rfl rfl rfl)) ?_;refine w_r [.m _,.m _] ?_;obtain⟨x7,hx7,h⟩:=zr h;refine zch (z7x (tmod most 100) x7 hx7) ?_;obtain⟨g13,h⟩:=ze h;refine w_o (a:= .s (((([123]:List UInt8)++x6)++([44]:List UInt8))++x7)) (h:=zaz (zbm g13 rfl rfl rfl)) ?_;obtain⟨g14,h⟩:=ze h;refine w_o (a:= .s ((((([123]:List UInt8)++x6)++([44]:List UInt8))++x7)++([125]:List UInt8))) (h:=zaz (zbm g14 rfl rfl rfl)) ?_;refine w_r [.m _,.m _,.v (.A ((Cn.mk ((((([123]:List UInt8)++x6)++([44]:List UInt8))++x7)++([125]:List UInt8)) (tmod least 100) (tmod most 100)):Cn)),.v (.A ((Cn.mk ([123,49,125]:List UInt8) 1 1):Cn))] ?_;refine w_o (a:= .F ([(Cn.mk ([42]:List UInt8) 0 (-1)),(Cn.mk ([43]:List UInt8) 1 (-1)),(Cn.mk ([63]:List UInt8) 0 1),(Cn.mk ((([123]:List UInt8)++x4)++([125]:List UInt8)) (tmod least 100) (tmod least 100)),(Cn.mk ((([123]:List UInt8)++x5)++([44,125]:List UInt8)) (tmod least 100) (-1)),(Cn.mk ((((([123]:List UInt8)++x6)++([44]:List UInt8))++x7)++([125]:List UInt8)) (tmod least 100) (tmod most 100)),(Cn.mk ([123,49,125]:List UInt8) 1 1)]:List Cn)) (h:=zaz (zho (α:=Cn) (l:=[(Cn.mk ([42]:List UInt8) 0 (-1)),(Cn.mk ([43]:List UInt8) 1 (-1)),(Cn.mk ([63]:List UInt8) 0 1),(Cn.mk ((([123]:List UInt8)++x4)++([125]:List UInt8)) (tmod least 100) (tmod least 100)),(Cn.mk ((([123]:List UInt8)++x5)++([44,125]:List UInt8)) (tmod least 100) (-1)),(Cn.mk ((((([123]:List UInt8)++x6)++([44]:List UInt8))++x7)++([125]:List UInt8)) (tmod least 100) (tmod most 100)),(Cn.mk ([123,49,125]:List UInt8) 1 1)]) (cs:=Enc.cells ((Cn.mk ([42]:List UInt8) 0 (-1)):Cn)++(Enc.cells ((Cn.mk ([43]:List UInt8) 1 (-1)):Cn)++(Enc.cells ((Cn.mk ([63]:List UInt8) 0 1):Cn)++(Enc.cells ((Cn.mk ((([123]:List UInt8)++x4)++([125]:List UInt8)) (tmod least 100) (tmod least 100)):Cn)++(Enc.cells ((Cn.mk ((([123]:List UInt8)++x5)++([44,125]:List UInt8)) (tmod least 100) (-1)):Cn)++(Enc.cells ((Cn.mk ((((([123]:List UInt8)++x6)++([44]:List UInt8))++x7)++([125]:List UInt8)) (tmod least 100) (tmod most 100)):Cn)++(Enc.cells ((Cn.mk ([123,49,125]:List UInt8) 1 1):Cn)++[]))))))) (by kernel_rfl) (by rw[Enc.cons,Enc.cons,Enc.cons,Enc.cons,Enc.cons,Enc.cons,Enc.cons,Enc.nil]))) ?_;refine w_r [.v (.i (length [(Cn.mk ([42]:List UInt8) 0 (-1)),(Cn.mk ([43]:List UInt8) 1 (-1)),(Cn.mk ([63]:List UInt8) 0 1),(Cn.mk ((([123]:List UInt8)++x4)++([125]:List UInt8)) (tmod least 100) (tmod least 100)),(Cn.mk ((([123]:List UInt8)++x5)++([44,125]:List UInt8)) (tmod least 100) (-1)),(Cn.mk ((((([123]:List UInt8)++x6)++([44]:List UInt8))++x7)++([125]:List UInt8)) (tmod least 100) (tmod most 100)),(Cn.mk ([123,49,125]:List UInt8) 1 1)]:Int)),.v (.i 0)] ?_;refine zx ?_;refine zcf h (bz 0 204 25711008708143844408671393477458601640298579502730249622255487) (fun s1=>[(76,.i s1)]) (fun s1=>(.B [(29,(Enc.cells (x1:Tr)))])) ?_ ?_;exact zbe (bl 204 132226261520350065985664);intro s1 p1 h;refine zdi ?_;refine zbb [.v (.b (decide (s1<(length [(Cn.mk ([42]:List UInt8) 0 (-1)),(Cn.mk ([43]:List UInt8) 1 (-1)),(Cn.mk ([63]:List UInt8) 0 1),(Cn.mk ((([123]:List UInt8)++x4)++([125]:List UInt8)) (tmod least 100) (tmod least 100)),(Cn.mk ((([123]:List UInt8)++x5)++([44,125]:List UInt8)) (tmod least 100) (-1)),(Cn.mk ((((([123]:List UInt8)++x6)++([44]:List UInt8))++x7)++([125]:List UInt8)) (tmod least 100) (tmod most 100)),(Cn.mk ([123,49,125]:List UInt8) 1 1)]:Int))))] ?_;refine zj ?_;refine zbn h (fun hc2 h=> ?_) (fun hc2 h=> ?_);refine zan h (bz 0 203 12855504354071922204335696738729300820026508222810514052341824) (fun j2=>[]) (fun j2=>(.B [(29,(Enc.cells (x1:Tr)))])) ?_ ?_;intro or2 h hr2;refine zx ?_;refine zj (zb ?_);obtain⟨g15,h⟩:=ze h;obtain⟨x8,hx8,h⟩:=zk h;refine z4u hx8 g15 ?_;refine w_o (a:= .A (x8:Cn)) ?_;refine zdf (Enc.cells ((Cn.mk [] 0 0):Cn)) ?_;refine zes 3 (Enc.cells (x8:Cn)) ?_;refine zbb [.m _,.v (.ptr 1 0),.v (.s x8.s)] ?_;obtain⟨g16,h⟩:=ze h;refine w_o (a:= .s (((([40,63,58]:List UInt8)++x3)++([41]:List UInt8))++x8.s)) (h:=zaz (zbm g16 rfl rfl rfl)) ?_;obtain⟨x9,hx9,h⟩:=zr h;refine zch (r:= .tup [.A (x9.1:Rg),.i x9.2.1,.i x9.2.2]) (qer 1100 2000 (((([40,63,58]:List UInt8)++x3)++([41]:List UInt8))++x8.s) x9 hx9) ?_;refine w_r [.m _,.x _,.x _,.x _] ?_;refine zdf [.b false,.b false,.u 0,.raw (.int .u64 0),.raw (.int .u64 0),.raw (.int .u64 0),.raw (.int .u64 0),.i 0,.i 0,.list 0 [] .full] ?_;refine zes 10 (Enc.cells (x9.1:Rg)) ?_;refine w_r [.m _,.m _] ?_;refine zbb [.v (.ptr 1 0),.v (.s x8.s)] ?_;obtain⟨g17,h⟩:=ze h;refine w_o (a:= .s (x8.s++([97]:List UInt8))) (h:=zaz (zbm g17 rfl rfl rfl)) ?_;obtain⟨x10,hx10,h⟩:=zr h;refine zch (z7z fuel (x8.s++([97]:List UInt8)) x10 hx10) ?_;refine w_r [.m _,.x _,.x _,.x _,.x _] ?_;refine w_r [.m _,.m _,.m _,.m _] ?_;refine zbb [.v (.ptr 1 1),.v (.i x8.lo),.v (.b (decide (x8.lo<=16)))] ?_;refine zz h (fun hc3 h=> ?_) (fun hc3 h=> ?_);refine zai hc3 ?_;refine w_r [.v (.ptr 1 2),.v (.i x8.hi),.v (.b (x8.hi==(-1)))] ?_;refine zao rfl rfl ?_;refine zz h (fun hc4 h=> ?_) (fun hc4 h=> ?_);refine zai hc4 ?_;iterate 3 refine w_r [.p,.p,.p,.p,.p] ?_
 refine w_r [.v (.b true),.v (.b true),.m _] ?_;refine zj ?_;refine zbb [.m _,.v (.b false)] ?_;refine zcd rfl ?_;refine zbb [.v (.A (x1:Tr)),.v (.ptr 1 1),.v (.i x8.lo),.v (.ptr 1 2),.v (.i x8.hi)] ?_;obtain⟨g18,h⟩:=ze h;obtain⟨x11,hx11,h⟩:=zk h;refine zch (args':=[.A (x1:Tr),.i x8.lo,.i x8.hi]) (r:= .A (x11:Tr)) (by rw[<-hx11];exact(z5e x1 x8.lo x8.hi g18)) ?_;refine zdf zN ?_;refine zes 8 (Enc.cells (x11:Tr)) ?_;refine zj ?_;refine zbb [.m _,.v (.ptr 1 1),.v (.i x8.lo),.v (.b (x10.1 !=x8.lo))] ?_;refine zz h (fun hc5 h=> ?_) (fun hc5 h=> ?_);refine zai hc5 ?_;refine w_r [.p,.p,.p,.p,.v (.b true)] ?_;refine w_r [.m _,.p,.p,.p,.p] ?_;refine w_r [.p,.v (.b true),.m _,.p,.p] ?_;refine w_r [.v (.b true)] ?_;refine zbd rfl ?_;refine zbb [.v (.b false)] ?_;replace h:=zi h hr2;refine zg h (fun h=> ?_);replace h:=zi h hr1;exact zal h;refine zai hc5 ?_;refine w_r [.m _,.v (.ptr 1 2),.v (.i x8.hi),.v (.b (x10.2.1 !=x8.hi)),.v (.b (x10.2.1 !=x8.hi))] ?_;refine zz h (fun hc6 h=> ?_) (fun hc6 h=> ?_);refine zai hc6 ?_;refine w_r [.p,.p,.p,.p,.p] ?_;refine w_r [.v (.b true),.m _,.p,.p,.v (.b true)] ?_;refine zbd rfl ?_;refine zbb [.v (.b false)] ?_;replace h:=zi h hr2;refine zg h (fun h=> ?_);replace h:=zi h hr1;exact zal h;refine zai hc6 ?_;refine w_r [.m _,.v (.ptr 1 0),.v (.s x8.s)] ?_;refine zao rfl rfl ?_;refine w_o (a:= .i (length x8.s:Int)) (h:=zaz (zdk rfl rfl rfl)) ?_;refine w_r [.v (.b (x10.2.2.1 !=(length x8.s:Int))),.v (.b (x10.2.2.1 !=(length x8.s:Int)))] ?_;refine zz h (fun hc7 h=> ?_) (fun hc7 h=> ?_);refine zai hc7 ?_;refine w_r [.p,.p,.v (.b true)] ?_;refine zbd rfl ?_;refine zbb [.v (.b false)] ?_;replace h:=zi h hr2;refine zg h (fun h=> ?_);replace h:=zi h hr1;exact zal h;refine zai hc7 ?_;refine w_r [.m _,.v (.b (x10.2.2.2 !=0)),.v (.b (x10.2.2.2 !=0))] ?_;refine zbn h (fun hc8 h=> ?_) (fun hc8 h=> ?_);refine zbb [.v (.b false)] ?_;replace h:=zi h hr2;refine zg h (fun h=> ?_);replace h:=zi h hr1;exact zal h;refine zj ?_;refine zbb [.v (.A (x11:Tr))] ?_;refine qol (.A ((Rg.mk false false x11):Rg)) rfl rfl rfl rfl (show zcw (.A ((Rg.mk false false x11):Rg))=_ from congrArg AV.agg (zcy _ (Enc.clo ((Rg.mk false false x11):Rg)))) (by dsimp only[zah,List.set]) ?_;obtain⟨x12,hx12,h⟩:=zr h;refine zch (zyk (Rg.mk false false x11) x12 hx12) ?_;refine zar ?_;refine zbb [.m _,.v (.b (x12 !=0))] ?_;refine zbn h (fun hc9 h=> ?_) (fun hc9 h=> ?_);refine zj ?_;refine zbb [.m _,.m _,.v (.b (x9.2.2 !=x12))] ?_;refine zz h (fun hc10 h=> ?_) (fun hc10 h=> ?_);refine zai hc10 ?_;refine w_r [.p,.p,.p,.p,.p] ?_;refine w_r [.p,.p,.p,.v (.b true)] ?_;refine zbd rfl ?_;refine zbb [.v (.b false)] ?_;replace h:=zi h hr2;refine zg h (fun h=> ?_);replace h:=zi h hr1;exact zal h;refine zai hc10 ?_;refine w_r [.m _,.m _] ?_;refine zao rfl rfl ?_;refine w_o (a:= .i (length ((([40,63,58]:List UInt8)++x3)++([41]:List UInt8)):Int)) (h:=zaz (zdk rfl rfl rfl)) ?_;refine w_r [.v (.ptr 1 0),.v (.s x8.s)] ?_;refine zao rfl rfl ?_;refine w_o (a:= .i (length x8.s:Int)) (h:=zaz (zdk rfl rfl rfl)) ?_;refine zao rfl rfl ?_;obtain⟨g19,h⟩:=ze h;refine zgu g19 ?_;refine w_r [.v (.b (x9.2.1 !=((length ((([40,63,58]:List UInt8)++x3)++([41]:List UInt8)):Int)+(length x8.s:Int)))),.v (.b (x9.2.1 !=((length ((([40,63,58]:List UInt8)++x3)++([41]:List UInt8)):Int)+(length x8.s:Int))))] ?_;refine zbn h (fun hc11 h=> ?_) (fun hc11 h=> ?_);refine zbb [.v (.b false)] ?_;replace h:=zi h hr2;refine zg h (fun h=> ?_);replace h:=zi h hr1;exact zal h;refine zc (o:=or2) () h ?_;exact zce (bl 204 12855504354071922204335696738729300820328739677714171312480191) 1 (by kernel_rfl) (le_of_ble_eq_true rfl) (zbg (zy (zn _ _ (Enc.clo _)) rfl)) (by dsimp only[zap,zbi,foldl,List.set,bz,bzc,Nat.reduceMod,Nat.reduceDiv,Nat.reduceBEq,Nat.reduceAdd];exact(za rfl (za rfl (za rfl (za rfl (za rfl (za rfl (za rfl (za (by decide) (za rfl (za rfl (za rfl (za rfl (za rfl (za rfl (za rfl (za rfl (za rfl (za rfl (za rfl (za rfl (za rfl (za rfl (za rfl (za rfl (za rfl (za rfl (za rfl (za rfl (za rfl (za rfl (za rfl (za rfl (za rfl (za rfl (za rfl (za rfl (za rfl (za rfl (za rfl (za rfl (za rfl (za rfl (za rfl (za rfl (za rfl (za rfl (za rfl (za rfl (za rfl (za rfl (za rfl (za rfl (za rfl (za rfl (za rfl (za rfl (za rfl (za rfl (za rfl (za rfl (za rfl (za rfl (za rfl (za rfl (za rfl (za rfl (za rfl (za rfl (za rfl (za rfl (za rfl (za rfl (za rfl (za rfl (za (zbc (Enc.cloL _)) (by kernel_rfl))))))))))))))))))))))))))))))))))))))))))))))))))))))))))))))))))))))))))))) (by kernel_rfl);refine zbb [.m _,.v (.b (x9.2.2 !=0))] ?_;refine zz h (fun hc12 h=> ?_) (fun hc12 h=> ?_);refine zai hc12 ?_;refine w_r [.p,.p,.p,.p,.p] ?_;refine w_r [.v (.b true)] ?_;refine zbd rfl ?_;refine zbb [.v (.b false)] ?_;replace h:=zi h hr2;refine zg h (fun h=> ?_);replace h:=zi h hr1;exact zal h;refine zai hc12 ?_;refine w_r [.v (.ptr 2 2),.v (.A (x9.1.t:Tr)),.v (.A (x11:Tr))] ?_;refine zao rfl rfl ?_;obtain⟨x13,hx13,h⟩:=zr h;refine zch (zyc x9.1.t x11 x13 hx13) ?_;refine w_r [.v (.b (!x13)),.v (.b (!x13))] ?_;refine zbn h (fun hc13 h=> ?_) (fun hc13 h=> ?_);refine zbb [.v (.b false)] ?_;replace h:=zi h hr2;refine zg h (fun h=> ?_);replace h:=zi h hr1;exact zal h;refine zc (o:=or2) () h ?_;exact zce (bl 204 12855504354071922204335696738729300820328739677714171312480191) 1 (by kernel_rfl) (le_of_ble_eq_true rfl) (zbg (zy (zn _ _ (Enc.clo _)) rfl)) (by dsimp only[zap,zbi,foldl,List.set,bz,bzc,Nat.reduceMod,Nat.reduceDiv,Nat.reduceBEq,Nat.reduceAdd];exact(za rfl (za rfl (za rfl (za rfl (za rfl (za rfl (za rfl (za (by decide) (za rfl (za rfl (za rfl (za rfl (za rfl (za rfl (za rfl (za rfl (za rfl (za rfl (za rfl (za rfl (za rfl (za rfl (za rfl (za rfl (za rfl (za rfl (za rfl (za rfl (za rfl (za rfl (za rfl (za rfl (za rfl (za rfl (za rfl (za rfl (za rfl (za rfl (za rfl (za rfl (za rfl (za rfl (za rfl (za rfl (za rfl (za rfl (za rfl (za rfl (za rfl (za rfl (za rfl (za rfl (za rfl (za rfl (za rfl (za rfl (za rfl (za rfl (za rfl (za rfl (za rfl (za rfl (za rfl (za rfl (za rfl (za rfl (za rfl (za rfl (za rfl (za rfl (za rfl (za rfl (za rfl (za rfl (za (zbc (Enc.cloL _)) (by kernel_rfl))))))))))))))))))))))))))))))))))))))))))))))))))))))))))))))))))))))))))))) (by kernel_rfl);refine zai hc4 ?_;refine w_r [.v (.ptr 1 2),.v (.i x8.hi),.v (.b (decide (x8.hi>0)))] ?_;refine zao rfl rfl ?_;refine zz h (fun hc14 h=> ?_) (fun hc14 h=> ?_);refine zai hc14 ?_;refine w_r [.v (.ptr 1 2),.v (.i x8.hi),.v (.b (decide (x8.hi<=16))),.v (.b (decide (x8.hi<=16)))] ?_;refine zao rfl rfl ?_;refine zz h (fun hc15 h=> ?_) (fun hc15 h=> ?_);refine zai hc15 ?_;refine w_r [.v (.ptr 1 2),.v (.i x8.hi),.v (.ptr 1 1),.v (.i x8.lo),.v (.b (decide (x8.hi>=x8.lo)))] ?_;refine w_r [.v (.b (decide (x8.hi>=x8.lo))),.v (.b (decide (x8.hi>=x8.lo))),.v (.b (decide (x8.hi>=x8.lo))),.m _] ?_;refine zj ?_;refine zbb [.m _,.v (.b (!(decide (x8.hi>=x8.lo))))] ?_;refine zbn h (fun hc16 h=> ?_) (fun hc16 h=> ?_);refine zj ?_;refine zbb [.m _,.v (.b (x9.2.2 !=93))] ?_;refine zz h (fun hc17 h=> ?_) (fun hc17 h=> ?_);refine zai hc17 ?_;refine w_r [.p,.p,.p,.p,.v (.b true)] ?_;refine w_r [.m _,.p,.p,.v (.b true),.m _] ?_;refine w_r [.p,.p,.v (.b true),.m _,.p] ?_;refine w_r [.p,.v (.b true),.m _,.p,.p] ?_;refine w_r [.v (.b true)] ?_;refine zbd rfl ?_;refine zbb [.v (.b false)] ?_;replace h:=zi h hr2;refine zg h (fun h=> ?_);replace h:=zi h hr1;exact zal h;refine zai hc17 ?_;refine w_r [.m _,.m _] ?_;refine zao rfl rfl ?_;refine w_o (a:= .i (length ((([40,63,58]:List UInt8)++x3)++([41]:List UInt8)):Int)) (h:=zaz (zdk rfl rfl rfl)) ?_;refine w_r [.v (.b (x9.2.1 !=(length ((([40,63,58]:List UInt8)++x3)++([41]:List UInt8)):Int))),.v (.b (x9.2.1 !=(length ((([40,63,58]:List UInt8)++x3)++([41]:List UInt8)):Int)))] ?_;refine zz h (fun hc18 h=> ?_) (fun hc18 h=> ?_);refine zai hc18 ?_;refine w_r [.p,.p,.v (.b true),.m _,.p] ?_;refine w_r [.p,.v (.b true),.m _,.p,.p] ?_;refine w_r [.v (.b true),.m _,.p,.p,.v (.b true)] ?_;refine zbd rfl ?_;refine zbb [.v (.b false)] ?_;replace h:=zi h hr2;refine zg h (fun h=> ?_);replace h:=zi h hr1;exact zal h;refine zai hc18 ?_;refine w_r [.m _,.v (.b (x10.2.2.2 !=93)),.v (.b (x10.2.2.2 !=93))] ?_;refine zz h (fun hc19 h=> ?_) (fun hc19 h=> ?_);refine zai hc19 ?_;refine w_r [.p,.p,.v (.b true),.m _,.p] ?_;refine w_r [.p,.v (.b true),.m _,.p,.p] ?_;refine w_r [.v (.b true)] ?_;refine zbd rfl ?_;refine zbb [.v (.b false)] ?_;replace h:=zi h hr2;refine zg h (fun h=> ?_);replace h:=zi h hr1;exact zal h;refine zai hc19 ?_;refine w_r [.m _,.v (.b (x10.1 !=0)),.v (.b (x10.1 !=0))] ?_;refine zz h (fun hc20 h=> ?_) (fun hc20 h=> ?_);refine zai hc20 ?_;refine w_r [.p,.p,.v (.b true),.m _,.p] ?_;refine w_r [.p,.v (.b true)] ?_;refine zbd rfl ?_;refine zbb [.v (.b false)] ?_;replace h:=zi h hr2;refine zg h (fun h=> ?_);replace h:=zi h hr1;exact zal h;refine zai hc20 ?_;refine w_r [.m _,.v (.b (x10.2.1 !=0)),.v (.b (x10.2.1 !=0))] ?_;refine zz h (fun hc21 h=> ?_) (fun hc21 h=> ?_);refine zai hc21 ?_;refine w_r [.p,.p,.v (.b true)] ?_;refine zbd rfl ?_;refine zbb [.v (.b false)] ?_;replace h:=zi h hr2;refine zg h (fun h=> ?_);replace h:=zi h hr1;exact zal h;refine zai hc21 ?_;refine w_r [.m _,.v (.b (x10.2.2.1 !=0)),.v (.b (x10.2.2.1 !=0))] ?_;refine zbn h (fun hc22 h=> ?_) (fun hc22 h=> ?_);refine zbb [.v (.b false)] ?_;replace h:=zi h hr2;refine zg h (fun h=> ?_);replace h:=zi h hr1;exact zal h;refine zc (o:=or2) () h ?_;exact zce (bl 204 12855504354071922204335696738729300820328739677714171312480191) 1 (by kernel_rfl) (le_of_ble_eq_true rfl) (zbg (zy (zn _ _ (Enc.clo _)) rfl)) (by dsimp only[zap,zbi,foldl,List.set,bz,bzc,Nat.reduceMod,Nat.reduceDiv,Nat.reduceBEq,Nat.reduceAdd];exact(za rfl (za rfl (za rfl (za rfl (za rfl (za rfl (za rfl (za (by decide) (za rfl (za rfl (za rfl (za rfl (za rfl (za rfl (za rfl (za rfl (za rfl (za rfl (za rfl (za rfl (za rfl (za rfl (za rfl (za rfl (za rfl (za rfl (za rfl (za rfl (za rfl (za rfl (za rfl (za rfl (za rfl (za rfl (za rfl (za rfl (za rfl (za rfl (za rfl (za rfl (za rfl (za rfl (za rfl (za rfl (za rfl (za rfl (za rfl (za rfl (za rfl (za rfl (za rfl (za rfl (za rfl (za rfl (za rfl (za rfl (za rfl (za rfl (za rfl (za rfl (za rfl (za rfl (za rfl (za rfl (za rfl (za rfl (za rfl (za rfl (za rfl (za rfl (za rfl (za rfl (za rfl (za rfl (za (zbc (Enc.cloL _)) (by kernel_rfl))))))))))))))))))))))))))))))))))))))))))))))))))))))))))))))))))))))))))))) (by kernel_rfl);refine zbb [.v (.A (x1:Tr)),.v (.ptr 1 1),.v (.i x8.lo),.v (.ptr 1 2),.v (.i x8.hi)] ?_;obtain⟨g20,h⟩:=ze h;obtain⟨x14,hx14,h⟩:=zk h;refine zch (args':=[.A (x1:Tr),.i x8.lo,.i x8.hi]) (r:= .A (x14:Tr)) (by rw[<-hx14];exact(z5e x1 x8.lo x8.hi g20)) ?_;refine zdf zN ?_;refine zes 8 (Enc.cells (x14:Tr)) ?_;refine zj ?_;refine zbb [.m _,.v (.ptr 1 1),.v (.i x8.lo),.v (.b (x10.1 !=x8.lo))] ?_;refine zz h (fun hc23 h=> ?_) (fun hc23 h=> ?_);refine zai hc23 ?_;refine w_r [.p,.p,.p,.p,.v (.b true)] ?_;refine w_r [.m _,.p,.p,.p,.p] ?_;refine w_r [.p,.v (.b true),.m _,.p,.p] ?_;refine w_r [.v (.b true)] ?_;refine zbd rfl ?_;refine zbb [.v (.b false)] ?_;replace h:=zi h hr2;refine zg h (fun h=> ?_);replace h:=zi h hr1;exact zal h;refine zai hc23 ?_;refine w_r [.m _,.v (.ptr 1 2),.v (.i x8.hi),.v (.b (x10.2.1 !=x8.hi)),.v (.b (x10.2.1 !=x8.hi))] ?_;refine zz h (fun hc24 h=> ?_) (fun hc24 h=> ?_);refine zai hc24 ?_;refine w_r [.p,.p,.p,.p,.p] ?_;refine w_r [.v (.b true),.m _,.p,.p,.v (.b true)] ?_;refine zbd rfl ?_;refine zbb [.v (.b false)] ?_;replace h:=zi h hr2;refine zg h (fun h=> ?_);replace h:=zi h hr1;exact zal h;refine zai hc24 ?_;refine w_r [.m _,.v (.ptr 1 0),.v (.s x8.s)] ?_;refine zao rfl rfl ?_;refine w_o (a:= .i (length x8.s:Int)) (h:=zaz (zdk rfl rfl rfl)) ?_;refine w_r [.v (.b (x10.2.2.1 !=(length x8.s:Int))),.v (.b (x10.2.2.1 !=(length x8.s:Int)))] ?_;refine zz h (fun hc25 h=> ?_) (fun hc25 h=> ?_);refine zai hc25 ?_;refine w_r [.p,.p,.v (.b true)] ?_;refine zbd rfl ?_;refine zbb [.v (.b false)] ?_;replace h:=zi h hr2;refine zg h (fun h=> ?_);replace h:=zi h hr1;exact zal h;refine zai hc25 ?_;refine w_r [.m _,.v (.b (x10.2.2.2 !=0)),.v (.b (x10.2.2.2 !=0))] ?_;refine zbn h (fun hc26 h=> ?_) (fun hc26 h=> ?_);refine zbb [.v (.b false)] ?_;replace h:=zi h hr2;refine zg h (fun h=> ?_);replace h:=zi h hr1;exact zal h;refine zj ?_;refine zbb [.v (.A (x14:Tr))] ?_;refine qol (.A ((Rg.mk false false x14):Rg)) rfl rfl rfl rfl (show zcw (.A ((Rg.mk false false x14):Rg))=_ from congrArg AV.agg (zcy _ (Enc.clo ((Rg.mk false false x14):Rg)))) (by dsimp only[zah,List.set]) ?_;obtain⟨x15,hx15,h⟩:=zr h;refine zch (zyk (Rg.mk false false x14) x15 hx15) ?_;refine zar ?_;refine zbb [.m _,.v (.b (x15 !=0))] ?_;refine zbn h (fun hc27 h=> ?_) (fun hc27 h=> ?_);refine zj ?_;refine zbb [.m _,.m _,.v (.b (x9.2.2 !=x15))] ?_;refine zz h (fun hc28 h=> ?_) (fun hc28 h=> ?_);refine zai hc28 ?_;refine w_r [.p,.p,.p,.p,.p] ?_;refine w_r [.p,.p,.p,.v (.b true)] ?_;refine zbd rfl ?_;refine zbb [.v (.b false)] ?_;replace h:=zi h hr2;refine zg h (fun h=> ?_);replace h:=zi h hr1;exact zal h;refine zai hc28 ?_;refine w_r [.m _,.m _] ?_;refine zao rfl rfl ?_;refine w_o (a:= .i (length ((([40,63,58]:List UInt8)++x3)++([41]:List UInt8)):Int)) (h:=zaz (zdk rfl rfl rfl)) ?_;refine w_r [.v (.ptr 1 0),.v (.s x8.s)] ?_;refine zao rfl rfl ?_;refine w_o (a:= .i (length x8.s:Int)) (h:=zaz (zdk rfl rfl rfl)) ?_;refine zao rfl rfl ?_;obtain⟨g21,h⟩:=ze h;refine zgu g21 ?_;refine w_r [.v (.b (x9.2.1 !=((length ((([40,63,58]:List UInt8)++x3)++([41]:List UInt8)):Int)+(length x8.s:Int)))),.v (.b (x9.2.1 !=((length ((([40,63,58]:List UInt8)++x3)++([41]:List UInt8)):Int)+(length x8.s:Int))))] ?_;refine zbn h (fun hc29 h=> ?_) (fun hc29 h=> ?_);refine zbb [.v (.b false)] ?_;replace h:=zi h hr2;refine zg h (fun h=> ?_);replace h:=zi h hr1;exact zal h;refine zc (o:=or2) () h ?_;exact zce (bl 204 12855504354071922204335696738729300820328739677714171312480191) 1 (by kernel_rfl) (le_of_ble_eq_true rfl) (zbg (zy (zn _ _ (Enc.clo _)) rfl)) (by dsimp only[zap,zbi,foldl,List.set,bz,bzc,Nat.reduceMod,Nat.reduceDiv,Nat.reduceBEq,Nat.reduceAdd];exact(za rfl (za rfl (za rfl (za rfl (za rfl (za rfl (za rfl (za (by decide) (za rfl (za rfl (za rfl (za rfl (za rfl (za rfl (za rfl (za rfl (za rfl (za rfl (za rfl (za rfl (za rfl (za rfl (za rfl (za rfl (za rfl (za rfl (za rfl (za rfl (za rfl (za rfl (za rfl (za rfl (za rfl (za rfl (za rfl (za rfl (za rfl (za rfl (za rfl (za rfl (za rfl (za rfl (za rfl (za rfl (za rfl (za rfl (za rfl (za rfl (za rfl (za rfl (za rfl (za rfl (za rfl (za rfl (za rfl (za rfl (za rfl (za rfl (za rfl (za rfl (za rfl (za rfl (za rfl (za rfl (za rfl (za rfl (za rfl (za rfl (za rfl (za rfl (za rfl (za rfl (za rfl (za rfl (za (zbc (Enc.cloL _)) (by kernel_rfl))))))))))))))))))))))))))))))))))))))))))))))))))))))))))))))))))))))))))))) (by kernel_rfl);refine zbb [.m _,.v (.b (x9.2.2 !=0))] ?_;refine zz h (fun hc30 h=> ?_) (fun hc30 h=> ?_);refine zai hc30 ?_;refine w_r [.p,.p,.p,.p,.p] ?_;refine w_r [.v (.b true)] ?_;refine zbd rfl ?_;refine zbb [.v (.b false)] ?_;replace h:=zi h hr2;refine zg h (fun h=> ?_);replace h:=zi h hr1;exact zal h;refine zai hc30 ?_;refine w_r [.v (.ptr 2 2),.v (.A (x9.1.t:Tr)),.v (.A (x14:Tr))] ?_;refine zao rfl rfl ?_;obtain⟨x16,hx16,h⟩:=zr h;refine zch (zyc x9.1.t x14 x16 hx16) ?_;refine w_r [.v (.b (!x16)),.v (.b (!x16))] ?_;refine zbn h (fun hc31 h=> ?_) (fun hc31 h=> ?_);refine zbb [.v (.b false)] ?_;replace h:=zi h hr2;refine zg h (fun h=> ?_);replace h:=zi h hr1;exact zal h;refine zc (o:=or2) () h ?_;exact zce (bl 204 12855504354071922204335696738729300820328739677714171312480191) 1 (by kernel_rfl) (le_of_ble_eq_true rfl) (zbg (zy (zn _ _ (Enc.clo _)) rfl)) (by dsimp only[zap,zbi,foldl,List.set,bz,bzc,Nat.reduceMod,Nat.reduceDiv,Nat.reduceBEq,Nat.reduceAdd];exact(za rfl (za rfl (za rfl (za rfl (za rfl (za rfl (za rfl (za (by decide) (za rfl (za rfl (za rfl (za rfl (za rfl (za rfl (za rfl (za rfl (za rfl (za rfl (za rfl (za rfl (za rfl (za rfl (za rfl (za rfl (za rfl (za rfl (za rfl (za rfl (za rfl (za rfl (za rfl (za rfl (za rfl (za rfl (za rfl (za rfl (za rfl (za rfl (za rfl (za rfl (za rfl (za rfl (za rfl (za rfl (za rfl (za rfl (za rfl (za rfl (za rfl (za rfl (za rfl (za rfl (za rfl (za rfl (za rfl (za rfl (za rfl (za rfl (za rfl (za rfl (za rfl (za rfl (za rfl (za rfl (za rfl (za rfl (za rfl (za rfl (za rfl (za rfl (za rfl (za rfl (za rfl (za rfl (za (zbc (Enc.cloL _)) (by kernel_rfl))))))))))))))))))))))))))))))))))))))))))))))))))))))))))))))))))))))))))))) (by kernel_rfl);refine zai hc15 ?_;refine w_r [.p,.p,.p,.p,.p] ?_;refine w_r [.v (.b false),.v (.b false),.v (.b false),.m _] ?_;refine zj ?_;refine zbb [.m _,.v (.b true)] ?_;refine zbd rfl ?_;refine zj ?_;refine zbb [.m _,.v (.b (x9.2.2 !=93))] ?_;refine zz h (fun hc32 h=> ?_) (fun hc32 h=> ?_);refine zai hc32 ?_;refine w_r [.p,.p,.p,.p,.v (.b true)] ?_;refine w_r [.m _,.p,.p,.v (.b true),.m _] ?_;refine w_r [.p,.p,.v (.b true),.m _,.p] ?_;refine w_r [.p,.v (.b true),.m _,.p,.p] ?_;refine w_r [.v (.b true)] ?_;refine zbd rfl ?_;refine zbb [.v (.b false)] ?_;replace h:=zi h hr2;refine zg h (fun h=> ?_);replace h:=zi h hr1;exact zal h;refine zai hc32 ?_;refine w_r [.m _,.m _] ?_;refine zao rfl rfl ?_;refine w_o (a:= .i (length ((([40,63,58]:List UInt8)++x3)++([41]:List UInt8)):Int)) (h:=zaz (zdk rfl rfl rfl)) ?_;refine w_r [.v (.b (x9.2.1 !=(length ((([40,63,58]:List UInt8)++x3)++([41]:List UInt8)):Int))),.v (.b (x9.2.1 !=(length ((([40,63,58]:List UInt8)++x3)++([41]:List UInt8)):Int)))] ?_;refine zz h (fun hc33 h=> ?_) (fun hc33 h=> ?_);refine zai hc33 ?_;refine w_r [.p,.p,.v (.b true),.m _,.p] ?_;refine w_r [.p,.v (.b true),.m _,.p,.p] ?_;refine w_r [.v (.b true),.m _,.p,.p,.v (.b true)] ?_;refine zbd rfl ?_;refine zbb [.v (.b false)] ?_;replace h:=zi h hr2;refine zg h (fun h=> ?_);replace h:=zi h hr1;exact zal h;refine zai hc33 ?_;refine w_r [.m _,.v (.b (x10.2.2.2 !=93)),.v (.b (x10.2.2.2 !=93))] ?_;refine zz h (fun hc34 h=> ?_) (fun hc34 h=> ?_);refine zai hc34 ?_;refine w_r [.p,.p,.v (.b true),.m _,.p] ?_;refine w_r [.p,.v (.b true),.m _,.p,.p] ?_;refine w_r [.v (.b true)] ?_;refine zbd rfl ?_;refine zbb [.v (.b false)] ?_;replace h:=zi h hr2;refine zg h (fun h=> ?_);replace h:=zi h hr1;exact zal h;refine zai hc34 ?_;refine w_r [.m _,.v (.b (x10.1 !=0)),.v (.b (x10.1 !=0))] ?_;refine zz h (fun hc35 h=> ?_) (fun hc35 h=> ?_);refine zai hc35 ?_;refine w_r [.p,.p,.v (.b true),.m _,.p] ?_;refine w_r [.p,.v (.b true)] ?_;refine zbd rfl ?_;refine zbb [.v (.b false)] ?_;replace h:=zi h hr2;refine zg h (fun h=> ?_);replace h:=zi h hr1;exact zal h;refine zai hc35 ?_;refine w_r [.m _,.v (.b (x10.2.1 !=0)),.v (.b (x10.2.1 !=0))] ?_;refine zz h (fun hc36 h=> ?_) (fun hc36 h=> ?_);refine zai hc36 ?_;refine w_r [.p,.p,.v (.b true)] ?_;refine zbd rfl ?_;refine zbb [.v (.b false)] ?_;replace h:=zi h hr2;refine zg h (fun h=> ?_);replace h:=zi h hr1;exact zal h;refine zai hc36 ?_;refine w_r [.m _,.v (.b (x10.2.2.1 !=0)),.v (.b (x10.2.2.1 !=0))] ?_;refine zbn h (fun hc37 h=> ?_) (fun hc37 h=> ?_);refine zbb [.v (.b false)] ?_;replace h:=zi h hr2;refine zg h (fun h=> ?_);replace h:=zi h hr1;exact zal h;refine zc (o:=or2) () h ?_;exact zce (bl 204 12855504354071922204335696738729300820328739677714171312480191) 1 (by kernel_rfl) (le_of_ble_eq_true rfl) (zbg (zy (zn _ _ (Enc.clo _)) rfl)) (by dsimp only[zap,zbi,foldl,List.set,bz,bzc,Nat.reduceMod,Nat.reduceDiv,Nat.reduceBEq,Nat.reduceAdd];exact(za rfl (za rfl (za rfl (za rfl (za rfl (za rfl (za rfl (za (by decide) (za rfl (za rfl (za rfl (za rfl (za rfl (za rfl (za rfl (za rfl (za rfl (za rfl (za rfl (za rfl (za rfl (za rfl (za rfl (za rfl (za rfl (za rfl (za rfl (za rfl (za rfl (za rfl (za rfl (za rfl (za rfl (za rfl (za rfl (za rfl (za rfl (za rfl (za rfl (za rfl (za rfl (za rfl (za rfl (za rfl (za rfl (za rfl (za rfl (za rfl (za rfl (za rfl (za rfl (za rfl (za rfl (za rfl (za rfl (za rfl (za rfl (za rfl (za rfl (za rfl (za rfl (za rfl (za rfl (za rfl (za rfl (za rfl (za rfl (za rfl (za rfl (za rfl (za rfl (za rfl (za rfl (za rfl (za (zbc (Enc.cloL _)) (by kernel_rfl))))))))))))))))))))))))))))))))))))))))))))))))))))))))))))))))))))))))))))) (by kernel_rfl);refine zai hc14 ?_;refine w_r [.p,.p,.p,.v (.b false),.m _] ?_;refine w_r [.p,.p,.p,.p,.p] ?_;refine w_r [.v (.b false),.v (.b false),.v (.b false),.m _] ?_;refine zj ?_;refine zbb [.m _,.v (.b true)] ?_;refine zbd rfl ?_;refine zj ?_;refine zbb [.m _,.v (.b (x9.2.2 !=93))] ?_;refine zz h (fun hc38 h=> ?_) (fun hc38 h=> ?_);refine zai hc38 ?_;refine w_r [.p,.p,.p,.p,.v (.b true)] ?_;refine w_r [.m _,.p,.p,.v (.b true),.m _] ?_;refine w_r [.p,.p,.v (.b true),.m _,.p] ?_;refine w_r [.p,.v (.b true),.m _,.p,.p] ?_;refine w_r [.v (.b true)] ?_;refine zbd rfl ?_;refine zbb [.v (.b false)] ?_;replace h:=zi h hr2;refine zg h (fun h=> ?_);replace h:=zi h hr1;exact zal h;refine zai hc38 ?_;refine w_r [.m _,.m _] ?_;refine zao rfl rfl ?_;refine w_o (a:= .i (length ((([40,63,58]:List UInt8)++x3)++([41]:List UInt8)):Int)) (h:=zaz (zdk rfl rfl rfl)) ?_;refine w_r [.v (.b (x9.2.1 !=(length ((([40,63,58]:List UInt8)++x3)++([41]:List UInt8)):Int))),.v (.b (x9.2.1 !=(length ((([40,63,58]:List UInt8)++x3)++([41]:List UInt8)):Int)))] ?_;refine zz h (fun hc39 h=> ?_) (fun hc39 h=> ?_);refine zai hc39 ?_;refine w_r [.p,.p,.v (.b true),.m _,.p] ?_;refine w_r [.p,.v (.b true),.m _,.p,.p] ?_;refine w_r [.v (.b true),.m _,.p,.p,.v (.b true)] ?_;refine zbd rfl ?_;refine zbb [.v (.b false)] ?_;replace h:=zi h hr2;refine zg h (fun h=> ?_);replace h:=zi h hr1;exact zal h;refine zai hc39 ?_;refine w_r [.m _,.v (.b (x10.2.2.2 !=93)),.v (.b (x10.2.2.2 !=93))] ?_;refine zz h (fun hc40 h=> ?_) (fun hc40 h=> ?_);refine zai hc40 ?_;refine w_r [.p,.p,.v (.b true),.m _,.p] ?_;refine w_r [.p,.v (.b true),.m _,.p,.p] ?_;refine w_r [.v (.b true)] ?_;refine zbd rfl ?_;refine zbb [.v (.b false)] ?_;replace h:=zi h hr2;refine zg h (fun h=> ?_);replace h:=zi h hr1;exact zal h;refine zai hc40 ?_;refine w_r [.m _,.v (.b (x10.1 !=0)),.v (.b (x10.1 !=0))] ?_;refine zz h (fun hc41 h=> ?_) (fun hc41 h=> ?_);refine zai hc41 ?_;refine w_r [.p,.p,.v (.b true),.m _,.p] ?_;refine w_r [.p,.v (.b true)] ?_;refine zbd rfl ?_;refine zbb [.v (.b false)] ?_;replace h:=zi h hr2;refine zg h (fun h=> ?_);replace h:=zi h hr1;exact zal h;refine zai hc41 ?_;refine w_r [.m _,.v (.b (x10.2.1 !=0)),.v (.b (x10.2.1 !=0))] ?_;refine zz h (fun hc42 h=> ?_) (fun hc42 h=> ?_);refine zai hc42 ?_;refine w_r [.p,.p,.v (.b true)] ?_;refine zbd rfl ?_;refine zbb [.v (.b false)] ?_;replace h:=zi h hr2;refine zg h (fun h=> ?_);replace h:=zi h hr1;exact zal h;refine zai hc42 ?_;refine w_r [.m _,.v (.b (x10.2.2.1 !=0)),.v (.b (x10.2.2.1 !=0))] ?_;refine zbn h (fun hc43 h=> ?_) (fun hc43 h=> ?_);refine zbb [.v (.b false)] ?_;replace h:=zi h hr2;refine zg h (fun h=> ?_);replace h:=zi h hr1;exact zal h;refine zc (o:=or2) () h ?_;exact zce (bl 204 12855504354071922204335696738729300820328739677714171312480191) 1 (by kernel_rfl) (le_of_ble_eq_true rfl) (zbg (zy (zn _ _ (Enc.clo _)) rfl)) (by dsimp only[zap,zbi,foldl,List.set,bz,bzc,Nat.reduceMod,Nat.reduceDiv,Nat.reduceBEq,Nat.reduceAdd];exact(za rfl (za rfl (za rfl (za rfl (za rfl (za rfl (za rfl (za (by decide) (za rfl (za rfl (za rfl (za rfl (za rfl (za rfl (za rfl (za rfl (za rfl (za rfl (za rfl (za rfl (za rfl (za rfl (za rfl (za rfl (za rfl (za rfl (za rfl (za rfl (za rfl (za rfl (za rfl (za rfl (za rfl (za rfl (za rfl (za rfl (za rfl (za rfl (za rfl (za rfl (za rfl (za rfl (za rfl (za rfl (za rfl (za rfl (za rfl (za rfl (za rfl (za rfl (za rfl (za rfl (za rfl (za rfl (za rfl (za rfl (za rfl (za rfl (za rfl (za rfl (za rfl (za rfl (za rfl (za rfl (za rfl (za rfl (za rfl (za rfl (za rfl (za rfl (za rfl (za rfl (za rfl (za rfl (za (zbc (Enc.cloL _)) (by kernel_rfl))))))))))))))))))))))))))))))))))))))))))))))))))))))))))))))))))))))))))))) (by kernel_rfl);refine zai hc3 ?_;iterate 4 refine w_r [.p,.p,.p,.p,.p] ?_
 refine w_r [.v (.b false),.m _] ?_;refine zj ?_;refine zbb [.m _,.v (.b true)] ?_;refine zbd rfl ?_;refine zj ?_;refine zbb [.m _,.v (.b (x9.2.2 !=93))] ?_;refine zz h (fun hc44 h=> ?_) (fun hc44 h=> ?_);refine zai hc44 ?_;refine w_r [.p,.p,.p,.p,.v (.b true)] ?_;refine w_r [.m _,.p,.p,.v (.b true),.m _] ?_;refine w_r [.p,.p,.v (.b true),.m _,.p] ?_;refine w_r [.p,.v (.b true),.m _,.p,.p] ?_;refine w_r [.v (.b true)] ?_;refine zbd rfl ?_;refine zbb [.v (.b false)] ?_;replace h:=zi h hr2;refine zg h (fun h=> ?_);replace h:=zi h hr1;exact zal h;refine zai hc44 ?_;refine w_r [.m _,.m _] ?_;refine zao rfl rfl ?_;refine w_o (a:= .i (length ((([40,63,58]:List UInt8)++x3)++([41]:List UInt8)):Int)) (h:=zaz (zdk rfl rfl rfl)) ?_;refine w_r [.v (.b (x9.2.1 !=(length ((([40,63,58]:List UInt8)++x3)++([41]:List UInt8)):Int))),.v (.b (x9.2.1 !=(length ((([40,63,58]:List UInt8)++x3)++([41]:List UInt8)):Int)))] ?_;refine zz h (fun hc45 h=> ?_) (fun hc45 h=> ?_);refine zai hc45 ?_;refine w_r [.p,.p,.v (.b true),.m _,.p] ?_;refine w_r [.p,.v (.b true),.m _,.p,.p] ?_;refine w_r [.v (.b true),.m _,.p,.p,.v (.b true)] ?_;refine zbd rfl ?_;refine zbb [.v (.b false)] ?_;replace h:=zi h hr2;refine zg h (fun h=> ?_);replace h:=zi h hr1;exact zal h;refine zai hc45 ?_;refine w_r [.m _,.v (.b (x10.2.2.2 !=93)),.v (.b (x10.2.2.2 !=93))] ?_;refine zz h (fun hc46 h=> ?_) (fun hc46 h=> ?_);refine zai hc46 ?_;refine w_r [.p,.p,.v (.b true),.m _,.p] ?_;refine w_r [.p,.v (.b true),.m _,.p,.p] ?_;refine w_r [.v (.b true)] ?_;refine zbd rfl ?_;refine zbb [.v (.b false)] ?_;replace h:=zi h hr2;refine zg h (fun h=> ?_);replace h:=zi h hr1;exact zal h;refine zai hc46 ?_;refine w_r [.m _,.v (.b (x10.1 !=0)),.v (.b (x10.1 !=0))] ?_;refine zz h (fun hc47 h=> ?_) (fun hc47 h=> ?_);refine zai hc47 ?_;refine w_r [.p,.p,.v (.b true),.m _,.p] ?_;refine w_r [.p,.v (.b true)] ?_;refine zbd rfl ?_;refine zbb [.v (.b false)] ?_;replace h:=zi h hr2;refine zg h (fun h=> ?_);replace h:=zi h hr1;exact zal h;refine zai hc47 ?_;refine w_r [.m _,.v (.b (x10.2.1 !=0)),.v (.b (x10.2.1 !=0))] ?_;refine zz h (fun hc48 h=> ?_) (fun hc48 h=> ?_);refine zai hc48 ?_;refine w_r [.p,.p,.v (.b true)] ?_;refine zbd rfl ?_;refine zbb [.v (.b false)] ?_;replace h:=zi h hr2;refine zg h (fun h=> ?_);replace h:=zi h hr1;exact zal h;refine zai hc48 ?_;refine w_r [.m _,.v (.b (x10.2.2.1 !=0)),.v (.b (x10.2.2.1 !=0))] ?_;refine zbn h (fun hc49 h=> ?_) (fun hc49 h=> ?_);refine zbb [.v (.b false)] ?_;replace h:=zi h hr2;refine zg h (fun h=> ?_);replace h:=zi h hr1;exact zal h;refine zc (o:=or2) () h ?_;exact zce (bl 204 12855504354071922204335696738729300820328739677714171312480191) 1 (by kernel_rfl) (le_of_ble_eq_true rfl) (zbg (zy (zn _ _ (Enc.clo _)) rfl)) (by dsimp only[zap,zbi,foldl,List.set,bz,bzc,Nat.reduceMod,Nat.reduceDiv,Nat.reduceBEq,Nat.reduceAdd];exact(za rfl (za rfl (za rfl (za rfl (za rfl (za rfl (za rfl (za (by decide) (za rfl (za rfl (za rfl (za rfl (za rfl (za rfl (za rfl (za rfl (za rfl (za rfl (za rfl (za rfl (za rfl (za rfl (za rfl (za rfl (za rfl (za rfl (za rfl (za rfl (za rfl (za rfl (za rfl (za rfl (za rfl (za rfl (za rfl (za rfl (za rfl (za rfl (za rfl (za rfl (za rfl (za rfl (za rfl (za rfl (za rfl (za rfl (za rfl (za rfl (za rfl (za rfl (za rfl (za rfl (za rfl (za rfl (za rfl (za rfl (za rfl (za rfl (za rfl (za rfl (za rfl (za rfl (za rfl (za rfl (za rfl (za rfl (za rfl (za rfl (za rfl (za rfl (za rfl (za rfl (za rfl (za rfl (za (zbc (Enc.cloL _)) (by kernel_rfl))))))))))))))))))))))))))))))))))))))))))))))))))))))))))))))))))))))))))))) (by kernel_rfl);intro j2 h;refine zdi ?_;refine zb (k0:=0) (id:=27) ?_;obtain⟨g22,h⟩:=ze h;refine zgu g22 ?_;refine zar ?_;refine zbf (p:=p1) ((s1+1)) h ?_;exact zbe (bl 204 132226261520350065985664);refine zg h (fun h=> ?_);refine zc (o:=or1) () h ?_;exact zbe (bl 204 0);intro j1 h;refine zdi ?_;refine zbb [.v (.b true)] ?_;exact zal h
variable {n:Nat} {c:Int} {P:Nat->List Int->Rd->Prop} {r':Rd}
def qfi (r:Rd):Prop:=r.e≠0 \/r.e=0/\ r.a=(r.s.length:Int)/\ r.s.length<2^39
theorem zwi {r:Rd} (h:qfi r):zee r=some (0,r):=by
 rcases h with h|⟨h,h2,_⟩
 ·unfold zee;rw[show(r.e !=0)=true by simpa using h,cond_true]
 ·obtain⟨s,a,e,q⟩:=r;simp only at h h2;subst h;exact z9l s a (by omega) q
theorem qlw (k e:Int)(r:Rd)(h:r.e=0):zjv k e r=some (Rd.mk r.s k e r.q):=by
 unfold zjv;rw[show(r.e==0)=true by simpa using h,cond_true]
def HdP (b:List UInt8):Prop:= ∃c t,b=c::t/\ c≠0/\ c≠124/\ c≠41
theorem HdP.key {b:List UInt8} (h:HdP b):(hd0 b !=0)=true/\ (hd0 b !=124)=true/\ (hd0 b !=41)=true:=by
 obtain⟨c,t,rfl,h0,h1,h2⟩:=h;have aux: ∀(d:UInt8),c≠d->((((c.toNat:Nat):Int) !=((d.toNat:Nat):Int))=true):=fun d hd=>by
  rw[bne_iff_ne];intro e;exact hd (UInt8.toNat_inj.1 (by omega))
 exact⟨aux 0 h0,aux 124 h1,aux 41 h2⟩
structure PcEnd (n:Nat)(b:List UInt8)(P:Nat->List Int->Rd->Prop):Prop where
 hd:HdP b
 run: ∀(a:List UInt8) (q:Stk),(a++b).length<2^39->(zcv q).length+n<2^39-> ∃y r1 x r2,zhd 1100 (zfm (z0v 1100 n)) (Rd.mk (a++b) ((a.length:Nat):Int) 0 q)=some (y,r1)/\ zdg 1100 y r1=some (x,r2)/\ qfi r2/\ P a.length (zcv q) r2/\ (pre x).length<=10000
structure StepB (n:Nat)(u b:List UInt8):Prop where
 hd:HdP u
 run: ∀(a:List UInt8) (q:Stk),(a++(u++b)).length<2^39->(zcv q).length+n<2^39-> ∃y r1 x q',zhd 1100 (zfm (z0v 1100 n)) (Rd.mk (a++(u++b)) ((a.length:Nat):Int) 0 q)=some (y,r1)/\ zdg 1100 y r1=some (x,Rd.mk (a++(u++b)) (((a++u).length:Nat):Int) 0 q')/\ zcv q'=zcv q/\ (pre x).length<=10000
theorem AtP.step {u b:List UInt8} {x:Tr} (h:AtP n u x)(hb:z3c b):StepB n u b where
 hd:=by
  obtain⟨c,t,rfl,rfl|rfl⟩:=h.hd<;>exact⟨_,_,rfl,by decide,by decide,by decide⟩
 run a q hl hq:=by
  rw[<-append_assoc] at hl⊢;obtain⟨y,r1,q',h1,h2,h3⟩:=h.run a b q hl hq hb;exact⟨y,r1,x,q',h1,h2,h3,h.len⟩
def EndsB (n:Nat)(b:List UInt8)(P:Nat->List Int->Rd->Prop):Prop:=
 ∀(a:List UInt8) (q:Stk) (acc:List Tr) (fuel:Nat),(a++b).length<2^39->(zcv q).length+n<2^39->b.length<fuel-> ∃rows r,zax (zsa n) fuel (hd0 b,Rd.mk (a++b) ((a.length:Nat):Int) 0 q,acc)=some (acc++rows,r)/\ P a.length (zcv q) r/\ rows.length<=b.length/\ ∀x∈rows,(pre x).length<=10000
theorem pc_one {c':Int} {r r1 r2:Rd} {y x:Tr} {acc:List Tr} (h0:(c !=0)=true)(h1:(c !=124)=true)(h2:(c !=41)=true)(ha:zhd 1100 (zfm (z0v 1100 n)) r=some (y,r1))(hc:zdg 1100 y r1=some (x,r2))(hn:zee r2=some (c',r2)):
 zsa n (c,r,acc)=some (.inl (c',r2,acc++[x])):=by
 unfold zsa;simp only;rw[h0,cond_true,h1,cond_true,h2,cond_true];exact zaa _ ha (zaa _ hc (zaa _ hn rfl))
theorem PcEnd.ends {b:List UInt8} (h:PcEnd n b P):EndsB n b P:=by
 intro a q acc fuel hl hq hf;obtain⟨y,r1,x,r2,g1,g2,g3,g4,g5⟩:=h.run a q hl hq;obtain⟨k0,k1,k2⟩:=h.hd.key;have hb:1<=b.length:=by obtain⟨c,t,rfl,_⟩:=h.hd;simp
 refine⟨[x],r2,?_,g4,by simpa using hb,fun z hz=>by rw[mem_singleton] at hz;subst hz;exact g5⟩;obtain⟨f,rfl⟩: ∃f,fuel=f+1+1:=⟨fuel-2,by omega⟩;rw[zax,pc_one k0 k1 k2 g1 g2 (zwi g3)];exact zns f rfl
theorem EndsB.mono {b:List UInt8} {P':Nat->List Int->Rd->Prop} (h:EndsB n b P)(hp: ∀m l r,P m l r->P' m l r):EndsB n b P':=fun a q acc fuel hl hq hf=>by
 obtain⟨rows,r,h1,h2,h3⟩:=h a q acc fuel hl hq hf;exact⟨rows,r,h1,hp _ _ _ h2,h3⟩
theorem EndsB.pcs {b:List UInt8} (h:EndsB n b P)(hb:b.length<1100)(a:List UInt8)(q:Stk)(hl:(a++b).length<2^39)(hq:(zcv q).length+n<2^39):
 ∃rows r,zyh 1100 (zhd 1100 (zfm (z0v 1100 n))) (Rd.mk (a++b) ((a.length:Nat):Int) 0 q)=some (rows,r)/\ P a.length (zcv q) r/\ rows.length<1100/\ ∀x∈rows,(pre x).length<=10000:=by
 obtain⟨rows,r,h1,h2,h3,h4⟩:=h a q [] 1100 hl hq hb;refine⟨rows,r,?_,h2,by omega,h4⟩;unfold zyh;refine zaa _ (zno a b q) ?_;rw[nil_append] at h1;exact h1
theorem al_body {r:Rd} {acc rows:List Tr} (hp:zyh 1100 (zhd 1100 (zfm (z0v 1100 n))) r=some (rows,r'))(hr:rows.length<1100)(hs: ∀x∈rows,(pre x).length<=10000)(hacc:acc.length<2000)(hn:zee r'=some (c,r'))(ha:(c !=124)=true \/(c !=124)=false/\ 0<=r'.a/\ r'.a<2^40):
 zsb n (r,acc)=some (bif c !=124 then .inr (.inl (r',acc++[zny rows])) else .inl (Rd.mk r'.s (r'.a+1) r'.e r'.q,acc++[zny rows])):=by
 have hpl:=zkd rows hs;unfold zsb;refine zak (r',rows) ?_ ?_
 ·refine zaa _ rfl ?_;refine zaa _ hp ?_;refine zak ([]++rows) ?_ rfl;exact zql rows [] (by simp only[length_nil];omega)
 ·refine zf (by simp only;omega) (zm fun x3 hx3=> ?_);simp only at hx3;subst hx3;cases acc with
  | nil=>
   rw[show isEmpty (r,([]:List Tr)).2=true from rfl,cond_true];refine zf (by simp) ?_;refine zaa _ hn ?_;simp only;rcases ha with ha|⟨ha,h1,h2⟩
   ·rw[ha];rfl
   ·rw[ha];simp only[cond_false];exact zf (by omega) rfl
  | cons t0 acc=>
   rw[show isEmpty (r,t0::acc).2=false from rfl,cond_false];refine zf ⟨rfl,by simp,by simp,by simp only[length_cons,length_nil] at hacc⊢;omega⟩ ?_;refine zaa _ hn ?_;simp only;rcases ha with ha|⟨ha,h1,h2⟩
   ·rw[ha];rfl
   ·rw[ha];simp only[cond_false];exact zf (by omega) rfl
def AltE (n:Nat)(b:List UInt8)(P:Nat->List Int->Rd->Prop):Prop:=
 ∀(a:List UInt8) (q:Stk),(a++b).length<2^39->(zcv q).length+n<2^39-> ∃t r,z0v 1100 (n+1) (Rd.mk (a++b) ((a.length:Nat):Int) 0 q)=some (t,r)/\ P a.length (zcv q) r/\ qfi r/\ (pre t).length<=10000
theorem alt_end {r:Rd} {acc:List Tr} (h:zax (zsb n) 1100 (r,[])=some (.inl (r',acc)))(ha:(zbj acc).length<=2^40)(h0:acc≠[]): ∃t,z0v 1100 (n+1) r=some (t,r')/\ (pre t).length<=10000:=by
 refine⟨orT acc,?_,z4d _⟩;show zvr 1100 _ r=_;unfold zvr;refine zak (r',acc) h ?_;cases acc with
 |nil=>exact absurd rfl h0
 | cons x acc=>
  rw[show isEmpty (r',x::acc).2=false from rfl,cond_false];exact zf ha (zm fun z hz=>by rw[<-hz])
theorem EndsB.alt {b:List UInt8} (h:EndsB n b P)(hs: ∀m l r,P m l r->qfi r)(hb:b.length<1100):AltE n b P:=by
 intro a q hl hq;obtain⟨rows,r,h1,h2,h3,h4⟩:=h.pcs hb a q hl hq;have hst:=hs _ _ _ h2;have hbd:=al_body (acc:=[]) h1 h3 h4 (by simp) (zwi hst) (.inl rfl);obtain⟨t,g1,g2⟩:=alt_end (zns 1099 hbd) (by have:=zkd [zny rows] (fun x hx=>by rw[mem_singleton] at hx;subst hx;exact qih _);simp only[nil_append,length_cons,length_nil] at this⊢;omega) (by simp);exact⟨t,r,g1,h2,hst,g2⟩
theorem ne_int {c d:UInt8} (h:c≠d):((((c.toNat:Nat):Int))==((d.toNat:Nat):Int))=false:=by
 rw[beq_eq_false_iff_ne];intro e;exact h (UInt8.toNat_inj.1 (by omega))
def qpu (c:UInt8):Prop:=c≠40/\ c≠91/\ c≠46/\ c≠42/\ c≠43/\ c≠63/\ c≠123/\ c≠94/\ c≠36
def PE (k:Nat)(e:Int)(m:Nat)(_:List Int)(r:Rd):Prop:=r.e=e/\ e≠0/\ r.a=((m+k:Nat):Int)
theorem PE.stuck {k:Nat} {e:Int} {m:Nat} {l:List Int} {r:Rd} (h:PE k e m l r):qfi r:= .inl (by rw[h.1];exact h.2.1)
theorem z0f {y:Tr} {a b:List UInt8} {q:Stk} {lo hi:Int} {k:Nat} {e:Int} (he:e≠0)(h:zeq 1100 b=some (lo,hi,(k:Int),e))(hk:k<1000)(hl:(a++b).length<2^39):
 zdg 1100 y (Rd.mk (a++b) ((a.length:Nat):Int) 0 q)=some (zaw,Rd.mk (a++b) ((a.length:Nat)+(k:Nat):Int) e q):=by
 have hla:a.length<2^39:=by simp only[length_append] at hl;omega
 unfold zdg;rw[show((Rd.mk (a++b) ((a.length:Nat):Int) 0 q).e !=0)=false from rfl,cond_false];refine zf (by simp only[length_append];omega) (zm fun x1 hx1=> ?_);simp only at hx1;rw[zmi] at hx1;subst hx1;refine zaa _ h ?_;simp only;rw[show(e !=0)=true by simpa using he,cond_true];exact zf (by omega) (zaa _ (qlw _ e _ rfl) rfl)
theorem qjn (n:Nat)(s:List UInt8)(t:Tr)(r j:Rd)(hh: ∃u,s=40::u)(hla:zsr s)(hl:s.length<=1000)(hp:z0v 1100 n (Rd.mk s 0 0 none)=some (t,r))(he:j.e≠0)(ha:0<=j.a/\ j.a<=2000)
 (hj:(bif (r.e !=0) then(some (inl r)) else(bif (decide (r.a<(length s:Int))) then(chk (0<=r.a/\ r.a<(length s:Int)) (zba (ix s r.a) (fun x5=>(bif ((((x5).toNat:Nat):Int)==41) then(some (inl ((Rd.mk r.s r.a 91 r.q)))) else(some (inl ((Rd.mk r.s r.a 90 r.q)))))))) else(bif (decide ((length (zcv r.q):Int)>0)) then(chk (I64 ((length (zcv r.q):Int)-1)) (chk (0<=((length (zcv r.q):Int)-1)/\ ((length (zcv r.q):Int)-1)<(length (zcv r.q):Int)) (some (inl ((Rd.mk r.s (ix (zcv r.q) ((length (zcv r.q):Int)-1)) 91 r.q)))))) else(some (inl r)))):Option (Rd ⊕ (Rg×Int×Int)))=some (.inl j)):
 zwf 1100 n s=some (Rg.mk false false zaw,j.a,j.e):=by
 obtain⟨u,rfl⟩:=hh;have hpre:Lib.hasPrefix (40::u) ([94]:List UInt8)=false:=rfl;have htr:Lib.trimPrefix (40::u) ([94]:List UInt8)=40::u:=by unfold Lib.trimPrefix;rw[hpre];rfl
 unfold zwf z2o;rw[show decide ((length (40::u):Int)>1000)=false from decide_eq_false (by omega),cond_false];refine zm fun x1 hx1=> ?_;rw[htr,hpre] at hx1;subst hx1;simp only;refine zf (by omega) ?_;refine zaa _ (qgo _ hla (by omega)) ?_;refine zak (40::u) rfl ?_;refine zaa _ hp ?_;refine zak j hj ?_;rw[show(j.e !=0)=true by simpa using he,cond_true];refine zf (by omega) ?_;rw[Int.sub_self,Int.zero_add]
theorem qdi {n k:Nat} {s:List UInt8} {e:Int} (hA:AltE n s (PE k e))(hh: ∃u,s=40::u)(hla:zsr s)(hl:s.length<=1000)(hk:k<=2000)(hn:n<2^38):zwf 1100 (n+1) s=some (Rg.mk false false zaw,(k:Int),e):=by
 obtain⟨t,r,g1,⟨g2,g3,g4⟩,_,_⟩:=hA [] none (by simp only[nil_append];omega) (by show 0+n<2^39;omega);rw[nil_append] at g1;have e0:((([]:List UInt8).length:Nat):Int)=0:=rfl;rw[e0] at g1;have hre:r.e≠0:=by rw[g2];exact g3
 have:=qjn (n+1) s t r r hh hla hl g1 hre (by rw[g4];simp only[length_nil];omega) (by rw[show(r.e !=0)=true by simpa using hre,cond_true]);rw[this,g2,g4];simp
structure Ca where
 s:List UInt8
 a:Int
 e:Int
def qgg (r:Ca):List AV:=[.raw (.string (bs r.s)),.raw (.int .i64 r.a),.raw (.int .i64 r.e)]
instance:Enc Ca where
 inh:=⟨[],0,0⟩
 cells:=qgg
 cellsL l:=l.flatMap qgg
 sz:=3
 pos:=by decide
 nil:=rfl
 cons _ _:=rfl
 len r:=rfl
 clo r:=rfl
end Go.Ab
namespace Go.Ab
open Go Go.RowKit Go.Fwd Go.Proofs
end Go.Ab
namespace Go.Ab
open Go Go.RowKit Go.Fwd Go.Proofs
instance (c:UInt8):Decidable (qpu c):=by unfold qpu;infer_instance
theorem qlz {β ρ:Type} {body:β->Option (β ⊕ ρ)} {s s':β} {r:Option ρ} (n:Nat)(h:body s=some (.inl s'))(k:zax body n s'=r):zax body (n+1) s=r:=by rw[zax,h];exact k
theorem few_one (x:Tr)(hx:(pre x).length<2^40/\ SY x)(fuel:Nat):qgl (fuel+1+1) [x]=some (decide (((zdx x).length:Int)<900)):=by
 have h1:=hx.2.2;unfold qgl;refine zak (((zdx x).length:Int)) ?_ rfl;refine qlz _ (s':=(((zdx x).length:Int),1)) ?_ (zns _ rfl);dsimp only;rw[show decide ((0:Int)<(length [x]:Int))=true from rfl,cond_true];refine zf (by simp) (zm fun z hz=> ?_);have:z=x:=by rw[<-hz];rfl
 subst this;refine zf hx (zm fun z' hz=> ?_);subst hz;refine zf (by omega) (zf (by decide) ?_);rw[Int.zero_add];rfl
theorem PcEnd.mono {n:Nat} {b:List UInt8} {P P':Nat->List Int->Rd->Prop} (h:PcEnd n b P)(hp: ∀m l r,P m l r->P' m l r):PcEnd n b P' where
 hd:=h.hd
 run a q hl hq:=by
  obtain⟨y,r1,x,r2,g1,g2,g3,g4,g5⟩:=h.run a q hl hq;exact⟨y,r1,x,r2,g1,g2,g3,hp _ _ _ g4,g5⟩
def dgS (n:Nat):List UInt8:=[UInt8.ofNat (48+n/10),UInt8.ofNat (48+n%10)]
theorem dg_is {m:Nat} (h:m<10):isD (UInt8.ofNat (48+m))/\ (UInt8.ofNat (48+m)).toNat=48+m:=by
 have:(UInt8.ofNat (48+m)).toNat=48+m:=by simp[UInt8.toNat_ofNat'];omega
 exact⟨⟨by omega,by omega⟩,this⟩
theorem z9e (n:Nat)(hn:n<100)(b:List UInt8):zdu 1100 (dgS n++b)=some (((n:Nat):Int),2):=by
 obtain⟨d1,e1⟩:=dg_is (m:=n/10) (by omega);obtain⟨d2,e2⟩:=dg_is (m:=n%10) (by omega);have h:=qhd _ _ b d1 d2;rw[e1,e2] at h;rw[show dgS n++b=UInt8.ofNat (48+n/10)::UInt8.ofNat (48+n%10)::b from rfl,h];congr 2
 omega
def qdn (lo hi:Int)(m:Nat):Int×Int×Int×Int:=if hi=0 \/lo>16 \/hi>16 \/(hi≠ -1/\ hi<lo) then(0,0,0,93) else(lo,hi,(m:Int),0)
def qqg (s:List UInt8)(x2 j1:Int×Int):Option (Int×Int×Int×Int):=
 (bif (x2.2==0) then(some (0,0,j1.2,93)) else(bif (j1.2==(length s:Int)) then(some (0,0,j1.2,93)) else(chk (0<=j1.2/\ j1.2<(length s:Int)) (zba (ix s j1.2) (fun x6=>(bif ((((x6).toNat:Nat):Int) !=125) then(some (0,0,j1.2,93)) else(zcu (τ:=Unit) (bif (j1.1==0) then(some (inr (0,0,0,93))) else(bif (decide (x2.1>16)) then(some (inr (0,0,0,93))) else(bif (decide (j1.1>16)) then(some (inr (0,0,0,93))) else(bif (j1.1 !=(-1)) then(bif (decide (j1.1<x2.1)) then(some (inr (0,0,0,93))) else(some (inl ()))) else(some (inl ())))))) (fun j3=>(chk (I64 (j1.2+1)) (some (x2.1,j1.1,(j1.2+1),0)))))))))))
theorem qdt (a b:List UInt8)(lo hi n2:Int)(hn:n2≠0)(hl:(a++125::b).length<2^41):qqg (a++125::b) (lo,n2) (hi,((a.length:Nat):Int))=some (qdn lo hi (a.length+1)):=by
 have hal:a.length<(a++125::b).length:=by simp only[length_append,length_cons];omega
 unfold qqg qdn;dsimp only;rw[show(n2==0)=false from beq_eq_false_iff_ne.2 hn,cond_false,show(((a.length:Nat):Int)==(length (a++125::b):Int))=false from beq_eq_false_iff_ne.2 (by omega),cond_false];refine zf (by omega) (zm fun x hx=> ?_);rw[zvp] at hx;subst hx;rw[show((((125:UInt8).toNat:Nat):Int) !=125)=false from rfl,cond_false];by_cases h0:hi=0
 ·rw[if_pos (.inl h0),show(hi==0)=true by simpa using h0,cond_true];rfl
 rw[show(hi==0)=false from beq_eq_false_iff_ne.2 h0,cond_false];by_cases h1:lo>16
 ·rw[if_pos (.inr (.inl h1)),decide_eq_true h1,cond_true];rfl
 rw[decide_eq_false h1,cond_false];by_cases h2:hi>16
 ·rw[if_pos (.inr (.inr (.inl h2))),decide_eq_true h2,cond_true];rfl
 rw[decide_eq_false h2,cond_false];by_cases h3:hi= -1
 ·rw[if_neg (by omega),show(hi != -1)=false by rw[h3];rfl,cond_false];refine zak () rfl (zf (by omega) ?_);simp
 ·rw[show(hi != -1)=true by simpa using h3,cond_true];by_cases h4:hi<lo
  ·rw[if_pos (.inr (.inr (.inr ⟨h3,h4⟩))),decide_eq_true h4,cond_true];rfl
  ·rw[if_neg (by omega),decide_eq_false h4,cond_false];refine zak () rfl (zf (by omega) ?_);simp
theorem z9k (ds es b:List UInt8)(lo h0 hi:Int)(hds:ds≠[])(h1:zdu 1100 (ds++44::(es++125::b))=some (lo,(ds.length:Int)))(h2:zdu 1100 (es++125::b)=some (h0,(es.length:Int)))(hh:hi=if es=[] then-1 else h0)(hlen:(ds++es++b).length<2^40):
 zgn 1100 (123::(ds++44::(es++125::b)))=some (qdn lo hi (ds.length+es.length+3)):=by
 obtain⟨s,hs⟩: ∃s,s=(123:UInt8)::(ds++44::(es++125::b)):=⟨_,rfl⟩;rw[<-hs];have hsl:s.length=ds.length+es.length+b.length+3:=by rw[hs];simp only[length_append,length_cons];omega
 simp only[length_append] at hlen;have hdp:0<ds.length:=List.length_pos_iff.2 hds;have a1:(1+(ds.length:Int))=(((123::ds:List UInt8).length:Nat):Int):=by simp only[length_cons];omega
 have a2:(1+(ds.length:Int))+1=(((123::ds++[44]:List UInt8).length:Nat):Int):=by simp only[length_cons,length_append,length_nil];omega
 have i1:ix s (1+(ds.length:Int))=44:=by rw[a1,show s=(123::ds)++44::(es++125::b) by rw[hs];rfl,zvp]
 have a3:(1+(ds.length:Int))+1+(es.length:Int)=(((123::ds++[44]++es:List UInt8).length:Nat):Int):=by simp only[length_cons,length_append,length_nil];omega
 have hs3:s=(123::ds++[44]++es)++125::b:=by rw[hs];simp
 have ht:=qdt (123::ds++[44]++es) b lo hi (ds.length:Int) (by omega) (by rw[<-hs3];omega);rw[<-hs3, <-a3,show(123::ds++[44]++es:List UInt8).length+1=ds.length+es.length+3 by simp only[length_cons,length_append,length_nil];omega] at ht;unfold zgn;refine zf (by omega) (zm fun x1 hx1=> ?_);have e1:x1=ds++44::(es++125::b):=by rw[<-hx1,show(1:Int)=((1:Nat):Int) from rfl,zot,hs];rfl
 subst e1;refine zaa _ h1 ?_;dsimp only;refine zf (by omega) ?_;refine zak (hi,(1+(ds.length:Int))+1+(es.length:Int)) ?_ ht;rw[show decide ((ds.length:Int)>0)=true from decide_eq_true (by omega),cond_true,show decide ((1+(ds.length:Int))<(length s:Int))=true from decide_eq_true (by omega),cond_true];refine zf (by omega) (zm fun x3 hx3=> ?_);rw[i1] at hx3;subst hx3;rw[show((((44:UInt8).toNat:Nat):Int)==44)=true from rfl,cond_true];refine zf (by omega) (zf (by omega) (zm fun x4 hx4=> ?_));have e4:x4=es++125::b:=by
  rw[<-hx4,a2,show s=(123::ds++[44])++(es++125::b) by rw[hs];simp,zmi]
 subst e4;refine zaa _ h2 ?_;dsimp only;refine zak hi ?_ (zf (by omega) rfl);cases es with
 |nil=>rw[hh];rfl
 |cons e0 es=>rw[hh,if_neg (by simp),show((length (e0::es):Int)==0)=false from beq_eq_false_iff_ne.2 (by simp only[length_cons];omega),cond_false]
theorem z7q (ds b:List UInt8)(lo:Int)(hds:ds≠[])(h1:zdu 1100 (ds++125::b)=some (lo,(ds.length:Int)))(hlen:(ds++b).length<2^40):zgn 1100 (123::(ds++125::b))=some (qdn lo lo (ds.length+2)):=by
 obtain⟨s,hs⟩: ∃s,s=(123:UInt8)::(ds++125::b):=⟨_,rfl⟩;rw[<-hs];have hsl:s.length=ds.length+b.length+2:=by rw[hs];simp only[length_append,length_cons];omega
 simp only[length_append] at hlen;have hdp:0<ds.length:=List.length_pos_iff.2 hds;have a1:(1+(ds.length:Int))=(((123::ds:List UInt8).length:Nat):Int):=by simp only[length_cons];omega
 have hs3:s=(123::ds)++125::b:=by rw[hs];rfl
 have i1:ix s (1+(ds.length:Int))=125:=by rw[a1,hs3,zvp]
 have ht:=qdt (123::ds) b lo lo (ds.length:Int) (by omega) (by rw[<-hs3];omega);rw[<-hs3, <-a1,show(123::ds:List UInt8).length+1=ds.length+2 by simp only[length_cons]] at ht;unfold zgn;refine zf (by omega) (zm fun x1 hx1=> ?_);have e1:x1=ds++125::b:=by rw[<-hx1,show(1:Int)=((1:Nat):Int) from rfl,zot,hs];rfl
 subst e1;refine zaa _ h1 ?_;dsimp only;refine zf (by omega) ?_;refine zak (lo,1+(ds.length:Int)) ?_ ht;rw[show decide ((ds.length:Int)>0)=true from decide_eq_true (by omega),cond_true,show decide ((1+(ds.length:Int))<(length s:Int))=true from decide_eq_true (by omega),cond_true];refine zf (by omega) (zm fun x3 hx3=> ?_);rw[i1] at hx3;subst hx3;rfl
theorem zpv (s:List UInt8)(y:Int×Int×Int×Int)(h:zgn 1100 (123::s)=some y):zeq 1100 (123::s)=some y:=by
 unfold zeq;rw[show((123::s:List UInt8)==[])=false from rfl,cond_false];refine zf (by simp only[length_cons];omega) (zm fun x hx=> ?_);have:x=123:=by rw[<-hx];rfl
 subst this;rw[show((((123:UInt8).toNat:Nat):Int)==42)=false from rfl,cond_false,show((((123:UInt8).toNat:Nat):Int)==43)=false from rfl,cond_false,show((((123:UInt8).toNat:Nat):Int)==63)=false from rfl,cond_false,show((((123:UInt8).toNat:Nat):Int)==123)=true from rfl,cond_true];exact zaa y h rfl
structure CntW (c:List UInt8)(lo hi:Int):Prop where
 len:c.length<20
 hd: ∃d t,c=d::t
 lo0:0<=lo/\ lo<100
 hi0:hi= -1 \/0<=hi/\ hi<100
 last:zsr c
 run: ∀b:List UInt8,b.length<2^39->zeq 1100 (c++b)=some (qdn lo hi c.length)
theorem d125: ¬isD 125:=by rintro⟨_,h⟩;exact absurd h (by decide)
theorem z6i (c:UInt8)(b:List UInt8)(y:Option (Int×Int×Int×Int))(hc:c≠123)(h:(bif ((((c).toNat:Nat):Int)==42) then(some (0,(-1),1,0)) else(bif ((((c).toNat:Nat):Int)==43) then(some (1,(-1),1,0)) else(bif ((((c).toNat:Nat):Int)==63) then(some (0,1,1,0)) else(some (1,1,0,0)))))=y):zeq 1100 ([c]++b)=y:=by
 show zeq 1100 (c::b)=y;unfold zeq;rw[show((c::b:List UInt8)==[])=false from rfl,cond_false];refine zf (by simp only[length_cons];omega) (zm fun x hx=> ?_);have:x=c:=by rw[<-hx];rfl
 subst this;rw[show((((x).toNat:Nat):Int)==123)=false from ne_int hc,cond_false];exact h
theorem cw_star:CntW [42] 0 (-1):=⟨by decide,⟨_,_,rfl⟩,by decide,.inl rfl,zow (v:=[]) rfl (by decide),fun b _=>z6i 42 b _ (by decide) (show some ((0:Int),(-1:Int),(1:Int),(0:Int))=some (qdn 0 (-1) 1) by decide)⟩
theorem cw_plus:CntW [43] 1 (-1):=⟨by decide,⟨_,_,rfl⟩,by decide,.inl rfl,zow (v:=[]) rfl (by decide),fun b _=>z6i 43 b _ (by decide) (show some ((1:Int),(-1:Int),(1:Int),(0:Int))=some (qdn 1 (-1) 1) by decide)⟩
theorem qmf:CntW [63] 0 1:=⟨by decide,⟨_,_,rfl⟩,by decide,.inr (by decide),zow (v:=[]) rfl (by decide),fun b _=>z6i 63 b _ (by decide) (show some ((0:Int),(1:Int),(1:Int),(0:Int))=some (qdn 0 (1) 1) by decide)⟩
theorem cw_one:CntW [123,49,125] 1 1:=⟨by decide,⟨_,_,rfl⟩,by decide,.inr (by decide),zow (v:=[123,49]) rfl (by decide),fun b hb=>
 zpv _ _ (z7q [49] b 1 (by simp) (qed 49 (125::b) ⟨by decide,by decide⟩ (zqc d125)) (by simp only[length_append,length_cons,length_nil];omega))⟩
theorem cw_n (n:Nat)(hn:n<100):CntW ([123]++dgS n++[125]) n n:=⟨by simp[dgS],⟨_,_,rfl⟩,by omega,.inr (by omega),zow (v:=[123]++dgS n) rfl (by decide),fun b hb=>by
 have:=zpv _ _ (z7q (dgS n) b n (by simp[dgS]) (z9e n hn _) (by simp only[length_append,dgS,length_cons,length_nil];omega));simpa[dgS] using this⟩
theorem cw_nc (n:Nat)(hn:n<100):CntW ([123]++dgS n++[44,125]) n (-1):=⟨by simp[dgS],⟨_,_,rfl⟩,by omega,.inl rfl,zow (v:=[123]++dgS n++[44]) (z:=125) (by simp) (by decide),fun b hb=>by
 have:=zpv _ _ (z9k (dgS n) [] b n 0 (-1) (by simp[dgS]) (z9e n hn _) (qke (125::b) (zqc d125)) rfl (by simp only[length_append,dgS,length_cons,length_nil];omega));simpa[dgS] using this⟩
theorem cw_nm (n m:Nat)(hn:n<100)(hm:m<100):CntW ([123]++dgS n++[44]++dgS m++[125]) n m:=⟨by simp[dgS],⟨_,_,rfl⟩,by omega,.inr (by omega),zow (v:=[123]++dgS n++[44]++dgS m) rfl (by decide),fun b hb=>by
 have:=zpv _ _ (z9k (dgS n) (dgS m) b n m m (by simp[dgS]) (z9e n hn _) (z9e m hm _) (by rw[if_neg (by simp[dgS])]) (by simp only[length_append,dgS,length_cons,length_nil];omega));simpa[dgS] using this⟩
theorem two_tab:((List.range 100).all fun n=>decide (z1u ((n:Nat):Int)=some (dgS n)))=true:=by decide+kernel
theorem z9x (n:Nat)(hn:n<100):z1u ((n:Nat):Int)=some (dgS n):=by simpa using List.all_eq_true.1 two_tab n (List.mem_range.2 hn)
theorem atom_nc (n:Nat)(A:Alts)(a b:List UInt8)(q:Stk)(hA:qdp n A)(hlen:(a++[40,63,58]++zo A++41::b).length<2^39)(hq:(zcv q).length+(n+1)<2^39):
 ∃q',zhd 1100 (zfm (z0v 1100 (n+1))) (Rd.mk (a++[40,63,58]++zo A++41::b) ((a.length:Nat):Int) 0 q)=some (orT (zfr A),Rd.mk (a++[40,63,58]++zo A++41::b) (((a++[40,63,58]++zo A++[41]).length:Nat):Int) 0 q')/\ zcv q'=zcv q:=by
 obtain⟨q',g1,g2⟩:=zzi n A a [40,63,58] b q hA (by decide) hlen hq;refine⟨q',?_,g2⟩;have hla:a.length<(a++[40,63,58]++zo A++41::b).length:=by simp only[length_append,length_cons,length_nil];omega
 have e3:a++[40,63,58]++zo A++41::b=a++([40,63,58]++zo A++41::b):=by simp
 unfold zhd;refine zf (by simp only;omega) (zm fun x1 hx1=> ?_);simp only at hx1;rw[e3,zmi] at hx1;subst hx1;refine zoc (_,Rd.mk _ _ _ _) ?_ rfl;refine zf (by simp only[length_append,length_cons];omega) (zm fun x2 hx2=> ?_);have:x2=40:=by rw[<-hx2];rfl
 subst this;rw[show((((40:UInt8).toNat:Nat):Int)==40)=true from rfl,cond_true];refine zm fun x3 hx3=> ?_;have:x3=true:=by rw[<-hx3];rfl
 subst this;rw[cond_true];exact zaa _ g1 rfl
def zzc (lo hi:Int):Prop:=lo<=16/\ (hi= -1 \/0<hi/\ hi<=16/\ lo<=hi)
theorem z2b {lo hi:Int} {m:Nat} (h:zzc lo hi):qdn lo hi m=(lo,hi,(m:Int),0):=by
 obtain⟨h1,h2⟩:=h;unfold qdn;rw[if_neg];omega
theorem z9d {lo hi:Int} {m:Nat} (h: ¬zzc lo hi)(h0:hi= -1 \/0<=hi):qdn lo hi m=(0,0,0,93):=by
 unfold qdn;rw[if_pos];unfold zzc at h;omega
theorem cntP_of {c:List UInt8} {lo hi:Int} (h:CntW c lo hi)(hg:zzc lo hi):qph c lo hi:=fun b _ hb=>by rw[h.run b hb,z2b hg]
theorem qca (t:Tr):zdb t=zaw \/CT (zdb t):=by
 unfold zdb;cases h:zda t with
 |false=>exact .inl rfl
 | true=>
  right
  have:=zfg h;rw[if_pos rfl];rw[zda,and_eq_true] at h;exact⟨h.2,this⟩
theorem qbt {x:Tr} {lo hi:Int} (hx:CT x)(hg:zzc lo hi):orT [zny [zde x lo hi]]=zde x lo hi:=by
 have key: ∀y:Tr,(y=zaw \/CT y)->orT [zny [y]]=y:=by
  rintro y (rfl|h)
  ·rfl
  ·rw[or_seq,z7e h]
 apply key;unfold zde;cases (!zmy x||(!(lo==0&&hi==0)&& !(lo==1&&hi==1)&& !zei lo hi)) with
 |true=>exact .inl rfl
 | false=>
  rw[cond_false];cases ((x.k:Int)==0&&decide (lo>0)) with
  |true=>exact .inl rfl
  | false=>
   rw[cond_false];cases ((lo==0&&hi==0)||(x.k:Int)==0||(x.k:Int)==1) with
   |true=>right;rw[cond_true];exact⟨by unfold CR;decide+kernel,by simp[emptyT,pre,zbj]⟩
   | false=>
    rw[cond_false];cases (lo==1&&hi==1) with
    |true=>exact .inr hx
    |false=>exact qca _
theorem qkj (A:Alts)(x:Tr)(c:List UInt8)(lo hi:Int)(hA:qdp 1998 A)(hx:orT (zfr A)=x)(hx':CT x)(h:CntW c lo hi)(hg:zzc lo hi)(hl:(zo A).length<905):
 zwf 1100 2000 ([40,63,58]++zo A++[41]++c)=some (qcx false false (zde x lo hi) ((([40,63,58]++zo A++[41]++c:List UInt8).length:Nat):Int)):=by
 have hp:=at_nc 1998 A c lo hi hA (cntP_of h hg);rw[hx] at hp;have e:zo [[(([40,63,58]++zo A++[41]++c:List UInt8),zde x lo hi)]]=[40,63,58]++zo A++[41]++c:=by simp[zo,zbr]
 have hO:qdp 1999 [[(([40,63,58]++zo A++[41]++c:List UInt8),zde x lo hi)]]:=by
  refine⟨by simp,fun L hL=> ?_,by simp⟩;rw[mem_singleton] at hL;subst hL;exact⟨by simp,fun p hp'=>by rw[mem_singleton] at hp';subst hp';exact hp⟩
 have hcl:=h.len;obtain⟨d,t,hd⟩:=h.hd;have hla:zsr ([40,63,58]++zo A++[41]++c):=by
  intro w z hw;rcases zne c with h'|⟨w',z',h'⟩
  ·rw[hd] at h';cases h'
  ·rw[h', <-append_assoc] at hw;obtain⟨_,e2⟩:=List.append_inj' hw rfl;cases e2;exact h.last w' _ h'
 have:=read_eq 1999 _ false false hO (by decide) (by rw[e];intro y t h;cases h;decide) (by rw[e];exact hla) (by rw[e];simp only[length_append,length_cons,length_nil];omega);rw[e] at this;simp only[Bool.false_eq_true,if_false,nil_append,append_nil] at this;rw[this];show some (qcx false false (orT [zny [zde x lo hi]]) _)=_;rw[qbt hx' hg]
theorem qmm (A:Alts)(c:List UInt8)(lo hi:Int)(hA:qdp 1998 A)(h:CntW c lo hi)(hg: ¬zzc lo hi)(hl:(zo A).length<905):
 zwf 1100 2000 ([40,63,58]++zo A++[41]++c)=some (Rg.mk false false zaw,((([40,63,58]++zo A++[41]:List UInt8).length:Nat):Int),93):=by
 have hcl:=h.len;obtain⟨d,t,hd⟩:=h.hd;have hE:PcEnd 1999 ([40,63,58]++zo A++[41]++c) (PE ([40,63,58]++zo A++[41]:List UInt8).length 93):=by
  refine⟨⟨40,_,rfl,by decide,by decide,by decide⟩,fun a q hl hq=> ?_⟩;have e:a++([40,63,58]++zo A++[41]++c)=a++[40,63,58]++zo A++41::c:=by simp
  have e2:a++[40,63,58]++zo A++41::c=a++[40,63,58]++zo A++[41]++c:=by simp
  rw[e] at hl⊢;obtain⟨q',g1,g2⟩:=atom_nc 1998 A a c q hA hl hq;have hr:=h.run [] (by decide);rw[append_nil,z9d hg (h.hi0.imp id fun h=>h.1)] at hr;have hcn:=z0f (y:=orT (zfr A)) (a:=a++[40,63,58]++zo A++[41]) (q:=q') (k:=0) (e:=93) (by decide) hr (by decide) (by rw[<-e2];exact hl);rw[<-e2] at hcn;refine⟨_,_,zaw,_,g1,hcn,.inl (by simp),⟨rfl,by decide,?_⟩,by simp[zaw,pre,zbj]⟩;simp only[length_append,length_cons,length_nil];omega
 refine qdi (hE.ends.alt (fun m l r h=>h.stuck) (by simp only[length_append,length_cons,length_nil];omega)) ⟨_,rfl⟩ ?_ (by simp only[length_append,length_cons,length_nil];omega) (by simp only[length_append,length_cons,length_nil];omega) (by decide);intro w z hw;rcases zne c with h'|⟨w',z',h'⟩
 ·rw[hd] at h';cases h'
 ·rw[h', <-append_assoc] at hw;obtain⟨_,e2⟩:=List.append_inj' hw rfl;cases e2;exact h.last w' _ h'
def gBody (x1:Tr)(x3:List UInt8)(x8:Cn)(x9:Rg×Int×Int)(x10:Int×Int×Int×Int):Option (Unit ⊕ (Int ⊕ (Unit ⊕ Bool))):=
 (chk ((pre x1).length<2^40) (zba (zde x1 x8.lo x8.hi) (fun x11=>(bif (x10.1 !=x8.lo) then(some (inr (inr (inr false)))) else(bif (x10.2.1 !=x8.hi) then(some (inr (inr (inr false)))) else(bif (x10.2.2.1 !=(length x8.s:Int)) then(some (inr (inr (inr false)))) else(bif (x10.2.2.2 !=0) then(some (inr (inr (inr false)))) else(zag (zjs (Rg.mk false false x11)) (fun x12=>(bif (x12 !=0) then(bif (x9.2.2 !=x12) then(some (inr (inr (inr false)))) else(chk (I64 ((length ((([40,63,58]:List UInt8)++x3)++([41]:List UInt8)):Int)+(length x8.s:Int))) (bif (x9.2.1 !=((length ((([40,63,58]:List UInt8)++x3)++([41]:List UInt8)):Int)+(length x8.s:Int))) then(some (inr (inr (inr false)))) else(some (inl ()))))) else(bif (x9.2.2 !=0) then(some (inr (inr (inr false)))) else(zag (zkz x9.1.t x11) (fun x13=>(bif (!x13) then(some (inr (inr (inr false)))) else(some (inl ()))))))))))))))))
theorem qlo (x:Tr)(u c:List UInt8)(lo hi:Int)(hp:(pre x).length<2^40)(hs:(pre (zde x lo hi)).length<=10000)(hul:u.length<2000)(hcl:c.length<20):
 gBody x u (Cn.mk c lo hi) (qcx false false (zde x lo hi) ((([40,63,58]++u++[41]++c:List UInt8).length:Nat):Int)) (lo,hi,(c.length:Int),0)=some (.inl ()):=by
 unfold gBody;dsimp only;refine zf hp (zm fun y hy=> ?_);rw[hy] at hs⊢;rw[show(lo !=lo)=false by simp,cond_false,show(hi !=hi)=false by simp,cond_false,show((c.length:Int) !=(length c:Int))=false by simp,cond_false,show((0:Int) !=0)=false from rfl,cond_false];refine zaa _ (qam false false y (by omega)) ?_;unfold qcx;by_cases h0:zjz y=0
 ·rw [if_pos h0,h0];dsimp only;rw[show((0:Int) !=0)=false from rfl,cond_false,cond_false];have hc:zda y=true:=by
   cases hc:zda y with
   |true=>rfl
   |false=>rw[qem hc] at h0;cases h0
  have hsz:(pre y).length<=120:=by
   unfold zjz at h0;rw[hc] at h0;have hli:zfv y=true:=by rw[zda,and_eq_true] at hc;exact hc.1
   by_cases h1:zsq y>120
   ·rw[show decide (zsq y>120)=true from decide_eq_true h1] at h0;simp at h0
   ·rw[zsq,if_pos hli] at h1;omega
  have hcr:CR y:=by rw[zda,and_eq_true] at hc;exact hc.2
  refine zaa _ (qcp y (KO_of hcr (by omega)) (by omega)) ?_;rfl
 ·rw[if_neg h0];dsimp only;rw[show(zjz y !=0)=true by simpa using h0,cond_true,show(zjz y !=zjz y)=false by simp,cond_false];refine zf (by simp only[length_append,length_cons,length_nil];omega) ?_;rw[show(((([40,63,58]++u++[41]++c:List UInt8).length:Nat):Int) !=(length ([40,63,58]++u++[41]:List UInt8):Int)+(length c:Int))=false by rw[length_append (bs:=c)];simp,cond_false]
def qfa (fuel:Nat)(x1:Tr)(x3:List UInt8)(x8:Cn):Option (Unit ⊕ (Int ⊕ (Unit ⊕ Bool))):=
 (chk (length ((([40,63,58]:List UInt8)++x3)++([41]:List UInt8))+length x8.s<=9223372036854775807) (zag (zwf 1100 2000 (((([40,63,58]:List UInt8)++x3)++([41]:List UInt8))++x8.s)) (fun x9=>(chk (length x8.s+length ([97]:List UInt8)<=9223372036854775807) (zag (zeq fuel (x8.s++([97]:List UInt8))) (fun x10=>(bif (decide (x8.lo<=16)) then(bif (x8.hi==(-1)) then(chk ((pre x1).length<2^40) (zba (zde x1 x8.lo x8.hi) (fun x11=>(bif (x10.1 !=x8.lo) then(some (inr (inr (inr false)))) else(bif (x10.2.1 !=x8.hi) then(some (inr (inr (inr false)))) else(bif (x10.2.2.1 !=(length x8.s:Int)) then(some (inr (inr (inr false)))) else(bif (x10.2.2.2 !=0) then(some (inr (inr (inr false)))) else(zag (zjs (Rg.mk false false x11)) (fun x12=>(bif (x12 !=0) then(bif (x9.2.2 !=x12) then(some (inr (inr (inr false)))) else(chk (I64 ((length ((([40,63,58]:List UInt8)++x3)++([41]:List UInt8)):Int)+(length x8.s:Int))) (bif (x9.2.1 !=((length ((([40,63,58]:List UInt8)++x3)++([41]:List UInt8)):Int)+(length x8.s:Int))) then(some (inr (inr (inr false)))) else(some (inl ()))))) else(bif (x9.2.2 !=0) then(some (inr (inr (inr false)))) else(zag (zkz x9.1.t x11) (fun x13=>(bif (!x13) then(some (inr (inr (inr false)))) else(some (inl ())))))))))))))))) else(bif (decide (x8.hi>0)) then(bif (decide (x8.hi<=16)) then(bif (!(decide (x8.hi>=x8.lo))) then(bif (x9.2.2 !=93) then(some (inr (inr (inr false)))) else(bif (x9.2.1 !=(length ((([40,63,58]:List UInt8)++x3)++([41]:List UInt8)):Int)) then(some (inr (inr (inr false)))) else(bif (x10.2.2.2 !=93) then(some (inr (inr (inr false)))) else(bif (x10.1 !=0) then(some (inr (inr (inr false)))) else(bif (x10.2.1 !=0) then(some (inr (inr (inr false)))) else(bif (x10.2.2.1 !=0) then(some (inr (inr (inr false)))) else(some (inl ())))))))) else(chk ((pre x1).length<2^40) (zba (zde x1 x8.lo x8.hi) (fun x14=>(bif (x10.1 !=x8.lo) then(some (inr (inr (inr false)))) else(bif (x10.2.1 !=x8.hi) then(some (inr (inr (inr false)))) else(bif (x10.2.2.1 !=(length x8.s:Int)) then(some (inr (inr (inr false)))) else(bif (x10.2.2.2 !=0) then(some (inr (inr (inr false)))) else(zag (zjs (Rg.mk false false x14)) (fun x15=>(bif (x15 !=0) then(bif (x9.2.2 !=x15) then(some (inr (inr (inr false)))) else(chk (I64 ((length ((([40,63,58]:List UInt8)++x3)++([41]:List UInt8)):Int)+(length x8.s:Int))) (bif (x9.2.1 !=((length ((([40,63,58]:List UInt8)++x3)++([41]:List UInt8)):Int)+(length x8.s:Int))) then(some (inr (inr (inr false)))) else(some (inl ()))))) else(bif (x9.2.2 !=0) then(some (inr (inr (inr false)))) else(zag (zkz x9.1.t x14) (fun x16=>(bif (!x16) then(some (inr (inr (inr false)))) else(some (inl ()))))))))))))))))) else(bif (x9.2.2 !=93) then(some (inr (inr (inr false)))) else(bif (x9.2.1 !=(length ((([40,63,58]:List UInt8)++x3)++([41]:List UInt8)):Int)) then(some (inr (inr (inr false)))) else(bif (x10.2.2.2 !=93) then(some (inr (inr (inr false)))) else(bif (x10.1 !=0) then(some (inr (inr (inr false)))) else(bif (x10.2.1 !=0) then(some (inr (inr (inr false)))) else(bif (x10.2.2.1 !=0) then(some (inr (inr (inr false)))) else(some (inl ()))))))))) else(bif (x9.2.2 !=93) then(some (inr (inr (inr false)))) else(bif (x9.2.1 !=(length ((([40,63,58]:List UInt8)++x3)++([41]:List UInt8)):Int)) then(some (inr (inr (inr false)))) else(bif (x10.2.2.2 !=93) then(some (inr (inr (inr false)))) else(bif (x10.1 !=0) then(some (inr (inr (inr false)))) else(bif (x10.2.1 !=0) then(some (inr (inr (inr false)))) else(bif (x10.2.2.1 !=0) then(some (inr (inr (inr false)))) else(some (inl ())))))))))) else(bif (x9.2.2 !=93) then(some (inr (inr (inr false)))) else(bif (x9.2.1 !=(length ((([40,63,58]:List UInt8)++x3)++([41]:List UInt8)):Int)) then(some (inr (inr (inr false)))) else(bif (x10.2.2.2 !=93) then(some (inr (inr (inr false)))) else(bif (x10.1 !=0) then(some (inr (inr (inr false)))) else(bif (x10.2.1 !=0) then(some (inr (inr (inr false)))) else(bif (x10.2.2.1 !=0) then(some (inr (inr (inr false)))) else(some (inl ())))))))))))))))
theorem qnw (x:Tr)(A:Alts)(c:List UInt8)(lo hi:Int)(hA:qdp 1998 A)(hx:orT (zfr A)=x)(hx':CT x)(hp:(pre x).length<2^40)(h:CntW c lo hi)(hl:(zo A).length<905):qfa 1100 x (zo A) (Cn.mk c lo hi)=some (.inl ()):=by
 have hcl:=h.len;have hcn:=h.run [97] (by decide);unfold qfa;dsimp only;refine zf (by simp only[length_append,length_cons,length_nil];omega) ?_;by_cases hg:zzc lo hi
 rotate_left
 ·refine zaa _ (qmm A c lo hi hA h hg hl) ?_;refine zf (by simp only[length_append,length_cons,length_nil];omega) ?_;rw[z9d hg (h.hi0.imp id fun h=>h.1)] at hcn;refine zaa _ hcn ?_;dsimp only;have n93:((93:Int) !=93)=false:=rfl;have n0:((0:Int) !=0)=false:=rfl;have hll:((((([40,63,58]++zo A++[41]:List UInt8).length:Nat):Int)) !=(length ([40,63,58]++zo A++[41]:List UInt8):Int))=false:=by simp
  have bad:(bif ((93:Int) !=93) then(some (inr (inr (inr false)))) else(bif ((((([40,63,58]++zo A++[41]:List UInt8).length:Nat):Int)) !=(length ([40,63,58]++zo A++[41]:List UInt8):Int)) then(some (inr (inr (inr false)))) else(bif ((93:Int) !=93) then(some (inr (inr (inr false)))) else(bif ((0:Int) !=0) then(some (inr (inr (inr false)))) else(bif ((0:Int) !=0) then(some (inr (inr (inr false)))) else(bif ((0:Int) !=0) then(some (inr (inr (inr false)))) else(some (inl ()))))))):Option (Unit ⊕ (Int ⊕ (Unit ⊕ Bool))))=some (.inl ()):=by
   rw[n93,n0,hll];rfl
  unfold zzc at hg;by_cases h1:lo<=16
  ·rw [decide_eq_true h1,cond_true];by_cases h2:hi= -1
   ·omega
   ·rw [show(hi== -1)=false from beq_eq_false_iff_ne.2 h2,cond_false];by_cases h3:hi>0
    ·rw[decide_eq_true h3,cond_true];by_cases h4:hi<=16
     ·rw[decide_eq_true h4,cond_true,show(decide (hi>=lo))=false from decide_eq_false (by omega),show(!false)=true from rfl,cond_true];exact bad
     ·rw[decide_eq_false h4,cond_false];exact bad
    ·rw[decide_eq_false h3,cond_false];exact bad
  ·rw[decide_eq_false h1,cond_false];exact bad
 ·refine zaa _ (qkj A x c lo hi hA hx hx' h hg hl) ?_;refine zf (by simp only[length_append,length_cons,length_nil];omega) ?_;rw[z2b hg] at hcn;refine zaa _ hcn ?_;dsimp only;have hgood:=qlo x (zo A) c lo hi hp (znj _ hx'.2 lo hi) (by omega) hcl;unfold gBody at hgood;dsimp only at hgood;obtain⟨h1,h2⟩:=hg;rw[decide_eq_true h1,cond_true];by_cases h3:hi= -1
  ·subst h3;exact hgood
  ·rw[show(hi== -1)=false from beq_eq_false_iff_ne.2 h3,cond_false,decide_eq_true (by omega:hi>0),cond_true,decide_eq_true (by omega:hi<=16),cond_true,show(decide (hi>=lo))=true from decide_eq_true (by omega),show(!true)=false from rfl,cond_false];exact hgood
end Go.Ab
namespace Go.Ab
open Go Go.RowKit Go.Fwd Go.Proofs Go.ChangeShapes Go.WideShapes Go.Deep
theorem und5:prog.underlying 5=some (.int .u8):=by kernel_rfl
theorem z3p {n:Int} (h:(Lit.int .u8 n).wf=true):0<=n/\ n<=255:=by
 have h1:IntKind.u8.min=0:=rfl;have h2:IntKind.u8.max=255:=rfl;simp only[Lit.wf,and_eq_true,decide_eq_true_eq] at h;omega
theorem qrj:prog.underlying 22=some (.slice 61):=rfl
theorem cells49:prog.cellsOf 61=3:=by kernel_rfl
theorem qlu: ∃f0 f1 f2:Field,prog.underlying 61=some (.struct #[f0,f1,f2])/\ oneCellFields prog #[f0,f1,f2]=true/\ prog.underlying f0.type=some (.int .u8)/\ prog.underlying f1.type=some (.int .u8)/\ prog.underlying f2.type=some (.int .u8):=⟨_,_,_,rfl,by kernel_rfl,rfl,rfl,rfl⟩
section
variable {H:Type} {enc:TypeId×Value->H}
theorem z6z {W:World} {base:Nat} {spare:Nat->Bool} {held:Bool} {n:Nat} {cs:List Value} {x:DataW H×List MemPlace} (h:DataW.trod enc prog W base spare held n 61 cs=some x)(hl:cs.length=3):
 ∃s:Sm,cs=[.int .u8 (s.1:Int),.int .u8 (s.2.1:Int),.int .u8 (s.2.2:Int)]/\ s.2.1<256:=by
 obtain⟨f0,f1,f2,hu,hone,t0,t1,t2⟩:=qlu;obtain⟨ys,m,_,_,_,hyl,hf⟩:=DataW.trod_struct hu h;obtain⟨o0,k0⟩:=hone_of hone 0 f0 rfl;obtain⟨o1,k1⟩:=hone_of hone 1 f1 rfl;obtain⟨o2,k2⟩:=hone_of hone 2 f2 rfl
 match cs,hl with
 | [c0,c1,c2],_=>
  match ys,hyl with
  | [y0,y1,y2],_=>
   have g0:DataW.trod enc prog W base spare held m f0.type [c0]=some y0:=by simpa[o0,k0] using hf 0 f0 rfl
   have g1:DataW.trod enc prog W base spare held m f1.type [c1]=some y1:=by simpa[o1,k1] using hf 1 f1 rfl
   have g2:DataW.trod enc prog W base spare held m f2.type [c2]=some y2:=by simpa[o2,k2] using hf 2 f2 rfl
   obtain⟨n0,e0,_,w0⟩:=DataW.trod_int t0 g0;obtain⟨n1,e1,_,w1⟩:=DataW.trod_int t1 g1;obtain⟨n2,e2,_,w2⟩:=DataW.trod_int t2 g2;simp at e0 e1 e2;subst e0 e1 e2;have b0:=z3p w0;have b1:=z3p w1;have b2:=z3p w2;exact⟨(n0.toNat,n1.toNat,n2.toNat),by simp only[Int.toNat_of_nonneg b0.1,Int.toNat_of_nonneg b1.1,Int.toNat_of_nonneg b2.1],by simp only;omega⟩
theorem z2i (W:World)(b:Nat): ∀(len o:Nat) (g:Nat->Sm),(∀i,i<len->W.cell? ⟨b,o+i*3,none⟩=some (.int .u8 ((g i).1:Int))/\ W.cell? ⟨b,o+i*3+1,none⟩=some (.int .u8 ((g i).2.1:Int))/\ W.cell? ⟨b,o+i*3+2,none⟩=some (.int .u8 ((g i).2.2:Int)))->
 At (ITP prog) (qcz W) (qqp ((List.range len).map g)) b o
 |0,o,g,_=>by simp[qqp,At]
 | len+1,o,g,h=>by
  rw[List.range_succ_eq_map,map_cons,List.map_map,qqp,smc];have h0:=h 0 (by omega);simp only[Nat.zero_mul,Nat.add_zero] at h0;obtain⟨a0,a1,a2⟩:=h0;have ih:=z2i W b len (o+3) (g∘Nat.succ) (fun i hi=>by
   have:=h (i+1) (by omega);rw[show o+(i+1)*3=o+3+i*3 by omega] at this;exact this)
  simp only[List.cons_append,nil_append,At];exact⟨⟨⟨_,a0⟩,_,a0,rfl,by rw[Rep]⟩,⟨⟨_,a1⟩,_,a1,rfl,by rw[Rep]⟩,⟨⟨_,a2⟩,_,a2,rfl,by rw[Rep]⟩,ih⟩
theorem qbk {W:World} {base:Nat} {v:Value} {d:DataW H} {p:List MemPlace} (hv:Value.okWide prog W .any base 22 v)(h:DataW.Trod enc prog W 0 (fun _=>true) true 22 v d p):
 ∃l:List Sm,(l.length<2^63/\ ∀x∈l,x.2.1<256)/\ Rep (ITP prog) (qcz W) (.list l.length (qqp l) .none) v:=by
 obtain⟨fuel,hf⟩:=h;obtain⟨a0,len,cap,rfl⟩:=okWide_slice qrj hv;rcases open_slice qrj hf with⟨h0,_⟩|⟨a,len',cap',m,n,D,Pl,hcs,hb,hl,hm,hmm,hx,hi⟩
 ·simp[Value.cells] at h0;obtain⟨rfl,rfl,rfl⟩:=h0;refine⟨[],by simp,?_⟩;rw[Rep];exact⟨none,0,rfl,⟨Nat.le_refl _,fun _=>rfl⟩,.inl rfl,trivial⟩
 ·simp [Value.cells] at hcs;obtain⟨rfl,rfl,rfl⟩:=hcs;rw[cells49] at hi;have hm':m=cap:=by simpa using hmm
  have hcell: ∀i,i<m-> ∃s:Sm,W.cell? (a.add (i*3))=some (.int .u8 (s.1:Int))/\ W.cell? (a.add (i*3+1))=some (.int .u8 (s.2.1:Int))/\ W.cell? (a.add (i*3+2))=some (.int .u8 (s.2.2:Int))/\ s.2.1<256:=fun i him=>by
   obtain⟨cs',hc,ht⟩:=hi i him;obtain⟨_,hcl,hat⟩:=World.cells?_some hc;obtain⟨s,rfl,hs⟩:=z6z ht hcl;refine⟨s,?_,?_,?_,hs⟩
   ·have:=hat 0 (by omega);rw[Go.Deep.add_add] at this;simpa using this
   ·have:=hat 1 (by omega);rw[Go.Deep.add_add] at this;simpa using this
   ·have:=hat 2 (by omega);rw[Go.Deep.add_add] at this;simpa using this
  by_cases hz:len=0
  ·subst hz;refine⟨[],by simp,?_⟩;rw[Rep];exact⟨some a,cap,rfl,⟨hl,fun h=>by cases h⟩,.inl rfl,trivial⟩
  ·obtain⟨s0,c0,_⟩:=hcell 0 (by omega);have hspot:a=⟨a.block,a.off,none⟩:=by
    cases a with
    | mk b o sp=>
     cases sp with
     |none=>rfl
     | some k=>
      exfalso
      simp[Addr.add,World.cell?] at c0;split at c0<;>simp at c0
   have hadd: ∀j,a.add j=⟨a.block,a.off+j,none⟩:=fun j=>by
    by_cases hj:j=0
    ·subst hj;simp[Addr.add];exact hspot
    ·simp[Addr.add,hj]
   let g:Nat->Sm:=fun i=>if h:i<m then Classical.choose (hcell i h) else(0,0,0)
   have hg: ∀i (him:i<m),W.cell? (a.add (i*3))=some (.int .u8 ((g i).1:Int))/\ W.cell? (a.add (i*3+1))=some (.int .u8 ((g i).2.1:Int))/\ W.cell? (a.add (i*3+2))=some (.int .u8 ((g i).2.2:Int))/\ (g i).2.1<256:=fun i him=>by
    have e:g i=Classical.choose (hcell i him):=dif_pos him;rw[e];exact Classical.choose_spec (hcell i him)
   have hml:maxLen<2^63:=by decide
   refine⟨(List.range len).map g,⟨by simp;omega,fun x hx=> ?_⟩,?_⟩
   ·obtain⟨i,hi',rfl⟩:=List.mem_map.1 hx;exact(hg i (by have:=List.mem_range.1 hi';omega)).2.2.2
   rw[Rep];refine⟨some a,cap,by simp,⟨by simpa using hl,fun h=>by cases h⟩,.inr ⟨a.block,a.off,by rw[<-hspot],z2i W a.block len a.off g fun i hi=> ?_⟩,trivial⟩;have:=hg i (by omega);rw[hadd,hadd,hadd] at this;exact⟨this.1,this.2.1,this.2.2.1⟩
end
end Go.Ab
namespace Go.Ab
open Go Go.RowKit Go.Fwd Go.Proofs Go.Proofs.YtnoccnalocdldaaGreatDoor Go.ChangeShapes Go.WideShapes Go.ChangeAt
theorem gv_of {W:World} (hL:laidMet prog Rows.rxreadJoinsRow.laid W)(hS:W.ShapedOpen prog):gvBase prog W where
 err:=fun n g h e=>by
  have h1:prog.globalNamed "strconv.ErrSyntax" =none:=by kernel_rfl
  have h2:prog.globalNamed "strconv.ErrRange" =none:=by kernel_rfl
  rcases h with rfl|rfl
  ·rw[h1] at e;cases e
  ·rw[h2] at e;cases e
 pow:=fun g e=>by
  have h1:prog.globalNamed "internal/strconv.uint64pow10" =none:=by kernel_rfl
  rw[h1] at e;cases e
 max:=fun g e=>by
  have h1:prog.globalNamed "internal/bytealg.MaxLen" =some 0:=by kernel_rfl
  rw[h1] at e;cases e;exact Go.Proofs.cell_of_shapedOpen_int (zero:= #[.int .i64 0]) (t:=3) hS (of_decide_eq_true (by kernel_rfl)) (by kernel_rfl) rfl (by kernel_rfl) (by kernel_rfl) (by kernel_rfl)
noncomputable def qqv:DataW Unit->List Value
 | .agg l=>l.flatMap fun d=>match d with
  | .lit (.int k n)=>[Value.int k n]
  | .agg l=>l.map fun d=>match d with| .lit (.int k n)=>Value.int k n|_=>undef
  |_=>[undef]
 |_=>[]
noncomputable def zty (os:Os):World:=
 let w0:=World.holding prog os ⟨#[], #[],[]⟩
 let put (h:Array Obj) (g:Nat) (cs:Array Value):Array Obj:=h.modify g fun
  | .cells _ t frozen=> .cells cs t frozen
  |o=>o
 let h1:=put w0.heap 1 (qqv Rows.laid_unicode_utf8_first).toArray
 let h2:=put h1 2 (qqv Rows.laid_unicode_utf8_acceptRanges).toArray
 {w0 with heap:=h2}
theorem qof (os:Os)(args:Array Value):laidMet prog Rows.rxreadJoinsRow.laid ((zty os).forCall (fun _ _=>0) ⟨#[],args,[]⟩).memory:=
 laidMet_of_run (ps:=MemPlace.row ⟨2,0,none⟩ 32++MemPlace.row ⟨1,0,none⟩ 256) 8 (by kernel_rfl) (by kernel_rfl) (by kernel_rfl)
end Go.Ab
namespace Go.Proofs.YtnoccnalocdldaaGreatDoor
open Go Go.Ab Go.ChangeShapes Go.WideShapes Go.ChangeAt Go.RowKit Go.Fwd
theorem zqr {H:Type} {enc:TypeId×Value->H} {P:Program} (hl:laidOutB P=true) {W W':World} (hb:Below W.heap.size W W'): ∀ {ts:List TypeId} {vs:List Value} {ds:List (DataW H)} {ps:List MemPlace},
 (ts.all fun t=>P.readableRec t&&decide (t<P.types.size))=true->DataW.TrodAll enc P W 0 (fun _=>true) true ts vs ds ps->(∀x∈ps,x.block<W.heap.size)->DataW.TrodAll enc P W' 0 (fun b=>decide (b<W.heap.size)) true ts vs ds ps
 | [],vs,ds,ps,_,h,_=>by
  cases vs with
  | nil=>
   cases ds with
   |nil=>exact h
   |cons=>exact h.elim
  |cons=>exact h.elim
 | t::ts,vs,ds,ps,ht,h,hlt=>by
  obtain⟨v,vs',d,ds',p,q,rfl,rfl,rfl,hd,hr⟩:=trodAll_cons h;simp only[List.all_cons,and_eq_true,decide_eq_true_eq] at ht;exact⟨p,q,Below.trod hl ht.1.1 ht.1.2 hd hb fun x hx=>hlt x (by simp[hx]),zqr hl hb ht.2 hr fun x hx=>hlt x (by simp[hx]),rfl⟩
theorem own':ownKnob prog.godebug=none:=by kernel_rfl
theorem qok:laidOutB prog=true:=by kernel_rfl
end Go.Proofs.YtnoccnalocdldaaGreatDoor
namespace Go.Ab
open Go Go.RowKit Go.Fwd Go.Proofs
theorem rxc_eq (l:List Sm)(least most:Int)(hl:l.length<2^63/\ ∀y∈l,y.2.1<256)(h1:0<=least/\ least<256)(h2:0<=most/\ most<256):qls 1100 l least most=some true:=by
 unfold qls;refine zf hl (zm fun x hx=> ?_);obtain⟨cx,px,sx⟩:=made_CT l;rw[hx] at cx px sx;have hx40:(pre x).length<2^40/\ SY x:=⟨by omega,sx⟩;refine zaa _ (few_one x hx40 1098) ?_;by_cases hf:((zdx x).length:Int)<900
 rotate_left
 ·rw[decide_eq_false hf];rfl
 rw[decide_eq_true hf,show(!true)=false from rfl,cond_false];obtain⟨n,hn,en⟩: ∃n:Nat,n<100/\ tmod least 100=(n:Int):=by
  have h:tmod least 100=least%100:=Int.tmod_eq_emod_of_nonneg h1.1;exact⟨(least%100).toNat,by omega,by rw[h];omega⟩
 obtain⟨m,hm,em⟩: ∃m:Nat,m<100/\ tmod most 100=(m:Int):=by
  have h:tmod most 100=most%100:=Int.tmod_eq_emod_of_nonneg h2.1;exact⟨(most%100).toNat,by omega,by rw[h];omega⟩
 rw[en,em];refine zf (by omega) (zf (by omega) (zf hx40 (zm fun s hs=> ?_)));rw[hs] at hf;obtain⟨A,a1,a2,a3⟩:=z8o 1998 x (by omega) (by omega) cx;rw[hs] at a1;have ox:orT (zfr A)=x:=by rw[a2];exact z6c cx
 subst a1;have hal:(zo A).length<905:=by omega
 refine zf (by simp only[length_append,length_cons,length_nil];omega) (zf (by simp only[length_append,length_cons,length_nil];omega) ?_);refine zak () ?_ rfl;refine zaa _ (z9x n hn) (zf (by simp[dgS]) (zf (by simp[dgS]) ?_));refine zaa _ (z9x n hn) (zf (by simp[dgS]) (zf (by simp[dgS]) ?_));refine zaa _ (z9x n hn) (zf (by simp[dgS]) (zf (by simp[dgS]) ?_));refine zaa _ (z9x m hm) (zf (by simp[dgS]) (zf (by simp[dgS]) ?_));have key: ∀c lo hi,CntW c lo hi->qfa 1100 x (zo A) (Cn.mk c lo hi)=some (.inl ()):=fun c lo hi h=>qnw x A c lo hi a3 ox cx hx40.1 h hal;refine zhl 7 (fun i=>(i:Int)) rfl (fun i hi=> ?_) rfl (by decide);have step: ∀(L:List Cn) (hL:L.length=7) (c:Cn),L[i]? =some c->qfa 1100 x (zo A) c=some (.inl ())->(bif (decide ((i:Int)<(length L:Int))) then(zcu (τ:=Unit) (chk (0<=(i:Int)/\ (i:Int)<(length L:Int)) (zba (ix L (i:Int)) (fun x8=>qfa 1100 x (zo A) x8))) (fun j2=>(chk (I64 ((i:Int)+1)) (some (inl (((i:Int)+1))))))) else(some (inr (inl ()))):Option (Int ⊕ (Unit ⊕ Bool)))=some (.inl ((i+1:Nat):Int)):=by
  intro L hL c hc hb;rw[show decide ((i:Int)<(length L:Int))=true from decide_eq_true (by omega),cond_true];refine zak () (zf (by omega) (zm fun z hz=> ?_)) (zf (by omega) rfl);have:z=c:=by rw[<-hz];simp[ix,hc]
  rw[this];exact hb
 rcases(by omega:i=0 \/i=1 \/i=2 \/i=3 \/i=4 \/i=5 \/i=6) with rfl|rfl|rfl|rfl|rfl|rfl|rfl
 ·exact step _ rfl _ rfl (key _ _ _ cw_star)
 ·exact step _ rfl _ rfl (key _ _ _ cw_plus)
 ·exact step _ rfl _ rfl (key _ _ _ qmf)
 ·exact step _ rfl _ rfl (key _ _ _ (cw_n n hn))
 ·exact step _ rfl _ rfl (key _ _ _ (cw_nc n hn))
 ·exact step _ rfl _ rfl (key _ _ _ (cw_nm n m hn hm))
 ·exact step _ rfl _ rfl (key _ _ _ cw_one)
end Go.Ab
namespace Go.Proofs.YtnoccnalocdldaaGreatDoor
open Go Go.Ab Go.ChangeShapes Go.WideShapes Go.ChangeAt Go.RowKit Go.Fwd
theorem trods_rxreadCounts {H:Type} {enc:TypeId×Value->H} {P:Program} {w:World} {base:Nat} {spare:Nat->Bool} {held:Bool} {t0 t1 t2:TypeId} {args:Array Value} {ds:List (DataW H)} {ps:List MemPlace} (h:DataW.TrodAll enc P w base spare held [t0,t1,t2] args.toList ds ps):
 ∃v0 v1 v2 d0 d1 d2 p0 p1 p2,args= #[v0,v1,v2]/\ ds=[d0,d1,d2]/\ ps=p0++p1++p2/\ DataW.Trod enc P w base spare held t0 v0 d0 p0/\ DataW.Trod enc P w base spare held t1 v1 d1 p1/\ DataW.Trod enc P w base spare held t2 v2 d2 p2:=by
 obtain⟨v0,a0,d0,s0,p0,q0,hargs,rfl,rfl,g0,h⟩:=trodAll_cons h;obtain⟨v1,a1,d1,s1,p1,q1,rfl,rfl,rfl,g1,h⟩:=trodAll_cons h;obtain⟨v2,a2,d2,s2,p2,q2,rfl,rfl,rfl,g2,h⟩:=trodAll_cons h;obtain⟨rfl,rfl,rfl⟩:=trodAll_nil h;exact⟨v0,v1,v2,d0,d1,d2,p0,p1,p2,by cases args;simp_all,rfl,by simp,g0,g1,g2⟩
theorem witness_rxreadCounts (os:Os) {H:Type} (enc:TypeId×Value->H):
 (OpenSpec.ofChange Rows.rxreadCountsSpec).preRow enc prog Tryz.f4 Rows.rxreadCountsRow.domain false Rows.rxreadCountsRow.laid ((zty os).forCall (fun _ _=>0) ⟨#[], #[.slice none 0 0,.int .u8 0,.int .u8 0],[]⟩).memory #[.slice none 0 0,.int .u8 0,.int .u8 0]:=
 OpenSpec.preRow_of_B rfl 8 (by kernel_rfl) (by kernel_rfl) (qof os _)
theorem rxreadCounts_lifted (os:Os)(started:os.Started)(H:Type)(enc:TypeId×Value->H)(F:Stop.Interp):
 ReturnsInHanded {} Tryz.checked os 4 .any ((OpenSpec.ofChange Rows.rxreadCountsSpec).preRow enc prog Tryz.f4 Rows.rxreadCountsRow.domain false Rows.rxreadCountsRow.laid) (((OpenSpec.ofChange Rows.rxreadCountsSpec).at F).post enc prog Tryz.f4 false true false false):=by
 refine returnsInHanded_of_row (C:=Tryz.checked) (s:=OpenSpec.ofChange Rows.rxreadCountsSpec) own' started (by kernel_rfl) Tryz.func4
  (witness_row_atRef (enc:=enc) (C:=Tryz.checked) false (zty os) #[.slice none 0 0,.int .u8 0,.int .u8 0] rfl (by kernel_rfl) (by kernel_rfl) (by kernel_rfl) (witness_rxreadCounts os enc)) ?_
 intro W base args ds gs before hval0 hW hcnd0 _ hsz0 hL hS _;have hval: ∀(j:Nat) t v,Tryz.f4.params[j]? =some t->args[j]? =some v->Value.okWide prog W .any base t v:=hval0;have hW':=hW;obtain⟨p,q,hA0,hV,rfl,_,_⟩:=hW;have hA:DataW.TrodAll enc prog W 0 (fun _=>true) true Tryz.f4.params.toList args.toList ds p:=hA0;rw[show Tryz.f4.params.toList=[22,5,5] from by kernel_rfl] at hA;have hA1:=hA;obtain⟨v0,v1,v2,d0,d1,d2,p0,p1,p2,rfl,rfl,rfl,h0,h1,h2⟩:=trods_rxreadCounts hA;obtain⟨rfl,rfl⟩:=trodVars_none hV;obtain⟨x0,r0,hr0⟩:=qbk (hval 0 22 v0 (by kernel_rfl) rfl) h0;obtain⟨x1,rfl,rfl,rfl,w1⟩:=open_int und5 (hval 1 5 v1 (by kernel_rfl) rfl) h1;have r1:0<=x1/\ x1<256:=by have:=z3p w1;omega
 obtain⟨x2,rfl,rfl,rfl,w2⟩:=open_int und5 (hval 2 5 v2 (by kernel_rfl) rfl) h2;have r2:0<=x2/\ x2<256:=by have:=z3p w2;omega
 clear hA0 hval0;simp only[append_nil,nil_append] at hW' hA1;have hlt:=hW'.lt;refine(qlr (rxc_sh 1100 x0 x1 x2 true (rxc_eq x0 x1 x2 r0 r1 r2)) W (gv_of hL hS) (vs:=[v0,.int .u8 x1,.int .u8 x2]) ⟨_,_,rfl,hr0,_,_,rfl,rfl,_,_,rfl,rfl,rfl⟩).mono fun e W' ⟨he,hw⟩=> ?_;subst he;refine⟨_,rfl,?_⟩;refine⟨_,_,_,[]++[],p0,[],hW',?_,?_,rfl,hw.frame _,fun h=>by cases h⟩
 ·exact trodAll_mk1 (shut_bool (show prog.underlying 4=some .bool from by kernel_rfl) true)
 ·exact zqr qok hw (by kernel_rfl) hA1 hlt
theorem rxreadCounts_holds:Rows.RxreadCountsSaid:=
 OpenClaim.holds_of_cond 4 Tryz.f4 rfl rfl rfl rfl rfl rfl rfl ⟨rfl,rfl,rfl,rfl,rfl⟩ rfl rfl rfl rfl rfl (by kernel_rfl) Tryz.func4 (by kernel_rfl)
  (of_decide_eq_true (by kernel_rfl)) (by unfold Func.isWrapper;rw[if_neg (of_decide_eq_false (by kernel_rfl))];exact⟨rfl,rfl⟩)
  (fun os started H enc _ F0=>by rw[OpenClaim.pre_eq_preRow];exact rxreadCounts_lifted os started H enc F0)
theorem rxreadCounts_card:Rows.RxreadCountsCardSaid:=
 Claim7.holds_tied_plain_at .later [] [.data,.pinned] true (true, "978a3f44b59fddea0a978660b435438489edc2062dfa36400188c925fdaae269") false
  rxreadCounts_holds (fun _ h=>by cases h) (by kernel_rfl) (fun _ h=>by cases h) rxreadCounts_row_tie rfl ⟨rfl,rfl⟩ (by kernel_rfl) rfl
  (fun f fn hf hfn=>by
   obtain rfl:f=4:=Option.some.inj ((show prog.funcNamed "repartee/reparteelaw09.RxreadCounts" =some 4 by kernel_rfl).symm.trans hf)|>.symm;obtain rfl:fn=Tryz.f4:=(Option.some.inj (Tryz.func4.symm.trans hfn)).symm;exact⟨by kernel_rfl,fun j t ht=>by
    have hm:t∈[22,5,5]:=by
     have h:=Array.mem_of_getElem? ht;rw[<-Array.mem_toList_iff,show Tryz.f4.params.toList=[22,5,5] from by kernel_rfl] at h;exact h
    have hall:([22,5,5].all fun u=> !prog.wantsStandIn u)=true:=by kernel_rfl
    exact(show prog.wantsStandIn t=false by simpa using List.all_eq_true.1 hall t hm)⟩)
  (by kernel_rfl)
#print axioms rxreadCounts_card
end Go.Proofs.YtnoccnalocdldaaGreatDoor
