/-
  Contracts of package strings and strconv over lists of bytes; kinds of entries.
-/
import Derived.Test.YtcdmdnadilafhaaGreatDoorZyBld
import Derived.Test.YtcdmdnadilafhaaGreatDoorZyEn2
import Derived.Test.YtcdmdnadilafhaaGreatDoorZdStr
set_option linter.unusedSimpArgs false
set_option linter.unusedVariables false
namespace Go.Ab
open Go Go.RowKit Go.Fwd Go.Proofs
def nameL : List (List UInt8) := [[], [114, 117, 110, 110, 105, 110, 103], [101, 120, 105, 116], [101, 111, 102], [102, 117, 101, 108], [115, 105, 122, 101]]
def zfr (k : Int) : List UInt8 := nameL.getD k.toNat []
noncomputable def z2d (f n : Nat) : Bool := match zgx Tryz.prog libP (ev Tryz.prog libP bldS 20) f [.raw (.int .u8 (n : Int))] with
 | some r => zsv r (.raw (.string (bs (zfr (n : Int)))))
 | none => false
theorem zuv (f : Nat) (h : ((List.range 256).all fun n => z2d f n) = true) (k : Int) (g : 0 ≤ k ∧ k < 256) : Pure (ITP Tryz.prog) Tryz.prog f [.raw (.int .u8 k)] (.raw (.string (bs (zfr k)))) := by
 have hk := List.all_eq_true.1 h k.toNat (List.mem_range.2 (by omega))
 unfold z2d at hk
 split at hk
 ·rename_i r hr
  have := zt zef 20 hr
  rw [ztw _ _ hk] at this
  rw [show ((k.toNat : Nat) : Int) = k by omega] at this
  exact this
 ·cases hk
theorem znb (k : Int) (g : 0 ≤ k ∧ k < 256) : Pure (ITP Tryz.prog) Tryz.prog 54 [.raw (.int .u8 k)] (.raw (.string (bs (zfr k)))) := zuv 54 (by kernel_rfl) k g
theorem zo1 (k : Int) (g : 0 ≤ k ∧ k < 256) : Pure (ITP Tryz.prog) Tryz.prog 58 [.raw (.int .u8 k)] (.raw (.string (bs (zfr k)))) := zuv 58 (by kernel_rfl) k g
section
variable {P : Program} {ρ : Operand → AV} {σ : St} {o : Oper}
theorem zba {x : Operand} {t : TypeId} {l : List UInt8} (ho : o.op = .call ⟨.builtin .len, #[x], #[t]⟩) (hx : ρ x = .raw (.string (bs l))) (hu : P.underlying t = some .string) : qop P ρ σ o = some (.raw (.int .i64 (l.length : Int))) := by
 have h2 : z17 P t (.raw (.string (bs l))) = none := rfl
 have h1 : o.op.operands.toList.all (fun x => (zcf (ρ x)).isSome) = true := by rw [ho]; simp [Op.operands, Call.operands, hx, zcf]
 have h3 : val? P (execOp (zax ρ) o) = some (.value (.int .i64 (l.length : Int))) := by
  have hsz : (bs l).size = l.length := rfl
  simp [execOp, ho, resolve, invoke, zax, hx, zcf, builtin, Builtin.len_, underlying, goInt, hsz]
  simp only [program, Bind.bind, Pure.pure, Functor.map, Sem.bind, val?, hu, hsz]
  rfl
 have h4 : zda P ρ o = some (.raw (.int .i64 (l.length : Int))) := by
  unfold zda; rw [if_pos h1, ho, h3]; rfl
 simp only [qop, ho, hx, h2, h4]
end
end Go.Ab
set_option linter.unusedSimpArgs false
set_option linter.unusedVariables false
set_option maxRecDepth 100000
namespace Go.Ab
open Go Go.RowKit Go.Fwd Go.Proofs
set_option maxHeartbeats 1000000 in
set_option maxRecDepth 100000 in
theorem z04 (b : Nat) (w : World) (h1 : w.cell? ⟨b, 1, none⟩ = some (.slice none 0 0)) :
 Calls Tryz.prog 49 #[.pointer (some ⟨b, 0, none⟩)] w fun e w' => e = .returned (.string ⟨#[]⟩) ∧ w' = w.drew := by
 have c1 : w.drew.cell? ⟨b, 1, none⟩ = some (.slice none 0 0) := h1
 have hSD : (Builtin.unsafeSliceData_ #[47] 117 #[.slice none 0 0]).run Tryz.prog w.drew = .ok (.pointer none) w.drew := Lib.run_unsafeSliceData_nil _ _ _ _ _
 have hUS : (Builtin.unsafeString_ #[117, 3] 9 #[.pointer none, .int .i64 0]).run Tryz.prog w.drew = .ok (.string .empty) w.drew := Lib.run_unsafeString_none _ _ _ _ _
 go_enter Tryz.func49, Tryz.ntmps49
 go_wp2
 go_region
 all_goals (go_wp2; go_ret; exact ⟨rfl, rfl⟩)
def zn9 (l : List UInt8) : AV := if l.length = 0 then .raw (.slice none 0 0) else .list l.length (Enc.cellsL l) (.own 0)
def zjn (s : Nat) (u : Bool) (l : List UInt8) : List AV := [bif u then .ptr s 0 else .raw (.pointer none), zn9 l]
theorem zde {l : List UInt8} (h : ¬ l.length = 0) : zn9 l = .list l.length (Enc.cellsL l) (.own 0) := by unfold zn9; rw [if_neg h]
theorem zrw (b : List UInt8) : (byteCells (bs b)).map AV.raw = Enc.cellsL b := by
 simp [byteCells, bs]
 rfl
theorem rd_buf (l : List UInt8) : rd Tryz.prog 47 [zn9 l] = some (zn9 l) := by
 unfold zn9; split <;> rfl
theorem zyc (l : List UInt8) : zfk (zn9 l) = true ∧ cellsOf (zn9 l) = [zn9 l] := by
 unfold zn9; split <;> exact ⟨rfl, rfl⟩
theorem app_buf {bx : List (TypeId × List AV)} {ρ : Operand → AV} {o : Oper} {x y : Operand} (l b : List UInt8) (g : (l.length + b.length) * 1 ≤ 140737488355328) (ho : o.op = .call ⟨.builtin .append, #[x, y], #[47, 9]⟩) (hx : ρ x = zn9 l) (hy : ρ y = .raw (.string (bs b))) :
 AopR Tryz.prog ρ (z7 bx 5 l.length 1) o (zn9 (l ++ b)) (z7 bx 5 (l ++ b).length 1) := by
 have hmax : 140737488355328 ≤ maxLen := by decide
 have hbs : (bs b).size = b.length := rfl
 have hbc := zrw b
 by_cases hl : l.length = 0
 ·have hl0 := List.length_eq_zero_iff.1 hl
  subst hl0
  refine .inr (.inr (.inl ?_))
  have hn : zor (ρ x) = true := by rw [hx]; rfl
  simp only [zob, ho, hn, if_true]
  rw [hy]
  by_cases hb : b.length = 0
  ·have hb0 := List.length_eq_zero_iff.1 hb
   subst hb0
   rfl
  ·have h1 : ¬ (bs b).size = 0 := by rw [hbs]; exact hb
   simp only [zwe, if_neg h1]
   have hc : ([] : List AV).length = 0 * 1 ∧ True ∧ 0 < (bs b).size ∧ True ∧ 0 < 1 ∧ 0 + (bs b).size ≤ maxLen ∧ (0 + (bs b).size) * 1 ≤ 140737488355328 := ⟨rfl, trivial, by rw [hbs]; omega, trivial, by decide, by rw [hbs]; omega, by rw [hbs]; omega⟩
   have hi : ∃ i z, Tryz.prog.info? 5 = some i ∧ i.zero = some z ∧ i.size = 1 ∧ z.cells.size = 1 ∧ i.bytes = 1 := ⟨_, _, rfl, rfl, rfl, rfl, rfl⟩
   obtain ⟨i, z, i1, i2, i3, i4, i5⟩ := hi
   have u1 : Tryz.prog.underlying 47 = some (.slice 5) := by kernel_rfl
   simp only [zjc, u1, und9, i1, i2, i3, i4, i5]
   rw [if_neg (fun h => h1 h.1), if_pos hc, hbc, zde (by simpa using hb)]
   simp [z7, hb, hbs]
 ·by_cases hb : b.length = 0
  ·have hb0 := List.length_eq_zero_iff.1 hb
   subst hb0
   refine .inl ?_
   have hq : qop Tryz.prog ρ (z7 bx 5 l.length 1) o = none := by
    simp only [qop, ho, hx, hy, zde hl]
    first | done | simp [zda, ho, Op.operands, Call.operands, hx, hy, zde hl, zcf]
   have hi : ∃ i z, Tryz.prog.info? 5 = some i ∧ i.zero = some z ∧ i.size = 1 := ⟨_, _, rfl, rfl, rfl⟩
   obtain ⟨i, z, i1, i2, i3⟩ := hi
   have u1 : Tryz.prog.underlying 47 = some (.slice 5) := by kernel_rfl
   simp only [aop, hq, ho]
   rw [if_neg (by decide), hx, hy, zde hl]
   simp only [zjc, u1, und9, i1, i2, i3]
   rw [if_pos ⟨rfl, trivial⟩, List.append_nil, zde hl]
  ·refine .inl ?_
   have hq : qop Tryz.prog ρ (z7 bx 5 l.length 1) o = none := by
    simp only [qop, ho, hx, hy, zde hl]
    first | done | simp [zda, ho, Op.operands, Call.operands, hx, hy, zde hl, zcf]
   have hi : ∃ i z, Tryz.prog.info? 5 = some i ∧ i.zero = some z ∧ i.size = 1 ∧ z.cells.size = 1 ∧ i.bytes = 1 := ⟨_, _, rfl, rfl, rfl, rfl, rfl⟩
   obtain ⟨i, z, i1, i2, i3, i4, i5⟩ := hi
   have u1 : Tryz.prog.underlying 47 = some (.slice 5) := by kernel_rfl
   have h1 : ¬ (bs b).size = 0 := by rw [hbs]; exact hb
   have hc : (Enc.cellsL l).length = l.length * 1 ∧ True ∧ 0 < (bs b).size ∧ True ∧ 0 < 1 ∧ l.length + (bs b).size ≤ maxLen ∧ (l.length + (bs b).size) * 1 ≤ 140737488355328 := ⟨Enc.lenL l, trivial, by rw [hbs]; omega, trivial, by decide, by rw [hbs]; omega, by rw [hbs]; omega⟩
   have hlen : (Enc.cellsL l).length = l.length := by rw [hc.1, Nat.mul_one]
   simp only [aop, hq, ho]
   rw [if_neg (by decide), hx, hy, zde hl]
   simp only [zjc, u1, und9, i1, i2, i3, i4, i5]
   have hown : (z7 bx 5 l.length 1).lens[0]? = some (Enc.cellsL l).length ∧ (z7 bx 5 l.length 1).elems[0]? = some 5 ∧ 0 < l.length := ⟨by simp [z7, hl, hlen], by simp [z7, hl], by omega⟩
   rw [if_neg (fun h => h1 h.1), if_pos hc, hbc, if_pos hown, zde (by rw [List.length_append]; omega), Enc.app]
   simp [z7, hl, hbs]
section
variable {IT : IterP} {P : Program} {W : Owed} {k0 : Nat}
theorem w_opR {ops : Array Oper} {Q : List AV → St → Prop} {o : Oper} {l : List Oper} {S S' : List AV} {σ σ' : St} {a : AV} (hg : o.guard = none) (hc : zci S o = none) (hy : zcv S o = none) (h : AopR P (zbz S) σ o a σ') (hS : z6 S o.dst a = S') (k : zbw IT P W ops Q l S' σ') : zbw IT P W ops Q (o :: l) S σ := by
 simp only [zbw, hg, zed, hc, hy]
 exact .inl ⟨a, σ', h, by rw [hS]; exact k⟩
theorem ends_id {P : Program} {n m : Nat} {σ : St} {a : AV} : zyr P n m σ a a σ := fun X Y v hE _ _ hI hv => ⟨Y, rfl, hE, hI, hv⟩
theorem end_id {P : Program} {fn : Func} {S : List AV} {σ : St} {n m : Nat} {a r : AV} (h : zbl P fn σ S = some a) (hr : a = r) : aendS P fn n m r σ .ret S σ := ⟨a, h, hr ▸ ends_id⟩
end
theorem zz7 {α : Type} {l : List α} {s : Nat} {a : α} (h : l[s]? = some a) : l.set s a = l := by
 apply List.ext_getElem?
 intro i
 by_cases e : s = i
 ·subst e
  have := (List.getElem?_eq_some_iff.1 h).1
  rw [List.getElem?_set_self this, h]
 ·rw [List.getElem?_set_ne e]
theorem cc_snd {bx : List (TypeId × List AV)} {s n : Nat} {u : Bool} {x : AV} (hb : bx[s]? = some (87, [bif u then .ptr s 0 else .raw (.pointer none), x])) : Snd (ITP Tryz.prog) Tryz.prog 67 [.ptr s 0] (z7 bx 5 n 1) (.tup []) (z7 (bx.set s (87, [.ptr s 0, x])) 5 n 1) := by
 cases u with
 | false => exact zw2 (σ := z7 bx 5 n 1) (s := s) (x := x) hb
 | true =>
  have hb' : bx[s]? = some (87, [.ptr s 0, x]) := hb
  rw [zz7 hb']
  exact zy7 (σ := z7 bx 5 n 1) (s := s) (x := x) hb
theorem ent46 : Ent Tryz.prog 46 := enters_of Tryz.func46 (by kernel_rfl) rfl
set_option maxRecDepth 100000 in
set_option maxHeartbeats 4000000 in
theorem zjm {bx : List (TypeId × List AV)} {s : Nat} {u : Bool} {l b : List UInt8} (g : (l.length + b.length) * 1 ≤ 140737488355328) (hb : bx[s]? = some (87, zjn s u l)) :
 Snd (ITP Tryz.prog) Tryz.prog 46 [.ptr s 0, .raw (.string (bs b))] (z7 bx 5 l.length 1) (.tup [.raw (.int .i64 b.length), .raw .nilIface]) (z7 (bx.set s (87, zjn s true (l ++ b))) 5 (l ++ b).length 1) := by
 obtain ⟨d, hd⟩ : ∃ d, Tryz.f46.body = some d := ⟨_, rfl⟩
 refine zut mix Tryz.func46 hd ent46 ?_
 cases hd
 have hs : s < bx.length := (List.getElem?_eq_some_iff.1 hb).1
 refine zmg (by dsimp only [zdb, Tryz.f46, List.length_cons, List.length_nil, Nat.zero_add, Nat.reduceAdd, Nat.reduceSub, List.replicate, List.cons_append, List.nil_append]) rfl ?_
 refine zj (zc ?_)
 refine zgp (a := .raw (.int .i64 0)) rfl rfl rfl rfl (by dsimp only [z6, List.set]) ?_
 refine zgp (a := .raw .nilIface) rfl rfl rfl rfl (by dsimp only [z6, List.set]) ?_
 refine zj (zc ?_)
 refine zgp (a := .ptr s 0) rfl rfl rfl rfl (by dsimp only [z6, List.set]) ?_
 refine zlp (cc_snd hb) rfl rfl ⟨rfl, rfl⟩ (by dsimp only [z6, List.set]) ?_
 have hb1 : (bx.set s (87, [.ptr s 0, zn9 l]))[s]? = some (87, [.ptr s 0, zn9 l]) := List.getElem?_set_self hs
 have hfin : (bx.set s (87, [.ptr s 0, zn9 l])).set s (87, zjn s true (l ++ b)) = bx.set s (87, zjn s true (l ++ b)) := List.set_set ..
 generalize bx.set s (87, [.ptr s 0, zn9 l]) = bx1 at hb1 hfin
 rw [← hfin]
 refine zj (zc ?_)
 refine zgp (a := .ptr s 0) rfl rfl rfl rfl (by dsimp only [z6, List.set]) ?_
 refine zgp (a := .ptr s 0) rfl rfl rfl rfl (by dsimp only [z6, List.set]) ?_
 refine zgp (a := .ptr s 0) rfl rfl rfl rfl (by dsimp only [z6, List.set]) ?_
 refine zgp (a := .ptr s 1) rfl rfl rfl rfl (by dsimp only [z6, List.set]) ?_
 refine zgp rfl rfl rfl (op_load (a := zn9 l) (.ptr s 1) rfl rfl (by show (match bx1[s]? with | some bx => rd Tryz.prog 47 (bx.2.drop 1) | none => none) = _; rw [hb1]; exact rd_buf l)) (by dsimp only [z6, List.set]) ?_
 refine zgp (a := .raw (.string (bs b))) rfl rfl rfl rfl (by dsimp only [z6, List.set]) ?_
 refine w_opR rfl rfl rfl (app_buf l b g rfl rfl rfl) (by dsimp only [z6, List.set]) ?_
 refine zgp (a := .ptr s 0) rfl rfl rfl rfl (by dsimp only [z6, List.set]) ?_
 refine zgp (a := .ptr s 1) rfl rfl rfl rfl (by dsimp only [z6, List.set]) ?_
 refine zga (σ'' := z7 (bx1.set s (87, zjn s true (l ++ b))) 5 (l ++ b).length 1) rfl rfl rfl (zca (n := 1) (v := zn9 (l ++ b)) (bx := (87, [.ptr s 0, zn9 l])) rfl rfl rfl hb1 rfl ⟨(zyc _).1, by rw [(zyc _).2]; rfl, Nat.le_refl 2, Nat.one_pos⟩) (by dsimp only [z6, List.set]) (by rw [(zyc _).2]; rfl) ?_
 refine zj (zc ?_)
 refine zgp (a := .raw (.string (bs b))) rfl rfl rfl rfl (by dsimp only [z6, List.set]) ?_
 refine zgp (a := .raw (.int .i64 b.length)) rfl rfl rfl (zv (zba rfl rfl rfl)) (by dsimp only [z6, List.set]) ?_
 refine zgp (a := .raw (.int .i64 b.length)) rfl rfl rfl rfl (by dsimp only [z6, List.set]) ?_
 refine zgp (a := .raw .nilIface) rfl rfl rfl rfl (by dsimp only [z6, List.set]) ?_
 exact end_id rfl rfl
theorem zub {n s : Nat} {u : Bool} {l : List UInt8} (h : s < n) : zx n (zjn s u l) = true := by
 have h1 : za4 n (zn9 l) = true := by
  unfold zn9
  split
  ·rfl
  ·rw [za4, zak n _ (Enc.cloL l)]
 have h2 : za4 n (bif u then .ptr s 0 else .raw (.pointer none)) = true := by
  cases u with
  | true => show decide (s < n) = true; exact decide_eq_true h
  | false => rfl
 unfold zjn
 rw [zx, zx, h1, h2, zx]; rfl
theorem zh1 : ∀ l : List UInt8, zet (Enc.cellsL l) = some l
 | [] => rfl
 | a :: l => by
  show zet (.raw (.int .u8 ((a.toNat : Nat) : Int)) :: Enc.cellsL l) = _
  have h := a.toNat_lt
  have h1 : (0 : Int) ≤ ((a.toNat : Nat) : Int) ∧ ((a.toNat : Nat) : Int) < 256 := by omega
  rw [zet, if_pos h1, zh1 l]
  simp
theorem zj3 {bx : List (TypeId × List AV)} {s : Nat} {u : Bool} {l : List UInt8} (hb : bx[s]? = some (87, zjn s u l)) : Snd (ITP Tryz.prog) Tryz.prog 49 [.ptr s 0] (z7 bx 5 l.length 1) (.raw (.string (bs l))) (z7 bx 5 l.length 1) := by
 by_cases hl : l.length = 0
 ·have hl0 := List.length_eq_zero_iff.1 hl
  subst hl0
  refine ⟨ent49, fun X us hI hr => ?_⟩
  obtain ⟨a, l', rfl, ⟨b, hκ, rfl⟩, hl'⟩ := hr
  have hl' : l' = [] := hl'
  subst hl'
  obtain ⟨vs, zs, u1, u2, u3⟩ := hI.box s b 87 _ hκ hb
  obtain ⟨a0, r0, rfl, h0, a1, r1, rfl, hx, h5⟩ := u2
  have h5 : r1 = [] := h5
  subst h5
  have hx : a1 = .slice none 0 0 := hx
  subst hx
  refine (z04 b X.w (by simp [World.cell?, u1])).mono ?_
  rintro e w' ⟨rfl, rfl⟩
  obtain ⟨d1, d2⟩ := zjv (za5 _) hI
  exact ⟨_, _, rfl, rfl, d1, d2, rfl⟩
 ·have hb' : (z7 bx 5 l.length 1).boxes[s]? = some (87, [bif u then .ptr s 0 else .raw (.pointer none), .list l.length (Enc.cellsL l) (.own 0)]) := by
   rw [← zde hl]; exact hb
  exact zy3 (s := s) (k := 0) hb' (zh1 l) (by simp [z7, hl]) (by rw [Enc.lenL]; show l.length * 1 = _; omega) (by omega) (by simp [z7, hl])
end Go.Ab
set_option linter.unusedSimpArgs false
set_option linter.unusedVariables false
namespace Go.Ab
open Go Go.RowKit Go.Fwd
def zkt (n : Nat) (i j : Int) (st : Room) : Room := if i.toNat = 0 ∧ j.toNat = n then st else if j.toNat = n ∧ st = .full then .full else .none
theorem zvl {α : Type} (l : List α) {i j : Int} (g : 0 ≤ i ∧ i ≤ j ∧ j ≤ (l.length : Int)) : (sub l i j).length = j.toNat - i.toNat := by
 simp only [sub, List.length_take, List.length_drop]; omega
theorem zq6 {α : Type} [Enc α] (l : List α) {i j : Int} (g : 0 ≤ i ∧ i ≤ j ∧ j ≤ (l.length : Int)) : ((Enc.cellsL l).drop (i.toNat * Enc.sz α)).take ((j.toNat - i.toNat) * Enc.sz α) = Enc.cellsL (sub l i j) := by
 rw [Enc.drop, Enc.take]; rfl
section
variable {P : Program} {ρ : Operand → AV} {σ : St} {o : Oper}
theorem ziq {α : Type} [Enc α] (l : List α) (n : Nat) (st : Room) : zcn (.list n (Enc.cellsL l) st) = .list n (Enc.cellsL l) .none := by
 rw [zcn, Enc.stripL]
theorem zue {α : Type} [Enc α] {l : List α} {x y : Operand} {t e : TypeId} {st : Room} {j : Int} (g : 0 ≤ 0 ∧ 0 ≤ j ∧ j ≤ (l.length : Int)) (ho : o.op = .slice t x none (some y) none) (hx : ρ x = .list l.length (Enc.cellsL l) st) (hy : ρ y = .raw (.int .i64 j)) (hu : P.underlying t = some (.slice e)) (hs : zc7 P e = some (Enc.sz α)) :
 qop P ρ σ o = some (.list (sub l 0 j).length (Enc.cellsL (sub l 0 j)) (zkt l.length 0 j st)) := by
 have hg : (0 : Int) ≤ 0 ∧ 0 ≤ j ∧ j ≤ (l.length : Int) := ⟨Int.le_refl 0, g.2⟩
 have h1 : zgn P t (ρ x) none (some (ρ y)) none = some (.list (sub l 0 j).length (Enc.cellsL (sub l 0 j)) (zkt l.length 0 j st)) := by
  have hj := g.2
  rw [zvl l hg, ← zq6 l hg, hx, hy]
  simp [zgn, hu, hs, ze7, zgo, Enc.lenL, zkt, hj]
 simp only [qop, ho, Option.map, h1]
theorem zfo {x : Operand} {s t : TypeId} {k : IntKind} {n : Int} (g : -9223372036854775808 ≤ n ∧ n < 9223372036854775808) (ho : o.op = .convert s t x) (hx : ρ x = .raw (.int k n)) (hs : val? P (Next.value <$> convert s t (.int k n)) = some (.value (.int .i64 (IntKind.i64.wrap n)))) : qop P ρ σ o = some (.raw (.int .i64 n)) := by
 have h := zf6 g.1 g.2
 rw [h] at hs
 simp [qop, zda, ho, Op.operands, hx, zcf, execOp, zax, hs, zdu]
 exact ⟨rfl, rfl⟩
theorem zih : ∀ l : List UInt8, zj0 (Enc.cellsL l) = some l
 | [] => rfl
 | a :: l => by
  show zj0 (.raw (.int .u8 ((a.toNat : Nat) : Int)) :: Enc.cellsL l) = _
  have h := a.toNat_lt
  simp [zj0, zih l]
  omega
theorem zdc {l : List UInt8} {x : Operand} {s t e : TypeId} {st : Room} (ho : o.op = .convert s t x) (hx : ρ x = .list l.length (Enc.cellsL l) st) (hs : P.underlying s = some (.slice e) ∧ P.underlying e = some (.int .u8)) (ht : P.underlying t = some .string) : qop P ρ σ o = some (.raw (.string (bs l))) := by
 have h : zdu P s t (ρ x) = some (.raw (.string (bs l))) := by
  rw [hx]
  simp only [zdu, hs.1, hs.2, ht, zih, if_true]
  rfl
 simp only [qop, ho, h]
theorem zn4 {t : TypeId} {x y : Operand} {s off n : Nat} {cs : List AV} {bx : TypeId × List AV} (ho : o.op = .store t x y) (hx : ρ x = .ptr s off) (hy : ρ y = zc3 n cs) (hb : σ.boxes[s]? = some bx) (hn : zc7 P t = some 1) (hl : off + 1 ≤ bx.2.length) :
 aop P ρ σ o = some (.raw undef, { σ with boxes := σ.boxes.set s (bx.1, bx.2.take off ++ [zc3 n cs] ++ bx.2.drop (off + 1)) }) := by
 have h1 : cellsOf (zc3 n cs) = [zc3 n cs] := by unfold zc3; split <;> rfl
 have h2 : zfk (zc3 n cs) = true := by unfold zc3; split <;> rfl
 rw [zca (n := 1) ho hx hy hb hn ⟨h2, by rw [h1]; rfl, hl, by decide⟩, h1]
def zqq (t : Trc) (st : Room) : AV := .agg [.list t.l.length (Enc.cellsL t.l) st, .raw (.int .u8 t.e.k), .raw (.int .i64 t.e.c)]
theorem zbf (t : Trc) (st : Room) : zcn (zqq t st) = .agg (Enc.cells t) := by
 simp only [zqq, zcn, stripL, Enc.stripL]; rfl
end
end Go.Ab
set_option linter.unusedSimpArgs false
set_option linter.unusedVariables false
namespace Go.Ab
open Go Go.RowKit Go.Fwd Go.Proofs
structure QSet where
 deriving DecidableEq
def zgi : List AV := [.raw (.int .u64 17179869184), .raw (.int .u64 0), .raw (.int .u64 0), .raw (.int .u64 0)]
instance : Enc QSet where
 inh := ⟨⟩
 cells _ := zgi
 cellsL l := l.flatMap fun _ => zgi
 sz := 4
 pos := by decide
 nil := rfl
 cons _ _ := rfl
 len _ := rfl
 clo _ := rfl
def zl2 (n : Nat) : UInt8 := if n < 10 then (48 + n).toUInt8 else (87 + n).toUInt8
def byteP (c : UInt8) : List UInt8 :=
 if c = 10 then [92, 110] else if c = 13 then [92, 114] else if c = 9 then [92, 116]
 else if c < 32 ∨ 126 < c then [92, 120, zl2 (c.toNat / 16), zl2 (c.toNat % 16)]
 else if c = 92 ∨ c = 34 then [92, c] else [c]
def zrf (c : UInt8) : Int :=
 if 48 ≤ c ∧ c ≤ 57 then (c.toNat : Int) - 48 else if 65 ≤ c ∧ c ≤ 70 then (c.toNat : Int) - 55 else if 97 ≤ c ∧ c ≤ 102 then (c.toNat : Int) - 87 else 16
def zel (c : UInt8) : Bool := decide (c = 34)
noncomputable def run1 (f : Nat) (args : List AV) (r : AV) : Bool := match zgx Tryz.prog libP (ev Tryz.prog libP bldS 40) f args with
 | some a => zsv a r
 | none => false
theorem zkr {f : Nat} {args : List AV} {r : AV} (h : run1 f args r = true) : Pure (ITP Tryz.prog) Tryz.prog f args r := by
 unfold run1 at h
 split at h
 ·rename_i a ha
  have := zt zef 40 ha
  rw [ztw _ _ h] at this
  exact this
 ·cases h
theorem zr0 {p : UInt8 → Prop} {q : Nat → Bool} (h : ((List.range 256).all q) = true) (hp : ∀ n : Nat, n < 256 → q n = true → p n.toUInt8) (c : UInt8) : p c := by
 have hc : c.toNat < 256 := c.toNat_lt
 have := hp c.toNat hc (List.all_eq_true.1 h c.toNat (List.mem_range.2 hc))
 simpa using this
set_option maxRecDepth 100000 in
theorem z1r : ((List.range 256).all fun n => run1 106 [.raw (.int .u8 (n : Int)), .agg zgi] (.raw (.string (bs (byteP n.toUInt8))))) = true := by kernel_rfl
set_option maxRecDepth 100000 in
theorem nib_tab : ((List.range 256).all fun n => run1 95 [.raw (.int .u8 (n : Int))] (.raw (.int .i64 (zrf n.toUInt8)))) = true := by kernel_rfl
set_option maxRecDepth 100000 in
theorem z0u : ((List.range 256).all fun n => run1 93 [.agg zgi, .raw (.int .u8 (n : Int))] (.raw (.bool (zel n.toUInt8)))) = true := by kernel_rfl
theorem zw0 {n : Nat} (h : n < 256) : ((n.toUInt8.toNat : Nat) : Int) = (n : Int) := by simp; omega
theorem zw4 (c : UInt8) : Pure (ITP Tryz.prog) Tryz.prog 106 [.raw (.int .u8 ((c.toNat : Nat) : Int)), .agg zgi] (.raw (.string (bs (byteP c)))) :=
 zr0 (p := fun c => Pure (ITP Tryz.prog) Tryz.prog 106 [.raw (.int .u8 ((c.toNat : Nat) : Int)), .agg zgi] (.raw (.string (bs (byteP c))))) z1r (fun n hn h => by rw [zw0 hn]; exact zkr h) c
theorem zl4 (c : UInt8) : Pure (ITP Tryz.prog) Tryz.prog 95 [.raw (.int .u8 ((c.toNat : Nat) : Int))] (.raw (.int .i64 (zrf c))) :=
 zr0 (p := fun c => Pure (ITP Tryz.prog) Tryz.prog 95 [.raw (.int .u8 ((c.toNat : Nat) : Int))] (.raw (.int .i64 (zrf c)))) nib_tab (fun n hn h => by rw [zw0 hn]; exact zkr h) c
theorem zgz (c : UInt8) : Pure (ITP Tryz.prog) Tryz.prog 93 [.agg zgi, .raw (.int .u8 ((c.toNat : Nat) : Int))] (.raw (.bool (zel c))) :=
 zr0 (p := fun c => Pure (ITP Tryz.prog) Tryz.prog 93 [.agg zgi, .raw (.int .u8 ((c.toNat : Nat) : Int))] (.raw (.bool (zel c)))) z0u (fun n hn h => by rw [zw0 hn]; exact zkr h) c
theorem zxi : Pure (ITP Tryz.prog) Tryz.prog 76 [.list 1 [.raw (.int .u8 34)] .none] (.agg zgi) := zkr (by kernel_rfl)
end Go.Ab
set_option linter.unusedSimpArgs false
set_option linter.unusedVariables false
set_option maxRecDepth 100000
namespace Go.Ab
open Go Go.RowKit Go.Fwd Go.Proofs
theorem z1g (l : List UInt8) (c : UInt8) : Pure (ITP Tryz.prog) Tryz.prog 94 [.raw (.string (bs l)), .raw (.int .u8 ((c.toNat : Nat) : Int))] (.raw (.int .i64 (Lib.indexByte l c))) := by
 have h := ixb79 (bs l) ((c.toNat : Nat) : Int)
 rwa [show ((c.toNat : Nat) : Int).toNat.toUInt8 = c by simp] at h
theorem zn0 (n : Int) (h : -9223372036854775808 ≤ n ∧ n < 9223372036854775808) : Pure (ITP Tryz.prog) Tryz.prog 68 [.raw (.int .i64 n)] (.raw (.string (bs (Lib.itoa n)))) := itoa51 n h
theorem zmb (l p : List UInt8) (h : l.length < 4294967281) : Pure (ITP Tryz.prog) Tryz.prog 26 [.raw (.string (bs l)), .raw (.string (bs p))] (.tup [.raw (.string (bs (Lib.cut l p).1)), .raw (.string (bs (Lib.cut l p).2.1)), .raw (.bool (Lib.cut l p).2.2)]) := cut37 (bs l) (bs p) h
def zmv (l : List UInt8) : Int := match Lib.atoiAll l with
 | .ok v => v
 | Go.Lib.NumEnd.syntax => 0
 | .range => Lib.atoiSat l
theorem z1h {P : Program} {IT : IterP} {f : FuncId} {args : List AV} {a : AV} {v : Value} (h : Pure IT P f args (.tup [a, .raw v])) : Pure IT P f args (.tup [a, .top]) := by
 refine ⟨h.1, fun X us hI hr => (h.2 X us hI hr).mono ?_⟩
 rintro e w' ⟨u, Y, h1, h2, h3, h4, h5⟩
 refine ⟨u, Y, h1, h2, h3, h4, ?_⟩
 obtain ⟨vs, rfl, x, r, rfl, h6, y, r2, rfl, h7, h8⟩ := h5
 exact ⟨_, rfl, x, _, rfl, h6, y, _, rfl, trivial, h8⟩
theorem zn7 (l : List UInt8) (h : l.length ≤ 281474976710656) : Pure (ITP Tryz.prog) Tryz.prog 55 [.raw (.string (bs l))] (.tup [.raw (.int .i64 (zmv l)), .top]) := by
 unfold zmv
 split
 ·rename_i v hv; exact z1h (zy4 (bs l) v (by show l.length ≤ _; omega) hv)
 ·rename_i hv; exact zuj (bs l) h hv
 ·rename_i hv; exact zu9 (bs l) h hv
section
variable {P : Program} {ρ : Operand → AV} {σ : St} {o : Oper}
theorem zud {l : List UInt8} {x : Operand} {s t e : TypeId} (ho : o.op = .convert s t x) (hx : ρ x = zc3 l.length (Enc.cellsL l)) (hs : P.underlying s = some (.slice e) ∧ P.underlying e = some (.int .u8)) (ht : P.underlying t = some .string) : qop P ρ σ o = some (.raw (.string (bs l))) := by
 have h : zdu P s t (ρ x) = some (.raw (.string (bs l))) := by
  rw [hx]
  unfold zc3
  split
  ·rename_i h0
   have := List.length_eq_zero_iff.1 h0
   subst this
   simp only [zdu, hs.1, hs.2, ht]
   rfl
  ·simp only [zdu, hs.1, hs.2, ht, zih, if_true]
   rfl
 simp only [qop, ho, h]
end
structure Kd where
 w : List UInt8
 f : Nat
def zml (e : Kd) : List AV := [.raw (.string (bs e.w)), .clos e.f []]
instance : Enc Kd where
 inh := ⟨[], 0⟩
 cells := zml
 cellsL l := l.flatMap zml
 sz := 2
 pos := by decide
 nil := rfl
 cons _ _ := rfl
 len _ := rfl
 clo _ := rfl
def zbe (k : Int) : Kd := if k = 1 then ⟨[115, 101, 110, 100], 73⟩ else if k = 2 then ⟨[116, 97, 107, 101], 72⟩ else ⟨[108, 111, 115, 101], 72⟩
def kindsA : AV := .agg ([.raw (.string (bs [])), .raw .nilFunc] ++ zml (zbe 1) ++ zml (zbe 2) ++ zml (zbe 3))
theorem zo6 : Pure (ITP Tryz.prog) Tryz.prog 56 [] kindsA := zkr (by kernel_rfl)
theorem z2c {ρ : Operand → AV} {σ : St} {o : Oper} {x i : Operand} {k : Int} (g : 1 ≤ k ∧ k ≤ 3) (ho : o.op = .index 99 x i) (hx : ρ x = kindsA) (hi : ρ i = .raw (.int .u8 k)) : qop Tryz.prog ρ σ o = some (.agg (Enc.cells (zbe k))) := by
 have h : k = 1 ∨ k = 2 ∨ k = 3 := by omega
 rcases h with rfl | rfl | rfl <;> (simp only [qop, ho, hx, hi]; rfl)
theorem kind_f1 {k : Int} (h : (k == 1) = true) : (zbe k).f = 73 := by rw [beq_iff_eq] at h; subst h; rfl
theorem kind_f2 {k : Int} (h : (k == 1) = false) : (zbe k).f = 72 := by
 have h1 : ¬ k = 1 := by simpa using h
 unfold zbe; rw [if_neg h1]; split <;> rfl
def zas (e : Int) : UInt8 := UInt8.ofNat e.toNat
theorem u8c {e : Int} (g : 0 ≤ e ∧ e < 256) : ((zas e).toNat : Int) = e := by
 unfold zas
 have h : e.toNat < 256 := by omega
 rw [show (UInt8.ofNat e.toNat).toNat = e.toNat by simp; omega]
 omega
section
variable {IT : IterP} {P : Program} {W : Owed}
theorem zm {ops ops0 : Array Oper} {Q : List AV → St → Prop} {o : Oper} {l : List Oper} {S : List AV} {σ : St} {kb : Nat} {b : Bool} (hops : ops = ops0) (hg : o.guard = some (kb, b)) (hk : zc4 ops0 S kb = some (some b)) (k : zbw IT P W ops Q ({ o with guard := none } :: l) S σ) : zbw IT P W ops Q (o :: l) S σ :=
 zai hg (by rw [hops]; exact hk) k
end
end Go.Ab
