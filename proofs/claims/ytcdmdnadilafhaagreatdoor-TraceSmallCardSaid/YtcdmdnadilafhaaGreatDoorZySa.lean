/-
  slices.Repeat.
-/
import Derived.Test.YtcdmdnadilafhaaGreatDoorZdStr
import Derived.Test.YtcdmdnadilafhaaGreatDoorZyQc
import Derived.Test.YtcdmdnadilafhaaGreatDoorZdQr
set_option linter.unusedSimpArgs false
set_option linter.unusedVariables false
namespace Go.Ab
open Go Go.RowKit Go.Fwd
def cpy {α : Type} (l : List α) (o : Nat) (r : List α) : List α := l.take o ++ r ++ l.drop (o + r.length)
section
variable {P : Program} {ρ : Operand → AV} {σ : St} {o : Oper} {α : Type} [Enc α]
theorem zh6 {t e : TypeId} {x i : Operand} {s n : Nat} {f : Bool} {k : IntKind} {j : Int} (g : 0 ≤ j ∧ j < n) (ho : o.op = .slice t x (some i) none none) (hx : ρ x = .bsl s 0 n (Enc.sz α) f) (hi : ρ i = .raw (.int k j)) (hu : P.underlying t = some (.slice e)) (hs : zc7 P e = some (Enc.sz α)) :
 qop P ρ σ o = some (.bsl s (j.toNat * Enc.sz α) (n - j.toNat) (Enc.sz α) f) := by
 have h4 : ze7 n (some (.raw (.int k j))) none none = some (j.toNat, n, false) := by
  have c : 0 ≤ j ∧ j ≤ (n : Int) := by omega
  simp only [ze7, zgo, if_pos c]
 have hlt : j.toNat < n := by omega
 simp only [qop, ho, hx, hi, Option.map_some, Option.map_none, zgn, hu, hs, h4, if_true, if_pos hlt, Nat.zero_add]
 simp
theorem zh3 {t e : TypeId} {x i : Operand} {s n : Nat} {f : Bool} {k : IntKind} {j : Int} (g : 0 < j ∧ j ≤ n) (ho : o.op = .slice t x none (some i) none) (hx : ρ x = .bsl s 0 n (Enc.sz α) f) (hi : ρ i = .raw (.int k j)) (hu : P.underlying t = some (.slice e)) (hs : zc7 P e = some (Enc.sz α)) :
 qop P ρ σ o = some (.bsl s 0 j.toNat (Enc.sz α) (f && (j.toNat == n))) := by
 have h4 : ze7 n none (some (.raw (.int k j))) none = some (0, j.toNat, false) := by
  have c : 0 ≤ j ∧ j ≤ (n : Int) := by omega
  simp only [ze7, zgo, if_pos c]
 have hlt : 0 < j.toNat := by omega
 simp only [qop, ho, hx, hi, Option.map_some, Option.map_none, zgn, hu, hs, h4, if_true, if_pos hlt, Nat.zero_add, Nat.zero_mul, Nat.sub_zero]
 simp
theorem cp_list {r : List α} {st : Room} : zi5 σ (Enc.sz α) (.list r.length (Enc.cellsL r) st) = some (r.length, Enc.cellsL r) := by
 simp only [zi5, Enc.lenL, Enc.pos, and_self, if_true]
theorem cp_box {l : List α} {s o2 n2 : Nat} {f : Bool} {t0 : TypeId} (hb : σ.boxes[s]? = some (t0, Enc.cellsL l)) (h : o2 + n2 ≤ l.length) : zi5 σ (Enc.sz α) (.bsl s (o2 * Enc.sz α) n2 (Enc.sz α) f) = some (n2, Enc.cellsL ((l.drop o2).take n2)) := by
 unfold zi5
 simp only [hb]
 rw [if_pos ⟨trivial, by rw [Enc.lenL, ← Nat.add_mul]; exact Nat.mul_le_mul_right _ h⟩, Enc.drop, Enc.take]
theorem zzi {l : List α} {s n2 : Nat} {f : Bool} {t0 : TypeId} (hb : σ.boxes[s]? = some (t0, Enc.cellsL l)) (h : n2 ≤ l.length) : zi5 σ (Enc.sz α) (.bsl s 0 n2 (Enc.sz α) f) = some (n2, Enc.cellsL (l.take n2)) := by
 have := cp_box (α := α) (o2 := 0) (f := f) hb (by omega : 0 + n2 ≤ l.length)
 rw [Nat.zero_mul, List.drop_zero] at this
 exact this
theorem znh {c : Call} {x y : Operand} {t t' e : TypeId} {i : TypeInfo} {s n m o1 off : Nat} {f : Bool} {l r : List α} {t0 : TypeId} (g : o1 + n ≤ l.length ∧ 0 < l.length) (hoff : off = o1 * Enc.sz α) (ho : o.op = .call c) (hc : c.callee = .builtin .copy) (ha : c.args.toList = [x, y]) (ht : c.argTypes.toList = [t, t'])
 (hx : ρ x = .bsl s off n (Enc.sz α) f) (hb : σ.boxes[s]? = some (t0, Enc.cellsL l)) (hu : P.underlying t = some (.slice e)) (hi : P.info? e = some i) (hsz : i.size = Enc.sz α) (hsrc : zi5 σ (Enc.sz α) (ρ y) = some (m, Enc.cellsL r)) (hr : r.length = m) :
 zob P ρ σ o = some (.raw (.int .i64 ((Nat.min m n : Nat) : Int)), { σ with boxes := σ.boxes.set s (t0, Enc.cellsL (cpy l o1 (r.take (Nat.min m n)))) }) := by
 subst hoff
 have hk : Nat.min m n ≤ m := Nat.min_le_left _ _
 have hk2 : Nat.min m n ≤ n := Nat.min_le_right _ _
 have hne : (Enc.cellsL l).isEmpty = false := by
  have h1 := Enc.lenL l
  have h2 := Enc.pos (α := α)
  have h3 : 0 < l.length * Enc.sz α := Nat.mul_pos g.2 h2
  cases hcl : Enc.cellsL l with
  | nil => rw [hcl] at h1; simp at h1; omega
  | cons a b => rfl
 have hfit : o1 * Enc.sz α + Nat.min m n * Enc.sz α ≤ (Enc.cellsL l).length := by
  rw [Enc.lenL, ← Nat.add_mul]
  exact Nat.mul_le_mul_right _ (by omega)
 have hlen : (r.take (Nat.min m n)).length = Nat.min m n := by rw [List.length_take]; omega
 simp only [zob, ho, hc, ha, ht, zx8, hu, hx, hi, hb, hsz, hsrc, true_and]
 rw [if_pos ⟨hne, hfit⟩, cpy, hlen, Enc.app, Enc.app, Enc.take, Enc.take, ← Nat.add_mul, Enc.drop]
theorem zyk {t e : TypeId} {x y : Operand} {i : TypeInfo} {z : Value} {k k' : IntKind} {j : Int} {by' : Nat} (zero : α) (g : 0 ≤ j ∧ (by' : Int) * j ≤ 281474976710656) (ho : o.op = .makeSlice t x y) (hx : ρ x = .raw (.int k j)) (hy : ρ y = .raw (.int k' j)) (hu : P.underlying t = some (.slice e)) (hi : P.info? e = some i) (hz : i.zero = some z)
 (hsz : i.size = Enc.sz α) (h1 : (decide (1 < i.size) && z.cells.toList.all (·.oneCell') && decide (z.cells.size = i.size)) = true) (hzero : z.cells.toList.map zdn = Enc.cells zero) (hby : i.bytes = by' ∧ 0 < by') :
 zob P ρ σ o = some (.bsl σ.boxes.length 0 j.toNat (Enc.sz α) true, { σ with boxes := σ.boxes ++ [(e, Enc.cellsL (List.replicate j.toNat zero))] }) := by
 simp only [Bool.and_eq_true, decide_eq_true_eq] at h1
 obtain ⟨⟨h1, h2⟩, h3⟩ := h1
 obtain ⟨rfl, hp⟩ := hby
 have hj : j ≤ 9223372036854775807 := by
  have h5 : j ≤ (i.bytes : Int) * j := by
   have h6 : (1 : Int) * j ≤ (i.bytes : Int) * j := Int.mul_le_mul_of_nonneg_right (by omega) g.1
   omega
  omega
 have hflat : ∀ n : Nat, ((List.replicate n z.cells.toList).flatten).map zdn = Enc.cellsL (List.replicate n zero) := by
  intro n
  induction n with
  | zero => simp [Enc.nil]
  | succ n ih => rw [List.replicate_succ, List.flatten_cons, List.map_append, ih, hzero, List.replicate_succ, Enc.cons]
 simp only [zob, ho, zwt, zre, hx, hy, hu, hi, hz]
 rw [if_neg (fun h => by omega)]
 simp only
 rw [if_pos ⟨trivial, g.1, hj, g.2, h2, h3⟩, hflat, hsz]
theorem zx4 {t e : TypeId} {x y : Operand} {i : TypeInfo} {z : Value} {k k' : IntKind} {j : Int} {by' : Nat} (zero : α) (g : 0 ≤ j ∧ (by' : Int) * j ≤ 281474976710656) (ho : o.op = .makeSlice t x y) (hx : ρ x = .raw (.int k j)) (hy : ρ y = .raw (.int k' j)) (hu : P.underlying t = some (.slice e)) (hi : P.info? e = some i) (hz : i.zero = some z)
 (hsz : Enc.sz α = 1) (h1 : (decide (i.size = 1) && z.cells.toList.all (·.oneCell') && decide (z.cells.size = 1)) = true) (hzero : [zdn (z.cells[0]!)] = Enc.cells zero) (hby : i.bytes = by' ∧ 0 < by') :
 zob P ρ σ o = some (.bsl σ.boxes.length 0 j.toNat 1 true, { σ with boxes := σ.boxes ++ [(e, Enc.cellsL (List.replicate j.toNat zero))] }) := by
 simp only [Bool.and_eq_true, decide_eq_true_eq] at h1
 obtain ⟨⟨h1, h2⟩, h3⟩ := h1
 obtain ⟨rfl, hp⟩ := hby
 have hj : j ≤ 9223372036854775807 := by
  have h5 : j ≤ (i.bytes : Int) * j := by
   have h6 : (1 : Int) * j ≤ (i.bytes : Int) * j := Int.mul_le_mul_of_nonneg_right (by omega) g.1
   omega
  omega
 have hflat : ∀ n : Nat, List.replicate n (zdn (z.cells[0]!)) = Enc.cellsL (List.replicate n zero) := by
  intro n
  induction n with
  | zero => simp [Enc.nil]
  | succ n ih => rw [List.replicate_succ, List.replicate_succ, Enc.cons, ih, ← hzero]; rfl
 simp only [zob, ho, zwt, hx, hy, hu, hi, hz]
 rw [if_pos ⟨trivial, g.1, hj, g.2, h2, h3, h1⟩, hflat]
end
theorem z10 {IT : IterP} {P : Program} {W : Owed} {k0 : Nat} {id : Nat} {ops : Array Oper} {Q : AQ} {S : List AV} {σ : St} (S1 : List AV) (σ1 : St) (h : zma IT P W ops (fun S σ => S = S1 ∧ σ = σ1) ops.size (Array.replicate ops.size false) S σ) (hrest : Q .normal S1 σ1) : awp IT P W k0 (.region id ops true) Q S σ :=
 .inr (.inr (.inl (ze2 (fun S σ hw => by obtain ⟨rfl, rfl⟩ := hw; exact hrest) _ _ _ _ h)))
theorem zof {m d : Nat} : ∀ {bs : List (TypeId × List AV)} {bx : TypeId × List AV}, (bs.all fun b => cloL b.2) = true → zbx (bs ++ [bx]) m bs.length [] [] d = bs := by
 intro bs bx h
 unfold zbx
 rw [List.take_left' rfl, List.map_nil, List.append_nil]
 apply List.ext_getElem?
 intro i
 rw [List.getElem?_mapIdx]
 cases hb : bs[i]? with
 | none => rfl
 | some b =>
  have hc := List.all_eq_true.1 h b (List.mem_of_getElem? hb)
  simp only [Option.map_some, List.contains_nil, Bool.false_eq_true, if_false, zcp _ _ _ hc]
theorem zek {b : TypeId × List AV} {bs : List (TypeId × List AV)} (h : cloL b.2 = true) (r : (bs.all fun b => cloL b.2) = true) : ((b :: bs).all fun b => cloL b.2) = true := by
 rw [List.all_cons, h, r]; rfl
theorem zdi {IT : IterP} {P : Program} {W : Owed} {α : Type} [Enc α] {ops : Array Oper} {Q : List AV → St → Prop} {o : Oper} {l : List Oper} {S S' : List AV} {σ : St} {t e : TypeId} {x y : Operand} {i : TypeInfo} {z : Value} {k k' : IntKind} {j : Int} {by' : Nat} (zero : α)
 (g : 0 ≤ j ∧ (by' : Int) * j ≤ 281474976710656) (hcl : (σ.boxes.all fun b => cloL b.2) = true) (hel : σ.elems.take σ.lens.length = σ.elems) (hg : o.guard = none) (hca : zci S o = none) (hy0 : zcv S o = none) (ho : o.op = .makeSlice t x y) (hx : zbz S x = .raw (.int k j)) (hy : zbz S y = .raw (.int k' j)) (hu : P.underlying t = some (.slice e)) (hi : P.info? e = some i) (hz : i.zero = some z)
 (hsz : Enc.sz α = 1) (h1 : (decide (i.size = 1) && z.cells.toList.all (·.oneCell') && decide (z.cells.size = 1)) = true) (hzero : [zdn (z.cells[0]!)] = Enc.cells zero) (hby : i.bytes = by' ∧ 0 < by')
 (hS : z6 S o.dst (.list (List.replicate j.toNat zero).length (Enc.cellsL (List.replicate j.toNat zero)) .none) = S') (hk : zbw IT P W ops Q l S' σ) : zbw IT P W ops Q (o :: l) S σ := by
 have h := zx4 (ρ := zbz S) (σ := σ) zero g ho hx hy hu hi hz hsz h1 hzero hby
 have hR : AopR P (zbz S) σ o (.list j.toNat (Enc.cellsL (List.replicate j.toNat zero)) .none) σ := by
  refine .inr (.inr (.inr (.inr ⟨_, _, 1, .inr h, by simp [zdg], ?_, ?_⟩)))
  ·unfold zg4
   rw [zof hcl, List.take_length, hel]
  ·rw [zjy]
   have hp : zdp σ.boxes.length [] [] σ.boxes.length = none := by unfold zdp; simp
   simp only [kz, hp, List.getElem?_concat_length, Option.map_some, Option.getD_some, List.drop_zero, zcp _ _ _ (Enc.cloL _)]
   rw [List.take_of_length_le (by rw [Enc.lenL, hsz]; simp), zkn (Enc.cloL _)]
 simp only [zbw, hg, zed, hca, hy0]
 rw [List.length_replicate] at hS
 exact .inl ⟨_, σ, hR, by rw [hS]; exact hk⟩
end Go.Ab
set_option linter.unusedSimpArgs false
set_option linter.unusedVariables false
set_option maxRecDepth 100000
set_option maxHeartbeats 4000000
namespace Go.Ab
open Go Go.RowKit Go.Fwd Go.Proofs
def zty (x : Int) (y : Int) : Option (Int × Int) :=
 (some ((IntKind.u64.wrap ((IntKind.u64.wrap ((IntKind.u64.wrap ((zd4 .u64 x 32) * (zd4 .u64 y 32))) + (zd4 .u64 (IntKind.u64.wrap ((IntKind.u64.wrap ((zd4 .u64 x 32) * (zd2 .u64 y 4294967295))) + (zd4 .u64 (IntKind.u64.wrap ((zd2 .u64 x 4294967295) * (zd2 .u64 y 4294967295))) 32))) 32))) + (zd4 .u64 (IntKind.u64.wrap ((zd2 .u64 (IntKind.u64.wrap ((IntKind.u64.wrap ((zd4 .u64 x 32) * (zd2 .u64 y 4294967295))) + (zd4 .u64 (IntKind.u64.wrap ((zd2 .u64 x 4294967295) * (zd2 .u64 y 4294967295))) 32))) 4294967295) + (IntKind.u64.wrap ((zd2 .u64 x 4294967295) * (zd4 .u64 y 32))))) 32))), (IntKind.u64.wrap (x * y))))
theorem ent66 : Ent Tryz.prog 66 := enters_of Tryz.func66 (by kernel_rfl) rfl
theorem z1i (x : Int) (y : Int) (r : (Int × Int)) (h : zty x y = some r) : Pure (ITP Tryz.prog) Tryz.prog 66 [.raw (.int .u64 x), .raw (.int .u64 y)] (.tup [.raw (.int .u64 r.1), .raw (.int .u64 r.2)]) := by
 unfold zty at h
 refine zah 49 mix Tryz.func66 ent66 ?_
 refine zk [.v (.raw (.int .u64 0)), .v (.raw (.int .u64 0))] ?_
 refine zk [.m _, .v (.raw (.int .u64 (zd2 .u64 x 4294967295))), .m _] ?_
 refine zk [.m _] ?_
 refine w_o (a := .raw (.int .u64 (zd4 .u64 x 32))) (h := zv (zyo (by decide) rfl rfl rfl)) ?_
 refine zp ?_
 refine zk [.m _, .v (.raw (.int .u64 (zd2 .u64 y 4294967295))), .m _] ?_
 refine zk [.m _] ?_
 refine w_o (a := .raw (.int .u64 (zd4 .u64 y 32))) (h := zv (zyo (by decide) rfl rfl rfl)) ?_
 refine zp ?_
 refine zk [.m _, .m _, .v (.raw (.int .u64 (IntKind.u64.wrap ((zd2 .u64 x 4294967295) * (zd2 .u64 y 4294967295))))), .m _] ?_
 refine zk [.m _, .m _, .v (.raw (.int .u64 (IntKind.u64.wrap ((zd4 .u64 x 32) * (zd2 .u64 y 4294967295))))), .m _] ?_
 refine w_o (a := .raw (.int .u64 (zd4 .u64 (IntKind.u64.wrap ((zd2 .u64 x 4294967295) * (zd2 .u64 y 4294967295))) 32))) (h := zv (zyo (by decide) rfl rfl rfl)) ?_
 refine w_r [.v (.raw (.int .u64 (IntKind.u64.wrap ((IntKind.u64.wrap ((zd4 .u64 x 32) * (zd2 .u64 y 4294967295))) + (zd4 .u64 (IntKind.u64.wrap ((zd2 .u64 x 4294967295) * (zd2 .u64 y 4294967295))) 32))))), .m _] ?_
 refine zk [.m _, .v (.raw (.int .u64 (zd2 .u64 (IntKind.u64.wrap ((IntKind.u64.wrap ((zd4 .u64 x 32) * (zd2 .u64 y 4294967295))) + (zd4 .u64 (IntKind.u64.wrap ((zd2 .u64 x 4294967295) * (zd2 .u64 y 4294967295))) 32))) 4294967295))), .m _] ?_
 refine zk [.m _] ?_
 refine w_o (a := .raw (.int .u64 (zd4 .u64 (IntKind.u64.wrap ((IntKind.u64.wrap ((zd4 .u64 x 32) * (zd2 .u64 y 4294967295))) + (zd4 .u64 (IntKind.u64.wrap ((zd2 .u64 x 4294967295) * (zd2 .u64 y 4294967295))) 32))) 32))) (h := zv (zyo (by decide) rfl rfl rfl)) ?_
 refine zp ?_
 refine zk [.m _, .m _, .m _, .v (.raw (.int .u64 (IntKind.u64.wrap ((zd2 .u64 x 4294967295) * (zd4 .u64 y 32))))), .v (.raw (.int .u64 (IntKind.u64.wrap ((zd2 .u64 (IntKind.u64.wrap ((IntKind.u64.wrap ((zd4 .u64 x 32) * (zd2 .u64 y 4294967295))) + (zd4 .u64 (IntKind.u64.wrap ((zd2 .u64 x 4294967295) * (zd2 .u64 y 4294967295))) 32))) 4294967295) + (IntKind.u64.wrap ((zd2 .u64 x 4294967295) * (zd4 .u64 y 32)))))))] ?_
 refine w_r [.m _] ?_
 refine zk [.m _, .m _, .v (.raw (.int .u64 (IntKind.u64.wrap ((zd4 .u64 x 32) * (zd4 .u64 y 32))))), .m _, .v (.raw (.int .u64 (IntKind.u64.wrap ((IntKind.u64.wrap ((zd4 .u64 x 32) * (zd4 .u64 y 32))) + (zd4 .u64 (IntKind.u64.wrap ((IntKind.u64.wrap ((zd4 .u64 x 32) * (zd2 .u64 y 4294967295))) + (zd4 .u64 (IntKind.u64.wrap ((zd2 .u64 x 4294967295) * (zd2 .u64 y 4294967295))) 32))) 32)))))] ?_
 refine w_r [.m _] ?_
 refine w_o (a := .raw (.int .u64 (zd4 .u64 (IntKind.u64.wrap ((zd2 .u64 (IntKind.u64.wrap ((IntKind.u64.wrap ((zd4 .u64 x 32) * (zd2 .u64 y 4294967295))) + (zd4 .u64 (IntKind.u64.wrap ((zd2 .u64 x 4294967295) * (zd2 .u64 y 4294967295))) 32))) 4294967295) + (IntKind.u64.wrap ((zd2 .u64 x 4294967295) * (zd4 .u64 y 32))))) 32))) (h := zv (zyo (by decide) rfl rfl rfl)) ?_
 refine w_r [.v (.raw (.int .u64 (IntKind.u64.wrap ((IntKind.u64.wrap ((IntKind.u64.wrap ((zd4 .u64 x 32) * (zd4 .u64 y 32))) + (zd4 .u64 (IntKind.u64.wrap ((IntKind.u64.wrap ((zd4 .u64 x 32) * (zd2 .u64 y 4294967295))) + (zd4 .u64 (IntKind.u64.wrap ((zd2 .u64 x 4294967295) * (zd2 .u64 y 4294967295))) 32))) 32))) + (zd4 .u64 (IntKind.u64.wrap ((zd2 .u64 (IntKind.u64.wrap ((IntKind.u64.wrap ((zd4 .u64 x 32) * (zd2 .u64 y 4294967295))) + (zd4 .u64 (IntKind.u64.wrap ((zd2 .u64 x 4294967295) * (zd2 .u64 y 4294967295))) 32))) 4294967295) + (IntKind.u64.wrap ((zd2 .u64 x 4294967295) * (zd4 .u64 y 32))))) 32))))), .m _] ?_
 refine zk [.m _, .m _, .v (.raw (.int .u64 (IntKind.u64.wrap (x * y)))), .m _] ?_
 exact zam (fun (r : (Int × Int)) => .tup [.raw (.int .u64 r.1), .raw (.int .u64 r.2)]) h (.tup [.raw (.int .u64 (IntKind.u64.wrap ((IntKind.u64.wrap ((IntKind.u64.wrap ((zd4 .u64 x 32) * (zd4 .u64 y 32))) + (zd4 .u64 (IntKind.u64.wrap ((IntKind.u64.wrap ((zd4 .u64 x 32) * (zd2 .u64 y 4294967295))) + (zd4 .u64 (IntKind.u64.wrap ((zd2 .u64 x 4294967295) * (zd2 .u64 y 4294967295))) 32))) 32))) + (zd4 .u64 (IntKind.u64.wrap ((zd2 .u64 (IntKind.u64.wrap ((IntKind.u64.wrap ((zd4 .u64 x 32) * (zd2 .u64 y 4294967295))) + (zd4 .u64 (IntKind.u64.wrap ((zd2 .u64 x 4294967295) * (zd2 .u64 y 4294967295))) 32))) 4294967295) + (IntKind.u64.wrap ((zd2 .u64 x 4294967295) * (zd4 .u64 y 32))))) 32)))), .raw (.int .u64 (IntKind.u64.wrap (x * y)))])
def zr6 (x : Int) (y : Int) : Option (Int × Int) :=
 (z1 (zty x y) (fun x1 => (some (x1.1, x1.2))))
theorem ent42 : Ent Tryz.prog 42 := enters_of Tryz.func42 (by kernel_rfl) rfl
theorem bmul_sh (x : Int) (y : Int) (r : (Int × Int)) (h : zr6 x y = some r) : Pure (ITP Tryz.prog) Tryz.prog 42 [.raw (.int .u64 x), .raw (.int .u64 y)] (.tup [.raw (.int .u64 r.1), .raw (.int .u64 r.2)]) := by
 unfold zr6 at h
 refine zah 28 mix Tryz.func42 ent42 ?_
 refine zk [.v (.raw (.int .u64 0)), .v (.raw (.int .u64 0))] ?_
 refine zj ?_
 refine zbv rfl ?_
 refine zk [.m _, .m _] ?_
 obtain ⟨x1, hx1, h⟩ := zl h
 refine zbc (z1i x y x1 hx1) ?_
 refine w_r [.m _, .x _, .x _, .m _, .m _] ?_
 refine zk [.m _, .m _, .m _, .m _] ?_
 exact zam (fun (r : (Int × Int)) => .tup [.raw (.int .u64 r.1), .raw (.int .u64 r.2)]) h (.tup [.raw (.int .u64 x1.1), .raw (.int .u64 x1.2)])
def zf1 (fuel : Nat) (l : (List En)) (n : Int) : Option (List En) :=
 (bif (decide (n < 0)) then none else (z1 (zr6 (IntKind.u64.wrap (List.length l : Int)) (IntKind.u64.wrap n)) (fun x1 => (bif (decide (x1.1 > 0)) then none else (bif (decide (x1.2 > 9223372036854775807)) then none else (chk (-9223372036854775808 ≤ x1.2 ∧ x1.2 < 9223372036854775808) (chk (0 ≤ x1.2 ∧ ((40 : Nat) : Int) * x1.2 ≤ 281474976710656) (chk (0 + (Int.toNat x1.2) ≤ List.length (List.replicate (Int.toNat x1.2) (En.mk 0 0 0 [])) ∧ 0 < List.length (List.replicate (Int.toNat x1.2) (En.mk 0 0 0 []))) (zcr (τ := (List En)) (zbh (β := Int × (List En)) (fun s1 => (chk (List.length s1.2 = (Int.toNat x1.2)) (bif (decide (s1.1 < (((Int.toNat x1.2) : Nat) : Int))) then (chk (0 ≤ s1.1 ∧ s1.1 < (((Int.toNat x1.2) : Nat) : Int)) (chk (0 < s1.1 ∧ s1.1 ≤ (((Int.toNat x1.2) : Nat) : Int)) (chk ((Int.toNat s1.1) + ((Int.toNat x1.2) - Int.toNat s1.1) ≤ List.length s1.2 ∧ 0 < List.length s1.2 ∧ (Int.toNat s1.1) ≤ List.length s1.2) (chk (-9223372036854775808 ≤ (s1.1 + (((Nat.min (Int.toNat s1.1) ((Int.toNat x1.2) - Int.toNat s1.1)) : Nat) : Int)) ∧ (s1.1 + (((Nat.min (Int.toNat s1.1) ((Int.toNat x1.2) - Int.toNat s1.1)) : Nat) : Int)) < 9223372036854775808) (some (Sum.inl ((s1.1 + (((Nat.min (Int.toNat s1.1) ((Int.toNat x1.2) - Int.toNat s1.1)) : Nat) : Int)), (cpy s1.2 (Int.toNat s1.1) (List.take (Nat.min (Int.toNat s1.1) ((Int.toNat x1.2) - Int.toNat s1.1)) (List.take (Int.toNat s1.1) s1.2)))))))))) else (some (Sum.inr (Sum.inl (s1.2))))))) fuel ((((Nat.min (List.length l) (Int.toNat x1.2)) : Nat) : Int), (cpy (List.replicate (Int.toNat x1.2) (En.mk 0 0 0 [])) 0 (List.take (Nat.min (List.length l) (Int.toNat x1.2)) l)))) (fun j1 => (some j1)))))))))))
theorem ent15 : Ent Tryz.prog 15 := enters_of Tryz.func15 (by kernel_rfl) rfl
theorem zwb (fuel : Nat) (l : (List En)) (n : Int) (r : (List En)) (h : zf1 fuel l n = some r) : Pure (ITP Tryz.prog) Tryz.prog 15 [.L (l : List En), .raw (.int .i64 n)] (.L (r : List En)) := by
 unfold zf1 at h
 refine zah 46 mix Tryz.func15 ent15 ?_
 refine zk [.v (.list 0 [] .full)] ?_
 refine zj ?_
 refine zk [.m _, .v (.b (decide (n < 0)))] ?_
 refine za3 h (fun hc1 h => ?_) (fun hc1 h => ?_)
 refine zc (k0 := 0) (id := 2) ?_
 cases h
 refine zk [.m _, .v (.i (List.length l : Int)), .v (.raw (.int .u64 (IntKind.u64.wrap (List.length l : Int)))), .m _, .v (.raw (.int .u64 (IntKind.u64.wrap n)))] ?_
 obtain ⟨x1, hx1, h⟩ := zl h
 refine zbc (bmul_sh (IntKind.u64.wrap (List.length l : Int)) (IntKind.u64.wrap n) x1 hx1) ?_
 refine w_r [.m _, .x _, .x _, .m _, .m _] ?_
 refine zj ?_
 refine zk [.m _, .v (.b (decide (x1.1 > 0)))] ?_
 refine zaa h (fun hc2 h => ?_) (fun hc2 h => ?_)
 refine zar hc2 ?_
 refine w_r [.p, .p, .v (.b true)] ?_
 refine za6 rfl ?_
 refine zc (k0 := 0) (id := 5) ?_
 cases h
 refine zar hc2 ?_
 refine w_r [.m _, .v (.b (decide (x1.2 > 9223372036854775807))), .v (.b (decide (x1.2 > 9223372036854775807)))] ?_
 refine za3 h (fun hc3 h => ?_) (fun hc3 h => ?_)
 refine zc (k0 := 0) (id := 5) ?_
 cases h
 refine zk [.m _] ?_
 obtain ⟨g1, h⟩ := zf h
 refine w_o (a := .i x1.2) (h := zv (zfo g1 rfl rfl rfl)) ?_
 obtain ⟨g2, h⟩ := zf h
 refine zmn (a := .bsl 0 0 (Int.toNat x1.2) 4 true) (σ'' := (.B [(41, (Enc.cellsL ((List.replicate (Int.toNat x1.2) (En.mk 0 0 0 [])) : List En)))])) rfl rfl rfl (zyk (α := En) (by' := 40) (En.mk 0 0 0 []) g2 rfl rfl rfl rfl rfl rfl rfl rfl rfl ⟨rfl, by decide⟩) (by dsimp only [z6, List.set]) rfl ?_
 refine zp ?_
 refine zk [.m _, .m _] ?_
 obtain ⟨g3, h⟩ := zf h
 refine zmn (a := .i (((Nat.min (List.length l) (Int.toNat x1.2)) : Nat) : Int)) (σ'' := (.B [(41, (Enc.cellsL ((cpy (List.replicate (Int.toNat x1.2) (En.mk 0 0 0 [])) 0 (List.take (Nat.min (List.length l) (Int.toNat x1.2)) l)) : List En)))])) rfl rfl rfl (znh (α := En) (l := (List.replicate (Int.toNat x1.2) (En.mk 0 0 0 []))) (r := l) (o1 := 0) g3 (Nat.zero_mul _).symm rfl rfl rfl rfl rfl rfl rfl rfl rfl (cp_list (r := l)) rfl) (by dsimp only [z6, List.set]) rfl ?_
 refine zp ?_
 refine zaf h (bz 0 48 281474976710655) (fun j1 => [(7, .L (j1 : List En))]) (fun j1 => (.B [])) ?_ ?_
 intro or1 h hr1
 refine zr ?_
 refine zap h (bz 0 48 281474976710527) (fun s1 => [(8, .i s1.1)]) (fun s1 => (.B [(41, (Enc.cellsL (s1.2 : List En)))])) ?_ ?_
 exact zao (bl 48 384)
 intro s1 p1 h
 refine zbn ?_
 obtain ⟨g4, h⟩ := zf h
 refine zj ?_
 refine zk [.m _, .m _, .v (.i (((Int.toNat x1.2) : Nat) : Int)), .v (.b (decide (s1.1 < (((Int.toNat x1.2) : Nat) : Int))))] ?_
 refine za3 h (fun hc4 h => ?_) (fun hc4 h => ?_)
 refine zr ?_
 obtain ⟨g5, h⟩ := zf h
 obtain ⟨g6, h⟩ := zf h
 obtain ⟨g7, h⟩ := zf h
 obtain ⟨g8, h⟩ := zf h
 refine z10 (id := 9) [.top, .top, .top, .top, .top, .top, .top, .bsl 0 0 (Int.toNat x1.2) 4 true, .i (s1.1 + (((Nat.min (Int.toNat s1.1) ((Int.toNat x1.2) - Int.toNat s1.1)) : Nat) : Int)), .top, .top, .top, .top, .top, .top, .top, .top, .top, .top, .top, .top, .top, .top, .top, .top, .top, .top, .top, .top, .top, .top, .top, .top, .top, .i s1.1, .bsl 0 0 (Int.toNat x1.2) 4 true, .i (((Int.toNat x1.2) : Nat) : Int), .b (decide (s1.1 < (((Int.toNat x1.2) : Nat) : Int))), .i s1.1, .bsl 0 0 (Int.toNat x1.2) 4 true, .i s1.1, .bsl 0 (Int.toNat s1.1 * 4) ((Int.toNat x1.2) - Int.toNat s1.1) 4 true, .bsl 0 0 (Int.toNat x1.2) 4 true, .i s1.1, .bsl 0 0 (Int.toNat s1.1) 4 (true && (Int.toNat s1.1 == (Int.toNat x1.2))), .i (((Nat.min (Int.toNat s1.1) ((Int.toNat x1.2) - Int.toNat s1.1)) : Nat) : Int), .i (s1.1 + (((Nat.min (Int.toNat s1.1) ((Int.toNat x1.2) - Int.toNat s1.1)) : Nat) : Int)), .top] (.B [(41, (Enc.cellsL ((cpy s1.2 (Int.toNat s1.1) (List.take (Nat.min (Int.toNat s1.1) ((Int.toNat x1.2) - Int.toNat s1.1)) (List.take (Int.toNat s1.1) s1.2))) : List En)))]) ?_ ?_
 refine zbs (fun ops hops FIN hFIN S0 hS0 => ?_)
 let v41 : AV := .bsl 0 (Int.toNat s1.1 * 4) ((Int.toNat x1.2) - Int.toNat s1.1) 4 true
 let v44 : AV := .bsl 0 0 (Int.toNat s1.1) 4 (true && (Int.toNat s1.1 == (Int.toNat x1.2)))
 let v45 : AV := .i (((Nat.min (Int.toNat s1.1) ((Int.toNat x1.2) - Int.toNat s1.1)) : Nat) : Int)
 let v46 : AV := .i (s1.1 + (((Nat.min (Int.toNat s1.1) ((Int.toNat x1.2) - Int.toNat s1.1)) : Nat) : Int))
 let G0 : St := (.B [(41, (Enc.cellsL (s1.2 : List En)))])
 let G1 : St := (.B [(41, (Enc.cellsL ((cpy s1.2 (Int.toNat s1.1) (List.take (Nat.min (Int.toNat s1.1) ((Int.toNat x1.2) - Int.toNat s1.1)) (List.take (Int.toNat s1.1) s1.2))) : List En)))])
 obtain ⟨ps, hps⟩ : ∃ ps : List (Option (Nat × AV)), ps = [some (38, .i s1.1), some (39, .bsl 0 0 (Int.toNat x1.2) 4 true), some (40, .i s1.1), some (41, v41), some (42, .bsl 0 0 (Int.toNat x1.2) 4 true), some (43, .i s1.1), some (44, v44), some (45, v45), some (46, v46), some (8, .i (s1.1 + (((Nat.min (Int.toNat s1.1) ((Int.toNat x1.2) - Int.toNat s1.1)) : Nat) : Int)))] := ⟨_, rfl⟩
 let N : Nat → Nat → St → Prop := fun k m σ => aN (ITP Tryz.prog) Tryz.prog none ops FIN S0 ps 10 k m σ
 have n53 : N 0 1023 G1 := by
  exact zu5 hops hS0 hps (hFIN _ _ ⟨rfl, rfl⟩)
 have n52 : N 1 511 G1 := by
  refine zan hops hS0 hps 9 ?_
  refine zp ?_
  exact zb n53 hS0 hps
 have n51 : N 2 255 G1 := by
  refine zan hops hS0 hps 8 ?_
  refine w_o (a := v46) (h := zv (ztt rfl rfl rfl rfl g8.1 g8.2)) ?_
  exact zb n52 hS0 hps
 have n50 : N 3 254 G1 := by
  refine zan hops hS0 hps 0 ?_
  refine zp ?_
  exact zb n51 hS0 hps
 have n49 : N 3 127 G0 := by
  refine zan hops hS0 hps 7 ?_
  refine zmn (a := v45) (σ'' := G1) rfl rfl rfl (znh (α := En) (l := s1.2) (r := (List.take (Int.toNat s1.1) s1.2)) (o1 := (Int.toNat s1.1)) ⟨g7.1, g7.2.1⟩ rfl rfl rfl rfl rfl rfl rfl rfl rfl rfl (zzi (l := s1.2) rfl g7.2.2) (List.length_take_of_le g7.2.2)) (by dsimp only [z6, List.set]) rfl ?_
  exact zb n51 hS0 hps
 have n48 : N 4 126 G0 := by
  refine zab hops hS0 hps 0 7 ?_ ?_
  refine zp ?_
  exact zb n49 hS0 hps
  refine zmn (a := v45) (σ'' := G1) rfl rfl rfl (znh (α := En) (l := s1.2) (r := (List.take (Int.toNat s1.1) s1.2)) (o1 := (Int.toNat s1.1)) ⟨g7.1, g7.2.1⟩ rfl rfl rfl rfl rfl rfl rfl rfl rfl rfl (zzi (l := s1.2) rfl g7.2.2) (List.length_take_of_le g7.2.2)) (by dsimp only [z6, List.set]) rfl ?_
  exact zb n50 hS0 hps
 have n47 : N 4 119 G0 := by
  refine zan hops hS0 hps 3 ?_
  refine w_o (a := v41) (h := zv (zh6 (α := En) g5 rfl rfl rfl rfl rfl)) ?_
  exact zb n49 hS0 hps
 have n46 : N 4 63 G0 := by
  refine zan hops hS0 hps 6 ?_
  refine w_o (a := v44) (h := zv (zh3 (α := En) g6 rfl rfl rfl rfl rfl)) ?_
  exact zb n49 hS0 hps
 have n45 : N 5 118 G0 := by
  refine zab hops hS0 hps 0 3 ?_ ?_
  refine zp ?_
  exact zb n47 hS0 hps
  refine w_o (a := v41) (h := zv (zh6 (α := En) g5 rfl rfl rfl rfl rfl)) ?_
  exact zb n48 hS0 hps
 have n44 : N 5 62 G0 := by
  refine zab hops hS0 hps 0 6 ?_ ?_
  refine zp ?_
  exact zb n46 hS0 hps
  refine w_o (a := v44) (h := zv (zh3 (α := En) g6 rfl rfl rfl rfl rfl)) ?_
  exact zb n48 hS0 hps
 have n43 : N 5 117 G0 := by
  refine zan hops hS0 hps 1 ?_
  refine zp ?_
  exact zb n47 hS0 hps
 have n42 : N 5 115 G0 := by
  refine zan hops hS0 hps 2 ?_
  refine zp ?_
  exact zb n47 hS0 hps
 have n41 : N 5 55 G0 := by
  refine zab hops hS0 hps 3 6 ?_ ?_
  refine w_o (a := v41) (h := zv (zh6 (α := En) g5 rfl rfl rfl rfl rfl)) ?_
  exact zb n46 hS0 hps
  refine w_o (a := v44) (h := zv (zh3 (α := En) g6 rfl rfl rfl rfl rfl)) ?_
  exact zb n47 hS0 hps
 have n40 : N 5 47 G0 := by
  refine zan hops hS0 hps 4 ?_
  refine zp ?_
  exact zb n46 hS0 hps
 have n39 : N 5 31 G0 := by
  refine zan hops hS0 hps 5 ?_
  refine zp ?_
  exact zb n46 hS0 hps
 have n38 : N 6 116 G0 := by
  refine zab hops hS0 hps 0 1 ?_ ?_
  refine zp ?_
  exact zb n43 hS0 hps
  refine zp ?_
  exact zb n45 hS0 hps
 have n37 : N 6 114 G0 := by
  refine zab hops hS0 hps 0 2 ?_ ?_
  refine zp ?_
  exact zb n42 hS0 hps
  refine zp ?_
  exact zb n45 hS0 hps
 have n36 : N 6 54 G0 := by
  refine zdy hops hS0 hps 0 3 6 ?_ ?_ ?_
  refine zp ?_
  exact zb n41 hS0 hps
  refine w_o (a := v41) (h := zv (zh6 (α := En) g5 rfl rfl rfl rfl rfl)) ?_
  exact zb n44 hS0 hps
  refine w_o (a := v44) (h := zv (zh3 (α := En) g6 rfl rfl rfl rfl rfl)) ?_
  exact zb n45 hS0 hps
 have n35 : N 6 46 G0 := by
  refine zab hops hS0 hps 0 4 ?_ ?_
  refine zp ?_
  exact zb n40 hS0 hps
  refine zp ?_
  exact zb n44 hS0 hps
 have n34 : N 6 30 G0 := by
  refine zab hops hS0 hps 0 5 ?_ ?_
  refine zp ?_
  exact zb n39 hS0 hps
  refine zp ?_
  exact zb n44 hS0 hps
 have n33 : N 6 113 G0 := by
  refine zab hops hS0 hps 1 2 ?_ ?_
  refine zp ?_
  exact zb n42 hS0 hps
  refine zp ?_
  exact zb n43 hS0 hps
 have n32 : N 6 53 G0 := by
  refine zab hops hS0 hps 1 6 ?_ ?_
  refine zp ?_
  exact zb n41 hS0 hps
  refine w_o (a := v44) (h := zv (zh3 (α := En) g6 rfl rfl rfl rfl rfl)) ?_
  exact zb n43 hS0 hps
 have n31 : N 6 51 G0 := by
  refine zab hops hS0 hps 2 6 ?_ ?_
  refine zp ?_
  exact zb n41 hS0 hps
  refine w_o (a := v44) (h := zv (zh3 (α := En) g6 rfl rfl rfl rfl rfl)) ?_
  exact zb n42 hS0 hps
 have n30 : N 6 39 G0 := by
  refine zab hops hS0 hps 3 4 ?_ ?_
  refine w_o (a := v41) (h := zv (zh6 (α := En) g5 rfl rfl rfl rfl rfl)) ?_
  exact zb n40 hS0 hps
  refine zp ?_
  exact zb n41 hS0 hps
 have n29 : N 6 23 G0 := by
  refine zab hops hS0 hps 3 5 ?_ ?_
  refine w_o (a := v41) (h := zv (zh6 (α := En) g5 rfl rfl rfl rfl rfl)) ?_
  exact zb n39 hS0 hps
  refine zp ?_
  exact zb n41 hS0 hps
 have n28 : N 6 15 G0 := by
  refine zab hops hS0 hps 4 5 ?_ ?_
  refine zp ?_
  exact zb n39 hS0 hps
  refine zp ?_
  exact zb n40 hS0 hps
 have n27 : N 7 112 G0 := by
  refine zdy hops hS0 hps 0 1 2 ?_ ?_ ?_
  refine zp ?_
  exact zb n33 hS0 hps
  refine zp ?_
  exact zb n37 hS0 hps
  refine zp ?_
  exact zb n38 hS0 hps
 have n26 : N 7 52 G0 := by
  refine zdy hops hS0 hps 0 1 6 ?_ ?_ ?_
  refine zp ?_
  exact zb n32 hS0 hps
  refine zp ?_
  exact zb n36 hS0 hps
  refine w_o (a := v44) (h := zv (zh3 (α := En) g6 rfl rfl rfl rfl rfl)) ?_
  exact zb n38 hS0 hps
 have n25 : N 7 50 G0 := by
  refine zdy hops hS0 hps 0 2 6 ?_ ?_ ?_
  refine zp ?_
  exact zb n31 hS0 hps
  refine zp ?_
  exact zb n36 hS0 hps
  refine w_o (a := v44) (h := zv (zh3 (α := En) g6 rfl rfl rfl rfl rfl)) ?_
  exact zb n37 hS0 hps
 have n24 : N 7 38 G0 := by
  refine zdy hops hS0 hps 0 3 4 ?_ ?_ ?_
  refine zp ?_
  exact zb n30 hS0 hps
  refine w_o (a := v41) (h := zv (zh6 (α := En) g5 rfl rfl rfl rfl rfl)) ?_
  exact zb n35 hS0 hps
  refine zp ?_
  exact zb n36 hS0 hps
 have n23 : N 7 22 G0 := by
  refine zdy hops hS0 hps 0 3 5 ?_ ?_ ?_
  refine zp ?_
  exact zb n29 hS0 hps
  refine w_o (a := v41) (h := zv (zh6 (α := En) g5 rfl rfl rfl rfl rfl)) ?_
  exact zb n34 hS0 hps
  refine zp ?_
  exact zb n36 hS0 hps
 have n22 : N 7 14 G0 := by
  refine zdy hops hS0 hps 0 4 5 ?_ ?_ ?_
  refine zp ?_
  exact zb n28 hS0 hps
  refine zp ?_
  exact zb n34 hS0 hps
  refine zp ?_
  exact zb n35 hS0 hps
 have n21 : N 7 49 G0 := by
  refine zdy hops hS0 hps 1 2 6 ?_ ?_ ?_
  refine zp ?_
  exact zb n31 hS0 hps
  refine zp ?_
  exact zb n32 hS0 hps
  refine w_o (a := v44) (h := zv (zh3 (α := En) g6 rfl rfl rfl rfl rfl)) ?_
  exact zb n33 hS0 hps
 have n20 : N 7 37 G0 := by
  refine zab hops hS0 hps 1 4 ?_ ?_
  refine zp ?_
  exact zb n30 hS0 hps
  refine zp ?_
  exact zb n32 hS0 hps
 have n19 : N 7 21 G0 := by
  refine zab hops hS0 hps 1 5 ?_ ?_
  refine zp ?_
  exact zb n29 hS0 hps
  refine zp ?_
  exact zb n32 hS0 hps
 have n18 : N 7 35 G0 := by
  refine zab hops hS0 hps 2 4 ?_ ?_
  refine zp ?_
  exact zb n30 hS0 hps
  refine zp ?_
  exact zb n31 hS0 hps
 have n17 : N 7 19 G0 := by
  refine zab hops hS0 hps 2 5 ?_ ?_
  refine zp ?_
  exact zb n29 hS0 hps
  refine zp ?_
  exact zb n31 hS0 hps
 have n16 : N 7 7 G0 := by
  refine zdy hops hS0 hps 3 4 5 ?_ ?_ ?_
  refine w_o (a := v41) (h := zv (zh6 (α := En) g5 rfl rfl rfl rfl rfl)) ?_
  exact zb n28 hS0 hps
  refine zp ?_
  exact zb n29 hS0 hps
  refine zp ?_
  exact zb n30 hS0 hps
 have n15 : N 8 48 G0 := by
  refine zy8 hops hS0 hps [0, 1, 2, 6] (all_cons (zaz hops rfl ?_) (all_cons (zaz hops rfl ?_) (all_cons (zaz hops rfl ?_) (all_cons (zaz hops rfl ?_) zfc))))
  refine zp ?_
  exact zb n21 hS0 hps
  refine zp ?_
  exact zb n25 hS0 hps
  refine zp ?_
  exact zb n26 hS0 hps
  refine w_o (a := v44) (h := zv (zh3 (α := En) g6 rfl rfl rfl rfl rfl)) ?_
  exact zb n27 hS0 hps
 have n14 : N 8 36 G0 := by
  refine zdy hops hS0 hps 0 1 4 ?_ ?_ ?_
  refine zp ?_
  exact zb n20 hS0 hps
  refine zp ?_
  exact zb n24 hS0 hps
  refine zp ?_
  exact zb n26 hS0 hps
 have n13 : N 8 20 G0 := by
  refine zdy hops hS0 hps 0 1 5 ?_ ?_ ?_
  refine zp ?_
  exact zb n19 hS0 hps
  refine zp ?_
  exact zb n23 hS0 hps
  refine zp ?_
  exact zb n26 hS0 hps
 have n12 : N 8 34 G0 := by
  refine zdy hops hS0 hps 0 2 4 ?_ ?_ ?_
  refine zp ?_
  exact zb n18 hS0 hps
  refine zp ?_
  exact zb n24 hS0 hps
  refine zp ?_
  exact zb n25 hS0 hps
 have n11 : N 8 18 G0 := by
  refine zdy hops hS0 hps 0 2 5 ?_ ?_ ?_
  refine zp ?_
  exact zb n17 hS0 hps
  refine zp ?_
  exact zb n23 hS0 hps
  refine zp ?_
  exact zb n25 hS0 hps
 have n10 : N 8 6 G0 := by
  refine zy8 hops hS0 hps [0, 3, 4, 5] (all_cons (zaz hops rfl ?_) (all_cons (zaz hops rfl ?_) (all_cons (zaz hops rfl ?_) (all_cons (zaz hops rfl ?_) zfc))))
  refine zp ?_
  exact zb n16 hS0 hps
  refine w_o (a := v41) (h := zv (zh6 (α := En) g5 rfl rfl rfl rfl rfl)) ?_
  exact zb n22 hS0 hps
  refine zp ?_
  exact zb n23 hS0 hps
  refine zp ?_
  exact zb n24 hS0 hps
 have n9 : N 8 33 G0 := by
  refine zdy hops hS0 hps 1 2 4 ?_ ?_ ?_
  refine zp ?_
  exact zb n18 hS0 hps
  refine zp ?_
  exact zb n20 hS0 hps
  refine zp ?_
  exact zb n21 hS0 hps
 have n8 : N 8 17 G0 := by
  refine zdy hops hS0 hps 1 2 5 ?_ ?_ ?_
  refine zp ?_
  exact zb n17 hS0 hps
  refine zp ?_
  exact zb n19 hS0 hps
  refine zp ?_
  exact zb n21 hS0 hps
 have n7 : N 8 5 G0 := by
  refine zdy hops hS0 hps 1 4 5 ?_ ?_ ?_
  refine zp ?_
  exact zb n16 hS0 hps
  refine zp ?_
  exact zb n19 hS0 hps
  refine zp ?_
  exact zb n20 hS0 hps
 have n6 : N 8 3 G0 := by
  refine zdy hops hS0 hps 2 4 5 ?_ ?_ ?_
  refine zp ?_
  exact zb n16 hS0 hps
  refine zp ?_
  exact zb n17 hS0 hps
  refine zp ?_
  exact zb n18 hS0 hps
 have n5 : N 9 32 G0 := by
  refine zy8 hops hS0 hps [0, 1, 2, 4] (all_cons (zaz hops rfl ?_) (all_cons (zaz hops rfl ?_) (all_cons (zaz hops rfl ?_) (all_cons (zaz hops rfl ?_) zfc))))
  refine zp ?_
  exact zb n9 hS0 hps
  refine zp ?_
  exact zb n12 hS0 hps
  refine zp ?_
  exact zb n14 hS0 hps
  refine zp ?_
  exact zb n15 hS0 hps
 have n4 : N 9 16 G0 := by
  refine zy8 hops hS0 hps [0, 1, 2, 5] (all_cons (zaz hops rfl ?_) (all_cons (zaz hops rfl ?_) (all_cons (zaz hops rfl ?_) (all_cons (zaz hops rfl ?_) zfc))))
  refine zp ?_
  exact zb n8 hS0 hps
  refine zp ?_
  exact zb n11 hS0 hps
  refine zp ?_
  exact zb n13 hS0 hps
  refine zp ?_
  exact zb n15 hS0 hps
 have n3 : N 9 4 G0 := by
  refine zy8 hops hS0 hps [0, 1, 4, 5] (all_cons (zaz hops rfl ?_) (all_cons (zaz hops rfl ?_) (all_cons (zaz hops rfl ?_) (all_cons (zaz hops rfl ?_) zfc))))
  refine zp ?_
  exact zb n7 hS0 hps
  refine zp ?_
  exact zb n10 hS0 hps
  refine zp ?_
  exact zb n13 hS0 hps
  refine zp ?_
  exact zb n14 hS0 hps
 have n2 : N 9 2 G0 := by
  refine zy8 hops hS0 hps [0, 2, 4, 5] (all_cons (zaz hops rfl ?_) (all_cons (zaz hops rfl ?_) (all_cons (zaz hops rfl ?_) (all_cons (zaz hops rfl ?_) zfc))))
  refine zp ?_
  exact zb n6 hS0 hps
  refine zp ?_
  exact zb n10 hS0 hps
  refine zp ?_
  exact zb n11 hS0 hps
  refine zp ?_
  exact zb n12 hS0 hps
 have n1 : N 9 1 G0 := by
  refine zy8 hops hS0 hps [1, 2, 4, 5] (all_cons (zaz hops rfl ?_) (all_cons (zaz hops rfl ?_) (all_cons (zaz hops rfl ?_) (all_cons (zaz hops rfl ?_) zfc))))
  refine zp ?_
  exact zb n6 hS0 hps
  refine zp ?_
  exact zb n7 hS0 hps
  refine zp ?_
  exact zb n8 hS0 hps
  refine zp ?_
  exact zb n9 hS0 hps
 have n0 : N 10 0 G0 := by
  refine zy8 hops hS0 hps [0, 1, 2, 4, 5] (all_cons (zaz hops rfl ?_) (all_cons (zaz hops rfl ?_) (all_cons (zaz hops rfl ?_) (all_cons (zaz hops rfl ?_) (all_cons (zaz hops rfl ?_) zfc)))))
  refine zp ?_
  exact zb n1 hS0 hps
  refine zp ?_
  exact zb n2 hS0 hps
  refine zp ?_
  exact zb n3 hS0 hps
  refine zp ?_
  exact zb n4 hS0 hps
  refine zp ?_
  exact zb n5 hS0 hps
 exact zc1 n0 hps
 refine zz (p := p1) ((s1.1 + (((Nat.min (Int.toNat s1.1) ((Int.toNat x1.2) - Int.toNat s1.1)) : Nat) : Int)), (cpy s1.2 (Int.toNat s1.1) (List.take (Nat.min (Int.toNat s1.1) ((Int.toNat x1.2) - Int.toNat s1.1)) (List.take (Int.toNat s1.1) s1.2)))) h ?_
 exact zao (bl 48 384)
 refine zh h (fun h => ?_)
 refine zg (o := or1) (s1.2) h ?_
 exact wm_keep (bl 48 128) 0 [] [] 1 (Nat.le_refl _) rfl (by dsimp only [zbb, zb5, List.foldl, List.set, bz, bzc, Nat.reduceMod, Nat.reduceDiv, Nat.reduceBEq, Nat.reduceAdd]; exact (zb8 (zb8 (zb8 (zb8 (zb8 (zb8 (zb8 (fgK_t (kz_bsl (α := En) (t := 41) (l := s1.2) g4 rfl rfl) (zb8 (zb8 (zb8 (zb8 (zb8 (zb8 (zb8 (zb8 (zb8 (zb8 (zb8 (zb8 (zb8 (zb8 (zb8 (zb8 (zb8 (zb8 (zb8 (zb8 (zb8 (zb8 (zb8 (zb8 (zb8 (zb8 (zb8 (zb8 (zb8 (zb8 (zb8 (zb8 (zb8 (zb8 (zb8 (zb8 (zb8 (zb8 (zb8 (zb8 fgK_nil))))))))))))))))))))))))))))))))))))))))))))))))) (zxm zug rfl)
 intro j1 h
 refine zbn ?_
 refine zk [.m _, .m _] ?_
 exact zam (fun (r : (List En)) => .L (r : List En)) h (.L (j1 : List En))
end Go.Ab
