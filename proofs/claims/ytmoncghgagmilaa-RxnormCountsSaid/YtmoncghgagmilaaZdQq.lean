/-
  Steps of a walk, the shortest: calls, starts, changes of the view.
-/
import Derived.Test.YtmoncghgagmilaaZnEn
import Derived.Test.YtmoncghgagmilaaZdR
set_option linter.unusedSimpArgs false
set_option linter.unusedVariables false
namespace Go.Ab
open Go Go.RowKit Go.Fwd
section
variable {IT : IterP} {P : Program} {W : Owed} {k0 : Nat}
theorem all_cons {p : Nat → Prop} {a : Nat} {l : List Nat} (h : p a) (t : ∀ i ∈ l, p i) : ∀ i ∈ a :: l, p i := fun i hi => by
 rcases List.mem_cons.1 hi with rfl | hi
 ·exact h
 ·exact t i hi
end
section
variable {P : Program} {ρ : Operand → AV} {σ : St} {o : Oper} {α : Type} [Enc α]
theorem Enc.atK {l : List α} {i : Int} (g : 0 ≤ i ∧ i < l.length) (k : Nat) : (Enc.cellsL l).drop (0 + i.toNat * Enc.sz α + k) = (Enc.cells (ix l i) ++ Enc.cellsL (l.drop (i.toNat + 1))).drop k := by
 rw [Nat.zero_add, ← List.drop_drop, Enc.at g]
theorem zea {t e : TypeId} {x i : Operand} {s n : Nat} {f : Bool} {k : IntKind} {j : Int} (g : 0 ≤ j ∧ j < n) (ho : o.op = .indexAddr t x i) (hx : ρ x = .bsl s 0 n (Enc.sz α) f) (hi : ρ i = .raw (.int k j)) (hu : P.underlying t = some (.slice e)) (hs : zec P e = some (Enc.sz α)) :
 qop P ρ σ o = some (.ptr s (0 + j.toNat * Enc.sz α)) := zys ho hx hi hu hs g
theorem zc6 {l : List α} {i : Int} {k s : Nat} {te t : TypeId} {x : Operand} {a : AV} (g : 0 ≤ i ∧ i < l.length) (ho : o.op = .load t x) (hx : ρ x = .ptr s (0 + i.toNat * Enc.sz α + k)) (hb : σ.boxes[s]? = some (te, Enc.cellsL l)) (hr : rd P t ((Enc.cells (ix l i) ++ Enc.cellsL (l.drop (i.toNat + 1))).drop k) = some a) :
 qop P ρ σ o = some a := by
 rw [← Enc.atK g] at hr
 simp only [qop, ho, hx, z0s, hb, hr]
theorem Enc.putK {l : List α} {i : Int} {x : α} {k n : Nat} {cs : List AV} (g : 0 ≤ i ∧ i < l.length) (hl : cs.length = n) (hk : k + n ≤ Enc.sz α) (hx : Enc.cells x = (Enc.cells (ix l i)).take k ++ cs ++ (Enc.cells (ix l i)).drop (k + n)) :
 (Enc.cellsL l).take (0 + i.toNat * Enc.sz α + k) ++ cs ++ (Enc.cellsL l).drop (0 + i.toNat * Enc.sz α + k + n) = Enc.cellsL (l.set i.toNat x) := by
 have hi : i.toNat < l.length := by omega
 have hset : l.set i.toNat x = l.take i.toNat ++ [x] ++ l.drop (i.toNat + 1) := by
  rw [List.set_eq_take_append_cons_drop, if_pos hi]; simp
 have hlen := Enc.len (ix l i)
 have e1 : (Enc.cellsL l).drop (i.toNat * Enc.sz α) = Enc.cells (ix l i) ++ Enc.cellsL (l.drop (i.toNat + 1)) := Enc.at g
 have e2 : (Enc.cellsL l).take (0 + i.toNat * Enc.sz α + k) = Enc.cellsL (l.take i.toNat) ++ (Enc.cells (ix l i)).take k := by
  rw [Nat.zero_add, List.take_add, Enc.take, e1, List.take_append_of_le_length (by omega)]
 have e3 : (Enc.cellsL l).drop (0 + i.toNat * Enc.sz α + k + n) = (Enc.cells (ix l i)).drop (k + n) ++ Enc.cellsL (l.drop (i.toNat + 1)) := by
  rw [Nat.zero_add, Nat.add_assoc, ← List.drop_drop, e1, List.drop_append_of_le_length (by omega)]
 rw [e2, e3, hset, Enc.app, Enc.app, Enc.cons, Enc.nil, hx]
 simp
theorem zix {l : List α} {i : Int} {k s n : Nat} {te t : TypeId} {x y : Operand} {v : AV} (x' : α) (g : 0 ≤ i ∧ i < l.length) (ho : o.op = .store t x y) (hx : ρ x = .ptr s (0 + i.toNat * Enc.sz α + k)) (hy : ρ y = v) (hb : σ.boxes[s]? = some (te, Enc.cellsL l)) (hn : zec P t = some n) (hc : zho v = true) (hl : (cellsOf v).length = n) (h0 : 0 < n) (hk : k + n ≤ Enc.sz α)
 (hx' : Enc.cells x' = (Enc.cells (ix l i)).take k ++ cellsOf v ++ (Enc.cells (ix l i)).drop (k + n)) : aop P ρ σ o = some (.raw undef, { σ with boxes := σ.boxes.set s (te, Enc.cellsL (l.set i.toNat x')) }) := by
 have hfit : 0 + i.toNat * Enc.sz α + k + n ≤ (Enc.cellsL l).length := by
  rw [Enc.lenL]
  have h1 : i.toNat + 1 ≤ l.length := by omega
  have h2 := Nat.mul_le_mul_right (Enc.sz α) h1
  rw [Nat.succ_mul] at h2
  omega
 rw [znr (n := n) ho hx hy hb hn ⟨hc, hl, hfit, h0⟩, Enc.putK g hl hk hx']
theorem zn9 {c : Call} {x y : Operand} {t e : TypeId} {i : TypeInfo} {z : Value} {s n by' : Nat} {l r : List α} {st : Room} (hn : l.length = n ∧ 0 < n ∧ 0 < r.length ∧ (n + r.length) * by' ≤ 140737488355328) (ho : o.op = .call c) (hc : c.callee = .builtin .append) (ha : c.args.toList = [x, y]) (ht : c.argTypes.toList = [t, t])
 (hx : ρ x = .bsl s 0 n (Enc.sz α) false) (hy : ρ y = .list r.length (Enc.cellsL r) st) (hb : σ.boxes[s]? = some (e, Enc.cellsL l)) (hu : P.underlying t = some (.slice e)) (hi : P.info? e = some i) (hz : i.zero = some z) (hsz : i.size = Enc.sz α) (hzs : z.cells.size = Enc.sz α) (hby : i.bytes = by' ∧ 0 < by') :
 zpn P ρ σ o = some (.bsl σ.boxes.length 0 (n + r.length) (Enc.sz α) false, { σ with boxes := σ.boxes.set s (e, []) ++ [(e, Enc.cellsL (l ++ r))] }) := by
 obtain ⟨h1, h2, h3, h4⟩ := hn
 have hp := Enc.pos (α := α)
 have hsrc : z09 P σ i.size t t (ρ y) = some (r.length, Enc.cellsL r) := by rw [hy]; exact zhq ⟨rfl, by rw [Enc.lenL, hsz], by omega⟩
 have hmax : n + r.length ≤ maxLen := by
  have h5 : n + r.length ≤ (n + r.length) * by' := Nat.le_mul_of_pos_right _ hby.2
  have h6 : 140737488355328 ≤ maxLen := by decide
  omega
 have hcond : Enc.sz α = i.size ∧ n + r.length ≤ maxLen ∧ (n + r.length) * i.bytes ≤ 140737488355328 ∧ 0 + n * Enc.sz α ≤ (Enc.cellsL l).length := ⟨hsz.symm, hmax, by rw [hby.1]; exact h4, by rw [Enc.lenL, h1]; omega⟩
 have hcond2 : (0 : Nat) = 0 ∧ n * Enc.sz α = (Enc.cellsL l).length ∧ e = e ∧ 0 < n := ⟨rfl, by rw [Enc.lenL, h1], rfl, h2⟩
 have hcond0 : 0 < i.size ∧ z.cells.size = i.size ∧ 0 < r.length := ⟨by omega, by omega, h3⟩
 have key : zl0 P σ t t (ρ x) (ρ y) = some (.bsl σ.boxes.length 0 (n + r.length) (Enc.sz α) false, { σ with boxes := σ.boxes.set s (e, []) ++ [(e, Enc.cellsL (l ++ r))] }) := by
  rw [zl0]
  simp only [hu, hi, hz, hsrc, if_pos hcond0, hx, hb, if_pos hcond, Bool.false_eq_true, if_false, Enc.app]
  rw [if_pos ⟨trivial, hcond2.2.1, trivial, h2⟩]
 have hnn : zkr (ρ x) = false := by rw [hx]; rfl
 simp only [zpn, ho, hc, ha, ht, key, hnn, Bool.false_eq_true, if_false]
end
section
variable {m : Nat} {g : FZ}
theorem zdm : fgM [] (zci m g []) = [] := by rw [zci]; rfl
theorem zc {a b : AV} {S S' : List AV} {ms : List Bool} (h : znf m g a = b) (r : fgM ms (zci m g S) = S') : fgM (true :: ms) (zci m g (a :: S)) = b :: S' := by
 rw [zci]; show (bif true then znf m g a else .top) :: _ = _; rw [r, h]; rfl
theorem za {a : AV} {S S' : List AV} {ms : List Bool} (r : fgM ms (zci m g S) = S') : fgM (false :: ms) (zci m g (a :: S)) = .top :: S' := by
 rw [zci]; show (bif false then znf m g a else .top) :: _ = _; rw [r]; rfl
theorem zqy : zci m g [] = [] := by rw [zci]
theorem zbp {a b : AV} {l l' : List AV} (h : znf m g a = b) (r : zci m g l = l') : zci m g (a :: l) = b :: l' := by rw [zci, h, r]
theorem zna : zbe g [] = [] := by rw [zbe]
theorem zgi {a b : AV} {l l' : List AV} (h : zdw g a = b) (r : zbe g l = l') : zbe g (a :: l) = b :: l' := by rw [zbe, h, r]
theorem zwh {a : AV} (h : clo a = true) : zdw g a = a := by
 have := zcg g [a] (by rw [cloL, h]; rfl)
 rw [zbe] at this
 exact (List.cons.inj this).1
theorem kz_bsl {α : Type} [Enc α] {bs : List (TypeId × List AV)} {js : List Nat} {d s n : Nat} {f : Bool} {t : TypeId} {l : List α} (hn : l.length = n) (hb : bs[s]? = some (t, Enc.cellsL l)) (hp : zfe 0 [] js s = none) : znf m (kz bs m 0 [] js (d + 1)) (.bsl s 0 n (Enc.sz α) f) = .list l.length (Enc.cellsL l) .none := by
 subst hn
 rw [znf]
 simp only [kz, hp, hb, Option.map_some, Option.getD_some, List.drop_zero, zaq _ _ _ (Enc.cloL l)]
 rw [List.take_of_length_le (by rw [Enc.lenL]; exact Nat.le_refl _)]
theorem zsd {α : Type} [Enc α] {bs : List (TypeId × List AV)} {d s n : Nat} {f : Bool} {t : TypeId} {l : List α} (hn : l.length = n) (hb : bs[s]? = some (t, Enc.cellsL l)) : zdw (frz bs (d + 1)) (.bsl s 0 n (Enc.sz α) f) = .list l.length (Enc.cellsL l) .none := by
 subst hn
 rw [zdw]
 simp only [frz, hb, Option.map_some, Option.getD_some, List.drop_zero, zcg _ _ (Enc.cloL l)]
 rw [List.take_of_length_le (by rw [Enc.lenL]; exact Nat.le_refl _)]
theorem zcd {bs : List (TypeId × List AV)} {n d : Nat} {fs js0 : List Nat} : (([] : List Nat).map fun j => ((bs[j]?).map fun b => (b.1, zci m (kz bs m n fs js0 d) b.2)).getD (0, [.bad])) = [] := rfl
theorem zaa {bs : List (TypeId × List AV)} {n d j : Nat} {fs js js0 : List Nat} {t : TypeId} {cs cs' : List AV} {r : List (TypeId × List AV)} (hb : bs[j]? = some (t, cs)) (hc : zci m (kz bs m n fs js0 d) cs = cs') (hr : (js.map fun j => ((bs[j]?).map fun b => (b.1, zci m (kz bs m n fs js0 d) b.2)).getD (0, [.bad])) = r) :
 ((j :: js).map fun j => ((bs[j]?).map fun b => (b.1, zci m (kz bs m n fs js0 d) b.2)).getD (0, [.bad])) = (t, cs') :: r := by
 rw [List.map_cons, hr, hb]
 simp only [Option.map_some, Option.getD_some, hc]
theorem zdi {σ σ' : St} {d : Nat} {js : List Nat} {bs' : List (TypeId × List AV)} (h : (js.map fun j => ((σ.boxes[j]?).map fun b => (b.1, zci m (kz σ.boxes m 0 [] js d) b.2)).getD (0, [.bad])) = bs') (h2 : { σ with boxes := bs', lens := σ.lens.take m, elems := σ.elems.take m } = σ') : zlq σ m 0 [] js d = σ' := by
 subst h2
 unfold zlq zdh
 rw [h]
 rfl
end
end Go.Ab
set_option linter.unusedSimpArgs false
set_option linter.unusedVariables false
namespace Go.Ab
open Go Go.RowKit Go.Fwd
section
variable {P : Program} {ρ : Operand → AV} {σ : St} {o : Oper} {α : Type} [Enc α]
theorem z3q {t e : TypeId} {x i : Operand} {s n : Nat} {f : Bool} {k : IntKind} {j : Int} (g : 0 ≤ j ∧ j < n) (ho : o.op = .slice t x (some i) none none) (hx : ρ x = .bsl s 0 n (Enc.sz α) f) (hi : ρ i = .raw (.int k j)) (hu : P.underlying t = some (.slice e)) (hs : zec P e = some (Enc.sz α)) :
 qop P ρ σ o = some (.bsl s (j.toNat * Enc.sz α) (n - j.toNat) (Enc.sz α) f) := by
 have h4 : zd3 n (some (.raw (.int k j))) none none = some (j.toNat, n, false) := by
  have c : 0 ≤ j ∧ j ≤ (n : Int) := by omega
  simp only [zd3, zg0, if_pos c]
 have hlt : j.toNat < n := by omega
 simp only [qop, ho, hx, hi, Option.map_some, Option.map_none, zik, hu, hs, h4, if_true, if_pos hlt, Nat.zero_add]
 simp
theorem q_bslH {t e : TypeId} {x i : Operand} {s n : Nat} {f : Bool} {k : IntKind} {j : Int} (g : 0 < j ∧ j ≤ n) (ho : o.op = .slice t x none (some i) none) (hx : ρ x = .bsl s 0 n (Enc.sz α) f) (hi : ρ i = .raw (.int k j)) (hu : P.underlying t = some (.slice e)) (hs : zec P e = some (Enc.sz α)) :
 qop P ρ σ o = some (.bsl s 0 j.toNat (Enc.sz α) (f && (j.toNat == n))) := by
 have h4 : zd3 n none (some (.raw (.int k j))) none = some (0, j.toNat, false) := by
  have c : 0 ≤ j ∧ j ≤ (n : Int) := by omega
  simp only [zd3, zg0, if_pos c]
 have hlt : 0 < j.toNat := by omega
 simp only [qop, ho, hx, hi, Option.map_some, Option.map_none, zik, hu, hs, h4, if_true, if_pos hlt, Nat.zero_add, Nat.zero_mul, Nat.sub_zero]
 simp
theorem z1a {t e : TypeId} {x y : Operand} {i : TypeInfo} {z : Value} {k k' : IntKind} {j : Int} {by' : Nat} (zero : α) (g : 0 ≤ j ∧ (by' : Int) * j ≤ 281474976710656) (ho : o.op = .makeSlice t x y) (hx : ρ x = .raw (.int k j)) (hy : ρ y = .raw (.int k' j)) (hu : P.underlying t = some (.slice e)) (hi : P.info? e = some i) (hz : i.zero = some z)
 (hsz : i.size = Enc.sz α) (h1 : (decide (1 < i.size) && z.cells.toList.all (·.oneCell') && decide (z.cells.size = i.size)) = true) (hzero : z.cells.toList.map zpq = Enc.cells zero) (hby : i.bytes = by' ∧ 0 < by') :
 zpn P ρ σ o = some (.bsl σ.boxes.length 0 j.toNat (Enc.sz α) true, { σ with boxes := σ.boxes ++ [(e, Enc.cellsL (List.replicate j.toNat zero))] }) := by
 simp only [Bool.and_eq_true, decide_eq_true_eq] at h1
 obtain ⟨⟨h1, h2⟩, h3⟩ := h1
 obtain ⟨rfl, hp⟩ := hby
 have hj : j ≤ 9223372036854775807 := by
  have h5 : j ≤ (i.bytes : Int) * j := by
   have h6 : (1 : Int) * j ≤ (i.bytes : Int) * j := Int.mul_le_mul_of_nonneg_right (by omega) g.1
   omega
  omega
 have hflat : ∀ n : Nat, ((List.replicate n z.cells.toList).flatten).map zpq = Enc.cellsL (List.replicate n zero) := by
  intro n
  induction n with
  | zero => simp [Enc.nil]
  | succ n ih => rw [List.replicate_succ, List.flatten_cons, List.map_append, ih, hzero, List.replicate_succ, Enc.cons]
 simp only [zpn, ho, z38, ztr, hx, hy, hu, hi, hz]
 rw [if_neg (fun h => by omega)]
 simp only
 rw [if_pos ⟨trivial, g.1, hj, g.2, h2, h3⟩, hflat, hsz]
end
end Go.Ab
set_option linter.unusedVariables false
namespace Go.Ab
open Go Go.RowKit Go.Fwd
def bl : Nat → Nat → List Bool
 | 0, _ => []
 | n + 1, m => (m % 2 == 1) :: bl n (m / 2)
section
variable {IT : IterP} {P : Program} {W : Owed} {ops ops0 : Array Oper} {Q : List AV → St → Prop} {K : List AV → Prop} {o : Oper} {l : List Oper} {S S' : List AV} {σ σ' σ'' : St} {a : AV} {kb : Nat} {b : Bool} {c : Option Bool}
theorem w_o (k : zco IT P W ops Q l S' σ') (hg : o.guard = none := by exact rfl) (hc : zcz S o = none := by exact rfl) (hy : zdj S o = none := by exact rfl) (h : aop P (zcs S) σ o = some (a, σ') := by exact rfl) (hS : zp S o.dst a = S' := by dsimp only [zp, List.set]) : zco IT P W ops Q (o :: l) S σ :=
 zfb hg hc hy h hS k
theorem zbj (k : zco IT P W ops Q l S' σ'') (hg : o.guard = none := by exact rfl) (hc : zcz S o = none := by exact rfl) (hy : zdj S o = none := by exact rfl) (h : aop P (zcs S) σ o = some (a, σ') := by exact rfl) (hS : zp S o.dst a = S' := by dsimp only [zp, List.set]) (hσ : σ' = σ'' := by exact rfl) : zco IT P W ops Q (o :: l) S σ :=
 zrl hg hc hy h hS hσ k
theorem zee (k : zco IT P W ops Q l S' σ) (hg : o.guard = some (kb, b) := by exact rfl) (hk : zd9 ops S kb = some c := by exact rfl) (hcb : c ≠ some b := by decide) (hS : zp S o.dst (.raw undef) = S' := by dsimp only [zp, List.set]) : zco IT P W ops Q (o :: l) S σ :=
 z7n hg hk hcb hS k
theorem h_o (k : ahead IT P ops σ K l S') (hd : (o.dst.all fun d => decide (d < S.length)) = true := by exact rfl) (hg : o.guard = none := by exact rfl) (hc : zcz S o = none := by exact rfl) (h : qop P (zcs S) σ o = some a := by exact rfl) (hS : zp S o.dst a = S' := by dsimp only [zp, List.set]) : ahead IT P ops σ K (o :: l) S :=
 h_op hd hg hc h hS k
theorem zaj (k : ahead IT P ops σ K l S') (hd : (o.dst.all fun d => decide (d < S.length)) = true := by exact rfl) (hg : o.guard = some (kb, b) := by exact rfl) (hk : zd9 ops S kb = some c := by exact rfl) (hcb : c ≠ some b := by decide) (hS : zp S o.dst (.raw undef) = S' := by dsimp only [zp, List.set]) : ahead IT P ops σ K (o :: l) S :=
 h_pass hd hg hk hcb hS k
end
end Go.Ab
set_option linter.unusedVariables false
namespace Go.Ab
open Go Go.RowKit Go.Fwd
section
variable {IT : IterP} {P : Program} {W : Owed} {ops ops0 : Array Oper} {FIN : List AV → St → Prop} {S0 L S : List AV} {ps PL : List (Option (Nat × AV))} {n k m m' : Nat} {σ : St}
end
end Go.Ab
set_option linter.unusedVariables false
namespace Go.Ab
open Go Go.RowKit Go.Fwd
@[reducible] def AV.i (x : Int) : AV := .raw (.int .i64 x)
@[reducible] def AV.u (x : Int) : AV := .raw (.int .u8 x)
@[reducible] def AV.b (x : Bool) : AV := .raw (.bool x)
@[reducible] def AV.s (x : List UInt8) : AV := .raw (.string (bs x))
def mvOf : Op → Option Nat
 | .move (.tmp k) => some k
 | .assign (.tmp k) => some k
 | _ => none
section
variable {IT : IterP} {P : Program} {W : Owed} {ops ops0 : Array Oper} {Q : List AV → St → Prop} {K : List AV → Prop} {o : Oper} {l : List Oper} {S S' : List AV} {σ σ' σ'' : St} {a : AV} {k : Nat}
theorem zrq (ho : mvOf o.op = some k) (hv : S[k]? = some a) : zcz S o = none ∧ zdj S o = none ∧ qop P (zcs S) σ o = some a := by
 have h : o.op = .move (.tmp k) ∨ o.op = .assign (.tmp k) := by
  unfold mvOf at ho
  split at ho <;> cases ho
  ·rename_i h; exact .inl h
  ·rename_i h; exact .inr h
 rcases h with h | h <;> simp [zcz, zdj, qop, h, zcs, hv]
theorem zad (kk : zco IT P W ops Q l S' σ) (ho : mvOf o.op = some k := by exact rfl) (hg : o.guard = none := by exact rfl) (hv : S[k]? = some a := by exact rfl) (hS : zp S o.dst a = S' := by dsimp only [zp, List.set]) : zco IT P W ops Q (o :: l) S σ := by
 obtain ⟨h1, h2, h3⟩ := zrq (P := P) (σ := σ) ho hv
 exact zfb hg h1 h2 (zbs h3) hS kk
theorem zd1 (kk : ahead IT P ops σ K l S') (ho : mvOf o.op = some k := by exact rfl) (hd : (o.dst.all fun d => decide (d < S.length)) = true := by exact rfl) (hg : o.guard = none := by exact rfl) (hv : S[k]? = some a := by exact rfl) (hS : zp S o.dst a = S' := by dsimp only [zp, List.set]) : ahead IT P ops σ K (o :: l) S := by
 obtain ⟨h1, h2, h3⟩ := zrq (P := P) (σ := σ) ho hv
 exact h_op hd hg h1 h3 hS kk
def exOf : Op → Option (Nat × Nat)
 | .extract (.tmp k) i => some (k, i)
 | _ => none
theorem zzj {i : Nat} {vs : List AV} (ho : exOf o.op = some (k, i)) (hv : S[k]? = some (.tup vs)) (hi : vs[i]? = some a) : zcz S o = none ∧ zdj S o = none ∧ qop P (zcs S) σ o = some a := by
 have h : o.op = .extract (.tmp k) i := by
  unfold exOf at ho
  split at ho <;> cases ho
  rename_i h; exact h
 simp [zcz, zdj, qop, h, zcs, hv, hi]
theorem h_ex {i : Nat} {vs : List AV} (kk : ahead IT P ops σ K l S') (ho : exOf o.op = some (k, i) := by exact rfl) (hd : (o.dst.all fun d => decide (d < S.length)) = true := by exact rfl) (hg : o.guard = none := by exact rfl) (hv : S[k]? = some (.tup vs) := by exact rfl) (hi : vs[i]? = some a := by exact rfl) (hS : zp S o.dst a = S' := by dsimp only [zp, List.set]) : ahead IT P ops σ K (o :: l) S := by
 obtain ⟨h1, h2, h3⟩ := zzj (P := P) (σ := σ) ho hv hi
 exact h_op hd hg h1 h3 hS kk
end
section
variable {P : Program} {fn : Func} {S : List AV} {σ : St}
theorem zas {y r : Bool} (hr : some y = some r) (h : zbr P fn σ S = some (.raw (.bool y)) := by exact rfl) : zsf P fn (.raw (.bool r)) .ret S σ := zca (fun (r : Bool) => (.raw (.bool r) : AV)) hr h rfl rfl
theorem zd4 {k : IntKind} {y r : Int} (hr : some y = some r) (h : zbr P fn σ S = some (.raw (.int k y)) := by exact rfl) : zsf P fn (.raw (.int k r)) .ret S σ := zca (fun (r : Int) => (.raw (.int k r) : AV)) hr h rfl rfl
end
section
variable {IT : IterP} {P : Program} {W : Owed} {ops ops0 : Array Oper} {FIN : List AV → St → Prop} {S0 L S : List AV} {ps PL : List (Option (Nat × AV))} {n k m m' : Nat} {σ : St} {o o' o'' : Oper}
end
end Go.Ab
set_option linter.unusedVariables false
namespace Go.Ab
open Go Go.RowKit Go.Fwd
def bzc : Bool → Nat → List Nat → List Nat
 | true, i, l => i :: l
 | false, _, l => l
def bz : Nat → Nat → Nat → List Nat
 | _, 0, _ => []
 | i, n + 1, m => bzc (m % 2 == 1) i (bz (i + 1) n (m / 2))
section
variable {IT : IterP} {P : Program} {W : Owed} {k0 : Nat} {ops : Array Oper} {Q : List AV → St → Prop} {o : Oper} {l : List Oper} {S S' : List AV} {σ σ' : St} {f : FuncId} {args args' : List AV} {r : AV}
theorem zf9 {c : Code} {Q : AQ} (h : awp IT P W k0 c Q S' σ) (hS : S = S' := by dsimp only [zaf, zae, List.foldl, List.set, bz, bzc, Nat.reduceMod, Nat.reduceDiv, Nat.reduceBEq, Nat.reduceAdd]) : awp IT P W k0 c Q S σ := za0 hS rfl h
theorem zc1 {n0 : Nat} (m : List Bool) (h : fgM m S = S' := by kernel_rfl) (hσ : σ' = σ := by kernel_rfl) : Wk n0 S σ S' σ' := zc4 m h hσ
end
end Go.Ab
