/-
  Slices of lists.
-/
import Derived.Test.YtblibgbakbhlkaaDoorZdSh
import Derived.Test.YtblibgbakbhlkaaDoorZuBld
set_option linter.unusedSimpArgs false
set_option linter.unusedVariables false
namespace Go.Ab
open Go Go.RowKit Go.Fwd
section
variable {IT : IterP} {P : Program} {W : Owed} {k0 : Nat}
variable {ops : Array Oper} {σ : St} {pl : List Pe} {K : List AV → Prop} {o : Oper} {l : List Oper} {S S' : List AV} {k : Nat}
end
end Go.Ab
set_option linter.unusedSimpArgs false
set_option linter.unusedVariables false
namespace Go.Ab
open Go Go.RowKit Go.Fwd
section
variable {IT : IterP} {P : Program} {W : Owed} {k0 : Nat}
theorem aany_intro {ops0 : Array Oper} {FIN0 : List AV → St → Prop} {k : Nat} {l : Array Bool} {S : List AV} {σ : St} (h : ∀ ops, ops = ops0 → ∀ FIN : List AV → St → Prop, (∀ S σ, FIN0 S σ → FIN S σ) → ∀ S0, S0 = S → aany IT P W ops FIN k l S0 σ) : aany IT P W ops0 FIN0 k l S σ := h ops0 rfl FIN0 (fun _ _ h => h) S rfl
theorem aopAt_s {ops ops0 : Array Oper} {K : List AV → St → Prop} {i : Nat} {o : Oper} {S : List AV} {σ : St} (hops : ops = ops0) (ho : ops0[i]? = some o) (h : aops IT P W ops K [o] S σ) : aopAt IT P W ops K i S σ := by
  subst hops
  unfold aopAt
  rw [ho]
  simp only [aops] at h
  exact h
theorem aany_n {ops ops0 : Array Oper} {FIN : List AV → St → Prop} {k : Nat} {bs : List Bool} {S : List AV} {σ : St} (hops : ops = ops0) (is : List Nat) (hr : Region.ready .any ops0 ⟨bs⟩ = is) (hne : is ≠ []) (h : ∀ i ∈ is, aopAt IT P W ops (fun S σ => aany IT P W ops FIN k ⟨bs.set i true⟩ S σ) i S σ) : aany IT P W ops FIN (k + 1) ⟨bs⟩ S σ := by
  subst hops
  refine ⟨fun e => absurd (hr.symm.trans e) hne, fun i hi => ?_⟩
  have h1 := h i (hr ▸ hi)
  have e : (⟨bs⟩ : Array Bool).setIfInBounds i true = ⟨bs.set i true⟩ := by
    apply Array.ext'
    simp
  rw [e]; exact h1
theorem aany_0 {ops ops0 : Array Oper} {FIN : List AV → St → Prop} {bs : List Bool} {S : List AV} {σ : St} (hops : ops = ops0) (hr : Region.ready .any ops0 ⟨bs⟩ = []) (h : FIN S σ) : aany IT P W ops FIN 0 ⟨bs⟩ S σ := by
  subst hops
  exact ⟨hr, h⟩
theorem all_nil {p : Nat → Prop} : ∀ i ∈ ([] : List Nat), p i := fun i h => by cases h
theorem all_cons {p : Nat → Prop} {a : Nat} {l : List Nat} (h : p a) (t : ∀ i ∈ l, p i) : ∀ i ∈ a :: l, p i := fun i hi => by
  rcases List.mem_cons.1 hi with rfl | hi
  · exact h
  · exact t i hi
end
section
variable {P : Program} {ρ : Operand → AV} {σ : St} {o : Oper} {α : Type} [Enc α]
theorem opB_bsl {c : Call} {x y : Operand} {t e : TypeId} {i : TypeInfo} {z : Value} {s n by' : Nat} {l r : List α} {st : Room} (hn : l.length = n ∧ 0 < n ∧ 0 < r.length ∧ (n + r.length) * by' ≤ 140737488355328) (ho : o.op = .call c) (hc : c.callee = .builtin .append) (ha : c.args.toList = [x, y]) (ht : c.argTypes.toList = [t, t])
    (hx : ρ x = .bsl s 0 n (Enc.sz α) false) (hy : ρ y = .list r.length (Enc.cellsL r) st) (hb : σ.boxes[s]? = some (e, Enc.cellsL l)) (hu : P.underlying t = some (.slice e)) (hi : P.info? e = some i) (hz : i.zero = some z) (hsz : i.size = Enc.sz α) (hzs : z.cells.size = Enc.sz α) (hby : i.bytes = by' ∧ 0 < by') :
    aopB P ρ σ o = some (.bsl σ.boxes.length 0 (n + r.length) (Enc.sz α) false, { σ with boxes := σ.boxes.set s (e, []) ++ [(e, Enc.cellsL (l ++ r))] }) := by
  obtain ⟨h1, h2, h3, h4⟩ := hn
  have hp := Enc.pos (α := α)
  have hsrc : aSrc P σ i.size t t (ρ y) = some (r.length, Enc.cellsL r) := by rw [hy]; exact aSrc_list ⟨rfl, by rw [Enc.lenL, hsz], by omega⟩
  have hmax : n + r.length ≤ maxLen := by
    have h5 : n + r.length ≤ (n + r.length) * by' := Nat.le_mul_of_pos_right _ hby.2
    have h6 : 140737488355328 ≤ maxLen := by decide
    omega
  have hcond : Enc.sz α = i.size ∧ n + r.length ≤ maxLen ∧ (n + r.length) * i.bytes ≤ 140737488355328 ∧ 0 + n * Enc.sz α ≤ (Enc.cellsL l).length := ⟨hsz.symm, hmax, by rw [hby.1]; exact h4, by rw [Enc.lenL, h1]; omega⟩
  have hcond2 : (0 : Nat) = 0 ∧ n * Enc.sz α = (Enc.cellsL l).length ∧ e = e ∧ 0 < n := ⟨rfl, by rw [Enc.lenL, h1], rfl, h2⟩
  have hcond0 : 0 < i.size ∧ z.cells.size = i.size ∧ 0 < r.length := ⟨by omega, by omega, h3⟩
  have key : aAppB P σ t t (ρ x) (ρ y) = some (.bsl σ.boxes.length 0 (n + r.length) (Enc.sz α) false, { σ with boxes := σ.boxes.set s (e, []) ++ [(e, Enc.cellsL (l ++ r))] }) := by
    rw [aAppB]
    simp only [hu, hi, hz, hsrc, if_pos hcond0, hx, hb, if_pos hcond, Bool.false_eq_true, if_false, Enc.app]
    rw [if_pos ⟨trivial, hcond2.2.1, trivial, h2⟩]
  have hnn : isNilS (ρ x) = false := by rw [hx]; rfl
  simp only [aopB, ho, hc, ha, ht, key, hnn, Bool.false_eq_true, if_false]
end
section
variable {m : Nat} {g : FZ}
theorem fgK_nil : fgM [] (mapKL m g []) = [] := by rw [mapKL]; rfl
theorem fgK_t {a b : AV} {S S' : List AV} {ms : List Bool} (h : mapK m g a = b) (r : fgM ms (mapKL m g S) = S') : fgM (true :: ms) (mapKL m g (a :: S)) = b :: S' := by
  rw [mapKL]; show (bif true then mapK m g a else .top) :: _ = _; rw [r, h]; rfl
theorem fgK_f {a : AV} {S S' : List AV} {ms : List Bool} (r : fgM ms (mapKL m g S) = S') : fgM (false :: ms) (mapKL m g (a :: S)) = .top :: S' := by
  rw [mapKL]; show (bif false then mapK m g a else .top) :: _ = _; rw [r]; rfl
theorem mapPtrL_nil' : mapPtrL g [] = [] := by rw [mapPtrL]
theorem mapPtrL_cons' {a b : AV} {l l' : List AV} (h : mapPtr g a = b) (r : mapPtrL g l = l') : mapPtrL g (a :: l) = b :: l' := by rw [mapPtrL, h, r]
theorem mapPtr_clo' {a : AV} (h : clo a = true) : mapPtr g a = a := by
  have := mapPtrL_clo g [a] (by rw [cloL, h]; rfl)
  rw [mapPtrL] at this
  exact (List.cons.inj this).1
theorem kz_bsl {α : Type} [Enc α] {bs : List (TypeId × List AV)} {js : List Nat} {d s n : Nat} {f : Bool} {t : TypeId} {l : List α} (hn : l.length = n) (hb : bs[s]? = some (t, Enc.cellsL l)) (hp : place 0 [] js s = none) : mapK m (kz bs m 0 [] js (d + 1)) (.bsl s 0 n (Enc.sz α) f) = .list l.length (Enc.cellsL l) .none := by
  subst hn
  rw [mapK]
  simp only [kz, hp, hb, Option.map_some, Option.getD_some, List.drop_zero, mapKL_clo _ _ _ (Enc.cloL l)]
  rw [List.take_of_length_le (by rw [Enc.lenL]; exact Nat.le_refl _)]
theorem frz_bsl {α : Type} [Enc α] {bs : List (TypeId × List AV)} {d s n : Nat} {f : Bool} {t : TypeId} {l : List α} (hn : l.length = n) (hb : bs[s]? = some (t, Enc.cellsL l)) : mapPtr (frz bs (d + 1)) (.bsl s 0 n (Enc.sz α) f) = .list l.length (Enc.cellsL l) .none := by
  subst hn
  rw [mapPtr]
  simp only [frz, hb, Option.map_some, Option.getD_some, List.drop_zero, mapPtrL_clo _ _ (Enc.cloL l)]
  rw [List.take_of_length_le (by rw [Enc.lenL]; exact Nat.le_refl _)]
theorem keep_nil {bs : List (TypeId × List AV)} {n d : Nat} {fs js0 : List Nat} : (([] : List Nat).map fun j => ((bs[j]?).map fun b => (b.1, mapKL m (kz bs m n fs js0 d) b.2)).getD (0, [.bad])) = [] := rfl
theorem keep_cons {bs : List (TypeId × List AV)} {n d j : Nat} {fs js js0 : List Nat} {t : TypeId} {cs cs' : List AV} {r : List (TypeId × List AV)} (hb : bs[j]? = some (t, cs)) (hc : mapKL m (kz bs m n fs js0 d) cs = cs') (hr : (js.map fun j => ((bs[j]?).map fun b => (b.1, mapKL m (kz bs m n fs js0 d) b.2)).getD (0, [.bad])) = r) :
    ((j :: js).map fun j => ((bs[j]?).map fun b => (b.1, mapKL m (kz bs m n fs js0 d) b.2)).getD (0, [.bad])) = (t, cs') :: r := by
  rw [List.map_cons, hr, hb]
  simp only [Option.map_some, Option.getD_some, hc]
theorem keep_of {σ σ' : St} {d : Nat} {js : List Nat} {bs' : List (TypeId × List AV)} (h : (js.map fun j => ((σ.boxes[j]?).map fun b => (b.1, mapKL m (kz σ.boxes m 0 [] js d) b.2)).getD (0, [.bad])) = bs') (h2 : { σ with boxes := bs', lens := σ.lens.take m, elems := σ.elems.take m } = σ') : keepSt σ m 0 [] js d = σ' := by
  subst h2
  unfold keepSt keepBoxes
  rw [h]
  rfl
end
end Go.Ab
set_option linter.unusedSimpArgs false
set_option linter.unusedVariables false
namespace Go.Ab
open Go Go.RowKit Go.Fwd
def subRoom (n : Nat) (i j : Int) (st : Room) : Room := if i.toNat = 0 ∧ j.toNat = n then st else if j.toNat = n ∧ st = .full then .full else .none
theorem sub_lenI {α : Type} (l : List α) {i j : Int} (g : 0 ≤ i ∧ i ≤ j ∧ j ≤ (l.length : Int)) : (sub l i j).length = j.toNat - i.toNat := by
  simp only [sub, List.length_take, List.length_drop]; omega
theorem sub_cells {α : Type} [Enc α] (l : List α) {i j : Int} (g : 0 ≤ i ∧ i ≤ j ∧ j ≤ (l.length : Int)) : ((Enc.cellsL l).drop (i.toNat * Enc.sz α)).take ((j.toNat - i.toNat) * Enc.sz α) = Enc.cellsL (sub l i j) := by
  rw [Enc.drop, Enc.take]; rfl
section
variable {P : Program} {ρ : Operand → AV} {σ : St} {o : Oper}
theorem strip_sub {α : Type} [Enc α] (l : List α) (n : Nat) (st : Room) : strip (.list n (Enc.cellsL l) st) = .list n (Enc.cellsL l) .none := by
  rw [strip, Enc.stripL]
theorem q_sub_H {α : Type} [Enc α] {l : List α} {x y : Operand} {t e : TypeId} {st : Room} {j : Int} (g : 0 ≤ 0 ∧ 0 ≤ j ∧ j ≤ (l.length : Int)) (ho : o.op = .slice t x none (some y) none) (hx : ρ x = .list l.length (Enc.cellsL l) st) (hy : ρ y = .raw (.int .i64 j)) (hu : P.underlying t = some (.slice e)) (hs : sizeT P e = some (Enc.sz α)) :
    qop P ρ σ o = some (.list (sub l 0 j).length (Enc.cellsL (sub l 0 j)) (subRoom l.length 0 j st)) := by
  have hg : (0 : Int) ≤ 0 ∧ 0 ≤ j ∧ j ≤ (l.length : Int) := ⟨Int.le_refl 0, g.2⟩
  have h1 : aSlice P t (ρ x) none (some (ρ y)) none = some (.list (sub l 0 j).length (Enc.cellsL (sub l 0 j)) (subRoom l.length 0 j st)) := by
    have hj := g.2
    rw [sub_lenI l hg, ← sub_cells l hg, hx, hy]
    simp [aSlice, hu, hs, aBounds, aBound, Enc.lenL, subRoom, hj]
  simp only [qop, ho, Option.map, h1]
theorem q_conv64 {x : Operand} {s t : TypeId} {k : IntKind} {n : Int} (g : -9223372036854775808 ≤ n ∧ n < 9223372036854775808) (ho : o.op = .convert s t x) (hx : ρ x = .raw (.int k n)) (hs : val? P (Next.value <$> convert s t (.int k n)) = some (.value (.int .i64 (IntKind.i64.wrap n)))) : qop P ρ σ o = some (.raw (.int .i64 n)) := by
  have h := wrap_i64 g.1 g.2
  rw [h] at hs
  simp [qop, rawOp, ho, Op.operands, hx, toVal, execOp, rawEnv, hs, aBytesStr]
  exact ⟨rfl, rfl⟩
theorem u8sOf_cells : ∀ l : List UInt8, u8sOf (Enc.cellsL l) = some l
  | [] => rfl
  | a :: l => by
    show u8sOf (.raw (.int .u8 ((a.toNat : Nat) : Int)) :: Enc.cellsL l) = _
    have h := a.toNat_lt
    simp [u8sOf, u8sOf_cells l]
    omega
theorem q_bstr {l : List UInt8} {x : Operand} {s t e : TypeId} {st : Room} (ho : o.op = .convert s t x) (hx : ρ x = .list l.length (Enc.cellsL l) st) (hs : P.underlying s = some (.slice e) ∧ P.underlying e = some (.int .u8)) (ht : P.underlying t = some .string) : qop P ρ σ o = some (.raw (.string (bs l))) := by
  have h : aBytesStr P s t (ρ x) = some (.raw (.string (bs l))) := by
    rw [hx]
    simp only [aBytesStr, hs.1, hs.2, ht, u8sOf_cells, if_true]
    rfl
  simp only [qop, ho, h]
theorem op_storeO {t : TypeId} {x y : Operand} {s off n : Nat} {cs : List AV} {bx : TypeId × List AV} (ho : o.op = .store t x y) (hx : ρ x = .ptr s off) (hy : ρ y = ownAV n cs) (hb : σ.boxes[s]? = some bx) (hn : sizeT P t = some 1) (hl : off + 1 ≤ bx.2.length) :
    aop P ρ σ o = some (.raw undef, { σ with boxes := σ.boxes.set s (bx.1, bx.2.take off ++ [ownAV n cs] ++ bx.2.drop (off + 1)) }) := by
  have h1 : cellsOf (ownAV n cs) = [ownAV n cs] := by unfold ownAV; split <;> rfl
  have h2 : cellOk (ownAV n cs) = true := by unfold ownAV; split <;> rfl
  rw [op_store (n := 1) ho hx hy hb hn ⟨h2, by rw [h1]; rfl, hl, by decide⟩, h1]
theorem q_rem64 {x y : Operand} {t : TypeId} {c} {m n : Int} (g : (0 ≤ m ∧ m < 9223372036854775808) ∧ 0 < n) (ho : o.op = .binOp .rem t x y c) (hx : ρ x = .raw (.int .i64 m)) (hy : ρ y = .raw (.int .i64 n)) : qop P ρ σ o = some (.raw (.int .i64 (Int.tmod m n))) := by
  obtain ⟨⟨h1, h2⟩, h3⟩ := g
  have h0 : ¬ n = 0 := by omega
  have hb : 0 ≤ Int.tmod m n ∧ Int.tmod m n ≤ m := by
    rw [Int.tmod_eq_emod_of_nonneg h1]
    exact ⟨Int.emod_nonneg _ h0, by
      have := Int.emod_emod_of_dvd m (Int.dvd_refl n)
      have h4 := Int.mul_ediv_add_emod m n
      have h5 : 0 ≤ n * (m / n) := Int.mul_nonneg (by omega) (Int.ediv_nonneg h1 (by omega))
      omega⟩
  have h := wrap_i64 (x := Int.tmod m n) (by omega) (by omega)
  simp [qop, rawOp, ho, Op.operands, hx, hy, toVal, execOp, rawEnv, eqGuard, binOp, Op.intDiv, h0, h]
  try rfl
end
section
variable {P : Program} {ρ : Operand → AV} {σ : St} {o : Oper}
theorem q_subL_ {α : Type} [Enc α] {l : List α} {x y : Operand} {t e : TypeId} {st : Room} {i : Int} (g : 0 ≤ i ∧ i ≤ (l.length : Int) ∧ (l.length : Int) ≤ (l.length : Int)) (ho : o.op = .slice t x (some y) none none) (hx : ρ x = .list l.length (Enc.cellsL l) st) (hy : ρ y = .raw (.int .i64 i)) (hu : P.underlying t = some (.slice e)) (hs : sizeT P e = some (Enc.sz α)) :
    qop P ρ σ o = some (.list (sub l i l.length).length (Enc.cellsL (sub l i l.length)) (subRoom l.length i l.length st)) := by
  have h1 : aSlice P t (ρ x) (some (ρ y)) none none = some (.list (sub l i l.length).length (Enc.cellsL (sub l i l.length)) (subRoom l.length i l.length st)) := by
    have hj := g.1
    have hk := g.2.1
    rw [sub_lenI l g, ← sub_cells l g, hx, hy]
    simp [aSlice, hu, hs, aBounds, aBound, Enc.lenL, subRoom, hj, hk]
  simp only [qop, ho, Option.map, h1]
end
end Go.Ab

