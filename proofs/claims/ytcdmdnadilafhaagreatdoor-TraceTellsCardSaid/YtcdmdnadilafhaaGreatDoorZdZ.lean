/-
  Regions whose order is open, node by node; slices into boxes that are read and written, element by element.
-/
import Derived.Test.YtcdmdnadilafhaaGreatDoorZdSh
set_option linter.unusedSimpArgs false
set_option linter.unusedVariables false
namespace Go.Ab
open Go Go.RowKit Go.Fwd
section
variable {IT : IterP} {P : Program} {W : Owed} {k0 : Nat}
variable {ops : Array Oper} {σ : St} {pl : List Pe} {K : List AV → Prop} {o : Oper} {l : List Oper} {S S' : List AV} {k : Nat}
end
end Go.Ab
set_option linter.unusedSimpArgs false
set_option linter.unusedVariables false
namespace Go.Ab
open Go Go.RowKit Go.Fwd
section
variable {IT : IterP} {P : Program} {W : Owed} {k0 : Nat}
/-- A region whose order is open comes, in each order, to one state. -/
theorem w_seqAny {id : Nat} {ops : Array Oper} {y : Code} {Q : AQ} {S : List AV} {σ : St} (S1 : List AV) (σ1 : St) (h : aany IT P W ops (fun S σ => Wk k0 S σ S1 σ1) ops.size (Array.replicate ops.size false) S σ) (hrest : awp IT P W k0 y Q S1 σ1) : awp IT P W k0 (.seq (.region id ops true) y) Q S σ :=
  .inr (.inr (.inl (aany_mono (fun S σ hw => ⟨S1, σ1, hw, hrest⟩) _ _ _ _ h)))
theorem aany_intro {ops0 : Array Oper} {FIN0 : List AV → St → Prop} {k : Nat} {l : Array Bool} {S : List AV} {σ : St} (h : ∀ ops, ops = ops0 → ∀ FIN : List AV → St → Prop, (∀ S σ, FIN0 S σ → FIN S σ) → ∀ S0, S0 = S → aany IT P W ops FIN k l S0 σ) : aany IT P W ops0 FIN0 k l S σ := h ops0 rfl FIN0 (fun _ _ h => h) S rfl
theorem aopAt_s {ops ops0 : Array Oper} {K : List AV → St → Prop} {i : Nat} {o : Oper} {S : List AV} {σ : St} (hops : ops = ops0) (ho : ops0[i]? = some o) (h : aops IT P W ops K [o] S σ) : aopAt IT P W ops K i S σ := by
  subst hops
  unfold aopAt
  rw [ho]
  simp only [aops] at h
  exact h
theorem aany_n {ops ops0 : Array Oper} {FIN : List AV → St → Prop} {k : Nat} {bs : List Bool} {S : List AV} {σ : St} (hops : ops = ops0) (is : List Nat) (hr : Region.ready .any ops0 ⟨bs⟩ = is) (hne : is ≠ []) (h : ∀ i ∈ is, aopAt IT P W ops (fun S σ => aany IT P W ops FIN k ⟨bs.set i true⟩ S σ) i S σ) : aany IT P W ops FIN (k + 1) ⟨bs⟩ S σ := by
  subst hops
  refine ⟨fun e => absurd (hr.symm.trans e) hne, fun i hi => ?_⟩
  have h1 := h i (hr ▸ hi)
  have e : (⟨bs⟩ : Array Bool).setIfInBounds i true = ⟨bs.set i true⟩ := by
    apply Array.ext'
    simp
  rw [e]; exact h1
theorem aany_0 {ops ops0 : Array Oper} {FIN : List AV → St → Prop} {bs : List Bool} {S : List AV} {σ : St} (hops : ops = ops0) (hr : Region.ready .any ops0 ⟨bs⟩ = []) (h : FIN S σ) : aany IT P W ops FIN 0 ⟨bs⟩ S σ := by
  subst hops
  exact ⟨hr, h⟩
theorem all_nil {p : Nat → Prop} : ∀ i ∈ ([] : List Nat), p i := fun i h => by cases h
theorem all_cons {p : Nat → Prop} {a : Nat} {l : List Nat} (h : p a) (t : ∀ i ∈ l, p i) : ∀ i ∈ a :: l, p i := fun i hi => by
  rcases List.mem_cons.1 hi with rfl | hi
  · exact h
  · exact t i hi
end
section
variable {P : Program} {ρ : Operand → AV} {σ : St} {o : Oper} {α : Type} [Enc α]
theorem q_idxB {t e : TypeId} {x i : Operand} {s n : Nat} {f : Bool} {k : IntKind} {j : Int} (g : 0 ≤ j ∧ j < n) (ho : o.op = .indexAddr t x i) (hx : ρ x = .bsl s 0 n (Enc.sz α) f) (hi : ρ i = .raw (.int k j)) (hu : P.underlying t = some (.slice e)) (hs : sizeT P e = some (Enc.sz α)) :
    qop P ρ σ o = some (.ptr s (0 + j.toNat * Enc.sz α)) := q_indexB ho hx hi hu hs g
theorem Enc.putK {l : List α} {i : Int} {x : α} {k n : Nat} {cs : List AV} (g : 0 ≤ i ∧ i < l.length) (hl : cs.length = n) (hk : k + n ≤ Enc.sz α) (hx : Enc.cells x = (Enc.cells (ix l i)).take k ++ cs ++ (Enc.cells (ix l i)).drop (k + n)) :
    (Enc.cellsL l).take (0 + i.toNat * Enc.sz α + k) ++ cs ++ (Enc.cellsL l).drop (0 + i.toNat * Enc.sz α + k + n) = Enc.cellsL (l.set i.toNat x) := by
  have hi : i.toNat < l.length := by omega
  have hset : l.set i.toNat x = l.take i.toNat ++ [x] ++ l.drop (i.toNat + 1) := by
    rw [List.set_eq_take_append_cons_drop, if_pos hi]; simp
  have hlen := Enc.len (ix l i)
  have e1 : (Enc.cellsL l).drop (i.toNat * Enc.sz α) = Enc.cells (ix l i) ++ Enc.cellsL (l.drop (i.toNat + 1)) := Enc.at g
  have e2 : (Enc.cellsL l).take (0 + i.toNat * Enc.sz α + k) = Enc.cellsL (l.take i.toNat) ++ (Enc.cells (ix l i)).take k := by
    rw [Nat.zero_add, List.take_add, Enc.take, e1, List.take_append_of_le_length (by omega)]
  have e3 : (Enc.cellsL l).drop (0 + i.toNat * Enc.sz α + k + n) = (Enc.cells (ix l i)).drop (k + n) ++ Enc.cellsL (l.drop (i.toNat + 1)) := by
    rw [Nat.zero_add, Nat.add_assoc, ← List.drop_drop, e1, List.drop_append_of_le_length (by omega)]
  rw [e2, e3, hset, Enc.app, Enc.app, Enc.cons, Enc.nil, hx]
  simp
theorem op_storeB {l : List α} {i : Int} {k s n : Nat} {te t : TypeId} {x y : Operand} {v : AV} (x' : α) (g : 0 ≤ i ∧ i < l.length) (ho : o.op = .store t x y) (hx : ρ x = .ptr s (0 + i.toNat * Enc.sz α + k)) (hy : ρ y = v) (hb : σ.boxes[s]? = some (te, Enc.cellsL l)) (hn : sizeT P t = some n) (hc : cellOk v = true) (hl : (cellsOf v).length = n) (h0 : 0 < n) (hk : k + n ≤ Enc.sz α)
    (hx' : Enc.cells x' = (Enc.cells (ix l i)).take k ++ cellsOf v ++ (Enc.cells (ix l i)).drop (k + n)) : aop P ρ σ o = some (.raw undef, { σ with boxes := σ.boxes.set s (te, Enc.cellsL (l.set i.toNat x')) }) := by
  have hfit : 0 + i.toNat * Enc.sz α + k + n ≤ (Enc.cellsL l).length := by
    rw [Enc.lenL]
    have h1 : i.toNat + 1 ≤ l.length := by omega
    have h2 := Nat.mul_le_mul_right (Enc.sz α) h1
    rw [Nat.succ_mul] at h2
    omega
  rw [op_store (n := n) ho hx hy hb hn ⟨hc, hl, hfit, h0⟩, Enc.putK g hl hk hx']
end
/-! ### boxes that are frozen -/
section
variable {m : Nat} {g : FZ}
theorem mapKL_nil' : mapKL m g [] = [] := by rw [mapKL]
theorem mapKL_cons' {a b : AV} {l l' : List AV} (h : mapK m g a = b) (r : mapKL m g l = l') : mapKL m g (a :: l) = b :: l' := by rw [mapKL, h, r]
theorem mapK_agg' {l l' : List AV} (r : mapKL m g l = l') : mapK m g (.agg l) = .agg l' := by rw [mapK, r]
theorem mapPtrL_nil' : mapPtrL g [] = [] := by rw [mapPtrL]
theorem mapPtrL_cons' {a b : AV} {l l' : List AV} (h : mapPtr g a = b) (r : mapPtrL g l = l') : mapPtrL g (a :: l) = b :: l' := by rw [mapPtrL, h, r]
theorem mapPtr_agg' {l l' : List AV} (r : mapPtrL g l = l') : mapPtr g (.agg l) = .agg l' := by rw [mapPtr, r]
theorem mapPtr_clo' {a : AV} (h : clo a = true) : mapPtr g a = a := by
  have := mapPtrL_clo g [a] (by rw [cloL, h]; rfl)
  rw [mapPtrL] at this
  exact (List.cons.inj this).1
theorem frz_bsl {α : Type} [Enc α] {bs : List (TypeId × List AV)} {d s n : Nat} {f : Bool} {t : TypeId} {l : List α} (hn : l.length = n) (hb : bs[s]? = some (t, Enc.cellsL l)) : mapPtr (frz bs (d + 1)) (.bsl s 0 n (Enc.sz α) f) = .list l.length (Enc.cellsL l) .none := by
  subst hn
  rw [mapPtr]
  simp only [frz, hb, Option.map_some, Option.getD_some, List.drop_zero, mapPtrL_clo _ _ (Enc.cloL l)]
  rw [List.take_of_length_le (by rw [Enc.lenL]; exact Nat.le_refl _)]
/-- The boxes behind a freezing. -/
theorem keep_nil {bs : List (TypeId × List AV)} {n d : Nat} {fs js0 : List Nat} : (([] : List Nat).map fun j => ((bs[j]?).map fun b => (b.1, mapKL m (kz bs m n fs js0 d) b.2)).getD (0, [.bad])) = [] := rfl
theorem keep_cons {bs : List (TypeId × List AV)} {n d j : Nat} {fs js js0 : List Nat} {t : TypeId} {cs cs' : List AV} {r : List (TypeId × List AV)} (hb : bs[j]? = some (t, cs)) (hc : mapKL m (kz bs m n fs js0 d) cs = cs') (hr : (js.map fun j => ((bs[j]?).map fun b => (b.1, mapKL m (kz bs m n fs js0 d) b.2)).getD (0, [.bad])) = r) :
    ((j :: js).map fun j => ((bs[j]?).map fun b => (b.1, mapKL m (kz bs m n fs js0 d) b.2)).getD (0, [.bad])) = (t, cs') :: r := by
  rw [List.map_cons, hr, hb]
  simp only [Option.map_some, Option.getD_some, hc]
theorem keep_of {σ σ' : St} {d : Nat} {js : List Nat} {bs' : List (TypeId × List AV)} (h : (js.map fun j => ((σ.boxes[j]?).map fun b => (b.1, mapKL m (kz σ.boxes m 0 [] js d) b.2)).getD (0, [.bad])) = bs') (h2 : { σ with boxes := bs', lens := σ.lens.take m, elems := σ.elems.take m } = σ') : keepSt σ m 0 [] js d = σ' := by
  subst h2
  unfold keepSt keepBoxes
  rw [h]
  rfl
theorem len_pos {α : Type} {l : List α} (h : (((l.length : Nat) : Int) == 0) = false) : 0 < l.length := by
  rcases Nat.eq_zero_or_pos l.length with e | e
  · rw [e] at h; cases h
  · exact e
end
end Go.Ab

