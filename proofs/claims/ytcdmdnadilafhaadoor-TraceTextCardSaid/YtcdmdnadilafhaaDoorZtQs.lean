/-
  Slices of lists.
-/
import Derived.Test.YtcdmdnadilafhaaDoorZdSh
import Derived.Test.YtcdmdnadilafhaaDoorZtEn
set_option linter.unusedSimpArgs false
set_option linter.unusedVariables false
namespace Go.Ab
open Go Go.RowKit Go.Fwd
section
variable {IT : IterP} {P : Program} {W : Owed} {k0 : Nat}
variable {ops : Array Oper} {σ : St} {pl : List Pe} {K : List AV → Prop} {o : Oper} {l : List Oper} {S S' : List AV} {k : Nat}
end
end Go.Ab
set_option linter.unusedSimpArgs false
set_option linter.unusedVariables false
namespace Go.Ab
open Go Go.RowKit Go.Fwd
section
variable {IT : IterP} {P : Program} {W : Owed} {k0 : Nat}
/-- A region whose order is open comes, in each order, to one state. -/
theorem w_seqAny {id : Nat} {ops : Array Oper} {y : Code} {Q : AQ} {S : List AV} {σ : St} (S1 : List AV) (σ1 : St) (h : aany IT P W ops (fun S σ => Wk k0 S σ S1 σ1) ops.size (Array.replicate ops.size false) S σ) (hrest : awp IT P W k0 y Q S1 σ1) : awp IT P W k0 (.seq (.region id ops true) y) Q S σ :=
  .inr (.inr (.inl (aany_mono (fun S σ hw => ⟨S1, σ1, hw, hrest⟩) _ _ _ _ h)))
theorem aany_intro {ops0 : Array Oper} {FIN0 : List AV → St → Prop} {k : Nat} {l : Array Bool} {S : List AV} {σ : St} (h : ∀ ops, ops = ops0 → ∀ FIN : List AV → St → Prop, (∀ S σ, FIN0 S σ → FIN S σ) → ∀ S0, S0 = S → aany IT P W ops FIN k l S0 σ) : aany IT P W ops0 FIN0 k l S σ := h ops0 rfl FIN0 (fun _ _ h => h) S rfl
theorem aopAt_s {ops ops0 : Array Oper} {K : List AV → St → Prop} {i : Nat} {o : Oper} {S : List AV} {σ : St} (hops : ops = ops0) (ho : ops0[i]? = some o) (h : aops IT P W ops K [o] S σ) : aopAt IT P W ops K i S σ := by
  subst hops
  unfold aopAt
  rw [ho]
  simp only [aops] at h
  exact h
theorem aany_n {ops ops0 : Array Oper} {FIN : List AV → St → Prop} {k : Nat} {bs : List Bool} {S : List AV} {σ : St} (hops : ops = ops0) (is : List Nat) (hr : Region.ready .any ops0 ⟨bs⟩ = is) (hne : is ≠ []) (h : ∀ i ∈ is, aopAt IT P W ops (fun S σ => aany IT P W ops FIN k ⟨bs.set i true⟩ S σ) i S σ) : aany IT P W ops FIN (k + 1) ⟨bs⟩ S σ := by
  subst hops
  refine ⟨fun e => absurd (hr.symm.trans e) hne, fun i hi => ?_⟩
  have h1 := h i (hr ▸ hi)
  have e : (⟨bs⟩ : Array Bool).setIfInBounds i true = ⟨bs.set i true⟩ := by
    apply Array.ext'
    simp
  rw [e]; exact h1
theorem aany_0 {ops ops0 : Array Oper} {FIN : List AV → St → Prop} {bs : List Bool} {S : List AV} {σ : St} (hops : ops = ops0) (hr : Region.ready .any ops0 ⟨bs⟩ = []) (h : FIN S σ) : aany IT P W ops FIN 0 ⟨bs⟩ S σ := by
  subst hops
  exact ⟨hr, h⟩
theorem all_nil {p : Nat → Prop} : ∀ i ∈ ([] : List Nat), p i := fun i h => by cases h
theorem all_cons {p : Nat → Prop} {a : Nat} {l : List Nat} (h : p a) (t : ∀ i ∈ l, p i) : ∀ i ∈ a :: l, p i := fun i hi => by
  rcases List.mem_cons.1 hi with rfl | hi
  · exact h
  · exact t i hi
end
section
variable {P : Program} {ρ : Operand → AV} {σ : St} {o : Oper} {α : Type} [Enc α]
end
/-! ### boxes that are frozen -/
section
variable {m : Nat} {g : FZ}
end
end Go.Ab
set_option linter.unusedSimpArgs false
set_option linter.unusedVariables false
namespace Go.Ab
open Go Go.RowKit Go.Fwd
section
variable {P : Program} {ρ : Operand → AV} {σ : St} {o : Oper}
theorem bs_get (l : List UInt8) (i : Nat) : (bs l)[i]? = l[i]? := by
  simp only [bs]
  by_cases h : i < l.length
  · rw [List.getElem?_eq_getElem h]
    have h2 : i < (ByteArray.mk l.toArray).size := h
    rw [getElem?_pos (ByteArray.mk l.toArray) i h2]
    rfl
  · rw [List.getElem?_eq_none (by omega)]
    have h2 : ¬ i < (ByteArray.mk l.toArray).size := h
    rw [getElem?_neg (ByteArray.mk l.toArray) i h2]
theorem bs_extract (l : List UInt8) (i j : Nat) : (bs l).extract i j = bs ((l.drop i).take (j - i)) := by
  apply ByteArray.ext
  rw [ByteArray.data_extract]
  simp [bs, List.extract_eq_take_drop]
theorem raw_val {v : Value} (h1 : o.op.operands.toList.all (fun x => (toVal (ρ x)).isSome) = true) (h2 : ∀ cs b, o.op ≠ .select cs b) (h3 : val? P (execOp (rawEnv ρ) o) = some (.value v)) (h4 : okVal v = true) : rawOp P ρ o = some (ofVal v) := by
  unfold rawOp
  rw [if_pos h1]
  split
  · rename_i cs b ho; exact absurd ho (h2 cs b)
  · rw [h3]; simp only [h4, if_true]
theorem q_sidx {t : TypeId} {x i : Operand} {l : List UInt8} {k : IntKind} {n : Int} (g : 0 ≤ n ∧ n < l.length) (ho : o.op = .index t x i) (hx : ρ x = .raw (.string (bs l))) (hi : ρ i = .raw (.int k n)) (hu : P.underlying t = some .string) :
    qop P ρ σ o = some (.raw (.int .u8 (((ix l n).toNat : Nat) : Int))) := by
  have hn : n.toNat < l.length := by omega
  have h3 : val? P (execOp (rawEnv ρ) o) = some (.value (.int .u8 (((ix l n).toNat : Nat) : Int))) := by
    have hg : (bs l)[n.toNat]? = some (ix l n) := by
      rw [bs_get, List.getElem?_eq_getElem hn]; simp [ix, hn]
    simp only [execOp, ho, rawEnv, hx, hi, toVal, Option.getD_some, Instr.index, asIntOf, underlying]
    simp only [program, Bind.bind, Pure.pure, Functor.map, Sem.bind, val?, hu, if_pos g.1, hg]
  have h1 : o.op.operands.toList.all (fun x => (toVal (ρ x)).isSome) = true := by rw [ho]; simp [Op.operands, hx, hi, toVal]
  have h4 := raw_val h1 (by rw [ho]; intros; simp) h3 rfl
  simp only [qop, ho, hx, hi, h4]
  first | rfl | (simp; rfl)
theorem q_sslL_ {t : TypeId} {x y : Operand} {l : List UInt8} {i : Int} (g : 0 ≤ i ∧ i ≤ (l.length : Int) ∧ (l.length : Int) ≤ (l.length : Int)) (ho : o.op = .slice t x (some y) none none) (hx : ρ x = .raw (.string (bs l))) (hy : ρ y = .raw (.int .i64 i)) (hu : P.underlying t = some .string) :
    qop P ρ σ o = some (.raw (.string (bs (sub l i l.length)))) := by
  have hsz : (bs l).size = l.length := rfl
  have c2 : 0 ≤ i ∧ i ≤ ((bs l).size : Int) := by rw [hsz]; omega
  have h3 : val? P (execOp (rawEnv ρ) o) = some (.value (.string (bs (sub l i l.length)))) := by
    have he : sub l i l.length = (l.drop i.toNat).take (l.length - i.toNat) := rfl
    rw [he, ← bs_extract]
    simp only [execOp, ho, rawEnv, hx, hy, toVal, Option.getD_some, Option.map_some, Option.map_none, Instr.sliceAt, Instr.slice, Instr.sliceBounds, Instr.sliceBound, asIntOf, underlying]
    simp [program, Bind.bind, Pure.pure, Functor.map, Sem.bind, val?, hu, if_pos c2]
    try rfl
  have h1 : o.op.operands.toList.all (fun x => (toVal (ρ x)).isSome) = true := by rw [ho]; simp [Op.operands, hx, hy, toVal]
  have h4 := raw_val h1 (by rw [ho]; intros; simp) h3 rfl
  simp only [qop, ho, hx, hy, h4, Option.map_some, Option.map_none, aSlice, hu]
  try rfl
end
end Go.Ab
set_option linter.unusedSimpArgs false
set_option linter.unusedVariables false
namespace Go.Ab
open Go Go.RowKit Go.Fwd
def subRoom (n : Nat) (i j : Int) (st : Room) : Room := if i.toNat = 0 ∧ j.toNat = n then st else if j.toNat = n ∧ st = .full then .full else .none
theorem sub_lenI {α : Type} (l : List α) {i j : Int} (g : 0 ≤ i ∧ i ≤ j ∧ j ≤ (l.length : Int)) : (sub l i j).length = j.toNat - i.toNat := by
  simp only [sub, List.length_take, List.length_drop]; omega
theorem sub_cells {α : Type} [Enc α] (l : List α) {i j : Int} (g : 0 ≤ i ∧ i ≤ j ∧ j ≤ (l.length : Int)) : ((Enc.cellsL l).drop (i.toNat * Enc.sz α)).take ((j.toNat - i.toNat) * Enc.sz α) = Enc.cellsL (sub l i j) := by
  rw [Enc.drop, Enc.take]; rfl
section
variable {P : Program} {ρ : Operand → AV} {σ : St} {o : Oper}
theorem strip_sub {α : Type} [Enc α] (l : List α) (n : Nat) (st : Room) : strip (.list n (Enc.cellsL l) st) = .list n (Enc.cellsL l) .none := by
  rw [strip, Enc.stripL]
theorem q_sub_H {α : Type} [Enc α] {l : List α} {x y : Operand} {t e : TypeId} {st : Room} {j : Int} (g : 0 ≤ 0 ∧ 0 ≤ j ∧ j ≤ (l.length : Int)) (ho : o.op = .slice t x none (some y) none) (hx : ρ x = .list l.length (Enc.cellsL l) st) (hy : ρ y = .raw (.int .i64 j)) (hu : P.underlying t = some (.slice e)) (hs : sizeT P e = some (Enc.sz α)) :
    qop P ρ σ o = some (.list (sub l 0 j).length (Enc.cellsL (sub l 0 j)) (subRoom l.length 0 j st)) := by
  have hg : (0 : Int) ≤ 0 ∧ 0 ≤ j ∧ j ≤ (l.length : Int) := ⟨Int.le_refl 0, g.2⟩
  have h1 : aSlice P t (ρ x) none (some (ρ y)) none = some (.list (sub l 0 j).length (Enc.cellsL (sub l 0 j)) (subRoom l.length 0 j st)) := by
    have hj := g.2
    rw [sub_lenI l hg, ← sub_cells l hg, hx, hy]
    simp [aSlice, hu, hs, aBounds, aBound, Enc.lenL, subRoom, hj]
  simp only [qop, ho, Option.map, h1]
theorem q_conv64 {x : Operand} {s t : TypeId} {k : IntKind} {n : Int} (g : -9223372036854775808 ≤ n ∧ n < 9223372036854775808) (ho : o.op = .convert s t x) (hx : ρ x = .raw (.int k n)) (hs : val? P (Next.value <$> convert s t (.int k n)) = some (.value (.int .i64 (IntKind.i64.wrap n)))) : qop P ρ σ o = some (.raw (.int .i64 n)) := by
  have h := wrap_i64 g.1 g.2
  rw [h] at hs
  simp [qop, rawOp, ho, Op.operands, hx, toVal, execOp, rawEnv, hs, aBytesStr]
  exact ⟨rfl, rfl⟩
theorem u8sOf_cells : ∀ l : List UInt8, u8sOf (Enc.cellsL l) = some l
  | [] => rfl
  | a :: l => by
    show u8sOf (.raw (.int .u8 ((a.toNat : Nat) : Int)) :: Enc.cellsL l) = _
    have h := a.toNat_lt
    simp [u8sOf, u8sOf_cells l]
    omega
theorem q_bstr {l : List UInt8} {x : Operand} {s t e : TypeId} {st : Room} (ho : o.op = .convert s t x) (hx : ρ x = .list l.length (Enc.cellsL l) st) (hs : P.underlying s = some (.slice e) ∧ P.underlying e = some (.int .u8)) (ht : P.underlying t = some .string) : qop P ρ σ o = some (.raw (.string (bs l))) := by
  have h : aBytesStr P s t (ρ x) = some (.raw (.string (bs l))) := by
    rw [hx]
    simp only [aBytesStr, hs.1, hs.2, ht, u8sOf_cells, if_true]
    rfl
  simp only [qop, ho, h]
theorem op_storeO {t : TypeId} {x y : Operand} {s off n : Nat} {cs : List AV} {bx : TypeId × List AV} (ho : o.op = .store t x y) (hx : ρ x = .ptr s off) (hy : ρ y = ownAV n cs) (hb : σ.boxes[s]? = some bx) (hn : sizeT P t = some 1) (hl : off + 1 ≤ bx.2.length) :
    aop P ρ σ o = some (.raw undef, { σ with boxes := σ.boxes.set s (bx.1, bx.2.take off ++ [ownAV n cs] ++ bx.2.drop (off + 1)) }) := by
  have h1 : cellsOf (ownAV n cs) = [ownAV n cs] := by unfold ownAV; split <;> rfl
  have h2 : cellOk (ownAV n cs) = true := by unfold ownAV; split <;> rfl
  rw [op_store (n := 1) ho hx hy hb hn ⟨h2, by rw [h1]; rfl, hl, by decide⟩, h1]
def trcR (t : Trc) (st : Room) : AV := .agg [.list t.l.length (Enc.cellsL t.l) st, .raw (.int .u8 t.e.k), .raw (.int .i64 t.e.c)]
theorem strip_trcR (t : Trc) (st : Room) : strip (trcR t st) = .agg (Enc.cells t) := by
  simp only [trcR, strip, stripL, Enc.stripL]; rfl
end
end Go.Ab

