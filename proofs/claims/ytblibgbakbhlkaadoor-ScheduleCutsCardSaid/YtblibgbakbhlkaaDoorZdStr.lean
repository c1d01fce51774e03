/-
  Operations on strings.
-/
import Derived.Test.YtblibgbakbhlkaaDoorZdSh
set_option linter.unusedSimpArgs false
set_option linter.unusedVariables false
namespace Go.Ab
open Go Go.RowKit Go.Fwd
section
variable {IT : IterP} {P : Program} {W : Owed} {k0 : Nat}
variable {ops : Array Oper} {σ : St} {pl : List Pe} {K : List AV → Prop} {o : Oper} {l : List Oper} {S S' : List AV} {k : Nat}
end
end Go.Ab
set_option linter.unusedSimpArgs false
set_option linter.unusedVariables false
namespace Go.Ab
open Go Go.RowKit Go.Fwd
section
variable {IT : IterP} {P : Program} {W : Owed} {k0 : Nat}
theorem aany_intro {ops0 : Array Oper} {FIN0 : List AV → St → Prop} {k : Nat} {l : Array Bool} {S : List AV} {σ : St} (h : ∀ ops, ops = ops0 → ∀ FIN : List AV → St → Prop, (∀ S σ, FIN0 S σ → FIN S σ) → ∀ S0, S0 = S → aany IT P W ops FIN k l S0 σ) : aany IT P W ops0 FIN0 k l S σ := h ops0 rfl FIN0 (fun _ _ h => h) S rfl
theorem aopAt_s {ops ops0 : Array Oper} {K : List AV → St → Prop} {i : Nat} {o : Oper} {S : List AV} {σ : St} (hops : ops = ops0) (ho : ops0[i]? = some o) (h : aops IT P W ops K [o] S σ) : aopAt IT P W ops K i S σ := by
  subst hops
  unfold aopAt
  rw [ho]
  simp only [aops] at h
  exact h
theorem aany_n {ops ops0 : Array Oper} {FIN : List AV → St → Prop} {k : Nat} {bs : List Bool} {S : List AV} {σ : St} (hops : ops = ops0) (is : List Nat) (hr : Region.ready .any ops0 ⟨bs⟩ = is) (hne : is ≠ []) (h : ∀ i ∈ is, aopAt IT P W ops (fun S σ => aany IT P W ops FIN k ⟨bs.set i true⟩ S σ) i S σ) : aany IT P W ops FIN (k + 1) ⟨bs⟩ S σ := by
  subst hops
  refine ⟨fun e => absurd (hr.symm.trans e) hne, fun i hi => ?_⟩
  have h1 := h i (hr ▸ hi)
  have e : (⟨bs⟩ : Array Bool).setIfInBounds i true = ⟨bs.set i true⟩ := by
    apply Array.ext'
    simp
  rw [e]; exact h1
theorem aany_0 {ops ops0 : Array Oper} {FIN : List AV → St → Prop} {bs : List Bool} {S : List AV} {σ : St} (hops : ops = ops0) (hr : Region.ready .any ops0 ⟨bs⟩ = []) (h : FIN S σ) : aany IT P W ops FIN 0 ⟨bs⟩ S σ := by
  subst hops
  exact ⟨hr, h⟩
theorem all_nil {p : Nat → Prop} : ∀ i ∈ ([] : List Nat), p i := fun i h => by cases h
theorem all_cons {p : Nat → Prop} {a : Nat} {l : List Nat} (h : p a) (t : ∀ i ∈ l, p i) : ∀ i ∈ a :: l, p i := fun i hi => by
  rcases List.mem_cons.1 hi with rfl | hi
  · exact h
  · exact t i hi
end
section
variable {P : Program} {ρ : Operand → AV} {σ : St} {o : Oper} {α : Type} [Enc α]
end
section
variable {m : Nat} {g : FZ}
theorem fgK_nil : fgM [] (mapKL m g []) = [] := by rw [mapKL]; rfl
theorem fgK_t {a b : AV} {S S' : List AV} {ms : List Bool} (h : mapK m g a = b) (r : fgM ms (mapKL m g S) = S') : fgM (true :: ms) (mapKL m g (a :: S)) = b :: S' := by
  rw [mapKL]; show (bif true then mapK m g a else .top) :: _ = _; rw [r, h]; rfl
theorem fgK_f {a : AV} {S S' : List AV} {ms : List Bool} (r : fgM ms (mapKL m g S) = S') : fgM (false :: ms) (mapKL m g (a :: S)) = .top :: S' := by
  rw [mapKL]; show (bif false then mapK m g a else .top) :: _ = _; rw [r]; rfl
theorem kz_bsl {α : Type} [Enc α] {bs : List (TypeId × List AV)} {js : List Nat} {d s n : Nat} {f : Bool} {t : TypeId} {l : List α} (hn : l.length = n) (hb : bs[s]? = some (t, Enc.cellsL l)) (hp : place 0 [] js s = none) : mapK m (kz bs m 0 [] js (d + 1)) (.bsl s 0 n (Enc.sz α) f) = .list l.length (Enc.cellsL l) .none := by
  subst hn
  rw [mapK]
  simp only [kz, hp, hb, Option.map_some, Option.getD_some, List.drop_zero, mapKL_clo _ _ _ (Enc.cloL l)]
  rw [List.take_of_length_le (by rw [Enc.lenL]; exact Nat.le_refl _)]
theorem frz_bsl {α : Type} [Enc α] {bs : List (TypeId × List AV)} {d s n : Nat} {f : Bool} {t : TypeId} {l : List α} (hn : l.length = n) (hb : bs[s]? = some (t, Enc.cellsL l)) : mapPtr (frz bs (d + 1)) (.bsl s 0 n (Enc.sz α) f) = .list l.length (Enc.cellsL l) .none := by
  subst hn
  rw [mapPtr]
  simp only [frz, hb, Option.map_some, Option.getD_some, List.drop_zero, mapPtrL_clo _ _ (Enc.cloL l)]
  rw [List.take_of_length_le (by rw [Enc.lenL]; exact Nat.le_refl _)]
theorem keep_nil {bs : List (TypeId × List AV)} {n d : Nat} {fs js0 : List Nat} : (([] : List Nat).map fun j => ((bs[j]?).map fun b => (b.1, mapKL m (kz bs m n fs js0 d) b.2)).getD (0, [.bad])) = [] := rfl
theorem keep_of {σ σ' : St} {d : Nat} {js : List Nat} {bs' : List (TypeId × List AV)} (h : (js.map fun j => ((σ.boxes[j]?).map fun b => (b.1, mapKL m (kz σ.boxes m 0 [] js d) b.2)).getD (0, [.bad])) = bs') (h2 : { σ with boxes := bs', lens := σ.lens.take m, elems := σ.elems.take m } = σ') : keepSt σ m 0 [] js d = σ' := by
  subst h2
  unfold keepSt keepBoxes
  rw [h]
  rfl
end
end Go.Ab
set_option linter.unusedSimpArgs false
set_option linter.unusedVariables false
namespace Go.Ab
open Go Go.RowKit Go.Fwd
section
variable {P : Program} {ρ : Operand → AV} {σ : St} {o : Oper}
theorem bs_get (l : List UInt8) (i : Nat) : (bs l)[i]? = l[i]? := by
  simp only [bs]
  by_cases h : i < l.length
  · rw [List.getElem?_eq_getElem h]
    have h2 : i < (ByteArray.mk l.toArray).size := h
    rw [getElem?_pos (ByteArray.mk l.toArray) i h2]
    rfl
  · rw [List.getElem?_eq_none (by omega)]
    have h2 : ¬ i < (ByteArray.mk l.toArray).size := h
    rw [getElem?_neg (ByteArray.mk l.toArray) i h2]
theorem bs_extract (l : List UInt8) (i j : Nat) : (bs l).extract i j = bs ((l.drop i).take (j - i)) := by
  apply ByteArray.ext
  rw [ByteArray.data_extract]
  simp [bs, List.extract_eq_take_drop]
theorem raw_val {v : Value} (h1 : o.op.operands.toList.all (fun x => (toVal (ρ x)).isSome) = true) (h2 : ∀ cs b, o.op ≠ .select cs b) (h3 : val? P (execOp (rawEnv ρ) o) = some (.value v)) (h4 : okVal v = true) : rawOp P ρ o = some (ofVal v) := by
  unfold rawOp
  rw [if_pos h1]
  split
  · rename_i cs b ho; exact absurd ho (h2 cs b)
  · rw [h3]; simp only [h4, if_true]
theorem q_sidx {t : TypeId} {x i : Operand} {l : List UInt8} {k : IntKind} {n : Int} (g : 0 ≤ n ∧ n < l.length) (ho : o.op = .index t x i) (hx : ρ x = .raw (.string (bs l))) (hi : ρ i = .raw (.int k n)) (hu : P.underlying t = some .string) :
    qop P ρ σ o = some (.raw (.int .u8 (((ix l n).toNat : Nat) : Int))) := by
  have hn : n.toNat < l.length := by omega
  have h3 : val? P (execOp (rawEnv ρ) o) = some (.value (.int .u8 (((ix l n).toNat : Nat) : Int))) := by
    have hg : (bs l)[n.toNat]? = some (ix l n) := by
      rw [bs_get, List.getElem?_eq_getElem hn]; simp [ix, hn]
    simp only [execOp, ho, rawEnv, hx, hi, toVal, Option.getD_some, Instr.index, asIntOf, underlying]
    simp only [program, Bind.bind, Pure.pure, Functor.map, Sem.bind, val?, hu, if_pos g.1, hg]
  have h1 : o.op.operands.toList.all (fun x => (toVal (ρ x)).isSome) = true := by rw [ho]; simp [Op.operands, hx, hi, toVal]
  have h4 := raw_val h1 (by rw [ho]; intros; simp) h3 rfl
  simp only [qop, ho, hx, hi, h4]
  first | rfl | (simp; rfl)
theorem q_sslL_ {t : TypeId} {x y : Operand} {l : List UInt8} {i : Int} (g : 0 ≤ i ∧ i ≤ (l.length : Int) ∧ (l.length : Int) ≤ (l.length : Int)) (ho : o.op = .slice t x (some y) none none) (hx : ρ x = .raw (.string (bs l))) (hy : ρ y = .raw (.int .i64 i)) (hu : P.underlying t = some .string) :
    qop P ρ σ o = some (.raw (.string (bs (sub l i l.length)))) := by
  have hsz : (bs l).size = l.length := rfl
  have c2 : 0 ≤ i ∧ i ≤ ((bs l).size : Int) := by rw [hsz]; omega
  have h3 : val? P (execOp (rawEnv ρ) o) = some (.value (.string (bs (sub l i l.length)))) := by
    have he : sub l i l.length = (l.drop i.toNat).take (l.length - i.toNat) := rfl
    rw [he, ← bs_extract]
    simp only [execOp, ho, rawEnv, hx, hy, toVal, Option.getD_some, Option.map_some, Option.map_none, Instr.sliceAt, Instr.slice, Instr.sliceBounds, Instr.sliceBound, asIntOf, underlying]
    simp [program, Bind.bind, Pure.pure, Functor.map, Sem.bind, val?, hu, if_pos c2]
    try rfl
  have h1 : o.op.operands.toList.all (fun x => (toVal (ρ x)).isSome) = true := by rw [ho]; simp [Op.operands, hx, hy, toVal]
  have h4 := raw_val h1 (by rw [ho]; intros; simp) h3 rfl
  simp only [qop, ho, hx, hy, h4, Option.map_some, Option.map_none, aSlice, hu]
  try rfl
theorem q_ssl_H {t : TypeId} {x z : Operand} {l : List UInt8} {j : Int} (g : 0 ≤ 0 ∧ 0 ≤ j ∧ j ≤ (l.length : Int)) (ho : o.op = .slice t x none (some z) none) (hx : ρ x = .raw (.string (bs l))) (hz : ρ z = .raw (.int .i64 j)) (hu : P.underlying t = some .string) :
    qop P ρ σ o = some (.raw (.string (bs (sub l 0 j)))) := by
  have hsz : (bs l).size = l.length := rfl
  have c1 : 0 ≤ j ∧ j ≤ ((bs l).size : Int) := by rw [hsz]; omega
  have h3 : val? P (execOp (rawEnv ρ) o) = some (.value (.string (bs (sub l 0 j)))) := by
    have he : sub l 0 j = (l.drop 0).take (j.toNat - 0) := rfl
    rw [he, ← bs_extract]
    simp only [execOp, ho, rawEnv, hx, hz, toVal, Option.getD_some, Option.map_some, Option.map_none, Instr.sliceAt, Instr.slice, Instr.sliceBounds, Instr.sliceBound, asIntOf, underlying]
    simp [program, Bind.bind, Pure.pure, Functor.map, Sem.bind, val?, hu, if_pos c1]
    try rfl
  have h1 : o.op.operands.toList.all (fun x => (toVal (ρ x)).isSome) = true := by rw [ho]; simp [Op.operands, hx, hz, toVal]
  have h4 := raw_val h1 (by rw [ho]; intros; simp) h3 rfl
  simp only [qop, ho, hx, hz, h4, Option.map_some, Option.map_none, aSlice, hu]
  try rfl
end
end Go.Ab

