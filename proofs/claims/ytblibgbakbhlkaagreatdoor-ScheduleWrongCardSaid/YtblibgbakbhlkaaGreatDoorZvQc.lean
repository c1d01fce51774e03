/-
  Contracts of package strings and strconv over lists of bytes; kinds of entries.
-/
import Derived.Test.YtblibgbakbhlkaaGreatDoorZdSh
import Derived.Test.YtblibgbakbhlkaaGreatDoorZvBld
set_option linter.unusedSimpArgs false
set_option linter.unusedVariables false
namespace Go.Ab
open Go Go.RowKit Go.Fwd
section
variable {IT : IterP} {P : Program} {W : Owed} {k0 : Nat}
variable {ops : Array Oper} {σ : St} {pl : List Pe} {K : List AV → Prop} {o : Oper} {l : List Oper} {S S' : List AV} {k : Nat}
end
end Go.Ab
set_option linter.unusedSimpArgs false
set_option linter.unusedVariables false
namespace Go.Ab
open Go Go.RowKit Go.Fwd
section
variable {IT : IterP} {P : Program} {W : Owed} {k0 : Nat}
theorem w_seqAny {id : Nat} {ops : Array Oper} {y : Code} {Q : AQ} {S : List AV} {σ : St} (S1 : List AV) (σ1 : St) (h : aany IT P W ops (fun S σ => Wk k0 S σ S1 σ1) ops.size (Array.replicate ops.size false) S σ) (hrest : awp IT P W k0 y Q S1 σ1) : awp IT P W k0 (.seq (.region id ops true) y) Q S σ :=
  .inr (.inr (.inl (aany_mono (fun S σ hw => ⟨S1, σ1, hw, hrest⟩) _ _ _ _ h)))
theorem aany_intro {ops0 : Array Oper} {FIN0 : List AV → St → Prop} {k : Nat} {l : Array Bool} {S : List AV} {σ : St} (h : ∀ ops, ops = ops0 → ∀ FIN : List AV → St → Prop, (∀ S σ, FIN0 S σ → FIN S σ) → ∀ S0, S0 = S → aany IT P W ops FIN k l S0 σ) : aany IT P W ops0 FIN0 k l S σ := h ops0 rfl FIN0 (fun _ _ h => h) S rfl
theorem aopAt_s {ops ops0 : Array Oper} {K : List AV → St → Prop} {i : Nat} {o : Oper} {S : List AV} {σ : St} (hops : ops = ops0) (ho : ops0[i]? = some o) (h : aops IT P W ops K [o] S σ) : aopAt IT P W ops K i S σ := by
  subst hops
  unfold aopAt
  rw [ho]
  simp only [aops] at h
  exact h
theorem aany_n {ops ops0 : Array Oper} {FIN : List AV → St → Prop} {k : Nat} {bs : List Bool} {S : List AV} {σ : St} (hops : ops = ops0) (is : List Nat) (hr : Region.ready .any ops0 ⟨bs⟩ = is) (hne : is ≠ []) (h : ∀ i ∈ is, aopAt IT P W ops (fun S σ => aany IT P W ops FIN k ⟨bs.set i true⟩ S σ) i S σ) : aany IT P W ops FIN (k + 1) ⟨bs⟩ S σ := by
  subst hops
  refine ⟨fun e => absurd (hr.symm.trans e) hne, fun i hi => ?_⟩
  have h1 := h i (hr ▸ hi)
  have e : (⟨bs⟩ : Array Bool).setIfInBounds i true = ⟨bs.set i true⟩ := by
    apply Array.ext'
    simp
  rw [e]; exact h1
theorem aany_0 {ops ops0 : Array Oper} {FIN : List AV → St → Prop} {bs : List Bool} {S : List AV} {σ : St} (hops : ops = ops0) (hr : Region.ready .any ops0 ⟨bs⟩ = []) (h : FIN S σ) : aany IT P W ops FIN 0 ⟨bs⟩ S σ := by
  subst hops
  exact ⟨hr, h⟩
theorem all_nil {p : Nat → Prop} : ∀ i ∈ ([] : List Nat), p i := fun i h => by cases h
theorem all_cons {p : Nat → Prop} {a : Nat} {l : List Nat} (h : p a) (t : ∀ i ∈ l, p i) : ∀ i ∈ a :: l, p i := fun i hi => by
  rcases List.mem_cons.1 hi with rfl | hi
  · exact h
  · exact t i hi
end
section
variable {P : Program} {ρ : Operand → AV} {σ : St} {o : Oper} {α : Type} [Enc α]
end
section
variable {m : Nat} {g : FZ}
theorem fgK_nil : fgM [] (mapKL m g []) = [] := by rw [mapKL]; rfl
theorem fgK_t {a b : AV} {S S' : List AV} {ms : List Bool} (h : mapK m g a = b) (r : fgM ms (mapKL m g S) = S') : fgM (true :: ms) (mapKL m g (a :: S)) = b :: S' := by
  rw [mapKL]; show (bif true then mapK m g a else .top) :: _ = _; rw [r, h]; rfl
theorem fgK_f {a : AV} {S S' : List AV} {ms : List Bool} (r : fgM ms (mapKL m g S) = S') : fgM (false :: ms) (mapKL m g (a :: S)) = .top :: S' := by
  rw [mapKL]; show (bif false then mapK m g a else .top) :: _ = _; rw [r]; rfl
theorem kz_bsl {α : Type} [Enc α] {bs : List (TypeId × List AV)} {js : List Nat} {d s n : Nat} {f : Bool} {t : TypeId} {l : List α} (hn : l.length = n) (hb : bs[s]? = some (t, Enc.cellsL l)) (hp : place 0 [] js s = none) : mapK m (kz bs m 0 [] js (d + 1)) (.bsl s 0 n (Enc.sz α) f) = .list l.length (Enc.cellsL l) .none := by
  subst hn
  rw [mapK]
  simp only [kz, hp, hb, Option.map_some, Option.getD_some, List.drop_zero, mapKL_clo _ _ _ (Enc.cloL l)]
  rw [List.take_of_length_le (by rw [Enc.lenL]; exact Nat.le_refl _)]
theorem frz_bsl {α : Type} [Enc α] {bs : List (TypeId × List AV)} {d s n : Nat} {f : Bool} {t : TypeId} {l : List α} (hn : l.length = n) (hb : bs[s]? = some (t, Enc.cellsL l)) : mapPtr (frz bs (d + 1)) (.bsl s 0 n (Enc.sz α) f) = .list l.length (Enc.cellsL l) .none := by
  subst hn
  rw [mapPtr]
  simp only [frz, hb, Option.map_some, Option.getD_some, List.drop_zero, mapPtrL_clo _ _ (Enc.cloL l)]
  rw [List.take_of_length_le (by rw [Enc.lenL]; exact Nat.le_refl _)]
theorem keep_nil {bs : List (TypeId × List AV)} {n d : Nat} {fs js0 : List Nat} : (([] : List Nat).map fun j => ((bs[j]?).map fun b => (b.1, mapKL m (kz bs m n fs js0 d) b.2)).getD (0, [.bad])) = [] := rfl
theorem keep_cons {bs : List (TypeId × List AV)} {n d j : Nat} {fs js js0 : List Nat} {t : TypeId} {cs cs' : List AV} {r : List (TypeId × List AV)} (hb : bs[j]? = some (t, cs)) (hc : mapKL m (kz bs m n fs js0 d) cs = cs') (hr : (js.map fun j => ((bs[j]?).map fun b => (b.1, mapKL m (kz bs m n fs js0 d) b.2)).getD (0, [.bad])) = r) :
    ((j :: js).map fun j => ((bs[j]?).map fun b => (b.1, mapKL m (kz bs m n fs js0 d) b.2)).getD (0, [.bad])) = (t, cs') :: r := by
  rw [List.map_cons, hr, hb]
  simp only [Option.map_some, Option.getD_some, hc]
theorem keep_of {σ σ' : St} {d : Nat} {js : List Nat} {bs' : List (TypeId × List AV)} (h : (js.map fun j => ((σ.boxes[j]?).map fun b => (b.1, mapKL m (kz σ.boxes m 0 [] js d) b.2)).getD (0, [.bad])) = bs') (h2 : { σ with boxes := bs', lens := σ.lens.take m, elems := σ.elems.take m } = σ') : keepSt σ m 0 [] js d = σ' := by
  subst h2
  unfold keepSt keepBoxes
  rw [h]
  rfl
end
end Go.Ab
set_option linter.unusedSimpArgs false
set_option linter.unusedVariables false
namespace Go.Ab
open Go Go.RowKit Go.Fwd
section
variable {P : Program} {ρ : Operand → AV} {σ : St} {o : Oper}
theorem bs_get (l : List UInt8) (i : Nat) : (bs l)[i]? = l[i]? := by
  simp only [bs]
  by_cases h : i < l.length
  · rw [List.getElem?_eq_getElem h]
    have h2 : i < (ByteArray.mk l.toArray).size := h
    rw [getElem?_pos (ByteArray.mk l.toArray) i h2]
    rfl
  · rw [List.getElem?_eq_none (by omega)]
    have h2 : ¬ i < (ByteArray.mk l.toArray).size := h
    rw [getElem?_neg (ByteArray.mk l.toArray) i h2]
theorem bs_extract (l : List UInt8) (i j : Nat) : (bs l).extract i j = bs ((l.drop i).take (j - i)) := by
  apply ByteArray.ext
  rw [ByteArray.data_extract]
  simp [bs, List.extract_eq_take_drop]
theorem raw_val {v : Value} (h1 : o.op.operands.toList.all (fun x => (toVal (ρ x)).isSome) = true) (h2 : ∀ cs b, o.op ≠ .select cs b) (h3 : val? P (execOp (rawEnv ρ) o) = some (.value v)) (h4 : okVal v = true) : rawOp P ρ o = some (ofVal v) := by
  unfold rawOp
  rw [if_pos h1]
  split
  · rename_i cs b ho; exact absurd ho (h2 cs b)
  · rw [h3]; simp only [h4, if_true]
theorem q_sidx {t : TypeId} {x i : Operand} {l : List UInt8} {k : IntKind} {n : Int} (g : 0 ≤ n ∧ n < l.length) (ho : o.op = .index t x i) (hx : ρ x = .raw (.string (bs l))) (hi : ρ i = .raw (.int k n)) (hu : P.underlying t = some .string) :
    qop P ρ σ o = some (.raw (.int .u8 (((ix l n).toNat : Nat) : Int))) := by
  have hn : n.toNat < l.length := by omega
  have h3 : val? P (execOp (rawEnv ρ) o) = some (.value (.int .u8 (((ix l n).toNat : Nat) : Int))) := by
    have hg : (bs l)[n.toNat]? = some (ix l n) := by
      rw [bs_get, List.getElem?_eq_getElem hn]; simp [ix, hn]
    simp only [execOp, ho, rawEnv, hx, hi, toVal, Option.getD_some, Instr.index, asIntOf, underlying]
    simp only [program, Bind.bind, Pure.pure, Functor.map, Sem.bind, val?, hu, if_pos g.1, hg]
  have h1 : o.op.operands.toList.all (fun x => (toVal (ρ x)).isSome) = true := by rw [ho]; simp [Op.operands, hx, hi, toVal]
  have h4 := raw_val h1 (by rw [ho]; intros; simp) h3 rfl
  simp only [qop, ho, hx, hi, h4]
  first | rfl | (simp; rfl)
theorem q_sslL_ {t : TypeId} {x y : Operand} {l : List UInt8} {i : Int} (g : 0 ≤ i ∧ i ≤ (l.length : Int) ∧ (l.length : Int) ≤ (l.length : Int)) (ho : o.op = .slice t x (some y) none none) (hx : ρ x = .raw (.string (bs l))) (hy : ρ y = .raw (.int .i64 i)) (hu : P.underlying t = some .string) :
    qop P ρ σ o = some (.raw (.string (bs (sub l i l.length)))) := by
  have hsz : (bs l).size = l.length := rfl
  have c2 : 0 ≤ i ∧ i ≤ ((bs l).size : Int) := by rw [hsz]; omega
  have h3 : val? P (execOp (rawEnv ρ) o) = some (.value (.string (bs (sub l i l.length)))) := by
    have he : sub l i l.length = (l.drop i.toNat).take (l.length - i.toNat) := rfl
    rw [he, ← bs_extract]
    simp only [execOp, ho, rawEnv, hx, hy, toVal, Option.getD_some, Option.map_some, Option.map_none, Instr.sliceAt, Instr.slice, Instr.sliceBounds, Instr.sliceBound, asIntOf, underlying]
    simp [program, Bind.bind, Pure.pure, Functor.map, Sem.bind, val?, hu, if_pos c2]
    try rfl
  have h1 : o.op.operands.toList.all (fun x => (toVal (ρ x)).isSome) = true := by rw [ho]; simp [Op.operands, hx, hy, toVal]
  have h4 := raw_val h1 (by rw [ho]; intros; simp) h3 rfl
  simp only [qop, ho, hx, hy, h4, Option.map_some, Option.map_none, aSlice, hu]
  try rfl
theorem q_ssl_H {t : TypeId} {x z : Operand} {l : List UInt8} {j : Int} (g : 0 ≤ 0 ∧ 0 ≤ j ∧ j ≤ (l.length : Int)) (ho : o.op = .slice t x none (some z) none) (hx : ρ x = .raw (.string (bs l))) (hz : ρ z = .raw (.int .i64 j)) (hu : P.underlying t = some .string) :
    qop P ρ σ o = some (.raw (.string (bs (sub l 0 j)))) := by
  have hsz : (bs l).size = l.length := rfl
  have c1 : 0 ≤ j ∧ j ≤ ((bs l).size : Int) := by rw [hsz]; omega
  have h3 : val? P (execOp (rawEnv ρ) o) = some (.value (.string (bs (sub l 0 j)))) := by
    have he : sub l 0 j = (l.drop 0).take (j.toNat - 0) := rfl
    rw [he, ← bs_extract]
    simp only [execOp, ho, rawEnv, hx, hz, toVal, Option.getD_some, Option.map_some, Option.map_none, Instr.sliceAt, Instr.slice, Instr.sliceBounds, Instr.sliceBound, asIntOf, underlying]
    simp [program, Bind.bind, Pure.pure, Functor.map, Sem.bind, val?, hu, if_pos c1]
    try rfl
  have h1 : o.op.operands.toList.all (fun x => (toVal (ρ x)).isSome) = true := by rw [ho]; simp [Op.operands, hx, hz, toVal]
  have h4 := raw_val h1 (by rw [ho]; intros; simp) h3 rfl
  simp only [qop, ho, hx, hz, h4, Option.map_some, Option.map_none, aSlice, hu]
  try rfl
end
end Go.Ab
set_option linter.unusedSimpArgs false
set_option linter.unusedVariables false
namespace Go.Ab
open Go Go.RowKit Go.Fwd
def subRoom (n : Nat) (i j : Int) (st : Room) : Room := if i.toNat = 0 ∧ j.toNat = n then st else if j.toNat = n ∧ st = .full then .full else .none
theorem sub_lenI {α : Type} (l : List α) {i j : Int} (g : 0 ≤ i ∧ i ≤ j ∧ j ≤ (l.length : Int)) : (sub l i j).length = j.toNat - i.toNat := by
  simp only [sub, List.length_take, List.length_drop]; omega
theorem sub_cells {α : Type} [Enc α] (l : List α) {i j : Int} (g : 0 ≤ i ∧ i ≤ j ∧ j ≤ (l.length : Int)) : ((Enc.cellsL l).drop (i.toNat * Enc.sz α)).take ((j.toNat - i.toNat) * Enc.sz α) = Enc.cellsL (sub l i j) := by
  rw [Enc.drop, Enc.take]; rfl
section
variable {P : Program} {ρ : Operand → AV} {σ : St} {o : Oper}
theorem strip_sub {α : Type} [Enc α] (l : List α) (n : Nat) (st : Room) : strip (.list n (Enc.cellsL l) st) = .list n (Enc.cellsL l) .none := by
  rw [strip, Enc.stripL]
theorem q_sub_H {α : Type} [Enc α] {l : List α} {x y : Operand} {t e : TypeId} {st : Room} {j : Int} (g : 0 ≤ 0 ∧ 0 ≤ j ∧ j ≤ (l.length : Int)) (ho : o.op = .slice t x none (some y) none) (hx : ρ x = .list l.length (Enc.cellsL l) st) (hy : ρ y = .raw (.int .i64 j)) (hu : P.underlying t = some (.slice e)) (hs : sizeT P e = some (Enc.sz α)) :
    qop P ρ σ o = some (.list (sub l 0 j).length (Enc.cellsL (sub l 0 j)) (subRoom l.length 0 j st)) := by
  have hg : (0 : Int) ≤ 0 ∧ 0 ≤ j ∧ j ≤ (l.length : Int) := ⟨Int.le_refl 0, g.2⟩
  have h1 : aSlice P t (ρ x) none (some (ρ y)) none = some (.list (sub l 0 j).length (Enc.cellsL (sub l 0 j)) (subRoom l.length 0 j st)) := by
    have hj := g.2
    rw [sub_lenI l hg, ← sub_cells l hg, hx, hy]
    simp [aSlice, hu, hs, aBounds, aBound, Enc.lenL, subRoom, hj]
  simp only [qop, ho, Option.map, h1]
theorem q_conv64 {x : Operand} {s t : TypeId} {k : IntKind} {n : Int} (g : -9223372036854775808 ≤ n ∧ n < 9223372036854775808) (ho : o.op = .convert s t x) (hx : ρ x = .raw (.int k n)) (hs : val? P (Next.value <$> convert s t (.int k n)) = some (.value (.int .i64 (IntKind.i64.wrap n)))) : qop P ρ σ o = some (.raw (.int .i64 n)) := by
  have h := wrap_i64 g.1 g.2
  rw [h] at hs
  simp [qop, rawOp, ho, Op.operands, hx, toVal, execOp, rawEnv, hs, aBytesStr]
  exact ⟨rfl, rfl⟩
theorem u8sOf_cells : ∀ l : List UInt8, u8sOf (Enc.cellsL l) = some l
  | [] => rfl
  | a :: l => by
    show u8sOf (.raw (.int .u8 ((a.toNat : Nat) : Int)) :: Enc.cellsL l) = _
    have h := a.toNat_lt
    simp [u8sOf, u8sOf_cells l]
    omega
theorem q_bstr {l : List UInt8} {x : Operand} {s t e : TypeId} {st : Room} (ho : o.op = .convert s t x) (hx : ρ x = .list l.length (Enc.cellsL l) st) (hs : P.underlying s = some (.slice e) ∧ P.underlying e = some (.int .u8)) (ht : P.underlying t = some .string) : qop P ρ σ o = some (.raw (.string (bs l))) := by
  have h : aBytesStr P s t (ρ x) = some (.raw (.string (bs l))) := by
    rw [hx]
    simp only [aBytesStr, hs.1, hs.2, ht, u8sOf_cells, if_true]
    rfl
  simp only [qop, ho, h]
theorem op_storeO {t : TypeId} {x y : Operand} {s off n : Nat} {cs : List AV} {bx : TypeId × List AV} (ho : o.op = .store t x y) (hx : ρ x = .ptr s off) (hy : ρ y = ownAV n cs) (hb : σ.boxes[s]? = some bx) (hn : sizeT P t = some 1) (hl : off + 1 ≤ bx.2.length) :
    aop P ρ σ o = some (.raw undef, { σ with boxes := σ.boxes.set s (bx.1, bx.2.take off ++ [ownAV n cs] ++ bx.2.drop (off + 1)) }) := by
  have h1 : cellsOf (ownAV n cs) = [ownAV n cs] := by unfold ownAV; split <;> rfl
  have h2 : cellOk (ownAV n cs) = true := by unfold ownAV; split <;> rfl
  rw [op_store (n := 1) ho hx hy hb hn ⟨h2, by rw [h1]; rfl, hl, by decide⟩, h1]
theorem q_rem64 {x y : Operand} {t : TypeId} {c} {m n : Int} (g : (0 ≤ m ∧ m < 9223372036854775808) ∧ 0 < n) (ho : o.op = .binOp .rem t x y c) (hx : ρ x = .raw (.int .i64 m)) (hy : ρ y = .raw (.int .i64 n)) : qop P ρ σ o = some (.raw (.int .i64 (Int.tmod m n))) := by
  obtain ⟨⟨h1, h2⟩, h3⟩ := g
  have h0 : ¬ n = 0 := by omega
  have hb : 0 ≤ Int.tmod m n ∧ Int.tmod m n ≤ m := by
    rw [Int.tmod_eq_emod_of_nonneg h1]
    exact ⟨Int.emod_nonneg _ h0, by
      have := Int.emod_emod_of_dvd m (Int.dvd_refl n)
      have h4 := Int.mul_ediv_add_emod m n
      have h5 : 0 ≤ n * (m / n) := Int.mul_nonneg (by omega) (Int.ediv_nonneg h1 (by omega))
      omega⟩
  have h := wrap_i64 (x := Int.tmod m n) (by omega) (by omega)
  simp [qop, rawOp, ho, Op.operands, hx, hy, toVal, execOp, rawEnv, eqGuard, binOp, Op.intDiv, h0, h]
  try rfl
end
section
variable {P : Program} {ρ : Operand → AV} {σ : St} {o : Oper}
theorem q_subL_ {α : Type} [Enc α] {l : List α} {x y : Operand} {t e : TypeId} {st : Room} {i : Int} (g : 0 ≤ i ∧ i ≤ (l.length : Int) ∧ (l.length : Int) ≤ (l.length : Int)) (ho : o.op = .slice t x (some y) none none) (hx : ρ x = .list l.length (Enc.cellsL l) st) (hy : ρ y = .raw (.int .i64 i)) (hu : P.underlying t = some (.slice e)) (hs : sizeT P e = some (Enc.sz α)) :
    qop P ρ σ o = some (.list (sub l i l.length).length (Enc.cellsL (sub l i l.length)) (subRoom l.length i l.length st)) := by
  have h1 : aSlice P t (ρ x) (some (ρ y)) none none = some (.list (sub l i l.length).length (Enc.cellsL (sub l i l.length)) (subRoom l.length i l.length st)) := by
    have hj := g.1
    have hk := g.2.1
    rw [sub_lenI l g, ← sub_cells l g, hx, hy]
    simp [aSlice, hu, hs, aBounds, aBound, Enc.lenL, subRoom, hj, hk]
  simp only [qop, ho, Option.map, h1]
end
end Go.Ab
set_option linter.unusedSimpArgs false
set_option linter.unusedVariables false
namespace Go.Ab
open Go Go.RowKit Go.Fwd Go.Proofs
structure QSet where
  deriving DecidableEq
def cellsQS : List AV := [.raw (.int .u64 17179869184), .raw (.int .u64 0), .raw (.int .u64 0), .raw (.int .u64 0)]
instance : Enc QSet where
  inh := ⟨⟩
  cells _ := cellsQS
  cellsL l := l.flatMap fun _ => cellsQS
  sz := 4
  pos := by decide
  nil := rfl
  cons _ _ := rfl
  len _ := rfl
  clo _ := rfl
def hexD (n : Nat) : UInt8 := if n < 10 then (48 + n).toUInt8 else (87 + n).toUInt8
def byteP (c : UInt8) : List UInt8 :=
  if c = 10 then [92, 110] else if c = 13 then [92, 114] else if c = 9 then [92, 116]
  else if c < 32 ∨ 126 < c then [92, 120, hexD (c.toNat / 16), hexD (c.toNat % 16)]
  else if c = 92 ∨ c = 34 then [92, c] else [c]
def nibP (c : UInt8) : Int :=
  if 48 ≤ c ∧ c ≤ 57 then (c.toNat : Int) - 48 else if 65 ≤ c ∧ c ≤ 70 then (c.toNat : Int) - 55 else if 97 ≤ c ∧ c ≤ 102 then (c.toNat : Int) - 87 else 16
def isMarkP (c : UInt8) : Bool := decide (c = 34)
noncomputable def run1 (f : Nat) (args : List AV) (r : AV) : Bool := match ecallP Tryz.prog libP (ev Tryz.prog libP bldS 40) f args with
  | some a => eqAV a r
  | none => false
theorem run1_ok {f : Nat} {args : List AV} {r : AV} (h : run1 f args r = true) : Pure (ITP Tryz.prog) Tryz.prog f args r := by
  unfold run1 at h
  split at h
  · rename_i a ha
    have := run_pure_call goodT 40 ha
    rw [eqAV_ok _ _ h] at this
    exact this
  · cases h
theorem all256 {p : UInt8 → Prop} {q : Nat → Bool} (h : ((List.range 256).all q) = true) (hp : ∀ n : Nat, n < 256 → q n = true → p n.toUInt8) (c : UInt8) : p c := by
  have hc : c.toNat < 256 := c.toNat_lt
  have := hp c.toNat hc (List.all_eq_true.1 h c.toNat (List.mem_range.2 hc))
  simpa using this
set_option maxRecDepth 100000 in
theorem byte_tab : ((List.range 256).all fun n => run1 92 [.raw (.int .u8 (n : Int)), .agg cellsQS] (.raw (.string (bs (byteP n.toUInt8))))) = true := by kernel_rfl
set_option maxRecDepth 100000 in
theorem nib_tab : ((List.range 256).all fun n => run1 111 [.raw (.int .u8 (n : Int))] (.raw (.int .i64 (nibP n.toUInt8)))) = true := by kernel_rfl
set_option maxRecDepth 100000 in
theorem mark_tab : ((List.range 256).all fun n => run1 106 [.agg cellsQS, .raw (.int .u8 (n : Int))] (.raw (.bool (isMarkP n.toUInt8)))) = true := by kernel_rfl
theorem u8_nat {n : Nat} (h : n < 256) : ((n.toUInt8.toNat : Nat) : Int) = (n : Int) := by simp; omega
theorem byte_pure (c : UInt8) : Pure (ITP Tryz.prog) Tryz.prog 92 [.raw (.int .u8 ((c.toNat : Nat) : Int)), .agg cellsQS] (.raw (.string (bs (byteP c)))) :=
  all256 (p := fun c => Pure (ITP Tryz.prog) Tryz.prog 92 [.raw (.int .u8 ((c.toNat : Nat) : Int)), .agg cellsQS] (.raw (.string (bs (byteP c))))) byte_tab (fun n hn h => by rw [u8_nat hn]; exact run1_ok h) c
theorem nib_pure (c : UInt8) : Pure (ITP Tryz.prog) Tryz.prog 111 [.raw (.int .u8 ((c.toNat : Nat) : Int))] (.raw (.int .i64 (nibP c))) :=
  all256 (p := fun c => Pure (ITP Tryz.prog) Tryz.prog 111 [.raw (.int .u8 ((c.toNat : Nat) : Int))] (.raw (.int .i64 (nibP c)))) nib_tab (fun n hn h => by rw [u8_nat hn]; exact run1_ok h) c
theorem mark_pure (c : UInt8) : Pure (ITP Tryz.prog) Tryz.prog 106 [.agg cellsQS, .raw (.int .u8 ((c.toNat : Nat) : Int))] (.raw (.bool (isMarkP c))) :=
  all256 (p := fun c => Pure (ITP Tryz.prog) Tryz.prog 106 [.agg cellsQS, .raw (.int .u8 ((c.toNat : Nat) : Int))] (.raw (.bool (isMarkP c)))) mark_tab (fun n hn h => by rw [u8_nat hn]; exact run1_ok h) c
theorem of_pure : Pure (ITP Tryz.prog) Tryz.prog 77 [.list 1 [.raw (.int .u8 34)] .none] (.agg cellsQS) := run1_ok (by kernel_rfl)
end Go.Ab
set_option linter.unusedSimpArgs false
set_option linter.unusedVariables false
set_option maxRecDepth 100000
namespace Go.Ab
open Go Go.RowKit Go.Fwd Go.Proofs
theorem ixb_pure (l : List UInt8) (c : UInt8) : Pure (ITP Tryz.prog) Tryz.prog 105 [.raw (.string (bs l)), .raw (.int .u8 ((c.toNat : Nat) : Int))] (.raw (.int .i64 (Lib.indexByte l c))) := by
  have h := ixb79 (bs l) ((c.toNat : Nat) : Int)
  rwa [show ((c.toNat : Nat) : Int).toNat.toUInt8 = c by simp] at h
theorem itoa_pure (n : Int) (h : -9223372036854775808 ≤ n ∧ n < 9223372036854775808) : Pure (ITP Tryz.prog) Tryz.prog 49 [.raw (.int .i64 n)] (.raw (.string (bs (Lib.itoa n)))) := itoa51 n h
theorem cut_pure (l p : List UInt8) (h : l.length < 4294967281) : Pure (ITP Tryz.prog) Tryz.prog 86 [.raw (.string (bs l)), .raw (.string (bs p))] (.tup [.raw (.string (bs (Lib.cut l p).1)), .raw (.string (bs (Lib.cut l p).2.1)), .raw (.bool (Lib.cut l p).2.2)]) := cut37 (bs l) (bs p) h
def atoiP (l : List UInt8) : Int := match Lib.atoiAll l with
  | .ok v => v
  | Go.Lib.NumEnd.syntax => 0
  | .range => Lib.atoiSat l
section
variable {P : Program} {ρ : Operand → AV} {σ : St} {o : Oper}
theorem q_lenS {x : Operand} {t : TypeId} {l : List UInt8} (ho : o.op = .call ⟨.builtin .len, #[x], #[t]⟩) (hx : ρ x = .raw (.string (bs l))) (hu : P.underlying t = some .string) : qop P ρ σ o = some (.raw (.int .i64 (l.length : Int))) := by
  have h2 : aLen P t (.raw (.string (bs l))) = none := rfl
  have h1 : o.op.operands.toList.all (fun x => (toVal (ρ x)).isSome) = true := by rw [ho]; simp [Op.operands, Call.operands, hx, toVal]
  have h3 : val? P (execOp (rawEnv ρ) o) = some (.value (.int .i64 (l.length : Int))) := by
    have hsz : (bs l).size = l.length := rfl
    simp [execOp, ho, resolve, invoke, rawEnv, hx, toVal, builtin, Builtin.len_, underlying, goInt, hsz]
    simp only [program, Bind.bind, Pure.pure, Functor.map, Sem.bind, val?, hu, hsz]
    rfl
  have h4 : rawOp P ρ o = some (.raw (.int .i64 (l.length : Int))) := by
    unfold rawOp; rw [if_pos h1, ho, h3]; rfl
  simp only [qop, ho, hx, h2, h4]
theorem q_bstrO {l : List UInt8} {x : Operand} {s t e : TypeId} (ho : o.op = .convert s t x) (hx : ρ x = ownAV l.length (Enc.cellsL l)) (hs : P.underlying s = some (.slice e) ∧ P.underlying e = some (.int .u8)) (ht : P.underlying t = some .string) : qop P ρ σ o = some (.raw (.string (bs l))) := by
  have h : aBytesStr P s t (ρ x) = some (.raw (.string (bs l))) := by
    rw [hx]
    unfold ownAV
    split
    · rename_i h0
      have := List.length_eq_zero_iff.1 h0
      subst this
      simp only [aBytesStr, hs.1, hs.2, ht]
      rfl
    · simp only [aBytesStr, hs.1, hs.2, ht, u8sOf_cells, if_true]
      rfl
  simp only [qop, ho, h]
end
def u8of (e : Int) : UInt8 := UInt8.ofNat e.toNat
theorem u8c {e : Int} (g : 0 ≤ e ∧ e < 256) : ((u8of e).toNat : Int) = e := by
  unfold u8of
  have h : e.toNat < 256 := by omega
  rw [show (UInt8.ofNat e.toNat).toNat = e.toNat by simp; omega]
  omega
section
variable {IT : IterP} {P : Program} {W : Owed}
end
end Go.Ab

