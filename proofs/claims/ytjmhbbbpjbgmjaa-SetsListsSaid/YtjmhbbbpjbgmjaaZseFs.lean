/-
  A slice of spans that came in as an argument.
-/
import Derived.Test.YtjmhbbbpjbgmjaaZseFr
import Derived.Test.YtjmhbbbpjbgmjaaZseK2
set_option linter.unusedSimpArgs false
set_option linter.unusedVariables false
namespace Go.Ab
open Go Go.RowKit Go.Fwd Go.Proofs Go.Proofs.Ytjmhbbbpjbgmjaa Go.ChangeShapes Go.WideShapes Go.ChangeAt Go.Deep
theorem und42 : Try.prog.underlying 42 = some (.slice 49) := rfl
theorem cells49 : Try.prog.cellsOf 49 = 2 := by kernel_rfl
theorem fields49 : ∃ f0 f1 : Field, Try.prog.underlying 49 = some (.struct #[f0, f1]) ∧ oneCellFields Try.prog #[f0, f1] = true ∧ Try.prog.underlying f0.type = some (.int .u8) ∧ Try.prog.underlying f1.type = some (.int .u8) := ⟨_, _, rfl, by kernel_rfl, rfl, rfl⟩
def spV (s : Sp) : List Value := [.int .u8 ((s.1.toNat : Nat) : Int), .int .u8 ((s.2.toNat : Nat) : Int)]
theorem u8_of {n : Int} (h : 0 ≤ n ∧ n ≤ 255) : (((UInt8.ofNat n.toNat).toNat : Nat) : Int) = n := by rw [UInt8.toNat_ofNat']; omega
section
variable {H : Type} {enc : TypeId × Value → H}
theorem span_cells {W : World} {base : Nat} {spare : Nat → Bool} {held : Bool} {n : Nat} {cs : List Value} {x : DataW H × List MemPlace} (h : DataW.trod enc Try.prog W base spare held n 49 cs = some x) (hl : cs.length = 2) :
    ∃ s : Sp, cs = spV s := by
  obtain ⟨f0, f1, hu, hone, t0, t1⟩ := fields49
  obtain ⟨ys, m, _, _, _, hyl, hf⟩ := DataW.trod_struct hu h
  obtain ⟨o0, k0⟩ := hone_of hone 0 f0 rfl
  obtain ⟨o1, k1⟩ := hone_of hone 1 f1 rfl
  match cs, hl with
  | [c0, c1], _ =>
    match ys, hyl with
    | [y0, y1], _ =>
      have g0 : DataW.trod enc Try.prog W base spare held m f0.type [c0] = some y0 := by simpa [o0, k0] using hf 0 f0 rfl
      have g1 : DataW.trod enc Try.prog W base spare held m f1.type [c1] = some y1 := by simpa [o1, k1] using hf 1 f1 rfl
      obtain ⟨n0, e0, _, w0⟩ := DataW.trod_int t0 g0
      obtain ⟨n1, e1, _, w1⟩ := DataW.trod_int t1 g1
      simp at e0 e1
      subst e0 e1
      exact ⟨(UInt8.ofNat n0.toNat, UInt8.ofNat n1.toNat), by simp only [spV, u8_of (bnd_u8 w0), u8_of (bnd_u8 w1)]⟩
theorem at_spans (W : World) (b : Nat) : ∀ (len o : Nat) (g : Nat → Sp), (∀ i, i < len → W.cell? ⟨b, o + i * 2, none⟩ = some (.int .u8 (((g i).1.toNat : Nat) : Int)) ∧ W.cell? ⟨b, o + i * 2 + 1, none⟩ = some (.int .u8 (((g i).2.toNat : Nat) : Int))) →
    At (ITP Try.prog) (topX W) (Enc.cellsL ((List.range len).map g)) b o
  | 0, o, g, _ => by simp only [List.range_zero, List.map_nil]; rw [Enc.nil, At]; trivial
  | len + 1, o, g, h => by
    rw [List.range_succ_eq_map, List.map_cons, List.map_map, Enc.cons]
    have h0 := h 0 (by omega)
    simp only [Nat.zero_mul, Nat.add_zero] at h0
    obtain ⟨a0, a1⟩ := h0
    have ih := at_spans W b len (o + 2) (g ∘ Nat.succ) (fun i hi => by
      have := h (i + 1) (by omega)
      rw [show o + (i + 1) * 2 = o + 2 + i * 2 by omega] at this
      exact this)
    show At _ _ (cellsS (g 0) ++ _) b o
    unfold cellsS
    simp only [List.cons_append, List.nil_append, At]
    exact ⟨⟨⟨_, a0⟩, _, a0, rfl, by rw [Rep]⟩, ⟨⟨_, a1⟩, _, a1, rfl, by rw [Rep]⟩, ih⟩
theorem open_spans {W : World} {base : Nat} {v : Value} {d : DataW H} {p : List MemPlace} (hv : Value.okWide Try.prog W .any base 42 v) (h : DataW.Trod enc Try.prog W 0 (fun _ => true) true 42 v d p) :
    ∃ l : List Sp, l.length < 2 ^ 63 ∧ Rep (ITP Try.prog) (topX W) (.list l.length (Enc.cellsL l) .none) v := by
  obtain ⟨fuel, hf⟩ := h
  obtain ⟨a0, len, cap, rfl⟩ := okWide_slice und42 hv
  rcases open_slice und42 hf with ⟨h0, _⟩ | ⟨a, len', cap', m, n, D, Pl, hcs, hb, hl, hm, hmm, hx, hi⟩
  · simp [Value.cells] at h0
    obtain ⟨rfl, rfl, rfl⟩ := h0
    refine ⟨[], by simp, ?_⟩
    rw [Rep]
    exact ⟨none, 0, rfl, ⟨Nat.le_refl _, fun _ => rfl⟩, .inl rfl, trivial⟩
  · simp [Value.cells] at hcs
    obtain ⟨rfl, rfl, rfl⟩ := hcs
    rw [cells49] at hi
    have hm' : m = cap := by simpa using hmm
    have hcell : ∀ i, i < m → ∃ s : Sp, W.cell? (a.add (i * 2)) = some (.int .u8 ((s.1.toNat : Nat) : Int)) ∧ W.cell? (a.add (i * 2 + 1)) = some (.int .u8 ((s.2.toNat : Nat) : Int)) := fun i him => by
      obtain ⟨cs', hc, ht⟩ := hi i him
      obtain ⟨_, hcl, hat⟩ := World.cells?_some hc
      obtain ⟨s, rfl⟩ := span_cells ht hcl
      refine ⟨s, ?_, ?_⟩
      · have := hat 0 (by omega); rw [Go.Deep.add_add] at this; simpa [spV] using this
      · have := hat 1 (by omega); rw [Go.Deep.add_add] at this; simpa [spV] using this
    by_cases hz : len = 0
    · subst hz
      refine ⟨[], by simp, ?_⟩
      rw [Rep]
      exact ⟨some a, cap, rfl, ⟨hl, fun h => by cases h⟩, .inl rfl, trivial⟩
    · obtain ⟨s0, c0, _⟩ := hcell 0 (by omega)
      have hspot : a = ⟨a.block, a.off, none⟩ := by
        cases a with
        | mk b o sp =>
          cases sp with
          | none => rfl
          | some k =>
            exfalso
            simp [Addr.add, World.cell?] at c0
            split at c0 <;> simp at c0
      have hadd : ∀ j, a.add j = ⟨a.block, a.off + j, none⟩ := fun j => by
        by_cases hj : j = 0
        · subst hj; simp [Addr.add]; exact hspot
        · simp [Addr.add, hj]
      let g : Nat → Sp := fun i => if h : i < m then Classical.choose (hcell i h) else (0, 0)
      have hg : ∀ i (him : i < m), W.cell? (a.add (i * 2)) = some (.int .u8 (((g i).1.toNat : Nat) : Int)) ∧ W.cell? (a.add (i * 2 + 1)) = some (.int .u8 (((g i).2.toNat : Nat) : Int)) := fun i him => by
        have e : g i = Classical.choose (hcell i him) := dif_pos him
        rw [e]; exact Classical.choose_spec (hcell i him)
      have hml : maxLen < 2 ^ 63 := by decide
      refine ⟨(List.range len).map g, by simp; omega, ?_⟩
      rw [Rep]
      refine ⟨some a, cap, by simp, ⟨by simpa using hl, fun h => by cases h⟩, .inr ⟨a.block, a.off, by rw [← hspot], at_spans W a.block len a.off g fun i hi => ?_⟩, trivial⟩
      have := hg i (by omega)
      rw [hadd, hadd] at this
      exact this
end
end Go.Ab
