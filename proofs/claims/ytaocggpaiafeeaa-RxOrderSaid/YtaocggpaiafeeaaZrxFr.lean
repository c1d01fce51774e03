/-
  The frame of a law of trees: what came in as a slice of small ones; what a contract leaves as it was.
-/
import Derived.Test.YtaocggpaiafeeaaZrxMa
import Derived.ProofKit
import Derived.Laws.IdiomArrays
import Derived.Deep.Slices
import Derived.Deep.Fields
import Derived.ChangeSame
set_option linter.unusedSimpArgs false
set_option linter.unusedVariables false
namespace Go.Ab
open Go Go.RowKit Go.Fwd Go.Proofs Go.ChangeShapes Go.WideShapes Go.ChangeAt Go.Deep

theorem ownLess : ownKnob Try.prog.godebug = none := by kernel_rfl
theorem laidOut : laidOutB Try.prog = true := by kernel_rfl
/-- All that lies there is never written again. -/
def topX (W : World) : Cx := ⟨fun b o => ∃ v, W.cell? ⟨b, o, none⟩ = some v, [], [], [], W, fun _ => False, fun _ _ => False⟩
theorem inv_top (IT : IterP) (W : World) : Inv IT St.empty (topX W) where
  lens := rfl
  elems := rfl
  κlen := rfl
  κnd := fun s s' b h => by simp [topX] at h
  box := fun s b t cs h => by simp [topX] at h
  κF := fun s b t cs h => by simp [topX] at h
  βlen := rfl
  βnd := by simp [topX]
  βκ := fun r h => by simp [topX] at h
  row := fun s r L h => by simp [topX] at h
  Ok := fun b h => h.elim
  Fcell := fun b o h => h
theorem frame_of {f : FuncId} {args : List AV} {u : Value} (h : Pure (ITP Try.prog) Try.prog f args (.raw u)) (W : World) {vs : List Value} (hr : RepL (ITP Try.prog) (topX W) args vs) :
    Calls Try.prog f vs.toArray W fun e W' => e = .returned u ∧ Ex W.heap.size W W' := by
  refine (h.2 (topX W) vs (inv_top _ W) hr).mono ?_
  rintro e w' ⟨v, Y, rfl, rfl, hE, hIY, hv⟩
  rw [Rep] at hv; subst hv
  exact ⟨rfl, ⟨⟨hE.os, hE.tape, hE.output, hE.size, fun b hb => hE.frame b hb (by simp [topX]) (by simp [topX])⟩, hE.drawn⟩⟩
theorem bnd_u8 {n : Int} (h : (Lit.int .u8 n).wf = true) : 0 ≤ n ∧ n ≤ 255 := by
  have h1 : IntKind.u8.min = 0 := rfl
  have h2 : IntKind.u8.max = 255 := rfl
  simp only [Lit.wf, Bool.and_eq_true, decide_eq_true_eq] at h
  omega
theorem und22 : Try.prog.underlying 22 = some (.slice 53) := rfl
theorem cells53 : Try.prog.cellsOf 53 = 3 := by kernel_rfl
theorem fields53 : ∃ f0 f1 f2 : Field, Try.prog.underlying 53 = some (.struct #[f0, f1, f2]) ∧ oneCellFields Try.prog #[f0, f1, f2] = true ∧ Try.prog.underlying f0.type = some (.int .u8) ∧ Try.prog.underlying f1.type = some (.int .u8) ∧ Try.prog.underlying f2.type = some (.int .u8) := ⟨_, _, _, rfl, by kernel_rfl, rfl, rfl, rfl⟩
section
variable {H : Type} {enc : TypeId × Value → H}
theorem small_cells {W : World} {base : Nat} {spare : Nat → Bool} {held : Bool} {n : Nat} {cs : List Value} {x : DataW H × List MemPlace} (h : DataW.trod enc Try.prog W base spare held n 53 cs = some x) (hl : cs.length = 3) :
    ∃ s : Sm, cs = [.int .u8 (s.1 : Int), .int .u8 (s.2.1 : Int), .int .u8 (s.2.2 : Int)] := by
  obtain ⟨f0, f1, f2, hu, hone, t0, t1, t2⟩ := fields53
  obtain ⟨ys, m, _, _, _, hyl, hf⟩ := DataW.trod_struct hu h
  obtain ⟨o0, k0⟩ := hone_of hone 0 f0 rfl
  obtain ⟨o1, k1⟩ := hone_of hone 1 f1 rfl
  obtain ⟨o2, k2⟩ := hone_of hone 2 f2 rfl
  match cs, hl with
  | [c0, c1, c2], _ =>
    match ys, hyl with
    | [y0, y1, y2], _ =>
      have g0 : DataW.trod enc Try.prog W base spare held m f0.type [c0] = some y0 := by simpa [o0, k0] using hf 0 f0 rfl
      have g1 : DataW.trod enc Try.prog W base spare held m f1.type [c1] = some y1 := by simpa [o1, k1] using hf 1 f1 rfl
      have g2 : DataW.trod enc Try.prog W base spare held m f2.type [c2] = some y2 := by simpa [o2, k2] using hf 2 f2 rfl
      obtain ⟨n0, e0, _, w0⟩ := DataW.trod_int t0 g0
      obtain ⟨n1, e1, _, w1⟩ := DataW.trod_int t1 g1
      obtain ⟨n2, e2, _, w2⟩ := DataW.trod_int t2 g2
      simp at e0 e1 e2
      subst e0 e1 e2
      have b0 := bnd_u8 w0
      have b1 := bnd_u8 w1
      have b2 := bnd_u8 w2
      exact ⟨(n0.toNat, n1.toNat, n2.toNat), by simp only [Int.toNat_of_nonneg b0.1, Int.toNat_of_nonneg b1.1, Int.toNat_of_nonneg b2.1]⟩
/-- The small ones that lie from a place on. -/
theorem at_smalls (W : World) (b : Nat) : ∀ (len o : Nat) (g : Nat → Sm), (∀ i, i < len → W.cell? ⟨b, o + i * 3, none⟩ = some (.int .u8 ((g i).1 : Int)) ∧ W.cell? ⟨b, o + i * 3 + 1, none⟩ = some (.int .u8 ((g i).2.1 : Int)) ∧ W.cell? ⟨b, o + i * 3 + 2, none⟩ = some (.int .u8 ((g i).2.2 : Int))) →
    At (ITP Try.prog) (topX W) (smcL ((List.range len).map g)) b o
  | 0, o, g, _ => by simp [smcL, At]
  | len + 1, o, g, h => by
    rw [List.range_succ_eq_map, List.map_cons, List.map_map, smcL, smc]
    have h0 := h 0 (by omega)
    simp only [Nat.zero_mul, Nat.add_zero] at h0
    obtain ⟨a0, a1, a2⟩ := h0
    have ih := at_smalls W b len (o + 3) (g ∘ Nat.succ) (fun i hi => by
      have := h (i + 1) (by omega)
      rw [show o + (i + 1) * 3 = o + 3 + i * 3 by omega] at this
      exact this)
    simp only [List.cons_append, List.nil_append, At]
    exact ⟨⟨⟨_, a0⟩, _, a0, rfl, by rw [Rep]⟩, ⟨⟨_, a1⟩, _, a1, rfl, by rw [Rep]⟩, ⟨⟨_, a2⟩, _, a2, rfl, by rw [Rep]⟩, ih⟩
theorem open_small {W : World} {base : Nat} {v : Value} {d : DataW H} {p : List MemPlace} (hv : Value.okWide Try.prog W .any base 22 v) (h : DataW.Trod enc Try.prog W 0 (fun _ => true) true 22 v d p) :
    ∃ l : List Sm, l.length < 2 ^ 63 ∧ Rep (ITP Try.prog) (topX W) (.list l.length (smcL l) .none) v := by
  obtain ⟨fuel, hf⟩ := h
  obtain ⟨a0, len, cap, rfl⟩ := okWide_slice und22 hv
  rcases open_slice und22 hf with ⟨h0, _⟩ | ⟨a, len', cap', m, n, D, Pl, hcs, hb, hl, hm, hmm, hx, hi⟩
  · simp [Value.cells] at h0
    obtain ⟨rfl, rfl, rfl⟩ := h0
    refine ⟨[], by simp, ?_⟩
    rw [Rep]
    exact ⟨none, 0, rfl, ⟨Nat.le_refl _, fun _ => rfl⟩, .inl rfl, trivial⟩
  · simp [Value.cells] at hcs
    obtain ⟨rfl, rfl, rfl⟩ := hcs
    rw [cells53] at hi
    have hm' : m = cap := by simpa using hmm
    have hcell : ∀ i, i < m → ∃ s : Sm, W.cell? (a.add (i * 3)) = some (.int .u8 (s.1 : Int)) ∧ W.cell? (a.add (i * 3 + 1)) = some (.int .u8 (s.2.1 : Int)) ∧ W.cell? (a.add (i * 3 + 2)) = some (.int .u8 (s.2.2 : Int)) := fun i him => by
      obtain ⟨cs', hc, ht⟩ := hi i him
      obtain ⟨_, hcl, hat⟩ := World.cells?_some hc
      obtain ⟨s, rfl⟩ := small_cells ht hcl
      refine ⟨s, ?_, ?_, ?_⟩
      · have := hat 0 (by omega); rw [Go.Deep.add_add] at this; simpa using this
      · have := hat 1 (by omega); rw [Go.Deep.add_add] at this; simpa using this
      · have := hat 2 (by omega); rw [Go.Deep.add_add] at this; simpa using this
    by_cases hz : len = 0
    · subst hz
      refine ⟨[], by simp, ?_⟩
      rw [Rep]
      exact ⟨some a, cap, rfl, ⟨hl, fun h => by cases h⟩, .inl rfl, trivial⟩
    · obtain ⟨s0, c0, _⟩ := hcell 0 (by omega)
      have hspot : a = ⟨a.block, a.off, none⟩ := by
        cases a with
        | mk b o sp =>
          cases sp with
          | none => rfl
          | some k =>
            exfalso
            simp [Addr.add, World.cell?] at c0
            split at c0 <;> simp at c0
      have hadd : ∀ j, a.add j = ⟨a.block, a.off + j, none⟩ := fun j => by
        by_cases hj : j = 0
        · subst hj; simp [Addr.add]; exact hspot
        · simp [Addr.add, hj]
      let g : Nat → Sm := fun i => if h : i < m then Classical.choose (hcell i h) else (0, 0, 0)
      have hg : ∀ i (him : i < m), W.cell? (a.add (i * 3)) = some (.int .u8 ((g i).1 : Int)) ∧ W.cell? (a.add (i * 3 + 1)) = some (.int .u8 ((g i).2.1 : Int)) ∧ W.cell? (a.add (i * 3 + 2)) = some (.int .u8 ((g i).2.2 : Int)) := fun i him => by
        have e : g i = Classical.choose (hcell i him) := dif_pos him
        rw [e]; exact Classical.choose_spec (hcell i him)
      have hml : maxLen < 2 ^ 63 := by decide
      refine ⟨(List.range len).map g, by simp; omega, ?_⟩
      rw [Rep]
      refine ⟨some a, cap, by simp, ⟨by simpa using hl, fun h => by cases h⟩, .inr ⟨a.block, a.off, by rw [← hspot], at_smalls W a.block len a.off g fun i hi => ?_⟩, trivial⟩
      have := hg i (by omega)
      rw [hadd, hadd, hadd] at this
      exact this
end
end Go.Ab
