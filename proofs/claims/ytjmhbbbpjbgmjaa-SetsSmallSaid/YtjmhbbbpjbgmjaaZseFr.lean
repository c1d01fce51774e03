/-
  The frame of a law with a slice of sets.
-/
import Derived.Test.YtjmhbbbpjbgmjaaZsePu
import Derived.Test.YtjmhbbbpjbgmjaaZseOpen
import Derived.Deep.Slices
import Derived.Deep.Fields
import Derived.ChangeSame
set_option linter.unusedSimpArgs false
set_option linter.unusedVariables false
namespace Go.Ab
open Go Go.RowKit Go.Fwd Go.Proofs Go.Proofs.Ytjmhbbbpjbgmjaa Go.ChangeShapes Go.WideShapes Go.ChangeAt Go.Deep

/-- All that lies there is never written again. -/
def topX (W : World) : Cx := ⟨fun b o => ∃ v, W.cell? ⟨b, o, none⟩ = some v, [], [], [], W, fun _ => False, fun _ _ => False⟩
theorem inv_top (IT : IterP) (W : World) : Inv IT St.empty (topX W) where
  lens := rfl
  elems := rfl
  κlen := rfl
  κnd := fun s s' b h => by simp [topX] at h
  box := fun s b t cs h => by simp [topX] at h
  κF := fun s b t cs h => by simp [topX] at h
  βlen := rfl
  βnd := by simp [topX]
  βκ := fun r h => by simp [topX] at h
  row := fun s r L h => by simp [topX] at h
  Ok := fun b h => h.elim
  Fcell := fun b o h => h
theorem frame_of {f : FuncId} {args : List AV} {u : Value} (h : Pure (ITP Try.prog) Try.prog f args (.raw u)) (W : World) {vs : List Value} (hr : RepL (ITP Try.prog) (topX W) args vs) :
    Calls Try.prog f vs.toArray W fun e W' => e = .returned u ∧ Ex W.heap.size W W' := by
  refine (h.2 (topX W) vs (inv_top _ W) hr).mono ?_
  rintro e w' ⟨v, Y, rfl, rfl, hE, hIY, hv⟩
  rw [Rep] at hv; subst hv
  exact ⟨rfl, ⟨⟨hE.os, hE.tape, hE.output, hE.size, fun b hb => hE.frame b hb (by simp [topX]) (by simp [topX])⟩, hE.drawn⟩⟩
theorem und37 : Try.prog.underlying 37 = some (.slice 24) := rfl
section
variable {H : Type} {enc : TypeId × Value → H}
theorem set_cellsT {W : World} {base : Nat} {spare : Nat → Bool} {held : Bool} {n : Nat} {cs : List Value} {x : DataW H × List MemPlace} (h : DataW.trod enc Try.prog W base spare held n 24 cs = some x) (hl : cs.length = 4) :
    ∃ S : BS, cs = [.int .u64 (wd S 0), .int .u64 (wd S 1), .int .u64 (wd S 2), .int .u64 (wd S 3)] := by
  match cs, hl with
  | [c0, c1, c2, c3], _ =>
    obtain ⟨y0, y1, y2, y3, m, hx, hy0, hy1, hy2, hy3⟩ := trod_array4 Try.underlying24 cells22 h
    obtain ⟨x0, e0, _, w0⟩ := DataW.trod_int Try.underlying22 hy0
    obtain ⟨x1, e1, _, w1⟩ := DataW.trod_int Try.underlying22 hy1
    obtain ⟨x2, e2, _, w2⟩ := DataW.trod_int Try.underlying22 hy2
    obtain ⟨x3, e3, _, w3⟩ := DataW.trod_int Try.underlying22 hy3
    simp at e0 e1 e2 e3
    subst e0 e1 e2 e3
    have b0 := bnd_u64 w0
    have b1 := bnd_u64 w1
    have b2 := bnd_u64 w2
    have b3 := bnd_u64 w3
    obtain ⟨S, s0, s1, s2, s3⟩ := words_set x0.toNat x1.toNat x2.toNat x3.toNat (by omega) (by omega) (by omega) (by omega)
    refine ⟨S, ?_⟩
    rw [s0, s1, s2, s3, Int.toNat_of_nonneg b0.1, Int.toNat_of_nonneg b1.1, Int.toNat_of_nonneg b2.1, Int.toNat_of_nonneg b3.1]
theorem open_sets {W : World} {base : Nat} {v : Value} {d : DataW H} {p : List MemPlace} (hv : Value.okWide Try.prog W .any base 37 v) (h : DataW.Trod enc Try.prog W 0 (fun _ => true) true 37 v d p) :
    ∃ l : List BS, l.length < 2 ^ 63 ∧ Rep (ITP Try.prog) (topX W) (.list l.length (Enc.cellsL l) .none) v := by
  obtain ⟨fuel, hf⟩ := h
  obtain ⟨a0, len, cap, rfl⟩ := okWide_slice und37 hv
  rcases open_slice und37 hf with ⟨h0, _⟩ | ⟨a, len', cap', m, n, D, Pl, hcs, hb, hl, hm, hmm, hx, hi⟩
  · simp [Value.cells] at h0
    obtain ⟨rfl, rfl, rfl⟩ := h0
    refine ⟨[], by simp, ?_⟩
    rw [Rep]
    exact ⟨none, 0, rfl, ⟨Nat.le_refl _, fun _ => rfl⟩, .inl rfl, trivial⟩
  · simp [Value.cells] at hcs
    obtain ⟨rfl, rfl, rfl⟩ := hcs
    rw [cells24] at hi
    have hm' : m = cap := by simpa using hmm
    have hcell : ∀ i, i < m → ∃ S : BS, ∀ k (x : Value), [Value.int .u64 (wd S 0), .int .u64 (wd S 1), .int .u64 (wd S 2), .int .u64 (wd S 3)][k]? = some x → W.cell? (a.add (i * 4 + k)) = some x := fun i him => by
      obtain ⟨cs', hc, ht⟩ := hi i him
      obtain ⟨_, hcl, hat⟩ := World.cells?_some hc
      obtain ⟨S, rfl⟩ := set_cellsT ht hcl
      refine ⟨S, fun k x hx => ?_⟩
      have hk : k < 4 := by have := (List.getElem?_eq_some_iff.1 hx).1; simpa using this
      have := hat k (by omega)
      rw [Go.Deep.add_add] at this
      rw [this]; exact hx
    by_cases hz : len = 0
    · subst hz
      refine ⟨[], by simp, ?_⟩
      rw [Rep]
      exact ⟨some a, cap, rfl, ⟨hl, fun h => by cases h⟩, .inl rfl, trivial⟩
    · obtain ⟨s0, c0⟩ := hcell 0 (by omega)
      replace c0 := c0 0 _ rfl
      have hspot : a = ⟨a.block, a.off, none⟩ := by
        cases a with
        | mk b o sp =>
          cases sp with
          | none => rfl
          | some k =>
            exfalso
            simp [Addr.add, World.cell?] at c0
            split at c0 <;> simp at c0
      have hadd : ∀ j, a.add j = ⟨a.block, a.off + j, none⟩ := fun j => by
        by_cases hj : j = 0
        · subst hj; simp [Addr.add]; exact hspot
        · simp [Addr.add, hj]
      let g : Nat → BS := fun i => if h : i < m then Classical.choose (hcell i h) else 0#256
      have hg : ∀ i (him : i < m) k (x : Value), [Value.int .u64 (wd (g i) 0), .int .u64 (wd (g i) 1), .int .u64 (wd (g i) 2), .int .u64 (wd (g i) 3)][k]? = some x → W.cell? (a.add (i * 4 + k)) = some x := fun i him => by
        have e : g i = Classical.choose (hcell i him) := dif_pos him
        rw [e]; exact Classical.choose_spec (hcell i him)
      have hml : maxLen < 2 ^ 63 := by decide
      refine ⟨(List.range len).map g, by simp; omega, ?_⟩
      rw [Rep]
      refine ⟨some a, cap, by simp, ⟨by simpa using hl, fun h => by cases h⟩, .inr ⟨a.block, a.off, by rw [← hspot], set_at _ _ _ fun i x hx => ?_⟩, trivial⟩
      have hlen : i < len * 4 := by
        have := (List.getElem?_eq_some_iff.1 hx).1
        rw [Go.Ab.setC_len] at this; simp at this; omega
      have hq : i / 4 < len := by omega
      have hx2 : [Value.int .u64 (wd (g (i / 4)) 0), .int .u64 (wd (g (i / 4)) 1), .int .u64 (wd (g (i / 4)) 2), .int .u64 (wd (g (i / 4)) 3)][i % 4]? = some x := by
        have h4 := setC_get ((List.range len).map g) (i / 4) (i % 4) (g (i / 4)) (by simp [hq]) (by omega)
        rw [show i / 4 * 4 + i % 4 = i by omega] at h4
        rw [h4] at hx
        rw [← hx]
        have h5 : i % 4 < 4 := Nat.mod_lt _ (by decide)
        generalize i % 4 = k at h5
        match k, h5 with
        | 0, _ => rfl
        | 1, _ => rfl
        | 2, _ => rfl
        | 3, _ => rfl
      have := hg (i / 4) (by omega) (i % 4) x hx2
      rw [hadd, show a.off + (i / 4 * 4 + i % 4) = a.off + i by omega] at this
      exact ⟨⟨x, this⟩, this⟩
end
end Go.Ab
