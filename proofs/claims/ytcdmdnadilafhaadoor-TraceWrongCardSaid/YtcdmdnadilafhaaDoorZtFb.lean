/-
  The frame of trace's laws: small entries that came in, with their bounds.
-/
import Derived.Test.YtcdmdnadilafhaaDoorZtPq
import Derived.Deep.Slices
import Derived.Deep.Fields
import Derived.ChangeSame
set_option linter.unusedSimpArgs false
set_option linter.unusedVariables false
namespace Go.Ab
open Go Go.RowKit Go.Fwd Go.Proofs Go.ChangeShapes Go.WideShapes Go.Deep
def topX (W : World) : Cx := ⟨fun b o => ∃ v, W.cell? ⟨b, o, none⟩ = some v, [], [], [], W, fun _ => False, fun _ _ => False⟩
theorem inv_top (P : Program) (W : World) (hg : gvBase P W) : Inv (ITP P) St.empty (topX W) where
  lens := rfl
  elems := rfl
  κlen := rfl
  κnd := fun s s' b h => by simp [topX] at h
  box := fun s b t cs h => by simp [topX] at h
  κF := fun s b t cs h => by simp [topX] at h
  βlen := rfl
  βnd := by simp [topX]
  βκ := fun r h => by simp [topX] at h
  row := fun s r L h => by simp [topX] at h
  Ok := fun b h => h.elim
  Fcell := fun b o h => h
  gv := ⟨W, hg, Szs.refl _, fun b o v _ hv => ⟨⟨v, hv⟩, hv⟩⟩
theorem frame_of {P : Program} {f : FuncId} {args : List AV} {u : Value} (h : Pure (ITP P) P f args (.raw u)) (W : World) (hg : gvBase P W) {vs : List Value} (hr : RepL (ITP P) (topX W) args vs) :
    Calls P f vs.toArray W fun e W' => e = .returned u ∧ Below W.heap.size W W' := by
  refine (h.2 (topX W) vs (inv_top P W hg) hr).mono ?_
  rintro e w' ⟨v, Y, rfl, rfl, hE, hIY, hv⟩
  rw [Rep] at hv; subst hv
  exact ⟨rfl, hE.os, hE.tape, hE.output, hE.size, fun b hb => hE.frame b hb (by simp [topX]) (by simp [topX])⟩
section
variable {H : Type} {enc : TypeId × Value → H} {P : Program} {α : Type} [Enc α]
theorem at_gen (W : World) (b : Nat) : ∀ (len o : Nat) (g : Nat → α), (∀ i, i < len → ∃ cs : List Value, RepL (ITP P) (topX W) (Enc.cells (g i)) cs ∧ (∀ u ∈ cs, u.oneCell' = true) ∧ ∀ j c, cs[j]? = some c → W.cell? ⟨b, o + i * Enc.sz α + j, none⟩ = some c) →
    At (ITP P) (topX W) (Enc.cellsL ((List.range len).map g)) b o
  | 0, o, g, _ => by simp only [List.range_zero, List.map_nil]; rw [Enc.nil, At]; trivial
  | len + 1, o, g, h => by
    rw [List.range_succ_eq_map, List.map_cons, List.map_map, Enc.cons]
    obtain ⟨cs, h1, h2, h3⟩ := h 0 (by omega)
    simp only [Nat.zero_mul, Nat.add_zero] at h3
    have ih := at_gen W b len (o + Enc.sz α) (g ∘ Nat.succ) (fun i hi => by
      obtain ⟨cs, k1, k2, k3⟩ := h (i + 1) (by omega)
      refine ⟨cs, k1, k2, fun j c hc => ?_⟩
      have := k3 j c hc
      rw [show o + (i + 1) * Enc.sz α + j = o + Enc.sz α + i * Enc.sz α + j by rw [Nat.add_mul]; omega] at this
      exact this)
    refine at_append (at_mk (vs := cs) (fun j hj => ?_) h2 h1 (fun j u hu => h3 j u hu)) (by rw [Enc.len]; exact ih)
    obtain ⟨c, hc⟩ : ∃ c, cs[j]? = some c := ⟨_, List.getElem?_eq_getElem hj⟩
    exact ⟨c, h3 j c hc⟩
theorem open_gen {W : World} {t e : TypeId} (hu : P.underlying t = some (.slice e)) (ce : P.cellsOf e = Enc.sz α)
    (el : ∀ (n : Nat) (cs : List Value) (x : DataW H × List MemPlace), DataW.trod enc P W 0 (fun _ => true) true n e cs = some x → cs.length = Enc.sz α → ∃ s : α, RepL (ITP P) (topX W) (Enc.cells s) cs ∧ ∀ u ∈ cs, u.oneCell' = true)
    {fuel : Nat} {v : Value} {x : DataW H × List MemPlace} (h : DataW.trod enc P W 0 (fun _ => true) true fuel t [v] = some x) : ∃ l : List α, l.length < 2 ^ 63 ∧ Rep (ITP P) (topX W) (.list l.length (Enc.cellsL l) .none) v := by
  rcases open_slice hu h with ⟨h0, _⟩ | ⟨a, len, cap, m, n, D, Pl, hcs, hb, hl, hm, hmm, hx, hi⟩
  · simp at h0
    subst h0
    refine ⟨[], by simp, ?_⟩
    rw [Rep]
    exact ⟨none, 0, rfl, ⟨Nat.le_refl _, fun _ => rfl⟩, .inl (by rw [Enc.nil]), trivial⟩
  · simp at hcs
    subst hcs
    rw [ce] at hi
    have hm' : m = cap := by simpa using hmm
    by_cases hz : len = 0
    · subst hz
      refine ⟨[], by simp, ?_⟩
      rw [Rep]
      exact ⟨some a, cap, rfl, ⟨hl, fun h => by cases h⟩, .inl (by rw [Enc.nil]), trivial⟩
    · have hcell : ∀ i, i < m → ∃ s : α, ∃ cs : List Value, RepL (ITP P) (topX W) (Enc.cells s) cs ∧ (∀ u ∈ cs, u.oneCell' = true) ∧ cs.length = Enc.sz α ∧ ∀ j c, cs[j]? = some c → W.cell? (a.add (i * Enc.sz α + j)) = some c := fun i him => by
        obtain ⟨cs', hc, ht⟩ := hi i him
        obtain ⟨_, hcl, hat⟩ := World.cells?_some hc
        obtain ⟨s, k1, k2⟩ := el n cs' _ ht hcl
        refine ⟨s, cs', k1, k2, hcl, fun j c hj => ?_⟩
        have hjl : j < Enc.sz α := by have := (List.getElem?_eq_some_iff.1 hj).1; omega
        have := hat j hjl
        rw [Go.Deep.add_add] at this
        rw [this]
        simpa using hj
      have hspot : a = ⟨a.block, a.off, none⟩ := by
        obtain ⟨s, cs, _, _, k3, k4⟩ := hcell 0 (by omega)
        obtain ⟨c, hc⟩ : ∃ c, cs[0]? = some c := ⟨_, List.getElem?_eq_getElem (by rw [k3]; exact Enc.pos)⟩
        have c0 := k4 0 c hc
        cases a with
        | mk b o sp =>
          cases sp with
          | none => rfl
          | some k =>
            exfalso
            simp [Addr.add, World.cell?] at c0
            split at c0 <;> simp at c0
      have hadd : ∀ j, a.add j = ⟨a.block, a.off + j, none⟩ := fun j => by
        by_cases hj : j = 0
        · subst hj; simp [Addr.add]; exact hspot
        · simp [Addr.add, hj]
      let g : Nat → α := fun i => if h : i < m then Classical.choose (hcell i h) else Enc.inh
      have hg : ∀ i (him : i < m), ∃ cs : List Value, RepL (ITP P) (topX W) (Enc.cells (g i)) cs ∧ (∀ u ∈ cs, u.oneCell' = true) ∧ cs.length = Enc.sz α ∧ ∀ j c, cs[j]? = some c → W.cell? (a.add (i * Enc.sz α + j)) = some c := fun i him => by
        have e : g i = Classical.choose (hcell i him) := dif_pos him
        rw [e]; exact Classical.choose_spec (hcell i him)
      have hml : maxLen < 2 ^ 63 := by decide
      refine ⟨(List.range len).map g, by simp; omega, ?_⟩
      rw [Rep]
      refine ⟨some a, cap, by simp, ⟨by simpa using hl, fun h => by cases h⟩, .inr ⟨a.block, a.off, by rw [← hspot], at_gen W a.block len a.off g fun i hi => ?_⟩, trivial⟩
      obtain ⟨cs, k1, k2, k3, k4⟩ := hg i (by omega)
      refine ⟨cs, k1, k2, fun j c hc => ?_⟩
      have := k4 j c hc
      rw [hadd] at this
      rw [Nat.add_assoc]; exact this
end
end Go.Ab
set_option linter.unusedSimpArgs false
set_option linter.unusedVariables false
set_option linter.constructorNameAsVariable false
set_option maxRecDepth 100000
namespace Go.Ab
open Go Go.RowKit Go.Fwd Go.Proofs Go.ChangeShapes Go.WideShapes Go.Deep
theorem bnd_u8 {n : Int} (h : (Lit.int .u8 n).wf = true) : 0 ≤ n ∧ n ≤ 255 := by
  have h1 : IntKind.u8.min = 0 := rfl
  have h2 : IntKind.u8.max = 255 := rfl
  simp only [Lit.wf, Bool.and_eq_true, decide_eq_true_eq] at h
  omega
set_option maxRecDepth 100000 in
theorem fields68 : ∃ f0 f1 f2 : Field, Tryd.prog.underlying 68 = some (.struct #[f0, f1, f2]) ∧ oneCellFields Tryd.prog #[f0, f1, f2] = true ∧ Tryd.prog.underlying f0.type = some (.int .u8) ∧ Tryd.prog.underlying f1.type = some (.int .u8) ∧ Tryd.prog.underlying f2.type = some (.slice 5) := ⟨_, _, _, rfl, by kernel_rfl, rfl, rfl, rfl⟩
theorem und32 : Tryd.prog.underlying 32 = some (.slice 68) := by kernel_rfl
theorem cells68 : Tryd.prog.cellsOf 68 = Enc.sz Sme := by kernel_rfl
theorem cells5 : Tryd.prog.cellsOf 5 = Enc.sz UInt8 := by kernel_rfl
section
variable {H : Type} {enc : TypeId × Value → H}
set_option maxRecDepth 100000 in
theorem el_u8 {W : World} (n : Nat) (cs : List Value) (x : DataW H × List MemPlace) (h : DataW.trod enc Tryd.prog W 0 (fun _ => true) true n 5 cs = some x) (hl : cs.length = Enc.sz UInt8) : ∃ s : UInt8, RepL (ITP Tryd.prog) (topX W) (Enc.cells s) cs ∧ ∀ u ∈ cs, u.oneCell' = true := by
  match cs, hl with
  | [c], _ =>
    obtain ⟨n0, e0, _, w0⟩ := DataW.trod_int und5 h
    simp at e0
    subst e0
    have hb := bnd_u8 w0
    refine ⟨UInt8.ofNat n0.toNat, ?_, fun u hu => by rw [List.mem_singleton.1 hu]; rfl⟩
    have : (((UInt8.ofNat n0.toNat).toNat : Nat) : Int) = n0 := by rw [UInt8.toNat_ofNat']; omega
    show RepL _ _ [.raw (.int .u8 (((UInt8.ofNat n0.toNat).toNat : Nat) : Int))] _
    rw [this]
    exact ⟨_, _, rfl, rfl, rfl⟩
end
end Go.Ab
set_option linter.unusedSimpArgs false
set_option linter.unusedVariables false
set_option linter.constructorNameAsVariable false
set_option maxRecDepth 100000
namespace Go.Ab
open Go Go.RowKit Go.Fwd Go.Proofs Go.ChangeShapes Go.WideShapes Go.Deep
section
variable {H : Type} {enc : TypeId × Value → H}
end
end Go.Ab
set_option linter.unusedSimpArgs false
set_option linter.unusedVariables false
set_option linter.constructorNameAsVariable false
set_option maxRecDepth 100000
namespace Go.Ab
open Go Go.RowKit Go.Fwd Go.Proofs Go.ChangeShapes Go.WideShapes Go.Deep
section
variable {H : Type} {enc : TypeId × Value → H} {P : Program} {α : Type} [Enc α]
theorem open_genP (p : α → Prop) {W : World} {t e : TypeId} (hu : P.underlying t = some (.slice e)) (ce : P.cellsOf e = Enc.sz α)
    (el : ∀ (n : Nat) (cs : List Value) (x : DataW H × List MemPlace), DataW.trod enc P W 0 (fun _ => true) true n e cs = some x → cs.length = Enc.sz α → ∃ s : α, p s ∧ RepL (ITP P) (topX W) (Enc.cells s) cs ∧ ∀ u ∈ cs, u.oneCell' = true)
    {fuel : Nat} {v : Value} {x : DataW H × List MemPlace} (h : DataW.trod enc P W 0 (fun _ => true) true fuel t [v] = some x) : ∃ l : List α, l.length < 2 ^ 63 ∧ (∀ x ∈ l, p x) ∧ Rep (ITP P) (topX W) (.list l.length (Enc.cellsL l) .none) v := by
  rcases open_slice hu h with ⟨h0, _⟩ | ⟨a, len, cap, m, n, D, Pl, hcs, hb, hl, hm, hmm, hx, hi⟩
  · simp at h0
    subst h0
    refine ⟨[], by simp, by simp, ?_⟩
    rw [Rep]
    exact ⟨none, 0, rfl, ⟨Nat.le_refl _, fun _ => rfl⟩, .inl (by rw [Enc.nil]), trivial⟩
  · simp at hcs
    subst hcs
    rw [ce] at hi
    have hm' : m = cap := by simpa using hmm
    by_cases hz : len = 0
    · subst hz
      refine ⟨[], by simp, by simp, ?_⟩
      rw [Rep]
      exact ⟨some a, cap, rfl, ⟨hl, fun h => by cases h⟩, .inl (by rw [Enc.nil]), trivial⟩
    · have hcell : ∀ i, i < m → ∃ s : α, ∃ cs : List Value, p s ∧ RepL (ITP P) (topX W) (Enc.cells s) cs ∧ (∀ u ∈ cs, u.oneCell' = true) ∧ cs.length = Enc.sz α ∧ ∀ j c, cs[j]? = some c → W.cell? (a.add (i * Enc.sz α + j)) = some c := fun i him => by
        obtain ⟨cs', hc, ht⟩ := hi i him
        obtain ⟨_, hcl, hat⟩ := World.cells?_some hc
        obtain ⟨s, k0, k1, k2⟩ := el n cs' _ ht hcl
        refine ⟨s, cs', k0, k1, k2, hcl, fun j c hj => ?_⟩
        have hjl : j < Enc.sz α := by have := (List.getElem?_eq_some_iff.1 hj).1; omega
        have := hat j hjl
        rw [Go.Deep.add_add] at this
        rw [this]
        simpa using hj
      have hspot : a = ⟨a.block, a.off, none⟩ := by
        obtain ⟨s, cs, _, _, _, k3, k4⟩ := hcell 0 (by omega)
        obtain ⟨c, hc⟩ : ∃ c, cs[0]? = some c := ⟨_, List.getElem?_eq_getElem (by rw [k3]; exact Enc.pos)⟩
        have c0 := k4 0 c hc
        cases a with
        | mk b o sp =>
          cases sp with
          | none => rfl
          | some k =>
            exfalso
            simp [Addr.add, World.cell?] at c0
            split at c0 <;> simp at c0
      have hadd : ∀ j, a.add j = ⟨a.block, a.off + j, none⟩ := fun j => by
        by_cases hj : j = 0
        · subst hj; simp [Addr.add]; exact hspot
        · simp [Addr.add, hj]
      let g : Nat → α := fun i => if h : i < m then Classical.choose (hcell i h) else Enc.inh
      have hg : ∀ i (him : i < m), ∃ cs : List Value, p (g i) ∧ RepL (ITP P) (topX W) (Enc.cells (g i)) cs ∧ (∀ u ∈ cs, u.oneCell' = true) ∧ cs.length = Enc.sz α ∧ ∀ j c, cs[j]? = some c → W.cell? (a.add (i * Enc.sz α + j)) = some c := fun i him => by
        have e : g i = Classical.choose (hcell i him) := dif_pos him
        rw [e]; exact Classical.choose_spec (hcell i him)
      have hml : maxLen < 2 ^ 63 := by decide
      refine ⟨(List.range len).map g, by simp; omega, fun x hx => ?_, ?_⟩
      · obtain ⟨i, hi, rfl⟩ := List.mem_map.1 hx
        obtain ⟨_, h, _⟩ := hg i (by have := List.mem_range.1 hi; omega)
        exact h
      rw [Rep]
      refine ⟨some a, cap, by simp, ⟨by simpa using hl, fun h => by cases h⟩, .inr ⟨a.block, a.off, by rw [← hspot], at_gen W a.block len a.off g fun i hi => ?_⟩, trivial⟩
      obtain ⟨cs, _, k1, k2, k3, k4⟩ := hg i (by omega)
      refine ⟨cs, k1, k2, fun j c hc => ?_⟩
      have := k4 j c hc
      rw [hadd] at this
      rw [Nat.add_assoc]; exact this
end
section
variable {H : Type} {enc : TypeId × Value → H}
theorem el_smeP {W : World} (n : Nat) (cs : List Value) (x : DataW H × List MemPlace) (h : DataW.trod enc Tryd.prog W 0 (fun _ => true) true n 68 cs = some x) (hl : cs.length = Enc.sz Sme) : ∃ s : Sme, (0 ≤ s.k ∧ s.k < 256 ∧ 0 ≤ s.far ∧ s.far < 256) ∧ RepL (ITP Tryd.prog) (topX W) (Enc.cells s) cs ∧ ∀ u ∈ cs, u.oneCell' = true := by
  obtain ⟨f0, f1, f2, hu, hone, t0, t1, t2⟩ := fields68
  obtain ⟨ys, m, _, _, _, hyl, hf⟩ := DataW.trod_struct hu h
  obtain ⟨o0, k0⟩ := hone_of hone 0 f0 rfl
  obtain ⟨o1, k1⟩ := hone_of hone 1 f1 rfl
  obtain ⟨o2, k2⟩ := hone_of hone 2 f2 rfl
  match cs, hl with
  | [c0, c1, c2], _ =>
    match ys, hyl with
    | [y0, y1, y2], _ =>
      have g0 : DataW.trod enc Tryd.prog W 0 (fun _ => true) true m f0.type [c0] = some y0 := by simpa [o0, k0] using hf 0 f0 rfl
      have g1 : DataW.trod enc Tryd.prog W 0 (fun _ => true) true m f1.type [c1] = some y1 := by simpa [o1, k1] using hf 1 f1 rfl
      have g2 : DataW.trod enc Tryd.prog W 0 (fun _ => true) true m f2.type [c2] = some y2 := by simpa [o2, k2] using hf 2 f2 rfl
      obtain ⟨n0, e0, _, w0⟩ := DataW.trod_int t0 g0
      obtain ⟨n1, e1, _, w1⟩ := DataW.trod_int t1 g1
      simp at e0 e1
      subst e0 e1
      obtain ⟨b, hb, hr⟩ := open_gen (α := UInt8) t2 cells5 (fun n cs x h hl => el_u8 n cs x h hl) g2
      have b0 := bnd_u8 w0
      have b1 := bnd_u8 w1
      refine ⟨⟨n0, n1, b⟩, ⟨by simp only; omega, by simp only; omega, by simp only; omega, by simp only; omega⟩, ⟨_, _, rfl, rfl, _, _, rfl, rfl, _, _, rfl, hr, rfl⟩, fun u hu => ?_⟩
      rw [Rep] at hr
      obtain ⟨a, cap, rfl, _⟩ := hr
      simp at hu
      rcases hu with rfl | rfl | rfl <;> rfl
theorem open_smallsB {W : World} {base : Nat} {v : Value} {d : DataW H} {p : List MemPlace} (hv : Value.okWide Tryd.prog W .any base 32 v) (h : DataW.Trod enc Tryd.prog W 0 (fun _ => true) true 32 v d p) :
    ∃ l : List Sme, SmB l ∧ Rep (ITP Tryd.prog) (topX W) (.list l.length (Enc.cellsL l) .none) v := by
  obtain ⟨fuel, hf⟩ := h
  obtain ⟨a0, len, cap, rfl⟩ := okWide_slice und32 hv
  obtain ⟨l, h1, h2, h3⟩ := open_genP (α := Sme) (fun s => 0 ≤ s.k ∧ s.k < 256 ∧ 0 ≤ s.far ∧ s.far < 256) und32 cells68 (fun n cs x h hl => el_smeP n cs x h hl) hf
  exact ⟨l, ⟨h1, fun x hx => (h2 x hx).2.2.1⟩, h3⟩
end
end Go.Ab

