/-
  The frame of schedule's laws: slices of small entries that came in, and package variables.
-/
import Derived.Test.YtblibgbakbhlkaaDoorZuW7
import Derived.Test.YtblibgbakbhlkaaDoorZuRd
import Derived.Deep.Slices
import Derived.Deep.Fields
import Derived.ChangeSame
set_option linter.unusedSimpArgs false
set_option linter.unusedVariables false
set_option maxRecDepth 100000
namespace Go.Ab
open Go Go.RowKit Go.Fwd Go.Proofs
end Go.Ab
set_option linter.unusedSimpArgs false
set_option linter.unusedVariables false
set_option maxRecDepth 100000
namespace Go.Ab
open Go Go.RowKit Go.Fwd Go.Proofs
theorem awake_true : F_awake 100000 = some true := by decide +kernel
theorem okE_snoc {a : List Ev} {e : Ev} (h : okE false a = true) (hr : rightP e (eofs a) = true) : okE false (a ++ [e]) = true := by
  rw [okE_app, h, Bool.false_or]; simp [okE, hr]
theorem eofs_snoc (a : List Ev) (e : Ev) : eofs (a ++ [e]) = (eofs a || e.k == 3) := by simp [eofs, List.any_append]
theorem u8s_snoc {a : List Ev} {e : Ev} (h : U8s a) (he : (0 ≤ e.k ∧ e.k < 256) ∧ 0 ≤ e.b ∧ e.b < 256) : U8s (a ++ [e]) := fun x hx => (List.mem_append.1 hx).elim (h x) fun hx => by simp at hx; subst hx; exact he
structure GoodS (r : List Ev) : Prop where
  ok : okE false r = true
  u8 : U8s r
theorem made_ok (fuel : Nat) (l : List UInt8) (en : Int) (hf : 200 < fuel) (he : 0 ≤ en ∧ en < 256) : Ok (fun r => r.length ≤ 200 ∧ GoodS r) (F_made fuel l en) := by
  unfold F_made
  have hm : (sub l 0 (min (l.length : Int) 100)).length = (min (l.length : Int) 100).toNat := by
    have := sub_lenI l (i := 0) (j := min (l.length : Int) 100) ⟨Int.le_refl _, by omega, by omega⟩
    rw [this]; simp
  refine ok_cut (fun r => r.length ≤ 200 ∧ GoodS r) (ok_chk ⟨by omega, by omega, by omega⟩ (ok_loop (fun s : List Ev × Int => ∃ i : Nat, s.2 = (i : Int) ∧ i ≤ 100 ∧ s.1.length ≤ 2 * i ∧ GoodS s.1 ∧ (eofs s.1 = true → 0 < en ∧ en < i)) (fun s => 101 - s.2.toNat) ?_ fuel ([], 0) (by simp; omega) ⟨0, rfl, by omega, by simp, ⟨rfl, fun e h => by simp at h⟩, fun h => by simp [eofs] at h⟩)) fun j hj => ok_some hj
  rintro ⟨a, i0⟩ ⟨i, rfl, hi, hn, hg, he1⟩
  dsimp only at hn hg he1 ⊢
  refine ok_bif (fun hc => ?_) (fun hc => ok_some ⟨by omega, hg⟩)
  have hlt := of_decide_eq_true hc
  have hi2 : i < 100 := by rw [hm] at hlt; omega
  refine ok_cut (fun j : List Ev => j.length ≤ 2 * (i + 1) ∧ GoodS j ∧ (eofs j = true → 0 < en ∧ en ≤ i)) (ok_chk ⟨by omega, hlt⟩ (ok_letE fun x hx => ok_cut (fun j : List Ev => j.length ≤ 2 * i + 1 ∧ GoodS j ∧ (eofs j = true → 0 < en ∧ en ≤ i)) ?_ fun j hj => ?_)) fun j hj => ok_chk ⟨by omega, by omega⟩ (ok_some ⟨⟨i + 1, by simp, hi2, hj.1, hj.2.1, fun h => by have := hj.2.2 h; omega⟩, by simp only; omega⟩)
  · have keep : Ok (cutQ (fun j : List Ev => j.length ≤ 2 * i + 1 ∧ GoodS j ∧ (eofs j = true → 0 < en ∧ en ≤ i)) (cutQ (fun j : List Ev => j.length ≤ 2 * (i + 1) ∧ GoodS j ∧ (eofs j = true → 0 < en ∧ en ≤ i)) (cutQ (fun s' : List Ev × Int => (∃ k : Nat, s'.2 = (k : Int) ∧ k ≤ 100 ∧ s'.1.length ≤ 2 * k ∧ GoodS s'.1 ∧ (eofs s'.1 = true → 0 < en ∧ en < k)) ∧ 101 - s'.2.toNat < 101 - (i : Int).toNat) (cutQ (fun r => r.length ≤ 200 ∧ GoodS r) (fun r => r.length ≤ 200 ∧ GoodS r))))) (some (Sum.inl a)) := ok_some ⟨by omega, hg, fun h => by have := he1 h; omega⟩
    refine ok_bif (fun h => ok_chk ⟨by omega, by omega⟩ (ok_bif (fun h2 => ok_chk (by simp; omega) (ok_some ⟨by simp; omega, ⟨okE_snoc hg.ok ?_, u8s_snoc hg.u8 ⟨⟨by decide, by decide⟩, by decide, by decide⟩⟩, fun _ => ?_⟩)) (fun _ => keep))) (fun _ => keep)
    · have hne : eofs a = false := by
        cases hh : eofs a with
        | false => rfl
        | true => have := he1 hh; have : (i : Int) = en := by simpa using h2
                  omega
      rw [hne]; rfl
    · have : (i : Int) = en := by simpa using h2
      have := of_decide_eq_true h
      omega
  · have tick : Ok (cutQ (fun j : List Ev => j.length ≤ 2 * (i + 1) ∧ GoodS j ∧ (eofs j = true → 0 < en ∧ en ≤ i)) (cutQ (fun s' : List Ev × Int => (∃ k : Nat, s'.2 = (k : Int) ∧ k ≤ 100 ∧ s'.1.length ≤ 2 * k ∧ GoodS s'.1 ∧ (eofs s'.1 = true → 0 < en ∧ en < k)) ∧ 101 - s'.2.toNat < 101 - (i : Int).toNat) (cutQ (fun r => r.length ≤ 200 ∧ GoodS r) (fun r => r.length ≤ 200 ∧ GoodS r)))) (chk ((List.length j + List.length [(Ev.mk 2 0)]) * 2 ≤ 140737488355328) (some (Sum.inl (j ++ [(Ev.mk 2 0)])))) :=
      ok_chk (by simp; omega) (ok_some ⟨by simp; omega, ⟨okE_snoc hj.2.1.ok (by cases eofs j <;> rfl), u8s_snoc hj.2.1.u8 ⟨⟨by decide, by decide⟩, by decide, by decide⟩⟩, fun h => hj.2.2 (by rw [eofs_snoc] at h; simpa using h)⟩)
    have byte : ¬ (0 < en ∧ en ≤ i) → Ok (cutQ (fun j : List Ev => j.length ≤ 2 * (i + 1) ∧ GoodS j ∧ (eofs j = true → 0 < en ∧ en ≤ i)) (cutQ (fun s' : List Ev × Int => (∃ k : Nat, s'.2 = (k : Int) ∧ k ≤ 100 ∧ s'.1.length ≤ 2 * k ∧ GoodS s'.1 ∧ (eofs s'.1 = true → 0 < en ∧ en < k)) ∧ 101 - s'.2.toNat < 101 - (i : Int).toNat) (cutQ (fun r => r.length ≤ 200 ∧ GoodS r) (fun r => r.length ≤ 200 ∧ GoodS r)))) (chk ((List.length j + List.length [(Ev.mk 1 ((x.toNat : Nat) : Int))]) * 2 ≤ 140737488355328) (some (Sum.inl (j ++ [(Ev.mk 1 ((x.toNat : Nat) : Int))])))) := fun hno => by
      have hne : eofs j = false := by
        cases hh : eofs j with
        | false => rfl
        | true => exact absurd (hj.2.2 hh) hno
      exact ok_chk (by simp; omega) (ok_some ⟨by simp; omega, ⟨okE_snoc hj.2.1.ok (by rw [hne]; rfl), u8s_snoc hj.2.1.u8 ⟨⟨by show (0 : Int) ≤ 1; decide, by show (1 : Int) < 256; decide⟩, u8n_bnd x⟩⟩, fun h => hj.2.2 (by rw [eofs_snoc] at h; simpa using h)⟩)
    refine ok_bif (fun _ => tick) (fun _ => ok_bif (fun h => ok_chk ⟨by omega, by omega⟩ (ok_bif (fun _ => tick) (fun h2 => byte ?_))) (fun h => byte ?_))
    · have := of_decide_eq_false h2; omega
    · have := of_decide_eq_false h; omega
theorem texts_eq (k l : List UInt8) (a b : Int) (ha : 0 ≤ a ∧ a < 256) (hb : 0 ≤ b ∧ b < 256) : F_texts 100000 k l a b = some true := by
  obtain ⟨x, hx, hx1, hx2⟩ := made_ok 100000 k a (by omega) ha
  obtain ⟨y, hy, hy1, hy2⟩ := made_ok 100000 l b (by omega) hb
  have wx := write_eq 100000 x (by omega) (by omega) hx2.ok hx2.u8
  have wy := write_eq 100000 y (by omega) (by omega) hy2.ok hy2.u8
  have rx := read_write 100000 x (by omega) (by omega) hx2.ok hx2.u8
  have ry := read_write 100000 y (by omega) (by omega) hy2.ok hy2.u8
  unfold F_texts
  rw [hx, bindE_some, hy, bindE_some, wx, bindE_some, wy, bindE_some]
  simp only
  rw [rx, bindE_some]
  refine Ok.eq (ok_chk (by simp) (ok_chk (by simp) (ok_bif (fun _ => ok_bif (fun _ => ?_) (fun h => by simp at h)) (fun h => by simp at h))))
  rw [eqevs_eq 100000 x x (by omega) (by omega), bindE_some, eqevs_eq 100000 x y (by omega) (by omega), bindE_some, awake_true]
  refine ok_bif (fun _ => ok_bif (fun _ => ok_some rfl) (fun h => ?_)) (fun h => by simp at h)
  exfalso
  by_cases he : x = y
  · subst he; simp at h
  · have hne : textP x ≠ textP y := fun e => by
      rw [e, ry] at rx
      simp only [Option.some.injEq, Prod.mk.injEq] at rx
      exact he rx.1.symm
    simp [he, hne] at h
end Go.Ab
set_option linter.unusedSimpArgs false
set_option linter.unusedVariables false
namespace Go.Ab
open Go Go.RowKit Go.Fwd Go.Proofs Go.ChangeShapes Go.WideShapes Go.Deep
def topX (W : World) : Cx := ⟨fun b o => ∃ v, W.cell? ⟨b, o, none⟩ = some v, [], [], [], W, fun _ => False, fun _ _ => False⟩
theorem inv_top (P : Program) (W : World) (hg : gvBase P W) : Inv (ITP P) St.empty (topX W) where
  lens := rfl
  elems := rfl
  κlen := rfl
  κnd := fun s s' b h => by simp [topX] at h
  box := fun s b t cs h => by simp [topX] at h
  κF := fun s b t cs h => by simp [topX] at h
  βlen := rfl
  βnd := by simp [topX]
  βκ := fun r h => by simp [topX] at h
  row := fun s r L h => by simp [topX] at h
  Ok := fun b h => h.elim
  Fcell := fun b o h => h
  gv := ⟨W, hg, Szs.refl _, fun b o v _ hv => ⟨⟨v, hv⟩, hv⟩⟩
theorem frame_of {P : Program} {f : FuncId} {args : List AV} {u : Value} (h : Pure (ITP P) P f args (.raw u)) (W : World) (hg : gvBase P W) {vs : List Value} (hr : RepL (ITP P) (topX W) args vs) :
    Calls P f vs.toArray W fun e W' => e = .returned u ∧ Below W.heap.size W W' := by
  refine (h.2 (topX W) vs (inv_top P W hg) hr).mono ?_
  rintro e w' ⟨v, Y, rfl, rfl, hE, hIY, hv⟩
  rw [Rep] at hv; subst hv
  exact ⟨rfl, hE.os, hE.tape, hE.output, hE.size, fun b hb => hE.frame b hb (by simp [topX]) (by simp [topX])⟩
section
variable {H : Type} {enc : TypeId × Value → H} {P : Program} {α : Type} [Enc α]
theorem at_gen (W : World) (b : Nat) : ∀ (len o : Nat) (g : Nat → α), (∀ i, i < len → ∃ cs : List Value, RepL (ITP P) (topX W) (Enc.cells (g i)) cs ∧ (∀ u ∈ cs, u.oneCell' = true) ∧ ∀ j c, cs[j]? = some c → W.cell? ⟨b, o + i * Enc.sz α + j, none⟩ = some c) →
    At (ITP P) (topX W) (Enc.cellsL ((List.range len).map g)) b o
  | 0, o, g, _ => by simp only [List.range_zero, List.map_nil]; rw [Enc.nil, At]; trivial
  | len + 1, o, g, h => by
    rw [List.range_succ_eq_map, List.map_cons, List.map_map, Enc.cons]
    obtain ⟨cs, h1, h2, h3⟩ := h 0 (by omega)
    simp only [Nat.zero_mul, Nat.add_zero] at h3
    have ih := at_gen W b len (o + Enc.sz α) (g ∘ Nat.succ) (fun i hi => by
      obtain ⟨cs, k1, k2, k3⟩ := h (i + 1) (by omega)
      refine ⟨cs, k1, k2, fun j c hc => ?_⟩
      have := k3 j c hc
      rw [show o + (i + 1) * Enc.sz α + j = o + Enc.sz α + i * Enc.sz α + j by rw [Nat.add_mul]; omega] at this
      exact this)
    refine at_append (at_mk (vs := cs) (fun j hj => ?_) h2 h1 (fun j u hu => h3 j u hu)) (by rw [Enc.len]; exact ih)
    obtain ⟨c, hc⟩ : ∃ c, cs[j]? = some c := ⟨_, List.getElem?_eq_getElem hj⟩
    exact ⟨c, h3 j c hc⟩
theorem open_gen {W : World} {t e : TypeId} (hu : P.underlying t = some (.slice e)) (ce : P.cellsOf e = Enc.sz α)
    (el : ∀ (n : Nat) (cs : List Value) (x : DataW H × List MemPlace), DataW.trod enc P W 0 (fun _ => true) true n e cs = some x → cs.length = Enc.sz α → ∃ s : α, RepL (ITP P) (topX W) (Enc.cells s) cs ∧ ∀ u ∈ cs, u.oneCell' = true)
    {fuel : Nat} {v : Value} {x : DataW H × List MemPlace} (h : DataW.trod enc P W 0 (fun _ => true) true fuel t [v] = some x) : ∃ l : List α, l.length < 2 ^ 63 ∧ Rep (ITP P) (topX W) (.list l.length (Enc.cellsL l) .none) v := by
  rcases open_slice hu h with ⟨h0, _⟩ | ⟨a, len, cap, m, n, D, Pl, hcs, hb, hl, hm, hmm, hx, hi⟩
  · simp at h0
    subst h0
    refine ⟨[], by simp, ?_⟩
    rw [Rep]
    exact ⟨none, 0, rfl, ⟨Nat.le_refl _, fun _ => rfl⟩, .inl (by rw [Enc.nil]), trivial⟩
  · simp at hcs
    subst hcs
    rw [ce] at hi
    have hm' : m = cap := by simpa using hmm
    by_cases hz : len = 0
    · subst hz
      refine ⟨[], by simp, ?_⟩
      rw [Rep]
      exact ⟨some a, cap, rfl, ⟨hl, fun h => by cases h⟩, .inl (by rw [Enc.nil]), trivial⟩
    · have hcell : ∀ i, i < m → ∃ s : α, ∃ cs : List Value, RepL (ITP P) (topX W) (Enc.cells s) cs ∧ (∀ u ∈ cs, u.oneCell' = true) ∧ cs.length = Enc.sz α ∧ ∀ j c, cs[j]? = some c → W.cell? (a.add (i * Enc.sz α + j)) = some c := fun i him => by
        obtain ⟨cs', hc, ht⟩ := hi i him
        obtain ⟨_, hcl, hat⟩ := World.cells?_some hc
        obtain ⟨s, k1, k2⟩ := el n cs' _ ht hcl
        refine ⟨s, cs', k1, k2, hcl, fun j c hj => ?_⟩
        have hjl : j < Enc.sz α := by have := (List.getElem?_eq_some_iff.1 hj).1; omega
        have := hat j hjl
        rw [Go.Deep.add_add] at this
        rw [this]
        simpa using hj
      have hspot : a = ⟨a.block, a.off, none⟩ := by
        obtain ⟨s, cs, _, _, k3, k4⟩ := hcell 0 (by omega)
        obtain ⟨c, hc⟩ : ∃ c, cs[0]? = some c := ⟨_, List.getElem?_eq_getElem (by rw [k3]; exact Enc.pos)⟩
        have c0 := k4 0 c hc
        cases a with
        | mk b o sp =>
          cases sp with
          | none => rfl
          | some k =>
            exfalso
            simp [Addr.add, World.cell?] at c0
            split at c0 <;> simp at c0
      have hadd : ∀ j, a.add j = ⟨a.block, a.off + j, none⟩ := fun j => by
        by_cases hj : j = 0
        · subst hj; simp [Addr.add]; exact hspot
        · simp [Addr.add, hj]
      let g : Nat → α := fun i => if h : i < m then Classical.choose (hcell i h) else Enc.inh
      have hg : ∀ i (him : i < m), ∃ cs : List Value, RepL (ITP P) (topX W) (Enc.cells (g i)) cs ∧ (∀ u ∈ cs, u.oneCell' = true) ∧ cs.length = Enc.sz α ∧ ∀ j c, cs[j]? = some c → W.cell? (a.add (i * Enc.sz α + j)) = some c := fun i him => by
        have e : g i = Classical.choose (hcell i him) := dif_pos him
        rw [e]; exact Classical.choose_spec (hcell i him)
      have hml : maxLen < 2 ^ 63 := by decide
      refine ⟨(List.range len).map g, by simp; omega, ?_⟩
      rw [Rep]
      refine ⟨some a, cap, by simp, ⟨by simpa using hl, fun h => by cases h⟩, .inr ⟨a.block, a.off, by rw [← hspot], at_gen W a.block len a.off g fun i hi => ?_⟩, trivial⟩
      obtain ⟨cs, k1, k2, k3, k4⟩ := hg i (by omega)
      refine ⟨cs, k1, k2, fun j c hc => ?_⟩
      have := k4 j c hc
      rw [hadd] at this
      rw [Nat.add_assoc]; exact this
end
end Go.Ab

