/-
  The frame of trace's laws: traces that came in, and the form's own reach.
-/
import Derived.Test.YtcdmdnadilafhaaGreatDoorZyPq
import Derived.Deep.Slices
import Derived.Deep.Fields
import Derived.ChangeSame
import Derived.SizedLaws
set_option linter.unusedSimpArgs false
set_option linter.unusedVariables false
namespace Go.Ab
open Go Go.RowKit Go.Fwd Go.Proofs Go.ChangeShapes Go.WideShapes Go.Deep

/-- All that lies there is never written again. -/
def topX (W : World) : Cx := ⟨fun b o => ∃ v, W.cell? ⟨b, o, none⟩ = some v, [], [], [], W, fun _ => False, fun _ _ => False⟩
theorem inv_top (P : Program) (W : World) (hg : gvBase P W) : Inv (ITP P) St.empty (topX W) where
  lens := rfl
  elems := rfl
  κlen := rfl
  κnd := fun s s' b h => by simp [topX] at h
  box := fun s b t cs h => by simp [topX] at h
  κF := fun s b t cs h => by simp [topX] at h
  βlen := rfl
  βnd := by simp [topX]
  βκ := fun r h => by simp [topX] at h
  row := fun s r L h => by simp [topX] at h
  Ok := fun b h => h.elim
  Fcell := fun b o h => h
  gv := ⟨W, hg, Szs.refl _, fun b o v _ hv => ⟨⟨v, hv⟩, hv⟩⟩
theorem frame_of {P : Program} {f : FuncId} {args : List AV} {u : Value} (h : Pure (ITP P) P f args (.raw u)) (W : World) (hg : gvBase P W) {vs : List Value} (hr : RepL (ITP P) (topX W) args vs) :
    Calls P f vs.toArray W fun e W' => e = .returned u ∧ Below W.heap.size W W' := by
  refine (h.2 (topX W) vs (inv_top P W hg) hr).mono ?_
  rintro e w' ⟨v, Y, rfl, rfl, hE, hIY, hv⟩
  rw [Rep] at hv; subst hv
  exact ⟨rfl, hE.os, hE.tape, hE.output, hE.size, fun b hb => hE.frame b hb (by simp [topX]) (by simp [topX])⟩
section
variable {H : Type} {enc : TypeId × Value → H} {P : Program} {α : Type} [Enc α]
theorem at_gen (W : World) (b : Nat) : ∀ (len o : Nat) (g : Nat → α), (∀ i, i < len → ∃ cs : List Value, RepL (ITP P) (topX W) (Enc.cells (g i)) cs ∧ (∀ u ∈ cs, u.oneCell' = true) ∧ ∀ j c, cs[j]? = some c → W.cell? ⟨b, o + i * Enc.sz α + j, none⟩ = some c) →
    At (ITP P) (topX W) (Enc.cellsL ((List.range len).map g)) b o
  | 0, o, g, _ => by simp only [List.range_zero, List.map_nil]; rw [Enc.nil, At]; trivial
  | len + 1, o, g, h => by
    rw [List.range_succ_eq_map, List.map_cons, List.map_map, Enc.cons]
    obtain ⟨cs, h1, h2, h3⟩ := h 0 (by omega)
    simp only [Nat.zero_mul, Nat.add_zero] at h3
    have ih := at_gen W b len (o + Enc.sz α) (g ∘ Nat.succ) (fun i hi => by
      obtain ⟨cs, k1, k2, k3⟩ := h (i + 1) (by omega)
      refine ⟨cs, k1, k2, fun j c hc => ?_⟩
      have := k3 j c hc
      rw [show o + (i + 1) * Enc.sz α + j = o + Enc.sz α + i * Enc.sz α + j by rw [Nat.add_mul]; omega] at this
      exact this)
    refine at_append (at_mk (vs := cs) (fun j hj => ?_) h2 h1 (fun j u hu => h3 j u hu)) (by rw [Enc.len]; exact ih)
    obtain ⟨c, hc⟩ : ∃ c, cs[j]? = some c := ⟨_, List.getElem?_eq_getElem hj⟩
    exact ⟨c, h3 j c hc⟩
end
end Go.Ab
set_option linter.unusedSimpArgs false
set_option linter.unusedVariables false
namespace Go.Ab
open Go Go.RowKit Go.Fwd Go.Proofs Go.ChangeShapes Go.WideShapes Go.Deep
theorem bnd_u8 {n : Int} (h : (Lit.int .u8 n).wf = true) : 0 ≤ n ∧ n ≤ 255 := by
  have h1 : IntKind.u8.min = 0 := rfl
  have h2 : IntKind.u8.max = 255 := rfl
  simp only [Lit.wf, Bool.and_eq_true, decide_eq_true_eq] at h
  omega
end Go.Ab
set_option linter.unusedSimpArgs false
set_option linter.unusedVariables false
set_option linter.constructorNameAsVariable false
set_option maxRecDepth 100000
namespace Go.Ab
open Go Go.RowKit Go.Fwd Go.Proofs Go.ChangeShapes Go.WideShapes Go.Deep
theorem fields43 : ∃ f0 f1 f2 f3 : Field, Tryz.prog.underlying 41 = some (.struct #[f0, f1, f2, f3]) ∧ oneCellFields Tryz.prog #[f0, f1, f2, f3] = true ∧ Tryz.prog.underlying f0.type = some (.int .u8) ∧ Tryz.prog.underlying f1.type = some (.int .i64) ∧ Tryz.prog.underlying f2.type = some (.int .i64) ∧ Tryz.prog.underlying f3.type = some .string := ⟨_, _, _, _, rfl, by kernel_rfl, rfl, rfl, rfl, rfl⟩
theorem fields24 : ∃ f0 f1 : Field, Tryz.prog.underlying 25 = some (.struct #[f0, f1]) ∧ oneCellFields Tryz.prog #[f0, f1] = true ∧ Tryz.prog.underlying f0.type = some (.int .u8) ∧ Tryz.prog.underlying f1.type = some (.int .i64) := ⟨_, _, rfl, by kernel_rfl, rfl, rfl⟩
theorem fields26 : ∃ f0 f1 : Field, Tryz.prog.underlying 27 = some (.struct #[f0, f1]) ∧ f0.offset = 0 ∧ f1.offset = 1 ∧ f0.type = 23 ∧ f1.type = 25 := ⟨_, _, rfl, rfl, rfl, rfl, rfl⟩
theorem und22 : Tryz.prog.underlying 23 = some (.slice 41) := by kernel_rfl
theorem cells43 : Tryz.prog.cellsOf 41 = Enc.sz En := by kernel_rfl
theorem cells22 : Tryz.prog.cellsOf 23 = 1 := by kernel_rfl
theorem cells24 : Tryz.prog.cellsOf 25 = 2 := by kernel_rfl
theorem cells26 : Tryz.prog.cellsOf 27 = 3 := by kernel_rfl
section
variable {H : Type} {enc : TypeId × Value → H}
end
end Go.Ab
set_option linter.unusedSimpArgs false
set_option linter.unusedVariables false
set_option linter.constructorNameAsVariable false
set_option maxRecDepth 100000
namespace Go.Ab
open Go Go.RowKit Go.Fwd Go.Proofs Go.ChangeShapes Go.WideShapes Go.Deep
theorem weightsAll_mem {H : Type} {P : Program} {e : TypeId} {n : Nat} : ∀ {D : List (DataW H)} {d : DataW H}, d ∈ D → n ∈ d.weights P e → n ∈ DataW.weightsAll P e D
  | d0 :: D, d, hd, hn => by
    rw [DataW.weightsAll, List.mem_append]
    rcases List.mem_cons.1 hd with rfl | hd
    · exact .inl hn
    · exact .inr (weightsAll_mem hd hn)
section
variable {H : Type} {enc : TypeId × Value → H} {P : Program} {α : Type} [Enc α]
theorem open_genQ (Q : α → DataW H → Prop) {W : World} {t e : TypeId} (hu : P.underlying t = some (.slice e)) (ce : P.cellsOf e = Enc.sz α)
    (el : ∀ (n : Nat) (cs : List Value) (x : DataW H × List MemPlace), DataW.trod enc P W 0 (fun _ => true) true n e cs = some x → cs.length = Enc.sz α → ∃ s : α, RepL (ITP P) (topX W) (Enc.cells s) cs ∧ (∀ u ∈ cs, u.oneCell' = true) ∧ Q s x.1)
    {fuel : Nat} {v : Value} {x : DataW H × List MemPlace} (h : DataW.trod enc P W 0 (fun _ => true) true fuel t [v] = some x) : ∃ l : List α, l.length < 2 ^ 63 ∧ Rep (ITP P) (topX W) (.list l.length (Enc.cellsL l) .none) v ∧ ∀ s ∈ l, ∃ D sp d, x.1 = .slice D sp ∧ d ∈ D ∧ Q s d := by
  rcases open_slice hu h with ⟨h0, _⟩ | ⟨a, len, cap, m, n, D, Pl, hcs, hb, hl, hm, hmm, hx, hi⟩
  · simp at h0
    subst h0
    refine ⟨[], by simp, ?_, fun s hs => by simp at hs⟩
    rw [Rep]
    exact ⟨none, 0, rfl, ⟨Nat.le_refl _, fun _ => rfl⟩, .inl (by rw [Enc.nil]), trivial⟩
  · simp at hcs
    subst hcs
    rw [ce] at hi
    have hm' : m = cap := by simpa using hmm
    by_cases hz : len = 0
    · subst hz
      refine ⟨[], by simp, ?_, fun s hs => by simp at hs⟩
      rw [Rep]
      exact ⟨some a, cap, rfl, ⟨hl, fun h => by cases h⟩, .inl (by rw [Enc.nil]), trivial⟩
    · have hcell : ∀ i, i < m → ∃ s : α, ∃ cs : List Value, RepL (ITP P) (topX W) (Enc.cells s) cs ∧ (∀ u ∈ cs, u.oneCell' = true) ∧ cs.length = Enc.sz α ∧ (∀ j c, cs[j]? = some c → W.cell? (a.add (i * Enc.sz α + j)) = some c) ∧ Q s (D i) := fun i him => by
        obtain ⟨cs', hc, ht⟩ := hi i him
        obtain ⟨_, hcl, hat⟩ := World.cells?_some hc
        obtain ⟨s, k1, k2, k5⟩ := el n cs' _ ht hcl
        refine ⟨s, cs', k1, k2, hcl, fun j c hj => ?_, k5⟩
        have hjl : j < Enc.sz α := by have := (List.getElem?_eq_some_iff.1 hj).1; omega
        have := hat j hjl
        rw [Go.Deep.add_add] at this
        rw [this]
        simpa using hj
      have hspot : a = ⟨a.block, a.off, none⟩ := by
        obtain ⟨s, cs, _, _, k3, k4, _⟩ := hcell 0 (by omega)
        obtain ⟨c, hc⟩ : ∃ c, cs[0]? = some c := ⟨_, List.getElem?_eq_getElem (by rw [k3]; exact Enc.pos)⟩
        have c0 := k4 0 c hc
        cases a with
        | mk b o sp =>
          cases sp with
          | none => rfl
          | some k =>
            exfalso
            simp [Addr.add, World.cell?] at c0
            split at c0 <;> simp at c0
      have hadd : ∀ j, a.add j = ⟨a.block, a.off + j, none⟩ := fun j => by
        by_cases hj : j = 0
        · subst hj; simp [Addr.add]; exact hspot
        · simp [Addr.add, hj]
      let g : Nat → α := fun i => if h : i < m then Classical.choose (hcell i h) else Enc.inh
      have hg : ∀ i (him : i < m), ∃ cs : List Value, RepL (ITP P) (topX W) (Enc.cells (g i)) cs ∧ (∀ u ∈ cs, u.oneCell' = true) ∧ cs.length = Enc.sz α ∧ (∀ j c, cs[j]? = some c → W.cell? (a.add (i * Enc.sz α + j)) = some c) ∧ Q (g i) (D i) := fun i him => by
        have e : g i = Classical.choose (hcell i him) := dif_pos him
        rw [e]; exact Classical.choose_spec (hcell i him)
      have hml : maxLen < 2 ^ 63 := by decide
      refine ⟨(List.range len).map g, by simp; omega, ?_, fun s hs => ?_⟩
      rotate_left
      · obtain ⟨i, hi', rfl⟩ := List.mem_map.1 hs
        have hi' := List.mem_range.1 hi'
        obtain ⟨_, _, _, _, _, k5⟩ := hg i (by omega)
        exact ⟨_, _, D i, by rw [hx], List.mem_map.2 ⟨i, List.mem_range.2 hi', rfl⟩, k5⟩
      rw [Rep]
      refine ⟨some a, cap, by simp, ⟨by simpa using hl, fun h => by cases h⟩, .inr ⟨a.block, a.off, by rw [← hspot], at_gen W a.block len a.off g fun i hi => ?_⟩, trivial⟩
      obtain ⟨cs, k1, k2, k3, k4, _⟩ := hg i (by omega)
      refine ⟨cs, k1, k2, fun j c hc => ?_⟩
      have := k4 j c hc
      rw [hadd] at this
      rw [Nat.add_assoc]; exact this
end
section
variable {H : Type} {enc : TypeId × Value → H}
theorem el_enZ {W : World} (n : Nat) (cs : List Value) (x : DataW H × List MemPlace) (h : DataW.trod enc Tryz.prog W 0 (fun _ => true) true n 41 cs = some x) (hl : cs.length = Enc.sz En) : ∃ s : En, RepL (ITP Tryz.prog) (topX W) (Enc.cells s) cs ∧ (∀ u ∈ cs, u.oneCell' = true) ∧ s.b.length ∈ DataW.weights Tryz.prog 41 x.1 := by
  obtain ⟨f0, f1, f2, f3, hu, hone, t0, t1, t2, t3⟩ := fields43
  obtain ⟨ys, m, _, hx, _, hyl, hf⟩ := DataW.trod_struct hu h
  obtain ⟨o0, k0⟩ := hone_of hone 0 f0 rfl
  obtain ⟨o1, k1⟩ := hone_of hone 1 f1 rfl
  obtain ⟨o2, k2⟩ := hone_of hone 2 f2 rfl
  obtain ⟨o3, k3⟩ := hone_of hone 3 f3 rfl
  match cs, hl with
  | [c0, c1, c2, c3], _ =>
    match ys, hyl with
    | [y0, y1, y2, y3], _ =>
      have g0 : DataW.trod enc Tryz.prog W 0 (fun _ => true) true m f0.type [c0] = some y0 := by simpa [o0, k0] using hf 0 f0 rfl
      have g1 : DataW.trod enc Tryz.prog W 0 (fun _ => true) true m f1.type [c1] = some y1 := by simpa [o1, k1] using hf 1 f1 rfl
      have g2 : DataW.trod enc Tryz.prog W 0 (fun _ => true) true m f2.type [c2] = some y2 := by simpa [o2, k2] using hf 2 f2 rfl
      have g3 : DataW.trod enc Tryz.prog W 0 (fun _ => true) true m f3.type [c3] = some y3 := by simpa [o3, k3] using hf 3 f3 rfl
      obtain ⟨n0, e0, d0, w0⟩ := DataW.trod_int t0 g0
      obtain ⟨n1, e1, d1, w1⟩ := DataW.trod_int t1 g1
      obtain ⟨n2, e2, d2, w2⟩ := DataW.trod_int t2 g2
      obtain ⟨s3, e3, d3, w3⟩ := DataW.trod_string t3 g3
      simp at e0 e1 e2 e3
      subst e0 e1 e2 e3 d0 d1 d2 d3 hx
      refine ⟨⟨n0, n1, n2, s3.data.toList⟩, ⟨_, _, rfl, rfl, _, _, rfl, rfl, _, _, rfl, rfl, _, _, rfl, rfl, rfl⟩, fun u hu => ?_, ?_⟩
      · simp at hu
        rcases hu with rfl | rfl | rfl | rfl <;> rfl
      · simp [DataW.weights, hu, DataW.weightsEach]
theorem open_trcZ {W : World} {base : Nat} {v : Value} {d : DataW H} {p : List MemPlace} (hv : Value.okWide Tryz.prog W .any base 27 v) (h : DataW.Trod enc Tryz.prog W 0 (fun _ => true) true 27 v d p) (hsz : (DataW.weightsEach Tryz.prog [27] [d]).all (· ≤ reachBytes) = true) :
    ∃ t : Trc, (t.l.length < 2 ^ 63 ∧ (∀ e ∈ t.l, e.b.length < 2 ^ 47) ∧ 0 ≤ t.e.k ∧ t.e.k < 256) ∧ Rep (ITP Tryz.prog) (topX W) (.agg (Enc.cells t)) v := by
  obtain ⟨f0, f1, hu, o0, o1, t0, t1⟩ := fields26
  obtain ⟨g0, g1, hu2, hone, s0, s1⟩ := fields24
  obtain ⟨q0, r0⟩ := hone_of hone 0 g0 rfl
  obtain ⟨q1, r1⟩ := hone_of hone 1 g1 rfl
  obtain ⟨cs, rfl, hcs⟩ := okWide_struct hu hv
  obtain ⟨fuel, hf⟩ := h
  obtain ⟨ys, m, _, hx, _, hyl, hf⟩ := DataW.trod_struct hu hf
  rw [cells26] at hcs
  obtain ⟨c0, c1, c2, rfl⟩ : ∃ c0 c1 c2, cs = #[c0, c1, c2] := by
    obtain ⟨l⟩ := cs
    match l, hcs with
    | [a, b, c], _ => exact ⟨a, b, c, rfl⟩
  match ys, hyl with
  | [y0, y1], _ =>
    have h0 : DataW.trod enc Tryz.prog W 0 (fun _ => true) true m 23 [c0] = some y0 := by simpa [o0, t0, cells22, Value.cells] using hf 0 f0 rfl
    have h1 : DataW.trod enc Tryz.prog W 0 (fun _ => true) true m 25 [c1, c2] = some y1 := by simpa [o1, t1, cells24, Value.cells] using hf 1 f1 rfl
    obtain ⟨l, hl, hr, hq⟩ := open_genQ (α := En) (fun s d => s.b.length ∈ DataW.weights Tryz.prog 41 d) und22 cells43 (fun n cs x h hl => el_enZ n cs x h hl) h0
    have hlen : ∀ e ∈ l, e.b.length < 2 ^ 47 := fun e he => by
      obtain ⟨D, sp, dd, h1, h2, h3⟩ := hq e he
      have h4 : e.b.length ∈ DataW.weights Tryz.prog 23 y0.1 := by
        rw [h1]
        simp only [DataW.weights, und22, List.mem_cons, List.mem_append]
        exact .inr (.inl (weightsAll_mem h2 h3))
      have h5 : e.b.length ∈ DataW.weights Tryz.prog 27 d := by
        have hx := congrArg Prod.fst hx
        simp only [List.map_cons, List.map_nil] at hx
        rw [hx]
        simp only [DataW.weights, hu, List.map_cons, List.map_nil, DataW.weightsEach, List.mem_append, t0]
        exact .inl h4
      have h6 := List.all_eq_true.1 hsz _ (DataW.weights_mem_each (j := 0) rfl rfl _ h5)
      have h7 := reachBytes_lt
      have h8 : e.b.length ≤ reachBytes := by simpa using h6
      omega
    obtain ⟨zs, m2, _, _, _, hzl, hf2⟩ := DataW.trod_struct hu2 h1
    match zs, hzl with
    | [z0, z1], _ =>
      have e0 : DataW.trod enc Tryz.prog W 0 (fun _ => true) true m2 g0.type [c1] = some z0 := by simpa [q0, r0] using hf2 0 g0 rfl
      have e1 : DataW.trod enc Tryz.prog W 0 (fun _ => true) true m2 g1.type [c2] = some z1 := by simpa [q1, r1] using hf2 1 g1 rfl
      obtain ⟨n0, a0, _, w0⟩ := DataW.trod_int s0 e0
      obtain ⟨n1, a1, _, w1⟩ := DataW.trod_int s1 e1
      simp at a0 a1
      subst a0 a1
      have hr' := hr
      rw [Rep] at hr'
      obtain ⟨a, cap, rfl, _⟩ := hr'
      have hb : 0 ≤ n0 ∧ n0 < 256 := by have := bnd_u8 w0; omega
      refine ⟨⟨l, ⟨n0, n1⟩⟩, ⟨hl, hlen, hb⟩, ?_⟩
      rw [Rep]
      refine ⟨_, rfl, ⟨_, _, rfl, hr, _, _, rfl, rfl, _, _, rfl, rfl, rfl⟩, fun u hu => ?_⟩
      simp at hu
      rcases hu with rfl | rfl | rfl <;> rfl
end
end Go.Ab

