/-
  The frame of trace's laws: traces that came in.
-/
import Derived.Test.YtcdmdnadilafhaaDoorZtFs
set_option linter.unusedSimpArgs false
set_option linter.unusedVariables false
set_option linter.constructorNameAsVariable false
set_option maxRecDepth 100000
namespace Go.Ab
open Go Go.RowKit Go.Fwd Go.Proofs Go.ChangeShapes Go.WideShapes Go.Deep
theorem fields43 : ∃ f0 f1 f2 f3 : Field, Tryd.prog.underlying 43 = some (.struct #[f0, f1, f2, f3]) ∧ oneCellFields Tryd.prog #[f0, f1, f2, f3] = true ∧ Tryd.prog.underlying f0.type = some (.int .u8) ∧ Tryd.prog.underlying f1.type = some (.int .i64) ∧ Tryd.prog.underlying f2.type = some (.int .i64) ∧ Tryd.prog.underlying f3.type = some .string := ⟨_, _, _, _, rfl, by kernel_rfl, rfl, rfl, rfl, rfl⟩
theorem fields24 : ∃ f0 f1 : Field, Tryd.prog.underlying 24 = some (.struct #[f0, f1]) ∧ oneCellFields Tryd.prog #[f0, f1] = true ∧ Tryd.prog.underlying f0.type = some (.int .u8) ∧ Tryd.prog.underlying f1.type = some (.int .i64) := ⟨_, _, rfl, by kernel_rfl, rfl, rfl⟩
theorem fields26 : ∃ f0 f1 : Field, Tryd.prog.underlying 26 = some (.struct #[f0, f1]) ∧ f0.offset = 0 ∧ f1.offset = 1 ∧ f0.type = 22 ∧ f1.type = 24 := ⟨_, _, rfl, rfl, rfl, rfl, rfl⟩
theorem und22 : Tryd.prog.underlying 22 = some (.slice 43) := by kernel_rfl
theorem cells43 : Tryd.prog.cellsOf 43 = Enc.sz En := by kernel_rfl
theorem cells22 : Tryd.prog.cellsOf 22 = 1 := by kernel_rfl
theorem cells24 : Tryd.prog.cellsOf 24 = 2 := by kernel_rfl
theorem cells26 : Tryd.prog.cellsOf 26 = 3 := by kernel_rfl
section
variable {H : Type} {enc : TypeId × Value → H}
theorem el_en {W : World} (n : Nat) (cs : List Value) (x : DataW H × List MemPlace) (h : DataW.trod enc Tryd.prog W 0 (fun _ => true) true n 43 cs = some x) (hl : cs.length = Enc.sz En) : ∃ s : En, RepL (ITP Tryd.prog) (topX W) (Enc.cells s) cs ∧ ∀ u ∈ cs, u.oneCell' = true := by
  obtain ⟨f0, f1, f2, f3, hu, hone, t0, t1, t2, t3⟩ := fields43
  obtain ⟨ys, m, _, _, _, hyl, hf⟩ := DataW.trod_struct hu h
  obtain ⟨o0, k0⟩ := hone_of hone 0 f0 rfl
  obtain ⟨o1, k1⟩ := hone_of hone 1 f1 rfl
  obtain ⟨o2, k2⟩ := hone_of hone 2 f2 rfl
  obtain ⟨o3, k3⟩ := hone_of hone 3 f3 rfl
  match cs, hl with
  | [c0, c1, c2, c3], _ =>
    match ys, hyl with
    | [y0, y1, y2, y3], _ =>
      have g0 : DataW.trod enc Tryd.prog W 0 (fun _ => true) true m f0.type [c0] = some y0 := by simpa [o0, k0] using hf 0 f0 rfl
      have g1 : DataW.trod enc Tryd.prog W 0 (fun _ => true) true m f1.type [c1] = some y1 := by simpa [o1, k1] using hf 1 f1 rfl
      have g2 : DataW.trod enc Tryd.prog W 0 (fun _ => true) true m f2.type [c2] = some y2 := by simpa [o2, k2] using hf 2 f2 rfl
      have g3 : DataW.trod enc Tryd.prog W 0 (fun _ => true) true m f3.type [c3] = some y3 := by simpa [o3, k3] using hf 3 f3 rfl
      obtain ⟨n0, e0, _, w0⟩ := DataW.trod_int t0 g0
      obtain ⟨n1, e1, _, w1⟩ := DataW.trod_int t1 g1
      obtain ⟨n2, e2, _, w2⟩ := DataW.trod_int t2 g2
      obtain ⟨s3, e3, _, w3⟩ := DataW.trod_string t3 g3
      simp at e0 e1 e2 e3
      subst e0 e1 e2 e3
      refine ⟨⟨n0, n1, n2, s3.data.toList⟩, ⟨_, _, rfl, rfl, _, _, rfl, rfl, _, _, rfl, rfl, _, _, rfl, rfl, rfl⟩, fun u hu => ?_⟩
      simp at hu
      rcases hu with rfl | rfl | rfl | rfl <;> rfl
theorem open_trc {W : World} {base : Nat} {v : Value} {d : DataW H} {p : List MemPlace} (hv : Value.okWide Tryd.prog W .any base 26 v) (h : DataW.Trod enc Tryd.prog W 0 (fun _ => true) true 26 v d p) :
    ∃ t : Trc, t.l.length < 2 ^ 63 ∧ Rep (ITP Tryd.prog) (topX W) (.agg (Enc.cells t)) v := by
  obtain ⟨f0, f1, hu, o0, o1, t0, t1⟩ := fields26
  obtain ⟨g0, g1, hu2, hone, s0, s1⟩ := fields24
  obtain ⟨q0, r0⟩ := hone_of hone 0 g0 rfl
  obtain ⟨q1, r1⟩ := hone_of hone 1 g1 rfl
  obtain ⟨cs, rfl, hcs⟩ := okWide_struct hu hv
  obtain ⟨fuel, hf⟩ := h
  obtain ⟨ys, m, _, _, _, hyl, hf⟩ := DataW.trod_struct hu hf
  rw [cells26] at hcs
  obtain ⟨c0, c1, c2, rfl⟩ : ∃ c0 c1 c2, cs = #[c0, c1, c2] := by
    obtain ⟨l⟩ := cs
    match l, hcs with
    | [a, b, c], _ => exact ⟨a, b, c, rfl⟩
  match ys, hyl with
  | [y0, y1], _ =>
    have h0 : DataW.trod enc Tryd.prog W 0 (fun _ => true) true m 22 [c0] = some y0 := by simpa [o0, t0, cells22, Value.cells] using hf 0 f0 rfl
    have h1 : DataW.trod enc Tryd.prog W 0 (fun _ => true) true m 24 [c1, c2] = some y1 := by simpa [o1, t1, cells24, Value.cells] using hf 1 f1 rfl
    obtain ⟨l, hl, hr⟩ := open_gen (α := En) und22 cells43 (fun n cs x h hl => el_en n cs x h hl) h0
    obtain ⟨zs, m2, _, _, _, hzl, hf2⟩ := DataW.trod_struct hu2 h1
    match zs, hzl with
    | [z0, z1], _ =>
      have e0 : DataW.trod enc Tryd.prog W 0 (fun _ => true) true m2 g0.type [c1] = some z0 := by simpa [q0, r0] using hf2 0 g0 rfl
      have e1 : DataW.trod enc Tryd.prog W 0 (fun _ => true) true m2 g1.type [c2] = some z1 := by simpa [q1, r1] using hf2 1 g1 rfl
      obtain ⟨n0, a0, _, w0⟩ := DataW.trod_int s0 e0
      obtain ⟨n1, a1, _, w1⟩ := DataW.trod_int s1 e1
      simp at a0 a1
      subst a0 a1
      have hr' := hr
      rw [Rep] at hr'
      obtain ⟨a, cap, rfl, _⟩ := hr'
      refine ⟨⟨l, ⟨n0, n1⟩⟩, hl, ?_⟩
      rw [Rep]
      refine ⟨_, rfl, ⟨_, _, rfl, hr, _, _, rfl, rfl, _, _, rfl, rfl, rfl⟩, fun u hu => ?_⟩
      simp at hu
      rcases hu with rfl | rfl | rfl <;> rfl
end
end Go.Ab
