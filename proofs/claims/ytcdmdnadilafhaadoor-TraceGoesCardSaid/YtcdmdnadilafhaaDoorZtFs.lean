/-
  The frame of trace's laws: small entries that came in.
-/
import Derived.Test.YtcdmdnadilafhaaDoorZtFr
set_option linter.unusedSimpArgs false
set_option linter.unusedVariables false
set_option linter.constructorNameAsVariable false
set_option maxRecDepth 100000
namespace Go.Ab
open Go Go.RowKit Go.Fwd Go.Proofs Go.ChangeShapes Go.WideShapes Go.Deep
theorem bnd_u8 {n : Int} (h : (Lit.int .u8 n).wf = true) : 0 ≤ n ∧ n ≤ 255 := by
  have h1 : IntKind.u8.min = 0 := rfl
  have h2 : IntKind.u8.max = 255 := rfl
  simp only [Lit.wf, Bool.and_eq_true, decide_eq_true_eq] at h
  omega
set_option maxRecDepth 100000 in
theorem fields68 : ∃ f0 f1 f2 : Field, Tryd.prog.underlying 68 = some (.struct #[f0, f1, f2]) ∧ oneCellFields Tryd.prog #[f0, f1, f2] = true ∧ Tryd.prog.underlying f0.type = some (.int .u8) ∧ Tryd.prog.underlying f1.type = some (.int .u8) ∧ Tryd.prog.underlying f2.type = some (.slice 5) := ⟨_, _, _, rfl, by kernel_rfl, rfl, rfl, rfl⟩
theorem und32 : Tryd.prog.underlying 32 = some (.slice 68) := by kernel_rfl
theorem cells68 : Tryd.prog.cellsOf 68 = Enc.sz Sme := by kernel_rfl
theorem cells5 : Tryd.prog.cellsOf 5 = Enc.sz UInt8 := by kernel_rfl
section
variable {H : Type} {enc : TypeId × Value → H}
set_option maxRecDepth 100000 in
theorem el_u8 {W : World} (n : Nat) (cs : List Value) (x : DataW H × List MemPlace) (h : DataW.trod enc Tryd.prog W 0 (fun _ => true) true n 5 cs = some x) (hl : cs.length = Enc.sz UInt8) : ∃ s : UInt8, RepL (ITP Tryd.prog) (topX W) (Enc.cells s) cs ∧ ∀ u ∈ cs, u.oneCell' = true := by
  match cs, hl with
  | [c], _ =>
    obtain ⟨n0, e0, _, w0⟩ := DataW.trod_int und5 h
    simp at e0
    subst e0
    have hb := bnd_u8 w0
    refine ⟨UInt8.ofNat n0.toNat, ?_, fun u hu => by rw [List.mem_singleton.1 hu]; rfl⟩
    have : (((UInt8.ofNat n0.toNat).toNat : Nat) : Int) = n0 := by rw [UInt8.toNat_ofNat']; omega
    show RepL _ _ [.raw (.int .u8 (((UInt8.ofNat n0.toNat).toNat : Nat) : Int))] _
    rw [this]
    exact ⟨_, _, rfl, rfl, rfl⟩
set_option maxRecDepth 100000 in
theorem el_sme {W : World} (n : Nat) (cs : List Value) (x : DataW H × List MemPlace) (h : DataW.trod enc Tryd.prog W 0 (fun _ => true) true n 68 cs = some x) (hl : cs.length = Enc.sz Sme) : ∃ s : Sme, RepL (ITP Tryd.prog) (topX W) (Enc.cells s) cs ∧ ∀ u ∈ cs, u.oneCell' = true := by
  obtain ⟨f0, f1, f2, hu, hone, t0, t1, t2⟩ := fields68
  obtain ⟨ys, m, _, _, _, hyl, hf⟩ := DataW.trod_struct hu h
  obtain ⟨o0, k0⟩ := hone_of hone 0 f0 rfl
  obtain ⟨o1, k1⟩ := hone_of hone 1 f1 rfl
  obtain ⟨o2, k2⟩ := hone_of hone 2 f2 rfl
  match cs, hl with
  | [c0, c1, c2], _ =>
    match ys, hyl with
    | [y0, y1, y2], _ =>
      have g0 : DataW.trod enc Tryd.prog W 0 (fun _ => true) true m f0.type [c0] = some y0 := by simpa [o0, k0] using hf 0 f0 rfl
      have g1 : DataW.trod enc Tryd.prog W 0 (fun _ => true) true m f1.type [c1] = some y1 := by simpa [o1, k1] using hf 1 f1 rfl
      have g2 : DataW.trod enc Tryd.prog W 0 (fun _ => true) true m f2.type [c2] = some y2 := by simpa [o2, k2] using hf 2 f2 rfl
      obtain ⟨n0, e0, _, w0⟩ := DataW.trod_int t0 g0
      obtain ⟨n1, e1, _, w1⟩ := DataW.trod_int t1 g1
      simp at e0 e1
      subst e0 e1
      obtain ⟨b, hb, hr⟩ := open_gen (α := UInt8) t2 cells5 (fun n cs x h hl => el_u8 n cs x h hl) g2
      refine ⟨⟨n0, n1, b⟩, ⟨_, _, rfl, rfl, _, _, rfl, rfl, _, _, rfl, hr, rfl⟩, fun u hu => ?_⟩
      rw [Rep] at hr
      obtain ⟨a, cap, rfl, _⟩ := hr
      simp at hu
      rcases hu with rfl | rfl | rfl <;> rfl
set_option maxRecDepth 100000 in
theorem open_smalls {W : World} {base : Nat} {v : Value} {d : DataW H} {p : List MemPlace} (hv : Value.okWide Tryd.prog W .any base 32 v) (h : DataW.Trod enc Tryd.prog W 0 (fun _ => true) true 32 v d p) :
    ∃ l : List Sme, l.length < 2 ^ 63 ∧ Rep (ITP Tryd.prog) (topX W) (.list l.length (Enc.cellsL l) .none) v := by
  obtain ⟨fuel, hf⟩ := h
  obtain ⟨a0, len, cap, rfl⟩ := okWide_slice und32 hv
  exact open_gen (α := Sme) und32 cells68 (fun n cs x h hl => el_sme n cs x h hl) hf
end
end Go.Ab
