/-
  trace: what package strings and strconv come to.
-/
import Derived.Test.YtcdmdnadilafhaaDoorZtEx
set_option linter.unusedSimpArgs false
set_option linter.unusedVariables false
namespace Go.Ab
open Go Go.RowKit Go.Fwd Go.Proofs

/-- A call that writes to nothing that was there. -/
theorem pure_below {P : Program} {f : FuncId} {args : List AV} {r : AV} (vs : List Value) (he : Ent P f) (ha : ∀ X us, RepL (ITP P) X args us → us = vs)
    (h : ∀ X, Inv (ITP P) St.empty X → Calls P f vs.toArray X.w fun e w' => ∃ u, e = .returned u ∧ Below X.w.heap.size X.w w' ∧ ∀ Y, Rep (ITP P) Y r u) : Pure (ITP P) P f args r := by
  refine ⟨he, fun X us hI hr => ?_⟩
  rw [ha X us hr]
  refine (h X hI).mono ?_
  rintro e w' ⟨u, rfl, hx, hu⟩
  have hg : Grows X.w w' := ⟨⟨hx.os, hx.tape, hx.output, hx.size, hx.block⟩, Nat.le_refl _⟩
  exact ⟨u, grown X w', rfl, rfl, ext_grown hI hg, inv_grown (itp_mono P) hI hg, hu _⟩
theorem raws2 {P : Program} {X : Cx} {u v : Value} {us : List Value} (h : RepL (ITP P) X [.raw u, .raw v] us) : us = [u, v] := by
  obtain ⟨a, l, rfl, ha, b, l', rfl, hb, hl⟩ := h
  have ha : a = u := ha
  have hb : b = v := hb
  have hl : l' = [] := hl
  rw [ha, hb, hl]
theorem raws1 {P : Program} {X : Cx} {u : Value} {us : List Value} (h : RepL (ITP P) X [.raw u] us) : us = [u] := by
  obtain ⟨a, l, rfl, ha, hl⟩ := h
  have ha : a = u := ha
  have hl : l = [] := hl
  rw [ha, hl]
theorem ent69 : Ent Tryd.prog 69 := enters_of Tryd.func69 (by kernel_rfl) rfl
theorem ent79 : Ent Tryd.prog 79 := enters_of Tryd.func79 (by kernel_rfl) rfl
theorem ent53 : Ent Tryd.prog 53 := enters_of Tryd.func53 (by kernel_rfl) rfl
theorem ixb69 (s : ByteArray) (c : Int) : Pure (ITP Tryd.prog) Tryd.prog 69 [.raw (.string s), .raw (.int .u8 c)] (.raw (.int .i64 (Lib.indexByte s.data.toList c.toNat.toUInt8))) :=
  pure_below [.string s, .int .u8 c] ent69 (fun X us h => raws2 h) fun X hI => (Tryd.stringslite_IndexByte s c X.w).mono fun e w' ⟨h1, h2⟩ => ⟨_, h1, h2 ▸ Below.refl _ _, fun Y => rfl⟩
theorem ixb79 (s : ByteArray) (c : Int) : Pure (ITP Tryd.prog) Tryd.prog 79 [.raw (.string s), .raw (.int .u8 c)] (.raw (.int .i64 (Lib.indexByte s.data.toList c.toNat.toUInt8))) :=
  pure_below [.string s, .int .u8 c] ent79 (fun X us h => raws2 h) fun X hI => (Tryd.strings_IndexByte s c X.w).mono fun e w' ⟨h1, h2⟩ => ⟨_, h1, h2 ▸ Below.refl _ _, fun Y => rfl⟩
theorem atoi_ok (s : ByteArray) (v : Int) (hmax : s.size ≤ 9223372036854775806) (h : Lib.atoiAll s.data.toList = .ok v) : Pure (ITP Tryd.prog) Tryd.prog 53 [.raw (.string s)] (.tup [.raw (.int .i64 v), .raw .nilIface]) :=
  pure_below [.string s] ent53 (fun X us h => raws1 h) fun X hI => (Tryd.strconv_Atoi_ok s hmax v h X.w).mono fun e w' ⟨h1, h2⟩ => ⟨_, h1, by
    rcases h2 with rfl | ⟨t, rfl⟩
    · exact Below.refl _ _
    · exact Lib.bytesWorld_below _ _ _, fun Y => ⟨[.int .i64 v, .nilIface], rfl, _, _, rfl, rfl, _, _, rfl, rfl, rfl⟩⟩
theorem vars_ok {X : Cx} {σ : St} (hI : Inv (ITP Tryd.prog) σ X) (g : Nat) (hg : g = 1 ∨ g = 2) : ∃ ev, X.w.cell? ⟨g, 0, none⟩ = some ev ∧ (ev = .nilIface ∨ ∃ te pe, ev = .iface te pe) := by
  obtain ⟨w0, h1, h2⟩ := hI.gv
  have hsz : 2 < Tryd.prog.globals.size := by
    have h : decide (2 < Tryd.prog.globals.size) = true := by kernel_rfl
    exact of_decide_eq_true h
  have key : ∀ n, (n = "strconv.ErrSyntax" ∨ n = "strconv.ErrRange") → Tryd.prog.globalNamed n = some g → g < Tryd.prog.globals.size → ∃ ev, X.w.cell? ⟨g, 0, none⟩ = some ev ∧ (ev = .nilIface ∨ ∃ te pe, ev = .iface te pe) := by
    intro n hn hg hlt
    obtain ⟨tp, p, hv⟩ := h1 n g hn hg
    have hc : w0.cell? ⟨g, 0, none⟩ = some (.iface tp p) := by
      unfold World.var? at hv
      rw [hg] at hv
      simp only [Option.bind_some] at hv
      split at hv
      · rename_i cs t f hcs
        cases hv
        simp [World.cell?, hcs]
      · cases hv
    exact ⟨_, (h2 g 0 _ hlt hc).2, .inr ⟨tp, p, rfl⟩⟩
  rcases hg with rfl | rfl
  · exact key "strconv.ErrSyntax" (.inl rfl) (by kernel_rfl) (by omega)
  · exact key "strconv.ErrRange" (.inr rfl) (by kernel_rfl) (by omega)
theorem atoi_syn (s : ByteArray) (hlim : s.size ≤ 281474976710656) (h : Lib.atoiAll s.data.toList = Go.Lib.NumEnd.syntax) : Pure (ITP Tryd.prog) Tryd.prog 53 [.raw (.string s)] (.tup [.raw (.int .i64 0), .top]) :=
  pure_below [.string s] ent53 (fun X us h => raws1 h) fun X hI => by
    obtain ⟨ev, h1, h2⟩ := vars_ok hI 1 (.inl rfl)
    exact (Tryd.strconv_Atoi_syntax s hlim h ev X.w h1 h2).mono fun e w' ⟨N, k1, _, _, k2⟩ => ⟨_, k1, k2, fun Y => ⟨_, rfl, _, _, rfl, rfl, _, _, rfl, trivial, rfl⟩⟩
theorem atoi_rng (s : ByteArray) (hlim : s.size ≤ 281474976710656) (h : Lib.atoiAll s.data.toList = .range) : Pure (ITP Tryd.prog) Tryd.prog 53 [.raw (.string s)] (.tup [.raw (.int .i64 (Lib.atoiSat s.data.toList)), .top]) :=
  pure_below [.string s] ent53 (fun X us h => raws1 h) fun X hI => by
    obtain ⟨ev, h1, h2⟩ := vars_ok hI 2 (.inr rfl)
    exact (Tryd.strconv_Atoi_range s hlim h ev X.w h1 h2).mono fun e w' ⟨N, k1, _, _, k2⟩ => ⟨_, k1, k2, fun Y => ⟨_, rfl, _, _, rfl, rfl, _, _, rfl, trivial, rfl⟩⟩
end Go.Ab
