/-
  trace: what package strings and strconv come to.
-/
import Derived.Test.YtcdmdnadilafhaaDoorRows
import Derived.Test.YtcdmdnadilafhaaDoorTrydShelf
import Derived.WalkKit
import Derived.WalkSpells
import Derived.WalkLawsBesides
import Derived.StillTailTactics
import Derived.Outline
import Derived.Shelf.Strings.BuilderK
import Derived.Test.YtcdmdnadilafhaaDoorZdSh
import Derived.Lib.AppendIntMem
set_option linter.unusedSimpArgs false
set_option linter.unusedVariables false
namespace Go.Ab
open Go Go.RowKit Go.Shelf Go.Proofs
theorem size71 : (Tryd.prog.info? 71).map (·.size) = some 2 := by kernel_rfl
set_option maxHeartbeats 1000000 in
set_option maxRecDepth 100000 in
theorem cc_used (b : Nat) (w : World) (h0 : w.cell? ⟨b, 0, none⟩ = some (.pointer (some ⟨b, 0, none⟩))) :
    Calls Tryd.prog 49 #[.pointer (some ⟨b, 0, none⟩)] w fun e w' => e = .returned (.tuple #[]) ∧ w' = w := by
  obtain ⟨j, hj, hjs⟩ := Option.map_eq_some_iff.1 size71
  go_enter Tryd.func49, Tryd.ntmps49
  go_wp2
  rw [Lib.run_neq_ptr_same w _ Tryd.underlying69 hj]
  go_wp2
  go_end0
  exact ⟨rfl, rfl⟩
theorem lies71 (n : Nat) : liesAt Tryd.prog Tryd.prog.depth 71 ((n + 2) / Tryd.prog.cellsOf 71) 0 71 1 = true := by
  obtain ⟨d, hd⟩ : ∃ d, Tryd.prog.depth = d + 1 := ⟨Tryd.prog.depth - 1, by
    have h : decide (0 < Tryd.prog.depth) = true := by kernel_rfl
    have := of_decide_eq_true h
    omega⟩
  have hc : Tryd.prog.cellsOf 71 = 2 := by kernel_rfl
  have hsl : sameLayout Tryd.prog Tryd.prog.depth 71 71 = true := by kernel_rfl
  rw [hc, show (n + 2) / 2 = n / 2 + 1 from by omega, hd]
  rw [liesAt]
  have hr : rowAt Tryd.prog (fun x => sameLayout Tryd.prog Tryd.prog.depth x 71) (d + 1) 71 (n / 2 + 1) 0 1 = true := by
    rw [rowAt]
    simp [hc, hsl]
  rw [hd] at hr
  simp only [hr, Bool.true_or, hd]
set_option maxHeartbeats 1000000 in
set_option maxRecDepth 100000 in
theorem cc_fresh (b n : Nat) (w : World) (h0 : w.cell? ⟨b, 0, none⟩ = some (.pointer none)) (hsh : w.shape? b = some (71, n + 2)) (hfz : w.frozen? ⟨b, 0, none⟩ = false) :
    Calls Tryd.prog 49 #[.pointer (some ⟨b, 0, none⟩)] w fun e w' => e = .returned (.tuple #[]) ∧ w' = w.setCell ⟨b, 0, none⟩ (.pointer (some ⟨b, 0, none⟩)) := by
  obtain ⟨j, hj, hjs⟩ := Option.map_eq_some_iff.1 size71
  go_enter Tryd.func49, Tryd.ntmps49
  go_wp2
  rw [Lib.run_to_unsafe w ⟨b, 0, none⟩ Tryd.underlying69 Tryd.underlying100 hj (by rw [hjs]; decide) hsh (Nat.zero_lt_succ _)]
  simp only [Result.andThen]
  rw [Oper.upon_value]
  go_wp2
  rw [run_callFunc_extern Tryd.func56 (by kernel_rfl) (by kernel_rfl) (by kernel_rfl) (e := Extern.AbiNoEscape.same) (by kernel_rfl)]
  rw [Lib.run_noEscape]
  simp only [Result.andThen]
  rw [Oper.upon_value]
  go_wp2
  rw [Lib.run_from_unsafe w ⟨b, 0, none⟩ Tryd.underlying100 Tryd.underlying69 hj hsh (lies71 n)]
  simp only [Result.andThen]
  rw [Oper.upon_value]
  go_wp2
  go_end0
  exact ⟨rfl, rfl⟩
set_option maxHeartbeats 1000000 in
set_option maxRecDepth 100000 in
theorem str_some (b g cap : Nat) (cur : Array Value) (fz : Nat × Nat) (l : List UInt8) (w : World) (h1 : w.cell? ⟨b, 1, none⟩ = some (.slice (some ⟨g, 0, none⟩) l.length cap)) (h0 : l ≠ []) (hg : w.heap[g]? = some (.cells cur 5 fz)) (hlc : l.length ≤ cur.size) (hcm : cur.size ≤ maxLen)
    (hcap : cap ≠ 0) (hc : ∀ j x, l[j]? = some x → w.cell? ⟨g, j, none⟩ = some (.int .u8 (x.toNat : Int))) :
    Calls Tryd.prog 36 #[.pointer (some ⟨b, 0, none⟩)] w fun e w' => e = .returned (.string ⟨l.toArray⟩) ∧ w' = w.drew.freeze ⟨g, 0, none⟩ l.length := by
  have c1 : w.drew.cell? ⟨b, 1, none⟩ = some (.slice (some ⟨g, 0, none⟩) l.length cap) := h1
  have hSD : (Builtin.unsafeSliceData_ #[66] 97 #[.slice (some ⟨g, 0, none⟩) l.length cap]).run Tryd.prog w.drew = .ok (.pointer (some ⟨g, 0, none⟩)) w.drew := Lib.run_unsafeSliceData_row _ _ _ _ _ _ hcap
  have hUS : (Builtin.unsafeString_ #[97, 3] 9 #[.pointer (some ⟨g, 0, none⟩), .int .i64 l.length]).run Tryd.prog w.drew = .ok (.string ⟨l.toArray⟩) (w.drew.freeze ⟨g, 0, none⟩ l.length) := by
    refine Lib.run_unsafeString_row w.drew 97 3 9 5 Tryd.underlying97 (by kernel_rfl) g cur.size (by have hg' : w.drew.heap[g]? = some (.cells cur 5 fz) := hg; simp [World.shape?, hg']) l h0 hlc (by unfold maxLen at hcm; omega) ?_
    intro j x hx
    rw [show ({block := g, off := 0} : Addr).add j = ⟨g, j, none⟩ from by simp [Addr.add]; try omega]; exact hc j x hx
  go_enter Tryd.func36, Tryd.ntmps36
  go_wp2
  go_region
  all_goals (go_wp2; go_ret; exact ⟨rfl, rfl⟩)
end Go.Ab
set_option linter.unusedSimpArgs false
set_option linter.unusedVariables false
namespace Go.Ab
open Go Go.RowKit Go.Fwd Go.Proofs
theorem mix : Tryd.prog.follows .mixedOrders = true := by kernel_rfl
theorem ents (f : Nat) (fn : Func) (hf : Tryd.prog.funcs[f]? = some fn) (hb : fn.body.isSome = true) : Ent Tryd.prog f := by
  obtain ⟨c, hc⟩ := Option.isSome_iff_exists.1 hb
  have hall : (Tryd.prog.funcs.toList.all fun fn => !(fn.name == "runtime.NumGoroutine")) = true := by kernel_rfl
  have := List.all_eq_true.1 hall fn (Array.mem_toList_iff.2 (Array.mem_of_getElem? hf))
  exact enters_of hf (by simpa using this) hc
end Go.Ab
set_option linter.unusedSimpArgs false
set_option linter.unusedVariables false
namespace Go.Ab
open Go Go.RowKit Go.Fwd Go.Proofs
theorem pure_below {P : Program} {f : FuncId} {args : List AV} {r : AV} (vs : List Value) (he : Ent P f) (ha : ∀ X us, RepL (ITP P) X args us → us = vs)
    (h : ∀ X, Inv (ITP P) St.empty X → Calls P f vs.toArray X.w fun e w' => ∃ u, e = .returned u ∧ Below X.w.heap.size X.w w' ∧ ∀ Y, Rep (ITP P) Y r u) : Pure (ITP P) P f args r := by
  refine ⟨he, fun X us hI hr => ?_⟩
  rw [ha X us hr]
  refine (h X hI).mono ?_
  rintro e w' ⟨u, rfl, hx, hu⟩
  have hg : Grows X.w w' := ⟨⟨hx.os, hx.tape, hx.output, hx.size, hx.block⟩, Nat.le_refl _⟩
  exact ⟨u, grown X w', rfl, rfl, ext_grown hI hg, inv_grown (itp_mono P) hI hg, hu _⟩
theorem raws2 {P : Program} {X : Cx} {u v : Value} {us : List Value} (h : RepL (ITP P) X [.raw u, .raw v] us) : us = [u, v] := by
  obtain ⟨a, l, rfl, ha, b, l', rfl, hb, hl⟩ := h
  have ha : a = u := ha
  have hb : b = v := hb
  have hl : l' = [] := hl
  rw [ha, hb, hl]
theorem raws1 {P : Program} {X : Cx} {u : Value} {us : List Value} (h : RepL (ITP P) X [.raw u] us) : us = [u] := by
  obtain ⟨a, l, rfl, ha, hl⟩ := h
  have ha : a = u := ha
  have hl : l = [] := hl
  rw [ha, hl]
theorem ent69 : Ent Tryd.prog 69 := enters_of Tryd.func69 (by kernel_rfl) rfl
theorem ent79 : Ent Tryd.prog 79 := enters_of Tryd.func79 (by kernel_rfl) rfl
theorem ent53 : Ent Tryd.prog 53 := enters_of Tryd.func53 (by kernel_rfl) rfl
theorem ixb69 (s : ByteArray) (c : Int) : Pure (ITP Tryd.prog) Tryd.prog 69 [.raw (.string s), .raw (.int .u8 c)] (.raw (.int .i64 (Lib.indexByte s.data.toList c.toNat.toUInt8))) :=
  pure_below [.string s, .int .u8 c] ent69 (fun X us h => raws2 h) fun X hI => (Tryd.stringslite_IndexByte s c X.w).mono fun e w' ⟨h1, h2⟩ => ⟨_, h1, h2 ▸ Below.refl _ _, fun Y => rfl⟩
theorem ixb79 (s : ByteArray) (c : Int) : Pure (ITP Tryd.prog) Tryd.prog 79 [.raw (.string s), .raw (.int .u8 c)] (.raw (.int .i64 (Lib.indexByte s.data.toList c.toNat.toUInt8))) :=
  pure_below [.string s, .int .u8 c] ent79 (fun X us h => raws2 h) fun X hI => (Tryd.strings_IndexByte s c X.w).mono fun e w' ⟨h1, h2⟩ => ⟨_, h1, h2 ▸ Below.refl _ _, fun Y => rfl⟩
theorem atoi_ok (s : ByteArray) (v : Int) (hmax : s.size ≤ 9223372036854775806) (h : Lib.atoiAll s.data.toList = .ok v) : Pure (ITP Tryd.prog) Tryd.prog 53 [.raw (.string s)] (.tup [.raw (.int .i64 v), .raw .nilIface]) :=
  pure_below [.string s] ent53 (fun X us h => raws1 h) fun X hI => (Tryd.strconv_Atoi_ok s hmax v h X.w).mono fun e w' ⟨h1, h2⟩ => ⟨_, h1, by
    rcases h2 with rfl | ⟨t, rfl⟩
    · exact Below.refl _ _
    · exact Lib.bytesWorld_below _ _ _, fun Y => ⟨[.int .i64 v, .nilIface], rfl, _, _, rfl, rfl, _, _, rfl, rfl, rfl⟩⟩
theorem vars_ok {X : Cx} {σ : St} (hI : Inv (ITP Tryd.prog) σ X) (g : Nat) (hg : g = 1 ∨ g = 2) : ∃ ev, X.w.cell? ⟨g, 0, none⟩ = some ev ∧ (ev = .nilIface ∨ ∃ te pe, ev = .iface te pe) := by
  obtain ⟨w0, h1, hz, h2⟩ := hI.gv
  have hsz : 2 < Tryd.prog.globals.size := by
    have h : decide (2 < Tryd.prog.globals.size) = true := by kernel_rfl
    exact of_decide_eq_true h
  have key : ∀ n, (n = "strconv.ErrSyntax" ∨ n = "strconv.ErrRange") → Tryd.prog.globalNamed n = some g → g < Tryd.prog.globals.size → ∃ ev, X.w.cell? ⟨g, 0, none⟩ = some ev ∧ (ev = .nilIface ∨ ∃ te pe, ev = .iface te pe) := by
    intro n hn hg hlt
    obtain ⟨tp, p, hv⟩ := h1.err n g hn hg
    have hc : w0.cell? ⟨g, 0, none⟩ = some (.iface tp p) := by
      unfold World.var? at hv
      rw [hg] at hv
      simp only [Option.bind_some] at hv
      split at hv
      · rename_i cs t f hcs
        cases hv
        simp [World.cell?, hcs]
      · cases hv
    exact ⟨_, (h2 g 0 _ hlt hc).2, .inr ⟨tp, p, rfl⟩⟩
  rcases hg with rfl | rfl
  · exact key "strconv.ErrSyntax" (.inl rfl) (by kernel_rfl) (by omega)
  · exact key "strconv.ErrRange" (.inr rfl) (by kernel_rfl) (by omega)
theorem var_now {P : Program} {w0 w : World} {n : String} {g : Nat} {a : Array Value} (hg : P.globalNamed n = some g) (hz : Szs w0 w) (hc : ∀ o v, w0.cell? ⟨g, o, none⟩ = some v → w.cell? ⟨g, o, none⟩ = some v) (h : w0.var? P n = some a) : w.var? P n = some a := by
  unfold World.var? at h ⊢
  rw [hg] at h ⊢
  simp only [Option.bind_some] at h ⊢
  split at h
  · rename_i cs t f hb
    cases h
    obtain ⟨cs', t', f', h1, h2⟩ := hz g _ t f hb
    rw [h1]
    simp only [Option.some.injEq]
    refine Array.ext h2 fun i h3 h4 => ?_
    have h5 : w0.cell? ⟨g, i, none⟩ = some a[i] := by simp [World.cell?, hb, h4]
    have h6 := hc i _ h5
    simpa [World.cell?, h1, h3] using h6
  · cases h
theorem glob_size : Tryd.prog.globals.size = 6 := by kernel_rfl
theorem tab_ok {X : Cx} {σ : St} (hI : Inv (ITP Tryd.prog) σ X) : Lib.TabIs Tryd.prog X.w "internal/strconv.uint64pow10" .u64 Lib.pow10Tab := by
  obtain ⟨w0, h1, hz, h2⟩ := hI.gv
  have hg : Tryd.prog.globalNamed "internal/strconv.uint64pow10" = some 3 := by kernel_rfl
  exact var_now hg hz (fun o v h => (h2 3 o v (by rw [glob_size]; omega) h).2) (h1.pow 3 hg)
theorem ent51 : Ent Tryd.prog 51 := enters_of Tryd.func51 (by kernel_rfl) rfl
theorem itoa51 (n : Int) (h : -9223372036854775808 ≤ n ∧ n < 9223372036854775808) : Pure (ITP Tryd.prog) Tryd.prog 51 [.raw (.int .i64 n)] (.raw (.string ⟨(Lib.itoa n).toArray⟩)) :=
  pure_below [.int .i64 n] ent51 (fun X us h => raws1 h) fun X hI => (Tryd.strconv_Itoa n h.1 (by omega) X.w (tab_ok hI)).mono fun e w' ⟨h1, k, os, h2⟩ => ⟨_, h1, h2 ▸ Lib.below_grow _ _ (Nat.le_refl _) k os, fun Y => rfl⟩
theorem atoi_syn (s : ByteArray) (hlim : s.size ≤ 281474976710656) (h : Lib.atoiAll s.data.toList = Go.Lib.NumEnd.syntax) : Pure (ITP Tryd.prog) Tryd.prog 53 [.raw (.string s)] (.tup [.raw (.int .i64 0), .top]) :=
  pure_below [.string s] ent53 (fun X us h => raws1 h) fun X hI => by
    obtain ⟨ev, h1, h2⟩ := vars_ok hI 1 (.inl rfl)
    exact (Tryd.strconv_Atoi_syntax s hlim h ev X.w h1 h2).mono fun e w' ⟨N, k1, _, _, k2⟩ => ⟨_, k1, k2, fun Y => ⟨_, rfl, _, _, rfl, rfl, _, _, rfl, trivial, rfl⟩⟩
theorem atoi_rng (s : ByteArray) (hlim : s.size ≤ 281474976710656) (h : Lib.atoiAll s.data.toList = .range) : Pure (ITP Tryd.prog) Tryd.prog 53 [.raw (.string s)] (.tup [.raw (.int .i64 (Lib.atoiSat s.data.toList)), .top]) :=
  pure_below [.string s] ent53 (fun X us h => raws1 h) fun X hI => by
    obtain ⟨ev, h1, h2⟩ := vars_ok hI 2 (.inr rfl)
    exact (Tryd.strconv_Atoi_range s hlim h ev X.w h1 h2).mono fun e w' ⟨N, k1, _, _, k2⟩ => ⟨_, k1, k2, fun Y => ⟨_, rfl, _, _, rfl, rfl, _, _, rfl, trivial, rfl⟩⟩
end Go.Ab

