/-
  strings.Builder: copyCheck and String as contracts that take a box.
-/
import Derived.Test.YtcdmdnadilafhaaGreatDoorRows
import Derived.Test.YtcdmdnadilafhaaGreatDoorTryzShelf
import Derived.WalkKit
import Derived.WalkSpells
import Derived.WalkLawsBesides
import Derived.StillTailTactics
import Derived.Outline
import Derived.Shelf.Strings.BuilderK
import Derived.Test.YtcdmdnadilafhaaGreatDoorZdSh
import Derived.Lib.AppendIntMem
set_option linter.unusedSimpArgs false
set_option linter.unusedVariables false
namespace Go.Ab
open Go Go.RowKit Go.Shelf Go.Proofs
theorem z2k : (Tryz.prog.info? 87).map (·.size) = some 2 := by kernel_rfl
set_option maxHeartbeats 1000000 in
set_option maxRecDepth 100000 in
theorem cc_used (b : Nat) (w : World) (h0 : w.cell? ⟨b, 0, none⟩ = some (.pointer (some ⟨b, 0, none⟩))) :
 Calls Tryz.prog 67 #[.pointer (some ⟨b, 0, none⟩)] w fun e w' => e = .returned (.tuple #[]) ∧ w' = w := by
 obtain ⟨j, hj, hjs⟩ := Option.map_eq_some_iff.1 z2k
 go_enter Tryz.func67, Tryz.ntmps67
 go_wp2
 rw [Lib.run_neq_ptr_same w _ Tryz.underlying85 hj]
 go_wp2
 go_end0
 exact ⟨rfl, rfl⟩
theorem lies71 (n : Nat) : liesAt Tryz.prog Tryz.prog.depth 87 ((n + 2) / Tryz.prog.cellsOf 87) 0 87 1 = true := by
 obtain ⟨d, hd⟩ : ∃ d, Tryz.prog.depth = d + 1 := ⟨Tryz.prog.depth - 1, by
  have h : decide (0 < Tryz.prog.depth) = true := by kernel_rfl
  have := of_decide_eq_true h
  omega⟩
 have hc : Tryz.prog.cellsOf 87 = 2 := by kernel_rfl
 have hsl : sameLayout Tryz.prog Tryz.prog.depth 87 87 = true := by kernel_rfl
 rw [hc, show (n + 2) / 2 = n / 2 + 1 from by omega, hd]
 rw [liesAt]
 have hr : rowAt Tryz.prog (fun x => sameLayout Tryz.prog Tryz.prog.depth x 87) (d + 1) 87 (n / 2 + 1) 0 1 = true := by
  rw [rowAt]
  simp [hc, hsl]
 rw [hd] at hr
 simp only [hr, Bool.true_or, hd]
set_option maxHeartbeats 1000000 in
set_option maxRecDepth 100000 in
theorem z1p (b n : Nat) (w : World) (h0 : w.cell? ⟨b, 0, none⟩ = some (.pointer none)) (hsh : w.shape? b = some (87, n + 2)) (hfz : w.frozen? ⟨b, 0, none⟩ = false) :
 Calls Tryz.prog 67 #[.pointer (some ⟨b, 0, none⟩)] w fun e w' => e = .returned (.tuple #[]) ∧ w' = w.setCell ⟨b, 0, none⟩ (.pointer (some ⟨b, 0, none⟩)) := by
 obtain ⟨j, hj, hjs⟩ := Option.map_eq_some_iff.1 z2k
 go_enter Tryz.func67, Tryz.ntmps67
 go_wp2
 rw [Lib.run_to_unsafe w ⟨b, 0, none⟩ Tryz.underlying85 Tryz.underlying133 hj (by rw [hjs]; decide) hsh (Nat.zero_lt_succ _)]
 simp only [Result.andThen]
 rw [Oper.upon_value]
 go_wp2
 rw [run_callFunc_extern Tryz.func81 (by kernel_rfl) (by kernel_rfl) (by kernel_rfl) (e := Extern.AbiNoEscape.same) (by kernel_rfl)]
 rw [Lib.run_noEscape]
 simp only [Result.andThen]
 rw [Oper.upon_value]
 go_wp2
 rw [Lib.run_from_unsafe w ⟨b, 0, none⟩ Tryz.underlying133 Tryz.underlying85 hj hsh (lies71 n)]
 simp only [Result.andThen]
 rw [Oper.upon_value]
 go_wp2
 go_end0
 exact ⟨rfl, rfl⟩
set_option maxHeartbeats 1000000 in
set_option maxRecDepth 100000 in
theorem z01 (b g cap : Nat) (cur : Array Value) (fz : Nat × Nat) (l : List UInt8) (w : World) (h1 : w.cell? ⟨b, 1, none⟩ = some (.slice (some ⟨g, 0, none⟩) l.length cap)) (h0 : l ≠ []) (hg : w.heap[g]? = some (.cells cur 5 fz)) (hlc : l.length ≤ cur.size) (hcm : cur.size ≤ maxLen)
 (hcap : cap ≠ 0) (hc : ∀ j x, l[j]? = some x → w.cell? ⟨g, j, none⟩ = some (.int .u8 (x.toNat : Int))) :
 Calls Tryz.prog 49 #[.pointer (some ⟨b, 0, none⟩)] w fun e w' => e = .returned (.string ⟨l.toArray⟩) ∧ w' = w.drew.freeze ⟨g, 0, none⟩ l.length := by
 have c1 : w.drew.cell? ⟨b, 1, none⟩ = some (.slice (some ⟨g, 0, none⟩) l.length cap) := h1
 have hSD : (Builtin.unsafeSliceData_ #[47] 117 #[.slice (some ⟨g, 0, none⟩) l.length cap]).run Tryz.prog w.drew = .ok (.pointer (some ⟨g, 0, none⟩)) w.drew := Lib.run_unsafeSliceData_row _ _ _ _ _ _ hcap
 have hUS : (Builtin.unsafeString_ #[117, 3] 9 #[.pointer (some ⟨g, 0, none⟩), .int .i64 l.length]).run Tryz.prog w.drew = .ok (.string ⟨l.toArray⟩) (w.drew.freeze ⟨g, 0, none⟩ l.length) := by
  refine Lib.run_unsafeString_row w.drew 117 3 9 5 Tryz.underlying117 (by kernel_rfl) g cur.size (by have hg' : w.drew.heap[g]? = some (.cells cur 5 fz) := hg; simp [World.shape?, hg']) l h0 hlc (by unfold maxLen at hcm; omega) ?_
  intro j x hx
  rw [show ({block := g, off := 0} : Addr).add j = ⟨g, j, none⟩ from by simp [Addr.add]; try omega]; exact hc j x hx
 go_enter Tryz.func49, Tryz.ntmps49
 go_wp2
 go_region
 all_goals (go_wp2; go_ret; exact ⟨rfl, rfl⟩)
end Go.Ab
set_option linter.unusedSimpArgs false
set_option linter.unusedVariables false
namespace Go.Ab
open Go Go.RowKit Go.Fwd Go.Proofs
theorem mix : Tryz.prog.follows .mixedOrders = true := by kernel_rfl
theorem ents (f : Nat) (fn : Func) (hf : Tryz.prog.funcs[f]? = some fn) (hb : fn.body.isSome = true) : Ent Tryz.prog f := by
 obtain ⟨c, hc⟩ := Option.isSome_iff_exists.1 hb
 have hall : (Tryz.prog.funcs.toList.all fun fn => !(fn.name == "runtime.NumGoroutine")) = true := by kernel_rfl
 have := List.all_eq_true.1 hall fn (Array.mem_toList_iff.2 (Array.mem_of_getElem? hf))
 exact enters_of hf (by simpa using this) hc
end Go.Ab
set_option linter.unusedSimpArgs false
set_option linter.unusedVariables false
namespace Go.Ab
open Go Go.RowKit Go.Fwd Go.Proofs
theorem zd3 {P : Program} {f : FuncId} {args : List AV} {r : AV} (vs : List Value) (he : Ent P f) (ha : ∀ X us, za9 (ITP P) X args us → us = vs)
 (h : ∀ X, Inv (ITP P) St.empty X → Calls P f vs.toArray X.w fun e w' => ∃ u, e = .returned u ∧ Below X.w.heap.size X.w w' ∧ ∀ Y, Rep (ITP P) Y r u) : Pure (ITP P) P f args r := by
 refine ⟨he, fun X us hI hr => ?_⟩
 rw [ha X us hr]
 refine (h X hI).mono ?_
 rintro e w' ⟨u, rfl, hx, hu⟩
 have hg : Grows X.w w' := ⟨⟨hx.os, hx.tape, hx.output, hx.size, hx.block⟩, Nat.le_refl _⟩
 exact ⟨u, zhz X w', rfl, rfl, zit hI hg, zgt (za5 P) hI hg, hu _⟩
theorem raws2 {P : Program} {X : Cx} {u v : Value} {us : List Value} (h : za9 (ITP P) X [.raw u, .raw v] us) : us = [u, v] := by
 obtain ⟨a, l, rfl, ha, b, l', rfl, hb, hl⟩ := h
 have ha : a = u := ha
 have hb : b = v := hb
 have hl : l' = [] := hl
 rw [ha, hb, hl]
theorem z1e {P : Program} {X : Cx} {u : Value} {us : List Value} (h : za9 (ITP P) X [.raw u] us) : us = [u] := by
 obtain ⟨a, l, rfl, ha, hl⟩ := h
 have ha : a = u := ha
 have hl : l = [] := hl
 rw [ha, hl]
theorem ent83 : Ent Tryz.prog 83 := enters_of Tryz.func83 (by kernel_rfl) rfl
theorem ent94 : Ent Tryz.prog 94 := enters_of Tryz.func94 (by kernel_rfl) rfl
theorem ent55 : Ent Tryz.prog 55 := enters_of Tryz.func55 (by kernel_rfl) rfl
theorem ixb69 (s : ByteArray) (c : Int) : Pure (ITP Tryz.prog) Tryz.prog 83 [.raw (.string s), .raw (.int .u8 c)] (.raw (.int .i64 (Lib.indexByte s.data.toList c.toNat.toUInt8))) :=
 zd3 [.string s, .int .u8 c] ent83 (fun X us h => raws2 h) fun X hI => (Tryz.stringslite_IndexByte s c X.w).mono fun e w' ⟨h1, h2⟩ => ⟨_, h1, h2 ▸ Below.refl _ _, fun Y => rfl⟩
theorem ixb79 (s : ByteArray) (c : Int) : Pure (ITP Tryz.prog) Tryz.prog 94 [.raw (.string s), .raw (.int .u8 c)] (.raw (.int .i64 (Lib.indexByte s.data.toList c.toNat.toUInt8))) :=
 zd3 [.string s, .int .u8 c] ent94 (fun X us h => raws2 h) fun X hI => (Tryz.strings_IndexByte s c X.w).mono fun e w' ⟨h1, h2⟩ => ⟨_, h1, h2 ▸ Below.refl _ _, fun Y => rfl⟩
theorem zy4 (s : ByteArray) (v : Int) (hmax : s.size ≤ 9223372036854775806) (h : Lib.atoiAll s.data.toList = .ok v) : Pure (ITP Tryz.prog) Tryz.prog 55 [.raw (.string s)] (.tup [.raw (.int .i64 v), .raw .nilIface]) :=
 zd3 [.string s] ent55 (fun X us h => z1e h) fun X hI => (Tryz.strconv_Atoi_ok s hmax v h X.w).mono fun e w' ⟨h1, h2⟩ => ⟨_, h1, by
  rcases h2 with rfl | ⟨t, rfl⟩
  ·exact Below.refl _ _
  ·exact Lib.bytesWorld_below _ _ _, fun Y => ⟨[.int .i64 v, .nilIface], rfl, _, _, rfl, rfl, _, _, rfl, rfl, rfl⟩⟩
theorem zyz {X : Cx} {σ : St} (hI : Inv (ITP Tryz.prog) σ X) (g : Nat) (hg : g = 1 ∨ g = 2) : ∃ ev, X.w.cell? ⟨g, 0, none⟩ = some ev ∧ (ev = .nilIface ∨ ∃ te pe, ev = .iface te pe) := by
 obtain ⟨w0, h1, hz, h2⟩ := hI.gv
 have hsz : 2 < Tryz.prog.globals.size := by
  have h : decide (2 < Tryz.prog.globals.size) = true := by kernel_rfl
  exact of_decide_eq_true h
 have key : ∀ n, (n = "strconv.ErrSyntax" ∨ n = "strconv.ErrRange") → Tryz.prog.globalNamed n = some g → g < Tryz.prog.globals.size → ∃ ev, X.w.cell? ⟨g, 0, none⟩ = some ev ∧ (ev = .nilIface ∨ ∃ te pe, ev = .iface te pe) := by
  intro n hn hg hlt
  obtain ⟨tp, p, hv⟩ := h1.err n g hn hg
  have hc : w0.cell? ⟨g, 0, none⟩ = some (.iface tp p) := by
   unfold World.var? at hv
   rw [hg] at hv
   simp only [Option.bind_some] at hv
   split at hv
   ·rename_i cs t f hcs
    cases hv
    simp [World.cell?, hcs]
   ·cases hv
  exact ⟨_, (h2 g 0 _ hlt hc).2, .inr ⟨tp, p, rfl⟩⟩
 rcases hg with rfl | rfl
 ·exact key "strconv.ErrSyntax" (.inl rfl) (by kernel_rfl) (by omega)
 ·exact key "strconv.ErrRange" (.inr rfl) (by kernel_rfl) (by omega)
theorem var_now {P : Program} {w0 w : World} {n : String} {g : Nat} {a : Array Value} (hg : P.globalNamed n = some g) (hz : Szs w0 w) (hc : ∀ o v, w0.cell? ⟨g, o, none⟩ = some v → w.cell? ⟨g, o, none⟩ = some v) (h : w0.var? P n = some a) : w.var? P n = some a := by
 unfold World.var? at h ⊢
 rw [hg] at h ⊢
 simp only [Option.bind_some] at h ⊢
 split at h
 ·rename_i cs t f hb
  cases h
  obtain ⟨cs', t', f', h1, h2⟩ := hz g _ t f hb
  rw [h1]
  simp only [Option.some.injEq]
  refine Array.ext h2 fun i h3 h4 => ?_
  have h5 : w0.cell? ⟨g, i, none⟩ = some a[i] := by simp [World.cell?, hb, h4]
  have h6 := hc i _ h5
  simpa [World.cell?, h1, h3] using h6
 ·cases h
theorem zri : Tryz.prog.globals.size = 6 := by kernel_rfl
theorem tab_ok {X : Cx} {σ : St} (hI : Inv (ITP Tryz.prog) σ X) : Lib.TabIs Tryz.prog X.w "internal/strconv.uint64pow10" .u64 Lib.pow10Tab := by
 obtain ⟨w0, h1, hz, h2⟩ := hI.gv
 have hg : Tryz.prog.globalNamed "internal/strconv.uint64pow10" = some 3 := by kernel_rfl
 exact var_now hg hz (fun o v h => (h2 3 o v (by rw [zri]; omega) h).2) (h1.pow 3 hg)
theorem zx2 {X : Cx} {σ : St} (hI : Inv (ITP Tryz.prog) σ X) : ∃ m, X.w.cell? ⟨0, 0, none⟩ = some (.int .i64 m) := by
 obtain ⟨w0, h1, hz, h2⟩ := hI.gv
 have hg : Tryz.prog.globalNamed "internal/bytealg.MaxLen" = some 0 := by kernel_rfl
 obtain ⟨m, hm⟩ := h1.max 0 hg
 exact ⟨m, (h2 0 0 _ (by rw [zri]; omega) hm).2⟩
theorem ent68 : Ent Tryz.prog 68 := enters_of Tryz.func68 (by kernel_rfl) rfl
theorem ent26 : Ent Tryz.prog 26 := enters_of Tryz.func26 (by kernel_rfl) rfl
theorem itoa51 (n : Int) (h : -9223372036854775808 ≤ n ∧ n < 9223372036854775808) : Pure (ITP Tryz.prog) Tryz.prog 68 [.raw (.int .i64 n)] (.raw (.string ⟨(Lib.itoa n).toArray⟩)) :=
 zd3 [.int .i64 n] ent68 (fun X us h => z1e h) fun X hI => (Tryz.strconv_Itoa n h.1 (by omega) X.w (tab_ok hI)).mono fun e w' ⟨h1, k, os, h2⟩ => ⟨_, h1, h2 ▸ Lib.below_grow _ _ (Nat.le_refl _) k os, fun Y => rfl⟩
theorem zu8 (w : World) : ∀ n, Below w.heap.size w (w.drewN n)
 | 0 => Below.refl _ _
 | n + 1 => (zu8 w n).trans ⟨rfl, rfl, rfl, Nat.le_refl _, fun _ _ => rfl⟩
theorem cut37 (s p : ByteArray) (hs : s.size < 4294967281) : Pure (ITP Tryz.prog) Tryz.prog 26 [.raw (.string s), .raw (.string p)] (.tup [.raw (.string ⟨(Lib.cut s.data.toList p.data.toList).1.toArray⟩), .raw (.string ⟨(Lib.cut s.data.toList p.data.toList).2.1.toArray⟩), .raw (.bool (Lib.cut s.data.toList p.data.toList).2.2)]) :=
 zd3 [.string s, .string p] ent26 (fun X us h => raws2 h) fun X hI => by
  obtain ⟨m, hm⟩ := zx2 hI
  exact (Tryz.strings_Cut s p m X.w hs hm).mono fun e w' ⟨h1, n, h2⟩ => ⟨_, h1, h2 ▸ zu8 _ n, fun Y => ⟨_, rfl, _, _, rfl, rfl, _, _, rfl, rfl, _, _, rfl, rfl, rfl⟩⟩
theorem zuj (s : ByteArray) (hlim : s.size ≤ 281474976710656) (h : Lib.atoiAll s.data.toList = Go.Lib.NumEnd.syntax) : Pure (ITP Tryz.prog) Tryz.prog 55 [.raw (.string s)] (.tup [.raw (.int .i64 0), .top]) :=
 zd3 [.string s] ent55 (fun X us h => z1e h) fun X hI => by
  obtain ⟨ev, h1, h2⟩ := zyz hI 1 (.inl rfl)
  exact (Tryz.strconv_Atoi_syntax s hlim h ev X.w h1 h2).mono fun e w' ⟨N, k1, _, _, k2⟩ => ⟨_, k1, k2, fun Y => ⟨_, rfl, _, _, rfl, rfl, _, _, rfl, trivial, rfl⟩⟩
theorem zu9 (s : ByteArray) (hlim : s.size ≤ 281474976710656) (h : Lib.atoiAll s.data.toList = .range) : Pure (ITP Tryz.prog) Tryz.prog 55 [.raw (.string s)] (.tup [.raw (.int .i64 (Lib.atoiSat s.data.toList)), .top]) :=
 zd3 [.string s] ent55 (fun X us h => z1e h) fun X hI => by
  obtain ⟨ev, h1, h2⟩ := zyz hI 2 (.inr rfl)
  exact (Tryz.strconv_Atoi_range s hlim h ev X.w h1 h2).mono fun e w' ⟨N, k1, _, _, k2⟩ => ⟨_, k1, k2, fun Y => ⟨_, rfl, _, _, rfl, rfl, _, _, rfl, trivial, rfl⟩⟩
end Go.Ab
set_option linter.unusedSimpArgs false
set_option linter.unusedVariables false
namespace Go.Ab
open Go Go.RowKit Go.Fwd Go.Proofs
theorem z09 {IT : IterP} (hIT : ITMono IT) {σ : St} {X : Cx} (hI : Inv IT σ X) {s : Nat} {r : Row} {L : Nat} {cur : Array Value} {fz fz' : Nat × Nat} {W : World} (hs : X.β[s]? = some r) (hL : X.lens[s]? = some L)
 (hcur : X.w.heap[r.block]? = some (.cells cur r.elem fz)) (hle : fz'.2 ≤ L) (h1 : W.os = X.w.os) (h2 : W.tape = X.w.tape) (h3 : W.output = X.w.output) (h4 : W.heap.size = X.w.heap.size)
 (h5 : ∀ b, b ≠ r.block → W.heap[b]? = X.w.heap[b]?) (h6 : W.heap[r.block]? = some (.cells cur r.elem fz')) : Ext X { X with w := W } ∧ Inv IT σ { X with w := W } := by
 have hrm := List.mem_of_getElem? hs
 have hcell : ∀ b o, W.cell? ⟨b, o, none⟩ = X.w.cell? ⟨b, o, none⟩ := fun b o => by
  by_cases e : b = r.block
  ·subst e; simp [World.cell?, h6, hcur]
  ·simp [World.cell?, h5 b e]
 have hE : Ext X { X with w := W } := {
  os := h1, tape := h2, output := h3, size := by show _ ≤ W.heap.size; omega
  drawn := Nat.le_refl _
  F := fun _ _ h => h
  cell := fun b i _ => hcell b i
  κ := fun _ _ h => h
  lens := fun s L h => ⟨L, h, Nat.le_refl _, fun _ => rfl⟩
  blk := fun s' b hs' cu t f h => ⟨cu, (h5 b (fun e => hI.βκ r hrm (e ▸ List.mem_of_getElem? hs'))).trans h, rfl⟩
  szs := Szs.one r.block (fun k _ e => h5 k e) fun cs t f h => by rw [hcur] at h; cases h; exact ⟨_, _, _, h6, rfl⟩
  frame := fun b _ _ hβ => h5 b fun e => hβ r hrm e.symm
  κnew := fun _ h => .inl h
  βnew := fun q h => .inl ⟨q, h, rfl⟩
  O := rfl
  C := rfl
  Fnew := fun b i h => .inl h }
 have hother : ∀ (s' : Nat) (q : Row), X.β[s']? = some q → s' ≠ s → q.block ≠ r.block := fun s' q hq hne e => hne (by
  have h1 := (List.getElem?_eq_some_iff.1 hq).1
  have h2 := (List.getElem?_eq_some_iff.1 hs).1
  have e1 : (X.β.map (·.block))[s']'(by simpa using h1) = q.block := by simp [(List.getElem?_eq_some_iff.1 hq).2]
  have e2 : (X.β.map (·.block))[s]'(by simpa using h2) = r.block := by simp [(List.getElem?_eq_some_iff.1 hs).2]
  exact (List.getElem_inj hI.βnd).1 (e1.trans (e.trans e2.symm)))
 refine ⟨hE, { lens := hI.lens, elems := hI.elems, κlen := hI.κlen, κnd := hI.κnd, box := ?_, κF := hI.κF, βlen := hI.βlen, βnd := hI.βnd, βκ := hI.βκ, row := ?_, Ok := ?_, Fcell := fun b o hf => ?_, gv := zva hIT hE hI.gv }⟩
 ·intro s' b t' c hs' hb
  obtain ⟨ws, zs', u1, u2, u3⟩ := hI.box s' b t' c hs' hb
  have hne : b ≠ r.block := fun e => hI.βκ r hrm (e ▸ List.mem_of_getElem? hs')
  exact ⟨ws, zs', (h5 b hne).trans u1, zav hIT hE _ _ u2, u3⟩
 ·intro s' q L' hq hL'
  by_cases e : s' = s
  ·subst e
   have hq' : q = r := by have := hq; rw [hs] at this; exact (Option.some.inj this).symm
   have hLL : L' = L := by have := hL'; rw [hL] at this; exact (Option.some.inj this).symm
   subst hq'; subst hLL
   obtain ⟨cu, fz0, d1, d2, d3, d4, d5, d6, d7⟩ := hI.row s' q L' hs hL
   have hcc : cu = cur := by rw [hcur] at d1; cases d1; rfl
   subst hcc
   exact ⟨cu, fz', h6, d2, d3, d4, d5, d6, hle⟩
  ·obtain ⟨cu, fz0, d1, d2, d3, d4, d5, d6, d7⟩ := hI.row s' q L' hq hL'
   exact ⟨cu, fz0, (h5 _ (hother s' q hq e)).trans d1, d2, d3, d4, d5, d6, d7⟩
 ·intro b ho
  obtain ⟨⟨cs0, t0, f0, h0⟩, k2, k3, k4⟩ := hI.Ok b ho
  exact ⟨⟨cs0, t0, f0, (h5 b (Ne.symm (k3 r hrm))).trans h0⟩, k2, k3, k4⟩
 ·obtain ⟨v, hv⟩ := hI.Fcell b o hf
  exact ⟨v, (hcell b o).trans hv⟩
def zet : List AV → Option (List UInt8)
 | [] => some []
 | .raw (.int .u8 i) :: l => if 0 ≤ i ∧ i < 256 then (zet l).map (UInt8.ofNat i.toNat :: ·) else none
 | _ => none
theorem zn5 {IT : IterP} {X : Cx} : ∀ {cs : List AV} {l : List UInt8} {b o : Nat}, zet cs = some l → At IT X cs b o → cs.length = l.length ∧ ∀ j x, l[j]? = some x → X.w.cell? ⟨b, o + j, none⟩ = some (.int .u8 (x.toNat : Int))
 | [], l, b, o, h, _ => by simp only [zet, Option.some.injEq] at h; subst h; exact ⟨rfl, fun j x h => by simp at h⟩
 | .raw (.int .u8 i) :: cs, l, b, o, h, ha => by
  rw [zet] at h
  split at h
  ·rename_i hi
   obtain ⟨m, hm, rfl⟩ := Option.map_eq_some_iff.1 h
   rw [At] at ha
   obtain ⟨⟨_, v, hv, _, hr⟩, ht⟩ := ha
   obtain ⟨h1, h2⟩ := zn5 hm ht
   have hvi : v = .int .u8 i := hr
   subst hvi
   refine ⟨by simp [h1], fun j x hx => ?_⟩
   cases j with
   | zero =>
    simp only [List.getElem?_cons_zero, Option.some.injEq] at hx
    subst hx
    rw [Nat.add_zero, hv]
    have : ((UInt8.ofNat i.toNat).toNat : Int) = i := by
     rw [UInt8.toNat_ofNat']
     have : i.toNat % 2 ^ 8 = i.toNat := Nat.mod_eq_of_lt (by omega)
     rw [this]; omega
    rw [this]
   | succ j =>
    simp only [List.getElem?_cons_succ] at hx
    rw [show o + (j + 1) = o + 1 + j from by omega]
    exact h2 j x hx
  ·cases h
theorem zn6 (w : World) (g n : Nat) (cur : Array Value) (t : TypeId) (fz : Nat × Nat) (hg : w.heap[g]? = some (.cells cur t fz)) (hfz : fz.2 ≤ n) : ∃ fz' : Nat × Nat, fz'.2 ≤ n ∧ (w.freeze ⟨g, 0, none⟩ n).heap[g]? = some (.cells cur t fz') ∧
 (∀ b, b ≠ g → (w.freeze ⟨g, 0, none⟩ n).heap[b]? = w.heap[b]?) ∧ (w.freeze ⟨g, 0, none⟩ n).os = w.os ∧ (w.freeze ⟨g, 0, none⟩ n).tape = w.tape ∧ (w.freeze ⟨g, 0, none⟩ n).output = w.output ∧ (w.freeze ⟨g, 0, none⟩ n).heap.size = w.heap.size := by
 unfold World.freeze
 by_cases h : n = 0
 ·rw [if_pos h]; exact ⟨fz, hfz, hg, fun _ _ => rfl, rfl, rfl, rfl, rfl⟩
 ·rw [if_neg h]
  obtain ⟨lo, hi⟩ := fz
  refine ⟨if lo == hi then (0, 0 + n) else (min lo 0, max hi (0 + n)), ?_, ?_, fun b hb => ?_, rfl, rfl, rfl, by simp⟩
  ·split
   ·simp
   ·simp at hfz ⊢; omega
  ·simp [Array.getElem?_modify, hg]
  ·simp [Array.getElem?_modify, Ne.symm hb]
theorem zt2 (w : World) (b : Nat) (cs : Array Value) (t : TypeId) (f : Nat × Nat) (v : Value) (h : w.heap[b]? = some (.cells cs t f)) : w.setCell ⟨b, 0, none⟩ v = w.setRow b (cs.setIfInBounds 0 v) := by
 unfold World.setCell World.setRow
 congr 1
 apply Array.ext_getElem?
 intro i
 rw [Array.getElem?_modify, Array.getElem?_modify]
 by_cases e : b = i
 ·subst e; rw [if_pos rfl, if_pos rfl, h]; rfl
 ·rw [if_neg e, if_neg e]
def bldS : CallS := fun f args σ =>
 match args with
 | [.ptr s 0] => match σ.boxes[s]? with
  | some (87, [c, x]) =>
   if f = 67 then (match c with
    | .raw (.pointer none) => some (.tup [], { σ with boxes := σ.boxes.set s (87, [.ptr s 0, x]) })
    | .ptr s' 0 => if s' = s then some (.tup [], σ) else none
    | _ => none)
   else if f = 49 then (match x with
    | .list n cs (.own k) => (match zet cs with
     | some l => if σ.lens[k]? = some n ∧ cs.length = n ∧ 0 < n ∧ σ.elems[k]? = some 5 then some (.raw (.string ⟨l.toArray⟩), σ) else none
     | none => none)
    | _ => none)
   else none
  | _ => none
 | _ => none
theorem ent67 : Ent Tryz.prog 67 := enters_of Tryz.func67 (by kernel_rfl) rfl
theorem ent49 : Ent Tryz.prog 49 := enters_of Tryz.func49 (by kernel_rfl) rfl
theorem zw2 {s : Nat} {x : AV} {σ : St} (hb : σ.boxes[s]? = some (87, [.raw (.pointer none), x])) : Snd (ITP Tryz.prog) Tryz.prog 67 [.ptr s 0] σ (.tup []) { σ with boxes := σ.boxes.set s (87, [.ptr s 0, x]) } := by
 refine ⟨ent67, fun X us hI hr => ?_⟩
 obtain ⟨a, l, rfl, ⟨b, hκ, rfl⟩, hl⟩ := hr
 have hl : l = [] := hl
 subst hl
 obtain ⟨vs, zs, u1, u2, u3⟩ := hI.box s b 87 _ hκ hb
 obtain ⟨a0, r0, rfl, h0, a1, r1, rfl, h1, h2⟩ := u2
 have h0 : a0 = .pointer none := h0
 have h2 : r1 = [] := h2
 subst h0; subst h2
 have hc := z1p b zs.length X.w (by simp [World.cell?, u1]) (by simp [World.shape?, u1]) (by simp [World.frozen?, u1])
 refine hc.mono ?_
 rintro e w' ⟨rfl, rfl⟩
 obtain ⟨e1, e2⟩ := zq1 (za5 _) hI (vs' := [.pointer (some ⟨b, 0, none⟩), a1]) (cs' := [.ptr s 0, x]) (zs := zs) hκ hb (by simp) (fun cur t f hc => by rw [u1] at hc; cases hc; simp) ⟨_, _, rfl, ⟨b, hκ, rfl⟩, _, _, rfl, h1, rfl⟩
  (fun v hv => by
   rcases List.mem_cons.1 hv with rfl | hv
   ·rfl
   ·exact u3 v (List.mem_cons_of_mem _ hv))
 have hw := zt2 X.w b _ _ _ (.pointer (some ⟨b, 0, none⟩)) u1
 refine ⟨_, _, rfl, ?_, e1, e2, ⟨[], rfl, rfl⟩⟩
 rw [hw]
 congr 1
theorem zy7 {s : Nat} {x : AV} {σ : St} (hb : σ.boxes[s]? = some (87, [.ptr s 0, x])) : Snd (ITP Tryz.prog) Tryz.prog 67 [.ptr s 0] σ (.tup []) σ := by
 refine ⟨ent67, fun X us hI hr => ?_⟩
 obtain ⟨a, l, rfl, ⟨b, hκ, rfl⟩, hl⟩ := hr
 have hl : l = [] := hl
 subst hl
 obtain ⟨vs, zs, u1, u2, u3⟩ := hI.box s b 87 _ hκ hb
 obtain ⟨a0, r0, rfl, ⟨b', hκ', rfl⟩, h2⟩ := u2
 have hbb : b' = b := by rw [hκ] at hκ'; exact (Option.some.inj hκ').symm
 subst hbb
 refine (cc_used b' X.w (by simp [World.cell?, u1])).mono ?_
 rintro e w' ⟨rfl, rfl⟩
 exact ⟨_, X, rfl, rfl, Ext.refl X, hI, ⟨[], rfl, rfl⟩⟩
theorem zy3 {s n k : Nat} {c : AV} {cs : List AV} {l : List UInt8} {σ : St} (hb : σ.boxes[s]? = some (87, [c, .list n cs (.own k)])) (hl : zet cs = some l) (h1 : σ.lens[k]? = some n) (h2 : cs.length = n) (h3 : 0 < n) (h4 : σ.elems[k]? = some 5) :
 Snd (ITP Tryz.prog) Tryz.prog 49 [.ptr s 0] σ (.raw (.string ⟨l.toArray⟩)) σ := by
 refine ⟨ent49, fun X us hI hr => ?_⟩
 obtain ⟨a, l', rfl, ⟨b, hκ, rfl⟩, hl'⟩ := hr
 have hl' : l' = [] := hl'
 subst hl'
 obtain ⟨vs, zs, u1, u2, u3⟩ := hI.box s b 87 _ hκ hb
 obtain ⟨a0, r0, rfl, h0, a1, r1, rfl, hx, h5⟩ := u2
 have h5 : r1 = [] := h5
 subst h5
 rw [Rep] at hx
 obtain ⟨ad, cap, rfl, ⟨hcap, _⟩, hc, L, hL, hle, hrow⟩ := hx
 have hLn : L = n := by have := hI.lens ▸ hL; rw [h1] at this; exact (Option.some.inj this).symm
 subst hLn
 obtain ⟨r, hr, had, hcr, hsz⟩ := hrow h2
 subst had
 obtain ⟨cur, fz, c1, c2, c3, c4, c5, c6, c7⟩ := hI.row k r L hr hL
 have hel : r.elem = 5 := by
  have : (X.β.map (·.elem))[k]? = some 5 := by rw [hI.elems]; exact h4
  rw [List.getElem?_map, hr] at this
  exact Option.some.inj this
 have hat : At (ITP Tryz.prog) X cs r.block 0 := by
  rcases hc with rfl | ⟨b', o', e, h⟩
  ·simp at h2; omega
  ·cases e; exact h
 obtain ⟨q1, q2⟩ := zn5 hl hat
 have hlL : l.length = L := by omega
 have hsize : cur.size ≤ maxLen := by
  have : r.size = 1 := by
   rw [h2] at hsz
   have : L * 1 = L * r.size := by omega
   exact (Nat.eq_of_mul_eq_mul_left h3 this).symm
  rw [c2, this]; omega
 have hst := z01 b r.block cap cur fz l X.w (by simp [World.cell?, u1, hlL]) (by intro e; subst e; simp at hlL; omega) (by rw [c1, hel]) (by omega) hsize (by omega) (fun j x hx => by have := q2 j x hx; simpa using this)
 refine hst.mono ?_
 rintro e w' ⟨rfl, rfl⟩
 obtain ⟨d1, d2⟩ := zjv (za5 _) hI
 obtain ⟨fz', f1, f2, f3, f4, f5, f6, f7⟩ := zn6 X.w.drew r.block l.length cur r.elem fz c1 (by omega)
 obtain ⟨g1, g2⟩ := z09 (za5 _) d2 (s := k) (r := r) (L := L) (W := X.w.drew.freeze ⟨r.block, 0, none⟩ l.length) hr hL c1 (by omega) f4 f5 f6 f7 f3 f2
 exact ⟨_, _, rfl, rfl, d1.trans g1, g2, rfl⟩
theorem zy9 : CsOk Tryz.prog bldS := by
 intro f args σ r σ' h
 unfold bldS at h
 split at h <;> try cases h
 rename_i s
 split at h <;> try cases h
 rename_i c x hb
 split at h
 ·rename_i hf; subst hf
  split at h
  ·cases h; exact zw2 hb
  ·split at h
   ·rename_i e; cases h; subst e; exact zy7 hb
   ·cases h
  ·cases h
 ·split at h
  ·rename_i hf; subst hf
   split at h
   ·rename_i n cs k
    split at h
    ·rename_i l hl
     split at h
     ·rename_i hc; cases h; exact zy3 hb hl hc.1 hc.2.1 hc.2.2.1 hc.2.2.2
     ·cases h
    ·cases h
   ·cases h
  ·cases h
def libP : CallP := fun f args =>
 match args with
 | [.raw (.string s), .raw (.int .u8 c)] => if f = 83 ∨ f = 94 then some (.raw (.int .i64 (Lib.indexByte s.data.toList c.toNat.toUInt8))) else none
 | [.raw (.string s)] => if f = 55 ∧ s.size ≤ 281474976710656 then (match Lib.atoiAll s.data.toList with
  | .ok v => some (.tup [.raw (.int .i64 v), .raw .nilIface])
  | Go.Lib.NumEnd.syntax => some (.tup [.raw (.int .i64 0), .top])
  | .range => some (.tup [.raw (.int .i64 (Lib.atoiSat s.data.toList)), .top])) else none
 | _ => none
theorem zyw : z0e Tryz.prog libP := by
 intro f args r h
 unfold libP at h
 split at h
 ·rename_i s c
  split at h
  ·rename_i hf
   cases h
   rcases hf with rfl | rfl
   ·exact ixb69 s c
   ·exact ixb79 s c
  ·cases h
 ·rename_i s
  split at h
  ·rename_i hf
   obtain ⟨rfl, hs⟩ := hf
   split at h <;> cases h
   ·rename_i v hv; exact zy4 s v (by omega) hv
   ·rename_i hv; exact zuj s hs hv
   ·rename_i hv; exact zu9 s hs hv
  ·cases h
 ·cases h
theorem zef : Good Tryz.prog libP bldS := ⟨mix, ents, zyw, zy9⟩
end Go.Ab
