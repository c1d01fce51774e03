/-
  The law TraceSums of the given program returns true, whatever came in, and what came in reads as it did; what the row lists is tied to the program's text. No condition.
-/
import Derived.Test.YtcdmdnadilafhaaDoorZtFt
import Derived.Test.YtcdmdnadilafhaaDoorZtPq
import Derived.Stop.LaidErr
import Derived.Deep.DeepHandedRow
import Derived.Deep.DeepWitnessRowRef
import Derived.ProofKit
import Derived.SizedLaws
import Derived.ChangeMaps
import Derived.Test.YtcdmdnadilafhaaDoorZtPt
import Derived.Test.YtcdmdnadilafhaaDoorCards
import Derived.Test.YtcdmdnadilafhaaDoorTie
import Derived.SevenTiedAt
set_option linter.unusedSimpArgs false
set_option linter.unusedVariables false
set_option linter.constructorNameAsVariable false
set_option maxRecDepth 100000
namespace Go.Ab
open Go Go.RowKit Go.Fwd Go.Proofs Go.ChangeShapes Go.WideShapes Go.Deep
section
variable {H : Type} {enc : TypeId × Value → H} {P : Program} {α : Type} [Enc α]
theorem open_genP (p : α → Prop) {W : World} {t e : TypeId} (hu : P.underlying t = some (.slice e)) (ce : P.cellsOf e = Enc.sz α)
    (el : ∀ (n : Nat) (cs : List Value) (x : DataW H × List MemPlace), DataW.trod enc P W 0 (fun _ => true) true n e cs = some x → cs.length = Enc.sz α → ∃ s : α, p s ∧ RepL (ITP P) (topX W) (Enc.cells s) cs ∧ ∀ u ∈ cs, u.oneCell' = true)
    {fuel : Nat} {v : Value} {x : DataW H × List MemPlace} (h : DataW.trod enc P W 0 (fun _ => true) true fuel t [v] = some x) : ∃ l : List α, l.length < 2 ^ 63 ∧ (∀ x ∈ l, p x) ∧ Rep (ITP P) (topX W) (.list l.length (Enc.cellsL l) .none) v := by
  rcases open_slice hu h with ⟨h0, _⟩ | ⟨a, len, cap, m, n, D, Pl, hcs, hb, hl, hm, hmm, hx, hi⟩
  · simp at h0
    subst h0
    refine ⟨[], by simp, by simp, ?_⟩
    rw [Rep]
    exact ⟨none, 0, rfl, ⟨Nat.le_refl _, fun _ => rfl⟩, .inl (by rw [Enc.nil]), trivial⟩
  · simp at hcs
    subst hcs
    rw [ce] at hi
    have hm' : m = cap := by simpa using hmm
    by_cases hz : len = 0
    · subst hz
      refine ⟨[], by simp, by simp, ?_⟩
      rw [Rep]
      exact ⟨some a, cap, rfl, ⟨hl, fun h => by cases h⟩, .inl (by rw [Enc.nil]), trivial⟩
    · have hcell : ∀ i, i < m → ∃ s : α, ∃ cs : List Value, p s ∧ RepL (ITP P) (topX W) (Enc.cells s) cs ∧ (∀ u ∈ cs, u.oneCell' = true) ∧ cs.length = Enc.sz α ∧ ∀ j c, cs[j]? = some c → W.cell? (a.add (i * Enc.sz α + j)) = some c := fun i him => by
        obtain ⟨cs', hc, ht⟩ := hi i him
        obtain ⟨_, hcl, hat⟩ := World.cells?_some hc
        obtain ⟨s, k0, k1, k2⟩ := el n cs' _ ht hcl
        refine ⟨s, cs', k0, k1, k2, hcl, fun j c hj => ?_⟩
        have hjl : j < Enc.sz α := by have := (List.getElem?_eq_some_iff.1 hj).1; omega
        have := hat j hjl
        rw [Go.Deep.add_add] at this
        rw [this]
        simpa using hj
      have hspot : a = ⟨a.block, a.off, none⟩ := by
        obtain ⟨s, cs, _, _, _, k3, k4⟩ := hcell 0 (by omega)
        obtain ⟨c, hc⟩ : ∃ c, cs[0]? = some c := ⟨_, List.getElem?_eq_getElem (by rw [k3]; exact Enc.pos)⟩
        have c0 := k4 0 c hc
        cases a with
        | mk b o sp =>
          cases sp with
          | none => rfl
          | some k =>
            exfalso
            simp [Addr.add, World.cell?] at c0
            split at c0 <;> simp at c0
      have hadd : ∀ j, a.add j = ⟨a.block, a.off + j, none⟩ := fun j => by
        by_cases hj : j = 0
        · subst hj; simp [Addr.add]; exact hspot
        · simp [Addr.add, hj]
      let g : Nat → α := fun i => if h : i < m then Classical.choose (hcell i h) else Enc.inh
      have hg : ∀ i (him : i < m), ∃ cs : List Value, p (g i) ∧ RepL (ITP P) (topX W) (Enc.cells (g i)) cs ∧ (∀ u ∈ cs, u.oneCell' = true) ∧ cs.length = Enc.sz α ∧ ∀ j c, cs[j]? = some c → W.cell? (a.add (i * Enc.sz α + j)) = some c := fun i him => by
        have e : g i = Classical.choose (hcell i him) := dif_pos him
        rw [e]; exact Classical.choose_spec (hcell i him)
      have hml : maxLen < 2 ^ 63 := by decide
      refine ⟨(List.range len).map g, by simp; omega, fun x hx => ?_, ?_⟩
      · obtain ⟨i, hi, rfl⟩ := List.mem_map.1 hx
        obtain ⟨_, h, _⟩ := hg i (by have := List.mem_range.1 hi; omega)
        exact h
      rw [Rep]
      refine ⟨some a, cap, by simp, ⟨by simpa using hl, fun h => by cases h⟩, .inr ⟨a.block, a.off, by rw [← hspot], at_gen W a.block len a.off g fun i hi => ?_⟩, trivial⟩
      obtain ⟨cs, _, k1, k2, k3, k4⟩ := hg i (by omega)
      refine ⟨cs, k1, k2, fun j c hc => ?_⟩
      have := k4 j c hc
      rw [hadd] at this
      rw [Nat.add_assoc]; exact this
end
section
variable {H : Type} {enc : TypeId × Value → H}
theorem el_smeP {W : World} (n : Nat) (cs : List Value) (x : DataW H × List MemPlace) (h : DataW.trod enc Tryd.prog W 0 (fun _ => true) true n 68 cs = some x) (hl : cs.length = Enc.sz Sme) : ∃ s : Sme, (0 ≤ s.k ∧ s.k < 256 ∧ 0 ≤ s.far ∧ s.far < 256) ∧ RepL (ITP Tryd.prog) (topX W) (Enc.cells s) cs ∧ ∀ u ∈ cs, u.oneCell' = true := by
  obtain ⟨f0, f1, f2, hu, hone, t0, t1, t2⟩ := fields68
  obtain ⟨ys, m, _, _, _, hyl, hf⟩ := DataW.trod_struct hu h
  obtain ⟨o0, k0⟩ := hone_of hone 0 f0 rfl
  obtain ⟨o1, k1⟩ := hone_of hone 1 f1 rfl
  obtain ⟨o2, k2⟩ := hone_of hone 2 f2 rfl
  match cs, hl with
  | [c0, c1, c2], _ =>
    match ys, hyl with
    | [y0, y1, y2], _ =>
      have g0 : DataW.trod enc Tryd.prog W 0 (fun _ => true) true m f0.type [c0] = some y0 := by simpa [o0, k0] using hf 0 f0 rfl
      have g1 : DataW.trod enc Tryd.prog W 0 (fun _ => true) true m f1.type [c1] = some y1 := by simpa [o1, k1] using hf 1 f1 rfl
      have g2 : DataW.trod enc Tryd.prog W 0 (fun _ => true) true m f2.type [c2] = some y2 := by simpa [o2, k2] using hf 2 f2 rfl
      obtain ⟨n0, e0, _, w0⟩ := DataW.trod_int t0 g0
      obtain ⟨n1, e1, _, w1⟩ := DataW.trod_int t1 g1
      simp at e0 e1
      subst e0 e1
      obtain ⟨b, hb, hr⟩ := open_gen (α := UInt8) t2 cells5 (fun n cs x h hl => el_u8 n cs x h hl) g2
      have b0 := bnd_u8 w0
      have b1 := bnd_u8 w1
      refine ⟨⟨n0, n1, b⟩, ⟨by simp only; omega, by simp only; omega, by simp only; omega, by simp only; omega⟩, ⟨_, _, rfl, rfl, _, _, rfl, rfl, _, _, rfl, hr, rfl⟩, fun u hu => ?_⟩
      rw [Rep] at hr
      obtain ⟨a, cap, rfl, _⟩ := hr
      simp at hu
      rcases hu with rfl | rfl | rfl <;> rfl
theorem open_smallsB {W : World} {base : Nat} {v : Value} {d : DataW H} {p : List MemPlace} (hv : Value.okWide Tryd.prog W .any base 32 v) (h : DataW.Trod enc Tryd.prog W 0 (fun _ => true) true 32 v d p) :
    ∃ l : List Sme, SmB l ∧ Rep (ITP Tryd.prog) (topX W) (.list l.length (Enc.cellsL l) .none) v := by
  obtain ⟨fuel, hf⟩ := h
  obtain ⟨a0, len, cap, rfl⟩ := okWide_slice und32 hv
  obtain ⟨l, h1, h2, h3⟩ := open_genP (α := Sme) (fun s => 0 ≤ s.k ∧ s.k < 256 ∧ 0 ≤ s.far ∧ s.far < 256) und32 cells68 (fun n cs x h hl => el_smeP n cs x h hl) hf
  exact ⟨l, ⟨h1, fun x hx => (h2 x hx).2.2.1⟩, h3⟩
end
end Go.Ab
set_option linter.unusedSimpArgs false
set_option linter.unusedVariables false
set_option maxRecDepth 100000
namespace Go.Ab
open Go Go.RowKit Go.Fwd Go.Proofs Go.Proofs.YtcdmdnadilafhaaDoor

theorem star_err : "*" ++ "errors.errorString" = "*errors.errorString" := by decide
theorem row147 (u : TypeId) (h : Tryd.prog.typeName? 3 u = some "*errors.errorString") : u = 147 :=
  typeName_ptr_named (nm := "errors.errorString") (by rw [star_err]; kernel_rfl) (by kernel_rfl) (by decide) u (by rw [star_err]; exact h)
theorem und73 : ∃ ms, Tryd.prog.underlying 73 = some (.interface ms) := ⟨_, rfl⟩
theorem und149 : ∃ f : Field, Tryd.prog.underlying 149 = some (.struct #[f]) ∧ f.type = 9 ∧ f.offset = 0 := ⟨_, rfl, rfl, rfl⟩
theorem gv_of {W : World} (hL : laidMet Tryd.prog Rows.traceGoesRow.laid W) : gvBase Tryd.prog W := by
  have h3 := laidMet.tail (laidMet.tail (laidMet.tail hL))
  obtain ⟨ms, hms⟩ := und73
  obtain ⟨f, hf, hft, hfo⟩ := und149
  intro n g hn hg
  rcases hn with rfl | rfl
  · obtain ⟨a, s, hv, _⟩ := laid_sentinel (laidMet.tail h3) (by kernel_rfl : Tryd.prog.globalNamed "strconv.ErrSyntax" = some 1) (by kernel_rfl : (Tryd.prog.globals[1]?).map (·.type) = some 73) hms row147 (by kernel_rfl : Tryd.prog.underlying 147 = some (.pointer 149)) hf hft hfo und9 (by kernel_rfl) (by kernel_rfl)
    exact ⟨_, _, hv⟩
  · obtain ⟨a, s, hv, _⟩ := laid_sentinel h3 (by kernel_rfl : Tryd.prog.globalNamed "strconv.ErrRange" = some 2) (by kernel_rfl : (Tryd.prog.globals[2]?).map (·.type) = some 73) hms row147 (by kernel_rfl : Tryd.prog.underlying 147 = some (.pointer 149)) hf hft hfo und9 (by kernel_rfl) (by kernel_rfl)
    exact ⟨_, _, hv⟩
end Go.Ab
set_option linter.unusedSimpArgs false
set_option linter.unusedVariables false
set_option maxRecDepth 100000
namespace Go.Ab
open Go Go.RowKit Go.Fwd Go.Proofs Go.Proofs.YtcdmdnadilafhaaDoor Go.ChangeShapes Go.WideShapes Go.ChangeAt

noncomputable def litsOf : DataW Unit → Array Value
  | .agg l => (l.map fun d => match d with | .lit (.int k n) => Value.int k n | _ => undef).toArray
  | _ => #[]
noncomputable def textOf : DataW Unit → ByteArray
  | .iface _ (.ptr (.agg [.lit (.string l)])) => ⟨l.toArray⟩
  | _ => ⟨#[]⟩
noncomputable def low : Nat := (World.holding Tryd.prog default ⟨#[], #[], []⟩).heap.size
noncomputable def gN (n : String) : Nat := (Tryd.prog.globalNamed n).getD 0
noncomputable def laidWorld (os : Os) : World :=
  let w0 := World.holding Tryd.prog os ⟨#[.cells #[.string (textOf Rows.laid_strconv_ErrRange)] 149, .cells #[.string (textOf Rows.laid_strconv_ErrSyntax)] 149], #[], []⟩
  let put (h : Array Obj) (g : Nat) (cs : Array Value) : Array Obj := h.modify g fun
    | .cells _ t frozen => .cells cs t frozen
    | o => o
  let h1 := put w0.heap (gN "math/bits.deBruijn32tab") (litsOf Rows.laid_math_bits_deBruijn32tab)
  let h2 := put h1 (gN "math/bits.deBruijn64tab") (litsOf Rows.laid_math_bits_deBruijn64tab)
  let h3 := put h2 (gN "internal/strconv.uint64pow10") (litsOf Rows.laid_internal_strconv_uint64pow10)
  let h4 := put h3 2 #[.iface 147 (.pointer (some ⟨low, 0, none⟩))]
  let h5 := put h4 1 #[.iface 147 (.pointer (some ⟨low + 1, 0, none⟩))]
  { w0 with heap := h5 }
theorem laid_met (os : Os) (args : Array Value) : laidMet Tryd.prog Rows.traceGoesRow.laid ((laidWorld os).forCall (fun _ _ => 0) ⟨#[], args, []⟩).memory :=
  laidMet_of_run (ps := MemPlace.row ⟨gN "math/bits.deBruijn32tab", 0, none⟩ 32 ++ MemPlace.row ⟨gN "math/bits.deBruijn64tab", 0, none⟩ 64 ++ MemPlace.row ⟨gN "internal/strconv.uint64pow10", 0, none⟩ 20 ++ [.cell 2 0, .cell low 0, .cell 1 0, .cell (low + 1) 0]) 8 (by kernel_rfl) (by kernel_rfl) (by kernel_rfl)
end Go.Ab
set_option linter.unusedSimpArgs false
set_option linter.unusedVariables false
set_option maxRecDepth 100000
namespace Go.Proofs.YtcdmdnadilafhaaDoor
open Go Go.Ab Go.ChangeShapes Go.WideShapes Go.ChangeAt Go.RowKit Go.Fwd
theorem trodAll_below {H : Type} {enc : TypeId × Value → H} {P : Program} (hl : laidOutB P = true) {W W' : World} (hb : Below W.heap.size W W') : ∀ {ts : List TypeId} {vs : List Value} {ds : List (DataW H)} {ps : List MemPlace},
    (ts.all fun t => P.readableRec t && decide (t < P.types.size)) = true → DataW.TrodAll enc P W 0 (fun _ => true) true ts vs ds ps → (∀ x ∈ ps, x.block < W.heap.size) → DataW.TrodAll enc P W' 0 (fun b => decide (b < W.heap.size)) true ts vs ds ps
  | [], vs, ds, ps, _, h, _ => by
    cases vs with
    | nil =>
      cases ds with
      | nil => exact h
      | cons => exact h.elim
    | cons => exact h.elim
  | t :: ts, vs, ds, ps, ht, h, hlt => by
    obtain ⟨v, vs', d, ds', p, q, rfl, rfl, rfl, hd, hr⟩ := trodAll_cons h
    simp only [List.all_cons, Bool.and_eq_true, decide_eq_true_eq] at ht
    exact ⟨p, q, Below.trod hl ht.1.1 ht.1.2 hd hb fun x hx => hlt x (by simp [hx]), trodAll_below hl hb ht.2 hr fun x hx => hlt x (by simp [hx]), rfl⟩
theorem own' : ownKnob Tryd.prog.godebug = none := by kernel_rfl
theorem laidOut' : laidOutB Tryd.prog = true := by kernel_rfl
theorem bnd_i64 {n : Int} (h : (Lit.int .i64 n).wf = true) : -9223372036854775808 ≤ n ∧ n < 9223372036854775808 := by
  have h1 : IntKind.i64.min = -9223372036854775808 := rfl
  have h2 : IntKind.i64.max = 9223372036854775807 := rfl
  simp only [Lit.wf, Bool.and_eq_true, decide_eq_true_eq] at h
  omega
theorem len_str {s : ByteArray} {l : List UInt8} (hx : l = s.data.toList) (h : s.size ≤ maxLen) : l.length < 2 ^ 63 := by
  have : l.length = s.size := by rw [hx]; rfl
  have h2 : maxLen < 2 ^ 63 := by decide
  omega
theorem rep_str {IT : IterP} {X : Cx} {s : ByteArray} {l : List UInt8} (hx : l = s.data.toList) : Rep IT X (.raw (.string (bs l))) (.string s) := by
  subst hx; rfl
end Go.Proofs.YtcdmdnadilafhaaDoor
set_option linter.unusedSimpArgs false
set_option linter.unusedVariables false
set_option maxRecDepth 100000
namespace Go.Proofs.YtcdmdnadilafhaaDoor
open Go Go.Ab Go.ChangeShapes Go.WideShapes Go.ChangeAt Go.RowKit Go.Fwd

theorem trods_traceSums {H : Type} {enc : TypeId × Value → H} {P : Program} {w : World} {base : Nat} {spare : Nat → Bool} {held : Bool} {t0 t1 t2 t3 : TypeId} {args : Array Value} {ds : List (DataW H)} {ps : List MemPlace} (h : DataW.TrodAll enc P w base spare held [t0, t1, t2, t3] args.toList ds ps) :
    ∃ v0 v1 v2 v3 d0 d1 d2 d3 p0 p1 p2 p3, args = #[v0, v1, v2, v3] ∧ ds = [d0, d1, d2, d3] ∧ ps = p0 ++ p1 ++ p2 ++ p3 ∧ DataW.Trod enc P w base spare held t0 v0 d0 p0 ∧ DataW.Trod enc P w base spare held t1 v1 d1 p1 ∧ DataW.Trod enc P w base spare held t2 v2 d2 p2 ∧ DataW.Trod enc P w base spare held t3 v3 d3 p3 := by
  obtain ⟨v0, a0, d0, s0, p0, q0, hargs, rfl, rfl, g0, h⟩ := trodAll_cons h
  obtain ⟨v1, a1, d1, s1, p1, q1, rfl, rfl, rfl, g1, h⟩ := trodAll_cons h
  obtain ⟨v2, a2, d2, s2, p2, q2, rfl, rfl, rfl, g2, h⟩ := trodAll_cons h
  obtain ⟨v3, a3, d3, s3, p3, q3, rfl, rfl, rfl, g3, h⟩ := trodAll_cons h
  obtain ⟨rfl, rfl, rfl⟩ := trodAll_nil h
  exact ⟨v0, v1, v2, v3, d0, d1, d2, d3, p0, p1, p2, p3, by cases args; simp_all, rfl, by simp, g0, g1, g2, g3⟩
theorem witness_traceSums (os : Os) {H : Type} (enc : TypeId × Value → H) :
    (OpenSpec.ofChange Rows.traceSumsSpec).preRow enc Tryd.prog Tryd.f6 Rows.traceSumsRow.domain false Rows.traceSumsRow.laid ((laidWorld os).forCall (fun _ _ => 0) ⟨#[], #[.slice none 0 0, .int .u8 0, .int .u8 0, .int .u8 0], []⟩).memory #[.slice none 0 0, .int .u8 0, .int .u8 0, .int .u8 0] :=
  OpenSpec.preRow_of_B rfl 8 (by kernel_rfl) (by kernel_rfl) (laid_met os _)
theorem traceSums_lifted (os : Os) (started : os.Started) (H : Type) (enc : TypeId × Value → H) (F : Stop.Interp) :
    ReturnsInHanded {} Tryd.checked os 6 .any ((OpenSpec.ofChange Rows.traceSumsSpec).preRow enc Tryd.prog Tryd.f6 Rows.traceSumsRow.domain false Rows.traceSumsRow.laid) (((OpenSpec.ofChange Rows.traceSumsSpec).at F).post enc Tryd.prog Tryd.f6 false true false false) := by
  refine returnsInHanded_of_row (C := Tryd.checked) (s := OpenSpec.ofChange Rows.traceSumsSpec) own' started (by kernel_rfl) Tryd.func6
    (witness_row_atRef (enc := enc) (C := Tryd.checked) false (laidWorld os) #[.slice none 0 0, .int .u8 0, .int .u8 0, .int .u8 0] rfl (by kernel_rfl) (by kernel_rfl) (by kernel_rfl) (witness_traceSums os enc)) ?_
  intro W base args ds gs before hval0 hW hcnd0 _ _ hL _ _
  have hval : ∀ (j : Nat) t v, Tryd.f6.params[j]? = some t → args[j]? = some v → Value.okWide Tryd.prog W .any base t v := hval0
  have hW' := hW
  obtain ⟨p, q, hA0, hV, rfl, _, _⟩ := hW
  have hA : DataW.TrodAll enc Tryd.prog W 0 (fun _ => true) true Tryd.f6.params.toList args.toList ds p := hA0
  rw [show Tryd.f6.params.toList = [32, 5, 5, 5] from by kernel_rfl] at hA
  have hA1 := hA
  obtain ⟨v0, v1, v2, v3, d0, d1, d2, d3, p0, p1, p2, p3, rfl, rfl, rfl, h0, h1, h2, h3⟩ := trods_traceSums hA
  obtain ⟨rfl, rfl⟩ := trodVars_none hV
  obtain ⟨x0, r0, hr0⟩ := open_smallsB (hval 0 32 v0 (by kernel_rfl) rfl) h0
  obtain ⟨x1, rfl, rfl, rfl, w1⟩ := open_int und5 (hval 1 5 v1 (by kernel_rfl) rfl) h1
  have r1 : 0 ≤ x1 ∧ x1 < 256 := by have := bnd_u8 w1; omega
  obtain ⟨x2, rfl, rfl, rfl, w2⟩ := open_int und5 (hval 2 5 v2 (by kernel_rfl) rfl) h2
  have r2 : 0 ≤ x2 ∧ x2 < 256 := by have := bnd_u8 w2; omega
  obtain ⟨x3, rfl, rfl, rfl, w3⟩ := open_int und5 (hval 3 5 v3 (by kernel_rfl) rfl) h3
  have r3 : 0 ≤ x3 ∧ x3 < 256 := by have := bnd_u8 w3; omega
  clear hA0 hval0
  simp only [List.append_nil, List.nil_append] at hW' hA1
  have hlt := hW'.lt
  refine (frame_of (tracesums_sh 100 x0 x1 x2 x3 true (tracesums_eq x0 r0 x1 x2 x3 r1 r2 r3)) W (gv_of hL) (vs := [v0, .int .u8 x1, .int .u8 x2, .int .u8 x3]) ⟨_, _, rfl, hr0, _, _, rfl, rfl, _, _, rfl, rfl, _, _, rfl, rfl, rfl⟩).mono fun e W' ⟨he, hw⟩ => ?_
  subst he
  refine ⟨_, rfl, ?_⟩
  refine ⟨_, _, _, [] ++ [], p0, [], hW', ?_, ?_, rfl, hw.frame _, fun h => by cases h⟩
  · exact trodAll_mk1 (shut_bool (show Tryd.prog.underlying 4 = some .bool from by kernel_rfl) true)
  · exact trodAll_below laidOut' hw (by kernel_rfl) hA1 hlt
theorem traceSums_holds : Rows.TraceSumsSaid :=
  OpenClaim.holds_of_cond 6 Tryd.f6 rfl rfl rfl rfl rfl rfl rfl ⟨rfl, rfl, rfl, rfl, rfl⟩ rfl rfl rfl rfl rfl (by kernel_rfl) Tryd.func6 (by kernel_rfl)
    (of_decide_eq_true (by kernel_rfl)) (by unfold Func.isWrapper; rw [if_neg (of_decide_eq_false (by kernel_rfl))]; exact ⟨rfl, rfl⟩)
    (fun os started H enc _ F0 => by rw [OpenClaim.pre_eq_preRow]; exact traceSums_lifted os started H enc F0)
theorem traceSums_card : Rows.TraceSumsCardSaid :=
  Claim7.holds_tied_plain_at .later [] [.data, .data, .data, .sentinel, .sentinel] true (true, "6adc477c2da4368bf170d021dffc172f579d8c3b61be681be56638f3f14cc3cb") true
    traceSums_holds (fun _ h => by cases h) (by kernel_rfl) (fun _ h => by cases h) traceSums_row_tie rfl ⟨rfl, rfl⟩ (by kernel_rfl) rfl
    (fun f fn hf hfn => by
      obtain rfl : f = 6 := Option.some.inj ((show Tryd.prog.funcNamed "repartee/reparteelaw33.TraceSums" = some 6 by kernel_rfl).symm.trans hf) |>.symm
      obtain rfl : fn = Tryd.f6 := (Option.some.inj (Tryd.func6.symm.trans hfn)).symm
      exact ⟨by kernel_rfl, fun j t ht => by
        have hm : t ∈ [32, 5, 5, 5] := by
          have h := Array.mem_of_getElem? ht
          rw [← Array.mem_toList_iff, show Tryd.f6.params.toList = [32, 5, 5, 5] from by kernel_rfl] at h
          exact h
        have hall : ([32, 5, 5, 5].all fun u => !Tryd.prog.wantsStandIn u) = true := by kernel_rfl
        exact (show Tryd.prog.wantsStandIn t = false by simpa using List.all_eq_true.1 hall t hm)⟩)
    (by kernel_rfl)
#print axioms traceSums_card
end Go.Proofs.YtcdmdnadilafhaaDoor
