/-
  The law ScheduleWrong of the given program returns true, whatever came in, and what came in reads as it did; what the row lists is tied to the program's text. No condition.
-/
import Derived.Test.YtblibgbakbhlkaaGreatDoorZvCt1
import Derived.Deep.Slices
import Derived.Deep.Fields
import Derived.ChangeSame
import Derived.Stop.LaidErr
import Derived.Deep.DeepHandedRow
import Derived.Deep.DeepWitnessRowRef
import Derived.ProofKit
import Derived.SizedLaws
import Derived.ChangeMaps
import Derived.Test.YtblibgbakbhlkaaGreatDoorZvPv
import Derived.Test.YtblibgbakbhlkaaGreatDoorCards
import Derived.Test.YtblibgbakbhlkaaGreatDoorTie
import Derived.SevenTiedAt
set_option linter.unusedSimpArgs false
set_option linter.unusedVariables false
namespace Go.Ab
open Go Go.RowKit Go.Fwd Go.Proofs Go.ChangeShapes Go.WideShapes Go.Deep
def topX (W : World) : Cx := ⟨fun b o => ∃ v, W.cell? ⟨b, o, none⟩ = some v, [], [], [], W, fun _ => False, fun _ _ => False⟩
theorem inv_top (P : Program) (W : World) (hg : gvBase P W) : Inv (ITP P) St.empty (topX W) where
  lens := rfl
  elems := rfl
  κlen := rfl
  κnd := fun s s' b h => by simp [topX] at h
  box := fun s b t cs h => by simp [topX] at h
  κF := fun s b t cs h => by simp [topX] at h
  βlen := rfl
  βnd := by simp [topX]
  βκ := fun r h => by simp [topX] at h
  row := fun s r L h => by simp [topX] at h
  Ok := fun b h => h.elim
  Fcell := fun b o h => h
  gv := ⟨W, hg, Szs.refl _, fun b o v _ hv => ⟨⟨v, hv⟩, hv⟩⟩
theorem frame_of {P : Program} {f : FuncId} {args : List AV} {u : Value} (h : Pure (ITP P) P f args (.raw u)) (W : World) (hg : gvBase P W) {vs : List Value} (hr : RepL (ITP P) (topX W) args vs) :
    Calls P f vs.toArray W fun e W' => e = .returned u ∧ Below W.heap.size W W' := by
  refine (h.2 (topX W) vs (inv_top P W hg) hr).mono ?_
  rintro e w' ⟨v, Y, rfl, rfl, hE, hIY, hv⟩
  rw [Rep] at hv; subst hv
  exact ⟨rfl, hE.os, hE.tape, hE.output, hE.size, fun b hb => hE.frame b hb (by simp [topX]) (by simp [topX])⟩
section
variable {H : Type} {enc : TypeId × Value → H} {P : Program} {α : Type} [Enc α]
theorem at_gen (W : World) (b : Nat) : ∀ (len o : Nat) (g : Nat → α), (∀ i, i < len → ∃ cs : List Value, RepL (ITP P) (topX W) (Enc.cells (g i)) cs ∧ (∀ u ∈ cs, u.oneCell' = true) ∧ ∀ j c, cs[j]? = some c → W.cell? ⟨b, o + i * Enc.sz α + j, none⟩ = some c) →
    At (ITP P) (topX W) (Enc.cellsL ((List.range len).map g)) b o
  | 0, o, g, _ => by simp only [List.range_zero, List.map_nil]; rw [Enc.nil, At]; trivial
  | len + 1, o, g, h => by
    rw [List.range_succ_eq_map, List.map_cons, List.map_map, Enc.cons]
    obtain ⟨cs, h1, h2, h3⟩ := h 0 (by omega)
    simp only [Nat.zero_mul, Nat.add_zero] at h3
    have ih := at_gen W b len (o + Enc.sz α) (g ∘ Nat.succ) (fun i hi => by
      obtain ⟨cs, k1, k2, k3⟩ := h (i + 1) (by omega)
      refine ⟨cs, k1, k2, fun j c hc => ?_⟩
      have := k3 j c hc
      rw [show o + (i + 1) * Enc.sz α + j = o + Enc.sz α + i * Enc.sz α + j by rw [Nat.add_mul]; omega] at this
      exact this)
    refine at_append (at_mk (vs := cs) (fun j hj => ?_) h2 h1 (fun j u hu => h3 j u hu)) (by rw [Enc.len]; exact ih)
    obtain ⟨c, hc⟩ : ∃ c, cs[j]? = some c := ⟨_, List.getElem?_eq_getElem hj⟩
    exact ⟨c, h3 j c hc⟩
theorem open_gen {W : World} {t e : TypeId} (hu : P.underlying t = some (.slice e)) (ce : P.cellsOf e = Enc.sz α)
    (el : ∀ (n : Nat) (cs : List Value) (x : DataW H × List MemPlace), DataW.trod enc P W 0 (fun _ => true) true n e cs = some x → cs.length = Enc.sz α → ∃ s : α, RepL (ITP P) (topX W) (Enc.cells s) cs ∧ ∀ u ∈ cs, u.oneCell' = true)
    {fuel : Nat} {v : Value} {x : DataW H × List MemPlace} (h : DataW.trod enc P W 0 (fun _ => true) true fuel t [v] = some x) : ∃ l : List α, l.length < 2 ^ 63 ∧ Rep (ITP P) (topX W) (.list l.length (Enc.cellsL l) .none) v := by
  rcases open_slice hu h with ⟨h0, _⟩ | ⟨a, len, cap, m, n, D, Pl, hcs, hb, hl, hm, hmm, hx, hi⟩
  · simp at h0
    subst h0
    refine ⟨[], by simp, ?_⟩
    rw [Rep]
    exact ⟨none, 0, rfl, ⟨Nat.le_refl _, fun _ => rfl⟩, .inl (by rw [Enc.nil]), trivial⟩
  · simp at hcs
    subst hcs
    rw [ce] at hi
    have hm' : m = cap := by simpa using hmm
    by_cases hz : len = 0
    · subst hz
      refine ⟨[], by simp, ?_⟩
      rw [Rep]
      exact ⟨some a, cap, rfl, ⟨hl, fun h => by cases h⟩, .inl (by rw [Enc.nil]), trivial⟩
    · have hcell : ∀ i, i < m → ∃ s : α, ∃ cs : List Value, RepL (ITP P) (topX W) (Enc.cells s) cs ∧ (∀ u ∈ cs, u.oneCell' = true) ∧ cs.length = Enc.sz α ∧ ∀ j c, cs[j]? = some c → W.cell? (a.add (i * Enc.sz α + j)) = some c := fun i him => by
        obtain ⟨cs', hc, ht⟩ := hi i him
        obtain ⟨_, hcl, hat⟩ := World.cells?_some hc
        obtain ⟨s, k1, k2⟩ := el n cs' _ ht hcl
        refine ⟨s, cs', k1, k2, hcl, fun j c hj => ?_⟩
        have hjl : j < Enc.sz α := by have := (List.getElem?_eq_some_iff.1 hj).1; omega
        have := hat j hjl
        rw [Go.Deep.add_add] at this
        rw [this]
        simpa using hj
      have hspot : a = ⟨a.block, a.off, none⟩ := by
        obtain ⟨s, cs, _, _, k3, k4⟩ := hcell 0 (by omega)
        obtain ⟨c, hc⟩ : ∃ c, cs[0]? = some c := ⟨_, List.getElem?_eq_getElem (by rw [k3]; exact Enc.pos)⟩
        have c0 := k4 0 c hc
        cases a with
        | mk b o sp =>
          cases sp with
          | none => rfl
          | some k =>
            exfalso
            simp [Addr.add, World.cell?] at c0
            split at c0 <;> simp at c0
      have hadd : ∀ j, a.add j = ⟨a.block, a.off + j, none⟩ := fun j => by
        by_cases hj : j = 0
        · subst hj; simp [Addr.add]; exact hspot
        · simp [Addr.add, hj]
      let g : Nat → α := fun i => if h : i < m then Classical.choose (hcell i h) else Enc.inh
      have hg : ∀ i (him : i < m), ∃ cs : List Value, RepL (ITP P) (topX W) (Enc.cells (g i)) cs ∧ (∀ u ∈ cs, u.oneCell' = true) ∧ cs.length = Enc.sz α ∧ ∀ j c, cs[j]? = some c → W.cell? (a.add (i * Enc.sz α + j)) = some c := fun i him => by
        have e : g i = Classical.choose (hcell i him) := dif_pos him
        rw [e]; exact Classical.choose_spec (hcell i him)
      have hml : maxLen < 2 ^ 63 := by decide
      refine ⟨(List.range len).map g, by simp; omega, ?_⟩
      rw [Rep]
      refine ⟨some a, cap, by simp, ⟨by simpa using hl, fun h => by cases h⟩, .inr ⟨a.block, a.off, by rw [← hspot], at_gen W a.block len a.off g fun i hi => ?_⟩, trivial⟩
      obtain ⟨cs, k1, k2, k3, k4⟩ := hg i (by omega)
      refine ⟨cs, k1, k2, fun j c hc => ?_⟩
      have := k4 j c hc
      rw [hadd] at this
      rw [Nat.add_assoc]; exact this
end
end Go.Ab
set_option linter.unusedSimpArgs false
set_option linter.unusedVariables false
set_option linter.constructorNameAsVariable false
set_option maxRecDepth 100000
namespace Go.Ab
open Go Go.RowKit Go.Fwd Go.Proofs Go.ChangeShapes Go.WideShapes Go.Deep
theorem bnd_u8 {n : Int} (h : (Lit.int .u8 n).wf = true) : 0 ≤ n ∧ n ≤ 255 := by
  have h1 : IntKind.u8.min = 0 := rfl
  have h2 : IntKind.u8.max = 255 := rfl
  simp only [Lit.wf, Bool.and_eq_true, decide_eq_true_eq] at h
  omega
theorem cells5 : Tryz.prog.cellsOf 5 = Enc.sz UInt8 := by kernel_rfl
theorem undB : Tryz.prog.underlying 28 = some (.slice 5) := by kernel_rfl
section
variable {H : Type} {enc : TypeId × Value → H}
set_option maxRecDepth 100000 in
theorem el_u8 {W : World} (n : Nat) (cs : List Value) (x : DataW H × List MemPlace) (h : DataW.trod enc Tryz.prog W 0 (fun _ => true) true n 5 cs = some x) (hl : cs.length = Enc.sz UInt8) : ∃ s : UInt8, RepL (ITP Tryz.prog) (topX W) (Enc.cells s) cs ∧ ∀ u ∈ cs, u.oneCell' = true := by
  match cs, hl with
  | [c], _ =>
    obtain ⟨n0, e0, _, w0⟩ := DataW.trod_int und5 h
    simp at e0
    subst e0
    have hb := bnd_u8 w0
    refine ⟨UInt8.ofNat n0.toNat, ?_, fun u hu => by rw [List.mem_singleton.1 hu]; rfl⟩
    have : (((UInt8.ofNat n0.toNat).toNat : Nat) : Int) = n0 := by rw [UInt8.toNat_ofNat']; omega
    show RepL _ _ [.raw (.int .u8 (((UInt8.ofNat n0.toNat).toNat : Nat) : Int))] _
    rw [this]
    exact ⟨_, _, rfl, rfl, rfl⟩
theorem open_u8s {W : World} {base : Nat} {v : Value} {d : DataW H} {p : List MemPlace} (hv : Value.okWide Tryz.prog W .any base 28 v) (h : DataW.Trod enc Tryz.prog W 0 (fun _ => true) true 28 v d p) :
    ∃ l : List UInt8, l.length < 2 ^ 63 ∧ Rep (ITP Tryz.prog) (topX W) (.list l.length (Enc.cellsL l) .none) v := by
  obtain ⟨fuel, hf⟩ := h
  obtain ⟨a0, len, cap, rfl⟩ := okWide_slice undB hv
  exact open_gen (α := UInt8) undB cells5 (fun n cs x h hl => el_u8 n cs x h hl) hf
end
end Go.Ab
set_option linter.unusedSimpArgs false
set_option linter.unusedVariables false
set_option maxRecDepth 100000
namespace Go.Ab
open Go Go.RowKit Go.Fwd Go.Proofs Go.Proofs.YtblibgbakbhlkaaGreatDoor
theorem star_err : "*" ++ "errors.errorString" = "*errors.errorString" := by decide
theorem row147 (u : TypeId) (h : Tryz.prog.typeName? 3 u = some "*errors.errorString") : u = 191 :=
  typeName_ptr_named (nm := "errors.errorString") (by rw [star_err]; kernel_rfl) (by kernel_rfl) (by decide) u (by rw [star_err]; exact h)
theorem und73 : ∃ ms, Tryz.prog.underlying 101 = some (.interface ms) := ⟨_, rfl⟩
theorem und149 : ∃ f : Field, Tryz.prog.underlying 193 = some (.struct #[f]) ∧ f.type = 9 ∧ f.offset = 0 := ⟨_, rfl, rfl, rfl⟩
theorem hg0 : Tryz.prog.globalNamed "internal/strconv.uint64pow10" = some 1 := by kernel_rfl
theorem hty3 : (Tryz.prog.globals[1]?).map (·.type) = some 180 := by kernel_rfl
theorem und142 : Tryz.prog.underlying 180 = some (.array 20 123) := by kernel_rfl
theorem gv_of {W : World} (hL : laidMet Tryz.prog Rows.scheduleWrongRow.laid W) (hS : W.ShapedOpen Tryz.prog) : gvBase Tryz.prog W := by
  have h3 := laidMet.tail (laidMet.tail (laidMet.tail hL))
  obtain ⟨ms, hms⟩ := und73
  obtain ⟨f, hf, hft, hfo⟩ := und149
  refine ⟨fun n g hn hg => ?_, fun g hg => ?_, fun g hg => ?_⟩
  rotate_left
  · exact Lib.tabIs_of_head (rest := _) (g := 1) hg0 hty3 und142 (by kernel_rfl) (by kernel_rfl) (by kernel_rfl) (by have h := laidMet.tail (laidMet.tail hL); exact h)
  · have h0 : g = 0 := by
      have h1 : Tryz.prog.globalNamed "internal/bytealg.MaxLen" = some 0 := by kernel_rfl
      rw [h1] at hg; cases hg; rfl
    subst h0
    exact Tryz.laysM145.s1_3 W hS
  rcases hn with rfl | rfl
  · obtain ⟨a, s, hv, _⟩ := laid_sentinel (laidMet.tail h3) (by kernel_rfl : Tryz.prog.globalNamed "strconv.ErrSyntax" = some 2) (by kernel_rfl : (Tryz.prog.globals[2]?).map (·.type) = some 101) hms row147 (by kernel_rfl : Tryz.prog.underlying 191 = some (.pointer 193)) hf hft hfo und9 (by kernel_rfl) (by kernel_rfl)
    exact ⟨_, _, hv⟩
  · obtain ⟨a, s, hv, _⟩ := laid_sentinel h3 (by kernel_rfl : Tryz.prog.globalNamed "strconv.ErrRange" = some 3) (by kernel_rfl : (Tryz.prog.globals[3]?).map (·.type) = some 101) hms row147 (by kernel_rfl : Tryz.prog.underlying 191 = some (.pointer 193)) hf hft hfo und9 (by kernel_rfl) (by kernel_rfl)
    exact ⟨_, _, hv⟩
end Go.Ab
set_option linter.unusedSimpArgs false
set_option linter.unusedVariables false
set_option maxRecDepth 100000
namespace Go.Ab
open Go Go.RowKit Go.Fwd Go.Proofs Go.Proofs.YtblibgbakbhlkaaGreatDoor Go.ChangeShapes Go.WideShapes Go.ChangeAt
noncomputable def litsOf : DataW Unit → Array Value
  | .agg l => (l.map fun d => match d with | .lit (.int k n) => Value.int k n | _ => undef).toArray
  | _ => #[]
noncomputable def textOf : DataW Unit → ByteArray
  | .iface _ (.ptr (.agg [.lit (.string l)])) => ⟨l.toArray⟩
  | _ => ⟨#[]⟩
noncomputable def low : Nat := (World.holding Tryz.prog default ⟨#[], #[], []⟩).heap.size
noncomputable def gN (n : String) : Nat := (Tryz.prog.globalNamed n).getD 0
noncomputable def laidWorld (os : Os) : World :=
  let w0 := World.holding Tryz.prog os ⟨#[.cells #[.string (textOf Rows.laid_strconv_ErrRange)] 193, .cells #[.string (textOf Rows.laid_strconv_ErrSyntax)] 193], #[], []⟩
  let put (h : Array Obj) (g : Nat) (cs : Array Value) : Array Obj := h.modify g fun
    | .cells _ t frozen => .cells cs t frozen
    | o => o
  let h1 := put w0.heap (gN "math/bits.deBruijn32tab") (litsOf Rows.laid_math_bits_deBruijn32tab)
  let h2 := put h1 (gN "math/bits.deBruijn64tab") (litsOf Rows.laid_math_bits_deBruijn64tab)
  let h3 := put h2 (gN "internal/strconv.uint64pow10") (litsOf Rows.laid_internal_strconv_uint64pow10)
  let h4 := put h3 3 #[.iface 191 (.pointer (some ⟨low, 0, none⟩))]
  let h5 := put h4 2 #[.iface 191 (.pointer (some ⟨low + 1, 0, none⟩))]
  { w0 with heap := h5 }
theorem laid_met (os : Os) (args : Array Value) : laidMet Tryz.prog Rows.scheduleWrongRow.laid ((laidWorld os).forCall (fun _ _ => 0) ⟨#[], args, []⟩).memory :=
  laidMet_of_run (ps := MemPlace.row ⟨gN "math/bits.deBruijn32tab", 0, none⟩ 32 ++ MemPlace.row ⟨gN "math/bits.deBruijn64tab", 0, none⟩ 64 ++ MemPlace.row ⟨gN "internal/strconv.uint64pow10", 0, none⟩ 20 ++ [.cell 3 0, .cell low 0, .cell 2 0, .cell (low + 1) 0]) 8 (by kernel_rfl) (by kernel_rfl) (by kernel_rfl)
end Go.Ab
set_option linter.unusedSimpArgs false
set_option linter.unusedVariables false
set_option maxRecDepth 100000
namespace Go.Proofs.YtblibgbakbhlkaaGreatDoor
open Go Go.Ab Go.ChangeShapes Go.WideShapes Go.ChangeAt Go.RowKit Go.Fwd
theorem trodAll_below {H : Type} {enc : TypeId × Value → H} {P : Program} (hl : laidOutB P = true) {W W' : World} (hb : Below W.heap.size W W') : ∀ {ts : List TypeId} {vs : List Value} {ds : List (DataW H)} {ps : List MemPlace},
    (ts.all fun t => P.readableRec t && decide (t < P.types.size)) = true → DataW.TrodAll enc P W 0 (fun _ => true) true ts vs ds ps → (∀ x ∈ ps, x.block < W.heap.size) → DataW.TrodAll enc P W' 0 (fun b => decide (b < W.heap.size)) true ts vs ds ps
  | [], vs, ds, ps, _, h, _ => by
    cases vs with
    | nil =>
      cases ds with
      | nil => exact h
      | cons => exact h.elim
    | cons => exact h.elim
  | t :: ts, vs, ds, ps, ht, h, hlt => by
    obtain ⟨v, vs', d, ds', p, q, rfl, rfl, rfl, hd, hr⟩ := trodAll_cons h
    simp only [List.all_cons, Bool.and_eq_true, decide_eq_true_eq] at ht
    exact ⟨p, q, Below.trod hl ht.1.1 ht.1.2 hd hb fun x hx => hlt x (by simp [hx]), trodAll_below hl hb ht.2 hr fun x hx => hlt x (by simp [hx]), rfl⟩
theorem own' : ownKnob Tryz.prog.godebug = none := by kernel_rfl
theorem laidOut' : laidOutB Tryz.prog = true := by kernel_rfl
theorem bnd_i64 {n : Int} (h : (Lit.int .i64 n).wf = true) : -9223372036854775808 ≤ n ∧ n < 9223372036854775808 := by
  have h1 : IntKind.i64.min = -9223372036854775808 := rfl
  have h2 : IntKind.i64.max = 9223372036854775807 := rfl
  simp only [Lit.wf, Bool.and_eq_true, decide_eq_true_eq] at h
  omega
end Go.Proofs.YtblibgbakbhlkaaGreatDoor
set_option linter.unusedSimpArgs false
set_option linter.unusedVariables false
set_option maxRecDepth 100000
namespace Go.Proofs.YtblibgbakbhlkaaGreatDoor
open Go Go.Ab Go.ChangeShapes Go.WideShapes Go.ChangeAt Go.RowKit Go.Fwd
theorem trods_scheduleWrong {H : Type} {enc : TypeId × Value → H} {P : Program} {w : World} {base : Nat} {spare : Nat → Bool} {held : Bool} {t0 t1 t2 t3 : TypeId} {args : Array Value} {ds : List (DataW H)} {ps : List MemPlace} (h : DataW.TrodAll enc P w base spare held [t0, t1, t2, t3] args.toList ds ps) :
    ∃ v0 v1 v2 v3 d0 d1 d2 d3 p0 p1 p2 p3, args = #[v0, v1, v2, v3] ∧ ds = [d0, d1, d2, d3] ∧ ps = p0 ++ p1 ++ p2 ++ p3 ∧ DataW.Trod enc P w base spare held t0 v0 d0 p0 ∧ DataW.Trod enc P w base spare held t1 v1 d1 p1 ∧ DataW.Trod enc P w base spare held t2 v2 d2 p2 ∧ DataW.Trod enc P w base spare held t3 v3 d3 p3 := by
  obtain ⟨v0, a0, d0, s0, p0, q0, hargs, rfl, rfl, g0, h⟩ := trodAll_cons h
  obtain ⟨v1, a1, d1, s1, p1, q1, rfl, rfl, rfl, g1, h⟩ := trodAll_cons h
  obtain ⟨v2, a2, d2, s2, p2, q2, rfl, rfl, rfl, g2, h⟩ := trodAll_cons h
  obtain ⟨v3, a3, d3, s3, p3, q3, rfl, rfl, rfl, g3, h⟩ := trodAll_cons h
  obtain ⟨rfl, rfl, rfl⟩ := trodAll_nil h
  exact ⟨v0, v1, v2, v3, d0, d1, d2, d3, p0, p1, p2, p3, by cases args; simp_all, rfl, by simp, g0, g1, g2, g3⟩
theorem witness_scheduleWrong (os : Os) {H : Type} (enc : TypeId × Value → H) :
    (OpenSpec.ofChange Rows.scheduleWrongSpec).preRow enc Tryz.prog Tryz.f5 Rows.scheduleWrongRow.domain false Rows.scheduleWrongRow.laid ((laidWorld os).forCall (fun _ _ => 0) ⟨#[], #[.slice none 0 0, .int .u8 0, .int .u8 0, .int .i64 0], []⟩).memory #[.slice none 0 0, .int .u8 0, .int .u8 0, .int .i64 0] :=
  OpenSpec.preRow_of_B rfl 8 (by kernel_rfl) (by kernel_rfl) (laid_met os _)
theorem scheduleWrong_lifted (os : Os) (started : os.Started) (H : Type) (enc : TypeId × Value → H) (F : Stop.Interp) :
    ReturnsInHanded {} Tryz.checked os 5 .any ((OpenSpec.ofChange Rows.scheduleWrongSpec).preRow enc Tryz.prog Tryz.f5 Rows.scheduleWrongRow.domain false Rows.scheduleWrongRow.laid) (((OpenSpec.ofChange Rows.scheduleWrongSpec).at F).post enc Tryz.prog Tryz.f5 false true false false) := by
  refine returnsInHanded_of_row (C := Tryz.checked) (s := OpenSpec.ofChange Rows.scheduleWrongSpec) own' started (by kernel_rfl) Tryz.func5
    (witness_row_atRef (enc := enc) (C := Tryz.checked) false (laidWorld os) #[.slice none 0 0, .int .u8 0, .int .u8 0, .int .i64 0] rfl (by kernel_rfl) (by kernel_rfl) (by kernel_rfl) (witness_scheduleWrong os enc)) ?_
  intro W base args ds gs before hval0 hW hcnd0 _ hsz0 hL hS _
  have hval : ∀ (j : Nat) t v, Tryz.f5.params[j]? = some t → args[j]? = some v → Value.okWide Tryz.prog W .any base t v := hval0
  have hW' := hW
  obtain ⟨p, q, hA0, hV, rfl, _, _⟩ := hW
  have hA : DataW.TrodAll enc Tryz.prog W 0 (fun _ => true) true Tryz.f5.params.toList args.toList ds p := hA0
  rw [show Tryz.f5.params.toList = [28, 5, 5, 3] from by kernel_rfl] at hA
  have hA1 := hA
  obtain ⟨v0, v1, v2, v3, d0, d1, d2, d3, p0, p1, p2, p3, rfl, rfl, rfl, h0, h1, h2, h3⟩ := trods_scheduleWrong hA
  obtain ⟨rfl, rfl⟩ := trodVars_none hV
  obtain ⟨x0, r0, hr0⟩ := open_u8s (hval 0 28 v0 (by kernel_rfl) rfl) h0
  obtain ⟨x1, rfl, rfl, rfl, w1⟩ := open_int und5 (hval 1 5 v1 (by kernel_rfl) rfl) h1
  have r1 : 0 ≤ x1 ∧ x1 < 256 := by have := bnd_u8 w1; omega
  obtain ⟨x2, rfl, rfl, rfl, w2⟩ := open_int und5 (hval 2 5 v2 (by kernel_rfl) rfl) h2
  have r2 : 0 ≤ x2 ∧ x2 < 256 := by have := bnd_u8 w2; omega
  obtain ⟨x3, rfl, rfl, rfl, w3⟩ := open_int und3 (hval 3 3 v3 (by kernel_rfl) rfl) h3
  have r3 : -9223372036854775808 ≤ x3 ∧ x3 < 9223372036854775808 := bnd_i64 w3
  clear hA0 hval0
  simp only [List.append_nil, List.nil_append] at hW' hA1
  have hlt := hW'.lt
  refine (frame_of (wrong_sh 100000 x0 x1 x2 x3 true (wrong_eq x0 x1 x2 x3 r1 r2)) W (gv_of hL hS) (vs := [v0, .int .u8 x1, .int .u8 x2, .int .i64 x3]) ⟨_, _, rfl, hr0, _, _, rfl, rfl, _, _, rfl, rfl, _, _, rfl, rfl, rfl⟩).mono fun e W' ⟨he, hw⟩ => ?_
  subst he
  refine ⟨_, rfl, ?_⟩
  refine ⟨_, _, _, [] ++ [], p0, [], hW', ?_, ?_, rfl, hw.frame _, fun h => by cases h⟩
  · exact trodAll_mk1 (shut_bool (show Tryz.prog.underlying 4 = some .bool from by kernel_rfl) true)
  · exact trodAll_below laidOut' hw (by kernel_rfl) hA1 hlt
theorem scheduleWrong_holds : Rows.ScheduleWrongSaid :=
  OpenClaim.holds_of_cond 5 Tryz.f5 rfl rfl rfl rfl rfl rfl rfl ⟨rfl, rfl, rfl, rfl, rfl⟩ rfl rfl rfl rfl rfl (by kernel_rfl) Tryz.func5 (by kernel_rfl)
    (of_decide_eq_true (by kernel_rfl)) (by unfold Func.isWrapper; rw [if_neg (of_decide_eq_false (by kernel_rfl))]; exact ⟨rfl, rfl⟩)
    (fun os started H enc _ F0 => by rw [OpenClaim.pre_eq_preRow]; exact scheduleWrong_lifted os started H enc F0)
theorem scheduleWrong_card : Rows.ScheduleWrongCardSaid :=
  Claim7.holds_tied_plain_at .later [] [.data, .data, .data, .sentinel, .sentinel] true (true, "7ea38656f58cf01cca4b0c1e611a3362651516e7a69ac8e67be190af39376c0e") true
    scheduleWrong_holds (fun _ h => by cases h) (by kernel_rfl) (fun _ h => by cases h) scheduleWrong_row_tie rfl ⟨rfl, rfl⟩ (by kernel_rfl) rfl
    (fun f fn hf hfn => by
      obtain rfl : f = 5 := Option.some.inj ((show Tryz.prog.funcNamed "repartee/reparteelaw32.ScheduleWrong" = some 5 by kernel_rfl).symm.trans hf) |>.symm
      obtain rfl : fn = Tryz.f5 := (Option.some.inj (Tryz.func5.symm.trans hfn)).symm
      exact ⟨by kernel_rfl, fun j t ht => by
        have hm : t ∈ [28, 5, 5, 3] := by
          have h := Array.mem_of_getElem? ht
          rw [← Array.mem_toList_iff, show Tryz.f5.params.toList = [28, 5, 5, 3] from by kernel_rfl] at h
          exact h
        have hall : ([28, 5, 5, 3].all fun u => !Tryz.prog.wantsStandIn u) = true := by kernel_rfl
        exact (show Tryz.prog.wantsStandIn t = false by simpa using List.all_eq_true.1 hall t hm)⟩)
    (by kernel_rfl)
#print axioms scheduleWrong_card
end Go.Proofs.YtblibgbakbhlkaaGreatDoor

