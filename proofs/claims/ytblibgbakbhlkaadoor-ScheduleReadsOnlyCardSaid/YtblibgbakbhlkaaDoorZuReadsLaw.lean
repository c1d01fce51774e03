/-
  The law ScheduleReadsOnly of the given program returns true, whatever came in, and what came in reads as it did; what the row lists is tied to the program's text. No condition.
-/
import Derived.Test.YtblibgbakbhlkaaDoorZuMd
import Derived.Deep.Slices
import Derived.Deep.Fields
import Derived.ChangeSame
import Derived.Stop.LaidErr
import Derived.Deep.DeepHandedRow
import Derived.Deep.DeepWitnessRowRef
import Derived.ProofKit
import Derived.SizedLaws
import Derived.ChangeMaps
import Derived.Test.YtblibgbakbhlkaaDoorZuRo
import Derived.Test.YtblibgbakbhlkaaDoorCards
import Derived.Test.YtblibgbakbhlkaaDoorTie
import Derived.SevenTiedAt
set_option linter.unusedSimpArgs false
set_option linter.unusedVariables false
namespace Go.Ab
open Go Go.RowKit Go.Fwd Go.Proofs Go.ChangeShapes Go.WideShapes Go.Deep
def topX (W : World) : Cx := ⟨fun b o => ∃ v, W.cell? ⟨b, o, none⟩ = some v, [], [], [], W, fun _ => False, fun _ _ => False⟩
theorem inv_top (P : Program) (W : World) (hg : gvBase P W) : Inv (ITP P) St.empty (topX W) where
  lens := rfl
  elems := rfl
  κlen := rfl
  κnd := fun s s' b h => by simp [topX] at h
  box := fun s b t cs h => by simp [topX] at h
  κF := fun s b t cs h => by simp [topX] at h
  βlen := rfl
  βnd := by simp [topX]
  βκ := fun r h => by simp [topX] at h
  row := fun s r L h => by simp [topX] at h
  Ok := fun b h => h.elim
  Fcell := fun b o h => h
  gv := ⟨W, hg, Szs.refl _, fun b o v _ hv => ⟨⟨v, hv⟩, hv⟩⟩
theorem frame_of {P : Program} {f : FuncId} {args : List AV} {u : Value} (h : Pure (ITP P) P f args (.raw u)) (W : World) (hg : gvBase P W) {vs : List Value} (hr : RepL (ITP P) (topX W) args vs) :
    Calls P f vs.toArray W fun e W' => e = .returned u ∧ Below W.heap.size W W' := by
  refine (h.2 (topX W) vs (inv_top P W hg) hr).mono ?_
  rintro e w' ⟨v, Y, rfl, rfl, hE, hIY, hv⟩
  rw [Rep] at hv; subst hv
  exact ⟨rfl, hE.os, hE.tape, hE.output, hE.size, fun b hb => hE.frame b hb (by simp [topX]) (by simp [topX])⟩
section
variable {H : Type} {enc : TypeId × Value → H} {P : Program} {α : Type} [Enc α]
end
end Go.Ab
set_option linter.unusedSimpArgs false
set_option linter.unusedVariables false
set_option linter.constructorNameAsVariable false
set_option maxRecDepth 100000
namespace Go.Ab
open Go Go.RowKit Go.Fwd Go.Proofs Go.ChangeShapes Go.WideShapes Go.Deep
section
variable {H : Type} {enc : TypeId × Value → H}
end
end Go.Ab
set_option linter.unusedSimpArgs false
set_option linter.unusedVariables false
set_option maxRecDepth 100000
namespace Go.Ab
open Go Go.RowKit Go.Fwd Go.Proofs Go.Proofs.YtblibgbakbhlkaaDoor
theorem star_err : "*" ++ "errors.errorString" = "*errors.errorString" := by decide
theorem row147 (u : TypeId) (h : Tryd.prog.typeName? 3 u = some "*errors.errorString") : u = 148 :=
  typeName_ptr_named (nm := "errors.errorString") (by rw [star_err]; kernel_rfl) (by kernel_rfl) (by decide) u (by rw [star_err]; exact h)
theorem und73 : ∃ ms, Tryd.prog.underlying 87 = some (.interface ms) := ⟨_, rfl⟩
theorem und149 : ∃ f : Field, Tryd.prog.underlying 150 = some (.struct #[f]) ∧ f.type = 9 ∧ f.offset = 0 := ⟨_, rfl, rfl, rfl⟩
theorem hg0 : Tryd.prog.globalNamed "internal/strconv.uint64pow10" = some 0 := by kernel_rfl
theorem hty3 : (Tryd.prog.globals[0]?).map (·.type) = some 137 := by kernel_rfl
theorem und142 : Tryd.prog.underlying 137 = some (.array 20 78) := by kernel_rfl
theorem gv_of {W : World} (hL : laidMet Tryd.prog Rows.scheduleTextsRow.laid W) (hS : W.ShapedOpen Tryd.prog) : gvBase Tryd.prog W := by
  have h3 := laidMet.tail (laidMet.tail (laidMet.tail hL))
  obtain ⟨ms, hms⟩ := und73
  obtain ⟨f, hf, hft, hfo⟩ := und149
  refine ⟨fun n g hn hg => ?_, fun g hg => ?_, fun g hg => ?_⟩
  rotate_left
  · exact Lib.tabIs_of_head (rest := _) (g := 0) hg0 hty3 und142 (by kernel_rfl) (by kernel_rfl) (by kernel_rfl) (by have h := laidMet.tail (laidMet.tail hL); exact h)
  · have h0 : g = 1 := by
      have h1 : Tryd.prog.globalNamed "internal/bytealg.MaxLen" = some 1 := by kernel_rfl
      rw [h1] at hg; cases hg; rfl
    subst h0
    exact Tryd.laysM145.s1_3 W hS
  rcases hn with rfl | rfl
  · obtain ⟨a, s, hv, _⟩ := laid_sentinel (laidMet.tail h3) (by kernel_rfl : Tryd.prog.globalNamed "strconv.ErrSyntax" = some 2) (by kernel_rfl : (Tryd.prog.globals[2]?).map (·.type) = some 87) hms row147 (by kernel_rfl : Tryd.prog.underlying 148 = some (.pointer 150)) hf hft hfo und9 (by kernel_rfl) (by kernel_rfl)
    exact ⟨_, _, hv⟩
  · obtain ⟨a, s, hv, _⟩ := laid_sentinel h3 (by kernel_rfl : Tryd.prog.globalNamed "strconv.ErrRange" = some 3) (by kernel_rfl : (Tryd.prog.globals[3]?).map (·.type) = some 87) hms row147 (by kernel_rfl : Tryd.prog.underlying 148 = some (.pointer 150)) hf hft hfo und9 (by kernel_rfl) (by kernel_rfl)
    exact ⟨_, _, hv⟩
end Go.Ab
set_option linter.unusedSimpArgs false
set_option linter.unusedVariables false
set_option maxRecDepth 100000
namespace Go.Ab
open Go Go.RowKit Go.Fwd Go.Proofs Go.Proofs.YtblibgbakbhlkaaDoor Go.ChangeShapes Go.WideShapes Go.ChangeAt
noncomputable def litsOf : DataW Unit → Array Value
  | .agg l => (l.map fun d => match d with | .lit (.int k n) => Value.int k n | _ => undef).toArray
  | _ => #[]
noncomputable def textOf : DataW Unit → ByteArray
  | .iface _ (.ptr (.agg [.lit (.string l)])) => ⟨l.toArray⟩
  | _ => ⟨#[]⟩
noncomputable def low : Nat := (World.holding Tryd.prog default ⟨#[], #[], []⟩).heap.size
noncomputable def gN (n : String) : Nat := (Tryd.prog.globalNamed n).getD 0
noncomputable def laidWorld (os : Os) : World :=
  let w0 := World.holding Tryd.prog os ⟨#[.cells #[.string (textOf Rows.laid_strconv_ErrRange)] 150, .cells #[.string (textOf Rows.laid_strconv_ErrSyntax)] 150], #[], []⟩
  let put (h : Array Obj) (g : Nat) (cs : Array Value) : Array Obj := h.modify g fun
    | .cells _ t frozen => .cells cs t frozen
    | o => o
  let h1 := put w0.heap (gN "math/bits.deBruijn32tab") (litsOf Rows.laid_math_bits_deBruijn32tab)
  let h2 := put h1 (gN "math/bits.deBruijn64tab") (litsOf Rows.laid_math_bits_deBruijn64tab)
  let h3 := put h2 (gN "internal/strconv.uint64pow10") (litsOf Rows.laid_internal_strconv_uint64pow10)
  let h4 := put h3 3 #[.iface 148 (.pointer (some ⟨low, 0, none⟩))]
  let h5 := put h4 2 #[.iface 148 (.pointer (some ⟨low + 1, 0, none⟩))]
  { w0 with heap := h5 }
theorem laid_met (os : Os) (args : Array Value) : laidMet Tryd.prog Rows.scheduleTextsRow.laid ((laidWorld os).forCall (fun _ _ => 0) ⟨#[], args, []⟩).memory :=
  laidMet_of_run (ps := MemPlace.row ⟨gN "math/bits.deBruijn32tab", 0, none⟩ 32 ++ MemPlace.row ⟨gN "math/bits.deBruijn64tab", 0, none⟩ 64 ++ MemPlace.row ⟨gN "internal/strconv.uint64pow10", 0, none⟩ 20 ++ [.cell 3 0, .cell low 0, .cell 2 0, .cell (low + 1) 0]) 8 (by kernel_rfl) (by kernel_rfl) (by kernel_rfl)
end Go.Ab
set_option linter.unusedSimpArgs false
set_option linter.unusedVariables false
set_option maxRecDepth 100000
namespace Go.Proofs.YtblibgbakbhlkaaDoor
open Go Go.Ab Go.ChangeShapes Go.WideShapes Go.ChangeAt Go.RowKit Go.Fwd
theorem trodAll_below {H : Type} {enc : TypeId × Value → H} {P : Program} (hl : laidOutB P = true) {W W' : World} (hb : Below W.heap.size W W') : ∀ {ts : List TypeId} {vs : List Value} {ds : List (DataW H)} {ps : List MemPlace},
    (ts.all fun t => P.readableRec t && decide (t < P.types.size)) = true → DataW.TrodAll enc P W 0 (fun _ => true) true ts vs ds ps → (∀ x ∈ ps, x.block < W.heap.size) → DataW.TrodAll enc P W' 0 (fun b => decide (b < W.heap.size)) true ts vs ds ps
  | [], vs, ds, ps, _, h, _ => by
    cases vs with
    | nil =>
      cases ds with
      | nil => exact h
      | cons => exact h.elim
    | cons => exact h.elim
  | t :: ts, vs, ds, ps, ht, h, hlt => by
    obtain ⟨v, vs', d, ds', p, q, rfl, rfl, rfl, hd, hr⟩ := trodAll_cons h
    simp only [List.all_cons, Bool.and_eq_true, decide_eq_true_eq] at ht
    exact ⟨p, q, Below.trod hl ht.1.1 ht.1.2 hd hb fun x hx => hlt x (by simp [hx]), trodAll_below hl hb ht.2 hr fun x hx => hlt x (by simp [hx]), rfl⟩
theorem own' : ownKnob Tryd.prog.godebug = none := by kernel_rfl
theorem laidOut' : laidOutB Tryd.prog = true := by kernel_rfl
theorem len_str {s : ByteArray} {l : List UInt8} (hx : l = s.data.toList) (h : s.size ≤ maxLen) : l.length < 2 ^ 63 := by
  have : l.length = s.size := by rw [hx]; rfl
  have h2 : maxLen < 2 ^ 63 := by decide
  omega
theorem rep_str {IT : IterP} {X : Cx} {s : ByteArray} {l : List UInt8} (hx : l = s.data.toList) : Rep IT X (.raw (.string (bs l))) (.string s) := by
  subst hx; rfl
end Go.Proofs.YtblibgbakbhlkaaDoor
set_option linter.unusedSimpArgs false
set_option linter.unusedVariables false
set_option maxRecDepth 100000
namespace Go.Proofs.YtblibgbakbhlkaaDoor
open Go Go.Ab Go.ChangeShapes Go.WideShapes Go.ChangeAt Go.RowKit Go.Fwd
theorem trods_scheduleReadsOnly {H : Type} {enc : TypeId × Value → H} {P : Program} {w : World} {base : Nat} {spare : Nat → Bool} {held : Bool} {t0 : TypeId} {args : Array Value} {ds : List (DataW H)} {ps : List MemPlace} (h : DataW.TrodAll enc P w base spare held [t0] args.toList ds ps) :
    ∃ v0 d0 p0, args = #[v0] ∧ ds = [d0] ∧ ps = p0 ∧ DataW.Trod enc P w base spare held t0 v0 d0 p0 := by
  obtain ⟨v0, a0, d0, s0, p0, q0, hargs, rfl, rfl, g0, h⟩ := trodAll_cons h
  obtain ⟨rfl, rfl, rfl⟩ := trodAll_nil h
  exact ⟨v0, d0, p0, by cases args; simp_all, rfl, by simp, g0⟩
theorem witness_scheduleReadsOnly (os : Os) {H : Type} (enc : TypeId × Value → H) :
    (OpenSpec.ofChange Rows.scheduleReadsOnlySpec).preRow enc Tryd.prog Tryd.f4 Rows.scheduleReadsOnlyRow.domain false Rows.scheduleReadsOnlyRow.laid ((laidWorld os).forCall (fun _ _ => 0) ⟨#[], #[.string ⟨#[]⟩], []⟩).memory #[.string ⟨#[]⟩] :=
  OpenSpec.preRow_of_B rfl 8 (by kernel_rfl) (by kernel_rfl) (laid_met os _)
theorem scheduleReadsOnly_lifted (os : Os) (started : os.Started) (H : Type) (enc : TypeId × Value → H) (F : Stop.Interp) :
    ReturnsInHanded {} Tryd.checked os 4 .any ((OpenSpec.ofChange Rows.scheduleReadsOnlySpec).preRow enc Tryd.prog Tryd.f4 Rows.scheduleReadsOnlyRow.domain false Rows.scheduleReadsOnlyRow.laid) (((OpenSpec.ofChange Rows.scheduleReadsOnlySpec).at F).post enc Tryd.prog Tryd.f4 false true false false) := by
  refine returnsInHanded_of_row (C := Tryd.checked) (s := OpenSpec.ofChange Rows.scheduleReadsOnlySpec) own' started (by kernel_rfl) Tryd.func4
    (witness_row_atRef (enc := enc) (C := Tryd.checked) false (laidWorld os) #[.string ⟨#[]⟩] rfl (by kernel_rfl) (by kernel_rfl) (by kernel_rfl) (witness_scheduleReadsOnly os enc)) ?_
  intro W base args ds gs before hval0 hW hcnd0 _ hsz0 hL hS _
  have hval : ∀ (j : Nat) t v, Tryd.f4.params[j]? = some t → args[j]? = some v → Value.okWide Tryd.prog W .any base t v := hval0
  have hW' := hW
  obtain ⟨p, q, hA0, hV, rfl, _, _⟩ := hW
  have hA : DataW.TrodAll enc Tryd.prog W 0 (fun _ => true) true Tryd.f4.params.toList args.toList ds p := hA0
  rw [show Tryd.f4.params.toList = [9] from by kernel_rfl] at hA
  have hA1 := hA
  obtain ⟨v0, d0, p0, rfl, rfl, rfl, h0⟩ := trods_scheduleReadsOnly hA
  obtain ⟨rfl, rfl⟩ := trodVars_none hV
  obtain ⟨s0, rfl, rfl, rfl, w0⟩ := Go.ChangeMaps.open_string und9 (hval 0 9 v0 (by kernel_rfl) rfl) h0
  obtain ⟨x0, hx0⟩ : ∃ l : List UInt8, l = s0.data.toList := ⟨_, rfl⟩
  have r0 : x0.length < 2 ^ 63 := len_str hx0 w0
  clear hA0 hval0
  simp only [List.append_nil, List.nil_append] at hW' hA1
  have hlt := hW'.lt
  refine (frame_of (readsonly_sh 100000 x0 true (readsonly_eq x0)) W (gv_of hL hS) (vs := [.string s0]) ⟨_, _, rfl, rep_str hx0, rfl⟩).mono fun e W' ⟨he, hw⟩ => ?_
  subst he
  refine ⟨_, rfl, ?_⟩
  refine ⟨_, _, _, [] ++ [], [], [], hW', ?_, ?_, rfl, hw.frame _, fun h => by cases h⟩
  · exact trodAll_mk1 (shut_bool (show Tryd.prog.underlying 4 = some .bool from by kernel_rfl) true)
  · exact trodAll_below laidOut' hw (by kernel_rfl) hA1 hlt
theorem scheduleReadsOnly_holds : Rows.ScheduleReadsOnlySaid :=
  OpenClaim.holds_of_cond 4 Tryd.f4 rfl rfl rfl rfl rfl rfl rfl ⟨rfl, rfl, rfl, rfl, rfl⟩ rfl rfl rfl rfl rfl (by kernel_rfl) Tryd.func4 (by kernel_rfl)
    (of_decide_eq_true (by kernel_rfl)) (by unfold Func.isWrapper; rw [if_neg (of_decide_eq_false (by kernel_rfl))]; exact ⟨rfl, rfl⟩)
    (fun os started H enc _ F0 => by rw [OpenClaim.pre_eq_preRow]; exact scheduleReadsOnly_lifted os started H enc F0)
theorem scheduleReadsOnly_card : Rows.ScheduleReadsOnlyCardSaid :=
  Claim7.holds_tied_plain_at .later [] [.data, .data, .data, .sentinel, .sentinel] true (true, "49e2dd7a3e4a7e94bd608a0e43c498b0a8a2872f83c299f0a28e80e9353c7554") true
    scheduleReadsOnly_holds (fun _ h => by cases h) (by kernel_rfl) (fun _ h => by cases h) scheduleReadsOnly_row_tie rfl ⟨rfl, rfl⟩ (by kernel_rfl) rfl
    (fun f fn hf hfn => by
      obtain rfl : f = 4 := Option.some.inj ((show Tryd.prog.funcNamed "repartee/reparteelaw32.ScheduleReadsOnly" = some 4 by kernel_rfl).symm.trans hf) |>.symm
      obtain rfl : fn = Tryd.f4 := (Option.some.inj (Tryd.func4.symm.trans hfn)).symm
      exact ⟨by kernel_rfl, fun j t ht => by
        have hm : t ∈ [9] := by
          have h := Array.mem_of_getElem? ht
          rw [← Array.mem_toList_iff, show Tryd.f4.params.toList = [9] from by kernel_rfl] at h
          exact h
        have hall : ([9].all fun u => !Tryd.prog.wantsStandIn u) = true := by kernel_rfl
        exact (show Tryd.prog.wantsStandIn t = false by simpa using List.all_eq_true.1 hall t hm)⟩)
    (by kernel_rfl)
#print axioms scheduleReadsOnly_card
end Go.Proofs.YtblibgbakbhlkaaDoor

