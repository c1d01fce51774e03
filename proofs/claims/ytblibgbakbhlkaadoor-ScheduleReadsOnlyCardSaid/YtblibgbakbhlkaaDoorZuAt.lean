/-
  schedule: Join, HasPrefix, CutPrefix, Atoi with its error.
-/
import Derived.Test.YtblibgbakbhlkaaDoorZuEn
set_option linter.unusedSimpArgs false
set_option linter.unusedVariables false
namespace Go.Ab
open Go Go.RowKit Go.Fwd Go.Proofs
theorem ent26 : Ent Tryd.prog 26 := enters_of Tryd.func26 (by kernel_rfl) rfl
theorem ent44 : Ent Tryd.prog 44 := enters_of Tryd.func44 (by kernel_rfl) rfl
theorem ent47 : Ent Tryd.prog 47 := enters_of Tryd.func47 (by kernel_rfl) rfl
theorem hasp_pure (l p : List UInt8) : Pure (ITP Tryd.prog) Tryd.prog 44 [.raw (.string (bs l)), .raw (.string (bs p))] (.raw (.bool (Lib.hasPrefix l p))) :=
  pure_below [.string (bs l), .string (bs p)] ent44 (fun X us h => raws2 h) fun X hI => (Tryd.strings_HasPrefix (bs l) (bs p) X.w).mono fun e w' ⟨h1, h2⟩ => ⟨_, h1, h2 ▸ Below.refl _ _, fun Y => rfl⟩
theorem cutp_pure (l p : List UInt8) : Pure (ITP Tryd.prog) Tryd.prog 47 [.raw (.string (bs l)), .raw (.string (bs p))] (.tup [.raw (.string (bs (Lib.trimPrefix l p, Lib.hasPrefix l p).1)), .raw (.bool (Lib.trimPrefix l p, Lib.hasPrefix l p).2)]) :=
  pure_below [.string (bs l), .string (bs p)] ent47 (fun X us h => raws2 h) fun X hI => (Tryd.strings_CutPrefix (bs l) (bs p) X.w).mono fun e w' ⟨h1, h2⟩ => ⟨_, h1, h2 ▸ Below.refl _ _, fun Y => ⟨_, rfl, _, _, rfl, rfl, _, _, rfl, rfl, rfl⟩⟩
def atoiOk (l : List UInt8) : Bool := match Lib.atoiAll l with
  | .ok _ => true
  | _ => false
theorem atoi_okP (l : List UInt8) (g : l.length ≤ 281474976710656) (h : atoiOk l = true) : Pure (ITP Tryd.prog) Tryd.prog 48 [.raw (.string (bs l))] (.tup [.raw (.int .i64 (atoiP l)), .raw .nilIface]) := by
  unfold atoiOk at h
  unfold atoiP
  split
  · rename_i v hv; exact atoi_ok (bs l) v (by show l.length ≤ _; omega) hv
  · rename_i hv; rw [hv] at h; cases h
  · rename_i hv; rw [hv] at h; cases h
theorem atoi_errP (l : List UInt8) (g : l.length ≤ 281474976710656) (h : atoiOk l = false) : Pure (ITP Tryd.prog) Tryd.prog 48 [.raw (.string (bs l))] (.tup [.raw (.int .i64 (atoiP l)), .iter errRows]) := by
  unfold atoiOk at h
  unfold atoiP
  split
  · rename_i v hv; rw [hv] at h; cases h
  · rename_i hv
    exact pure_below [.string (bs l)] ent48 (fun X us h => raws1 h) fun X hI => by
      obtain ⟨ev, h1, h2⟩ := vars_ok hI 2 (by first | exact .inl rfl | exact .inr rfl)
      exact (Tryd.strconv_Atoi_syntax (bs l) g hv ev X.w h1 h2).mono fun e w' ⟨N, k1, _, _, k2⟩ => ⟨_, k1, k2, fun Y => ⟨_, rfl, _, _, rfl, rfl, _, _, rfl, .inl ⟨rfl, _, _, rfl⟩, rfl⟩⟩
  · rename_i hv
    exact pure_below [.string (bs l)] ent48 (fun X us h => raws1 h) fun X hI => by
      obtain ⟨ev, h1, h2⟩ := vars_ok hI 3 (by first | exact .inr rfl | exact .inl rfl)
      exact (Tryd.strconv_Atoi_range (bs l) g hv ev X.w h1 h2).mono fun e w' ⟨N, k1, _, _, k2⟩ => ⟨_, k1, k2, fun Y => ⟨_, rfl, _, _, rfl, rfl, _, _, rfl, .inl ⟨rfl, _, _, rfl⟩, rfl⟩⟩
theorem at_strs {IT : IterP} {X : Cx} : ∀ (xs : List (List UInt8)) (b o : Nat), At IT X (Enc.cellsL xs) b o → ∀ (j : Nat) (x : List UInt8), xs[j]? = some x → X.w.cell? ⟨b, o + j, none⟩ = some (.string (bs x))
  | [], _, _, _, j, x, h => by simp at h
  | y :: ys, b, o, h, j, x, hj => by
    have h' : At IT X (.raw (.string (bs y)) :: Enc.cellsL ys) b o := h
    rw [At] at h'
    obtain ⟨⟨_, v, hv, _, hr⟩, ht⟩ := h'
    cases j with
    | zero => simp at hj; subst hj; rw [Rep] at hr; rw [← hr]; exact hv
    | succ j => have := at_strs ys b (o + 1) ht j x (by simpa using hj); rw [show o + (j + 1) = o + 1 + j by omega]; exact this
theorem join_pure (xs : List (List UInt8)) (sep : List UInt8) (g : (xs.length : Int) ≤ 140737488355328 ∧ ((Lib.join xs sep).length : Int) ≤ 140737488355328) : Pure (ITP Tryd.prog) Tryd.prog 26 [.list xs.length (Enc.cellsL xs) .none, .raw (.string (bs sep))] (.raw (.string (bs (Lib.join xs sep)))) := by
  refine ⟨ent26, fun X us hI hr => ?_⟩
  have fin : ∀ w', Below X.w.heap.size X.w w' → ∃ v X', Ending.returned (.string (bs (Lib.join xs sep))) = .returned v ∧ X'.w = w' ∧ Ext X X' ∧ Inv (ITP Tryd.prog) St.empty X' ∧ Rep (ITP Tryd.prog) X' (.raw (.string (bs (Lib.join xs sep)))) v := fun w' hx => by
    have hg : Grows X.w w' := ⟨⟨hx.os, hx.tape, hx.output, hx.size, hx.block⟩, Nat.le_refl _⟩
    exact ⟨_, grown X w', rfl, rfl, ext_grown hI hg, inv_grown (itp_mono _) hI hg, rfl⟩
  obtain ⟨v, l, rfl, hv, u, l', rfl, hu, hl⟩ := hr
  have hu : u = .string (bs sep) := hu
  have hl : l' = [] := hl
  subst hu hl
  rw [Rep] at hv
  obtain ⟨a, cap, rfl, ⟨hcap, _⟩, hc, _⟩ := hv
  rcases hc with hc | ⟨b, o, rfl, hat⟩
  · have hn : xs = [] := by
      cases xs with
      | nil => rfl
      | cons x xs => rw [Enc.cons] at hc; cases hc
    subst hn
    exact (Tryd.strings_Join_none a cap (bs sep) X.w).mono fun e w' ⟨h1, h2⟩ => by subst h1 h2; exact fin _ (Below.refl _ _)
  · cases xs with
    | nil => exact (Tryd.strings_Join_none _ cap (bs sep) X.w).mono fun e w' ⟨h1, h2⟩ => by subst h1 h2; exact fin _ (Below.refl _ _)
    | cons x ys =>
      have hlt : b < X.w.heap.size := by
        have h' : At (ITP Tryd.prog) X (.raw (.string (bs x)) :: Enc.cellsL ys) b o := hat
        rw [At] at h'
        exact hI.Flt h'.1.1
      have e1 : ((x :: ys).map bs).map (·.data.toList) = x :: ys := by rw [List.map_map]; exact (List.map_congr_left fun y _ => rfl).trans (List.map_id _)
      have h := Tryd.strings_Join b o cap ((x :: ys).map bs) (bs sep) X.w (fun j y hj => by
        rw [List.getElem?_map, Option.map_eq_some_iff] at hj
        obtain ⟨z, hz, rfl⟩ := hj
        exact at_strs _ b o hat j z hz) hlt (by rw [List.length_map]; omega) (by rw [List.length_map]; exact hcap) (by rw [e1]; show (Lib.join (x :: ys) sep).length ≤ _; omega)
      rw [e1, List.length_map] at h
      exact h.mono fun e w' ⟨h1, h2⟩ => by subst h1; exact fin _ h2
end Go.Ab

