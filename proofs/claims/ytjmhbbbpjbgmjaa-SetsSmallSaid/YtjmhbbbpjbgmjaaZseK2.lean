/-
  Contracts of package sets, of the functions that SetsTells and SetsLists call.
-/
import Derived.Test.YtjmhbbbpjbgmjaaZsePu
import Derived.Test.YtjmhbbbpjbgmjaaZseSn
import Derived.Test.YtjmhbbbpjbgmjaaZseAr
set_option linter.unusedSimpArgs false
set_option linter.unusedVariables false
namespace Go.Ab
open Go Go.RowKit Go.Fwd Go.Proofs Go.Proofs.Ytjmhbbbpjbgmjaa

theorem args2i {X : Cx} {A : BS} {k : IntKind} {x : Int} {us : List Value} (h : RepL IS X [.agg (Enc.cells A), .raw (.int k x)] us) : us = [sv A, .int k x] := by
  simp only [RepL] at h
  obtain ⟨v, r, rfl, hv, v2, r2, rfl, hv2, rfl⟩ := h
  rw [Rep] at hv2
  rw [rep_set hv, hv2]
theorem args2ii {X : Cx} {k : IntKind} {x y : Int} {us : List Value} (h : RepL IS X [.raw (.int k x), .raw (.int k y)] us) : us = [.int k x, .int k y] := by
  simp only [RepL, Rep] at h
  obtain ⟨v, r, rfl, rfl, v2, r2, rfl, rfl, rfl⟩ := h
  rfl
theorem k_has (A : BS) (x : Int) (h : 0 ≤ x ∧ x < 256) : Pure IS Try.prog 14 [.agg (Enc.cells A), .raw (.int .u8 x)] (.raw (.bool (A.getLsbD x.toNat))) := by
  have e : ((x.toNat : Nat) : Int) = x := by omega
  have := has_any A x.toNat
  rw [e] at this
  exact pure_ret (itp_mono _) [sv A, .int .u8 x] _ (enters_of Try.func14 (by kernel_rfl) rfl) (fun X us => args2i) (fun X => raw_rep _) (fun w => this w (by omega))
theorem k_size (A : BS) : Pure IS Try.prog 22 [.agg (Enc.cells A)] (.raw (.int .i64 (bytesOf A).length)) :=
  pure_ret (itp_mono _) [sv A] _ (enters_of Try.func22 (by kernel_rfl) rfl) (fun X us => args1) (fun X => raw_rep _) (size_any A)
theorem k_compare (A B : BS) : Pure IS Try.prog 11 [.agg (Enc.cells A), .agg (Enc.cells B)] (.raw (.int .i64 (cmpS A B))) :=
  pure_ret (itp_mono _) [sv A, sv B] _ (enters_of Try.func11 (by kernel_rfl) rfl) (fun X us => args2) (fun X => raw_rep _) (compare_any A B)
def nextO (A : BS) (c : Nat) : Option Nat := if c = 255 then none else firstOf (A &&& rangeS (c + 1) 255)
def optC (o : Option Nat) : Int := match o with | some c => (c : Int) | none => 0
theorem k_next (A : BS) (c : Int) (h : 0 ≤ c ∧ c < 256) : Pure IS Try.prog 29 [.agg (Enc.cells A), .raw (.int .u8 c)] (.tup [.raw (.int .u8 (optC (nextO A c.toNat))), .raw (.bool (nextO A c.toNat).isSome)]) := by
  have e : ((c.toNat : Nat) : Int) = c := by omega
  have := next_any A c.toNat (by omega)
  rw [e] at this
  refine pure_ret (itp_mono _) [sv A, .int .u8 c] (firstV (nextO A c.toNat)) (enters_of Try.func29 (by kernel_rfl) rfl) (fun X us => args2i) (fun X => ?_) this
  rw [Rep]
  refine ⟨[.int .u8 (optC (nextO A c.toNat)), .bool (nextO A c.toNat).isSome], ?_, ?_⟩
  · cases nextO A c.toNat <;> rfl
  · simp only [RepL, Rep]
    exact ⟨_, _, rfl, rfl, _, _, rfl, rfl, rfl⟩
theorem k_range (lo hi : Int) (h : (0 ≤ lo ∧ lo < 256) ∧ 0 ≤ hi ∧ hi < 256) : Pure IS Try.prog 30 [.raw (.int .u8 lo), .raw (.int .u8 hi)] (.agg (Enc.cells (rangeS lo.toNat hi.toNat))) := by
  have e : ((lo.toNat : Nat) : Int) = lo := by omega
  have e2 : ((hi.toNat : Nat) : Int) = hi := by omega
  have := range_any lo.toNat hi.toNat (by omega) (by omega)
  rw [e, e2] at this
  exact pure_ret (itp_mono _) [.int .u8 lo, .int .u8 hi] (sv (rangeS lo.toNat hi.toNat)) (enters_of Try.func30 (by kernel_rfl) rfl) (fun X us => args2ii) (fun X => set_rep _) this
/-! ### rows of raw cells -/
theorem vals_at {X : Cx} : ∀ (vs : List Value) (b o : Nat), At IS X (vs.map AV.raw) b o → ∀ (i : Nat) (x : Value), vs[i]? = some x → X.F b (o + i) ∧ X.w.cell? ⟨b, o + i, none⟩ = some x := by
  intro vs
  induction vs with
  | nil => intro b o _ i x hx; simp at hx
  | cons v vs ih =>
    intro b o h i x hx
    rw [List.map_cons, At] at h
    obtain ⟨⟨hF, u, hu, h1, hr⟩, hat⟩ := h
    rw [Rep] at hr
    subst hr
    cases i with
    | zero => simp at hx; subst hx; exact ⟨hF, hu⟩
    | succ i =>
      have := ih b (o + 1) hat i x (by simpa using hx)
      rwa [show o + 1 + i = o + (i + 1) by omega] at this
theorem at_vals {X : Cx} : ∀ (vs : List Value) (b o : Nat), (∀ v ∈ vs, v.oneCell' = true) → (∀ (i : Nat) (x : Value), vs[i]? = some x → X.F b (o + i) ∧ X.w.cell? ⟨b, o + i, none⟩ = some x) → At IS X (vs.map AV.raw) b o := by
  intro vs
  induction vs with
  | nil => intro b o _ _; rw [List.map_nil, At]; trivial
  | cons v vs ih =>
    intro b o h1 hc
    rw [List.map_cons, At]
    have h0 := hc 0 v rfl
    exact ⟨⟨h0.1, v, h0.2, h1 v (by simp), raw_rep v⟩, ih b (o + 1) (fun u hu => h1 u (by simp [hu])) fun i x hx => by
      have := hc (i + 1) x (by simpa using hx)
      rwa [show o + (i + 1) = o + 1 + i by omega] at this⟩
theorem rep_owns {X : Cx} {B : Nat} {e : TypeId} {sz n : Nat} {v : Value} {vs : List Value} {cs : List AV} (hr : X.w.ownsRow B e sz v n vs) (hF : ∀ b o, B ≤ b → (∃ v, X.w.cell? ⟨b, o, none⟩ = some v) → X.F b o) (hcs : cs = vs.map AV.raw) (h1 : ∀ v ∈ vs, v.oneCell' = true) : Rep IS X (.list n cs .none) v := by
  subst hcs
  have hs := slAt_of_owns hr
  rw [Rep]
  rcases hr.2 with ⟨rfl, h0⟩ | ⟨g, cap, cur, rfl, hg, _, hle, hmax, _⟩
  · subst h0
    have : vs = [] := List.length_eq_zero_iff.1 (by rw [hr.1, Nat.zero_mul])
    subst this
    exact ⟨none, 0, rfl, ⟨Nat.le_refl _, fun _ => rfl⟩, .inl rfl, trivial⟩
  · refine ⟨_, cap, rfl, ⟨hle, fun h => by cases h⟩, .inr ⟨g, 0, rfl, at_vals _ _ _ h1 fun i x hx => ?_⟩, trivial⟩
    rcases hs with ⟨h2, _⟩ | ⟨b, o, cap2, h2, hb, hc⟩
    · cases h2
    · have e1 : b = g ∧ o = 0 := by cases h2; exact ⟨rfl, rfl⟩
      obtain ⟨rfl, rfl⟩ := e1
      have := hc i x hx
      exact ⟨hF _ _ hg ⟨x, this⟩, this⟩
def u8L (l : List Nat) : List UInt8 := l.map UInt8.ofNat
theorem u8L_cells (l : List Nat) (h : ∀ x ∈ l, x < 256) : Enc.cellsL (u8L l) = (u8s l).map AV.raw := by
  show (l.map UInt8.ofNat).map (fun x : UInt8 => AV.raw (.int .u8 ((x.toNat : Nat) : Int))) = _
  unfold u8s
  rw [List.map_map, List.map_map]
  apply List.map_congr_left
  intro x hx
  have := h x hx
  simp [UInt8.toNat_ofNat']
  omega
theorem bytesOf_lt {S : BS} {x : Nat} (h : x ∈ bytesOf S) : x < 256 := by
  simp [bytesOf, bytesTo] at h; exact h.1
theorem k_bytes (A : BS) : Pure IS Try.prog 26 [.agg (Enc.cells A)] (.list (u8L (bytesOf A)).length (Enc.cellsL (u8L (bytesOf A))) .none) :=
  pure_calls (itp_mono _) [sv A] (enters_of Try.func26 (by kernel_rfl) rfl) (fun X us => args1) fun W => (bytes_new A W).mono fun e w' ⟨v, h1, h2, h3⟩ => ⟨v, h1, h2, fun X hX hF => by
    subst hX
    rw [show (u8L (bytesOf A)).length = (bytesOf A).length from List.length_map ..]
    exact rep_owns h3 hF (u8L_cells _ fun x hx => bytesOf_lt hx) (fun v hv => by simp only [u8s, List.mem_map] at hv; obtain ⟨x, _, rfl⟩ := hv; rfl)⟩
/-! ### spans -/
abbrev Sp := UInt8 × UInt8
def cellsS (s : Sp) : List AV := [.raw (.int .u8 ((s.1.toNat : Nat) : Int)), .raw (.int .u8 ((s.2.toNat : Nat) : Int))]
instance : Enc Sp := ⟨(0, 0), cellsS, fun l => l.flatMap cellsS, 2, by decide, rfl, fun _ _ => rfl, fun _ => rfl, fun _ => rfl⟩
def spL (l : List (Nat × Nat)) : List Sp := l.map fun p => (UInt8.ofNat p.1, UInt8.ofNat p.2)
theorem spL_cells : ∀ (l : List (Nat × Nat)), (∀ p ∈ l, p.1 < 256 ∧ p.2 < 256) → Enc.cellsL (spL l) = (spc l).map AV.raw
  | [], _ => rfl
  | p :: l, h => by
    have ih := spL_cells l fun q hq => h q (by simp [hq])
    have hp := h p (by simp)
    show cellsS (UInt8.ofNat p.1, UInt8.ofNat p.2) ++ Enc.cellsL (spL l) = _
    rw [ih]
    have e1 : p.1 % 256 = p.1 := Nat.mod_eq_of_lt hp.1
    have e2 : p.2 % 256 = p.2 := Nat.mod_eq_of_lt hp.2
    simp [spc, cellsS, UInt8.toNat_ofNat', e1, e2]
theorem addB_lt (L : List (Nat × Nat)) (c : Nat) (h : ∀ p ∈ L, p.1 < 256 ∧ p.2 < 256) (hc : c < 256) : ∀ p ∈ addB L c, p.1 < 256 ∧ p.2 < 256 := by
  rcases List.eq_nil_or_concat L with rfl | ⟨A, q, rfl⟩
  · intro p hp; rw [addB_nil] at hp; simp at hp; subst hp; exact ⟨hc, hc⟩
  · obtain ⟨lo, hi⟩ := q
    rw [List.concat_eq_append] at h ⊢
    have h1 := h (lo, hi) (by simp)
    by_cases e : hi = (c + 255) % 256
    · rw [addB_hit _ _ _ _ e]
      intro p hp
      rcases List.mem_append.1 hp with hp | hp
      · exact h p (by simp [hp])
      · simp at hp; subst hp; exact ⟨h1.1, hc⟩
    · rw [addB_miss _ _ _ _ e]
      intro p hp
      rcases List.mem_append.1 hp with hp | hp
      · exact h p hp
      · simp at hp; subst hp; exact ⟨hc, hc⟩
theorem spansB_lt (l : List Nat) (h : ∀ x ∈ l, x < 256) : ∀ p ∈ spansB l, p.1 < 256 ∧ p.2 < 256 := by
  suffices ∀ (l : List Nat) (L : List (Nat × Nat)), (∀ x ∈ l, x < 256) → (∀ p ∈ L, p.1 < 256 ∧ p.2 < 256) → ∀ p ∈ l.foldl addB L, p.1 < 256 ∧ p.2 < 256 from this l [] h (by simp)
  intro l
  induction l with
  | nil => intro L _ h; exact h
  | cons c l ih => intro L h1 h2; rw [List.foldl_cons]; exact ih _ (fun x hx => h1 x (by simp [hx])) (addB_lt L c h2 (h1 c (by simp)))
theorem k_spans (A : BS) : Pure IS Try.prog 27 [.agg (Enc.cells A)] (.list (spL (spansOf A)).length (Enc.cellsL (spL (spansOf A))) .none) :=
  pure_calls (itp_mono _) [sv A] (enters_of Try.func27 (by kernel_rfl) rfl) (fun X us => args1) fun W => (spans_new A W).mono fun e w' ⟨v, h1, h2, h3⟩ => ⟨v, h1, h2, fun X hX hF => by
    subst hX
    rw [show (spL (spansOf A)).length = (spansOf A).length from List.length_map ..]
    exact rep_owns h3 hF (spL_cells _ (spansB_lt _ fun x hx => bytesOf_lt hx)) (fun v hv => by simp only [spc, List.mem_flatMap] at hv; obtain ⟨x, _, hx⟩ := hv; simp at hx; rcases hx with rfl | rfl <;> rfl)⟩
theorem k_of (l : List UInt8) (h : 0 < l.length ∧ l.length ≤ 1099511627776) : Pure IS Try.prog 13 [.list l.length (Enc.cellsL l) .none] (.agg (Enc.cells (ofS (l.map UInt8.toNat)))) := by
  refine ⟨enters_of Try.func13 (by kernel_rfl) rfl, fun X us hI hr => ?_⟩
  simp only [RepL] at hr
  obtain ⟨v, r, rfl, hv, rfl⟩ := hr
  rw [Rep] at hv
  obtain ⟨a, cap, rfl, _, hat, _⟩ := hv
  have hc : Enc.cellsL l = (u8s (l.map UInt8.toNat)).map AV.raw := by
    show l.map (fun x : UInt8 => AV.raw (.int .u8 ((x.toNat : Nat) : Int))) = _
    simp [u8s]
  have hl : (l.map UInt8.toNat).length = l.length := List.length_map ..
  have key := of_any (l.map UInt8.toNat) (fun x hx => by simp only [List.mem_map] at hx; obtain ⟨y, _, rfl⟩ := hx; exact y.toNat_lt) (by omega) (.slice a l.length cap) X.w (by
    rw [hl]
    rcases hat with he | ⟨b, o, rfl, hat⟩
    · exfalso
      cases l with
      | nil => simp at h
      | cons x l => exact absurd he (by simp [Enc.cellsL])
    · rw [hc] at hat
      have h0 : X.F b (o + 0) := (vals_at _ _ _ hat 0 ((u8s (l.map UInt8.toNat))[0]'(by simp [u8s]; omega)) (by simp)).1
      exact .inr ⟨b, o, cap, rfl, hI.Flt h0, fun i x hx => (vals_at _ _ _ hat i x hx).2⟩)
  refine key.mono ?_
  rintro e w' ⟨rfl, hx⟩
  have hgr : Grows X.w w' := hx
  exact ⟨_, grown X w', rfl, rfl, ext_grown hI hgr, inv_grown (itp_mono _) hI hgr, set_rep _⟩
/-! ### bytes as numbers -/
def u8of (x : Int) : UInt8 := UInt8.ofNat x.toNat
theorem u8c {x : Int} (h : 0 ≤ x ∧ x < 256) : (((u8of x).toNat : Nat) : Int) = x := by
  unfold u8of
  rw [UInt8.toNat_ofNat']
  omega
end Go.Ab
