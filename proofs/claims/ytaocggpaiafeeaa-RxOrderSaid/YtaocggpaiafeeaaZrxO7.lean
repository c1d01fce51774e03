/-
  RxOrder says yes.
-/
import Derived.Test.YtaocggpaiafeeaaZrxOw
set_option linter.unusedSimpArgs false
set_option linter.unusedVariables false
namespace Go.Ab
open Go Go.RowKit Go.Fwd Go.Proofs

theorem light_ofO {t : Tr} (h : (pre t).length ≤ 10000) : lightT t = true := by simpa [lightT] using h
theorem compare_eq {a b : Tr} (ha : (pre a).length ≤ 10000) (hb : (pre b).length ≤ 10000) : F_compare a b = some (cmpT a b) := by
  unfold F_compare
  refine chk_i (by omega) (letE_i fun x1 e1 => bif_f (by rw [← e1, light_ofO ha]; rfl) ?_)
  refine chk_i (by omega) (letE_i fun x2 e2 => bif_f (by rw [← e2, light_ofO hb]; rfl) ?_)
  exact chk_i (by omega) rfl
theorem cmp_same {a b : Tr} (ha : CR a) (hb : CR b) (la : (pre a).length ≤ 10000) (lb : (pre b).length ≤ 10000) : (cmpT a b == 0) = sameB a b := by
  rw [sameB, light_ofO la, light_ofO lb, Bool.true_and, Bool.true_and, Bool.eq_iff_iff, sameT_iff, beq_iff_eq]
  exact ⟨cmpT_eq a b ha hb, fun h => by rw [h]; exact cmp_self b⟩
theorem sameB_comm (a b : Tr) : sameB a b = sameB b a := by
  rw [sameB, sameB, Bool.and_comm (lightT a)]
  congr 1
  rw [Bool.eq_iff_iff, sameT_iff, sameT_iff]; exact ⟨Eq.symm, Eq.symm⟩
theorem cmpT_k {a b : Tr} (h : a.k ≠ b.k) : cmpT a b = cmpI a.k b.k := by
  cases a; cases b; simp only [Tr.k] at h ⊢; rw [cmpT, if_pos h]
theorem CR_q : CR (clsT [113]) := (CR_iff _).2 ⟨by decide +kernel, CRL_nil⟩
theorem CR_r : CR (clsT [114]) := (CR_iff _).2 ⟨by decide +kernel, CRL_nil⟩
theorem CR_z : CR (clsT [0]) := (CR_iff _).2 ⟨by decide +kernel, CRL_nil⟩
theorem pre_cls (l : List Nat) : (pre (clsT l)).length = 1 := by simp [clsT, pre, preL]
theorem seq_more {a : Tr} (h : MT a) : ∃ L, seqT [clsT [113], a, clsT [114]] = Tr.mk 3 0#256 0 0 L ∧ seqT [Tr.mk 3 0#256 0 0 L, clsT [0]] = Tr.mk 3 0#256 0 0 (L ++ [clsT [0]]) ∧ (preL L).length ≤ 60 := by
  have hl := h.len
  have c : CRL [clsT [113], a, clsT [114]] := by rw [CRL_cons, CRL_cons, CRL_cons]; exact ⟨CR_q, h.cr, CR_r, CRL_nil⟩
  have pl : (preL [clsT [113], a, clsT [114]]).length ≤ 52 := by simp [preL, pre_cls]; omega
  have hs := seq_eq c (by omega)
  have g := flat3_good c
  have fl := flatJ_preL 3 [clsT [113], a, clsT [114]]
  have fe : flatJ 3 [clsT [113], a, clsT [114]] = clsT [113] :: (flatJ 3 [a] ++ [clsT [114]]) := by
    rw [flatJ_cons, flatJ_cons, flatJ_cons, flatJ_nil]
    rw [flatJ_cons, flatJ_nil]
    rw [show ((((clsT [113]).k : Nat) : Int) == ((3 : Nat) : Int)) = false from rfl, show ((((clsT [114]).k : Nat) : Int) == ((3 : Nat) : Int)) = false from rfl, show ((((3 : Nat) : Int) == 3) && ((((clsT [113]).k : Nat) : Int) == 1)) = false from rfl, show ((((3 : Nat) : Int) == 3) && ((((clsT [114]).k : Nat) : Int) == 1)) = false from rfl]
    simp
  obtain ⟨L, hL⟩ : ∃ L, flatJ 3 [clsT [113], a, clsT [114]] = L := ⟨_, rfl⟩
  obtain ⟨y, M, hM⟩ : ∃ y M, L = clsT [113] :: y :: M := by
    rw [← hL, fe]
    cases flatJ 3 [a] with
    | nil => exact ⟨_, _, rfl⟩
    | cons y M => exact ⟨_, _, rfl⟩
  rw [hL] at hs g fl
  have hs' : seqT [clsT [113], a, clsT [114]] = Tr.mk 3 0#256 0 0 L := by rw [hs, hM, endJ_two]
  refine ⟨L, hs', ?_, by omega⟩
  have cr : CR (Tr.mk 3 0#256 0 0 L) := by
    have := endJ3_CR g
    rw [hM, endJ_two, ← hM] at this; exact this
  have c2 : CRL [Tr.mk 3 0#256 0 0 L, clsT [0]] := by rw [CRL_cons, CRL_cons]; exact ⟨cr, CR_z, CRL_nil⟩
  have p2 : (preL [Tr.mk 3 0#256 0 0 L, clsT [0]]).length ≤ 1000 := by simp [preL, pre, pre_cls]; omega
  rw [seq_eq c2 p2]
  have fe2 : flatJ 3 [Tr.mk 3 0#256 0 0 L, clsT [0]] = L ++ [clsT [0]] := by
    rw [flatJ_cons, flatJ_cons, flatJ_nil]; rfl
  rw [fe2, hM]; exact endJ_two 3 _ _ _
theorem times_le {a : Tr} (h : MT a) : cmpT (timesT a 0 5) (timesT a 0 (-1)) ≤ 0 := by
  by_cases hk : a.k = 1
  · rw [times_emp h (by decide) hk, times_emp h (by decide) hk, cmp_self]; decide
  · rw [times_rep h (by decide) hk (by decide) (by decide), times_rep h (by decide) hk (by decide) (by decide), cmpT]
    simp only [ne_eq, not_true_eq_false, if_false, if_true, show ¬ (5 = 2) by decide]
    have : thenC (thenC (cmpI 0 0) (cmpI (mostN 5) (mostN (-1)))) (cmpL [a] [a]) = -1 := by
      rw [show thenC (cmpI 0 0) (cmpI (mostN 5) (mostN (-1))) = -1 from by decide]; rfl
    rw [this]; decide
theorem times_len {a : Tr} (h : MT a) {lo hi : Int} (hg : goodL lo hi = true) : (pre (timesT a lo hi)).length ≤ 60 := by
  have hl := h.len
  by_cases hk : a.k = 1
  · rw [times_emp h hg hk]; simp [emptyT, pre, preL]
  · by_cases h0 : hi = 0
    · rw [times_zero h hg h0]; simp [emptyT, pre, preL]
    · by_cases h1 : lo = 1 ∧ hi = 1
      · rw [h1.1, h1.2, times_11' h]; omega
      · rw [times_rep h hg hk h0 h1, pre_one]; omega
theorem rxorder_true (j k l : List Sm) (hj : j.length < 2 ^ 63) (hk : k.length < 2 ^ 63) (hl : l.length < 2 ^ 63) : F_rxorder j k l = some true := by
  unfold F_rxorder
  refine chk_i hj (letE_i fun x1 h1 => chk_i hk (letE_i fun x2 h2 => chk_i hl (letE_i fun x3 h3 => ?_)))
  have m1 : MT x1 := h1 ▸ made_mt j
  have m2 : MT x2 := h2 ▸ made_mt k
  have m3 : MT x3 := h3 ▸ made_mt l
  have l1 := m1.len
  have l2 := m2.len
  have l3 := m3.len
  refine bindE_i (cmpT x1 x2) (compare_eq (by omega) (by omega)) (bindE_i (cmpT x2 x1) (compare_eq (by omega) (by omega)) (bindE_i (cmpT x2 x3) (compare_eq (by omega) (by omega)) (bindE_i (cmpT x1 x3) (compare_eq (by omega) (by omega)) ?_)))
  have r12 := cmpT_range x1 x2
  have r21 := cmpT_range x2 x1
  have an := cmp_anti x1 x2
  have rest : (chk ((pre x1).length < 2 ^ 61 ∧ (pre x2).length < 2 ^ 61) (letE (sameB x1 x2) (fun x9 => (chk ((pre x2).length < 2 ^ 61 ∧ (pre x1).length < 2 ^ 61) (letE (sameB x2 x1) (fun x10 => (bif (!(x9 == x10)) then (some (Sum.inr false)) else (chk (j.length < 2 ^ 63) (letE (madeT j) (fun x11 => (chk ((pre x1).length < 2 ^ 61 ∧ (pre x11).length < 2 ^ 61) (letE (sameB x1 x11) (fun x12 => (bif (!x12) then (some (Sum.inr false)) else (some (Sum.inl () : Unit ⊕ Bool)))))))))))))))) = some (.inl ()) := by
    refine chk_i (by omega) (letE_i fun x9 e9 => chk_i (by omega) (letE_i fun x10 e10 => bif_f (by rw [← e9, ← e10, sameB_comm x1 x2]; simp) (chk_i hj (letE_i fun x11 e11 => ?_))))
    have : x11 = x1 := by rw [← e11, h1]
    subst this
    exact chk_i (by omega) (letE_i fun x12 e12 => bif_f (by rw [← e12, same_refl (light_ofO (by omega))]; rfl) rfl)
  refine cutE_i () ?_ ?_
  · refine chk_i (by omega) (bif_f (by simp; omega) (bif_f (by simp; omega) (bif_f (by simp; omega) ?_)))
    refine chk_i (by omega) (letE_i fun x8 e8 => bif_f (by rw [← e8, cmp_same m1.cr m2.cr (by omega) (by omega)]; simp) ?_)
    refine bif_i (fun c1 => bif_i (fun c2 => bif_f ?_ ?_) (fun c2 => ?_)) (fun c1 => ?_)
    · have := cmp_trans x1 x2 x3 (by simpa using c1) (by simpa using c2)
      simp; omega
    · exact rest
    · exact rest
    · exact rest
  · refine bif_i (fun c => ?_) (fun c => ?_)
    · have hne : x1.k ≠ x2.k := by simp at c; omega
      rw [cmpT_k hne]
      congr 1
      rw [beq_iff_eq, Bool.eq_iff_iff, decide_eq_true_eq, decide_eq_true_eq, cmpI_neg]
    · obtain ⟨L, s1, s2, s3⟩ := seq_more m1
      refine letE_i fun x21 e21 => letE_i fun x22 e22 => ?_
      subst e21 e22
      refine chk_i (by simp [preL, pre_cls]; omega) (letE_i fun x23 e23 => letE_i fun x24 e24 => ?_)
      rw [s1] at e23
      subst e23 e24
      refine chk_i (by simp [preL, pre, pre_cls]; omega) (letE_i fun x25 e25 => ?_)
      rw [s2] at e25
      subst e25
      have pz := pre_cls [0]
      refine bindE_i (cmpT (Tr.mk 3 0#256 0 0 L) (Tr.mk 3 0#256 0 0 (L ++ [clsT [0]]))) (compare_eq (by rw [pre, List.length_cons]; omega) (by rw [pre, List.length_cons, preL_append, List.length_append]; simp [preL, pz]; omega)) ?_
      have e : cmpT (Tr.mk 3 0#256 0 0 L) (Tr.mk 3 0#256 0 0 (L ++ [clsT [0]])) = -1 := by
        rw [cmpT]; simp [cmpL_more]
      rw [e]
      refine bif_t rfl (chk_i (by omega) (letE_i fun x27 e27 => chk_i (by omega) (letE_i fun x28 e28 => ?_)))
      have t1 := times_len m1 (lo := 0) (hi := 5) (by decide)
      have t2 := times_len m1 (lo := 0) (hi := -1) (by decide)
      have t3 := times_le m1
      rw [e27] at t1 t3
      rw [e28] at t2 t3
      refine bindE_i (cmpT x27 x28) (compare_eq (by omega) (by omega)) (bif_t (by simpa using t3) (letE_i fun x30 e30 => letE_i fun x31 e31 => ?_))
      subst e30 e31
      refine bindE_i (cmpT x1 x2) ?_ (by simp)
      rw [compare_eq (by rw [pre_one]; omega) (by rw [pre_one]; omega), cmpT]
      simp [cmpL, thenC]; exact fun h => h.symm
theorem rxorder_pure (j k l : List Sm) (hj : j.length < 2 ^ 63) (hk : k.length < 2 ^ 63) (hl : l.length < 2 ^ 63) : Pure (ITP Try.prog) Try.prog 7 [.list j.length (smcL j) .none, .list k.length (smcL k) .none, .list l.length (smcL l) .none] (.raw (.bool true)) :=
  rxorder_sh j k l true (rxorder_true j k l hj hk hl)
end Go.Ab
