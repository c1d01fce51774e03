/-
  RxWrong says yes.
-/
import Derived.Test.YtaocggpaiafeeaaZrxW5
set_option linter.unusedSimpArgs false
set_option linter.unusedVariables false
namespace Go.Ab
open Go Go.RowKit Go.Fwd Go.Proofs

theorem not_CR {t : Tr} (h : rightT t = false) : (pre t).all rightT = false := by rw [pre_eq, List.all_cons, h]; rfl
theorem not_clean {t : Tr} (h : rightT t = false) : cleanT t = false := by rw [cleanT, not_CR h, Bool.and_false]
theorem not_clean_in {t x : Tr} (h : x ∈ pre t) (hx : rightT x = false) : cleanT t = false := by
  rw [cleanT]
  have : (pre t).all rightT = false := by
    rw [Bool.eq_false_iff]; intro e
    rw [List.all_eq_true.1 e x h] at hx; cases hx
  rw [this, Bool.and_false]
theorem light_ofW {t : Tr} (h : (pre t).length ≤ 10000) : lightT t = true := by simpa [lightT] using h
theorem mem_self (t : Tr) : t ∈ pre t := by rw [pre_eq]; simp
theorem mem_n {a b bad : Tr} : bad ∈ pre (Tr.mk 3 0#256 0 0 [Tr.mk 6 0#256 0 0 [a], Tr.mk 6 0#256 0 0 [bad], Tr.mk 6 0#256 0 0 [b]]) := by
  have := mem_self bad
  simp only [pre, preL, List.mem_cons, List.mem_append, List.append_nil]
  exact .inr (.inr (.inl (.inr this)))
theorem mem_g {t x : Tr} (h : x ∈ pre t) : x ∈ pre (Tr.mk 6 0#256 0 0 [t]) := by simp only [pre, preL, List.mem_cons, List.append_nil]; exact .inr h
theorem checked_none {t : Tr} (h : cleanT t = false) : checkedT t = noneT := by rw [checkedT, h]; rfl
theorem good_not {t : Tr} (h : cleanT t = false) (hk : t.k ≠ 0) : goodT t = false := by
  rw [goodT, h, Bool.or_false]
  rw [Bool.eq_false_iff]; intro e
  have := (sameT_iff _ _).1 e
  rw [this] at hk; exact hk rfl
theorem seq_not {l : List Tr} {t : Tr} (ht : t ∈ l) (h : cleanT t = false) : seqT l = noneT := by
  rw [seqT, if_pos]
  rw [List.any_eq_true]; exact ⟨t, ht, by rw [h]; simp⟩
theorem or_not {l : List Tr} {t : Tr} (ht : t ∈ l) (h : goodT t = false) : orT l = noneT := by
  rw [orT, if_pos]
  rw [List.any_eq_true]; exact ⟨t, ht, by rw [h]; rfl⟩
theorem times_not {t : Tr} (h : goodT t = false) (lo hi : Int) : timesT t lo hi = noneT := by
  rw [timesT, h]; rfl
theorem check_not {t : Tr} (h : cleanT t = false) : checkE t = 80 := by rw [checkE, h]; rfl
theorem wrong_kind (w : Nat) (h : w < 256) : rightT (Tr.mk (Int.toNat (IntKind.u8.wrap (7 + (Int.tmod w 200)))) (0#256) 0 0 []) = false := by
  have e : Int.toNat (IntKind.u8.wrap (7 + (Int.tmod w 200))) = 7 + w % 200 := by
    have : IntKind.u8.wrap (7 + (Int.tmod w 200)) = ((7 + w % 200 : Nat) : Int) := by
      have h1 : (Int.tmod (w : Int) 200) = ((w % 200 : Nat) : Int) := rfl
      rw [h1]
      simp only [IntKind.wrap, IntKind.bits, IntKind.signed]
      simp; omega
    rw [this]; rfl
  rw [e]
  generalize hk : 7 + w % 200 = k
  have h7 : 7 ≤ k := by omega
  rw [Bool.eq_false_iff]; intro e
  have := right_k e
  simp only [Tr.k] at this; omega
theorem wrong_bad (x1 x2 : Tr) (w : Nat) (hw : w < 256) (bad : Tr)
    (h : ix [(Tr.mk 0 (0#256) 0 0 []), (Tr.mk (Int.toNat (IntKind.u8.wrap (7 + (Int.tmod w 200)))) (0#256) 0 0 []), Tr.mk 3 0#256 0 0 [clsT [97]], Tr.mk 4 0#256 0 0 [x2], Tr.mk 3 0#256 0 0 [clsT [97], (Tr.mk 1 (0#256) 0 0 [])], Tr.mk 3 0#256 0 0 [clsT [97], Tr.mk 3 0#256 0 0 [clsT [97], clsT [97]]], Tr.mk 4 0#256 0 0 [clsT [97], Tr.mk 4 0#256 0 0 [clsT [97], clsT [97]]], Tr.mk 5 0#256 1 1 [clsT [97]], Tr.mk 5 0#256 2 1 [clsT [97]], Tr.mk 5 0#256 0 1 [(Tr.mk 1 (0#256) 0 0 [])], (Tr.mk 2 (0#256) 0 0 []), (Tr.mk 6 (0#256) 0 0 [clsT [97], clsT [97]])] (Int.tmod w 12) = bad)
    (h2 : (pre x2).length ≤ 50) : rightT bad = false ∧ (pre bad).length ≤ 60 := by
  have h1 : (Int.tmod (w : Int) 12) = ((w % 12 : Nat) : Int) := rfl
  rw [h1] at h
  have hj : w % 12 < 12 := Nat.mod_lt _ (by decide)
  have hk := wrong_kind w hw
  have hc : (pre (clsT [97])).length = 1 := rfl
  generalize hB : (Tr.mk (Int.toNat (IntKind.u8.wrap (7 + (Int.tmod w 200)))) (0#256) 0 0 []) = B at h hk
  have hBl : (pre B).length = 1 := by rw [← hB]; simp [pre, preL]
  generalize w % 12 = j at h hj
  have e : ∀ (l : List Tr), ix l ((j : Nat) : Int) = l.getD j Enc.inh := fun l => rfl
  rw [e] at h
  match j, hj with
  | 0, _ => subst h; exact ⟨show rightT (Tr.mk 0 (0#256) 0 0 []) = false from by decide +kernel, show (pre (Tr.mk 0 (0#256) 0 0 [])).length ≤ 60 from by decide +kernel⟩
  | 1, _ => subst h; exact ⟨hk, by simp [hBl]⟩
  | 2, _ => subst h; exact ⟨show rightT (Tr.mk 3 0#256 0 0 [clsT [97]]) = false from by decide +kernel, show (pre (Tr.mk 3 0#256 0 0 [clsT [97]])).length ≤ 60 from by decide +kernel⟩
  | 3, _ => subst h; exact ⟨by simp [rightT_mk, List.getD], by simp [List.getD, pre, preL]; omega⟩
  | 4, _ => subst h; exact ⟨show rightT (Tr.mk 3 0#256 0 0 [clsT [97], (Tr.mk 1 (0#256) 0 0 [])]) = false from by decide +kernel, show (pre (Tr.mk 3 0#256 0 0 [clsT [97], (Tr.mk 1 (0#256) 0 0 [])])).length ≤ 60 from by decide +kernel⟩
  | 5, _ => subst h; exact ⟨show rightT (Tr.mk 3 0#256 0 0 [clsT [97], Tr.mk 3 0#256 0 0 [clsT [97], clsT [97]]]) = false from by decide +kernel, show (pre (Tr.mk 3 0#256 0 0 [clsT [97], Tr.mk 3 0#256 0 0 [clsT [97], clsT [97]]])).length ≤ 60 from by decide +kernel⟩
  | 6, _ => subst h; exact ⟨show rightT (Tr.mk 4 0#256 0 0 [clsT [97], Tr.mk 4 0#256 0 0 [clsT [97], clsT [97]]]) = false from by decide +kernel, show (pre (Tr.mk 4 0#256 0 0 [clsT [97], Tr.mk 4 0#256 0 0 [clsT [97], clsT [97]]])).length ≤ 60 from by decide +kernel⟩
  | 7, _ => subst h; exact ⟨show rightT (Tr.mk 5 0#256 1 1 [clsT [97]]) = false from by decide +kernel, show (pre (Tr.mk 5 0#256 1 1 [clsT [97]])).length ≤ 60 from by decide +kernel⟩
  | 8, _ => subst h; exact ⟨show rightT (Tr.mk 5 0#256 2 1 [clsT [97]]) = false from by decide +kernel, show (pre (Tr.mk 5 0#256 2 1 [clsT [97]])).length ≤ 60 from by decide +kernel⟩
  | 9, _ => subst h; exact ⟨show rightT (Tr.mk 5 0#256 0 1 [(Tr.mk 1 (0#256) 0 0 [])]) = false from by decide +kernel, show (pre (Tr.mk 5 0#256 0 1 [(Tr.mk 1 (0#256) 0 0 [])])).length ≤ 60 from by decide +kernel⟩
  | 10, _ => subst h; exact ⟨show rightT (Tr.mk 2 (0#256) 0 0 []) = false from by decide +kernel, show (pre (Tr.mk 2 (0#256) 0 0 [])).length ≤ 60 from by decide +kernel⟩
  | 11, _ => subst h; exact ⟨show rightT (Tr.mk 6 (0#256) 0 0 [clsT [97], clsT [97]]) = false from by decide +kernel, show (pre (Tr.mk 6 (0#256) 0 0 [clsT [97], clsT [97]])).length ≤ 60 from by decide +kernel⟩
theorem rxwrong_true (k l : List Sm) (hk : k.length < 2 ^ 63) (hl : l.length < 2 ^ 63) (w : Nat) (hw : w < 256) : F_rxwrong 10 k l w = some true := by
  unfold F_rxwrong
  refine chk_i hk (letE_i fun x1 h1 => ?_)
  refine chk_i hl (letE_i fun x2 h2 => ?_)
  refine letE_i fun x3 h3 => ?_
  subst h3
  refine chk_i (by simp only [IntKind.wrap, IntKind.bits, IntKind.signed]; simp; omega) ?_
  refine letE_i fun x4 h4 => letE_i fun x5 h5 => letE_i fun x6 h6 => letE_i fun x7 h7 => letE_i fun x8 h8 => letE_i fun x9 h9 => letE_i fun x10 h10 => letE_i fun x11 h11 => letE_i fun x12 h12 => letE_i fun x13 h13 => ?_
  have m1 : MT x1 := h1 ▸ made_mt k
  have m2 : MT x2 := h2 ▸ made_mt l
  have l1 := m1.len
  have l2 := m2.len
  refine chk_i (by have h1 : (Int.tmod (w : Int) 12) = ((w % 12 : Nat) : Int) := rfl; rw [h1]; simp only [List.length_cons, List.length_nil]; omega) (letE_i fun bad hb => ?_)
  subst h7 h9
  subst h4 h5 h6 h8 h10 h11 h12 h13
  obtain ⟨b1, b2⟩ := wrong_bad x1 x2 w hw bad hb l2
  have bc := not_clean b1
  refine letE_i fun y1 e1 => letE_i fun y2 e2 => letE_i fun y3 e3 => letE_i fun n hn => ?_
  have hn0 : n.k ≠ 0 := by rw [← hn]; exact show (3 : Nat) ≠ 0 by decide
  have hnl : (pre n).length ≤ 200 := by rw [← hn, ← e1, ← e2, ← e3]; simp [pre, preL]; omega
  have nc : cleanT n = false := by
    refine not_clean_in (x := bad) ?_ b1
    rw [← hn, ← e1, ← e2, ← e3]; exact mem_n
  have ng := good_not nc hn0
  refine chk_i (by omega) (letE_i fun c1 q1 => bif_f (by rw [← q1]; exact nc) ?_)
  refine chk_i (show (pre n).length < 2 ^ 61 by omega) (letE_i fun c2 q2 => bif_f (by rw [← q2]; show (checkE n != 80) = false; rw [check_not nc]; rfl) ?_)
  refine chk_i (by omega) (letE_i fun c3 q3 => bif_f (by rw [← q3]; exact bc) ?_)
  refine cutE_i () ?_ ?_
  · refine chk_i (by simp [preL]; omega) (letE_i fun z1 r1 => ?_)
    refine chk_i (by simp [preL]; omega) (letE_i fun z2 r2 => ?_)
    refine chk_i (by omega) (letE_i fun z3 r3 => ?_)
    refine chk_i (by omega) (letE_i fun z4 r4 => ?_)
    refine chk_i (by omega) (letE_i fun z5 r5 => ?_)
    refine chk_i (by simp [preL]; omega) (letE_i fun z6 r6 => ?_)
    rw [seq_not (t := n) (by simp) nc] at r1
    rw [or_not (t := n) (by simp) ng] at r2
    rw [times_not ng] at r3
    rw [captureT, checked_none (not_clean_in (x := bad) (mem_g (by rw [← hn, ← e1, ← e2, ← e3]; exact mem_n)) b1)] at r4
    rw [captureT, checked_none (not_clean_in (x := bad) (mem_g (mem_self bad)) b1)] at r5
    rw [seq_not (t := bad) (by simp) bc] at r6
    subst r1 r2 r3 r4 r5 r6
    decide +kernel
  · refine letE_i fun z1 r1 => bif_t (by rw [← r1]; decide +kernel) ?_
    refine chk_i (by omega) (letE_i fun z2 r2 => ?_)
    rw [← r2, same_refl (light_ofW (by omega))]
theorem rxwrong_pure (k l : List Sm) (hk : k.length < 2 ^ 63) (hl : l.length < 2 ^ 63) (w : Nat) (hw : w < 256) : Pure (ITP Try.prog) Try.prog 5 [.list k.length (smcL k) .none, .list l.length (smcL l) .none, .raw (.int .u8 w)] (.raw (.bool true)) :=
  rxwrong_sh 10 k l w true (rxwrong_true k l hk hl w hw)
end Go.Ab
