/-
  trace: TraceWrong: plain.
-/
import Derived.Test.YtcdmdnadilafhaaDoorZtPc
import Derived.Test.YtcdmdnadilafhaaDoorZtWd
set_option linter.unusedSimpArgs false
set_option linter.unusedVariables false
namespace Go.Ab
open Go Go.RowKit Go.Fwd
abbrev cutQ {τ α : Type} (R : τ → Prop) (Q : α → Prop) (o : τ ⊕ α) : Prop := match o with | .inl t => R t | .inr y => Q y
def Ok {α : Type} (Q : α → Prop) (x : Option α) : Prop := ∃ r, x = some r ∧ Q r
section
variable {α β τ ρ : Type} {Q : α → Prop}
theorem ok_chk {p : Prop} [Decidable p] {k : Option α} (h : p) (hk : Ok Q k) : Ok Q (chk p k) := by rw [chk_pos h]; exact hk
theorem ok_letE {e : β} {k : β → Option α} (h : ∀ x, e = x → Ok Q (k x)) : Ok Q (letE e k) := h e rfl
theorem ok_bif {c : Bool} {A B : Option α} (ht : c = true → Ok Q A) (hf : c = false → Ok Q B) : Ok Q (bif c then A else B) := by
  cases c with
  | true => exact ht rfl
  | false => exact hf rfl
theorem ok_some {r : α} (h : Q r) : Ok Q (some r) := ⟨r, rfl, h⟩
theorem Ok.mono {R : α → Prop} {x : Option α} (h : Ok Q x) (hR : ∀ r, Q r → R r) : Ok R x := by
  obtain ⟨r, h1, h2⟩ := h; exact ⟨r, h1, hR r h2⟩
theorem Ok.eq {x : Option α} {v : α} (h : Ok (fun r => r = v) x) : x = some v := by
  obtain ⟨r, h1, rfl⟩ := h; exact h1
end
end Go.Ab
set_option linter.unusedSimpArgs false
set_option linter.unusedVariables false
set_option maxRecDepth 100000
namespace Go.Ab
open Go Go.RowKit Go.Fwd Go.Proofs
def wrongT (fuel : Nat) (x1 : Trc) (W : List En) (how n i : Int) : Option Bool :=
  (bindE (F_check fuel (Trc.mk W (Ed.mk ((Ed.mk 0 0).k) ((Ed.mk 0 0).c)))) (fun x4 => (bindE (F_write fuel (Trc.mk W (Ed.mk ((Ed.mk 0 0).k) ((Ed.mk 0 0).c)))) (fun x5 => (bif (x4.1 != i) then (some false) else (bif (x4.2 != 330) then (some false) else (bif (x5.2 != x4.2) then (some false) else (bif (!(x5.1 == ([] : List UInt8))) then (some false) else (bindE (F_taken fuel (Trc.mk W (Ed.mk ((Ed.mk 0 0).k) ((Ed.mk 0 0).c)))) (fun x6 => (bindE (F_lost fuel (Trc.mk W (Ed.mk ((Ed.mk 0 0).k) ((Ed.mk 0 0).c)))) (fun x7 => (chk (-9223372036854775808 ≤ (x6 + x7) ∧ (x6 + x7) < 9223372036854775808) (bindE (F_at fuel (Trc.mk W (Ed.mk ((Ed.mk 0 0).k) ((Ed.mk 0 0).c)))) (fun x8 => (chk (-9223372036854775808 ≤ ((x6 + x7) + x8) ∧ ((x6 + x7) + x8) < 9223372036854775808) (bif (((x6 + x7) + x8) != 0) then (some false) else (chk (0 ≤ (Int.tmod how 5) ∧ (Int.tmod how 5) < (List.length [(Ed.mk 0 0), (Ed.mk (max how 6) 0), (Ed.mk 1 (max n 1)), (Ed.mk 2 (max n 256)), (Ed.mk 2 (min n (-1)))] : Int)) (letE (ix [(Ed.mk 0 0), (Ed.mk (max how 6) 0), (Ed.mk 1 (max n 1)), (Ed.mk 2 (max n 256)), (Ed.mk 2 (min n (-1)))] (Int.tmod how 5)) (fun x9 => (bindE (F_check fuel (Trc.mk x1.l x9)) (fun x10 => (bindE (F_write fuel (Trc.mk x1.l x9)) (fun x11 => (bif (x10.1 == (-1)) then (bif (x10.2 == 331) then (bif (x11.2 == x10.2) then (some true) else (some false)) else (some false)) else (some false))))))))))))))))))))))))))
theorem sumP_atW : ∀ (a : Int) (l : List En), 0 ≤ a → okL a l → sumP (fun _ => true) l = atL a l - a
  | a, [], _, _ => by simp [sumP, atL]
  | a, e :: l, ha, h => by
    have ih := sumP_atW (max a e.to) l (by omega) h.2
    rw [sumP, atL, ih]
    simp only [if_true]
    rcases h.1 with ⟨k1, k2, k3, _⟩ | ⟨k1, k2, k3, k4, _⟩ <;> omega
theorem seven {how n off : Int} (h : 0 ≤ how ∧ how < 256) : ∃ x, ix [(En.mk 0 0 0 []), (En.mk (max how 4) 0 0 []), (En.mk 1 (max n 1) 0 []), (En.mk 2 off off ([120] : List UInt8)), (En.mk 2 (off + 1) (off + 1) []), (En.mk 3 off off []), (En.mk 2 off (max n 1073741825) [])] (Int.tmod how 7) = x ∧ ¬ rightP x off := by
  have h1 := Int.tmod_nonneg 7 h.1
  have h2 := Int.tmod_lt_of_pos how (show (0 : Int) < 7 by decide)
  generalize Int.tmod how 7 = q at h1 h2
  rcases (show q = 0 ∨ q = 1 ∨ q = 2 ∨ q = 3 ∨ q = 4 ∨ q = 5 ∨ q = 6 by omega) with rfl | rfl | rfl | rfl | rfl | rfl | rfl
  · refine ⟨En.mk 0 0 0 [], rfl, fun hr => ?_⟩
    rcases hr with ⟨a, b, c, d⟩ | ⟨a, b, c, d, e, f⟩ <;> simp only at * <;> omega
  · refine ⟨En.mk (max how 4) 0 0 [], rfl, fun hr => ?_⟩
    rcases hr with ⟨a, b, c, d⟩ | ⟨a, b, c, d, e, f⟩ <;> simp only at * <;> omega
  · refine ⟨En.mk 1 (max n 1) 0 [], rfl, fun hr => ?_⟩
    rcases hr with ⟨a, b, c, d⟩ | ⟨a, b, c, d, e, f⟩ <;> simp only at * <;> omega
  · refine ⟨En.mk 2 off off [120], rfl, fun hr => ?_⟩
    rcases hr with ⟨a, b, c, d⟩ | ⟨a, b, c, d, e, f⟩
    · simp only at a; omega
    · cases c
  · refine ⟨En.mk 2 (off + 1) (off + 1) [], rfl, fun hr => ?_⟩
    rcases hr with ⟨a, b, c, d⟩ | ⟨a, b, c, d, e, f⟩
    · simp only at a; omega
    · simp only at b; omega
  · refine ⟨En.mk 3 off off [], rfl, fun hr => ?_⟩
    rcases hr with ⟨a, b, c, d⟩ | ⟨a, b, c, d, e, f⟩
    · simp only at a; omega
    · simp only at f; omega
  · refine ⟨En.mk 2 off (max n 1073741825) [], rfl, fun hr => ?_⟩
    rcases hr with ⟨a, b, c, d⟩ | ⟨a, b, c, d, e, f⟩
    · simp only at a; omega
    · simp only at e; omega
theorem fiveE {how n : Int} (h : 0 ≤ how ∧ how < 256) : ∃ x, ix [(Ed.mk 0 0), (Ed.mk (max how 6) 0), (Ed.mk 1 (max n 1)), (Ed.mk 2 (max n 256)), (Ed.mk 2 (min n (-1)))] (Int.tmod how 5) = x ∧ endedB x = false ∧ 0 ≤ x.k ∧ x.k < 256 := by
  have h1 := Int.tmod_nonneg 5 h.1
  have h2 := Int.tmod_lt_of_pos how (show (0 : Int) < 5 by decide)
  generalize Int.tmod how 5 = q at h1 h2
  rcases (show q = 0 ∨ q = 1 ∨ q = 2 ∨ q = 3 ∨ q = 4 by omega) with rfl | rfl | rfl | rfl | rfl
  · exact ⟨Ed.mk 0 0, rfl, by decide, by decide, by decide⟩
  · refine ⟨Ed.mk (max how 6) 0, rfl, ?_, by show 0 ≤ max how 6; omega, by show max how 6 < 256; omega⟩
    show (if max how 6 = 2 then _ else decide (1 ≤ max how 6 ∧ max how 6 ≤ 5 ∧ (0 : Int) = 0)) = false
    rw [if_neg (show ¬ max how 6 = 2 by omega)]
    exact decide_eq_false (by omega)
  · refine ⟨Ed.mk 1 (max n 1), rfl, ?_, (by decide : (0 : Int) ≤ 1), (by decide : (1 : Int) < 256)⟩
    show (if (1 : Int) = 2 then _ else decide ((1 : Int) ≤ 1 ∧ (1 : Int) ≤ 5 ∧ max n 1 = 0)) = false
    rw [if_neg (by decide)]
    exact decide_eq_false (by omega)
  · refine ⟨Ed.mk 2 (max n 256), rfl, ?_, (by decide : (0 : Int) ≤ 2), (by decide : (2 : Int) < 256)⟩
    show (if (2 : Int) = 2 then decide (0 ≤ max n 256 ∧ max n 256 ≤ 255) else _) = false
    rw [if_pos rfl]
    exact decide_eq_false (by omega)
  · refine ⟨Ed.mk 2 (min n (-1)), rfl, ?_, (by decide : (0 : Int) ≤ 2), (by decide : (2 : Int) < 256)⟩
    show (if (2 : Int) = 2 then decide (0 ≤ min n (-1) ∧ min n (-1) ≤ 255) else _) = false
    rw [if_pos rfl]
    exact decide_eq_false (by omega)
theorem write_bad {fuel : Nat} {t : Trc} {k c : Int} (h : F_check fuel t = some (k, c)) (hc : c ≠ 0) : F_write fuel t = some ([], c) := by
  unfold F_write
  rw [h, bindE_some]
  exact bif_t (by simpa using hc) rfl
theorem check_ins (l : List En) (x : En) (m : Nat) (e : Ed) (hl : l.length ≤ 40) (hm : m ≤ l.length) (hok : okL 0 l) (hx : ¬ rightP x (atL 0 (l.take m))) : checkP ⟨l.take m ++ x :: l.drop m, e⟩ = ((m : Int), 330) := by
  have h1 : nOk 0 (l.take m ++ x :: l.drop m) = m := by
    rw [nOk_app 0 _ _ (okL_take hok m), nOk, if_neg hx, List.length_take]; omega
  have h2 : (l.take m ++ x :: l.drop m).length = l.length + 1 := by simp; omega
  unfold checkP
  rw [if_neg (by show ¬ _ > _; rw [h2]; omega), if_pos (by show nOk 0 _ < _; rw [h1, h2]; omega)]
  show (((nOk 0 (l.take m ++ x :: l.drop m) : Nat) : Int), (330 : Int)) = _
  rw [h1]
theorem tail_ok (t : Trc) (x : En) (how n : Int) (m : Nat) (hM : MadeOk t) (hm : m ≤ t.l.length) (hx : ¬ rightP x (atL 0 (t.l.take m))) (hh : 0 ≤ how ∧ how < 256) : Ok (fun r => r = true) (wrongT 100 t (t.l.take m ++ x :: t.l.drop m) how n (m : Int)) := by
  have hlen := hM.len
  have hck := check_ins t.l x m ⟨0, 0⟩ hlen hm hM.ok hx
  have hWl : (t.l.take m ++ x :: t.l.drop m).length = t.l.length + 1 := by simp; omega
  have hc : F_check 100 ⟨t.l.take m ++ x :: t.l.drop m, ⟨0, 0⟩⟩ = some ((m : Int), 330) := by
    rw [check_eq 100 _ (by show _ < 100; rw [hWl]; omega) ⟨(by decide : (0 : Int) ≤ 0), (by decide : (0 : Int) < 256)⟩, hck]
  have hw := write_bad hc (by decide)
  have ht := taken_eq 100 ⟨t.l.take m ++ x :: t.l.drop m, ⟨0, 0⟩⟩ (by show _ < 100; rw [hWl]; omega) ⟨(by decide : (0 : Int) ≤ 0), (by decide : (0 : Int) < 256)⟩
  have hl := lost_eq 100 ⟨t.l.take m ++ x :: t.l.drop m, ⟨0, 0⟩⟩ (by show _ < 100; rw [hWl]; omega) ⟨(by decide : (0 : Int) ≤ 0), (by decide : (0 : Int) < 256)⟩
  have ha := at_eq 100 ⟨t.l.take m ++ x :: t.l.drop m, ⟨0, 0⟩⟩ (by show _ < 100; rw [hWl]; omega) ⟨(by decide : (0 : Int) ≤ 0), (by decide : (0 : Int) < 256)⟩
  rw [hck, if_neg (show ¬ ((330 : Int) = 0) by decide)] at ht hl ha
  obtain ⟨e9, h5, he9, hk9⟩ := fiveE (n := n) hh
  have hc9 : F_check 100 ⟨t.l, e9⟩ = some (-1, 331) := by
    rw [check_eq 100 _ (by show t.l.length < 100; omega) hk9]
    unfold checkP
    have h0 : nOk 0 t.l = t.l.length := (nOk_ok 0 t.l).1 hM.ok
    rw [if_neg (by show ¬ t.l.length > 65536; omega), if_neg (by show ¬ nOk 0 t.l < t.l.length; omega), if_neg (by show ¬ endedB e9 = true; rw [he9]; simp)]
  have hw9 := write_bad hc9 (by decide)
  unfold wrongT
  rw [hc, bindE_some, hw, bindE_some]
  refine ok_bif (fun h => by simp at h) fun _ => ok_bif (fun h => by simp at h) fun _ => ok_bif (fun h => by simp at h) fun _ => ok_bif (fun h => by simp at h) fun _ => ?_
  rw [ht, bindE_some, hl, bindE_some]
  refine ok_chk (by omega) ?_
  rw [ha, bindE_some]
  refine ok_chk (by omega) (ok_bif (fun h => by simp at h) fun _ => ok_chk ?_ (ok_letE fun x9 hx9 => ?_))
  · have h1 := Int.tmod_nonneg 5 hh.1
    have h2 := Int.tmod_lt_of_pos how (show (0 : Int) < 5 by decide)
    exact ⟨h1, by simpa using h2⟩
  rw [h5] at hx9
  subst hx9
  rw [hc9, bindE_some, hw9, bindE_some]
  exact ok_bif (fun _ => ok_bif (fun _ => ok_bif (fun _ => ok_some rfl) fun h => by simp at h) fun h => by simp at h) fun h => by simp at h
theorem tracewrong_eq (l : List Sme) (hS : SmB l) (at_ how n : Int) (h1 : 0 ≤ at_ ∧ at_ < 256) (h2 : 0 ≤ how ∧ how < 256) : F_tracewrong 100 l at_ how n = some true := by
  obtain ⟨t, ht, hM, hte⟩ := made_ok l hS 0 0 (by omega) (by omega)
  have hlen := hM.len
  have hek := hM.ek
  have hec := hM.ec
  have he : endedB t.e = true := by
    unfold endedB
    by_cases h : t.e.k = 2
    · rw [if_pos h]; exact decide_eq_true (by omega)
    · rw [if_neg h]; exact decide_eq_true (by omega)
  obtain ⟨m, hm, hml⟩ : ∃ m : Nat, Int.tmod at_ ((t.l.length : Int) + 1) = (m : Int) ∧ m ≤ t.l.length := by
    have h1' := Int.tmod_nonneg ((t.l.length : Int) + 1) h1.1
    have h2' := Int.tmod_lt_of_pos at_ (show (0 : Int) < (t.l.length : Int) + 1 by omega)
    exact ⟨(Int.tmod at_ ((t.l.length : Int) + 1)).toNat, by omega, by omega⟩
  have hokm := okL_take hM.ok m
  have hatq := at_eq 100 ⟨t.l.take m, t.e⟩ (by show (t.l.take m).length < 100; rw [List.length_take]; omega) (by show 0 ≤ t.e.k ∧ t.e.k < 256; omega)
  rw [if_pos ((checkP_ok (t := ⟨t.l.take m, t.e⟩)).2 ⟨by show (t.l.take m).length ≤ 65536; rw [List.length_take]; omega, hokm, he⟩)] at hatq
  have hsum := sumP_atW 0 (t.l.take m) (by omega) hokm
  have hbnd := sumP_bnd (fun _ => true) 0 (t.l.take m) (by omega) hokm
  have hlm : (t.l.take m).length ≤ 40 := by rw [List.length_take]; omega
  obtain ⟨off, hoff⟩ : ∃ off, off = atL 0 (t.l.take m) := ⟨_, rfl⟩
  have hoff2 : sumP (fun _ => true) (t.l.take m) = off := by rw [hsum, hoff]; omega
  have hatq' : F_at 100 ⟨t.l.take m, t.e⟩ = some (sumP (fun _ => true) (t.l.take m)) := hatq
  rw [hoff2] at hatq' hbnd
  obtain ⟨x, h7, hx⟩ := seven (n := n) (off := off) h2
  rw [hoff] at hx
  have htail := tail_ok t x how n m hM hml hx h2
  have hb0 : 0 ≤ off ∧ off < 100000000000 := by
    have h3 : ((t.l.take m).length : Int) ≤ 40 := by omega
    omega
  refine Ok.eq ?_
  unfold F_tracewrong
  rw [ht, bindE_some]
  simp only [hm, sub_take, Int.toNat_natCast]
  refine ok_chk (by omega) (ok_chk (by omega) (ok_chk (by omega) (ok_chk (by omega) ?_)))
  rw [hatq', bindE_some]
  refine ok_chk (by omega) (ok_chk (by omega) (ok_chk ?_ (ok_letE fun x3 hx3 => ?_)))
  · have h1 := Int.tmod_nonneg 7 h2.1
    have h2 := Int.tmod_lt_of_pos how (show (0 : Int) < 7 by decide)
    exact ⟨h1, by simpa using h2⟩
  rw [h7] at hx3
  subst hx3
  unfold wrongT at htail
  refine ok_bif (fun h => ?_) fun h => ?_
  · have h0 : t.l = [] := List.isEmpty_iff.1 h
    have hm0 : m = 0 := by rw [h0] at hml; simpa using hml
    refine ok_chk (by rw [hm0]; simp) ?_
    have e1 : t.l.take m ++ x :: t.l.drop m = [x] := by rw [h0]; simp
    rw [e1] at htail
    exact htail
  · have hne : 0 < t.l.length := List.length_pos_iff.2 fun e0 => by rw [e0] at h; cases h
    refine ok_chk (by omega) (ok_chk ⟨by omega, by omega, hne, by simp, by simp; omega⟩ (ok_letE fun x12 hx12 => ?_))
    have hins : insL t.l [x] (m : Int) = t.l.take m ++ x :: t.l.drop m := by simp [insL]
    rw [hins] at hx12
    subst hx12
    exact htail
end Go.Ab

