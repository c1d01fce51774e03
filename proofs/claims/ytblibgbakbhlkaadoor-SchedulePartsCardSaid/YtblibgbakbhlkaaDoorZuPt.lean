/-
  schedule: ScheduleParts: plain.
-/
import Derived.Test.YtblibgbakbhlkaaDoorZuCt
import Derived.Test.YtblibgbakbhlkaaDoorZuW9
set_option linter.unusedSimpArgs false
set_option linter.unusedVariables false
set_option maxRecDepth 100000
namespace Go.Ab
open Go Go.RowKit Go.Fwd Go.Proofs
theorem rightP_less {e : Ev} (h : rightP e true = true) : rightP e false = true := by
  unfold rightP at h ⊢
  split at h
  · cases h
  · split at h
    · rename_i h1 h2
      rw [if_neg h1, if_pos h2]
      simp only [Bool.and_eq_true, Bool.true_and] at h ⊢
      exact ⟨h.1, rfl⟩
    · cases h
theorem okE_less : ∀ (l : List Ev) (o : Bool), okE o l = true → okE false l = true
  | l, false, h => h
  | [], true, _ => rfl
  | e :: l, true, h => by
    rw [okE, Bool.and_eq_true, Bool.true_or] at h
    rw [okE, Bool.and_eq_true, Bool.false_or]
    refine ⟨rightP_less h.1, ?_⟩
    cases hk : (e.k == 3)
    · exact okE_less l true h.2
    · exact h.2
theorem good_app {a b : List Ev} (h : GoodS (a ++ b)) : GoodS a ∧ GoodS b := by
  have h1 := h.ok
  rw [okE_app, Bool.and_eq_true] at h1
  exact ⟨⟨h1.1, fun e he => h.u8 e (List.mem_append_left _ he)⟩, ⟨okE_less _ _ h1.2, fun e he => h.u8 e (List.mem_append_right _ he)⟩⟩
def eofAt (l : List Ev) : Nat := l.findIdx fun e => e.k == 3
theorem ixeof_eq (fuel : Nat) (l : List Ev) (hf : 1000 < fuel) (hl : l.length ≤ 200) : F_ixeof fuel l = some (if eofs l = true then ((eofAt l : Nat) : Int) else -1) := by
  refine Ok.eq ?_
  unfold F_ixeof
  refine ok_cut (fun _ => eofs l = false) (ok_loop (fun s : Int => ∃ i : Nat, s = (i : Int) ∧ i ≤ l.length ∧ ∀ e ∈ l.take i, (e.k == 3) = false) (fun s => l.length - s.toNat) ?_ fuel 0 (by simp; omega) ⟨0, rfl, Nat.zero_le _, by simp⟩) fun _ he => ok_some (by rw [he]; rfl)
  rintro i0 ⟨i, rfl, hi, hno⟩
  refine ok_bif (fun hc => ?_) (fun hc => ok_some ?_)
  · have hlt : i < l.length := by have := of_decide_eq_true hc; omega
    have hx : ix l (i : Int) = l[i] := by simp [ix, hlt]
    refine ok_chk ⟨by omega, by omega⟩ (ok_letE fun x hxx => ok_bindE (ok_eq (show F_iseof x = some (x.k == 3) from rfl)) fun y hy => ok_bif (fun h => ok_some ?_) (fun h => ok_chk ⟨by omega, by omega⟩ (ok_some ⟨⟨i + 1, by simp, hlt, ?_⟩, by omega⟩)))
    · rw [hx] at hxx
      have h3 : (l[i].k == 3) = true := by rw [hxx, ← hy]; exact h
      have he : eofs l = true := List.any_eq_true.2 ⟨l[i], List.getElem_mem _, h3⟩
      show _ = _
      rw [if_pos he]
      have : eofAt l = i := by
        unfold eofAt
        rw [List.findIdx_eq hlt]
        refine ⟨h3, fun j hj => ?_⟩
        have := hno l[j] (by rw [List.mem_take_iff_getElem]; exact ⟨j, by omega, rfl⟩)
        simpa using this
      rw [this]
    · intro e he
      rw [List.take_succ_eq_append_getElem hlt] at he
      rcases List.mem_append.1 he with he | he
      · exact hno e he
      · simp at he; subst he
        rw [hx] at hxx
        rw [hxx, ← hy]; exact h
  · have hnl : ¬ i < l.length := by have := of_decide_eq_false hc; omega
    rw [List.take_of_length_le (by omega)] at hno
    show eofs l = false
    exact List.any_eq_false.2 fun e he => by rw [hno e he]; simp
theorem ends_eq (fuel : Nat) (l : List Ev) (hf : 1000 < fuel) (hl : l.length ≤ 200) : F_ends fuel l = some (if eofs l = true then ((eofAt l : Nat) : Int) else 0, eofs l) := by
  unfold F_ends
  rw [ixeof_eq fuel l hf hl, bindE_some]
  cases he : eofs l
  · rfl
  · have h1 : max ((eofAt l : Nat) : Int) 0 = ((eofAt l : Nat) : Int) := by omega
    have h2 : decide (((eofAt l : Nat) : Int) ≥ 0) = true := decide_eq_true (by omega)
    rw [if_pos rfl, if_pos rfl, h1, h2]
theorem eofAt_l {a b : List Ev} (h : eofs a = true) : eofAt (a ++ b) = eofAt a := by
  unfold eofAt
  rw [List.findIdx_append, if_pos]
  obtain ⟨x, hx, h1⟩ := List.any_eq_true.1 h
  exact List.findIdx_lt_length_of_exists ⟨x, hx, h1⟩
theorem eofAt_r {a b : List Ev} (h : eofs a = false) : eofAt (a ++ b) = a.length + eofAt b := by
  unfold eofAt
  rw [List.findIdx_append, if_neg, Nat.add_comm]
  rw [List.findIdx_lt_length]
  rintro ⟨x, hx, h1⟩
  exact absurd (List.any_eq_false.1 h x hx) (by simp [h1])
theorem ends_ex (fuel : Nat) (l : List Ev) (hf : 1000 < fuel) (hl : l.length ≤ 200) : ∃ v t, F_ends fuel l = some (v, t) ∧ ((t = true → v = ((eofAt l : Nat) : Int)) ∧ (t = false → v = 0)) ∧ t = eofs l :=
  ⟨_, _, ends_eq fuel l hf hl, ⟨fun h => by rw [if_pos h], fun h => by rw [if_neg (by rw [h]; simp)]⟩, rfl⟩
theorem mid_ok (n vx va vb : Int) (ta tb : Bool) (h1 : ta = true → vx = va) (h2 : ta = false → tb = true → vx = n + vb) (h3 : (ta || tb) = false → vx = 0) (hb : -9223372036854775808 ≤ n + vb ∧ n + vb < 9223372036854775808) :
    Ok (cutQ (fun _ => True) (fun r => r = true)) ((bif ta then (bif (!((ta || tb) == true)) then (some (Sum.inr false)) else (bif (vx != va) then (some (Sum.inr false)) else (bif (!ta) then (bif tb then (chk (-9223372036854775808 ≤ (n + vb) ∧ (n + vb) < 9223372036854775808) (bif (vx != (n + vb)) then (some (Sum.inr false)) else (bif (!(ta || tb)) then (bif (vx != 0) then (some (Sum.inr false)) else (some (Sum.inl ()))) else (some (Sum.inl ()))))) else (bif (!(ta || tb)) then (bif (vx != 0) then (some (Sum.inr false)) else (some (Sum.inl ()))) else (some (Sum.inl ())))) else (bif (!(ta || tb)) then (bif (vx != 0) then (some (Sum.inr false)) else (some (Sum.inl ()))) else (some (Sum.inl ())))))) else (bif (!((ta || tb) == tb)) then (some (Sum.inr false)) else (bif (!ta) then (bif tb then (chk (-9223372036854775808 ≤ (n + vb) ∧ (n + vb) < 9223372036854775808) (bif (vx != (n + vb)) then (some (Sum.inr false)) else (bif (!(ta || tb)) then (bif (vx != 0) then (some (Sum.inr false)) else (some (Sum.inl ()))) else (some (Sum.inl ()))))) else (bif (!(ta || tb)) then (bif (vx != 0) then (some (Sum.inr false)) else (some (Sum.inl ()))) else (some (Sum.inl ())))) else (bif (!(ta || tb)) then (bif (vx != 0) then (some (Sum.inr false)) else (some (Sum.inl ()))) else (some (Sum.inl ())))))) : Option (Unit ⊕ Bool)) := by
  cases ta <;> cases tb
  · have := h3 rfl; subst this
    exact ok_some trivial
  · have := h2 rfl rfl; subst this
    refine ok_chk hb (ok_bif (fun h => by simp at h) fun _ => ok_some trivial)
  · have := h1 rfl; subst this
    exact ok_bif (fun _ => ok_bif (fun h => by simp at h) fun _ => ok_bif (fun h => by simp at h) fun _ => ok_some trivial) (fun h => by cases h)
  · have := h1 rfl; subst this
    exact ok_bif (fun _ => ok_bif (fun h => by simp at h) fun _ => ok_bif (fun h => by simp at h) fun _ => ok_some trivial) (fun h => by cases h)
def ticksP (l : List Ev) : Nat := (l.filter (·.k == 2)).length
theorem ticksP_app (a b : List Ev) : ticksP (a ++ b) = ticksP a + ticksP b := by simp [ticksP]
theorem bytesP_app (a b : List Ev) : bytesP (a ++ b) = bytesP a ++ bytesP b := by simp [bytesP]
theorem ticksP_le (l : List Ev) : ticksP l ≤ l.length := List.length_filter_le _ _
theorem ticks_eq (fuel : Nat) (l : List Ev) (hf : 1000 < fuel) (hl : l.length ≤ 200) : F_ticks fuel l = some ((ticksP l : Nat) : Int) := by
  refine Ok.eq ?_
  unfold F_ticks
  refine ok_cut (fun j => j = ((ticksP l : Nat) : Int)) (ok_loop (fun s : Int × Int => ∃ i : Nat, s.2 = (i : Int) ∧ i ≤ l.length ∧ s.1 = ((ticksP (l.take i) : Nat) : Int)) (fun s => l.length - s.2.toNat) ?_ fuel (0, 0) (by simp; omega) ⟨0, rfl, Nat.zero_le _, rfl⟩) fun j hj => ok_some hj
  rintro ⟨n0, i0⟩ ⟨i, rfl, hi, rfl⟩
  dsimp only
  refine ok_bif (fun hc => ?_) (fun hc => ok_some ?_)
  · have hlt : i < l.length := by have := of_decide_eq_true hc; omega
    have hx : ix l (i : Int) = l[i] := by simp [ix, hlt]
    have hle : ticksP (l.take i) ≤ i := Nat.le_trans (ticksP_le _) (by rw [List.length_take]; omega)
    have hs : ticksP (l.take (i + 1)) = ticksP (l.take i) + if l[i].k = 2 then 1 else 0 := by
      rw [List.take_succ_eq_append_getElem hlt, ticksP_app]
      congr 1
      by_cases h : l[i].k = 2 <;> simp [ticksP, h]
    refine ok_cut (fun j => j = ((ticksP (l.take (i + 1)) : Nat) : Int)) (ok_chk ⟨by omega, by omega⟩ (ok_letE fun x hxx => ?_)) fun j hj => ok_chk ⟨by omega, by omega⟩ (ok_some ⟨⟨i + 1, by simp, hlt, hj⟩, by simp only; omega⟩)
    rw [hx] at hxx
    rw [hxx] at hs
    refine ok_bif (fun h => ok_chk ⟨by omega, by omega⟩ (ok_some ?_)) (fun h => ok_some ?_)
    · show _ = _
      rw [hs, if_pos (by simpa using h)]; omega
    · show _ = _
      rw [hs, if_neg (by simpa using h)]; omega
  · have hnl : ¬ i < l.length := by have := of_decide_eq_false hc; omega
    show _ = _
    rw [List.take_of_length_le (by omega)]
theorem cut_zero (fuel : Nat) (l : List Ev) (hf : 10000 < fuel) (hl : l.length ≤ 200) (hg : GoodS l) : Ok (fun r => r.2 = 0 ∧ r.1.flatMap evP = l ∧ r.1.length ≤ 320 ∧ lawCs [] r.1) (F_cut fuel l []) :=
  cut_ok fuel l [] hf hl hg ⟨by simp, fun x hx => by simp at hx⟩
set_option maxHeartbeats 4000000 in
theorem parts_eqF (fuel : Nat) (hfu : 50000 < fuel) (awake_true : F_awake fuel = some true) (l : List UInt8) (en cut : Int) (k : List UInt8) (he : 0 ≤ en ∧ en < 256) (hc : 0 ≤ cut ∧ cut < 256) : F_parts fuel l en cut k = some true := by
  obtain ⟨x, hx, hxl, hg⟩ := made_ok fuel l en (by omega) he
  obtain ⟨z, hz, hzz⟩ := sizes_ok fuel k (by omega)
  obtain ⟨n, hn, hnl⟩ : ∃ n : Nat, Int.tmod cut ((x.length : Int) + 1) = (n : Int) ∧ n ≤ x.length := by
    have h1 := Int.tmod_nonneg ((x.length : Int) + 1) hc.1
    have h2 := Int.tmod_lt_of_pos cut (show (0 : Int) < (x.length : Int) + 1 by omega)
    exact ⟨(Int.tmod cut ((x.length : Int) + 1)).toNat, by omega, by omega⟩
  obtain ⟨a, ha⟩ : ∃ a, a = x.take n := ⟨_, rfl⟩
  obtain ⟨b, hb⟩ : ∃ b, b = x.drop n := ⟨_, rfl⟩
  have hab : x = a ++ b := by rw [ha, hb, List.take_append_drop]
  have hal : a.length = n := by rw [ha, List.length_take]; omega
  have hbl : b.length ≤ 200 := by rw [hb, List.length_drop]; omega
  have hsa : sub x 0 (n : Int) = a := by rw [ha]; simp [sub]
  have hsb : sub x (n : Int) (x.length : Int) = b := by
    rw [hb]; simp only [sub, Int.toNat_natCast]
    rw [List.take_of_length_le (by rw [List.length_drop]; omega)]
  clear ha hb
  have hga := hg
  rw [hab] at hga
  obtain ⟨hga, hgb⟩ := good_app hga
  obtain ⟨⟨cs, e1⟩, hcc, rfl, c2, c3, c4⟩ := cut_ok fuel a z (by omega) (by omega) hga hzz
  obtain ⟨⟨ds, e2⟩, hdd, rfl, d2, d3, d4⟩ := cut_zero fuel b (by omega) hbl hgb
  dsimp only at c2 c3 c4 d2 d3 d4
  have hj := join_eq fuel (cs ++ ds) x (by omega) (by rw [List.length_append]; omega) hxl hg.ok (by rw [List.flatMap_append, c2, d2, hab]) (fun c hc => (List.mem_append.1 hc).elim (law_nil c4 c) (law_nil d4 c))
  have hq := eqevs_eq fuel x x (by omega) (by omega)
  rw [decide_eq_true rfl] at hq
  have hck := check_ok fuel a (by omega) (by omega) hga.ok
  obtain ⟨vx, tx, hex, hvx, htx'⟩ := ends_ex fuel x (by omega) hxl
  obtain ⟨va, ta, hea, hva, hta'⟩ := ends_ex fuel a (by omega) (by omega)
  obtain ⟨vb, tb, heb, hvb, htb'⟩ := ends_ex fuel b (by omega) hbl
  have u8b : ∀ {w : List Ev}, GoodS w → ∀ e ∈ w, e.k = 1 → 0 ≤ e.b ∧ e.b < 256 := fun h e hm _ => (h.u8 e hm).2
  have hbx := bytes_eq fuel x (by omega) (by omega) (u8b hg)
  have hba := bytes_eq fuel a (by omega) (by omega) (u8b hga)
  have hbb := bytes_eq fuel b (by omega) (by omega) (u8b hgb)
  have htx := ticks_eq fuel x (by omega) hxl
  have hta := ticks_eq fuel a (by omega) (by omega)
  have htb := ticks_eq fuel b (by omega) hbl
  have hLa : (bytesP a).length ≤ 200 := Nat.le_trans (bytesP_len a) (by omega)
  have hLb : (bytesP b).length ≤ 200 := Nat.le_trans (bytesP_len b) hbl
  have hbeq : bytesP x = bytesP a ++ bytesP b := by rw [hab, bytesP_app]
  have hteq : ticksP x = ticksP a + ticksP b := by rw [hab, ticksP_app]
  have hwle := ticksP_le x
  have heof : tx = (ta || tb) := by rw [htx', hta', htb', hab, eofs_app]
  have hal1 : ta = true → vx = va := fun h => by
    rw [hvx.1 (by rw [heof, h]; rfl), hva.1 h, hab, eofAt_l (by rw [← hta']; exact h)]
  have hal2 : ta = false → tb = true → vx = (n : Int) + vb := fun h h1 => by
    rw [hvx.1 (by rw [heof, h, h1]; rfl), hvb.1 h1, hab, eofAt_r (by rw [← hta']; exact h), hal]; omega
  have hal3 : tx = false → vx = 0 := hvx.2
  have hvb0 : 0 ≤ vb ∧ vb ≤ 200 := by
    have := List.findIdx_le_length (p := fun e : Ev => e.k == 3) (xs := b)
    cases h : tb
    · rw [hvb.2 h]; omega
    · rw [hvb.1 h]; unfold eofAt; omega
  clear hvx hva hvb htx' hta' htb'
  refine Ok.eq ?_
  unfold F_parts
  rw [hx, bindE_some]
  simp only [hn, hsa, hsb]
  rw [hck, bindE_some, hz, bindE_some, hcc, bindE_some, hdd, bindE_some]
  simp only
  refine ok_chk (by omega) (ok_chk (by omega) (ok_chk (by omega) (ok_chk (by omega) (ok_chk (by omega) (ok_chk (by omega) (ok_letE fun cd hcd => ?_))))))
  subst hcd
  rw [hj, bindE_some]
  simp only
  refine ok_chk (by omega) (ok_bif (fun h => by simp at h) fun _ => ok_bif (fun h => by simp at h) fun _ => ?_)
  rw [hex, bindE_some, hea, bindE_some, heb, bindE_some]
  simp only
  have tail : ∀ r : List UInt8, F_beq (bytesP x) r = some (bytesP x == r) := fun r => rfl
  have fin : Ok (fun r => r = true) (bindE (F_ticks fuel x) fun x16 => bindE (F_ticks fuel a) fun x17 => bindE (F_ticks fuel b) fun x18 => chk (-9223372036854775808 ≤ x17 + x18 ∧ x17 + x18 < 9223372036854775808) (bif x16 == x17 + x18 then bindE (F_awake fuel) fun x19 => some x19 else some false)) := by
    rw [htx, bindE_some, hta, bindE_some, htb, bindE_some]
    exact ok_chk (by omega) (ok_bif (fun _ => ok_bindE (ok_eq awake_true) fun a ha => ok_some ha) fun h => by rw [hteq] at h; simp at h)
  refine ok_cut (fun _ => True) ?_ fun _ _ => ok_bif (fun h => by simp at h) fun _ => ok_bif (fun h => by simp at h) fun _ => ok_bif (fun h => by simp at h) fun _ => ?_
  · subst heof
    exact mid_ok (n : Int) vx va vb ta tb hal1 hal2 hal3 (by omega)
  · rw [hq, bindE_some]
    refine ok_bif (fun h => by simp at h) fun _ => ?_
    rw [hbx, bindE_some, hba, bindE_some]
    refine ok_bif (fun h => ?_) fun h => ok_chk (by omega) ?_
    · have h0 : bytesP a = [] := List.isEmpty_iff.1 h
      rw [hbb, bindE_some]
      refine ok_chk (by simp; omega) ?_
      rw [tail, bindE_some]
      refine ok_bif (fun _ => fin) fun h => ?_
      rw [hbeq, h0] at h; simp at h
    · rw [hbb, bindE_some]
      refine ok_bif (fun h1 => ?_) fun h1 => ?_
      · have h0 : bytesP b = [] := List.isEmpty_iff.1 h1
        rw [tail, bindE_some]
        refine ok_bif (fun _ => fin) fun h => ?_
        rw [hbeq, h0] at h; simp at h
      · have p1 : 0 < (bytesP a).length := List.length_pos_iff.2 fun e => by rw [e] at h; cases h
        have p2 : 0 < (bytesP b).length := List.length_pos_iff.2 fun e => by rw [e] at h1; cases h1
        refine ok_chk ⟨by simp, p1, p2, by omega⟩ (ok_chk (by rw [List.length_append]) ?_)
        rw [tail, bindE_some]
        refine ok_bif (fun _ => fin) fun h => ?_
        rw [hbeq] at h; simp at h
theorem parts_eq (l : List UInt8) (en cut : Int) (k : List UInt8) (he : 0 ≤ en ∧ en < 256) (hc : 0 ≤ cut ∧ cut < 256) : F_parts 100000 l en cut k = some true := parts_eqF 100000 (by omega) awake_true l en cut k he hc
end Go.Ab

