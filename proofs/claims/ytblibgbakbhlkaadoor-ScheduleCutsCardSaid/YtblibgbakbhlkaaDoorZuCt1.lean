/-
  schedule: Cut: plain.
-/
import Derived.Test.YtblibgbakbhlkaaDoorZuW7
import Derived.Test.YtblibgbakbhlkaaDoorZuRd
set_option linter.unusedSimpArgs false
set_option linter.unusedVariables false
set_option maxRecDepth 100000
namespace Go.Ab
open Go Go.RowKit Go.Fwd Go.Proofs
end Go.Ab
set_option linter.unusedSimpArgs false
set_option linter.unusedVariables false
set_option maxRecDepth 100000
namespace Go.Ab
open Go Go.RowKit Go.Fwd Go.Proofs
theorem awake_true : F_awake 100000 = some true := by decide +kernel
theorem okE_snoc {a : List Ev} {e : Ev} (h : okE false a = true) (hr : rightP e (eofs a) = true) : okE false (a ++ [e]) = true := by
  rw [okE_app, h, Bool.false_or]; simp [okE, hr]
theorem eofs_snoc (a : List Ev) (e : Ev) : eofs (a ++ [e]) = (eofs a || e.k == 3) := by simp [eofs, List.any_append]
theorem u8s_snoc {a : List Ev} {e : Ev} (h : U8s a) (he : (0 ≤ e.k ∧ e.k < 256) ∧ 0 ≤ e.b ∧ e.b < 256) : U8s (a ++ [e]) := fun x hx => (List.mem_append.1 hx).elim (h x) fun hx => by simp at hx; subst hx; exact he
structure GoodS (r : List Ev) : Prop where
  ok : okE false r = true
  u8 : U8s r
theorem made_ok (fuel : Nat) (l : List UInt8) (en : Int) (hf : 200 < fuel) (he : 0 ≤ en ∧ en < 256) : Ok (fun r => r.length ≤ 200 ∧ GoodS r) (F_made fuel l en) := by
  unfold F_made
  have hm : (sub l 0 (min (l.length : Int) 100)).length = (min (l.length : Int) 100).toNat := by
    have := sub_lenI l (i := 0) (j := min (l.length : Int) 100) ⟨Int.le_refl _, by omega, by omega⟩
    rw [this]; simp
  refine ok_cut (fun r => r.length ≤ 200 ∧ GoodS r) (ok_chk ⟨by omega, by omega, by omega⟩ (ok_loop (fun s : List Ev × Int => ∃ i : Nat, s.2 = (i : Int) ∧ i ≤ 100 ∧ s.1.length ≤ 2 * i ∧ GoodS s.1 ∧ (eofs s.1 = true → 0 < en ∧ en < i)) (fun s => 101 - s.2.toNat) ?_ fuel ([], 0) (by simp; omega) ⟨0, rfl, by omega, by simp, ⟨rfl, fun e h => by simp at h⟩, fun h => by simp [eofs] at h⟩)) fun j hj => ok_some hj
  rintro ⟨a, i0⟩ ⟨i, rfl, hi, hn, hg, he1⟩
  dsimp only at hn hg he1 ⊢
  refine ok_bif (fun hc => ?_) (fun hc => ok_some ⟨by omega, hg⟩)
  have hlt := of_decide_eq_true hc
  have hi2 : i < 100 := by rw [hm] at hlt; omega
  refine ok_cut (fun j : List Ev => j.length ≤ 2 * (i + 1) ∧ GoodS j ∧ (eofs j = true → 0 < en ∧ en ≤ i)) (ok_chk ⟨by omega, hlt⟩ (ok_letE fun x hx => ok_cut (fun j : List Ev => j.length ≤ 2 * i + 1 ∧ GoodS j ∧ (eofs j = true → 0 < en ∧ en ≤ i)) ?_ fun j hj => ?_)) fun j hj => ok_chk ⟨by omega, by omega⟩ (ok_some ⟨⟨i + 1, by simp, hi2, hj.1, hj.2.1, fun h => by have := hj.2.2 h; omega⟩, by simp only; omega⟩)
  · have keep : Ok (cutQ (fun j : List Ev => j.length ≤ 2 * i + 1 ∧ GoodS j ∧ (eofs j = true → 0 < en ∧ en ≤ i)) (cutQ (fun j : List Ev => j.length ≤ 2 * (i + 1) ∧ GoodS j ∧ (eofs j = true → 0 < en ∧ en ≤ i)) (cutQ (fun s' : List Ev × Int => (∃ k : Nat, s'.2 = (k : Int) ∧ k ≤ 100 ∧ s'.1.length ≤ 2 * k ∧ GoodS s'.1 ∧ (eofs s'.1 = true → 0 < en ∧ en < k)) ∧ 101 - s'.2.toNat < 101 - (i : Int).toNat) (cutQ (fun r => r.length ≤ 200 ∧ GoodS r) (fun r => r.length ≤ 200 ∧ GoodS r))))) (some (Sum.inl a)) := ok_some ⟨by omega, hg, fun h => by have := he1 h; omega⟩
    refine ok_bif (fun h => ok_chk ⟨by omega, by omega⟩ (ok_bif (fun h2 => ok_chk (by simp; omega) (ok_some ⟨by simp; omega, ⟨okE_snoc hg.ok ?_, u8s_snoc hg.u8 ⟨⟨by decide, by decide⟩, by decide, by decide⟩⟩, fun _ => ?_⟩)) (fun _ => keep))) (fun _ => keep)
    · have hne : eofs a = false := by
        cases hh : eofs a with
        | false => rfl
        | true => have := he1 hh; have : (i : Int) = en := by simpa using h2
                  omega
      rw [hne]; rfl
    · have : (i : Int) = en := by simpa using h2
      have := of_decide_eq_true h
      omega
  · have tick : Ok (cutQ (fun j : List Ev => j.length ≤ 2 * (i + 1) ∧ GoodS j ∧ (eofs j = true → 0 < en ∧ en ≤ i)) (cutQ (fun s' : List Ev × Int => (∃ k : Nat, s'.2 = (k : Int) ∧ k ≤ 100 ∧ s'.1.length ≤ 2 * k ∧ GoodS s'.1 ∧ (eofs s'.1 = true → 0 < en ∧ en < k)) ∧ 101 - s'.2.toNat < 101 - (i : Int).toNat) (cutQ (fun r => r.length ≤ 200 ∧ GoodS r) (fun r => r.length ≤ 200 ∧ GoodS r)))) (chk ((List.length j + List.length [(Ev.mk 2 0)]) * 2 ≤ 140737488355328) (some (Sum.inl (j ++ [(Ev.mk 2 0)])))) :=
      ok_chk (by simp; omega) (ok_some ⟨by simp; omega, ⟨okE_snoc hj.2.1.ok (by cases eofs j <;> rfl), u8s_snoc hj.2.1.u8 ⟨⟨by decide, by decide⟩, by decide, by decide⟩⟩, fun h => hj.2.2 (by rw [eofs_snoc] at h; simpa using h)⟩)
    have byte : ¬ (0 < en ∧ en ≤ i) → Ok (cutQ (fun j : List Ev => j.length ≤ 2 * (i + 1) ∧ GoodS j ∧ (eofs j = true → 0 < en ∧ en ≤ i)) (cutQ (fun s' : List Ev × Int => (∃ k : Nat, s'.2 = (k : Int) ∧ k ≤ 100 ∧ s'.1.length ≤ 2 * k ∧ GoodS s'.1 ∧ (eofs s'.1 = true → 0 < en ∧ en < k)) ∧ 101 - s'.2.toNat < 101 - (i : Int).toNat) (cutQ (fun r => r.length ≤ 200 ∧ GoodS r) (fun r => r.length ≤ 200 ∧ GoodS r)))) (chk ((List.length j + List.length [(Ev.mk 1 ((x.toNat : Nat) : Int))]) * 2 ≤ 140737488355328) (some (Sum.inl (j ++ [(Ev.mk 1 ((x.toNat : Nat) : Int))])))) := fun hno => by
      have hne : eofs j = false := by
        cases hh : eofs j with
        | false => rfl
        | true => exact absurd (hj.2.2 hh) hno
      exact ok_chk (by simp; omega) (ok_some ⟨by simp; omega, ⟨okE_snoc hj.2.1.ok (by rw [hne]; rfl), u8s_snoc hj.2.1.u8 ⟨⟨by show (0 : Int) ≤ 1; decide, by show (1 : Int) < 256; decide⟩, u8n_bnd x⟩⟩, fun h => hj.2.2 (by rw [eofs_snoc] at h; simpa using h)⟩)
    refine ok_bif (fun _ => tick) (fun _ => ok_bif (fun h => ok_chk ⟨by omega, by omega⟩ (ok_bif (fun _ => tick) (fun h2 => byte ?_))) (fun h => byte ?_))
    · have := of_decide_eq_false h2; omega
    · have := of_decide_eq_false h; omega
end Go.Ab
set_option linter.unusedSimpArgs false
set_option linter.unusedVariables false
set_option maxRecDepth 100000
namespace Go.Ab
open Go Go.RowKit Go.Fwd Go.Proofs
end Go.Ab
set_option linter.unusedSimpArgs false
set_option linter.unusedVariables false
set_option maxRecDepth 100000
namespace Go.Ab
open Go Go.RowKit Go.Fwd Go.Proofs
end Go.Ab
set_option linter.unusedSimpArgs false
set_option linter.unusedVariables false
set_option maxRecDepth 100000
namespace Go.Ab
open Go Go.RowKit Go.Fwd Go.Proofs
structure SzZ (z : List Int) : Prop where
  len : z.length ≤ 120
  bnd : ∀ n ∈ z, 0 ≤ n ∧ n < 7
theorem sizes_ok (fuel : Nat) (l : List UInt8) (hf : 200 < fuel) : Ok SzZ (F_sizes fuel l) := by
  unfold F_sizes
  have hm : (sub l 0 (min (l.length : Int) 120)).length = (min (l.length : Int) 120).toNat := by
    have := sub_lenI l (i := 0) (j := min (l.length : Int) 120) ⟨Int.le_refl _, by omega, by omega⟩
    rw [this]; simp
  refine ok_cut SzZ (ok_chk ⟨by omega, by omega, by omega⟩ (ok_loop (fun s : List Int × Int => ∃ i : Nat, s.2 = (i : Int) ∧ i ≤ 120 ∧ s.1.length = i ∧ ∀ n ∈ s.1, 0 ≤ n ∧ n < 7) (fun s => 121 - s.2.toNat) ?_ fuel ([], 0) (by simp; omega) ⟨0, rfl, by omega, rfl, fun n h => by simp at h⟩)) fun j hj => ok_some hj
  rintro ⟨a, i0⟩ ⟨i, rfl, hi, hn, hb⟩
  dsimp only at hn hb ⊢
  refine ok_bif (fun hc => ?_) (fun hc => ok_some ⟨by omega, hb⟩)
  have hlt := of_decide_eq_true hc
  have hi2 : i < 120 := by rw [hm] at hlt; omega
  refine ok_chk ⟨by omega, hlt⟩ (ok_letE fun x hx => ?_)
  have h7 : 0 ≤ Int.tmod ((x.toNat : Nat) : Int) 7 ∧ Int.tmod ((x.toNat : Nat) : Int) 7 < 7 := ⟨Int.tmod_nonneg _ (by omega), Int.tmod_lt_of_pos _ (by omega)⟩
  refine ok_chk ⟨by omega, by omega⟩ (ok_chk (by simp only [List.length_cons, List.length_nil]; omega) (ok_chk ⟨by omega, by omega⟩ (ok_some ⟨⟨i + 1, by simp, hi2, by simp [hn], fun n h => ?_⟩, by simp only; omega⟩)))
  rcases List.mem_append.1 h with h | h
  · exact hb n h
  · rw [List.mem_singleton.1 h]; exact h7
theorem hasneg_no (fuel : Nat) (z : List Int) (hz : SzZ z) (hf : 200 < fuel) : F_hasneg fuel z = some false := by
  have hl := hz.len
  have h : F_ixneg fuel z = some (-1) := by
    refine Ok.eq ?_
    unfold F_ixneg
    refine ok_cut (fun _ => True) (ok_loop (fun s : Int => ∃ i : Nat, s = (i : Int) ∧ i ≤ z.length) (fun s => z.length - s.toNat) ?_ fuel 0 (by simp; omega) ⟨0, rfl, Nat.zero_le _⟩) fun _ _ => ok_some rfl
    rintro i0 ⟨i, rfl, hi⟩
    refine ok_bif (fun hc => ?_) (fun hc => ok_some trivial)
    have hlt : i < z.length := by have := of_decide_eq_true hc; omega
    have hx : ix z (i : Int) = z[i] := by simp [ix, hlt]
    have hb := hz.bnd z[i] (List.getElem_mem _)
    have hneg : F_neg1 (ix z (i : Int)) = some false := by unfold F_neg1; simp [hx]; omega
    rw [hneg, bindE_some]
    refine ok_chk ⟨by omega, by omega⟩ (ok_bif (fun h => by cases h) (fun _ => ok_chk ⟨by omega, by omega⟩ (ok_some ⟨⟨i + 1, by simp, hlt⟩, by omega⟩)))
  unfold F_hasneg
  rw [h, bindE_some]; rfl
def evP (c : Ck) : List Ev := if c.k = 1 then c.l.map fun b => Ev.mk 1 ((b.toNat : Nat) : Int) else [Ev.mk c.k 0]
def nd (cs : List Ck) : Nat := (cs.filter fun c => c.k == 1).length
theorem nd_snoc (cs : List Ck) (c : Ck) : nd (cs ++ [c]) = nd cs + if c.k = 1 then 1 else 0 := by
  unfold nd; by_cases h : c.k = 1 <;> simp [List.filter_append, h]
def lawC (z : List Int) (n : Nat) (c : Ck) : Prop := (c.k ≠ 1 → c.l = []) ∧ (c.k = 1 → if n < z.length then (c.l.length : Int) ≤ ix z (n : Int) ∧ (c.l = [] → ix z (n : Int) = 0) else c.l ≠ [])
def lawCs (z : List Int) (cs : List Ck) : Prop := ∀ p c r, cs = p ++ c :: r → lawC z (nd p) c
theorem lawCs_snoc {z : List Int} {cs : List Ck} {c : Ck} (h : lawCs z cs) (hc : lawC z (nd cs) c) : lawCs z (cs ++ [c]) := by
  intro p d r he
  rcases List.eq_nil_or_concat r with rfl | ⟨r', x, rfl⟩
  · obtain ⟨h1, h2⟩ := List.append_inj' he (by simp)
    have : c = d := by simpa using h2
    subst h1 this; exact hc
  · rw [List.concat_eq_append, ← List.cons_append, ← List.append_assoc] at he
    obtain ⟨h1, h2⟩ := List.append_inj' he (by simp)
    exact h p d r' h1
end Go.Ab
set_option linter.unusedSimpArgs false
set_option linter.unusedVariables false
set_option maxRecDepth 100000
namespace Go.Ab
open Go Go.RowKit Go.Fwd Go.Proofs
theorem sub_take {α : Type} (l : List α) (m : Int) : sub l 0 m = l.take m.toNat := by simp [sub]
theorem flat_snoc (cs : List Ck) (c : Ck) : (cs ++ [c]).flatMap evP = cs.flatMap evP ++ evP c := by simp
theorem flatten_snoc {α : Type} (p : List (List α)) (w : List α) : (p ++ [w]).flatten = p.flatten ++ w := by simp
abbrev ev1 (b : UInt8) : Ev := Ev.mk 1 ((b.toNat : Nat) : Int)
set_option maxHeartbeats 4000000 in
theorem cut_ok (fuel : Nat) (l : List Ev) (z : List Int) (hf : 10000 < fuel) (hl : l.length ≤ 200) (hg : GoodS l) (hz : SzZ z) : Ok (fun r => r.2 = 0 ∧ r.1.flatMap evP = l ∧ r.1.length ≤ 320 ∧ lawCs z r.1) (F_cut fuel l z) := by
  have hzl := hz.len
  unfold F_cut
  rw [check_ok fuel l (by omega) (by omega) hg.ok, bindE_some]
  refine ok_bif (fun h => by simp at h) (fun _ => ok_bif (fun h => by have := of_decide_eq_true h; omega) (fun _ => ?_))
  rw [hasneg_no fuel z hz (by omega), bindE_some]
  refine ok_bif (fun h => by cases h) (fun _ => ?_)
  refine ok_cut (fun j : List Int × List Ck => j.2.flatMap evP = l ∧ j.2.length ≤ 320 ∧ lawCs z j.2) (ok_chk (by omega) (ok_cut (fun j : List Int × List Ck => j.2.flatMap evP = l ∧ j.2.length ≤ 320 ∧ lawCs z j.2) ?_ (fun j hj => ok_some hj))) (fun j hj => ok_some ⟨rfl, hj⟩)
  refine Ok.mono (ok_range (fun (pre : List (List Ev)) (s : List Int × List Ck) => s.2.flatMap evP = pre.flatten ∧ lawCs z s.2 ∧ s.1 = z.drop (nd s.2) ∧ s.2.length + s.1.length ≤ pre.flatten.length + z.length) (all := runs l) (Q := cutQ (fun j : List Int × List Ck => j.2.flatMap evP = l ∧ j.2.length ≤ 320 ∧ lawCs z j.2) (fun r : List Ck × Int => r.2 = 0 ∧ r.1.flatMap evP = l ∧ r.1.length ≤ 320 ∧ lawCs z r.1)) ?_ (runs l) [] (z, []) rfl ⟨rfl, fun p c r h => by simp at h, rfl, by simp⟩) ?_
  rotate_left
  · rintro (s | s) hs
    · obtain ⟨h1, h2, h3, h4⟩ := hs
      rw [runs_flat] at h1 h4
      exact ⟨h1, by omega, h2⟩
    · exact hs
  rintro p w r ⟨zs, cs⟩ hall ⟨h1, h2, h3, h4⟩
  dsimp only at h1 h2 h3 h4 ⊢
  have hw : w ∈ runs l := by rw [← hall]; simp
  obtain ⟨q1, q2, q3⟩ := runs_mem l w hw
  have hst := stretch_of hg.ok hg.u8 (by omega) hw
  have hwl := run_len hw
  have hw0 := List.length_pos_iff.2 q1
  have hpl : p.flatten.length + w.length ≤ l.length := by
    have := congrArg List.length (runs_flat l)
    rw [← hall] at this; simp only [List.flatten_append, List.flatten_cons, List.length_append] at this; omega
  refine ok_cut (fun _ => (ix w 0).k = 1) (ok_chk ⟨by omega, by omega⟩ (ok_letE fun x3 g3 => ok_bif (fun hk => ?_) (fun hk => ok_some (by show (ix w 0).k = 1; rw [g3]; simpa using hk)))) fun _ hk1 => ?_
  · have hk : (ix w 0).k ≠ 1 := by rw [g3]; simpa using hk
    refine ok_cut (fun j : List Ck => j.flatMap evP = p.flatten ++ w ∧ lawCs z j ∧ nd j = nd cs ∧ j.length = cs.length + w.length) (ok_loop (fun s : Int × List Ck => ∃ i : Nat, s.1 = (i : Int) ∧ i ≤ w.length ∧ s.2.flatMap evP = p.flatten ++ w.take i ∧ lawCs z s.2 ∧ nd s.2 = nd cs ∧ s.2.length = cs.length + i) (fun s => w.length - s.1.toNat) ?_ fuel (0, cs) (by simp; omega) ⟨0, rfl, Nat.zero_le _, by simpa using h1, h2, rfl, rfl⟩) fun j hj => ok_some ?_
    · rintro ⟨i0, a⟩ ⟨i, rfl, hi, k1, k2, k3, k4⟩
      dsimp only at k1 k2 k3 k4 ⊢
      refine ok_bif (fun hc => ?_) (fun hc => ok_some ?_)
      rotate_left
      · have hlt : ¬ i < w.length := by have := of_decide_eq_false hc; omega
        rw [List.take_of_length_le (by omega)] at k1
        exact ⟨k1, k2, k3, by omega⟩
      have hlt : i < w.length := by have := of_decide_eq_true hc; omega
      refine ok_chk ⟨by omega, by omega⟩ (ok_letE fun x4 g4 => ok_chk (by simp only [List.length_cons, List.length_nil]; omega) (ok_chk ⟨by omega, by omega⟩ (ok_some ⟨⟨i + 1, by simp, hlt, ?_, ?_, ?_, ?_⟩, by simp only; omega⟩)))
      all_goals
        have hx4 : x4 = w[i] := by rw [← g4]; simp [ix, hlt]
        have hmem : x4 ∈ w := by rw [hx4]; exact List.getElem_mem _
        have hxk : x4.k ≠ 1 := by rw [q3 x4 hmem]; exact hk
        have hxb := (okE_mem l false hg.ok x4 (q2 x4 hmem)).2 hxk
      · show (a ++ [Ck.mk x4.k []]).flatMap evP = _
        rw [flat_snoc, k1, List.take_succ_eq_append_getElem hlt, ← hx4, ← List.append_assoc]
        congr 1
        unfold evP
        rw [if_neg hxk]
        obtain ⟨kk, bb⟩ := x4
        simp only at hxb
        rw [hxb]
      · exact lawCs_snoc k2 ⟨fun _ => rfl, fun h => absurd h hxk⟩
      · show nd (a ++ [Ck.mk x4.k []]) = nd cs
        rw [nd_snoc, if_neg hxk, k3, Nat.add_zero]
      · simp only [List.length_append, List.length_cons, List.length_nil]; omega
    · obtain ⟨k1, k2, k3, k4⟩ := hj
      refine ⟨by rw [flatten_snoc]; exact k1, k2, by show zs = _; rw [h3, k3], ?_⟩
      show j.length + zs.length ≤ _
      rw [flatten_snoc, List.length_append]; omega
  obtain ⟨b, hb, rfl⟩ : ∃ b : List UInt8, b ≠ [] ∧ w = b.map ev1 := by
    rcases hst with h | ⟨n, g1, g2, rfl⟩ | rfl
    · exact h
    · cases n with
      | zero => omega
      | succ n => exact absurd hk1 (by rw [List.replicate_succ]; show (2 : Int) ≠ 1; decide)
    · exact absurd hk1 (by show (3 : Int) ≠ 1; decide)
  have hby : F_bytes fuel (b.map ev1) = some b := by
    rw [bytes_eq fuel _ (by omega) (by omega) fun e he _ => (hg.u8 e (q2 e he)).2, bytesP_map]
  rw [hby, bindE_some]
  have hbl : (b.map ev1).length = b.length := List.length_map _
  rw [hbl] at hwl hw0 hpl
  have hzs : zs.length ≤ z.length := by rw [h3, List.length_drop]; omega
  have hmeas : b.length + zs.length < fuel := by omega
  refine ok_loop (fun s : List UInt8 × List Int × List Ck => s.2.2.flatMap evP ++ s.1.map ev1 = p.flatten ++ b.map ev1 ∧ lawCs z s.2.2 ∧ s.2.1 = z.drop (nd s.2.2) ∧ s.2.2.length + s.2.1.length + s.1.length ≤ p.flatten.length + b.length + z.length) (fun s => s.1.length + s.2.1.length) ?_ fuel (b, zs, cs) hmeas ⟨by show cs.flatMap evP ++ _ = _; rw [h1], h2, h3, by show cs.length + zs.length + b.length ≤ _; omega⟩
  rintro ⟨bs, y, a⟩ ⟨k1, k2, k3, k4⟩
  dsimp only at k1 k2 k3 k4 ⊢
  refine ok_bif (fun hc => ?_) (fun hc => ok_some ?_)
  rotate_left
  · have hb0 : bs = [] := List.length_eq_zero_iff.1 (by have := of_decide_eq_false hc; omega)
    subst hb0
    refine ⟨by rw [flatten_snoc]; simpa using k1, k2, k3, ?_⟩
    show a.length + y.length ≤ _
    rw [flatten_snoc, List.length_append, hbl]; simpa using k4
  have hbs : 0 < bs.length := by have := of_decide_eq_true hc; omega
  refine ok_cut (fun j : Int × List Int => (0 ≤ j.1 ∧ j.1 ≤ (bs.length : Int)) ∧ j.2 = z.drop (nd a + 1) ∧ lawC z (nd a) (Ck.mk 1 (sub bs 0 j.1)) ∧ (j.2.length + 1 = y.length ∨ j.2.length = y.length ∧ j.1 = (bs.length : Int))) (ok_bif (fun hy => ?_) (fun hy => ok_some ?_)) fun j hj => ?_
  · have hy := of_decide_eq_true hy
    have hnz : nd a < z.length := by rw [k3, List.length_drop] at hy; omega
    obtain ⟨r', e1, e2⟩ := drop_at hnz
    have hy0 : ix y (0 : Int) = ix z (nd a : Int) := by rw [k3, e1]; rfl
    have hzb : 0 ≤ ix z (nd a : Int) := by
      have : ix z (nd a : Int) = z[nd a] := by simp [ix, hnz]
      rw [this]; exact (hz.bnd _ (List.getElem_mem _)).1
    have hys : sub y 1 (y.length : Int) = z.drop (nd a + 1) := by
      have := sub_drop' y 1 (by omega)
      rw [show ((1 : Int)) = ((1 : Nat) : Int) from rfl, this, k3, List.drop_drop]
    have hyl : (z.drop (nd a + 1)).length + 1 = y.length := by rw [k3, List.length_drop, List.length_drop]; omega
    refine ok_chk ⟨by omega, by omega⟩ (ok_chk ⟨by omega, by omega, Int.le_refl _⟩ (ok_some ⟨⟨?_, ?_⟩, hys, ⟨fun h => absurd rfl h, fun _ => ?_⟩, .inl ?_⟩))
    · show 0 ≤ min _ _; rw [hy0]; omega
    · show min _ _ ≤ _; omega
    · rw [if_pos hnz]
      show ((sub bs 0 (min _ (ix y 0))).length : Int) ≤ _ ∧ (sub bs 0 (min _ (ix y 0)) = [] → _)
      rw [hy0, sub_take]
      refine ⟨by rw [List.length_take]; omega, fun h => ?_⟩
      have := congrArg List.length h
      rw [List.length_take, List.length_nil] at this; omega
    · show (sub y 1 (y.length : Int)).length + 1 = _
      rw [hys]; exact hyl
  · have hy := of_decide_eq_false hy
    have hy0 : y = [] := List.length_eq_zero_iff.1 (by omega)
    have hnz : ¬ nd a < z.length := by
      intro h
      rw [hy0] at k3
      have := congrArg List.length k3
      rw [List.length_drop, List.length_nil] at this; omega
    refine ⟨⟨by show (0 : Int) ≤ bs.length; omega, Int.le_refl _⟩, ?_, ⟨fun h => absurd rfl h, fun _ => ?_⟩, .inr ⟨rfl, rfl⟩⟩
    · show y = _
      rw [hy0, List.drop_of_length_le (by omega)]
    · rw [if_neg hnz]
      show sub bs 0 (bs.length : Int) ≠ []
      rw [sub_take, Int.toNat_natCast, List.take_length]
      exact List.length_pos_iff.1 hbs
  · obtain ⟨⟨m1, m2⟩, m3, m4, m5⟩ := hj
    obtain ⟨m, z'⟩ := j
    dsimp only at m1 m2 m3 m4 m5 ⊢
    obtain ⟨m, rfl⟩ : ∃ n : Nat, m = (n : Int) := ⟨m.toNat, by omega⟩
    have hal : a.length ≤ 1000 := by omega
    refine ok_chk ⟨by omega, m1, m2⟩ (ok_chk (by rw [sub_take, List.length_take]; omega) (ok_letE fun x6 g6 => ok_chk (by simp only [List.length_cons, List.length_nil]; omega) (ok_chk ⟨m1, m2, Int.le_refl _⟩ (ok_some ⟨⟨?_, ?_, ?_, ?_⟩, ?_⟩))))
    all_goals
      subst g6
      have hd : sub bs (m : Int) (bs.length : Int) = bs.drop m := sub_drop' bs m (by omega)
      have ht : sub bs 0 (m : Int) = bs.take m := by rw [sub_take, Int.toNat_natCast]
      simp only [hd]
    · rw [flat_snoc, ht]
      show a.flatMap evP ++ (bs.take m).map ev1 ++ (bs.drop m).map ev1 = _
      rw [List.append_assoc, ← List.map_append, List.take_append_drop]; exact k1
    · exact lawCs_snoc k2 m4
    · rw [nd_snoc, if_pos rfl]; exact m3
    · simp only [List.length_append, List.length_cons, List.length_nil, List.length_drop]; omega
    · simp only [List.length_drop]; omega
end Go.Ab

