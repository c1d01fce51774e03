/-
  schedule: ScheduleReadsOnly: Read of any text: plain.
-/
import Derived.Test.YtblibgbakbhlkaaDoorZuMd
set_option linter.unusedSimpArgs false
set_option linter.unusedVariables false
set_option maxRecDepth 100000
namespace Go.Ab
open Go Go.RowKit Go.Fwd Go.Proofs
theorem unquote_ok2 (fuel : Nat) (t : List UInt8) (hf : t.length < fuel) (hb : t.length ≤ 1000000000) : Ok (fun r => r.1.length ≤ t.length ∧ 0 ≤ r.2.1) (F_unquote fuel t) := by
  unfold F_unquote
  refine ok_bif (fun _ => ok_some ⟨Nat.zero_le _, Int.le_refl _⟩) (fun h => ?_)
  have h0 : 0 < t.length := by
    cases t with
    | nil => simp at h
    | cons => simp
  refine ok_chk (by omega) (ok_letE fun x hx => ok_bif (fun _ => ok_some ⟨Nat.zero_le _, Int.le_refl _⟩) (fun _ => ?_))
  refine ok_cut (fun _ => True) ?_ (fun _ _ => ok_some ⟨Nat.zero_le _, Int.natCast_nonneg _⟩)
  refine ok_loop (fun (s : List UInt8 × Int) => 1 ≤ s.2 ∧ s.2 ≤ (t.length : Int) ∧ (s.1.length : Int) + 1 ≤ s.2) (fun s => t.length - s.2.toNat) (fun s hT => ?_) _ _ (by simp; omega) ⟨by decide, by omega, by simp⟩
  obtain ⟨out, at'⟩ := s
  obtain ⟨h1, h2, h3⟩ := hT
  simp only at h1 h2 h3
  refine ok_bif (fun hc => ?_) (fun _ => ok_some trivial)
  have hc := of_decide_eq_true hc
  simp only at hc
  refine ok_chk ⟨by simp only; omega, hc⟩ (ok_letE fun y hy => ok_bif (fun _ => ok_chk (by simp only; omega) (ok_some ⟨by show out.length ≤ _; omega, by show (0 : Int) ≤ at' + 1; omega⟩)) (fun _ => ok_chk (by simp only; omega) (ok_letE fun z hz => ?_)))
  have hzl : z.length = t.length - at'.toNat := by
    obtain ⟨n, rfl⟩ : ∃ n : Nat, at' = (n : Int) := ⟨at'.toNat, by omega⟩
    rw [← hz]
    simp only
    rw [sub_drop' _ _ (by omega), List.length_drop, Int.toNat_natCast]
  refine ok_bindE (readbyte_ok z) (fun a ⟨g1, g2⟩ => ok_bif (fun _ => ok_some ⟨Nat.zero_le _, by show (0 : Int) ≤ at'; omega⟩) (fun h => ?_))
  have he : a.2.2 = 0 := by simpa using h
  obtain ⟨g3, g4⟩ := g2 he
  refine ok_chk g1 (ok_chk (by simp only [List.length_cons, List.length_nil]; omega) (ok_chk (by simp only; omega) (ok_some ⟨⟨by simp only; omega, by simp only; omega, by simp only [List.length_append, List.length_cons, List.length_nil]; omega⟩, by simp only; omega⟩)))
theorem take_sub {α : Type} {l y : List α} {n : Int} (g : 0 ≤ n ∧ n ≤ (l.length : Int)) (h : sub l 0 n = y) : l = y ++ l.drop n.toNat ∧ n = (y.length : Int) := by
  have h1 : y = l.take n.toNat := by rw [← h]; simp [sub]
  refine ⟨by rw [h1, List.take_append_drop], ?_⟩
  rw [h1, List.length_take]; omega
theorem cut_take (s : List UInt8) : ∃ u, s = (Lib.cut s [32]).1 ++ u := by
  rcases cut_says 32 s with h | h
  · exact ⟨_, h.2⟩
  · exact ⟨[], by rw [h]; simp⟩
theorem repeat_wr (fuel : Nat) (hf : 4096 < fuel) (v : Int) (h : 1 ≤ v ∧ v ≤ 4096) : F_repeat_ fuel [Ev.mk 2 0] v = some (List.replicate v.toNat (Ev.mk 2 0)) := by
  have := repeat_eq fuel (Ev.mk 2 0) v.toNat (by omega) (by omega) hf
  rwa [show ((v.toNat : Nat) : Int) = v by omega] at this
set_option maxHeartbeats 2000000 in
theorem part_ok (fuel : Nat) (s : List UInt8) (hf : s.length + 2 < fuel) (hf2 : 4096 < fuel) (hl : s.length ≤ 100000) : Ok (fun r => r.1 = [] ∨ stretch r.1 ∧ ∃ u, s = partP r.1 ++ u ∧ r.2 = ((partP r.1).length : Int)) (F_part fuel s) := by
  unfold F_part
  refine ok_cut (fun _ => True) (ok_letE fun x hx => ok_bif (fun _ => ?_) (fun _ => ok_some trivial)) (fun _ _ => ?_)
  · refine ok_bindE (unquote_ok2 fuel s (by omega) (by omega)) fun q ⟨hq, hq0⟩ => ok_bif (fun _ => ok_some (.inl rfl)) (fun _ => ok_bif (fun _ => ok_some (.inl rfl)) (fun h => ?_))
    have hle : q.2.1 ≤ (s.length : Int) := by have := of_decide_eq_false h; omega
    rw [quote_eq fuel q.1 (by omega) (by omega), bindE_some]
    refine ok_chk ⟨by omega, hq0, hle⟩ (ok_letE fun y hy => ok_bif (fun _ => ok_some (.inl rfl)) (fun h => ?_))
    have hyq : y = quoteP q.1 := by
      have hh : (quoteP q.1 == y) = true := by
        cases hb : quoteP q.1 == y
        · rw [hb] at h; cases h
        · rfl
      exact (beq_iff_eq.1 hh).symm
    obtain ⟨e1, e2⟩ := take_sub ⟨hq0, hle⟩ hy
    refine ok_cut (fun j => j = q.1.map fun c => Ev.mk 1 ((c.toNat : Nat) : Int)) (ok_loop (fun s : List Ev × Int => ∃ i : Nat, s.2 = (i : Int) ∧ i ≤ q.1.length ∧ s.1 = (q.1.take i).map fun c => Ev.mk 1 ((c.toNat : Nat) : Int)) (fun s => q.1.length - s.2.toNat) ?_ fuel ([], 0) (by simp; omega) ⟨0, rfl, Nat.zero_le _, rfl⟩) fun j hj => ok_some ?_
    · rintro ⟨a, i0⟩ ⟨i, rfl, hi, rfl⟩
      dsimp only
      refine ok_bif (fun hc => ?_) (fun hc => ok_some ?_)
      rotate_left
      · have hlt : ¬ i < q.1.length := by have := of_decide_eq_false hc; omega
        rw [List.take_of_length_le (by omega)]
      have hlt : i < q.1.length := by have := of_decide_eq_true hc; omega
      refine ok_chk ⟨by omega, by omega⟩ (ok_letE fun z hz => ok_chk (by simp; omega) (ok_chk ⟨by omega, by omega⟩ (ok_some ⟨⟨i + 1, by simp, hlt, ?_⟩, by simp only; omega⟩)))
      have hz' : z = q.1[i] := by rw [← hz]; simp [ix, hlt]
      show _ ++ _ = _
      rw [List.take_succ_eq_append_getElem hlt, List.map_append, hz']; rfl
    · subst hj
      by_cases hb : q.1 = []
      · exact .inl (by simp [hb])
      · refine .inr ⟨.inl ⟨_, hb, rfl⟩, List.drop q.2.1.toNat s, ?_, ?_⟩
        · show s = partP _ ++ _
          rw [partP_1 hb, ← hyq]; exact e1
        · show q.2.1 = _
          rw [partP_1 hb, ← hyq]; exact e2
  · obtain ⟨u, hu⟩ := cut_take s
    refine ok_chk (by omega) (ok_letE fun y hy => ?_)
    have hy1 : y.1 = (Lib.cut s [32]).1 := by rw [← hy]
    rw [← hy1] at hu
    refine ok_bif (fun h => ok_some (.inr ⟨.inr (.inr rfl), u, ?_, ?_⟩)) (fun _ => ok_letE fun z hz => ?_)
    · have he : y.1 = [101, 111, 102] := by simpa using h
      show s = partP [Ev.mk 3 0] ++ u
      rw [partP_3, ← he]; exact hu
    · have he : y.1 = [101, 111, 102] := by simpa using h
      show (y.1.length : Int) = _
      rw [he]; rfl
    have hyl : y.1.length ≤ s.length := by rw [hu]; simp
    have hzl : z.1.length ≤ s.length := by
      rw [← hz]; show (Lib.trimPrefix y.1 [116]).length ≤ _
      unfold Lib.trimPrefix; split
      · rw [List.length_drop]; omega
      · exact hyl
    refine ok_bif (fun _ => ?_) (fun _ => ok_chk (by omega) (ok_letE fun v hv => ok_bif (fun _ => ok_some (.inl rfl)) (fun _ => ok_some (.inl rfl))))
    refine ok_chk (by omega) (ok_letE fun v hv => ok_bif (fun _ => ok_some (.inl rfl)) (fun hz2 => ok_bif (fun _ => ok_some (.inl rfl)) (fun h1 => ok_bif (fun _ => ok_some (.inl rfl)) (fun h2 => ok_chk ⟨?_, ?_⟩ (ok_letE fun w hw => ok_bif (fun _ => ok_some (.inl rfl)) (fun hwz => ?_))))))
    · have := of_decide_eq_false h1; omega
    · have := of_decide_eq_false h2; omega
    have k1 := of_decide_eq_false h1
    have k2 := of_decide_eq_false h2
    rw [repeat_wr fuel hf2 v (by omega), bindE_some]
    have hpre : Lib.hasPrefix y.1 [116] = true := by rw [← hz] at hz2; simpa using hz2
    have hzv : z.1 = Lib.itoa v := by have : w = z.1 := by simpa using hwz
                                      rw [← this, hw]
    have hy2 : y.1 = 116 :: Lib.itoa v := by
      rw [← hzv, ← hz]
      show y.1 = 116 :: Lib.trimPrefix y.1 [116]
      unfold Lib.trimPrefix
      rw [if_pos hpre]
      unfold Lib.hasPrefix at hpre
      obtain ⟨r, hr⟩ := List.isPrefixOf_iff_prefix.1 hpre
      rw [← hr]; rfl
    have hp2 : partP (List.replicate v.toNat (Ev.mk 2 0)) = 116 :: Lib.itoa v := by rw [partP_2 (by omega), show ((v.toNat : Nat) : Int) = v by omega]
    refine ok_some (.inr ⟨.inr (.inl ⟨v.toNat, by omega, by omega, rfl⟩), u, ?_, ?_⟩)
    · show s = partP (List.replicate v.toNat (Ev.mk 2 0)) ++ u
      rw [hp2, ← hy2]; exact hu
    · show (y.1.length : Int) = ((partP (List.replicate v.toNat (Ev.mk 2 0))).length : Int)
      rw [hp2, ← hy2]
end Go.Ab
set_option linter.unusedSimpArgs false
set_option linter.unusedVariables false
set_option maxRecDepth 100000
namespace Go.Ab
open Go Go.RowKit Go.Fwd Go.Proofs
theorem runs_cons (e : Ev) (t l : List Ev) (h1 : ∀ x ∈ t, x.k = e.k) (h2 : ∀ x ∈ l.head?, x.k ≠ e.k) : runs (e :: (t ++ l)) = (e :: t) :: runs l := by
  obtain ⟨s, rest, e1, e2, e3, e4⟩ := runs_head e (t ++ l)
  have key : ∀ (t s l rest : List Ev), t ++ l = s ++ rest → (∀ x ∈ t, x.k = e.k) → (∀ x ∈ s, x.k = e.k) → (∀ x ∈ l.head?, x.k ≠ e.k) → (∀ x ∈ rest.head?, x.k ≠ e.k) → s = t ∧ rest = l := by
    intro t
    induction t with
    | nil =>
      intro s l rest h _ hs hl hr
      cases s with
      | nil => exact ⟨rfl, h.symm⟩
      | cons a s =>
        rw [List.nil_append] at h; subst h
        exact absurd (hs a List.mem_cons_self) (hl a rfl)
    | cons b t ih =>
      intro s l rest h ht hs hl hr
      cases s with
      | nil =>
        rw [List.nil_append] at h; subst h
        exact absurd (ht b List.mem_cons_self) (hr b rfl)
      | cons a s =>
        obtain ⟨h3, h4⟩ := List.cons.inj h
        obtain ⟨h5, h6⟩ := ih s l rest h4 (fun x hx => ht x (List.mem_cons_of_mem _ hx)) (fun x hx => hs x (List.mem_cons_of_mem _ hx)) hl hr
        exact ⟨by rw [h3, h5], h6⟩
  obtain ⟨h5, h6⟩ := key t s l rest e1 h1 e3 h2 e4
  rw [e2, h5, h6]
def adjP : Int → List (List Ev) → Prop
  | _, [] => True
  | k, w :: r => w ≠ [] ∧ (∀ e ∈ w, e.k = (ix w 0).k) ∧ (ix w 0).k ≠ k ∧ adjP (ix w 0).k r
def lastK : Int → List (List Ev) → Int
  | k, [] => k
  | _, w :: r => lastK (ix w 0).k r
theorem adj_snoc {w : List Ev} (h0 : w ≠ []) (h1 : ∀ e ∈ w, e.k = (ix w 0).k) : ∀ (L : List (List Ev)) (k : Int), adjP k L → (ix w 0).k ≠ lastK k L → adjP k (L ++ [w]) ∧ lastK k (L ++ [w]) = (ix w 0).k
  | [], k, _, h => ⟨⟨h0, h1, h, trivial⟩, rfl⟩
  | v :: L, k, ⟨a, b, c, d⟩, h => by
    obtain ⟨h2, h3⟩ := adj_snoc h0 h1 L _ d h
    exact ⟨⟨a, b, c, h2⟩, h3⟩
theorem adj_runs : ∀ (L : List (List Ev)) (k : Int), adjP k L → runs L.flatten = L ∧ (∀ x ∈ L.flatten.head?, x.k ≠ k) ∧ L.length ≤ L.flatten.length
  | [], k, _ => ⟨rfl, fun x hx => by simp at hx, Nat.le_refl _⟩
  | w :: L, k, ⟨a, b, c, d⟩ => by
    obtain ⟨h1, h2, h3⟩ := adj_runs L _ d
    cases w with
    | nil => exact absurd rfl a
    | cons e t =>
      have hk : (ix (e :: t) 0).k = e.k := rfl
      rw [hk] at b c h2
      refine ⟨?_, ?_, ?_⟩
      · rw [List.flatten_cons, List.cons_append, runs_cons e t _ (fun x hx => b x (List.mem_cons_of_mem _ hx)) h2, h1]
      · intro x hx
        have : x = e := by simpa using hx.symm
        rw [this]; exact c
      · simp only [List.flatten_cons, List.length_append, List.length_cons]; omega
theorem okE_map : ∀ (b : List UInt8), okE false (b.map fun c => Ev.mk 1 ((c.toNat : Nat) : Int)) = true
  | [] => rfl
  | c :: b => by
    rw [List.map_cons, okE, Bool.and_eq_true]
    exact ⟨rfl, okE_map b⟩
theorem okE_tick : ∀ (n : Nat) (o : Bool), okE o (List.replicate n (Ev.mk 2 0)) = true
  | 0, _ => rfl
  | n + 1, o => by
    rw [List.replicate_succ, okE, Bool.and_eq_true]
    exact ⟨by cases o <;> rfl, by rw [show (o || (Ev.mk 2 0).k == 3) = o by cases o <;> rfl]; exact okE_tick n o⟩
theorem stretch_says {w : List Ev} (h : stretch w) : w ≠ [] ∧ (∀ e ∈ w, e.k = (ix w 0).k) ∧ U8s w ∧ ∀ o, rightP (ix w 0) o = true → okE o w = true := by
  rcases h with ⟨b, hb, rfl⟩ | ⟨n, h1, h2, rfl⟩ | rfl
  · cases b with
    | nil => exact absurd rfl hb
    | cons c b =>
      refine ⟨by simp, fun e he => ?_, fun e he => ?_, fun o ho => ?_⟩
      · obtain ⟨x, _, rfl⟩ := List.mem_map.1 he; rfl
      · obtain ⟨x, _, rfl⟩ := List.mem_map.1 he
        have := x.toNat_lt
        exact ⟨⟨(by decide : (0 : Int) ≤ 1), (by decide : (1 : Int) < 256)⟩, by show (0 : Int) ≤ (x.toNat : Int); omega, by show (x.toNat : Int) < 256; omega⟩
      · have ho' : o = false := by
          have h3 : rightP (ix (List.map (fun c : UInt8 => Ev.mk 1 ((c.toNat : Nat) : Int)) (c :: b)) 0) o = !o := rfl
          rw [h3] at ho; cases o
          · rfl
          · cases ho
        subst ho'
        exact okE_map _
  · cases n with
    | zero => omega
    | succ n =>
      refine ⟨by simp [List.replicate_succ], fun e he => ?_, fun e he => ?_, fun o ho => okE_tick _ _⟩
      · rw [(List.mem_replicate.1 he).2]; rfl
      · rw [(List.mem_replicate.1 he).2]; exact ⟨⟨by decide, by decide⟩, by decide, by decide⟩
  · refine ⟨by simp, fun e he => ?_, fun e he => ?_, fun o ho => ?_⟩
    · rw [List.mem_singleton.1 he]; rfl
    · rw [List.mem_singleton.1 he]; exact ⟨⟨by decide, by decide⟩, by decide, by decide⟩
    · have h3 : okE o [Ev.mk 3 0] = (rightP (Ev.mk 3 0) o && true) := rfl
      rw [h3, Bool.and_true]; exact ho
def headP (L : List (List Ev)) : List UInt8 := L.flatMap fun w => partP w ++ [32]
theorem join_head : ∀ (L : List (List Ev)) (w : List Ev), Lib.join ((L ++ [w]).map partP) [32] = headP L ++ partP w
  | [], w => by rw [List.nil_append, List.map_cons, List.map_nil, Lib.join_one]; rfl
  | v :: L, w => by
    have ih := join_head L w
    cases L with
    | nil => rw [List.cons_append, List.nil_append, join_two, List.map_cons, List.map_nil, Lib.join_one]; simp [headP]
    | cons u L =>
      rw [List.cons_append, List.cons_append, join_two, ← List.cons_append, ih]
      simp [headP]
def readQ (s : List UInt8) (r : List Ev × Int × Int) : Prop := (r.2.2 = 0 ∧ r.2.1 = -1 ∧ okE false r.1 = true ∧ U8s r.1 ∧ r.1.length ≤ 4096 ∧ textP r.1 = s) ∨ (r.1 = [] ∧ r.2.2 = 321 ∧ 0 ≤ r.2.1) ∨ (r.1 = [] ∧ r.2.2 = 5 ∧ r.2.1 = -1)
set_option maxHeartbeats 4000000 in
theorem read_ok (fuel : Nat) (s : List UInt8) (hl : s.length ≤ 600) (hf : 100000 ≤ fuel) : Ok (readQ s) (F_read fuel s) := by
  unfold F_read
  refine ok_bif (fun h => ok_some (.inr (.inr ⟨rfl, by have := of_decide_eq_true h; omega, rfl⟩))) (fun _ => ok_bif (fun h => ?_) (fun h => ?_))
  · have : s = [] := by simpa using h
    subst this
    exact ok_some (.inl ⟨rfl, rfl, rfl, fun e he => by simp at he, Nat.zero_le _, rfl⟩)
  refine ok_cut (fun j => j.2.2 = 321 ∧ 0 ≤ j.2.1 ∨ j.2.2 = 5 ∧ j.2.1 = -1 ∨ j.2.2 = 0 ∧ okE false j.1 = true ∧ U8s j.1 ∧ j.1.length ≤ 4096 ∧ textP j.1 = s) ?_ (fun j hj => ok_bif (fun h => ok_some ?_) (fun h => ok_some ?_))
  rotate_left
  · rcases hj with ⟨h1, h2⟩ | ⟨h1, h2⟩ | ⟨h1, h2⟩
    · exact .inr (.inl ⟨rfl, h1, h2⟩)
    · exact .inr (.inr ⟨rfl, h1, h2⟩)
    · rw [h1] at h; simp at h
  · rcases hj with ⟨h1, h2⟩ | ⟨h1, h2⟩ | ⟨h1, h2⟩
    · rw [h1] at h; simp at h
    · rw [h1] at h; simp at h
    · exact .inl ⟨rfl, rfl, h2⟩
  refine ok_loop (fun t : List UInt8 × List Ev × Bool × Int × Int × Int => ∃ L, adjP 0 L ∧ t.2.2.2.1 = lastK 0 L ∧ s = headP L ++ t.1 ∧ t.2.1 = L.flatten ∧ t.2.2.1 = eofs t.2.1 ∧ okE false t.2.1 = true ∧ U8s t.2.1 ∧ t.2.1.length ≤ 4096 ∧ (0 ≤ t.2.2.2.2.1 ∧ t.2.2.2.2.1 ≤ (L.length : Int)) ∧ t.2.2.2.2.2 = 0) (fun t => t.1.length) ?_ fuel (s, [], false, 0, 0, 0) (by show s.length < fuel; omega) ⟨[], trivial, rfl, rfl, rfl, rfl, rfl, fun e he => by simp at he, Nat.zero_le _, ⟨Int.le_refl _, Int.le_refl _⟩, rfl⟩
  rintro ⟨t, out, over, last, n, e⟩ ⟨L, ha, hla, hs, ho, hov, hok, hu8, hln, hn, he⟩
  dsimp only at ha hla hs ho hov hok hu8 hln hn he ⊢
  have htl : t.length ≤ s.length := by rw [hs, List.length_append]; omega
  have hL := (adj_runs L 0 ha).2.2
  rw [← ho] at hL
  refine ok_bindE (part_ok fuel t (by omega) (by omega) (by omega)) fun x hx => ?_
  refine ok_cut (fun _ => ∃ u, stretch x.1 ∧ t = partP x.1 ++ u ∧ x.2 = ((partP x.1).length : Int) ∧ (ix x.1 0).k ≠ last ∧ rightP (ix x.1 0) over = true ∧ (u = [] ∨ ∃ r, u = 32 :: r)) (ok_bif (fun h => ok_some (.inl ⟨rfl, hn.1⟩)) (fun h0 => ?_)) fun _ hc => ?_
  · have hx1 : x.1 ≠ [] := by rintro h; rw [h] at h0; simp at h0
    have hxl := List.length_pos_iff.2 hx1
    rcases hx with hx | ⟨hst, u, e1, e2⟩
    · exact absurd hx hx1
    have hlen : t.length = (partP x.1).length + u.length := by rw [e1, List.length_append]
    refine ok_chk ⟨by omega, by omega⟩ (ok_letE fun x2 h2 => ok_bif (fun h => ok_some (.inl ⟨rfl, hn.1⟩)) (fun hk => ok_chk ⟨by omega, by omega⟩ (ok_letE fun x3 h3 => ok_bindE (ok_eq (right_eq _ _)) fun y hy => ok_bif (fun h => ok_some (.inl ⟨rfl, hn.1⟩)) (fun hr => ?_))))
    subst h2 h3 hy
    have hk' : (ix x.1 0).k ≠ last := by simpa using hk
    have hr' : rightP (ix x.1 0) over = true := by simpa using hr
    refine ok_bif (fun hlt => ?_) (fun hlt => ok_some ⟨u, hst, e1, e2, hk', hr', .inl ?_⟩)
    · have hlt := of_decide_eq_true hlt
      refine ok_chk ⟨by omega, by omega⟩ (ok_letE fun x5 h5 => ok_bif (fun h => ok_some (.inl ⟨rfl, hn.1⟩)) (fun h => ok_some ⟨u, hst, e1, e2, hk', hr', .inr ?_⟩))
      cases u with
      | nil => simp at hlen; omega
      | cons c r =>
        have hc : x5 = c := by rw [← h5, e2]; exact (ix_drop (by rw [e1, List.drop_left])).1
        subst hc
        have h32 : ((x5.toNat : Nat) : Int) = 32 := by simpa using h
        exact ⟨r, by rw [show x5 = 32 from UInt8.toNat_inj.1 (by show x5.toNat = 32; omega)]⟩
    · have := of_decide_eq_false hlt
      exact List.length_eq_zero_iff.1 (by omega)
  obtain ⟨u, hst, e1, e2, hk, hr, hu⟩ := hc
  obtain ⟨q1, q2, q3, q4⟩ := stretch_says hst
  have hxl := List.length_pos_iff.2 q1
  have hlen : t.length = (partP x.1).length + u.length := by rw [e1, List.length_append]
  have hxlen : x.1.length ≤ 5000 := by
    rcases hst with ⟨b, hb, hw⟩ | ⟨m, h1, h2, hw⟩ | hw
    · have h3 : (partP x.1).length = (quoteP b).length := by rw [hw, partP_1 hb]
      have h4 : b.length ≤ (quoteP b).length := by
        unfold quoteP
        have : ∀ b : List UInt8, b.length ≤ (b.flatMap byteP).length := by
          intro b
          induction b with
          | nil => simp
          | cons c b ih =>
            rw [List.flatMap_cons, List.length_append, List.length_cons]
            have : 1 ≤ (byteP c).length := by unfold byteP; (repeat' split) <;> simp
            omega
        have := this b
        simp only [List.length_cons, List.length_append] at *; omega
      rw [hw, List.length_map]; omega
    · rw [hw, List.length_replicate]; omega
    · rw [hw]; decide
  have hadj := adj_snoc q1 q2 L 0 ha (by rw [← hla]; exact hk)
  have hok' : okE false (out ++ x.1) = true := by rw [okE_app, hok, Bool.true_and, Bool.false_or, ← hov]; exact q4 _ hr
  have hu8' : U8s (out ++ x.1) := fun y hy => (List.mem_append.1 hy).elim (hu8 y) (q3 y)
  have hfl : out ++ x.1 = (L ++ [x.1]).flatten := by rw [ho]; simp
  refine ok_chk (by omega) (ok_bif (fun h => ok_some (.inr (.inl ⟨rfl, rfl⟩))) (fun h5 => ?_))
  have h5 := of_decide_eq_false h5
  have h6 : (out ++ x.1).length ≤ 4096 := by omega
  have hrun := (adj_runs _ 0 hadj.1).1
  have hLn : L.length ≤ 4096 := by simp only [List.length_append] at h6; omega
  refine ok_bif (fun h => ok_some (.inr (.inr ⟨he, hok', hu8', h6, ?_⟩))) (fun h => ?_)
  · have hm : x.2 = (t.length : Int) := by simpa using h
    have hu0 : u = [] := List.length_eq_zero_iff.1 (by omega)
    show textP (out ++ x.1) = s
    unfold textP
    rw [hfl, hrun, join_head, hs, e1, hu0, List.append_nil]
  have hm : x.2 ≠ (t.length : Int) := by simpa using h
  rcases hu with rfl | ⟨v, rfl⟩
  · exfalso; simp at hlen; omega
  have hlv : t.length = (partP x.1).length + 1 + v.length := by rw [hlen, List.length_cons]; omega
  have hsub : sub t (x.2 + 1) (t.length : Int) = v := by
    have := sub_drop' t ((partP x.1).length + 1) (by omega)
    rw [e2, show (((partP x.1).length : Int) + 1) = (((partP x.1).length + 1 : Nat) : Int) by simp, this, e1]
    rw [List.drop_append, List.drop_of_length_le (by omega)]; simp
  have hnext : ∀ (o' : Bool) (k : Int), o' = eofs (out ++ x.1) → k = (ix x.1 0).k → ∃ L', adjP 0 L' ∧ k = lastK 0 L' ∧ s = headP L' ++ v ∧ out ++ x.1 = L'.flatten ∧ o' = eofs (out ++ x.1) ∧ okE false (out ++ x.1) = true ∧ U8s (out ++ x.1) ∧ (out ++ x.1).length ≤ 4096 ∧ (0 ≤ n + 1 ∧ n + 1 ≤ (L'.length : Int)) ∧ e = 0 := fun o' k h1 h2 =>
    ⟨L ++ [x.1], hadj.1, by rw [h2, hadj.2], by rw [hs, e1]; simp [headP], hfl, h1, hok', hu8', h6, ⟨by omega, by simp; omega⟩, he⟩
  have hee : eofs (out ++ x.1) = (over || (ix x.1 0).k == 3) := by rw [hov, ← eofs_w q1 q2]; simp [eofs, List.any_append]
  refine ok_chk ⟨by omega, by omega⟩ (ok_letE fun x6 g6 => ok_bif (fun hv => ?_) (fun hv => ?_))
  · refine ok_chk ⟨by omega, by omega⟩ (ok_chk ⟨by omega, by omega, Int.le_refl _⟩ (ok_letE fun x7 g7 => ok_chk ⟨by omega, by omega⟩ (ok_some ⟨?_, ?_⟩)))
    · rw [hsub] at g7; subst g7 g6
      exact hnext true _ (by rw [hee, hv]; rfl) rfl
    · rw [hsub] at g7; subst g7; simp only; omega
  · refine ok_chk ⟨by omega, by omega⟩ (ok_letE fun x8 g8 => ok_chk ⟨by omega, by omega⟩ (ok_chk ⟨by omega, by omega, Int.le_refl _⟩ (ok_letE fun x7 g7 => ok_chk ⟨by omega, by omega⟩ (ok_some ⟨?_, ?_⟩))))
    · rw [hsub] at g7; subst g7 g6 g8
      exact hnext _ _ (by rw [hee, hv]; rfl) rfl
    · rw [hsub] at g7; subst g7; simp only; omega
theorem readsonly_eq (s : List UInt8) : F_readsonly 100000 s = some true := by
  refine Ok.eq ?_
  unfold F_readsonly
  have hw : Ok (fun r => r = true) (bindE (F_awake 100000) (fun x => some x)) := ok_bindE (ok_eq awake_true) fun a ha => ok_some ha
  refine ok_bif (fun _ => hw) (fun h => ?_)
  have hl : s.length ≤ 600 := by have := of_decide_eq_false h; omega
  refine ok_bindE (read_ok 100000 s hl (Nat.le_refl _)) fun r hr => ?_
  rcases hr with ⟨h1, h2, h3, h4, h5, h6⟩ | ⟨h1, h2, h3⟩ | ⟨h1, h2, h3⟩
  · refine ok_bif (fun h => by rw [h1] at h; simp at h) (fun _ => ?_)
    rw [check_ok 100000 r.1 (by omega) h5 h3, write_eq 100000 r.1 (by omega) h5 h3 h4, bindE_some, bindE_some]
    refine ok_chk ⟨(by decide : (-9223372036854775808 : Int) ≤ 0 + 0), (by decide : (0 + 0 : Int) < 9223372036854775808)⟩ (ok_bif (fun _ => ok_bif (fun _ => ok_bif (fun _ => ok_bif (fun _ => hw) (fun h => ?_)) (fun h => by rw [h2] at h; simp at h)) (fun h => by simp at h)) (fun h => by simp at h))
    rw [h6] at h; simp at h
  · refine ok_bif (fun _ => ok_bif (fun _ => ok_bif (fun _ => ok_bif (fun _ => hw) (fun h => ?_)) (fun h => by rw [h2] at h; simp at h)) (fun h => by rw [h1] at h; simp at h)) (fun h => by rw [h2] at h; simp at h)
    have := of_decide_eq_false h; omega
  · refine ok_bif (fun _ => ok_bif (fun _ => ok_bif (fun h => by rw [h2] at h; simp at h) (fun _ => ok_bif (fun _ => ok_bif (fun _ => hw) (fun h => by rw [h3] at h; simp at h)) (fun h => by rw [h2] at h; simp at h))) (fun h => by rw [h1] at h; simp at h)) (fun h => by rw [h2] at h; simp at h)
end Go.Ab

