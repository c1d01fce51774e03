/-
  schedule: Read of what was written: plain.
-/
import Derived.Test.YtblibgbakbhlkaaDoorZuPw
set_option linter.unusedSimpArgs false
set_option linter.unusedVariables false
set_option maxRecDepth 20000
namespace Go.Ab
open Go Go.RowKit Go.Fwd Go.Proofs
theorem cpy_rep {α : Type} (e z : α) (k n m : Nat) (hm : m ≤ k) (hn : m ≤ n) : cpy (List.replicate k e ++ List.replicate n z) k (List.take m (List.take k (List.replicate k e ++ List.replicate n z))) = List.replicate (k + m) e ++ List.replicate (n - m) z := by
  have h1 : List.take k (List.replicate k e ++ List.replicate n z) = List.replicate k e := List.take_left' (List.length_replicate ..)
  have h2 : List.take m (List.replicate k e) = List.replicate m e := by rw [List.take_replicate, Nat.min_eq_left hm]
  have h3 : List.drop (k + m) (List.replicate k e ++ List.replicate n z) = List.replicate (n - m) z := by
    rw [← List.drop_drop, List.drop_left' (List.length_replicate ..), List.drop_replicate]
  unfold cpy
  rw [h1, h2, List.length_replicate, h3, List.replicate_append_replicate]
theorem repeat_gen (fuel : Nat) (e : Ev) (N : Nat) (h1 : 1 ≤ N) (hN : N ≤ 100000) (hf : N < fuel) (hm : F_bmul (IntKind.u64.wrap ((List.length [e] : Nat) : Int)) (IntKind.u64.wrap (N : Int)) = some (0, (N : Int))) : F_repeat_ fuel [e] (N : Int) = some (List.replicate N e) := by
  unfold F_repeat_
  refine Ok.eq (ok_bif (fun h => ?_) (fun _ => ?_))
  · have := of_decide_eq_true h; omega
  rw [hm, bindE_some]
  simp only [Int.toNat_natCast]
  refine ok_bif (fun h => by have := of_decide_eq_true h; omega) (fun _ => ok_bif (fun h => by have := of_decide_eq_true h; omega) (fun _ => ok_chk (by omega) (ok_chk (by omega) (ok_chk (by rw [List.length_replicate]; omega) (ok_cut (fun j => j = List.replicate N e) ?_ (fun j hj => ok_some hj))))))
  have hmin : Nat.min (List.length [e]) N = 1 := Nat.min_eq_left h1
  rw [hmin]
  refine ok_loop (fun (s : Int × List Ev) => ∃ k : Nat, s.1 = (k : Int) ∧ 1 ≤ k ∧ k ≤ N ∧ s.2 = List.replicate k e ++ List.replicate (N - k) (Ev.mk 0 0)) (fun s => N - s.1.toNat) (fun s hT => ?_) _ _ (by simp only; omega) ⟨1, rfl, Nat.le_refl _, h1, ?_⟩
  · obtain ⟨s1, s2⟩ := s
    obtain ⟨k, g1, g2, g3, g4⟩ := hT
    simp only at g1 g4
    subst g1
    have hlen : s2.length = N := by rw [g4]; simp; omega
    simp only [Int.toNat_natCast]
    refine ok_chk hlen (ok_bif (fun hc => ?_) (fun hc => ok_some ?_))
    · have hc := of_decide_eq_true hc
      have hmk : Nat.min k (N - k) ≤ k := Nat.min_le_left _ _
      have hmn : Nat.min k (N - k) ≤ N - k := Nat.min_le_right _ _
      have hm1 : 1 ≤ Nat.min k (N - k) := Nat.le_min.2 ⟨g2, by omega⟩
      refine ok_chk (by omega) (ok_chk (by omega) (ok_chk (by omega) (ok_chk (by omega) (ok_some ⟨⟨k + Nat.min k (N - k), by simp, by omega, by omega, ?_⟩, by first | omega | (simp only; omega)⟩))))
      simp only
      rw [g4, cpy_rep _ _ _ _ _ hmk hmn, Nat.sub_sub]
    · have hc := of_decide_eq_false hc
      have : k = N := by omega
      subst this
      show s2 = _
      rw [g4, Nat.sub_self]; simp
  · unfold cpy
    simp
theorem bmul_all : ((List.range 4097).all fun n => F_bmul 1 (n : Int) == some (0, (n : Int))) = true := by decide +kernel
theorem repeat_eq (fuel : Nat) (e : Ev) (N : Nat) (h1 : 1 ≤ N) (hN : N ≤ 4096) (hf : 4096 < fuel) : F_repeat_ fuel [e] (N : Int) = some (List.replicate N e) := by
  refine repeat_gen fuel e N h1 (by omega) (by omega) ?_
  have hw : IntKind.u64.wrap (N : Int) = (N : Int) := by
    have : IntKind.u64.wrap (N : Int) = (N : Int) % 18446744073709551616 := rfl
    rw [this]; omega
  rw [hw]
  have := List.all_eq_true.1 bmul_all N (List.mem_range.2 (by omega))
  exact (beq_iff_eq).1 this
theorem atoiOk_itoa {n : Int} (h : 0 ≤ n ∧ n < 1000000000000) : atoiOk (Lib.itoa n) = true := by
  rw [itoa_pos h.1]
  have hl := dig_len 11 n.toNat (by omega)
  unfold atoiOk
  rw [Lib.atoiAll_short _ (by omega), atoi_dig]
  rfl
def stretch (w : List Ev) : Prop := (∃ b : List UInt8, b ≠ [] ∧ w = b.map fun c => Ev.mk 1 ((c.toNat : Nat) : Int)) ∨ (∃ n : Nat, 1 ≤ n ∧ n ≤ 4096 ∧ w = List.replicate n (Ev.mk 2 0)) ∨ w = [Ev.mk 3 0]
theorem bytesP_map (b : List UInt8) : bytesP (b.map fun c => Ev.mk 1 ((c.toNat : Nat) : Int)) = b := by
  induction b with
  | nil => rfl
  | cons c b ih =>
    have : bytesP (Ev.mk 1 ((c.toNat : Nat) : Int) :: (b.map fun c => Ev.mk 1 ((c.toNat : Nat) : Int))) = u8of ((c.toNat : Nat) : Int) :: bytesP (b.map fun c => Ev.mk 1 ((c.toNat : Nat) : Int)) := rfl
    rw [List.map_cons, this, ih, u8of_nat]
theorem partP_1 {b : List UInt8} (h : b ≠ []) : partP (b.map fun c => Ev.mk 1 ((c.toNat : Nat) : Int)) = quoteP b := by
  cases b with
  | nil => exact absurd rfl h
  | cons c b =>
    have hk : (ix (List.map (fun c : UInt8 => Ev.mk 1 ((c.toNat : Nat) : Int)) (c :: b)) 0).k = 1 := rfl
    rw [partP, if_pos hk, bytesP_map]
theorem partP_2 {n : Nat} (h : 1 ≤ n) : partP (List.replicate n (Ev.mk 2 0)) = 116 :: Lib.itoa (n : Int) := by
  obtain ⟨k, rfl⟩ : ∃ k, n = k + 1 := ⟨n - 1, by omega⟩
  have hk : (ix (List.replicate (k + 1) (Ev.mk 2 0)) 0).k = 2 := rfl
  rw [partP, if_neg (by rw [hk]; decide), if_pos hk, List.length_replicate]
theorem partP_3 : partP [Ev.mk 3 0] = [101, 111, 102] := rfl
def tailP (u : List UInt8) : Prop := u = [] ∨ ∃ r, u = 32 :: r
theorem cut_word {a u : List UInt8} (h : (32 : UInt8) ∉ a) (hu : tailP u) : (Lib.cut (a ++ u) [32]).1 = a := by
  rcases hu with rfl | ⟨r, rfl⟩
  · rw [List.append_nil, cut_no h]
  · rw [cut_at h]
theorem part_eq (fuel : Nat) (w : List Ev) (u : List UInt8) (hw : stretch w) (hu : tailP u) (hf : w.length + 2 < fuel) (hf2 : 4096 < fuel) (hl : w.length ≤ 1000000) (hul : u.length ≤ 1000000000) : F_part fuel (partP w ++ u) = some (w, ((partP w).length : Int)) := by
  refine Ok.eq ?_
  unfold F_part
  rcases hw with ⟨b, hb, rfl⟩ | ⟨n, h1, h2, rfl⟩ | rfl
  · rw [partP_1 hb]
    rw [List.length_map] at hf hl
    have hq := quoteP_len b
    refine ok_cut (fun _ => False) (ok_letE fun x hx => ok_bif (fun _ => ?_) (fun h => ?_)) (fun _ h => h.elim)
    rotate_left
    · have : x = true := by rw [← hx]; unfold quoteP; rfl
      rw [this] at h; cases h
    rw [unquoteR fuel b u (by omega) (by omega) hul, bindE_some]
    refine ok_bif (fun h => by simp at h) (fun _ => ok_bif (fun h => by have := of_decide_eq_true h; simp at this; omega) (fun _ => ?_))
    rw [quote_eq fuel b (by omega) (by omega), bindE_some]
    refine ok_chk ⟨by omega, by simp, by rw [List.length_append]; simp only; omega⟩ (ok_letE fun y hy => ?_)
    have hy' : y = quoteP b := by rw [← hy]; unfold sub; simp
    subst hy'
    refine ok_bif (fun h => by simp at h) (fun _ => ?_)
    refine ok_cut (fun j => j = b.map fun c => Ev.mk 1 ((c.toNat : Nat) : Int)) (ok_loop (fun s : List Ev × Int => ∃ i : Nat, s.2 = (i : Int) ∧ i ≤ b.length ∧ s.1 = (b.take i).map fun c => Ev.mk 1 ((c.toNat : Nat) : Int)) (fun s => b.length - s.2.toNat) ?_ fuel ([], 0) (by simp; omega) ⟨0, rfl, Nat.zero_le _, rfl⟩) fun j hj => ok_some (by show (j, _) = _; rw [hj])
    rintro ⟨a, i0⟩ ⟨i, rfl, hi, rfl⟩
    dsimp only
    refine ok_bif (fun hc => ?_) (fun hc => ok_some ?_)
    rotate_left
    · have hlt : ¬ i < b.length := by have := of_decide_eq_false hc; omega
      rw [List.take_of_length_le (by omega)]
    have hlt : i < b.length := by have := of_decide_eq_true hc; omega
    refine ok_chk ⟨by omega, by omega⟩ (ok_letE fun z hz => ok_chk (by simp; omega) (ok_chk ⟨by omega, by omega⟩ (ok_some ⟨⟨i + 1, by simp, hlt, ?_⟩, by simp only; omega⟩)))
    have hz' : z = b[i] := by rw [← hz]; simp [ix, hlt]
    show _ ++ _ = _
    rw [List.take_succ_eq_append_getElem hlt, List.map_append, hz']; rfl
  · rw [partP_2 h1]
    have hi := itoa_len n (by omega)
    have hno : (32 : UInt8) ∉ (116 :: Lib.itoa (n : Int)) := by
      intro hm
      rcases List.mem_cons.1 hm with h | h
      · cases h
      · exact itoa_no (by omega) 32 (by decide) h
    refine ok_cut (fun _ => True) (ok_letE fun x hx => ok_bif (fun h => ?_) (fun _ => ok_some trivial)) (fun _ _ => ?_)
    · have : x = false := by rw [← hx]; rfl
      rw [this] at h; cases h
    refine ok_chk (by simp; omega) (ok_letE fun y hy => ?_)
    have hy1 : y.1 = 116 :: Lib.itoa (n : Int) := by rw [← hy]; exact cut_word hno hu
    rw [hy1]
    refine ok_bif (fun h => by simp at h) (fun _ => ok_letE fun z hz => ?_)
    have hz1 : z.1 = Lib.itoa (n : Int) := by rw [← hz]; rfl
    have hz2 : z.2 = true := by rw [← hz]; rfl
    rw [hz1, hz2]
    refine ok_bif (fun _ => ?_) (fun h => by rw [atoiOk_itoa ⟨by omega, by omega⟩] at h; cases h)
    refine ok_chk (by omega) (ok_letE fun v hv => ?_)
    rw [atoi_itoa ⟨by omega, by omega⟩] at hv
    subst hv
    refine ok_bif (fun h => by cases h) (fun _ => ok_bif (fun h => by have := of_decide_eq_true h; omega) (fun _ => ok_bif (fun h => by have := of_decide_eq_true h; omega) (fun _ => ok_chk ⟨by omega, by omega⟩ (ok_letE fun q hq => ?_))))
    subst hq
    refine ok_bif (fun h => by simp at h) (fun _ => ?_)
    rw [repeat_eq fuel _ n h1 h2 hf2, bindE_some]
    exact ok_some rfl
  · rw [partP_3]
    refine ok_cut (fun _ => True) (ok_letE fun x hx => ok_bif (fun h => ?_) (fun _ => ok_some trivial)) (fun _ _ => ?_)
    · have : x = false := by rw [← hx]; rfl
      rw [this] at h; cases h
    refine ok_chk (by simp; omega) (ok_letE fun y hy => ?_)
    have hy1 : y.1 = [101, 111, 102] := by rw [← hy]; exact cut_word (by decide) hu
    rw [hy1]
    exact ok_bif (fun _ => ok_some rfl) (fun h => by simp at h)
end Go.Ab
set_option linter.unusedSimpArgs false
set_option linter.unusedVariables false
namespace Go.Ab
open Go Go.RowKit Go.Fwd Go.Proofs
def eofs (l : List Ev) : Bool := l.any fun e => e.k == 3
theorem okE_app : ∀ (a : List Ev) (o : Bool) (b : List Ev), okE o (a ++ b) = (okE o a && okE (o || eofs a) b)
  | [], o, b => by simp [okE, eofs]
  | e :: a, o, b => by
    rw [List.cons_append, okE, okE, okE_app a, Bool.and_assoc]
    congr 2
    simp [eofs, Bool.or_assoc]
theorem okE_mem : ∀ (l : List Ev) (o : Bool), okE o l = true → ∀ e ∈ l, (e.k = 1 ∨ e.k = 2 ∨ e.k = 3) ∧ (e.k ≠ 1 → e.b = 0)
  | [], _, _, e, h => by simp at h
  | x :: l, o, h, e, he => by
    rw [okE, Bool.and_eq_true] at h
    rcases List.mem_cons.1 he with rfl | he
    · have h1 := h.1
      unfold rightP at h1
      split at h1
      · exact ⟨.inl ‹_›, fun h => absurd ‹_› h⟩
      · split at h1
        · rename_i hk
          rw [Bool.and_eq_true] at h1
          exact ⟨.inr hk, fun _ => of_decide_eq_true h1.1⟩
        · cases h1
    · exact okE_mem l _ h.2 e he
theorem okE_true : ∀ l : List Ev, okE true l = true → (l.filter fun e => e.k == 3) = []
  | [], _ => rfl
  | x :: l, h => by
    rw [okE, Bool.and_eq_true, Bool.true_or] at h
    have hk : (x.k == 3) = false := by
      have h1 := h.1
      unfold rightP at h1
      by_cases h3 : x.k = 3
      · rw [if_neg (by omega), if_pos (.inr h3)] at h1
        simp [h3] at h1
      · simpa using h3
    rw [List.filter_cons, hk]
    exact okE_true l h.2
theorem okE_once : ∀ (l : List Ev) (o : Bool), okE o l = true → (l.filter fun e => e.k == 3).length ≤ 1
  | [], _, _ => by simp
  | x :: l, o, h => by
    rw [okE, Bool.and_eq_true] at h
    cases hk : x.k == 3 with
    | true =>
      rw [hk, Bool.or_true] at h
      rw [List.filter_cons, hk, if_pos rfl, okE_true l h.2]; simp
    | false =>
      rw [List.filter_cons, hk]
      exact okE_once l _ h.2
theorem map_ev {w : List Ev} (h : ∀ e ∈ w, e.k = 1 ∧ 0 ≤ e.b ∧ e.b < 256) : w = (w.map fun e => u8of e.b).map fun c => Ev.mk 1 ((c.toNat : Nat) : Int) := by
  induction w with
  | nil => rfl
  | cons e w ih =>
    obtain ⟨h1, h2⟩ := h e List.mem_cons_self
    rw [List.map_cons, List.map_cons, ← ih fun x hx => h x (List.mem_cons_of_mem _ hx), u8c h2]
    obtain ⟨k, b⟩ := e
    simp only at h1
    rw [h1]
theorem stretch_of {l : List Ev} (h : okE false l = true) (hu : U8s l) (hl : l.length ≤ 4096) {w : List Ev} (hw : w ∈ runs l) : stretch w := by
  obtain ⟨q1, q2, q3⟩ := runs_mem l w hw
  have hlen := run_len hw
  have hp := List.length_pos_iff.2 q1
  obtain ⟨e, r, rfl⟩ : ∃ e r, w = e :: r := by cases w with | nil => exact absurd rfl q1 | cons e r => exact ⟨e, r, rfl⟩
  have hk0 : (ix (e :: r) 0).k = e.k := rfl
  rw [hk0] at q3
  obtain ⟨hk, hb⟩ := okE_mem l false h e (q2 e List.mem_cons_self)
  rcases hk with hk | hk | hk
  · refine .inl ⟨_, ?_, map_ev fun x hx => ⟨(q3 x hx).trans hk, (hu x (q2 x hx)).2⟩⟩
    simp
  · refine .inr (.inl ⟨(e :: r).length, hp, by omega, ?_⟩)
    refine List.eq_replicate_iff.2 ⟨rfl, fun x hx => ?_⟩
    have h1 := (q3 x hx).trans hk
    have h2 := (okE_mem l false h x (q2 x hx)).2 (by omega)
    obtain ⟨k, b⟩ := x
    simp only at h1 h2
    rw [h1, h2]
  · refine .inr (.inr ?_)
    have h1 : (e :: r).filter (fun e => e.k == 3) = e :: r := List.filter_eq_self.2 fun x hx => by have := (q3 x hx).trans hk; simp [this]
    have h2 : (e :: r).Sublist l := by have := List.sublist_flatten_of_mem hw; rwa [runs_flat] at this
    have h3 := (h2.filter fun e => e.k == 3).length_le
    have h4 := okE_once l false h
    rw [h1] at h3
    have hr : r = [] := by
      have : r.length = 0 := by simp only [List.length_cons] at h3; omega
      exact List.length_eq_zero_iff.1 this
    subst hr
    have hb0 := hb (by omega)
    obtain ⟨k, b⟩ := e
    simp only at hk hb0
    rw [hk, hb0]
theorem runs_adj : ∀ (l : List Ev) (p : List (List Ev)) (w v : List Ev) (r : List (List Ev)), runs l = p ++ w :: v :: r → (ix w 0).k ≠ (ix v 0).k
  | [], p, w, v, r, h => by simp [runs] at h
  | e :: l, p, w, v, r, h => by
    obtain ⟨s, rest, e1, e2, e3, e4⟩ := runs_head e l
    have hlt : rest.length < (e :: l).length := by rw [e1]; simp; omega
    rw [e2] at h
    cases p with
    | cons x p =>
      rw [List.cons_append] at h
      exact runs_adj rest p w v r (List.cons.inj h).2
    | nil =>
      obtain ⟨h1, h2⟩ := List.cons.inj h
      subst h1
      cases rest with
      | nil => simp [runs] at h2
      | cons x rest =>
        obtain ⟨s', rest', f1, f2, f3, f4⟩ := runs_head x rest
        rw [f2] at h2
        obtain ⟨h3, _⟩ := List.cons.inj h2
        subst h3
        exact fun he => e4 x rfl he.symm
termination_by l => l.length
theorem join_two (w v : List Ev) (r : List (List Ev)) : Lib.join ((w :: v :: r).map partP) [32] = partP w ++ 32 :: Lib.join ((v :: r).map partP) [32] := by
  rw [List.map_cons, List.map_cons, Lib.join_cons, Lib.join_cons]
  simp [Lib.joinTail]
theorem join_w (w : List Ev) (r : List (List Ev)) : ∃ u, tailP u ∧ Lib.join ((w :: r).map partP) [32] = partP w ++ u ∧ (r = [] ∧ u = [] ∨ ∃ v t, r = v :: t ∧ u = 32 :: Lib.join (r.map partP) [32]) := by
  cases r with
  | nil => exact ⟨[], .inl rfl, by rw [List.map_cons, List.map_nil, Lib.join_one, List.append_nil], .inl ⟨rfl, rfl⟩⟩
  | cons v t => exact ⟨_, .inr ⟨_, rfl⟩, join_two w v t, .inr ⟨v, t, rfl, rfl⟩⟩
theorem eofs_w {w : List Ev} (h0 : w ≠ []) (h : ∀ e ∈ w, e.k = (ix w 0).k) : eofs w = ((ix w 0).k == 3) := by
  cases w with
  | nil => exact absurd rfl h0
  | cons e r =>
    have hk0 : (ix (e :: r) 0).k = e.k := rfl
    rw [hk0] at h ⊢
    unfold eofs
    cases hk : e.k == 3 with
    | true => simp [hk]
    | false => 
      rw [List.any_eq_false]
      intro x hx
      rw [h x hx, hk]; simp
theorem read_write (fuel : Nat) (l : List Ev) (hl : l.length ≤ 1000) (hf : 100000 ≤ fuel) (hok : okE false l = true) (hu : U8s l) : F_read fuel (textP l) = some (l, -1, 0) := by
  have htl := textP_len l (by omega)
  refine Ok.eq ?_
  unfold F_read
  refine ok_bif (fun h => by have := of_decide_eq_true h; omega) (fun _ => ok_bif (fun h => ?_) (fun h => ?_))
  · cases l with
    | nil => exact ok_some rfl
    | cons e l =>
      exfalso
      obtain ⟨s, rest, e1, e2, e3, e4⟩ := runs_head e l
      obtain ⟨u, _, hj, _⟩ := join_w (e :: s) (runs rest)
      have ht : textP (e :: l) = [] := by simpa using h
      unfold textP at ht
      rw [e2, hj] at ht
      have hp : partP (e :: s) = [] := (List.append_eq_nil_iff.1 ht).1
      unfold partP quoteP at hp
      split at hp <;> (try split at hp) <;> simp at hp
  have hne : l ≠ [] := by rintro rfl; exact absurd h (by decide)
  refine ok_cut (fun j => j.1 = l ∧ j.2.2 = 0) ?_ (fun j hj => ok_bif (fun h => by rw [hj.2] at h; simp at h) (fun _ => ok_some (by show (j.1, _) = _; rw [hj.1])))
  refine ok_loop (fun s : List UInt8 × List Ev × Bool × Int × Int × Int => ∃ p w r, runs l = p ++ w :: r ∧ s.1 = Lib.join ((w :: r).map partP) [32] ∧ s.2.1 = p.flatten ∧ s.2.2.1 = eofs p.flatten ∧ s.2.2.2.1 ≠ (ix w 0).k ∧ (0 ≤ s.2.2.2.2.1 ∧ s.2.2.2.2.1 ≤ (p.length : Int)) ∧ s.2.2.2.2.2 = 0) (fun s => s.1.length) ?_ fuel (textP l, [], false, 0, 0, 0) (by show (textP l).length < fuel; omega) ?_
  rotate_left
  · cases hr : runs l with
    | nil => have := runs_flat l; rw [hr] at this; exact absurd this.symm hne
    | cons w r =>
      refine ⟨[], w, r, rfl, by show textP l = _; unfold textP; rw [hr], rfl, rfl, ?_, ⟨Int.le_refl _, Int.le_refl _⟩, rfl⟩
      have hw : w ∈ runs l := by rw [hr]; exact List.mem_cons_self
      obtain ⟨q1, q2, q3⟩ := runs_mem l w hw
      cases w with
      | nil => exact absurd rfl q1
      | cons e t =>
        have := (okE_mem l false hok e (q2 e List.mem_cons_self)).1
        show (0 : Int) ≠ e.k
        omega
  rintro ⟨s, out, over, last, n, e⟩ ⟨p, w, r, hr, hs, ho, hov, hla, hn, he⟩
  dsimp only at hs ho hov hla hn he ⊢
  have hw : w ∈ runs l := by rw [hr]; simp
  obtain ⟨q1, q2, q3⟩ := runs_mem l w hw
  have hwl := run_len hw
  have hw0 := List.length_pos_iff.2 q1
  have hfl : p.flatten ++ (w ++ r.flatten) = l := by have := runs_flat l; rw [hr] at this; simpa using this
  have hpl : p.flatten.length + w.length + r.flatten.length = l.length := by rw [← hfl]; simp; omega
  obtain ⟨u, hu1, hj, hu2⟩ := join_w w r
  have hsl : s.length ≤ (textP l).length := by
    rw [hs]; unfold textP; rw [hr, List.map_append]
    generalize hmm : (w :: r).map partP = m
    have : ∀ (a b : List (List UInt8)), (Lib.join b [32]).length ≤ (Lib.join (a ++ b) [32]).length := by
      intro a b
      induction a with
      | nil => simp
      | cons x a ih =>
        refine Nat.le_trans ih ?_
        rw [List.cons_append]
        cases hab : a ++ b with
        | nil => simp [Lib.join_nil]
        | cons y t => rw [Lib.join_cons, Lib.join_cons]; simp [Lib.joinTail]; omega
    exact this _ _
  rw [hj] at hs
  subst hs
  have hul : u.length ≤ 1000000000 := by simp at hsl; omega
  have hln : (p.length : Int) ≤ 1000 := by
    have h1 := congrArg List.length hr
    have h2 := runs_count l
    simp at h1; omega
  refine ok_bindE (ok_eq (part_eq fuel w u (stretch_of hok hu (by omega) hw) hu1 (by omega) (by omega) (by omega) hul)) fun x hx => ?_
  subst hx
  dsimp only
  have hright : rightP (ix w 0) over = true := by
    rw [hov]
    have h1 := hok
    rw [← hfl, okE_app, Bool.and_eq_true, Bool.false_or] at h1
    cases w with
    | nil => exact absurd rfl q1
    | cons a t =>
      have h2 := h1.2
      rw [List.cons_append, okE, Bool.and_eq_true] at h2
      exact h2.1
  have hlen : (partP w ++ u).length = (partP w).length + u.length := List.length_append
  refine ok_cut (fun _ => True) (ok_bif (fun h => by simp at h; exact absurd h q1) (fun _ => ok_chk ⟨by omega, by omega⟩ (ok_letE fun x2 h2 => ok_bif (fun h => ?_) (fun _ => ok_chk ⟨by omega, by omega⟩ (ok_letE fun x3 h3 => ?_))))) fun _ _ => ?_
  · subst h2; exact absurd (by simpa using h) (Ne.symm hla)
  · subst h3
    refine ok_bindE (ok_eq (right_eq _ _)) fun y hy => ok_bif (fun h => by rw [hy, hright] at h; cases h) (fun _ => ok_bif (fun h => ?_) (fun _ => ok_some trivial))
    have hlt : (partP w).length < (partP w ++ u).length := by have := of_decide_eq_true h; omega
    refine ok_chk ⟨by omega, by omega⟩ (ok_letE fun z hz => ?_)
    rcases hu2 with ⟨_, rfl⟩ | ⟨v, t, _, rfl⟩
    · simp at hlt
    · have : z = 32 := by rw [← hz]; exact (ix_drop (by rw [List.drop_left])).1
      subst this
      exact ok_bif (fun h => by simp at h) (fun _ => ok_some trivial)
  refine ok_chk (by rw [ho]; omega) (ok_bif (fun h => by have := of_decide_eq_true h; rw [ho, List.length_append] at this; omega) (fun _ => ok_bif (fun h => ?_) (fun h => ?_)))
  · rcases hu2 with ⟨rfl, rfl⟩ | ⟨v, t, _, rfl⟩
    · refine ok_some ⟨?_, he⟩
      show out ++ w = l
      rw [ho, ← hfl]; simp
    · exfalso; simp at h; omega
  rcases hu2 with ⟨rfl, rfl⟩ | ⟨v, t, rfl, rfl⟩
  · simp at h
  have hrow : runs l = (p ++ [w]) ++ v :: t := by rw [hr]; simp
  have hnext : ∀ (o' : Bool) (k : Int), o' = eofs (p ++ [w]).flatten → k = (ix w 0).k → ∃ p' w' r', runs l = p' ++ w' :: r' ∧ Lib.join ((v :: t).map partP) [32] = Lib.join ((w' :: r').map partP) [32] ∧ out ++ w = p'.flatten ∧ o' = eofs p'.flatten ∧ k ≠ (ix w' 0).k ∧ (0 ≤ n + 1 ∧ n + 1 ≤ (p'.length : Int)) ∧ e = 0 := fun o' k h1 h2 =>
    ⟨p ++ [w], v, t, hrow, rfl, by rw [ho]; simp, h1, by rw [h2]; exact runs_adj l p w v t hr, ⟨by omega, by simp; omega⟩, he⟩
  have hsub : sub (partP w ++ 32 :: Lib.join ((v :: t).map partP) [32]) (((partP w).length : Int) + 1) ((partP w ++ 32 :: Lib.join ((v :: t).map partP) [32]).length : Int) = Lib.join ((v :: t).map partP) [32] := by
    have := sub_drop' (partP w ++ 32 :: Lib.join ((v :: t).map partP) [32]) ((partP w).length + 1) (by simp)
    rw [show (((partP w).length : Int) + 1) = (((partP w).length + 1 : Nat) : Int) by simp, this]
    rw [List.drop_append, List.drop_of_length_le (by omega)]; simp
  have hee : eofs (p ++ [w]).flatten = (eofs p.flatten || eofs w) := by simp [eofs, List.any_append]
  refine ok_chk ⟨by omega, by omega⟩ (ok_letE fun x6 h6 => ok_bif (fun hv => ?_) (fun hv => ?_))
  · refine ok_chk ⟨by omega, by omega⟩ (ok_chk ⟨by omega, by rw [hlen]; simp only [List.length_cons]; omega, Int.le_refl _⟩ (ok_letE fun x7 h7 => ok_chk ⟨by omega, by omega⟩ (ok_some ⟨?_, ?_⟩)))
    · rw [hsub] at h7; subst h7 h6
      exact hnext true _ (by rw [hee, ← hov, hv]; rfl) rfl
    · rw [hsub] at h7; subst h7; simp only [List.length_append, List.length_cons]; omega
  · refine ok_chk ⟨by omega, by omega⟩ (ok_letE fun x8 h8 => ok_chk ⟨by omega, by omega⟩ (ok_chk ⟨by omega, by rw [hlen]; simp only [List.length_cons]; omega, Int.le_refl _⟩ (ok_letE fun x7 h7 => ok_chk ⟨by omega, by omega⟩ (ok_some ⟨?_, ?_⟩))))
    · rw [hsub] at h7; subst h7 h6 h8
      exact hnext _ _ (by rw [hee, ← hov, hv, eofs_w q1 q3]; rfl) rfl
    · rw [hsub] at h7; subst h7; simp only [List.length_append, List.length_cons]; omega
end Go.Ab

