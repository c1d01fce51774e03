/-
  SetsLists: the plain law.
-/
import Derived.Test.YtjmhbbbpjbgmjaaZseTq
import Derived.Test.YtjmhbbbpjbgmjaaZseTl
import Derived.Test.YtjmhbbbpjbgmjaaZsePp
set_option linter.unusedSimpArgs false
set_option linter.unusedVariables false
namespace Go.Ab
open Go Go.RowKit Go.Fwd Go.Proofs Go.Proofs.Ytjmhbbbpjbgmjaa
theorem letE_s' {α β : Type} {e : α} {k : α → Option β} {r : Option β} (h : k e = r) : letE e k = r := h
def sameC (l : List BS) (c d : Nat) : Bool := l.all fun s => s.getLsbD c == s.getLsbD d
theorem sameC_iff {l : List BS} {c d : Nat} : sameC l c d = true ↔ ∀ s ∈ l, s.getLsbD c = s.getLsbD d := by simp [sameC]
theorem sameC_refl (l : List BS) (c : Nat) : sameC l c c = true := sameC_iff.2 fun _ _ => rfl
theorem sameC_symm {l : List BS} {c d : Nat} (h : sameC l c d = true) : sameC l d c = true := sameC_iff.2 fun s hs => (sameC_iff.1 h s hs).symm
theorem sameC_trans {l : List BS} {c d e : Nat} (h : sameC l c d = true) (k : sameC l d e = true) : sameC l c e = true := sameC_iff.2 fun s hs => (sameC_iff.1 h s hs).trans (sameC_iff.1 k s hs)
def repC (l : List BS) (c : Nat) : Nat := ((List.range (c + 1)).find? fun e => sameC l c e).getD c
theorem rep_spec (l : List BS) (c : Nat) : repC l c ≤ c ∧ sameC l c (repC l c) = true ∧ ∀ e, e < repC l c → sameC l c e = false := by
  unfold repC
  cases h : List.find? (fun e => sameC l c e) (List.range (c + 1)) with
  | none =>
    rw [List.find?_eq_none] at h
    exact absurd (sameC_refl l c) (h c (by simp))
  | some k =>
    rw [List.find?_range_eq_some] at h
    obtain ⟨h1, h2, h3⟩ := h
    refine ⟨?_, by simpa using h1, fun e he => by simpa using h3 e he⟩
    have : k < c + 1 := by simpa using h2
    simp; omega
theorem rep_iff {l : List BS} {c d : Nat} (hc : repC l c = c) : repC l d = c ↔ sameC l c d = true := by
  obtain ⟨a1, a2, a3⟩ := rep_spec l d
  obtain ⟨b1, b2, b3⟩ := rep_spec l c
  constructor
  · intro h; rw [h] at a2; exact sameC_symm a2
  · intro h
    rw [hc] at b3
    have h1 : ¬ d < c := fun hd => by rw [b3 d hd] at h; cases h
    have h2 : ¬ c < repC l d := fun hd => by have := a3 c hd; rw [sameC_symm h] at this; cases this
    have h3 : ¬ repC l d < c := fun hd => by have := b3 _ hd; rw [sameC_trans h a2] at this; cases this
    omega
/-! ### Parts of the reference -/
def arR (l : List BS) (i : Nat) : Ar := ⟨fun k => if k < i then ((repC l k : Nat) : Int) else 0⟩
theorem arR_wr (l : List BS) (i : Nat) : wrA (arR l i) (i : Int) ((repC l i : Nat) : Int) = arR l (i + 1) := by
  unfold arR wrA
  refine congrArg Ar.mk (funext fun k => ?_)
  rw [Int.toNat_natCast]
  by_cases e : k = i
  · subst e; simp
  · by_cases e2 : k < i
    · simp [e, e2, show k < i + 1 by omega]
    · simp [e, e2, show ¬ k < i + 1 by omega]
theorem arR_rd (l : List BS) (i : Nat) (h : i < 256) : rdA (arR l 256) (i : Int) = ((repC l i : Nat) : Int) := by simp [rdA, arR, h]
theorem rd_same (s : BS) (c d : Nat) : (rdA (arS s) (c : Int) == rdA (arS s) (d : Int)) = (s.getLsbD c == s.getLsbD d) := by
  rw [arS_rd, arS_rd]
  cases s.getLsbD c <;> cases s.getLsbD d <;> rfl
theorem all_take (l : List BS) (c d i : Nat) (h : i < l.length) : sameC (l.take (i + 1)) c d = (sameC (l.take i) c d && (l[i].getLsbD c == l[i].getLsbD d)) := by
  unfold sameC
  rw [List.take_succ_eq_append_getElem h, List.all_append]; simp
theorem rparts_eq (fuel : Nat) (l : List BS) (hf : 257 + l.length < fuel) (hl : l.length < 2 ^ 40) : F_rparts fuel (l.map arS) = some (arR l 256) := by
  unfold F_rparts
  refine cutE_i (arR l 256) (loopE_i 256 (fun i => ((i : Int), arR l i)) (by simp [arR, zeroA]) (fun c hc => ?_) ?_ (by omega)) rfl
  · refine bif_t (by simp; omega) (cutE_i (arR l (c + 1)) ?_ (chk_i (by simp only; omega) rfl))
    obtain ⟨r1, r2, r3⟩ := rep_spec l c
    have hlm : (l.map arS).length = l.length := List.length_map ..
    -- whether a byte is the same
    have inner : ∀ d : Nat, d ≤ c → (loopE (β := Bool × Int) (ρ := Bool ⊕ (Unit ⊕ (Int ⊕ (Ar ⊕ ((Int × Ar) ⊕ (Ar ⊕ Ar)))))) (fun s3 => (bif (decide (s3.2 < (List.length (l.map arS) : Int))) then (cutE (τ := Bool) (bif s3.1 then (chk (0 ≤ s3.2 ∧ s3.2 < (List.length (l.map arS) : Int)) (letE (ix (l.map arS) s3.2) (fun x1 => (chk (0 ≤ (c : Int) ∧ (c : Int) < 256) (chk (0 ≤ s3.2 ∧ s3.2 < (List.length (l.map arS) : Int)) (letE (ix (l.map arS) s3.2) (fun x2 => (chk (0 ≤ (d : Int) ∧ (d : Int) < 256) (some (Sum.inl (((rdA x1 (c : Int)) == (rdA x2 (d : Int)))))))))))))) else (some (Sum.inl (false)))) (fun j5 => (chk (-9223372036854775808 ≤ (s3.2 + 1) ∧ (s3.2 + 1) < 9223372036854775808) (some (Sum.inl (j5, (s3.2 + 1))))))) else (some (Sum.inr (Sum.inl (s3.1)))))) fuel (true, 0)) = some (Sum.inl (sameC l c d)) := by
      intro d hd
      refine loopE_i l.length (fun i => (sameC (l.take i) c d, (i : Int))) (by simp [sameC]) (fun i hi => ?_) ?_ (by omega)
      · have hx : ix (l.map arS) (i : Int) = arS l[i] := by rw [ix_get _ i (by simpa using hi)]; simp
        refine bif_t (by simp [hlm]; omega) (cutE_i (sameC (l.take (i + 1)) c d) ?_ (chk_i (by simp only; omega) rfl))
        rw [all_take l c d i hi]
        refine bif_i (fun h => ?_) (fun h => ?_)
        · simp only [hx]
          refine chk_i (by omega) (letE_s' (chk_i (by omega) (chk_i (by omega) (letE_s' (chk_i (by omega) ?_)))))
          simp only at h
          rw [h, rd_same]; rfl
        · simp only at h
          rw [h]; rfl
      · refine bif_f (by simp [hlm]) ?_
        simp
    refine loopE_i (n := fuel) (repC l c) (fun d => (d : Int)) rfl (fun d hd => ?_) ?_ (by omega)
    · refine bif_t (by simp; omega) (cutE_i () (cutE_i false ?_ (bif_f rfl rfl)) (chk_i (by omega) rfl))
      exact (inner d (by omega)).trans (by rw [r3 d hd])
    · refine bif_t (by simp; omega) ?_
      refine cutE_r _ (cutE_i true ((inner _ r1).trans (by rw [r2])) (bif_t rfl (chk_i (by omega) rfl))) ?_
      simp only [arR_wr]
  · refine bif_f (by simp) rfl
/-! ### the classes -/
theorem lst_first' {p : BS} (h : p ≠ 0#256) : ∃ c, firstOf p = some c ∧ lst p c := by
  rcases first_spec p with ⟨c, h1, h2, h3, h4⟩ | ⟨_, h4⟩
  · exact ⟨c, h1, h2, h3, h4⟩
  · exact absurd (BitVec.eq_of_getLsbD_eq fun i _ => by rw [h4]; simp) h
def lb (p : BS) : Nat := (firstOf p).getD 0
theorem lb_lst {p : BS} (h : p ≠ 0#256) : lst p (lb p) := by
  obtain ⟨c, h1, h2⟩ := lst_first' h
  unfold lb; rw [h1]; exact h2
def rS (l : List BS) : BS := setOf fun c => repC l c == c
theorem rS_get (l : List BS) (c : Nat) (h : c < 256) : (rS l).getLsbD c = (repC l c == c) := by rw [rS, setOf_get]; simp [h]
theorem range_lt (n : Nat) : (List.range n).Pairwise (· < ·) := List.pairwise_lt_range
theorem reps_eq (l : List BS) : (partsS l).map lb = bytesOf (rS l) := by
  have hC := cls_sort l
  have h1 : ((partsS l).map lb).Pairwise (· < ·) := by
    rw [List.pairwise_map]
    refine (List.Pairwise.and_mem.1 (parts_lt l)).imp ?_
    rintro p q ⟨hp, hq, _, h⟩
    exact h _ _ (lb_lst (hC.ne p hp)) (lb_lst (hC.ne q hq))
  have h2 : (bytesOf (rS l)).Pairwise (· < ·) := by
    unfold bytesOf bytesTo
    exact (range_lt 256).filter _
  have hm : ∀ c, c ∈ (partsS l).map lb ↔ c ∈ bytesOf (rS l) := by
    intro c
    have hb : c ∈ bytesOf (rS l) ↔ c < 256 ∧ repC l c = c := by
      unfold bytesOf bytesTo
      simp only [List.mem_filter, List.mem_range]
      constructor
      · rintro ⟨a, b⟩; rw [rS_get l c a] at b; exact ⟨a, by simpa using b⟩
      · rintro ⟨a, b⟩; rw [rS_get l c a]; exact ⟨a, by simpa using b⟩
    rw [hb, List.mem_map]
    obtain ⟨r1, r2, r3⟩ := rep_spec l c
    constructor
    · rintro ⟨p, hp, rfl⟩
      obtain ⟨a1, a2, a3⟩ := lb_lst (hC.ne p hp)
      refine ⟨a1, ?_⟩
      rcases Nat.lt_or_ge (repC l (lb p)) (lb p) with hlt | hge
      · have := (hC.cls p hp (lb p) (repC l (lb p)) a1 (by omega) a2).2 (sameC_iff.1 r2)
        rw [a3 _ hlt] at this; cases this
      · omega
    · rintro ⟨hc, hr⟩
      obtain ⟨p, hp, hb⟩ := hC.all c hc
      refine ⟨p, hp, ?_⟩
      obtain ⟨a1, a2, a3⟩ := lb_lst (hC.ne p hp)
      have e1 : ¬ c < lb p := fun h => by rw [a3 c h] at hb; cases hb
      have e2 := sameC_iff.2 ((hC.cls p hp c (lb p) hc a1 hb).1 a2)
      have e3 : ¬ lb p < c := fun h => by rw [r3 (lb p) (by omega)] at e2; cases e2
      omega
  have n1 : ((partsS l).map lb).Nodup := h1.imp (fun h => Nat.ne_of_lt h)
  have n2 : (bytesOf (rS l)).Nodup := h2.imp (fun h => Nat.ne_of_lt h)
  refine List.Perm.eq_of_pairwise (le := (· < ·)) ?_ h1 h2 ((List.perm_ext_iff_of_nodup n1 n2).2 hm)
  intro a b _ _ h k; omega
theorem bytes_at (s : BS) (c : Nat) (hc : c < 256) (h : s.getLsbD c = true) : (bytesOf s)[(bytesTo s c).length]? = some c := by
  have h1 : bytesTo s (c + 1) = bytesTo s c ++ [c] := by rw [bytesTo_succ, if_pos h]
  have h2 : bytesTo s (c + 1) <+: bytesTo s 256 := bytesTo_prefix s (by omega)
  obtain ⟨t, ht⟩ := h2
  unfold bytesOf
  rw [← ht, h1, List.append_assoc, List.getElem?_append_right (Nat.le_refl _)]; simp
def clsS (l : List BS) (c : Nat) : BS := setOf fun d => repC l d == c
theorem part_cls (l : List BS) (c : Nat) (hc : c < 256) (hr : repC l c = c) : ∃ h : (bytesTo (rS l) c).length < (partsS l).length, (partsS l)[(bytesTo (rS l) c).length] = clsS l c := by
  have h1 := bytes_at (rS l) c hc (by rw [rS_get l c hc]; simp [hr])
  rw [← reps_eq, List.getElem?_map, Option.map_eq_some_iff] at h1
  obtain ⟨p, h1, h2⟩ := h1
  obtain ⟨h3, h4⟩ := List.getElem?_eq_some_iff.1 h1
  refine ⟨h3, ?_⟩
  rw [h4]
  have hC := cls_sort l
  have hp : p ∈ partsS l := List.mem_of_getElem? h1
  obtain ⟨a1, a2, a3⟩ := lb_lst (hC.ne p hp)
  rw [h2] at a2
  refine BitVec.eq_of_getLsbD_eq fun d hd => ?_
  have h5 := hC.cls p hp c d hc hd a2
  rw [← sameC_iff, ← rep_iff hr] at h5
  rw [clsS, setOf_get]
  cases hb : p.getLsbD d with
  | true => simp [hd, h5.1 hb]
  | false =>
    have : ¬ repC l d = c := fun e => by rw [h5.2 e] at hb; cases hb
    simp [this]
theorem rS_len (l : List BS) : (partsS l).length = (bytesOf (rS l)).length := by rw [← reps_eq, List.length_map]
theorem arS_zero : arS 0#256 = zeroA := by simp [arS, zeroA]
def spS (L : List Sp) : BS := L.foldl (fun S p => S ||| rangeS p.1.toNat p.2.toNat) 0#256
theorem spS_take (L : List Sp) (i : Nat) (h : i < L.length) : spS (L.take (i + 1)) = spS (L.take i) ||| rangeS L[i].1.toNat L[i].2.toNat := by
  unfold spS; rw [List.take_succ_eq_append_getElem h, List.foldl_append]; rfl
theorem fromSpans_eq (fuel : Nat) (L : List Sp) (hf : L.length < fuel) (hl : L.length < 2 ^ 40) : F_fromSpans fuel L = some (spS L) := by
  unfold F_fromSpans
  refine cutE_i (spS L) (loopE_i L.length (fun i => ((i : Int), spS (L.take i))) (by simp [spS]) (fun i hi => ?_) ?_ hf) rfl
  · have hx : ix L (i : Int) = L[i] := ix_get L i hi
    have u1 := L[i].1.toNat_lt
    have u2 := L[i].2.toNat_lt
    simp only [hx]
    refine bif_t (by simp; omega) (chk_i (by omega) (letE_s' (chk_i (by omega) (letE_s' (letE_s' (chk_i (by omega) ?_))))))
    rw [spS_take L i hi]
    simp
  · refine bif_f (by simp) ?_
    simp
set_option maxHeartbeats 2000000 in
theorem lists_eq (fuel : Nat) (hf : 400 < fuel) (spans : List Sp) (l : List BS) : F_lists fuel spans l = some true := by
  unfold F_lists
  refine bif_i (fun _ => rfl) (fun hs => bif_i (fun _ => rfl) (fun hl => ?_))
  simp only [gt_iff_lt, decide_eq_false_iff_not, Int.not_lt] at hs hl
  have hf1 : 256 < fuel := by omega
  have hs' : spans.length ≤ 40 := by omega
  have hl' : l.length ≤ 12 := by omega
  refine cutE_i (arS (spS spans)) (loopE_i spans.length (fun i => ((i : Int), arS (spS (spans.take i)))) (by simp [spS, arS_zero]) (fun i hi => ?_) ?_ (by omega)) ?_
  · have hx : ix spans (i : Int) = spans[i] := ix_get spans i hi
    have u1 := spans[i].1.toNat_lt
    have u2 := spans[i].2.toNat_lt
    simp only [hx]
    refine bif_t (by simp; omega) (chk_i (by omega) (letE_s' (bindE_i _ (rrange_eq fuel hf1 _ _ (by omega)) (bindE_i _ (rboth_eq fuel hf1 _ _ (spS (spans.take (i + 1))) 0 (fun j hj => ?_)) (chk_i (by omega) rfl)))))
    rw [spS_take spans i hi]; simp
  · refine bif_f (by simp) ?_
    simp
  refine chk_i (by omega) ?_
  refine cutE_i (l.map arS) (loopE_i l.length (fun i => ((l.take i).map arS, (i : Int))) (by simp) (fun i hi => ?_) ?_ (by omega)) ?_
  · have hx : ix l (i : Int) = l[i] := ix_get l i hi
    simp only [hx]
    refine bif_t (by simp; omega) (chk_i (by omega) (letE_s' (bindE_i _ (words_eq fuel hf1 _) (chk_i (by simp; omega) (chk_i (by omega) ?_)))))
    rw [List.take_succ_eq_append_getElem hi, List.map_append]
    simp
  · refine bif_f (by simp) ?_
    simp
  refine chk_i (by omega) (letE_s' (bindE_i _ (rparts_eq fuel l (by omega) (by omega)) (bindE_i _ (fromSpans_eq fuel spans (by omega) (by omega)) (bindE_i _ (is_eq fuel hf1 _ _) (bif_f (by simp) ?_)))))
  refine cutE_i () (loopE_i l.length (fun i => (i : Int)) rfl (fun i hi => ?_) ?_ (by omega)) ?_
  · exact bif_t (by simp; omega) (chk_i (by omega) (letE_s' (chk_i (by omega) (letE_s' (bif_f (by simp) (chk_i (by omega) rfl))))))
  · exact bif_f (by simp) rfl
  have hP := rS_len l
  have hB : (bytesOf (rS l)).length ≤ 256 := by have := bytesTo_len (rS l) 256; unfold bytesOf; omega
  refine cutE_i (((bytesOf (rS l)).length : Nat) : Int) (loopE_i 256 (fun c => (((bytesTo (rS l) c).length : Int), (c : Int))) (by simp [bytesTo]) (fun c hc => ?_) ?_ (by omega)) ?_
  · have hr := arR_rd l c hc
    have hbl : (bytesTo (rS l) c).length ≤ c := by have := bytesTo_len (rS l) c; omega
    refine bif_t (by simp; omega) (cutE_i (((bytesTo (rS l) (c + 1)).length : Nat) : Int) (chk_i (by omega) ?_) (chk_i (by simp only; omega) rfl))
    simp only [hr]
    have hg := rS_get l c hc
    rw [bytesTo_succ]
    refine bif_i (fun h => ?_) (fun h => ?_)
    · have h' : ¬ ((repC l c : Nat) : Int) = (c : Int) := by simpa [bne] using h
      have h'' : ¬ repC l c = c := by omega
      have : (rS l).getLsbD c = false := by rw [hg]; simp [h'']
      simp [this]
    · have hrc : repC l c = c := by
        have : ((repC l c : Nat) : Int) = (c : Int) := by simpa using h
        omega
      have hb : (rS l).getLsbD c = true := by rw [hg]; simp [hrc]
      obtain ⟨q1, q2⟩ := part_cls l c hc hrc
      refine cutE_i (arS (clsS l c)) (loopE_i 256 (fun d => ((d : Int), arP (clsS l c) d)) (by simp [arP_0]) (fun d hd => ?_) ?_ (by omega)) ?_
      · have hr2 := arR_rd l d hd
        have hg2 : (clsS l c).getLsbD d = (repC l d == c) := by rw [clsS, setOf_get]; simp [hd]
        refine bif_t (by simp; omega) (cutE_i (arP (clsS l c) (d + 1)) (chk_i (by omega) ?_) (chk_i (by simp only; omega) rfl))
        simp only [hr2]
        refine bif_i (fun h2 => chk_i (by omega) ?_) (fun h2 => ?_)
        · have e : repC l d = c := by have : ((repC l d : Nat) : Int) = (c : Int) := by simpa using h2
                                      omega
          rw [arP_hit _ d (by rw [hg2]; simp [e])]
        · have e : ¬ repC l d = c := fun e => by rw [e] at h2; simp at h2
          rw [← arP_miss _ d (by rw [hg2]; simp [e])]
      · refine bif_f (by simp) ?_
        simp only [arP_256]
      · have hx : ix (partsS l) (((bytesTo (rS l) c).length : Nat) : Int) = clsS l c := by rw [ix_get _ _ q1, q2]
        refine bif_f (by simp; omega) (chk_i (by omega) (letE_s' ?_))
        simp only [hx]
        refine bindE_i _ (is_eq fuel hf1 _ _) (bif_f (by simp) (chk_i (by omega) ?_))
        simp [hb]
  · exact bif_f (by simp) rfl
  · rw [hP]; simp
end Go.Ab
