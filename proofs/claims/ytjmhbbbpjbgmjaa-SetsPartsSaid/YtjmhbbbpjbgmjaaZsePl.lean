/-
  SetsParts: the plain law.
-/
import Derived.Test.YtjmhbbbpjbgmjaaZseP6
import Derived.Test.YtjmhbbbpjbgmjaaZsePp
set_option linter.unusedSimpArgs false
set_option linter.unusedVariables false
namespace Go.Ab
open Go Go.RowKit Go.Fwd Go.Proofs Go.Proofs.Ytjmhbbbpjbgmjaa

def orL (P : List BS) : BS := P.foldl (· ||| ·) 0#256
theorem orL_snoc (P : List BS) (p : BS) : orL (P ++ [p]) = orL P ||| p := by simp [orL]
theorem orL_get (P : List BS) (c : Nat) : (orL P).getLsbD c = P.any fun p => p.getLsbD c := by
  suffices ∀ (P : List BS) (A : BS), (P.foldl (· ||| ·) A).getLsbD c = (A.getLsbD c || P.any fun p => p.getLsbD c) by
    rw [orL, this]; simp
  intro P
  induction P with
  | nil => intro A; simp
  | cons p P ih => intro A; rw [List.foldl_cons, ih, BitVec.getLsbD_or, List.any_cons, Bool.or_assoc]
theorem lst_first {p : BS} (h : p ≠ 0#256) : ∃ c, firstOf p = some c ∧ lst p c := by
  cases hf : firstOf p with
  | none =>
    exfalso
    obtain ⟨c, hc, hb⟩ := bs_ne h
    have : c ∈ bytesOf p := by simp [bytesOf, bytesTo, hc, hb]
    rw [firstOf, List.head?_eq_none_iff] at hf
    rw [hf] at this; cases this
  | some c =>
    refine ⟨c, rfl, (firstOf_lt hf).1, (firstOf_lt hf).2, fun j hj => ?_⟩
    cases hb : p.getLsbD j
    · rfl
    · exfalso
      have hl := (firstOf_lt hf).1
      have hm : j ∈ bytesOf p := by simp [bytesOf, bytesTo, hb]; omega
      have hs : (bytesOf p).Pairwise (· < ·) := by
        unfold bytesOf bytesTo
        exact List.Pairwise.filter _ List.pairwise_lt_range
      unfold firstOf at hf
      cases hq : bytesOf p with
      | nil => rw [hq] at hm; cases hm
      | cons y r =>
        rw [hq] at hf hm hs
        simp only [List.head?_cons, Option.some.injEq] at hf
        subst hf
        rcases List.mem_cons.1 hm with rfl | hm
        · omega
        · have := (List.pairwise_cons.1 hs).1 j hm; omega
def lastF (P : List BS) (i : Nat) : Int := if i = 0 then -1 else leastS (ix P ((i - 1 : Nat) : Int))
theorem ix_nat (P : List BS) (i : Nat) (h : i < P.length) : ix P (i : Int) = P[i] := by simp [ix, h]
theorem ix_mem (P : List BS) (i : Nat) (h : i < P.length) : ix P (i : Int) ∈ P := by rw [ix_nat P i h]; exact List.getElem_mem h
theorem or_all (m : List BS) : orL (partsS m) = BitVec.allOnes 256 := BitVec.eq_of_getLsbD_eq fun c hc => by
  rw [orL_get, BitVec.getLsbD_allOnes]
  obtain ⟨p, hp, hb⟩ := (cls_sort m).all c hc
  simp only [hc, decide_true, List.any_eq_true]
  exact ⟨p, hp, hb⟩
theorem or_dis (m : List BS) (i : Nat) (h : i < (partsS m).length) : orL ((partsS m).take i) &&& ix (partsS m) (i : Int) = 0#256 := by
  refine bs_zero.2 fun c hc => ?_
  rw [BitVec.getLsbD_and, orL_get, ix_nat _ i h]
  cases hb : ((partsS m)[i]).getLsbD c
  · simp
  · rw [Bool.and_true, List.any_eq_false]
    intro p hp hpc
    obtain ⟨j, hj, rfl⟩ := List.getElem_of_mem hp
    have hj' : j < i := by simp at hj; omega
    have h1 := List.pairwise_iff_getElem.1 (parts_lt m) j i (by omega) h hj'
    have h2 := bs_zero.1 h1.1 c hc
    rw [List.getElem_take] at hpc
    rw [BitVec.getLsbD_and, hpc, hb] at h2; cases h2
theorem least_up (m : List BS) (i : Nat) (h : i < (partsS m).length) : lastF (partsS m) i < leastS (ix (partsS m) (i : Int)) ∧ someS (ix (partsS m) (i : Int)) = true ∧ 0 ≤ leastS (ix (partsS m) (i : Int)) ∧ leastS (ix (partsS m) (i : Int)) < 256 := by
  obtain ⟨c, hf, hc⟩ := lst_first ((cls_sort m).ne _ (ix_mem _ i h))
  have e : leastS (ix (partsS m) (i : Int)) = (c : Int) := by unfold leastS; rw [hf]
  have hc1 := hc.1
  refine ⟨?_, by unfold someS; rw [hf]; rfl, by rw [e]; omega, by rw [e]; omega⟩
  unfold lastF
  split
  · rw [e]; omega
  · have hi : i - 1 < (partsS m).length := by omega
    obtain ⟨d, hg, hd⟩ := lst_first ((cls_sort m).ne _ (ix_mem _ (i - 1) hi))
    have e2 : leastS (ix (partsS m) ((i - 1 : Nat) : Int)) = (d : Int) := by unfold leastS; rw [hg]
    rw [e, e2]
    have h1 := List.pairwise_iff_getElem.1 (parts_lt m) (i - 1) i hi h (by omega)
    rw [ix_nat _ _ hi] at hd
    rw [ix_nat _ _ h] at hc
    have := h1.2 d c hd hc
    omega
theorem take_snoc (P : List BS) (i : Nat) (h : i < P.length) : P.take (i + 1) = P.take i ++ [ix P (i : Int)] := by
  rw [ix_nat P i h, List.take_add_one, List.getElem?_eq_getElem h]; rfl
set_option maxHeartbeats 1000000 in
theorem parts_law (l : List BS) : ∃ fuel, F_setsparts fuel l = some true := by
  refine ⟨l.length + (partsS (sub l 0 (min (List.length l : Int) 8))).length + 10, ?_⟩
  unfold F_setsparts
  have g0 : (0 : Int) ≤ 0 ∧ 0 ≤ (min (List.length l : Int) 8) ∧ (min (List.length l : Int) 8) ≤ (List.length l : Int) := by omega
  have hm : (sub l 0 (min (List.length l : Int) 8)).length ≤ 8 ∧ (sub l 0 (min (List.length l : Int) 8)).length ≤ l.length := by rw [sub_lenI l g0]; omega
  refine chk_i ⟨Nat.le_refl 0, g0.2⟩ ?_
  generalize sub l 0 (min (List.length l : Int) 8) = m at *
  refine chk_i (by omega) (letE_i fun P hP => ?_)
  subst hP
  have hPl : (partsS m).length ≤ 2 ^ 8 := by
    rw [partsS, sortS_len]
    exact Nat.le_trans (partsU_len m) (Nat.pow_le_pow_right (by omega) hm.1)
  have hU := least_up m
  have hD := or_dis m
  have hA := or_all m
  have hI : ∀ (i : Nat) (h : i < (partsS m).length) (s : BS), s ∈ m → s &&& ix (partsS m) (i : Int) ≠ 0#256 → ix (partsS m) (i : Int) &&& ~~~s = 0#256 := fun i h s hs hn => parts_in m (ix_mem (partsS m) i h) hs hn
  have hX : ∀ (i j : Nat) (h : i < (partsS m).length) (k : j < i), ∃ s ∈ m, (ix (partsS m) (i : Int) &&& ~~~s == 0#256) ≠ (ix (partsS m) (j : Int) &&& ~~~s == 0#256) := fun i j h k => by
    refine parts_apart m (ix_mem _ i h) (ix_mem _ j (by omega)) ?_
    rw [ix_nat _ i h, ix_nat _ j (by omega), BitVec.and_comm]
    exact (List.pairwise_iff_getElem.1 (parts_lt m) j i (by omega) h k).1
  generalize partsS m = P at *
  refine cutE_i (orL P) (loopE_i P.length (fun i => (lastF P i, (i : Int), orL (P.take i))) rfl (fun i hi => ?_) ?_ (by omega)) ?_
  · obtain ⟨u1, u2, u3, u4⟩ := hU i hi
    refine bif_t (by simp; omega) (cutE_i (leastS (ix P (i : Int)), orL (P.take (i + 1))) ?_ (chk_i (by simp; omega) ?_))
    · refine chk_i (by simp; omega) (letE_i fun p hp => letE_i fun x3 h3 => ?_)
      subst h3
      simp only at hp
      subst hp
      refine bif_f (by simp [u2]) (chk_i (by simp; omega) (bif_f (by simp; omega) (letE_i fun x4 h4 => bif_f ?_ (chk_i (by simp; omega) (letE_i fun x5 h5 => cutE_i () ?_ (chk_i (by simp; omega) ?_))))))
      · subst h4; simp [hD i hi]
      · refine loopE_i m.length (fun k => (k : Int)) rfl (fun k hk => ?_) ?_ (by omega)
        · refine bif_t (by simp; omega) (cutE_i () (chk_i (by simp; omega) (letE_i fun s hs => letE_i fun x7 h7 => bif_i (fun ht => letE_i fun x8 h8 => bif_f ?_ rfl) fun _ => rfl)) (chk_i (by omega) ?_))
          · subst h7 h8
            have hms : s ∈ m := by rw [← hs]; exact ix_mem m k hk
            have := hI i hi s hms (by simpa using ht)
            simp [this]
          · simp
        · exact bif_f (by simp) rfl
      · have hsl : (sub P 0 (i : Int)).length = i := by rw [sub_lenI P ⟨Int.le_refl 0, by omega, by omega⟩]; simp
        refine loopE_i i (fun k => (k : Int)) rfl (fun k hk => ?_) ?_ (by omega)
        · refine bif_t (by simp [hsl]; omega) (cutE_i () (chk_i (by simp [hsl]; omega) (letE_i fun q hq => cutE_i true ?_ (bif_f rfl rfl))) (chk_i (by omega) (by simp)))
          have hq' : q = ix P (k : Int) := by
            rw [← hq]
            simp [ix, sub, List.getElem?_take, hk, List.getD_eq_getElem?_getD]
          obtain ⟨s0, hs0, hne⟩ := hX i k hi hk
          have hany : m.any (fun s => !((ix P (i : Int) &&& ~~~s == 0#256) == (q &&& ~~~s == 0#256))) = true := by
            rw [List.any_eq_true]
            refine ⟨s0, hs0, ?_⟩
            rw [hq']
            cases h1 : (ix P (i : Int) &&& ~~~s0 == 0#256) <;> cases h2 : (ix P (k : Int) &&& ~~~s0 == 0#256) <;> rw [h1, h2] at hne <;> simp at hne ⊢
          refine loopE_i m.length (fun j => ((m.take j).any (fun s => !((ix P (i : Int) &&& ~~~s == 0#256) == (q &&& ~~~s == 0#256))), (j : Int))) (by simp) (fun j hj => ?_) ?_ (by omega)
          · have hsn : (m.take (j + 1)).any (fun s => !((ix P (i : Int) &&& ~~~s == 0#256) == (q &&& ~~~s == 0#256))) = ((m.take j).any (fun s => !((ix P (i : Int) &&& ~~~s == 0#256) == (q &&& ~~~s == 0#256))) || !((ix P (i : Int) &&& ~~~(ix m (j : Int)) == 0#256) == (q &&& ~~~(ix m (j : Int)) == 0#256))) := by
              rw [take_snoc m j hj, List.any_append]; simp
            refine bif_t (by simp; omega) (cutE_i ((m.take (j + 1)).any (fun s => !((ix P (i : Int) &&& ~~~s == 0#256) == (q &&& ~~~s == 0#256)))) (chk_i (by simp; omega) (letE_i fun s hs => bif_i (fun ha => ?_) fun ha => letE_i fun a h1 => letE_i fun b h2 => ?_)) (chk_i (by simp; omega) (by simp)))
            · simp only at ha
              rw [hsn, ha]; rfl
            · simp only at ha hs
              rw [hsn, ha, ← h1, ← h2, ← hs]; rfl
          · refine bif_f (by simp) ?_
            simp only [List.take_length, hany]
        · refine bif_f (by simp [hsl]) ?_
          subst h5
          rw [take_snoc P i hi, orL_snoc]
    · have e : lastF P (i + 1) = leastS (ix P (i : Int)) := by simp [lastF]
      simp only [e]
      simp
  · refine bif_f (by simp) ?_
    simp [List.take_length]
  · refine letE_i fun x hx => ?_
    rw [← hx, hA]; simp
end Go.Ab
