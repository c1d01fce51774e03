/-
  The classes of some sets: plain laws.
-/
import Derived.Test.YtjmhbbbpjbgmjaaZseParts
set_option linter.unusedSimpArgs false
set_option linter.unusedVariables false
namespace Go.Proofs.Ytjmhbbbpjbgmjaa
/-- What the classes are. -/
structure Cls (m L : List BS) : Prop where
  ne : ∀ p ∈ L, p ≠ 0#256
  all : ∀ c, c < 256 → ∃ p ∈ L, p.getLsbD c = true
  cls : ∀ p ∈ L, ∀ c d, c < 256 → d < 256 → p.getLsbD c = true → (p.getLsbD d = true ↔ ∀ s ∈ m, s.getLsbD c = s.getLsbD d)
  dis : L.Pairwise fun p q => p &&& q = 0#256
theorem bs_zero {p : BS} : p = 0#256 ↔ ∀ c, c < 256 → p.getLsbD c = false :=
  ⟨fun h c _ => by rw [h]; simp, fun h => BitVec.eq_of_getLsbD_eq fun c hc => by rw [h c hc]; simp⟩
theorem bs_ne {p : BS} (h : p ≠ 0#256) : ∃ c, c < 256 ∧ p.getLsbD c = true := by
  rcases Classical.em (∃ c, c < 256 ∧ p.getLsbD c = true) with h' | h'
  · exact h'
  · exfalso; refine h (bs_zero.2 fun c hc => ?_)
    cases hb : p.getLsbD c
    · rfl
    · exact absurd ⟨c, hc, hb⟩ h'
theorem cls_nil : Cls [] [BitVec.allOnes 256] where
  ne p hp := by
    simp at hp; subst hp
    intro h
    have := bs_zero.1 h 0 (by decide)
    simp at this
  all c hc := ⟨BitVec.allOnes 256, List.mem_singleton.2 rfl, by rw [BitVec.getLsbD_allOnes]; simpa using hc⟩
  cls p hp c d hc hd h := by
    rw [List.mem_singleton] at hp; subst hp
    rw [BitVec.getLsbD_allOnes]
    simp only [hd, decide_true, true_iff]
    intro s hs; cases hs
  dis := by simp
theorem mem_step {S x : BS} {L : List BS} : x ∈ stepS S L ↔ x ≠ 0#256 ∧ ∃ p ∈ L, x = p &&& S ∨ x = p &&& ~~~S := by
  simp only [stepS, splitS, List.mem_flatMap, List.mem_filter, List.mem_cons, List.not_mem_nil, or_false, Bool.not_eq_true', beq_eq_false_iff_ne, ne_eq]
  constructor
  · rintro ⟨p, hp, h, hn⟩; exact ⟨hn, p, hp, h⟩
  · rintro ⟨hn, p, hp, h⟩; exact ⟨p, hp, h, hn⟩
theorem cls_step {m L : List BS} (h : Cls m L) (S : BS) : Cls (m ++ [S]) (stepS S L) where
  ne p hp := (mem_step.1 hp).1
  all c hc := by
    obtain ⟨p, hp, hb⟩ := h.all c hc
    cases hS : S.getLsbD c
    · have hx : (p &&& ~~~S).getLsbD c = true := by rw [BitVec.getLsbD_and, BitVec.getLsbD_not, hb, hS]; simp [hc]
      exact ⟨_, mem_step.2 ⟨fun e => (by rw [e] at hx; simp at hx), p, hp, .inr rfl⟩, hx⟩
    · have hx : (p &&& S).getLsbD c = true := by simp [hb, hS]
      exact ⟨_, mem_step.2 ⟨fun e => (by rw [e] at hx; simp at hx), p, hp, .inl rfl⟩, hx⟩
  cls x hx c d hc hd hb := by
    obtain ⟨_, p, hp, he⟩ := mem_step.1 hx
    have spl : ∀ s, s ∈ m ++ [S] ↔ s ∈ m ∨ s = S := fun s => by simp
    rcases he with rfl | rfl
    · simp only [BitVec.getLsbD_and, Bool.and_eq_true] at hb ⊢
      rw [h.cls p hp c d hc hd hb.1]
      constructor
      · rintro ⟨h1, h2⟩ s hs
        rcases (spl s).1 hs with hs | rfl
        · exact h1 s hs
        · rw [hb.2, h2]
      · intro h1
        exact ⟨fun s hs => h1 s ((spl s).2 (.inl hs)), by rw [← h1 S ((spl S).2 (.inr rfl)), hb.2]⟩
    · simp only [BitVec.getLsbD_and, BitVec.getLsbD_not, hc, hd, decide_true, Bool.true_and, Bool.and_eq_true, Bool.not_eq_true'] at hb ⊢
      rw [h.cls p hp c d hc hd hb.1]
      constructor
      · rintro ⟨h1, h2⟩ s hs
        rcases (spl s).1 hs with hs | rfl
        · exact h1 s hs
        · rw [hb.2, h2]
      · intro h1
        exact ⟨fun s hs => h1 s ((spl s).2 (.inl hs)), by rw [← h1 S ((spl S).2 (.inr rfl)), hb.2]⟩
  dis := by
    unfold stepS
    rw [List.pairwise_flatMap]
    constructor
    · intro p _
      refine List.Pairwise.filter _ ?_
      simp only [splitS, List.pairwise_cons, List.mem_cons, List.not_mem_nil, or_false, forall_eq, List.Pairwise.nil, and_true, false_implies, implies_true]
      refine bs_zero.2 fun c hc => ?_
      simp only [BitVec.getLsbD_and, BitVec.getLsbD_not, hc, decide_true, Bool.true_and]
      cases p.getLsbD c <;> cases S.getLsbD c <;> rfl
    · refine h.dis.imp fun {p q} hpq x hx y hy => ?_
      have hx' := (List.mem_filter.1 hx).1
      have hy' := (List.mem_filter.1 hy).1
      refine bs_zero.2 fun c hc => ?_
      have h0 := bs_zero.1 hpq c hc
      rw [BitVec.getLsbD_and] at h0 ⊢
      have sub : ∀ z w : BS, z ∈ splitS S w → z.getLsbD c = true → w.getLsbD c = true := by
        intro z w hz hb
        simp only [splitS, List.mem_cons, List.not_mem_nil, or_false] at hz
        rcases hz with rfl | rfl <;> · rw [BitVec.getLsbD_and, Bool.and_eq_true] at hb; exact hb.1
      cases hxc : x.getLsbD c
      · rfl
      · cases hyc : y.getLsbD c
        · rfl
        · rw [sub x p hx' hxc, sub y q hy' hyc] at h0; cases h0
theorem cls_parts (m : List BS) : Cls m (partsU m) := by
  suffices ∀ (k m0 L : List BS), Cls m0 L → Cls (m0 ++ k) (k.foldl (fun L S => stepS S L) L) by
    have := this m [] _ cls_nil
    simpa [partsU] using this
  intro k
  induction k with
  | nil => intro m0 L h; simpa using h
  | cons S k ih =>
    intro m0 L h
    have := ih (m0 ++ [S]) _ (cls_step h S)
    simpa using this
theorem cls_sort (m : List BS) : Cls m (partsS m) := by
  have h := cls_parts m
  have hp : (partsS m).Perm (partsU m) := sortS_perm _
  refine ⟨fun p hm => h.ne p (hp.mem_iff.1 hm), fun c hc => ?_, fun p hm => h.cls p (hp.mem_iff.1 hm), ?_⟩
  · obtain ⟨p, h1, h2⟩ := h.all c hc
    exact ⟨p, hp.mem_iff.2 h1, h2⟩
  · refine (hp.pairwise_iff fun {a b} hab => ?_).2 h.dis
    rw [BitVec.and_comm]; exact hab
/-- Least byte. -/
def lst (p : BS) (c : Nat) : Prop := c < 256 ∧ p.getLsbD c = true ∧ ∀ j, j < c → p.getLsbD j = false
theorem parts_lt (m : List BS) : (partsS m).Pairwise fun p q => p &&& q = 0#256 ∧ ∀ c d, lst p c → lst q d → c < d := by
  have h := cls_sort m
  have hs : (partsS m).Pairwise fun x y => x = y ∨ ltS x y := sortS_sorted _
  have hn : (partsS m).Pairwise fun p q => p ≠ 0#256 ∧ q ≠ 0#256 := List.pairwise_iff_forall_sublist.2 fun {a b} hab => ⟨h.ne a (hab.subset (by simp)), h.ne b (hab.subset (by simp))⟩
  refine ((h.dis.and hs).and hn).imp ?_
  rintro p q ⟨⟨hd, hl⟩, hp, hq⟩
  refine ⟨hd, fun c d hc hdd => ?_⟩
  rcases hl with rfl | ⟨e, he, h1, h2, h3⟩
  · exfalso; rw [BitVec.and_self] at hd; exact hp hd
  · have low : ∀ j, j < e → p.getLsbD j = false := fun j hj => by
      have h0 := bs_zero.1 hd j (by omega)
      rw [BitVec.getLsbD_and, ← h3 j hj, Bool.and_self] at h0
      exact h0
    have hce : c = e := by
      rcases Nat.lt_trichotomy c e with hlt | rfl | hgt
      · have := hc.2.1; rw [low c hlt] at this; cases this
      · rfl
      · have := hc.2.2 e hgt; rw [h1] at this; cases this
    subst hce
    rcases Nat.lt_or_ge c d with hlt | hge
    · exact hlt
    · exfalso
      rcases Nat.lt_or_ge d c with hlt | hge2
      · have := hdd.2.1; rw [← h3 d hlt, low d hlt] at this; cases this
      · obtain rfl : d = c := by omega
        have := hdd.2.1; rw [h2] at this; cases this
theorem parts_in (m : List BS) {p s : BS} (hp : p ∈ partsS m) (hs : s ∈ m) (h : s &&& p ≠ 0#256) : p &&& ~~~s = 0#256 := by
  obtain ⟨c, hc, hb⟩ := bs_ne h
  rw [BitVec.getLsbD_and, Bool.and_eq_true] at hb
  refine bs_zero.2 fun d hd => ?_
  cases hpd : p.getLsbD d
  · simp [hpd]
  · have := ((cls_sort m).cls p hp c d hc hd hb.2).1 hpd s hs
    rw [hb.1] at this
    simp [← this]
theorem parts_apart (m : List BS) {p q : BS} (hp : p ∈ partsS m) (hq : q ∈ partsS m) (hd : p &&& q = 0#256) : ∃ s ∈ m, (p &&& ~~~s == 0#256) ≠ (q &&& ~~~s == 0#256) := by
  have h := cls_sort m
  obtain ⟨c, hc, hpc⟩ := bs_ne (h.ne p hp)
  obtain ⟨d, hdd, hqd⟩ := bs_ne (h.ne q hq)
  have hn : ¬ ∀ s ∈ m, s.getLsbD c = s.getLsbD d := fun hh => by
    have h1 := (h.cls p hp c d hc hdd hpc).2 hh
    have := bs_zero.1 hd d hdd
    rw [BitVec.getLsbD_and, h1, hqd] at this; cases this
  have ⟨s, hs⟩ : ∃ s, s ∈ m ∧ s.getLsbD c ≠ s.getLsbD d := Classical.byContradiction fun hh => hn fun s hs => Classical.byContradiction fun hne => hh ⟨s, hs, hne⟩
  have key : ∀ (p : BS) (c : Nat), p ∈ partsS m → c < 256 → p.getLsbD c = true → (p &&& ~~~s == 0#256) = s.getLsbD c := by
    intro p c hp hc hpc
    cases hsc : s.getLsbD c
    · rw [beq_eq_false_iff_ne]
      intro e
      have := bs_zero.1 e c hc
      rw [BitVec.getLsbD_and, BitVec.getLsbD_not, hpc, hsc] at this
      simp [hc] at this
    · rw [beq_iff_eq]
      refine parts_in m hp hs.1 fun e => ?_
      have := bs_zero.1 e c hc
      rw [BitVec.getLsbD_and, hsc, hpc] at this; cases this
  exact ⟨s, hs.1, by rw [key p c hp hc hpc, key q d hq hdd hqd]; exact hs.2⟩
end Go.Proofs.Ytjmhbbbpjbgmjaa
