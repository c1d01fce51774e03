/-
  sets.Parts: its contract.
-/
import Derived.Test.YtfkkellnlmjenaaGreatZeE9
set_option linter.unusedSimpArgs false
set_option linter.unusedVariables false
namespace Go.Ab
open Go Go.RowKit Go.Fwd
def zmj (S p : BS) : List BS := [p &&& S, p &&& ~~~S]
def zjj (S : BS) (L : List BS) : List BS := L.flatMap fun p => (zmj S p).filter fun x => !(x == 0#256)
def zhg (l : List BS) : List BS := l.foldl (fun L S => zjj S L) [BitVec.allOnes 256]
def zko (l : List BS) : List BS := z4m (zhg l)
theorem z4t (l : List BS) (S : BS) : zhg (l ++ [S]) = zjj S (zhg l) := by simp [zhg]
structure Cls (m L : List BS) : Prop where
 ne : ∀ p ∈ L, p ≠ 0#256
 all : ∀ c, c < 256 → ∃ p ∈ L, p.getLsbD c = true
 cls : ∀ p ∈ L, ∀ c d, c < 256 → d < 256 → p.getLsbD c = true → (p.getLsbD d = true ↔ ∀ s ∈ m, s.getLsbD c = s.getLsbD d)
 dis : L.Pairwise fun p q => p &&& q = 0#256
theorem zmo {p : BS} : p = 0#256 ↔ ∀ c, c < 256 → p.getLsbD c = false :=
 ⟨fun h c _ => by rw [h]; simp, fun h => BitVec.eq_of_getLsbD_eq fun c hc => by rw [h c hc]; simp⟩
theorem bs_ne {p : BS} (h : p ≠ 0#256) : ∃ c, c < 256 ∧ p.getLsbD c = true := by
 rcases Classical.em (∃ c, c < 256 ∧ p.getLsbD c = true) with h' | h'
 ·exact h'
 ·exfalso; refine h (zmo.2 fun c hc => ?_)
  cases hb : p.getLsbD c
  ·rfl
  ·exact absurd ⟨c, hc, hb⟩ h'
theorem cls_nil : Cls [] [BitVec.allOnes 256] where
 ne p hp := by
  simp at hp; subst hp
  intro h
  have := zmo.1 h 0 (by decide)
  simp at this
 all c hc := ⟨BitVec.allOnes 256, List.mem_singleton.2 rfl, by rw [BitVec.getLsbD_allOnes]; simpa using hc⟩
 cls p hp c d hc hd h := by
  rw [List.mem_singleton] at hp; subst hp
  rw [BitVec.getLsbD_allOnes]
  simp only [hd, decide_true, true_iff]
  intro s hs; cases hs
 dis := by simp
theorem zre {S x : BS} {L : List BS} : x ∈ zjj S L ↔ x ≠ 0#256 ∧ ∃ p ∈ L, x = p &&& S ∨ x = p &&& ~~~S := by
 simp only [zjj, zmj, List.mem_flatMap, List.mem_filter, List.mem_cons, List.not_mem_nil, or_false, Bool.not_eq_true', beq_eq_false_iff_ne, ne_eq]
 constructor
 ·rintro ⟨p, hp, h, hn⟩; exact ⟨hn, p, hp, h⟩
 ·rintro ⟨hn, p, hp, h⟩; exact ⟨p, hp, h, hn⟩
theorem qjf {m L : List BS} (h : Cls m L) (S : BS) : Cls (m ++ [S]) (zjj S L) where
 ne p hp := (zre.1 hp).1
 all c hc := by
  obtain ⟨p, hp, hb⟩ := h.all c hc
  cases hS : S.getLsbD c
  ·have hx : (p &&& ~~~S).getLsbD c = true := by rw [BitVec.getLsbD_and, BitVec.getLsbD_not, hb, hS]; simp [hc]
   exact ⟨_, zre.2 ⟨fun e => (by rw [e] at hx; simp at hx), p, hp, .inr rfl⟩, hx⟩
  ·have hx : (p &&& S).getLsbD c = true := by simp [hb, hS]
   exact ⟨_, zre.2 ⟨fun e => (by rw [e] at hx; simp at hx), p, hp, .inl rfl⟩, hx⟩
 cls x hx c d hc hd hb := by
  obtain ⟨_, p, hp, he⟩ := zre.1 hx
  have spl : ∀ s, s ∈ m ++ [S] ↔ s ∈ m ∨ s = S := fun s => by simp
  rcases he with rfl | rfl
  ·simp only [BitVec.getLsbD_and, Bool.and_eq_true] at hb ⊢
   rw [h.cls p hp c d hc hd hb.1]
   constructor
   ·rintro ⟨h1, h2⟩ s hs
    rcases (spl s).1 hs with hs | rfl
    ·exact h1 s hs
    ·rw [hb.2, h2]
   ·intro h1
    exact ⟨fun s hs => h1 s ((spl s).2 (.inl hs)), by rw [← h1 S ((spl S).2 (.inr rfl)), hb.2]⟩
  ·simp only [BitVec.getLsbD_and, BitVec.getLsbD_not, hc, hd, decide_true, Bool.true_and, Bool.and_eq_true, Bool.not_eq_true'] at hb ⊢
   rw [h.cls p hp c d hc hd hb.1]
   constructor
   ·rintro ⟨h1, h2⟩ s hs
    rcases (spl s).1 hs with hs | rfl
    ·exact h1 s hs
    ·rw [hb.2, h2]
   ·intro h1
    exact ⟨fun s hs => h1 s ((spl s).2 (.inl hs)), by rw [← h1 S ((spl S).2 (.inr rfl)), hb.2]⟩
 dis := by
  unfold zjj
  rw [List.pairwise_flatMap]
  constructor
  ·intro p _
   refine List.Pairwise.filter _ ?_
   simp only [zmj, List.pairwise_cons, List.mem_cons, List.not_mem_nil, or_false, forall_eq, List.Pairwise.nil, and_true, false_implies, implies_true]
   refine zmo.2 fun c hc => ?_
   simp only [BitVec.getLsbD_and, BitVec.getLsbD_not, hc, decide_true, Bool.true_and]
   cases p.getLsbD c <;> cases S.getLsbD c <;> rfl
  ·refine h.dis.imp fun {p q} hpq x hx y hy => ?_
   have hx' := (List.mem_filter.1 hx).1
   have hy' := (List.mem_filter.1 hy).1
   refine zmo.2 fun c hc => ?_
   have h0 := zmo.1 hpq c hc
   rw [BitVec.getLsbD_and] at h0 ⊢
   have sub : ∀ z w : BS, z ∈ zmj S w → z.getLsbD c = true → w.getLsbD c = true := by
    intro z w hz hb
    simp only [zmj, List.mem_cons, List.not_mem_nil, or_false] at hz
    rcases hz with rfl | rfl <;> · rw [BitVec.getLsbD_and, Bool.and_eq_true] at hb; exact hb.1
   cases hxc : x.getLsbD c
   ·rfl
   ·cases hyc : y.getLsbD c
    ·rfl
    ·rw [sub x p hx' hxc, sub y q hy' hyc] at h0; cases h0
theorem z0z (m : List BS) : Cls m (zhg m) := by
 suffices ∀ (k m0 L : List BS), Cls m0 L → Cls (m0 ++ k) (k.foldl (fun L S => zjj S L) L) by
  have := this m [] _ cls_nil
  simpa [zhg] using this
 intro k
 induction k with
 | nil => intro m0 L h; simpa using h
 | cons S k ih =>
  intro m0 L h
  have := ih (m0 ++ [S]) _ (qjf h S)
  simpa using this
theorem ziv (m : List BS) : Cls m (zko m) := by
 have h := z0z m
 have hp : (zko m).Perm (zhg m) := zjm _
 refine ⟨fun p hm => h.ne p (hp.mem_iff.1 hm), fun c hc => ?_, fun p hm => h.cls p (hp.mem_iff.1 hm), ?_⟩
 ·obtain ⟨p, h1, h2⟩ := h.all c hc
  exact ⟨p, hp.mem_iff.2 h1, h2⟩
 ·refine (hp.pairwise_iff fun {a b} hab => ?_).2 h.dis
  rw [BitVec.and_comm]; exact hab
def lst (p : BS) (c : Nat) : Prop := c < 256 ∧ p.getLsbD c = true ∧ ∀ j, j < c → p.getLsbD j = false
theorem cmpS_lt {p q : BS} (h : zwq p q ≤ 0) : p = q ∨ ∃ c, c < 256 ∧ p.getLsbD c = true ∧ q.getLsbD c = false ∧ ∀ j, j < c → p.getLsbD j = q.getLsbD j := by
 unfold zwq at h
 rw [zwj _ _ (fun j => p.getLsbD j != q.getLsbD j) _ (fun _ _ => rfl)] at h
 cases hf : (List.range 256).filter (fun j => p.getLsbD j != q.getLsbD j) with
 | nil =>
  left
  apply BitVec.eq_of_getLsbD_eq
  intro j hj
  have := List.filter_eq_nil_iff.1 hf j (by simpa using hj)
  simpa using this
 | cons c r =>
  right
  rw [hf] at h
  obtain ⟨l1, l2, e1, e2, e3, _⟩ := List.filter_eq_cons_iff.1 hf
  have hlen : l1.length < 256 := by
   have := congrArg List.length e1
   simp only [List.length_range, List.length_append, List.length_cons] at this; omega
  have hc : l1.length = c := by
   have h1 : (List.range 256)[l1.length]? = some l1.length := by rw [List.getElem?_range hlen]
   rw [e1, List.getElem?_append_right (Nat.le_refl _), Nat.sub_self] at h1
   simpa using h1.symm
  have hlow : ∀ j, j < c → p.getLsbD j = q.getLsbD j := fun j hj => by
   have h1 : (List.range 256)[j]? = some j := by rw [List.getElem?_range (by omega)]
   rw [e1, List.getElem?_append_left (by omega)] at h1
   have := e2 j (List.mem_of_getElem? h1)
   simpa using this
  have hp : p.getLsbD c = true := by
   have h : (if p.getLsbD c = true then (-1 : Int) else 1) ≤ 0 := h
   cases hpc : p.getLsbD c with
   | true => rfl
   | false => rw [hpc] at h; simp at h
  have hq : q.getLsbD c = false := by
   have e3 : (p.getLsbD c != q.getLsbD c) = true := e3
   rw [hp] at e3; cases hqc : q.getLsbD c with
   | false => rfl
   | true => rw [hqc] at e3; cases e3
  exact ⟨c, by omega, hp, hq, hlow⟩
theorem z8g (m : List BS) : (zko m).Pairwise fun p q => p &&& q = 0#256 ∧ ∀ c d, lst p c → lst q d → c < d := by
 have h := ziv m
 have hs : (zko m).Pairwise fun x y => zwq x y ≤ 0 := zld _
 have hn : (zko m).Pairwise fun p q => p ≠ 0#256 ∧ q ≠ 0#256 := List.pairwise_iff_forall_sublist.2 fun {a b} hab => ⟨h.ne a (hab.subset (by simp)), h.ne b (hab.subset (by simp))⟩
 refine ((h.dis.and hs).and hn).imp ?_
 rintro p q ⟨⟨hd, hl⟩, hp, hq⟩
 refine ⟨hd, fun c d hc hdd => ?_⟩
 rcases cmpS_lt hl with rfl | ⟨e, he, h1, h2, h3⟩
 ·exfalso; rw [BitVec.and_self] at hd; exact hp hd
 ·have low : ∀ j, j < e → p.getLsbD j = false := fun j hj => by
   have h0 := zmo.1 hd j (by omega)
   rw [BitVec.getLsbD_and, ← h3 j hj, Bool.and_self] at h0
   exact h0
  have hce : c = e := by
   rcases Nat.lt_trichotomy c e with hlt | rfl | hgt
   ·have := hc.2.1; rw [low c hlt] at this; cases this
   ·rfl
   ·have := hc.2.2 e hgt; rw [h1] at this; cases this
  subst hce
  rcases Nat.lt_or_ge c d with hlt | hge
  ·exact hlt
  ·exfalso
   rcases Nat.lt_or_ge d c with hlt | hge2
   ·have := hdd.2.1; rw [← h3 d hlt, low d hlt] at this; cases this
   ·obtain rfl : d = c := by omega
    have := hdd.2.1; rw [h2] at this; cases this
theorem qbi (P : Nat → Bool) : ∀ (n : Nat), P n = true → ∃ c, c ≤ n ∧ P c = true ∧ ∀ j, j < c → P j = false := by
 intro n
 induction n using Nat.strongRecOn with
 | _ n ih =>
  intro h
  by_cases hj : ∃ j, j < n ∧ P j = true
  ·obtain ⟨j, hj, hp⟩ := hj
   obtain ⟨c, h1, h2, h3⟩ := ih j hj hp
   exact ⟨c, by omega, h2, h3⟩
  ·exact ⟨n, Nat.le_refl _, h, fun j hjn => by
    cases hp : P j with
    | false => rfl
    | true => exact absurd ⟨j, hjn, hp⟩ hj⟩
theorem qmy {p : BS} (h : p ≠ 0#256) : ∃ c, lst p c := by
 obtain ⟨c, hc, hb⟩ := bs_ne h
 obtain ⟨d, h1, h2, h3⟩ := qbi p.getLsbD c hb
 exact ⟨d, by omega, h2, h3⟩
theorem z9p : ∀ (L : List BS) (a : Nat), (∀ p ∈ L, ∃ c, lst p c ∧ a ≤ c) → L.Pairwise (fun p q => ∀ c d, lst p c → lst q d → c < d) → a + L.length ≤ 256 ∨ L = []
 | [], a, _, _ => .inr rfl
 | p :: L, a, h, hp => by
  obtain ⟨c, hc, hac⟩ := h p (by simp)
  have hp' := List.pairwise_cons.1 hp
  have := hc.1
  rcases z9p L (c + 1) (fun q hq => by
   obtain ⟨d, hd, _⟩ := h q (List.mem_cons_of_mem _ hq)
   exact ⟨d, hd, hp'.1 q hq c d hc hd⟩) hp'.2 with h1 | rfl
  ·left; simp only [List.length_cons]; omega
  ·left; simp only [List.length_cons, List.length_nil]; omega
theorem zox (m : List BS) : (zko m).length ≤ 256 := by
 have h := ziv m
 rcases z9p (zko m) 0 (fun p hp => by obtain ⟨c, hc⟩ := qmy (h.ne p hp); exact ⟨c, hc, Nat.zero_le _⟩) ((z8g m).imp fun h => h.2) with h1 | h1
 ·omega
 ·rw [h1]; simp
theorem zvi (m : List BS) : (zhg m).length ≤ 256 := by rw [← (zjm (zhg m)).length_eq]; exact zox m
theorem z0v (m : List BS) : zhg m ≠ [] := fun e => by
 obtain ⟨p, hp, _⟩ := (z0z m).all 0 (by decide)
 rw [e] at hp; cases hp
end Go.Ab
namespace Go.Ab
open Go Go.RowKit Go.Fwd Go.Proofs
theorem qdv (S : BS) (L : List BS) (i : Nat) (hi : i < L.length) : zjj S (L.take (i + 1)) = zjj S (L.take i) ++ (zmj S L[i]).filter fun x => !(x == 0#256) := by
 unfold zjj; rw [List.take_succ_eq_append_getElem hi, List.flatMap_append]; simp
theorem qlj (S : BS) (L : List BS) : (zjj S L).length ≤ 2 * L.length := by
 induction L with
 | nil => simp [zjj]
 | cons p L ih =>
  have h1 : zjj S (p :: L) = ((zmj S p).filter fun x => !(x == 0#256)) ++ zjj S L := by simp [zjj]
  have h2 := List.length_filter_le (fun x => !(x == 0#256)) (zmj S p)
  rw [h1, List.length_append, List.length_cons]
  simp only [zmj, List.length_cons, List.length_nil] at h2
  simp only [zmj]; omega
theorem qlf {fuel : Nat} (l : List BS) (hl : l.length < 2 ^ 40) (hf : l.length < fuel ∧ 300 < fuel) : zzh fuel l = some (zko l) := by
 unfold zzh
 refine zbn (zhg l) ?_ ?_
 ·refine zdm l.length (fun i => ((i : Int), zhg (l.take i))) (by simp [zhg, allS]) (fun i hi => ?_) ?_ hf.1
  ·refine zbk (by simpa using hi) (zbn (zhg (l.take (i + 1))) (zm (by simp only; omega) (zad fun x1 e1 => ?_)) (zm (by simp only; omega) rfl))
   simp only at e1
   rw [zdh hi] at e1
   rw [List.take_succ_eq_append_getElem hi, z4t, e1]
   have hne := z0v (l.take i)
   have hL := zvi (l.take i)
   generalize zhg (l.take i) = L at hne hL
   refine zbn (zjj x1 L) ?_ rfl
   have hemp : List.isEmpty L = false := by cases L with | nil => exact absurd rfl hne | cons a L => rfl
   refine zdm L.length (fun j => ((j : Int), zjj x1 (L.take j))) (by simp [zjj]) (fun j hj => ?_) ?_ (by omega)
   ·have hs := qlj x1 (L.take j)
    rw [List.length_take, Nat.min_eq_left (by omega)] at hs
    refine zbk (by simpa using hj) (zbn (zjj x1 (L.take (j + 1))) ?_ (zm (by simp only; omega) rfl))
    rw [qdv _ _ _ hj]
    generalize zjj x1 (L.take j) = N at hs
    refine zas hemp (zm (by simp only; omega) (zm (by simp only; omega) (zad fun x2 e2 => ?_)))
    simp only at e2
    rw [zdh hj] at e2
    subst e2
    refine zad fun x3 e3 => zad fun x4 e4 => ?_
    refine zdm 2 (fun k => ((k : Int), N ++ (([x3, x4].take k).filter fun x => !(x == 0#256)))) (by simp) (fun k hk => ?_) ?_ (by omega)
    ·have hk2 : k < [x3, x4].length := hk
     have hflt := List.length_filter_le (fun x => !(x == 0#256)) ([x3, x4].take k)
     have htk : ([x3, x4].take k).length ≤ 2 := by simp; omega
     refine zbk (by simp; omega) (zbn (N ++ (([x3, x4].take (k + 1)).filter fun x => !(x == 0#256))) ?_ (zm (by simp only; omega) rfl))
     rw [List.take_succ_eq_append_getElem hk2, List.filter_append, ← List.append_assoc]
     have hM : (N ++ (([x3, x4].take k).filter fun x => !(x == 0#256))).length ≤ 1000 := by rw [List.length_append]; omega
     simp only
     generalize N ++ (([x3, x4].take k).filter fun x => !(x == 0#256)) = M at hM
     refine zm (by simp only [List.length_cons, List.length_nil]; omega) (zad fun x5 e5 => ?_)
     rw [zdh hk2] at e5
     rw [e5]
     by_cases hx : x5 = 0#256
     ·rw [show [x5].filter (fun x => !(x == 0#256)) = [] by simp [hx], List.append_nil]; exact zas (by simpa using hx) rfl
     ·rw [show [x5].filter (fun x => !(x == 0#256)) = [x5] by simp [hx]]
      refine zbk (by simpa using hx) ?_
      cases M with
      | nil => exact zbk rfl (zm (by simp) rfl)
      | cons m M => exact zas rfl (zm (by simp only [List.length_cons, List.length_nil] at hM ⊢; exact ⟨trivial, by omega, by omega, by omega⟩) rfl)
    ·refine zas (by simp) ?_
     subst e3 e4; rfl
   ·refine zas (by simp) ?_
    simp
  ·refine zas (by simp) ?_
   simp
 ·have hne := z0v l
  have hL := zvi l
  have hemp : List.isEmpty (zhg l) = false := by cases h : zhg l with | nil => exact absurd h hne | cons a L => rfl
  refine zas hemp (zm ⟨List.length_pos_iff.2 hne, by omega⟩ (zad fun x6 e6 => zm ?_ ?_))
  ·subst e6; exact (zjm _).length_eq
  ·subst e6; rfl
theorem k_parts (l : List BS) (hl : l.length < 2 ^ 40) : Pure (ITP Tryz.prog) Tryz.prog 96 [.list l.length (Enc.cellsL l) .none] (.list (zko l).length (Enc.cellsL (zko l)) .none) := qjr (l.length + 301) l _ (qlf l hl (by omega))
end Go.Ab
