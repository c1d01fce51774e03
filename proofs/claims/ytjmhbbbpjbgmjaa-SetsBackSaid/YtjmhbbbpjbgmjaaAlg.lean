/-
  The algebra of sets.
-/
import Derived.Test.YtjmhbbbpjbgmjaaAwake
set_option linter.unusedSimpArgs false
set_option linter.unusedVariables false
namespace Go.Fwd
open Go Go.RowKit
/-- Under a guard that is not met: passed over. -/
theorem fwd_pass {P : Program} {ops : Array Oper} {w0 : World} {a0 : Act} {fin : Acc → Prop} {o : Oper} {rest : List Oper} {acc : Acc} {t : Tmp} {k d : Nat} {b : Bool} (hd : o.dst = some t) (hgd : o.guard = some (k, b)) (hD : dstOf ops k = some d)
    (hg : ∀ g W, env a0 acc d g W → g = .bool (!b)) (hk : FwdGo P ops w0 a0 fin rest ((t, Is undef) :: acc)) : FwdGo P ops w0 a0 fin (o :: rest) acc :=
  fwd_skip hgd hD hg (by rw [hd]; exact hk)
/-- Operations one behind the other. -/
theorem wpList_fwd {P : Program} {ops : Array Oper} {Q : Exit → Act → World → Prop} {w0 : World} {a0 : Act} {fin : Acc → Prop} (hfin : ∀ acc a w, fin acc → a.tmps.size = a0.tmps.size → a.defers = a0.defers → Grows w0 w → (∀ t, env a0 acc t (a.eval (.tmp t)) w) → Q .normal a w) :
    ∀ (l : List Oper) (acc : Acc) (a : Act) (w : World), (l.all fun o => o.guard.isNone && (o.dst.all fun d => decide (d < a0.tmps.size))) = true → Grows w0 w → a.tmps.size = a0.tmps.size → a.defers = a0.defers →
      (∀ t, Mono (env a0 acc t)) → (∀ t, env a0 acc t (a.eval (.tmp t)) w) → FwdGo P ops w0 a0 fin l acc → wpList P ops Q l a w
  | [], acc, a, w, _, hg, h1, h2, _, he, h => hfin acc a w h h1 h2 hg he
  | o :: l, acc, a, w, hc, hg, h1, h2, hm, he, ⟨V, hV, hs, hk⟩ => by
    rw [List.all_cons, Bool.and_eq_true, Bool.and_eq_true] at hc
    obtain ⟨⟨hgd, hd⟩, hc⟩ := hc
    have hgd : o.guard = none := by simpa using hgd
    have key := hs a.eval w (env_eval a) hg (all_mk fun t _ => he t)
    rw [hgd] at key
    refine wpList_plain hgd fun K hK => wp_of_good key fun v w' hg' hv => hK _ _ ?_
    cases hdst : o.dst with
    | none =>
      rw [hdst] at hk
      exact wpList_fwd hfin l acc a w' hc (hg.trans hg') h1 h2 hm (fun t => hm t _ _ _ hg' (he t)) hk
    | some d =>
      rw [hdst] at hk hd
      have hlt : d < a0.tmps.size := by simpa using hd
      refine wpList_fwd hfin l ((d, V) :: acc) (a.put (some d) v) w' hc (hg.trans hg') (by simp [Act.put, h1]) (by simp [Act.put, h2]) (fun t => ?_) (fun t => ?_) hk
      · simp only [env]; split
        · exact hV
        · exact hm t
      · simp only [env]
        by_cases hdt : d = t
        · rw [if_pos hdt, hdt]
          have : (a.put (some t) v).eval (.tmp t) = v := by simp [Act.put, Act.eval, h1, hdt ▸ hlt]
          rw [this]; exact hv
        · rw [if_neg hdt]
          have : (a.put (some d) v).eval (.tmp t) = a.eval (.tmp t) := by simp [Act.put, Act.eval, Array.getElem?_setIfInBounds, hdt]
          rw [this]; exact hm t _ _ _ hg' (he t)
theorem wp_region_seq {P : Program} {id : Nat} {Q : Exit → Act → World → Prop} {a : Act} {w : World} {l : List Oper} (Es : List (Tmp × Value)) (hc : (l.all fun o => o.guard.isNone && (o.dst.all fun d => decide (d < a.tmps.size))) = true)
    (hfin : ∀ a' w', a'.tmps.size = a.tmps.size → a'.defers = a.defers → (∀ p ∈ Es, a'.eval (.tmp p.1) = p.2) → Grows w w' → Q .normal a' w')
    (h : FwdGo P l.toArray w a (fun acc => ∀ p ∈ Es, env a acc p.1 = Is p.2) l []) : (Code.region id l.toArray false).wp P Q a w :=
  wp_region_lit (wpList_fwd (fun acc a' w' hf h1 h2 hg he => hfin a' w' h1 h2 (fun p hp => by have := he p.1; rw [hf p hp] at this; exact this) hg) l [] a w hc (Grows.refl w) rfl rfl (fun t => mono_is _) (fun t => rfl) h)
end Go.Fwd
namespace Go.Proofs.Ytjmhbbbpjbgmjaa
open Go.RowKit Go.Fwd Go.Shelf Go.Proofs

theorem bsExt {A B : BS} (h : ∀ j, j < 256 → A.getLsbD j = B.getLsbD j) : A = B := BitVec.eq_of_getLsbD_eq h
theorem alg1 (A B : BS) : B ||| A = A ||| B := BitVec.or_comm _ _
theorem alg2 (A B : BS) : B &&& A = A &&& B := BitVec.and_comm _ _
theorem alg3 (A B C : BS) : (A ||| B) ||| C = A ||| (B ||| C) := BitVec.or_assoc _ _ _
theorem alg4 (A B C : BS) : (A &&& B) &&& C = A &&& (B &&& C) := BitVec.and_assoc _ _ _
theorem alg5 (A B C : BS) : (A &&& B) ||| (A &&& C) = A &&& (B ||| C) := bsExt fun j _ => by simp only [BitVec.getLsbD_or, BitVec.getLsbD_and]; cases A.getLsbD j <;> simp
theorem alg6 (A B C : BS) : (A ||| B) &&& (A ||| C) = A ||| (B &&& C) := bsExt fun j _ => by simp only [BitVec.getLsbD_or, BitVec.getLsbD_and]; cases A.getLsbD j <;> simp
theorem alg7 (A B : BS) : ~~~A &&& ~~~B = ~~~(A ||| B) := bsExt fun j hj => by simp only [BitVec.getLsbD_or, BitVec.getLsbD_and, BitVec.getLsbD_not, hj, decide_true, Bool.true_and]; cases A.getLsbD j <;> simp
theorem alg8 (A : BS) : ~~~(~~~A) = A := bsExt fun j hj => by simp only [BitVec.getLsbD_not, hj, decide_true, Bool.true_and, Bool.not_not]
theorem alg9 (A : BS) : A ||| ~~~A = BitVec.allOnes 256 := bsExt fun j hj => by simp only [BitVec.getLsbD_or, BitVec.getLsbD_not, BitVec.getLsbD_allOnes, hj, decide_true, Bool.true_and]; cases A.getLsbD j <;> rfl
theorem alg10 (A : BS) : A &&& ~~~A = 0#256 := bsExt fun j hj => by simp only [BitVec.getLsbD_and, BitVec.getLsbD_not, BitVec.getLsbD_zero, hj, decide_true, Bool.true_and]; cases A.getLsbD j <;> rfl
theorem alg_within (A B : BS) : ((A ||| B) == B) = (A &&& ~~~B == 0#256) := by
  rw [Bool.eq_iff_iff]; simp only [beq_iff_eq]
  constructor
  · intro h; rw [← h]; exact bsExt fun j hj => by simp only [BitVec.getLsbD_or, BitVec.getLsbD_and, BitVec.getLsbD_not, BitVec.getLsbD_zero, hj, decide_true, Bool.true_and]; cases A.getLsbD j <;> simp
  · intro h
    refine bsExt fun j hj => ?_
    have := congrArg (fun S => BitVec.getLsbD S j) h
    simp only [BitVec.getLsbD_and, BitVec.getLsbD_not, BitVec.getLsbD_zero, hj, decide_true, Bool.true_and, BitVec.getLsbD_or] at this ⊢
    cases hA : A.getLsbD j <;> cases hB : B.getLsbD j <;> simp [hA, hB] at this ⊢
theorem alg_has_not (A : BS) (x : Nat) (hx : x < 256) : (~~~A).getLsbD x = !A.getLsbD x := by simp only [BitVec.getLsbD_not, hx, decide_true, Bool.true_and]
theorem ofS_get (l : List Nat) (j : Nat) : (ofS l).getLsbD j = (decide (j < 256) && l.contains j) := setOf_get _ _
theorem alg_of (A : BS) (x : Nat) (hx : x < 256) : (ofS [x] &&& ~~~A == 0#256) = A.getLsbD x := by
  cases h : A.getLsbD x
  · have : ¬ (ofS [x] &&& ~~~A = 0#256) := fun e => by
      have := congrArg (fun S => BitVec.getLsbD S x) e
      simp only [BitVec.getLsbD_and, BitVec.getLsbD_not, BitVec.getLsbD_zero, ofS_get, hx, decide_true, Bool.true_and, h] at this
      simp at this
    simpa using this
  · have : ofS [x] &&& ~~~A = 0#256 := bsExt fun j hj => by
      simp only [BitVec.getLsbD_and, BitVec.getLsbD_not, BitVec.getLsbD_zero, ofS_get, hj, decide_true, Bool.true_and]
      by_cases e : j = x
      · subst e; simp [h]
      · simp [e]
    simpa using this
theorem alg_size (A B : BS) : (bytesOf A).length + (bytesOf B).length = (bytesOf (A ||| B)).length + (bytesOf (A &&& B)).length := by
  have key : ∀ n, (bytesTo A n).length + (bytesTo B n).length = (bytesTo (A ||| B) n).length + (bytesTo (A &&& B) n).length := by
    intro n
    induction n with
    | zero => rfl
    | succ n ih =>
      simp only [bytesTo_succ, List.length_append, BitVec.getLsbD_or, BitVec.getLsbD_and]
      cases A.getLsbD n <;> cases B.getLsbD n <;> simp <;> omega
  exact key 256
end Go.Proofs.Ytjmhbbbpjbgmjaa
