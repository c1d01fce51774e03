/-
  Regions whose order is open, in a round of a range over a function as well as outside.
-/
import Derived.Test.YtmoncghgagmilaaZdA
import Derived.OrdersIn
import Derived.LoopNIn
set_option linter.unusedSimpArgs false
set_option linter.unusedVariables false
namespace Go.Fwd
open Go Go.RowKit
structure FenceOk (F : Fence) (P : Program) : Prop where
 fn : ∀ f, F.fn f
 depth : F.depth = none
 calls : ∀ (n : Nat) (f : FuncId) (args : Array Value) (w : World) (R : Ending → World → Prop), Calls P f args w R → CallsIn F n P f args w R
 rows : ∀ (n : Nat) (row : String) (args : Array Value) (w : World) (R : Value → World → Prop), Rows P row args w R → RowsIn F n P row args w R
 rounds : ∀ (n l : Nat) (f : FuncId) (tmps : Array Value) (asg body : Code) (w : World) (R : Ending → World → Prop), RoundIn Fence.wide n P l f tmps asg body w R → RoundIn F n P l f tmps asg body w R
theorem zof {n : Nat} {P : Program} {row : String} {args : Array Value} {w : World} {R : Value → World → Prop} (h : Rows P row args w R) : RowsIn Fence.wide n P row args w R :=
 fun c cs _ => let ⟨v, w', r, s⟩ := h c cs; ⟨v, w', r, stepsIn_wide.2 s⟩
theorem zu6 (P : Program) : FenceOk Fence.wide P := ⟨fun _ => trivial, rfl, fun _ _ _ _ _ h => callsIn_wide.2 h, fun _ _ _ _ _ h => zof h, fun _ _ _ _ _ _ _ _ h => h⟩
theorem zk2 (P : Program) (l : Nat) : FenceOk (Fence.wide.inRound l) P := ⟨fun _ => trivial, rfl, fun _ _ _ _ _ h => CallsIn.inRound l (callsIn_wide.2 h), fun n _ _ _ _ h => (zof (n := n) h : RowsIn Fence.wide n _ _ _ _ _), fun _ _ _ _ _ _ _ _ h => h⟩
section
variable {F : Fence} {nn : Nat} {P : Program} {ops : Array Oper} {w0 : World} {a0 : Act} {md : Region.Mode}
theorem zft {Q' : Exit → Act → World → Prop} : ∀ (l : List Oper) (k : Nat) (listed : Array Bool) (a : Act) (w : World), (∀ j, l[j]? = ops[k + j]?) →
 Region.seqB md ops l.length k listed = true → wpListIn F nn P ops Q' l a w → wpAnyIn F nn P md ops Q' l.length listed a w
 | [], _, _, _, _, _, hB, h => ⟨by simpa [Region.seqB] using hB, h⟩
 | o :: l, k, listed, a, w, hl, hB, h => by
  have h0 : ops[k]? = some o := by simpa using (hl 0).symm
  simp only [List.length_cons, Region.seqB, Bool.and_eq_true, decide_eq_true_eq] at hB
  refine ⟨fun h1 => (by rw [hB.1] at h1; cases h1), fun i hi => ?_⟩
  rw [hB.1] at hi
  have hik : i = k := by simpa using hi
  subst hik
  have hw : wpOpIn F nn P ops Q' i (wpListIn F nn P ops Q' l) a w := by unfold wpOpIn; simp only [h0]; exact h
  exact wpOpIn_mono (fun a' w' h' => zft l (i + 1) _ a' w' (fun j => by have := hl (j + 1); simpa [Nat.add_assoc, Nat.add_comm 1 j] using this) hB.2 h') hw
theorem wpIn_of_good {o : Oper} {V : VP} {a : Act} {w : World} {K : Act → World → Prop} {Q : Exit → Act → World → Prop} (hF : FenceOk F P) (hnd : ∀ c, o.op ≠ .defer c) (h : OpGood P V w ((execOp a.eval o).run P w))
 (hK : ∀ v w', Grows w w' → V v w' → K (a.put o.dst v) w') : o.wpIn F nn P a w K Q := by
 unfold Oper.wpIn
 refine ⟨fun f _ => hF.fn f, ?_⟩
 rw [Oper.semAt_plain F _ _ hnd]
 generalize (execOp a.eval o).run P w = r at *
 cases r with
 | halt x w' => exact h.elim
 | ok x w' =>
  cases x <;> simp only [OpGood] at h <;> simp only [Oper.uponIn]
  case value v => exact hK _ _ h.1 h.2
  case skip => exact hK _ _ h.1 h.2
  case enter f args =>
   refine ⟨fun hd => (by rw [hF.depth] at hd; cases hd), CallsIn.mono (hF.calls _ _ _ _ _ h.2) ?_⟩
   rintro e w'' ⟨v, rfl, hg, hv⟩
   exact hK _ _ hg hv
  case row row args => exact ⟨fun hd => (by rw [hF.depth] at hd; cases hd), RowsIn.mono (hF.rows _ _ _ _ _ h.2) fun v w'' hh => hK _ _ hh.1 hh.2⟩
theorem anyIn_of_inv (hF : FenceOk F P) (hnd : ∀ {i : Nat} (o : Oper), ops[i]? = some o → ∀ c, o.op ≠ .defer c) {Vs : Nat → VP} {n : Nat} {Q : Exit → Act → World → Prop} (hm : ∀ j, j < n → Mono (Vs j)) (hst : ∀ i, i < n → ∀ o, ops[i]? = some o → StepOk P ops w0 a0 (accU ops Vs i) (Vs i) o)
 (hB : zkj ops a0.tmps.size n = true) (hback : z69 ops = true) (hn : n ≤ ops.size) (htail : n = ops.size ∨ (Region.sinkB .any ops n = true ∧ Region.chainB .any ops n = true))
 (hseq : Region.seqB .any ops (ops.size - n) n ((List.replicate n true).toArray ++ (List.replicate (ops.size - n) false).toArray) = true)
 (hfin : ∀ a w, a.tmps.size = a0.tmps.size → a.defers = a0.defers → Grows w0 w → (∀ j t, j < n → zbb ops j = some t → Vs j (a.eval (.tmp t)) w) → (∀ t, (∀ j, j < n → zbb ops j ≠ some t) → a.eval (.tmp t) = a0.eval (.tmp t)) →
  wpListIn F nn P ops Q (ops.toList.drop n) a w) :
 ∀ (f : Nat) (listed : Array Bool) (a : Act) (w : World), left n listed = f → Inv ops w0 a0 Vs n listed a w → wpAnyIn F nn P .any ops Q (f + (ops.size - n)) listed a w
 | 0, listed, a, w, h0, inv => by
  have hall := zis n h0
  have hl : listed = (List.replicate n true).toArray ++ (List.replicate (ops.size - n) false).toArray := by
   apply Array.ext
   ·simp [inv.head.size]; omega
   ·intro i h1 h2
    by_cases hin : i < n
    ·have := hall i hin
     simp [h1] at this
     rw [this, Array.getElem_append_left (by simpa using hin)]; simp
    ·have hs : i < ops.size := by rw [← inv.head.size]; exact h1
     have := inv.head.tail i (by omega) hs
     simp [h1] at this
     rw [this, Array.getElem_append_right (by simp; omega)]; simp
  rw [Nat.zero_add]
  have hlen : (ops.toList.drop n).length = ops.size - n := by simp
  have := zft (F := F) (nn := nn) (P := P) (md := .any) (ops := ops) (Q' := Q) (ops.toList.drop n) n listed a w (fun j => by simp) (by rw [hlen, hl]; exact hseq)
   (hfin a w inv.size inv.defers inv.grows (fun j t hj hd => inv.done j t hj hd (hall j hj)) (fun t h => inv.still t fun j hj hd => absurd hd (h j hj)))
  rwa [hlen] at this
 | f + 1, listed, a, w, h0, inv => by
  obtain ⟨i0, hi0, hu0, hb0⟩ := znw n (by rw [h0]; exact Nat.succ_ne_zero f)
  have hr0 : i0 ∈ Region.ready .any ops listed := by
   have hlt : i0 < ops.size := by omega
   refine mem_ready.2 ⟨hu0, ops[i0], by simp [hlt], fun e he hb => ?_⟩
   have h1 := List.all_eq_true.1 hback i0 (List.mem_range.2 hlt)
   rw [Array.getElem?_eq_getElem hlt] at h1
   have h2 := Array.all_eq_true'.1 h1 e he
   have h3 : e.on < i0 := by simpa [hb] using h2
   exact zly (by rw [inv.head.size]; omega) (hb0 _ h3)
  rw [show f + 1 + (ops.size - n) = (f + (ops.size - n)) + 1 by omega]
  refine ⟨fun h => (by rw [h] at hr0; cases hr0), fun i hi => ?_⟩
  have hlt : i < ops.size := by obtain ⟨_, o, ho, _⟩ := mem_ready.1 hi; exact (Array.getElem?_eq_some_iff.1 ho).1
  have hin : i < n := by
   rcases Nat.lt_or_ge i n with h | h
   ·exact h
   ·rcases htail with hh | ⟨hs, hc⟩
    ·omega
    ·exact absurd hi (tail_waits hs hc (by omega) inv.head _ i0 rfl hi0 hu0 i h)
  obtain ⟨hun, o, ho, _⟩ := mem_ready.1 hi
  have hleft : left n (listed.setIfInBounds i true) = f := by have := zn6 hun n hin; omega
  have next : ∀ v w', Grows w w' → Vs i v w' → wpAnyIn F nn P .any ops Q (f + (ops.size - n)) (listed.setIfInBounds i true) (a.put o.dst v) w' := fun v w' hg hv => by
   have := inv.step hB hm hi hin hg hv
   have e : zbb ops i = o.dst := by simp [zbb, ho]
   rw [e] at this
   exact anyIn_of_inv hF hnd hm hst hB hback hn htail hseq hfin f _ _ _ hleft this
  have hlk : ∀ t ∈ zc7 o.op.operands.toList, env a0 (accU ops Vs i) t (a.eval (.tmp t)) w := fun t ht => inv.slot hB hi hin (by simp only [zpb, ho]; exact List.mem_append.2 (.inl ht))
  have hs := hst i hin o ho a.eval w (zk7 a) inv.grows (all_mk hlk)
  unfold wpOpIn
  simp only [ho]
  cases hgd : o.guard with
  | none =>
   rw [hgd] at hs
   simp only [Region.wanted, hgd, if_true]
   exact wpIn_of_good hF (hnd o ho) hs next
  | some kb =>
   obtain ⟨k, b⟩ := kb
   rw [hgd] at hs
   simp only at hs
   obtain ⟨d, hd, hs⟩ := hs
   have hg := hs (a.eval (.tmp d)) (inv.slot hB hi hin (by simp only [zpb, ho, hgd, hd]; exact List.mem_append.2 (.inr (by simp))))
   have hy : yielded ops a.tmps k = match a.tmps[d]? with | some (.bool c) => some c | _ => none := by
    unfold yielded
    have : (ops[k]?).bind (·.dst) = some d := hd
    rw [this]; rfl
   by_cases hb : a.eval (.tmp d) = .bool b
   ·have hw : Region.wanted o (yielded ops a.tmps) = true := by
     simp only [Region.wanted, hgd, hy]
     have : a.tmps[d]? = some (.bool b) := by
      simp only [Act.eval] at hb
      cases hh : a.tmps[d]? with
      | none => simp [hh, undef] at hb
      | some x => simp [hh] at hb; rw [hb]
     rw [this]; simp
    rw [if_pos hw]
    exact wpIn_of_good hF (hnd o ho) (hg.1 hb) next
   ·have hw : ¬ Region.wanted o (yielded ops a.tmps) = true := by
     simp only [Region.wanted, hgd, hy]
     intro h
     apply hb
     simp only [Act.eval]
     cases hh : a.tmps[d]? with
     | none => simp [hh] at h
     | some x => cases x <;> simp [hh] at h; simp [hh, h]
    rw [if_neg hw]
    exact ⟨fun f _ => hF.fn f, next _ _ (Grows.refl w) (hg.2 hb)⟩
end
theorem wpIn_region_fwd {F : Fence} {nn : Nat} {P : Program} {id : Nat} {Q : Exit → Act → World → Prop} {a : Act} {w : World} {l : List Oper} (hF : FenceOk F P) (n : Nat) (hm : P.follows .mixedOrders = true) (hnd : ∀ o ∈ l, ∀ c, o.op ≠ .defer c) (hB : chk l.toArray a.tmps.size n = true)
 (h : FwdGo P l.toArray w a (fun acc => ∀ w', Grows w w' → EndAt w' acc a fun a' => wpListIn F nn P l.toArray Q (l.drop n) a' w') (l.take n) []) : (Code.region id l.toArray true).wpIn F nn P Q a w := by
 simp only [chk, Bool.and_eq_true, decide_eq_true_eq, Bool.or_eq_true] at hB
 obtain ⟨⟨⟨⟨h1, h2⟩, h3⟩, h4⟩, h5⟩ := hB
 obtain ⟨Vs, _, hs, hf⟩ := fwd_choose (P := P) (ops := l.toArray) (w0 := w) (a0 := a) (l.take n) 0 (fun _ _ _ => True) (fun j hj => zrm hj) h
 have hlen : (l.take n).length = n := by simp at h3 ⊢; omega
 rw [hlen, Nat.zero_add] at hs hf
 refine wpIn_region_any hm ?_
 have key := anyIn_of_inv (F := F) (nn := nn) (P := P) hF (fun o ho => hnd o (by simpa using List.mem_of_getElem? (by simpa using ho))) (ops := l.toArray) (w0 := w) (a0 := a) (Vs := Vs) (n := n) (Q := Q) (fun j hj => (hs j (Nat.zero_le _) (by omega)).1) (fun i hi => (hs i (Nat.zero_le _) (by omega)).2) h1 h2 h3 h4 h5
  (fun a' w' e1 e2 hg hd hst => by
   have := end_of_inv (K := fun a' => wpListIn F nn P l.toArray Q (l.drop n) a' w') h1 e1 e2 hd hst (hf w' hg)
   simpa using this)
  (left n (Array.replicate l.toArray.size false)) (Array.replicate l.toArray.size false) a { w with drawn := w.drawn + 1 } rfl
  ⟨⟨by simp, fun j oj _ hl => (by rw [getD_replicate_false] at hl; cases hl), fun t _ ht => getD_in (by simpa using ht) (getD_replicate_false _ _)⟩, (Grows.refl w).drew, rfl, rfl,
   fun j t hj _ hl => by
    have : j < l.toArray.size := by omega
    simp at this; simp [this] at hl, fun _ _ => rfl⟩
 have hleft : ∀ m, m ≤ l.toArray.size → left m (Array.replicate l.toArray.size false) = m := by
  intro m
  induction m with
  | zero => intro _; rfl
  | succ m ih =>
   intro hm
   have : m < l.length := by simp at hm; omega
   simp only [left, ih (by omega)]
   simp [this]
 rw [hleft n h3, show n + (l.toArray.size - n) = l.toArray.size by omega] at key
 exact key
end Go.Fwd
