/-
  Ways to walk with the abstract machine.
-/
import Derived.Test.YtcdmdnadilafhaaDoorZdO
set_option linter.unusedSimpArgs false
set_option linter.unusedVariables false
namespace Go.Ab
open Go Go.RowKit Go.Fwd

section
variable {IT : IterP} {P : Program} {W : Owed} {k0 : Nat}
theorem athen_mono {K K' : List AV → St → Prop} {Q Q' : AQ} (hK : ∀ S σ, K S σ → K' S σ) (h : ∀ e S σ, Q e S σ → Q' e S σ) : ∀ e S σ, athen K Q e S σ → athen K' Q' e S σ
  | .normal, S, σ, hq => hK S σ hq
  | .exit _, S, σ, hq => h _ S σ hq
  | .ret, S, σ, hq => h _ S σ hq
theorem astep_mono {o : Oper} {S : List AV} {σ : St} {K K' : AV → St → Prop} (h : ∀ a σ, K a σ → K' a σ) (k : astep IT P W o S σ K) : astep IT P W o S σ K' := by
  unfold astep at k ⊢
  split
  · rename_i hc; rw [hc] at k; obtain ⟨r, σ', k1, k2⟩ := k; exact ⟨r, σ', k1, h _ _ k2⟩
  · rename_i hc
    rw [hc] at k
    simp only at k
    split
    · rename_i hy; rw [hy] at k; obtain ⟨rows, row, k1, k2, k3, k4, k5, k6, k7, k8⟩ := k; exact ⟨rows, row, k1, k2, k3, k4, k5, k6, h _ _ k7, h _ _ k8⟩
    · rename_i hy; rw [hy] at k
      rcases k with ⟨a, σ', k1, k2⟩ | ⟨n, neg, k1, k2, k3⟩
      · exact .inl ⟨a, σ', k1, h _ _ k2⟩
      · exact .inr ⟨n, neg, k1, fun e => h _ _ (k2 e), h _ _ k3⟩
theorem aops_mono {ops : Array Oper} {Q Q' : List AV → St → Prop} (h : ∀ S σ, Q S σ → Q' S σ) : ∀ (l : List Oper) (S : List AV) (σ : St), aops IT P W ops Q l S σ → aops IT P W ops Q' l S σ
  | [], S, σ, k => h S σ k
  | o :: l, S, σ, k => by
    simp only [aops] at k ⊢
    split
    · rename_i hg; rw [hg] at k; exact astep_mono (fun a σ' => aops_mono h l _ _) k
    · rename_i kb b hg
      rw [hg] at k
      obtain ⟨c, k1, k2⟩ := k
      refine ⟨c, k1, ?_⟩
      split
      · rename_i hc; rw [if_pos hc] at k2; exact astep_mono (fun a σ' => aops_mono h l _ _) k2
      · rename_i hc; rw [if_neg hc] at k2; exact aops_mono h l _ _ k2
theorem aany_mono {ops : Array Oper} {Q Q' : List AV → St → Prop} (h : ∀ S σ, Q S σ → Q' S σ) : ∀ (k : Nat) (listed : Array Bool) (S : List AV) (σ : St), aany IT P W ops Q k listed S σ → aany IT P W ops Q' k listed S σ
  | 0, _, S, σ, k => ⟨k.1, h S σ k.2⟩
  | n + 1, listed, S, σ, k => by
    refine ⟨fun he => h _ _ (k.1 he), fun i hi => ?_⟩
    have k := k.2 i hi
    unfold aopAt at k ⊢
    cases ho : ops[i]? with
    | none => rw [ho] at k; exact aany_mono h n _ _ _ k
    | some o =>
      rw [ho] at k
      simp only at k ⊢
      split
      · rename_i hg; rw [hg] at k; exact astep_mono (fun a σ' => aany_mono h n _ _ _) k
      · rename_i kb b hg
        rw [hg] at k
        obtain ⟨c, k1, k2⟩ := k
        refine ⟨c, k1, ?_⟩
        split
        · rename_i hc; rw [if_pos hc] at k2; exact astep_mono (fun a σ' => aany_mono h n _ _ _) k2
        · rename_i hc; rw [if_neg hc] at k2; exact aany_mono h n _ _ _ k2
theorem hstep_mono {o : Oper} {S : List AV} {σ : St} {K K' : AV → Prop} (h : ∀ a, K a → K' a) (k : hstep IT P o S σ K) : hstep IT P o S σ K' := by
  unfold hstep at k ⊢
  split
  · rename_i hc; rw [hc] at k; obtain ⟨r, k1, k2, k3⟩ := k; exact ⟨r, k1, k2, h _ k3⟩
  · rename_i hc; rw [hc] at k; obtain ⟨a, k1, k2⟩ := k; exact ⟨a, k1, h _ k2⟩
theorem ahead_mono {ops : Array Oper} {σ : St} {K K' : List AV → Prop} (h : ∀ S, K S → K' S) : ∀ (l : List Oper) (S : List AV), ahead IT P ops σ K l S → ahead IT P ops σ K' l S
  | [], S, k => h S k
  | o :: l, S, k => by
    simp only [ahead] at k ⊢
    refine ⟨k.1, ?_⟩
    have k := k.2
    split
    · rename_i hg; rw [hg] at k; exact hstep_mono (fun a => ahead_mono h l _) k
    · rename_i kb b hg
      rw [hg] at k
      obtain ⟨c, k1, k2⟩ := k
      refine ⟨c, k1, ?_⟩
      split
      · rename_i hc; rw [if_pos hc] at k2; exact hstep_mono (fun a => ahead_mono h l _) k2
      · rename_i hc; rw [if_neg hc] at k2; exact ahead_mono h l _ k2
theorem aheadB_mono {ops : Array Oper} {σ : St} {K K' : List AV → Pend → Prop} (h : ∀ S ps, K S ps → K' S ps) : ∀ (l : List Oper) (S : List AV) (ps : Pend), aheadB IT P ops σ K l S ps → aheadB IT P ops σ K' l S ps
  | [], S, ps, k => h S ps k
  | o :: l, S, ps, k => by
    simp only [aheadB] at k ⊢
    refine ⟨k.1, k.2.1, ?_⟩
    rcases k.2.2 with ⟨hg, t, d, z, k1, k2, k3, k4⟩ | k
    · exact .inl ⟨hg, t, d, z, k1, k2, k3, aheadB_mono h l _ _ k4⟩
    · right
      split
      · rename_i hg; rw [hg] at k; exact hstep_mono (fun a => aheadB_mono h l _ _) k
      · rename_i kb b hg
        rw [hg] at k
        obtain ⟨c, k1, k2⟩ := k
        refine ⟨c, k1, ?_⟩
        split
        · rename_i hc; rw [if_pos hc] at k2; exact hstep_mono (fun a => aheadB_mono h l _ _) k2
        · rename_i hc; rw [if_neg hc] at k2; exact aheadB_mono h l _ _ k2
theorem aheadD_mono {ops : Array Oper} {σ : St} {pl : List Pe} {K K' : List AV → Prop} (h : ∀ S, K S → K' S) : ∀ (l : List Oper) (n : Nat) (S : List AV), aheadD IT P ops σ pl K n l S → aheadD IT P ops σ pl K' n l S
  | [], n, S, k => h S k
  | o :: l, n, S, k => by
    simp only [aheadD] at k ⊢
    refine ⟨k.1, ?_⟩
    rcases k.2 with ⟨p, hp, k1, k2, k3, k4, k5, k6⟩ | ⟨p, hp, k1, k2, k3, k4, k5, k6, k7, k8, k9, k10⟩ | ⟨k1, k⟩
    · exact .inl ⟨p, hp, k1, k2, k3, k4, k5, aheadD_mono h l _ _ k6⟩
    · exact .inr (.inl ⟨p, hp, k1, k2, k3, k4, k5, k6, k7, k8, k9, aheadD_mono h l _ _ k10⟩)
    · refine .inr (.inr ⟨k1, ?_⟩)
      split
      · rename_i hg; rw [hg] at k; exact hstep_mono (fun a => aheadD_mono h l _ _) k
      · rename_i kb b hg
        rw [hg] at k
        obtain ⟨c, k1, k2⟩ := k
        refine ⟨c, k1, ?_⟩
        split
        · rename_i hc; rw [if_pos hc] at k2; exact hstep_mono (fun a => aheadD_mono h l _ _) k2
        · rename_i hc; rw [if_neg hc] at k2; exact aheadD_mono h l _ _ k2
def WMono (F : AQ → List AV → St → Prop) : Prop := ∀ {Q Q' : AQ}, (∀ e S σ, Q e S σ → Q' e S σ) → ∀ S σ, F Q S σ → F Q' S σ
theorem arounds_mono {F : AQ → List AV → St → Prop} {n0 : Nat} (hF : WMono F) {Q Q' : AQ} (h : ∀ e S σ, Q e S σ → Q' e S σ) : ∀ (m : Nat) (S : List AV) (σ : St), arounds F Q n0 m S σ → arounds F Q' n0 m S σ
  | 0, S, σ, k => k
  | m + 1, S, σ, ⟨S', σ', k1, k2⟩ => ⟨S', σ', k1, hF (athen_mono (arounds_mono hF h m) h) _ _ k2⟩
theorem arange_mono {Fa Fb : Nat → AQ → List AV → St → Prop} {ps : Array Tmp} {S : List AV} {n0 : Nat} (hFa : ∀ k, WMono (Fa k)) (hFb : ∀ k, WMono (Fb k)) {Q Q' : AQ} (h : ∀ e S σ, Q e S σ → Q' e S σ) : ∀ (xs : List (List AV)) (σ : St), arange Fa Fb ps S Q n0 xs σ → arange Fa Fb ps S Q' n0 xs σ
  | [], σ, k => h _ _ _ k
  | x :: xs, σ, k => by
    simp only [arange] at k ⊢
    refine hFa n0 ?_ _ _ k
    intro e S1 σ1 hq
    cases e with
    | normal =>
      refine hFb _ ?_ _ _ hq
      intro e2 S2 σ2 hq2
      cases e2 with
      | normal => exact ⟨hq2.1, arange_mono hFa hFb h xs _ hq2.2⟩
      | exit id => exact ⟨hq2.1, h _ _ _ hq2.2⟩
      | ret => exact ⟨hq2.1, h _ _ _ hq2.2⟩
    | exit id => exact hq
    | ret => exact hq
/-- What is asked of the end may be more. -/
theorem awp_mono {k0 : Nat} : ∀ (c : Code) {Q Q' : AQ}, (∀ e S σ, Q e S σ → Q' e S σ) → ∀ (S : List AV) (σ : St), awp IT P W k0 c Q S σ → awp IT P W k0 c Q' S σ
  | .skip, Q, Q', h, S, σ, k => h _ S σ k
  | .seq x y, Q, Q', h, S, σ, k => awp_mono x (athen_mono (fun S σ ⟨S', σ', k1, k2⟩ => ⟨S', σ', k1, awp_mono y h _ _ k2⟩) h) S σ k
  | .cond c x y, Q, Q', h, S, σ, ⟨t, k1, k2⟩ => ⟨t, k1, by
      split
      · rename_i ht; rw [if_pos ht] at k2; exact awp_mono x h _ _ k2
      · rename_i ht; rw [if_neg ht] at k2; exact awp_mono y h _ _ k2⟩
  | .block id x, Q, Q', h, S, σ, k => awp_mono x (fun e S σ hq => by
      cases e with
      | normal => exact h _ _ _ hq
      | ret => exact h _ _ _ hq
      | exit j =>
        simp only [ablock] at hq ⊢
        split
        · rename_i hj; rw [if_pos hj] at hq; exact h _ _ _ hq
        · rename_i hj; rw [if_neg hj] at hq; exact h _ _ _ hq) S σ k
  | .loop x, Q, Q', h, S, σ, ⟨m, k⟩ => ⟨m, arounds_mono (fun hq => awp_mono x hq) h m S σ k⟩
  | .exit id, Q, Q', h, S, σ, k => h _ S σ k
  | .ret, Q, Q', h, S, σ, k => h _ S σ k
  | .region _ ops false, Q, Q', h, S, σ, k => aops_mono (h .normal) _ _ _ k
  | .region _ ops true, Q, Q', h, S, σ, .inl ⟨n, k1, k2, k3⟩ => .inl ⟨n, k1, k2, ahead_mono (fun S' => aops_mono (h .normal) _ _ _) _ _ k3⟩
  | .region _ ops true, Q, Q', h, S, σ, .inr (.inl ⟨n, k1, k2, k3⟩) => .inr (.inl ⟨n, k1, k2, aheadB_mono (fun S' ps => aops_mono (h .normal) _ _ _) _ _ _ k3⟩)
  | .region _ ops true, Q, Q', h, S, σ, .inr (.inr (.inl k)) => .inr (.inr (.inl (aany_mono (h .normal) _ _ _ _ k)))
  | .region _ ops true, Q, Q', h, S, σ, .inr (.inr (.inr ⟨n, pl, k1, k2, k3, k4⟩)) => .inr (.inr (.inr ⟨n, pl, k1, k2, k3, aheadD_mono (fun S' => aops_mono (h .normal) _ _ _) _ _ _ k4⟩))
  | .rangeFunc f ps asg body, Q, Q', h, S, σ, ⟨xs, k1, k2, k3, k4⟩ => ⟨xs, k1, k2, k3, arange_mono (Fa := fun k => awp IT P W k asg) (Fb := fun k => awp IT P W k body) (fun k => fun hq => awp_mono asg hq) (fun k => fun hq => awp_mono body hq) h xs σ k4⟩
  | .scope x, Q, Q', h, S, σ, k => awp_mono x h S σ k
  | .label _, Q, Q', h, S, σ, k => h _ S σ k
  | .goto _, _, _, _, _, _, k => k.elim
  | .refuse _, _, _, _, _, _, k => k.elim

/-! ### steps -/
theorem w_seq {x y : Code} {Q : AQ} {S : List AV} {σ : St} (h : awp IT P W k0 x (athen (awp IT P W k0 y Q) Q) S σ) : awp IT P W k0 (.seq x y) Q S σ :=
  awp_mono x (athen_mono (fun S σ k => ⟨S, σ, Wk.refl _ _ _, k⟩) fun _ _ _ k => k) S σ h
/-- The first part comes to a known state, or out. -/
def to (n0 : Nat) (S' : List AV) (σ' : St) (Q : AQ) : AQ
  | .normal, S, σ => Wk n0 S σ S' σ'
  | e, S, σ => Q e S σ
theorem w_region {id : Nat} {ops : Array Oper} {Q : AQ} {S : List AV} {σ : St} (h : aops IT P W ops (Q .normal) ops.toList S σ) : awp IT P W k0 (.region id ops false) Q S σ := h
theorem w_true {c : Operand} {x y : Code} {Q : AQ} {S : List AV} {σ : St} (hc : aval S c = .raw (.bool true)) (h : awp IT P W k0 x Q S σ) : awp IT P W k0 (.cond c x y) Q S σ := ⟨true, hc, h⟩
theorem w_false {c : Operand} {x y : Code} {Q : AQ} {S : List AV} {σ : St} (hc : aval S c = .raw (.bool false)) (h : awp IT P W k0 y Q S σ) : awp IT P W k0 (.cond c x y) Q S σ := ⟨false, hc, h⟩
theorem w_cond {c : Operand} {x y : Code} {Q : AQ} {S : List AV} {σ : St} {t : Bool} (hc : aval S c = .raw (.bool t)) (h1 : t = true → awp IT P W k0 x Q S σ) (h2 : t = false → awp IT P W k0 y Q S σ) : awp IT P W k0 (.cond c x y) Q S σ :=
  ⟨t, hc, by cases t with | true => exact h1 rfl | false => exact h2 rfl⟩
theorem w_label {id : Nat} {Q : AQ} {S : List AV} {σ : St} (h : Q .normal S σ) : awp IT P W k0 (.label id) Q S σ := h
theorem w_scope {x : Code} {Q : AQ} {S : List AV} {σ : St} (h : awp IT P W k0 x Q S σ) : awp IT P W k0 (.scope x) Q S σ := h
theorem w_block {id : Nat} {x : Code} {Q : AQ} {S : List AV} {σ : St} (h : awp IT P W k0 x (ablock id Q) S σ) : awp IT P W k0 (.block id x) Q S σ := h
theorem w_op {ops : Array Oper} {Q : List AV → St → Prop} {o : Oper} {l : List Oper} {S S' : List AV} {σ σ' : St} {a : AV} (hg : o.guard = none) (hc : acall S o = none) (hy : ayield S o = none) (h : aop P (aval S) σ o = some (a, σ')) (hS : aput S o.dst a = S')
    (k : aops IT P W ops Q l S' σ') : aops IT P W ops Q (o :: l) S σ := by
  simp only [aops, hg, astep, hc, hy]
  exact .inl ⟨a, σ', .inl h, by rw [hS]; exact k⟩
theorem w_run {ops : Array Oper} {Q : List AV → St → Prop} {o : Oper} {l : List Oper} {S S' : List AV} {σ : St} (a : AV) (hg : o.guard = none) (hc : acall S o = none) (hy : ayield S o = none) (h : RawRun P (aval S) o a) (hS : aput S o.dst a = S')
    (k : aops IT P W ops Q l S' σ) : aops IT P W ops Q (o :: l) S σ := by
  simp only [aops, hg, astep, hc, hy]
  exact .inl ⟨a, σ, .inr (.inl ⟨rfl, h⟩), by rw [hS]; exact k⟩
theorem w_call {ops : Array Oper} {Q : List AV → St → Prop} {o : Oper} {l : List Oper} {S S' : List AV} {σ : St} {f : FuncId} {args : List AV} {r : AV} (hp : Pure IT P f (stripL args) r) (hg : o.guard = none) (hc : acall S o = some (f, args)) (hok : okTrimL 0 args = true) (hS : aput S o.dst r = S')
    (k : aops IT P W ops Q l S' σ) : aops IT P W ops Q (o :: l) S σ := by
  simp only [aops, hg, astep, hc]
  exact ⟨r, σ, .inr (.inl ⟨rfl, hok, hp⟩), by rw [hS]; exact k⟩
/-- A call to which boxes are handed that it only reads. -/
theorem w_callf {ops : Array Oper} {Q : List AV → St → Prop} {o : Oper} {l : List Oper} {S S' : List AV} {σ : St} {f : FuncId} {args args' : List AV} {r : AV} (n : Nat) (hp : Pure IT P f args' r) (hg : o.guard = none) (hc : acall S o = some (f, args)) (ha : mapPtrL (frz σ.boxes n) args = args') (hraw : rawish r = true) (hS : aput S o.dst r = S')
    (k : aops IT P W ops Q l S' σ) : aops IT P W ops Q (o :: l) S σ := by
  simp only [aops, hg, astep, hc]
  exact ⟨r, σ, .inr (.inr ⟨rfl, hraw, n, by rw [ha]; exact hp⟩), by rw [hS]; exact k⟩
theorem w_yield {ops : Array Oper} {Q : List AV → St → Prop} {o : Oper} {l : List Oper} {S : List AV} {σ : St} {n : Nat} {args row : List AV} {rows : List (List AV)} (hg : o.guard = none) (hc : acall S o = none) (hy : ayield S o = some (n, args)) (hW : W = some (n, rows)) (hr : rows[σ.out]? = some row) (hs : stripL args = row) (hok : okTrimL 0 args = true) (hni : noIterL args = true) (hst : σ.stop = false)
    (k1 : aops IT P W ops Q l (aput S o.dst (.raw (.bool true))) { σ with out := σ.out + 1 }) (k2 : aops IT P W ops Q l (aput S o.dst (.raw (.bool false))) { σ with stop := true }) : aops IT P W ops Q (o :: l) S σ := by
  simp only [aops, hg, astep, hc, hy]
  exact ⟨rows, row, hW, hr, hs, hok, hni, hst, k1, k2⟩
theorem w_start {c : Code} {Q : AQ} {S S' : List AV} {σ σ' : St} (hS : S = S') (hσ : σ = σ') (h : awp IT P W k0 c Q S' σ') : awp IT P W k0 c Q S σ := by subst hS hσ; exact h
/-- An operation that changes the boxes. -/
theorem w_opm {ops : Array Oper} {Q : List AV → St → Prop} {o : Oper} {l : List Oper} {S S' : List AV} {σ σ' σ'' : St} {a : AV} (hg : o.guard = none) (hc : acall S o = none) (hy : ayield S o = none) (h : aop P (aval S) σ o = some (a, σ')) (hS : aput S o.dst a = S') (hσ : σ' = σ'')
    (k : aops IT P W ops Q l S' σ'') : aops IT P W ops Q (o :: l) S σ := by
  subst hσ
  exact w_op hg hc hy h hS k
/-- An operation that makes a box of a slice: make, a literal, append. -/
theorem w_opB {ops : Array Oper} {Q : List AV → St → Prop} {o : Oper} {l : List Oper} {S S' : List AV} {σ σ' σ'' : St} {a : AV} (hg : o.guard = none) (hc : acall S o = none) (hy : ayield S o = none) (h : aopB P (aval S) σ o = some (a, σ')) (hS : aput S o.dst a = S') (hσ : σ' = σ'')
    (k : aops IT P W ops Q l S' σ'') : aops IT P W ops Q (o :: l) S σ := by
  subst hσ
  simp only [aops, hg, astep, hc, hy]
  exact .inl ⟨a, σ', .inr (.inr (.inl h)), by rw [hS]; exact k⟩
/-- An operation, its value said without rooms. -/
theorem w_opS {ops : Array Oper} {Q : List AV → St → Prop} {o : Oper} {l : List Oper} {S S' : List AV} {σ σ' : St} {a a0 : AV} (hg : o.guard = none) (hc : acall S o = none) (hy : ayield S o = none) (h : aop P (aval S) σ o = some (a0, σ')) (ha : strip a0 = a) (hS : aput S o.dst a = S')
    (k : aops IT P W ops Q l S' σ') : aops IT P W ops Q (o :: l) S σ := by
  simp only [aops, hg, astep, hc, hy]
  exact .inl ⟨a, σ', .inr (.inr (.inr (.inl ⟨a0, h, ha.symm⟩))), by rw [hS]; exact k⟩
/-- A slice is compared with nil. -/
theorem w_nil {ops : Array Oper} {Q : List AV → St → Prop} {o : Oper} {l : List Oper} {S S1 S2 : List AV} {σ : St} (n : Nat) (neg : Bool) (hg : o.guard = none) (hc : acall S o = none) (hy : ayield S o = none) (h : NilTest P (aval S) o n neg)
    (h1 : aput S o.dst (.raw (.bool (!neg))) = S1) (h2 : aput S o.dst (.raw (.bool neg)) = S2) (k1 : n = 0 → aops IT P W ops Q l S1 σ) (k2 : aops IT P W ops Q l S2 σ) : aops IT P W ops Q (o :: l) S σ := by
  simp only [aops, hg, astep, hc, hy]
  exact .inr ⟨n, neg, h, fun e => by rw [h1]; exact k1 e, by rw [h2]; exact k2⟩
/-- A call with a contract of its own: boxes are handed to it, or come of it. -/
theorem w_snd {ops : Array Oper} {Q : List AV → St → Prop} {o : Oper} {l : List Oper} {S S' : List AV} {σ σ' : St} {f : FuncId} {args : List AV} {r : AV} (hp : Snd IT P f args σ r σ') (hg : o.guard = none) (hc : acall S o = some (f, args)) (ho : σ'.out = σ.out ∧ σ'.stop = σ.stop) (hS : aput S o.dst r = S')
    (k : aops IT P W ops Q l S' σ') : aops IT P W ops Q (o :: l) S σ := by
  simp only [aops, hg, astep, hc]
  exact ⟨r, σ', .inl ⟨hp, ho⟩, by rw [hS]; exact k⟩
/-- An operation that comes to a boolean: both ways. -/
theorem w_opb {ops : Array Oper} {Q : List AV → St → Prop} {o : Oper} {l : List Oper} {S S1 S2 : List AV} {σ : St} {t : Bool} (hg : o.guard = none) (hc : acall S o = none) (hy : ayield S o = none) (h : aop P (aval S) σ o = some (.raw (.bool t), σ)) (h1 : aput S o.dst (.raw (.bool true)) = S1) (h2 : aput S o.dst (.raw (.bool false)) = S2)
    (k1 : t = true → aops IT P W ops Q l S1 σ) (k2 : t = false → aops IT P W ops Q l S2 σ) : aops IT P W ops Q (o :: l) S σ := by
  simp only [aops, hg, astep, hc, hy]
  refine .inl ⟨_, σ, .inl h, ?_⟩
  cases t with
  | true => rw [h1]; exact k1 rfl
  | false => rw [h2]; exact k2 rfl
theorem w_runb {ops : Array Oper} {Q : List AV → St → Prop} {o : Oper} {l : List Oper} {S S1 S2 : List AV} {σ : St} {t : Bool} (h : RawRun P (aval S) o (.raw (.bool t))) (hg : o.guard = none) (hc : acall S o = none) (hy : ayield S o = none) (h1 : aput S o.dst (.raw (.bool true)) = S1) (h2 : aput S o.dst (.raw (.bool false)) = S2)
    (k1 : t = true → aops IT P W ops Q l S1 σ) (k2 : t = false → aops IT P W ops Q l S2 σ) : aops IT P W ops Q (o :: l) S σ := by
  simp only [aops, hg, astep, hc, hy]
  refine .inl ⟨_, σ, .inr (.inl ⟨rfl, h⟩), ?_⟩
  cases t with
  | true => rw [h1]; exact k1 rfl
  | false => rw [h2]; exact k2 rfl
/-- A quiet operation, its value being said. -/
theorem w_q {ops : Array Oper} {Q : List AV → St → Prop} {o : Oper} {l : List Oper} {S S' : List AV} {σ : St} (a : AV) (hg : o.guard = none) (hc : acall S o = none) (hy : ayield S o = none) (h : qop P (aval S) σ o = some a) (hS : aput S o.dst a = S')
    (k : aops IT P W ops Q l S' σ) : aops IT P W ops Q (o :: l) S σ := w_op hg hc hy (by simp only [aop, h]) hS k
/-- A call that comes to a boolean: both ways. -/
theorem w_callb {ops : Array Oper} {Q : List AV → St → Prop} {o : Oper} {l : List Oper} {S S1 S2 : List AV} {σ : St} {f : FuncId} {args : List AV} {t : Bool} (hp : Pure IT P f (stripL args) (.raw (.bool t))) (hg : o.guard = none) (hc : acall S o = some (f, args)) (hok : okTrimL 0 args = true) (h1 : aput S o.dst (.raw (.bool true)) = S1) (h2 : aput S o.dst (.raw (.bool false)) = S2)
    (k1 : t = true → aops IT P W ops Q l S1 σ) (k2 : t = false → aops IT P W ops Q l S2 σ) : aops IT P W ops Q (o :: l) S σ := by
  cases t with
  | true => exact w_call hp hg hc hok h1 (k1 rfl)
  | false => exact w_call hp hg hc hok h2 (k2 rfl)
/-- A guard that is not met. -/
theorem w_pass {ops : Array Oper} {Q : List AV → St → Prop} {o : Oper} {l : List Oper} {S S' : List AV} {σ : St} {kb : Nat} {b : Bool} {c : Option Bool} (hg : o.guard = some (kb, b)) (hk : aguard ops S kb = some c) (hcb : c ≠ some b) (hS : aput S o.dst (.raw undef) = S') (k : aops IT P W ops Q l S' σ) : aops IT P W ops Q (o :: l) S σ := by
  simp only [aops, hg]
  exact ⟨c, hk, by rw [if_neg hcb, hS]; exact k⟩
/-- A guard that is met: the operation as if it had none. -/
theorem w_met {ops : Array Oper} {Q : List AV → St → Prop} {o : Oper} {l : List Oper} {S : List AV} {σ : St} {kb : Nat} {b : Bool} (hg : o.guard = some (kb, b)) (hk : aguard ops S kb = some (some b)) (k : aops IT P W ops Q ({ o with guard := none } :: l) S σ) : aops IT P W ops Q (o :: l) S σ := by
  simp only [aops, hg]
  refine ⟨some b, hk, ?_⟩
  rw [if_pos rfl]
  have e : astep IT P W { o with guard := none } S σ = astep IT P W o S σ := rfl
  simp only [aops] at k
  rw [e] at k
  exact k

/-! ### loops -/
/-- The end of a round. -/
def atRound (Q : AQ) (S0 : List AV) (n : Nat) (σ' : St) : AQ
  | .normal, _, σ => okSt n σ = true ∧ trimSt n σ = σ'
  | e, _, σ => okSt n σ = true ∧ Q e S0 (trimSt n σ)
/-- The end of a round, what holds then. -/
def atRoundI (Q : AQ) (S0 : List AV) (n : Nat) (I : St → Prop) : AQ
  | .normal, _, σ => okSt n σ = true ∧ I (trimSt n σ)
  | e, _, σ => okSt n σ = true ∧ Q e S0 (trimSt n σ)
/-- The first part comes to a state of some kind, or out. -/
def toI (n0 : Nat) (I : List AV → St → Prop) (Q : AQ) : AQ
  | .normal, S, σ => ∃ S' σ', Wk n0 S σ S' σ' ∧ I S' σ'
  | e, S, σ => Q e S σ
end
/-- Slots: all forgotten but some. -/
def slots (n : Nat) (l : List (Nat × AV)) : List AV := l.foldl (fun S p => S.set p.1 p.2) (List.replicate n .top)
def fgS (ks : List Nat) (S : List AV) : List AV := S.mapIdx fun i a => if ks.contains i = true then a else .top
theorem fg_mk : ∀ {S S' : List AV}, S.length = S'.length → (∀ (i : Nat) a b, S[i]? = some a → S'[i]? = some b → b = a ∨ b = .top) → Fg S S'
  | [], [], _, _ => trivial
  | a :: l, b :: m, hl, h => ⟨h 0 a b rfl rfl, fg_mk (by simpa using hl) fun i x y hx hy => h (i + 1) x y (by simpa using hx) (by simpa using hy)⟩
  | [], _ :: _, hl, _ => by simp at hl
  | _ :: _, [], hl, _ => by simp at hl
theorem fg_fgS (ks : List Nat) (S : List AV) : Fg S (fgS ks S) := fg_mk (by simp [fgS]) fun i a b h1 h2 => by
  simp only [fgS, List.getElem?_mapIdx, h1, Option.map_some, Option.some.injEq] at h2
  subst h2
  split
  · exact .inl rfl
  · exact .inr rfl
theorem wk_of {n0 : Nat} {S S' : List AV} {σ σ' : St} (ks : List Nat) (h : fgS ks S = S') (hσ : σ' = σ) : Wk n0 S σ S' σ' := .one <| .inl ⟨h ▸ fg_fgS ks S, .inl hσ⟩
theorem wk_trim {n0 : Nat} {S S' : List AV} {σ σ' : St} (ks : List Nat) (n : Nat) (h : fgS ks S = S') (hn : n0 ≤ n) (h1 : okSt n σ = true) (h2 : okTrimL n S' = true) (h3 : trimSt n σ = σ') : Wk n0 S σ S' σ' := .one <| .inl ⟨h ▸ fg_fgS ks S, .inr ⟨n, hn, h1, h2, h3⟩⟩
/-- The view is changed: of the boxes from n on those of js are kept, those of fs and the others are frozen. -/
theorem wk_keep {n0 : Nat} {S S' : List AV} {σ σ' : St} (ks : List Nat) (n : Nat) (fs js : List Nat) (d : Nat) (hn : n0 ≤ n) (hok : okKeep σ n js = true) (h : fgS ks (mapKL σ.lens.length (kz σ.boxes σ.lens.length n fs js d) S) = S') (hσ : keepSt σ σ.lens.length n fs js d = σ') : Wk n0 S σ S' σ' :=
  .one <| .inr (.inl ⟨n, fs, js, d, hn, hok, h ▸ fg_fgS ks _, hσ⟩)
/-- A number for a box of which nothing is said. -/
theorem wk_dummy {n0 : Nat} {S S' : List AV} {σ σ' : St} (ks : List Nat) (s : Nat) {t : TypeId} {cs : List AV} (hb : σ.boxes[s]? = some (t, cs)) (h : fgS ks S = S') (hσ : σ' = { σ with boxes := σ.boxes ++ [(t, [])] }) : Wk n0 S σ S' σ' :=
  .one <| .inr (.inr ⟨s, t, cs, hb, h ▸ fg_fgS ks _, hσ⟩)

/-! ### operations on symbols -/
theorem op_indexAddr {P : Program} {ρ : Operand → AV} {σ : St} {o : Oper} {t e : TypeId} {x i : Operand} {sz len : Nat} {cs : List AV} {st : Room} {k : IntKind} {n : Int} (ho : o.op = .indexAddr t x i) (hx : ρ x = .list len cs st) (hi : ρ i = .raw (.int k n)) (hu : P.underlying t = some (.slice e)) (hs : sizeT P e = some sz) (hb : 0 ≤ n ∧ n < len ∧ cs ≠ []) :
    aop P ρ σ o = some (.iptr (cs.drop (n.toNat * sz)), σ) := by
  simp only [aop, qop, ho, hx, hi, aIndexAddr, hu, hs, if_pos hb]
theorem op_load {P : Program} {ρ : Operand → AV} {σ : St} {o : Oper} {t : TypeId} {x : Operand} {a : AV} (p : AV) (ho : o.op = .load t x) (hx : ρ x = p) (ha : aLoad P σ t p = some a) : aop P ρ σ o = some (a, σ) := by
  simp only [aop, qop, ho, hx, ha]
theorem rd_agg {P : Program} {t : TypeId} {fs : Array Field} {i : TypeInfo} {cs : List AV} (hu : P.underlying t = some (.struct fs)) (hi : P.info? t = some i) (h : i.size ≤ cs.length) : rd P t cs = some (.agg (cs.take i.size)) := by
  simp only [rd, hu, hi, if_pos h]
theorem okTrim_slots {n m : Nat} {l : List (Nat × AV)} (h : ∀ p ∈ l, okTrim n p.2 = true) : okTrimL n (slots m l) = true := by
  have key : ∀ (l : List (Nat × AV)) (S : List AV), (∀ p ∈ l, okTrim n p.2 = true) → okTrimL n S = true → okTrimL n (l.foldl (fun S p => S.set p.1 p.2) S) = true := by
    intro l
    induction l with
    | nil => intro S _ h; exact h
    | cons p l ih =>
      intro S h hS
      refine ih _ (fun q hq => h q (by simp [hq])) ?_
      rw [okTrimL_all] at hS ⊢
      refine List.all_eq_true.2 fun x hx => ?_
      rcases List.mem_or_eq_of_mem_set hx with hx | rfl
      · exact List.all_eq_true.1 hS x hx
      · exact h p (by simp)
  refine key l _ h ?_
  rw [okTrimL_all]
  refine List.all_eq_true.2 fun x hx => ?_
  rw [List.eq_of_mem_replicate hx]; rfl
theorem wrap_i64 {x : Int} (h1 : -9223372036854775808 ≤ x) (h2 : x < 9223372036854775808) : IntKind.i64.wrap x = x := by
  simp only [IntKind.wrap, IntKind.bits, IntKind.signed]
  simp
  omega
/-- Addition that does not overflow. -/
theorem op_add {P : Program} {ρ : Operand → AV} {σ : St} {o : Oper} {x y : Operand} {t : TypeId} {c} {m n r : Int} (ho : o.op = .binOp .add t x y c) (hx : ρ x = .raw (.int .i64 m)) (hy : ρ y = .raw (.int .i64 n)) (hr : m + n = r) (h1 : -9223372036854775808 ≤ r) (h2 : r < 9223372036854775808) : aop P ρ σ o = some (.raw (.int .i64 r), σ) := by
  subst hr
  have h := wrap_i64 h1 h2
  simp [aop, qop, rawOp, ho, Op.operands, hx, hy, toVal, execOp, rawEnv, eqGuard, binOp, Op.intArith, h]
  rfl
end Go.Ab
