/-
  Ways to walk with the abstract machine.
-/
import Derived.Test.YtmoncghgagmilaaZdO
set_option linter.unusedSimpArgs false
set_option linter.unusedVariables false
namespace Go.Ab
open Go Go.RowKit Go.Fwd
section
variable {IT : IterP} {P : Program} {W : Owed} {k0 : Nat}
theorem zmm {K K' : List AV → St → Prop} {Q Q' : AQ} (hK : ∀ S σ, K S σ → K' S σ) (h : ∀ e S σ, Q e S σ → Q' e S σ) : ∀ e S σ, zng K Q e S σ → zng K' Q' e S σ
 | .normal, S, σ, hq => hK S σ hq
 | .exit _, S, σ, hq => h _ S σ hq
 | .ret, S, σ, hq => h _ S σ hq
theorem zja {o : Oper} {S : List AV} {σ : St} {K K' : AV → St → Prop} (h : ∀ a σ, K a σ → K' a σ) (k : zfa IT P W o S σ K) : zfa IT P W o S σ K' := by
 unfold zfa at k ⊢
 split
 ·rename_i hc; rw [hc] at k; obtain ⟨r, σ', k1, k2⟩ := k; exact ⟨r, σ', k1, h _ _ k2⟩
 ·rename_i hc
  rw [hc] at k
  simp only at k
  split
  ·rename_i hy; rw [hy] at k; obtain ⟨rows, row, k1, k2, k3, k4, k5, k6, k7, k8⟩ := k; exact ⟨rows, row, k1, k2, k3, k4, k5, k6, h _ _ k7, h _ _ k8⟩
  ·rename_i hy; rw [hy] at k
   rcases k with ⟨a, σ', k1, k2⟩ | ⟨n, neg, k1, k2, k3⟩
   ·exact .inl ⟨a, σ', k1, h _ _ k2⟩
   ·exact .inr ⟨n, neg, k1, fun e => h _ _ (k2 e), h _ _ k3⟩
theorem zgk {ops : Array Oper} {Q Q' : List AV → St → Prop} (h : ∀ S σ, Q S σ → Q' S σ) : ∀ (l : List Oper) (S : List AV) (σ : St), zb6 IT P W ops Q l S σ → zb6 IT P W ops Q' l S σ
 | [], S, σ, k => h S σ k
 | o :: l, S, σ, k => by
  simp only [zb6] at k ⊢
  split
  ·rename_i hg; rw [hg] at k; exact zja (fun a σ' => zgk h l _ _) k
  ·rename_i kb b hg
   rw [hg] at k
   obtain ⟨c, k1, k2⟩ := k
   refine ⟨c, k1, ?_⟩
   split
   ·rename_i hc; rw [if_pos hc] at k2; exact zja (fun a σ' => zgk h l _ _) k2
   ·rename_i hc; rw [if_neg hc] at k2; exact zgk h l _ _ k2
theorem zhq {ops : Array Oper} {Q Q' : List AV → St → Prop} (h : ∀ S σ, Q S σ → Q' S σ) : ∀ (k : Nat) (listed : Array Bool) (S : List AV) (σ : St), zpe IT P W ops Q k listed S σ → zpe IT P W ops Q' k listed S σ
 | 0, _, S, σ, k => ⟨k.1, h S σ k.2⟩
 | n + 1, listed, S, σ, k => by
  refine ⟨fun he => h _ _ (k.1 he), fun i hi => ?_⟩
  have k := k.2 i hi
  unfold zr8 at k ⊢
  cases ho : ops[i]? with
  | none => rw [ho] at k; exact zhq h n _ _ _ k
  | some o =>
   rw [ho] at k
   simp only at k ⊢
   split
   ·rename_i hg; rw [hg] at k; exact zja (fun a σ' => zhq h n _ _ _) k
   ·rename_i kb b hg
    rw [hg] at k
    obtain ⟨c, k1, k2⟩ := k
    refine ⟨c, k1, ?_⟩
    split
    ·rename_i hc; rw [if_pos hc] at k2; exact zja (fun a σ' => zhq h n _ _ _) k2
    ·rename_i hc; rw [if_neg hc] at k2; exact zhq h n _ _ _ k2
theorem zhd {o : Oper} {S : List AV} {σ : St} {K K' : AV → Prop} (h : ∀ a, K a → K' a) (k : zgu IT P o S σ K) : zgu IT P o S σ K' := by
 unfold zgu at k ⊢
 split
 ·rename_i hc; rw [hc] at k; obtain ⟨r, k1, k2, k3⟩ := k; exact ⟨r, k1, k2, h _ k3⟩
 ·rename_i hc; rw [hc] at k; obtain ⟨a, k1, k2⟩ := k; exact ⟨a, k1, h _ k2⟩
theorem zoa {o : Oper} {S : List AV} {σ : St} {K K' : AV → Prop} (h : ∀ a, K a → K' a) (k : zpu IT P o S σ K) : zpu IT P o S σ K' :=
 k.imp (zhd h) fun ⟨f, args, r, n, k1, k2, k3, k4⟩ => ⟨f, args, r, n, k1, k2, k3, h _ k4⟩
theorem zi6 {ops : Array Oper} {σ : St} {K K' : List AV → Prop} (h : ∀ S, K S → K' S) : ∀ (l : List Oper) (S : List AV), ahead IT P ops σ K l S → ahead IT P ops σ K' l S
 | [], S, k => h S k
 | o :: l, S, k => by
  simp only [ahead] at k ⊢
  refine ⟨k.1, ?_⟩
  have k := k.2
  split
  ·rename_i hg; rw [hg] at k; exact zoa (fun a => zi6 h l _) k
  ·rename_i kb b hg
   rw [hg] at k
   obtain ⟨c, k1, k2⟩ := k
   refine ⟨c, k1, ?_⟩
   split
   ·rename_i hc; rw [if_pos hc] at k2; exact zoa (fun a => zi6 h l _) k2
   ·rename_i hc; rw [if_neg hc] at k2; exact zi6 h l _ k2
theorem zgh {ops : Array Oper} {σ : St} {K K' : List AV → Pend → Prop} (h : ∀ S ps, K S ps → K' S ps) : ∀ (l : List Oper) (S : List AV) (ps : Pend), zid IT P ops σ K l S ps → zid IT P ops σ K' l S ps
 | [], S, ps, k => h S ps k
 | o :: l, S, ps, k => by
  simp only [zid] at k ⊢
  refine ⟨k.1, k.2.1, ?_⟩
  rcases k.2.2 with ⟨hg, t, d, z, k1, k2, k3, k4⟩ | k
  ·exact .inl ⟨hg, t, d, z, k1, k2, k3, zgh h l _ _ k4⟩
  ·right
   split
   ·rename_i hg; rw [hg] at k; exact zhd (fun a => zgh h l _ _) k
   ·rename_i kb b hg
    rw [hg] at k
    obtain ⟨c, k1, k2⟩ := k
    refine ⟨c, k1, ?_⟩
    split
    ·rename_i hc; rw [if_pos hc] at k2; exact zhd (fun a => zgh h l _ _) k2
    ·rename_i hc; rw [if_neg hc] at k2; exact zgh h l _ _ k2
theorem zff {ops : Array Oper} {σ : St} {pl : List Pe} {K K' : List AV → Prop} (h : ∀ S, K S → K' S) : ∀ (l : List Oper) (n : Nat) (S : List AV), zeh IT P ops σ pl K n l S → zeh IT P ops σ pl K' n l S
 | [], n, S, k => h S k
 | o :: l, n, S, k => by
  simp only [zeh] at k ⊢
  refine ⟨k.1, ?_⟩
  rcases k.2 with ⟨p, hp, k1, k2, k3, k4, k5, k6⟩ | ⟨p, hp, k1, k2, k3, k4, k5, k6, k7, k8, k9, k10⟩ | ⟨k1, k⟩
  ·exact .inl ⟨p, hp, k1, k2, k3, k4, k5, zff h l _ _ k6⟩
  ·exact .inr (.inl ⟨p, hp, k1, k2, k3, k4, k5, k6, k7, k8, k9, zff h l _ _ k10⟩)
  ·refine .inr (.inr ⟨k1, ?_⟩)
   split
   ·rename_i hg; rw [hg] at k; exact zhd (fun a => zff h l _ _) k
   ·rename_i kb b hg
    rw [hg] at k
    obtain ⟨c, k1, k2⟩ := k
    refine ⟨c, k1, ?_⟩
    split
    ·rename_i hc; rw [if_pos hc] at k2; exact zhd (fun a => zff h l _ _) k2
    ·rename_i hc; rw [if_neg hc] at k2; exact zff h l _ _ k2
def WMono (F : AQ → List AV → St → Prop) : Prop := ∀ {Q Q' : AQ}, (∀ e S σ, Q e S σ → Q' e S σ) → ∀ S σ, F Q S σ → F Q' S σ
theorem zmp {F : AQ → List AV → St → Prop} {n0 : Nat} (hF : WMono F) {Q Q' : AQ} (h : ∀ e S σ, Q e S σ → Q' e S σ) : ∀ (m : Nat) (S : List AV) (σ : St), zia F Q n0 m S σ → zia F Q' n0 m S σ
 | 0, S, σ, k => k
 | m + 1, S, σ, ⟨S', σ', k1, k2⟩ => ⟨S', σ', k1, hF (zmm (zmp hF h m) h) _ _ k2⟩
theorem zju {Fa Fb : Nat → AQ → List AV → St → Prop} {ps : Array Tmp} {S : List AV} {n0 : Nat} (hFa : ∀ k, WMono (Fa k)) (hFb : ∀ k, WMono (Fb k)) {Q Q' : AQ} (h : ∀ e S σ, Q e S σ → Q' e S σ) : ∀ (xs : List (List AV)) (σ : St), ze9 Fa Fb ps S Q n0 xs σ → ze9 Fa Fb ps S Q' n0 xs σ
 | [], σ, k => h _ _ _ k
 | x :: xs, σ, k => by
  simp only [ze9] at k ⊢
  refine hFa n0 ?_ _ _ k
  intro e S1 σ1 hq
  cases e with
  | normal =>
   refine hFb _ ?_ _ _ hq
   intro e2 S2 σ2 hq2
   cases e2 with
   | normal => exact ⟨hq2.1, zju hFa hFb h xs _ hq2.2⟩
   | exit id => exact ⟨hq2.1, h _ _ _ hq2.2⟩
   | ret => exact ⟨hq2.1, h _ _ _ hq2.2⟩
  | exit id => exact hq
  | ret => exact hq
theorem zdc {k0 : Nat} : ∀ (c : Code) {Q Q' : AQ}, (∀ e S σ, Q e S σ → Q' e S σ) → ∀ (S : List AV) (σ : St), awp IT P W k0 c Q S σ → awp IT P W k0 c Q' S σ
 | .skip, Q, Q', h, S, σ, k => h _ S σ k
 | .seq x y, Q, Q', h, S, σ, k => zdc x (zmm (fun S σ ⟨S', σ', k1, k2⟩ => ⟨S', σ', k1, zdc y h _ _ k2⟩) h) S σ k
 | .cond c x y, Q, Q', h, S, σ, ⟨t, k1, k2⟩ => ⟨t, k1, by
  split
  ·rename_i ht; rw [if_pos ht] at k2; exact zdc x h _ _ k2
  ·rename_i ht; rw [if_neg ht] at k2; exact zdc y h _ _ k2⟩
 | .block id x, Q, Q', h, S, σ, k => zdc x (fun e S σ hq => by
  cases e with
  | normal => exact h _ _ _ hq
  | ret => exact h _ _ _ hq
  | exit j =>
   simp only [zk6] at hq ⊢
   split
   ·rename_i hj; rw [if_pos hj] at hq; exact h _ _ _ hq
   ·rename_i hj; rw [if_neg hj] at hq; exact h _ _ _ hq) S σ k
 | .loop x, Q, Q', h, S, σ, ⟨m, k⟩ => ⟨m, zmp (fun hq => zdc x hq) h m S σ k⟩
 | .exit id, Q, Q', h, S, σ, k => h _ S σ k
 | .ret, Q, Q', h, S, σ, k => h _ S σ k
 | .region _ ops false, Q, Q', h, S, σ, k => zgk (h .normal) _ _ _ k
 | .region _ ops true, Q, Q', h, S, σ, .inl ⟨n, k1, k2, k3⟩ => .inl ⟨n, k1, k2, zi6 (fun S' => zgk (h .normal) _ _ _) _ _ k3⟩
 | .region _ ops true, Q, Q', h, S, σ, .inr (.inl ⟨n, k1, k2, k3⟩) => .inr (.inl ⟨n, k1, k2, zgh (fun S' ps => zgk (h .normal) _ _ _) _ _ _ k3⟩)
 | .region _ ops true, Q, Q', h, S, σ, .inr (.inr (.inl k)) => .inr (.inr (.inl (zhq (h .normal) _ _ _ _ k)))
 | .region _ ops true, Q, Q', h, S, σ, .inr (.inr (.inr ⟨n, pl, k1, k2, k3, k4⟩)) => .inr (.inr (.inr ⟨n, pl, k1, k2, k3, zff (fun S' => zgk (h .normal) _ _ _) _ _ _ k4⟩))
 | .rangeFunc f ps asg body, Q, Q', h, S, σ, .inl ⟨xs, k1, k0, k2, k3, k4⟩ => .inl ⟨xs, k1, k0, k2, k3, zju (Fa := fun k => awp IT P W k asg) (Fb := fun k => awp IT P W k body) (fun k => fun hq => zdc asg hq) (fun k => fun hq => zdc body hq) h xs σ k4⟩
 | .rangeFunc f ps asg body, Q, Q', h, S, σ, .inr ⟨g, n, t, cs, xs, S', k1, k2, k3, k4, k5, k6, k7, k8, k9, q1, q2, q3, q4⟩ => .inr ⟨g, n, t, cs, xs, S', k1, k2, k3, k4, k5, k6, k7, k8, k9, q1, q2, q3, zju (Fa := fun k => awp IT P W k asg) (Fb := fun k => awp IT P W k body) (fun k => fun hq => zdc asg hq) (fun k => fun hq => zdc body hq) h xs _ q4⟩
 | .scope x, Q, Q', h, S, σ, k => zdc x h S σ k
 | .label _, Q, Q', h, S, σ, k => h _ S σ k
 | .goto _, _, _, _, _, _, k => k.elim
 | .refuse _, _, _, _, _, _, k => k.elim
theorem ze {x y : Code} {Q : AQ} {S : List AV} {σ : St} (h : awp IT P W k0 x (zng (awp IT P W k0 y Q) Q) S σ) : awp IT P W k0 (.seq x y) Q S σ :=
 zdc x (zmm (fun S σ k => ⟨S, σ, Wk.refl _ _ _, k⟩) fun _ _ _ k => k) S σ h
def to (n0 : Nat) (S' : List AV) (σ' : St) (Q : AQ) : AQ
 | .normal, S, σ => Wk n0 S σ S' σ'
 | e, S, σ => Q e S σ
theorem zc {id : Nat} {ops : Array Oper} {Q : AQ} {S : List AV} {σ : St} (h : zb6 IT P W ops (Q .normal) ops.toList S σ) : awp IT P W k0 (.region id ops false) Q S σ := h
theorem zbo {c : Operand} {x y : Code} {Q : AQ} {S : List AV} {σ : St} (hc : zcp S c = .raw (.bool true)) (h : awp IT P W k0 x Q S σ) : awp IT P W k0 (.cond c x y) Q S σ := ⟨true, hc, h⟩
theorem zav {c : Operand} {x y : Code} {Q : AQ} {S : List AV} {σ : St} (hc : zcp S c = .raw (.bool false)) (h : awp IT P W k0 y Q S σ) : awp IT P W k0 (.cond c x y) Q S σ := ⟨false, hc, h⟩
theorem z3n {id : Nat} {Q : AQ} {S : List AV} {σ : St} (h : Q .normal S σ) : awp IT P W k0 (.label id) Q S σ := h
theorem z3c {x : Code} {Q : AQ} {S : List AV} {σ : St} (h : awp IT P W k0 x Q S σ) : awp IT P W k0 (.scope x) Q S σ := h
theorem zr {id : Nat} {x : Code} {Q : AQ} {S : List AV} {σ : St} (h : awp IT P W k0 x (zk6 id Q) S σ) : awp IT P W k0 (.block id x) Q S σ := h
theorem zez {ops : Array Oper} {Q : List AV → St → Prop} {o : Oper} {l : List Oper} {S S' : List AV} {σ σ' : St} {a : AV} (hg : o.guard = none) (hc : zc3 S o = none) (hy : zdi S o = none) (h : aop P (zcp S) σ o = some (a, σ')) (hS : zn S o.dst a = S')
 (k : zb6 IT P W ops Q l S' σ') : zb6 IT P W ops Q (o :: l) S σ := by
 simp only [zb6, hg, zfa, hc, hy]
 exact .inl ⟨a, σ', .inl h, by rw [hS]; exact k⟩
theorem zj6 {ops : Array Oper} {Q : List AV → St → Prop} {o : Oper} {l : List Oper} {S S' : List AV} {σ : St} (a : AV) (hg : o.guard = none) (hc : zc3 S o = none) (hy : zdi S o = none) (h : ziw P (zcp S) o a) (hS : zn S o.dst a = S')
 (k : zb6 IT P W ops Q l S' σ) : zb6 IT P W ops Q (o :: l) S σ := by
 simp only [zb6, hg, zfa, hc, hy]
 exact .inl ⟨a, σ, .inr (.inl ⟨rfl, h⟩), by rw [hS]; exact k⟩
theorem w_call {ops : Array Oper} {Q : List AV → St → Prop} {o : Oper} {l : List Oper} {S S' : List AV} {σ : St} {f : FuncId} {args : List AV} {r : AV} (hp : Pure IT P f (stripL args) r) (hg : o.guard = none) (hc : zc3 S o = some (f, args)) (hok : z7 0 args = true) (hS : zn S o.dst r = S')
 (k : zb6 IT P W ops Q l S' σ) : zb6 IT P W ops Q (o :: l) S σ := by
 simp only [zb6, hg, zfa, hc]
 exact ⟨r, σ, .inr (.inl ⟨rfl, hok, hp⟩), by rw [hS]; exact k⟩
theorem z4u {ops : Array Oper} {Q : List AV → St → Prop} {o : Oper} {l : List Oper} {S S' : List AV} {σ : St} {f : FuncId} {args args' : List AV} {r : AV} (n : Nat) (hp : Pure IT P f args' r) (hg : o.guard = none) (hc : zc3 S o = some (f, args)) (ha : za8 (frz σ.boxes n) args = args') (hraw : zov r = true) (hS : zn S o.dst r = S')
 (k : zb6 IT P W ops Q l S' σ) : zb6 IT P W ops Q (o :: l) S σ := by
 simp only [zb6, hg, zfa, hc]
 exact ⟨r, σ, .inr (.inr ⟨rfl, hraw, n, by rw [ha]; exact hp⟩), by rw [hS]; exact k⟩
theorem w_yield {ops : Array Oper} {Q : List AV → St → Prop} {o : Oper} {l : List Oper} {S : List AV} {σ : St} {n : Nat} {args row : List AV} {rows : List (List AV)} (hg : o.guard = none) (hc : zc3 S o = none) (hy : zdi S o = some (n, args)) (hW : W = some (n, rows)) (hr : rows[σ.out]? = some row) (hs : stripL args = row) (hok : z7 0 args = true) (hni : zbt args = true) (hst : σ.stop = false)
 (k1 : zb6 IT P W ops Q l (zn S o.dst (.raw (.bool true))) { σ with out := σ.out + 1 }) (k2 : zb6 IT P W ops Q l (zn S o.dst (.raw (.bool false))) { σ with stop := true }) : zb6 IT P W ops Q (o :: l) S σ := by
 simp only [zb6, hg, zfa, hc, hy]
 exact ⟨rows, row, hW, hr, hs, hok, hni, hst, k1, k2⟩
theorem zam {c : Code} {Q : AQ} {S S' : List AV} {σ σ' : St} (hS : S = S') (hσ : σ = σ') (h : awp IT P W k0 c Q S' σ') : awp IT P W k0 c Q S σ := by subst hS hσ; exact h
theorem zii {ops : Array Oper} {Q : List AV → St → Prop} {o : Oper} {l : List Oper} {S S' : List AV} {σ σ' σ'' : St} {a : AV} (hg : o.guard = none) (hc : zc3 S o = none) (hy : zdi S o = none) (h : aop P (zcp S) σ o = some (a, σ')) (hS : zn S o.dst a = S') (hσ : σ' = σ'')
 (k : zb6 IT P W ops Q l S' σ'') : zb6 IT P W ops Q (o :: l) S σ := by
 subst hσ
 exact zez hg hc hy h hS k
theorem zj4 {ops : Array Oper} {Q : List AV → St → Prop} {o : Oper} {l : List Oper} {S S' : List AV} {σ σ' σ'' : St} {a : AV} (hg : o.guard = none) (hc : zc3 S o = none) (hy : zdi S o = none) (h : zp0 P (zcp S) σ o = some (a, σ')) (hS : zn S o.dst a = S') (hσ : σ' = σ'')
 (k : zb6 IT P W ops Q l S' σ'') : zb6 IT P W ops Q (o :: l) S σ := by
 subst hσ
 simp only [zb6, hg, zfa, hc, hy]
 exact .inl ⟨a, σ', .inr (.inr (.inl h)), by rw [hS]; exact k⟩
theorem w_nil {ops : Array Oper} {Q : List AV → St → Prop} {o : Oper} {l : List Oper} {S S1 S2 : List AV} {σ : St} (n : Nat) (neg : Bool) (hg : o.guard = none) (hc : zc3 S o = none) (hy : zdi S o = none) (h : zrs P (zcp S) o n neg)
 (h1 : zn S o.dst (.raw (.bool (!neg))) = S1) (h2 : zn S o.dst (.raw (.bool neg)) = S2) (k1 : n = 0 → zb6 IT P W ops Q l S1 σ) (k2 : zb6 IT P W ops Q l S2 σ) : zb6 IT P W ops Q (o :: l) S σ := by
 simp only [zb6, hg, zfa, hc, hy]
 exact .inr ⟨n, neg, .inl h, fun e => by rw [h1]; exact k1 e, by rw [h2]; exact k2⟩
theorem zvl {ops : Array Oper} {Q : List AV → St → Prop} {o : Oper} {l : List Oper} {S S' : List AV} {σ σ' : St} {f : FuncId} {args : List AV} {r : AV} (hp : Snd IT P f args σ r σ') (hg : o.guard = none) (hc : zc3 S o = some (f, args)) (ho : σ'.out = σ.out ∧ σ'.stop = σ.stop) (hS : zn S o.dst r = S')
 (k : zb6 IT P W ops Q l S' σ') : zb6 IT P W ops Q (o :: l) S σ := by
 simp only [zb6, hg, zfa, hc]
 exact ⟨r, σ', .inl ⟨hp, ho⟩, by rw [hS]; exact k⟩
theorem z7r {ops : Array Oper} {Q : List AV → St → Prop} {o : Oper} {l : List Oper} {S S' : List AV} {σ : St} {kb : Nat} {b : Bool} {c : Option Bool} (hg : o.guard = some (kb, b)) (hk : zea ops S kb = some c) (hcb : c ≠ some b) (hS : zn S o.dst (.raw undef) = S') (k : zb6 IT P W ops Q l S' σ) : zb6 IT P W ops Q (o :: l) S σ := by
 simp only [zb6, hg]
 exact ⟨c, hk, by rw [if_neg hcb, hS]; exact k⟩
theorem zac {ops : Array Oper} {Q : List AV → St → Prop} {o : Oper} {l : List Oper} {S : List AV} {σ : St} {kb : Nat} {b : Bool} (hg : o.guard = some (kb, b)) (hk : zea ops S kb = some (some b)) (k : zb6 IT P W ops Q ({ o with guard := none } :: l) S σ) : zb6 IT P W ops Q (o :: l) S σ := by
 simp only [zb6, hg]
 refine ⟨some b, hk, ?_⟩
 rw [if_pos rfl]
 have e : zfa IT P W { o with guard := none } S σ = zfa IT P W o S σ := rfl
 simp only [zb6] at k
 rw [e] at k
 exact k
end
theorem zn6 {x : Int} (h1 : -9223372036854775808 ≤ x) (h2 : x < 9223372036854775808) : IntKind.i64.wrap x = x := by
 simp only [IntKind.wrap, IntKind.bits, IntKind.signed]
 simp
 omega
end Go.Ab
