/-
  Ways to walk with the abstract machine.
-/
import Derived.Test.YtmoncghgagmilaaZdO
set_option linter.unusedSimpArgs false
set_option linter.unusedVariables false
namespace Go.Ab
open Go Go.RowKit Go.Fwd
section
variable {IT : IterP} {P : Program} {W : Owed} {k0 : Nat}
theorem zmi {K K' : List AV → St → Prop} {Q Q' : AQ} (hK : ∀ S σ, K S σ → K' S σ) (h : ∀ e S σ, Q e S σ → Q' e S σ) : ∀ e S σ, zne K Q e S σ → zne K' Q' e S σ
 | .normal, S, σ, hq => hK S σ hq
 | .exit _, S, σ, hq => h _ S σ hq
 | .ret, S, σ, hq => h _ S σ hq
theorem zjq {o : Oper} {S : List AV} {σ : St} {K K' : AV → St → Prop} (h : ∀ a σ, K a σ → K' a σ) (k : zfh IT P W o S σ K) : zfh IT P W o S σ K' := by
 unfold zfh at k ⊢
 split
 ·rename_i hc; rw [hc] at k; obtain ⟨r, σ', k1, k2⟩ := k; exact ⟨r, σ', k1, h _ _ k2⟩
 ·rename_i hc
  rw [hc] at k
  simp only at k
  split
  ·rename_i hy; rw [hy] at k; obtain ⟨rows, row, k1, k2, k3, k4, k5, k6, k7, k8⟩ := k; exact ⟨rows, row, k1, k2, k3, k4, k5, k6, h _ _ k7, h _ _ k8⟩
  ·rename_i hy; rw [hy] at k
   rcases k with ⟨a, σ', k1, k2⟩ | ⟨n, neg, k1, k2, k3⟩
   ·exact .inl ⟨a, σ', k1, h _ _ k2⟩
   ·exact .inr ⟨n, neg, k1, fun e => h _ _ (k2 e), h _ _ k3⟩
theorem zg6 {ops : Array Oper} {Q Q' : List AV → St → Prop} (h : ∀ S σ, Q S σ → Q' S σ) : ∀ (l : List Oper) (S : List AV) (σ : St), zco IT P W ops Q l S σ → zco IT P W ops Q' l S σ
 | [], S, σ, k => h S σ k
 | o :: l, S, σ, k => by
  simp only [zco] at k ⊢
  split
  ·rename_i hg; rw [hg] at k; exact zjq (fun a σ' => zg6 h l _ _) k
  ·rename_i kb b hg
   rw [hg] at k
   obtain ⟨c, k1, k2⟩ := k
   refine ⟨c, k1, ?_⟩
   split
   ·rename_i hc; rw [if_pos hc] at k2; exact zjq (fun a σ' => zg6 h l _ _) k2
   ·rename_i hc; rw [if_neg hc] at k2; exact zg6 h l _ _ k2
theorem zja {ops : Array Oper} {Q Q' : List AV → St → Prop} (h : ∀ S σ, Q S σ → Q' S σ) : ∀ (k : Nat) (listed : Array Bool) (S : List AV) (σ : St), aany IT P W ops Q k listed S σ → aany IT P W ops Q' k listed S σ
 | 0, _, S, σ, k => ⟨k.1, h S σ k.2⟩
 | n + 1, listed, S, σ, k => by
  refine ⟨fun he => h _ _ (k.1 he), fun i hi => ?_⟩
  have k := k.2 i hi
  unfold z5h at k ⊢
  cases ho : ops[i]? with
  | none => rw [ho] at k; exact zja h n _ _ _ k
  | some o =>
   rw [ho] at k
   simp only at k ⊢
   split
   ·rename_i hg; rw [hg] at k; exact zjq (fun a σ' => zja h n _ _ _) k
   ·rename_i kb b hg
    rw [hg] at k
    obtain ⟨c, k1, k2⟩ := k
    refine ⟨c, k1, ?_⟩
    split
    ·rename_i hc; rw [if_pos hc] at k2; exact zjq (fun a σ' => zja h n _ _ _) k2
    ·rename_i hc; rw [if_neg hc] at k2; exact zja h n _ _ _ k2
theorem zhx {o : Oper} {S : List AV} {σ : St} {K K' : AV → Prop} (h : ∀ a, K a → K' a) (k : zgh IT P o S σ K) : zgh IT P o S σ K' := by
 unfold zgh at k ⊢
 split
 ·rename_i hc; rw [hc] at k; obtain ⟨r, k1, k2, k3⟩ := k; exact ⟨r, k1, k2, h _ k3⟩
 ·rename_i hc; rw [hc] at k; obtain ⟨a, k1, k2⟩ := k; exact ⟨a, k1, h _ k2⟩
theorem zor {o : Oper} {S : List AV} {σ : St} {K K' : AV → Prop} (h : ∀ a, K a → K' a) (k : zob IT P o S σ K) : zob IT P o S σ K' :=
 k.imp (zhx h) fun ⟨f, args, r, n, k1, k2, k3, k4⟩ => ⟨f, args, r, n, k1, k2, k3, h _ k4⟩
theorem zjf {ops : Array Oper} {σ : St} {K K' : List AV → Prop} (h : ∀ S, K S → K' S) : ∀ (l : List Oper) (S : List AV), ahead IT P ops σ K l S → ahead IT P ops σ K' l S
 | [], S, k => h S k
 | o :: l, S, k => by
  simp only [ahead] at k ⊢
  refine ⟨k.1, ?_⟩
  have k := k.2
  split
  ·rename_i hg; rw [hg] at k; exact zor (fun a => zjf h l _) k
  ·rename_i kb b hg
   rw [hg] at k
   obtain ⟨c, k1, k2⟩ := k
   refine ⟨c, k1, ?_⟩
   split
   ·rename_i hc; rw [if_pos hc] at k2; exact zor (fun a => zjf h l _) k2
   ·rename_i hc; rw [if_neg hc] at k2; exact zjf h l _ k2
theorem zg1 {ops : Array Oper} {σ : St} {K K' : List AV → Pend → Prop} (h : ∀ S ps, K S ps → K' S ps) : ∀ (l : List Oper) (S : List AV) (ps : Pend), zey IT P ops σ K l S ps → zey IT P ops σ K' l S ps
 | [], S, ps, k => h S ps k
 | o :: l, S, ps, k => by
  simp only [zey] at k ⊢
  refine ⟨k.1, k.2.1, ?_⟩
  rcases k.2.2 with ⟨hg, t, d, z, k1, k2, k3, k4⟩ | k
  ·exact .inl ⟨hg, t, d, z, k1, k2, k3, zg1 h l _ _ k4⟩
  ·right
   split
   ·rename_i hg; rw [hg] at k; exact zhx (fun a => zg1 h l _ _) k
   ·rename_i kb b hg
    rw [hg] at k
    obtain ⟨c, k1, k2⟩ := k
    refine ⟨c, k1, ?_⟩
    split
    ·rename_i hc; rw [if_pos hc] at k2; exact zhx (fun a => zg1 h l _ _) k2
    ·rename_i hc; rw [if_neg hc] at k2; exact zg1 h l _ _ k2
theorem zfo {ops : Array Oper} {σ : St} {pl : List Pe} {K K' : List AV → Prop} (h : ∀ S, K S → K' S) : ∀ (l : List Oper) (n : Nat) (S : List AV), zel IT P ops σ pl K n l S → zel IT P ops σ pl K' n l S
 | [], n, S, k => h S k
 | o :: l, n, S, k => by
  simp only [zel] at k ⊢
  refine ⟨k.1, ?_⟩
  rcases k.2 with ⟨p, hp, k1, k2, k3, k4, k5, k6⟩ | ⟨p, hp, k1, k2, k3, k4, k5, k6, k7, k8, k9, k10⟩ | ⟨k1, k⟩
  ·exact .inl ⟨p, hp, k1, k2, k3, k4, k5, zfo h l _ _ k6⟩
  ·exact .inr (.inl ⟨p, hp, k1, k2, k3, k4, k5, k6, k7, k8, k9, zfo h l _ _ k10⟩)
  ·refine .inr (.inr ⟨k1, ?_⟩)
   split
   ·rename_i hg; rw [hg] at k; exact zhx (fun a => zfo h l _ _) k
   ·rename_i kb b hg
    rw [hg] at k
    obtain ⟨c, k1, k2⟩ := k
    refine ⟨c, k1, ?_⟩
    split
    ·rename_i hc; rw [if_pos hc] at k2; exact zhx (fun a => zfo h l _ _) k2
    ·rename_i hc; rw [if_neg hc] at k2; exact zfo h l _ _ k2
def WMono (F : AQ → List AV → St → Prop) : Prop := ∀ {Q Q' : AQ}, (∀ e S σ, Q e S σ → Q' e S σ) → ∀ S σ, F Q S σ → F Q' S σ
theorem zmr {F : AQ → List AV → St → Prop} {n0 : Nat} (hF : WMono F) {Q Q' : AQ} (h : ∀ e S σ, Q e S σ → Q' e S σ) : ∀ (m : Nat) (S : List AV) (σ : St), zh8 F Q n0 m S σ → zh8 F Q' n0 m S σ
 | 0, S, σ, k => k
 | m + 1, S, σ, ⟨S', σ', k1, k2⟩ => ⟨S', σ', k1, hF (zmi (zmr hF h m) h) _ _ k2⟩
theorem zj7 {Fa Fb : Nat → AQ → List AV → St → Prop} {ps : Array Tmp} {S : List AV} {n0 : Nat} (hFa : ∀ k, WMono (Fa k)) (hFb : ∀ k, WMono (Fb k)) {Q Q' : AQ} (h : ∀ e S σ, Q e S σ → Q' e S σ) : ∀ (xs : List (List AV)) (σ : St), zfg Fa Fb ps S Q n0 xs σ → zfg Fa Fb ps S Q' n0 xs σ
 | [], σ, k => h _ _ _ k
 | x :: xs, σ, k => by
  simp only [zfg] at k ⊢
  refine hFa n0 ?_ _ _ k
  intro e S1 σ1 hq
  cases e with
  | normal =>
   refine hFb _ ?_ _ _ hq
   intro e2 S2 σ2 hq2
   cases e2 with
   | normal => exact ⟨hq2.1, zj7 hFa hFb h xs _ hq2.2⟩
   | exit id => exact ⟨hq2.1, h _ _ _ hq2.2⟩
   | ret => exact ⟨hq2.1, h _ _ _ hq2.2⟩
  | exit id => exact hq
  | ret => exact hq
theorem zdb {k0 : Nat} : ∀ (c : Code) {Q Q' : AQ}, (∀ e S σ, Q e S σ → Q' e S σ) → ∀ (S : List AV) (σ : St), awp IT P W k0 c Q S σ → awp IT P W k0 c Q' S σ
 | .skip, Q, Q', h, S, σ, k => h _ S σ k
 | .seq x y, Q, Q', h, S, σ, k => zdb x (zmi (fun S σ ⟨S', σ', k1, k2⟩ => ⟨S', σ', k1, zdb y h _ _ k2⟩) h) S σ k
 | .cond c x y, Q, Q', h, S, σ, ⟨t, k1, k2⟩ => ⟨t, k1, by
  split
  ·rename_i ht; rw [if_pos ht] at k2; exact zdb x h _ _ k2
  ·rename_i ht; rw [if_neg ht] at k2; exact zdb y h _ _ k2⟩
 | .block id x, Q, Q', h, S, σ, k => zdb x (fun e S σ hq => by
  cases e with
  | normal => exact h _ _ _ hq
  | ret => exact h _ _ _ hq
  | exit j =>
   simp only [zlg] at hq ⊢
   split
   ·rename_i hj; rw [if_pos hj] at hq; exact h _ _ _ hq
   ·rename_i hj; rw [if_neg hj] at hq; exact h _ _ _ hq) S σ k
 | .loop x, Q, Q', h, S, σ, ⟨m, k⟩ => ⟨m, zmr (fun hq => zdb x hq) h m S σ k⟩
 | .exit id, Q, Q', h, S, σ, k => h _ S σ k
 | .ret, Q, Q', h, S, σ, k => h _ S σ k
 | .region _ ops false, Q, Q', h, S, σ, k => zg6 (h .normal) _ _ _ k
 | .region _ ops true, Q, Q', h, S, σ, .inl ⟨n, k1, k2, k3⟩ => .inl ⟨n, k1, k2, zjf (fun S' => zg6 (h .normal) _ _ _) _ _ k3⟩
 | .region _ ops true, Q, Q', h, S, σ, .inr (.inl ⟨n, k1, k2, k3⟩) => .inr (.inl ⟨n, k1, k2, zg1 (fun S' ps => zg6 (h .normal) _ _ _) _ _ _ k3⟩)
 | .region _ ops true, Q, Q', h, S, σ, .inr (.inr (.inl k)) => .inr (.inr (.inl (zja (h .normal) _ _ _ _ k)))
 | .region _ ops true, Q, Q', h, S, σ, .inr (.inr (.inr ⟨n, pl, k1, k2, k3, k4⟩)) => .inr (.inr (.inr ⟨n, pl, k1, k2, k3, zfo (fun S' => zg6 (h .normal) _ _ _) _ _ _ k4⟩))
 | .rangeFunc f ps asg body, Q, Q', h, S, σ, .inl ⟨xs, k1, k0, k2, k3, k4⟩ => .inl ⟨xs, k1, k0, k2, k3, zj7 (Fa := fun k => awp IT P W k asg) (Fb := fun k => awp IT P W k body) (fun k => fun hq => zdb asg hq) (fun k => fun hq => zdb body hq) h xs σ k4⟩
 | .rangeFunc f ps asg body, Q, Q', h, S, σ, .inr ⟨g, n, t, cs, xs, S', k1, k2, k3, k4, k5, k6, k7, k8, k9, q1, q2, q3, q4⟩ => .inr ⟨g, n, t, cs, xs, S', k1, k2, k3, k4, k5, k6, k7, k8, k9, q1, q2, q3, zj7 (Fa := fun k => awp IT P W k asg) (Fb := fun k => awp IT P W k body) (fun k => fun hq => zdb asg hq) (fun k => fun hq => zdb body hq) h xs _ q4⟩
 | .scope x, Q, Q', h, S, σ, k => zdb x h S σ k
 | .label _, Q, Q', h, S, σ, k => h _ S σ k
 | .goto _, _, _, _, _, _, k => k.elim
 | .refuse _, _, _, _, _, _, k => k.elim
theorem ze {x y : Code} {Q : AQ} {S : List AV} {σ : St} (h : awp IT P W k0 x (zne (awp IT P W k0 y Q) Q) S σ) : awp IT P W k0 (.seq x y) Q S σ :=
 zdb x (zmi (fun S σ k => ⟨S, σ, Wk.refl _ _ _, k⟩) fun _ _ _ k => k) S σ h
def to (n0 : Nat) (S' : List AV) (σ' : St) (Q : AQ) : AQ
 | .normal, S, σ => Wk n0 S σ S' σ'
 | e, S, σ => Q e S σ
theorem zd {id : Nat} {ops : Array Oper} {Q : AQ} {S : List AV} {σ : St} (h : zco IT P W ops (Q .normal) ops.toList S σ) : awp IT P W k0 (.region id ops false) Q S σ := h
theorem zba {c : Operand} {x y : Code} {Q : AQ} {S : List AV} {σ : St} (hc : zcs S c = .raw (.bool true)) (h : awp IT P W k0 x Q S σ) : awp IT P W k0 (.cond c x y) Q S σ := ⟨true, hc, h⟩
theorem zay {c : Operand} {x y : Code} {Q : AQ} {S : List AV} {σ : St} (hc : zcs S c = .raw (.bool false)) (h : awp IT P W k0 y Q S σ) : awp IT P W k0 (.cond c x y) Q S σ := ⟨false, hc, h⟩
theorem z4k {id : Nat} {Q : AQ} {S : List AV} {σ : St} (h : Q .normal S σ) : awp IT P W k0 (.label id) Q S σ := h
theorem z35 {x : Code} {Q : AQ} {S : List AV} {σ : St} (h : awp IT P W k0 x Q S σ) : awp IT P W k0 (.scope x) Q S σ := h
theorem zt {id : Nat} {x : Code} {Q : AQ} {S : List AV} {σ : St} (h : awp IT P W k0 x (zlg id Q) S σ) : awp IT P W k0 (.block id x) Q S σ := h
theorem zfb {ops : Array Oper} {Q : List AV → St → Prop} {o : Oper} {l : List Oper} {S S' : List AV} {σ σ' : St} {a : AV} (hg : o.guard = none) (hc : zcz S o = none) (hy : zdj S o = none) (h : aop P (zcs S) σ o = some (a, σ')) (hS : zp S o.dst a = S')
 (k : zco IT P W ops Q l S' σ') : zco IT P W ops Q (o :: l) S σ := by
 simp only [zco, hg, zfh, hc, hy]
 exact .inl ⟨a, σ', .inl h, by rw [hS]; exact k⟩
theorem zj5 {ops : Array Oper} {Q : List AV → St → Prop} {o : Oper} {l : List Oper} {S S' : List AV} {σ : St} (a : AV) (hg : o.guard = none) (hc : zcz S o = none) (hy : zdj S o = none) (h : zi2 P (zcs S) o a) (hS : zp S o.dst a = S')
 (k : zco IT P W ops Q l S' σ) : zco IT P W ops Q (o :: l) S σ := by
 simp only [zco, hg, zfh, hc, hy]
 exact .inl ⟨a, σ, .inr (.inl ⟨rfl, h⟩), by rw [hS]; exact k⟩
theorem w_call {ops : Array Oper} {Q : List AV → St → Prop} {o : Oper} {l : List Oper} {S S' : List AV} {σ : St} {f : FuncId} {args : List AV} {r : AV} (hp : Pure IT P f (stripL args) r) (hg : o.guard = none) (hc : zcz S o = some (f, args)) (hok : z7 0 args = true) (hS : zp S o.dst r = S')
 (k : zco IT P W ops Q l S' σ) : zco IT P W ops Q (o :: l) S σ := by
 simp only [zco, hg, zfh, hc]
 exact ⟨r, σ, .inr (.inl ⟨rfl, hok, hp⟩), by rw [hS]; exact k⟩
theorem z1w {ops : Array Oper} {Q : List AV → St → Prop} {o : Oper} {l : List Oper} {S S' : List AV} {σ : St} {f : FuncId} {args args' : List AV} {r : AV} (n : Nat) (hp : Pure IT P f args' r) (hg : o.guard = none) (hc : zcz S o = some (f, args)) (ha : zbe (frz σ.boxes n) args = args') (hraw : zo7 r = true) (hS : zp S o.dst r = S')
 (k : zco IT P W ops Q l S' σ) : zco IT P W ops Q (o :: l) S σ := by
 simp only [zco, hg, zfh, hc]
 exact ⟨r, σ, .inr (.inr ⟨rfl, hraw, n, by rw [ha]; exact hp⟩), by rw [hS]; exact k⟩
theorem w_yield {ops : Array Oper} {Q : List AV → St → Prop} {o : Oper} {l : List Oper} {S : List AV} {σ : St} {n : Nat} {args row : List AV} {rows : List (List AV)} (hg : o.guard = none) (hc : zcz S o = none) (hy : zdj S o = some (n, args)) (hW : W = some (n, rows)) (hr : rows[σ.out]? = some row) (hs : stripL args = row) (hok : z7 0 args = true) (hni : zb2 args = true) (hst : σ.stop = false)
 (k1 : zco IT P W ops Q l (zp S o.dst (.raw (.bool true))) { σ with out := σ.out + 1 }) (k2 : zco IT P W ops Q l (zp S o.dst (.raw (.bool false))) { σ with stop := true }) : zco IT P W ops Q (o :: l) S σ := by
 simp only [zco, hg, zfh, hc, hy]
 exact ⟨rows, row, hW, hr, hs, hok, hni, hst, k1, k2⟩
theorem za0 {c : Code} {Q : AQ} {S S' : List AV} {σ σ' : St} (hS : S = S') (hσ : σ = σ') (h : awp IT P W k0 c Q S' σ') : awp IT P W k0 c Q S σ := by subst hS hσ; exact h
theorem zrl {ops : Array Oper} {Q : List AV → St → Prop} {o : Oper} {l : List Oper} {S S' : List AV} {σ σ' σ'' : St} {a : AV} (hg : o.guard = none) (hc : zcz S o = none) (hy : zdj S o = none) (h : aop P (zcs S) σ o = some (a, σ')) (hS : zp S o.dst a = S') (hσ : σ' = σ'')
 (k : zco IT P W ops Q l S' σ'') : zco IT P W ops Q (o :: l) S σ := by
 subst hσ
 exact zfb hg hc hy h hS k
theorem zka {ops : Array Oper} {Q : List AV → St → Prop} {o : Oper} {l : List Oper} {S S' : List AV} {σ σ' σ'' : St} {a : AV} (hg : o.guard = none) (hc : zcz S o = none) (hy : zdj S o = none) (h : zpn P (zcs S) σ o = some (a, σ')) (hS : zp S o.dst a = S') (hσ : σ' = σ'')
 (k : zco IT P W ops Q l S' σ'') : zco IT P W ops Q (o :: l) S σ := by
 subst hσ
 simp only [zco, hg, zfh, hc, hy]
 exact .inl ⟨a, σ', .inr (.inr (.inl h)), by rw [hS]; exact k⟩
theorem w_nil {ops : Array Oper} {Q : List AV → St → Prop} {o : Oper} {l : List Oper} {S S1 S2 : List AV} {σ : St} (n : Nat) (neg : Bool) (hg : o.guard = none) (hc : zcz S o = none) (hy : zdj S o = none) (h : zrs P (zcs S) o n neg)
 (h1 : zp S o.dst (.raw (.bool (!neg))) = S1) (h2 : zp S o.dst (.raw (.bool neg)) = S2) (k1 : n = 0 → zco IT P W ops Q l S1 σ) (k2 : zco IT P W ops Q l S2 σ) : zco IT P W ops Q (o :: l) S σ := by
 simp only [zco, hg, zfh, hc, hy]
 exact .inr ⟨n, neg, .inl h, fun e => by rw [h1]; exact k1 e, by rw [h2]; exact k2⟩
theorem zu1 {ops : Array Oper} {Q : List AV → St → Prop} {o : Oper} {l : List Oper} {S S' : List AV} {σ σ' : St} {f : FuncId} {args : List AV} {r : AV} (hp : Snd IT P f args σ r σ') (hg : o.guard = none) (hc : zcz S o = some (f, args)) (ho : σ'.out = σ.out ∧ σ'.stop = σ.stop) (hS : zp S o.dst r = S')
 (k : zco IT P W ops Q l S' σ') : zco IT P W ops Q (o :: l) S σ := by
 simp only [zco, hg, zfh, hc]
 exact ⟨r, σ', .inl ⟨hp, ho⟩, by rw [hS]; exact k⟩
theorem z7n {ops : Array Oper} {Q : List AV → St → Prop} {o : Oper} {l : List Oper} {S S' : List AV} {σ : St} {kb : Nat} {b : Bool} {c : Option Bool} (hg : o.guard = some (kb, b)) (hk : zd9 ops S kb = some c) (hcb : c ≠ some b) (hS : zp S o.dst (.raw undef) = S') (k : zco IT P W ops Q l S' σ) : zco IT P W ops Q (o :: l) S σ := by
 simp only [zco, hg]
 exact ⟨c, hk, by rw [if_neg hcb, hS]; exact k⟩
theorem zab {ops : Array Oper} {Q : List AV → St → Prop} {o : Oper} {l : List Oper} {S : List AV} {σ : St} {kb : Nat} {b : Bool} (hg : o.guard = some (kb, b)) (hk : zd9 ops S kb = some (some b)) (k : zco IT P W ops Q ({ o with guard := none } :: l) S σ) : zco IT P W ops Q (o :: l) S σ := by
 simp only [zco, hg]
 refine ⟨some b, hk, ?_⟩
 rw [if_pos rfl]
 have e : zfh IT P W { o with guard := none } S σ = zfh IT P W o S σ := rfl
 simp only [zco] at k
 rw [e] at k
 exact k
end
theorem zn4 {x : Int} (h1 : -9223372036854775808 ≤ x) (h2 : x < 9223372036854775808) : IntKind.i64.wrap x = x := by
 simp only [IntKind.wrap, IntKind.bits, IntKind.signed]
 simp
 omega
end Go.Ab
