/-
  Ways to walk with the abstract machine.
-/
import Derived.Test.YtfkkellnlmjenaaGreatZdO
set_option linter.unusedSimpArgs false
set_option linter.unusedVariables false
namespace Go.Ab
open Go Go.RowKit Go.Fwd
section
variable {IT : IterP} {P : Program} {W : Owed} {k0 : Nat}
theorem zpf {K K' : List AV → St → Prop} {Q Q' : AQ} (hK : ∀ S σ, K S σ → K' S σ) (h : ∀ e S σ, Q e S σ → Q' e S σ) : ∀ e S σ, zva K Q e S σ → zva K' Q' e S σ
 | .normal, S, σ, hq => hK S σ hq
 | .exit _, S, σ, hq => h _ S σ hq
 | .ret, S, σ, hq => h _ S σ hq
theorem zlp {o : Oper} {S : List AV} {σ : St} {K K' : AV → St → Prop} (h : ∀ a σ, K a σ → K' a σ) (k : zgh IT P W o S σ K) : zgh IT P W o S σ K' := by
 unfold zgh at k ⊢
 split
 ·rename_i hc; rw [hc] at k; obtain ⟨r, σ', k1, k2⟩ := k; exact ⟨r, σ', k1, h _ _ k2⟩
 ·rename_i hc
  rw [hc] at k
  simp only at k
  split
  ·rename_i hy; rw [hy] at k; obtain ⟨G, row, k0, k1, k2, k3, k4, k5, k6, k7, k8⟩ := k; exact ⟨G, row, k0, k1, k2, k3, k4, k5, k6, h _ _ k7, h _ _ k8⟩
  ·rename_i hy; rw [hy] at k
   rcases k with ⟨a, σ', k1, k2⟩ | ⟨n, neg, k1, k2, k3⟩
   ·exact .inl ⟨a, σ', k1, h _ _ k2⟩
   ·exact .inr ⟨n, neg, k1, fun e => h _ _ (k2 e), h _ _ k3⟩
theorem zjr {ops : Array Oper} {Q Q' : List AV → St → Prop} (h : ∀ S σ, Q S σ → Q' S σ) : ∀ (l : List Oper) (S : List AV) (σ : St), zcw IT P W ops Q l S σ → zcw IT P W ops Q' l S σ
 | [], S, σ, k => h S σ k
 | o :: l, S, σ, k => by
  simp only [zcw] at k ⊢
  split
  ·rename_i hg; rw [hg] at k; exact zlp (fun a σ' => zjr h l _ _) k
  ·rename_i kb b hg
   rw [hg] at k
   obtain ⟨c, k1, k2⟩ := k
   refine ⟨c, k1, ?_⟩
   split
   ·rename_i hc; rw [if_pos hc] at k2; exact zlp (fun a σ' => zjr h l _ _) k2
   ·rename_i hc; rw [if_neg hc] at k2; exact zjr h l _ _ k2
theorem zjt {ops : Array Oper} {Q Q' : List AV → St → Prop} (h : ∀ S σ, Q S σ → Q' S σ) : ∀ (k : Nat) (listed : Array Bool) (S : List AV) (σ : St), ztd IT P W ops Q k listed S σ → ztd IT P W ops Q' k listed S σ
 | 0, _, S, σ, k => ⟨k.1, h S σ k.2⟩
 | n + 1, listed, S, σ, k => by
  refine ⟨fun he => h _ _ (k.1 he), fun i hi => ?_⟩
  have k := k.2 i hi
  unfold zzl at k ⊢
  cases ho : ops[i]? with
  | none => rw [ho] at k; exact zjt h n _ _ _ k
  | some o =>
   rw [ho] at k
   simp only at k ⊢
   split
   ·rename_i hg; rw [hg] at k; exact zlp (fun a σ' => zjt h n _ _ _) k
   ·rename_i kb b hg
    rw [hg] at k
    obtain ⟨c, k1, k2⟩ := k
    refine ⟨c, k1, ?_⟩
    split
    ·rename_i hc; rw [if_pos hc] at k2; exact zlp (fun a σ' => zjt h n _ _ _) k2
    ·rename_i hc; rw [if_neg hc] at k2; exact zjt h n _ _ _ k2
theorem zpb {o : Oper} {S : List AV} {σ : St} {K K' : AV → Prop} (h : ∀ a, K a → K' a) (k : znu IT P o S σ K) : znu IT P o S σ K' := by
 unfold znu at k ⊢
 split
 ·rename_i hc; rw [hc] at k; obtain ⟨r, k1, k2, k3⟩ := k; exact ⟨r, k1, k2, h _ k3⟩
 ·rename_i hc; rw [hc] at k; obtain ⟨a, k1, k2⟩ := k; exact ⟨a, k1, h _ k2⟩
theorem ztq {o : Oper} {S : List AV} {σ : St} {K K' : AV → Prop} (h : ∀ a, K a → K' a) (k : z3v IT P o S σ K) : z3v IT P o S σ K' :=
 k.imp (zpb h) fun ⟨f, args, r, n, k1, k2, k3, k4⟩ => ⟨f, args, r, n, k1, k2, k3, h _ k4⟩
theorem zlz {ops : Array Oper} {σ : St} {K K' : List AV → Prop} (h : ∀ S, K S → K' S) : ∀ (l : List Oper) (S : List AV), ahead IT P ops σ K l S → ahead IT P ops σ K' l S
 | [], S, k => h S k
 | o :: l, S, k => by
  simp only [ahead] at k ⊢
  refine ⟨k.1, ?_⟩
  have k := k.2
  split
  ·rename_i hg; rw [hg] at k; exact ztq (fun a => zlz h l _) k
  ·rename_i kb b hg
   rw [hg] at k
   obtain ⟨c, k1, k2⟩ := k
   refine ⟨c, k1, ?_⟩
   split
   ·rename_i hc; rw [if_pos hc] at k2; exact ztq (fun a => zlz h l _) k2
   ·rename_i hc; rw [if_neg hc] at k2; exact zlz h l _ k2
theorem zin {ops : Array Oper} {σ : St} {K K' : List AV → Pend → Prop} (h : ∀ S ps, K S ps → K' S ps) : ∀ (l : List Oper) (S : List AV) (ps : Pend), zkl IT P ops σ K l S ps → zkl IT P ops σ K' l S ps
 | [], S, ps, k => h S ps k
 | o :: l, S, ps, k => by
  simp only [zkl] at k ⊢
  refine ⟨k.1, k.2.1, ?_⟩
  rcases k.2.2 with ⟨hg, t, d, z, k1, k2, k3, k4⟩ | k
  ·exact .inl ⟨hg, t, d, z, k1, k2, k3, zin h l _ _ k4⟩
  ·right
   split
   ·rename_i hg; rw [hg] at k; exact zpb (fun a => zin h l _ _) k
   ·rename_i kb b hg
    rw [hg] at k
    obtain ⟨c, k1, k2⟩ := k
    refine ⟨c, k1, ?_⟩
    split
    ·rename_i hc; rw [if_pos hc] at k2; exact zpb (fun a => zin h l _ _) k2
    ·rename_i hc; rw [if_neg hc] at k2; exact zin h l _ _ k2
def WMono (F : AQ → List AV → St → Prop) : Prop := ∀ {Q Q' : AQ}, (∀ e S σ, Q e S σ → Q' e S σ) → ∀ S σ, F Q S σ → F Q' S σ
theorem zqm {F : AQ → List AV → St → Prop} {n0 : Nat} (hF : WMono F) {Q Q' : AQ} (h : ∀ e S σ, Q e S σ → Q' e S σ) : ∀ (m : Nat) (S : List AV) (σ : St), zpv F Q n0 m S σ → zpv F Q' n0 m S σ
 | 0, S, σ, k => k
 | m + 1, S, σ, ⟨S', σ', k1, k2⟩ => ⟨S', σ', k1, hF (zpf (zqm hF h m) h) _ _ k2⟩
theorem zmn {Fa Fb : Nat → AQ → List AV → St → Prop} {ps : Array Tmp} {S : List AV} {n0 : Nat} (hFa : ∀ k, WMono (Fa k)) (hFb : ∀ k, WMono (Fb k)) {Q Q' : AQ} (h : ∀ e S σ, Q e S σ → Q' e S σ) : ∀ (xs : List (List AV)) (σ : St), zgl Fa Fb ps S Q n0 xs σ → zgl Fa Fb ps S Q' n0 xs σ
 | [], σ, k => h _ _ _ k
 | x :: xs, σ, k => by
  simp only [zgl] at k ⊢
  refine hFa n0 ?_ _ _ k
  intro e S1 σ1 hq
  cases e with
  | normal =>
   refine hFb _ ?_ _ _ hq
   intro e2 S2 σ2 hq2
   cases e2 with
   | normal => exact ⟨hq2.1, zmn hFa hFb h xs _ hq2.2⟩
   | exit id => exact ⟨hq2.1, h _ _ _ hq2.2⟩
   | ret => exact ⟨hq2.1, h _ _ _ hq2.2⟩
  | exit id => exact hq
  | ret => exact hq
theorem zdv {k0 : Nat} : ∀ (c : Code) {Q Q' : AQ}, (∀ e S σ, Q e S σ → Q' e S σ) → ∀ (S : List AV) (σ : St), awp IT P W k0 c Q S σ → awp IT P W k0 c Q' S σ
 | .skip, Q, Q', h, S, σ, k => h _ S σ k
 | .seq x y, Q, Q', h, S, σ, k => zdv x (zpf (fun S σ ⟨S', σ', k1, k2⟩ => ⟨S', σ', k1, zdv y h _ _ k2⟩) h) S σ k
 | .cond c x y, Q, Q', h, S, σ, ⟨t, k1, k2⟩ => ⟨t, k1, by
  split
  ·rename_i ht; rw [if_pos ht] at k2; exact zdv x h _ _ k2
  ·rename_i ht; rw [if_neg ht] at k2; exact zdv y h _ _ k2⟩
 | .block id x, Q, Q', h, S, σ, k => zdv x (fun e S σ hq => by
  cases e with
  | normal => exact h _ _ _ hq
  | ret => exact h _ _ _ hq
  | exit j =>
   simp only [zoq] at hq ⊢
   split
   ·rename_i hj; rw [if_pos hj] at hq; exact h _ _ _ hq
   ·rename_i hj; rw [if_neg hj] at hq; exact h _ _ _ hq) S σ k
 | .loop x, Q, Q', h, S, σ, ⟨m, k⟩ => ⟨m, zqm (fun hq => zdv x hq) h m S σ k⟩
 | .exit id, Q, Q', h, S, σ, k => h _ S σ k
 | .ret, Q, Q', h, S, σ, k => h _ S σ k
 | .region _ ops false, Q, Q', h, S, σ, k => zjr (h .normal) _ _ _ k
 | .region _ ops true, Q, Q', h, S, σ, .inl ⟨n, k1, k2, k3⟩ => .inl ⟨n, k1, k2, zlz (fun S' => zjr (h .normal) _ _ _) _ _ k3⟩
 | .region _ ops true, Q, Q', h, S, σ, .inr (.inl ⟨n, k1, k2, k3⟩) => .inr (.inl ⟨n, k1, k2, zin (fun S' ps => zjr (h .normal) _ _ _) _ _ _ k3⟩)
 | .region _ ops true, Q, Q', h, S, σ, .inr (.inr k) => .inr (.inr (zjt (h .normal) _ _ _ _ k))
 | .rangeFunc f ps asg body, Q, Q', h, S, σ, .inl ⟨xs, k1, k0, k2, k3, k4⟩ => .inl ⟨xs, k1, k0, k2, k3, zmn (Fa := fun k => awp IT P W k asg) (Fb := fun k => awp IT P W k body) (fun k => fun hq => zdv asg hq) (fun k => fun hq => zdv body hq) h xs σ k4⟩
 | .rangeFunc f ps asg body, Q, Q', h, S, σ, .inr ⟨g, n, t, cs, xs, S', k1, k2, k3, k4, k5, k6, k7, k8, k9, q1, q2, q3, q4⟩ => .inr ⟨g, n, t, cs, xs, S', k1, k2, k3, k4, k5, k6, k7, k8, k9, q1, q2, q3, zmn (Fa := fun k => awp IT P W k asg) (Fb := fun k => awp IT P W k body) (fun k => fun hq => zdv asg hq) (fun k => fun hq => zdv body hq) h xs _ q4⟩
 | .scope x, Q, Q', h, S, σ, k => zdv x h S σ k
 | .label _, Q, Q', h, S, σ, k => h _ S σ k
 | .goto _, _, _, _, _, _, k => k.elim
 | .refuse _, _, _, _, _, _, k => k.elim
theorem zf {x y : Code} {Q : AQ} {S : List AV} {σ : St} (h : awp IT P W k0 x (zva (awp IT P W k0 y Q) Q) S σ) : awp IT P W k0 (.seq x y) Q S σ :=
 zdv x (zpf (fun S σ k => ⟨S, σ, Wk.refl _ _ _, k⟩) fun _ _ _ k => k) S σ h
def to (n0 : Nat) (S' : List AV) (σ' : St) (Q : AQ) : AQ
 | .normal, S, σ => Wk n0 S σ S' σ'
 | e, S, σ => Q e S σ
theorem zb {id : Nat} {ops : Array Oper} {Q : AQ} {S : List AV} {σ : St} (h : zcw IT P W ops (Q .normal) ops.toList S σ) : awp IT P W k0 (.region id ops false) Q S σ := h
theorem zby {c : Operand} {x y : Code} {Q : AQ} {S : List AV} {σ : St} (hc : zej S c = .raw (.bool true)) (h : awp IT P W k0 x Q S σ) : awp IT P W k0 (.cond c x y) Q S σ := ⟨true, hc, h⟩
theorem zcb {c : Operand} {x y : Code} {Q : AQ} {S : List AV} {σ : St} (hc : zej S c = .raw (.bool false)) (h : awp IT P W k0 y Q S σ) : awp IT P W k0 (.cond c x y) Q S σ := ⟨false, hc, h⟩
theorem w_label {id : Nat} {Q : AQ} {S : List AV} {σ : St} (h : Q .normal S σ) : awp IT P W k0 (.label id) Q S σ := h
theorem w_scope {x : Code} {Q : AQ} {S : List AV} {σ : St} (h : awp IT P W k0 x Q S σ) : awp IT P W k0 (.scope x) Q S σ := h
theorem zn {id : Nat} {x : Code} {Q : AQ} {S : List AV} {σ : St} (h : awp IT P W k0 x (zoq id Q) S σ) : awp IT P W k0 (.block id x) Q S σ := h
theorem zuv {ops : Array Oper} {Q : List AV → St → Prop} {o : Oper} {l : List Oper} {S S' : List AV} {σ σ' : St} {a : AV} (hg : o.guard = none) (hc : zeb S o = none) (hy : zee S o = none) (h : aop P (zej S) σ o = some (a, σ')) (hS : zab S o.dst a = S')
 (k : zcw IT P W ops Q l S' σ') : zcw IT P W ops Q (o :: l) S σ := by
 simp only [zcw, hg, zgh, hc, hy]
 exact .inl ⟨a, σ', .inl h, by rw [hS]; exact k⟩
theorem z4w {ops : Array Oper} {Q : List AV → St → Prop} {o : Oper} {l : List Oper} {S S' : List AV} {σ : St} (a : AV) (hg : o.guard = none) (hc : zeb S o = none) (hy : zee S o = none) (h : zoj P (zej S) o a) (hS : zab S o.dst a = S')
 (k : zcw IT P W ops Q l S' σ) : zcw IT P W ops Q (o :: l) S σ := by
 simp only [zcw, hg, zgh, hc, hy]
 exact .inl ⟨a, σ, .inr (.inl ⟨rfl, h⟩), by rw [hS]; exact k⟩
theorem w_call {ops : Array Oper} {Q : List AV → St → Prop} {o : Oper} {l : List Oper} {S S' : List AV} {σ : St} {f : FuncId} {args : List AV} {r : AV} (hp : Pure IT P f (stripL args) r) (hg : o.guard = none) (hc : zeb S o = some (f, args)) (hok : zw 0 args = true) (hS : zab S o.dst r = S')
 (k : zcw IT P W ops Q l S' σ) : zcw IT P W ops Q (o :: l) S σ := by
 simp only [zcw, hg, zgh, hc]
 exact ⟨r, σ, .inr (.inl ⟨rfl, hok, hp⟩), by rw [hS]; exact k⟩
theorem w_callf {ops : Array Oper} {Q : List AV → St → Prop} {o : Oper} {l : List Oper} {S S' : List AV} {σ : St} {f : FuncId} {args args' : List AV} {r : AV} (n : Nat) (hp : Pure IT P f args' r) (hg : o.guard = none) (hc : zeb S o = some (f, args)) (ha : zbi (frz σ.boxes n) args = args') (hraw : ztg r = true) (hS : zab S o.dst r = S')
 (k : zcw IT P W ops Q l S' σ) : zcw IT P W ops Q (o :: l) S σ := by
 simp only [zcw, hg, zgh, hc]
 exact ⟨r, σ, .inr (.inr (.inl ⟨rfl, hraw, n, by rw [ha]; exact hp⟩)), by rw [hS]; exact k⟩
theorem w_yield {ops : Array Oper} {Q : List AV → St → Prop} {o : Oper} {l : List Oper} {S : List AV} {σ : St} {n : Nat} {args row : List AV} {rows : List (List AV)} (hg : o.guard = none) (hc : zeb S o = none) (hy : zee S o = some (n, args)) {G : Gen} (hW : W = some G) (hGl : G.l = n) (hGr : G.rows = rows) (hr : rows[σ.out]? = some row) (hs : stripL args = row) (hok : zw 0 args = true) (hni : zce args = true) (hst : σ.stop = false)
 (k1 : zcw IT P W ops Q l (zab S o.dst (.raw (.bool true))) { σ with out := σ.out + 1 }) (k2 : zcw IT P W ops Q l (zab S o.dst (.raw (.bool false))) { σ with stop := true }) : zcw IT P W ops Q (o :: l) S σ := by
 simp only [zcw, hg, zgh, hc, hy]
 exact ⟨G, row, hW, hGl, by rw [hGr]; exact hr, hs, hok, hni, hst, k1, k2⟩
theorem zam {c : Code} {Q : AQ} {S S' : List AV} {σ σ' : St} (hS : S = S') (hσ : σ = σ') (h : awp IT P W k0 c Q S' σ') : awp IT P W k0 c Q S σ := by subst hS hσ; exact h
theorem znj {ops : Array Oper} {Q : List AV → St → Prop} {o : Oper} {l : List Oper} {S S' : List AV} {σ σ' σ'' : St} {a : AV} (hg : o.guard = none) (hc : zeb S o = none) (hy : zee S o = none) (h : aop P (zej S) σ o = some (a, σ')) (hS : zab S o.dst a = S') (hσ : σ' = σ'')
 (k : zcw IT P W ops Q l S' σ'') : zcw IT P W ops Q (o :: l) S σ := by
 subst hσ
 exact zuv hg hc hy h hS k
theorem zmc {ops : Array Oper} {Q : List AV → St → Prop} {o : Oper} {l : List Oper} {S S' : List AV} {σ σ' σ'' : St} {a : AV} (hg : o.guard = none) (hc : zeb S o = none) (hy : zee S o = none) (h : zxh P (zej S) σ o = some (a, σ')) (hS : zab S o.dst a = S') (hσ : σ' = σ'')
 (k : zcw IT P W ops Q l S' σ'') : zcw IT P W ops Q (o :: l) S σ := by
 subst hσ
 simp only [zcw, hg, zgh, hc, hy]
 exact .inl ⟨a, σ', .inr (.inr (.inl h)), by rw [hS]; exact k⟩
theorem w_nil {ops : Array Oper} {Q : List AV → St → Prop} {o : Oper} {l : List Oper} {S S1 S2 : List AV} {σ : St} (n : Nat) (neg : Bool) (hg : o.guard = none) (hc : zeb S o = none) (hy : zee S o = none) (h : zyt P (zej S) o n neg)
 (h1 : zab S o.dst (.raw (.bool (!neg))) = S1) (h2 : zab S o.dst (.raw (.bool neg)) = S2) (k1 : n = 0 → zcw IT P W ops Q l S1 σ) (k2 : zcw IT P W ops Q l S2 σ) : zcw IT P W ops Q (o :: l) S σ := by
 simp only [zcw, hg, zgh, hc, hy]
 exact .inr ⟨n, neg, .inl h, fun e => by rw [h1]; exact k1 e, by rw [h2]; exact k2⟩
theorem z0k {ops : Array Oper} {Q : List AV → St → Prop} {o : Oper} {l : List Oper} {S S' : List AV} {σ σ' : St} {f : FuncId} {args : List AV} {r : AV} (hp : Snd IT P f args σ r σ') (hg : o.guard = none) (hc : zeb S o = some (f, args)) (ho : σ'.out = σ.out ∧ σ'.stop = σ.stop) (hS : zab S o.dst r = S')
 (k : zcw IT P W ops Q l S' σ') : zcw IT P W ops Q (o :: l) S σ := by
 simp only [zcw, hg, zgh, hc]
 exact ⟨r, σ', .inl ⟨hp, ho⟩, by rw [hS]; exact k⟩
theorem qne {ops : Array Oper} {Q : List AV → St → Prop} {o : Oper} {l : List Oper} {S S' : List AV} {σ : St} {kb : Nat} {b : Bool} {c : Option Bool} (hg : o.guard = some (kb, b)) (hk : zgn ops S kb = some c) (hcb : c ≠ some b) (hS : zab S o.dst (.raw undef) = S') (k : zcw IT P W ops Q l S' σ) : zcw IT P W ops Q (o :: l) S σ := by
 simp only [zcw, hg]
 exact ⟨c, hk, by rw [if_neg hcb, hS]; exact k⟩
theorem zak {ops : Array Oper} {Q : List AV → St → Prop} {o : Oper} {l : List Oper} {S : List AV} {σ : St} {kb : Nat} {b : Bool} (hg : o.guard = some (kb, b)) (hk : zgn ops S kb = some (some b)) (k : zcw IT P W ops Q ({ o with guard := none } :: l) S σ) : zcw IT P W ops Q (o :: l) S σ := by
 simp only [zcw, hg]
 refine ⟨some b, hk, ?_⟩
 rw [if_pos rfl]
 have e : zgh IT P W { o with guard := none } S σ = zgh IT P W o S σ := rfl
 simp only [zcw] at k
 rw [e] at k
 exact k
end
theorem zos {x : Int} (h1 : -9223372036854775808 ≤ x) (h2 : x < 9223372036854775808) : IntKind.i64.wrap x = x := by
 simp only [IntKind.wrap, IntKind.bits, IntKind.signed]
 simp
 omega
end Go.Ab
