/-
  The abstract machine: regions whose order is open, order by order.
-/
import Derived.Test.YtcdmdnadilafhaaDoorZdJ2
set_option linter.unusedSimpArgs false
set_option linter.unusedVariables false
namespace Go.Ab
open Go Go.RowKit Go.Fwd

def aopAt (IT : IterP) (P : Program) (W : Owed) (ops : Array Oper) (K : List AV → St → Prop) (i : Nat) (S : List AV) (σ : St) : Prop :=
  match ops[i]? with
  | none => K S σ
  | some o => match o.guard with
    | none => astep IT P W o S σ fun a σ' => K (aput S o.dst a) σ'
    | some (k, b) => ∃ c, aguard ops S k = some c ∧ (if c = some b then astep IT P W o S σ fun a σ' => K (aput S o.dst a) σ' else K (aput S o.dst (.raw undef)) σ)
/-- Whatever the order that the region lets be. -/
def aany (IT : IterP) (P : Program) (W : Owed) (ops : Array Oper) (Q : List AV → St → Prop) : Nat → Array Bool → List AV → St → Prop
  | 0, listed, S, σ => Region.ready .any ops listed = [] ∧ Q S σ
  | k + 1, listed, S, σ => (Region.ready .any ops listed = [] → Q S σ) ∧ ∀ i ∈ Region.ready .any ops listed, aopAt IT P W ops (fun S σ => aany IT P W ops Q k (listed.setIfInBounds i true) S σ) i S σ
def adrawC (IT : IterP) (P : Program) (W : Owed) (ops : Array Oper) (Q : List AV → St → Prop) (S : List AV) (σ : St) : Prop := aany IT P W ops Q ops.size (Array.replicate ops.size false) S σ
section
variable {IT : IterP} {P : Program} {M : Option Gen} {F : Fence} {nn B : Nat}
theorem aany_sound (hIT : ITMono IT) (hF : FenceOk F P) (hG : GenM P B M) {ops : Array Oper} {Q : List AV → St → Prop} {K : Exit → Act → World → Prop} {X0 : Cx} (hQ : ∀ S σ X a, Q S σ → Now IT M F B X0 S σ X a → K .normal a X.w) :
    ∀ (k : Nat) (listed : Array Bool) (S : List AV) (σ : St) (X : Cx) (a : Act), aany IT P (rowsOf M) ops Q k listed S σ → Now IT M F B X0 S σ X a → wpAnyIn F nn P .any ops K k listed a X.w
  | 0, listed, S, σ, X, a, h, hn => ⟨h.1, hQ _ _ _ _ h.2 hn⟩
  | k + 1, listed, S, σ, X, a, h, hn => by
    refine ⟨fun he => hQ _ _ _ _ (h.1 he) hn, fun i hi => ?_⟩
    have h := h.2 i hi
    unfold aopAt at h
    unfold wpOpIn
    cases ho : ops[i]? with
    | none =>
      rw [ho] at h
      exact aany_sound hIT hF hG hQ k _ S σ X a h hn
    | some o =>
      rw [ho] at h
      simp only at h ⊢
      cases hg : o.guard with
      | none =>
        rw [hg] at h
        rw [if_pos (by simp [Region.wanted, hg])]
        exact astep_sound hIT hF hG h hn fun x σ' X' a' hk hn' => aany_sound hIT hF hG hQ k _ _ _ _ _ hk hn'
      | some kb =>
        obtain ⟨j, b⟩ := kb
        rw [hg] at h
        obtain ⟨c, hc, h⟩ := h
        have hy := aguard_sound hc hn.reps
        by_cases e : c = some b
        · rw [if_pos e] at h
          rw [if_pos (by simp [Region.wanted, hg, hy, e])]
          exact astep_sound hIT hF hG h hn fun x σ' X' a' hk hn' => aany_sound hIT hF hG hQ k _ _ _ _ _ hk hn'
        · rw [if_neg e] at h
          rw [if_neg (by simp [Region.wanted, hg, hy, e])]
          exact ⟨fun f _ => hF.fn f, aany_sound hIT hF hG hQ k _ _ _ _ _ h (now_put hG hIT hn (Ext.refl X) hn.inv ⟨rfl, rfl⟩ o.dst (by rw [Rep]))⟩
theorem adrawC_sound (hIT : ITMono IT) (hF : FenceOk F P) (hG : GenM P B M) (hmix : P.follows .mixedOrders = true) {id : Nat} {ops : Array Oper} {Q : List AV → St → Prop} {K : Exit → Act → World → Prop} {X0 X : Cx} {S : List AV} {σ : St} {a : Act}
    (hQ : ∀ S σ X a, Q S σ → Now IT M F B X0 S σ X a → K .normal a X.w) (h : adrawC IT P (rowsOf M) ops Q S σ) (hn : Now IT M F B X0 S σ X a) : (Code.region id ops true).wpIn F nn P K a X.w := by
  refine wpIn_region_any hmix ?_
  obtain ⟨hE, hI⟩ := inv_drew hIT hn.inv
  have hrs : RepS IT { X with w := X.w.drew } S a.tmps := repL_mono hIT hE _ _ hn.reps
  have hnow : Now IT M F B X0 S σ { X with w := X.w.drew } a := ⟨hn.ext.trans (Rel.of hE), hI, hrs, hn.marks.ext hE hn.inv, FrM.ext hG hn.frn hE hn.inv rfl rfl⟩
  exact aany_sound (nn := nn) hIT hF hG hQ ops.size _ S σ _ a h hnow
end
/-! ### equality of what is known -/
def eqV : Value → Value → Bool
  | .int k a, .int k' b => decide (k = k') && decide (a = b)
  | .bool a, .bool b => a == b
  | .string a, .string b => decide (a.data = b.data)
  | .pointer a, .pointer b => decide (a = b)
  | .slice a n m, .slice a' n' m' => decide (a = a') && decide (n = n') && decide (m = m')
  | .nilFunc, .nilFunc => true
  | .nilIface, .nilIface => true
  | .tuple a, .tuple b => decide (a.size = 0) && decide (b.size = 0)
  | _, _ => false
theorem eqV_ok {a b : Value} (h : eqV a b = true) : a = b := by
  unfold eqV at h
  split at h <;> (try simp only [Bool.and_eq_true, decide_eq_true_eq, beq_iff_eq] at h)
  · rw [h.1, h.2]
  · rw [h]
  · rename_i a b; cases a; cases b; simp only at h; rw [h]
  · rw [h]
  · rw [h.1.1, h.1.2, h.2]
  · rfl
  · rfl
  · rename_i a b; rw [Array.eq_empty_of_size_eq_zero h.1, Array.eq_empty_of_size_eq_zero h.2]
  · cases h
mutual
def eqAV : AV → AV → Bool
  | .raw a, .raw b => eqV a b
  | .agg a, .agg b => eqAVL a b
  | .tup a, .tup b => eqAVL a b
  | .list n a st, .list m b st' => decide (n = m) && decide (st = st') && eqAVL a b
  | .ptr s o, .ptr s' o' => decide (s = s') && decide (o = o')
  | .bsl s o n z f, .bsl s' o' n' z' f' => decide (s = s') && decide (o = o') && decide (n = n') && decide (z = z') && decide (f = f')
  | .iptr a, .iptr b => eqAVL a b
  | .clos f a, .clos g b => decide (f = g) && eqAVL a b
  | .top, .top => true
  | _, _ => false
def eqAVL : List AV → List AV → Bool
  | [], [] => true
  | a :: l, b :: m => eqAV a b && eqAVL l m
  | _, _ => false
end
mutual
theorem eqAV_ok : ∀ a b, eqAV a b = true → a = b
  | .raw a, b, h => by cases b <;> simp only [eqAV] at h <;> first | (cases h; done) | rw [eqV_ok h]
  | .agg a, b, h => by cases b <;> simp only [eqAV] at h <;> first | (cases h; done) | rw [eqAVL_ok _ _ h]
  | .tup a, b, h => by cases b <;> simp only [eqAV] at h <;> first | (cases h; done) | rw [eqAVL_ok _ _ h]
  | .iptr a, b, h => by cases b <;> simp only [eqAV] at h <;> first | (cases h; done) | rw [eqAVL_ok _ _ h]
  | .clos f a, b, h => by
    cases b <;> simp only [eqAV] at h <;> first | (cases h; done) | skip
    rw [Bool.and_eq_true, decide_eq_true_eq] at h
    rw [h.1, eqAVL_ok _ _ h.2]
  | .list n a st, b, h => by
    cases b <;> simp only [eqAV] at h <;> first | (cases h; done) | skip
    simp only [Bool.and_eq_true, decide_eq_true_eq] at h
    rw [h.1.1, h.1.2, eqAVL_ok _ _ h.2]
  | .ptr _ _, b, h => by
    cases b <;> simp only [eqAV] at h <;> first | (cases h; done) | skip
    simp only [Bool.and_eq_true, decide_eq_true_eq] at h
    rw [h.1, h.2]
  | .bsl _ _ _ _ _, b, h => by
    cases b <;> simp only [eqAV] at h <;> first | (cases h; done) | skip
    simp only [Bool.and_eq_true, decide_eq_true_eq] at h
    obtain ⟨⟨⟨⟨h1, h2⟩, h3⟩, h4⟩, h5⟩ := h
    rw [h1, h2, h3, h4, h5]
  | .top, b, h => by cases b <;> simp only [eqAV] at h <;> first | (cases h; done) | rfl
  | .iter _, b, h => by cases b <;> simp only [eqAV] at h <;> cases h
  | .yld _, b, h => by cases b <;> simp only [eqAV] at h <;> cases h
  | .bad, b, h => by cases b <;> simp only [eqAV] at h <;> cases h
theorem eqAVL_ok : ∀ a b, eqAVL a b = true → a = b
  | [], [], _ => rfl
  | a :: l, b :: m, h => by
    simp only [eqAVL, Bool.and_eq_true] at h
    rw [eqAV_ok a b h.1, eqAVL_ok l m h.2]
  | [], _ :: _, h => by simp only [eqAVL] at h; cases h
  | _ :: _, [], h => by simp only [eqAVL] at h; cases h
end
def eqBx : List (TypeId × List AV) → List (TypeId × List AV) → Bool
  | [], [] => true
  | a :: l, b :: m => decide (a.1 = b.1) && eqAVL a.2 b.2 && eqBx l m
  | _, _ => false
theorem eqBx_ok : ∀ a b, eqBx a b = true → a = b
  | [], [], _ => rfl
  | a :: l, b :: m, h => by
    simp only [eqBx, Bool.and_eq_true, decide_eq_true_eq] at h
    obtain ⟨⟨h1, h2⟩, h3⟩ := h
    rw [eqBx_ok l m h3]
    cases a; cases b
    simp only at h1 h2
    rw [h1, eqAVL_ok _ _ h2]
  | [], _ :: _, h => by simp only [eqBx] at h; cases h
  | _ :: _, [], h => by simp only [eqBx] at h; cases h
def eqSt (a b : St) : Bool := eqBx a.boxes b.boxes && decide (a.lens = b.lens) && decide (a.elems = b.elems) && decide (a.out = b.out) && decide (a.stop = b.stop)
theorem eqSt_ok {a b : St} (h : eqSt a b = true) : a = b := by
  simp only [eqSt, Bool.and_eq_true, decide_eq_true_eq] at h
  obtain ⟨⟨⟨⟨h1, h2⟩, h3⟩, h4⟩, h5⟩ := h
  cases a; cases b
  simp only at h1 h2 h3 h4 h5
  rw [eqBx_ok _ _ h1, h2, h3, h4, h5]
end Go.Ab

