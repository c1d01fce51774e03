/-
  Plain laws of sets of bytes as vectors of 256 bits, and of their four words.
-/
import Derived.RowKit
import Derived.Laws.Bits64
import Derived.Laws.Shifts
set_option linter.unusedSimpArgs false
set_option linter.unusedVariables false
namespace Go.Proofs.Ytjmhbbbpjbgmjaa
open Go

/-- A set of bytes. -/
abbrev BS := BitVec 256
/-- Its word i. -/
def W (S : BS) (i : Nat) : BitVec 64 := S.extractLsb' (64 * i) 64
/-- A word as a number. -/
def wn (x : BitVec 64) : Int := (x.toNat : Int)
def wd (S : BS) (i : Nat) : Int := wn (W S i)
/-- As a Go value. -/
def sv (S : BS) : Value := .agg #[.int .u64 (wd S 0), .int .u64 (wd S 1), .int .u64 (wd S 2), .int .u64 (wd S 3)]

theorem W_get (S : BS) (i j : Nat) (hj : j < 64) : (W S i).getLsbD j = S.getLsbD (64 * i + j) := by
  simp [W, hj]
theorem W_or (A B : BS) (i : Nat) : W (A ||| B) i = W A i ||| W B i := by
  apply BitVec.eq_of_getLsbD_eq; intro j hj; simp only [BitVec.getLsbD_or, W_get _ _ _ hj]
theorem W_and (A B : BS) (i : Nat) : W (A &&& B) i = W A i &&& W B i := by
  apply BitVec.eq_of_getLsbD_eq; intro j hj; simp only [BitVec.getLsbD_and, W_get _ _ _ hj]
theorem W_not (A : BS) (i : Nat) (hi : i < 4) : W (~~~A) i = ~~~(W A i) := by
  apply BitVec.eq_of_getLsbD_eq; intro j hj; simp only [BitVec.getLsbD_not, W_get _ _ _ hj, hj, show 64 * i + j < 256 by omega]
theorem W_zero (i : Nat) : W 0#256 i = 0#64 := by
  apply BitVec.eq_of_getLsbD_eq; intro j hj; simp only [BitVec.getLsbD_zero, W_get _ _ _ hj]
theorem wd_zero (i : Nat) : wd 0#256 i = 0 := by simp [wd, wn, W_zero]
theorem W_bit (c i : Nat) (hc : c < 256) (_hi : i < 4) : W (1#256 <<< c) i = if i = c / 64 then 1#64 <<< (c % 64) else 0#64 := by
  apply BitVec.eq_of_getLsbD_eq; intro j hj
  rw [W_get _ _ _ hj]
  split
  · rename_i h
    simp only [BitVec.getLsbD_shiftLeft, BitVec.getLsbD_one]
    have : (64 * i + j < 256) := by omega
    by_cases hjc : j = c % 64
    · subst hjc
      have e : 64 * (c / 64) + c % 64 = c := by omega
      rw [h, e]; simp [hc, hj]
    · have h1 : ¬ (64 * i + j - c = 0 ∧ c ≤ 64 * i + j) := by omega
      simp only [this, hj, decide_true, Bool.true_and]
      by_cases h2 : 64 * i + j < c
      · have : j < c % 64 := by omega
        simp [h2, this]
      · have : ¬ j < c % 64 := by omega
        simp only [h2, this, decide_false, Bool.not_false, Bool.true_and]
        have h3 : 64 * i + j - c ≠ 0 := by omega
        have h4 : j - c % 64 ≠ 0 := by omega
        simp [h3, h4]
  · rename_i h
    simp only [BitVec.getLsbD_shiftLeft, BitVec.getLsbD_one, BitVec.getLsbD_zero]
    by_cases h2 : 64 * i + j < c
    · simp [h2]
    · have h3 : 64 * i + j - c ≠ 0 := by omega
      simp [h2, h3]

theorem ofInt_toNat (x : BitVec 64) : BitVec.ofInt 64 (x.toNat : Int) = x := by
  apply BitVec.eq_of_toNat_eq; simp
theorem wrap_toNat (x : BitVec 64) : IntKind.u64.wrap (x.toNat : Int) = (x.toNat : Int) := by
  rw [IntKind.wrap_u64]; have := x.isLt; omega
theorem bits_or (x y : BitVec 64) : bits .or .u64 x.toNat y.toNat = ((x ||| y).toNat : Int) := by
  unfold bits; simp only [IntKind.bits]; rw [ofInt_toNat, ofInt_toNat]; exact wrap_toNat _
theorem bits_and (x y : BitVec 64) : bits .and .u64 x.toNat y.toNat = ((x &&& y).toNat : Int) := by
  unfold bits; simp only [IntKind.bits]; rw [ofInt_toNat, ofInt_toNat]; exact wrap_toNat _
theorem bits_andNot (x y : BitVec 64) : bits .andNot .u64 x.toNat y.toNat = ((x &&& ~~~y).toNat : Int) := by
  unfold bits; simp only [IntKind.bits]; rw [ofInt_toNat, ofInt_toNat]; exact wrap_toNat _
theorem bits_not (x : BitVec 64) : bits .xor .u64 IntKind.u64.max x.toNat = ((~~~x).toNat : Int) := by
  have e : IntKind.u64.max = ((BitVec.allOnes 64).toNat : Int) := by decide
  unfold bits; simp only [IntKind.bits]; rw [e, ofInt_toNat, ofInt_toNat, wrap_toNat]
  congr 2
theorem bits_or' (x y : BitVec 64) : bits .or .u64 (wn x) (wn y) = wn (x ||| y) := bits_or x y
theorem bits_and' (x y : BitVec 64) : bits .and .u64 (wn x) (wn y) = wn (x &&& y) := bits_and x y
theorem bits_andNot' (x y : BitVec 64) : bits .andNot .u64 (wn x) (wn y) = wn (x &&& ~~~y) := bits_andNot x y
theorem bits_not' (x : BitVec 64) : bits .xor .u64 IntKind.u64.max (wn x) = wn (~~~x) := bits_not x
theorem has_bit (S : BS) (x : Nat) : (bits .and .u64 (wd S (x / 64) / 2 ^ (x % 64)) 1 == 1) = S.getLsbD x := by
  have e1 : (1 : Int) = ((1#64).toNat : Int) := by decide
  have e2 : wd S (x / 64) / 2 ^ (x % 64) = ((W S (x / 64) >>> (x % 64)).toNat : Int) := by
    unfold wd wn; rw [BitVec.toNat_ushiftRight, Nat.shiftRight_eq_div_pow]; push_cast; rfl
  rw [e2]
  rw [show bits .and .u64 (((W S (x / 64) >>> (x % 64)).toNat : Nat) : Int) 1 = bits .and .u64 ((W S (x / 64) >>> (x % 64)).toNat : Int) ((1#64).toNat : Int) from by rw [← e1]]
  rw [bits_and]
  have e3 : W S (x / 64) >>> (x % 64) &&& 1#64 = if S.getLsbD x then 1#64 else 0#64 := by
    apply BitVec.eq_of_getLsbD_eq; intro j hj
    have hx : 64 * (x / 64) + x % 64 = x := by omega
    rw [BitVec.getLsbD_and, BitVec.getLsbD_ushiftRight]
    by_cases h0 : j = 0
    · subst h0; rw [Nat.add_zero, W_get _ _ _ (by omega), hx]; split <;> simp_all
    · split <;> simp [h0]
  rw [e3]; split <;> simp_all

theorem sv_inj {A B : BS} (h : ∀ i, i < 4 → wd A i = wd B i) : A = B := by
  apply BitVec.eq_of_getLsbD_eq; intro j hj
  have h1 := h (j / 64) (by omega)
  unfold wd wn at h1
  have h2 : W A (j / 64) = W B (j / 64) := BitVec.eq_of_toNat_eq (by omega)
  have h3 := congrArg (fun x => x.getLsbD (j % 64)) h2
  simp only [W_get _ _ _ (show j % 64 < 64 by omega)] at h3
  rwa [show 64 * (j / 64) + j % 64 = j by omega] at h3
end Go.Proofs.Ytjmhbbbpjbgmjaa
