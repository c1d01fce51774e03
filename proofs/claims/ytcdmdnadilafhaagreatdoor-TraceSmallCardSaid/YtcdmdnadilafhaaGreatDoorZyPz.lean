/-
  trace: lines are read back; what is read of a line.
-/
import Derived.Test.YtcdmdnadilafhaaGreatDoorZyPc
import Derived.Test.YtcdmdnadilafhaaGreatDoorZyWb
import Derived.Lib.ItoaLen
import Derived.Lib.AtoiAllCases
import Derived.Lib.AtoiTie
set_option linter.unusedSimpArgs false
set_option linter.unusedVariables false
namespace Go.Ab
open Go Go.RowKit Go.Fwd
abbrev cutQ {τ α : Type} (R : τ → Prop) (Q : α → Prop) (o : τ ⊕ α) : Prop := match o with | .inl t => R t | .inr y => Q y
def Ok {α : Type} (Q : α → Prop) (x : Option α) : Prop := ∃ r, x = some r ∧ Q r
section
variable {α β τ ρ : Type} {Q : α → Prop}
theorem ze {p : Prop} [Decidable p] {k : Option α} (h : p) (hk : Ok Q k) : Ok Q (chk p k) := by rw [zxz h]; exact hk
theorem zn {e : β} {k : β → Option α} (h : ∀ x, e = x → Ok Q (k x)) : Ok Q (za7 e k) := h e rfl
theorem zjp {x : Option β} {k : β → Option α} {R : β → Prop} (h : Ok R x) (hk : ∀ a, R a → Ok Q (k a)) : Ok Q (z1 x k) := by
 obtain ⟨a, rfl, ha⟩ := h; exact hk a ha
theorem zi {c : Bool} {A B : Option α} (ht : c = true → Ok Q A) (hf : c = false → Ok Q B) : Ok Q (bif c then A else B) := by
 cases c with
 | true => exact ht rfl
 | false => exact hf rfl
theorem zd {r : α} (h : Q r) : Ok Q (some r) := ⟨r, rfl, h⟩
theorem zaw {x : Option (τ ⊕ α)} {k : τ → Option α} (R : τ → Prop) (h : Ok (cutQ R Q) x) (hk : ∀ t, R t → Ok Q (k t)) : Ok Q (zcr x k) := by
 obtain ⟨o, rfl, h⟩ := h
 cases o with
 | inl t => exact hk t h
 | inr y => exact ⟨y, rfl, h⟩
theorem zay {body : β → Option (β ⊕ α)} (T : β → Prop) (m : β → Nat) (hs : ∀ s, T s → Ok (cutQ (fun s' => T s' ∧ m s' < m s) Q) (body s)) : ∀ (n : Nat) (s0 : β), m s0 < n → T s0 → Ok Q (zbh body n s0)
 | 0, s0, h, _ => absurd h (Nat.not_lt_zero _)
 | n + 1, s0, h, h0 => by
  obtain ⟨o, ho, h1⟩ := hs s0 h0
  cases o with
  | inl s' =>
   obtain ⟨r, h2, h3⟩ := zay T m hs n s' (by have := h1.2; omega) h1.1
   exact ⟨r, by simp only [zbh, ho, h2], h3⟩
  | inr y => exact ⟨y, by simp only [zbh, ho], h1⟩
theorem Ok.mono {R : α → Prop} {x : Option α} (h : Ok Q x) (hR : ∀ r, Q r → R r) : Ok R x := by
 obtain ⟨r, h1, h2⟩ := h; exact ⟨r, h1, hR r h2⟩
theorem Ok.eq {x : Option α} {v : α} (h : Ok (fun r => r = v) x) : x = some v := by
 obtain ⟨r, h1, rfl⟩ := h; exact h1
theorem ok_eq {x : Option α} {v : α} (h : x = some v) : Ok (fun r => r = v) x := ⟨v, h, rfl⟩
end
end Go.Ab
set_option linter.unusedSimpArgs false
set_option linter.unusedVariables false
namespace Go.Ab
open Go Go.RowKit Go.Fwd Go.Proofs
theorem zvn (p : UInt8 → Bool) (h : ((List.range 256).all fun n => p n.toUInt8) = true) (c : UInt8) : p c = true := zr0 (p := fun c => p c = true) h (fun n _ h => h) c
def zcu (b : List UInt8) : List UInt8 := 34 :: (b.flatMap byteP) ++ [34]
def zdo (e : En) : List UInt8 := (zbe e.k).w ++ 32 :: (if e.k = 1 then zcu e.b else Lib.itoa e.fr ++ 32 :: Lib.itoa e.to)
def zhy (e : Ed) : List UInt8 := if e.k = 2 then [101, 120, 105, 116, 32] ++ Lib.itoa e.c else zfr e.k
def zec (l : List En) : List UInt8 := l.flatMap fun e => zdo e ++ [10]
def zve (t : Trc) : List UInt8 := zec t.l ++ (zhy t.e ++ [10])
theorem zhi (c : UInt8) : 1 ≤ (byteP c).length ∧ (byteP c).length ≤ 4 := by
 unfold byteP; repeat' split
 all_goals simp
theorem zfj (b : List UInt8) : (b.flatMap byteP).length ≤ 4 * b.length := by
 induction b with
 | nil => simp
 | cons c b ih => have := zhi c; simp only [List.flatMap_cons, List.length_append, List.length_cons]; omega
theorem zym (fuel : Nat) (b : List UInt8) (m : QSet) (hf : b.length < fuel) (hb : b.length ≤ 1000000000) : zi6 fuel b m = some (b.flatMap byteP) := by
 unfold zi6
 refine Ok.eq (zaw (fun t => t.2 = b.flatMap byteP) ?_ (fun t h => zd h))
 refine zay (fun s => ∃ i : Nat, s.1 = (i : Int) ∧ i ≤ b.length ∧ s.2.2 = (b.take i).flatMap byteP) (fun s => b.length - s.1.toNat) (fun s hT => ?_) _ _ (by simp; omega) ⟨0, rfl, by omega, by simp⟩
 obtain ⟨i, h1, h2, h3⟩ := hT
 obtain ⟨s1, s2, s3⟩ := s
 simp only at h1 h3
 subst h1 h3
 refine zi (fun hc => ?_) (fun hc => ?_)
 ·have hc : i < b.length := by have := of_decide_eq_true hc; omega
  have hx : ix b (i : Int) = b[i] := by simp [ix, hc]
  have hfl := zfj (b.take i)
  have hbl := zhi b[i]
  have htl : (b.take i).length ≤ b.length := by simp; omega
  refine ze (by simp only; omega) (zn fun x hx' => zn fun y hy => ze ?_ (ze (by simp only; omega) (zd ?_)))
  ·rw [← hy, ← hx', hx]; simp only; omega
  ·refine ⟨⟨i + 1, by simp, by omega, ?_⟩, by simp only; omega⟩
   simp only
   rw [← hy, ← hx', hx, List.take_succ_eq_append_getElem hc, List.flatMap_append]
   simp
 ·have hc : i = b.length := by have := of_decide_eq_false hc; simp only at this; omega
  exact zd (by simp [hc])
theorem z11 (fuel : Nat) (b : List UInt8) (hf : b.length < fuel) (hb : b.length ≤ 1000000000) : zme fuel b = some (zcu b) := by
 have := zfj b
 unfold zme
 rw [zym fuel b _ hf hb, bindE_some]
 refine zal (by simp only [List.length_cons, List.length_nil]; omega) (zal (by simp only [List.length_append, List.length_cons, List.length_nil]; omega) ?_)
 simp [zcu]
theorem z2m (k : Int) : (zbe k).w.length ≤ 5 := by
 unfold zbe
 repeat' split
 all_goals simp
theorem zqv (fuel : Nat) (e : En) (hk : 1 ≤ e.k ∧ e.k ≤ 3) (hf : e.b.length < fuel) (hb : e.b.length ≤ 1000000000) (h1 : -9223372036854775808 ≤ e.fr ∧ e.fr < 9223372036854775808) (h2 : -9223372036854775808 ≤ e.to ∧ e.to < 9223372036854775808) : zng fuel e = some (zdo e) := by
 have hw := z2m e.k
 have l1 := Lib.itoa_length_le e.fr h1.1 (by omega)
 have l2 := Lib.itoa_length_le e.to h2.1 (by omega)
 have hfl := zfj e.b
 unfold zng zdo
 refine zal hk (zal (by simp; omega) ?_)
 by_cases h : e.k = 1
 ·refine zaq (by simpa using h) ?_
  have hq : znj fuel e = some (zcu e.b) := by unfold znj; rw [z11 fuel e.b hf hb, bindE_some]
  have hl : (zcu e.b).length = (e.b.flatMap byteP).length + 2 := by simp [zcu]
  rw [hq, bindE_some]
  refine zal (by simp only [List.length_append, List.length_cons, List.length_nil]; omega) ?_
  simp [h]
 ·refine zat (by simpa using h) ?_
  have hs : zmt e = some (Lib.itoa e.fr ++ 32 :: Lib.itoa e.to) := by
   unfold zmt
   refine zal h1 (za1 (zal (by simp; omega) (zal h2 (za1 (zal (by simp; omega) ?_)))))
   simp
  rw [hs, bindE_some]
  refine zal (by simp only [List.length_append, List.length_cons, List.length_nil]; omega) ?_
  simp [h]
theorem zte (e : Ed) (hk : 0 ≤ e.k ∧ e.k < 256) (hc : -9223372036854775808 ≤ e.c ∧ e.c < 9223372036854775808) : zo5 e = some (zhy e) := by
 have l1 := Lib.itoa_length_le e.c hc.1 (by omega)
 unfold zo5 zhy
 by_cases h : e.k = 2
 ·refine zaq (by simpa using h) (zal hc (za1 (zal (by simp; omega) ?_)))
  simp [h]
 ·refine zat (by simpa using h) (zal hk (za1 ?_))
  simp [h]
end Go.Ab
set_option linter.unusedSimpArgs false
set_option linter.unusedVariables false
namespace Go.Ab
open Go Go.RowKit Go.Fwd Go.Proofs
section
variable (r : List UInt8)
theorem ix0 (a : UInt8) : ix (a :: r) (0 : Int) = a := rfl
theorem ix1 (a b : UInt8) : ix (a :: b :: r) (1 : Int) = b := rfl
theorem ix2 (a b c : UInt8) : ix (a :: b :: c :: r) (2 : Int) = c := rfl
theorem ix3 (a b c d : UInt8) : ix (a :: b :: c :: d :: r) (3 : Int) = d := rfl
theorem zrv (x y : UInt8) (h : (x = 110 ∧ y = 10) ∨ (x = 114 ∧ y = 13) ∨ (x = 116 ∧ y = 9) ∨ (x = 92 ∧ y = 92) ∨ (x = 34 ∧ y = 34)) : zcc (92 :: x :: r) QSet.mk = some (((y.toNat : Nat) : Int), 2, 0) := by
 have h1 : ¬ ((r.length : Int) + 1 + 1 < 2) := by omega
 have h2 : (0 : Int) < (r.length : Int) + 1 + 1 := by omega
 have h3 : (1 : Int) < (r.length : Int) + 1 + 1 := by omega
 rcases h with ⟨rfl, rfl⟩ | ⟨rfl, rfl⟩ | ⟨rfl, rfl⟩ | ⟨rfl, rfl⟩ | ⟨rfl, rfl⟩ <;> (unfold zcc; simp [chk, za7, zcr, ix0, ix1, zel, Lib.indexByte, h1, h2, h3]; try rfl)
theorem rb_dir (c : UInt8) (h1 : ¬ c = 92) (h2 : 32 ≤ c) (h3 : c ≤ 126) (h4 : ¬ c = 34) : zcc (c :: r) QSet.mk = some (((c.toNat : Nat) : Int), 1, 0) := by
 have g0 : (0 : Int) < (r.length : Int) + 1 := by omega
 have g1 : ¬ ((c.toNat : Nat) : Int) = 92 := fun e => h1 (UInt8.toNat_inj.1 (by show c.toNat = 92; omega))
 have g1' : (((c.toNat : Nat) : Int) != 92) = true := bne_iff_ne.2 g1
 have g2 : (32 : Int) ≤ (c.toNat : Nat) := by have : (32 : UInt8).toNat ≤ c.toNat := h2; simp at this; omega
 have g3 : ((c.toNat : Nat) : Int) ≤ 126 := by have : c.toNat ≤ (126 : UInt8).toNat := h3; simp at this; omega
 unfold zcc
 simp [chk, za7, zcr, ix0, zel, g0, g1', g2, g3, h4]
theorem hex_nib : ∀ c : UInt8, (zrf (zl2 (c.toNat / 16)) < 16 ∧ zrf (zl2 (c.toNat % 16)) < 16) ∧ IntKind.u8.wrap (orI .i64 (z1v .i64 (zrf (zl2 (c.toNat / 16))) 4) (zrf (zl2 (c.toNat % 16)))) = ((c.toNat : Nat) : Int) := fun c => of_decide_eq_true (zvn (fun c => decide ((zrf (zl2 (c.toNat / 16)) < 16 ∧ zrf (zl2 (c.toNat % 16)) < 16) ∧ IntKind.u8.wrap (orI .i64 (z1v .i64 (zrf (zl2 (c.toNat / 16))) 4) (zrf (zl2 (c.toNat % 16)))) = ((c.toNat : Nat) : Int))) (by decide +kernel) c)
theorem rb_hex (c : UInt8) : zcc (92 :: 120 :: zl2 (c.toNat / 16) :: zl2 (c.toNat % 16) :: r) QSet.mk = some (((c.toNat : Nat) : Int), 4, 0) := by
 obtain ⟨⟨n1, n2⟩, n3⟩ := hex_nib c
 have g1 : ¬ ((r.length : Int) + 1 + 1 + 1 + 1 < 2) := by omega
 have g2 : (0 : Int) < (r.length : Int) + 1 + 1 + 1 + 1 := by omega
 have g3 : (1 : Int) < (r.length : Int) + 1 + 1 + 1 + 1 := by omega
 have g4 : (3 : Int) < (r.length : Int) + 1 + 1 + 1 + 1 := by omega
 have g5 : (2 : Int) < (r.length : Int) + 1 + 1 + 1 + 1 := by omega
 generalize zl2 (c.toNat / 16) = a at *
 generalize zl2 (c.toNat % 16) = b at *
 unfold zcc
 simp [chk, za7, zcr, ix0, ix1, ix2, ix3, zel, Lib.indexByte, g1, g2, g3, g4, g5, n1, n2, n3]
theorem zp1 (c : UInt8) : zcc (byteP c ++ r) QSet.mk = some (((c.toNat : Nat) : Int), (((byteP c).length : Nat) : Int), 0) := by
 unfold byteP
 split
 ·rename_i h; subst h; exact zrv r 110 10 (by decide)
 split
 ·rename_i h; subst h; exact zrv r 114 13 (by decide)
 split
 ·rename_i h; subst h; exact zrv r 116 9 (by decide)
 split
 ·exact rb_hex r c
 split
 ·rename_i h
  rcases h with h | h <;> subst h
  ·exact zrv r 92 92 (by decide)
  ·exact zrv r 34 34 (by decide)
 ·rename_i h1 h2
  have e1 : 32 ≤ c := UInt8.not_lt.1 fun h => h1 (.inl h)
  have e2 : c ≤ 126 := UInt8.not_lt.1 fun h => h1 (.inr h)
  exact rb_dir r c (fun h => h2 (.inl h)) e1 e2 (fun h => h2 (.inr h))
end
theorem zzh (x : Int) : 0 ≤ IntKind.u8.wrap x ∧ IntKind.u8.wrap x < 256 := by
 have h1 := Int.emod_nonneg x (b := 256) (by decide)
 have h2 := Int.emod_lt_of_pos x (b := 256) (by decide)
 simp [IntKind.wrap, IntKind.bits, IntKind.signed]
 omega
theorem zhh (x : UInt8) : (0 : Int) ≤ (x.toNat : Nat) ∧ ((x.toNat : Nat) : Int) < 256 := by have := x.toNat_lt; omega
theorem z19 : ∀ (l : List UInt8) (c : UInt8), Lib.indexByte l c < l.length
 | [], c => by simp [Lib.indexByte]
 | a :: l, c => by
  have := z19 l c
  unfold Lib.indexByte
  repeat' split
  all_goals (simp only [List.length_cons]; omega)
set_option maxHeartbeats 2000000 in
theorem ztx (t : List UInt8) : Ok (fun x => (0 ≤ x.1 ∧ x.1 < 256) ∧ (x.2.2 = 0 → 1 ≤ x.2.1 ∧ x.2.1 ≤ (t.length : Int))) (zcc t QSet.mk) := by
 unfold zcc
 have hne : (t == ([] : List UInt8)) = false → 0 < t.length := fun h => by
  cases t with
  | nil => simp at h
  | cons => simp
 refine zaw (fun _ => 2 ≤ t.length) ?_ (fun _ hl => ?_)
 ·refine zi (fun _ => zd ⟨by decide, fun h => by simp at h⟩) (fun h => ?_)
  have h0 := hne h
  clear h hne
  have hc : (0 : Int) ≤ 0 ∧ (0 : Int) < (t.length : Int) := by omega
  repeat' (first | with_reducible refine ze hc ?_ | with_reducible refine zn fun _ _ => ?_ | with_reducible refine zi (fun _ => ?_) (fun _ => ?_) | with_reducible refine zd ?_)
  all_goals first
   | exact ⟨by decide, fun h => by simp at h⟩
   | exact ⟨zhh _, fun _ => ⟨Int.le_refl 1, by show (1 : Int) ≤ _; omega⟩⟩
   | (rename_i h; have h := of_decide_eq_false h; show 2 ≤ t.length; omega)
 ·have hc : (0 : Int) ≤ 1 ∧ (1 : Int) < (t.length : Int) := by omega
  have hix := fun c => z19 [110, 114, 116] c
  have h2 : (1 : Int) ≤ 2 ∧ (2 : Int) ≤ (t.length : Int) := by omega
  refine ze hc (zn fun x hx => zn fun y hy => ?_)
  have hy2 : y < 3 := by rw [← hy]; exact hix x
  refine zaw (fun _ => True) ?_ (fun _ _ => zd ⟨by decide, fun h => by simp at h⟩)
  have tail : Ok (cutQ (fun _ => True) (fun (r : Int × Int × Int) => (0 ≤ r.1 ∧ r.1 < 256) ∧ (r.2.2 = 0 → 1 ≤ r.2.1 ∧ r.2.1 ≤ (t.length : Int)))) (bif ((((x).toNat : Nat) : Int) == 92) then (some (Sum.inr ((((x).toNat : Nat) : Int), 2, 0))) else (za7 (zel x) (fun x21 => (bif x21 then (some (Sum.inr ((((x).toNat : Nat) : Int), 2, 0))) else (bif (decide (y ≥ 0)) then (chk (0 ≤ y ∧ y < (List.length ([10, 13, 9] : List UInt8) : Int)) (za7 (ix ([10, 13, 9] : List UInt8) y) (fun x22 => (some (Sum.inr ((((x22).toNat : Nat) : Int), 2, 0)))))) else (some (Sum.inl ()))))))) := by
   refine zi (fun _ => zd ⟨zhh _, fun _ => h2⟩) (fun _ => zn fun z _ => zi (fun _ => zd ⟨zhh _, fun _ => h2⟩) (fun _ => zi (fun h => ?_) (fun _ => zd trivial)))
   have h0 : (0 : Int) ≤ y := of_decide_eq_true h
   exact ze ⟨h0, hy2⟩ (zn fun w _ => zd ⟨zhh _, fun _ => h2⟩)
  refine zi (fun _ => zi (fun h => ?_) (fun _ => tail)) (fun _ => tail)
  have h3 : (3 : Int) < (t.length : Int) := of_decide_eq_true h
  have c2 : (0 : Int) ≤ 2 ∧ (2 : Int) < (t.length : Int) := by omega
  have c3 : (0 : Int) ≤ 3 ∧ (3 : Int) < (t.length : Int) := by omega
  refine ze c2 (zn fun _ _ => zn fun _ _ => zi (fun _ => ?_) (fun _ => tail))
  refine ze c3 (zn fun _ _ => zn fun _ _ => zi (fun _ => ?_) (fun _ => tail))
  refine ze c2 (zn fun _ _ => zn fun _ _ => ze c3 (zn fun _ _ => zn fun _ _ => zd ⟨zzh _, fun _ => ⟨(by decide : (1 : Int) ≤ 4), ?_⟩⟩))
  show (4 : Int) ≤ _
  omega
end Go.Ab
set_option linter.unusedSimpArgs false
set_option linter.unusedVariables false
namespace Go.Ab
open Go Go.RowKit Go.Fwd Go.Proofs
theorem zdf {α : Type} (l : List α) (n : Nat) (hn : n ≤ l.length) : sub l (n : Int) (l.length : Int) = l.drop n := by
 simp only [sub, Int.toNat_natCast]
 exact List.take_of_length_le (by simp)
theorem znv {α : Type} [Enc α] {t r : List α} {n : Nat} {a : α} (h : t.drop n = a :: r) : ix t (n : Int) = a ∧ n < t.length := by
 have hl : n < t.length := by
  rcases Nat.lt_or_ge n t.length with h1 | h1
  ·exact h1
  ·rw [List.drop_of_length_le h1] at h; cases h
 rw [List.drop_eq_getElem_cons hl] at h
 refine ⟨?_, hl⟩
 simp only [List.cons.injEq] at h
 simp [ix, hl, h.1]
theorem zo9 (c : UInt8) : ∃ a r, byteP c = a :: r ∧ a ≠ 34 := by
 unfold byteP
 repeat' split
 all_goals first
  | exact ⟨_, _, rfl, by decide⟩
  | exact ⟨_, _, rfl, fun h => by simp_all⟩
theorem zot (b : List UInt8) (i : Nat) (hi : i ≤ b.length) : (zcu b).drop (1 + ((b.take i).flatMap byteP).length) = (b.drop i).flatMap byteP ++ [34] := by
 have h : b.flatMap byteP = (b.take i).flatMap byteP ++ (b.drop i).flatMap byteP := by rw [← List.flatMap_append, List.take_append_drop]
 unfold zcu
 rw [h, Nat.add_comm, List.cons_append, List.drop_succ_cons, List.append_assoc, List.drop_left]
theorem zqz (c : UInt8) : zas ((c.toNat : Nat) : Int) = c := by unfold zas; simp
theorem zpg (fuel : Nat) (b : List UInt8) (hf : b.length < fuel) (hb : b.length ≤ 1000000000) : zfh fuel (zcu b) = some (b, ((zcu b).length : Int), 0) := by
 have hfl := zfj b
 have hql : (zcu b).length = (b.flatMap byteP).length + 2 := by simp [zcu]
 unfold zfh
 refine Ok.eq (zi (fun h => by simp [zcu] at h) (fun _ => ze (by omega) (zn fun x hx => zi (fun h => ?_) (fun _ => ?_))))
 ·have : x = 34 := by rw [← hx]; rfl
  subst this; simp at h
 refine zaw (fun _ => False) ?_ (fun _ h => h.elim)
 refine zay (fun s => ∃ i : Nat, i ≤ b.length ∧ s.1 = b.take i ∧ s.2 = ((1 + ((b.take i).flatMap byteP).length : Nat) : Int)) (fun s => b.length - s.1.length) (fun s hT => ?_) _ _ (by simp; omega) ⟨0, by omega, by simp, by simp⟩
 obtain ⟨i, hi, h1, h2⟩ := hT
 obtain ⟨out, at'⟩ := s
 simp only at h1 h2
 subst h1 h2
 have hd := zot b i hi
 have htl : (b.take i).length = i := by simp; omega
 by_cases e : i = b.length
 ·subst e
  rw [List.drop_length] at hd
  obtain ⟨k1, k2⟩ := znv (show (zcu b).drop _ = 34 :: [] from hd)
  rw [List.take_length] at k1 k2 ⊢
  refine zi (fun _ => ?_) (fun h => ?_)
  ·refine ze (by omega) (zn fun y hy => zi (fun _ => ze (by omega) (zd ?_)) (fun h => ?_))
   ·show (_, _, _) = _
    simp only [Prod.mk.injEq, true_and, and_true]
    omega
   ·rw [← hy, k1] at h; simp at h
  ·have := of_decide_eq_false h; simp only at this; omega
 ·have hlt : i < b.length := by omega
  rw [List.drop_eq_getElem_cons hlt, List.flatMap_cons, List.append_assoc] at hd
  obtain ⟨a, r, ha, hne⟩ := zo9 b[i]
  have hd' := hd
  rw [ha, List.cons_append] at hd'
  obtain ⟨k1, k2⟩ := znv hd'
  have hbl := zhi b[i]
  refine zi (fun _ => ?_) (fun h => ?_)
  ·refine ze (by omega) (zn fun y hy => zi (fun h => ?_) (fun _ => ze (by omega) (zn fun z hz => ?_)))
   ·rw [← hy, k1] at h
    exfalso; apply hne
    apply UInt8.toNat_inj.1
    have := (beq_iff_eq).1 h
    show a.toNat = 34
    omega
   ·have hz' : z = byteP b[i] ++ ((b.drop (i + 1)).flatMap byteP ++ [34]) := by
     rw [← hz, zdf _ _ (by omega), hd]
    subst hz'
    rw [zp1, bindE_some]
    refine zi (fun h => by simp at h) (fun _ => ze (zhh _) (ze (by simp only [htl, List.length_cons, List.length_nil]; omega) (ze ?_ (zd ⟨⟨i + 1, by omega, ?_, ?_⟩, ?_⟩))))
    ·simp only; omega
    ·simp only [zqz]; rw [List.take_succ_eq_append_getElem hlt]
    ·simp only; rw [List.take_succ_eq_append_getElem hlt, List.flatMap_append]; simp; omega
    ·simp only [List.length_append, htl, List.length_cons, List.length_nil]; omega
  ·have := of_decide_eq_false h; simp only at this; omega
theorem zv2 (fuel : Nat) (t : List UInt8) (hf : t.length < fuel) (hb : t.length ≤ 1000000000) : Ok (fun r => r.1.length ≤ t.length) (zfh fuel t) := by
 unfold zfh
 refine zi (fun _ => zd (Nat.zero_le _)) (fun h => ?_)
 have h0 : 0 < t.length := by
  cases t with
  | nil => simp at h
  | cons => simp
 refine ze (by omega) (zn fun x hx => zi (fun _ => zd (Nat.zero_le _)) (fun _ => ?_))
 refine zaw (fun _ => True) ?_ (fun _ _ => zd (Nat.zero_le _))
 refine zay (fun (s : List UInt8 × Int) => 1 ≤ s.2 ∧ s.2 ≤ (t.length : Int) ∧ (s.1.length : Int) + 1 ≤ s.2) (fun s => t.length - s.2.toNat) (fun s hT => ?_) _ _ (by simp; omega) ⟨by decide, by omega, by simp⟩
 obtain ⟨out, at'⟩ := s
 obtain ⟨h1, h2, h3⟩ := hT
 simp only at h1 h2 h3
 refine zi (fun hc => ?_) (fun _ => zd trivial)
 have hc := of_decide_eq_true hc
 simp only at hc
 refine ze ⟨by simp only; omega, hc⟩ (zn fun y hy => zi (fun _ => ze (by simp only; omega) (zd (by show out.length ≤ _; omega))) (fun _ => ze (by simp only; omega) (zn fun z hz => ?_)))
 have hzl : z.length = t.length - at'.toNat := by
  obtain ⟨n, rfl⟩ : ∃ n : Nat, at' = (n : Int) := ⟨at'.toNat, by omega⟩
  rw [← hz]
  simp only
  rw [zdf _ _ (by omega), List.length_drop, Int.toNat_natCast]
 refine zjp (ztx z) (fun a ⟨g1, g2⟩ => zi (fun _ => zd (Nat.zero_le _)) (fun h => ?_))
 have he : a.2.2 = 0 := by simpa using h
 obtain ⟨g3, g4⟩ := g2 he
 refine ze g1 (ze (by simp only [List.length_cons, List.length_nil]; omega) (ze (by simp only; omega) (zd ⟨⟨by simp only; omega, by simp only; omega, by simp only [List.length_append, List.length_cons, List.length_nil]; omega⟩, by simp only; omega⟩)))
end Go.Ab
set_option linter.unusedSimpArgs false
set_option linter.unusedVariables false
namespace Go.Ab
open Go Go.RowKit Go.Fwd Go.Proofs
theorem z12 (c : UInt8) : ∀ l : List UInt8, c ∉ l → Lib.index l [c] = -1
 | [], _ => rfl
 | b :: l, h => by
  have h1 : ¬ c = b := fun e => h (by simp [e])
  have h2 : c ∉ l := fun e => h (by simp [e])
  unfold Lib.index
  rw [z12 c l h2]
  simp [List.isPrefixOf, h1]
theorem z2e (c : UInt8) (r : List UInt8) : ∀ a : List UInt8, c ∉ a → Lib.index (a ++ c :: r) [c] = (a.length : Int)
 | [], _ => by simp [Lib.index, List.isPrefixOf]
 | b :: a, h => by
  have h1 : ¬ c = b := fun e => h (by simp [e])
  have h2 : c ∉ a := fun e => h (by simp [e])
  have := z2e c r a h2
  rw [List.cons_append]
  unfold Lib.index
  rw [this]
  have h3 : ¬ ((a.length : Int) = -1) := by omega
  simp [List.isPrefixOf, h1, h3]
theorem zul {c : UInt8} {l : List UInt8} (h : c ∉ l) : Lib.cut l [c] = (l, [], false) := by
 unfold Lib.cut; rw [z12 c l h]; rfl
theorem zkx {c : UInt8} {a r : List UInt8} (h : c ∉ a) : Lib.cut (a ++ c :: r) [c] = (a, r, true) := by
 unfold Lib.cut; rw [z2e c r a h]
 rw [if_pos (by omega)]
 simp
theorem zvj (c : UInt8) (l : List UInt8) : ((Lib.cut l [c]).2.2 = true ∧ l = (Lib.cut l [c]).1 ++ c :: (Lib.cut l [c]).2.1) ∨ Lib.cut l [c] = (l, [], false) := by
 by_cases h : c ∈ l
 ·obtain ⟨a, r, h1, h2⟩ : ∃ a r, l = a ++ c :: r ∧ c ∉ a := by
   induction l with
   | nil => simp at h
   | cons b l ih =>
    by_cases e : c = b
    ·exact ⟨[], l, by simp [e], by simp⟩
    ·obtain ⟨a, r, k1, k2⟩ := ih (by simpa [e] using h)
     exact ⟨b :: a, r, by simp [k1], by simp [e, k2]⟩
  subst h1
  rw [zkx h2]
  exact .inl ⟨rfl, rfl⟩
 ·exact .inr (zul h)
theorem zqt (c : UInt8) (l : List UInt8) : (Lib.cut l [c]).1.length ≤ l.length ∧ (Lib.cut l [c]).2.1.length ≤ l.length := by
 rcases zvj c l with ⟨_, h⟩ | h
 ·have := congrArg List.length h
  simp only [List.length_append, List.length_cons] at this
  omega
 ·rw [h]; simp
theorem zzb (u : Nat) : ∀ x ∈ Lib.decDigits u, 48 ≤ x.toNat ∧ x.toNat ≤ 57 := by
 induction u using Nat.strongRecOn with
 | ind u ih =>
  intro x hx
  rw [Lib.decDigits] at hx
  split at hx
  ·rename_i h
   have : x = UInt8.ofNat (48 + u) := by simpa using hx
   subst this
   simp; omega
  ·rename_i h
   rcases List.mem_append.1 hx with hx | hx
   ·exact ih (u / 10) (by omega) x hx
   ·have : x = UInt8.ofNat (48 + u % 10) := by simpa using hx
    subst this
    simp; omega
theorem ztd : ∀ (k u : Nat), u < 10 ^ (k + 1) → (Lib.decDigits u).length ≤ k + 1
 | 0, u, h => by rw [Lib.decDigits_one (by simpa using h)]; simp
 | k + 1, u, h => by
  rw [Lib.decDigits]
  split
  ·simp
  ·have := ztd k (u / 10) (by rw [Nat.pow_succ] at h; omega)
   simp; omega
theorem ztl : ∀ (l m : List UInt8) (a : Nat), Lib.decFrom a (l ++ m) = (Lib.decFrom a l).bind fun n => Lib.decFrom n m
 | [], m, a => rfl
 | b :: l, m, a => by
  simp only [List.cons_append, Lib.decFrom]
  cases h : Lib.digitVal b with
  | none => rfl
  | some d => exact ztl l m _
theorem zxj {d : Nat} (h : d < 10) : Lib.digitVal (UInt8.ofNat (48 + d)) = some d := by
 unfold Lib.digitVal
 have : (UInt8.ofNat (48 + d)).toNat = 48 + d := by simp; omega
 rw [this, if_pos (by omega)]
 congr 1; omega
theorem zzt (u : Nat) : Lib.decFrom 0 (Lib.decDigits u) = some u := by
 induction u using Nat.strongRecOn with
 | ind u ih =>
  rw [Lib.decDigits]
  split
  ·rename_i h
   simp only [Lib.decFrom, zxj h, Nat.zero_mul, Nat.zero_add]
  ·rename_i h
   rw [ztl, ih (u / 10) (by omega)]
   simp only [Option.bind_some, Lib.decFrom, zxj (show u % 10 < 10 by omega), Option.some.injEq]
   omega
theorem zy2 (u : Nat) : ∃ b r, Lib.decDigits u = b :: r := by
 cases h : Lib.decDigits u with
 | nil =>
  rw [Lib.decDigits] at h
  split at h <;> simp at h
 | cons b r => exact ⟨b, r, rfl⟩
theorem z1z (u : Nat) : Lib.atoi (Lib.decDigits u) = some (u : Int) := by
 obtain ⟨b, r, h⟩ := zy2 u
 have hm := zzb u b (by rw [h]; simp)
 have hd := zzt u
 rw [h] at hd ⊢
 have h1 : ¬ b = 45 := fun e => by subst e; simp at hm
 have h2 : ¬ b = 43 := fun e => by subst e; simp at hm
 simp [Lib.atoi, h1, h2, Lib.decNat, hd]
theorem zgb {n : Int} (h : 0 ≤ n) : Lib.itoa n = Lib.decDigits n.toNat := by unfold Lib.itoa; rw [if_neg (by omega)]
theorem zrs {n : Int} (h : 0 ≤ n ∧ n < 1000000000000) : zmv (Lib.itoa n) = n := by
 rw [zgb h.1]
 have hl := ztd 11 n.toNat (by omega)
 unfold zmv
 rw [Lib.atoiAll_short _ (by omega), z1z]
 simp only [Lib.NumEnd.ofOption]
 omega
theorem zu2 {n : Int} (h : 0 ≤ n) : ∀ x ∈ Lib.itoa n, 48 ≤ x.toNat ∧ x.toNat ≤ 57 := by rw [zgb h]; exact zzb _
theorem zlu (l : List UInt8) : -9223372036854775808 ≤ zmv l ∧ zmv l < 9223372036854775808 := by
 unfold zmv
 split
 ·rename_i v hv; have := Lib.atoiAll_bounds hv; omega
 ·omega
 ·unfold Lib.atoiSat; split <;> omega
theorem itoa_no {n : Int} (h : 0 ≤ n) (c : UInt8) (hc : c.toNat < 45) : c ∉ Lib.itoa n := fun hm => by have := zu2 h c hm; omega
theorem zus (k : Int) (h : 1 ≤ k ∧ k ≤ 5) : (10 : UInt8) ∉ zfr k ∧ (32 : UInt8) ∉ zfr k := by
 have : k = 1 ∨ k = 2 ∨ k = 3 ∨ k = 4 ∨ k = 5 := by omega
 rcases this with rfl | rfl | rfl | rfl | rfl <;> decide
theorem kind_no (k : Int) : (10 : UInt8) ∉ (zbe k).w ∧ (32 : UInt8) ∉ (zbe k).w := by
 unfold zbe
 repeat' split
 all_goals (constructor <;> simp)
theorem zru {i j : Int} (hi : 1 ≤ i ∧ i ≤ 5) (hj : 1 ≤ j ∧ j ≤ 5) (h : zfr i = zfr j) : i = j := by
 have h1 : i = 1 ∨ i = 2 ∨ i = 3 ∨ i = 4 ∨ i = 5 := by omega
 have h2 : j = 1 ∨ j = 2 ∨ j = 3 ∨ j = 4 ∨ j = 5 := by omega
 rcases h1 with rfl | rfl | rfl | rfl | rfl <;> rcases h2 with rfl | rfl | rfl | rfl | rfl <;> first | rfl | (exfalso; revert h; decide)
theorem zz5 {i j : Int} (hi : 1 ≤ i ∧ i ≤ 3) (hj : 1 ≤ j ∧ j ≤ 3) (h : (zbe i).w = (zbe j).w) : i = j := by
 have h1 : i = 1 ∨ i = 2 ∨ i = 3 := by omega
 have h2 : j = 1 ∨ j = 2 ∨ j = 3 := by omega
 rcases h1 with rfl | rfl | rfl <;> rcases h2 with rfl | rfl | rfl <;> first | rfl | (exfalso; revert h; decide)
end Go.Ab
