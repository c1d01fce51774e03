/-
  trace: Check, Taken, Lost, At, Sent: plain.
-/
import Derived.Test.YtcdmdnadilafhaaGreatDoorZyW7
import Derived.Test.YtcdmdnadilafhaaGreatDoorZyQc
import Derived.Test.YtcdmdnadilafhaaGreatDoorZdQr
import Derived.Test.YtcdmdnadilafhaaGreatDoorZyPq
set_option linter.unusedSimpArgs false
set_option linter.unusedVariables false
set_option maxRecDepth 100000
set_option maxHeartbeats 4000000
namespace Go.Ab
open Go Go.RowKit Go.Fwd Go.Proofs
def zop (fuel : Nat) (t : Trc) : Option (List UInt8) :=
 (zcr (τ := (Bool × List UInt8)) (zbh (β := Int × (Bool × List UInt8)) (fun s1 => (bif (decide (s1.1 < (List.length t.l : Int))) then (zcr (τ := (Bool × List UInt8)) (chk (0 ≤ s1.1 ∧ s1.1 < (List.length t.l : Int)) (za7 (ix t.l s1.1) (fun x1 => (bif (x1.k == 1) then (chk ((List.length s1.2.2 + List.length x1.b) * 1 ≤ 140737488355328) (some (Sum.inl ((true, (s1.2.2 ++ x1.b)))))) else (some (Sum.inl ((s1.2.1, s1.2.2)))))))) (fun j2 => (chk (-9223372036854775808 ≤ (s1.1 + 1) ∧ (s1.1 + 1) < 9223372036854775808) (some (Sum.inl ((s1.1 + 1), (j2.1, j2.2))))))) else (some (Sum.inr (Sum.inl ((s1.2.1, s1.2.2))))))) fuel (0, (false, ([] : List UInt8)))) (fun j1 => (some j1.2)))
theorem ent22 : Ent Tryz.prog 22 := enters_of Tryz.func22 (by kernel_rfl) rfl
theorem zxd (fuel : Nat) (t : Trc) (r : (List UInt8)) (h : zop fuel t = some r) : Pure (ITP Tryz.prog) Tryz.prog 22 [.A (t : Trc)] (.raw (.string (bs r))) := by
 unfold zop at h
 refine zah 20 mix Tryz.func22 ent22 ?_
 refine zj (zc ?_)
 refine zbr (a := .ptr 0 0) (σ'' := (.B [(27, (Enc.cells (t : Trc)))])) ?_
 refine w_o (a := .s ([] : List UInt8)) ?_
 refine zj (zc ?_)
 refine zmn (a := .ptr 1 0) (σ'' := (z7 [(27, (Enc.cells (t : Trc))), (87, (zjn 1 false ([] : List UInt8)))] 5 (List.length (([] : List UInt8) : List UInt8)) 1)) rfl rfl rfl rfl (by dsimp only [z6, List.set]) rfl ?_
 refine zaf h (bz 0 21 2097143) (fun j1 => []) (fun j1 => (z7 [(27, (Enc.cells (t : Trc))), (87, (zjn 1 j1.1 j1.2))] 5 (List.length (j1.2 : List UInt8)) 1)) ?_ ?_
 intro or1 h hr1
 refine zk [.v (.ptr 0 0), .v (.L (t.l : List En)), .v (.i (List.length t.l : Int)), .v (.i 0)] ?_
 refine zr ?_
 refine zap h (bz 0 21 2096759) (fun s1 => [(9, .i s1.1)]) (fun s1 => (z7 [(27, (Enc.cells (t : Trc))), (87, (zjn 1 s1.2.1 s1.2.2))] 5 (List.length (s1.2.2 : List UInt8)) 1)) ?_ ?_
 exact zao (bl 21 904)
 intro s1 p1 h
 refine zbn ?_
 refine zk [.v (.b (decide (s1.1 < (List.length t.l : Int))))] ?_
 refine zj ?_
 refine za3 h (fun hc1 h => ?_) (fun hc1 h => ?_)
 refine zaf h (bz 0 19 523296) (fun j2 => []) (fun j2 => (z7 [(27, (Enc.cells (t : Trc))), (87, (zjn 1 j2.1 j2.2))] 5 (List.length (j2.2 : List UInt8)) 1)) ?_ ?_
 intro or2 h hr2
 refine zr ?_
 refine zj (zc ?_)
 obtain ⟨g1, h⟩ := zf h
 obtain ⟨x1, hx1, h⟩ := zo h
 refine zpi hx1 g1 ?_
 refine w_o (a := .A (x1 : En)) ?_
 refine zbr (a := .ptr 2 0) (σ'' := (z7 [(27, (Enc.cells (t : Trc))), (87, (zjn 1 s1.2.1 s1.2.2)), (41, (Enc.cells ((En.mk 0 0 0 []) : En)))] 5 (List.length (s1.2.2 : List UInt8)) 1)) ?_
 refine zcg 4 (z7 [(27, (Enc.cells (t : Trc))), (87, (zjn 1 s1.2.1 s1.2.2)), (41, (Enc.cells (x1 : En)))] 5 (List.length (s1.2.2 : List UInt8)) 1) ?_
 refine zk [.v (.ptr 2 0), .v (.u x1.k), .v (.b (x1.k == 1))] ?_
 refine za3 h (fun hc2 h => ?_) (fun hc2 h => ?_)
 refine zc (k0 := 0) (id := 6) ?_
 refine w_r [.v (.ptr 2 3), .v (.s x1.b)] ?_
 obtain ⟨g2, h⟩ := zf h
 refine zlp (r := .tup [.i (List.length x1.b : Int), .raw .nilIface]) (σ' := (z7 [(27, (Enc.cells (t : Trc))), (87, (zjn 1 true (s1.2.2 ++ x1.b))), (41, (Enc.cells (x1 : En)))] 5 (List.length ((s1.2.2 ++ x1.b) : List UInt8)) 1)) (zjm (u := s1.2.1) (l := s1.2.2) (b := x1.b) g2 rfl) rfl rfl ⟨rfl, rfl⟩ (by dsimp only [z6, List.set]) ?_
 refine zg (o := or2) ((true, (s1.2.2 ++ x1.b))) h ?_
 exact zcq (bl 21 1573855) 2 (by kernel_rfl) (Nat.le_of_ble_eq_true rfl) (zco (za0 (zak _ _ (Enc.clo _)) (za0 (zub (by decide)) rfl))) (by dsimp only [zbb, zb5, List.foldl, List.set, bz, bzc, Nat.reduceMod, Nat.reduceDiv, Nat.reduceBEq, Nat.reduceAdd]; exact (za rfl (za rfl (za rfl (za (by decide) (za rfl (za rfl (za rfl (za (zb1 (Enc.cloL _)) (by kernel_rfl)))))))))) (by kernel_rfl)
 refine zg (o := or2) ((s1.2.1, s1.2.2)) h ?_
 exact zcq (bl 21 1573855) 2 (by kernel_rfl) (Nat.le_of_ble_eq_true rfl) (zco (za0 (zak _ _ (Enc.clo _)) (za0 (zub (by decide)) rfl))) (by dsimp only [zbb, zb5, List.foldl, List.set, bz, bzc, Nat.reduceMod, Nat.reduceDiv, Nat.reduceBEq, Nat.reduceAdd]; exact (za rfl (za rfl (za rfl (za (by decide) (za rfl (za rfl (za rfl (za (zb1 (Enc.cloL _)) (by kernel_rfl)))))))))) (by kernel_rfl)
 intro j2 h
 refine zbn ?_
 refine zc (k0 := 0) (id := 7) ?_
 obtain ⟨g3, h⟩ := zf h
 refine zej g3 ?_
 refine zp ?_
 refine zz (p := p1) ((s1.1 + 1), (j2.1, j2.2)) h ?_
 exact zao (bl 21 904)
 refine zh h (fun h => ?_)
 refine zg (o := or1) ((s1.2.1, s1.2.2)) h ?_
 exact zao (bl 21 8)
 intro j1 h
 refine zbn ?_
 refine zj (zc ?_)
 refine zlp (r := .s j1.2) (σ' := (z7 [(27, (Enc.cells (t : Trc))), (87, (zjn 1 j1.1 j1.2))] 5 (List.length (j1.2 : List UInt8)) 1)) (zj3 (u := j1.1) (l := j1.2) rfl) rfl rfl ⟨rfl, rfl⟩ (by dsimp only [z6, List.set]) ?_
 refine zp ?_
 exact zd7 h
end Go.Ab
set_option linter.unusedSimpArgs false
set_option linter.unusedVariables false
namespace Go.Ab
open Go Go.RowKit Go.Fwd Go.Proofs
def zi9 (e : En) (a : Int) : Bool := decide (zbt e a)
theorem zly {e : En} {a : Int} (h : zbt e a) : zi9 e a = true := decide_eq_true h
theorem zz2 {e : En} {a : Int} (h : ¬ zbt e a) : zi9 e a = false := decide_eq_false h
theorem zl1 (e : En) (a : Int) : zku e a = some (zi9 e a) := by
 unfold zi9
 obtain ⟨k, fr, to, b⟩ := e
 unfold zku zbt
 simp only [En.mk.injEq]
 by_cases h1 : k = 1
 ·subst h1
  refine zaq rfl ?_
  by_cases h2 : fr = 0
  ·by_cases h3 : to = 0
   ·refine (zaq (by simp [h2, h3]) ?_)
    have e1 : ((List.length b : Int) ≤ 512) ↔ b.length ≤ 512 := by omega
    simp [h2, h3, e1]
   ·refine (zat (by simp [h2, h3]) ?_)
    simp [h3]
  ·refine (zat (by simp [h2]) ?_)
   simp [h2]
 ·refine zat (by simpa using h1) ?_
  by_cases h2 : k = 2
  ·subst h2
   refine zdd true (zaq rfl rfl) (zaq rfl ?_)
   by_cases h3 : fr = a
   ·by_cases h4 : b = []
    ·refine zaq (by simp [h3, h4]) ?_
     by_cases h5 : to ≥ a
     ·refine zaq (decide_eq_true h5) ?_
      by_cases h6 : to ≤ 1073741824
      ·refine zaq (decide_eq_true h6) (zaq rfl ?_)
       simp [h3, h4, h5, h6]
      ·refine zat (decide_eq_false h6) ?_
       simp [h6]
     ·refine zat (decide_eq_false h5) ?_
      have : ¬ a ≤ to := h5
      simp [this]
    ·refine zat (by simp [h4]) ?_
     simp [h4]
   ·refine zat (by simp [h3]) ?_
    simp [h3]
  ·by_cases h2' : k = 3
   ·subst h2'
    refine zdd true (zat rfl rfl) (zaq rfl ?_)
    by_cases h3 : fr = a
    ·by_cases h4 : b = []
     ·refine zaq (by simp [h3, h4]) ?_
      by_cases h5 : to ≥ a
      ·refine zaq (decide_eq_true h5) ?_
       by_cases h6 : to ≤ 1073741824
       ·refine zaq (decide_eq_true h6) (zat rfl ?_)
        simp [h3, h4, h5, h6]
       ·refine zat (decide_eq_false h6) ?_
        simp [h6]
      ·refine zat (decide_eq_false h5) ?_
       have : ¬ a ≤ to := h5
       simp [this]
     ·refine zat (by simp [h4]) ?_
      simp [h4]
    ·refine zat (by simp [h3]) ?_
     simp [h3]
   ·refine zdd false (zat (by simpa using h2) (by simp [h2'])) (zat rfl ?_)
    simp [h1, h2, h2']
def zb4 (e : Ed) : Bool := if e.k = 2 then decide (0 ≤ e.c ∧ e.c ≤ 255) else decide (1 ≤ e.k ∧ e.k ≤ 5 ∧ e.c = 0)
theorem z1j (k : Int) (h : 0 ≤ k ∧ k < 256) : (!(zfr k == ([] : List UInt8))) = decide (1 ≤ k ∧ k ≤ 5) := by
 have h6 : 6 ≤ k.toNat → zfr k = [] := fun h => by
  unfold zfr nameL
  rw [List.getD_eq_getElem?_getD, List.getElem?_eq_none (by simpa using h)]; rfl
 rcases Nat.lt_or_ge k.toNat 6 with h1 | h1
 ·have : k = 0 ∨ k = 1 ∨ k = 2 ∨ k = 3 ∨ k = 4 ∨ k = 5 := by omega
  rcases this with rfl | rfl | rfl | rfl | rfl | rfl <;> decide
 ·rw [h6 h1]
  have : ¬ (1 ≤ k ∧ k ≤ 5) := by omega
  simp [this]
theorem zqu (e : Ed) (h : 0 ≤ e.k ∧ e.k < 256) : zjz e = some (zb4 e) := by
 obtain ⟨k, c⟩ := e
 simp only at h
 unfold zjz zb4
 by_cases h1 : k = 2
 ·subst h1
  refine zaq rfl ?_
  by_cases h2 : c ≥ 0
  ·refine zaq (decide_eq_true h2) ?_
   have : (0 : Int) ≤ c := h2
   simp [this]
  ·refine zat (decide_eq_false h2) ?_
   have : ¬ (0 : Int) ≤ c := h2
   simp [this]
 ·refine zat (by simpa using h1) (zal h (za1 ?_))
  simp only [z1j k h, if_neg h1]
  by_cases h2 : 1 ≤ k ∧ k ≤ 5
  ·refine zaq (decide_eq_true h2) ?_
   by_cases h3 : c = 0 <;> simp [h2, h3]
  ·refine zat (decide_eq_false h2) ?_
   have : ¬ (1 ≤ k ∧ k ≤ 5 ∧ c = 0) := fun h => h2 ⟨h.1, h.2.1⟩
   simp [this]
def nOk : Int → List En → Nat
 | _, [] => 0
 | a, e :: l => if zbt e a then nOk (max a e.to) l + 1 else 0
theorem zx6 : ∀ (a : Int) (l : List En), nOk a l ≤ l.length
 | _, [] => Nat.le_refl _
 | a, e :: l => by
  rw [nOk]
  have := zx6 (max a e.to) l
  split <;> simp; omega
theorem zi2 : ∀ (a : Int) (l : List En) (i : Nat), i < nOk a l → zbt (l.getD i Enc.inh) (atL a (l.take i))
 | _, [], i, h => by simp [nOk] at h
 | a, e :: l, i, h => by
  rw [nOk] at h
  split at h
  ·rename_i he
   cases i with
   | zero => exact he
   | succ i => simpa [atL] using zi2 (max a e.to) l i (by omega)
  ·omega
theorem zze : ∀ (a : Int) (l : List En), nOk a l < l.length → ¬ zbt (l.getD (nOk a l) Enc.inh) (atL a (l.take (nOk a l)))
 | _, [], h => by simp [nOk] at h
 | a, e :: l, h => by
  rw [nOk] at h ⊢
  split
  ·rename_i he
   rw [if_pos he] at h
   simp at h
   simpa [atL] using zze (max a e.to) l h
  ·rename_i he; simpa [atL] using he
theorem zvg : ∀ (a : Int) (l : List En), okL a l ↔ nOk a l = l.length
 | _, [] => by simp [okL, nOk]
 | a, e :: l => by
  rw [okL, nOk]
  have := zvg (max a e.to) l
  by_cases he : zbt e a
  ·simp [he, this]
  ·simp [he]
theorem nOk_app (a : Int) (l m : List En) (h : okL a l) : nOk a (l ++ m) = l.length + nOk (atL a l) m := by
 induction l generalizing a with
 | nil => simp [atL]
 | cons e l ih =>
  rw [List.cons_append, nOk, if_pos h.1, ih _ h.2, atL, List.length_cons]; omega
theorem zhr {l : List En} {i : Nat} (h : i < l.length) : l.take (i + 1) = l.take i ++ [l.getD i Enc.inh] := by
 rw [List.take_add_one]; simp [h]
def zct (t : Trc) : Int × Int := if t.l.length > 65536 then (-1, 5) else if nOk 0 t.l < t.l.length then ((nOk 0 t.l : Nat), 330) else if zb4 t.e = true then (-1, 0) else (-1, 331)
theorem zhs (fuel : Nat) (t : Trc) (hf : t.l.length < fuel) (hk : 0 ≤ t.e.k ∧ t.e.k < 256) : zem fuel t = some (zct t) := by
 have hle := zx6 0 t.l
 unfold zem zct
 by_cases hlen : t.l.length > 65536
 ·rw [if_pos hlen]; exact zaq (decide_eq_true (by omega)) rfl
 rw [if_neg hlen]
 refine zat (decide_eq_false (by omega)) ?_
 have step : ∀ i : Nat, i < t.l.length → atL 0 (t.l.take (i + 1)) = max (atL 0 (t.l.take i)) (t.l.getD i Enc.inh).to := fun i hi => by
  rw [zhr hi, zki]; rfl
 by_cases hn : nOk 0 t.l < t.l.length
 ·rw [if_pos hn]
  refine zlb _ (zfi (nOk 0 t.l) (fun i => (atL 0 (t.l.take i), (i : Int))) rfl ?_ ?_ (by omega)) rfl
  ·intro i hi
   refine zaq (decide_eq_true (by simp only; omega)) (zal (by simp only; omega) (za1 (zcj _ (zl1 _ _) ?_)))
   simp only [ix, Int.toNat_natCast]
   refine zat ?_ (zal (by omega) ?_)
   ·rw [zly (zi2 0 t.l i hi)]; rfl
   ·rw [step i (by omega)]; rfl
  ·refine zaq (decide_eq_true (by simp only; omega)) (zal (by simp only; omega) (za1 (zcj _ (zl1 _ _) ?_)))
   simp only [ix, Int.toNat_natCast]
   refine zaq ?_ rfl
   rw [zz2 (zze 0 t.l hn)]; rfl
 ·rw [if_neg hn]
  refine zdd () (zfi (nOk 0 t.l) (fun i => (atL 0 (t.l.take i), (i : Int))) rfl ?_ (zat (decide_eq_false (by simp only; omega)) rfl) (by omega)) (zcj _ (zqu _ hk) ?_)
  ·intro i hi
   refine zaq (decide_eq_true (by simp only; omega)) (zal (by simp only; omega) (za1 (zcj _ (zl1 _ _) ?_)))
   simp only [ix, Int.toNat_natCast]
   refine zat ?_ (zal (by omega) ?_)
   ·rw [zly (zi2 0 t.l i hi)]; rfl
   ·rw [step i (by omega)]; rfl
  ·cases zb4 t.e <;> rfl
def zgw (p : En → Bool) : List En → Int
 | [] => 0
 | e :: l => (if p e then e.to - e.fr else 0) + zgw p l
theorem zpn (p : En → Bool) : ∀ l m, zgw p (l ++ m) = zgw p l + zgw p m
 | [], m => by simp [zgw]
 | e :: l, m => by rw [List.cons_append, zgw, zgw, zpn p l m]; omega
theorem zpy (p : En → Bool) : ∀ (a : Int) (l : List En), 0 ≤ a → okL a l → 0 ≤ zgw p l ∧ zgw p l ≤ 1073741824 * l.length
 | _, [], _, _ => by simp [zgw]
 | a, e :: l, ha, h => by
  obtain ⟨h1, h2⟩ := zpy p (max a e.to) l (by omega) h.2
  have he : 0 ≤ e.to - e.fr ∧ e.to - e.fr ≤ 1073741824 := by
   rcases h.1 with ⟨_, k2, k3, _⟩ | ⟨_, k2, _, k4, k5, _⟩ <;> omega
  rw [zgw, List.length_cons]
  split <;> omega
theorem zl9 {a : Int} {l : List En} (h : okL a l) (i : Nat) : okL a (l.take i) := by
 have := (zpk a (l.take i) (l.drop i)).1 (by rw [List.take_append_drop]; exact h)
 exact this.1
theorem zrd {a : Int} {l : List En} (h : okL a l) {i : Nat} (hi : i < l.length) : zbt (l.getD i Enc.inh) (atL a (l.take i)) := zi2 a l i (by rw [(zvg a l).1 h]; exact hi)
theorem zo8 {e : En} {a : Int} (ha : 0 ≤ a) (h : zbt e a) : 0 ≤ e.to - e.fr ∧ e.to - e.fr ≤ 1073741824 ∧ 0 ≤ e.fr ∧ 0 ≤ e.to ∧ e.to ≤ 1073741824 := by
 rcases h with ⟨_, k2, k3, _⟩ | ⟨_, k2, _, k4, k5, _⟩ <;> omega
theorem zm4 {t : Trc} : (zct t).2 = 0 ↔ t.l.length ≤ 65536 ∧ okL 0 t.l ∧ zb4 t.e = true := by
 have hle := zx6 0 t.l
 have hok := zvg 0 t.l
 unfold zct
 by_cases h1 : t.l.length > 65536
 ·rw [if_pos h1]; simp; omega
 ·rw [if_neg h1]
  by_cases h2 : nOk 0 t.l < t.l.length
  ·rw [if_pos h2]
   have : ¬ okL 0 t.l := fun h => by have := hok.1 h; omega
   simp [this]
  ·rw [if_neg h2]
   have : okL 0 t.l := hok.2 (by omega)
   cases zb4 t.e <;> simp [this]; omega
theorem zpq (p : En → Bool) (F : En → Option Bool) (hF : ∀ e, F e = some (p e)) (fuel : Nat) (t : Trc) (hf : t.l.length < fuel) (hk : 0 ≤ t.e.k ∧ t.e.k < 256) :
 (z1 (zem fuel t) (fun x1 => (bif (x1.2 != 0) then (some 0) else (zcr (τ := Int) (zbh (β := Int × Int) (fun s1 => (bif (decide (s1.2 < (List.length t.l : Int))) then (zcr (τ := Int) (chk (0 ≤ s1.2 ∧ s1.2 < (List.length t.l : Int)) (za7 (ix t.l s1.2) (fun x2 => (z1 (F x2) (fun x3 => (bif x3 then (chk (-9223372036854775808 ≤ (x2.to - x2.fr) ∧ (x2.to - x2.fr) < 9223372036854775808) (chk (-9223372036854775808 ≤ (s1.1 + (x2.to - x2.fr)) ∧ (s1.1 + (x2.to - x2.fr)) < 9223372036854775808) (some (Sum.inl ((s1.1 + (x2.to - x2.fr))))))) else (some (Sum.inl (s1.1))))))))) (fun j2 => (chk (-9223372036854775808 ≤ (s1.2 + 1) ∧ (s1.2 + 1) < 9223372036854775808) (some (Sum.inl (j2, (s1.2 + 1))))))) else (some (Sum.inr (Sum.inl (s1.1)))))) fuel (0, 0)) (fun j1 => (some j1))))) : Option Int) = some (if (zct t).2 = 0 then zgw p t.l else 0) := by
 refine zcj _ (zhs fuel t hf hk) ?_
 by_cases h0 : (zct t).2 = 0
 ·rw [if_pos h0]
  obtain ⟨h1, h2, h3⟩ := zm4.1 h0
  refine zat (by simp [h0]) ?_
  refine zdd (zgw p t.l) (zfi t.l.length (fun i => (zgw p (t.l.take i), (i : Int))) rfl ?_ ?_ hf) rfl
  ·intro i hi
   have hr := zo8 (a := atL 0 (t.l.take i)) (zg7 _ _) (zrd h2 hi)
   have hb := zpy p 0 (t.l.take i) (by omega) (zl9 h2 i)
   have hlt : (t.l.take i).length ≤ 65536 := by simp; omega
   have hs : zgw p (t.l.take (i + 1)) = zgw p (t.l.take i) + (if p (t.l.getD i Enc.inh) then (t.l.getD i Enc.inh).to - (t.l.getD i Enc.inh).fr else 0) := by
    rw [zhr hi, zpn, zgw, zgw]; omega
   refine zaq (decide_eq_true (by simp only; omega)) (zdd (zgw p (t.l.take (i + 1))) (zal (by simp only; omega) (za1 (zcj _ (hF _) ?_))) (zal (by simp only; omega) rfl))
   simp only [ix, Int.toNat_natCast]
   cases hp : p (t.l.getD i Enc.inh) with
   | true =>
    refine zaq rfl (zal (by omega) (zal (by omega) ?_))
    rw [hs, hp]; rfl
   | false =>
    refine zat rfl ?_
    rw [hs, hp]; simp
  ·refine zat (decide_eq_false (by simp only; omega)) ?_
   simp
 ·rw [if_neg h0]
  exact zaq (by simpa using h0) rfl
theorem z1t (fuel : Nat) (t : Trc) (hf : t.l.length < fuel) (hk : 0 ≤ t.e.k ∧ t.e.k < 256) : zh8 fuel t = some (if (zct t).2 = 0 then zgw (fun e => e.k == 2) t.l else 0) := by
 unfold zh8 zhu
 exact zcj _ (zpq (fun e => e.k == 2) zjs (fun _ => rfl) fuel t hf hk) rfl
theorem lost_eq (fuel : Nat) (t : Trc) (hf : t.l.length < fuel) (hk : 0 ≤ t.e.k ∧ t.e.k < 256) : zmm fuel t = some (if (zct t).2 = 0 then zgw (fun e => e.k == 3) t.l else 0) := by
 unfold zmm zjt
 exact zcj _ (zpq (fun e => e.k == 3) zlv (fun _ => rfl) fuel t hf hk) rfl
theorem at_eq (fuel : Nat) (t : Trc) (hf : t.l.length < fuel) (hk : 0 ≤ t.e.k ∧ t.e.k < 256) : z2a fuel t = some (if (zct t).2 = 0 then zgw (fun _ => true) t.l else 0) := by
 unfold z2a zqj
 exact zcj _ (zpq (fun _ => true) zuu (fun _ => rfl) fuel t hf hk) rfl
def zdx : List En → List UInt8
 | [] => []
 | e :: l => (if e.k = 1 then e.b else []) ++ zdx l
theorem zmz : ∀ l m, zdx (l ++ m) = zdx l ++ zdx m
 | [], m => rfl
 | e :: l, m => by rw [List.cons_append, zdx, zdx, zmz l m, List.append_assoc]
def zcl : List En → Nat
 | [] => 0
 | e :: l => e.b.length + zcl l
theorem zht : ∀ l m, zcl (l ++ m) = zcl l + zcl m
 | [], m => by simp [zcl]
 | e :: l, m => by rw [List.cons_append, zcl, zcl, zht l m]; omega
theorem zmx : ∀ l, (zdx l).length ≤ zcl l
 | [] => by simp [zdx]
 | e :: l => by
  rw [zdx, zcl, List.length_append]
  have := zmx l
  split <;> simp <;> omega
theorem sent_eq (fuel : Nat) (t : Trc) (hf : t.l.length < fuel) (hm : fuel < 2 ^ 60) (hb : zcl t.l ≤ 140737488355328) : zop fuel t = some (zdx t.l) := by
 unfold zop
 have key : ∃ o, (zbh (β := Int × (Bool × List UInt8)) (fun s1 => (bif (decide (s1.1 < (List.length t.l : Int))) then (zcr (τ := (Bool × List UInt8)) (chk (0 ≤ s1.1 ∧ s1.1 < (List.length t.l : Int)) (za7 (ix t.l s1.1) (fun x1 => (bif (x1.k == 1) then (chk ((List.length s1.2.2 + List.length x1.b) * 1 ≤ 140737488355328) (some (Sum.inl ((true, (s1.2.2 ++ x1.b)))))) else (some (Sum.inl ((s1.2.1, s1.2.2)))))))) (fun j2 => (chk (-9223372036854775808 ≤ (s1.1 + 1) ∧ (s1.1 + 1) < 9223372036854775808) (some (Sum.inl ((s1.1 + 1), (j2.1, j2.2))))))) else (some (Sum.inr (Sum.inl ((s1.2.1, s1.2.2))))))) fuel (0, (false, ([] : List UInt8))) : Option ((Bool × List UInt8) ⊕ List UInt8)) = some o ∧ ∃ u, o = .inl (u, zdx t.l) := by
  refine loop_ex (fun i (s : Int × (Bool × List UInt8)) => s.1 = (i : Int) ∧ s.2.2 = zdx (t.l.take i)) _ t.l.length (fun i s hi hT => ?_) (fun s hT => ?_) hf ⟨rfl, rfl⟩
  ·obtain ⟨i', u, c⟩ := s
   obtain ⟨t1, t2⟩ := hT
   simp only at t1 t2
   subst t1; subst t2
   have hs : zdx (t.l.take (i + 1)) = zdx (t.l.take i) ++ (if (t.l.getD i Enc.inh).k = 1 then (t.l.getD i Enc.inh).b else []) := by
    rw [zhr hi, zmz, zdx, zdx, List.append_nil]
   have hlen : (zdx (t.l.take i)).length + (t.l.getD i Enc.inh).b.length ≤ 140737488355328 := by
    have h1 := zmx (t.l.take i)
    have h2 := zht (t.l.take (i + 1)) (t.l.drop (i + 1))
    rw [List.take_append_drop, zhr hi, zht] at h2
    simp only [zcl] at h2
    omega
   by_cases hk : (t.l.getD i Enc.inh).k = 1
   ·refine ⟨_, zaq (decide_eq_true (by simp only; omega)) (zdd (true, zdx (t.l.take i) ++ (t.l.getD i Enc.inh).b) (zal (by simp only; omega) (za1 ?_)) (zal (by simp only; omega) rfl)), by simp, ?_⟩
    ·simp only [ix, Int.toNat_natCast]
     exact zaq (by simpa using hk) (zal (by omega) rfl)
    ·simp only [hs, if_pos hk]
   ·refine ⟨_, zaq (decide_eq_true (by simp only; omega)) (zdd (u, zdx (t.l.take i)) (zal (by simp only; omega) (za1 ?_)) (zal (by simp only; omega) rfl)), by simp, ?_⟩
    ·simp only [ix, Int.toNat_natCast]
     exact zat (by simpa using hk) rfl
    ·simp only [hs, if_neg hk, List.append_nil]
  ·obtain ⟨i', u, c⟩ := s
   obtain ⟨t1, t2⟩ := hT
   simp only at t1 t2
   subst t1; subst t2
   refine ⟨_, zat (decide_eq_false (by simp only; omega)) rfl, u, ?_⟩
   simp
 obtain ⟨o, h1, u, rfl⟩ := key
 exact zdd _ h1 rfl
end Go.Ab
