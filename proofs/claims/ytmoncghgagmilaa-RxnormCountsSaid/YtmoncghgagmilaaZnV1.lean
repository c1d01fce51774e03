/-
  rx: functions of closures, has, right, nodes, bytes of sets, as plain functions.
-/
import Derived.Test.YtmoncghgagmilaaZnW2
import Derived.Test.YtmoncghgagmilaaZdQq
import Derived.Test.YtmoncghgagmilaaZnW1
set_option linter.unusedSimpArgs false
set_option linter.unusedVariables false
set_option maxRecDepth 100000
set_option maxHeartbeats 4000000
namespace Go.Ab
open Go Go.RowKit Go.Fwd Go.Proofs
theorem zy0 {t : Tr} {l : List AV} (h : zb2 l = true) : zb2 (.agg (Enc.cells t) :: l) = true := by
 rw [zb2, h, Bool.and_true]; have := z00 t; rw [enc_eq] at this; exact this
theorem rowT_ne (l : List Tr) : List.map zuv l ≠ errRows := by
 cases l with
 | nil => simp [errRows]
 | cons a l => simp [errRows, zuv, List.replicate]
theorem rowB_ne (l : List Int) : List.map z5u l ≠ errRows := by
 cases l with
 | nil => simp [errRows]
 | cons a l => simp [errRows, z5u, List.replicate]
noncomputable def zuu (fuel : Nat) (s : BS) (rows : List Int) : Option Nat :=
 (zcl (β := Int × Nat) (fun s1 => (bif (decide (s1.1 < 256)) then (zds (τ := Nat) (zau (zqv s (IntKind.u8.wrap s1.1)) (fun x1 => (bif x1 then (z7f (rows[s1.2]? = some (IntKind.u8.wrap s1.1)) (some (Sum.inl ((s1.2 + 1))))) else (some (Sum.inl (s1.2)))))) (fun j1 => (chk (-9223372036854775808 ≤ (s1.1 + 1) ∧ (s1.1 + 1) < 9223372036854775808) (some (Sum.inl ((s1.1 + 1), j1)))))) else (some (Sum.inr s1.2)))) fuel (0, 0))
theorem ent102 : Ent Try.prog 102 := enters_of Try.func102 (by kernel_rfl) rfl
theorem all1_sh (fuel : Nat) (s : BS) (rows : List Int) (h : zuu fuel s rows = some rows.length) (c : Code) (hc : Try.f102.body = some c) (l : Nat) : awp (ITP Try.prog) Try.prog (some (l, rows.map z5u)) 0 c (z07 Try.prog Try.f102 rows.length) (zb1 Try.f102 [.yld l, .iptr (Enc.cells (s : BS))]) St.empty := by
 cases hc
 unfold zuu at h
 refine za0 (by dsimp only [zb1, Try.f102, List.length_cons, List.length_nil, Nat.zero_add, Nat.reduceAdd, Nat.reduceSub, List.replicate, List.cons_append, List.nil_append]) (by dsimp only [St.empty]) ?_
 refine zr [.v (.i 0)] ?_
 refine zt ?_
 refine zcp h (bz 0 19 524284) (fun s1 => [(4, .i s1.1)]) (fun s1 => ⟨[], [], [], s1.2, false⟩) ?_ ?_
 exact zc1 (bl 19 19)
 intro s1 p1 h
 refine zf9 ?_
 refine zr [.v (.b (decide (s1.1 < 256)))] ?_
 refine ze ?_
 refine zbv h (fun hc1 h => ?_) (fun hc1 h => ?_)
 refine za3 h (bz 0 18 262120) (fun j1 => []) (fun j1 => ⟨[], [], [], j1, false⟩) ?_ ?_
 intro or1 h hr1
 refine zt ?_
 refine zr [.m _, .m _] ?_
 refine zr [.v (.A (s : BS)), .m _, .v (.u (IntKind.u8.wrap s1.1))] ?_
 obtain ⟨x1, hx1, h⟩ := zw h
 refine zbq (z3x s (IntKind.u8.wrap s1.1) x1 hx1) ?_
 refine zu h (fun hc2 h => ?_) (fun hc2 h => ?_)
 refine zaw hc2 ?_
 refine w_r [.m _, .m _, .v (.u (IntKind.u8.wrap s1.1))] ?_
 refine zab rfl rfl ?_
 obtain ⟨g1, h⟩ := z2q h
 refine zs7 (row := z5u) (x := (IntKind.u8.wrap s1.1)) (σ1 := ⟨[], [], [], (s1.2 + 1), false⟩) (σ2 := ⟨[], [], [], s1.2, true⟩) g1 (zf rfl rfl) (by kernel_rfl) (z54 rfl) rfl rfl rfl rfl rfl (by dsimp only [zp, List.set]) (by dsimp only [zp, List.set]) rfl rfl ?_ ?_
 refine w_r [.v (.b false), .v (.b false)] ?_
 refine zay rfl ?_
 refine zg (o := or1) ((s1.2 + 1)) h ?_
 exact zc1 (bl 19 262167)
 refine w_r [.v (.b true), .v (.b true)] ?_
 refine zba rfl ?_
 refine .inr ?_
 exact ⟨⟨.tup [], rfl⟩, .inl rfl⟩
 refine zaw hc2 ?_
 refine w_r [.p, .p, .p, .p, .p] ?_
 refine w_r [.v (.b false)] ?_
 refine zay rfl ?_
 refine zg (o := or1) (s1.2) h ?_
 exact zc1 (bl 19 262167)
 intro j1 h
 refine zf9 ?_
 refine zd (k0 := 0) (id := 4) ?_
 obtain ⟨g2, h⟩ := zh h
 refine zv1 g2 ?_
 refine zad ?_
 refine zbn (p := p1) ((s1.1 + 1), j1) h ?_
 exact zc1 (bl 19 19)
 refine zac h (fun h => ?_)
 exact ⟨⟨.tup [], rfl⟩, .inr (Option.some.inj h)⟩
theorem ent100 : Ent Try.prog 100 := enters_of Try.func100 (by kernel_rfl) rfl
theorem all_sh (fuel : Nat) (s : BS) (rows : List Int) (h : zuu fuel s rows = some rows.length) : Pure (ITP Try.prog) Try.prog 100 [.A (s : BS)] (.iter (rows.map z5u)) := by
 obtain ⟨d, hd⟩ : ∃ d, Try.f100.body = some d := ⟨_, rfl⟩
 refine zir mix Try.func100 hd ent100 ?_
 cases hd
 refine za0 (by dsimp only [zb1, Try.f100, List.length_cons, List.length_nil, Nat.zero_add, Nat.reduceAdd, Nat.reduceSub, List.replicate, List.cons_append, List.nil_append]) (by dsimp only [St.empty]) ?_
 refine ze (zd ?_)
 refine zbj (a := .ptr 0 0) (σ'' := (.B [(28, (Enc.cells (s : BS)))])) ?_
 refine w_o (a := .raw Value.nilFunc) ?_
 refine zr [.v (.clos 102 [.ptr 0 0]), .m _] ?_
 exact zuc 1 (row := z5u) (caps := [.iptr (Enc.cells (s : BS))]) mix rfl (congrArg (fun z => AV.clos 102 [.iptr z]) (zcg _ _ (Enc.clo _))) Try.func102 rfl ent102 (by first | rfl | simp [cloL, clo, Enc.clo, zgs, Enc.cloL]) (rowB_ne _) (fun l => all1_sh fuel s rows h _ rfl l)
noncomputable def zkv (fuel : Nat) (n : Nat) (t : Tr) (rows : List Tr) : Option Nat :=
 (z7f (rows[0]? = some t) (zcl (β := Int × Nat) (fun s1 => (bif (decide (s1.1 < (List.length t.l : Int))) then (zds (τ := Nat) (chk (0 ≤ s1.1 ∧ s1.1 < (List.length t.l : Int)) (zal (ix t.l s1.1) (fun x1 => (chk ((pre x1).length < n) (zal (pre x1) (fun x2 => (zds (zhd (β := Nat) (fun s2 w1 => (z7f (rows[s2]? = some w1) (some (Sum.inl ((s2 + 1)))))) x2 (s1.2)) (fun s2 => (some (Sum.inl (s2))))))))))) (fun j1 => (chk (-9223372036854775808 ≤ (s1.1 + 1) ∧ (s1.1 + 1) < 9223372036854775808) (some (Sum.inl ((s1.1 + 1), j1)))))) else (some (Sum.inr s1.2)))) fuel (0, (0 + 1))))
theorem ent49 : Ent Try.prog 49 := enters_of Try.func49 (by kernel_rfl) rfl
theorem z47 (fuel : Nat) (n : Nat) (t : Tr) (rows : List Tr) (ih : ∀ x : Tr, (pre x).length < n → Pure (ITP Try.prog) Try.prog 38 [.A x] (.iter (List.map zuv (pre x)))) (h : zkv fuel n t rows = some rows.length) (c : Code) (hc : Try.f49.body = some c) (l : Nat) : awp (ITP Try.prog) Try.prog (some (l, rows.map zuv)) 0 c (z07 Try.prog Try.f49 rows.length) (zb1 Try.f49 [.yld l, .iptr (Enc.cells (t : Tr))]) St.empty := by
 cases hc
 unfold zkv at h
 refine za0 (by dsimp only [zb1, Try.f49, List.length_cons, List.length_nil, Nat.zero_add, Nat.reduceAdd, Nat.reduceSub, List.replicate, List.cons_append, List.nil_append]) (by dsimp only [St.empty]) ?_
 refine ze (zd ?_)
 refine zbj (a := .ptr 0 0) (σ'' := (.B [(32, [.yld l])])) ?_
 refine ze ?_
 refine zr [.v (.yld l), .v (.A (t : Tr))] ?_
 obtain ⟨g1, h⟩ := z2q h
 refine zs7 (row := zuv) (x := t) (σ1 := ⟨[(32, [.yld l])], [], [], (0 + 1), false⟩) (σ2 := ⟨[(32, [.yld l])], [], [], 0, true⟩) g1 (zf (zai (zl (Enc.clo _))) rfl) (zb (zn _ _ (zl (Enc.clo _))) rfl) (zy0 rfl) rfl rfl rfl rfl rfl (by dsimp only [zp, List.set]) (by dsimp only [zp, List.set]) rfl rfl ?_ ?_
 refine w_o (a := .b false) ?_
 refine zay rfl ?_
 refine zr [.v (.iptr (List.drop 7 (Enc.cells (t : Tr)))), .v (.L (t.l : List Tr)), .v (.i (List.length t.l : Int)), .v (.i 0)] ?_
 refine zt ?_
 refine zcp h (bz 0 25 33548283) (fun s1 => [(13, .i s1.1)]) (fun s1 => ⟨[(32, [.yld l])], [], [], s1.2, false⟩) ?_ ?_
 exact zc1 (bl 25 14340)
 intro s1 p1 h
 refine zf9 ?_
 refine zr [.v (.b (decide (s1.1 < (List.length t.l : Int))))] ?_
 refine ze ?_
 refine zbv h (fun hc1 h => ?_) (fun hc1 h => ?_)
 refine za3 h (bz 0 24 16760880) (fun j1 => []) (fun j1 => ⟨[(32, [.yld l])], [], [], j1, false⟩) ?_ ?_
 intro or1 h hr1
 refine zt ?_
 refine ze (zd ?_)
 obtain ⟨g2, h⟩ := zh h
 obtain ⟨x1, hx1, h⟩ := zj h
 refine zwf hx1 g2 ?_
 refine w_o (a := .A (x1 : Tr)) ?_
 refine zbj (a := .ptr 1 0) (σ'' := ⟨[(32, [.yld l]), (30, [.u 0, .raw (.int .u64 0), .raw (.int .u64 0), .raw (.int .u64 0), .raw (.int .u64 0), .i 0, .i 0, .list 0 [] .full])], [], [], s1.2, false⟩) ?_
 refine zbm 8 ⟨[(32, [.yld l]), (30, (Enc.cells (x1 : Tr)))], [], [], s1.2, false⟩ ?_
 refine zr [.v (.A (x1 : Tr))] ?_
 obtain ⟨g3, h⟩ := zh h
 obtain ⟨x2, hx2, h⟩ := zj h
 refine zbq (args' := [.A (x1 : Tr)]) (r := .iter (List.map zuv x2)) (by rw [← hx2]; exact (ih x1 g3)) ?_
 refine zt ?_
 refine znx h zuv (fun s2 => ⟨[(32, [.yld l]), (30, (Enc.cells (x1 : Tr)))], [], [], s2, false⟩) rfl (fun _ => rfl) rfl rfl ?_ ?_
 intro s2 w1 p2 h
 refine za0 (by dsimp only [znl, List.zip, List.zipWith, List.foldl, List.set, Array.toList]) rfl ?_
 refine zd (k0 := 0) (id := 6) ?_
 refine zbj (a := .ptr 2 0) (σ'' := ⟨[(32, [.yld l]), (30, (Enc.cells (x1 : Tr))), (30, [.u 0, .raw (.int .u64 0), .raw (.int .u64 0), .raw (.int .u64 0), .raw (.int .u64 0), .i 0, .i 0, .list 0 [] .full])], [], [], s2, false⟩) ?_
 refine zbm 8 ⟨[(32, [.yld l]), (30, (Enc.cells (x1 : Tr))), (30, (Enc.cells (w1 : Tr)))], [], [], s2, false⟩ ?_
 refine zt ?_
 refine zr [.v (.yld l), .v (.A (w1 : Tr))] ?_
 obtain ⟨g4, h⟩ := z2q h
 refine zs7 (row := zuv) (x := w1) (σ1 := ⟨[(32, [.yld l]), (30, (Enc.cells (x1 : Tr))), (30, (Enc.cells (w1 : Tr)))], [], [], (s2 + 1), false⟩) (σ2 := ⟨[(32, [.yld l]), (30, (Enc.cells (x1 : Tr))), (30, (Enc.cells (w1 : Tr)))], [], [], s2, true⟩) g4 (zf (zai (zl (Enc.clo _))) rfl) (zb (zn _ _ (zl (Enc.clo _))) rfl) (zy0 rfl) rfl rfl rfl rfl rfl (by dsimp only [zp, List.set]) (by dsimp only [zp, List.set]) rfl rfl ?_ ?_
 refine w_o (a := .b false) ?_
 refine zay rfl ?_
 exact zl3 (p := p2) ((s2 + 1)) h (zbi (zv (by kernel_rfl) (zv (zm _ _ (Enc.clo _)) rfl))) (by kernel_rfl)
 refine w_o (a := .b true) ?_
 refine zba rfl ?_
 refine .inr ⟨(zbi (zv (by kernel_rfl) (zv (zm _ _ (Enc.clo _)) rfl))), ?_⟩
 refine .inr ?_
 exact ⟨⟨.tup [], rfl⟩, .inl rfl⟩
 intro s2 h
 refine zg (o := or1) (s2) h ?_
 exact zcn (bl 25 16793551) 1 (by kernel_rfl) (Nat.le_of_ble_eq_true rfl) (zbi (zv (by kernel_rfl) rfl)) (by dsimp only [zaf, zae, List.foldl, List.set, bz, bzc, Nat.reduceMod, Nat.reduceDiv, Nat.reduceBEq, Nat.reduceAdd]; exact (zb rfl (zb rfl (zb (by decide) (zb rfl (zb rfl (zb rfl (zb rfl (zb rfl (zb rfl (zb rfl (zb rfl (zb (zar (Enc.cloL _)) (by kernel_rfl)))))))))))))) (by kernel_rfl)
 intro j1 h
 refine zf9 ?_
 refine zd (k0 := 0) (id := 8) ?_
 obtain ⟨g5, h⟩ := zh h
 refine zv1 g5 ?_
 refine zad ?_
 refine zbn (p := p1) ((s1.1 + 1), j1) h ?_
 exact zc1 (bl 25 14340)
 refine zac h (fun h => ?_)
 exact ⟨⟨.tup [], rfl⟩, .inr (Option.some.inj h)⟩
 refine w_o (a := .b true) ?_
 refine zba rfl ?_
 exact ⟨⟨.tup [], rfl⟩, .inl rfl⟩
theorem ent38 : Ent Try.prog 38 := enters_of Try.func38 (by kernel_rfl) rfl
theorem z6r (fuel : Nat) (n : Nat) (t : Tr) (rows : List Tr) (ih : ∀ x : Tr, (pre x).length < n → Pure (ITP Try.prog) Try.prog 38 [.A x] (.iter (List.map zuv (pre x))))  (h : zkv fuel n t rows = some rows.length) : Pure (ITP Try.prog) Try.prog 38 [.A (t : Tr)] (.iter (rows.map zuv)) := by
 obtain ⟨d, hd⟩ : ∃ d, Try.f38.body = some d := ⟨_, rfl⟩
 refine zir mix Try.func38 hd ent38 ?_
 cases hd
 refine za0 (by dsimp only [zb1, Try.f38, List.length_cons, List.length_nil, Nat.zero_add, Nat.reduceAdd, Nat.reduceSub, List.replicate, List.cons_append, List.nil_append]) (by dsimp only [St.empty]) ?_
 refine ze (zd ?_)
 refine zbj (a := .ptr 0 0) (σ'' := (.B [(30, (Enc.cells (t : Tr)))])) ?_
 refine w_o (a := .raw Value.nilFunc) ?_
 refine zr [.v (.clos 49 [.ptr 0 0]), .m _] ?_
 exact zuc 1 (row := zuv) (caps := [.iptr (Enc.cells (t : Tr))]) mix rfl (congrArg (fun z => AV.clos 49 [.iptr z]) (zcg _ _ (Enc.clo _))) Try.func49 rfl ent49 (by first | rfl | simp [cloL, clo, Enc.clo, zgs, Enc.cloL]) (rowT_ne _) (fun l => z47 fuel n t rows ih h _ rfl l)
end Go.Ab
set_option linter.unusedSimpArgs false
set_option linter.unusedVariables false
namespace Go.Ab
open Go Go.RowKit Go.Fwd Go.Proofs
theorem zeg {α : Type} [Enc α] {l : List α} {i : Nat} (h : i < l.length) : ix l (i : Int) = l[i] := by simp [ix, h]
theorem z5e (p : Tr → Option Bool) (q : Tr → Bool) (l : List Tr) (hl : l.length < 2 ^ 62) (hp : ∀ x ∈ l, p x = some (q x)) {body : Int → Option (Int ⊕ (Unit ⊕ Int))}
 (hb : body = fun s1 => (bif (decide (s1 < (List.length l : Int))) then (chk (0 ≤ s1 ∧ s1 < (List.length l : Int)) (zal (ix l s1) (fun x1 => (zau (p x1) (fun x2 => (bif x2 then (some (Sum.inr (Sum.inr s1))) else (chk (-9223372036854775808 ≤ (s1 + 1) ∧ (s1 + 1) < 9223372036854775808) (some (Sum.inl ((s1 + 1))))))))))) else (some (Sum.inr (Sum.inl ()))))) :
 ∀ (k i n : Nat), i + k = l.length → k < n → ∃ o : Unit ⊕ Int, zcl body n (i : Int) = some o ∧ ((o = .inl () ∧ (l.drop i).any q = false) ∨ (∃ j : Int, o = .inr j ∧ 0 ≤ j ∧ (l.drop i).any q = true)) := by
 intro k
 induction k with
 | zero =>
  intro i n hi hn
  match n, hn with
  | n + 1, _ =>
   refine ⟨.inl (), ?_, .inl ⟨rfl, ?_⟩⟩
   ·rw [zcl, hb]; simp only
    rw [show decide ((i : Int) < (l.length : Int)) = false from by simp; omega]; rfl
   ·rw [List.drop_of_length_le (by omega)]; rfl
 | succ k ih =>
  intro i n hi hn
  match n, hn with
  | n + 1, hn =>
   have hil : i < l.length := by omega
   have hx := hp l[i] (List.getElem_mem hil)
   have hd : l.drop i = l[i] :: l.drop (i + 1) := List.drop_eq_getElem_cons hil
   have hb1 : body (i : Int) = bif q l[i] then some (Sum.inr (Sum.inr (i : Int))) else some (Sum.inl (((i + 1 : Nat) : Int))) := by
    rw [hb]; simp only
    rw [show decide ((i : Int) < (l.length : Int)) = true from by simp; omega]
    show chk _ _ = _
    rw [za2 (by omega), zal, zeg hil, hx, bindE_some]
    rw [za2 (by omega), show ((i + 1 : Nat) : Int) = (i : Int) + 1 from by omega]
   cases hq : q l[i] with
   | true =>
    refine ⟨.inr (i : Int), ?_, .inr ⟨_, rfl, by omega, ?_⟩⟩
    ·rw [zcl, hb1, hq]; rfl
    ·rw [hd, List.any_cons, hq]; rfl
   | false =>
    obtain ⟨o, h1, h2⟩ := ih (i + 1) n (by omega) (by omega)
    refine ⟨o, ?_, ?_⟩
    ·rw [zcl, hb1, hq]; exact h1
    ·rw [hd, List.any_cons, hq, Bool.false_or]; exact h2
theorem zyy {fuel : Nat} {p : Tr → Option Bool} (q : Tr → Bool) {l : List Tr} (hf : l.length < fuel) (hl : l.length < 2 ^ 62) (hp : ∀ x ∈ l, p x = some (q x)) : zwr fuel p l = some (l.any q) := by
 unfold zwr z6b
 obtain ⟨o, h1, h2⟩ := z5e p q l hl hp rfl l.length 0 fuel (by omega) hf
 rw [show ((0 : Nat) : Int) = 0 from rfl] at h1
 rw [h1]
 rw [List.drop_zero] at h2
 rcases h2 with ⟨rfl, h⟩ | ⟨j, rfl, hj, h⟩
 ·rw [h]; rfl
 ·rw [h]; show zau (some j) _ = _
  rw [bindE_some]; simp [hj]
theorem z7m {fuel : Nat} {p : Tr → Option Bool} (q : Tr → Bool) {l : List Tr} (hf : l.length < fuel) (hl : l.length < 2 ^ 62) (hp : ∀ x ∈ l, p x = some (q x)) : z3z fuel p l = some (l.any q) := zyy q hf hl hp
theorem zw1 {fuel : Nat} {t : Tr} (hf : t.l.length < fuel) (hl : t.l.length < 2 ^ 62) (k : Nat) : zp0 fuel t k = some (zpc t k) := by
 unfold zp0
 rw [z7m (fun x => decide (x.k = k)) hf hl]
 ·rfl
 ·intro x hx
  unfold zup
  congr 1
  rw [Bool.eq_iff_iff]; simp; omega
theorem zqr (lo hi : Int) : ze7 lo hi = some (zbl lo hi) := by
 unfold ze7 zbl
 have k1 : ∀ n m : Int, (n == m) = decide (n = m) := fun n m => rfl
 simp only [k1]
 have key : ∀ a b c d e f g h : Bool, (zds (τ := Unit) (bif a then (some (Sum.inr false)) else (bif b then (some (Sum.inr false)) else (bif c then (bif d then (some (Sum.inr false)) else (some (Sum.inl ()))) else (some (Sum.inl ()))))) (fun _ => (bif e then (some true) else (bif f then (bif g then (some h) else (some false)) else (some false))))) = some (!(a || b || c && d) && (e || f && g && h)) := by decide
 exact key _ _ _ _ _ _ _ _
theorem z6j {fuel : Nat} {t : Tr} (hf : t.l.length < fuel) (hl : t.l.length < 2 ^ 62) : zsh fuel t = some (zcq t) := by
 have e1 : zp0 fuel t 1 = some (zpc t 1) := zw1 hf hl 1
 have e3 : zp0 fuel t 3 = some (zpc t 3) := zw1 hf hl 3
 have e4 : zp0 fuel t 4 = some (zpc t 4) := zw1 hf hl 4
 have eb := zqr t.mn t.mx
 unfold zsh
 have hodd : ∀ a b c d e f g : Bool, (bif a then (bif b then (some (Sum.inr false)) else (bif c then (bif d then (some (Sum.inr false)) else (bif e then (some (Sum.inr false)) else (bif f then (bif g then (some (Sum.inr false)) else (some (Sum.inl ()))) else (some (Sum.inl ()))))) else (bif f then (bif g then (some (Sum.inr false)) else (some (Sum.inl ()))) else (some (Sum.inl ()))))) else (bif c then (bif d then (some (Sum.inr false)) else (bif e then (some (Sum.inr false)) else (bif f then (bif g then (some (Sum.inr false)) else (some (Sum.inl ()))) else (some (Sum.inl ()))))) else (bif f then (bif g then (some (Sum.inr false)) else (some (Sum.inl ()))) else (some (Sum.inl ())))) : Option (Unit ⊕ Bool)) = bif (a && b) || (c && (d || e)) || (f && g) then some (.inr false) else some (.inl ()) := by decide
 rw [hodd]
 show zds (bif oddT t then _ else _) _ = some (zcq t)
 rw [zcq]
 cases oddT t with
 | true => rfl
 | false =>
  show (bif _ then _ else _) = _
  rw [Bool.not_false, Bool.true_and]
  cases (t.k : Int) == 1 with
  | true => rfl
  | false =>
   show (bif _ then _ else _) = some (bif _ then _ else _)
   cases (t.k : Int) == 2 with
   | true => rfl
   | false =>
    show (bif _ then _ else _) = some (bif _ then _ else _)
    rw [e1, e3, e4, eb]
    cases (t.k : Int) == 3 with
    | true =>
     show (bif _ then _ else _) = some _
     cases decide ((t.l.length : Int) > 1) <;> cases zpc t 1 <;> cases zpc t 3 <;> rfl
    | false =>
     show (bif _ then _ else _) = some (bif _ then _ else _)
     cases (t.k : Int) == 4 with
     | true =>
      show (bif _ then _ else _) = some _
      cases decide ((t.l.length : Int) > 1) <;> cases zpc t 4 <;> rfl
     | false =>
      show (bif _ then _ else _) = some (bif _ then _ else _)
      cases (t.k : Int) == 5 with
      | true =>
       show (bif _ then _ else _) = some _
       cases (t.l.length : Int) == 1 <;> cases zbl t.mn t.mx <;> cases zpc t 1 <;> rfl
      | false =>
       show (bif _ then _ else _) = some _
       cases (t.k : Int) == 6 <;> cases (t.l.length : Int) == 1 <;> rfl
theorem zpf (t : Tr) : t.l.length < (pre t).length := by have := ztk t; have := z28 t.l; omega
theorem k_right (t : Tr) (h : (pre t).length < 2 ^ 61) : Pure (ITP Try.prog) Try.prog 39 [.agg (Enc.cells t)] (.raw (.bool (zcq t))) := by
 have := zpf t
 exact z67 (t.l.length + 1) t _ (z6j (by omega) (by omega))
theorem zzs : ∀ (l : List Tr) (i : Nat) (hi : i < l.length) (j : Nat), j < (pre l[i]).length → (zam l)[(zam (l.take i)).length + j]? = (pre l[i])[j]?
 | [], i, hi, _, _ => by simp at hi
 | t :: l, 0, hi, j, hj => by
  simp only [List.take_zero, zam, List.length_nil, Nat.zero_add, List.getElem_cons_zero]
  simp only [List.getElem_cons_zero] at hj
  rw [List.getElem?_append_left hj]
 | t :: l, i + 1, hi, j, hj => by
  simp only [List.take_succ_cons, zam, List.length_append, List.getElem_cons_succ]
  simp only [List.getElem_cons_succ] at hj
  rw [List.getElem?_append_right (by omega), show (pre t).length + (zam (l.take i)).length + j - (pre t).length = (zam (l.take i)).length + j by omega]
  exact zzs l i (by simpa using hi) j hj
theorem z1k {fuel n : Nat} (t : Tr) (hf : t.l.length < fuel) (hn : (pre t).length ≤ n) (hl : (pre t).length < 2 ^ 61) : zkv fuel n t (pre t) = some (pre t).length := by
 have hlen := zpf t
 unfold zkv
 refine z16 (by rw [zcw]; rfl) ?_
 refine zgy t.l.length (fun i => ((i : Int), 1 + (zam (t.l.take i)).length)) rfl (fun i hi => ?_) ?_ hf
 ·refine zby (by simp; omega) ?_
  refine zc8 (1 + (zam (t.l.take (i + 1))).length) ?_ ?_
  ·refine zz (by simp only; omega) (zan fun x1 e1 => ?_)
   simp only at e1
   rw [zeg hi] at e1
   have hm : x1 ∈ t.l := e1 ▸ List.getElem_mem hi
   have hx := zez hm
   have hp : (pre t).length = 1 + (zam t.l).length := by rw [zcw, List.length_cons]; omega
   refine zz (by omega) (zan fun x2 e2 => ?_)
   subst e2
   refine zc8 (1 + (zam (t.l.take (i + 1))).length) ?_ rfl
   have hsucc : (zam (t.l.take (i + 1))).length = (zam (t.l.take i)).length + (pre x1).length := by rw [← e1]; exact zjy t.l i hi
   have key : ∀ {ρ : Type} (l : List Tr) (j : Nat), (∀ m, m < l.length → (pre t)[j + m]? = l[m]?) → zhd (β := Nat) (ρ := ρ) (fun s2 w1 => (z7f ((pre t)[s2]? = some w1) (some (Sum.inl ((s2 + 1)))))) l j = some (.inl (j + l.length)) := by
    intro ρ l
    induction l with
    | nil => intro j _; rfl
    | cons y l ih =>
     intro j hj
     have h0 : (pre t)[j]? = some y := by simpa using hj 0 (by simp)
     have hb : z7f ((pre t)[j]? = some y) (some (Sum.inl (j + 1))) = (some (Sum.inl (j + 1)) : Option (Nat ⊕ ρ)) := z16 h0 rfl
     simp only [zhd, hb]
     rw [ih (j + 1) (fun m hm => by have := hj (m + 1) (by simp; omega); rw [show j + 1 + m = j + (m + 1) by omega, this]; rfl)]
     simp; omega
   rw [hsucc, ← Nat.add_assoc]
   refine key (pre x1) (1 + (zam (t.l.take i)).length) (fun m hm => ?_)
   subst e1
   rw [zcw t, show 1 + (zam (t.l.take i)).length + m = (zam (t.l.take i)).length + m + 1 by omega, List.getElem?_cons_succ]
   exact zzs t.l i hi m hm
  ·refine zz (by simp only; omega) ?_
   simp only
   rfl
 ·refine zbw (by simp) ?_
  have hp : (pre t).length = 1 + (zam t.l).length := by rw [zcw, List.length_cons]; omega
  simp only [List.take_length]; rw [hp]
theorem zt3 : ∀ (n : Nat) (t : Tr), (pre t).length < n → n ≤ 2 ^ 61 → Pure (ITP Try.prog) Try.prog 38 [.agg (Enc.cells t)] (.iter (List.map zuv (pre t)))
 | 0, t, h, _ => absurd h (Nat.not_lt_zero _)
 | n + 1, t, h, hn => z6r (t.l.length + 1) n t (pre t) (fun x hx => zt3 n x hx (by omega)) (z1k t (by omega) (by omega) (by omega))
theorem z4l (t : Tr) (h : (pre t).length < 2 ^ 61) : Pure (ITP Try.prog) Try.prog 38 [.agg (Enc.cells t)] (.iter (List.map zuv (pre t))) := zt3 (2 ^ 61) t h (Nat.le_refl _)
theorem z2e (s : BS) (j : Nat) (hj : j < 256) : zqv s (j : Int) = some (s.getLsbD j) := by
 obtain ⟨h1, h2, _⟩ := zxo j hj
 unfold zqv
 rw [h1, h2]
 refine zz (by omega) (zz (by omega) ?_)
 congr 1
 have := z7d (W64 s (j / 64)) (j % 64) (Nat.mod_lt _ (by decide))
 rw [show wd s (Int.toNat ((j / 64 : Nat) : Int)) = ((W64 s (j / 64)).toNat : Int) from rfl, this]
 simp only [W64, BitVec.getLsbD_extractLsb', Nat.mod_lt _ (show 0 < 64 by decide), decide_true, Bool.true_and]
 rw [show 64 * (j / 64) + j % 64 = j by omega]
theorem all1_eq (s : BS) : zuu 257 s (els s) = some (els s).length := by
 unfold zuu
 refine zgy 256 (fun i => ((i : Int), (elN s i).length)) rfl (fun i hi => ?_) ?_ (by decide)
 ·refine zby (by simp; omega) ?_
  refine zc8 (elN s (i + 1)).length ?_ ?_
  ·refine zdl (s.getLsbD i) ?_ ?_
   ·simp only [(zxo i hi).2.2]; exact z2e s i hi
   ·rw [zyv]
    refine zvd (fun hb => ?_) (fun hb => ?_)
    ·refine z16 ?_ ?_
     ·simp only [(zxo i hi).2.2, els, List.getElem?_map, z3f s hb 256 hi, Option.map_some]
     ·rw [if_pos hb]; simp
    ·rw [if_neg (by rw [hb]; decide)]; simp
  ·refine zz (by simp only; omega) ?_
   simp
 ·refine zbw (by simp) ?_
  simp [els]
theorem k_all (s : BS) : Pure (ITP Try.prog) Try.prog 100 [.agg (Enc.cells s)] (.iter (List.map z5u (els s))) := all_sh 257 s _ (all1_eq s)
end Go.Ab
