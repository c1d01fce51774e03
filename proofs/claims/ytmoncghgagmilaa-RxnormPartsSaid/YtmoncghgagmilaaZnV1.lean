/-
  rx: functions of closures, has, right, nodes, bytes of sets, as plain functions.
-/
import Derived.Test.YtmoncghgagmilaaZnW2
import Derived.Test.YtmoncghgagmilaaZdQq
import Derived.Test.YtmoncghgagmilaaZnW1
set_option linter.unusedSimpArgs false
set_option linter.unusedVariables false
set_option maxRecDepth 100000
set_option maxHeartbeats 4000000
namespace Go.Ab
open Go Go.RowKit Go.Fwd Go.Proofs
theorem zyu {t : Tr} {l : List AV} (h : zbk l = true) : zbk (.agg (Enc.cells t) :: l) = true := by
 rw [zbk, h, Bool.and_true]; have := zzz t; rw [enc_eq] at this; exact this
theorem rowT_ne (l : List Tr) : List.map ztr l ≠ errRows := by
 cases l with
 | nil => simp [errRows]
 | cons a l => simp [errRows, ztr, List.replicate]
theorem rowB_ne (l : List Int) : List.map z4y l ≠ errRows := by
 cases l with
 | nil => simp [errRows]
 | cons a l => simp [errRows, z4y, List.replicate]
noncomputable def zua (fuel : Nat) (s : BS) (rows : List Int) : Option Nat :=
 (zb6 (β := Int × Nat) (fun s1 => (bif (decide (s1.1 < 256)) then (zdl (τ := Nat) (zax (zqg s (IntKind.u8.wrap s1.1)) (fun x1 => (bif x1 then (z4r (rows[s1.2]? = some (IntKind.u8.wrap s1.1)) (some (Sum.inl ((s1.2 + 1))))) else (some (Sum.inl (s1.2)))))) (fun j1 => (chk (-9223372036854775808 ≤ (s1.1 + 1) ∧ (s1.1 + 1) < 9223372036854775808) (some (Sum.inl ((s1.1 + 1), j1)))))) else (some (Sum.inr s1.2)))) fuel (0, 0))
theorem ent102 : Ent Try.prog 102 := enters_of Try.func102 (by kernel_rfl) rfl
theorem all1_sh (fuel : Nat) (s : BS) (rows : List Int) (h : zua fuel s rows = some rows.length) (c : Code) (hc : Try.f102.body = some c) (l : Nat) : awp (ITP Try.prog) Try.prog (some (l, rows.map z4y)) 0 c (zzp Try.prog Try.f102 rows.length) (zbl Try.f102 [.yld l, .iptr (Enc.cells (s : BS))]) St.empty := by
 cases hc
 unfold zua at h
 refine zar (by dsimp only [zbl, Try.f102, List.length_cons, List.length_nil, Nat.zero_add, Nat.reduceAdd, Nat.reduceSub, List.replicate, List.cons_append, List.nil_append]) (by dsimp only [St.empty]) ?_
 refine zv [.v (.i 0)] ?_
 refine zt ?_
 refine zch h (bz 0 19 524284) (fun s1 => [(4, .i s1.1)]) (fun s1 => ⟨[], [], [], s1.2, false⟩) ?_ ?_
 exact zcw (bl 19 19)
 intro s1 p1 h
 refine zfz ?_
 refine zv [.v (.b (decide (s1.1 < 256)))] ?_
 refine ze ?_
 refine zbm h (fun hc1 h => ?_) (fun hc1 h => ?_)
 refine zaz h (bz 0 18 262120) (fun j1 => []) (fun j1 => ⟨[], [], [], j1, false⟩) ?_ ?_
 intro or1 h hr1
 refine zt ?_
 refine zv [.m _, .m _] ?_
 refine zv [.v (.A (s : BS)), .m _, .v (.u (IntKind.u8.wrap s1.1))] ?_
 obtain ⟨x1, hx1, h⟩ := z6 h
 refine zbc (z1r s (IntKind.u8.wrap s1.1) x1 hx1) ?_
 refine zu h (fun hc2 h => ?_) (fun hc2 h => ?_)
 refine zam hc2 ?_
 refine w_r [.m _, .m _, .v (.u (IntKind.u8.wrap s1.1))] ?_
 refine z1 rfl rfl ?_
 obtain ⟨g1, h⟩ := z3x h
 refine zq9 (row := z4y) (x := (IntKind.u8.wrap s1.1)) (σ1 := ⟨[], [], [], (s1.2 + 1), false⟩) (σ2 := ⟨[], [], [], s1.2, true⟩) g1 (zg rfl rfl) (by kernel_rfl) (z5c rfl) rfl rfl rfl rfl rfl (by dsimp only [zo, List.set]) (by dsimp only [zo, List.set]) rfl rfl ?_ ?_
 refine w_r [.v (.b false), .v (.b false)] ?_
 refine zao rfl ?_
 refine zf (o := or1) ((s1.2 + 1)) h ?_
 exact zcw (bl 19 262167)
 refine w_r [.v (.b true), .v (.b true)] ?_
 refine zbf rfl ?_
 refine .inr ?_
 exact ⟨⟨.tup [], rfl⟩, .inl rfl⟩
 refine zam hc2 ?_
 refine w_r [.p, .p, .p, .p, .p] ?_
 refine w_r [.v (.b false)] ?_
 refine zao rfl ?_
 refine zf (o := or1) (s1.2) h ?_
 exact zcw (bl 19 262167)
 intro j1 h
 refine zfz ?_
 refine zd (k0 := 0) (id := 4) ?_
 obtain ⟨g2, h⟩ := zh h
 refine zw7 g2 ?_
 refine z8 ?_
 refine zbe (p := p1) ((s1.1 + 1), j1) h ?_
 exact zcw (bl 19 19)
 refine zac h (fun h => ?_)
 exact ⟨⟨.tup [], rfl⟩, .inr (Option.some.inj h)⟩
theorem ent100 : Ent Try.prog 100 := enters_of Try.func100 (by kernel_rfl) rfl
theorem all_sh (fuel : Nat) (s : BS) (rows : List Int) (h : zua fuel s rows = some rows.length) : Pure (ITP Try.prog) Try.prog 100 [.A (s : BS)] (.iter (rows.map z4y)) := by
 obtain ⟨d, hd⟩ : ∃ d, Try.f100.body = some d := ⟨_, rfl⟩
 refine zig mix Try.func100 hd ent100 ?_
 cases hd
 refine zar (by dsimp only [zbl, Try.f100, List.length_cons, List.length_nil, Nat.zero_add, Nat.reduceAdd, Nat.reduceSub, List.replicate, List.cons_append, List.nil_append]) (by dsimp only [St.empty]) ?_
 refine ze (zd ?_)
 refine za6 (a := .ptr 0 0) (σ'' := (.B [(28, (Enc.cells (s : BS)))])) ?_
 refine w_o (a := .raw Value.nilFunc) ?_
 refine zv [.v (.clos 102 [.ptr 0 0]), .m _] ?_
 exact zve 1 (row := z4y) (caps := [.iptr (Enc.cells (s : BS))]) mix rfl (congrArg (fun z => AV.clos 102 [.iptr z]) (zb1 _ _ (Enc.clo _))) Try.func102 rfl ent102 (by first | rfl | simp [cloL, clo, Enc.clo, zf4, Enc.cloL]) (rowB_ne _) (fun l => all1_sh fuel s rows h _ rfl l)
noncomputable def zkj (fuel : Nat) (n : Nat) (t : Tr) (rows : List Tr) : Option Nat :=
 (z4r (rows[0]? = some t) (zb6 (β := Int × Nat) (fun s1 => (bif (decide (s1.1 < (List.length t.l : Int))) then (zdl (τ := Nat) (chk (0 ≤ s1.1 ∧ s1.1 < (List.length t.l : Int)) (zag (ix t.l s1.1) (fun x1 => (chk ((pre x1).length < n) (zag (pre x1) (fun x2 => (zdl (zgv (β := Nat) (fun s2 w1 => (z4r (rows[s2]? = some w1) (some (Sum.inl ((s2 + 1)))))) x2 (s1.2)) (fun s2 => (some (Sum.inl (s2))))))))))) (fun j1 => (chk (-9223372036854775808 ≤ (s1.1 + 1) ∧ (s1.1 + 1) < 9223372036854775808) (some (Sum.inl ((s1.1 + 1), j1)))))) else (some (Sum.inr s1.2)))) fuel (0, (0 + 1))))
theorem ent49 : Ent Try.prog 49 := enters_of Try.func49 (by kernel_rfl) rfl
theorem z3q (fuel : Nat) (n : Nat) (t : Tr) (rows : List Tr) (ih : ∀ x : Tr, (pre x).length < n → Pure (ITP Try.prog) Try.prog 38 [.A x] (.iter (List.map ztr (pre x)))) (h : zkj fuel n t rows = some rows.length) (c : Code) (hc : Try.f49.body = some c) (l : Nat) : awp (ITP Try.prog) Try.prog (some (l, rows.map ztr)) 0 c (zzp Try.prog Try.f49 rows.length) (zbl Try.f49 [.yld l, .iptr (Enc.cells (t : Tr))]) St.empty := by
 cases hc
 unfold zkj at h
 refine zar (by dsimp only [zbl, Try.f49, List.length_cons, List.length_nil, Nat.zero_add, Nat.reduceAdd, Nat.reduceSub, List.replicate, List.cons_append, List.nil_append]) (by dsimp only [St.empty]) ?_
 refine ze (zd ?_)
 refine za6 (a := .ptr 0 0) (σ'' := (.B [(32, [.yld l])])) ?_
 refine ze ?_
 refine zv [.v (.yld l), .v (.A (t : Tr))] ?_
 obtain ⟨g1, h⟩ := z3x h
 refine zq9 (row := ztr) (x := t) (σ1 := ⟨[(32, [.yld l])], [], [], (0 + 1), false⟩) (σ2 := ⟨[(32, [.yld l])], [], [], 0, true⟩) g1 (zg (zae (zl (Enc.clo _))) rfl) (zb (zn _ _ (zl (Enc.clo _))) rfl) (zyu rfl) rfl rfl rfl rfl rfl (by dsimp only [zo, List.set]) (by dsimp only [zo, List.set]) rfl rfl ?_ ?_
 refine w_o (a := .b false) ?_
 refine zao rfl ?_
 refine zv [.v (.iptr (List.drop 7 (Enc.cells (t : Tr)))), .v (.L (t.l : List Tr)), .v (.i (List.length t.l : Int)), .v (.i 0)] ?_
 refine zt ?_
 refine zch h (bz 0 25 33548283) (fun s1 => [(13, .i s1.1)]) (fun s1 => ⟨[(32, [.yld l])], [], [], s1.2, false⟩) ?_ ?_
 exact zcw (bl 25 14340)
 intro s1 p1 h
 refine zfz ?_
 refine zv [.v (.b (decide (s1.1 < (List.length t.l : Int))))] ?_
 refine ze ?_
 refine zbm h (fun hc1 h => ?_) (fun hc1 h => ?_)
 refine zaz h (bz 0 24 16760880) (fun j1 => []) (fun j1 => ⟨[(32, [.yld l])], [], [], j1, false⟩) ?_ ?_
 intro or1 h hr1
 refine zt ?_
 refine ze (zd ?_)
 obtain ⟨g2, h⟩ := zh h
 obtain ⟨x1, hx1, h⟩ := zj h
 refine zyl hx1 g2 ?_
 refine w_o (a := .A (x1 : Tr)) ?_
 refine za6 (a := .ptr 1 0) (σ'' := ⟨[(32, [.yld l]), (30, [.u 0, .raw (.int .u64 0), .raw (.int .u64 0), .raw (.int .u64 0), .raw (.int .u64 0), .i 0, .i 0, .list 0 [] .full])], [], [], s1.2, false⟩) ?_
 refine za5 8 ⟨[(32, [.yld l]), (30, (Enc.cells (x1 : Tr)))], [], [], s1.2, false⟩ ?_
 refine zv [.v (.A (x1 : Tr))] ?_
 obtain ⟨g3, h⟩ := zh h
 obtain ⟨x2, hx2, h⟩ := zj h
 refine zbc (args' := [.A (x1 : Tr)]) (r := .iter (List.map ztr x2)) (by rw [← hx2]; exact (ih x1 g3)) ?_
 refine zt ?_
 refine znn h ztr (fun s2 => ⟨[(32, [.yld l]), (30, (Enc.cells (x1 : Tr)))], [], [], s2, false⟩) rfl (fun _ => rfl) rfl rfl ?_ ?_
 intro s2 w1 p2 h
 refine zar (by dsimp only [zmw, List.zip, List.zipWith, List.foldl, List.set, Array.toList]) rfl ?_
 refine zd (k0 := 0) (id := 6) ?_
 refine za6 (a := .ptr 2 0) (σ'' := ⟨[(32, [.yld l]), (30, (Enc.cells (x1 : Tr))), (30, [.u 0, .raw (.int .u64 0), .raw (.int .u64 0), .raw (.int .u64 0), .raw (.int .u64 0), .i 0, .i 0, .list 0 [] .full])], [], [], s2, false⟩) ?_
 refine za5 8 ⟨[(32, [.yld l]), (30, (Enc.cells (x1 : Tr))), (30, (Enc.cells (w1 : Tr)))], [], [], s2, false⟩ ?_
 refine zt ?_
 refine zv [.v (.yld l), .v (.A (w1 : Tr))] ?_
 obtain ⟨g4, h⟩ := z3x h
 refine zq9 (row := ztr) (x := w1) (σ1 := ⟨[(32, [.yld l]), (30, (Enc.cells (x1 : Tr))), (30, (Enc.cells (w1 : Tr)))], [], [], (s2 + 1), false⟩) (σ2 := ⟨[(32, [.yld l]), (30, (Enc.cells (x1 : Tr))), (30, (Enc.cells (w1 : Tr)))], [], [], s2, true⟩) g4 (zg (zae (zl (Enc.clo _))) rfl) (zb (zn _ _ (zl (Enc.clo _))) rfl) (zyu rfl) rfl rfl rfl rfl rfl (by dsimp only [zo, List.set]) (by dsimp only [zo, List.set]) rfl rfl ?_ ?_
 refine w_o (a := .b false) ?_
 refine zao rfl ?_
 exact zli (p := p2) ((s2 + 1)) h (zbb (zw (by kernel_rfl) (zw (zm _ _ (Enc.clo _)) rfl))) (by kernel_rfl)
 refine w_o (a := .b true) ?_
 refine zbf rfl ?_
 refine .inr ⟨(zbb (zw (by kernel_rfl) (zw (zm _ _ (Enc.clo _)) rfl))), ?_⟩
 refine .inr ?_
 exact ⟨⟨.tup [], rfl⟩, .inl rfl⟩
 intro s2 h
 refine zf (o := or1) (s2) h ?_
 exact zce (bl 25 16793551) 1 (by kernel_rfl) (Nat.le_of_ble_eq_true rfl) (zbb (zw (by kernel_rfl) rfl)) (by dsimp only [zab, zaa, List.foldl, List.set, bz, bzc, Nat.reduceMod, Nat.reduceDiv, Nat.reduceBEq, Nat.reduceAdd]; exact (zb rfl (zb rfl (zb (by decide) (zb rfl (zb rfl (zb rfl (zb rfl (zb rfl (zb rfl (zb rfl (zb rfl (zb (zaj (Enc.cloL _)) (by kernel_rfl)))))))))))))) (by kernel_rfl)
 intro j1 h
 refine zfz ?_
 refine zd (k0 := 0) (id := 8) ?_
 obtain ⟨g5, h⟩ := zh h
 refine zw7 g5 ?_
 refine z8 ?_
 refine zbe (p := p1) ((s1.1 + 1), j1) h ?_
 exact zcw (bl 25 14340)
 refine zac h (fun h => ?_)
 exact ⟨⟨.tup [], rfl⟩, .inr (Option.some.inj h)⟩
 refine w_o (a := .b true) ?_
 refine zbf rfl ?_
 exact ⟨⟨.tup [], rfl⟩, .inl rfl⟩
theorem ent38 : Ent Try.prog 38 := enters_of Try.func38 (by kernel_rfl) rfl
theorem z6k (fuel : Nat) (n : Nat) (t : Tr) (rows : List Tr) (ih : ∀ x : Tr, (pre x).length < n → Pure (ITP Try.prog) Try.prog 38 [.A x] (.iter (List.map ztr (pre x))))  (h : zkj fuel n t rows = some rows.length) : Pure (ITP Try.prog) Try.prog 38 [.A (t : Tr)] (.iter (rows.map ztr)) := by
 obtain ⟨d, hd⟩ : ∃ d, Try.f38.body = some d := ⟨_, rfl⟩
 refine zig mix Try.func38 hd ent38 ?_
 cases hd
 refine zar (by dsimp only [zbl, Try.f38, List.length_cons, List.length_nil, Nat.zero_add, Nat.reduceAdd, Nat.reduceSub, List.replicate, List.cons_append, List.nil_append]) (by dsimp only [St.empty]) ?_
 refine ze (zd ?_)
 refine za6 (a := .ptr 0 0) (σ'' := (.B [(30, (Enc.cells (t : Tr)))])) ?_
 refine w_o (a := .raw Value.nilFunc) ?_
 refine zv [.v (.clos 49 [.ptr 0 0]), .m _] ?_
 exact zve 1 (row := ztr) (caps := [.iptr (Enc.cells (t : Tr))]) mix rfl (congrArg (fun z => AV.clos 49 [.iptr z]) (zb1 _ _ (Enc.clo _))) Try.func49 rfl ent49 (by first | rfl | simp [cloL, clo, Enc.clo, zf4, Enc.cloL]) (rowT_ne _) (fun l => z3q fuel n t rows ih h _ rfl l)
end Go.Ab
set_option linter.unusedSimpArgs false
set_option linter.unusedVariables false
namespace Go.Ab
open Go Go.RowKit Go.Fwd Go.Proofs
theorem zeg {α : Type} [Enc α] {l : List α} {i : Nat} (h : i < l.length) : ix l (i : Int) = l[i] := by simp [ix, h]
theorem z6o (p : Tr → Option Bool) (q : Tr → Bool) (l : List Tr) (hl : l.length < 2 ^ 62) (hp : ∀ x ∈ l, p x = some (q x)) {body : Int → Option (Int ⊕ (Unit ⊕ Int))}
 (hb : body = fun s1 => (bif (decide (s1 < (List.length l : Int))) then (chk (0 ≤ s1 ∧ s1 < (List.length l : Int)) (zag (ix l s1) (fun x1 => (zax (p x1) (fun x2 => (bif x2 then (some (Sum.inr (Sum.inr s1))) else (chk (-9223372036854775808 ≤ (s1 + 1) ∧ (s1 + 1) < 9223372036854775808) (some (Sum.inl ((s1 + 1))))))))))) else (some (Sum.inr (Sum.inl ()))))) :
 ∀ (k i n : Nat), i + k = l.length → k < n → ∃ o : Unit ⊕ Int, zb6 body n (i : Int) = some o ∧ ((o = .inl () ∧ (l.drop i).any q = false) ∨ (∃ j : Int, o = .inr j ∧ 0 ≤ j ∧ (l.drop i).any q = true)) := by
 intro k
 induction k with
 | zero =>
  intro i n hi hn
  match n, hn with
  | n + 1, _ =>
   refine ⟨.inl (), ?_, .inl ⟨rfl, ?_⟩⟩
   ·rw [zb6, hb]; simp only
    rw [show decide ((i : Int) < (l.length : Int)) = false from by simp; omega]; rfl
   ·rw [List.drop_of_length_le (by omega)]; rfl
 | succ k ih =>
  intro i n hi hn
  match n, hn with
  | n + 1, hn =>
   have hil : i < l.length := by omega
   have hx := hp l[i] (List.getElem_mem hil)
   have hd : l.drop i = l[i] :: l.drop (i + 1) := List.drop_eq_getElem_cons hil
   have hb1 : body (i : Int) = bif q l[i] then some (Sum.inr (Sum.inr (i : Int))) else some (Sum.inl (((i + 1 : Nat) : Int))) := by
    rw [hb]; simp only
    rw [show decide ((i : Int) < (l.length : Int)) = true from by simp; omega]
    show chk _ _ = _
    rw [zat (by omega), zag, zeg hil, hx, bindE_some]
    rw [zat (by omega), show ((i + 1 : Nat) : Int) = (i : Int) + 1 from by omega]
   cases hq : q l[i] with
   | true =>
    refine ⟨.inr (i : Int), ?_, .inr ⟨_, rfl, by omega, ?_⟩⟩
    ·rw [zb6, hb1, hq]; rfl
    ·rw [hd, List.any_cons, hq]; rfl
   | false =>
    obtain ⟨o, h1, h2⟩ := ih (i + 1) n (by omega) (by omega)
    refine ⟨o, ?_, ?_⟩
    ·rw [zb6, hb1, hq]; exact h1
    ·rw [hd, List.any_cons, hq, Bool.false_or]; exact h2
theorem zx0 {fuel : Nat} {p : Tr → Option Bool} (q : Tr → Bool) {l : List Tr} (hf : l.length < fuel) (hl : l.length < 2 ^ 62) (hp : ∀ x ∈ l, p x = some (q x)) : zwk fuel p l = some (l.any q) := by
 unfold zwk z4u
 obtain ⟨o, h1, h2⟩ := z6o p q l hl hp rfl l.length 0 fuel (by omega) hf
 rw [show ((0 : Nat) : Int) = 0 from rfl] at h1
 rw [h1]
 rw [List.drop_zero] at h2
 rcases h2 with ⟨rfl, h⟩ | ⟨j, rfl, hj, h⟩
 ·rw [h]; rfl
 ·rw [h]; show zax (some j) _ = _
  rw [bindE_some]; simp [hj]
theorem z62 {fuel : Nat} {p : Tr → Option Bool} (q : Tr → Bool) {l : List Tr} (hf : l.length < fuel) (hl : l.length < 2 ^ 62) (hp : ∀ x ∈ l, p x = some (q x)) : z11 fuel p l = some (l.any q) := zx0 q hf hl hp
theorem zwm {fuel : Nat} {t : Tr} (hf : t.l.length < fuel) (hl : t.l.length < 2 ^ 62) (k : Nat) : zod fuel t k = some (zn6 t k) := by
 unfold zod
 rw [z62 (fun x => decide (x.k = k)) hf hl]
 ·rfl
 ·intro x hx
  unfold ztv
  congr 1
  rw [Bool.eq_iff_iff]; simp; omega
theorem zpr (lo hi : Int) : zet lo hi = some (zb7 lo hi) := by
 unfold zet zb7
 have k1 : ∀ n m : Int, (n == m) = decide (n = m) := fun n m => rfl
 simp only [k1]
 have key : ∀ a b c d e f g h : Bool, (zdl (τ := Unit) (bif a then (some (Sum.inr false)) else (bif b then (some (Sum.inr false)) else (bif c then (bif d then (some (Sum.inr false)) else (some (Sum.inl ()))) else (some (Sum.inl ()))))) (fun _ => (bif e then (some true) else (bif f then (bif g then (some h) else (some false)) else (some false))))) = some (!(a || b || c && d) && (e || f && g && h)) := by decide
 exact key _ _ _ _ _ _ _ _
theorem z5v {fuel : Nat} {t : Tr} (hf : t.l.length < fuel) (hl : t.l.length < 2 ^ 62) : zrk fuel t = some (zcm t) := by
 have e1 : zod fuel t 1 = some (zn6 t 1) := zwm hf hl 1
 have e3 : zod fuel t 3 = some (zn6 t 3) := zwm hf hl 3
 have e4 : zod fuel t 4 = some (zn6 t 4) := zwm hf hl 4
 have eb := zpr t.mn t.mx
 unfold zrk
 have hodd : ∀ a b c d e f g : Bool, (bif a then (bif b then (some (Sum.inr false)) else (bif c then (bif d then (some (Sum.inr false)) else (bif e then (some (Sum.inr false)) else (bif f then (bif g then (some (Sum.inr false)) else (some (Sum.inl ()))) else (some (Sum.inl ()))))) else (bif f then (bif g then (some (Sum.inr false)) else (some (Sum.inl ()))) else (some (Sum.inl ()))))) else (bif c then (bif d then (some (Sum.inr false)) else (bif e then (some (Sum.inr false)) else (bif f then (bif g then (some (Sum.inr false)) else (some (Sum.inl ()))) else (some (Sum.inl ()))))) else (bif f then (bif g then (some (Sum.inr false)) else (some (Sum.inl ()))) else (some (Sum.inl ())))) : Option (Unit ⊕ Bool)) = bif (a && b) || (c && (d || e)) || (f && g) then some (.inr false) else some (.inl ()) := by decide
 rw [hodd]
 show zdl (bif oddT t then _ else _) _ = some (zcm t)
 rw [zcm]
 cases oddT t with
 | true => rfl
 | false =>
  show (bif _ then _ else _) = _
  rw [Bool.not_false, Bool.true_and]
  cases (t.k : Int) == 1 with
  | true => rfl
  | false =>
   show (bif _ then _ else _) = some (bif _ then _ else _)
   cases (t.k : Int) == 2 with
   | true => rfl
   | false =>
    show (bif _ then _ else _) = some (bif _ then _ else _)
    rw [e1, e3, e4, eb]
    cases (t.k : Int) == 3 with
    | true =>
     show (bif _ then _ else _) = some _
     cases decide ((t.l.length : Int) > 1) <;> cases zn6 t 1 <;> cases zn6 t 3 <;> rfl
    | false =>
     show (bif _ then _ else _) = some (bif _ then _ else _)
     cases (t.k : Int) == 4 with
     | true =>
      show (bif _ then _ else _) = some _
      cases decide ((t.l.length : Int) > 1) <;> cases zn6 t 4 <;> rfl
     | false =>
      show (bif _ then _ else _) = some (bif _ then _ else _)
      cases (t.k : Int) == 5 with
      | true =>
       show (bif _ then _ else _) = some _
       cases (t.l.length : Int) == 1 <;> cases zb7 t.mn t.mx <;> cases zn6 t 1 <;> rfl
      | false =>
       show (bif _ then _ else _) = some _
       cases (t.k : Int) == 6 <;> cases (t.l.length : Int) == 1 <;> rfl
theorem zon (t : Tr) : t.l.length < (pre t).length := by have := zts t; have := z1b t.l; omega
theorem k_right (t : Tr) (h : (pre t).length < 2 ^ 61) : Pure (ITP Try.prog) Try.prog 39 [.agg (Enc.cells t)] (.raw (.bool (zcm t))) := by
 have := zon t
 exact z6d (t.l.length + 1) t _ (z5v (by omega) (by omega))
theorem zy5 : ∀ (l : List Tr) (i : Nat) (hi : i < l.length) (j : Nat), j < (pre l[i]).length → (zal l)[(zal (l.take i)).length + j]? = (pre l[i])[j]?
 | [], i, hi, _, _ => by simp at hi
 | t :: l, 0, hi, j, hj => by
  simp only [List.take_zero, zal, List.length_nil, Nat.zero_add, List.getElem_cons_zero]
  simp only [List.getElem_cons_zero] at hj
  rw [List.getElem?_append_left hj]
 | t :: l, i + 1, hi, j, hj => by
  simp only [List.take_succ_cons, zal, List.length_append, List.getElem_cons_succ]
  simp only [List.getElem_cons_succ] at hj
  rw [List.getElem?_append_right (by omega), show (pre t).length + (zal (l.take i)).length + j - (pre t).length = (zal (l.take i)).length + j by omega]
  exact zy5 l i (by simpa using hi) j hj
theorem z24 {fuel n : Nat} (t : Tr) (hf : t.l.length < fuel) (hn : (pre t).length ≤ n) (hl : (pre t).length < 2 ^ 61) : zkj fuel n t (pre t) = some (pre t).length := by
 have hlen := zon t
 unfold zkj
 refine z2y (by rw [zc0]; rfl) ?_
 refine zgy t.l.length (fun i => ((i : Int), 1 + (zal (t.l.take i)).length)) rfl (fun i hi => ?_) ?_ hf
 ·refine zbn (by simp; omega) ?_
  refine zc9 (1 + (zal (t.l.take (i + 1))).length) ?_ ?_
  ·refine zr (by simp only; omega) (z7 fun x1 e1 => ?_)
   simp only at e1
   rw [zeg hi] at e1
   have hm : x1 ∈ t.l := e1 ▸ List.getElem_mem hi
   have hx := zel hm
   have hp : (pre t).length = 1 + (zal t.l).length := by rw [zc0, List.length_cons]; omega
   refine zr (by omega) (z7 fun x2 e2 => ?_)
   subst e2
   refine zc9 (1 + (zal (t.l.take (i + 1))).length) ?_ rfl
   have hsucc : (zal (t.l.take (i + 1))).length = (zal (t.l.take i)).length + (pre x1).length := by rw [← e1]; exact zje t.l i hi
   have key : ∀ {ρ : Type} (l : List Tr) (j : Nat), (∀ m, m < l.length → (pre t)[j + m]? = l[m]?) → zgv (β := Nat) (ρ := ρ) (fun s2 w1 => (z4r ((pre t)[s2]? = some w1) (some (Sum.inl ((s2 + 1)))))) l j = some (.inl (j + l.length)) := by
    intro ρ l
    induction l with
    | nil => intro j _; rfl
    | cons y l ih =>
     intro j hj
     have h0 : (pre t)[j]? = some y := by simpa using hj 0 (by simp)
     have hb : z4r ((pre t)[j]? = some y) (some (Sum.inl (j + 1))) = (some (Sum.inl (j + 1)) : Option (Nat ⊕ ρ)) := z2y h0 rfl
     simp only [zgv, hb]
     rw [ih (j + 1) (fun m hm => by have := hj (m + 1) (by simp; omega); rw [show j + 1 + m = j + (m + 1) by omega, this]; rfl)]
     simp; omega
   rw [hsucc, ← Nat.add_assoc]
   refine key (pre x1) (1 + (zal (t.l.take i)).length) (fun m hm => ?_)
   subst e1
   rw [zc0 t, show 1 + (zal (t.l.take i)).length + m = (zal (t.l.take i)).length + m + 1 by omega, List.getElem?_cons_succ]
   exact zy5 t.l i hi m hm
  ·refine zr (by simp only; omega) ?_
   simp only
   rfl
 ·refine zbo (by simp) ?_
  have hp : (pre t).length = 1 + (zal t.l).length := by rw [zc0, List.length_cons]; omega
  simp only [List.take_length]; rw [hp]
theorem zuj : ∀ (n : Nat) (t : Tr), (pre t).length < n → n ≤ 2 ^ 61 → Pure (ITP Try.prog) Try.prog 38 [.agg (Enc.cells t)] (.iter (List.map ztr (pre t)))
 | 0, t, h, _ => absurd h (Nat.not_lt_zero _)
 | n + 1, t, h, hn => z6k (t.l.length + 1) n t (pre t) (fun x hx => zuj n x hx (by omega)) (z24 t (by omega) (by omega) (by omega))
theorem z1z (t : Tr) (h : (pre t).length < 2 ^ 61) : Pure (ITP Try.prog) Try.prog 38 [.agg (Enc.cells t)] (.iter (List.map ztr (pre t))) := zuj (2 ^ 61) t h (Nat.le_refl _)
theorem z1o (s : BS) (j : Nat) (hj : j < 256) : zqg s (j : Int) = some (s.getLsbD j) := by
 obtain ⟨h1, h2, _⟩ := zwf j hj
 unfold zqg
 rw [h1, h2]
 refine zr (by omega) (zr (by omega) ?_)
 congr 1
 have := z52 (W64 s (j / 64)) (j % 64) (Nat.mod_lt _ (by decide))
 rw [show wd s (Int.toNat ((j / 64 : Nat) : Int)) = ((W64 s (j / 64)).toNat : Int) from rfl, this]
 simp only [W64, BitVec.getLsbD_extractLsb', Nat.mod_lt _ (show 0 < 64 by decide), decide_true, Bool.true_and]
 rw [show 64 * (j / 64) + j % 64 = j by omega]
theorem all1_eq (s : BS) : zua 257 s (els s) = some (els s).length := by
 unfold zua
 refine zgy 256 (fun i => ((i : Int), (elN s i).length)) rfl (fun i hi => ?_) ?_ (by decide)
 ·refine zbn (by simp; omega) ?_
  refine zc9 (elN s (i + 1)).length ?_ ?_
  ·refine zei (s.getLsbD i) ?_ ?_
   ·simp only [(zwf i hi).2.2]; exact z1o s i hi
   ·rw [zxm]
    refine zth (fun hb => ?_) (fun hb => ?_)
    ·refine z2y ?_ ?_
     ·simp only [(zwf i hi).2.2, els, List.getElem?_map, z2h s hb 256 hi, Option.map_some]
     ·rw [if_pos hb]; simp
    ·rw [if_neg (by rw [hb]; decide)]; simp
  ·refine zr (by simp only; omega) ?_
   simp
 ·refine zbo (by simp) ?_
  simp [els]
theorem k_all (s : BS) : Pure (ITP Try.prog) Try.prog 100 [.agg (Enc.cells s)] (.iter (List.map z4y (els s))) := all_sh 257 s _ (all1_eq s)
end Go.Ab
