/-
  rx: functions of closures, has, right, nodes, bytes of sets, as plain functions.
-/
import Derived.Test.YtmoncghgagmilaaZnW2
import Derived.Test.YtmoncghgagmilaaZdQr
set_option linter.unusedSimpArgs false
set_option linter.unusedVariables false
set_option maxRecDepth 100000
set_option maxHeartbeats 4000000
namespace Go.Ab
open Go Go.RowKit Go.Fwd Go.Proofs
theorem zy8 {t : Tr} {l : List AV} (h : zbt l = true) : zbt (.agg (Enc.cells t) :: l) = true := by
 rw [zbt, h, Bool.and_true]; have := z0x t; rw [enc_eq] at this; exact this
theorem rowT_ne (l : List Tr) : List.map zvq l ≠ errRows := by
 cases l with
 | nil => simp [errRows]
 | cons a l => simp [errRows, zvq, List.replicate]
theorem rowB_ne (l : List Int) : List.map z6r l ≠ errRows := by
 cases l with
 | nil => simp [errRows]
 | cons a l => simp [errRows, z6r, List.replicate]
noncomputable def ztm (fuel : Nat) (s : BS) (rows : List Int) : Option Nat :=
 (zch (β := Int × Nat) (fun s1 => (bif (decide (s1.1 < 256)) then (zdo (τ := Nat) (za3 (zqv s (IntKind.u8.wrap s1.1)) (fun x1 => (bif x1 then (z7k (rows[s1.2]? = some (IntKind.u8.wrap s1.1)) (some (Sum.inl ((s1.2 + 1))))) else (some (Sum.inl (s1.2)))))) (fun j1 => (chk (-9223372036854775808 ≤ (s1.1 + 1) ∧ (s1.1 + 1) < 9223372036854775808) (some (Sum.inl ((s1.1 + 1), j1)))))) else (some (Sum.inr s1.2)))) fuel (0, 0))
theorem ent102 : Ent Try.prog 102 := enters_of Try.func102 (by kernel_rfl) rfl
theorem all1_sh (fuel : Nat) (s : BS) (rows : List Int) (h : ztm fuel s rows = some rows.length) (c : Code) (hc : Try.f102.body = some c) (l : Nat) : awp (ITP Try.prog) Try.prog (some (l, rows.map z6r)) 0 c (zz0 Try.prog Try.f102 rows.length) (zbq Try.f102 [.yld l, .iptr (Enc.cells (s : BS))]) St.empty := by
 cases hc
 unfold ztm at h
 refine zam (by dsimp only [zbq, Try.f102, List.length_cons, List.length_nil, Nat.zero_add, Nat.reduceAdd, Nat.reduceSub, List.replicate, List.cons_append, List.nil_append]) (by dsimp only [St.empty]) ?_
 refine zw [.v (.i 0)] ?_
 refine zr ?_
 refine zcf h (bz 0 19 524284) (fun s1 => [(4, .i s1.1)]) (fun s1 => ⟨[], [], [], s1.2, false⟩) ?_ ?_
 exact zc7 (bl 19 19)
 intro s1 p1 h
 refine zf8 ?_
 refine zw [.v (.b (decide (s1.1 < 256)))] ?_
 refine ze ?_
 refine zbu h (fun hc1 h => ?_) (fun hc1 h => ?_)
 refine za0 h (bz 0 18 262120) (fun j1 => []) (fun j1 => ⟨[], [], [], j1, false⟩) ?_ ?_
 intro or1 h hr1
 refine zr ?_
 refine zw [.m _, .m _] ?_
 refine zw [.v (.A (s : BS)), .m _, .v (.u (IntKind.u8.wrap s1.1))] ?_
 obtain ⟨x1, hx1, h⟩ := zaa h
 refine zbs (z2z s (IntKind.u8.wrap s1.1) x1 hx1) ?_
 refine zu h (fun hc2 h => ?_) (fun hc2 h => ?_)
 refine zau hc2 ?_
 refine w_r [.m _, .m _, .v (.u (IntKind.u8.wrap s1.1))] ?_
 refine zac rfl rfl ?_
 obtain ⟨g1, h⟩ := z3q h
 refine zrm (row := z6r) (x := (IntKind.u8.wrap s1.1)) (σ1 := ⟨[], [], [], (s1.2 + 1), false⟩) (σ2 := ⟨[], [], [], s1.2, true⟩) g1 (zf rfl rfl) (by kernel_rfl) (z57 rfl) rfl rfl rfl rfl rfl (by dsimp only [zn, List.set]) (by dsimp only [zn, List.set]) rfl rfl ?_ ?_
 refine w_r [.v (.b false), .v (.b false)] ?_
 refine zav rfl ?_
 refine zg (o := or1) ((s1.2 + 1)) h ?_
 exact zc7 (bl 19 262167)
 refine w_r [.v (.b true), .v (.b true)] ?_
 refine zbo rfl ?_
 refine .inr ?_
 exact ⟨⟨.tup [], rfl⟩, .inl rfl⟩
 refine zau hc2 ?_
 refine w_r [.p, .p, .p, .p, .p] ?_
 refine w_r [.v (.b false)] ?_
 refine zav rfl ?_
 refine zg (o := or1) (s1.2) h ?_
 exact zc7 (bl 19 262167)
 intro j1 h
 refine zf8 ?_
 refine zc (k0 := 0) (id := 4) ?_
 obtain ⟨g2, h⟩ := zh h
 refine zwt g2 ?_
 refine zab ?_
 refine zbb (p := p1) ((s1.1 + 1), j1) h ?_
 exact zc7 (bl 19 19)
 refine zae h (fun h => ?_)
 exact ⟨⟨.tup [], rfl⟩, .inr (Option.some.inj h)⟩
theorem ent100 : Ent Try.prog 100 := enters_of Try.func100 (by kernel_rfl) rfl
theorem all_sh (fuel : Nat) (s : BS) (rows : List Int) (h : ztm fuel s rows = some rows.length) : Pure (ITP Try.prog) Try.prog 100 [.A (s : BS)] (.iter (rows.map z6r)) := by
 obtain ⟨d, hd⟩ : ∃ d, Try.f100.body = some d := ⟨_, rfl⟩
 refine zh5 mix Try.func100 hd ent100 ?_
 cases hd
 refine zam (by dsimp only [zbq, Try.f100, List.length_cons, List.length_nil, Nat.zero_add, Nat.reduceAdd, Nat.reduceSub, List.replicate, List.cons_append, List.nil_append]) (by dsimp only [St.empty]) ?_
 refine ze (zc ?_)
 refine zbc (a := .ptr 0 0) (σ'' := (.B [(28, (Enc.cells (s : BS)))])) ?_
 refine w_o (a := .raw Value.nilFunc) ?_
 refine zw [.v (.clos 102 [.ptr 0 0]), .m _] ?_
 exact zuk 1 (row := z6r) (caps := [.iptr (Enc.cells (s : BS))]) mix rfl (congrArg (fun z => AV.clos 102 [.iptr z]) (zce _ _ (Enc.clo _))) Try.func102 rfl ent102 (by first | rfl | simp [cloL, clo, Enc.clo, zgs, Enc.cloL]) (rowB_ne _) (fun l => all1_sh fuel s rows h _ rfl l)
noncomputable def zke (fuel : Nat) (n : Nat) (t : Tr) (rows : List Tr) : Option Nat :=
 (z7k (rows[0]? = some t) (zch (β := Int × Nat) (fun s1 => (bif (decide (s1.1 < (List.length t.l : Int))) then (zdo (τ := Nat) (chk (0 ≤ s1.1 ∧ s1.1 < (List.length t.l : Int)) (zan (ix t.l s1.1) (fun x1 => (chk ((pre x1).length < n) (zan (pre x1) (fun x2 => (zdo (zg2 (β := Nat) (fun s2 w1 => (z7k (rows[s2]? = some w1) (some (Sum.inl ((s2 + 1)))))) x2 (s1.2)) (fun s2 => (some (Sum.inl (s2))))))))))) (fun j1 => (chk (-9223372036854775808 ≤ (s1.1 + 1) ∧ (s1.1 + 1) < 9223372036854775808) (some (Sum.inl ((s1.1 + 1), j1)))))) else (some (Sum.inr s1.2)))) fuel (0, (0 + 1))))
theorem ent49 : Ent Try.prog 49 := enters_of Try.func49 (by kernel_rfl) rfl
theorem z1f (fuel : Nat) (n : Nat) (t : Tr) (rows : List Tr) (ih : ∀ x : Tr, (pre x).length < n → Pure (ITP Try.prog) Try.prog 38 [.A x] (.iter (List.map zvq (pre x)))) (h : zke fuel n t rows = some rows.length) (c : Code) (hc : Try.f49.body = some c) (l : Nat) : awp (ITP Try.prog) Try.prog (some (l, rows.map zvq)) 0 c (zz0 Try.prog Try.f49 rows.length) (zbq Try.f49 [.yld l, .iptr (Enc.cells (t : Tr))]) St.empty := by
 cases hc
 unfold zke at h
 refine zam (by dsimp only [zbq, Try.f49, List.length_cons, List.length_nil, Nat.zero_add, Nat.reduceAdd, Nat.reduceSub, List.replicate, List.cons_append, List.nil_append]) (by dsimp only [St.empty]) ?_
 refine ze (zc ?_)
 refine zbc (a := .ptr 0 0) (σ'' := (.B [(32, [.yld l])])) ?_
 refine ze ?_
 refine zw [.v (.yld l), .v (.A (t : Tr))] ?_
 obtain ⟨g1, h⟩ := z3q h
 refine zrm (row := zvq) (x := t) (σ1 := ⟨[(32, [.yld l])], [], [], (0 + 1), false⟩) (σ2 := ⟨[(32, [.yld l])], [], [], 0, true⟩) g1 (zf (zaf (zl (Enc.clo _))) rfl) (zb (zm _ _ (zl (Enc.clo _))) rfl) (zy8 rfl) rfl rfl rfl rfl rfl (by dsimp only [zn, List.set]) (by dsimp only [zn, List.set]) rfl rfl ?_ ?_
 refine w_o (a := .b false) ?_
 refine zav rfl ?_
 refine zw [.v (.iptr (List.drop 7 (Enc.cells (t : Tr)))), .v (.L (t.l : List Tr)), .v (.i (List.length t.l : Int)), .v (.i 0)] ?_
 refine zr ?_
 refine zcf h (bz 0 25 33548283) (fun s1 => [(13, .i s1.1)]) (fun s1 => ⟨[(32, [.yld l])], [], [], s1.2, false⟩) ?_ ?_
 exact zc7 (bl 25 14340)
 intro s1 p1 h
 refine zf8 ?_
 refine zw [.v (.b (decide (s1.1 < (List.length t.l : Int))))] ?_
 refine ze ?_
 refine zbu h (fun hc1 h => ?_) (fun hc1 h => ?_)
 refine za0 h (bz 0 24 16760880) (fun j1 => []) (fun j1 => ⟨[(32, [.yld l])], [], [], j1, false⟩) ?_ ?_
 intro or1 h hr1
 refine zr ?_
 refine ze (zc ?_)
 obtain ⟨g2, h⟩ := zh h
 obtain ⟨x1, hx1, h⟩ := zj h
 refine zzn hx1 g2 ?_
 refine w_o (a := .A (x1 : Tr)) ?_
 refine zbc (a := .ptr 1 0) (σ'' := ⟨[(32, [.yld l]), (30, [.u 0, .raw (.int .u64 0), .raw (.int .u64 0), .raw (.int .u64 0), .raw (.int .u64 0), .i 0, .i 0, .list 0 [] .full])], [], [], s1.2, false⟩) ?_
 refine zbk 8 ⟨[(32, [.yld l]), (30, (Enc.cells (x1 : Tr)))], [], [], s1.2, false⟩ ?_
 refine zw [.v (.A (x1 : Tr))] ?_
 obtain ⟨g3, h⟩ := zh h
 obtain ⟨x2, hx2, h⟩ := zj h
 refine zbs (args' := [.A (x1 : Tr)]) (r := .iter (List.map zvq x2)) (by rw [← hx2]; exact (ih x1 g3)) ?_
 refine zr ?_
 refine znq h zvq (fun s2 => ⟨[(32, [.yld l]), (30, (Enc.cells (x1 : Tr)))], [], [], s2, false⟩) rfl (fun _ => rfl) rfl rfl ?_ ?_
 intro s2 w1 p2 h
 refine zam (by dsimp only [znf, List.zip, List.zipWith, List.foldl, List.set, Array.toList]) rfl ?_
 refine zc (k0 := 0) (id := 6) ?_
 refine zbc (a := .ptr 2 0) (σ'' := ⟨[(32, [.yld l]), (30, (Enc.cells (x1 : Tr))), (30, [.u 0, .raw (.int .u64 0), .raw (.int .u64 0), .raw (.int .u64 0), .raw (.int .u64 0), .i 0, .i 0, .list 0 [] .full])], [], [], s2, false⟩) ?_
 refine zbk 8 ⟨[(32, [.yld l]), (30, (Enc.cells (x1 : Tr))), (30, (Enc.cells (w1 : Tr)))], [], [], s2, false⟩ ?_
 refine zr ?_
 refine zw [.v (.yld l), .v (.A (w1 : Tr))] ?_
 obtain ⟨g4, h⟩ := z3q h
 refine zrm (row := zvq) (x := w1) (σ1 := ⟨[(32, [.yld l]), (30, (Enc.cells (x1 : Tr))), (30, (Enc.cells (w1 : Tr)))], [], [], (s2 + 1), false⟩) (σ2 := ⟨[(32, [.yld l]), (30, (Enc.cells (x1 : Tr))), (30, (Enc.cells (w1 : Tr)))], [], [], s2, true⟩) g4 (zf (zaf (zl (Enc.clo _))) rfl) (zb (zm _ _ (zl (Enc.clo _))) rfl) (zy8 rfl) rfl rfl rfl rfl rfl (by dsimp only [zn, List.set]) (by dsimp only [zn, List.set]) rfl rfl ?_ ?_
 refine w_o (a := .b false) ?_
 refine zav rfl ?_
 exact zl8 (p := p2) ((s2 + 1)) h (zba (zv (by kernel_rfl) (zv (zo _ _ (Enc.clo _)) rfl))) (by kernel_rfl)
 refine w_o (a := .b true) ?_
 refine zbo rfl ?_
 refine .inr ⟨(zba (zv (by kernel_rfl) (zv (zo _ _ (Enc.clo _)) rfl))), ?_⟩
 refine .inr ?_
 exact ⟨⟨.tup [], rfl⟩, .inl rfl⟩
 intro s2 h
 refine zg (o := or1) (s2) h ?_
 exact zb3 (bl 25 16793551) 1 (by kernel_rfl) (Nat.le_of_ble_eq_true rfl) (zba (zv (by kernel_rfl) rfl)) (by dsimp only [zz, zad, List.foldl, List.set, bz, bzc, Nat.reduceMod, Nat.reduceDiv, Nat.reduceBEq, Nat.reduceAdd]; exact (zb rfl (zb rfl (zb (by decide) (zb rfl (zb rfl (zb rfl (zb rfl (zb rfl (zb rfl (zb rfl (zb rfl (zb (zah (Enc.cloL _)) (by kernel_rfl)))))))))))))) (by kernel_rfl)
 intro j1 h
 refine zf8 ?_
 refine zc (k0 := 0) (id := 8) ?_
 obtain ⟨g5, h⟩ := zh h
 refine zwt g5 ?_
 refine zab ?_
 refine zbb (p := p1) ((s1.1 + 1), j1) h ?_
 exact zc7 (bl 25 14340)
 refine zae h (fun h => ?_)
 exact ⟨⟨.tup [], rfl⟩, .inr (Option.some.inj h)⟩
 refine w_o (a := .b true) ?_
 refine zbo rfl ?_
 exact ⟨⟨.tup [], rfl⟩, .inl rfl⟩
theorem ent38 : Ent Try.prog 38 := enters_of Try.func38 (by kernel_rfl) rfl
theorem z6m (fuel : Nat) (n : Nat) (t : Tr) (rows : List Tr) (ih : ∀ x : Tr, (pre x).length < n → Pure (ITP Try.prog) Try.prog 38 [.A x] (.iter (List.map zvq (pre x))))  (h : zke fuel n t rows = some rows.length) : Pure (ITP Try.prog) Try.prog 38 [.A (t : Tr)] (.iter (rows.map zvq)) := by
 obtain ⟨d, hd⟩ : ∃ d, Try.f38.body = some d := ⟨_, rfl⟩
 refine zh5 mix Try.func38 hd ent38 ?_
 cases hd
 refine zam (by dsimp only [zbq, Try.f38, List.length_cons, List.length_nil, Nat.zero_add, Nat.reduceAdd, Nat.reduceSub, List.replicate, List.cons_append, List.nil_append]) (by dsimp only [St.empty]) ?_
 refine ze (zc ?_)
 refine zbc (a := .ptr 0 0) (σ'' := (.B [(30, (Enc.cells (t : Tr)))])) ?_
 refine w_o (a := .raw Value.nilFunc) ?_
 refine zw [.v (.clos 49 [.ptr 0 0]), .m _] ?_
 exact zuk 1 (row := zvq) (caps := [.iptr (Enc.cells (t : Tr))]) mix rfl (congrArg (fun z => AV.clos 49 [.iptr z]) (zce _ _ (Enc.clo _))) Try.func49 rfl ent49 (by first | rfl | simp [cloL, clo, Enc.clo, zgs, Enc.cloL]) (rowT_ne _) (fun l => z1f fuel n t rows ih h _ rfl l)
end Go.Ab
set_option linter.unusedSimpArgs false
set_option linter.unusedVariables false
namespace Go.Ab
open Go Go.RowKit Go.Fwd Go.Proofs
theorem zdz {α : Type} [Enc α] {l : List α} {i : Nat} (h : i < l.length) : ix l (i : Int) = l[i] := by simp [ix, h]
theorem z69 (p : Tr → Option Bool) (q : Tr → Bool) (l : List Tr) (hl : l.length < 2 ^ 62) (hp : ∀ x ∈ l, p x = some (q x)) {body : Int → Option (Int ⊕ (Unit ⊕ Int))}
 (hb : body = fun s1 => (bif (decide (s1 < (List.length l : Int))) then (chk (0 ≤ s1 ∧ s1 < (List.length l : Int)) (zan (ix l s1) (fun x1 => (za3 (p x1) (fun x2 => (bif x2 then (some (Sum.inr (Sum.inr s1))) else (chk (-9223372036854775808 ≤ (s1 + 1) ∧ (s1 + 1) < 9223372036854775808) (some (Sum.inl ((s1 + 1))))))))))) else (some (Sum.inr (Sum.inl ()))))) :
 ∀ (k i n : Nat), i + k = l.length → k < n → ∃ o : Unit ⊕ Int, zch body n (i : Int) = some o ∧ ((o = .inl () ∧ (l.drop i).any q = false) ∨ (∃ j : Int, o = .inr j ∧ 0 ≤ j ∧ (l.drop i).any q = true)) := by
 intro k
 induction k with
 | zero =>
  intro i n hi hn
  match n, hn with
  | n + 1, _ =>
   refine ⟨.inl (), ?_, .inl ⟨rfl, ?_⟩⟩
   ·rw [zch, hb]; simp only
    rw [show decide ((i : Int) < (l.length : Int)) = false from by simp; omega]; rfl
   ·rw [List.drop_of_length_le (by omega)]; rfl
 | succ k ih =>
  intro i n hi hn
  match n, hn with
  | n + 1, hn =>
   have hil : i < l.length := by omega
   have hx := hp l[i] (List.getElem_mem hil)
   have hd : l.drop i = l[i] :: l.drop (i + 1) := List.drop_eq_getElem_cons hil
   have hb1 : body (i : Int) = bif q l[i] then some (Sum.inr (Sum.inr (i : Int))) else some (Sum.inl (((i + 1 : Nat) : Int))) := by
    rw [hb]; simp only
    rw [show decide ((i : Int) < (l.length : Int)) = true from by simp; omega]
    show chk _ _ = _
    rw [zaz (by omega), zan, zdz hil, hx, bindE_some]
    rw [zaz (by omega), show ((i + 1 : Nat) : Int) = (i : Int) + 1 from by omega]
   cases hq : q l[i] with
   | true =>
    refine ⟨.inr (i : Int), ?_, .inr ⟨_, rfl, by omega, ?_⟩⟩
    ·rw [zch, hb1, hq]; rfl
    ·rw [hd, List.any_cons, hq]; rfl
   | false =>
    obtain ⟨o, h1, h2⟩ := ih (i + 1) n (by omega) (by omega)
    refine ⟨o, ?_, ?_⟩
    ·rw [zch, hb1, hq]; exact h1
    ·rw [hd, List.any_cons, hq, Bool.false_or]; exact h2
theorem zy0 {fuel : Nat} {p : Tr → Option Bool} (q : Tr → Bool) {l : List Tr} (hf : l.length < fuel) (hl : l.length < 2 ^ 62) (hp : ∀ x ∈ l, p x = some (q x)) : zwq fuel p l = some (l.any q) := by
 unfold zwq z62
 obtain ⟨o, h1, h2⟩ := z69 p q l hl hp rfl l.length 0 fuel (by omega) hf
 rw [show ((0 : Nat) : Int) = 0 from rfl] at h1
 rw [h1]
 rw [List.drop_zero] at h2
 rcases h2 with ⟨rfl, h⟩ | ⟨j, rfl, hj, h⟩
 ·rw [h]; rfl
 ·rw [h]; show za3 (some j) _ = _
  rw [bindE_some]; simp [hj]
theorem z8c {fuel : Nat} {p : Tr → Option Bool} (q : Tr → Bool) {l : List Tr} (hf : l.length < fuel) (hl : l.length < 2 ^ 62) (hp : ∀ x ∈ l, p x = some (q x)) : z33 fuel p l = some (l.any q) := zy0 q hf hl hp
theorem zw0 {fuel : Nat} {t : Tr} (hf : t.l.length < fuel) (hl : t.l.length < 2 ^ 62) (k : Nat) : zoq fuel t k = some (zpy t k) := by
 unfold zoq
 rw [z8c (fun x => decide (x.k = k)) hf hl]
 ·rfl
 ·intro x hx
  unfold zva
  congr 1
  rw [Bool.eq_iff_iff]; simp; omega
theorem zqa (lo hi : Int) : ze6 lo hi = some (zb4 lo hi) := by
 unfold ze6 zb4
 have k1 : ∀ n m : Int, (n == m) = decide (n = m) := fun n m => rfl
 simp only [k1]
 have key : ∀ a b c d e f g h : Bool, (zdo (τ := Unit) (bif a then (some (Sum.inr false)) else (bif b then (some (Sum.inr false)) else (bif c then (bif d then (some (Sum.inr false)) else (some (Sum.inl ()))) else (some (Sum.inl ()))))) (fun _ => (bif e then (some true) else (bif f then (bif g then (some h) else (some false)) else (some false))))) = some (!(a || b || c && d) && (e || f && g && h)) := by decide
 exact key _ _ _ _ _ _ _ _
theorem z6s {fuel : Nat} {t : Tr} (hf : t.l.length < fuel) (hl : t.l.length < 2 ^ 62) : zs7 fuel t = some (zcm t) := by
 have e1 : zoq fuel t 1 = some (zpy t 1) := zw0 hf hl 1
 have e3 : zoq fuel t 3 = some (zpy t 3) := zw0 hf hl 3
 have e4 : zoq fuel t 4 = some (zpy t 4) := zw0 hf hl 4
 have eb := zqa t.mn t.mx
 unfold zs7
 have hodd : ∀ a b c d e f g : Bool, (bif a then (bif b then (some (Sum.inr false)) else (bif c then (bif d then (some (Sum.inr false)) else (bif e then (some (Sum.inr false)) else (bif f then (bif g then (some (Sum.inr false)) else (some (Sum.inl ()))) else (some (Sum.inl ()))))) else (bif f then (bif g then (some (Sum.inr false)) else (some (Sum.inl ()))) else (some (Sum.inl ()))))) else (bif c then (bif d then (some (Sum.inr false)) else (bif e then (some (Sum.inr false)) else (bif f then (bif g then (some (Sum.inr false)) else (some (Sum.inl ()))) else (some (Sum.inl ()))))) else (bif f then (bif g then (some (Sum.inr false)) else (some (Sum.inl ()))) else (some (Sum.inl ())))) : Option (Unit ⊕ Bool)) = bif (a && b) || (c && (d || e)) || (f && g) then some (.inr false) else some (.inl ()) := by decide
 rw [hodd]
 show zdo (bif oddT t then _ else _) _ = some (zcm t)
 rw [zcm]
 cases oddT t with
 | true => rfl
 | false =>
  show (bif _ then _ else _) = _
  rw [Bool.not_false, Bool.true_and]
  cases (t.k : Int) == 1 with
  | true => rfl
  | false =>
   show (bif _ then _ else _) = some (bif _ then _ else _)
   cases (t.k : Int) == 2 with
   | true => rfl
   | false =>
    show (bif _ then _ else _) = some (bif _ then _ else _)
    rw [e1, e3, e4, eb]
    cases (t.k : Int) == 3 with
    | true =>
     show (bif _ then _ else _) = some _
     cases decide ((t.l.length : Int) > 1) <;> cases zpy t 1 <;> cases zpy t 3 <;> rfl
    | false =>
     show (bif _ then _ else _) = some (bif _ then _ else _)
     cases (t.k : Int) == 4 with
     | true =>
      show (bif _ then _ else _) = some _
      cases decide ((t.l.length : Int) > 1) <;> cases zpy t 4 <;> rfl
     | false =>
      show (bif _ then _ else _) = some (bif _ then _ else _)
      cases (t.k : Int) == 5 with
      | true =>
       show (bif _ then _ else _) = some _
       cases (t.l.length : Int) == 1 <;> cases zb4 t.mn t.mx <;> cases zpy t 1 <;> rfl
      | false =>
       show (bif _ then _ else _) = some _
       cases (t.k : Int) == 6 <;> cases (t.l.length : Int) == 1 <;> rfl
theorem zo8 (t : Tr) : t.l.length < (pre t).length := by have := zu6 t; have := z4b t.l; omega
theorem k_right (t : Tr) (h : (pre t).length < 2 ^ 61) : Pure (ITP Try.prog) Try.prog 39 [.agg (Enc.cells t)] (.raw (.bool (zcm t))) := by
 have := zo8 t
 exact z5t (t.l.length + 1) t _ (z6s (by omega) (by omega))
theorem zx8 : ∀ (l : List Tr) (i : Nat) (hi : i < l.length) (j : Nat), j < (pre l[i]).length → (zai l)[(zai (l.take i)).length + j]? = (pre l[i])[j]?
 | [], i, hi, _, _ => by simp at hi
 | t :: l, 0, hi, j, hj => by
  simp only [List.take_zero, zai, List.length_nil, Nat.zero_add, List.getElem_cons_zero]
  simp only [List.getElem_cons_zero] at hj
  rw [List.getElem?_append_left hj]
 | t :: l, i + 1, hi, j, hj => by
  simp only [List.take_succ_cons, zai, List.length_append, List.getElem_cons_succ]
  simp only [List.getElem_cons_succ] at hj
  rw [List.getElem?_append_right (by omega), show (pre t).length + (zai (l.take i)).length + j - (pre t).length = (zai (l.take i)).length + j by omega]
  exact zx8 l i (by simpa using hi) j hj
theorem z2n {fuel n : Nat} (t : Tr) (hf : t.l.length < fuel) (hn : (pre t).length ≤ n) (hl : (pre t).length < 2 ^ 61) : zke fuel n t (pre t) = some (pre t).length := by
 have hlen := zo8 t
 unfold zke
 refine z2d (by rw [zc8]; rfl) ?_
 refine zfz t.l.length (fun i => ((i : Int), 1 + (zai (t.l.take i)).length)) rfl (fun i hi => ?_) ?_ hf
 ·refine zby (by simp; omega) ?_
  refine zc1 (1 + (zai (t.l.take (i + 1))).length) ?_ ?_
  ·refine zt (by simp only; omega) (zaj fun x1 e1 => ?_)
   simp only at e1
   rw [zdz hi] at e1
   have hm : x1 ∈ t.l := e1 ▸ List.getElem_mem hi
   have hx := zev hm
   have hp : (pre t).length = 1 + (zai t.l).length := by rw [zc8, List.length_cons]; omega
   refine zt (by omega) (zaj fun x2 e2 => ?_)
   subst e2
   refine zc1 (1 + (zai (t.l.take (i + 1))).length) ?_ rfl
   have hsucc : (zai (t.l.take (i + 1))).length = (zai (t.l.take i)).length + (pre x1).length := by rw [← e1]; exact zjo t.l i hi
   have key : ∀ {ρ : Type} (l : List Tr) (j : Nat), (∀ m, m < l.length → (pre t)[j + m]? = l[m]?) → zg2 (β := Nat) (ρ := ρ) (fun s2 w1 => (z7k ((pre t)[s2]? = some w1) (some (Sum.inl ((s2 + 1)))))) l j = some (.inl (j + l.length)) := by
    intro ρ l
    induction l with
    | nil => intro j _; rfl
    | cons y l ih =>
     intro j hj
     have h0 : (pre t)[j]? = some y := by simpa using hj 0 (by simp)
     have hb : z7k ((pre t)[j]? = some y) (some (Sum.inl (j + 1))) = (some (Sum.inl (j + 1)) : Option (Nat ⊕ ρ)) := z2d h0 rfl
     simp only [zg2, hb]
     rw [ih (j + 1) (fun m hm => by have := hj (m + 1) (by simp; omega); rw [show j + 1 + m = j + (m + 1) by omega, this]; rfl)]
     simp; omega
   rw [hsucc, ← Nat.add_assoc]
   refine key (pre x1) (1 + (zai (t.l.take i)).length) (fun m hm => ?_)
   subst e1
   rw [zc8 t, show 1 + (zai (t.l.take i)).length + m = (zai (t.l.take i)).length + m + 1 by omega, List.getElem?_cons_succ]
   exact zx8 t.l i hi m hm
  ·refine zt (by simp only; omega) ?_
   simp only
   rfl
 ·refine zbv (by simp) ?_
  have hp : (pre t).length = 1 + (zai t.l).length := by rw [zc8, List.length_cons]; omega
  simp only [List.take_length]; rw [hp]
theorem zu5 : ∀ (n : Nat) (t : Tr), (pre t).length < n → n ≤ 2 ^ 61 → Pure (ITP Try.prog) Try.prog 38 [.agg (Enc.cells t)] (.iter (List.map zvq (pre t)))
 | 0, t, h, _ => absurd h (Nat.not_lt_zero _)
 | n + 1, t, h, hn => z6m (t.l.length + 1) n t (pre t) (fun x hx => zu5 n x hx (by omega)) (z2n t (by omega) (by omega) (by omega))
theorem z35 (t : Tr) (h : (pre t).length < 2 ^ 61) : Pure (ITP Try.prog) Try.prog 38 [.agg (Enc.cells t)] (.iter (List.map zvq (pre t))) := zu5 (2 ^ 61) t h (Nat.le_refl _)
theorem z23 (s : BS) (j : Nat) (hj : j < 256) : zqv s (j : Int) = some (s.getLsbD j) := by
 obtain ⟨h1, h2, _⟩ := zwi j hj
 unfold zqv
 rw [h1, h2]
 refine zt (by omega) (zt (by omega) ?_)
 congr 1
 have := z49 (W64 s (j / 64)) (j % 64) (Nat.mod_lt _ (by decide))
 rw [show wd s (Int.toNat ((j / 64 : Nat) : Int)) = ((W64 s (j / 64)).toNat : Int) from rfl, this]
 simp only [W64, BitVec.getLsbD_extractLsb', Nat.mod_lt _ (show 0 < 64 by decide), decide_true, Bool.true_and]
 rw [show 64 * (j / 64) + j % 64 = j by omega]
theorem all1_eq (s : BS) : ztm 257 s (els s) = some (els s).length := by
 unfold ztm
 refine zfz 256 (fun i => ((i : Int), (elN s i).length)) rfl (fun i hi => ?_) ?_ (by decide)
 ·refine zby (by simp; omega) ?_
  refine zc1 (elN s (i + 1)).length ?_ ?_
  ·refine zet (s.getLsbD i) ?_ ?_
   ·simp only [(zwi i hi).2.2]; exact z23 s i hi
   ·rw [zzo]
    refine zum (fun hb => ?_) (fun hb => ?_)
    ·refine z2d ?_ ?_
     ·simp only [(zwi i hi).2.2, els, List.getElem?_map, z2a s hb 256 hi, Option.map_some]
     ·rw [if_pos hb]; simp
    ·rw [if_neg (by rw [hb]; decide)]; simp
  ·refine zt (by simp only; omega) ?_
   simp
 ·refine zbv (by simp) ?_
  simp [els]
theorem k_all (s : BS) : Pure (ITP Try.prog) Try.prog 100 [.agg (Enc.cells s)] (.iter (List.map z6r (els s))) := all_sh 257 s _ (all1_eq s)
end Go.Ab
