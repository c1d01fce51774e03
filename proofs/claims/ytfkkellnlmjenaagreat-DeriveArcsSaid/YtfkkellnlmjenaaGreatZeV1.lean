/-
  rx: functions of closures, has, right, nodes, bytes of sets, as plain functions.
-/
import Derived.Test.YtfkkellnlmjenaaGreatZeW2
set_option linter.unusedSimpArgs false
set_option linter.unusedVariables false
set_option maxRecDepth 100000
set_option maxHeartbeats 4000000
namespace Go.Ab
open Go Go.RowKit Go.Fwd Go.Proofs
theorem zrr {t : Tr} {l : List AV} (h : zce l = true) : zce (.agg (Enc.cells t) :: l) = true := by
 rw [zce, h, Bool.and_true]; have := qaq t; rw [enc_eq] at this; exact this
theorem rowT_ne (l : List Tr) : List.map zuq l ≠ errRows := by
 cases l with
 | nil => simp [errRows]
 | cons a l => simp [errRows, zuq, List.replicate]
theorem rowB_ne (l : List Int) : List.map qkt l ≠ errRows := by
 cases l with
 | nil => simp [errRows]
 | cons a l => simp [errRows, qkt, List.replicate]
noncomputable def z3l (fuel : Nat) (s : BS) (rows : List Int) : Option Nat :=
 (zbx (β := Int × Nat) (fun s1 => (bif (decide (s1.1 < 256)) then (zdr (τ := Nat) (zay (znn s (IntKind.u8.wrap s1.1)) (fun x1 => (bif x1 then (z5a (rows[s1.2]? = some (IntKind.u8.wrap s1.1)) (some (Sum.inl ((s1.2 + 1))))) else (some (Sum.inl (s1.2)))))) (fun j1 => (chk (-9223372036854775808 ≤ (s1.1 + 1) ∧ (s1.1 + 1) < 9223372036854775808) (some (Sum.inl ((s1.1 + 1), j1)))))) else (some (Sum.inr s1.2)))) fuel (0, 0))
theorem ent99 : Ent Tryz.prog 99 := enters_of Tryz.func99 (by kernel_rfl) rfl
theorem all1_sh (fuel : Nat) (s : BS) (rows : List Int) (h : z3l fuel s rows = some rows.length) (c : Code) (hc : Tryz.f99.body = some c) (G : Gen) (hGr : G.rows = rows.map qkt) (l : Nat) (hGl : G.l = l) : awp (ITP Tryz.prog) Tryz.prog (some G) 0 c (qby Tryz.prog Tryz.f99 rows.length) (zbe Tryz.f99 [.yld l, .iptr (Enc.cells (s : BS))]) St.empty := by
 cases hc
 unfold z3l at h
 refine zam (by dsimp only [zbe, Tryz.f99, List.length_cons, List.length_nil, Nat.zero_add, Nat.reduceAdd, Nat.reduceSub, List.replicate, List.cons_append, List.nil_append]) (by dsimp only [St.empty]) ?_
 refine zo [.v (.i 0)] ?_
 refine zn ?_
 refine zbr h (bz 0 19 524284) (fun s1 => [(4, .i s1.1)]) (fun s1 => ⟨[], [], [], s1.2, false⟩) ?_ ?_
 exact zde (bl 19 19)
 intro s1 p1 h
 refine zff ?_
 refine zo [.v (.b (decide (s1.1 < 256)))] ?_
 refine zf ?_
 refine zbu h (fun hc1 h => ?_) (fun hc1 h => ?_)
 refine zar h (bz 0 18 262120) (fun j1 => []) (fun j1 => ⟨[], [], [], j1, false⟩) ?_ ?_
 intro or1 h hr1
 refine zn ?_
 refine zo [.m _, .m _] ?_
 refine zo [.v (.A (s : BS)), .m _, .v (.u (IntKind.u8.wrap s1.1))] ?_
 obtain ⟨x1, hx1, h⟩ := zv h
 refine zcf (zut s (IntKind.u8.wrap s1.1) x1 hx1) ?_
 refine zac h (fun hc2 h => ?_) (fun hc2 h => ?_)
 refine zaz hc2 ?_
 refine w_r [.m _, .m _, .v (.u (IntKind.u8.wrap s1.1))] ?_
 refine zak rfl rfl ?_
 obtain ⟨g1, h⟩ := zns h
 refine zwz (row := qkt) (x := (IntKind.u8.wrap s1.1)) (σ1 := ⟨[], [], [], (s1.2 + 1), false⟩) (σ2 := ⟨[], [], [], s1.2, true⟩) g1 (ze rfl rfl) (by kernel_rfl) (qja rfl) rfl hGl hGr rfl rfl rfl rfl (by dsimp only [zab, List.set]) (by dsimp only [zab, List.set]) rfl rfl ?_ ?_
 refine w_r [.v (.b false), .v (.b false)] ?_
 refine zcb rfl ?_
 refine zg (o := or1) ((s1.2 + 1)) h ?_
 exact zde (bl 19 262167)
 refine w_r [.v (.b true), .v (.b true)] ?_
 refine zby rfl ?_
 refine .inr ?_
 exact ⟨⟨.tup [], rfl⟩, .inl rfl⟩
 refine zaz hc2 ?_
 refine w_r [.p, .p, .p, .p, .p] ?_
 refine w_r [.v (.b false)] ?_
 refine zcb rfl ?_
 refine zg (o := or1) (s1.2) h ?_
 exact zde (bl 19 262167)
 intro j1 h
 refine zff ?_
 refine zb (k0 := 0) (id := 4) ?_
 obtain ⟨g2, h⟩ := zh h
 refine zov g2 ?_
 refine zaj ?_
 refine zaq (p := p1) ((s1.1 + 1), j1) h ?_
 exact zde (bl 19 19)
 refine zt h (fun h => ?_)
 exact ⟨⟨.tup [], rfl⟩, .inr (Option.some.inj h)⟩
theorem ent55 : Ent Tryz.prog 55 := enters_of Tryz.func55 (by kernel_rfl) rfl
theorem all_sh (fuel : Nat) (s : BS) (rows : List Int) (h : z3l fuel s rows = some rows.length) : Pure (ITP Tryz.prog) Tryz.prog 55 [.A (s : BS)] (.iter (rows.map qkt)) := by
 obtain ⟨d, hd⟩ : ∃ d, Tryz.f55.body = some d := ⟨_, rfl⟩
 refine zjc mix Tryz.func55 hd ent55 ?_
 cases hd
 refine zam (by dsimp only [zbe, Tryz.f55, List.length_cons, List.length_nil, Nat.zero_add, Nat.reduceAdd, Nat.reduceSub, List.replicate, List.cons_append, List.nil_append]) (by dsimp only [St.empty]) ?_
 refine zf (zb ?_)
 refine zbp (a := .ptr 0 0) (σ'' := (.B [(26, (Enc.cells (s : BS)))])) ?_
 refine w_o (a := .raw Value.nilFunc) ?_
 refine zo [.v (.clos 99 [.ptr 0 0]), .m _] ?_
 exact z1w 1 (row := qkt) (caps := [.iptr (Enc.cells (s : BS))]) mix rfl (congrArg (fun z => AV.clos 99 [.iptr z]) (zda _ _ (Enc.clo _))) Tryz.func99 rfl ent99 (by first | rfl | simp [cloL, clo, Enc.clo, zey, Enc.cloL]) (rowB_ne _) (fun G hGr => all1_sh fuel s rows h _ rfl G hGr _ rfl)
noncomputable def zoe (fuel : Nat) (n : Nat) (t : Tr) (rows : List Tr) : Option Nat :=
 (z5a (rows[0]? = some t) (zbx (β := Int × Nat) (fun s1 => (bif (decide (s1.1 < (List.length t.l : Int))) then (zdr (τ := Nat) (chk (0 ≤ s1.1 ∧ s1.1 < (List.length t.l : Int)) (zbb (ix t.l s1.1) (fun x1 => (chk ((pre x1).length < n) (zbb (pre x1) (fun x2 => (zdr (zgm (β := Nat) (fun s2 w1 => (z5a (rows[s2]? = some w1) (some (Sum.inl ((s2 + 1)))))) x2 (s1.2)) (fun s2 => (some (Sum.inl (s2))))))))))) (fun j1 => (chk (-9223372036854775808 ≤ (s1.1 + 1) ∧ (s1.1 + 1) < 9223372036854775808) (some (Sum.inl ((s1.1 + 1), j1)))))) else (some (Sum.inr s1.2)))) fuel (0, (0 + 1))))
theorem ent102 : Ent Tryz.prog 102 := enters_of Tryz.func102 (by kernel_rfl) rfl
theorem qgi (fuel : Nat) (n : Nat) (t : Tr) (rows : List Tr) (ih : ∀ x : Tr, (pre x).length < n → Pure (ITP Tryz.prog) Tryz.prog 63 [.A x] (.iter (List.map zuq (pre x)))) (h : zoe fuel n t rows = some rows.length) (c : Code) (hc : Tryz.f102.body = some c) (G : Gen) (hGr : G.rows = rows.map zuq) (l : Nat) (hGl : G.l = l) : awp (ITP Tryz.prog) Tryz.prog (some G) 0 c (qby Tryz.prog Tryz.f102 rows.length) (zbe Tryz.f102 [.yld l, .iptr (Enc.cells (t : Tr))]) St.empty := by
 cases hc
 unfold zoe at h
 refine zam (by dsimp only [zbe, Tryz.f102, List.length_cons, List.length_nil, Nat.zero_add, Nat.reduceAdd, Nat.reduceSub, List.replicate, List.cons_append, List.nil_append]) (by dsimp only [St.empty]) ?_
 refine zf (zb ?_)
 refine zbp (a := .ptr 0 0) (σ'' := (.B [(52, [.yld l])])) ?_
 refine zf ?_
 refine zo [.v (.yld l), .v (.A (t : Tr))] ?_
 obtain ⟨g1, h⟩ := zns h
 refine zwz (row := zuq) (x := t) (σ1 := ⟨[(52, [.yld l])], [], [], (0 + 1), false⟩) (σ2 := ⟨[(52, [.yld l])], [], [], 0, true⟩) g1 (ze (zav (zp (Enc.clo _))) rfl) (za (zr _ _ (zp (Enc.clo _))) rfl) (zrr rfl) rfl hGl hGr rfl rfl rfl rfl (by dsimp only [zab, List.set]) (by dsimp only [zab, List.set]) rfl rfl ?_ ?_
 refine w_o (a := .b false) ?_
 refine zcb rfl ?_
 refine zo [.v (.iptr (List.drop 7 (Enc.cells (t : Tr)))), .v (.L (t.l : List Tr)), .v (.i (List.length t.l : Int)), .v (.i 0)] ?_
 refine zn ?_
 refine zbr h (bz 0 25 33548283) (fun s1 => [(13, .i s1.1)]) (fun s1 => ⟨[(52, [.yld l])], [], [], s1.2, false⟩) ?_ ?_
 exact zde (bl 25 14340)
 intro s1 p1 h
 refine zff ?_
 refine zo [.v (.b (decide (s1.1 < (List.length t.l : Int))))] ?_
 refine zf ?_
 refine zbu h (fun hc1 h => ?_) (fun hc1 h => ?_)
 refine zar h (bz 0 24 16760880) (fun j1 => []) (fun j1 => ⟨[(52, [.yld l])], [], [], j1, false⟩) ?_ ?_
 intro or1 h hr1
 refine zn ?_
 refine zf (zb ?_)
 obtain ⟨g2, h⟩ := zh h
 obtain ⟨x1, hx1, h⟩ := zl h
 refine zsm hx1 g2 ?_
 refine w_o (a := .A (x1 : Tr)) ?_
 refine zbp (a := .ptr 1 0) (σ'' := ⟨[(52, [.yld l]), (29, [.u 0, .raw (.int .u64 0), .raw (.int .u64 0), .raw (.int .u64 0), .raw (.int .u64 0), .i 0, .i 0, .list 0 [] .full])], [], [], s1.2, false⟩) ?_
 refine zcp 8 ⟨[(52, [.yld l]), (29, (Enc.cells (x1 : Tr)))], [], [], s1.2, false⟩ ?_
 refine zo [.v (.A (x1 : Tr))] ?_
 obtain ⟨g3, h⟩ := zh h
 obtain ⟨x2, hx2, h⟩ := zl h
 refine zcf (args' := [.A (x1 : Tr)]) (r := .iter (List.map zuq x2)) (by rw [← hx2]; exact (ih x1 g3)) ?_
 refine zn ?_
 refine zlj h zuq (fun s2 => ⟨[(52, [.yld l]), (29, (Enc.cells (x1 : Tr)))], [], [], s2, false⟩) rfl (fun _ => rfl) rfl rfl ?_ ?_
 intro s2 w1 p2 h
 refine zam (by dsimp only [znc, List.zip, List.zipWith, List.foldl, List.set, Array.toList]) rfl ?_
 refine zb (k0 := 0) (id := 6) ?_
 refine zbp (a := .ptr 2 0) (σ'' := ⟨[(52, [.yld l]), (29, (Enc.cells (x1 : Tr))), (29, [.u 0, .raw (.int .u64 0), .raw (.int .u64 0), .raw (.int .u64 0), .raw (.int .u64 0), .i 0, .i 0, .list 0 [] .full])], [], [], s2, false⟩) ?_
 refine zcp 8 ⟨[(52, [.yld l]), (29, (Enc.cells (x1 : Tr))), (29, (Enc.cells (w1 : Tr)))], [], [], s2, false⟩ ?_
 refine zn ?_
 refine zo [.v (.yld l), .v (.A (w1 : Tr))] ?_
 obtain ⟨g4, h⟩ := zns h
 refine zwz (row := zuq) (x := w1) (σ1 := ⟨[(52, [.yld l]), (29, (Enc.cells (x1 : Tr))), (29, (Enc.cells (w1 : Tr)))], [], [], (s2 + 1), false⟩) (σ2 := ⟨[(52, [.yld l]), (29, (Enc.cells (x1 : Tr))), (29, (Enc.cells (w1 : Tr)))], [], [], s2, true⟩) g4 (ze (zav (zp (Enc.clo _))) rfl) (za (zr _ _ (zp (Enc.clo _))) rfl) (zrr rfl) rfl hGl hGr rfl rfl rfl rfl (by dsimp only [zab, List.set]) (by dsimp only [zab, List.set]) rfl rfl ?_ ?_
 refine w_o (a := .b false) ?_
 refine zcb rfl ?_
 exact zgr (p := p2) ((s2 + 1)) h (zbf (zq (by kernel_rfl) (zq (zk _ _ (Enc.clo _)) rfl))) (by kernel_rfl)
 refine w_o (a := .b true) ?_
 refine zby rfl ?_
 refine .inr ⟨(zbf (zq (by kernel_rfl) (zq (zk _ _ (Enc.clo _)) rfl))), ?_⟩
 refine .inr ?_
 exact ⟨⟨.tup [], rfl⟩, .inl rfl⟩
 intro s2 h
 refine zg (o := or1) (s2) h ?_
 exact zcy (bl 25 16793551) 1 (by kernel_rfl) (Nat.le_of_ble_eq_true rfl) (zbf (zq (by kernel_rfl) rfl)) (by dsimp only [zaa, zag, List.foldl, List.set, bz, bzc, Nat.reduceMod, Nat.reduceDiv, Nat.reduceBEq, Nat.reduceAdd]; exact (za rfl (za rfl (za (by decide) (za rfl (za rfl (za rfl (za rfl (za rfl (za rfl (za rfl (za rfl (za (zai (Enc.cloL _)) (by kernel_rfl)))))))))))))) (by kernel_rfl)
 intro j1 h
 refine zff ?_
 refine zb (k0 := 0) (id := 8) ?_
 obtain ⟨g5, h⟩ := zh h
 refine zov g5 ?_
 refine zaj ?_
 refine zaq (p := p1) ((s1.1 + 1), j1) h ?_
 exact zde (bl 25 14340)
 refine zt h (fun h => ?_)
 exact ⟨⟨.tup [], rfl⟩, .inr (Option.some.inj h)⟩
 refine w_o (a := .b true) ?_
 refine zby rfl ?_
 exact ⟨⟨.tup [], rfl⟩, .inl rfl⟩
theorem ent63 : Ent Tryz.prog 63 := enters_of Tryz.func63 (by kernel_rfl) rfl
theorem qmh (fuel : Nat) (n : Nat) (t : Tr) (rows : List Tr) (ih : ∀ x : Tr, (pre x).length < n → Pure (ITP Tryz.prog) Tryz.prog 63 [.A x] (.iter (List.map zuq (pre x))))  (h : zoe fuel n t rows = some rows.length) : Pure (ITP Tryz.prog) Tryz.prog 63 [.A (t : Tr)] (.iter (rows.map zuq)) := by
 obtain ⟨d, hd⟩ : ∃ d, Tryz.f63.body = some d := ⟨_, rfl⟩
 refine zjc mix Tryz.func63 hd ent63 ?_
 cases hd
 refine zam (by dsimp only [zbe, Tryz.f63, List.length_cons, List.length_nil, Nat.zero_add, Nat.reduceAdd, Nat.reduceSub, List.replicate, List.cons_append, List.nil_append]) (by dsimp only [St.empty]) ?_
 refine zf (zb ?_)
 refine zbp (a := .ptr 0 0) (σ'' := (.B [(29, (Enc.cells (t : Tr)))])) ?_
 refine w_o (a := .raw Value.nilFunc) ?_
 refine zo [.v (.clos 102 [.ptr 0 0]), .m _] ?_
 exact z1w 1 (row := zuq) (caps := [.iptr (Enc.cells (t : Tr))]) mix rfl (congrArg (fun z => AV.clos 102 [.iptr z]) (zda _ _ (Enc.clo _))) Tryz.func102 rfl ent102 (by first | rfl | simp [cloL, clo, Enc.clo, zey, Enc.cloL]) (rowT_ne _) (fun G hGr => qgi fuel n t rows ih h _ rfl G hGr _ rfl)
theorem zdh {α : Type} [Enc α] {l : List α} {i : Nat} (h : i < l.length) : ix l (i : Int) = l[i] := by simp [ix, h]
theorem qkb (p : Tr → Option Bool) (q : Tr → Bool) (l : List Tr) (hl : l.length < 2 ^ 62) (hp : ∀ x ∈ l, p x = some (q x)) {body : Int → Option (Int ⊕ (Unit ⊕ Int))}
 (hb : body = fun s1 => (bif (decide (s1 < (List.length l : Int))) then (chk (0 ≤ s1 ∧ s1 < (List.length l : Int)) (zbb (ix l s1) (fun x1 => (zay (p x1) (fun x2 => (bif x2 then (some (Sum.inr (Sum.inr s1))) else (chk (-9223372036854775808 ≤ (s1 + 1) ∧ (s1 + 1) < 9223372036854775808) (some (Sum.inl ((s1 + 1))))))))))) else (some (Sum.inr (Sum.inl ()))))) :
 ∀ (k i n : Nat), i + k = l.length → k < n → ∃ o : Unit ⊕ Int, zbx body n (i : Int) = some o ∧ ((o = .inl () ∧ (l.drop i).any q = false) ∨ (∃ j : Int, o = .inr j ∧ 0 ≤ j ∧ (l.drop i).any q = true)) := by
 intro k
 induction k with
 | zero =>
  intro i n hi hn
  match n, hn with
  | n + 1, _ =>
   refine ⟨.inl (), ?_, .inl ⟨rfl, ?_⟩⟩
   ·rw [zbx, hb]; simp only
    rw [show decide ((i : Int) < (l.length : Int)) = false from by simp; omega]; rfl
   ·rw [List.drop_of_length_le (by omega)]; rfl
 | succ k ih =>
  intro i n hi hn
  match n, hn with
  | n + 1, hn =>
   have hil : i < l.length := by omega
   have hx := hp l[i] (List.getElem_mem hil)
   have hd : l.drop i = l[i] :: l.drop (i + 1) := List.drop_eq_getElem_cons hil
   have hb1 : body (i : Int) = bif q l[i] then some (Sum.inr (Sum.inr (i : Int))) else some (Sum.inl (((i + 1 : Nat) : Int))) := by
    rw [hb]; simp only
    rw [show decide ((i : Int) < (l.length : Int)) = true from by simp; omega]
    show chk _ _ = _
    rw [zdf (by omega), zbb, zdh hil, hx, bindE_some]
    rw [zdf (by omega), show ((i + 1 : Nat) : Int) = (i : Int) + 1 from by omega]
   cases hq : q l[i] with
   | true =>
    refine ⟨.inr (i : Int), ?_, .inr ⟨_, rfl, by omega, ?_⟩⟩
    ·rw [zbx, hb1, hq]; rfl
    ·rw [hd, List.any_cons, hq]; rfl
   | false =>
    obtain ⟨o, h1, h2⟩ := ih (i + 1) n (by omega) (by omega)
    refine ⟨o, ?_, ?_⟩
    ·rw [zbx, hb1, hq]; exact h1
    ·rw [hd, List.any_cons, hq, Bool.false_or]; exact h2
theorem qch {fuel : Nat} {p : Tr → Option Bool} (q : Tr → Bool) {l : List Tr} (hf : l.length < fuel) (hl : l.length < 2 ^ 62) (hp : ∀ x ∈ l, p x = some (q x)) : z6g fuel p l = some (l.any q) := by
 unfold z6g qko
 obtain ⟨o, h1, h2⟩ := qkb p q l hl hp rfl l.length 0 fuel (by omega) hf
 rw [show ((0 : Nat) : Int) = 0 from rfl] at h1
 rw [h1]
 rw [List.drop_zero] at h2
 rcases h2 with ⟨rfl, h⟩ | ⟨j, rfl, hj, h⟩
 ·rw [h]; rfl
 ·rw [h]; show zay (some j) _ = _
  rw [bindE_some]; simp [hj]
theorem ctc_eq {fuel : Nat} {p : Tr → Option Bool} (q : Tr → Bool) {l : List Tr} (hf : l.length < fuel) (hl : l.length < 2 ^ 62) (hp : ∀ x ∈ l, p x = some (q x)) : qlh fuel p l = some (l.any q) := qch q hf hl hp
theorem z5h {fuel : Nat} {t : Tr} (hf : t.l.length < fuel) (hl : t.l.length < 2 ^ 62) (k : Nat) : zsb fuel t k = some (ztc t k) := by
 unfold zsb
 rw [ctc_eq (fun x => decide (x.k = k)) hf hl]
 ·rfl
 ·intro x hx
  unfold z1c
  congr 1
  rw [Bool.eq_iff_iff]; simp; omega
theorem zvo (lo hi : Int) : zgg lo hi = some (zdp lo hi) := by
 unfold zgg zdp
 have k1 : ∀ n m : Int, (n == m) = decide (n = m) := fun n m => rfl
 simp only [k1]
 have key : ∀ a b c d e f g h : Bool, (zdr (τ := Unit) (bif a then (some (Sum.inr false)) else (bif b then (some (Sum.inr false)) else (bif c then (bif d then (some (Sum.inr false)) else (some (Sum.inl ()))) else (some (Sum.inl ()))))) (fun _ => (bif e then (some true) else (bif f then (bif g then (some h) else (some false)) else (some false))))) = some (!(a || b || c && d) && (e || f && g && h)) := by decide
 exact key _ _ _ _ _ _ _ _
theorem qjs {fuel : Nat} {t : Tr} (hf : t.l.length < fuel) (hl : t.l.length < 2 ^ 62) : zzp fuel t = some (zds t) := by
 have e1 : zsb fuel t 1 = some (ztc t 1) := z5h hf hl 1
 have e3 : zsb fuel t 3 = some (ztc t 3) := z5h hf hl 3
 have e4 : zsb fuel t 4 = some (ztc t 4) := z5h hf hl 4
 have eb := zvo t.mn t.mx
 unfold zzp
 have hodd : ∀ a b c d e f g : Bool, (bif a then (bif b then (some (Sum.inr false)) else (bif c then (bif d then (some (Sum.inr false)) else (bif e then (some (Sum.inr false)) else (bif f then (bif g then (some (Sum.inr false)) else (some (Sum.inl ()))) else (some (Sum.inl ()))))) else (bif f then (bif g then (some (Sum.inr false)) else (some (Sum.inl ()))) else (some (Sum.inl ()))))) else (bif c then (bif d then (some (Sum.inr false)) else (bif e then (some (Sum.inr false)) else (bif f then (bif g then (some (Sum.inr false)) else (some (Sum.inl ()))) else (some (Sum.inl ()))))) else (bif f then (bif g then (some (Sum.inr false)) else (some (Sum.inl ()))) else (some (Sum.inl ())))) : Option (Unit ⊕ Bool)) = bif (a && b) || (c && (d || e)) || (f && g) then some (.inr false) else some (.inl ()) := by decide
 rw [hodd]
 show zdr (bif oddT t then _ else _) _ = some (zds t)
 rw [zds]
 cases oddT t with
 | true => rfl
 | false =>
  show (bif _ then _ else _) = _
  rw [Bool.not_false, Bool.true_and]
  cases (t.k : Int) == 1 with
  | true => rfl
  | false =>
   show (bif _ then _ else _) = some (bif _ then _ else _)
   cases (t.k : Int) == 2 with
   | true => rfl
   | false =>
    show (bif _ then _ else _) = some (bif _ then _ else _)
    rw [e1, e3, e4, eb]
    cases (t.k : Int) == 3 with
    | true =>
     show (bif _ then _ else _) = some _
     cases decide ((t.l.length : Int) > 1) <;> cases ztc t 1 <;> cases ztc t 3 <;> rfl
    | false =>
     show (bif _ then _ else _) = some (bif _ then _ else _)
     cases (t.k : Int) == 4 with
     | true =>
      show (bif _ then _ else _) = some _
      cases decide ((t.l.length : Int) > 1) <;> cases ztc t 4 <;> rfl
     | false =>
      show (bif _ then _ else _) = some (bif _ then _ else _)
      cases (t.k : Int) == 5 with
      | true =>
       show (bif _ then _ else _) = some _
       cases (t.l.length : Int) == 1 <;> cases zdp t.mn t.mx <;> cases ztc t 1 <;> rfl
      | false =>
       show (bif _ then _ else _) = some _
       cases (t.k : Int) == 6 <;> cases (t.l.length : Int) == 1 <;> rfl
theorem z6m (t : Tr) : t.l.length < (pre t).length := by have := zix t; have := qgr t.l; omega
theorem k_right (t : Tr) (h : (pre t).length < 2 ^ 61) : Pure (ITP Tryz.prog) Tryz.prog 64 [.agg (Enc.cells t)] (.raw (.bool (zds t))) := by
 have := z6m t
 exact qjk (t.l.length + 1) t _ (qjs (by omega) (by omega))
theorem z9w : ∀ (l : List Tr) (i : Nat) (hi : i < l.length) (j : Nat), j < (pre l[i]).length → (zan l)[(zan (l.take i)).length + j]? = (pre l[i])[j]?
 | [], i, hi, _, _ => by simp at hi
 | t :: l, 0, hi, j, hj => by
  simp only [List.take_zero, zan, List.length_nil, Nat.zero_add, List.getElem_cons_zero]
  simp only [List.getElem_cons_zero] at hj
  rw [List.getElem?_append_left hj]
 | t :: l, i + 1, hi, j, hj => by
  simp only [List.take_succ_cons, zan, List.length_append, List.getElem_cons_succ]
  simp only [List.getElem_cons_succ] at hj
  rw [List.getElem?_append_right (by omega), show (pre t).length + (zan (l.take i)).length + j - (pre t).length = (zan (l.take i)).length + j by omega]
  exact z9w l i (by simpa using hi) j hj
theorem qdg {fuel n : Nat} (t : Tr) (hf : t.l.length < fuel) (hn : (pre t).length ≤ n) (hl : (pre t).length < 2 ^ 61) : zoe fuel n t (pre t) = some (pre t).length := by
 have hlen := z6m t
 unfold zoe
 refine zoh (by rw [zdi]; rfl) ?_
 refine zdm t.l.length (fun i => ((i : Int), 1 + (zan (t.l.take i)).length)) rfl (fun i hi => ?_) ?_ hf
 ·refine zbk (by simp; omega) ?_
  refine zbn (1 + (zan (t.l.take (i + 1))).length) ?_ ?_
  ·refine zm (by simp only; omega) (zad fun x1 e1 => ?_)
   simp only at e1
   rw [zdh hi] at e1
   have hm : x1 ∈ t.l := e1 ▸ List.getElem_mem hi
   have hx := zgq hm
   have hp : (pre t).length = 1 + (zan t.l).length := by rw [zdi, List.length_cons]; omega
   refine zm (by omega) (zad fun x2 e2 => ?_)
   subst e2
   refine zbn (1 + (zan (t.l.take (i + 1))).length) ?_ rfl
   have hsucc : (zan (t.l.take (i + 1))).length = (zan (t.l.take i)).length + (pre x1).length := by rw [← e1]; exact zmf t.l i hi
   have key : ∀ {ρ : Type} (l : List Tr) (j : Nat), (∀ m, m < l.length → (pre t)[j + m]? = l[m]?) → zgm (β := Nat) (ρ := ρ) (fun s2 w1 => (z5a ((pre t)[s2]? = some w1) (some (Sum.inl ((s2 + 1)))))) l j = some (.inl (j + l.length)) := by
    intro ρ l
    induction l with
    | nil => intro j _; rfl
    | cons y l ih =>
     intro j hj
     have h0 : (pre t)[j]? = some y := by simpa using hj 0 (by simp)
     have hb : z5a ((pre t)[j]? = some y) (some (Sum.inl (j + 1))) = (some (Sum.inl (j + 1)) : Option (Nat ⊕ ρ)) := zoh h0 rfl
     simp only [zgm, hb]
     rw [ih (j + 1) (fun m hm => by have := hj (m + 1) (by simp; omega); rw [show j + 1 + m = j + (m + 1) by omega, this]; rfl)]
     simp; omega
   rw [hsucc, ← Nat.add_assoc]
   refine key (pre x1) (1 + (zan (t.l.take i)).length) (fun m hm => ?_)
   subst e1
   rw [zdi t, show 1 + (zan (t.l.take i)).length + m = (zan (t.l.take i)).length + m + 1 by omega, List.getElem?_cons_succ]
   exact z9w t.l i hi m hm
  ·refine zm (by simp only; omega) ?_
   simp only
   rfl
 ·refine zas (by simp) ?_
  have hp : (pre t).length = 1 + (zan t.l).length := by rw [zdi, List.length_cons]; omega
  simp only [List.take_length]; rw [hp]
theorem z2z : ∀ (n : Nat) (t : Tr), (pre t).length < n → n ≤ 2 ^ 61 → Pure (ITP Tryz.prog) Tryz.prog 63 [.agg (Enc.cells t)] (.iter (List.map zuq (pre t)))
 | 0, t, h, _ => absurd h (Nat.not_lt_zero _)
 | n + 1, t, h, hn => qmh (t.l.length + 1) n t (pre t) (fun x hx => z2z n x hx (by omega)) (qdg t (by omega) (by omega) (by omega))
theorem zzc (t : Tr) (h : (pre t).length < 2 ^ 61) : Pure (ITP Tryz.prog) Tryz.prog 63 [.agg (Enc.cells t)] (.iter (List.map zuq (pre t))) := z2z (2 ^ 61) t h (Nat.le_refl _)
theorem zsx (s : BS) (j : Nat) (hj : j < 256) : znn s (j : Int) = some (s.getLsbD j) := by
 obtain ⟨h1, h2, _⟩ := z4q j hj
 unfold znn
 rw [h1, h2]
 refine zm (by omega) (zm (by omega) ?_)
 congr 1
 have := qiv (W64 s (j / 64)) (j % 64) (Nat.mod_lt _ (by decide))
 rw [show wd s (Int.toNat ((j / 64 : Nat) : Int)) = ((W64 s (j / 64)).toNat : Int) from rfl, this]
 simp only [W64, BitVec.getLsbD_extractLsb', Nat.mod_lt _ (show 0 < 64 by decide), decide_true, Bool.true_and]
 rw [show 64 * (j / 64) + j % 64 = j by omega]
theorem all1_eq (s : BS) : z3l 257 s (els s) = some (els s).length := by
 unfold z3l
 refine zdm 256 (fun i => ((i : Int), (elN s i).length)) rfl (fun i hi => ?_) ?_ (by decide)
 ·refine zbk (by simp; omega) ?_
  refine zbn (elN s (i + 1)).length ?_ ?_
  ·refine zbt (s.getLsbD i) ?_ ?_
   ·simp only [(z4q i hi).2.2]; exact zsx s i hi
   ·rw [z9t]
    refine z5k (fun hb => ?_) (fun hb => ?_)
    ·refine zoh ?_ ?_
     ·simp only [(z4q i hi).2.2, els, List.getElem?_map, z4o s hb 256 hi, Option.map_some]
     ·rw [if_pos hb]; simp
    ·rw [if_neg (by rw [hb]; decide)]; simp
  ·refine zm (by simp only; omega) ?_
   simp
 ·refine zas (by simp) ?_
  simp [els]
theorem k_all (s : BS) : Pure (ITP Tryz.prog) Tryz.prog 55 [.agg (Enc.cells s)] (.iter (List.map qkt (els s))) := all_sh 257 s _ (all1_eq s)
end Go.Ab
