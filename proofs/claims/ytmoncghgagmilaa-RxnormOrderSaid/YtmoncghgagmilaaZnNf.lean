/-
  rxnorm: what is normal; Repeats and Cats of normal trees are normal (plain).
-/
import Derived.Test.YtmoncghgagmilaaZnWc
import Derived.Test.YtmoncghgagmilaaZnVb
import Derived.Test.YtmoncghgagmilaaZdQr
import Derived.Test.YtmoncghgagmilaaZnV3
import Derived.Test.YtmoncghgagmilaaZdCq
set_option linter.unusedSimpArgs false
set_option linter.unusedVariables false
namespace Go.Ab
open Go Go.RowKit Go.Fwd Go.Proofs
theorem zxf {t : Tr} (h : CS 998 t) : CLn 997 (t.l.map normT) := by
 have hp : (pre t).length = 1 + (zai t.l).length := by rw [zc8, List.length_cons]; omega
 have hcl := (zcq t.l).1 ((zbm t).1 h.1).2
 have hh := h.2
 have key : ∀ l : List Tr, (∀ x ∈ l, CS 998 x) → CRL (l.map normT) ∧ (zai (l.map normT)).length ≤ (zai l).length := by
  intro l
  induction l with
  | nil => intro _; exact ⟨zcg, Nat.le_refl _⟩
  | cons x l ih =>
   intro hl
   obtain ⟨a1, a2⟩ := ih fun y hy => hl y (List.mem_cons_of_mem _ hy)
   obtain ⟨c1, c2⟩ := zn8 _ x (Nat.le_refl _) (hl x (by simp))
   rw [List.map_cons]
   refine ⟨(zap _ _).2 ⟨c1, a1⟩, ?_⟩
   simp only [zai, List.length_append]; omega
 obtain ⟨k1, k2⟩ := key t.l fun x hx => ⟨hcl x hx, by have := zbr hx; omega⟩
 exact ⟨k1, by omega⟩
theorem norm_eq (n : Nat) (t : Tr) (h : CS 998 t) (hn : (pre t).length < n + 1) : zsr 1002 n t = some (normT t) := by
 have hp : (pre t).length = 1 + (zai t.l).length := by rw [zc8, List.length_cons]; omega
 have hcl := (zcq t.l).1 ((zbm t).1 h.1).2
 have hh := h.2
 have hlen := zag t.l
 have hml := zxf h
 have htn : Int.toNat (t.l.length : Int) = t.l.length := Int.toNat_natCast _
 rw [znz, z0j]
 unfold zsr
 refine zt (by omega) (zc1 (t.l.map normT) ?_ ?_)
 ·refine zfz t.l.length (fun i => ((i : Int), (t.l.take i).map normT ++ List.replicate (t.l.length - i) noneT)) (by simp) (fun i hi => ?_) ?_ (by omega)
  ·refine zby (by simpa using hi) (zt (by simp only; omega) (zaj fun x1 e1 => ?_))
   simp only at e1
   rw [zdz hi] at e1
   have hm : x1 ∈ t.l := e1 ▸ List.getElem_mem hi
   have hx := zbr hm
   refine zt ⟨by omega, hcl x1 hm, by omega⟩ (zaj fun x2 e2 => zt (by simp only [htn]; omega) (zt ?_ (zaj fun x3 e3 => zt (by simp only; omega) ?_)))
   ·simp only [List.length_append, List.length_map, List.length_take, List.length_replicate]; omega
   ·subst e2
    simp only [Int.toNat_natCast]
    congr 3
    ·rw [List.set_append_right _ _ (by simp only [List.length_map, List.length_take]; omega), List.length_map, List.length_take, Nat.min_eq_left (by omega), Nat.sub_self, show t.l.length - i = (t.l.length - (i + 1)) + 1 by omega, List.replicate_succ, List.set_cons_zero, List.take_succ_eq_append_getElem hi, List.map_append, e1, List.append_assoc]
     rfl
  ·refine zbv (by simp) ?_
   simp
 ·by_cases h6 : t.k = 6
  ·have h1 := z1i h.1 h6
   rw [if_pos h6]
   refine zby (by simp [h6]) (zt (by simp only [htn]; omega) (zt (by rw [List.length_map]; omega) (zaj fun x4 e4 => ?_)))
   have e4 : hdT (t.l.map normT) = x4 := e4
   subst e4
   have hmem : hdT (t.l.map normT) ∈ t.l.map normT := zi8 (by rw [List.length_map]; omega)
   have := (hml.mem hmem).2
   exact zt (by omega) rfl
  rw [if_neg h6]
  refine zbv (by simp; omega) ?_
  by_cases h5 : t.k = 5
  ·have h1 := zxg (t := t) h.1 h5
   rw [if_pos h5]
   refine zby (by simp [h5]) (zt (by simp only [htn]; omega) (zt (by rw [List.length_map]; omega) (zaj fun x4 e4 => ?_)))
   have e4 : hdT (t.l.map normT) = x4 := e4
   subst e4
   have hmem : hdT (t.l.map normT) ∈ t.l.map normT := zi8 (by rw [List.length_map]; omega)
   exact zaj fun x7 e7 => zt ((hml.mem hmem).mono (by omega)) (by subst e7; rfl)
  rw [if_neg h5]
  refine zbv (by simp; omega) ?_
  by_cases h3 : t.k = 3
  ·rw [if_pos h3]
   exact zby (by simp [h3]) (zt (by rw [List.length_map, htn]) (zt (hml.mono (by omega)) rfl))
  rw [if_neg h3]
  refine zbv (by simp; omega) ?_
  by_cases h4 : t.k = 4
  ·rw [if_pos h4]
   have hl := (zdj ((zbm t).1 h.1).1 h4).1
   exact zby (by simp [h4]) (zt (by rw [List.length_map, htn]) (zt ⟨hml.mono (by omega), by rw [List.length_map]; omega⟩ rfl))
  rw [if_neg h4]
  exact zbv (by simp; omega) rfl
theorem zzg : ∀ (n : Nat) (t : Tr), ((pre t).length < n ∧ CS 998 t) → Pure (ITP Try.prog) Try.prog 28 [.agg (Enc.cells t)] (.agg (Enc.cells (normT t)))
 | 0, t, h => absurd h.1 (Nat.not_lt_zero _)
 | n + 1, t, h => z6l 1002 n t _ (fun x hx => zzg n x hx) (norm_eq n t h.2 h.1)
theorem k_norm (t : Tr) (h : CS 998 t) : Pure (ITP Try.prog) Try.prog 28 [.agg (Enc.cells t)] (.agg (Enc.cells (normT t))) := zzg 999 t ⟨by have := h.2; omega, h⟩
end Go.Ab
set_option linter.unusedSimpArgs false
set_option linter.unusedVariables false
set_option maxRecDepth 100000
set_option maxHeartbeats 4000000
namespace Go.Ab
open Go Go.RowKit Go.Fwd Go.Proofs
def z1h (t : Tr) : Option (Tr × Int) :=
 (chk ((pre t).length < 2 ^ 61) (zan (zbj t) (fun x1 => (bif (!x1) then (some (noneT, 110)) else (chk (CS 998 t) (zan (normT t) (fun x2 => (chk ((pre x2).length < 2 ^ 61) (zan (z00 x2) (fun x3 => (some (x3, 0))))))))))))
theorem ent9 : Ent Try.prog 9 := enters_of Try.func9 (by kernel_rfl) rfl
theorem Norm_sh (t : Tr) (r : (Tr × Int)) (h : z1h t = some r) : Pure (ITP Try.prog) Try.prog 9 [.A (t : Tr)] (.tup [.A (r.1 : Tr), .raw (.int .i64 r.2)]) := by
 unfold z1h at h
 refine zaw 10 mix Try.func9 ent9 ?_
 refine ze (zc ?_)
 refine zbc (a := .ptr 0 0) (σ'' := (.B [(30, (Enc.cells (t : Tr)))])) ?_
 refine zbc (a := .ptr 1 0) (σ'' := (.B [(30, (Enc.cells (t : Tr))), (30, [.u 0, .raw (.int .u64 0), .raw (.int .u64 0), .raw (.int .u64 0), .raw (.int .u64 0), .i 0, .i 0, .list 0 [] .full])])) ?_
 refine w_o (a := .i 0) ?_
 refine ze ?_
 refine zw [.v (.A (t : Tr))] ?_
 obtain ⟨g1, h⟩ := zh h
 obtain ⟨x1, hx1, h⟩ := zj h
 refine zbs (args' := [.A (t : Tr)]) (r := .b x1) (by rw [← hx1]; exact (zl7 t g1)) ?_
 refine w_o (a := .b (!x1)) ?_
 refine zbu h (fun hc1 h => ?_) (fun hc1 h => ?_)
 refine ze (zc ?_)
 refine zcd (.A (noneT : Tr)) (a0 := (zbf noneT .full)) rfl rfl rfl (by kernel_rfl) (zi _ _) (by dsimp only [zn, List.set]) ?_
 refine zbk 8 (.B [(30, (Enc.cells (t : Tr))), (30, (Enc.cells (noneT : Tr)))]) ?_
 refine w_o (a := .i 110) ?_
 exact zal (fun (r : (Tr × Int)) => .tup [.A (r.1 : Tr), .i r.2]) h (.tup [.A (noneT : Tr), .i 110])
 refine zw [.v (.A (t : Tr))] ?_
 obtain ⟨g2, h⟩ := zh h
 obtain ⟨x2, hx2, h⟩ := zj h
 refine zbs (args' := [.A (t : Tr)]) (r := .A (x2 : Tr)) (by rw [← hx2]; exact (k_norm t g2)) ?_
 obtain ⟨g3, h⟩ := zh h
 obtain ⟨x3, hx3, h⟩ := zj h
 refine zbs (args' := [.A (x2 : Tr)]) (r := .A (x3 : Tr)) (by rw [← hx3]; exact (k_copy x2 g3)) ?_
 refine zbk 8 (.B [(30, (Enc.cells (t : Tr))), (30, (Enc.cells (x3 : Tr)))]) ?_
 refine w_o (a := .i 0) ?_
 exact zal (fun (r : (Tr × Int)) => .tup [.A (r.1 : Tr), .i r.2]) h (.tup [.A (x3 : Tr), .i 0])
end Go.Ab
set_option linter.unusedSimpArgs false
set_option linter.unusedVariables false
namespace Go.Ab
open Go Go.RowKit Go.Fwd Go.Proofs
def zks (t : Tr) : Bool := zbj t && plainT t
def z5l (t : Tr) : Bool := zbj t && zbx t
def zmg (t : Tr) : Tr × Int := if zbj t = true then (normT t, 0) else (noneT, 110)
theorem zwx (t : Tr) (h : (pre t).length < 2 ^ 60) : Pure (ITP Try.prog) Try.prog 8 [.agg (Enc.cells t)] (.raw (.bool (zks t))) := by
 refine z7h t _ ?_
 unfold zw6 zks
 refine zt (by omega) ?_
 cases hc : zbj t with
 | false => rfl
 | true => exact zt h rfl
theorem zqt (t : Tr) (h : (pre t).length < 2 ^ 60) : Pure (ITP Try.prog) Try.prog 14 [.agg (Enc.cells t)] (.raw (.bool (z5l t))) := by
 refine zxb t _ ?_
 unfold zmh z5l
 refine zt (by omega) ?_
 cases hc : zbj t with
 | false => rfl
 | true => exact zt ⟨h, zjw hc⟩ rfl
theorem copy_of {t : Tr} (h : (pre t).length ≤ 10000) : z00 t = t := by rw [z00, if_pos (zpm h)]
theorem zwn {t : Tr} (h : CS 998 t) : (pre (normT t)).length ≤ (pre t).length := (zn8 _ t (Nat.le_refl _) h).2
theorem norm_cr {t : Tr} (h : CS 998 t) : CR (normT t) := (zn8 _ t (Nat.le_refl _) h).1
theorem zs8 (t : Tr) (h : (CS 998 t ∨ zbj t = false) ∧ (pre t).length < 2 ^ 61) : Pure (ITP Try.prog) Try.prog 9 [.agg (Enc.cells t)] (.tup [.agg (Enc.cells (zmg t).1), .raw (.int .i64 (zmg t).2)]) := by
 refine Norm_sh t _ ?_
 unfold z1h zmg
 refine zt h.2 ?_
 rcases h.1 with hc | hc
 ·have h1 := zwn hc; have h2 := hc.2
  rw [hc.clean (by omega), if_pos rfl]
  refine zt hc (zt (by omega) ?_)
  rw [copy_of (by omega)]; rfl
 ·rw [hc]; rfl
structure Ct where
 f : Nat
 args : List AV
 r : AV
def CtOk (c : Ct) : Prop := Pure (ITP Try.prog) Try.prog c.f c.args c.r
def tbl (T : List Ct) : CallP := fun f args => match T.find? (fun c => c.f == f && zlh c.args args) with
 | some c => some c.r
 | none => none
theorem z59 {T : List Ct} (h : ∀ c ∈ T, CtOk c) : Good Try.prog (tbl T) noS := ⟨mix, ents, (fun f args r e => by
 unfold tbl at e
 split at e
 ·rename_i c hc
  cases e
  have h1 := List.find?_some hc
  simp only [Bool.and_eq_true, beq_iff_eq] at h1
  have h2 := h c (List.mem_of_find?_eq_some hc)
  rw [CtOk, h1.1, zfl _ _ h1.2] at h2
  exact h2
 ·cases e), (fun _ _ _ _ _ h => nomatch h)⟩
def rp (t : Tr) (lo hi : Int) : Tr := .mk 5 0#256 lo hi [t]
def gp (t : Tr) : Tr := .mk 6 0#256 0 0 [t]
def ct (l : List Tr) : Tr := .mk 3 0#256 0 0 l
def al (l : List Tr) : Tr := .mk 4 0#256 0 0 l
def awE : List (Tr × Tr) := [(al [bT, aT, bT], zq1 [97, 98]), (al [aT, emptyT], rp aT 0 1), (rp (rp aT 0 (-1)) 1 (-1), rp aT 0 (-1)), (rp (al [rp bT 0 (-1), aT]) 0 1, al [aT, rp bT 0 (-1)]), (ct [aT, rp aT 0 (-1), bT], ct [rp aT 1 (-1), bT]),
 (al [gp aT, bT, bT], al [gp aT, bT]), (al [gp aT, bT, cT], al [gp aT, bT, cT]), (al [ct [aT, bT], ct [cT, zq1 [100]], ct [aT, bT]], al [ct [aT, bT], ct [cT, zq1 [100]]]), (ct [rp aT 0 (-1), rp aT 0 (-1)], rp aT 0 (-1)), (rp (rp aT 0 1) 2 2, rp (rp aT 0 1) 2 2)]
theorem awN : (awE.all fun p => decide (CS 998 p.1) && zbj p.1 && zim (normT p.1) p.2) = true := by decide +kernel
end Go.Ab
set_option linter.unusedSimpArgs false
set_option linter.unusedVariables false
namespace Go.Ab
open Go Go.RowKit Go.Fwd Go.Proofs
theorem aw_norm {p : Tr × Tr} (h : p ∈ awE) : CS 998 p.1 ∧ zmg p.1 = (p.2, 0) := by
 have h1 := List.all_eq_true.1 awN p h
 simp only [Bool.and_eq_true, decide_eq_true_eq] at h1
 refine ⟨h1.1.1, ?_⟩
 rw [zmg, if_pos h1.1.2, (zho _ _).1 h1.2]
theorem aw_len : (awE.all fun p => decide ((pre p.1).length < 100) && decide ((pre p.2).length < 100) && zfc p.2 p.2) = true := by decide +kernel
def awTbl : List Ct := awE.map (fun p => ⟨9, [.agg (Enc.cells p.1)], .tup [.agg (Enc.cells p.2), .raw (.int .i64 0)]⟩) ++ awE.map (fun p => ⟨11, [.agg (Enc.cells p.2), .agg (Enc.cells p.2)], .raw (.bool true)⟩) ++
 [⟨8, [.agg (Enc.cells (rp aT 0 (-1)))], .raw (.bool true)⟩, ⟨8, [.agg (Enc.cells (gp aT))], .raw (.bool false)⟩, ⟨14, [.agg (Enc.cells (rp aT 0 (-1)))], .raw (.bool true)⟩, ⟨14, [.agg (Enc.cells (gp aT))], .raw (.bool false)⟩]
theorem z6c : ∀ c ∈ awTbl, CtOk c := by
 intro c hc
 unfold awTbl at hc
 rw [List.mem_append, List.mem_append] at hc
 rcases hc with (hc | hc) | hc
 ·obtain ⟨p, hp, rfl⟩ := List.mem_map.1 hc
  obtain ⟨h1, h2⟩ := aw_norm hp
  have h3 := h1.2
  have := zs8 p.1 ⟨.inl h1, by omega⟩
  rw [h2] at this
  exact this
 ·obtain ⟨p, hp, rfl⟩ := List.mem_map.1 hc
  have h1 := List.all_eq_true.1 aw_len p hp
  simp only [Bool.and_eq_true, decide_eq_true_eq] at h1
  have := zmo p.2 p.2 ⟨by omega, by omega⟩
  rw [h1.2] at this
  exact this
 ·simp only [List.mem_cons, List.not_mem_nil, or_false] at hc
  rcases hc with rfl | rfl | rfl | rfl
  ·have := zwx (rp aT 0 (-1)) (by decide +kernel); rw [show zks (rp aT 0 (-1)) = true by decide +kernel] at this; exact this
  ·have := zwx (gp aT) (by decide +kernel); rw [show zks (gp aT) = false by decide +kernel] at this; exact this
  ·have := zqt (rp aT 0 (-1)) (by decide +kernel); rw [show z5l (rp aT 0 (-1)) = true by decide +kernel] at this; exact this
  ·have := zqt (gp aT) (by decide +kernel); rw [show z5l (gp aT) = false by decide +kernel] at this; exact this
set_option maxRecDepth 100000 in
theorem z0t : Pure (ITP Try.prog) Try.prog 6 [] (.raw (.bool true)) := zd7 (z59 z6c) 300 (by kernel_rfl)
end Go.Ab
set_option linter.unusedSimpArgs false
set_option linter.unusedVariables false
namespace Go.Ab
open Go Go.RowKit Go.Fwd Go.Proofs
end Go.Ab
set_option linter.unusedSimpArgs false
set_option linter.unusedVariables false
namespace Go.Ab
open Go Go.RowKit Go.Fwd Go.Proofs
def locT (t : Tr) : Prop := (t.k = 5 → zcx (hdT t.l) (ofB t) = t) ∧ (t.k = 3 → zc5 t.l = none) ∧ (t.k = 4 → ztj t.l = t)
def okN (t : Tr) : Prop := t.k ≠ 6 ∧ zcm t = true ∧ locT t
def NF (t : Tr) : Prop := ∀ x ∈ pre t, okN x
theorem zms {l : List Tr} {x : Tr} : x ∈ zai l ↔ ∃ y ∈ l, x ∈ pre y := by
 induction l with
 | nil => simp [zai]
 | cons y l ih => rw [zai, List.mem_append, ih]; simp
theorem zp9 (t : Tr) : NF t ↔ okN t ∧ ∀ y ∈ t.l, NF y := by
 unfold NF
 rw [zc8]
 constructor
 ·intro h
  exact ⟨h t (by simp), fun y hy x hx => h x (List.mem_cons_of_mem _ (zms.2 ⟨y, hy, hx⟩))⟩
 ·rintro ⟨h1, h2⟩ x hx
  rcases List.mem_cons.1 hx with rfl | hx
  ·exact h1
  ·obtain ⟨y, hy, hx⟩ := zms.1 hx
   exact h2 y hy x hx
theorem NF.cr {t : Tr} (h : NF t) : CR t := List.all_eq_true.2 fun x hx => (h x hx).2.1
theorem NF.plain {t : Tr} (h : NF t) : plainT t = true := List.all_eq_true.2 fun x hx => by simpa using (h x hx).1
theorem NF.ok {t : Tr} (h : NF t) : okN t := ((zp9 t).1 h).1
theorem NF.sub {t y : Tr} (h : NF t) (hy : y ∈ t.l) : NF y := ((zp9 t).1 h).2 y hy
theorem NF.cs {t : Tr} {n : Nat} (h : NF t) (hn : (pre t).length ≤ n) : CS n t := ⟨h.cr, hn⟩
theorem zw5 {t : Tr} (h1 : t.k = 1 ∨ t.k = 2) (hr : zcm t = true) (hl : t.l = []) : NF t := (zp9 t).2 ⟨⟨by omega, hr, ⟨fun h => by omega, fun h => by omega, fun h => by omega⟩⟩, by rw [hl]; simp⟩
theorem znt : NF emptyT := zw5 (.inl rfl) zgo rfl
theorem nf_cls {s : BS} (h : s ≠ 0#256) : NF (.mk 2 s 0 0 []) := zw5 (.inr rfl) ((zbm _).1 (z38 h)).1 rfl
theorem z4n {x : Tr} {b : Bd} (hx : NF x) (hb : zb4 b.lo b.mo = true) (h1 : x.k ≠ 1) (hn : zcx x b = .mk 5 0#256 b.lo b.mo [x]) : NF (.mk 5 0#256 b.lo b.mo [x]) :=
 (zp9 _).2 ⟨⟨by simp [Tr.k], zkw h1 hb, ⟨fun _ => by simpa [hdT, Tr.l, ofB, Tr.mn, Tr.mx] using hn, fun h => by simp [Tr.k] at h, fun h => by simp [Tr.k] at h⟩⟩, fun y hy => by simp only [Tr.l, List.mem_singleton] at hy; exact hy ▸ hx⟩
theorem zk2 {x : Tr} {b : Bd} (h : CS 9999 x) (hp : plainT x = true) (hb : zb4 b.lo b.mo = true) (h1 : x.k ≠ 1) : zcx x b =
 if b = zp6 ∧ zbx x = true then x
 else if x.k = 5 ∧ zcr b = true ∧ zcr (ofB x) = true then (if b ≠ ofB x ∨ b = zih then .mk 5 0#256 0 (-1) [hdT x.l] else .mk 5 0#256 b.lo b.mo [hdT x.l])
 else if b = zhr ∧ zbx x = true then .mk 5 0#256 0 (-1) [x]
 else .mk 5 0#256 b.lo b.mo [x] := by
 have e : zb1 x b.lo b.mo = .mk 5 0#256 b.lo b.mo [x] := by rw [zi7 h hb, if_neg h1]
 have es : zb1 x 0 (-1) = .mk 5 0#256 0 (-1) [x] := by rw [zi7 h zdy, if_neg h1]
 unfold zcx
 rw [e, if_neg (by simp [Tr.k, hp]), es]
 by_cases hk : x.k = 5
 ·obtain ⟨y, y1, y2, y3, y4, y5, y6⟩ := zh9 h.1 hk
  have hy : CS 9999 y := ⟨y4, by have := h.2; omega⟩
  have e2 : zb1 (hdT x.l) b.lo b.mo = .mk 5 0#256 b.lo b.mo [hdT x.l] := by rw [y5, zi7 hy hb, if_neg y3]
  have e3 : zb1 (hdT x.l) 0 (-1) = .mk 5 0#256 0 (-1) [hdT x.l] := by rw [y5, zi7 hy zdy, if_neg y3]
  rw [e2, e3]
 ·have hk' : ∀ p : Prop, ¬ (x.k = 5 ∧ p) := fun p h => hk h.1
  rw [if_neg (hk' _), if_neg (hk' _)]
theorem zt7 {x : Tr} {b : Bd} (h : CS 9999 x) (hb : zb4 b.lo b.mo = true) (h1 : x.k = 1) : zcx x b = emptyT := by
 have e : zb1 x b.lo b.mo = emptyT := by rw [zi7 h hb, if_pos h1]
 unfold zcx
 rw [e, if_pos (.inl (by simp [emptyT, Tr.k]))]
theorem zzz {x : Tr} (h : NF x) (hs : (pre x).length ≤ 9999) (hk : x.k = 5) (hb : zcr (ofB x) = true) :
 ∃ y, x = .mk 5 0#256 x.mn x.mx [y] ∧ NF y ∧ y.k ≠ 1 ∧ (pre x).length = (pre y).length + 1 ∧ hdT x.l = y ∧ ¬ (y.k = 5 ∧ zcr (ofB y) = true) ∧ ¬ (ofB x = zp6 ∧ zbx y = true) ∧ ¬ (ofB x = zhr ∧ zbx y = true) := by
 obtain ⟨y, y1, y2, y3, y4, y5, y6⟩ := zh9 h.cr hk
 have hym : y ∈ x.l := by rw [y1]; simp [Tr.l]
 have hy := h.sub hym
 have hcs : CS 9999 y := ⟨y4, by omega⟩
 have hl := h.ok.2.2.1 hk
 rw [y5] at hl
 have hof := zk2 (b := ofB x) hcs hy.plain y2 y3
 rw [hl] at hof
 have hne : ∀ {z : Tr} {lo hi : Int}, (pre z).length < (pre y).length → x ≠ .mk 5 0#256 lo hi [z] := fun hz e => by
  have := congrArg (fun t => (pre t).length) e
  simp only [zh3] at this; omega
 have n1 : ¬ (ofB x = zp6 ∧ zbx y = true) := fun c => by
  rw [if_pos c] at hof
  have := congrArg (fun t => (pre t).length) hof
  omega
 rw [if_neg n1] at hof
 have n2 : ¬ (y.k = 5 ∧ zcr (ofB y) = true) := fun c => by
  rw [if_pos ⟨c.1, hb, c.2⟩] at hof
  obtain ⟨z, z1, z2, z3, z4, z5, z6⟩ := zh9 y4 c.1
  rw [z5] at hof
  split at hof <;> exact hne (by omega) hof
 rw [if_neg (fun c => n2 ⟨c.1, c.2.2⟩)] at hof
 have n3 : ¬ (ofB x = zhr ∧ zbx y = true) := fun c => by
  rw [if_pos c] at hof
  have e := congrArg ofB hof
  rw [c.1] at e
  revert e; simp [zhr, ofB, Tr.mn, Tr.mx]
 exact ⟨y, y1, hy, y3, y6, y5, n2, n1, n3⟩
theorem znv {x : Tr} {b : Bd} (h : NF x) (hs : (pre x).length ≤ 9999) (hb : zb4 b.lo b.mo = true) : NF (zcx x b) := by
 have hcs := h.cs hs
 by_cases h1 : x.k = 1
 ·rw [zt7 hcs hb h1]; exact znt
 ·have hof := zk2 hcs h.plain hb h1
  have hstar := zk2 (b := zih) hcs h.plain zdy h1
  have so : ¬ (zih = zp6 ∧ zbx x = true) := fun c => by simp [zih, zp6] at c
  have sp : ¬ (zih = zhr ∧ zbx x = true) := fun c => by simp [zih, zhr] at c
  by_cases c1 : b = zp6 ∧ zbx x = true
  ·rw [hof, if_pos c1]; exact h
  ·by_cases c2 : x.k = 5 ∧ zcr b = true ∧ zcr (ofB x) = true
   ·obtain ⟨y, y1, y2, y3, y4, y5, y6, y7, y8⟩ := zzz h hs c2.1 c2.2.2
    rw [hof, if_neg c1, if_pos c2, y5]
    by_cases c3 : b ≠ ofB x ∨ b = zih
    ·rw [if_pos c3]
     refine z4n (b := zih) y2 zdy y3 ?_
     have := zk2 (b := zih) (y2.cs (by omega)) y2.plain zdy y3
     rw [this, if_neg (by simp [zih, zp6]), if_neg (fun c => y6 ⟨c.1, c.2.2⟩), if_neg (by simp [zih, zhr])]
    ·rw [if_neg c3]
     have e : b = ofB x := Classical.byContradiction fun c => c3 (.inl c)
     rw [e]
     show NF (.mk 5 0#256 x.mn x.mx [y])
     rw [← y1]; exact h
   ·by_cases c3 : b = zhr ∧ zbx x = true
    ·rw [hof, if_neg c1, if_neg c2, if_pos c3]
     refine z4n (b := zih) h zdy h1 ?_
     rw [hstar, if_neg so, if_neg (fun c => c2 ⟨c.1, by rw [c3.1]; decide, c.2.2⟩), if_neg sp]
    ·have e : zcx x b = .mk 5 0#256 b.lo b.mo [x] := by rw [hof, if_neg c1, if_neg c2, if_neg c3]
     rw [e]; exact z4n h hb h1 e
theorem z1d {x y o : Tr} (hx : NF x) (hy : NF y) (sx : (pre x).length ≤ 9999) (sy : (pre y).length ≤ 9999) (h : zgq x y = some o) : NF o := by
 unfold zgq at h
 split at h
 ·cases h
 ·split at h
  ·cases h; exact znv hx sx zhx
  ·split at h
   ·cases h; exact znv hy sy zhx
   ·split at h
    ·cases h; exact hx
    ·cases h
def NFL (l : List Tr) : Prop := ∀ x ∈ l, NF x
theorem NFL.crl {l : List Tr} (h : NFL l) : CRL l := (zcq l).2 fun x hx => (h x hx).cr
theorem z2j : ∀ {l l' : List Tr}, NFL l → (zai l).length ≤ 9999 → zc5 l = some l' → NFL l'
 | [], _, _, _, h => by simp [zc5] at h
 | [_], _, _, _, h => by simp [zc5] at h
 | x :: y :: l, l', hl, hs, h => by
  have sx := zbr (l := x :: y :: l) (x := x) (by simp)
  have sy := zbr (l := x :: y :: l) (x := y) (by simp)
  rw [zo6] at h
  cases hm : zgq x y with
  | some o =>
   rw [hm] at h; cases h
   intro z hz
   rcases List.mem_cons.1 hz with rfl | hz
   ·exact z1d (hl x (by simp)) (hl y (by simp)) (by omega) (by omega) hm
   ·exact hl z (by simp [hz])
  | none =>
   rw [hm] at h
   simp only [Option.map_eq_some_iff] at h
   obtain ⟨m, h1, h2⟩ := h
   subst h2
   intro z hz
   rcases List.mem_cons.1 hz with rfl | hz
   ·exact hl _ (by simp)
   ·have hq : (zai (x :: y :: l)).length = (pre x).length + (zai (y :: l)).length := by rw [zai, List.length_append]
    exact z2j (l := y :: l) (fun w hw => hl w (List.mem_cons_of_mem _ hw)) (by omega) h1 z hz
theorem zl5 (kind : Nat) {l : List Tr} (h : NFL l) : NFL (zbd kind l) := by
 intro z hz
 unfold zbd at hz
 obtain ⟨x, hx, hz⟩ := List.mem_flatMap.1 hz
 cases hk : ((x.k : Int) == kind) with
 | true => rw [hk, cond_true] at hz; exact (h x hx).sub hz
 | false =>
  rw [hk, cond_false] at hz
  cases hq : ((kind : Int) == 3 && (x.k : Int) == 1) with
  | true => rw [hq, cond_true] at hz; cases hz
  | false => rw [hq, cond_false] at hz; rw [List.mem_singleton.1 hz]; exact h x hx
theorem ztu : ∀ (n : Nat) (t : Tr), (pre t).length ≤ n → CS 1000 t → plainT t = true → (t.k = 3 → NFL t.l) → (t.k ≠ 3 → NF t) → NF (zm8 t)
 | 0, t, hn, _, _, _, _ => by have := zg8 t; omega
 | n + 1, t, hn, hc, hp, h3, hne => by
  rw [zkx hc]
  by_cases hk : t.k = 3
  ·rw [if_pos hk]
   have hl := h3 hk
   cases hs : zc5 t.l with
   | none =>
    have hr := ((zbm t).1 hc.1).1
    exact (zp9 t).2 ⟨⟨by omega, hr, ⟨fun h => by omega, fun _ => hs, fun h => by omega⟩⟩, hl⟩
   | some l' =>
    have hlt := zhb t
    have hc2 := hc.2
    obtain ⟨q1, q2, q3, q4⟩ := zhi hc hs
    have hl' := z2j hl (by omega) hs
    have hf := zl5 3 hl'
    have g3 := zhe hl'.crl
    have es : zj9 l' = zqc 3 (zbd 3 l') := z1k q3.1 q3.2
    have hnf : (zj9 l').k = 3 → NFL (zj9 l').l := fun _ => by
     rw [es]
     rcases hfl : zbd 3 l' with _ | ⟨a, _ | ⟨b, m⟩⟩
     ·show NFL emptyT.l; intro z hz; cases hz
     ·rw [zfm]; rw [hfl] at hf; exact fun z hz => (hf a (by simp)).sub hz
     ·rw [zd5]; rw [hfl] at hf; exact hf
    have hnf2 : (zj9 l').k ≠ 3 → NF (zj9 l') := fun hk3 => by
     rw [es] at hk3 ⊢
     rcases hfl : zbd 3 l' with _ | ⟨a, _ | ⟨b, m⟩⟩
     ·exact znt
     ·rw [zfm]; rw [hfl] at hf; exact hf a (by simp)
     ·rw [hfl, zd5] at hk3; exact absurd rfl hk3
    refine ztu n (zj9 l') (by omega) ⟨q1, by omega⟩ ?_ hnf hnf2
    by_cases hk3 : (zj9 l').k = 3
    ·rw [zfr, hk3]
     simp only [Bool.and_eq_true, Bool.not_eq_true', decide_eq_false_iff_not, List.any_eq_false, Bool.not_eq_true]
     exact ⟨by omega, fun z hz => by simp [(hnf hk3 z hz).plain]⟩
    ·exact (hnf2 hk3).plain
  ·rw [if_neg hk]; exact hne hk
theorem seq_nf {l : List Tr} (h : NFL l) (hs : (zai l).length ≤ 1000) : plainT (zj9 l) = true ∧ ((zj9 l).k = 3 → NFL (zj9 l).l) ∧ ((zj9 l).k ≠ 3 → NF (zj9 l)) := by
 have hf := zl5 3 h
 have es : zj9 l = zqc 3 (zbd 3 l) := z1k h.crl hs
 rw [es]
 rcases hfl : zbd 3 l with _ | ⟨a, _ | ⟨b, m⟩⟩
 ·exact ⟨by rw [zfr]; rfl, fun hk => absurd hk (by decide), fun _ => znt⟩
 ·rw [zfm]; rw [hfl] at hf
  have := hf a (by simp)
  exact ⟨this.plain, fun _ z hz => this.sub hz, fun _ => this⟩
 ·rw [zd5]; rw [hfl] at hf
  refine ⟨?_, fun _ => hf, fun hk => absurd rfl hk⟩
  rw [zfr]
  simp only [Tr.k, Tr.l, Bool.and_eq_true, Bool.not_eq_true', decide_eq_false_iff_not, List.any_eq_false, Bool.not_eq_true]
  exact ⟨by simp, fun z hz => by simp [(hf z hz).plain]⟩
theorem nf_cat {l : List Tr} (h : NFL l) (hs : (zai l).length ≤ 999) : NF (z40 l) := by
 obtain ⟨s1, s2, s3⟩ := seq_nf h (by omega)
 obtain ⟨c1, c2⟩ := zyy (l := l) (n := 999) ⟨h.crl, hs⟩ (by omega)
 exact ztu _ _ (Nat.le_refl _) ⟨c1, by omega⟩ s1 s2 s3
end Go.Ab
