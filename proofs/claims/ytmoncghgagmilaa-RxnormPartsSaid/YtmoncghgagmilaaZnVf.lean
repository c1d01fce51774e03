/-
  rxnorm: norm keeps what is nullable.
-/
import Derived.Test.YtmoncghgagmilaaZnWc
import Derived.Test.YtmoncghgagmilaaZnVb
import Derived.Test.YtmoncghgagmilaaZdQq
import Derived.Test.YtmoncghgagmilaaZnV3
import Derived.Test.YtmoncghgagmilaaZnW1
set_option linter.unusedSimpArgs false
set_option linter.unusedVariables false
namespace Go.Ab
open Go Go.RowKit Go.Fwd Go.Proofs
theorem z36 {t : Tr} (h : CS 998 t) : CLn 997 (t.l.map normT) := by
 have hp : (pre t).length = 1 + (zal t.l).length := by rw [zc0, List.length_cons]; omega
 have hcl := (zc7 t.l).1 ((za7 t).1 h.1).2
 have hh := h.2
 have key : ∀ l : List Tr, (∀ x ∈ l, CS 998 x) → CRL (l.map normT) ∧ (zal (l.map normT)).length ≤ (zal l).length := by
  intro l
  induction l with
  | nil => intro _; exact ⟨zbp, Nat.le_refl _⟩
  | cons x l ih =>
   intro hl
   obtain ⟨a1, a2⟩ := ih fun y hy => hl y (List.mem_cons_of_mem _ hy)
   obtain ⟨c1, c2⟩ := znw _ x (Nat.le_refl _) (hl x (by simp))
   rw [List.map_cons]
   refine ⟨(zaf _ _).2 ⟨c1, a1⟩, ?_⟩
   simp only [zal, List.length_append]; omega
 obtain ⟨k1, k2⟩ := key t.l fun x hx => ⟨hcl x hx, by have := zcg hx; omega⟩
 exact ⟨k1, by omega⟩
theorem norm_eq (n : Nat) (t : Tr) (h : CS 998 t) (hn : (pre t).length < n + 1) : zri 1002 n t = some (normT t) := by
 have hp : (pre t).length = 1 + (zal t.l).length := by rw [zc0, List.length_cons]; omega
 have hcl := (zc7 t.l).1 ((za7 t).1 h.1).2
 have hh := h.2
 have hlen := zad t.l
 have hml := z36 h
 have htn : Int.toNat (t.l.length : Int) = t.l.length := Int.toNat_natCast _
 rw [zi9, zuf]
 unfold zri
 refine zr (by omega) (zc9 (t.l.map normT) ?_ ?_)
 ·refine zgy t.l.length (fun i => ((i : Int), (t.l.take i).map normT ++ List.replicate (t.l.length - i) noneT)) (by simp) (fun i hi => ?_) ?_ (by omega)
  ·refine zbn (by simpa using hi) (zr (by simp only; omega) (z7 fun x1 e1 => ?_))
   simp only at e1
   rw [zeg hi] at e1
   have hm : x1 ∈ t.l := e1 ▸ List.getElem_mem hi
   have hx := zcg hm
   refine zr ⟨by omega, hcl x1 hm, by omega⟩ (z7 fun x2 e2 => zr (by simp only [htn]; omega) (zr ?_ (z7 fun x3 e3 => zr (by simp only; omega) ?_)))
   ·simp only [List.length_append, List.length_map, List.length_take, List.length_replicate]; omega
   ·subst e2
    simp only [Int.toNat_natCast]
    congr 3
    ·rw [List.set_append_right _ _ (by simp only [List.length_map, List.length_take]; omega), List.length_map, List.length_take, Nat.min_eq_left (by omega), Nat.sub_self, show t.l.length - i = (t.l.length - (i + 1)) + 1 by omega, List.replicate_succ, List.set_cons_zero, List.take_succ_eq_append_getElem hi, List.map_append, e1, List.append_assoc]
     rfl
  ·refine zbo (by simp) ?_
   simp
 ·by_cases h6 : t.k = 6
  ·have h1 := zws h.1 h6
   rw [if_pos h6]
   refine zbn (by simp [h6]) (zr (by simp only [htn]; omega) (zr (by rw [List.length_map]; omega) (z7 fun x4 e4 => ?_)))
   have e4 : hdT (t.l.map normT) = x4 := e4
   subst e4
   have hmem : hdT (t.l.map normT) ∈ t.l.map normT := ziu (by rw [List.length_map]; omega)
   have := (hml.mem hmem).2
   exact zr (by omega) rfl
  rw [if_neg h6]
  refine zbo (by simp; omega) ?_
  by_cases h5 : t.k = 5
  ·have h1 := zxc (t := t) h.1 h5
   rw [if_pos h5]
   refine zbn (by simp [h5]) (zr (by simp only [htn]; omega) (zr (by rw [List.length_map]; omega) (z7 fun x4 e4 => ?_)))
   have e4 : hdT (t.l.map normT) = x4 := e4
   subst e4
   have hmem : hdT (t.l.map normT) ∈ t.l.map normT := ziu (by rw [List.length_map]; omega)
   exact z7 fun x7 e7 => zr ((hml.mem hmem).mono (by omega)) (by subst e7; rfl)
  rw [if_neg h5]
  refine zbo (by simp; omega) ?_
  by_cases h3 : t.k = 3
  ·rw [if_pos h3]
   exact zbn (by simp [h3]) (zr (by rw [List.length_map, htn]) (zr (hml.mono (by omega)) rfl))
  rw [if_neg h3]
  refine zbo (by simp; omega) ?_
  by_cases h4 : t.k = 4
  ·rw [if_pos h4]
   have hl := (zcp ((za7 t).1 h.1).1 h4).1
   exact zbn (by simp [h4]) (zr (by rw [List.length_map, htn]) (zr ⟨hml.mono (by omega), by rw [List.length_map]; omega⟩ rfl))
  rw [if_neg h4]
  exact zbo (by simp; omega) rfl
theorem zx1 : ∀ (n : Nat) (t : Tr), ((pre t).length < n ∧ CS 998 t) → Pure (ITP Try.prog) Try.prog 28 [.agg (Enc.cells t)] (.agg (Enc.cells (normT t)))
 | 0, t, h => absurd h.1 (Nat.not_lt_zero _)
 | n + 1, t, h => z6v 1002 n t _ (fun x hx => zx1 n x hx) (norm_eq n t h.2 h.1)
theorem k_norm (t : Tr) (h : CS 998 t) : Pure (ITP Try.prog) Try.prog 28 [.agg (Enc.cells t)] (.agg (Enc.cells (normT t))) := zx1 999 t ⟨by have := h.2; omega, h⟩
end Go.Ab
set_option linter.unusedSimpArgs false
set_option linter.unusedVariables false
set_option maxRecDepth 100000
set_option maxHeartbeats 4000000
namespace Go.Ab
open Go Go.RowKit Go.Fwd Go.Proofs
def z0u (t : Tr) : Option (Tr × Int) :=
 (chk ((pre t).length < 2 ^ 61) (zag (zbg t) (fun x1 => (bif (!x1) then (some (noneT, 110)) else (chk (CS 998 t) (zag (normT t) (fun x2 => (chk ((pre x2).length < 2 ^ 61) (zag (zz4 x2) (fun x3 => (some (x3, 0))))))))))))
theorem ent9 : Ent Try.prog 9 := enters_of Try.func9 (by kernel_rfl) rfl
theorem Norm_sh (t : Tr) (r : (Tr × Int)) (h : z0u t = some r) : Pure (ITP Try.prog) Try.prog 9 [.A (t : Tr)] (.tup [.A (r.1 : Tr), .raw (.int .i64 r.2)]) := by
 unfold z0u at h
 refine zaq 10 mix Try.func9 ent9 ?_
 refine ze (zd ?_)
 refine za6 (a := .ptr 0 0) (σ'' := (.B [(30, (Enc.cells (t : Tr)))])) ?_
 refine za6 (a := .ptr 1 0) (σ'' := (.B [(30, (Enc.cells (t : Tr))), (30, [.u 0, .raw (.int .u64 0), .raw (.int .u64 0), .raw (.int .u64 0), .raw (.int .u64 0), .i 0, .i 0, .list 0 [] .full])])) ?_
 refine w_o (a := .i 0) ?_
 refine ze ?_
 refine zv [.v (.A (t : Tr))] ?_
 obtain ⟨g1, h⟩ := zh h
 obtain ⟨x1, hx1, h⟩ := zj h
 refine zbc (args' := [.A (t : Tr)]) (r := .b x1) (by rw [← hx1]; exact (zlz t g1)) ?_
 refine w_o (a := .b (!x1)) ?_
 refine zbm h (fun hc1 h => ?_) (fun hc1 h => ?_)
 refine ze (zd ?_)
 refine zdo (.A (noneT : Tr)) (a0 := (za8 noneT .full)) rfl rfl rfl (by kernel_rfl) (zi _ _) (by dsimp only [zo, List.set]) ?_
 refine za5 8 (.B [(30, (Enc.cells (t : Tr))), (30, (Enc.cells (noneT : Tr)))]) ?_
 refine w_o (a := .i 110) ?_
 exact zah (fun (r : (Tr × Int)) => .tup [.A (r.1 : Tr), .i r.2]) h (.tup [.A (noneT : Tr), .i 110])
 refine zv [.v (.A (t : Tr))] ?_
 obtain ⟨g2, h⟩ := zh h
 obtain ⟨x2, hx2, h⟩ := zj h
 refine zbc (args' := [.A (t : Tr)]) (r := .A (x2 : Tr)) (by rw [← hx2]; exact (k_norm t g2)) ?_
 obtain ⟨g3, h⟩ := zh h
 obtain ⟨x3, hx3, h⟩ := zj h
 refine zbc (args' := [.A (x2 : Tr)]) (r := .A (x3 : Tr)) (by rw [← hx3]; exact (k_copy x2 g3)) ?_
 refine za5 8 (.B [(30, (Enc.cells (t : Tr))), (30, (Enc.cells (x3 : Tr)))]) ?_
 refine w_o (a := .i 0) ?_
 exact zah (fun (r : (Tr × Int)) => .tup [.A (r.1 : Tr), .i r.2]) h (.tup [.A (x3 : Tr), .i 0])
end Go.Ab
set_option linter.unusedSimpArgs false
set_option linter.unusedVariables false
namespace Go.Ab
open Go Go.RowKit Go.Fwd Go.Proofs
def znu (t : Tr) : Bool := zbg t && zcz t
def zfq (t : Tr) : Bool := zbg t && nullT t
def zmy (t : Tr) : Tr × Int := if zbg t = true then (normT t, 0) else (noneT, 110)
theorem zwa (t : Tr) (h : (pre t).length < 2 ^ 60) : Pure (ITP Try.prog) Try.prog 8 [.agg (Enc.cells t)] (.raw (.bool (znu t))) := by
 refine z5x t _ ?_
 unfold zwz znu
 refine zr (by omega) ?_
 cases hc : zbg t with
 | false => rfl
 | true => exact zr h rfl
theorem zb9 (t : Tr) (h : (pre t).length < 2 ^ 60) : Pure (ITP Try.prog) Try.prog 14 [.agg (Enc.cells t)] (.raw (.bool (zfq t))) := by
 refine zw3 t _ ?_
 unfold zlp zfq
 refine zr (by omega) ?_
 cases hc : zbg t with
 | false => rfl
 | true => exact zr ⟨h, zjr hc⟩ rfl
theorem copy_of {t : Tr} (h : (pre t).length ≤ 10000) : zz4 t = t := by rw [zz4, if_pos (zum h)]
theorem zq3 {t : Tr} (h : CS 998 t) : (pre (normT t)).length ≤ (pre t).length := (znw _ t (Nat.le_refl _) h).2
theorem zw8 {t : Tr} (h : CS 998 t) : CR (normT t) := (znw _ t (Nat.le_refl _) h).1
theorem zl1 (t : Tr) (h : (CS 998 t ∨ zbg t = false) ∧ (pre t).length < 2 ^ 61) : Pure (ITP Try.prog) Try.prog 9 [.agg (Enc.cells t)] (.tup [.agg (Enc.cells (zmy t).1), .raw (.int .i64 (zmy t).2)]) := by
 refine Norm_sh t _ ?_
 unfold z0u zmy
 refine zr h.2 ?_
 rcases h.1 with hc | hc
 ·have h1 := zq3 hc; have h2 := hc.2
  rw [hc.clean (by omega), if_pos rfl]
  refine zr hc (zr (by omega) ?_)
  rw [copy_of (by omega)]; rfl
 ·rw [hc]; rfl
structure Ct where
 f : Nat
 args : List AV
 r : AV
def CtOk (c : Ct) : Prop := Pure (ITP Try.prog) Try.prog c.f c.args c.r
def tbl (T : List Ct) : CallP := fun f args => match T.find? (fun c => c.f == f && zke c.args args) with
 | some c => some c.r
 | none => none
theorem z4o {T : List Ct} (h : ∀ c ∈ T, CtOk c) : Good Try.prog (tbl T) noS := ⟨mix, ents, (fun f args r e => by
 unfold tbl at e
 split at e
 ·rename_i c hc
  cases e
  have h1 := List.find?_some hc
  simp only [Bool.and_eq_true, beq_iff_eq] at h1
  have h2 := h c (List.mem_of_find?_eq_some hc)
  rw [CtOk, h1.1, zfe _ _ h1.2] at h2
  exact h2
 ·cases e), (fun _ _ _ _ _ h => nomatch h)⟩
def rp (t : Tr) (lo hi : Int) : Tr := .mk 5 0#256 lo hi [t]
def gp (t : Tr) : Tr := .mk 6 0#256 0 0 [t]
def ct (l : List Tr) : Tr := .mk 3 0#256 0 0 l
def al (l : List Tr) : Tr := .mk 4 0#256 0 0 l
def awE : List (Tr × Tr) := [(al [bT, aT, bT], zp5 [97, 98]), (al [aT, emptyT], rp aT 0 1), (rp (rp aT 0 (-1)) 1 (-1), rp aT 0 (-1)), (rp (al [rp bT 0 (-1), aT]) 0 1, al [aT, rp bT 0 (-1)]), (ct [aT, rp aT 0 (-1), bT], ct [rp aT 1 (-1), bT]),
 (al [gp aT, bT, bT], al [gp aT, bT]), (al [gp aT, bT, cT], al [gp aT, bT, cT]), (al [ct [aT, bT], ct [cT, zp5 [100]], ct [aT, bT]], al [ct [aT, bT], ct [cT, zp5 [100]]]), (ct [rp aT 0 (-1), rp aT 0 (-1)], rp aT 0 (-1)), (rp (rp aT 0 1) 2 2, rp (rp aT 0 1) 2 2)]
theorem awN : (awE.all fun p => decide (CS 998 p.1) && zbg p.1 && zja (normT p.1) p.2) = true := by decide +kernel
end Go.Ab
set_option linter.unusedSimpArgs false
set_option linter.unusedVariables false
namespace Go.Ab
open Go Go.RowKit Go.Fwd Go.Proofs
theorem aw_norm {p : Tr × Tr} (h : p ∈ awE) : CS 998 p.1 ∧ zmy p.1 = (p.2, 0) := by
 have h1 := List.all_eq_true.1 awN p h
 simp only [Bool.and_eq_true, decide_eq_true_eq] at h1
 refine ⟨h1.1.1, ?_⟩
 rw [zmy, if_pos h1.1.2, (zf6 _ _).1 h1.2]
theorem aw_len : (awE.all fun p => decide ((pre p.1).length < 100) && decide ((pre p.2).length < 100) && zeo p.2 p.2) = true := by decide +kernel
def awTbl : List Ct := awE.map (fun p => ⟨9, [.agg (Enc.cells p.1)], .tup [.agg (Enc.cells p.2), .raw (.int .i64 0)]⟩) ++ awE.map (fun p => ⟨11, [.agg (Enc.cells p.2), .agg (Enc.cells p.2)], .raw (.bool true)⟩) ++
 [⟨8, [.agg (Enc.cells (rp aT 0 (-1)))], .raw (.bool true)⟩, ⟨8, [.agg (Enc.cells (gp aT))], .raw (.bool false)⟩, ⟨14, [.agg (Enc.cells (rp aT 0 (-1)))], .raw (.bool true)⟩, ⟨14, [.agg (Enc.cells (gp aT))], .raw (.bool false)⟩]
theorem z58 : ∀ c ∈ awTbl, CtOk c := by
 intro c hc
 unfold awTbl at hc
 rw [List.mem_append, List.mem_append] at hc
 rcases hc with (hc | hc) | hc
 ·obtain ⟨p, hp, rfl⟩ := List.mem_map.1 hc
  obtain ⟨h1, h2⟩ := aw_norm hp
  have h3 := h1.2
  have := zl1 p.1 ⟨.inl h1, by omega⟩
  rw [h2] at this
  exact this
 ·obtain ⟨p, hp, rfl⟩ := List.mem_map.1 hc
  have h1 := List.all_eq_true.1 aw_len p hp
  simp only [Bool.and_eq_true, decide_eq_true_eq] at h1
  have := zk2 p.2 p.2 ⟨by omega, by omega⟩
  rw [h1.2] at this
  exact this
 ·simp only [List.mem_cons, List.not_mem_nil, or_false] at hc
  rcases hc with rfl | rfl | rfl | rfl
  ·have := zwa (rp aT 0 (-1)) (by decide +kernel); rw [show znu (rp aT 0 (-1)) = true by decide +kernel] at this; exact this
  ·have := zwa (gp aT) (by decide +kernel); rw [show znu (gp aT) = false by decide +kernel] at this; exact this
  ·have := zb9 (rp aT 0 (-1)) (by decide +kernel); rw [show zfq (rp aT 0 (-1)) = true by decide +kernel] at this; exact this
  ·have := zb9 (gp aT) (by decide +kernel); rw [show zfq (gp aT) = false by decide +kernel] at this; exact this
set_option maxRecDepth 100000 in
theorem z0f : Pure (ITP Try.prog) Try.prog 6 [] (.raw (.bool true)) := zdu (z4o z58) 300 (by kernel_rfl)
end Go.Ab
set_option linter.unusedSimpArgs false
set_option linter.unusedVariables false
namespace Go.Ab
open Go Go.RowKit Go.Fwd Go.Proofs
theorem zr2 {s : BS} {mn mx : Int} (l : List Tr) : nullT (.mk 3 s mn mx l) = l.all nullT := by rw [zgp]; rfl
theorem zr9 {s : BS} {mn mx : Int} (l : List Tr) : nullT (.mk 4 s mn mx l) = l.any nullT := by rw [zgp]; rfl
theorem znc {s : BS} {lo hi : Int} (x : Tr) : nullT (.mk 5 s lo hi [x]) = (lo == 0 || nullT x) := by rw [zgp]; rfl
theorem zkv {s : BS} {mn mx : Int} (x : Tr) : nullT (.mk 6 s mn mx [x]) = nullT x := by rw [zgp]; simp [Tr.k, Tr.l]
theorem zlr : nullT emptyT = true := by rw [zgp]; rfl
theorem zv1 {t : Tr} (h : t.k = 3) : nullT t = t.l.all nullT := by obtain ⟨k, s, mn, mx, l⟩ := t; simp only [Tr.k] at h; subst h; exact zr2 l
theorem zwy {t : Tr} (h : t.k = 4) : nullT t = t.l.any nullT := by obtain ⟨k, s, mn, mx, l⟩ := t; simp only [Tr.k] at h; subst h; exact zr9 l
theorem zwv {t : Tr} (h : t.k = 1) : nullT t = true := by rw [zgp, h]; rfl
theorem znq {t : Tr} (h : t.k = 2) : nullT t = false := by rw [zgp, h]; rfl
theorem zqn : ∀ l : List Tr, (zcj 3 l).all nullT = l.all nullT
 | [] => rfl
 | x :: l => by
  rw [zem, List.all_append, zqn l, List.all_cons]
  congr 1
  by_cases h3 : x.k = 3
  ·rw [show ((x.k : Int) == ((3 : Nat) : Int)) = true by simp [h3], cond_true, zv1 h3]
  ·rw [show ((x.k : Int) == ((3 : Nat) : Int)) = false by simp; omega, cond_false]
   by_cases h1 : x.k = 1
   ·rw [show ((((3 : Nat) : Int) == 3) && ((x.k : Int) == 1)) = true by simp [h1], cond_true, zwv h1]; rfl
   ·rw [show ((((3 : Nat) : Int) == 3) && ((x.k : Int) == 1)) = false by simp; omega, cond_false]; simp
theorem z08 : ∀ m : List Tr, nullT (zst 3 m) = m.all nullT
 | [] => zlr
 | [x] => by rw [zhr]; simp
 | x :: y :: m => by rw [zfw, zr2]
theorem zpp : ∀ l : List Tr, (zcj 4 l).any nullT = l.any nullT
 | [] => rfl
 | x :: l => by
  rw [zem, List.any_append, zpp l, List.any_cons]
  congr 1
  by_cases h3 : x.k = 4
  ·rw [show ((x.k : Int) == ((4 : Nat) : Int)) = true by simp [h3], cond_true, zwy h3]
  ·rw [show ((x.k : Int) == ((4 : Nat) : Int)) = false by simp; omega, cond_false, show ((((4 : Nat) : Int) == 3) && ((x.k : Int) == 1)) = false by simp, cond_false]; simp
theorem z1c : ∀ m : List Tr, m ≠ [] → nullT (zst 4 m) = m.any nullT
 | [], h => absurd rfl h
 | [x], _ => by rw [zhr]; simp
 | x :: y :: m, _ => by rw [zfw, zr9]
theorem zxs {l : List Tr} (h : CLn 1000 l) : nullT (zm8 l) = l.all nullT := by rw [z0v h.1 h.2, z08, zqn]
theorem zwb {l : List Tr} (h : CLn 1000 l) (hne : l ≠ []) : nullT (orT l) = l.any nullT := by rw [or_eq h.1 hne h.2, z1c _ (zxq h.1 hne), zpp]
theorem ztg {b : Bd} (h : zdj b = true) : b = zsu ∨ b = zo8 ∨ b = plusB := by
 simp only [zdj, Bool.or_eq_true, decide_eq_true_eq] at h
 rcases h with (h | h) | h
 ·exact .inl h
 ·exact .inr (.inl h)
 ·exact .inr (.inr h)
theorem zhd {x : Tr} {lo hi : Int} (h : CS 9999 x) (hb : zb7 lo hi = true) : nullT (zb8 x lo hi) = (lo == 0 || nullT x) := by
 rw [zye h hb]
 by_cases hk : x.k = 1
 ·rw [if_pos hk, zlr, zwv hk, Bool.or_true]
 ·rw [if_neg hk, znc]
theorem zhx {x : Tr} {b : Bd} (h : CS 9999 x) (hb : zb7 b.lo b.mo = true) : nullT (zd1 x b) = (b.lo == 0 || nullT x) := by
 unfold zd1
 split
 ·exact zhd h hb
 split
 ·rename_i h1; rw [h1.1, h1.2]; rfl
 split
 ·rename_i h1
  obtain ⟨y, e1, e2, e3, e4, e5, e6⟩ := zio h.1 h1.1
  have hy : CS 9999 y := ⟨e4, by have := h.2; omega⟩
  have hx : nullT x = (x.mn == 0 || nullT y) := by rw [e1, znc]; rfl
  rw [e5]
  rcases ztg h1.2.1 with hb1 | hb1 | hb1 <;> rcases ztg h1.2.2 with hc | hc | hc <;> have hmn := congrArg Bd.lo hc <;> simp only [ofB, zsu, zo8, plusB] at hmn <;> split <;> rename_i h2 <;>
   first
    | (rw [zhd hy zhn, hx, hmn, hb1]; simp [zsu, zo8, plusB]; done)
    | (rw [zhd hy hb, hx, hmn, hb1]; simp [zsu, zo8, plusB]; done)
    | (exfalso; rw [hb1, hc] at h2; revert h2; decide)
 split
 ·rename_i h1; rw [zhd h zhn, h1.2]; simp
 ·exact zhd h hb
theorem zoj {n o : Tr} (h : CR n) (hs : zg0 n o = true) : nullT n = true := by
 simp only [zg0, Bool.and_eq_true, decide_eq_true_eq] at hs
 obtain ⟨z, e1, e2, e3, e4, e5, e6⟩ := zio h hs.1.1
 have hmn := congrArg Bd.lo hs.1.2
 simp only [ofB, zo8] at hmn
 rw [e1, znc, hmn]; rfl
theorem zwr {x y o : Tr} (h : CS 9999 x) (hy : CS 9999 y) (ho : ze1 x y = some o) : nullT o = (nullT x && nullT y) := by
 unfold ze1 at ho
 split at ho
 ·cases ho
 split at ho
 ·rename_i h1
  cases ho
  rw [zhx (b := plusB) h zhy, zoj hy.1 h1]; simp [plusB]
 split at ho
 ·rename_i h1
  cases ho
  rw [zhx (b := plusB) hy zhy, zoj h.1 h1]; simp [plusB]
 split at ho
 ·rename_i h1
  cases ho
  have h2 := h1.1
  rw [zeo, Bool.and_eq_true] at h2
  rw [(zf6 _ _).1 h2.2, Bool.and_self]
 ·cases ho
theorem zmv : ∀ {l l' : List Tr}, CLn 9999 l → zci l = some l' → l'.all nullT = l.all nullT
 | [], _, _, h => by cases h
 | [x], _, _, h => by cases h
 | x :: y :: l, l', hc, h => by
  have hx := hc.mem (x := x) (by simp)
  have hy := hc.mem (x := y) (by simp)
  have h1 := hc.1; have h2 := hc.2
  rw [zaf] at h1
  simp only [zal, List.length_append] at h2
  unfold zci at h
  cases hm : ze1 x y with
  | some o =>
   rw [hm] at h; cases h
   rw [List.all_cons, List.all_cons, List.all_cons, zwr hx hy hm, Bool.and_assoc]
  | none =>
   rw [hm] at h
   cases hr : zci (y :: l) with
   | none => rw [hr] at h; cases h
   | some r =>
    rw [hr] at h; cases h
    rw [List.all_cons, List.all_cons, zmv ⟨h1.2, by simp only [zal, List.length_append]; omega⟩ hr]
theorem zpf : ∀ (n : Nat) (t : Tr), (pre t).length ≤ n → CS 1000 t → nullT (zkn t) = nullT t
 | 0, t, hn, _ => by have := zgx t; omega
 | n + 1, t, hn, h => by
  rw [zh6 h]
  split
  ·rename_i hk
   cases hs : zci t.l with
   | none => rfl
   | some l' =>
    obtain ⟨r1, r2, r3, _⟩ := zhe h hs
    have hcl : CLn 9999 t.l := ⟨((za7 t).1 h.1).2, by have := zg1 t; have := h.2; omega⟩
    show nullT (zkn (zm8 l')) = _
    rw [zpf n (zm8 l') (by omega) ⟨r1, by have := h.2; omega⟩, zxs r3, zmv hcl hs, zv1 hk]
  ·rfl
theorem z6q {l : List Tr} (h : CLn 999 l) : nullT (zyp l) = l.all nullT := by
 obtain ⟨r1, r2⟩ := zyb h (by omega)
 have hh := h.2
 rw [zyp, zpf _ _ (Nat.le_refl _) ⟨r1, by omega⟩, zxs (h.mono (by omega))]
theorem zzq (l : List Tr) : (zc1 l).any nullT = l.any nullT := by
 suffices ∀ i, i ≤ l.length → (zc1 (l.take i)).any nullT = (l.take i).any nullT by have := this l.length (Nat.le_refl _); rwa [List.take_length] at this
 intro i
 induction i with
 | zero => intro _; rfl
 | succ i ih =>
  intro hi
  have ih := ih (by omega)
  rw [zlj l i hi, List.take_succ_eq_append_getElem hi, List.any_append, ← ih, zrf]
  split
  ·rw [List.any_append]
  ·rename_i h
   have h2 : ((zc1 (l.take i)).any fun y => zeo l[i] y) = true := by
    cases hq : (zc1 (l.take i)).any fun y => zeo l[i] y with
    | true => rfl
    | false => exact absurd (.inr hq) h
   obtain ⟨y, hy, hs⟩ := List.any_eq_true.1 h2
   rw [zeo, Bool.and_eq_true] at hs
   have e := (zf6 _ _).1 hs.2
   cases hn : (zc1 (l.take i)).any nullT with
   | true => rfl
   | false =>
    have := List.any_eq_false.1 hn y hy
    rw [← e] at this
    simp [this]
theorem zo1 : ∀ (l : List Tr) (p : Tr), (nullT p || (zfl p l).any nullT) = (nullT p || l.any nullT)
 | [], p => rfl
 | y :: l, p => by
  unfold zfl
  have ih := zo1 l y
  split
  ·rename_i hs
   rw [zeo, Bool.and_eq_true] at hs
   have e := (zf6 _ _).1 hs.2
   subst e
   rw [ih, List.any_cons, ← Bool.or_assoc, Bool.or_self]
  ·rw [List.any_cons, List.any_cons, ih]
theorem zze : ∀ l : List Tr, (zex l).any nullT = l.any nullT
 | [] => rfl
 | x :: l => by rw [zex, List.any_cons, List.any_cons, zo1 l x]
theorem z48 {l m : List Tr} (h : l.Perm m) (p : Tr → Bool) : l.any p = m.any p := by
 rw [Bool.eq_iff_iff, List.any_eq_true, List.any_eq_true]
 exact ⟨fun ⟨x, h1, h2⟩ => ⟨x, h.subset h1, h2⟩, fun ⟨x, h1, h2⟩ => ⟨x, h.symm.subset h1, h2⟩⟩
theorem zzo : ∀ l : List Tr, ((zc8 l).any nullT || za4 l) = l.any nullT := by
 intro l
 have hc : (zub (zgu l)).any nullT = false := by
  unfold zub
  split
  ·rfl
  ·simp [znq]
   exact znq rfl
 rw [zc8, List.any_append, hc, Bool.or_false]
 induction l with
 | nil => rfl
 | cons x l ih =>
  have hcl : (zub (zgu l)).any nullT = false := by
   unfold zub
   split
   ·rfl
   ·simp [znq]
    exact znq rfl
  have ih := ih hcl
  rw [List.any_cons, ← ih]
  by_cases h2 : x.k = 2
  ·simp [zb0, za4, h2, znq h2]
  ·by_cases h1 : x.k = 1
   ·simp [zb0, za4, h1, zwv h1]
   ·simp [zb0, za4, h1, h2, Bool.or_assoc]
theorem z3b {l : List Tr} (h : CLn 999 l) (hne : l ≠ []) : nullT (altP l) = l.any nullT := by
 obtain ⟨p1, p2⟩ := zso h
 have hh := h.2
 rw [← zzo l]
 unfold altP
 by_cases hp : zc8 l = []
 ·have he : za4 l = true := by
   cases he : za4 l with
   | true => rfl
   | false => exact absurd hp (zx3 h.1 hne he)
  have e : zex (zgm ([] : List Tr)) = [] := by simp [zgm, zex]
  rw [if_pos he, hp, e, z2m, if_pos (show noneT.k = 0 from rfl), zlr, he, Bool.or_true]
 ·have hc : CLn 999 (zc8 l) := ⟨p1, by omega⟩
  obtain ⟨q1, q2⟩ := zvt (zz8 hc) (z5y hp) (by omega)
  have q3 := (zz8 hc).2
  have q4 : nullT (orT (zex (zgm (zc8 l)))) = (zc8 l).any nullT := by
   rw [zwb ((zz8 hc).mono (by omega)) (z5y hp), zze, z48 (zdi _)]
  by_cases he : za4 l = true
  ·rw [if_pos he, if_neg q1.k0, zhx (b := zsu) (q1.cs.mono (by omega)) zp1, he, Bool.or_true]; rfl
  ·have he : za4 l = false := by simpa using he
   rw [he, if_neg (by decide), q4, Bool.or_false]
theorem z4p {l : List Tr} (h : CLn 998 l) (hne : l ≠ []) : nullT (zzs l) = l.any nullT := by
 obtain ⟨r1, r2⟩ := zvt h hne (by omega)
 have hh := h.2
 have h0 := zwb (h.mono (by omega)) hne
 unfold zzs
 split
 ·exact h0
 rename_i hk
 have hk : (orT l).k = 4 := Decidable.byContradiction hk
 have hp : (pre (orT l)).length = 1 + (zal (orT l).l).length := by rw [zc0, List.length_cons]; omega
 have hc : CLn 999 (orT l).l := ⟨((za7 _).1 r1).2, by omega⟩
 have hl := (zcp ((za7 _).1 r1).1 hk).1
 have hn : (orT l).l ≠ [] := fun e => by rw [e] at hl; cases hl
 rw [zwy hk] at h0
 split
 ·rw [zwb ((hc.sub (zia _)).mono (by omega)) (zyn hn), zzq, h0]
 ·rw [z3b hc hn, h0]
theorem z1f {x : Tr} (h : CS 9999 x) : zcr x = .mk 6 0#256 0 0 [x] ∧ CS ((pre x).length + 1) (.mk 6 0#256 0 0 [x]) := by
 have hcr : CR (Tr.mk 6 0#256 0 0 [x]) := (za7 _).2 ⟨ziq _, by rw [Tr.l, zaf]; exact ⟨h.1, zbp⟩⟩
 have hp : (pre (Tr.mk 6 0#256 0 0 [x])).length = 1 + (pre x).length := zgj _ _ _ _ _
 exact ⟨ze9 (zes hcr (by have := h.2; omega)), hcr, by omega⟩
theorem zs6 (l : List Tr) (h : ∀ x ∈ l, nullT (normT x) = nullT x) : (l.map normT).all nullT = l.all nullT := by
 induction l with
 | nil => rfl
 | cons x l ih => rw [List.map_cons, List.all_cons, List.all_cons, h x (by simp), ih fun y hy => h y (by simp [hy])]
theorem zux (l : List Tr) (h : ∀ x ∈ l, nullT (normT x) = nullT x) : (l.map normT).any nullT = l.any nullT := by
 induction l with
 | nil => rfl
 | cons x l ih => rw [List.map_cons, List.any_cons, List.any_cons, h x (by simp), ih fun y hy => h y (by simp [hy])]
theorem zu6 : ∀ (n : Nat) (t : Tr), (pre t).length ≤ n → CS 998 t → nullT (normT t) = nullT t
 | 0, t, hn, _ => by have := zgx t; omega
 | n + 1, t, hn, h => by
  have hp : (pre t).length = 1 + (zal t.l).length := by rw [zc0, List.length_cons]; omega
  have hh := h.2
  have hcl := (zc7 t.l).1 ((za7 t).1 h.1).2
  have ih : ∀ x ∈ t.l, nullT (normT x) = nullT x := fun x hx => by
   have := zcg hx
   exact zu6 n x (by omega) ⟨hcl x hx, by omega⟩
  have hml := z36 h
  rw [zi9, zuf]
  by_cases h6 : t.k = 6
  ·rw [if_pos h6]
   have h1 := zws h.1 h6
   obtain ⟨y, hy⟩ : ∃ y, t.l = [y] := by
    match hl : t.l, h1 with
    | [y], _ => exact ⟨y, rfl⟩
   rw [hy, List.map_cons, List.map_nil] at hml ⊢
   show nullT (zcr (normT y)) = _
   rw [(z1f ((hml.mem (x := normT y) (by simp)).mono (by omega))).1, zkv, ih y (by rw [hy]; simp)]
   obtain ⟨k, s, mn, mx, l⟩ := t
   simp only [Tr.k, Tr.l] at h6 hy
   rw [h6, hy, zkv]
  rw [if_neg h6]
  by_cases h5 : t.k = 5
  ·rw [if_pos h5]
   obtain ⟨y, e1, e2, e3, e4, e5, e6⟩ := zio h.1 h5
   have hl : t.l = [y] := by rw [e1]; rfl
   rw [hl, List.map_cons, List.map_nil] at hml ⊢
   show nullT (zd1 (normT y) (ofB t)) = _
   rw [zhx ((hml.mem (x := normT y) (by simp)).mono (by omega)) e2, ih y (by rw [hl]; simp)]
   rw [e1, znc]; rfl
  rw [if_neg h5]
  by_cases h3 : t.k = 3
  ·rw [if_pos h3, z6q (hml.mono (by omega)), zs6 _ ih, zv1 h3]
  rw [if_neg h3]
  by_cases h4 : t.k = 4
  ·have hl := (zcp ((za7 t).1 h.1).1 h4).1
   rw [if_pos h4, z4p (hml.mono (by omega)) (fun e => by rw [List.map_eq_nil_iff.1 e] at hl; cases hl), zux _ ih, zwy h4]
  ·rw [if_neg h4]
theorem zkw {t : Tr} (h : CS 998 t) : nullT (normT t) = nullT t := zu6 _ t (Nat.le_refl _) h
end Go.Ab
